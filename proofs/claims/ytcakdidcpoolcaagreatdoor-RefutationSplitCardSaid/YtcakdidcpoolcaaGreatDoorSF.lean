/- Walks of the symbolic machine, written by a program of mine (wip/tool). -/
import Derived.Test.YtcakdidcpoolcaaGreatDoorTB
import Derived.Test.YtcakdidcpoolcaaGreatDoorAd
set_option linter.unusedVariables false
set_option linter.unusedSimpArgs false
set_option linter.unusedSectionVars false
set_option maxRecDepth 100000
set_option maxHeartbeats 4000000
namespace Go.Proofs.YtcakdidcpoolcaaGreatDoor.SF
open Go Go.RowKit Go.X Go.Q Go.D Go.Proofs.YtcakdidcpoolcaaGreatDoor.TB 
theorem pClosure_c(N:Nat)(pattern:(List UInt8))(vset:Int)(r:Int)(h:pClosure N pattern vset=some r):Cn Tryz.prog 195 [sT pattern,sI .u32 vset] [] [sI .u32 r]:=by
 unfold pClosure at h
 refine fn tb en195 Tryz.func195 fun X w H ν=>?_
 refine jn (fun x=>x) (fun c=>mkS 0 [] [vk 1 .u32 c]) h (fun l e f=>?_) ?_
 ·
  refine bk ?_
  refine lp (fun⟨b,a⟩=>mkS 0 [] [vt 0 pattern,vk 1 .u32 b,vi 7 (List.length pattern:Int),vi 8 a]) e [] ?_
  rintro⟨b,a⟩ oo h g
  rw[pClosure_b1]at h
  refine cd h (fun i h=>?_) (fun i h=>?_)
  ·
   refine bk ?_
   refine jn (fun x=>x) (fun d=>mkS 0 [] [vt 0 pattern,vk 1 .u32 b,vi 5 a,vi 7 (List.length pattern:Int),vi 8 a,vb 21 d]) h (fun m h n=>?_) ?_
   ·
    refine rg ?_
    refine ixS h fun o h=>?_
    refine gd h (fun j h=>?_) (fun j h=>?_)
    ·
     refine srB h fun p h=>?_
     cases h
     exact bj _ []
    cases h
    exact bj _ []
   intro d h
   try dsimp only at h
   refine cd h (fun k h=>?_) (fun k h=>?_)
   ·
    refine slB h fun q h=>?_
    cases h
    exact bl []
   cases h
   exact bl []
  cases h
  cases g _ rfl
  replace h:=f
  try dsimp only at h
  exact bj _ []
 intro c h
 try dsimp only at h
 cases h
 exact rt []
theorem pBegin_c(N:Nat)(t:TTest)(r:Int)(h:pBegin N t=some r):Cn Tryz.prog 184 [sA rTTest false t] [] [sI .u32 r]:=by
 unfold pBegin at h
 refine fn tb en184 Tryz.func184 fun X w H ν=>?_
 refine cd h (fun hc6 h=>?_) (fun hc6 h=>?_)
 ·
  refine cl none [] 0 h (pClosure_c N _ _) fun r7 h=>?_
  cases h
  exact rt []
 cases h
 exact rt []
theorem pNext_c(N:Nat)(t:TTest)(s:Int)(c:Int)(r:Int)(h:pNext N t s c=some r):Cn Tryz.prog 183 [sA rTTest false t,sI .u32 s,sI .u8 c] [] [sI .u32 r]:=by
 unfold pNext at h
 refine fn tb en183 Tryz.func183 fun X w H ν=>?_
 refine cd h (fun hc6 h=>?_) (fun hc6 h=>?_)
 ·
  refine jn (fun x=>x) (fun d=>mkS 1 [.box (Opn.cl rTTest true t)] [vp 3 0,vk 7 .u32 d]) h (fun y g i=>?_) ?_
  ·
   refine bk ?_
   refine lp (fun⟨b,a⟩=>mkS 1 [.box (Opn.cl rTTest true t)] [vk 1 .u32 s,vk 2 .u8 c,vp 3 0,vk 7 .u32 b,vi 15 (List.length t.Text:Int),vi 16 a]) g [0] ?_
   rintro⟨b,a⟩ oo h j
   rw[pNext_b1]at h
   refine cd h (fun k h=>?_) (fun k h=>?_)
   ·
    refine bk ?_
    refine srB h fun a0 h=>?_
    refine cd h (fun l h=>?_) (fun l h=>?_)
    ·
     cases h
     exact bl [0]
    refine ixS h fun a1 h=>?_
    refine bk ?_
    refine cd h (fun m h=>?_) (fun m h=>?_)
    ·
     refine slB h fun a2 h=>?_
     cases h
     exact bl [0]
    refine jn (fun x=>x) (fun e=>mkS 1 [.box (Opn.cl rTTest true t)] [vk 1 .u32 s,vk 2 .u8 c,vp 3 0,vk 7 .u32 b,vi 8 a,vi 15 (List.length t.Text:Int),vi 16 a,vb 35 e]) h (fun a3 h a4=>?_) ?_
    ·
     refine rg ?_
     refine gd h (fun n h=>?_) (fun n h=>?_)
     ·
      cases h
      exact bj _ [0]
     cases h
     exact bj _ [0]
    intro e h
    try dsimp only at h
    refine cd h (fun o h=>?_) (fun o h=>?_)
    ·
     refine slB h fun a5 h=>?_
     cases h
     exact bl [0]
    cases h
    exact bl [0]
   cases h
   cases j _ rfl
   replace h:=i
   try dsimp only at h
   exact bj _ [0]
  intro d h
  try dsimp only at h
  refine cl none [] 0 h (pClosure_c N _ _) fun a6 h=>?_
  cases h
  exact rt []
 refine bk ?_
 refine cd h (fun p h=>?_) (fun p h=>?_)
 ·
  cases h
  exact rt []
 refine jn (fun x=>x) (fun f=>mkS 1 [.box (Opn.cl rTTest true t)] [vk 1 .u32 s,vk 2 .u8 c,vp 3 0,vb 57 f]) h (fun a7 h a8=>?_) ?_
 ·
  refine rg ?_
  refine gd h (fun q h=>?_) (fun q h=>?_)
  ·
   cases h
   exact bj _ [0]
  refine ixS h fun a9 h=>?_
  cases h
  exact bj _ [0]
 intro f h
 try dsimp only at h
 refine cd h (fun u h=>?_) (fun u h=>?_)
 ·
  cases h
  exact rt []
 refine ixS h fun aa h=>?_
 refine cd h (fun v h=>?_) (fun v h=>?_)
 ·
  cases h
  exact rt []
 cases h
 exact rt []
theorem pPassed_c(N:Nat)(t:TTest)(s:Int)(r:Bool)(h:pPassed N t s=some r):Cn Tryz.prog 181 [sA rTTest false t,sI .u32 s] [] [sB r]:=by
 unfold pPassed at h
 refine fn tb en181 Tryz.func181 fun X w H ν=>?_
 refine jn (fun x=>x) (fun a=>mkS 1 [.box (Opn.cl rTTest true t)] [vp 2 0,vb 5 a]) h (fun g h i=>?_) ?_
 ·
  refine bk ?_
  refine cd h (fun b h=>?_) (fun b h=>?_)
  ·
   refine srB h fun j h=>?_
   cases h
   exact bj _ [0]
  refine cd h (fun c h=>?_) (fun c h=>?_)
  ·
   cases h
   exact bj _ [0]
  refine cd h (fun d h=>?_) (fun d h=>?_)
  ·
   refine rg ?_
   refine gd h (fun e h=>?_) (fun e h=>?_)
   ·
    cases h
    exact bj _ [0]
   cases h
   exact bj _ [0]
  refine rg ?_
  refine gd h (fun f h=>?_) (fun f h=>?_)
  ·
   cases h
   exact bj _ [0]
  cases h
  exact bj _ [0]
 intro a h
 try dsimp only at h
 cases h
 exact rt []
theorem pKey_c(N:Nat)(l:(List Int))(left:Int)(r:(List UInt8))(h:pKey N l left=some r):Cn Tryz.prog 182 [sR (rInt .u32) false l,sI .i64 left] [] [sT r]:=by
 unfold pKey at h
 refine fn tb en182 Tryz.func182 fun X w H ν=>?_
 refine litO (rInt .u8) true [(uw8 left)] ?_
 refine jn (fun x=>x) (fun b=>mkS 1 [.row (rInt .u8) true b] [vo 5 0]) h (fun j e f=>?_) ?_
 ·
  refine bk ?_
  refine lp (fun⟨c,d⟩=>mkS 1 [.row (rInt .u8) true c] [vo 5 0,vr 11 (rInt .u32) false l,vi 12 (List.length l:Int),vi 13 d]) e [0] ?_
  rintro⟨c,d⟩ oo h g
  rw[pKey_b1]at h
  refine cd h (fun i h=>?_) (fun i h=>?_)
  ·
   refine bk ?_
   refine ixR h fun a h=>?_
   refine srL ?_
   refine srL ?_
   refine litO (rInt .u8) true [(uw8 a),(uw8 (bshr .u32 a 8)),(uw8 (bshr .u32 a 16))] ?_
   refine apO true h fun k h=>?_
   cases h
   exact bl [2]
  cases h
  cases g _ rfl
  replace h:=f
  try dsimp only at h
  exact bj _ [0]
 intro b h
 try dsimp only at h
 refine cvT ?_
 cases h
 exact rt []
theorem pFind_c(N:Nat):∀(f:TFinder) (l:(List Int)) (text:(List Int)) (left:Int) (r:(Bool×(List (List UInt8))×(List ((List UInt8)×Bool)))) (h:pFind N f l text left=some r),Cx Tryz.prog 165 [.lf (.ptr 0 0),sR (rInt .u32) false l,sO 3,sI .i64 left] [.box [.ro rTTest false f.tests,lI .i64 f.most,.own 1,.mp 2],.row rStr true f.out,.map inferInstance ((fun x:List UInt8=>Value.string (s8 x))) ((fun x:Bool=>Value.bool x)) f.dead,.row (rInt .u8) true text] [(0,some (.box [.ro rTTest false f.tests,lI .i64 f.most,.own 4,.mp 2])),(2,some (.map inferInstance ((fun x:List UInt8=>Value.string (s8 x))) ((fun x:Bool=>Value.bool x)) r.2.2)),(3,some (.row (rInt .u8) true text)),(4,some (.row rStr true r.2.1))] [sB r.1]:=by
 induction N with
 |zero=>intro f l text left r h;cases h
 |succ N ih=>
  intro f l text left r h
  replace h:pFind_step N (pFind N) f l text left=some r:=h
  unfold pFind_step at h
  refine fnv (m:=4) tb (mvb 0 2 1) en165 Tryz.func165 fun X w H ν=>?_
  refine cd h (fun hc5 h=>?_) (fun hc5 h=>?_)
  ·
   refine jn (fun x=>(Sum.inl x)) (fun(_:Unit)=>mkG 5 [some (.box [(.ro rTTest false f.tests),(lI .i64 f.most),(.own 4),(.mp 2)]),none,some (.map inferInstance ((fun x:List UInt8=>Value.string (s8 x))) ((fun x:Bool=>Value.bool x)) f.dead),some (.row (rInt .u8) true text),some (.row rStr true f.out)] [vp 0 0,vo 2 3]) h (fun ae v g=>?_) ?_
   ·
    refine bk ?_
    refine lp (fun i=>mkG 5 [some (.box [(.ro rTTest false f.tests),(lI .i64 f.most),(.own 4),(.mp 2)]),none,some (.map inferInstance ((fun x:List UInt8=>Value.string (s8 x))) ((fun x:Bool=>Value.bool x)) f.dead),some (.row (rInt .u8) true text),some (.row rStr true f.out)] [vp 0 0,vr 1 (rInt .u32) false l,vo 2 3,vr 22 rTTest false f.tests,vi 23 (List.length f.tests:Int),vi 24 i]) v [0,1,2,3,4] ?_
    rintro i oo h j
    rw[pFind_b1]at h
    refine cd h (fun y h=>?_) (fun y h=>?_)
    ·
     refine bk ?_
     refine ixR h fun af h=>?_
     refine dr mixed ?_
     refine ixR h fun ag h=>?_
     refine cl none [] 0 h (pPassed_c N _ _) fun ah h=>?_
     refine dk ?_
     refine cd h (fun a0 h=>?_) (fun a0 h=>?_)
     ·
      cases h
      cases j _ rfl
      replace h:=g
      try dsimp only at h
      cases h
      exact rt [0,1,2,3,4]
     cases h
     exact bl [0,1,2,3,4]
    cases h
    cases j _ rfl
    replace h:=g
    try dsimp only at h
    exact bj _ [0,1,2,3,4]
   intro _ h
   try dsimp only at h
   refine dr mixed ?_
   refine cvT ?_
   refine litO rStr true [(bstr text)] ?_
   refine apO true h fun ai h=>?_
   refine dk ?_
   cases h
   exact rt [0,1,2,3,6]
  refine cl none [] 0 h (pKey_c N _ _) fun a h=>?_
  refine luN (false:Bool) a mky_9 (fun _=>rfl) ?_
  refine cd h (fun a1 h=>?_) (fun a1 h=>?_)
  ·
   cases h
   exact rt [0,1,2,3,4]
  refine jn (fun x=>x) (fun⟨k,n,o⟩=>mkG 5 [some (.box [(.ro rTTest false f.tests),(lI .i64 f.most),(.own 4),(.mp 2)]),none,some (.map inferInstance ((fun x:List UInt8=>Value.string (s8 x))) ((fun x:Bool=>Value.bool x)) n),some (.row (rInt .u8) true text),some (.row rStr true k)] [vp 0 0,vo 2 3,vt 11 a,vb 12 o]) h (fun aj a2 a3=>?_) ?_
  ·
   refine bk ?_
   refine lp (fun⟨c,d,e,b⟩=>mkG 5 [some (.box [(.ro rTTest false f.tests),(lI .i64 f.most),(.own 4),(.mp 2)]),none,some (.map inferInstance ((fun x:List UInt8=>Value.string (s8 x))) ((fun x:Bool=>Value.bool x)) d),some (.row (rInt .u8) true text),some (.row rStr true c)] [vp 0 0,vr 1 (rInt .u32) false l,vo 2 3,vi 3 left,vt 11 a,vb 12 e,vk 13 .i32 b]) a2 [0,1,2,3,4] ?_
   rintro⟨c,d,e,b⟩ oo h a4
   rw[pFind_b2]at h
   refine jn (fun x=>x) (fun p=>mkG 5 [some (.box [(.ro rTTest false f.tests),(lI .i64 f.most),(.own 4),(.mp 2)]),none,some (.map inferInstance ((fun x:List UInt8=>Value.string (s8 x))) ((fun x:Bool=>Value.bool x)) d),some (.row (rInt .u8) true text),some (.row rStr true c)] [vp 0 0,vr 1 (rInt .u32) false l,vo 2 3,vi 3 left,vt 11 a,vb 12 e,vk 13 .i32 b,vb 70 p]) h (fun ak h al=>?_) ?_
   ·
    refine dr mixed ?_
    refine gd h (fun a5 h=>?_) (fun a5 h=>?_)
    ·
     refine dk ?_
     cases h
     exact bj _ [0,1,2,3,4]
    refine dk ?_
    cases h
    exact bj _ [0,1,2,3,4]
   intro p h
   try dsimp only at h
   refine cd h (fun a6 h=>?_) (fun a6 h=>?_)
   ·
    refine bk ?_
    refine mkO (rInt .u32) h fun am h=>?_
    refine jn (fun x=>x) (fun q=>mkG 6 [some (.box [(.ro rTTest false f.tests),(lI .i64 f.most),(.own 4),(.mp 2)]),none,some (.map inferInstance ((fun x:List UInt8=>Value.string (s8 x))) ((fun x:Bool=>Value.bool x)) d),some (.row (rInt .u8) true text),some (.row rStr true c),some (.row (rInt .u32) true q)] [vp 0 0,vr 1 (rInt .u32) false l,vo 2 3,vi 3 left,vt 11 a,vb 12 e,vk 13 .i32 b,vo 14 5]) h (fun an a7 a8=>?_) ?_
    ·
     refine bk ?_
     refine lp (fun⟨s,u⟩=>mkG 6 [some (.box [(.ro rTTest false f.tests),(lI .i64 f.most),(.own 4),(.mp 2)]),none,some (.map inferInstance ((fun x:List UInt8=>Value.string (s8 x))) ((fun x:Bool=>Value.bool x)) d),some (.row (rInt .u8) true text),some (.row rStr true c),some (.row (rInt .u32) true s)] [vp 0 0,vr 1 (rInt .u32) false l,vo 2 3,vi 3 left,vt 11 a,vb 12 e,vk 13 .i32 b,vo 14 5,vr 79 rTTest false f.tests,vi 80 (List.length f.tests:Int),vi 81 u]) a7 [0,1,2,3,4,5] ?_
     rintro⟨s,u⟩ oo h a9
     rw[pFind_b3]at h
     refine cd h (fun aa h=>?_) (fun aa h=>?_)
     ·
      refine bk ?_
      refine ixR h fun ao h=>?_
      refine dr mixed ?_
      refine ixR h fun aq h=>?_
      refine cl none [] 0 h (pNext_c N _ _ _) fun ar h=>?_
      refine ixO h fun av h=>?_
      refine stO true h fun aw h=>?_
      refine dk ?_
      cases h
      exact bl [0,1,2,3,4,5]
     cases h
     cases a9 _ rfl
     replace h:=a8
     try dsimp only at h
     exact bj _ [0,1,2,3,4,5]
    intro q h
    try dsimp only at h
    refine litO (rInt .u8) true [(uw8 b)] ?_
    refine apX h fun ax ab h=>?_
    refine po (fzk 5 [14,99] []) ?_
    refine cl (some false) [0,4,2,7] 1 h (ih _ _ _ _) (fun ay h=>?_)
    refine ps (shX 8 7 ab) ?_
    refine cd h (fun ac h=>?_) (fun ac h=>?_)
    ·
     cases h
     exact bl [0,1,2,3,9]
    cases h
    exact bl [0,1,2,3,9]
   cases h
   cases a4 _ rfl
   replace h:=a3
   try dsimp only at h
   exact bj _ [0,1,2,3,4]
  rintro⟨k,n,o⟩ h
  try dsimp only at h
  refine cd h (fun ad h=>?_) (fun ad h=>?_)
  ·
   refine puM a true mky_9 ?_
   cases h
   exact rt [0,1,2,3,4]
  cases h
  exact rt [0,1,2,3,4]
theorem pFBegin_c(N:Nat)(f:TFinder)(r:((List Int)×(List (List UInt8))×(List ((List UInt8)×Bool))))(h:pFBegin N f=some r):Cx Tryz.prog 166 [.lf (.ptr 0 0)] [.box [.ro rTTest false f.tests,lI .i64 f.most,.own 1,.mp 2],.row rStr true f.out,.map inferInstance ((fun x:List UInt8=>Value.string (s8 x))) ((fun x:Bool=>Value.bool x)) f.dead] [(0,some (.box [.ro rTTest false f.tests,lI .i64 f.most,.own 3,.mp 2])),(2,some (.map inferInstance ((fun x:List UInt8=>Value.string (s8 x))) ((fun x:Bool=>Value.bool x)) r.2.2)),(3,some (.row rStr true r.2.1))] [sR (rInt .u32) true r.1]:=by
 unfold pFBegin at h
 refine fnv (m:=3) tb (mvb 0 2 1) en166 Tryz.func166 fun X w H ν=>?_
 refine jn (fun x=>x) (fun a=>mkG 5 [some (.box [(.ro rTTest false f.tests),(lI .i64 f.most),(.own 3),(.mp 2)]),none,some (.map inferInstance ((fun x:List UInt8=>Value.string (s8 x))) ((fun x:Bool=>Value.bool x)) f.dead),some (.row rStr true f.out),some (.row (rInt .u32) true a)] [vp 0 0,vo 3 4]) h (fun k d e=>?_) ?_
 ·
  refine bk ?_
  refine ps (nl 3 (rInt .u32)) ?_
  refine lp (fun⟨b,c⟩=>mkG 5 [some (.box [(.ro rTTest false f.tests),(lI .i64 f.most),(.own 3),(.mp 2)]),none,some (.map inferInstance ((fun x:List UInt8=>Value.string (s8 x))) ((fun x:Bool=>Value.bool x)) f.dead),some (.row rStr true f.out),some (.row (rInt .u32) true b)] [vp 0 0,vo 3 4,vr 9 rTTest false f.tests,vi 10 (List.length f.tests:Int),vi 11 c]) d [0,1,2,3,4] ?_
  rintro⟨b,c⟩ oo h g
  rw[pFBegin_b1]at h
  refine cd h (fun i h=>?_) (fun i h=>?_)
  ·
   refine bk ?_
   refine ixR h fun l h=>?_
   refine cl none [] 0 h (pBegin_c N _) fun j h=>?_
   refine litO (rInt .u32) true [j] ?_
   refine apO true h fun n h=>?_
   cases h
   exact bl [0,1,2,3,7]
  cases h
  cases g _ rfl
  replace h:=e
  try dsimp only at h
  exact bj _ [0,1,2,3,4]
 intro a h
 try dsimp only at h
 cases h
 exact rt [0,1,2,3]
theorem pWords_c(N:Nat)(l:(List TTest))(length:Int)(most:Int)(r:(List (List UInt8)))(h:pWords N l length most=some r):Cn Tryz.prog 149 [sR rTTest false l,sI .i64 length,sI .i64 most] [.row rStr true r] [sO 0]:=by
 unfold pWords at h
 refine fn tb en149 Tryz.func149 fun X w H ν=>?_
 refine jn (fun x=>x) (fun x2=>mkS 0 [] [vr 0 rTTest false l,vi 1 length,vi 2 most,vb 13 x2]) h (fun s3 h g4=>?_) ?_
 ·
  refine rg ?_
  refine gd h (fun hc5 h=>?_) (fun hc5 h=>?_)
  ·
   cases h
   exact bj _ []
  cases h
  exact bj _ []
 intro x2 h
 try dsimp only at h
 refine cd h (fun hc9 h=>?_) (fun hc9 h=>?_)
 ·
  refine pr (nl 6 rStr) ?_
  cases h
  exact rt [0]
 refine mkM inferInstance (fun x:List UInt8=>Value.string (s8 x)) (fun x:Bool=>Value.bool x) ?_
 refine po (nb 1 2 rStr) ?_
 refine cl (some false) [1,2,0] 1 h (pFBegin_c N _) (fun a h=>?_)
 refine cl (some false) [1,3,0] 2 h (fun r hr=>nil3 rfl (pFind_c N _ _ _ _ r hr)) (fun b h=>?_)
 cases h
 exact rt [5]
end Go.Proofs.YtcakdidcpoolcaaGreatDoor.SF

/- Walks of the symbolic machine, written by a program of mine (wip/tool). -/
import Derived.Test.YtcakdidcpoolcaaGreatDoorTB
import Derived.Test.YtcakdidcpoolcaaGreatDoorAd
import Derived.Test.YtcakdidcpoolcaaGreatDoorSD
set_option linter.unusedVariables false
set_option linter.unusedSimpArgs false
set_option linter.unusedSectionVars false
set_option maxRecDepth 100000
set_option maxHeartbeats 4000000
namespace Go.Proofs.YtcakdidcpoolcaaGreatDoor.SU
open Go Go.RowKit Go.X Go.Q Go.D Go.Proofs.YtcakdidcpoolcaaGreatDoor.TB Go.Proofs.YtcakdidcpoolcaaGreatDoor.SD
theorem wRanges_c(N:Nat)(l:(List RVar))(r:(List Arr2Int))(h:wRanges N l=some r):Cn Tryz.prog 26 [sR rRVar false l] [.row rArr2Int true r] [sO 0]:=by
 unfold wRanges at h
 refine fn tb en26 Tryz.func26 fun X w H ν=>?_
 refine jn (fun x=>x) (fun d=>mkS 1 [.row rArr2Int true d] [vo 3 0]) h (fun k e f=>?_) ?_
 ·
  refine bk ?_
  refine ps (nl 3 rArr2Int) ?_
  refine lp (fun⟨a,b⟩=>mkS 1 [.row rArr2Int true a] [vr 0 rRVar false l,vo 3 0,vi 4 b]) e [0] ?_
  rintro⟨a,b⟩ oo h g
  rw[wRanges_b1]at h
  refine cd h (fun i h=>?_) (fun i h=>?_)
  ·
   refine bk ?_
   refine ixR h fun m h=>?_
   refine jn (fun x=>x) (fun c=>mkS 2 [.row rArr2Int true a,.box (Opn.cl rArr2Int true c)] [vr 0 rRVar false l,vo 3 0,vi 4 b,vp 5 1]) h (fun n h o=>?_) ?_
   ·
    refine cd h (fun j h=>?_) (fun j h=>?_)
    ·
     refine ixR h fun p h=>?_
     cases h
     exact bj _ [0,1]
    cases h
    exact bj _ [0,1]
   intro c h
   try dsimp only at h
   refine litO rArr2Int true [c] ?_
   refine apO true h fun q h=>?_
   cases h
   exact bl [3]
  cases h
  cases g _ rfl
  replace h:=f
  try dsimp only at h
  exact bj _ [0]
 intro d h
 try dsimp only at h
 cases h
 exact rt [0]
theorem wparts_c(N:Nat):∀(pa:Refut) (r:Int) (h:wparts N pa=some r),Cn Tryz.prog 59 [sA rRefut false pa] [] [sI .i64 r]:=by
 induction N with
 |zero=>intro pa r h;cases h
 |succ N ih=>
  intro pa r h
  replace h:wparts_step N (wparts N) pa=some r:=h
  unfold wparts_step at h
  refine fn tb en59 Tryz.func59 fun X w H ν=>?_
  refine cl none [] 0 h (rSmallProof_c N _) fun r6 h=>?_
  refine cd h (fun e h=>?_) (fun e h=>?_)
  ·
   cases h
   exact rt []
  refine jn (fun x=>x) (fun c=>mkS 0 [] [vi 3 c]) h (fun l f g=>?_) ?_
  ·
   refine bk ?_
   refine lp (fun⟨a,b⟩=>mkS 1 [.box (Opn.cl rRefut false pa)] [vp 1 0,vi 3 a,vi 4 b]) f [0] ?_
   rintro⟨a,b⟩ oo h i
   rw[wparts_b1]at h
   refine jn (fun x=>x) (fun d=>mkS 1 [.box (Opn.cl rRefut false pa)] [vp 1 0,vi 3 a,vi 4 b,vb 17 d]) h (fun m h n=>?_) ?_
   ·
    refine rg ?_
    refine gd h (fun j h=>?_) (fun j h=>?_)
    ·
     cases h
     exact bj _ [0]
    cases h
    exact bj _ [0]
   intro d h
   try dsimp only at h
   refine cd h (fun k h=>?_) (fun k h=>?_)
   ·
    refine bk ?_
    refine ixR h fun o h=>?_
    refine cl none [] 0 h (ih _) fun p h=>?_
    cases h
    exact bl [0]
   cases h
   cases i _ rfl
   replace h:=g
   try dsimp only at h
   exact bj _ []
  intro c h
  try dsimp only at h
  cases h
  exact rt []
theorem wSmall_c(N:Nat)(pa:Refut)(r:Bool)(h:wSmall N pa=some r):Cn Tryz.prog 28 [sA rRefut false pa] [] [sB r]:=by
 unfold wSmall at h
 refine fn tb en28 Tryz.func28 fun X w H ν=>?_
 refine cl none [] 0 h (wparts_c N _) fun r6 h=>?_
 cases h
 exact rt []
theorem wRight_c(N:Nat)(l:(List RVar))(ranges:(List Arr2Int))(r:Bool)(h:wRight N l ranges=some r):Cn Tryz.prog 38 [sR rRVar false l,sR rArr2Int false ranges] [] [sB r]:=by
 unfold wRight at h
 refine fn tb en38 Tryz.func38 fun X w H ν=>?_
 refine cd h (fun hc1 h=>?_) (fun hc1 h=>?_)
 ·
  cases h
  exact rt []
 refine jn (fun x=>(Sum.inl x)) (fun(_:Unit)=>mkS 0 [] []) h (fun m e b=>?_) ?_
 ·
  refine bk ?_
  refine lp (fun a=>mkS 0 [] [vr 1 rArr2Int false ranges,vi 5 a]) e [] ?_
  rintro a oo h c
  rw[wRight_b1]at h
  refine cd h (fun f h=>?_) (fun f h=>?_)
  ·
   refine bk ?_
   refine jn (fun x=>x) (fun d=>mkS 0 [] [vr 1 rArr2Int false ranges,vi 5 a,vb 46 d]) h (fun n h o=>?_) ?_
   ·
    refine rg ?_
    refine ixR h fun p h=>?_
    refine gd h (fun g h=>?_) (fun g h=>?_)
    ·
     cases h
     exact bj _ []
    refine ixR h fun q h=>?_
    refine gd h (fun i h=>?_) (fun i h=>?_)
    ·
     cases h
     exact bj _ []
    refine ixR h fun s h=>?_
    refine gd h (fun j h=>?_) (fun j h=>?_)
    ·
     cases h
     exact bj _ []
    refine ixR h fun u h=>?_
    cases h
    exact bj _ []
   intro d h
   try dsimp only at h
   refine cd h (fun k h=>?_) (fun k h=>?_)
   ·
    cases h
    cases c _ rfl
    replace h:=b
    try dsimp only at h
    cases h
    exact rt []
   cases h
   exact bl []
  cases h
  cases c _ rfl
  replace h:=b
  try dsimp only at h
  exact bj _ []
 intro _ h
 try dsimp only at h
 cases h
 exact rt []
theorem wShort_c(N:Nat)(l:(List RVar))(c:RClause)(r:Bool)(h:wShort N l c=some r):Cn Tryz.prog 27 [sR rRVar false l,sA rRClause false c] [] [sB r]:=by
 unfold wShort at h
 refine fn tb en27 Tryz.func27 fun X w H ν=>?_
 refine jn (fun x=>(Sum.inl x)) (fun a=>mkS 1 [.box (Opn.cl rRClause false c)] [vr 0 rRVar false l,vp 3 0,vi 5 a]) h (fun n g b=>?_) ?_
 ·
  refine bk ?_
  refine lp (fun⟨d,e⟩=>mkS 1 [.box (Opn.cl rRClause false c)] [vr 0 rRVar false l,vp 3 0,vi 5 d,vi 6 e]) g [0] ?_
  rintro⟨d,e⟩ oo h f
  rw[wShort_b1]at h
  refine cd h (fun i h=>?_) (fun i h=>?_)
  ·
   refine bk ?_
   refine ixR h fun o h=>?_
   refine cd h (fun j h=>?_) (fun j h=>?_)
   ·
    refine ixR h fun p h=>?_
    refine cd h (fun k h=>?_) (fun k h=>?_)
    ·
     cases h
     cases f _ rfl
     replace h:=b
     try dsimp only at h
     cases h
     exact rt []
    cases h
    exact bl [0]
   cases h
   exact bl [0]
  cases h
  cases f _ rfl
  replace h:=b
  try dsimp only at h
  exact bj _ [0]
 intro a h
 try dsimp only at h
 refine rg ?_
 refine gd h (fun m h=>?_) (fun m h=>?_)
 ·
  cases h
  exact rt []
 cases h
 exact rt []
theorem wDomains_c(N:Nat)(l:(List RVar))(r:Bool)(h:wDomains N l=some r):Cn Tryz.prog 35 [sR rRVar false l] [] [sB r]:=by
 unfold wDomains at h
 refine fn tb en35 Tryz.func35 fun X w H ν=>?_
 refine jn (fun x=>(Sum.inl x)) (fun(_:Unit)=>mkS 0 [] [vr 0 rRVar false l]) h (fun a0 f b=>?_) ?_
 ·
  refine bk ?_
  refine lp (fun a=>mkS 0 [] [vr 0 rRVar false l,vi 3 a]) f [] ?_
  rintro a oo h c
  rw[wDomains_b1]at h
  refine cd h (fun g h=>?_) (fun g h=>?_)
  ·
   refine bk ?_
   refine ixR h fun i h=>?_
   refine jn (fun x=>x) (fun d=>mkS 1 [.box (Opn.cl rRVar true i)] [vr 0 rRVar false l,vi 3 a,vp 4 0,vb 37 d]) h (fun a1 h a2=>?_) ?_
   ·
    refine rg ?_
    refine gd h (fun j h=>?_) (fun j h=>?_)
    ·
     refine gd h (fun k h=>?_) (fun k h=>?_)
     ·
      cases h
      exact bj _ [0]
     refine gd h (fun m h=>?_) (fun m h=>?_)
     ·
      cases h
      exact bj _ [0]
     refine gd h (fun n h=>?_) (fun n h=>?_)
     ·
      cases h
      exact bj _ [0]
     cases h
     exact bj _ [0]
    cases h
    exact bj _ [0]
   intro d h
   try dsimp only at h
   refine cd h (fun o h=>?_) (fun o h=>?_)
   ·
    cases h
    cases c _ rfl
    replace h:=b
    try dsimp only at h
    cases h
    exact rt []
   refine jn (fun x=>x) (fun e=>mkS 0 [] [vr 0 rRVar false l,vi 3 a,vb 60 e]) h (fun a3 h a4=>?_) ?_
   ·
    refine rg ?_
    refine gd h (fun p h=>?_) (fun p h=>?_)
    ·
     refine gd h (fun q h=>?_) (fun q h=>?_)
     ·
      cases h
      exact bj _ []
     refine gd h (fun s h=>?_) (fun s h=>?_)
     ·
      cases h
      exact bj _ []
     refine gd h (fun u h=>?_) (fun u h=>?_)
     ·
      cases h
      exact bj _ []
     cases h
     exact bj _ []
    refine gd h (fun v h=>?_) (fun v h=>?_)
    ·
     cases h
     exact bj _ []
    cases h
    exact bj _ []
   intro e h
   try dsimp only at h
   refine cd h (fun y h=>?_) (fun y h=>?_)
   ·
    cases h
    cases c _ rfl
    replace h:=b
    try dsimp only at h
    cases h
    exact rt []
   cases h
   exact bl []
  cases h
  cases c _ rfl
  replace h:=b
  try dsimp only at h
  exact bj _ []
 intro _ h
 try dsimp only at h
 cases h
 exact rt []
end Go.Proofs.YtcakdidcpoolcaaGreatDoor.SU

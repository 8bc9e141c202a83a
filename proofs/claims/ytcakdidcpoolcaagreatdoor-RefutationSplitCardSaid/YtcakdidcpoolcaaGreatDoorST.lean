/- Walks of the symbolic machine, written by a program of mine (wip/tool). -/
import Derived.Test.YtcakdidcpoolcaaGreatDoorTB
import Derived.Test.YtcakdidcpoolcaaGreatDoorAd
import Derived.Test.YtcakdidcpoolcaaGreatDoorSI
import Derived.Test.YtcakdidcpoolcaaGreatDoorSF
set_option linter.unusedVariables false
set_option linter.unusedSimpArgs false
set_option linter.unusedSectionVars false
set_option maxRecDepth 100000
set_option maxHeartbeats 4000000
namespace Go.Proofs.YtcakdidcpoolcaaGreatDoor.ST
open Go Go.RowKit Go.X Go.Q Go.D Go.Proofs.YtcakdidcpoolcaaGreatDoor.TB Go.Proofs.YtcakdidcpoolcaaGreatDoor.SI Go.Proofs.YtcakdidcpoolcaaGreatDoor.SF
theorem indexInt_c(N:Nat)(s:(List Int))(f:(Int→Option Bool))(r:Int)(h:indexInt N s f=some r):Cx Tryz.prog 169 [sR (rInt .i64) false s,.lf (.pd (fnPd Tryz.prog (fun x:Int=>[sI .i64 x]) (fun r:Bool=>[sB r]) f))] [] [] [sI .i64 r]:=by
 unfold indexInt at h
 refine fn tb en169 Tryz.func169 fun X w H ν=>?_
 refine jn (fun x=>(Sum.inl x)) (fun(_:Unit)=>mkS 0 [] []) h (fun k d a=>?_) ?_
 ·
  refine bk ?_
  refine lp (fun b=>mkS 0 [] [vr 0 (rInt .i64) false s,vl 1 (.pd (fnPd Tryz.prog (fun x:Int=>[sI .i64 x]) (fun r:Bool=>[sB r]) f)),vi 7 (List.length s:Int),vi 8 b]) d [] ?_
  rintro b oo h c
  rw[indexInt_b1]at h
  refine cd h (fun e h=>?_) (fun e h=>?_)
  ·
   refine bk ?_
   refine ixR h fun i h=>?_
   refine cvl (g:=f) i h fun l h=>?_
   refine cd h (fun j h=>?_) (fun j h=>?_)
   ·
    cases h
    cases c _ rfl
    replace h:=a
    try dsimp only at h
    cases h
    exact rt []
   cases h
   exact bl []
  cases h
  cases c _ rfl
  replace h:=a
  try dsimp only at h
  exact bj _ []
 intro _ h
 try dsimp only at h
 cases h
 exact rt []
theorem containsInt_c(N:Nat)(s:(List Int))(f:(Int→Option Bool))(r:Bool)(h:containsInt N s f=some r):Cx Tryz.prog 151 [sR (rInt .i64) false s,.lf (.pd (fnPd Tryz.prog (fun x:Int=>[sI .i64 x]) (fun r:Bool=>[sB r]) f))] [] [] [sB r]:=by
 unfold containsInt at h
 refine fn tb en151 Tryz.func151 fun X w H ν=>?_
 refine cl none [] 0 h (indexInt_c N _ _) fun r1 h=>?_
 cases h
 exact rt []
theorem tclasses_c(N:Nat)(p:TProb)(r:((List Int)×Int))(h:tclasses N p=some r):Cn Tryz.prog 147 [sA rTProb false p] [.row (rInt .i64) true r.1] [sO 0,sI .i64 r.2]:=by
 unfold tclasses at h
 refine fn tb en147 Tryz.func147 fun X w H ν=>?_
 refine mkO (rInt .i64) h fun x8 h=>?_
 refine jn (fun x=>x) (fun b=>mkS 2 [.box (Opn.cl rTProb false p),.row (rInt .i64) true b] [vp 1 0,vo 4 1]) h (fun af u v=>?_) ?_
 ·
  refine bk ?_
  refine lp (fun⟨c,d⟩=>mkS 2 [.box (Opn.cl rTProb false p),.row (rInt .i64) true c] [vp 1 0,vo 4 1,vi 20 (List.length x8:Int),vi 21 d]) u [0,1] ?_
  rintro⟨c,d⟩ oo h y
  rw[tclasses_b1]at h
  refine cd h (fun a0 h=>?_) (fun a0 h=>?_)
  ·
   refine bk ?_
   refine ixO h fun ag h=>?_
   refine stO true h fun ah h=>?_
   cases h
   exact bl [0,1]
  cases h
  cases y _ rfl
  replace h:=v
  try dsimp only at h
  exact bj _ [0,1]
 intro b h
 try dsimp only at h
 refine jn (fun x=>x) (fun a=>mkS 1 [.row (rInt .i64) true a] [vo 4 0]) h (fun ai a1 a2=>?_) ?_
 ·
  refine bk ?_
  refine lp (fun⟨e,f⟩=>mkS 2 [.box (Opn.cl rTProb false p),.row (rInt .i64) true e] [vp 1 0,vo 4 1,vb 6 f]) a1 [0,1] ?_
  rintro⟨e,f⟩ oo h a3
  rw[tclasses_b2]at h
  refine cd h (fun a4 h=>?_) (fun a4 h=>?_)
  ·
   refine bk ?_
   refine jn (fun x=>x) (fun⟨g,i⟩=>mkS 2 [.box (Opn.cl rTProb false p),.row (rInt .i64) true g] [vp 1 0,vo 4 1,vb 6 i]) h (fun aj a5 a6=>?_) ?_
   ·
    refine bk ?_
    refine lp (fun⟨j,k,l⟩=>mkS 2 [.box (Opn.cl rTProb false p),.row (rInt .i64) true j] [vp 1 0,vo 4 1,vb 6 k,vr 31 rArr2Int false p.Same,vi 32 (List.length p.Same:Int),vi 33 l]) a5 [0,1] ?_
    rintro⟨j,k,l⟩ oo h a7
    rw[tclasses_b3]at h
    refine cd h (fun a8 h=>?_) (fun a8 h=>?_)
    ·
     refine bk ?_
     refine ixR h fun ak h=>?_
     refine dr mixed ?_
     refine ixO h fun al h=>?_
     refine ldO ?_
     refine ixO h fun am h=>?_
     refine ldO ?_
     refine dk ?_
     refine cd h (fun a9 h=>?_) (fun a9 h=>?_)
     ·
      refine dr mixed ?_
      refine ixO h fun an h=>?_
      refine stO true h fun ao h=>?_
      refine ixO h fun aq h=>?_
      refine stO true h fun ar h=>?_
      refine dk ?_
      cases h
      exact bl [0,1]
     cases h
     exact bl [0,1]
    cases h
    cases a7 _ rfl
    replace h:=a6
    try dsimp only at h
    exact bj _ [0,1]
   rintro⟨g,i⟩ h
   try dsimp only at h
   cases h
   exact bl [0,1]
  cases h
  cases a3 _ rfl
  replace h:=a2
  try dsimp only at h
  exact bj _ [1]
 intro a h
 try dsimp only at h
 refine mkO (rInt .i64) h fun av h=>?_
 refine jn (fun x=>x) (fun⟨m,n⟩=>mkS 1 [.row (rInt .i64) true m] [vo 11 0,vi 12 n]) h (fun aw aa ab=>?_) ?_
 ·
  refine bk ?_
  refine lp (fun⟨o,q,s⟩=>mkS 2 [.row (rInt .i64) true o,.row (rInt .i64) true a] [vo 11 0,vi 12 q,vo 68 1,vi 69 (List.length a:Int),vi 70 s]) aa [1,0] ?_
  rintro⟨o,q,s⟩ oo h ac
  rw[tclasses_b4]at h
  refine cd h (fun ad h=>?_) (fun ad h=>?_)
  ·
   refine bk ?_
   refine ixO h fun ax h=>?_
   refine ldO ?_
   refine cd h (fun ae h=>?_) (fun ae h=>?_)
   ·
    refine ixO h fun ay h=>?_
    refine stO true h fun az h=>?_
    cases h
    exact bl [0,1]
   refine ixO h fun b0 h=>?_
   refine ldO ?_
   refine ixO h fun b1 h=>?_
   refine stO true h fun b2 h=>?_
   cases h
   exact bl [0,1]
  cases h
  cases ac _ rfl
  replace h:=ab
  try dsimp only at h
  exact bj _ [0]
 rintro⟨m,n⟩ h
 try dsimp only at h
 cases h
 exact rt [0]
theorem cloneTest_c(N:Nat)(s:(List TTest))(r:(List TTest))(h:cloneTest N s=some r):Cn Tryz.prog 148 [sR rTTest false s] [.row rTTest true r] [sO 0]:=by
 unfold cloneTest at h
 refine fn tb en148 Tryz.func148 fun X w H ν=>?_
 refine eqn ?_
 refine cn (fun hnil=>?_) ?_
 ·
  replace h:some []=some r:=by rw[hnil]at h;simpa[apnd]using h
  refine pr (nl 2 rTTest) ?_
  cases h
  exact rt [0]
 refine litZ rTTest ?_
 refine apO true h fun a h=>?_
 cases h
 exact rt [1]
theorem tgathered_c(N:Nat)(p:TProb)(r:((List TClass)×(List Int)×Bool))(h:tgathered N p=some r):Cn Tryz.prog 121 [sA rTProb false p] [.row rTClass true r.1,.row (rInt .i64) true r.2.1] [sO 0,sO 1,sB r.2.2]:=by
 unfold tgathered at h
 refine fn tb en121 Tryz.func121 fun X w H ν=>?_
 refine cl none [] 1 h (tclasses_c N _) fun r6 h=>?_
 refine mkD dkTClass h (fun y h=>?_) (hR:=⟨_,_,_,_,_,_,rfl,rfl,rfl,DS.nil,DS.nil,rfl⟩)
 refine lnD ?_
 refine jn (fun x=>x) (fun c=>mkS 3 [.box (Opn.cl rTProb false p),.row (rInt .i64) true r6.1,.deep 2 dkTClass c []] [vp 1 0,vo 5 1,vo 7 2]) h (fun aw a0 a1=>?_) ?_
 ·
  refine bk ?_
  refine lp (fun⟨d,e⟩=>mkS 3 [.box (Opn.cl rTProb false p),.row (rInt .i64) true r6.1,.deep 2 dkTClass d []] [vp 1 0,vo 5 1,vo 7 2,vi 26 (List.length y:Int),vi 27 e]) a0 [0,1,2] ?_
  rintro⟨d,e⟩ oo h a2
  rw[tgathered_b1]at h
  refine cd h (fun a3 h=>?_) (fun a3 h=>?_)
  ·
   refine bk ?_
   refine ixD h fun ax a4 h=>?_
   refine stI (D:=dkTClass) a4 h (fun ay h=>?_) (hR:=by rintro _ _ _ ⟨v0,b0,k0,v1,b1,k1,rfl,rfl,rfl,d0,d1,w0⟩;exact⟨_,_,_,_,_,_,rfl,rfl,rfl,d0,d1,w0⟩)
   cases h
   exact bl [0,1,2]
  cases h
  cases a2 _ rfl
  replace h:=a1
  try dsimp only at h
  exact bj _ [0,1,2]
 intro c h
 try dsimp only at h
 refine jn (fun x=>x) (fun f=>mkS 3 [.box (Opn.cl rTProb false p),.row (rInt .i64) true r6.1,.deep 2 dkTClass f []] [vp 1 0,vo 5 1,vo 7 2]) h (fun az a5 a6=>?_) ?_
 ·
  refine bk ?_
  refine lp (fun⟨g,i⟩=>mkS 3 [.box (Opn.cl rTProb false p),.row (rInt .i64) true r6.1,.deep 2 dkTClass g []] [vp 1 0,vo 5 1,vo 7 2,vo 35 1,vi 36 (List.length r6.1:Int),vi 37 i]) a5 [0,1,2] ?_
  rintro⟨g,i⟩ oo h a7
  rw[tgathered_b2]at h
  refine cd h (fun a8 h=>?_) (fun a8 h=>?_)
  ·
   refine bk ?_
   refine ixO h fun b2 h=>?_
   refine ldO ?_
   refine dr mixed ?_
   refine ixD h fun a9 b3 h=>?_
   refine ldI (D:=dkTClass) (v:=.int .i64 a9.low) ?_ (hv:=by rintro _ _ _ ⟨v0,b0,k0,v1,b1,k1,rfl,rfl,rfl,d0,d1,w0⟩;rfl)
   refine ixR h fun b4 h=>?_
   refine ixD h fun aa b5 h=>?_
   refine ldI (D:=dkTClass) (v:=.int .i64 aa.high) ?_ (hv:=by rintro _ _ _ ⟨v0,b0,k0,v1,b1,k1,rfl,rfl,rfl,d0,d1,w0⟩;rfl)
   refine ixR h fun b6 h=>?_
   refine ixD h fun b7 ab h=>?_
   refine stI (D:=dkTClass) ab h (fun b8 h=>?_) (hR:=by rintro _ _ _ ⟨v0,b0,k0,v1,b1,k1,rfl,rfl,rfl,d0,d1,w0⟩;exact⟨_,_,_,_,_,_,rfl,rfl,rfl,d0,d1,w0⟩)
   refine ixD h fun b9 ac h=>?_
   refine stI (D:=dkTClass) ac h (fun ba h=>?_) (hR:=by rintro _ _ _ ⟨v0,b0,k0,v1,b1,k1,rfl,rfl,rfl,d0,d1,w0⟩;exact⟨_,_,_,_,_,_,rfl,rfl,rfl,d0,d1,w0⟩)
   refine dk ?_
   cases h
   exact bl [0,1,2]
  cases h
  cases a7 _ rfl
  replace h:=a6
  try dsimp only at h
  exact bj _ [0,1,2]
 intro f h
 try dsimp only at h
 refine jn (fun x=>x) (fun j=>mkS 3 [.box (Opn.cl rTProb false p),.row (rInt .i64) true r6.1,.deep 2 dkTClass j []] [vp 1 0,vo 5 1,vo 7 2]) h (fun bb ad ae=>?_) ?_
 ·
  refine bk ?_
  refine lp (fun⟨k,l⟩=>mkS 3 [.box (Opn.cl rTProb false p),.row (rInt .i64) true r6.1,.deep 2 dkTClass k []] [vp 1 0,vo 5 1,vo 7 2,vr 74 rTTest false p.Tests,vi 75 (List.length p.Tests:Int),vi 76 l]) ad [0,1,2] ?_
  rintro⟨k,l⟩ oo h af
  rw[tgathered_b3]at h
  refine cd h (fun ag h=>?_) (fun ag h=>?_)
  ·
   refine bk ?_
   refine ixR h fun ah h=>?_
   refine ixO h fun bc h=>?_
   refine ldO ?_
   obtain⟨bd,ai,h⟩:=bind_some h
   refine ps (tkS 2 dkTClass_tests ai) ?_
   refine dr mixed ?_
   refine ixD h fun be bf h=>?_
   refine ldH 0 ?_
   refine litO rTTest true [ah] ?_
   refine apO true h fun bg h=>?_
   refine ixD h fun bh aj h=>?_
   refine stS dkTClass_tests [] aj h (fun bi h=>?_)
   refine dk ?_
   cases h
   exact bl [0,1,2]
  cases h
  cases af _ rfl
  replace h:=ae
  try dsimp only at h
  exact bj _ [0,1,2]
 intro j h
 try dsimp only at h
 refine jn (fun x=>(Sum.inl x)) (fun m=>mkS 2 [.row (rInt .i64) true r6.1,.deep 1 dkTClass m []] [vo 5 0,vo 7 1]) h (fun bm ak n=>?_) ?_
 ·
  refine bk ?_
  refine lp (fun⟨o,q⟩=>mkS 2 [.row (rInt .i64) true r6.1,.deep 1 dkTClass o []] [vo 5 0,vo 7 1,vr 99 rArr2Int false p.Different,vi 100 (List.length p.Different:Int),vi 101 q]) ak [1,2] ?_
  rintro⟨o,q⟩ oo h s
  rw[tgathered_b4]at h
  refine cd h (fun al h=>?_) (fun al h=>?_)
  ·
   refine bk ?_
   refine ixR h fun bn h=>?_
   refine dr mixed ?_
   refine ixO h fun am h=>?_
   refine ldO ?_
   refine ixO h fun an h=>?_
   refine ldO ?_
   refine dk ?_
   refine cd h (fun ao h=>?_) (fun ao h=>?_)
   ·
    refine pr (fzD 1) ?_
    cases h
    cases s _ rfl
    replace h:=n
    try dsimp only at h
    cases h
    exact rt [1,0]
   obtain⟨bo,u,h⟩:=bind_some h
   refine po (tkS 1 dkTClass_apart u) ?_
   refine ixD h fun bp bq h=>?_
   refine ldH 0 ?_
   refine cl none [] 0 h (containsOf_c N _ _) fun br h=>?_
   refine ps (unS 1 3 dkTClass_apart u) ?_
   refine cd h (fun aq h=>?_) (fun aq h=>?_)
   ·
    obtain⟨bu,a,h⟩:=bind_some h
    refine ps (tkS 1 dkTClass_apart a) ?_
    obtain⟨bv,b,h⟩:=bind_some h
    refine ps (tkS 1 dkTClass_apart b (hm:=tk2 dkTClass_apart a b (by assumption))) ?_
    refine dr mixed ?_
    refine ixD h fun bw bx h=>?_
    refine ldH 1 ?_
    refine litO (rInt .i64) true [an] ?_
    refine apO true h fun bz h=>?_
    refine ixD h fun c0 c1 h=>?_
    refine ldH 0 ?_
    refine litO (rInt .i64) true [am] ?_
    refine apO true h fun c2 h=>?_
    refine ixD h fun c3 ar h=>?_
    refine stS dkTClass_apart _ ar h (fun c4 h=>?_) (hsub:=two_sub dkTClass_apart a b (by assumption)) (hcov:=two_cov)
    refine ixD h fun c5 av h=>?_
    refine stS dkTClass_apart [] av h (fun c6 h=>?_)
    refine dk ?_
    cases h
    exact bl [0,1]
   cases h
   exact bl [0,1]
  cases h
  cases s _ rfl
  replace h:=n
  try dsimp only at h
  exact bj _ [0,1]
 intro m h
 try dsimp only at h
 refine pr (fzD 1) ?_
 cases h
 exact rt [1,0]
theorem tfirst_c(N:Nat)(c:TClass)(most:Int)(r:(List (List UInt8)))(h:tfirst N c most=some r):Cn Tryz.prog 122 [sA rTClass false c,sI .i64 most] [.row rStr true r] [sO 0]:=by
 unfold tfirst at h
 refine fn tb en122 Tryz.func122 fun X w H ν=>?_
 refine jn (fun x=>x) (fun d=>mkS 1 [.row rStr true d] [vo 5 0]) h (fun y l m=>?_) ?_
 ·
  refine bk ?_
  refine ps (nl 5 rStr) ?_
  refine lp (fun⟨b,a⟩=>mkS 2 [.box (Opn.cl rTClass false c),.row rStr true b] [vi 1 most,vp 2 0,vo 5 1,vi 6 a]) l [0,1] ?_
  rintro⟨b,a⟩ oo h n
  rw[tfirst_b1]at h
  refine jn (fun x=>x) (fun e=>mkS 2 [.box (Opn.cl rTClass false c),.row rStr true b] [vi 1 most,vp 2 0,vo 5 1,vi 6 a,vb 20 e]) h (fun a0 h a1=>?_) ?_
  ·
   refine rg ?_
   refine gd h (fun o h=>?_) (fun o h=>?_)
   ·
    cases h
    exact bj _ [0,1]
   cases h
   exact bj _ [0,1]
  intro e h
  try dsimp only at h
  refine cd h (fun p h=>?_) (fun p h=>?_)
  ·
   refine bk ?_
   refine cl none [] 1 h (cloneTest_c N _) fun a2 h=>?_
   refine jn (fun x=>x) (fun f=>mkS 2 [.box (Opn.cl rTClass false c),.row rStr true f] [vi 1 most,vp 2 0,vo 5 1,vi 6 a]) h (fun a3 q g=>?_) ?_
   ·
    refine bk ?_
    refine lp (fun⟨i,j⟩=>mkS 3 [.box (Opn.cl rTClass false c),.row rStr true i,.row rTTest true j] [vi 1 most,vp 2 0,vo 5 1,vi 6 a,vo 7 2]) q [0,1,2] ?_
    rintro⟨i,j⟩ oo h k
    rw[tfirst_b2]at h
    refine cd h (fun s h=>?_) (fun s h=>?_)
    ·
     refine bk ?_
     refine cl none [] 1 h (pWords_c N _ _ _) fun a4 h=>?_
     refine apO true h fun a5 h=>?_
     refine cd h (fun u h=>?_) (fun u h=>?_)
     ·
      cases h
      cases k _ rfl
      replace h:=g
      try dsimp only at h
      exact bj _ [0,4]
     refine dr mixed ?_
     refine cl none [] 1 h (cloneTest_c N _) fun a6 h=>?_
     refine ixO h fun v h=>?_
     refine ldO ?_
     refine litO rTTest true [(TTest.mk 0 3 true v)] ?_
     refine apO true h fun a7 h=>?_
     refine dk ?_
     cases h
     exact bl [0,4,7]
    cases h
    cases k _ rfl
    replace h:=g
    try dsimp only at h
    exact bj _ [0,1]
   intro f h
   try dsimp only at h
   cases h
   exact bl [0,1]
  cases h
  cases n _ rfl
  replace h:=m
  try dsimp only at h
  exact bj _ [1]
 intro d h
 try dsimp only at h
 cases h
 exact rt [0]
theorem revInt_c(N:Nat)(s:(List Int))(r:(List Int))(h:revInt N s=some r):Cx Tryz.prog 125 [sO 0] [.row (rInt .i64) true s] [(0,some (.row (rInt .i64) true r))] []:=by
 unfold revInt at h
 refine fn tb en125 Tryz.func125 fun X w H ν=>?_
 refine jn (fun x=>x) (fun a=>mkS 1 [.row (rInt .i64) true a] [vo 0 0]) h (fun j e f=>?_) ?_
 ·
  refine bk ?_
  refine lp (fun⟨b,c,d⟩=>mkS 1 [.row (rInt .i64) true b] [vo 0 0,vi 2 c,vi 3 d]) e [0] ?_
  rintro⟨b,c,d⟩ oo h g
  rw[revInt_b1]at h
  refine cd h (fun i h=>?_) (fun i h=>?_)
  ·
   refine bk ?_
   refine dr mixed ?_
   refine ixO h fun k h=>?_
   refine ldO ?_
   refine ixO h fun l h=>?_
   refine ldO ?_
   refine ixO h fun m h=>?_
   refine stO true h fun n h=>?_
   refine ixO h fun o h=>?_
   refine stO true h fun p h=>?_
   refine dk ?_
   cases h
   exact bl [0]
  cases h
  cases g _ rfl
  replace h:=f
  try dsimp only at h
  exact bj _ [0]
 intro a h
 try dsimp only at h
 cases h
 exact rt [0]
theorem tchoose1_c(N:Nat)(other:Int)(ca:(List Bool))(cb:(List (List UInt8)))(cc:(List UInt8))(r:Bool)(h:tchoose1 N other ca cb cc=some r):Cx Tryz.prog 152 [sI .i64 other,.lf (.pd (ppPd false [.ro rBool false ca])),.lf (.pd (ppPd false [.ro rStr false cb])),.lf (.pd (ppPd false [lT cc]))] [] [] [sB r]:=by
 unfold tchoose1 at h
 refine fnv tb (.comp (vpp 1) (.comp (vpp 2) (vpp 3))) en152 Tryz.func152 fun X w H ν=>?_
 refine dr mixed ?_
 refine ixR h fun x1 h=>?_
 refine gd h (fun a h=>?_) (fun a h=>?_)
 ·
  refine ixR h fun b h=>?_
  refine dk ?_
  cases h
  exact rt []
 refine dk ?_
 cases h
 exact rt []
theorem tchoose_c(N:Nat):∀(l:(List TClass)) (order:(List Int)) (words:(List (List UInt8))) (known:(List Bool)) (r:(Bool×Bool×(List (List UInt8))×(List Bool))) (h:tchoose N l order words known=some r),Cx Tryz.prog 126 [sR rTClass false l,sR (rInt .i64) false order,sO 0,sO 1] [.row rStr true words,.row rBool true known] [(0,some (.row rStr true r.2.2.1)),(1,some (.row rBool true r.2.2.2))] [bif r.1 then sO 0 else .lf lN,sB r.2.1]:=by
 induction N with
 |zero=>intro l order words known r h;cases h
 |succ N ih=>
  intro l order words known r h
  replace h:tchoose_step N (tchoose N) l order words known=some r:=h
  unfold tchoose_step at h
  refine fn tb en126 Tryz.func126 fun X w H ν=>?_
  refine cd h (fun m h=>?_) (fun m h=>?_)
  ·
   cases h
   exact rt [0,1]
  refine ixR h fun d h=>?_
  refine ixO h fun y h=>?_
  refine stO true h fun a0 h=>?_
  refine ixR h fun e h=>?_
  refine jn (fun x=>(Sum.inl x)) (fun⟨f,g⟩=>mkS 3 [.row rStr true f,.row rBool true g,.box [(.own 1)]] [vo 2 0,vo 3 1,vp 7 2,vi 10 d]) h (fun a1 o i=>?_) ?_
  ·
   refine bk ?_
   refine lp (fun⟨a,b,j⟩=>mkS 4 [.row rStr true a,.row rBool true b,.box [(.own 0)],.box [(.own 1)]] [vr 0 rTClass false l,vr 1 (rInt .i64) false order,vo 2 0,vo 3 1,vp 6 2,vp 7 3,vi 10 d,vr 29 rStr false e.words,vi 30 (List.length e.words:Int),vi 31 j]) o [0,1,2,3] ?_
   rintro⟨a,b,j⟩ oo h k
   rw[tchoose_b1]at h
   refine cd h (fun p h=>?_) (fun p h=>?_)
   ·
    refine bk ?_
    refine ixR h fun q h=>?_
    refine ixR h fun a2 h=>?_
    refine mkFc ?_
    refine clC (az:=[_]) h (fun r h=>containsInt_c N _ _ r h) (fun x r h=>tchoose1_c N x b a q r h) en152 (fun a3 h=>?_) (hcap:=by exact .c rfl rfl rfl (.c rfl rfl rfl (.c rfl rfl rfl .n)))
    refine cd h (fun s h=>?_) (fun s h=>?_)
    ·
     cases h
     exact bl [0,1,2,3]
    refine ixO h fun a4 h=>?_
    refine stO true h fun a5 h=>?_
    refine dr mixed ?_
    refine cutR h fun a6 h=>?_
    refine cl none [0,1] 0 h (ih _ _ _ _) (fun u h=>?_) (h2:=by rintro⟨_|_,_⟩<;>rfl)
    refine dk ?_
    refine cd h (fun v h=>?_) (fun v h=>?_)
    ·
     cases h
     cases k _ rfl
     replace h:=i
     try dsimp only at h
     cases h
     cases u.1<;>exact rt [0,1]
    cases h
    exact bl [0,1,2,3]
   cases h
   cases k _ rfl
   replace h:=i
   try dsimp only at h
   exact bj _ [0,1,3]
  rintro⟨f,g⟩ h
  try dsimp only at h
  refine ixO h fun a7 h=>?_
  refine stO true h fun a8 h=>?_
  cases h
  exact rt [0,1]
theorem insSort_c(N:Nat)(data:(List Int))(a:Int)(b:Int)(cmp:(Int→Int→Option Int))(r:(List Int))(h:insSort N data a b cmp=some r):Cx Tryz.prog 167 [sO 0,sI .i64 a,sI .i64 b,.lf (.pd (fnPd Tryz.prog (fun x:Int×Int=>[sI .i64 x.1,sI .i64 x.2]) (fun r:Int=>[sI .i64 r]) (fun x:Int×Int=>cmp x.1 x.2)))] [.row (rInt .i64) true data] [(0,some (.row (rInt .i64) true r))] []:=by
 unfold insSort at h
 refine fn tb en167 Tryz.func167 fun X w H ν=>?_
 refine jn (fun x=>x) (fun f=>mkS 1 [.row (rInt .i64) true f] [vo 0 0]) h (fun a1 l m=>?_) ?_
 ·
  refine bk ?_
  refine lp (fun⟨i,c⟩=>mkS 1 [.row (rInt .i64) true i] [vo 0 0,vi 1 a,vi 2 b,vl 3 (.pd (fnPd Tryz.prog (fun x:Int×Int=>[sI .i64 x.1,sI .i64 x.2]) (fun r:Int=>[sI .i64 r]) (fun x:Int×Int=>cmp x.1 x.2))),vi 8 c]) l [0] ?_
  rintro⟨i,c⟩ oo h n
  rw[insSort_b1]at h
  refine cd h (fun o h=>?_) (fun o h=>?_)
  ·
   refine bk ?_
   refine jn (fun x=>x) (fun j=>mkS 1 [.row (rInt .i64) true j] [vo 0 0,vi 1 a,vi 2 b,vl 3 (.pd (fnPd Tryz.prog (fun x:Int×Int=>[sI .i64 x.1,sI .i64 x.2]) (fun r:Int=>[sI .i64 r]) (fun x:Int×Int=>cmp x.1 x.2))),vi 8 c]) h (fun a2 p q=>?_) ?_
   ·
    refine bk ?_
    refine lp (fun⟨d,e⟩=>mkS 1 [.row (rInt .i64) true d] [vo 0 0,vi 1 a,vi 2 b,vl 3 (.pd (fnPd Tryz.prog (fun x:Int×Int=>[sI .i64 x.1,sI .i64 x.2]) (fun r:Int=>[sI .i64 r]) (fun x:Int×Int=>cmp x.1 x.2))),vi 8 c,vi 9 e]) p [0] ?_
    rintro⟨d,e⟩ oo h s
    rw[insSort_b2]at h
    refine jn (fun x=>x) (fun k=>mkS 1 [.row (rInt .i64) true d] [vo 0 0,vi 1 a,vi 2 b,vl 3 (.pd (fnPd Tryz.prog (fun x:Int×Int=>[sI .i64 x.1,sI .i64 x.2]) (fun r:Int=>[sI .i64 r]) (fun x:Int×Int=>cmp x.1 x.2))),vi 8 c,vi 9 e,vb 34 k]) h (fun a3 h a4=>?_) ?_
    ·
     refine dr mixed ?_
     refine gd h (fun u h=>?_) (fun u h=>?_)
     ·
      refine ixO h fun v h=>?_
      refine ldO ?_
      refine ixO h fun y h=>?_
      refine ldO ?_
      refine cvl (g:=(fun x:Int×Int=>cmp x.1 x.2)) (v,y) h fun a5 h=>?_
      refine dk ?_
      cases h
      exact bj _ [0]
     refine dk ?_
     cases h
     exact bj _ [0]
    intro k h
    try dsimp only at h
    refine cd h (fun a0 h=>?_) (fun a0 h=>?_)
    ·
     refine bk ?_
     refine dr mixed ?_
     refine ixO h fun a6 h=>?_
     refine ldO ?_
     refine ixO h fun a7 h=>?_
     refine ldO ?_
     refine ixO h fun a8 h=>?_
     refine stO true h fun a9 h=>?_
     refine ixO h fun aa h=>?_
     refine stO true h fun ab h=>?_
     refine dk ?_
     cases h
     exact bl [0]
    cases h
    cases s _ rfl
    replace h:=q
    try dsimp only at h
    exact bj _ [0]
   intro j h
   try dsimp only at h
   cases h
   exact bl [0]
  cases h
  cases n _ rfl
  replace h:=m
  try dsimp only at h
  exact bj _ [0]
 intro f h
 try dsimp only at h
 cases h
 exact rt [0]
theorem stableSort_c(N:Nat)(data:(List Int))(n:Int)(cmp:(Int→Int→Option Int))(r:(List Int))(h:stableSort N data n cmp=some r):Cx Tryz.prog 150 [sO 0,sI .i64 n,.lf (.pd (fnPd Tryz.prog (fun x:Int×Int=>[sI .i64 x.1,sI .i64 x.2]) (fun r:Int=>[sI .i64 r]) (fun x:Int×Int=>cmp x.1 x.2)))] [.row (rInt .i64) true data] [(0,some (.row (rInt .i64) true r))] []:=by
 unfold stableSort at h
 refine fn tb en150 Tryz.func150 fun X w H ν=>?_
 refine jn (fun x=>x) (fun⟨c,d⟩=>mkS 1 [.row (rInt .i64) true c] [vo 0 0,vi 1 n,vl 2 (.pd (fnPd Tryz.prog (fun x:Int×Int=>[sI .i64 x.1,sI .i64 x.2]) (fun r:Int=>[sI .i64 r]) (fun x:Int×Int=>cmp x.1 x.2))),vi 6 20,vi 7 d]) h (fun a1 i j=>?_) ?_
 ·
  refine bk ?_
  refine lp (fun⟨e,f,g⟩=>mkS 1 [.row (rInt .i64) true e] [vo 0 0,vi 1 n,vl 2 (.pd (fnPd Tryz.prog (fun x:Int×Int=>[sI .i64 x.1,sI .i64 x.2]) (fun r:Int=>[sI .i64 r]) (fun x:Int×Int=>cmp x.1 x.2))),vi 6 20,vi 7 f,vi 8 g]) i [0] ?_
  rintro⟨e,f,g⟩ oo h k
  rw[stableSort_b1]at h
  refine cd h (fun l h=>?_) (fun l h=>?_)
  ·
   refine bk ?_
   refine cl none [0] 0 h (insSort_c N _ _ _ _) (fun a2 h=>?_)
   cases h
   exact bl [0]
  cases h
  cases k _ rfl
  replace h:=j
  try dsimp only at h
  exact bj _ [0]
 rintro⟨c,d⟩ h
 try dsimp only at h
 refine cl none [0] 0 h (insSort_c N _ _ _ _) (fun b h=>?_)
 refine jn (fun x=>x) (fun(_:Unit)=>mkS 1 [.row (rInt .i64) true b] [vo 0 0]) h (fun a3 m o=>?_) ?_
 ·
  refine bk ?_
  refine lp (fun a=>mkS 1 [.row (rInt .i64) true b] [vo 0 0,vi 1 n,vl 2 (.pd (fnPd Tryz.prog (fun x:Int×Int=>[sI .i64 x.1,sI .i64 x.2]) (fun r:Int=>[sI .i64 r]) (fun x:Int×Int=>cmp x.1 x.2))),vi 6 a]) m [0] ?_
  rintro a oo h p
  rw[stableSort_b2]at h
  refine cd h (fun q h=>?_) (fun q h=>?_)
  ·
   refine bk ?_
   refine jn (fun x=>x) (fun(_:Unit)=>mkS 1 [.row (rInt .i64) true b] [vo 0 0,vi 1 n,vl 2 (.pd (fnPd Tryz.prog (fun x:Int×Int=>[sI .i64 x.1,sI .i64 x.2]) (fun r:Int=>[sI .i64 r]) (fun x:Int×Int=>cmp x.1 x.2))),vi 6 a,vi 7 0]) h (fun a4 s u=>?_) ?_
   ·
    refine bk ?_
    refine lp (fun(_:Unit)=>mkS 1 [.row (rInt .i64) true b] [vo 0 0,vi 1 n,vl 2 (.pd (fnPd Tryz.prog (fun x:Int×Int=>[sI .i64 x.1,sI .i64 x.2]) (fun r:Int=>[sI .i64 r]) (fun x:Int×Int=>cmp x.1 x.2))),vi 6 a,vi 7 0,vi 8 (iw (2*a))]) s [0] ?_
    rintro _ oo h v
    rw[stableSort_b3]at h
    refine cd h (fun y h=>?_) (fun y h=>?_)
    ·
     refine bk ?_
     cases h
    cases h
    cases v _ rfl
    replace h:=u
    try dsimp only at h
    exact bj _ [0]
   intro _ h
   try dsimp only at h
   refine cd h (fun a0 h=>?_) (fun a0 h=>?_)
   ·
    cases h
   cases h
   exact bl [0]
  cases h
  cases p _ rfl
  replace h:=o
  try dsimp only at h
  exact bj _ [0]
 intro _ h
 try dsimp only at h
 cases h
 exact rt [0]
theorem sortStable_c(N:Nat)(x:(List Int))(cmp:(Int→Int→Option Int))(r:(List Int))(h:sortStable N x cmp=some r):Cx Tryz.prog 123 [sO 0,.lf (.pd (fnPd Tryz.prog (fun x:Int×Int=>[sI .i64 x.1,sI .i64 x.2]) (fun r:Int=>[sI .i64 r]) (fun x:Int×Int=>cmp x.1 x.2)))] [.row (rInt .i64) true x] [(0,some (.row (rInt .i64) true r))] []:=by
 unfold sortStable at h
 refine fn tb en123 Tryz.func123 fun X w H ν=>?_
 refine cl none [0] 0 h (stableSort_c N _ _ _) (fun r2 h=>?_)
 cases h
 exact rt [0]
theorem tSolve1_c(N:Nat)(a:Int)(b:Int)(ca:(List TClass))(r:Int)(h:tSolve1 N a b ca=some r):Cx Tryz.prog 124 [sI .i64 a,sI .i64 b,.lf (.pd (ppPd false [.ro rTClass false ca]))] [] [] [sI .i64 r]:=by
 unfold tSolve1 at h
 refine fnv tb (vpp 2) en124 Tryz.func124 fun X w H ν=>?_
 refine dr mixed ?_
 refine ixR h fun x1 h=>?_
 refine ixR h fun c h=>?_
 refine dk ?_
 cases h
 exact rt []
theorem tSolve_c(N:Nat)(p:TProb)(r:((List (List UInt8))×Bool))(h:tSolve N p=some r):Cn Tryz.prog 92 [sA rTProb false p] [.row rStr true r.1] [sO 0,sB r.2]:=by
 unfold tSolve at h
 refine fn tb en92 Tryz.func92 fun X w H ν=>?_
 refine cl none [] 2 h (tgathered_c N _) fun r6 h=>?_
 refine cd h (fun ai h=>?_) (fun ai h=>?_)
 ·
  refine pr (nl 2 rStr) ?_
  cases h
  exact rt [4]
 refine jn (fun x=>(Sum.inl x)) (fun a=>mkS 3 [.box [(.own 1)],.row rTClass true a,.row (rInt .i64) true r6.2.1] [vp 4 0,vo 5 2]) h (fun bn aj k=>?_) ?_
 ·
  refine bk ?_
  refine lp (fun⟨l,m⟩=>mkS 3 [.box [(.own 1)],.row rTClass true l,.row (rInt .i64) true r6.2.1] [vp 4 0,vo 5 2,vi 32 (List.length r6.1:Int),vi 33 m]) aj [3,1,2] ?_
  rintro⟨l,m⟩ oo h n
  rw[tSolve_b1]at h
  refine cd h (fun ak h=>?_) (fun ak h=>?_)
  ·
   refine bk ?_
   refine dr mixed ?_
   refine ixQ h fun bo bp h=>?_
   refine ldO ?_
   refine ixQ h fun bq br h=>?_
   refine ldO ?_
   refine cl none [] 1 h (tfirst_c N _ _) fun bu h=>?_
   refine ixQ h fun bv bw h=>?_
   refine po (fzk 3 [49] []) ?_
   refine stP h (fun bx h=>?_) (by assumption)
   refine dk ?_
   refine ixQ h fun bz c0 h=>?_
   refine ldO ?_
   refine cd h (fun al h=>?_) (fun al h=>?_)
   ·
    refine pr (nl 2 rStr) ?_
    cases h
    cases n _ rfl
    replace h:=k
    try dsimp only at h
    cases h
    exact rt [4]
   cases h
   exact bl [0,1,2]
  cases h
  cases n _ rfl
  replace h:=k
  try dsimp only at h
  exact bj _ [0,1,2]
 intro a h
 try dsimp only at h
 refine mkO (rInt .i64) h fun c1 h=>?_
 refine mkO rBool h fun o h=>?_
 refine jn (fun x=>x) (fun q=>mkS 5 [.box [(.own 1)],.row rTClass true a,.row (rInt .i64) true r6.2.1,.row (rInt .i64) true q,.row rBool true o] [vp 4 0,vo 5 2,vl 8 lN,vo 9 3,vo 10 4]) h (fun c2 am an=>?_) ?_
 ·
  refine bk ?_
  refine lp (fun⟨s,u⟩=>mkS 5 [.box [(.own 1)],.row rTClass true a,.row (rInt .i64) true r6.2.1,.row (rInt .i64) true s,.row rBool true o] [vp 4 0,vo 5 2,vl 8 lN,vo 9 3,vo 10 4,vi 67 (List.length a:Int),vi 68 u]) am [0,1,2,3,4] ?_
  rintro⟨s,u⟩ oo h ao
  rw[tSolve_b2]at h
  refine cd h (fun aq h=>?_) (fun aq h=>?_)
  ·
   refine bk ?_
   refine ixQ h fun c3 c4 h=>?_
   refine ldO ?_
   refine ixO h fun c5 h=>?_
   refine stO true h fun c6 h=>?_
   cases h
   exact bl [0,1,2,3,4]
  cases h
  cases ao _ rfl
  replace h:=an
  try dsimp only at h
  exact bj _ [0,1,2,3,4]
 intro q h
 try dsimp only at h
 refine jn (fun x=>x) (fun⟨c,d⟩=>mkS 5 [.box [(.own 1)],.row rTClass true a,.row (rInt .i64) true r6.2.1,.row (rInt .i64) true c,.row rBool true d] [vp 4 0,vo 5 2,vo 8 3,vo 10 4]) h (fun c7 ar av=>?_) ?_
 ·
  refine bk ?_
  refine ps (nl 8 (rInt .i64)) ?_
  refine lp (fun⟨v,y,a0,a1⟩=>mkS 6 [.box [(.own 1)],.row rTClass true a,.row (rInt .i64) true r6.2.1,.row (rInt .i64) true v,.row (rInt .i64) true y,.row rBool true a0] [vp 4 0,vo 5 2,vo 8 3,vo 9 4,vo 10 5,vb 12 a1]) ar [0,1,2,5,3,4] ?_
  rintro⟨v,y,a0,a1⟩ oo h aw
  rw[tSolve_b3]at h
  refine cd h (fun ax h=>?_) (fun ax h=>?_)
  ·
   refine bk ?_
   refine jn (fun x=>x) (fun⟨a2,a3,a4,a5⟩=>mkS 6 [.box [(.own 1)],.row rTClass true a,.row (rInt .i64) true r6.2.1,.row (rInt .i64) true a2,.row (rInt .i64) true a3,.row rBool true a4] [vp 4 0,vo 5 2,vo 8 3,vo 9 4,vo 10 5,vb 12 a5]) h (fun c8 ay az=>?_) ?_
   ·
    refine bk ?_
    refine lp (fun⟨e,f,g,i,b⟩=>mkS 6 [.box [(.own 1)],.row rTClass true a,.row (rInt .i64) true r6.2.1,.row (rInt .i64) true e,.row (rInt .i64) true f,.row rBool true g] [vp 4 0,vo 5 2,vo 8 3,vo 9 4,vo 10 5,vb 12 i,vi 83 (List.length a:Int),vi 84 b]) ay [0,1,2,3,4,5] ?_
    rintro⟨e,f,g,i,b⟩ oo h b0
    rw[tSolve_b4]at h
    refine cd h (fun b1 h=>?_) (fun b1 h=>?_)
    ·
     refine bk ?_
     refine jn (fun x=>x) (fun a6=>mkS 6 [.box [(.own 1)],.row rTClass true a,.row (rInt .i64) true r6.2.1,.row (rInt .i64) true e,.row (rInt .i64) true f,.row rBool true g] [vp 4 0,vo 5 2,vo 8 3,vo 9 4,vo 10 5,vb 12 i,vi 13 b,vi 83 (List.length a:Int),vi 84 b,vb 104 a6]) h (fun c9 h ca=>?_) ?_
     ·
      refine dr mixed ?_
      refine ixO h fun cb h=>?_
      refine ldO ?_
      refine gd h (fun b2 h=>?_) (fun b2 h=>?_)
      ·
       refine ixQ h fun cc ce h=>?_
       refine ldO ?_
       refine ixO h fun cg h=>?_
       refine ldO ?_
       refine dk ?_
       cases h
       exact bj _ [0,1,2,3,4,5]
      refine dk ?_
      cases h
      exact bj _ [0,1,2,3,4,5]
     intro a6 h
     try dsimp only at h
     refine cd h (fun b3 h=>?_) (fun b3 h=>?_)
     ·
      refine ixO h fun ch h=>?_
      refine stO true h fun a7 h=>?_
      refine litO (rInt .i64) true [b] ?_
      refine apO true h fun a8 h=>?_
      refine ixQ h fun a9 ci h=>?_
      refine ldO ?_
      refine jn (fun x=>x) (fun aa=>mkS 6 [.box [(.own 1)],.row rTClass true a,.row (rInt .i64) true r6.2.1,.row (rInt .i64) true a8,.row (rInt .i64) true aa,.row rBool true a7] [vp 4 0,vo 5 2,vo 8 3,vo 9 4,vo 10 5,vb 12 true,vi 83 (List.length a:Int),vi 84 b]) h (fun cj b4 b5=>?_) ?_
      ·
       refine bk ?_
       refine lp (fun⟨ab,ac⟩=>mkS 6 [.box [(.own 1)],.row rTClass true a,.row (rInt .i64) true r6.2.1,.row (rInt .i64) true a8,.row (rInt .i64) true ab,.row rBool true a7] [vp 4 0,vo 5 2,vo 8 3,vo 9 4,vo 10 5,vb 12 true,vi 83 (List.length a:Int),vi 84 b,vr 116 (rInt .i64) true a9.apart,vi 117 (List.length a9.apart:Int),vi 118 ac]) b4 [0,1,2,7,4,5] ?_
       rintro⟨ab,ac⟩ oo h b6
       rw[tSolve_b5]at h
       refine cd h (fun b7 h=>?_) (fun b7 h=>?_)
       ·
        refine bk ?_
        refine ixR h fun ck h=>?_
        refine ixO h fun co h=>?_
        refine ldO ?_
        refine ixO h fun cp h=>?_
        refine stO true h fun cq h=>?_
        cases h
        exact bl [0,1,2,3,4,5]
       cases h
       cases b6 _ rfl
       replace h:=b5
       try dsimp only at h
       exact bj _ [0,1,2,3,4,5]
      intro aa h
      try dsimp only at h
      cases h
      exact bl [0,1,2,3,4,5]
     cases h
     exact bl [0,1,2,3,4,5]
    cases h
    cases b0 _ rfl
    replace h:=az
    try dsimp only at h
    exact bj _ [0,1,2,3,4,5]
   rintro⟨a2,a3,a4,a5⟩ h
   try dsimp only at h
   cases h
   exact bl [0,1,2,3,4,5]
  cases h
  cases aw _ rfl
  replace h:=av
  try dsimp only at h
  exact bj _ [0,1,2,3,5]
 rintro⟨c,d⟩ h
 try dsimp only at h
 refine jn (fun x=>x) (fun ad=>mkS 5 [.box [(.own 1)],.row rTClass true a,.row (rInt .i64) true r6.2.1,.row (rInt .i64) true c,.row (rInt .i64) true ad] [vp 4 0,vo 5 2,vo 8 3,vo 16 4]) h (fun cr b8 b9=>?_) ?_
 ·
  refine bk ?_
  refine ps (nl 16 (rInt .i64)) ?_
  refine lp (fun⟨ae,j⟩=>mkS 6 [.box [(.own 1)],.row rTClass true a,.row (rInt .i64) true r6.2.1,.row (rInt .i64) true c,.row rBool true d,.row (rInt .i64) true ae] [vp 4 0,vo 5 2,vo 8 3,vo 10 4,vo 16 5,vi 131 (List.length a:Int),vi 132 j]) b8 [0,1,2,3,4,5] ?_
  rintro⟨ae,j⟩ oo h ba
  rw[tSolve_b6]at h
  refine cd h (fun bb h=>?_) (fun bb h=>?_)
  ·
   refine bk ?_
   refine ixO h fun cs h=>?_
   refine ldO ?_
   refine cd h (fun bc h=>?_) (fun bc h=>?_)
   ·
    refine litO (rInt .i64) true [j] ?_
    refine apO true h fun ct h=>?_
    cases h
    exact bl [0,1,2,3,4,7]
   cases h
   exact bl [0,1,2,3,4,5]
  cases h
  cases ba _ rfl
  replace h:=b9
  try dsimp only at h
  exact bj _ [0,1,2,3,5]
 intro ad h
 try dsimp only at h
 refine po (fzk 1 [] [0]) ?_
 refine po (fzb 0 4) ?_
 refine mkF (fun x:Int×Int=>[sI .i64 x.1,sI .i64 x.2]) (fun r:Int=>[sI .i64 r]) (fun x=>tSolve1 N x.1 x.2 a) (fun x r h=>tSolve1_c N x.1 x.2 a r h) en124 ?_
 refine cl none [4] 0 h (sortStable_c N _ _) (fun cu h=>?_)
 refine cl none [3] 0 h (revInt_c N _) (fun cv h=>?_)
 refine dr mixed ?_
 refine apO true h fun cw h=>?_
 refine mkO rStr h fun cx h=>?_
 refine mkO rBool h fun cy h=>?_
 refine cl none [6,7] 0 h (tchoose_c N _ _ _ _) (fun bd h=>?_) (h2:=by rintro⟨_|_,_⟩<;>rfl)
 refine dk ?_
 refine cd h (fun be h=>?_) (fun be h=>?_)
 ·
  refine pr (nl 2 rStr) ?_
  cases h
  exact rt [8]
 obtain⟨_,bf,h⟩:=bind_some h
 refine po (alV 18 (chk_some bf)) ?_
 refine mkO rStr h fun cz h=>?_
 refine jn (fun x=>x) (fun af=>mkS 1 [.row rStr true af] [vo 20 0]) h (fun d0 bg bh=>?_) ?_
 ·
  refine bk ?_
  refine lp (fun⟨ag,ah⟩=>mkS 3 [.row rStr true bd.2.2.1,.row rStr true ag,.row (rInt .i64) true r6.2.1] [vo 18 0,vo 20 1,vo 169 2,vi 170 (List.length r6.2.1:Int),vi 171 ah]) bg [6,8,2] ?_
  rintro⟨ag,ah⟩ oo h bi
  rw[tSolve_b7]at h
  refine cd h (fun bm h=>?_) (fun bm h=>?_)
  ·
   refine bk ?_
   refine ixO h fun d1 h=>?_
   refine ldO ?_
   refine ixO h fun d2 h=>?_
   refine ldO ?_
   refine ixO h fun d3 h=>?_
   refine stO true h fun d4 h=>?_
   cases h
   exact bl [0,1,2]
  cases h
  cases bi _ rfl
  replace h:=bh
  try dsimp only at h
  exact bj _ [1]
 intro af h
 try dsimp only at h
 cases h
 exact rt [0]
end Go.Proofs.YtcakdidcpoolcaaGreatDoor.ST

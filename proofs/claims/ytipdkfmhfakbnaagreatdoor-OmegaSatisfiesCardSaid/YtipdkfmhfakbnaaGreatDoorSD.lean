/- Walks of the symbolic machine, written by a program of mine (wip/tool). -/
import Derived.Test.YtipdkfmhfakbnaaGreatDoorTB
import Derived.Test.YtipdkfmhfakbnaaGreatDoorAd
import Derived.Test.YtipdkfmhfakbnaaGreatDoorSR
set_option linter.unusedVariables false
set_option linter.unusedSimpArgs false
set_option linter.unusedSectionVars false
set_option maxRecDepth 100000
set_option maxHeartbeats 4000000
namespace Go.Proofs.YtipdkfmhfakbnaaGreatDoor.SD
open Go Go.RowKit Go.X Go.Q Go.D Go.Proofs.YtipdkfmhfakbnaaGreatDoor.TB Go.Proofs.YtipdkfmhfakbnaaGreatDoor.FS Go.Proofs.YtipdkfmhfakbnaaGreatDoor.SR
theorem rzero_c(N:Nat)(n:Int)(r:Ineq)(h:rzero N n=some r):Cn Tryz.prog 128 [sI .i64 n] [.row rBig true r.Coefs,.row (rInt .u32) true r.Bound.Digits] [.agg [.own 0,lB r.Bound.Negative,.own 1]]:=by
 unfold rzero at h
 refine fn tb en128 Tryz.func128 fun X w H ν=>?_
 refine mkO rBig h fun x7 h=>?_
 refine pr (nb 0 2 (rInt .u32)) ?_
 cases h
 exact rt [1,2]
theorem rRight_c(N:Nat)(c:Constraint)(n:Int)(r:Bool)(h:rRight N c n=some r):Cn Tryz.prog 52 [sA rConstraint false c,sI .i64 n] [] [sB r]:=by
 unfold rRight at h
 refine fn tb en52 Tryz.func52 fun X w H ν=>?_
 refine jn (fun x=>(Sum.inl x)) (fun(_:Unit)=>mkS 0 [] [vi 1 n]) h (fun o f b=>?_) ?_
 refine bk ?_
 refine lp (fun a=>mkS 1 [.box (Opn.cl rConstraint false c)] [vi 1 n,vp 2 0,vi 5 a]) f [0] ?_
 rintro a oo h d
 rw[rRight_b1]at h
 refine cd h (fun g h=>?_) (fun g h=>?_)
 refine bk ?_
 refine ixR h fun p h=>?_
 refine jn (fun x=>x) (fun e=>mkS 1 [.box (Opn.cl rConstraint false c)] [vi 1 n,vp 2 0,vi 5 a,vb 44 e]) h (fun q h s=>?_) ?_
 refine rg ?_
 refine gd h (fun i h=>?_) (fun i h=>?_)
 cases h
 exact bj _ [0]
 refine gd h (fun j h=>?_) (fun j h=>?_)
 cases h
 exact bj _ [0]
 refine gd h (fun k h=>?_) (fun k h=>?_)
 refine ixR h fun u h=>?_
 cases h
 exact bj _ [0]
 cases h
 exact bj _ [0]
 intro e h
 try dsimp only at h
 refine cd h (fun l h=>?_) (fun l h=>?_)
 cases h
 cases d _ rfl
 replace h:=b
 try dsimp only at h
 cases h
 exact rt []
 cases h
 exact bl [0]
 cases h
 cases d _ rfl
 replace h:=b
 try dsimp only at h
 exact bj _ []
 intro _ h
 try dsimp only at h
 refine rg ?_
 refine gd h (fun m h=>?_) (fun m h=>?_)
 cases h
 exact rt []
 cases h
 exact rt []
theorem rflip_c(N:Nat)(q:Ineq)(bound:Big)(r:Ineq)(h:rflip N q bound=some r):Cn Tryz.prog 102 [sA rIneq false q,sA rBig false bound] [] [sA rIneq true r]:=by
 unfold rflip at h
 refine fn tb en102 Tryz.func102 fun X w H ν=>?_
 refine cl none [] 0 h (rNormal_c N _) fun a h=>?_
 refine jn (fun x=>x) (fun b=>mkS 3 [.box [lN,(lB false),lN],.box [(.own 2),(lB a.Negative),(.ro (rInt .u32) true a.Digits)],.row rBig true b] [vp 4 0,vp 5 1]) h (fun k e f=>?_) ?_
 refine bk ?_
 refine ps (nb 3 0 rBig) ?_
 refine lp (fun⟨c,d⟩=>mkS 4 [.box (Opn.cl rIneq false q),.box [lN,(lB false),lN],.box [(.own 3),(lB a.Negative),(.ro (rInt .u32) true a.Digits)],.row rBig true c] [vp 2 0,vp 4 1,vp 5 2,vi 6 d]) e [0,2,3,4] ?_
 rintro⟨c,d⟩ oo h g
 rw[rflip_b1]at h
 refine cd h (fun i h=>?_) (fun i h=>?_)
 refine bk ?_
 refine dr mixed ?_
 refine ixR h fun l h=>?_
 refine cl none [] 0 h (rNeg_c N _) fun j h=>?_
 refine litO rBig true [j] ?_
 refine apO true h fun m h=>?_
 refine dk ?_
 cases h
 exact bl [0,1,2,5]
 cases h
 cases g _ rfl
 replace h:=f
 try dsimp only at h
 exact bj _ [1,2,3]
 intro b h
 try dsimp only at h
 cases h
 exact rt []
theorem rIOf_c(N:Nat)(c:Constraint)(n:Int)(r:(List Ineq))(h:rIOf N c n=some r):Cn Tryz.prog 103 [sA rConstraint false c,sI .i64 n] [.row rIneq true r] [sO 0]:=by
 unfold rIOf at h
 refine fn tb en103 Tryz.func103 fun X w H ν=>?_
 refine cl none [] 0 h (rRight_c N _ _) fun r6 h=>?_
 refine cd h (fun g h=>?_) (fun g h=>?_)
 refine pr (nl 4 rIneq) ?_
 cases h
 exact rt [1]
 refine cl none [] 2 h (rzero_c N _) fun a h=>?_
 refine jn (fun x=>x) (fun b=>mkS 4 [.box (Opn.cl rConstraint false c),.box [(.own 2),(lB a.Bound.Negative),(.own 3)],.row rBig true b,.row (rInt .u32) true a.Bound.Digits] [vp 2 0,vp 5 1]) h (fun p i j=>?_) ?_
 refine bk ?_
 refine lp (fun⟨d,e⟩=>mkS 4 [.box (Opn.cl rConstraint false c),.box [(.own 2),(lB a.Bound.Negative),(.own 3)],.row rBig true d,.row (rInt .u32) true a.Bound.Digits] [vp 2 0,vp 5 1,vi 6 e]) i [0,3,1,2] ?_
 rintro⟨d,e⟩ oo h k
 rw[rIOf_b1]at h
 refine cd h (fun l h=>?_) (fun l h=>?_)
 refine bk ?_
 refine dr mixed ?_
 refine ixR h fun q h=>?_
 refine ixR h fun s h=>?_
 refine cl none [] 0 h (rOf_c N _) fun u h=>?_
 refine ixQ h fun v y h=>?_
 refine stO true h fun a0 h=>?_
 refine dk ?_
 cases h
 exact bl [0,1,2,3]
 cases h
 cases k _ rfl
 replace h:=j
 try dsimp only at h
 exact bj _ [0,1,2,3]
 intro b h
 try dsimp only at h
 refine cl none [] 0 h (rOf_c N _) fun a1 h=>?_
 refine cl none [] 0 h (rNeg_c N _) fun f h=>?_
 refine cd h (fun m h=>?_) (fun m h=>?_)
 refine po (fzk 2 [50] [1]) ?_
 refine litO rIneq true [(Ineq.mk b f)] ?_
 cases h
 exact rt [5]
 refine dr mixed ?_
 refine cl none [] 0 h (rflip_c N _ _) fun o h=>?_
 refine po (fzk 2 [52,53] [1]) ?_
 refine litO rIneq true [(Ineq.mk b f),o] ?_
 refine dk ?_
 cases h
 exact rt [5]
theorem rSystem_c(N:Nat)(l:(List Constraint))(n:Int)(r:(List Ineq))(h:rSystem N l n=some r):Cn Tryz.prog 71 [sR rConstraint false l,sI .i64 n] [.row rIneq true r] [sO 0]:=by
 unfold rSystem at h
 refine fn tb en71 Tryz.func71 fun X w H ν=>?_
 refine litZ rIneq ?_
 refine jn (fun x=>(Sum.inl x)) (fun a=>mkS 1 [.row rIneq true a] [vo 5 0]) h (fun j f b=>?_) ?_
 refine bk ?_
 refine lp (fun⟨c,d⟩=>mkS 1 [.row rIneq true c] [vr 0 rConstraint false l,vi 1 n,vo 5 0,vi 6 d]) f [0] ?_
 rintro⟨c,d⟩ oo h e
 rw[rSystem_b1]at h
 refine cd h (fun g h=>?_) (fun g h=>?_)
 refine bk ?_
 refine ixR h fun k h=>?_
 refine cl none [] 0 h (rRight_c N _ _) fun m h=>?_
 refine cd h (fun i h=>?_) (fun i h=>?_)
 refine pr (nl 4 rIneq) ?_
 cases h
 cases e _ rfl
 replace h:=b
 try dsimp only at h
 cases h
 exact rt [1]
 refine ixR h fun o h=>?_
 refine cl none [] 1 h (rIOf_c N _ _) fun p h=>?_
 refine apO true h fun q h=>?_
 cases h
 exact bl [2]
 cases h
 cases e _ rfl
 replace h:=b
 try dsimp only at h
 exact bj _ [0]
 intro a h
 try dsimp only at h
 cases h
 exact rt [0]
theorem rEven_c(N:Nat)(l:(List Ineq))(r:Bool)(h:rEven N l=some r):Cn Tryz.prog 99 [sR rIneq false l] [] [sB r]:=by
 unfold rEven at h
 refine fn tb en99 Tryz.func99 fun X w H ν=>?_
 refine jn (fun x=>(Sum.inl x)) (fun(_:Unit)=>mkS 0 [] []) h (fun g d a=>?_) ?_
 refine bk ?_
 refine lp (fun b=>mkS 0 [] [vr 0 rIneq false l,vi 3 b]) d [] ?_
 rintro b oo h c
 rw[rEven_b1]at h
 refine cd h (fun e h=>?_) (fun e h=>?_)
 refine bk ?_
 refine dr mixed ?_
 refine ixR h fun i h=>?_
 refine ixR h fun j h=>?_
 refine dk ?_
 refine cd h (fun f h=>?_) (fun f h=>?_)
 cases h
 cases c _ rfl
 replace h:=a
 try dsimp only at h
 cases h
 exact rt []
 cases h
 exact bl []
 cases h
 cases c _ rfl
 replace h:=a
 try dsimp only at h
 exact bj _ []
 intro _ h
 try dsimp only at h
 cases h
 exact rt []
theorem rApply_c(N:Nat)(l:(List Ineq))(s:Step)(r:(Ineq×Bool))(h:rApply N l s=some r):Cn Tryz.prog 100 [sR rIneq false l,sA rStep false s] [] [sA rIneq true r.1,sB r.2]:=by
 unfold rApply at h
 refine fn tb en100 Tryz.func100 fun X w H ν=>?_
 refine jn (fun x=>x) (fun j=>mkS 2 [.box (Opn.cl rStep false s),.box [lN,(lB false),lN]] [vr 0 rIneq false l,vp 3 0,vp 4 1,vb 24 j]) h (fun aj h ak=>?_) ?_
 refine rg ?_
 refine cl none [] 0 h (rEven_c N _) fun al h=>?_
 refine gd h (fun a4 h=>?_) (fun a4 h=>?_)
 cases h
 exact bj _ [0,1]
 refine cl none [] 0 h (rSign_c N _) fun am h=>?_
 cases h
 exact bj _ [0,1]
 intro j h
 try dsimp only at h
 refine cd h (fun a5 h=>?_) (fun a5 h=>?_)
 cases h
 exact rt []
 refine jn (fun x=>x) (fun a=>mkS 2 [.box (Opn.cl rStep false s),.box [lN,(lB false),lN]] [vr 0 rIneq false l,vp 3 0,vp 4 1,vi 6 a]) h (fun an h ao=>?_) ?_
 refine cd h (fun a6 h=>?_) (fun a6 h=>?_)
 refine ixR h fun aq h=>?_
 cases h
 exact bj _ [0,1]
 cases h
 exact bj _ [0,1]
 intro a h
 try dsimp only at h
 refine cl none [] 2 h (rzero_c N _) fun ar h=>?_
 refine jn (fun x=>(Sum.inl x)) (fun⟨k,e,f⟩=>mkS 4 [.box (Opn.cl rStep false s),.box [lN,(lB false),lN],.box [(.own 3),(lB e),(.ro (rInt .u32) true f)],.row rBig true k] [vp 3 0,vp 4 1,vi 6 a,vp 7 2]) h (fun av a7 m=>?_) ?_
 refine bk ?_
 refine lp (fun⟨g,b,c,d⟩=>mkS 4 [.box (Opn.cl rStep false s),.box [lN,(lB false),lN],.box [(.own 3),(lB b),(.ro (rInt .u32) true c)],.row rBig true g] [vr 0 rIneq false l,vp 3 0,vp 4 1,vi 6 a,vp 7 2,vi 8 d]) a7 [0,1,4,2] ?_
 rintro⟨g,b,c,d⟩ oo h n
 rw[rApply_b1]at h
 refine cd h (fun a8 h=>?_) (fun a8 h=>?_)
 refine bk ?_
 refine ixR h fun i h=>?_
 refine jn (fun x=>x) (fun o=>mkS 5 [.box (Opn.cl rStep false s),.box [lN,(lB false),lN],.box [(.own 3),(lB b),(.ro (rInt .u32) true c)],.row rBig true g,.box (Opn.cl rUse false i)] [vr 0 rIneq false l,vp 3 0,vp 4 1,vi 6 a,vp 7 2,vi 8 d,vp 9 4,vb 63 o]) h (fun aw h ax=>?_) ?_
 refine rg ?_
 refine gd h (fun a9 h=>?_) (fun a9 h=>?_)
 cases h
 exact bj _ [0,1,2,3,4]
 refine gd h (fun aa h=>?_) (fun aa h=>?_)
 cases h
 exact bj _ [0,1,2,3,4]
 refine cl none [] 0 h (rSign_c N _) fun ay h=>?_
 cases h
 exact bj _ [0,1,2,3,4]
 intro o h
 try dsimp only at h
 refine cd h (fun ab h=>?_) (fun ab h=>?_)
 cases h
 cases n _ rfl
 replace h:=m
 try dsimp only at h
 cases h
 exact rt []
 refine ixR h fun p h=>?_
 refine jn (fun x=>x) (fun q=>mkS 6 [.box (Opn.cl rStep false s),.box [lN,(lB false),lN],.box [(.own 3),(lB b),(.ro (rInt .u32) true c)],.row rBig true q,.box (Opn.cl rUse false i),.box (Opn.cl rIneq false p)] [vr 0 rIneq false l,vp 3 0,vp 4 1,vi 6 a,vp 7 2,vi 8 d,vp 9 4,vp 10 5]) h (fun az ac ad=>?_) ?_
 refine bk ?_
 refine lp (fun⟨u,v⟩=>mkS 6 [.box (Opn.cl rStep false s),.box [lN,(lB false),lN],.box [(.own 3),(lB b),(.ro (rInt .u32) true c)],.row rBig true u,.box (Opn.cl rUse false i),.box (Opn.cl rIneq false p)] [vr 0 rIneq false l,vp 3 0,vp 4 1,vi 6 a,vp 7 2,vi 8 d,vp 9 4,vp 10 5,vi 11 v]) ac [0,1,2,3,4,5] ?_
 rintro⟨u,v⟩ oo h ae
 rw[rApply_b2]at h
 refine cd h (fun af h=>?_) (fun af h=>?_)
 refine bk ?_
 refine dr mixed ?_
 refine ixQ h fun b0 b1 h=>?_
 refine ldO ?_
 refine ixR h fun b2 h=>?_
 refine cl none [] 0 h (rMul_c N _ _) fun b3 h=>?_
 refine cl none [] 0 h (rAdd_c N _ _) fun b4 h=>?_
 refine ixQ h fun b5 b6 h=>?_
 refine stO true h fun b7 h=>?_
 refine dk ?_
 cases h
 exact bl [0,1,2,3,4,5]
 cases h
 cases ae _ rfl
 replace h:=ad
 try dsimp only at h
 exact bj _ [0,1,2,3,4,5]
 intro q h
 try dsimp only at h
 refine dr mixed ?_
 refine cl none [] 0 h (rMul_c N _ _) fun b8 h=>?_
 refine cl none [] 0 h (rAdd_c N _ _) fun b9 h=>?_
 refine dk ?_
 cases h
 exact bl [0,1,2,3]
 cases h
 cases n _ rfl
 replace h:=m
 try dsimp only at h
 exact bj _ [0,1,2,3]
 rintro⟨k,e,f⟩ h
 try dsimp only at h
 refine jn (fun x=>(Sum.inl x)) (fun y=>mkS 4 [.box (Opn.cl rStep false s),.box [lN,(lB false),lN],.box [(.own 3),(lB e),(.ro (rInt .u32) true f)],.row rBig true y] [vp 3 0,vp 4 1,vp 7 2]) h (fun ba ag a0=>?_) ?_
 refine bk ?_
 refine lp (fun⟨a1,a2⟩=>mkS 4 [.box (Opn.cl rStep false s),.box [lN,(lB false),lN],.box [(.own 3),(lB e),(.ro (rInt .u32) true f)],.row rBig true a1] [vp 3 0,vp 4 1,vi 6 a,vp 7 2,vi 12 a2]) ag [0,1,2,3] ?_
 rintro⟨a1,a2⟩ oo h a3
 rw[rApply_b3]at h
 refine cd h (fun ah h=>?_) (fun ah h=>?_)
 refine bk ?_
 refine dr mixed ?_
 refine ixQ h fun bb bc h=>?_
 refine ldO ?_
 refine cl none [] 0 h (rDivFloor_c N _ _) fun bd h=>?_
 refine dk ?_
 refine cl none [] 0 h (rSign_c N _) fun be h=>?_
 refine cd h (fun ai h=>?_) (fun ai h=>?_)
 cases h
 cases a3 _ rfl
 replace h:=a0
 try dsimp only at h
 cases h
 exact rt []
 refine ixQ h fun bf bg h=>?_
 refine stO true h fun bh h=>?_
 cases h
 exact bl [0,1,2,3]
 cases h
 cases a3 _ rfl
 replace h:=a0
 try dsimp only at h
 exact bj _ [0,1,2,3]
 intro y h
 try dsimp only at h
 refine cl none [] 0 h (rDivFloor_c N _ _) fun bi h=>?_
 cases h
 exact rt []
theorem rBad_c(N:Nat)(q:Ineq)(r:Bool)(h:rBad N q=some r):Cn Tryz.prog 101 [sA rIneq false q] [] [sB r]:=by
 unfold rBad at h
 refine fn tb en101 Tryz.func101 fun X w H ν=>?_
 refine jn (fun x=>(Sum.inl x)) (fun(_:Unit)=>mkS 1 [.box (Opn.cl rIneq false q)] [vp 1 0]) h (fun g d a=>?_) ?_
 refine bk ?_
 refine lp (fun b=>mkS 1 [.box (Opn.cl rIneq false q)] [vp 1 0,vi 3 b]) d [0] ?_
 rintro b oo h c
 rw[rBad_b1]at h
 refine cd h (fun e h=>?_) (fun e h=>?_)
 refine bk ?_
 refine ixR h fun i h=>?_
 refine cl none [] 0 h (rSign_c N _) fun j h=>?_
 refine cd h (fun f h=>?_) (fun f h=>?_)
 cases h
 cases c _ rfl
 replace h:=a
 try dsimp only at h
 cases h
 exact rt []
 cases h
 exact bl [0]
 cases h
 cases c _ rfl
 replace h:=a
 try dsimp only at h
 exact bj _ [0]
 intro _ h
 try dsimp only at h
 refine cl none [] 0 h (rSign_c N _) fun k h=>?_
 cases h
 exact rt []
theorem rCheck_c(N:Nat):∀(l:(List Ineq)) (p:Proof) (r:Bool) (h:rCheck N l p=some r),Cn Tryz.prog 70 [sR rIneq false l,sA rProof false p] [] [sB r]:=by
 induction N with
 |zero=>intro l p r h;cases h
 |succ N ih=>
  intro l p r h
  replace h:rCheck_step N (rCheck N) l p=some r:=h
  unfold rCheck_step at h
  refine fn tb en70 Tryz.func70 fun X w H ν=>?_
  refine cl none [] 0 h (rEven_c N _) fun r6 h=>?_
  refine cd h (fun k h=>?_) (fun k h=>?_)
  cases h
  exact rt []
  refine litZ rIneq ?_
  refine apO false h fun a5 h=>?_
  refine jn (fun x=>(Sum.inl x)) (fun a=>mkS 2 [.box (Opn.cl rProof false p),.row rIneq false a] [vp 3 0,vo 5 1]) h (fun a6 m b=>?_) ?_
  refine bk ?_
  refine lp (fun⟨c,d⟩=>mkS 2 [.box (Opn.cl rProof false p),.row rIneq false c] [vp 3 0,vo 5 1,vi 6 d]) m [0,2] ?_
  rintro⟨c,d⟩ oo h e
  rw[rCheck_b1]at h
  refine cd h (fun n h=>?_) (fun n h=>?_)
  refine bk ?_
  refine ixR h fun a7 h=>?_
  refine cl none [] 0 h (rApply_c N _ _) fun o h=>?_
  refine cd h (fun q h=>?_) (fun q h=>?_)
  cases h
  cases e _ rfl
  replace h:=b
  try dsimp only at h
  cases h
  exact rt []
  refine litO rIneq true [o.1] ?_
  refine apO false h fun a8 h=>?_
  cases h
  exact bl [0,4]
  cases h
  cases e _ rfl
  replace h:=b
  try dsimp only at h
  exact bj _ [0,1]
  intro a h
  try dsimp only at h
  refine cd h (fun s h=>?_) (fun s h=>?_)
  refine jn (fun x=>(Sum.inl x)) (fun(_:Unit)=>mkS 0 [] []) h (fun a9 u f=>?_) ?_
  refine bk ?_
  refine lp (fun g=>mkS 1 [.row rIneq false a] [vo 5 0,vi 9 g]) u [1] ?_
  rintro g oo h i
  rw[rCheck_b2]at h
  refine cd h (fun v h=>?_) (fun v h=>?_)
  refine bk ?_
  refine ixQ h fun aa ab h=>?_
  refine ldO ?_
  refine cl none [] 0 h (rBad_c N _) fun ac h=>?_
  refine cd h (fun y h=>?_) (fun y h=>?_)
  cases h
  cases i _ rfl
  replace h:=f
  try dsimp only at h
  cases h
  exact rt []
  cases h
  exact bl [0]
  cases h
  cases i _ rfl
  replace h:=f
  try dsimp only at h
  exact bj _ []
  intro _ h
  try dsimp only at h
  cases h
  exact rt []
  refine jn (fun x=>x) (fun j=>mkS 2 [.box (Opn.cl rProof false p),.row rIneq false a] [vp 3 0,vo 5 1,vb 77 j]) h (fun ad h ae=>?_) ?_
  refine dr mixed ?_
  refine gd h (fun a0 h=>?_) (fun a0 h=>?_)
  refine dk ?_
  cases h
  exact bj _ [0,1]
  refine gd h (fun a1 h=>?_) (fun a1 h=>?_)
  refine ixQ h fun af ag h=>?_
  refine ldO ?_
  refine dk ?_
  cases h
  exact bj _ [0,1]
  refine dk ?_
  cases h
  exact bj _ [0,1]
  intro j h
  try dsimp only at h
  refine cd h (fun a2 h=>?_) (fun a2 h=>?_)
  cases h
  exact rt []
  refine dr mixed ?_
  refine cl none [] 0 h (rNeg_c N _) fun ah h=>?_
  refine cl none [] 0 h (rOf_c N _) fun ai h=>?_
  refine cl none [] 0 h (rSub_c N _ _) fun aj h=>?_
  refine cl none [] 0 h (rflip_c N _ _) fun a3 h=>?_
  refine dk ?_
  refine dr mixed ?_
  refine litZ rIneq ?_
  refine apO false h fun ak h=>?_
  refine litO rIneq false [(Ineq.mk p.Form p.Bound)] ?_
  refine apO false h fun al h=>?_
  refine dk ?_
  refine dr mixed ?_
  refine litZ rIneq ?_
  refine apO false h fun am h=>?_
  refine litO rIneq true [a3] ?_
  refine apO false h fun an h=>?_
  refine dk ?_
  refine rg ?_
  refine ixR h fun ao h=>?_
  refine cl none [] 0 h (ih _ _) fun aq h=>?_
  refine gd h (fun a4 h=>?_) (fun a4 h=>?_)
  refine ixR h fun ar h=>?_
  refine cl none [] 0 h (ih _ _) fun av h=>?_
  cases h
  exact rt []
  cases h
  exact rt []
end Go.Proofs.YtipdkfmhfakbnaaGreatDoor.SD

/- Walks of the symbolic machine, written by a program of mine (wip/tool). -/
import Derived.Test.YtcakdidcpoolcaaGreatDoorTB
import Derived.Test.YtcakdidcpoolcaaGreatDoorAd
import Derived.Test.YtcakdidcpoolcaaGreatDoorSD
import Derived.Test.YtcakdidcpoolcaaGreatDoorSH
set_option linter.unusedVariables false
set_option linter.unusedSimpArgs false
set_option linter.unusedSectionVars false
set_option maxRecDepth 100000
set_option maxHeartbeats 4000000
namespace Go.Proofs.YtcakdidcpoolcaaGreatDoor.SU
open Go Go.RowKit Go.X Go.Q Go.D Go.Proofs.YtcakdidcpoolcaaGreatDoor.TB Go.Proofs.YtcakdidcpoolcaaGreatDoor.SD Go.Proofs.YtcakdidcpoolcaaGreatDoor.SH
theorem wRanges_c(N:Nat)(l:(List RVar))(r:(List Arr2Int))(h:wRanges N l=some r):Cn Tryz.prog 26 [sR rRVar false l] [.row rArr2Int true r] [sO 0]:=by
 unfold wRanges at h
 refine fn tb en26 Tryz.func26 fun X w H ν=>?_
 refine jn (fun x=>x) (fun d=>mkS 1 [.row rArr2Int true d] [vo 3 0]) h (fun k e f=>?_) ?_
 refine bk ?_
 refine ps (nl 3 rArr2Int) ?_
 refine lp (fun⟨a,b⟩=>mkS 1 [.row rArr2Int true a] [vr 0 rRVar false l,vo 3 0,vi 4 b]) e [0] ?_
 rintro⟨a,b⟩ oo h g
 rw[wRanges_b1]at h
 refine cd h (fun i h=>?_) (fun i h=>?_)
 refine bk ?_
 refine ixR h fun m h=>?_
 refine jn (fun x=>x) (fun c=>mkS 2 [.row rArr2Int true a,.box (Opn.cl rArr2Int true c)] [vr 0 rRVar false l,vo 3 0,vi 4 b,vp 5 1]) h (fun n h o=>?_) ?_
 refine cd h (fun j h=>?_) (fun j h=>?_)
 refine ixR h fun p h=>?_
 cases h
 exact bj _ [0,1]
 cases h
 exact bj _ [0,1]
 intro c h
 try dsimp only at h
 refine litO rArr2Int true [c] ?_
 refine apO true h fun q h=>?_
 cases h
 exact bl [3]
 cases h
 cases g _ rfl
 replace h:=f
 try dsimp only at h
 exact bj _ [0]
 intro d h
 try dsimp only at h
 cases h
 exact rt [0]
theorem whas_c(N:Nat)(l:(List Int))(n:Int)(r:Bool)(h:whas N l n=some r):Cn Tryz.prog 62 [sR (rInt .i64) false l,sI .i64 n] [] [sB r]:=by
 unfold whas at h
 refine fn tb en62 Tryz.func62 fun X w H ν=>?_
 refine jn (fun x=>(Sum.inl x)) (fun(_:Unit)=>mkS 0 [] []) h (fun g d a=>?_) ?_
 refine bk ?_
 refine lp (fun b=>mkS 0 [] [vr 0 (rInt .i64) false l,vi 1 n,vi 5 b]) d [] ?_
 rintro b oo h c
 rw[whas_b1]at h
 refine cd h (fun e h=>?_) (fun e h=>?_)
 refine bk ?_
 refine ixR h fun i h=>?_
 refine cd h (fun f h=>?_) (fun f h=>?_)
 cases h
 cases c _ rfl
 replace h:=a
 try dsimp only at h
 cases h
 exact rt []
 cases h
 exact bl []
 cases h
 cases c _ rfl
 replace h:=a
 try dsimp only at h
 exact bj _ []
 intro _ h
 try dsimp only at h
 cases h
 exact rt []
theorem watMost_c(N:Nat)(pa:Int)(n:Int)(c:Int)(r:Constraint)(h:watMost N pa n c=some r):Cn Tryz.prog 43 [sI .i64 pa,sI .i64 n,sI .i64 c] [] [sA rConstraint true r]:=by
 unfold watMost at h
 refine fn tb en43 Tryz.func43 fun X w H ν=>?_
 refine litO rCoef true [(Coef.mk pa n)] ?_
 cases h
 exact rt []
theorem wscaled_c(N:Nat)(f:Linear)(n:Int)(more:Coef)(r:(List Coef))(h:wscaled N f n more=some r):Cn Tryz.prog 45 [sA rLinear false f,sI .i64 n,sA rCoef false more] [.row rCoef true r] [sO 0]:=by
 unfold wscaled at h
 refine fn tb en45 Tryz.func45 fun X w H ν=>?_
 refine jn (fun x=>x) (fun a=>mkS 2 [.box (Opn.cl rCoef true more),.row rCoef true a] [vp 5 0,vo 7 1]) h (fun l d e=>?_) ?_
 refine bk ?_
 refine ps (nl 7 rCoef) ?_
 refine lp (fun⟨b,c⟩=>mkS 3 [.box (Opn.cl rLinear false f),.box (Opn.cl rCoef true more),.row rCoef true b] [vi 1 n,vp 3 0,vp 5 1,vo 7 2,vi 8 c]) d [0,1,2] ?_
 rintro⟨b,c⟩ oo h g
 rw[wscaled_b1]at h
 refine cd h (fun i h=>?_) (fun i h=>?_)
 refine bk ?_
 refine dr mixed ?_
 refine ixR h fun j h=>?_
 refine ixR h fun k h=>?_
 refine litO rCoef true [(Coef.mk j.Var (iw (n*k.N)))] ?_
 refine apO true h fun m h=>?_
 refine dk ?_
 cases h
 exact bl [0,1,4]
 cases h
 cases g _ rfl
 replace h:=e
 try dsimp only at h
 exact bj _ [1,2]
 intro a h
 try dsimp only at h
 refine litO rCoef true [more] ?_
 refine apO true h fun o h=>?_
 cases h
 exact rt [3]
theorem whigh_c(N:Nat)(l:(List RVar))(ranges:(List Arr2Int))(pc:Int)(r:Int)(h:whigh N l ranges pc=some r):Cn Tryz.prog 44 [sR rRVar false l,sR rArr2Int false ranges,sI .i64 pc] [] [sI .i64 r]:=by
 unfold whigh at h
 refine fn tb en44 Tryz.func44 fun X w H ν=>?_
 refine dr mixed ?_
 refine ixR h fun x1 h=>?_
 refine ixR h fun b h=>?_
 refine dk ?_
 refine cd h (fun a h=>?_) (fun a h=>?_)
 refine ixR h fun c h=>?_
 cases h
 exact rt []
 refine ixR h fun d h=>?_
 cases h
 exact rt []
theorem wInts_c(N:Nat)(l:(List RVar))(c:RClause)(ranges:(List Arr2Int))(r:(List Constraint))(h:wInts N l c ranges=some r):Cn Tryz.prog 14 [sR rRVar false l,sA rRClause false c,sR rArr2Int false ranges] [.row rConstraint false r] [sO 0]:=by
 unfold wInts at h
 refine fn tb en14 Tryz.func14 fun X w H ν=>?_
 refine jn (fun x=>x) (fun b=>mkS 2 [.box (Opn.cl rRClause false c),.row rConstraint true b] [vr 0 rRVar false l,vr 2 rArr2Int false ranges,vp 4 0,vo 7 1]) h (fun a5 j k=>?_) ?_
 refine bk ?_
 refine ps (nl 7 rConstraint) ?_
 refine lp (fun⟨d,e⟩=>mkS 2 [.box (Opn.cl rRClause false c),.row rConstraint true d] [vr 0 rRVar false l,vr 2 rArr2Int false ranges,vp 4 0,vo 7 1,vi 8 e]) j [0,1] ?_
 rintro⟨d,e⟩ oo h m
 rw[wInts_b1]at h
 refine cd h (fun n h=>?_) (fun n h=>?_)
 refine bk ?_
 refine ixR h fun a6 h=>?_
 refine ixR h fun a7 h=>?_
 refine cd h (fun o h=>?_) (fun o h=>?_)
 refine dr mixed ?_
 refine ixR h fun a8 h=>?_
 refine cl none [] 0 h (watMost_c N _ _ _) fun p h=>?_
 refine ixR h fun a9 h=>?_
 refine cl none [] 0 h (watMost_c N _ _ _) fun q h=>?_
 refine litO rConstraint true [p,q] ?_
 refine apO true h fun aa h=>?_
 refine dk ?_
 cases h
 exact bl [0,3]
 cases h
 exact bl [0,1]
 cases h
 cases m _ rfl
 replace h:=k
 try dsimp only at h
 exact bj _ [0,1]
 intro b h
 try dsimp only at h
 refine jn (fun x=>x) (fun f=>mkS 2 [.box (Opn.cl rRClause false c),.row rConstraint true f] [vp 4 0,vo 7 1]) h (fun ab s u=>?_) ?_
 refine bk ?_
 refine lp (fun⟨g,i⟩=>mkS 2 [.box (Opn.cl rRClause false c),.row rConstraint true g] [vr 0 rRVar false l,vr 2 rArr2Int false ranges,vp 4 0,vo 7 1,vi 10 i]) s [0,1] ?_
 rintro⟨g,i⟩ oo h v
 rw[wInts_b2]at h
 refine cd h (fun y h=>?_) (fun y h=>?_)
 refine bk ?_
 refine ixR h fun a h=>?_
 refine cd h (fun a0 h=>?_) (fun a0 h=>?_)
 refine dr mixed ?_
 refine ixR h fun ac h=>?_
 refine cl none [] 0 h (watMost_c N _ _ _) fun a1 h=>?_
 refine cl none [] 0 h (whigh_c N _ _ _) fun ad h=>?_
 refine cl none [] 0 h (watMost_c N _ _ _) fun a2 h=>?_
 refine litO rConstraint true [a1,a2] ?_
 refine apO true h fun ae h=>?_
 refine dk ?_
 cases h
 exact bl [0,4]
 refine dr mixed ?_
 refine cl none [] 1 h (wscaled_c N _ _ _) fun a3 h=>?_
 refine po (fzk 3 [98,99,100] []) ?_
 refine litO rConstraint true [(Constraint.mk (Linear.mk (iw (0-a.Of.Const)) a3) false)] ?_
 refine apO true h fun af h=>?_
 refine dk ?_
 refine dr mixed ?_
 refine cl none [] 1 h (wscaled_c N _ _ _) fun a4 h=>?_
 refine po (fzk 6 [118,119,120] []) ?_
 refine litO rConstraint true [(Constraint.mk (Linear.mk (iw ((iw (a.Of.Const-a.By))+1)) a4) false)] ?_
 refine apO true h fun ag h=>?_
 refine dk ?_
 cases h
 exact bl [0,8]
 cases h
 cases v _ rfl
 replace h:=u
 try dsimp only at h
 exact bj _ [0,1]
 intro f h
 try dsimp only at h
 refine apO false h fun ah h=>?_
 cases h
 exact rt [2]
theorem wplace_c(N:Nat)(l:(List Int))(n:Int)(r:Int)(h:wplace N l n=some r):Cn Tryz.prog 46 [sR (rInt .i64) false l,sI .i64 n] [] [sI .i64 r]:=by
 unfold wplace at h
 refine fn tb en46 Tryz.func46 fun X w H ν=>?_
 refine jn (fun x=>(Sum.inl x)) (fun(_:Unit)=>mkS 0 [] []) h (fun g d a=>?_) ?_
 refine bk ?_
 refine lp (fun b=>mkS 0 [] [vr 0 (rInt .i64) false l,vi 1 n,vi 5 b]) d [] ?_
 rintro b oo h c
 rw[wplace_b1]at h
 refine cd h (fun e h=>?_) (fun e h=>?_)
 refine bk ?_
 refine ixR h fun i h=>?_
 refine cd h (fun f h=>?_) (fun f h=>?_)
 cases h
 cases c _ rfl
 replace h:=a
 try dsimp only at h
 cases h
 exact rt []
 cases h
 exact bl []
 cases h
 cases c _ rfl
 replace h:=a
 try dsimp only at h
 exact bj _ []
 intro _ h
 try dsimp only at h
 cases h
 exact rt []
theorem wpairs_c(N:Nat)(p:(List Arr2Int))(vars:(List Int))(r:(List Arr2Int))(h:wpairs N p vars=some r):Cn Tryz.prog 47 [sR rArr2Int false p,sR (rInt .i64) false vars] [.row rArr2Int true r] [sO 0]:=by
 unfold wpairs at h
 refine fn tb en47 Tryz.func47 fun X w H ν=>?_
 refine jn (fun x=>x) (fun a=>mkS 1 [.row rArr2Int true a] [vo 5 0]) h (fun k d e=>?_) ?_
 refine bk ?_
 refine ps (nl 5 rArr2Int) ?_
 refine lp (fun⟨b,c⟩=>mkS 1 [.row rArr2Int true b] [vr 0 rArr2Int false p,vr 1 (rInt .i64) false vars,vo 5 0,vi 6 c]) d [0] ?_
 rintro⟨b,c⟩ oo h f
 rw[wpairs_b1]at h
 refine cd h (fun g h=>?_) (fun g h=>?_)
 refine bk ?_
 refine dr mixed ?_
 refine ixR h fun l h=>?_
 refine cl none [] 0 h (wplace_c N _ _) fun i h=>?_
 refine ixR h fun m h=>?_
 refine cl none [] 0 h (wplace_c N _ _) fun j h=>?_
 refine litO rArr2Int true [(Arr2Int.mk i j)] ?_
 refine apO true h fun n h=>?_
 refine dk ?_
 cases h
 exact bl [2]
 cases h
 cases f _ rfl
 replace h:=e
 try dsimp only at h
 exact bj _ [0]
 intro a h
 try dsimp only at h
 cases h
 exact rt [0]
theorem wTexts_c(N:Nat)(l:(List RVar))(c:RClause)(ranges:(List Arr2Int))(r:(TProb×(List Int)))(h:wTexts N l c ranges=some r):Cn Tryz.prog 16 [sR rRVar false l,sA rRClause false c,sR rArr2Int false ranges] [.row (rInt .i64) true r.2] [sA rTProb true r.1,sO 0]:=by
 unfold wTexts at h
 refine fn tb en16 Tryz.func16 fun X w H ν=>?_
 refine jn (fun x=>x) (fun⟨a,b,d⟩=>mkS 6 [.box (Opn.cl rRClause false c),.box [lN,lN,lN,lN,lN],.box [(.own 3),(.own 4),lN,lN,lN],.row (rInt .i64) true a,.row (rInt .i64) true b,.row (rInt .i64) true d] [vp 4 0,vp 6 1,vp 8 2,vo 9 5]) h (fun a6 o p=>?_) ?_
 refine bk ?_
 refine ps (nb 2 0 (rInt .i64)) ?_
 refine ps (nb 2 1 (rInt .i64)) ?_
 refine ps (nl 9 (rInt .i64)) ?_
 refine lp (fun⟨f,g,i,j⟩=>mkS 6 [.box (Opn.cl rRClause false c),.box [lN,lN,lN,lN,lN],.box [(.own 3),(.own 4),lN,lN,lN],.row (rInt .i64) true f,.row (rInt .i64) true g,.row (rInt .i64) true i] [vr 0 rRVar false l,vr 2 rArr2Int false ranges,vp 4 0,vp 6 1,vp 8 2,vo 9 5,vi 10 j]) o [0,1,2,3,4,5] ?_
 rintro⟨f,g,i,j⟩ oo h q
 rw[wTexts_b1]at h
 refine cd h (fun s h=>?_) (fun s h=>?_)
 refine bk ?_
 refine ixR h fun u h=>?_
 refine ixR h fun a7 h=>?_
 refine cd h (fun v h=>?_) (fun v h=>?_)
 refine litO (rInt .i64) true [u] ?_
 refine apO true h fun a8 h=>?_
 refine dr mixed ?_
 refine ixR h fun y h=>?_
 refine litO (rInt .i64) true [y.e0] ?_
 refine apO true h fun a9 h=>?_
 refine dk ?_
 refine dr mixed ?_
 refine cl none [] 0 h (whigh_c N _ _ _) fun a0 h=>?_
 refine litO (rInt .i64) true [a0] ?_
 refine apO true h fun aa h=>?_
 refine dk ?_
 cases h
 exact bl [0,1,2,9,11,7]
 cases h
 exact bl [0,1,2,3,4,5]
 cases h
 cases q _ rfl
 replace h:=p
 try dsimp only at h
 exact bj _ [0,1,2,3,4,5]
 rintro⟨a,b,d⟩ h
 try dsimp only at h
 refine jn (fun x=>x) (fun k=>mkS 7 [.box (Opn.cl rRClause false c),.box [lN,lN,lN,lN,lN],.box [(.own 3),(.own 4),(.own 5),lN,lN],.row (rInt .i64) true a,.row (rInt .i64) true b,.row rTTest true k,.row (rInt .i64) true d] [vp 4 0,vp 6 1,vp 8 2,vo 9 6]) h (fun ab a1 a2=>?_) ?_
 refine bk ?_
 refine ps (nb 2 2 rTTest) ?_
 refine lp (fun⟨m,n⟩=>mkS 7 [.box (Opn.cl rRClause false c),.box [lN,lN,lN,lN,lN],.box [(.own 3),(.own 4),(.own 5),lN,lN],.row (rInt .i64) true a,.row (rInt .i64) true b,.row rTTest true m,.row (rInt .i64) true d] [vp 4 0,vp 6 1,vp 8 2,vo 9 6,vi 12 n]) a1 [0,1,2,3,4,6,5] ?_
 rintro⟨m,n⟩ oo h a3
 rw[wTexts_b2]at h
 refine cd h (fun a4 h=>?_) (fun a4 h=>?_)
 refine bk ?_
 refine ixR h fun e h=>?_
 refine cl none [] 0 h (wplace_c N _ _) fun a5 h=>?_
 refine litO rTTest true [(TTest.mk a5 e.Kind e.Negated e.Text)] ?_
 refine apO true h fun ac h=>?_
 cases h
 exact bl [0,1,2,3,4,9,6]
 cases h
 cases a3 _ rfl
 replace h:=a2
 try dsimp only at h
 exact bj _ [0,1,2,3,4,5,6]
 intro k h
 try dsimp only at h
 refine dr mixed ?_
 refine cl none [] 1 h (wpairs_c N _ _) fun ad h=>?_
 refine cl none [] 1 h (wpairs_c N _ _) fun ae h=>?_
 refine dk ?_
 cases h
 exact rt [6]
theorem wCheck_c(N:Nat):∀(l:(List RVar)) (c:RClause) (pc:Refut) (ranges:(List Arr2Int)) (r:Bool) (h:wCheck N l c pc ranges=some r),Cn Tryz.prog 30 [sR rRVar false l,sA rRClause false c,sA rRefut false pc,sR rArr2Int false ranges] [] [sB r]:=by
 induction N with
 |zero=>intro l c pc ranges r h;cases h
 |succ N ih=>
  intro l c pc ranges r h
  replace h:wCheck_step N (wCheck N) l c pc ranges=some r:=h
  unfold wCheck_step at h
  refine fn tb en30 Tryz.func30 fun X w H ν=>?_
  refine bk ?_
  refine cd h (fun b h=>?_) (fun b h=>?_)
  refine rg ?_
  refine cl none [] 0 h (whas_c N _ _) fun q h=>?_
  refine gd h (fun d h=>?_) (fun d h=>?_)
  refine cl none [] 0 h (whas_c N _ _) fun s h=>?_
  refine gd h (fun e h=>?_) (fun e h=>?_)
  cases h
  exact rt []
  refine ixR h fun u h=>?_
  cases h
  exact rt []
  cases h
  exact rt []
  refine cd h (fun f h=>?_) (fun f h=>?_)
  refine cl none [] 1 h (wTexts_c N _ _ _) fun v h=>?_
  refine cl none [] 0 h (rSolvable_c N _) fun y h=>?_
  cases h
  exact rt []
  refine cd h (fun g h=>?_) (fun g h=>?_)
  refine dr mixed ?_
  refine cl (some false) [] 1 h (wInts_c N _ _ _) fun a0 h=>?_
  refine cl none [] 1 h (rSystem_c N _ _) fun a1 h=>?_
  refine cl none [] 0 h (rCheck_c N _ _) fun a2 h=>?_
  refine dk ?_
  cases h
  exact rt []
  refine cd h (fun i h=>?_) (fun i h=>?_)
  refine jn (fun x=>x) (fun a=>mkS 2 [.box (Opn.cl rRClause false c),.box (Opn.cl rRefut false pc)] [vr 0 rRVar false l,vr 3 rArr2Int false ranges,vp 5 0,vp 6 1,vi 11 pc.Var,vb 109 a]) h (fun a3 h a4=>?_) ?_
  refine dr mixed ?_
  refine cl none [] 0 h (whas_c N _ _) fun a5 h=>?_
  refine gd h (fun j h=>?_) (fun j h=>?_)
  refine dk ?_
  cases h
  exact bj _ [0,1]
  refine ixR h fun a6 h=>?_
  refine gd h (fun k h=>?_) (fun k h=>?_)
  refine dk ?_
  cases h
  exact bj _ [0,1]
  refine ixR h fun a7 h=>?_
  refine gd h (fun m h=>?_) (fun m h=>?_)
  refine dk ?_
  cases h
  exact bj _ [0,1]
  refine ixR h fun a8 h=>?_
  refine gd h (fun n h=>?_) (fun n h=>?_)
  refine dk ?_
  cases h
  exact bj _ [0,1]
  refine dk ?_
  cases h
  exact bj _ [0,1]
  intro a h
  try dsimp only at h
  refine cd h (fun o h=>?_) (fun o h=>?_)
  cases h
  exact rt []
  refine litZ rArr2Int ?_
  refine apO true h fun a9 h=>?_
  refine litZ rArr2Int ?_
  refine apO true h fun aa h=>?_
  refine dr mixed ?_
  refine ixQ h fun ab ac h=>?_
  refine stP h (fun ad h=>?_) (by assumption)
  refine ixQ h fun ae af h=>?_
  refine stP h (fun ag h=>?_) (by assumption)
  refine dk ?_
  refine dr mixed ?_
  refine ixR h fun ah h=>?_
  refine cl none [] 0 h (ih _ _ _ _) fun ai h=>?_
  refine gd h (fun p h=>?_) (fun p h=>?_)
  refine ixR h fun aj h=>?_
  refine cl none [] 0 h (ih _ _ _ _) fun ak h=>?_
  refine dk ?_
  cases h
  exact rt []
  refine dk ?_
  cases h
  exact rt []
  cases h
  exact rt []
theorem wparts_c(N:Nat):∀(pa:Refut) (r:Int) (h:wparts N pa=some r),Cn Tryz.prog 59 [sA rRefut false pa] [] [sI .i64 r]:=by
 induction N with
 |zero=>intro pa r h;cases h
 |succ N ih=>
  intro pa r h
  replace h:wparts_step N (wparts N) pa=some r:=h
  unfold wparts_step at h
  refine fn tb en59 Tryz.func59 fun X w H ν=>?_
  refine cl none [] 0 h (rSmallProof_c N _) fun r6 h=>?_
  refine cd h (fun e h=>?_) (fun e h=>?_)
  cases h
  exact rt []
  refine jn (fun x=>x) (fun c=>mkS 0 [] [vi 3 c]) h (fun l f g=>?_) ?_
  refine bk ?_
  refine lp (fun⟨a,b⟩=>mkS 1 [.box (Opn.cl rRefut false pa)] [vp 1 0,vi 3 a,vi 4 b]) f [0] ?_
  rintro⟨a,b⟩ oo h i
  rw[wparts_b1]at h
  refine jn (fun x=>x) (fun d=>mkS 1 [.box (Opn.cl rRefut false pa)] [vp 1 0,vi 3 a,vi 4 b,vb 17 d]) h (fun m h n=>?_) ?_
  refine rg ?_
  refine gd h (fun j h=>?_) (fun j h=>?_)
  cases h
  exact bj _ [0]
  cases h
  exact bj _ [0]
  intro d h
  try dsimp only at h
  refine cd h (fun k h=>?_) (fun k h=>?_)
  refine bk ?_
  refine ixR h fun o h=>?_
  refine cl none [] 0 h (ih _) fun p h=>?_
  cases h
  exact bl [0]
  cases h
  cases i _ rfl
  replace h:=g
  try dsimp only at h
  exact bj _ []
  intro c h
  try dsimp only at h
  cases h
  exact rt []
theorem wSmall_c(N:Nat)(pa:Refut)(r:Bool)(h:wSmall N pa=some r):Cn Tryz.prog 28 [sA rRefut false pa] [] [sB r]:=by
 unfold wSmall at h
 refine fn tb en28 Tryz.func28 fun X w H ν=>?_
 refine cl none [] 0 h (wparts_c N _) fun r6 h=>?_
 cases h
 exact rt []
theorem wRight_c(N:Nat)(l:(List RVar))(ranges:(List Arr2Int))(r:Bool)(h:wRight N l ranges=some r):Cn Tryz.prog 38 [sR rRVar false l,sR rArr2Int false ranges] [] [sB r]:=by
 unfold wRight at h
 refine fn tb en38 Tryz.func38 fun X w H ν=>?_
 refine cd h (fun hc1 h=>?_) (fun hc1 h=>?_)
 cases h
 exact rt []
 refine jn (fun x=>(Sum.inl x)) (fun(_:Unit)=>mkS 0 [] []) h (fun m e b=>?_) ?_
 refine bk ?_
 refine lp (fun a=>mkS 0 [] [vr 1 rArr2Int false ranges,vi 5 a]) e [] ?_
 rintro a oo h c
 rw[wRight_b1]at h
 refine cd h (fun f h=>?_) (fun f h=>?_)
 refine bk ?_
 refine jn (fun x=>x) (fun d=>mkS 0 [] [vr 1 rArr2Int false ranges,vi 5 a,vb 46 d]) h (fun n h o=>?_) ?_
 refine rg ?_
 refine ixR h fun p h=>?_
 refine gd h (fun g h=>?_) (fun g h=>?_)
 cases h
 exact bj _ []
 refine ixR h fun q h=>?_
 refine gd h (fun i h=>?_) (fun i h=>?_)
 cases h
 exact bj _ []
 refine ixR h fun s h=>?_
 refine gd h (fun j h=>?_) (fun j h=>?_)
 cases h
 exact bj _ []
 refine ixR h fun u h=>?_
 cases h
 exact bj _ []
 intro d h
 try dsimp only at h
 refine cd h (fun k h=>?_) (fun k h=>?_)
 cases h
 cases c _ rfl
 replace h:=b
 try dsimp only at h
 cases h
 exact rt []
 cases h
 exact bl []
 cases h
 cases c _ rfl
 replace h:=b
 try dsimp only at h
 exact bj _ []
 intro _ h
 try dsimp only at h
 cases h
 exact rt []
theorem wShort_c(N:Nat)(l:(List RVar))(c:RClause)(r:Bool)(h:wShort N l c=some r):Cn Tryz.prog 27 [sR rRVar false l,sA rRClause false c] [] [sB r]:=by
 unfold wShort at h
 refine fn tb en27 Tryz.func27 fun X w H ν=>?_
 refine jn (fun x=>(Sum.inl x)) (fun a=>mkS 1 [.box (Opn.cl rRClause false c)] [vr 0 rRVar false l,vp 3 0,vi 5 a]) h (fun n g b=>?_) ?_
 refine bk ?_
 refine lp (fun⟨d,e⟩=>mkS 1 [.box (Opn.cl rRClause false c)] [vr 0 rRVar false l,vp 3 0,vi 5 d,vi 6 e]) g [0] ?_
 rintro⟨d,e⟩ oo h f
 rw[wShort_b1]at h
 refine cd h (fun i h=>?_) (fun i h=>?_)
 refine bk ?_
 refine ixR h fun o h=>?_
 refine cd h (fun j h=>?_) (fun j h=>?_)
 refine ixR h fun p h=>?_
 refine cd h (fun k h=>?_) (fun k h=>?_)
 cases h
 cases f _ rfl
 replace h:=b
 try dsimp only at h
 cases h
 exact rt []
 cases h
 exact bl [0]
 cases h
 exact bl [0]
 cases h
 cases f _ rfl
 replace h:=b
 try dsimp only at h
 exact bj _ [0]
 intro a h
 try dsimp only at h
 refine rg ?_
 refine gd h (fun m h=>?_) (fun m h=>?_)
 cases h
 exact rt []
 cases h
 exact rt []
theorem wDomains_c(N:Nat)(l:(List RVar))(r:Bool)(h:wDomains N l=some r):Cn Tryz.prog 35 [sR rRVar false l] [] [sB r]:=by
 unfold wDomains at h
 refine fn tb en35 Tryz.func35 fun X w H ν=>?_
 refine jn (fun x=>(Sum.inl x)) (fun(_:Unit)=>mkS 0 [] [vr 0 rRVar false l]) h (fun a0 f b=>?_) ?_
 refine bk ?_
 refine lp (fun a=>mkS 0 [] [vr 0 rRVar false l,vi 3 a]) f [] ?_
 rintro a oo h c
 rw[wDomains_b1]at h
 refine cd h (fun g h=>?_) (fun g h=>?_)
 refine bk ?_
 refine ixR h fun i h=>?_
 refine jn (fun x=>x) (fun d=>mkS 1 [.box (Opn.cl rRVar true i)] [vr 0 rRVar false l,vi 3 a,vp 4 0,vb 37 d]) h (fun a1 h a2=>?_) ?_
 refine rg ?_
 refine gd h (fun j h=>?_) (fun j h=>?_)
 refine gd h (fun k h=>?_) (fun k h=>?_)
 cases h
 exact bj _ [0]
 refine gd h (fun m h=>?_) (fun m h=>?_)
 cases h
 exact bj _ [0]
 refine gd h (fun n h=>?_) (fun n h=>?_)
 cases h
 exact bj _ [0]
 cases h
 exact bj _ [0]
 cases h
 exact bj _ [0]
 intro d h
 try dsimp only at h
 refine cd h (fun o h=>?_) (fun o h=>?_)
 cases h
 cases c _ rfl
 replace h:=b
 try dsimp only at h
 cases h
 exact rt []
 refine jn (fun x=>x) (fun e=>mkS 0 [] [vr 0 rRVar false l,vi 3 a,vb 60 e]) h (fun a3 h a4=>?_) ?_
 refine rg ?_
 refine gd h (fun p h=>?_) (fun p h=>?_)
 refine gd h (fun q h=>?_) (fun q h=>?_)
 cases h
 exact bj _ []
 refine gd h (fun s h=>?_) (fun s h=>?_)
 cases h
 exact bj _ []
 refine gd h (fun u h=>?_) (fun u h=>?_)
 cases h
 exact bj _ []
 cases h
 exact bj _ []
 refine gd h (fun v h=>?_) (fun v h=>?_)
 cases h
 exact bj _ []
 cases h
 exact bj _ []
 intro e h
 try dsimp only at h
 refine cd h (fun y h=>?_) (fun y h=>?_)
 cases h
 cases c _ rfl
 replace h:=b
 try dsimp only at h
 cases h
 exact rt []
 cases h
 exact bl []
 cases h
 cases c _ rfl
 replace h:=b
 try dsimp only at h
 exact bj _ []
 intro _ h
 try dsimp only at h
 cases h
 exact rt []
end Go.Proofs.YtcakdidcpoolcaaGreatDoor.SU

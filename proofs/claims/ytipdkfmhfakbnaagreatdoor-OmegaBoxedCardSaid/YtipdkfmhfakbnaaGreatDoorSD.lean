/- Walks of the symbolic machine, written by a program of mine (wip/tool). -/
import Derived.Test.YtipdkfmhfakbnaaGreatDoorTB
import Derived.Test.YtipdkfmhfakbnaaGreatDoorAf
import Derived.Test.YtipdkfmhfakbnaaGreatDoorAd
import Derived.Test.YtipdkfmhfakbnaaGreatDoorSR
set_option linter.unusedVariables false
set_option linter.unusedSimpArgs false
set_option linter.unusedSectionVars false
set_option maxRecDepth 100000
set_option maxHeartbeats 4000000
namespace Go.Proofs.YtipdkfmhfakbnaaGreatDoor.SD
open Go Go.RowKit Go.X Go.Q Go.D Go.Proofs.YtipdkfmhfakbnaaGreatDoor.TB Go.Proofs.YtipdkfmhfakbnaaGreatDoor.FS Go.Proofs.YtipdkfmhfakbnaaGreatDoor.SR
theorem Lh(N:Nat)(n:Int)(r:bA)(h:vH N n=some r):Cn Tryz.prog 128 [sI .i64 n] [.row aA true r.aZ,.row (aD .u32) true r.dz.aP] [.agg [.own 0,lB r.dz.bF,.own 1]]:=by
 unfold vH at h
 refine fn tb en128 Tryz.func128 fun X w H ν=>?_
 refine gx aA h fun x7 h=>?_
 refine pr (nb 0 2 (aD .u32)) ?_
 cases h
 exact rt [1,2]
theorem Fq(N:Nat)(c:Constraint)(n:Int)(r:Bool)(h:rj N c n=some r):Cn Tryz.prog 52 [sA cT false c,sI .i64 n] [] [sB r]:=by
 unfold rj at h
 refine fn tb en52 Tryz.func52 fun X w H ν=>?_
 refine jn (fun x=>(Sum.inl x)) (fun(_:Unit)=>aV 0 [] [vi 1 n]) h (fun o f b=>?_) ?_
 refine bk ?_
 refine lp (fun a=>aV 1 [.box (aO.cl cT false c)] [vi 1 n,vp 2 0,vi 5 a]) f [0] ?_
 rintro a oo h d
 rw[Ew]at h
 refine cd h (fun g h=>?_) (fun g h=>?_)
 refine bk ?_
 refine bI h fun p h=>?_
 refine jn (fun x=>x) (fun e=>aV 1 [.box (aO.cl cT false c)] [vi 1 n,vp 2 0,vi 5 a,vb 44 e]) h (fun s h u=>?_) ?_
 refine rg ?_
 refine gd h (fun i h=>?_) (fun i h=>?_)
 cases h
 exact bj _ [0]
 refine gd h (fun j h=>?_) (fun j h=>?_)
 cases h
 exact bj _ [0]
 refine gd h (fun k h=>?_) (fun k h=>?_)
 refine bI h fun v h=>?_
 cases h
 exact bj _ [0]
 cases h
 exact bj _ [0]
 intro e h
 try dsimp only at h
 refine cd h (fun l h=>?_) (fun l h=>?_)
 cases h
 cases d _ rfl
 replace h:=b
 try dsimp only at h
 cases h
 exact rt []
 cases h
 exact bl [0]
 cases h
 cases d _ rfl
 replace h:=b
 try dsimp only at h
 exact bj _ []
 intro _ h
 try dsimp only at h
 refine rg ?_
 refine gd h (fun m h=>?_) (fun m h=>?_)
 cases h
 exact rt []
 cases h
 exact rt []
theorem Mq(N:Nat)(q:bA)(bound:aB)(r:bA)(h:qy N q bound=some r):Cn Tryz.prog 102 [sA aE false q,sA aA false bound] [] [sA aE true r]:=by
 unfold qy at h
 refine fn tb en102 Tryz.func102 fun X w H ν=>?_
 refine cl none [] 0 h (QH N _) fun a h=>?_
 refine jn (fun x=>x) (fun b=>aV 3 [.box [lN,(lB false),lN],.box [(.own 2),(lB a.bF),(.ro (aD .u32) true a.aP)],.row aA true b] [vp 4 0,vp 5 1]) h (fun k e f=>?_) ?_
 refine bk ?_
 refine ps (nb 3 0 aA) ?_
 refine lp (fun⟨c,d⟩=>aV 4 [.box (aO.cl aE false q),.box [lN,(lB false),lN],.box [(.own 3),(lB a.bF),(.ro (aD .u32) true a.aP)],.row aA true c] [vp 2 0,vp 4 1,vp 5 2,vi 6 d]) e [0,2,3,4] ?_
 rintro⟨c,d⟩ oo h g
 rw[Ba]at h
 refine cd h (fun i h=>?_) (fun i h=>?_)
 refine bk ?_
 refine dr mixed ?_
 refine bI h fun l h=>?_
 refine cl none [] 0 h (BO N _) fun j h=>?_
 refine dc aA true [j] ?_
 refine dR true h fun m h=>?_
 refine dk ?_
 cases h
 exact bl [0,1,2,5]
 cases h
 cases g _ rfl
 replace h:=f
 try dsimp only at h
 exact bj _ [1,2,3]
 intro b h
 try dsimp only at h
 cases h
 exact rt []
theorem UE(N:Nat)(c:Constraint)(n:Int)(r:(List bA))(h:wH N c n=some r):Cn Tryz.prog 103 [sA cT false c,sI .i64 n] [.row aE true r] [sO 0]:=by
 unfold wH at h
 refine fn tb en103 Tryz.func103 fun X w H ν=>?_
 refine cl none [] 0 h (Fq N _ _) fun r6 h=>?_
 refine cd h (fun g h=>?_) (fun g h=>?_)
 refine pr (nl 4 aE) ?_
 cases h
 exact rt [1]
 refine cl none [] 2 h (Lh N _) fun a h=>?_
 refine jn (fun x=>x) (fun b=>aV 4 [.box (aO.cl cT false c),.box [(.own 2),(lB a.dz.bF),(.own 3)],.row aA true b,.row (aD .u32) true a.dz.aP] [vp 2 0,vp 5 1]) h (fun p i j=>?_) ?_
 refine bk ?_
 refine lp (fun⟨d,e⟩=>aV 4 [.box (aO.cl cT false c),.box [(.own 2),(lB a.dz.bF),(.own 3)],.row aA true d,.row (aD .u32) true a.dz.aP] [vp 2 0,vp 5 1,vi 6 e]) i [0,3,1,2] ?_
 rintro⟨d,e⟩ oo h k
 rw[FM]at h
 refine cd h (fun l h=>?_) (fun l h=>?_)
 refine bk ?_
 refine dr mixed ?_
 refine bI h fun s h=>?_
 refine bI h fun u h=>?_
 refine cl none [] 0 h (nR N _) fun v h=>?_
 refine jA h fun y a0 h=>?_
 refine dS true h fun a1 h=>?_
 refine dk ?_
 cases h
 exact bl [0,1,2,3]
 cases h
 cases k _ rfl
 replace h:=j
 try dsimp only at h
 exact bj _ [0,1,2,3]
 intro b h
 try dsimp only at h
 refine cl none [] 0 h (nR N _) fun a2 h=>?_
 refine cl none [] 0 h (BO N _) fun f h=>?_
 refine cd h (fun m h=>?_) (fun m h=>?_)
 refine po (jy 2 [50] [1]) ?_
 refine dc aE true [(bA.mk b f)] ?_
 cases h
 exact rt [5]
 refine dr mixed ?_
 refine cl none [] 0 h (Mq N _ _) fun o h=>?_
 refine po (jy 2 [52,53] [1]) ?_
 refine dc aE true [(bA.mk b f),o] ?_
 refine dk ?_
 cases h
 exact rt [5]
theorem QE(N:Nat)(l:(List Constraint))(n:Int)(r:(List bA))(h:xO N l n=some r):Cn Tryz.prog 71 [sR cT false l,sI .i64 n] [.row aE true r] [sO 0]:=by
 unfold xO at h
 refine fn tb en71 Tryz.func71 fun X w H ν=>?_
 refine iZ aE ?_
 refine jn (fun x=>(Sum.inl x)) (fun a=>aV 1 [.row aE true a] [vo 5 0]) h (fun j f b=>?_) ?_
 refine bk ?_
 refine lp (fun⟨c,d⟩=>aV 1 [.row aE true c] [vr 0 cT false l,vi 1 n,vo 5 0,vi 6 d]) f [0] ?_
 rintro⟨c,d⟩ oo h e
 rw[EN]at h
 refine cd h (fun g h=>?_) (fun g h=>?_)
 refine bk ?_
 refine bI h fun k h=>?_
 refine cl none [] 0 h (Fq N _ _) fun m h=>?_
 refine cd h (fun i h=>?_) (fun i h=>?_)
 refine pr (nl 4 aE) ?_
 cases h
 cases e _ rfl
 replace h:=b
 try dsimp only at h
 cases h
 exact rt [1]
 refine bI h fun o h=>?_
 refine cl none [] 1 h (UE N _ _) fun p h=>?_
 refine dR true h fun s h=>?_
 cases h
 exact bl [2]
 cases h
 cases e _ rfl
 replace h:=b
 try dsimp only at h
 exact bj _ [0]
 intro a h
 try dsimp only at h
 cases h
 exact rt [0]
theorem Kg(N:Nat)(l:(List bA))(r:Bool)(h:u9 N l=some r):Cn Tryz.prog 99 [sR aE false l] [] [sB r]:=by
 unfold u9 at h
 refine fn tb en99 Tryz.func99 fun X w H ν=>?_
 refine jn (fun x=>(Sum.inl x)) (fun(_:Unit)=>aV 0 [] []) h (fun g d a=>?_) ?_
 refine bk ?_
 refine lp (fun b=>aV 0 [] [vr 0 aE false l,vi 3 b]) d [] ?_
 rintro b oo h c
 rw[wG]at h
 refine cd h (fun e h=>?_) (fun e h=>?_)
 refine bk ?_
 refine dr mixed ?_
 refine bI h fun i h=>?_
 refine bI h fun j h=>?_
 refine dk ?_
 refine cd h (fun f h=>?_) (fun f h=>?_)
 cases h
 cases c _ rfl
 replace h:=a
 try dsimp only at h
 cases h
 exact rt []
 cases h
 exact bl []
 cases h
 cases c _ rfl
 replace h:=a
 try dsimp only at h
 exact bj _ []
 intro _ h
 try dsimp only at h
 cases h
 exact rt []
theorem NZ(N:Nat)(l:(List bA))(s:Step)(r:(bA×Bool))(h:ya N l s=some r):Cn Tryz.prog 100 [sR aE false l,sA aJ false s] [] [sA aE true r.1,sB r.2]:=by
 unfold ya at h
 refine fn tb en100 Tryz.func100 fun X w H ν=>?_
 refine jn (fun x=>x) (fun j=>aV 2 [.box (aO.cl aJ false s),.box [lN,(lB false),lN]] [vr 0 aE false l,vp 3 0,vp 4 1,vb 24 j]) h (fun ak h al=>?_) ?_
 refine rg ?_
 refine cl none [] 0 h (Kg N _) fun am h=>?_
 refine gd h (fun a5 h=>?_) (fun a5 h=>?_)
 cases h
 exact bj _ [0,1]
 refine cl none [] 0 h (nN N _) fun an h=>?_
 cases h
 exact bj _ [0,1]
 intro j h
 try dsimp only at h
 refine cd h (fun a6 h=>?_) (fun a6 h=>?_)
 cases h
 exact rt []
 refine jn (fun x=>x) (fun a=>aV 2 [.box (aO.cl aJ false s),.box [lN,(lB false),lN]] [vr 0 aE false l,vp 3 0,vp 4 1,vi 6 a]) h (fun ao h aq=>?_) ?_
 refine cd h (fun a7 h=>?_) (fun a7 h=>?_)
 refine bI h fun ar h=>?_
 cases h
 exact bj _ [0,1]
 cases h
 exact bj _ [0,1]
 intro a h
 try dsimp only at h
 refine cl none [] 2 h (Lh N _) fun av h=>?_
 refine jn (fun x=>(Sum.inl x)) (fun⟨k,e,f⟩=>aV 4 [.box (aO.cl aJ false s),.box [lN,(lB false),lN],.box [(.own 3),(lB e),(.ro (aD .u32) true f)],.row aA true k] [vp 3 0,vp 4 1,vi 6 a,vp 7 2]) h (fun aw a8 m=>?_) ?_
 refine bk ?_
 refine lp (fun⟨g,b,c,d⟩=>aV 4 [.box (aO.cl aJ false s),.box [lN,(lB false),lN],.box [(.own 3),(lB b),(.ro (aD .u32) true c)],.row aA true g] [vr 0 aE false l,vp 3 0,vp 4 1,vi 6 a,vp 7 2,vi 8 d]) a8 [0,1,4,2] ?_
 rintro⟨g,b,c,d⟩ oo h n
 rw[C6]at h
 refine cd h (fun a9 h=>?_) (fun a9 h=>?_)
 refine bk ?_
 refine bI h fun i h=>?_
 refine jn (fun x=>x) (fun o=>aV 5 [.box (aO.cl aJ false s),.box [lN,(lB false),lN],.box [(.own 3),(lB b),(.ro (aD .u32) true c)],.row aA true g,.box (aO.cl ep false i)] [vr 0 aE false l,vp 3 0,vp 4 1,vi 6 a,vp 7 2,vi 8 d,vp 9 4,vb 63 o]) h (fun ax h ay=>?_) ?_
 refine rg ?_
 refine gd h (fun aa h=>?_) (fun aa h=>?_)
 cases h
 exact bj _ [0,1,2,3,4]
 refine gd h (fun ab h=>?_) (fun ab h=>?_)
 cases h
 exact bj _ [0,1,2,3,4]
 refine cl none [] 0 h (nN N _) fun az h=>?_
 cases h
 exact bj _ [0,1,2,3,4]
 intro o h
 try dsimp only at h
 refine cd h (fun ac h=>?_) (fun ac h=>?_)
 cases h
 cases n _ rfl
 replace h:=m
 try dsimp only at h
 cases h
 exact rt []
 refine bI h fun p h=>?_
 refine jn (fun x=>x) (fun u=>aV 6 [.box (aO.cl aJ false s),.box [lN,(lB false),lN],.box [(.own 3),(lB b),(.ro (aD .u32) true c)],.row aA true u,.box (aO.cl ep false i),.box (aO.cl aE false p)] [vr 0 aE false l,vp 3 0,vp 4 1,vi 6 a,vp 7 2,vi 8 d,vp 9 4,vp 10 5]) h (fun b0 ad ae=>?_) ?_
 refine bk ?_
 refine lp (fun⟨v,y⟩=>aV 6 [.box (aO.cl aJ false s),.box [lN,(lB false),lN],.box [(.own 3),(lB b),(.ro (aD .u32) true c)],.row aA true v,.box (aO.cl ep false i),.box (aO.cl aE false p)] [vr 0 aE false l,vp 3 0,vp 4 1,vi 6 a,vp 7 2,vi 8 d,vp 9 4,vp 10 5,vi 11 y]) ad [0,1,2,3,4,5] ?_
 rintro⟨v,y⟩ oo h af
 rw[xJ]at h
 refine cd h (fun ag h=>?_) (fun ag h=>?_)
 refine bk ?_
 refine dr mixed ?_
 refine jA h fun b1 b2 h=>?_
 refine dI ?_
 refine bI h fun b3 h=>?_
 refine cl none [] 0 h (Fv N _ _) fun b4 h=>?_
 refine cl none [] 0 h (wq N _ _) fun b5 h=>?_
 refine jA h fun b6 b7 h=>?_
 refine dS true h fun b8 h=>?_
 refine dk ?_
 cases h
 exact bl [0,1,2,3,4,5]
 cases h
 cases af _ rfl
 replace h:=ae
 try dsimp only at h
 exact bj _ [0,1,2,3,4,5]
 intro u h
 try dsimp only at h
 refine dr mixed ?_
 refine cl none [] 0 h (Fv N _ _) fun b9 h=>?_
 refine cl none [] 0 h (wq N _ _) fun ba h=>?_
 refine dk ?_
 cases h
 exact bl [0,1,2,3]
 cases h
 cases n _ rfl
 replace h:=m
 try dsimp only at h
 exact bj _ [0,1,2,3]
 rintro⟨k,e,f⟩ h
 try dsimp only at h
 refine jn (fun x=>(Sum.inl x)) (fun a0=>aV 4 [.box (aO.cl aJ false s),.box [lN,(lB false),lN],.box [(.own 3),(lB e),(.ro (aD .u32) true f)],.row aA true a0] [vp 3 0,vp 4 1,vp 7 2]) h (fun bb ah a1=>?_) ?_
 refine bk ?_
 refine lp (fun⟨a2,a3⟩=>aV 4 [.box (aO.cl aJ false s),.box [lN,(lB false),lN],.box [(.own 3),(lB e),(.ro (aD .u32) true f)],.row aA true a2] [vp 3 0,vp 4 1,vi 6 a,vp 7 2,vi 12 a3]) ah [0,1,2,3] ?_
 rintro⟨a2,a3⟩ oo h a4
 rw[xc]at h
 refine cd h (fun ai h=>?_) (fun ai h=>?_)
 refine bk ?_
 refine dr mixed ?_
 refine jA h fun bc bd h=>?_
 refine dI ?_
 refine cl none [] 0 h (Mo N _ _) fun be h=>?_
 refine dk ?_
 refine cl none [] 0 h (nN N _) fun bf h=>?_
 refine cd h (fun aj h=>?_) (fun aj h=>?_)
 cases h
 cases a4 _ rfl
 replace h:=a1
 try dsimp only at h
 cases h
 exact rt []
 refine jA h fun bg bh h=>?_
 refine dS true h fun bi h=>?_
 cases h
 exact bl [0,1,2,3]
 cases h
 cases a4 _ rfl
 replace h:=a1
 try dsimp only at h
 exact bj _ [0,1,2,3]
 intro a0 h
 try dsimp only at h
 refine cl none [] 0 h (Mo N _ _) fun bm h=>?_
 cases h
 exact rt []
theorem RE(N:Nat)(q:bA)(r:Bool)(h:w6 N q=some r):Cn Tryz.prog 101 [sA aE false q] [] [sB r]:=by
 unfold w6 at h
 refine fn tb en101 Tryz.func101 fun X w H ν=>?_
 refine jn (fun x=>(Sum.inl x)) (fun(_:Unit)=>aV 1 [.box (aO.cl aE false q)] [vp 1 0]) h (fun g d a=>?_) ?_
 refine bk ?_
 refine lp (fun b=>aV 1 [.box (aO.cl aE false q)] [vp 1 0,vi 3 b]) d [0] ?_
 rintro b oo h c
 rw[xm]at h
 refine cd h (fun e h=>?_) (fun e h=>?_)
 refine bk ?_
 refine bI h fun i h=>?_
 refine cl none [] 0 h (nN N _) fun j h=>?_
 refine cd h (fun f h=>?_) (fun f h=>?_)
 cases h
 cases c _ rfl
 replace h:=a
 try dsimp only at h
 cases h
 exact rt []
 cases h
 exact bl [0]
 cases h
 cases c _ rfl
 replace h:=a
 try dsimp only at h
 exact bj _ [0]
 intro _ h
 try dsimp only at h
 refine cl none [] 0 h (nN N _) fun k h=>?_
 cases h
 exact rt []
theorem Un(N:Nat):∀(l:(List bA)) (p:Proof) (r:Bool) (h:sE N l p=some r),Cn Tryz.prog 70 [sR aE false l,sA iW false p] [] [sB r]:=by
 induction N with
 |zero=>intro l p r h;cases h
 |succ N ih=>
  intro l p r h
  replace h:sC N (sE N) l p=some r:=h
  unfold sC at h
  refine fn tb en70 Tryz.func70 fun X w H ν=>?_
  refine cl none [] 0 h (Kg N _) fun r6 h=>?_
  refine cd h (fun k h=>?_) (fun k h=>?_)
  cases h
  exact rt []
  refine iZ aE ?_
  refine dR false h fun a6 h=>?_
  refine jn (fun x=>(Sum.inl x)) (fun a=>aV 2 [.box (aO.cl iW false p),.row aE false a] [vp 3 0,vo 5 1]) h (fun a7 m b=>?_) ?_
  refine bk ?_
  refine lp (fun⟨c,d⟩=>aV 2 [.box (aO.cl iW false p),.row aE false c] [vp 3 0,vo 5 1,vi 6 d]) m [0,2] ?_
  rintro⟨c,d⟩ oo h e
  rw[BS]at h
  refine cd h (fun n h=>?_) (fun n h=>?_)
  refine bk ?_
  refine bI h fun a8 h=>?_
  refine cl none [] 0 h (NZ N _ _) fun o h=>?_
  refine cd h (fun s h=>?_) (fun s h=>?_)
  cases h
  cases e _ rfl
  replace h:=b
  try dsimp only at h
  cases h
  exact rt []
  refine dc aE true [o.1] ?_
  refine dR false h fun a9 h=>?_
  cases h
  exact bl [0,4]
  cases h
  cases e _ rfl
  replace h:=b
  try dsimp only at h
  exact bj _ [0,1]
  intro a h
  try dsimp only at h
  refine cd h (fun u h=>?_) (fun u h=>?_)
  refine jn (fun x=>(Sum.inl x)) (fun(_:Unit)=>aV 0 [] []) h (fun aa v f=>?_) ?_
  refine bk ?_
  refine lp (fun g=>aV 1 [.row aE false a] [vo 5 0,vi 9 g]) v [1] ?_
  rintro g oo h i
  rw[Da]at h
  refine cd h (fun y h=>?_) (fun y h=>?_)
  refine bk ?_
  refine jA h fun ab ac h=>?_
  refine dI ?_
  refine cl none [] 0 h (RE N _) fun ad h=>?_
  refine cd h (fun a0 h=>?_) (fun a0 h=>?_)
  cases h
  cases i _ rfl
  replace h:=f
  try dsimp only at h
  cases h
  exact rt []
  cases h
  exact bl [0]
  cases h
  cases i _ rfl
  replace h:=f
  try dsimp only at h
  exact bj _ []
  intro _ h
  try dsimp only at h
  cases h
  exact rt []
  refine jn (fun x=>x) (fun j=>aV 2 [.box (aO.cl iW false p),.row aE false a] [vp 3 0,vo 5 1,vb 77 j]) h (fun ae h af=>?_) ?_
  refine dr mixed ?_
  refine gd h (fun a1 h=>?_) (fun a1 h=>?_)
  refine dk ?_
  cases h
  exact bj _ [0,1]
  refine gd h (fun a2 h=>?_) (fun a2 h=>?_)
  refine jA h fun ag ah h=>?_
  refine dI ?_
  refine dk ?_
  cases h
  exact bj _ [0,1]
  refine dk ?_
  cases h
  exact bj _ [0,1]
  intro j h
  try dsimp only at h
  refine cd h (fun a3 h=>?_) (fun a3 h=>?_)
  cases h
  exact rt []
  refine dr mixed ?_
  refine cl none [] 0 h (BO N _) fun ai h=>?_
  refine cl none [] 0 h (nR N _) fun aj h=>?_
  refine cl none [] 0 h (JN N _ _) fun ak h=>?_
  refine cl none [] 0 h (Mq N _ _) fun a4 h=>?_
  refine dk ?_
  refine dr mixed ?_
  refine iZ aE ?_
  refine dR false h fun al h=>?_
  refine dc aE false [(bA.mk p.Form p.dz)] ?_
  refine dR false h fun am h=>?_
  refine dk ?_
  refine dr mixed ?_
  refine iZ aE ?_
  refine dR false h fun an h=>?_
  refine dc aE true [a4] ?_
  refine dR false h fun ao h=>?_
  refine dk ?_
  refine rg ?_
  refine bI h fun aq h=>?_
  refine cl none [] 0 h (ih _ _) fun ar h=>?_
  refine gd h (fun a5 h=>?_) (fun a5 h=>?_)
  refine bI h fun av h=>?_
  refine cl none [] 0 h (ih _ _) fun aw h=>?_
  cases h
  exact rt []
  cases h
  exact rt []
end Go.Proofs.YtipdkfmhfakbnaaGreatDoor.SD

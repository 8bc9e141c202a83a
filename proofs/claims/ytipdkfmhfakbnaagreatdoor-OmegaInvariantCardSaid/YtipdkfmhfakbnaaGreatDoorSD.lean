/- Walks of the symbolic machine, written by a program of mine (wip/tool). -/
import Derived.Test.YtipdkfmhfakbnaaGreatDoorTB
import Derived.Test.YtipdkfmhfakbnaaGreatDoorAg
import Derived.Test.YtipdkfmhfakbnaaGreatDoorAd
import Derived.Test.YtipdkfmhfakbnaaGreatDoorSR
set_option linter.unusedVariables false
set_option linter.unusedSimpArgs false
set_option linter.unusedSectionVars false
set_option maxRecDepth 100000
set_option maxHeartbeats 4000000
namespace Go.Proofs.YtipdkfmhfakbnaaGreatDoor.SD
open Go Go.RowKit Go.X Go.Q Go.D Go.Proofs.YtipdkfmhfakbnaaGreatDoor.TB Go.Proofs.YtipdkfmhfakbnaaGreatDoor.FS Go.Proofs.YtipdkfmhfakbnaaGreatDoor.SR
theorem L6(N:Nat)(n:Int)(r:bB)(h:u6 N n=some r):Cn Tryz.prog 128 [sI .i64 n] [.row aA true r.aT,.row (aD .u32) true r.dA.aP] [.agg [.own 0,lB r.dA.bG,.own 1]]:=by
 unfold u6 at h
 refine fn tb en128 Tryz.func128 fun X w H ν=>?_
 refine gP aA h fun x7 h=>?_
 refine pr (nb 0 2 (aD .u32)) ?_
 cases h
 exact rt [1,2]
theorem Ed(N:Nat)(c:Constraint)(n:Int)(r:Bool)(h:rX N c n=some r):Cn Tryz.prog 52 [sA ct false c,sI .i64 n] [] [sB r]:=by
 unfold rX at h
 refine fn tb en52 Tryz.func52 fun X w H ν=>?_
 refine jn (fun x=>(Sum.inl x)) (fun(_:Unit)=>aW 0 [] [vi 1 n]) h (fun o f b=>?_) ?_
 refine bk ?_
 refine lp (fun a=>aW 1 [.box (aO.cl ct false c)] [vi 1 n,vp 2 0,vi 5 a]) f [0] ?_
 rintro a oo h d
 rw[EH]at h
 refine cd h (fun g h=>?_) (fun g h=>?_)
 refine bk ?_
 refine bF h fun p h=>?_
 refine jn (fun x=>x) (fun e=>aW 1 [.box (aO.cl ct false c)] [vi 1 n,vp 2 0,vi 5 a,vb 44 e]) h (fun s h u=>?_) ?_
 refine rg ?_
 refine gd h (fun i h=>?_) (fun i h=>?_)
 cases h
 exact bj _ [0]
 refine gd h (fun j h=>?_) (fun j h=>?_)
 cases h
 exact bj _ [0]
 refine gd h (fun k h=>?_) (fun k h=>?_)
 refine bF h fun v h=>?_
 cases h
 exact bj _ [0]
 cases h
 exact bj _ [0]
 intro e h
 try dsimp only at h
 refine cd h (fun l h=>?_) (fun l h=>?_)
 cases h
 cases d _ rfl
 replace h:=b
 try dsimp only at h
 cases h
 exact rt []
 cases h
 exact bl [0]
 cases h
 cases d _ rfl
 replace h:=b
 try dsimp only at h
 exact bj _ []
 intro _ h
 try dsimp only at h
 refine rg ?_
 refine gd h (fun m h=>?_) (fun m h=>?_)
 cases h
 exact rt []
 cases h
 exact rt []
theorem Mg(N:Nat)(q:bB)(bound:aB)(r:bB)(h:pS N q bound=some r):Cn Tryz.prog 102 [sA aE false q,sA aA false bound] [] [sA aE true r]:=by
 unfold pS at h
 refine fn tb en102 Tryz.func102 fun X w H ν=>?_
 refine cl none [] 0 h (O1 N _) fun a h=>?_
 refine jn (fun x=>x) (fun b=>aW 3 [.box [lN,(lB false),lN],.box [(.own 2),(lB a.bG),(.ro (aD .u32) true a.aP)],.row aA true b] [vp 4 0,vp 5 1]) h (fun k e f=>?_) ?_
 refine bk ?_
 refine ps (nb 3 0 aA) ?_
 refine lp (fun⟨c,d⟩=>aW 4 [.box (aO.cl aE false q),.box [lN,(lB false),lN],.box [(.own 3),(lB a.bG),(.ro (aD .u32) true a.aP)],.row aA true c] [vp 2 0,vp 4 1,vp 5 2,vi 6 d]) e [0,2,3,4] ?_
 rintro⟨c,d⟩ oo h g
 rw[zq]at h
 refine cd h (fun i h=>?_) (fun i h=>?_)
 refine bk ?_
 refine dr mixed ?_
 refine bF h fun l h=>?_
 refine cl none [] 0 h (zw N _) fun j h=>?_
 refine de aA true [j] ?_
 refine dQ true h fun m h=>?_
 refine dk ?_
 cases h
 exact bl [0,1,2,5]
 cases h
 cases g _ rfl
 replace h:=f
 try dsimp only at h
 exact bj _ [1,2,3]
 intro b h
 try dsimp only at h
 cases h
 exact rt []
theorem Q6(N:Nat)(c:Constraint)(n:Int)(r:(List bB))(h:yo N c n=some r):Cn Tryz.prog 103 [sA ct false c,sI .i64 n] [.row aE true r] [sO 0]:=by
 unfold yo at h
 refine fn tb en103 Tryz.func103 fun X w H ν=>?_
 refine cl none [] 0 h (Ed N _ _) fun r6 h=>?_
 refine cd h (fun g h=>?_) (fun g h=>?_)
 refine pr (nl 4 aE) ?_
 cases h
 exact rt [1]
 refine cl none [] 2 h (L6 N _) fun a h=>?_
 refine jn (fun x=>x) (fun b=>aW 4 [.box (aO.cl ct false c),.box [(.own 2),(lB a.dA.bG),(.own 3)],.row aA true b,.row (aD .u32) true a.dA.aP] [vp 2 0,vp 5 1]) h (fun p i j=>?_) ?_
 refine bk ?_
 refine lp (fun⟨d,e⟩=>aW 4 [.box (aO.cl ct false c),.box [(.own 2),(lB a.dA.bG),(.own 3)],.row aA true d,.row (aD .u32) true a.dA.aP] [vp 2 0,vp 5 1,vi 6 e]) i [0,3,1,2] ?_
 rintro⟨d,e⟩ oo h k
 rw[CU]at h
 refine cd h (fun l h=>?_) (fun l h=>?_)
 refine bk ?_
 refine dr mixed ?_
 refine bF h fun s h=>?_
 refine bF h fun u h=>?_
 refine cl none [] 0 h (oW N _) fun v h=>?_
 refine jC h fun y a0 h=>?_
 refine dW true h fun a1 h=>?_
 refine dk ?_
 cases h
 exact bl [0,1,2,3]
 cases h
 cases k _ rfl
 replace h:=j
 try dsimp only at h
 exact bj _ [0,1,2,3]
 intro b h
 try dsimp only at h
 refine cl none [] 0 h (oW N _) fun a2 h=>?_
 refine cl none [] 0 h (zw N _) fun f h=>?_
 refine cd h (fun m h=>?_) (fun m h=>?_)
 refine po (jH 2 [50] [1]) ?_
 refine de aE true [(bB.mk b f)] ?_
 cases h
 exact rt [5]
 refine dr mixed ?_
 refine cl none [] 0 h (Mg N _ _) fun o h=>?_
 refine po (jH 2 [52,53] [1]) ?_
 refine de aE true [(bB.mk b f),o] ?_
 refine dk ?_
 cases h
 exact rt [5]
theorem TA(N:Nat)(l:(List Constraint))(n:Int)(r:(List bB))(h:w5 N l n=some r):Cn Tryz.prog 71 [sR ct false l,sI .i64 n] [.row aE true r] [sO 0]:=by
 unfold w5 at h
 refine fn tb en71 Tryz.func71 fun X w H ν=>?_
 refine ji aE ?_
 refine jn (fun x=>(Sum.inl x)) (fun a=>aW 1 [.row aE true a] [vo 5 0]) h (fun j f b=>?_) ?_
 refine bk ?_
 refine lp (fun⟨c,d⟩=>aW 1 [.row aE true c] [vr 0 ct false l,vi 1 n,vo 5 0,vi 6 d]) f [0] ?_
 rintro⟨c,d⟩ oo h e
 rw[DL]at h
 refine cd h (fun g h=>?_) (fun g h=>?_)
 refine bk ?_
 refine bF h fun k h=>?_
 refine cl none [] 0 h (Ed N _ _) fun m h=>?_
 refine cd h (fun i h=>?_) (fun i h=>?_)
 refine pr (nl 4 aE) ?_
 cases h
 cases e _ rfl
 replace h:=b
 try dsimp only at h
 cases h
 exact rt [1]
 refine bF h fun o h=>?_
 refine cl none [] 1 h (Q6 N _ _) fun p h=>?_
 refine dQ true h fun s h=>?_
 cases h
 exact bl [2]
 cases h
 cases e _ rfl
 replace h:=b
 try dsimp only at h
 exact bj _ [0]
 intro a h
 try dsimp only at h
 cases h
 exact rt [0]
theorem Ii(N:Nat)(l:(List bB))(r:Bool)(h:uR N l=some r):Cn Tryz.prog 99 [sR aE false l] [] [sB r]:=by
 unfold uR at h
 refine fn tb en99 Tryz.func99 fun X w H ν=>?_
 refine jn (fun x=>(Sum.inl x)) (fun(_:Unit)=>aW 0 [] []) h (fun g d a=>?_) ?_
 refine bk ?_
 refine lp (fun b=>aW 0 [] [vr 0 aE false l,vi 3 b]) d [] ?_
 rintro b oo h c
 rw[xX]at h
 refine cd h (fun e h=>?_) (fun e h=>?_)
 refine bk ?_
 refine dr mixed ?_
 refine bF h fun i h=>?_
 refine bF h fun j h=>?_
 refine dk ?_
 refine cd h (fun f h=>?_) (fun f h=>?_)
 cases h
 cases c _ rfl
 replace h:=a
 try dsimp only at h
 cases h
 exact rt []
 cases h
 exact bl []
 cases h
 cases c _ rfl
 replace h:=a
 try dsimp only at h
 exact bj _ []
 intro _ h
 try dsimp only at h
 cases h
 exact rt []
theorem Pw(N:Nat)(l:(List bB))(s:Step)(r:(bB×Bool))(h:wH N l s=some r):Cn Tryz.prog 100 [sR aE false l,sA aJ false s] [] [sA aE true r.1,sB r.2]:=by
 unfold wH at h
 refine fn tb en100 Tryz.func100 fun X w H ν=>?_
 refine jn (fun x=>x) (fun j=>aW 2 [.box (aO.cl aJ false s),.box [lN,(lB false),lN]] [vr 0 aE false l,vp 3 0,vp 4 1,vb 24 j]) h (fun ak h al=>?_) ?_
 refine rg ?_
 refine cl none [] 0 h (Ii N _) fun am h=>?_
 refine gd h (fun a5 h=>?_) (fun a5 h=>?_)
 cases h
 exact bj _ [0,1]
 refine cl none [] 0 h (ot N _) fun an h=>?_
 cases h
 exact bj _ [0,1]
 intro j h
 try dsimp only at h
 refine cd h (fun a6 h=>?_) (fun a6 h=>?_)
 cases h
 exact rt []
 refine jn (fun x=>x) (fun a=>aW 2 [.box (aO.cl aJ false s),.box [lN,(lB false),lN]] [vr 0 aE false l,vp 3 0,vp 4 1,vi 6 a]) h (fun ao h aq=>?_) ?_
 refine cd h (fun a7 h=>?_) (fun a7 h=>?_)
 refine bF h fun ar h=>?_
 cases h
 exact bj _ [0,1]
 cases h
 exact bj _ [0,1]
 intro a h
 try dsimp only at h
 refine cl none [] 2 h (L6 N _) fun av h=>?_
 refine jn (fun x=>(Sum.inl x)) (fun⟨k,e,f⟩=>aW 4 [.box (aO.cl aJ false s),.box [lN,(lB false),lN],.box [(.own 3),(lB e),(.ro (aD .u32) true f)],.row aA true k] [vp 3 0,vp 4 1,vi 6 a,vp 7 2]) h (fun aw a8 m=>?_) ?_
 refine bk ?_
 refine lp (fun⟨g,b,c,d⟩=>aW 4 [.box (aO.cl aJ false s),.box [lN,(lB false),lN],.box [(.own 3),(lB b),(.ro (aD .u32) true c)],.row aA true g] [vr 0 aE false l,vp 3 0,vp 4 1,vi 6 a,vp 7 2,vi 8 d]) a8 [0,1,4,2] ?_
 rintro⟨g,b,c,d⟩ oo h n
 rw[Fk]at h
 refine cd h (fun a9 h=>?_) (fun a9 h=>?_)
 refine bk ?_
 refine bF h fun i h=>?_
 refine jn (fun x=>x) (fun o=>aW 5 [.box (aO.cl aJ false s),.box [lN,(lB false),lN],.box [(.own 3),(lB b),(.ro (aD .u32) true c)],.row aA true g,.box (aO.cl ej false i)] [vr 0 aE false l,vp 3 0,vp 4 1,vi 6 a,vp 7 2,vi 8 d,vp 9 4,vb 63 o]) h (fun ax h ay=>?_) ?_
 refine rg ?_
 refine gd h (fun aa h=>?_) (fun aa h=>?_)
 cases h
 exact bj _ [0,1,2,3,4]
 refine gd h (fun ab h=>?_) (fun ab h=>?_)
 cases h
 exact bj _ [0,1,2,3,4]
 refine cl none [] 0 h (ot N _) fun az h=>?_
 cases h
 exact bj _ [0,1,2,3,4]
 intro o h
 try dsimp only at h
 refine cd h (fun ac h=>?_) (fun ac h=>?_)
 cases h
 cases n _ rfl
 replace h:=m
 try dsimp only at h
 cases h
 exact rt []
 refine bF h fun p h=>?_
 refine jn (fun x=>x) (fun u=>aW 6 [.box (aO.cl aJ false s),.box [lN,(lB false),lN],.box [(.own 3),(lB b),(.ro (aD .u32) true c)],.row aA true u,.box (aO.cl ej false i),.box (aO.cl aE false p)] [vr 0 aE false l,vp 3 0,vp 4 1,vi 6 a,vp 7 2,vi 8 d,vp 9 4,vp 10 5]) h (fun b0 ad ae=>?_) ?_
 refine bk ?_
 refine lp (fun⟨v,y⟩=>aW 6 [.box (aO.cl aJ false s),.box [lN,(lB false),lN],.box [(.own 3),(lB b),(.ro (aD .u32) true c)],.row aA true v,.box (aO.cl ej false i),.box (aO.cl aE false p)] [vr 0 aE false l,vp 3 0,vp 4 1,vi 6 a,vp 7 2,vi 8 d,vp 9 4,vp 10 5,vi 11 y]) ad [0,1,2,3,4,5] ?_
 rintro⟨v,y⟩ oo h af
 rw[xU]at h
 refine cd h (fun ag h=>?_) (fun ag h=>?_)
 refine bk ?_
 refine dr mixed ?_
 refine jC h fun b1 b2 h=>?_
 refine dL ?_
 refine bF h fun b3 h=>?_
 refine cl none [] 0 h (EZ N _ _) fun b4 h=>?_
 refine cl none [] 0 h (wR N _ _) fun b5 h=>?_
 refine jC h fun b6 b7 h=>?_
 refine dW true h fun b8 h=>?_
 refine dk ?_
 cases h
 exact bl [0,1,2,3,4,5]
 cases h
 cases af _ rfl
 replace h:=ae
 try dsimp only at h
 exact bj _ [0,1,2,3,4,5]
 intro u h
 try dsimp only at h
 refine dr mixed ?_
 refine cl none [] 0 h (EZ N _ _) fun b9 h=>?_
 refine cl none [] 0 h (wR N _ _) fun ba h=>?_
 refine dk ?_
 cases h
 exact bl [0,1,2,3]
 cases h
 cases n _ rfl
 replace h:=m
 try dsimp only at h
 exact bj _ [0,1,2,3]
 rintro⟨k,e,f⟩ h
 try dsimp only at h
 refine jn (fun x=>(Sum.inl x)) (fun a0=>aW 4 [.box (aO.cl aJ false s),.box [lN,(lB false),lN],.box [(.own 3),(lB e),(.ro (aD .u32) true f)],.row aA true a0] [vp 3 0,vp 4 1,vp 7 2]) h (fun bb ah a1=>?_) ?_
 refine bk ?_
 refine lp (fun⟨a2,a3⟩=>aW 4 [.box (aO.cl aJ false s),.box [lN,(lB false),lN],.box [(.own 3),(lB e),(.ro (aD .u32) true f)],.row aA true a2] [vp 3 0,vp 4 1,vi 6 a,vp 7 2,vi 12 a3]) ah [0,1,2,3] ?_
 rintro⟨a2,a3⟩ oo h a4
 rw[wC]at h
 refine cd h (fun ai h=>?_) (fun ai h=>?_)
 refine bk ?_
 refine dr mixed ?_
 refine jC h fun bc bd h=>?_
 refine dL ?_
 refine cl none [] 0 h (Ki N _ _) fun be h=>?_
 refine dk ?_
 refine cl none [] 0 h (ot N _) fun bf h=>?_
 refine cd h (fun aj h=>?_) (fun aj h=>?_)
 cases h
 cases a4 _ rfl
 replace h:=a1
 try dsimp only at h
 cases h
 exact rt []
 refine jC h fun bg bh h=>?_
 refine dW true h fun bi h=>?_
 cases h
 exact bl [0,1,2,3]
 cases h
 cases a4 _ rfl
 replace h:=a1
 try dsimp only at h
 exact bj _ [0,1,2,3]
 intro a0 h
 try dsimp only at h
 refine cl none [] 0 h (Ki N _ _) fun bm h=>?_
 cases h
 exact rt []
theorem TE(N:Nat)(q:bB)(r:Bool)(h:xD N q=some r):Cn Tryz.prog 101 [sA aE false q] [] [sB r]:=by
 unfold xD at h
 refine fn tb en101 Tryz.func101 fun X w H ν=>?_
 refine jn (fun x=>(Sum.inl x)) (fun(_:Unit)=>aW 1 [.box (aO.cl aE false q)] [vp 1 0]) h (fun g d a=>?_) ?_
 refine bk ?_
 refine lp (fun b=>aW 1 [.box (aO.cl aE false q)] [vp 1 0,vi 3 b]) d [0] ?_
 rintro b oo h c
 rw[wz]at h
 refine cd h (fun e h=>?_) (fun e h=>?_)
 refine bk ?_
 refine bF h fun i h=>?_
 refine cl none [] 0 h (ot N _) fun j h=>?_
 refine cd h (fun f h=>?_) (fun f h=>?_)
 cases h
 cases c _ rfl
 replace h:=a
 try dsimp only at h
 cases h
 exact rt []
 cases h
 exact bl [0]
 cases h
 cases c _ rfl
 replace h:=a
 try dsimp only at h
 exact bj _ [0]
 intro _ h
 try dsimp only at h
 refine cl none [] 0 h (ot N _) fun k h=>?_
 cases h
 exact rt []
theorem SX(N:Nat):∀(l:(List bB)) (p:Proof) (r:Bool) (h:rP N l p=some r),Cn Tryz.prog 70 [sR aE false l,sA jb false p] [] [sB r]:=by
 induction N with
 |zero=>intro l p r h;cases h
 |succ N ih=>
  intro l p r h
  replace h:so N (rP N) l p=some r:=h
  unfold so at h
  refine fn tb en70 Tryz.func70 fun X w H ν=>?_
  refine cl none [] 0 h (Ii N _) fun r6 h=>?_
  refine cd h (fun k h=>?_) (fun k h=>?_)
  cases h
  exact rt []
  refine ji aE ?_
  refine dQ false h fun a6 h=>?_
  refine jn (fun x=>(Sum.inl x)) (fun a=>aW 2 [.box (aO.cl jb false p),.row aE false a] [vp 3 0,vo 5 1]) h (fun a7 m b=>?_) ?_
  refine bk ?_
  refine lp (fun⟨c,d⟩=>aW 2 [.box (aO.cl jb false p),.row aE false c] [vp 3 0,vo 5 1,vi 6 d]) m [0,2] ?_
  rintro⟨c,d⟩ oo h e
  rw[zn]at h
  refine cd h (fun n h=>?_) (fun n h=>?_)
  refine bk ?_
  refine bF h fun a8 h=>?_
  refine cl none [] 0 h (Pw N _ _) fun o h=>?_
  refine cd h (fun s h=>?_) (fun s h=>?_)
  cases h
  cases e _ rfl
  replace h:=b
  try dsimp only at h
  cases h
  exact rt []
  refine de aE true [o.1] ?_
  refine dQ false h fun a9 h=>?_
  cases h
  exact bl [0,4]
  cases h
  cases e _ rfl
  replace h:=b
  try dsimp only at h
  exact bj _ [0,1]
  intro a h
  try dsimp only at h
  refine cd h (fun u h=>?_) (fun u h=>?_)
  refine jn (fun x=>(Sum.inl x)) (fun(_:Unit)=>aW 0 [] []) h (fun aa v f=>?_) ?_
  refine bk ?_
  refine lp (fun g=>aW 1 [.row aE false a] [vo 5 0,vi 9 g]) v [1] ?_
  rintro g oo h i
  rw[C1]at h
  refine cd h (fun y h=>?_) (fun y h=>?_)
  refine bk ?_
  refine jC h fun ab ac h=>?_
  refine dL ?_
  refine cl none [] 0 h (TE N _) fun ad h=>?_
  refine cd h (fun a0 h=>?_) (fun a0 h=>?_)
  cases h
  cases i _ rfl
  replace h:=f
  try dsimp only at h
  cases h
  exact rt []
  cases h
  exact bl [0]
  cases h
  cases i _ rfl
  replace h:=f
  try dsimp only at h
  exact bj _ []
  intro _ h
  try dsimp only at h
  cases h
  exact rt []
  refine jn (fun x=>x) (fun j=>aW 2 [.box (aO.cl jb false p),.row aE false a] [vp 3 0,vo 5 1,vb 77 j]) h (fun ae h af=>?_) ?_
  refine dr mixed ?_
  refine gd h (fun a1 h=>?_) (fun a1 h=>?_)
  refine dk ?_
  cases h
  exact bj _ [0,1]
  refine gd h (fun a2 h=>?_) (fun a2 h=>?_)
  refine jC h fun ag ah h=>?_
  refine dL ?_
  refine dk ?_
  cases h
  exact bj _ [0,1]
  refine dk ?_
  cases h
  exact bj _ [0,1]
  intro j h
  try dsimp only at h
  refine cd h (fun a3 h=>?_) (fun a3 h=>?_)
  cases h
  exact rt []
  refine dr mixed ?_
  refine cl none [] 0 h (zw N _) fun ai h=>?_
  refine cl none [] 0 h (oW N _) fun aj h=>?_
  refine cl none [] 0 h (MC N _ _) fun ak h=>?_
  refine cl none [] 0 h (Mg N _ _) fun a4 h=>?_
  refine dk ?_
  refine dr mixed ?_
  refine ji aE ?_
  refine dQ false h fun al h=>?_
  refine de aE false [(bB.mk p.Form p.dA)] ?_
  refine dQ false h fun am h=>?_
  refine dk ?_
  refine dr mixed ?_
  refine ji aE ?_
  refine dQ false h fun an h=>?_
  refine de aE true [a4] ?_
  refine dQ false h fun ao h=>?_
  refine dk ?_
  refine rg ?_
  refine bF h fun aq h=>?_
  refine cl none [] 0 h (ih _ _) fun ar h=>?_
  refine gd h (fun a5 h=>?_) (fun a5 h=>?_)
  refine bF h fun av h=>?_
  refine cl none [] 0 h (ih _ _) fun aw h=>?_
  cases h
  exact rt []
  cases h
  exact rt []
end Go.Proofs.YtipdkfmhfakbnaaGreatDoor.SD

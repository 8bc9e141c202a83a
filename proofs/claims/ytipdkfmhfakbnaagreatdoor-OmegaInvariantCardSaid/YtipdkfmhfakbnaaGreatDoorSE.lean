/- Walks of the symbolic machine, written by a program of mine (wip/tool). -/
import Derived.Test.YtipdkfmhfakbnaaGreatDoorTB
import Derived.Test.YtipdkfmhfakbnaaGreatDoorAg
import Derived.Test.YtipdkfmhfakbnaaGreatDoorAd
import Derived.Test.YtipdkfmhfakbnaaGreatDoorSR
import Derived.Test.YtipdkfmhfakbnaaGreatDoorSD
set_option linter.unusedVariables false
set_option linter.unusedSimpArgs false
set_option linter.unusedSectionVars false
set_option maxRecDepth 100000
set_option maxHeartbeats 4000000
namespace Go.Proofs.YtipdkfmhfakbnaaGreatDoor.SE
open Go Go.RowKit Go.X Go.Q Go.D Go.Proofs.YtipdkfmhfakbnaaGreatDoor.TB Go.Proofs.YtipdkfmhfakbnaaGreatDoor.FS Go.Proofs.YtipdkfmhfakbnaaGreatDoor.SR Go.Proofs.YtipdkfmhfakbnaaGreatDoor.SD
theorem RD(N:Nat)(f:Linear)(x:(List aB))(r:aB)(h:wI N f x=some r):Cn Tryz.prog 58 [sA nZ false f,sR aA false x] [] [sA aA true r]:=by
 unfold wI at h
 refine fn tb en58 Tryz.func58 fun X w H ν=>?_
 refine cl none [] 0 h (oW N _) fun j h=>?_
 refine jn (fun x=>x) (fun a=>aW 2 [.box [(lB false),lN],.box (aO.cl aA true a)] [vp 4 0,vp 5 1]) h (fun k d e=>?_) ?_
 refine bk ?_
 refine lp (fun⟨b,c⟩=>aW 3 [.box (aO.cl nZ false f),.box [(lB false),lN],.box (aO.cl aA true b)] [vr 1 aA false x,vp 2 0,vp 4 1,vp 5 2,vi 6 c]) d [0,1,2] ?_
 rintro⟨b,c⟩ oo h g
 rw[Dl]at h
 refine cd h (fun i h=>?_) (fun i h=>?_)
 refine bk ?_
 refine dr mixed ?_
 refine bF h fun l h=>?_
 refine cl none [] 0 h (oW N _) fun m h=>?_
 refine bF h fun n h=>?_
 refine bF h fun o h=>?_
 refine cl none [] 0 h (EZ N _ _) fun p h=>?_
 refine cl none [] 0 h (wR N _ _) fun s h=>?_
 refine dk ?_
 cases h
 exact bl [0,1,2]
 cases h
 cases g _ rfl
 replace h:=e
 try dsimp only at h
 exact bj _ [1,2]
 intro a h
 try dsimp only at h
 cases h
 exact rt []
theorem TR(N:Nat)(l:(List Constraint))(x:(List aB))(r:Bool)(h:vF N l x=some r):Cn Tryz.prog 28 [sR ct false l,sR aA false x] [] [sB r]:=by
 unfold vF at h
 refine fn tb en28 Tryz.func28 fun X w H ν=>?_
 refine jn (fun x=>(Sum.inl x)) (fun(_:Unit)=>aW 0 [] []) h (fun k e b=>?_) ?_
 refine bk ?_
 refine lp (fun a=>aW 0 [] [vr 0 ct false l,vr 1 aA false x,vi 5 a]) e [] ?_
 rintro a oo h c
 rw[wv]at h
 refine cd h (fun f h=>?_) (fun f h=>?_)
 refine bk ?_
 refine bF h fun m h=>?_
 refine cl none [] 0 h (RD N _ _) fun n h=>?_
 refine cl none [] 0 h (ot N _) fun o h=>?_
 refine jn (fun x=>x) (fun d=>aW 0 [] [vr 0 ct false l,vr 1 aA false x,vi 5 a,vb 33 d]) h (fun p h s=>?_) ?_
 refine rg ?_
 refine gd h (fun g h=>?_) (fun g h=>?_)
 cases h
 exact bj _ []
 refine gd h (fun i h=>?_) (fun i h=>?_)
 refine bF h fun u h=>?_
 cases h
 exact bj _ []
 cases h
 exact bj _ []
 intro d h
 try dsimp only at h
 refine cd h (fun j h=>?_) (fun j h=>?_)
 cases h
 cases c _ rfl
 replace h:=b
 try dsimp only at h
 cases h
 exact rt []
 cases h
 exact bl []
 cases h
 cases c _ rfl
 replace h:=b
 try dsimp only at h
 exact bj _ []
 intro _ h
 try dsimp only at h
 cases h
 exact rt []
theorem No(N:Nat)(n:Int)(l:(List Constraint))(r:Bool)(h:wj N n l=some r):Cn Tryz.prog 25 [sI .i64 n,sR ct false l] [] [sB r]:=by
 unfold wj at h
 refine fn tb en25 Tryz.func25 fun X w H ν=>?_
 refine jn (fun x=>(Sum.inl x)) (fun(_:Unit)=>aW 0 [] [vi 0 n]) h (fun i d a=>?_) ?_
 refine bk ?_
 refine lp (fun b=>aW 0 [] [vi 0 n,vr 1 ct false l,vi 5 b]) d [] ?_
 rintro b oo h c
 rw[xk]at h
 refine cd h (fun e h=>?_) (fun e h=>?_)
 refine bk ?_
 refine bF h fun j h=>?_
 refine cl none [] 0 h (Ed N _ _) fun k h=>?_
 refine cd h (fun f h=>?_) (fun f h=>?_)
 cases h
 cases c _ rfl
 replace h:=a
 try dsimp only at h
 cases h
 exact rt []
 cases h
 exact bl []
 cases h
 cases c _ rfl
 replace h:=a
 try dsimp only at h
 exact bj _ []
 intro _ h
 try dsimp only at h
 refine rg ?_
 refine gd h (fun g h=>?_) (fun g h=>?_)
 cases h
 exact rt []
 cases h
 exact rt []
theorem Sx(N:Nat)(n:Int)(l:(List Constraint))(most:Int)(r:Bool)(h:wW N n l most=some r):Cn Tryz.prog 11 [sI .i64 n,sR ct false l,sI .i64 most] [] [sB r]:=by
 unfold wW at h
 refine fn tb en11 Tryz.func11 fun X w H ν=>?_
 refine jn (fun x=>(Sum.inl x)) (fun(_:Unit)=>aW 0 [] [vi 0 n,vr 1 ct false l]) h (fun a2 k b=>?_) ?_
 refine bk ?_
 refine lp (fun a=>aW 0 [] [vi 0 n,vr 1 ct false l,vi 2 most,vi 7 a]) k [] ?_
 rintro a oo h c
 rw[xm]at h
 refine cd h (fun m h=>?_) (fun m h=>?_)
 refine bk ?_
 refine bF h fun d h=>?_
 refine jn (fun x=>x) (fun f=>aW 1 [.box (aO.cl nZ false d.Linear)] [vi 0 n,vr 1 ct false l,vi 2 most,vi 7 a,vp 8 0,vb 28 f]) h (fun a3 h a4=>?_) ?_
 refine rg ?_
 refine gd h (fun o h=>?_) (fun o h=>?_)
 cases h
 exact bj _ [0]
 cases h
 exact bj _ [0]
 intro f h
 try dsimp only at h
 refine cd h (fun p h=>?_) (fun p h=>?_)
 cases h
 cases c _ rfl
 replace h:=b
 try dsimp only at h
 cases h
 exact rt []
 refine jn (fun x=>(Sum.inl x)) (fun(_:Unit)=>aW 0 [] [vi 0 n,vr 1 ct false l,vi 2 most,vi 7 a]) h (fun a5 s g=>?_) ?_
 refine bk ?_
 refine lp (fun e=>aW 1 [.box (aO.cl nZ false d.Linear)] [vi 0 n,vr 1 ct false l,vi 2 most,vi 7 a,vp 8 0,vi 9 e]) s [0] ?_
 rintro e oo h i
 rw[xV]at h
 refine cd h (fun u h=>?_) (fun u h=>?_)
 refine bk ?_
 refine jn (fun x=>x) (fun j=>aW 1 [.box (aO.cl nZ false d.Linear)] [vi 0 n,vr 1 ct false l,vi 2 most,vi 7 a,vp 8 0,vi 9 e,vb 54 j]) h (fun a6 h a7=>?_) ?_
 refine rg ?_
 refine bF h fun a8 h=>?_
 refine gd h (fun v h=>?_) (fun v h=>?_)
 cases h
 exact bj _ [0]
 refine bF h fun a9 h=>?_
 cases h
 exact bj _ [0]
 intro j h
 try dsimp only at h
 refine cd h (fun y h=>?_) (fun y h=>?_)
 cases h
 cases i _ rfl
 replace h:=g
 try dsimp only at h
 cases h
 cases c _ rfl
 replace h:=b
 try dsimp only at h
 cases h
 exact rt []
 cases h
 exact bl [0]
 cases h
 cases i _ rfl
 replace h:=g
 try dsimp only at h
 exact bj _ []
 intro _ h
 try dsimp only at h
 cases h
 exact bl []
 cases h
 cases c _ rfl
 replace h:=b
 try dsimp only at h
 exact bj _ []
 intro _ h
 try dsimp only at h
 refine rg ?_
 refine gd h (fun a0 h=>?_) (fun a0 h=>?_)
 refine gd h (fun a1 h=>?_) (fun a1 h=>?_)
 refine cl none [] 0 h (No N _ _) fun aa h=>?_
 cases h
 exact rt []
 cases h
 exact rt []
 cases h
 exact rt []
theorem Du(N:Nat)(n:Int)(l:(List Constraint))(p:Proof)(r:Bool)(h:rm N n l p=some r):Cn Tryz.prog 37 [sI .i64 n,sR ct false l,sA jb false p] [] [sB r]:=by
 unfold rm at h
 refine fn tb en37 Tryz.func37 fun X w H ν=>?_
 refine dr mixed ?_
 refine cl none [] 1 h (TA N _ _) fun r6 h=>?_
 refine cl none [] 0 h (SX N _ _) fun a h=>?_
 refine dk ?_
 cases h
 exact rt []
theorem PY(N:Nat)(l:(List Constraint))(pb:(List Int))(r:(List Constraint))(h:xR N l pb=some r):Cn Tryz.prog 23 [sR ct false l,sR (aD .i64) false pb] [.row ct false r] [sO 0]:=by
 unfold xR at h
 refine fn tb en23 Tryz.func23 fun X w H ν=>?_
 refine jn (fun x=>x) (fun d=>aW 1 [.row ct false d] [vo 5 0]) h (fun s g i=>?_) ?_
 refine bk ?_
 refine ps (nl 5 ct) ?_
 refine lp (fun⟨a,b⟩=>aW 1 [.row ct false a] [vr 0 ct false l,vr 1 (aD .i64) false pb,vo 5 0,vi 6 b]) g [0] ?_
 rintro⟨a,b⟩ oo h j
 rw[Cu]at h
 refine cd h (fun k h=>?_) (fun k h=>?_)
 refine bk ?_
 refine bF h fun u h=>?_
 refine jn (fun x=>x) (fun c=>aW 2 [.row ct false a,.box (aO.cl ct false c)] [vr 0 ct false l,vr 1 (aD .i64) false pb,vo 5 0,vi 6 b,vp 7 1]) h (fun v m n=>?_) ?_
 refine bk ?_
 refine lp (fun⟨e,f⟩=>aW 2 [.row ct false a,.box (aO.cl ct false e)] [vr 0 ct false l,vr 1 (aD .i64) false pb,vo 5 0,vi 6 b,vp 7 1,vi 8 f]) m [0,1] ?_
 rintro⟨e,f⟩ oo h o
 rw[EC]at h
 refine cd h (fun p h=>?_) (fun p h=>?_)
 refine bk ?_
 refine dr mixed ?_
 refine bF h fun y h=>?_
 refine bF h fun a0 h=>?_
 refine bF h fun a1 h=>?_
 refine dk ?_
 cases h
 exact bl [0,1]
 cases h
 cases o _ rfl
 replace h:=n
 try dsimp only at h
 exact bj _ [0,1]
 intro c h
 try dsimp only at h
 refine de ct false [c] ?_
 refine dQ false h fun a2 h=>?_
 cases h
 exact bl [3]
 cases h
 cases j _ rfl
 replace h:=i
 try dsimp only at h
 exact bj _ [0]
 intro d h
 try dsimp only at h
 cases h
 exact rt [0]
theorem Uc(N:Nat)(c:Constraint)(k:Int)(r:Constraint)(h:xF N c k=some r):Cn Tryz.prog 22 [sA ct false c,sI .i64 k] [] [sA ct true r]:=by
 unfold xF at h
 refine fn tb en22 Tryz.func22 fun X w H ν=>?_
 refine jn (fun x=>x) (fun a=>aW 3 [.box [(lI .i64 0),lN,(lB false)],.box [(lI .i64 (iw (c.Linear.Const*k))),(.own 2),(lB c.e9)],.row gA true a] [vp 4 0,vp 5 1]) h (fun m e f=>?_) ?_
 refine bk ?_
 refine ps (nb 2 1 gA) ?_
 refine lp (fun⟨b,d⟩=>aW 4 [.box (aO.cl ct false c),.box [(lI .i64 0),lN,(lB false)],.box [(lI .i64 (iw (c.Linear.Const*k))),(.own 3),(lB c.e9)],.row gA true b] [vi 1 k,vp 2 0,vp 4 1,vp 5 2,vi 6 d]) e [0,1,2,3] ?_
 rintro⟨b,d⟩ oo h g
 rw[C0]at h
 refine cd h (fun i h=>?_) (fun i h=>?_)
 refine bk ?_
 refine dr mixed ?_
 refine bF h fun j h=>?_
 refine bF h fun l h=>?_
 refine de gA true [(gK.mk j.Var (iw (l.N*k)))] ?_
 refine dQ true h fun n h=>?_
 refine dk ?_
 cases h
 exact bl [0,1,2,5]
 cases h
 cases g _ rfl
 replace h:=f
 try dsimp only at h
 exact bj _ [1,2,3]
 intro a h
 try dsimp only at h
 cases h
 exact rt []
end Go.Proofs.YtipdkfmhfakbnaaGreatDoor.SE

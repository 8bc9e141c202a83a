/- Walks of the symbolic machine, written by a program of mine (wip/tool). -/
import Derived.Test.YtipdkfmhfakbnaaGreatDoorTB
import Derived.Test.YtipdkfmhfakbnaaGreatDoorAf
import Derived.Test.YtipdkfmhfakbnaaGreatDoorAd
import Derived.Test.YtipdkfmhfakbnaaGreatDoorSR
import Derived.Test.YtipdkfmhfakbnaaGreatDoorSD
set_option linter.unusedVariables false
set_option linter.unusedSimpArgs false
set_option linter.unusedSectionVars false
set_option maxRecDepth 100000
set_option maxHeartbeats 4000000
namespace Go.Proofs.YtipdkfmhfakbnaaGreatDoor.SE
open Go Go.RowKit Go.X Go.Q Go.D Go.Proofs.YtipdkfmhfakbnaaGreatDoor.TB Go.Proofs.YtipdkfmhfakbnaaGreatDoor.FS Go.Proofs.YtipdkfmhfakbnaaGreatDoor.SR Go.Proofs.YtipdkfmhfakbnaaGreatDoor.SD
theorem Rz(N:Nat)(f:Linear)(x:(List aB))(r:aB)(h:xE N f x=some r):Cn Tryz.prog 58 [sA nU false f,sR aA false x] [] [sA aA true r]:=by
 unfold xE at h
 refine fn tb en58 Tryz.func58 fun X w H ν=>?_
 refine cl none [] 0 h (oD N _) fun j h=>?_
 refine jn (fun x=>x) (fun a=>aV 2 [.box [(lB false),lN],.box (aO.cl aA true a)] [vp 4 0,vp 5 1]) h (fun k d e=>?_) ?_
 refine bk ?_
 refine lp (fun⟨b,c⟩=>aV 3 [.box (aO.cl nU false f),.box [(lB false),lN],.box (aO.cl aA true b)] [vr 1 aA false x,vp 2 0,vp 4 1,vp 5 2,vi 6 c]) d [0,1,2] ?_
 rintro⟨b,c⟩ oo h g
 rw[Ek]at h
 refine cd h (fun i h=>?_) (fun i h=>?_)
 refine bk ?_
 refine dr mixed ?_
 refine bH h fun l h=>?_
 refine cl none [] 0 h (oD N _) fun m h=>?_
 refine bH h fun n h=>?_
 refine bH h fun o h=>?_
 refine cl none [] 0 h (Eo N _ _) fun p h=>?_
 refine cl none [] 0 h (wm N _ _) fun s h=>?_
 refine dk ?_
 cases h
 exact bl [0,1,2]
 cases h
 cases g _ rfl
 replace h:=e
 try dsimp only at h
 exact bj _ [1,2]
 intro a h
 try dsimp only at h
 cases h
 exact rt []
theorem Uf(N:Nat)(l:(List Constraint))(x:(List aB))(r:Bool)(h:ve N l x=some r):Cn Tryz.prog 28 [sR dH false l,sR aA false x] [] [sB r]:=by
 unfold ve at h
 refine fn tb en28 Tryz.func28 fun X w H ν=>?_
 refine jn (fun x=>(Sum.inl x)) (fun(_:Unit)=>aV 0 [] []) h (fun k e b=>?_) ?_
 refine bk ?_
 refine lp (fun a=>aV 0 [] [vr 0 dH false l,vr 1 aA false x,vi 5 a]) e [] ?_
 rintro a oo h c
 rw[wA]at h
 refine cd h (fun f h=>?_) (fun f h=>?_)
 refine bk ?_
 refine bH h fun m h=>?_
 refine cl none [] 0 h (Rz N _ _) fun n h=>?_
 refine cl none [] 0 h (nF N _) fun o h=>?_
 refine jn (fun x=>x) (fun d=>aV 0 [] [vr 0 dH false l,vr 1 aA false x,vi 5 a,vb 33 d]) h (fun p h s=>?_) ?_
 refine rg ?_
 refine gd h (fun g h=>?_) (fun g h=>?_)
 cases h
 exact bj _ []
 refine gd h (fun i h=>?_) (fun i h=>?_)
 refine bH h fun u h=>?_
 cases h
 exact bj _ []
 cases h
 exact bj _ []
 intro d h
 try dsimp only at h
 refine cd h (fun j h=>?_) (fun j h=>?_)
 cases h
 cases c _ rfl
 replace h:=b
 try dsimp only at h
 cases h
 exact rt []
 cases h
 exact bl []
 cases h
 cases c _ rfl
 replace h:=b
 try dsimp only at h
 exact bj _ []
 intro _ h
 try dsimp only at h
 cases h
 exact rt []
theorem TS(N:Nat)(n:Int)(l:(List Constraint))(r:Bool)(h:xL N n l=some r):Cn Tryz.prog 25 [sI .i64 n,sR dH false l] [] [sB r]:=by
 unfold xL at h
 refine fn tb en25 Tryz.func25 fun X w H ν=>?_
 refine jn (fun x=>(Sum.inl x)) (fun(_:Unit)=>aV 0 [] [vi 0 n]) h (fun i d a=>?_) ?_
 refine bk ?_
 refine lp (fun b=>aV 0 [] [vi 0 n,vr 1 dH false l,vi 5 b]) d [] ?_
 rintro b oo h c
 rw[we]at h
 refine cd h (fun e h=>?_) (fun e h=>?_)
 refine bk ?_
 refine bH h fun j h=>?_
 refine cl none [] 0 h (D8 N _ _) fun k h=>?_
 refine cd h (fun f h=>?_) (fun f h=>?_)
 cases h
 cases c _ rfl
 replace h:=a
 try dsimp only at h
 cases h
 exact rt []
 cases h
 exact bl []
 cases h
 cases c _ rfl
 replace h:=a
 try dsimp only at h
 exact bj _ []
 intro _ h
 try dsimp only at h
 refine rg ?_
 refine gd h (fun g h=>?_) (fun g h=>?_)
 cases h
 exact rt []
 cases h
 exact rt []
theorem RW(N:Nat)(n:Int)(l:(List Constraint))(most:Int)(r:Bool)(h:xb N n l most=some r):Cn Tryz.prog 11 [sI .i64 n,sR dH false l,sI .i64 most] [] [sB r]:=by
 unfold xb at h
 refine fn tb en11 Tryz.func11 fun X w H ν=>?_
 refine jn (fun x=>(Sum.inl x)) (fun(_:Unit)=>aV 0 [] [vi 0 n,vr 1 dH false l]) h (fun a2 k b=>?_) ?_
 refine bk ?_
 refine lp (fun a=>aV 0 [] [vi 0 n,vr 1 dH false l,vi 2 most,vi 7 a]) k [] ?_
 rintro a oo h c
 rw[vN]at h
 refine cd h (fun m h=>?_) (fun m h=>?_)
 refine bk ?_
 refine bH h fun d h=>?_
 refine jn (fun x=>x) (fun f=>aV 1 [.box (aO.cl nU false d.Linear)] [vi 0 n,vr 1 dH false l,vi 2 most,vi 7 a,vp 8 0,vb 28 f]) h (fun a3 h a4=>?_) ?_
 refine rg ?_
 refine gd h (fun o h=>?_) (fun o h=>?_)
 cases h
 exact bj _ [0]
 cases h
 exact bj _ [0]
 intro f h
 try dsimp only at h
 refine cd h (fun p h=>?_) (fun p h=>?_)
 cases h
 cases c _ rfl
 replace h:=b
 try dsimp only at h
 cases h
 exact rt []
 refine jn (fun x=>(Sum.inl x)) (fun(_:Unit)=>aV 0 [] [vi 0 n,vr 1 dH false l,vi 2 most,vi 7 a]) h (fun a5 s g=>?_) ?_
 refine bk ?_
 refine lp (fun e=>aV 1 [.box (aO.cl nU false d.Linear)] [vi 0 n,vr 1 dH false l,vi 2 most,vi 7 a,vp 8 0,vi 9 e]) s [0] ?_
 rintro e oo h i
 rw[wq]at h
 refine cd h (fun u h=>?_) (fun u h=>?_)
 refine bk ?_
 refine jn (fun x=>x) (fun j=>aV 1 [.box (aO.cl nU false d.Linear)] [vi 0 n,vr 1 dH false l,vi 2 most,vi 7 a,vp 8 0,vi 9 e,vb 54 j]) h (fun a6 h a7=>?_) ?_
 refine rg ?_
 refine bH h fun a8 h=>?_
 refine gd h (fun v h=>?_) (fun v h=>?_)
 cases h
 exact bj _ [0]
 refine bH h fun a9 h=>?_
 cases h
 exact bj _ [0]
 intro j h
 try dsimp only at h
 refine cd h (fun y h=>?_) (fun y h=>?_)
 cases h
 cases i _ rfl
 replace h:=g
 try dsimp only at h
 cases h
 cases c _ rfl
 replace h:=b
 try dsimp only at h
 cases h
 exact rt []
 cases h
 exact bl [0]
 cases h
 cases i _ rfl
 replace h:=g
 try dsimp only at h
 exact bj _ []
 intro _ h
 try dsimp only at h
 cases h
 exact bl []
 cases h
 cases c _ rfl
 replace h:=b
 try dsimp only at h
 exact bj _ []
 intro _ h
 try dsimp only at h
 refine rg ?_
 refine gd h (fun a0 h=>?_) (fun a0 h=>?_)
 refine gd h (fun a1 h=>?_) (fun a1 h=>?_)
 refine cl none [] 0 h (TS N _ _) fun aa h=>?_
 cases h
 exact rt []
 cases h
 exact rt []
 cases h
 exact rt []
theorem DE(N:Nat)(n:Int)(l:(List Constraint))(p:Proof)(r:Bool)(h:qV N n l p=some r):Cn Tryz.prog 37 [sI .i64 n,sR dH false l,sA iU false p] [] [sB r]:=by
 unfold qV at h
 refine fn tb en37 Tryz.func37 fun X w H ν=>?_
 refine dr mixed ?_
 refine cl none [] 1 h (TY N _ _) fun r6 h=>?_
 refine cl none [] 0 h (Uk N _ _) fun a h=>?_
 refine dk ?_
 cases h
 exact rt []
end Go.Proofs.YtipdkfmhfakbnaaGreatDoor.SE

/- Walks of the symbolic machine, written by a program of mine (wip/tool). -/
import Derived.Test.YtipdkfmhfakbnaaGreatDoorTB
import Derived.Test.YtipdkfmhfakbnaaGreatDoorAf
import Derived.Test.YtipdkfmhfakbnaaGreatDoorAd
import Derived.Test.YtipdkfmhfakbnaaGreatDoorSR
import Derived.Test.YtipdkfmhfakbnaaGreatDoorSD
set_option linter.unusedVariables false
set_option linter.unusedSimpArgs false
set_option linter.unusedSectionVars false
set_option maxRecDepth 100000
set_option maxHeartbeats 4000000
namespace Go.Proofs.YtipdkfmhfakbnaaGreatDoor.SE
open Go Go.RowKit Go.X Go.Q Go.D Go.Proofs.YtipdkfmhfakbnaaGreatDoor.TB Go.Proofs.YtipdkfmhfakbnaaGreatDoor.FS Go.Proofs.YtipdkfmhfakbnaaGreatDoor.SR Go.Proofs.YtipdkfmhfakbnaaGreatDoor.SD
theorem RK(N:Nat)(pa:Int)(c:Int)(r:Constraint)(h:Bc N pa c=some r):Cn Tryz.prog 19 [sI .i64 pa,sI .i64 c] [] [sA cT true r]:=by
 unfold Bc at h
 refine fn tb en19 Tryz.func19 fun X w H ν=>?_
 refine dc gR true [(gU.mk pa 1)] ?_
 cases h
 exact rt []
theorem PV(N:Nat)(pa:Int)(c:Int)(r:Constraint)(h:Ag N pa c=some r):Cn Tryz.prog 38 [sI .i64 pa,sI .i64 c] [] [sA cT true r]:=by
 unfold Ag at h
 refine fn tb en38 Tryz.func38 fun X w H ν=>?_
 refine dc gR true [(gU.mk pa (-1))] ?_
 cases h
 exact rt []
theorem Sa(N:Nat)(f:Linear)(x:(List aB))(r:aB)(h:wz N f x=some r):Cn Tryz.prog 58 [sA nH false f,sR aA false x] [] [sA aA true r]:=by
 unfold wz at h
 refine fn tb en58 Tryz.func58 fun X w H ν=>?_
 refine cl none [] 0 h (nR N _) fun j h=>?_
 refine jn (fun x=>x) (fun a=>aV 2 [.box [(lB false),lN],.box (aO.cl aA true a)] [vp 4 0,vp 5 1]) h (fun k d e=>?_) ?_
 refine bk ?_
 refine lp (fun⟨b,c⟩=>aV 3 [.box (aO.cl nH false f),.box [(lB false),lN],.box (aO.cl aA true b)] [vr 1 aA false x,vp 2 0,vp 4 1,vp 5 2,vi 6 c]) d [0,1,2] ?_
 rintro⟨b,c⟩ oo h g
 rw[DV]at h
 refine cd h (fun i h=>?_) (fun i h=>?_)
 refine bk ?_
 refine dr mixed ?_
 refine bI h fun l h=>?_
 refine cl none [] 0 h (nR N _) fun m h=>?_
 refine bI h fun n h=>?_
 refine bI h fun o h=>?_
 refine cl none [] 0 h (Fv N _ _) fun p h=>?_
 refine cl none [] 0 h (wq N _ _) fun s h=>?_
 refine dk ?_
 cases h
 exact bl [0,1,2]
 cases h
 cases g _ rfl
 replace h:=e
 try dsimp only at h
 exact bj _ [1,2]
 intro a h
 try dsimp only at h
 cases h
 exact rt []
theorem GP(N:Nat)(l:(List Constraint))(x:(List aB))(r:Bool)(h:ra N l x=some r):Cn Tryz.prog 28 [sR cT false l,sR aA false x] [] [sB r]:=by
 unfold ra at h
 refine fn tb en28 Tryz.func28 fun X w H ν=>?_
 refine jn (fun x=>(Sum.inl x)) (fun(_:Unit)=>aV 0 [] []) h (fun k e b=>?_) ?_
 refine bk ?_
 refine lp (fun a=>aV 0 [] [vr 0 cT false l,vr 1 aA false x,vi 5 a]) e [] ?_
 rintro a oo h c
 rw[we]at h
 refine cd h (fun f h=>?_) (fun f h=>?_)
 refine bk ?_
 refine bI h fun m h=>?_
 refine cl none [] 0 h (Sa N _ _) fun n h=>?_
 refine cl none [] 0 h (nN N _) fun o h=>?_
 refine jn (fun x=>x) (fun d=>aV 0 [] [vr 0 cT false l,vr 1 aA false x,vi 5 a,vb 33 d]) h (fun p h s=>?_) ?_
 refine rg ?_
 refine gd h (fun g h=>?_) (fun g h=>?_)
 cases h
 exact bj _ []
 refine gd h (fun i h=>?_) (fun i h=>?_)
 refine bI h fun u h=>?_
 cases h
 exact bj _ []
 cases h
 exact bj _ []
 intro d h
 try dsimp only at h
 refine cd h (fun j h=>?_) (fun j h=>?_)
 cases h
 cases c _ rfl
 replace h:=b
 try dsimp only at h
 cases h
 exact rt []
 cases h
 exact bl []
 cases h
 cases c _ rfl
 replace h:=b
 try dsimp only at h
 exact bj _ []
 intro _ h
 try dsimp only at h
 cases h
 exact rt []
theorem Qu(N:Nat)(l:(List Int))(r:(List aB))(h:yu N l=some r):Cn Tryz.prog 32 [sR (aD .i64) false l] [.row aA true r] [sO 0]:=by
 unfold yu at h
 refine fn tb en32 Tryz.func32 fun X w H ν=>?_
 refine jn (fun x=>x) (fun a=>aV 1 [.row aA true a] [vo 3 0]) h (fun j d e=>?_) ?_
 refine bk ?_
 refine ps (nl 3 aA) ?_
 refine lp (fun⟨b,c⟩=>aV 1 [.row aA true b] [vr 0 (aD .i64) false l,vo 3 0,vi 4 c]) d [0] ?_
 rintro⟨b,c⟩ oo h f
 rw[Fi]at h
 refine cd h (fun g h=>?_) (fun g h=>?_)
 refine bk ?_
 refine bI h fun k h=>?_
 refine cl none [] 0 h (nR N _) fun i h=>?_
 refine dc aA true [i] ?_
 refine dR true h fun m h=>?_
 cases h
 exact bl [2]
 cases h
 cases f _ rfl
 replace h:=e
 try dsimp only at h
 exact bj _ [0]
 intro a h
 try dsimp only at h
 cases h
 exact rt [0]
theorem S4(N:Nat)(n:Int)(l:(List Constraint))(r:Bool)(h:wM N n l=some r):Cn Tryz.prog 25 [sI .i64 n,sR cT false l] [] [sB r]:=by
 unfold wM at h
 refine fn tb en25 Tryz.func25 fun X w H ν=>?_
 refine jn (fun x=>(Sum.inl x)) (fun(_:Unit)=>aV 0 [] [vi 0 n]) h (fun i d a=>?_) ?_
 refine bk ?_
 refine lp (fun b=>aV 0 [] [vi 0 n,vr 1 cT false l,vi 5 b]) d [] ?_
 rintro b oo h c
 rw[yo]at h
 refine cd h (fun e h=>?_) (fun e h=>?_)
 refine bk ?_
 refine bI h fun j h=>?_
 refine cl none [] 0 h (Fq N _ _) fun k h=>?_
 refine cd h (fun f h=>?_) (fun f h=>?_)
 cases h
 cases c _ rfl
 replace h:=a
 try dsimp only at h
 cases h
 exact rt []
 cases h
 exact bl []
 cases h
 cases c _ rfl
 replace h:=a
 try dsimp only at h
 exact bj _ []
 intro _ h
 try dsimp only at h
 refine rg ?_
 refine gd h (fun g h=>?_) (fun g h=>?_)
 cases h
 exact rt []
 cases h
 exact rt []
theorem Uk(N:Nat)(n:Int)(l:(List Constraint))(most:Int)(r:Bool)(h:xA N n l most=some r):Cn Tryz.prog 11 [sI .i64 n,sR cT false l,sI .i64 most] [] [sB r]:=by
 unfold xA at h
 refine fn tb en11 Tryz.func11 fun X w H ν=>?_
 refine jn (fun x=>(Sum.inl x)) (fun(_:Unit)=>aV 0 [] [vi 0 n,vr 1 cT false l]) h (fun a2 k b=>?_) ?_
 refine bk ?_
 refine lp (fun a=>aV 0 [] [vi 0 n,vr 1 cT false l,vi 2 most,vi 7 a]) k [] ?_
 rintro a oo h c
 rw[xV]at h
 refine cd h (fun m h=>?_) (fun m h=>?_)
 refine bk ?_
 refine bI h fun d h=>?_
 refine jn (fun x=>x) (fun f=>aV 1 [.box (aO.cl nH false d.Linear)] [vi 0 n,vr 1 cT false l,vi 2 most,vi 7 a,vp 8 0,vb 28 f]) h (fun a3 h a4=>?_) ?_
 refine rg ?_
 refine gd h (fun o h=>?_) (fun o h=>?_)
 cases h
 exact bj _ [0]
 cases h
 exact bj _ [0]
 intro f h
 try dsimp only at h
 refine cd h (fun p h=>?_) (fun p h=>?_)
 cases h
 cases c _ rfl
 replace h:=b
 try dsimp only at h
 cases h
 exact rt []
 refine jn (fun x=>(Sum.inl x)) (fun(_:Unit)=>aV 0 [] [vi 0 n,vr 1 cT false l,vi 2 most,vi 7 a]) h (fun a5 s g=>?_) ?_
 refine bk ?_
 refine lp (fun e=>aV 1 [.box (aO.cl nH false d.Linear)] [vi 0 n,vr 1 cT false l,vi 2 most,vi 7 a,vp 8 0,vi 9 e]) s [0] ?_
 rintro e oo h i
 rw[vZ]at h
 refine cd h (fun u h=>?_) (fun u h=>?_)
 refine bk ?_
 refine jn (fun x=>x) (fun j=>aV 1 [.box (aO.cl nH false d.Linear)] [vi 0 n,vr 1 cT false l,vi 2 most,vi 7 a,vp 8 0,vi 9 e,vb 54 j]) h (fun a6 h a7=>?_) ?_
 refine rg ?_
 refine bI h fun a8 h=>?_
 refine gd h (fun v h=>?_) (fun v h=>?_)
 cases h
 exact bj _ [0]
 refine bI h fun a9 h=>?_
 cases h
 exact bj _ [0]
 intro j h
 try dsimp only at h
 refine cd h (fun y h=>?_) (fun y h=>?_)
 cases h
 cases i _ rfl
 replace h:=g
 try dsimp only at h
 cases h
 cases c _ rfl
 replace h:=b
 try dsimp only at h
 cases h
 exact rt []
 cases h
 exact bl [0]
 cases h
 cases i _ rfl
 replace h:=g
 try dsimp only at h
 exact bj _ []
 intro _ h
 try dsimp only at h
 cases h
 exact bl []
 cases h
 cases c _ rfl
 replace h:=b
 try dsimp only at h
 exact bj _ []
 intro _ h
 try dsimp only at h
 refine rg ?_
 refine gd h (fun a0 h=>?_) (fun a0 h=>?_)
 refine gd h (fun a1 h=>?_) (fun a1 h=>?_)
 refine cl none [] 0 h (S4 N _ _) fun aa h=>?_
 cases h
 exact rt []
 cases h
 exact rt []
 cases h
 exact rt []
theorem PE(N:Nat)(n:Int)(l:(List Constraint))(most:Int)(r:(List Constraint))(h:wA N n l most=some r):Cn Tryz.prog 13 [sI .i64 n,sR cT false l,sI .i64 most] [.row cT false r] [sO 0]:=by
 unfold wA at h
 refine fn tb en13 Tryz.func13 fun X w H ν=>?_
 refine iZ cT ?_
 refine dR false h fun k h=>?_
 refine jn (fun x=>x) (fun a=>aV 1 [.row cT false a] [vo 7 0]) h (fun m d e=>?_) ?_
 refine bk ?_
 refine lp (fun⟨b,c⟩=>aV 1 [.row cT false b] [vi 0 n,vi 2 most,vo 7 0,vi 8 c]) d [1] ?_
 rintro⟨b,c⟩ oo h f
 rw[CN]at h
 refine cd h (fun g h=>?_) (fun g h=>?_)
 refine bk ?_
 refine cl none [] 0 h (PV N _ _) fun i h=>?_
 refine cl none [] 0 h (RK N _ _) fun j h=>?_
 refine dc cT true [i,j] ?_
 refine dR false h fun o h=>?_
 cases h
 exact bl [2]
 cases h
 cases f _ rfl
 replace h:=e
 try dsimp only at h
 exact bj _ [0]
 intro a h
 try dsimp only at h
 cases h
 exact rt [0]
theorem Sr(N:Nat)(n:Int)(l:(List Constraint))(most:Int)(r:Bool)(h:xF N n l most=some r):Cx Tryz.prog 14 [sI .i64 n,sR cT false l,sI .i64 most] [] [] [sB r]:=by
 unfold xF at h
 refine fn tb en14 Tryz.func14 fun X w H ν=>?_
 refine gx (aD .i64) h fun x1 h=>?_
 obtain⟨v,j,c⟩:=bind_some h
 refine bk ?_
 refine lp (fun d=>aV 1 [.row (aD .i64) true d] [vi 0 n,vr 1 cT false l,vi 2 most,vo 7 0]) j [0] ?_
 rintro d oo h e
 rw[FD]at h
 refine bk ?_
 refine cl none [] 1 h (Qu N _) fun y h=>?_
 refine cl none [] 0 h (GP N _ _) fun a0 h=>?_
 refine cd h (fun k h=>?_) (fun k h=>?_)
 cases h
 have h:=c
 rw[<-e _ rfl]at h
 try dsimp only at h
 cases h
 exact rt []
 refine jn (fun x=>x) (fun⟨f,g⟩=>aV 1 [.row (aD .i64) true f] [vi 0 n,vr 1 cT false l,vi 2 most,vo 7 0,vi 8 g]) h (fun a1 m a2=>?_) ?_
 refine bk ?_
 refine lp (fun⟨a,b⟩=>aV 1 [.row (aD .i64) true a] [vi 0 n,vr 1 cT false l,vi 2 most,vo 7 0,vi 8 b]) m [0] ?_
 rintro⟨a,b⟩ oo h o
 rw[Fw]at h
 refine jn (fun x=>x) (fun i=>aV 1 [.row (aD .i64) true a] [vi 0 n,vr 1 cT false l,vi 2 most,vo 7 0,vi 8 b,vb 25 i]) h (fun a3 h a4=>?_) ?_
 refine rg ?_
 refine gd h (fun p h=>?_) (fun p h=>?_)
 refine ct h fun a5 h=>?_
 refine dI ?_
 cases h
 exact bj _ [0]
 cases h
 exact bj _ [0]
 intro i h
 try dsimp only at h
 refine cd h (fun s h=>?_) (fun s h=>?_)
 refine bk ?_
 refine ct h fun a6 h=>?_
 refine dS true h fun a7 h=>?_
 cases h
 exact bl [0]
 cases h
 exact bj _ [0] (hx:=o _ rfl)
 rintro⟨f,g⟩ h
 try dsimp only at h
 refine cd h (fun u h=>?_) (fun u h=>?_)
 cases h
 have h:=c
 rw[<-e _ rfl]at h
 try dsimp only at h
 cases h
 exact rt []
 refine ct h fun a8 h=>?_
 refine dI ?_
 refine ct h fun a9 h=>?_
 refine dS true h fun aa h=>?_
 cases h
 exact bl [0]
theorem F6(N:Nat)(n:Int)(l:(List Constraint))(p:Proof)(r:Bool)(h:si N n l p=some r):Cn Tryz.prog 37 [sI .i64 n,sR cT false l,sA iW false p] [] [sB r]:=by
 unfold si at h
 refine fn tb en37 Tryz.func37 fun X w H ν=>?_
 refine dr mixed ?_
 refine cl none [] 1 h (QE N _ _) fun r6 h=>?_
 refine cl none [] 0 h (Un N _ _) fun a h=>?_
 refine dk ?_
 cases h
 exact rt []
end Go.Proofs.YtipdkfmhfakbnaaGreatDoor.SE

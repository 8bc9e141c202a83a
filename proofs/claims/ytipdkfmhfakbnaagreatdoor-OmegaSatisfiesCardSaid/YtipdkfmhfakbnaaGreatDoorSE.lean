/- Walks of the symbolic machine, written by a program of mine (wip/tool). -/
import Derived.Test.YtipdkfmhfakbnaaGreatDoorTB
import Derived.Test.YtipdkfmhfakbnaaGreatDoorAd
import Derived.Test.YtipdkfmhfakbnaaGreatDoorSR
import Derived.Test.YtipdkfmhfakbnaaGreatDoorSD
set_option linter.unusedVariables false
set_option linter.unusedSimpArgs false
set_option linter.unusedSectionVars false
set_option maxRecDepth 100000
set_option maxHeartbeats 4000000
namespace Go.Proofs.YtipdkfmhfakbnaaGreatDoor.SE
open Go Go.RowKit Go.X Go.Q Go.D Go.Proofs.YtipdkfmhfakbnaaGreatDoor.TB Go.Proofs.YtipdkfmhfakbnaaGreatDoor.FS Go.Proofs.YtipdkfmhfakbnaaGreatDoor.SR Go.Proofs.YtipdkfmhfakbnaaGreatDoor.SD
theorem oValue_c(N:Nat)(f:Linear)(x:(List Big))(r:Big)(h:oValue N f x=some r):Cn Tryz.prog 58 [sA rLinear false f,sR rBig false x] [] [sA rBig true r]:=by
 unfold oValue at h
 refine fn tb en58 Tryz.func58 fun X w H ν=>?_
 refine cl none [] 0 h (rOf_c N _) fun j h=>?_
 refine jn (fun x=>x) (fun a=>mkS 2 [.box [(lB false),lN],.box (Opn.cl rBig true a)] [vp 4 0,vp 5 1]) h (fun k d e=>?_) ?_
 refine bk ?_
 refine lp (fun⟨b,c⟩=>mkS 3 [.box (Opn.cl rLinear false f),.box [(lB false),lN],.box (Opn.cl rBig true b)] [vr 1 rBig false x,vp 2 0,vp 4 1,vp 5 2,vi 6 c]) d [0,1,2] ?_
 rintro⟨b,c⟩ oo h g
 rw[oValue_b1]at h
 refine cd h (fun i h=>?_) (fun i h=>?_)
 refine bk ?_
 refine dr mixed ?_
 refine ixR h fun l h=>?_
 refine cl none [] 0 h (rOf_c N _) fun m h=>?_
 refine ixR h fun n h=>?_
 refine ixR h fun o h=>?_
 refine cl none [] 0 h (rMul_c N _ _) fun p h=>?_
 refine cl none [] 0 h (rAdd_c N _ _) fun q h=>?_
 refine dk ?_
 cases h
 exact bl [0,1,2]
 cases h
 cases g _ rfl
 replace h:=e
 try dsimp only at h
 exact bj _ [1,2]
 intro a h
 try dsimp only at h
 cases h
 exact rt []
theorem oSatisfies_c(N:Nat)(l:(List Constraint))(x:(List Big))(r:Bool)(h:oSatisfies N l x=some r):Cn Tryz.prog 28 [sR rConstraint false l,sR rBig false x] [] [sB r]:=by
 unfold oSatisfies at h
 refine fn tb en28 Tryz.func28 fun X w H ν=>?_
 refine jn (fun x=>(Sum.inl x)) (fun(_:Unit)=>mkS 0 [] []) h (fun k e b=>?_) ?_
 refine bk ?_
 refine lp (fun a=>mkS 0 [] [vr 0 rConstraint false l,vr 1 rBig false x,vi 5 a]) e [] ?_
 rintro a oo h c
 rw[oSatisfies_b1]at h
 refine cd h (fun f h=>?_) (fun f h=>?_)
 refine bk ?_
 refine ixR h fun m h=>?_
 refine cl none [] 0 h (oValue_c N _ _) fun n h=>?_
 refine cl none [] 0 h (rSign_c N _) fun o h=>?_
 refine jn (fun x=>x) (fun d=>mkS 0 [] [vr 0 rConstraint false l,vr 1 rBig false x,vi 5 a,vb 33 d]) h (fun p h q=>?_) ?_
 refine rg ?_
 refine gd h (fun g h=>?_) (fun g h=>?_)
 cases h
 exact bj _ []
 refine gd h (fun i h=>?_) (fun i h=>?_)
 refine ixR h fun s h=>?_
 cases h
 exact bj _ []
 cases h
 exact bj _ []
 intro d h
 try dsimp only at h
 refine cd h (fun j h=>?_) (fun j h=>?_)
 cases h
 cases c _ rfl
 replace h:=b
 try dsimp only at h
 cases h
 exact rt []
 cases h
 exact bl []
 cases h
 cases c _ rfl
 replace h:=b
 try dsimp only at h
 exact bj _ []
 intro _ h
 try dsimp only at h
 cases h
 exact rt []
theorem oRight_c(N:Nat)(n:Int)(l:(List Constraint))(r:Bool)(h:oRight N n l=some r):Cn Tryz.prog 25 [sI .i64 n,sR rConstraint false l] [] [sB r]:=by
 unfold oRight at h
 refine fn tb en25 Tryz.func25 fun X w H ν=>?_
 refine jn (fun x=>(Sum.inl x)) (fun(_:Unit)=>mkS 0 [] [vi 0 n]) h (fun i d a=>?_) ?_
 refine bk ?_
 refine lp (fun b=>mkS 0 [] [vi 0 n,vr 1 rConstraint false l,vi 5 b]) d [] ?_
 rintro b oo h c
 rw[oRight_b1]at h
 refine cd h (fun e h=>?_) (fun e h=>?_)
 refine bk ?_
 refine ixR h fun j h=>?_
 refine cl none [] 0 h (rRight_c N _ _) fun k h=>?_
 refine cd h (fun f h=>?_) (fun f h=>?_)
 cases h
 cases c _ rfl
 replace h:=a
 try dsimp only at h
 cases h
 exact rt []
 cases h
 exact bl []
 cases h
 cases c _ rfl
 replace h:=a
 try dsimp only at h
 exact bj _ []
 intro _ h
 try dsimp only at h
 refine rg ?_
 refine gd h (fun g h=>?_) (fun g h=>?_)
 cases h
 exact rt []
 cases h
 exact rt []
theorem oRefutes_c(N:Nat)(n:Int)(l:(List Constraint))(p:Proof)(r:Bool)(h:oRefutes N n l p=some r):Cn Tryz.prog 37 [sI .i64 n,sR rConstraint false l,sA rProof false p] [] [sB r]:=by
 unfold oRefutes at h
 refine fn tb en37 Tryz.func37 fun X w H ν=>?_
 refine dr mixed ?_
 refine cl none [] 1 h (rSystem_c N _ _) fun r6 h=>?_
 refine cl none [] 0 h (rCheck_c N _ _) fun a h=>?_
 refine dk ?_
 cases h
 exact rt []
end Go.Proofs.YtipdkfmhfakbnaaGreatDoor.SE

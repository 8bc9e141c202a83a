/- Walks of the symbolic machine, written by a program of mine (wip/tool). -/
import Derived.Test.YtipdkfmhfakbnaaGreatDoorTB
import Derived.Test.YtipdkfmhfakbnaaGreatDoorAd
import Derived.Test.YtipdkfmhfakbnaaGreatDoorSR
import Derived.Test.YtipdkfmhfakbnaaGreatDoorSE
import Derived.Test.YtipdkfmhfakbnaaGreatDoorSQ
import Derived.Test.YtipdkfmhfakbnaaGreatDoorSY
set_option linter.unusedVariables false
set_option linter.unusedSimpArgs false
set_option linter.unusedSectionVars false
set_option maxRecDepth 100000
set_option maxHeartbeats 4000000
namespace Go.Proofs.YtipdkfmhfakbnaaGreatDoor.SL
open Go Go.RowKit Go.X Go.Q Go.D Go.Proofs.YtipdkfmhfakbnaaGreatDoor.TB Go.Proofs.YtipdkfmhfakbnaaGreatDoor.FS Go.Proofs.YtipdkfmhfakbnaaGreatDoor.SR Go.Proofs.YtipdkfmhfakbnaaGreatDoor.SE Go.Proofs.YtipdkfmhfakbnaaGreatDoor.SQ Go.Proofs.YtipdkfmhfakbnaaGreatDoor.SY
theorem lform_c(N:Nat)(x:Int)(y:Int)(c:Int)(equal:Bool)(r:Constraint)(h:lform N x y c equal=some r):Cx Tryz.prog 35 [sI .i64 x,sI .i64 y,sI .i64 c,sB equal] [] [] [sA rConstraint true r]:=by
 unfold lform at h
 refine fn tb en35 Tryz.func35 fun X w H ν=>?_
 refine litO rCoef true [(Coef.mk 0 x),(Coef.mk 1 y)] ?_
 cases h
 exact rt []
theorem awake_c(N:Nat)(r:Bool)(h:awake N=some r):Cx Tryz.prog 10 [] [] [] [sB r]:=by
 unfold awake at h
 refine fn tb en10 Tryz.func10 fun X w H ν=>?_
 refine cl none [] 0 h (lform_c N _ _ _ _) fun r1 h=>?_
 refine cl none [] 0 h (lform_c N _ _ _ _) fun r2 h=>?_
 refine cl none [] 0 h (lform_c N _ _ _ _) fun r3 h=>?_
 refine litO rConstraint true [r1,r2,r3] ?_
 refine po (fzq 0 [1,17,19] []) ?_
 refine cl (some true) [] 0 h (omSolve_c N _ _) fun r4 h=>?_
 refine cl (some true) [] 0 h (omLeast_c N _ _ _) fun r5 h=>?_
 refine cl none [] 0 h (lform_c N _ _ _ _) fun r6 h=>?_
 refine cl none [] 0 h (lform_c N _ _ _ _) fun r7 h=>?_
 refine litO rConstraint true [r6,r7] ?_
 refine po (fzq 3 [7,31,33] []) ?_
 refine cl (some true) [] 0 h (omSolve_c N _ _) fun r8 h=>?_
 refine cl none [] 0 h (lform_c N _ _ _ _) fun r9 h=>?_
 refine litO rConstraint true [r9] ?_
 refine po (fzq 5 [40] []) ?_
 refine cl (some true) [] 0 h (omSolve_c N _ _) fun a h=>?_
 refine sn (mkS 3 [.box (Opn.cl rBig true r5.1),.box (Opn.cl rProof true r8.2.1),.box (Opn.cl rProof true a.2.1)] [vr 2 rBig true r4.1,vb 4 r4.2.2,vp 5 0,vb 6 r5.2,vr 7 rConstraint true [r6,r7],vp 9 1,vb 10 r8.2.2,vp 12 2,vb 13 a.2.2]) [2,4,6] ?_
 refine dr mixed ?_
 refine gd h (fun b h=>?_) (fun b h=>?_)
 refine gd h (fun c h=>?_) (fun c h=>?_)
 refine ixR h fun m h=>?_
 refine cl none [] 0 h (rOf_c N _) fun n h=>?_
 refine cl none [] 0 h (rSame_c N _ _) fun o h=>?_
 refine gd h (fun d h=>?_) (fun d h=>?_)
 refine ixR h fun p h=>?_
 refine cl none [] 0 h (rOf_c N _) fun q h=>?_
 refine cl none [] 0 h (rSame_c N _ _) fun s h=>?_
 refine gd h (fun e h=>?_) (fun e h=>?_)
 refine gd h (fun f h=>?_) (fun f h=>?_)
 refine cl none [] 0 h (rOf_c N _) fun u h=>?_
 refine cl none [] 0 h (rSame_c N _ _) fun v h=>?_
 refine gd h (fun g h=>?_) (fun g h=>?_)
 refine gd h (fun i h=>?_) (fun i h=>?_)
 refine cl none [] 0 h (oRefutes_c N _ _ _) fun y h=>?_
 refine gd h (fun j h=>?_) (fun j h=>?_)
 refine gd h (fun k h=>?_) (fun k h=>?_)
 refine cl none [] 0 h (lform_c N _ _ _ _) fun l h=>?_
 refine litO rConstraint true [l] ?_
 refine cl none [] 0 h (oRefutes_c N _ _ _) fun a0 h=>?_
 refine dk ?_
 cases h
 exact rt []
 refine dk ?_
 cases h
 exact rt []
 refine dk ?_
 cases h
 exact rt []
 refine dk ?_
 cases h
 exact rt []
 refine dk ?_
 cases h
 exact rt []
 refine dk ?_
 cases h
 exact rt []
 refine dk ?_
 cases h
 exact rt []
 refine dk ?_
 cases h
 exact rt []
 refine dk ?_
 cases h
 exact rt []
 refine dk ?_
 cases h
 exact rt []
theorem lawSatisfies_c(N:Nat)(n:Int)(l:(List Constraint))(x:(List Big))(r:Bool)(h:lawSatisfies N n l x=some r):Cx Tryz.prog 8 [sI .i64 n,sR rConstraint false l,sR rBig false x] [] [] [sB r]:=by
 unfold lawSatisfies at h
 refine fn tb en8 Tryz.func8 fun X w H ν=>?_
 refine jn (fun x=>x) (fun x6=>mkS 0 [] [vi 0 n,vr 1 rConstraint false l,vr 2 rBig false x,vb 27 x6]) h (fun s7 h g8=>?_) ?_
 refine rg ?_
 refine cl none [] 0 h (awake_c N) fun r9 h=>?_
 refine gd h (fun e h=>?_) (fun e h=>?_)
 cases h
 exact bj _ []
 refine gd h (fun f h=>?_) (fun f h=>?_)
 cases h
 exact bj _ []
 refine gd h (fun g h=>?_) (fun g h=>?_)
 cases h
 exact bj _ []
 cases h
 exact bj _ []
 intro x6 h
 try dsimp only at h
 refine cd h (fun i h=>?_) (fun i h=>?_)
 refine cl none [] 0 h (awake_c N) fun a1 h=>?_
 cases h
 exact rt []
 refine jn (fun x=>(Sum.inl x)) (fun(_:Unit)=>mkS 0 [] [vi 0 n,vr 1 rConstraint false l,vr 2 rBig false x]) h (fun a2 j k=>?_) ?_
 refine bk ?_
 refine lp (fun a=>mkS 0 [] [vi 0 n,vr 1 rConstraint false l,vr 2 rBig false x,vr 29 rConstraint false l,vi 30 (List.length l:Int),vi 31 a]) j [] ?_
 rintro a oo h b
 rw[lawSatisfies_b1]at h
 refine cd h (fun m h=>?_) (fun m h=>?_)
 refine bk ?_
 refine ixR h fun a3 h=>?_
 refine cd h (fun o h=>?_) (fun o h=>?_)
 cases h
 have h:=k
 rw[←b _ rfl]at h
 try dsimp only at h
 cases h
 exact rt []
 cases h
 exact bl []
 cases h
 exact bj _ [] (hx:=b _ rfl)
 intro _ h
 try dsimp only at h
 refine jn (fun x=>(Sum.inl x)) (fun(_:Unit)=>mkS 0 [] [vi 0 n,vr 1 rConstraint false l,vr 2 rBig false x]) h (fun a4 p q=>?_) ?_
 refine bk ?_
 refine lp (fun c=>mkS 0 [] [vi 0 n,vr 1 rConstraint false l,vr 2 rBig false x,vr 41 rBig false x,vi 42 (List.length x:Int),vi 43 c]) p [] ?_
 rintro c oo h d
 rw[lawSatisfies_b2]at h
 refine cd h (fun s h=>?_) (fun s h=>?_)
 refine bk ?_
 refine ixR h fun a5 h=>?_
 refine cl none [] 0 h (rSmall_c N _) fun a6 h=>?_
 refine cd h (fun u h=>?_) (fun u h=>?_)
 cases h
 have h:=q
 rw[←d _ rfl]at h
 try dsimp only at h
 cases h
 exact rt []
 cases h
 exact bl []
 cases h
 exact bj _ [] (hx:=d _ rfl)
 intro _ h
 try dsimp only at h
 refine cl none [] 0 h (oRight_c N _ _) fun a7 h=>?_
 refine rg ?_
 refine cl none [] 0 h (oValid_c N _ _) fun a8 h=>?_
 refine gd h (fun v h=>?_) (fun v h=>?_)
 refine gd h (fun y h=>?_) (fun y h=>?_)
 cases h
 exact rt []
 refine gd h (fun a0 h=>?_) (fun a0 h=>?_)
 cases h
 exact rt []
 refine cl none [] 0 h (omSatisfies_c N _ _) fun a9 h=>?_
 refine cl none [] 0 h (oSatisfies_c N _ _) fun aa h=>?_
 cases h
 exact rt []
 cases h
 exact rt []
end Go.Proofs.YtipdkfmhfakbnaaGreatDoor.SL

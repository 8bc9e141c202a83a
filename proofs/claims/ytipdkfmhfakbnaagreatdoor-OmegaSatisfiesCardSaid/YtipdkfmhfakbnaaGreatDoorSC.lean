/- Walks of the symbolic machine, written by a program of mine (wip/tool). -/
import Derived.Test.YtipdkfmhfakbnaaGreatDoorTB
import Derived.Test.YtipdkfmhfakbnaaGreatDoorAd
import Derived.Test.YtipdkfmhfakbnaaGreatDoorSB
set_option linter.unusedVariables false
set_option linter.unusedSimpArgs false
set_option linter.unusedSectionVars false
set_option maxRecDepth 100000
set_option maxHeartbeats 4000000
namespace Go.Proofs.YtipdkfmhfakbnaaGreatDoor.SC
open Go Go.RowKit Go.X Go.Q Go.D Go.Proofs.YtipdkfmhfakbnaaGreatDoor.TB Go.Proofs.YtipdkfmhfakbnaaGreatDoor.FS Go.Proofs.YtipdkfmhfakbnaaGreatDoor.SB
theorem cvalid_c(N:Nat)(c:Constraint)(n:Int)(r:Bool)(h:cvalid N c n=some r):Cn Tryz.prog 72 [sA rConstraint false c,sI .i64 n] [] [sB r]:=by
 unfold cvalid at h
 refine fn tb en72 Tryz.func72 fun X w H ν=>?_
 refine jn (fun x=>(Sum.inl x)) (fun(_:Unit)=>mkS 0 [] [vi 1 n]) h (fun o g b=>?_) ?_
 refine bk ?_
 refine lp (fun⟨d,a⟩=>mkS 0 [] [vi 1 n,vi 5 d,vr 10 rCoef false c.Linear.Coefs,vi 11 (List.length c.Linear.Coefs:Int),vi 12 a]) g [] ?_
 rintro⟨d,a⟩ oo h e
 rw[cvalid_b1]at h
 refine cd h (fun i h=>?_) (fun i h=>?_)
 refine bk ?_
 refine ixR h fun j h=>?_
 refine jn (fun x=>x) (fun f=>mkS 1 [.box (Opn.cl rCoef true j)] [vi 1 n,vp 7 0,vr 10 rCoef false c.Linear.Coefs,vi 11 (List.length c.Linear.Coefs:Int),vi 12 a,vb 25 f]) h (fun p h q=>?_) ?_
 refine rg ?_
 refine gd h (fun k h=>?_) (fun k h=>?_)
 cases h
 exact bj _ [0]
 cases h
 exact bj _ [0]
 intro f h
 try dsimp only at h
 refine cd h (fun l h=>?_) (fun l h=>?_)
 cases h
 cases e _ rfl
 replace h:=b
 try dsimp only at h
 cases h
 exact rt []
 cases h
 exact bl []
 cases h
 cases e _ rfl
 replace h:=b
 try dsimp only at h
 exact bj _ []
 intro _ h
 try dsimp only at h
 refine rg ?_
 refine gd h (fun m h=>?_) (fun m h=>?_)
 cases h
 exact rt []
 cases h
 exact rt []
theorem negated_c(N:Nat)(l:(List Big))(bound:Big)(r:Ineq)(h:negated N l bound=some r):Cn Tryz.prog 104 [sR rBig false l,sA rBig false bound] [] [sA rIneq true r]:=by
 unfold negated at h
 refine fn tb en104 Tryz.func104 fun X w H ν=>?_
 refine cl none [] 0 h (bNormal_c N _) fun a h=>?_
 refine jn (fun x=>x) (fun b=>mkS 3 [.box [lN,(lB false),lN],.box [(.own 2),(lB a.Negative),(.ro (rInt .u32) true a.Digits)],.row rBig true b] [vp 4 0,vp 5 1]) h (fun k e f=>?_) ?_
 refine bk ?_
 refine ps (nb 2 0 rBig) ?_
 refine lp (fun⟨c,d⟩=>mkS 3 [.box [lN,(lB false),lN],.box [(.own 2),(lB a.Negative),(.ro (rInt .u32) true a.Digits)],.row rBig true c] [vp 4 0,vp 5 1,vr 11 rBig false l,vi 12 (List.length l:Int),vi 13 d]) e [1,2,3] ?_
 rintro⟨c,d⟩ oo h g
 rw[negated_b1]at h
 refine cd h (fun i h=>?_) (fun i h=>?_)
 refine bk ?_
 refine ixR h fun m h=>?_
 refine dr mixed ?_
 refine cl none [] 0 h (bNeg_c N _) fun j h=>?_
 refine litO rBig true [j] ?_
 refine apO true h fun n h=>?_
 refine dk ?_
 cases h
 exact bl [0,1,5]
 cases h
 cases g _ rfl
 replace h:=f
 try dsimp only at h
 exact bj _ [0,1,2]
 intro b h
 try dsimp only at h
 cases h
 exact rt []
theorem cOf_c(N:Nat)(c:Constraint)(n:Int)(r:(List Ineq))(h:cOf N c n=some r):Cn Tryz.prog 73 [sA rConstraint false c,sI .i64 n] [.row rIneq true r] [sO 0]:=by
 unfold cOf at h
 refine fn tb en73 Tryz.func73 fun X w H ν=>?_
 refine cl none [] 0 h (cvalid_c N _ _) fun r6 h=>?_
 refine cd h (fun f h=>?_) (fun f h=>?_)
 refine pr (nl 4 rIneq) ?_
 cases h
 exact rt [1]
 refine dr mixed ?_
 refine mkO rBig h fun o h=>?_
 refine cl none [] 0 h (bOf_c N _) fun p h=>?_
 refine cl none [] 0 h (bNeg_c N _) fun a h=>?_
 refine dk ?_
 refine jn (fun x=>x) (fun b=>mkS 3 [.box (Opn.cl rConstraint false c),.box [(.own 2),(lB a.Negative),(.ro (rInt .u32) true a.Digits)],.row rBig true b] [vp 2 0,vp 5 1]) h (fun q g i=>?_) ?_
 refine bk ?_
 refine lp (fun⟨d,e⟩=>mkS 3 [.box (Opn.cl rConstraint false c),.box [(.own 2),(lB a.Negative),(.ro (rInt .u32) true a.Digits)],.row rBig true d] [vp 2 0,vp 5 1,vr 22 rCoef false c.Linear.Coefs,vi 23 (List.length c.Linear.Coefs:Int),vi 24 e]) g [0,2,1] ?_
 rintro⟨d,e⟩ oo h j
 rw[cOf_b1]at h
 refine cd h (fun k h=>?_) (fun k h=>?_)
 refine bk ?_
 refine ixR h fun s h=>?_
 refine dr mixed ?_
 refine cl none [] 0 h (bOf_c N _) fun u h=>?_
 refine ixQ h fun v y h=>?_
 refine stO true h fun a0 h=>?_
 refine dk ?_
 cases h
 exact bl [0,1,2]
 cases h
 cases j _ rfl
 replace h:=i
 try dsimp only at h
 exact bj _ [0,1,2]
 intro b h
 try dsimp only at h
 refine cd h (fun l h=>?_) (fun l h=>?_)
 refine po (fzk 2 [40] [1]) ?_
 refine litO rIneq true [(Ineq.mk b a)] ?_
 cases h
 exact rt [3]
 refine dr mixed ?_
 refine cl none [] 0 h (bOf_c N _) fun a1 h=>?_
 refine cl none [] 0 h (negated_c N _ _) fun m h=>?_
 refine po (fzk 2 [42,44] [1]) ?_
 refine litO rIneq true [(Ineq.mk b a),m] ?_
 refine dk ?_
 cases h
 exact rt [3]
theorem cSystem_c(N:Nat)(l:(List Constraint))(n:Int)(r:(List Ineq))(h:cSystem N l n=some r):Cn Tryz.prog 39 [sR rConstraint false l,sI .i64 n] [.row rIneq true r] [sO 0]:=by
 unfold cSystem at h
 refine fn tb en39 Tryz.func39 fun X w H ν=>?_
 refine jn (fun x=>(Sum.inl x)) (fun a=>mkS 1 [.row rIneq true a] [vo 5 0]) h (fun j f b=>?_) ?_
 refine bk ?_
 refine ps (nl 5 rIneq) ?_
 refine lp (fun⟨c,d⟩=>mkS 1 [.row rIneq true c] [vi 1 n,vo 5 0,vr 8 rConstraint false l,vi 9 (List.length l:Int),vi 10 d]) f [0] ?_
 rintro⟨c,d⟩ oo h e
 rw[cSystem_b1]at h
 refine cd h (fun g h=>?_) (fun g h=>?_)
 refine bk ?_
 refine ixR h fun k h=>?_
 refine cl none [] 0 h (cvalid_c N _ _) fun m h=>?_
 refine cd h (fun i h=>?_) (fun i h=>?_)
 refine pr (nl 4 rIneq) ?_
 cases h
 cases e _ rfl
 replace h:=b
 try dsimp only at h
 cases h
 exact rt [2]
 refine cl none [] 1 h (cOf_c N _ _) fun o h=>?_
 refine apO true h fun p h=>?_
 cases h
 exact bl [3]
 cases h
 cases e _ rfl
 replace h:=b
 try dsimp only at h
 exact bj _ [0]
 intro a h
 try dsimp only at h
 cases h
 exact rt [0]
theorem cloneIneq_c(N:Nat)(s:(List Ineq))(r:(List Ineq))(h:cloneIneq N s=some r):Cn Tryz.prog 89 [sR rIneq false s] [.row rIneq false r] [sO 0]:=by
 unfold cloneIneq at h
 refine fn tb en89 Tryz.func89 fun X w H ν=>?_
 refine eqn ?_
 refine cn (fun hnil=>?_) ?_
 replace h:some []=some r:=by rw[hnil]at h;simpa[apnd]using h
 refine pr (nl 2 rIneq) ?_
 cases h
 exact rt [0]
 refine litZ rIneq ?_
 refine apO false h fun a h=>?_
 cases h
 exact rt [1]
theorem clipIneq_c(N:Nat)(s:(List Ineq))(r:(List Ineq))(h:clipIneq N s=some r):Cx Tryz.prog 47 [sR rIneq false s] [] [] [.lf (.cp rIneq false r)]:=by
 unfold clipIneq at h
 refine fn tb en47 Tryz.func47 fun X w H ν=>?_
 refine clR ?_
 cases h
 exact rt []
end Go.Proofs.YtipdkfmhfakbnaaGreatDoor.SC

/- Walks of the symbolic machine, written by a program of mine (wip/tool). -/
import Derived.Test.YtipdkfmhfakbnaaGreatDoorTB
import Derived.Test.YtipdkfmhfakbnaaGreatDoorAf
import Derived.Test.YtipdkfmhfakbnaaGreatDoorAd
import Derived.Test.YtipdkfmhfakbnaaGreatDoorSB
set_option linter.unusedVariables false
set_option linter.unusedSimpArgs false
set_option linter.unusedSectionVars false
set_option maxRecDepth 100000
set_option maxHeartbeats 4000000
namespace Go.Proofs.YtipdkfmhfakbnaaGreatDoor.SC
open Go Go.RowKit Go.X Go.Q Go.D Go.Proofs.YtipdkfmhfakbnaaGreatDoor.TB Go.Proofs.YtipdkfmhfakbnaaGreatDoor.FS Go.Proofs.YtipdkfmhfakbnaaGreatDoor.SB
theorem Ic(N:Nat)(c:Constraint)(n:Int)(r:Bool)(h:uW N c n=some r):Cn Tryz.prog 72 [sA cT false c,sI .i64 n] [] [sB r]:=by
 unfold uW at h
 refine fn tb en72 Tryz.func72 fun X w H ν=>?_
 refine jn (fun x=>(Sum.inl x)) (fun(_:Unit)=>aV 0 [] [vi 1 n]) h (fun o g b=>?_) ?_
 refine bk ?_
 refine lp (fun⟨d,a⟩=>aV 0 [] [vi 1 n,vi 5 d,vr 10 gR false c.Linear.aZ,vi 11 (List.length c.Linear.aZ:Int),vi 12 a]) g [] ?_
 rintro⟨d,a⟩ oo h e
 rw[DQ]at h
 refine cd h (fun i h=>?_) (fun i h=>?_)
 refine bk ?_
 refine bI h fun j h=>?_
 refine jn (fun x=>x) (fun f=>aV 1 [.box (aO.cl gR true j)] [vi 1 n,vp 7 0,vr 10 gR false c.Linear.aZ,vi 11 (List.length c.Linear.aZ:Int),vi 12 a,vb 25 f]) h (fun p h s=>?_) ?_
 refine rg ?_
 refine gd h (fun k h=>?_) (fun k h=>?_)
 cases h
 exact bj _ [0]
 cases h
 exact bj _ [0]
 intro f h
 try dsimp only at h
 refine cd h (fun l h=>?_) (fun l h=>?_)
 cases h
 cases e _ rfl
 replace h:=b
 try dsimp only at h
 cases h
 exact rt []
 cases h
 exact bl []
 cases h
 cases e _ rfl
 replace h:=b
 try dsimp only at h
 exact bj _ []
 intro _ h
 try dsimp only at h
 refine rg ?_
 refine gd h (fun m h=>?_) (fun m h=>?_)
 cases h
 exact rt []
 cases h
 exact rt []
theorem Q5(N:Nat)(l:(List aB))(bound:aB)(r:bA)(h:xB N l bound=some r):Cn Tryz.prog 104 [sR aA false l,sA aA false bound] [] [sA aE true r]:=by
 unfold xB at h
 refine fn tb en104 Tryz.func104 fun X w H ν=>?_
 refine cl none [] 0 h (pt N _) fun a h=>?_
 refine jn (fun x=>x) (fun b=>aV 3 [.box [lN,(lB false),lN],.box [(.own 2),(lB a.bF),(.ro (aD .u32) true a.aP)],.row aA true b] [vp 4 0,vp 5 1]) h (fun k e f=>?_) ?_
 refine bk ?_
 refine ps (nb 2 0 aA) ?_
 refine lp (fun⟨c,d⟩=>aV 3 [.box [lN,(lB false),lN],.box [(.own 2),(lB a.bF),(.ro (aD .u32) true a.aP)],.row aA true c] [vp 4 0,vp 5 1,vr 11 aA false l,vi 12 (List.length l:Int),vi 13 d]) e [1,2,3] ?_
 rintro⟨c,d⟩ oo h g
 rw[Fs]at h
 refine cd h (fun i h=>?_) (fun i h=>?_)
 refine bk ?_
 refine bI h fun m h=>?_
 refine dr mixed ?_
 refine cl none [] 0 h (kZ N _) fun j h=>?_
 refine dc aA true [j] ?_
 refine dR true h fun n h=>?_
 refine dk ?_
 cases h
 exact bl [0,1,5]
 cases h
 cases g _ rfl
 replace h:=f
 try dsimp only at h
 exact bj _ [0,1,2]
 intro b h
 try dsimp only at h
 cases h
 exact rt []
theorem cOf_c(N:Nat)(c:Constraint)(n:Int)(r:(List bA))(h:cOf N c n=some r):Cn Tryz.prog 73 [sA cT false c,sI .i64 n] [.row aE true r] [sO 0]:=by
 unfold cOf at h
 refine fn tb en73 Tryz.func73 fun X w H ν=>?_
 refine cl none [] 0 h (Ic N _ _) fun r6 h=>?_
 refine cd h (fun f h=>?_) (fun f h=>?_)
 refine pr (nl 4 aE) ?_
 cases h
 exact rt [1]
 refine dr mixed ?_
 refine gx aA h fun o h=>?_
 refine cl none [] 0 h (gr N _) fun p h=>?_
 refine cl none [] 0 h (kZ N _) fun a h=>?_
 refine dk ?_
 refine jn (fun x=>x) (fun b=>aV 3 [.box (aO.cl cT false c),.box [(.own 2),(lB a.bF),(.ro (aD .u32) true a.aP)],.row aA true b] [vp 2 0,vp 5 1]) h (fun s g i=>?_) ?_
 refine bk ?_
 refine lp (fun⟨d,e⟩=>aV 3 [.box (aO.cl cT false c),.box [(.own 2),(lB a.bF),(.ro (aD .u32) true a.aP)],.row aA true d] [vp 2 0,vp 5 1,vr 22 gR false c.Linear.aZ,vi 23 (List.length c.Linear.aZ:Int),vi 24 e]) g [0,2,1] ?_
 rintro⟨d,e⟩ oo h j
 rw[EC]at h
 refine cd h (fun k h=>?_) (fun k h=>?_)
 refine bk ?_
 refine bI h fun u h=>?_
 refine dr mixed ?_
 refine cl none [] 0 h (gr N _) fun v h=>?_
 refine jA h fun y a0 h=>?_
 refine dS true h fun a1 h=>?_
 refine dk ?_
 cases h
 exact bl [0,1,2]
 cases h
 cases j _ rfl
 replace h:=i
 try dsimp only at h
 exact bj _ [0,1,2]
 intro b h
 try dsimp only at h
 refine cd h (fun l h=>?_) (fun l h=>?_)
 refine po (jy 2 [40] [1]) ?_
 refine dc aE true [(bA.mk b a)] ?_
 cases h
 exact rt [3]
 refine dr mixed ?_
 refine cl none [] 0 h (gr N _) fun a2 h=>?_
 refine cl none [] 0 h (Q5 N _ _) fun m h=>?_
 refine po (jy 2 [42,44] [1]) ?_
 refine dc aE true [(bA.mk b a),m] ?_
 refine dk ?_
 cases h
 exact rt [3]
theorem J9(N:Nat)(l:(List Constraint))(n:Int)(r:(List bA))(h:uP N l n=some r):Cn Tryz.prog 39 [sR cT false l,sI .i64 n] [.row aE true r] [sO 0]:=by
 unfold uP at h
 refine fn tb en39 Tryz.func39 fun X w H ν=>?_
 refine jn (fun x=>(Sum.inl x)) (fun a=>aV 1 [.row aE true a] [vo 5 0]) h (fun j f b=>?_) ?_
 refine bk ?_
 refine ps (nl 5 aE) ?_
 refine lp (fun⟨c,d⟩=>aV 1 [.row aE true c] [vi 1 n,vo 5 0,vr 8 cT false l,vi 9 (List.length l:Int),vi 10 d]) f [0] ?_
 rintro⟨c,d⟩ oo h e
 rw[Dr]at h
 refine cd h (fun g h=>?_) (fun g h=>?_)
 refine bk ?_
 refine bI h fun k h=>?_
 refine cl none [] 0 h (Ic N _ _) fun m h=>?_
 refine cd h (fun i h=>?_) (fun i h=>?_)
 refine pr (nl 4 aE) ?_
 cases h
 cases e _ rfl
 replace h:=b
 try dsimp only at h
 cases h
 exact rt [2]
 refine cl none [] 1 h (cOf_c N _ _) fun o h=>?_
 refine dR true h fun p h=>?_
 cases h
 exact bl [3]
 cases h
 cases e _ rfl
 replace h:=b
 try dsimp only at h
 exact bj _ [0]
 intro a h
 try dsimp only at h
 cases h
 exact rt [0]
theorem R4(N:Nat)(s:(List bA))(r:(List bA))(h:zr N s=some r):Cn Tryz.prog 89 [sR aE false s] [.row aE false r] [sO 0]:=by
 unfold zr at h
 refine fn tb en89 Tryz.func89 fun X w H ν=>?_
 refine tU ?_
 refine cn (fun hnil=>?_) ?_
 replace h:some []=some r:=by rw[hnil]at h;simpa[cN]using h
 refine pr (nl 2 aE) ?_
 cases h
 exact rt [0]
 refine iZ aE ?_
 refine dR false h fun a h=>?_
 cases h
 exact rt [1]
theorem Hm(N:Nat)(s:(List bA))(r:(List bA))(h:An N s=some r):Cx Tryz.prog 47 [sR aE false s] [] [] [.lf (.cp aE false r)]:=by
 unfold An at h
 refine fn tb en47 Tryz.func47 fun X w H ν=>?_
 refine clR ?_
 cases h
 exact rt []
end Go.Proofs.YtipdkfmhfakbnaaGreatDoor.SC

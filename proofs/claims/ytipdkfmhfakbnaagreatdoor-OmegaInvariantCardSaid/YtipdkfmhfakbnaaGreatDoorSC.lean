/- Walks of the symbolic machine, written by a program of mine (wip/tool). -/
import Derived.Test.YtipdkfmhfakbnaaGreatDoorTB
import Derived.Test.YtipdkfmhfakbnaaGreatDoorAg
import Derived.Test.YtipdkfmhfakbnaaGreatDoorAd
import Derived.Test.YtipdkfmhfakbnaaGreatDoorSB
set_option linter.unusedVariables false
set_option linter.unusedSimpArgs false
set_option linter.unusedSectionVars false
set_option maxRecDepth 100000
set_option maxHeartbeats 4000000
namespace Go.Proofs.YtipdkfmhfakbnaaGreatDoor.SC
open Go Go.RowKit Go.X Go.Q Go.D Go.Proofs.YtipdkfmhfakbnaaGreatDoor.TB Go.Proofs.YtipdkfmhfakbnaaGreatDoor.FS Go.Proofs.YtipdkfmhfakbnaaGreatDoor.SB
theorem IK(N:Nat)(c:Constraint)(n:Int)(r:Bool)(h:tF N c n=some r):Cn Tryz.prog 72 [sA ct false c,sI .i64 n] [] [sB r]:=by
 unfold tF at h
 refine fn tb en72 Tryz.func72 fun X w H ν=>?_
 refine jn (fun x=>(Sum.inl x)) (fun(_:Unit)=>aW 0 [] [vi 1 n]) h (fun o g b=>?_) ?_
 refine bk ?_
 refine lp (fun⟨d,a⟩=>aW 0 [] [vi 1 n,vi 5 d,vr 10 gA false c.Linear.aT,vi 11 (List.length c.Linear.aT:Int),vi 12 a]) g [] ?_
 rintro⟨d,a⟩ oo h e
 rw[CM]at h
 refine cd h (fun i h=>?_) (fun i h=>?_)
 refine bk ?_
 refine bF h fun j h=>?_
 refine jn (fun x=>x) (fun f=>aW 1 [.box (aO.cl gA true j)] [vi 1 n,vp 7 0,vr 10 gA false c.Linear.aT,vi 11 (List.length c.Linear.aT:Int),vi 12 a,vb 25 f]) h (fun p h s=>?_) ?_
 refine rg ?_
 refine gd h (fun k h=>?_) (fun k h=>?_)
 cases h
 exact bj _ [0]
 cases h
 exact bj _ [0]
 intro f h
 try dsimp only at h
 refine cd h (fun l h=>?_) (fun l h=>?_)
 cases h
 cases e _ rfl
 replace h:=b
 try dsimp only at h
 cases h
 exact rt []
 cases h
 exact bl []
 cases h
 cases e _ rfl
 replace h:=b
 try dsimp only at h
 exact bj _ []
 intro _ h
 try dsimp only at h
 refine rg ?_
 refine gd h (fun m h=>?_) (fun m h=>?_)
 cases h
 exact rt []
 cases h
 exact rt []
theorem Ry(N:Nat)(l:(List aB))(bound:aB)(r:bB)(h:yc N l bound=some r):Cn Tryz.prog 104 [sR aA false l,sA aA false bound] [] [sA aE true r]:=by
 unfold yc at h
 refine fn tb en104 Tryz.func104 fun X w H ν=>?_
 refine cl none [] 0 h (oQ N _) fun a h=>?_
 refine jn (fun x=>x) (fun b=>aW 3 [.box [lN,(lB false),lN],.box [(.own 2),(lB a.bG),(.ro (aD .u32) true a.aP)],.row aA true b] [vp 4 0,vp 5 1]) h (fun k e f=>?_) ?_
 refine bk ?_
 refine ps (nb 2 0 aA) ?_
 refine lp (fun⟨c,d⟩=>aW 3 [.box [lN,(lB false),lN],.box [(.own 2),(lB a.bG),(.ro (aD .u32) true a.aP)],.row aA true c] [vp 4 0,vp 5 1,vr 11 aA false l,vi 12 (List.length l:Int),vi 13 d]) e [1,2,3] ?_
 rintro⟨c,d⟩ oo h g
 rw[CY]at h
 refine cd h (fun i h=>?_) (fun i h=>?_)
 refine bk ?_
 refine bF h fun m h=>?_
 refine dr mixed ?_
 refine cl none [] 0 h (ld N _) fun j h=>?_
 refine de aA true [j] ?_
 refine dQ true h fun n h=>?_
 refine dk ?_
 cases h
 exact bl [0,1,5]
 cases h
 cases g _ rfl
 replace h:=f
 try dsimp only at h
 exact bj _ [0,1,2]
 intro b h
 try dsimp only at h
 cases h
 exact rt []
theorem cOf_c(N:Nat)(c:Constraint)(n:Int)(r:(List bB))(h:cOf N c n=some r):Cn Tryz.prog 73 [sA ct false c,sI .i64 n] [.row aE true r] [sO 0]:=by
 unfold cOf at h
 refine fn tb en73 Tryz.func73 fun X w H ν=>?_
 refine cl none [] 0 h (IK N _ _) fun r6 h=>?_
 refine cd h (fun f h=>?_) (fun f h=>?_)
 refine pr (nl 4 aE) ?_
 cases h
 exact rt [1]
 refine dr mixed ?_
 refine gP aA h fun o h=>?_
 refine cl none [] 0 h (gw N _) fun p h=>?_
 refine cl none [] 0 h (ld N _) fun a h=>?_
 refine dk ?_
 refine jn (fun x=>x) (fun b=>aW 3 [.box (aO.cl ct false c),.box [(.own 2),(lB a.bG),(.ro (aD .u32) true a.aP)],.row aA true b] [vp 2 0,vp 5 1]) h (fun s g i=>?_) ?_
 refine bk ?_
 refine lp (fun⟨d,e⟩=>aW 3 [.box (aO.cl ct false c),.box [(.own 2),(lB a.bG),(.ro (aD .u32) true a.aP)],.row aA true d] [vp 2 0,vp 5 1,vr 22 gA false c.Linear.aT,vi 23 (List.length c.Linear.aT:Int),vi 24 e]) g [0,2,1] ?_
 rintro⟨d,e⟩ oo h j
 rw[De]at h
 refine cd h (fun k h=>?_) (fun k h=>?_)
 refine bk ?_
 refine bF h fun u h=>?_
 refine dr mixed ?_
 refine cl none [] 0 h (gw N _) fun v h=>?_
 refine jC h fun y a0 h=>?_
 refine dW true h fun a1 h=>?_
 refine dk ?_
 cases h
 exact bl [0,1,2]
 cases h
 cases j _ rfl
 replace h:=i
 try dsimp only at h
 exact bj _ [0,1,2]
 intro b h
 try dsimp only at h
 refine cd h (fun l h=>?_) (fun l h=>?_)
 refine po (jH 2 [40] [1]) ?_
 refine de aE true [(bB.mk b a)] ?_
 cases h
 exact rt [3]
 refine dr mixed ?_
 refine cl none [] 0 h (gw N _) fun a2 h=>?_
 refine cl none [] 0 h (Ry N _ _) fun m h=>?_
 refine po (jH 2 [42,44] [1]) ?_
 refine de aE true [(bB.mk b a),m] ?_
 refine dk ?_
 cases h
 exact rt [3]
theorem I8(N:Nat)(l:(List Constraint))(n:Int)(r:(List bB))(h:um N l n=some r):Cn Tryz.prog 39 [sR ct false l,sI .i64 n] [.row aE true r] [sO 0]:=by
 unfold um at h
 refine fn tb en39 Tryz.func39 fun X w H ν=>?_
 refine jn (fun x=>(Sum.inl x)) (fun a=>aW 1 [.row aE true a] [vo 5 0]) h (fun j f b=>?_) ?_
 refine bk ?_
 refine ps (nl 5 aE) ?_
 refine lp (fun⟨c,d⟩=>aW 1 [.row aE true c] [vi 1 n,vo 5 0,vr 8 ct false l,vi 9 (List.length l:Int),vi 10 d]) f [0] ?_
 rintro⟨c,d⟩ oo h e
 rw[DP]at h
 refine cd h (fun g h=>?_) (fun g h=>?_)
 refine bk ?_
 refine bF h fun k h=>?_
 refine cl none [] 0 h (IK N _ _) fun m h=>?_
 refine cd h (fun i h=>?_) (fun i h=>?_)
 refine pr (nl 4 aE) ?_
 cases h
 cases e _ rfl
 replace h:=b
 try dsimp only at h
 cases h
 exact rt [2]
 refine cl none [] 1 h (cOf_c N _ _) fun o h=>?_
 refine dQ true h fun p h=>?_
 cases h
 exact bl [3]
 cases h
 cases e _ rfl
 replace h:=b
 try dsimp only at h
 exact bj _ [0]
 intro a h
 try dsimp only at h
 cases h
 exact rt [0]
theorem PU(N:Nat)(s:(List bB))(r:(List bB))(h:yP N s=some r):Cn Tryz.prog 89 [sR aE false s] [.row aE false r] [sO 0]:=by
 unfold yP at h
 refine fn tb en89 Tryz.func89 fun X w H ν=>?_
 refine vA ?_
 refine cn (fun hnil=>?_) ?_
 replace h:some []=some r:=by rw[hnil]at h;simpa[cM]using h
 refine pr (nl 2 aE) ?_
 cases h
 exact rt [0]
 refine ji aE ?_
 refine dQ false h fun a h=>?_
 cases h
 exact rt [1]
theorem Kv(N:Nat)(s:(List bB))(r:(List bB))(h:AW N s=some r):Cx Tryz.prog 47 [sR aE false s] [] [] [.lf (.cp aE false r)]:=by
 unfold AW at h
 refine fn tb en47 Tryz.func47 fun X w H ν=>?_
 refine clR ?_
 cases h
 exact rt []
end Go.Proofs.YtipdkfmhfakbnaaGreatDoor.SC

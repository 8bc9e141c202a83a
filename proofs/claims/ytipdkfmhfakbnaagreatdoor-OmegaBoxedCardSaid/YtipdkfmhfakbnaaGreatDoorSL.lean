/- Walks of the symbolic machine, written by a program of mine (wip/tool). -/
import Derived.Test.YtipdkfmhfakbnaaGreatDoorTB
import Derived.Test.YtipdkfmhfakbnaaGreatDoorAf
import Derived.Test.YtipdkfmhfakbnaaGreatDoorSR
import Derived.Test.YtipdkfmhfakbnaaGreatDoorSE
import Derived.Test.YtipdkfmhfakbnaaGreatDoorSQ
import Derived.Test.YtipdkfmhfakbnaaGreatDoorSY
set_option linter.unusedVariables false
set_option linter.unusedSimpArgs false
set_option linter.unusedSectionVars false
set_option maxRecDepth 100000
set_option maxHeartbeats 4000000
namespace Go.Proofs.YtipdkfmhfakbnaaGreatDoor.SL
open Go Go.RowKit Go.X Go.Q Go.D Go.Proofs.YtipdkfmhfakbnaaGreatDoor.TB Go.Proofs.YtipdkfmhfakbnaaGreatDoor.FS Go.Proofs.YtipdkfmhfakbnaaGreatDoor.SR Go.Proofs.YtipdkfmhfakbnaaGreatDoor.SE Go.Proofs.YtipdkfmhfakbnaaGreatDoor.SQ Go.Proofs.YtipdkfmhfakbnaaGreatDoor.SY
theorem rP(N:Nat)(x:Int)(y:Int)(c:Int)(equal:Bool)(r:Constraint)(h:oB N x y c equal=some r):Cx Tryz.prog 35 [sI .i64 x,sI .i64 y,sI .i64 c,sB equal] [] [] [sA cT true r]:=by
 unfold oB at h
 refine fn tb en35 Tryz.func35 fun X w H ν=>?_
 refine dc gR true [(gU.mk 0 x),(gU.mk 1 y)] ?_
 cases h
 exact rt []
theorem Rp(N:Nat)(l:(List Constraint))(r:(List Constraint))(h:yj N l=some r):Cx Tryz.prog 16 [sR cT false l] [] [(0,some (.row cT true r))] [sO 0]:=by
 unfold yj at h
 refine fn tb en16 Tryz.func16 fun X w H ν=>?_
 refine jn (fun x=>x) (fun a=>aV 1 [.row cT true a] [vo 3 0]) h (fun j e k=>?_) ?_
 refine bk ?_
 refine ps (nl 3 cT) ?_
 refine lp (fun⟨b,c⟩=>aV 1 [.row cT true b] [vo 3 0,vr 6 cT false l,vi 7 (List.length l:Int),vi 8 c]) e [0] ?_
 rintro⟨b,c⟩ oo h f
 rw[FG]at h
 refine cd h (fun g h=>?_) (fun g h=>?_)
 refine bk ?_
 refine bI h fun d h=>?_
 refine iZ gR ?_
 refine dR true h fun i h=>?_
 refine po (dD 3 [16,20] [1]) ?_
 refine dc cT true [(Constraint.mk (Linear.mk d.Linear.Const i) d.iC)] ?_
 refine dR true h fun m h=>?_
 cases h
 exact bl [5]
 cases h
 exact bj _ [0] (hx:=f _ rfl)
 intro a h
 try dsimp only at h
 cases h
 exact rt [0]
theorem O3(N:Nat)(n:Int)(l:(List Constraint))(r:(Bool×Bool))(h:xj N n l=some r):Cx Tryz.prog 12 [sI .i64 n,sR cT false l] [] [] [sB r.1,sB r.2]:=by
 unfold xj at h
 refine fn tb en12 Tryz.func12 fun X w H ν=>?_
 refine cl none [] 1 h (Rp N _) fun r1 h=>?_
 refine po (dD 0 [12] []) ?_
 refine cl (some true) [] 0 h (zz N _ _) fun r2 h=>?_
 refine cd h (fun hc7 h=>?_) (fun hc7 h=>?_)
 refine rg ?_
 refine gd h (fun hc8 h=>?_) (fun hc8 h=>?_)
 refine cl none [] 0 h (GP N _ _) fun r9 h=>?_
 cases h
 exact rt []
 cases h
 exact rt []
 refine rg ?_
 refine gd h (fun a h=>?_) (fun a h=>?_)
 refine cl none [] 0 h (F6 N _ _ _) fun b h=>?_
 cases h
 exact rt []
 cases h
 exact rt []
theorem Ko(N:Nat)(r:Bool)(h:ve N=some r):Cx Tryz.prog 10 [] [] [] [sB r]:=by
 unfold ve at h
 refine fn tb en10 Tryz.func10 fun X w H ν=>?_
 refine cl none [] 0 h (rP N _ _ _ _) fun r1 h=>?_
 refine cl none [] 0 h (rP N _ _ _ _) fun r2 h=>?_
 refine cl none [] 0 h (rP N _ _ _ _) fun r3 h=>?_
 refine dc cT true [r1,r2,r3] ?_
 refine po (dD 0 [1,17,19] []) ?_
 refine cl (some true) [] 0 h (zz N _ _) fun r4 h=>?_
 refine cl (some true) [] 0 h (T7 N _ _ _) fun r5 h=>?_
 refine cl none [] 0 h (rP N _ _ _ _) fun r6 h=>?_
 refine cl none [] 0 h (rP N _ _ _ _) fun r7 h=>?_
 refine dc cT true [r6,r7] ?_
 refine po (dD 3 [7,31,33] []) ?_
 refine cl (some true) [] 0 h (zz N _ _) fun r8 h=>?_
 refine cl none [] 0 h (rP N _ _ _ _) fun r9 h=>?_
 refine dc cT true [r9] ?_
 refine po (dD 5 [40] []) ?_
 refine cl (some true) [] 0 h (zz N _ _) fun a h=>?_
 refine sn (aV 3 [.box (aO.cl aA true r5.1),.box (aO.cl iW true r8.2.1),.box (aO.cl iW true a.2.1)] [vr 2 aA true r4.1,vb 4 r4.2.2,vp 5 0,vb 6 r5.2,vr 7 cT true [r6,r7],vp 9 1,vb 10 r8.2.2,vp 12 2,vb 13 a.2.2]) [2,4,6] ?_
 refine dr mixed ?_
 refine gd h (fun b h=>?_) (fun b h=>?_)
 refine gd h (fun c h=>?_) (fun c h=>?_)
 refine bI h fun m h=>?_
 refine cl none [] 0 h (nR N _) fun n h=>?_
 refine cl none [] 0 h (F1 N _ _) fun o h=>?_
 refine gd h (fun d h=>?_) (fun d h=>?_)
 refine bI h fun p h=>?_
 refine cl none [] 0 h (nR N _) fun s h=>?_
 refine cl none [] 0 h (F1 N _ _) fun u h=>?_
 refine gd h (fun e h=>?_) (fun e h=>?_)
 refine gd h (fun f h=>?_) (fun f h=>?_)
 refine cl none [] 0 h (nR N _) fun v h=>?_
 refine cl none [] 0 h (F1 N _ _) fun y h=>?_
 refine gd h (fun g h=>?_) (fun g h=>?_)
 refine gd h (fun i h=>?_) (fun i h=>?_)
 refine cl none [] 0 h (F6 N _ _ _) fun a0 h=>?_
 refine gd h (fun j h=>?_) (fun j h=>?_)
 refine gd h (fun k h=>?_) (fun k h=>?_)
 refine cl none [] 0 h (rP N _ _ _ _) fun l h=>?_
 refine dc cT true [l] ?_
 refine cl none [] 0 h (F6 N _ _ _) fun a1 h=>?_
 refine dk ?_
 cases h
 exact rt []
 refine dk ?_
 cases h
 exact rt []
 refine dk ?_
 cases h
 exact rt []
 refine dk ?_
 cases h
 exact rt []
 refine dk ?_
 cases h
 exact rt []
 refine dk ?_
 cases h
 exact rt []
 refine dk ?_
 cases h
 exact rt []
 refine dk ?_
 cases h
 exact rt []
 refine dk ?_
 cases h
 exact rt []
 refine dk ?_
 cases h
 exact rt []
theorem RB(N:Nat)(n:Int)(l:(List Constraint))(most:Int)(r:Bool)(h:Bw N n l most=some r):Cx Tryz.prog 4 [sI .i64 n,sR cT false l,sI .u8 most] [] [] [sB r]:=by
 unfold Bw at h
 refine fn tb en4 Tryz.func4 fun X w H ν=>?_
 refine jn (fun x=>x) (fun x6=>aV 0 [] [vi 0 n,vr 1 cT false l,vk 2 .u8 most,vb 21 x6]) h (fun s7 h g8=>?_) ?_
 refine rg ?_
 refine cl none [] 0 h (Ko N) fun r9 h=>?_
 refine gd h (fun a h=>?_) (fun a h=>?_)
 cases h
 exact bj _ []
 refine gd h (fun b h=>?_) (fun b h=>?_)
 cases h
 exact bj _ []
 refine cl none [] 0 h (Uk N _ _ _) fun e h=>?_
 cases h
 exact bj _ []
 intro x6 h
 try dsimp only at h
 refine cd h (fun c h=>?_) (fun c h=>?_)
 refine cl none [] 0 h (Ko N) fun f h=>?_
 cases h
 exact rt []
 refine uK ?_
 refine cl (some false) [] 1 h (PE N _ _ _) fun g h=>?_
 refine cl none [] 0 h (O3 N _ _) fun i h=>?_
 refine rg ?_
 refine gd h (fun d h=>?_) (fun d h=>?_)
 refine cl none [] 0 h (Sr N _ _ _) fun j h=>?_
 cases h
 exact rt []
 cases h
 exact rt []
end Go.Proofs.YtipdkfmhfakbnaaGreatDoor.SL

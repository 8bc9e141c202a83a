/- Walks of the symbolic machine, written by a program of mine (wip/tool). -/
import Derived.Test.YtipdkfmhfakbnaaGreatDoorTB
import Derived.Test.YtipdkfmhfakbnaaGreatDoorAf
import Derived.Test.YtipdkfmhfakbnaaGreatDoorSR
import Derived.Test.YtipdkfmhfakbnaaGreatDoorSE
import Derived.Test.YtipdkfmhfakbnaaGreatDoorSQ
import Derived.Test.YtipdkfmhfakbnaaGreatDoorSY
set_option linter.unusedVariables false
set_option linter.unusedSimpArgs false
set_option linter.unusedSectionVars false
set_option maxRecDepth 100000
set_option maxHeartbeats 4000000
namespace Go.Proofs.YtipdkfmhfakbnaaGreatDoor.SL
open Go Go.RowKit Go.X Go.Q Go.D Go.Proofs.YtipdkfmhfakbnaaGreatDoor.TB Go.Proofs.YtipdkfmhfakbnaaGreatDoor.FS Go.Proofs.YtipdkfmhfakbnaaGreatDoor.SR Go.Proofs.YtipdkfmhfakbnaaGreatDoor.SE Go.Proofs.YtipdkfmhfakbnaaGreatDoor.SQ Go.Proofs.YtipdkfmhfakbnaaGreatDoor.SY
theorem sQ(N:Nat)(x:Int)(y:Int)(c:Int)(equal:Bool)(r:Constraint)(h:oC N x y c equal=some r):Cx Tryz.prog 35 [sI .i64 x,sI .i64 y,sI .i64 c,sB equal] [] [] [sA dH true r]:=by
 unfold oC at h
 refine fn tb en35 Tryz.func35 fun X w H ν=>?_
 refine dt iC true [(jN.mk 0 x),(jN.mk 1 y)] ?_
 cases h
 exact rt []
theorem RL(N:Nat)(l:(List Constraint))(r:(List Constraint))(h:yb N l=some r):Cx Tryz.prog 16 [sR dH false l] [] [(0,some (.row dH true r))] [sO 0]:=by
 unfold yb at h
 refine fn tb en16 Tryz.func16 fun X w H ν=>?_
 refine jn (fun x=>x) (fun a=>aV 1 [.row dH true a] [vo 3 0]) h (fun j e k=>?_) ?_
 refine bk ?_
 refine ps (nl 3 dH) ?_
 refine lp (fun⟨b,c⟩=>aV 1 [.row dH true b] [vo 3 0,vr 6 dH false l,vi 7 (List.length l:Int),vi 8 c]) e [0] ?_
 rintro⟨b,c⟩ oo h f
 rw[Fk]at h
 refine cd h (fun g h=>?_) (fun g h=>?_)
 refine bk ?_
 refine bH h fun d h=>?_
 refine jk iC ?_
 refine eb true h fun i h=>?_
 refine po (dC 3 [16,20] [1]) ?_
 refine dt dH true [(Constraint.mk (Linear.mk d.Linear.Const i) d.iA)] ?_
 refine eb true h fun m h=>?_
 cases h
 exact bl [5]
 cases h
 exact bj _ [0] (hx:=f _ rfl)
 intro a h
 try dsimp only at h
 cases h
 exact rt [0]
theorem Th(N:Nat)(n:Int)(l:(List Constraint))(r:(Bool×Bool))(h:vP N n l=some r):Cx Tryz.prog 12 [sI .i64 n,sR dH false l] [] [] [sB r.1,sB r.2]:=by
 unfold vP at h
 refine fn tb en12 Tryz.func12 fun X w H ν=>?_
 refine cl none [] 1 h (RL N _) fun r1 h=>?_
 refine po (dC 0 [12] []) ?_
 refine cl (some true) [] 0 h (AK N _ _) fun r2 h=>?_
 refine cd h (fun hc7 h=>?_) (fun hc7 h=>?_)
 refine rg ?_
 refine gd h (fun hc8 h=>?_) (fun hc8 h=>?_)
 refine cl none [] 0 h (Uf N _ _) fun r9 h=>?_
 cases h
 exact rt []
 cases h
 exact rt []
 refine rg ?_
 refine gd h (fun a h=>?_) (fun a h=>?_)
 refine cl none [] 0 h (DE N _ _ _) fun b h=>?_
 cases h
 exact rt []
 cases h
 exact rt []
theorem L6(N:Nat)(r:Bool)(h:u9 N=some r):Cx Tryz.prog 10 [] [] [] [sB r]:=by
 unfold u9 at h
 refine fn tb en10 Tryz.func10 fun X w H ν=>?_
 refine cl none [] 0 h (sQ N _ _ _ _) fun r1 h=>?_
 refine cl none [] 0 h (sQ N _ _ _ _) fun r2 h=>?_
 refine cl none [] 0 h (sQ N _ _ _ _) fun r3 h=>?_
 refine dt dH true [r1,r2,r3] ?_
 refine po (dC 0 [1,17,19] []) ?_
 refine cl (some true) [] 0 h (AK N _ _) fun r4 h=>?_
 refine cl (some true) [] 0 h (Nn N _ _ _) fun r5 h=>?_
 refine cl none [] 0 h (sQ N _ _ _ _) fun r6 h=>?_
 refine cl none [] 0 h (sQ N _ _ _ _) fun r7 h=>?_
 refine dt dH true [r6,r7] ?_
 refine po (dC 3 [7,31,33] []) ?_
 refine cl (some true) [] 0 h (AK N _ _) fun r8 h=>?_
 refine cl none [] 0 h (sQ N _ _ _ _) fun r9 h=>?_
 refine dt dH true [r9] ?_
 refine po (dC 5 [40] []) ?_
 refine cl (some true) [] 0 h (AK N _ _) fun a h=>?_
 refine sn (aV 3 [.box (aO.cl aA true r5.1),.box (aO.cl iU true r8.2.1),.box (aO.cl iU true a.2.1)] [vr 2 aA true r4.1,vb 4 r4.2.2,vp 5 0,vb 6 r5.2,vr 7 dH true [r6,r7],vp 9 1,vb 10 r8.2.2,vp 12 2,vb 13 a.2.2]) [2,4,6] ?_
 refine dr mixed ?_
 refine gd h (fun b h=>?_) (fun b h=>?_)
 refine gd h (fun c h=>?_) (fun c h=>?_)
 refine bH h fun m h=>?_
 refine cl none [] 0 h (oD N _) fun n h=>?_
 refine cl none [] 0 h (CX N _ _) fun o h=>?_
 refine gd h (fun d h=>?_) (fun d h=>?_)
 refine bH h fun p h=>?_
 refine cl none [] 0 h (oD N _) fun s h=>?_
 refine cl none [] 0 h (CX N _ _) fun u h=>?_
 refine gd h (fun e h=>?_) (fun e h=>?_)
 refine gd h (fun f h=>?_) (fun f h=>?_)
 refine cl none [] 0 h (oD N _) fun v h=>?_
 refine cl none [] 0 h (CX N _ _) fun y h=>?_
 refine gd h (fun g h=>?_) (fun g h=>?_)
 refine gd h (fun i h=>?_) (fun i h=>?_)
 refine cl none [] 0 h (DE N _ _ _) fun a0 h=>?_
 refine gd h (fun j h=>?_) (fun j h=>?_)
 refine gd h (fun k h=>?_) (fun k h=>?_)
 refine cl none [] 0 h (sQ N _ _ _ _) fun l h=>?_
 refine dt dH true [l] ?_
 refine cl none [] 0 h (DE N _ _ _) fun a1 h=>?_
 refine dk ?_
 cases h
 exact rt []
 refine dk ?_
 cases h
 exact rt []
 refine dk ?_
 cases h
 exact rt []
 refine dk ?_
 cases h
 exact rt []
 refine dk ?_
 cases h
 exact rt []
 refine dk ?_
 cases h
 exact rt []
 refine dk ?_
 cases h
 exact rt []
 refine dk ?_
 cases h
 exact rt []
 refine dk ?_
 cases h
 exact rt []
 refine dk ?_
 cases h
 exact rt []
theorem Nd(N:Nat)(n:Int)(l:(List Constraint))(r:Bool)(h:yC N n l=some r):Cx Tryz.prog 3 [sI .i64 n,sR dH false l] [] [] [sB r]:=by
 unfold yC at h
 refine fn tb en3 Tryz.func3 fun X w H ν=>?_
 refine jn (fun x=>x) (fun x5=>aV 0 [] [vi 0 n,vr 1 dH false l,vb 14 x5]) h (fun s6 h g7=>?_) ?_
 refine rg ?_
 refine cl none [] 0 h (L6 N) fun r8 h=>?_
 refine gd h (fun hc9 h=>?_) (fun hc9 h=>?_)
 cases h
 exact bj _ []
 refine cl none [] 0 h (RW N _ _ _) fun b h=>?_
 cases h
 exact bj _ []
 intro x5 h
 try dsimp only at h
 refine cd h (fun a h=>?_) (fun a h=>?_)
 refine cl none [] 0 h (L6 N) fun c h=>?_
 cases h
 exact rt []
 refine cl none [] 0 h (Th N _ _) fun d h=>?_
 cases h
 exact rt []
end Go.Proofs.YtipdkfmhfakbnaaGreatDoor.SL

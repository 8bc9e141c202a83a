/- Walks of the symbolic machine, written by a program of mine (wip/tool). -/
import Derived.Test.YtipdkfmhfakbnaaGreatDoorTB
import Derived.Test.YtipdkfmhfakbnaaGreatDoorAf
import Derived.Test.YtipdkfmhfakbnaaGreatDoorSR
import Derived.Test.YtipdkfmhfakbnaaGreatDoorSE
import Derived.Test.YtipdkfmhfakbnaaGreatDoorSQ
import Derived.Test.YtipdkfmhfakbnaaGreatDoorSY
set_option linter.unusedVariables false
set_option linter.unusedSimpArgs false
set_option linter.unusedSectionVars false
set_option maxRecDepth 100000
set_option maxHeartbeats 4000000
namespace Go.Proofs.YtipdkfmhfakbnaaGreatDoor.SL
open Go Go.RowKit Go.X Go.Q Go.D Go.Proofs.YtipdkfmhfakbnaaGreatDoor.TB Go.Proofs.YtipdkfmhfakbnaaGreatDoor.FS Go.Proofs.YtipdkfmhfakbnaaGreatDoor.SR Go.Proofs.YtipdkfmhfakbnaaGreatDoor.SE Go.Proofs.YtipdkfmhfakbnaaGreatDoor.SQ Go.Proofs.YtipdkfmhfakbnaaGreatDoor.SY
theorem rj(N:Nat)(x:Int)(y:Int)(c:Int)(equal:Bool)(r:Constraint)(h:oA N x y c equal=some r):Cx Tryz.prog 35 [sI .i64 x,sI .i64 y,sI .i64 c,sB equal] [] [] [sA dG true r]:=by
 unfold oA at h
 refine fn tb en35 Tryz.func35 fun X w H ν=>?_
 refine dt iv true [(jK.mk 0 x),(jK.mk 1 y)] ?_
 cases h
 exact rt []
theorem T9(N:Nat)(l:(List Constraint))(r:(List Constraint))(h:w7 N l=some r):Cx Tryz.prog 16 [sR dG false l] [] [(0,some (.row dG true r))] [sO 0]:=by
 unfold w7 at h
 refine fn tb en16 Tryz.func16 fun X w H ν=>?_
 refine jn (fun x=>x) (fun a=>aV 1 [.row dG true a] [vo 3 0]) h (fun j e k=>?_) ?_
 refine bk ?_
 refine ps (nl 3 dG) ?_
 refine lp (fun⟨b,c⟩=>aV 1 [.row dG true b] [vo 3 0,vr 6 dG false l,vi 7 (List.length l:Int),vi 8 c]) e [0] ?_
 rintro⟨b,c⟩ oo h f
 rw[Dj]at h
 refine cd h (fun g h=>?_) (fun g h=>?_)
 refine bk ?_
 refine bH h fun d h=>?_
 refine iQ iv ?_
 refine dT true h fun i h=>?_
 refine po (dC 3 [16,20] [1]) ?_
 refine dt dG true [(Constraint.mk (Linear.mk d.Linear.Const i) d.iI)] ?_
 refine dT true h fun m h=>?_
 cases h
 exact bl [5]
 cases h
 exact bj _ [0] (hx:=f _ rfl)
 intro a h
 try dsimp only at h
 cases h
 exact rt [0]
theorem Jc(N:Nat)(n:Int)(l:(List Constraint))(r:(Bool×Bool))(h:vd N n l=some r):Cx Tryz.prog 12 [sI .i64 n,sR dG false l] [] [] [sB r.1,sB r.2]:=by
 unfold vd at h
 refine fn tb en12 Tryz.func12 fun X w H ν=>?_
 refine cl none [] 1 h (T9 N _) fun r1 h=>?_
 refine po (dC 0 [12] []) ?_
 refine cl (some true) [] 0 h (BF N _ _) fun r2 h=>?_
 refine cd h (fun hc7 h=>?_) (fun hc7 h=>?_)
 refine rg ?_
 refine gd h (fun hc8 h=>?_) (fun hc8 h=>?_)
 refine cl none [] 0 h (RV N _ _) fun r9 h=>?_
 cases h
 exact rt []
 cases h
 exact rt []
 refine rg ?_
 refine gd h (fun a h=>?_) (fun a h=>?_)
 refine cl none [] 0 h (CX N _ _ _) fun b h=>?_
 cases h
 exact rt []
 cases h
 exact rt []
theorem Ik(N:Nat)(r:Bool)(h:tu N=some r):Cx Tryz.prog 10 [] [] [] [sB r]:=by
 unfold tu at h
 refine fn tb en10 Tryz.func10 fun X w H ν=>?_
 refine cl none [] 0 h (rj N _ _ _ _) fun r1 h=>?_
 refine cl none [] 0 h (rj N _ _ _ _) fun r2 h=>?_
 refine cl none [] 0 h (rj N _ _ _ _) fun r3 h=>?_
 refine dt dG true [r1,r2,r3] ?_
 refine po (dC 0 [1,17,19] []) ?_
 refine cl (some true) [] 0 h (BF N _ _) fun r4 h=>?_
 refine cl (some true) [] 0 h (O4 N _ _ _) fun r5 h=>?_
 refine cl none [] 0 h (rj N _ _ _ _) fun r6 h=>?_
 refine cl none [] 0 h (rj N _ _ _ _) fun r7 h=>?_
 refine dt dG true [r6,r7] ?_
 refine po (dC 3 [7,31,33] []) ?_
 refine cl (some true) [] 0 h (BF N _ _) fun r8 h=>?_
 refine cl none [] 0 h (rj N _ _ _ _) fun r9 h=>?_
 refine dt dG true [r9] ?_
 refine po (dC 5 [40] []) ?_
 refine cl (some true) [] 0 h (BF N _ _) fun a h=>?_
 refine sn (aV 3 [.box (aO.cl aA true r5.1),.box (aO.cl iX true r8.2.1),.box (aO.cl iX true a.2.1)] [vr 2 aA true r4.1,vb 4 r4.2.2,vp 5 0,vb 6 r5.2,vr 7 dG true [r6,r7],vp 9 1,vb 10 r8.2.2,vp 12 2,vb 13 a.2.2]) [2,4,6] ?_
 refine dr mixed ?_
 refine gd h (fun b h=>?_) (fun b h=>?_)
 refine gd h (fun c h=>?_) (fun c h=>?_)
 refine bH h fun m h=>?_
 refine cl none [] 0 h (oJ N _) fun n h=>?_
 refine cl none [] 0 h (Cu N _ _) fun o h=>?_
 refine gd h (fun d h=>?_) (fun d h=>?_)
 refine bH h fun p h=>?_
 refine cl none [] 0 h (oJ N _) fun s h=>?_
 refine cl none [] 0 h (Cu N _ _) fun u h=>?_
 refine gd h (fun e h=>?_) (fun e h=>?_)
 refine gd h (fun f h=>?_) (fun f h=>?_)
 refine cl none [] 0 h (oJ N _) fun v h=>?_
 refine cl none [] 0 h (Cu N _ _) fun y h=>?_
 refine gd h (fun g h=>?_) (fun g h=>?_)
 refine gd h (fun i h=>?_) (fun i h=>?_)
 refine cl none [] 0 h (CX N _ _ _) fun a0 h=>?_
 refine gd h (fun j h=>?_) (fun j h=>?_)
 refine gd h (fun k h=>?_) (fun k h=>?_)
 refine cl none [] 0 h (rj N _ _ _ _) fun l h=>?_
 refine dt dG true [l] ?_
 refine cl none [] 0 h (CX N _ _ _) fun a1 h=>?_
 refine dk ?_
 cases h
 exact rt []
 refine dk ?_
 cases h
 exact rt []
 refine dk ?_
 cases h
 exact rt []
 refine dk ?_
 cases h
 exact rt []
 refine dk ?_
 cases h
 exact rt []
 refine dk ?_
 cases h
 exact rt []
 refine dk ?_
 cases h
 exact rt []
 refine dk ?_
 cases h
 exact rt []
 refine dk ?_
 cases h
 exact rt []
 refine dk ?_
 cases h
 exact rt []
theorem PV(N:Nat)(n:Int)(l:(List Constraint))(vat2:Int)(r:Bool)(h:BI N n l vat2=some r):Cx Tryz.prog 7 [sI .i64 n,sR dG false l,sI .u8 vat2] [] [] [sB r]:=by
 unfold BI at h
 refine fn tb en7 Tryz.func7 fun X w H ν=>?_
 refine jn (fun x=>x) (fun x6=>aV 0 [] [vi 0 n,vr 1 dG false l,vk 2 .u8 vat2,vb 25 x6]) h (fun s7 h g8=>?_) ?_
 refine rg ?_
 refine cl none [] 0 h (Ik N) fun r9 h=>?_
 refine gd h (fun a h=>?_) (fun a h=>?_)
 cases h
 exact bj _ []
 refine cl none [] 0 h (Ub N _ _ _) fun g h=>?_
 refine gd h (fun b h=>?_) (fun b h=>?_)
 cases h
 exact bj _ []
 cases h
 exact bj _ []
 intro x6 h
 try dsimp only at h
 refine cd h (fun c h=>?_) (fun c h=>?_)
 refine cl none [] 0 h (Ik N) fun i h=>?_
 cases h
 exact rt []
 refine reB h fun j h=>?_
 refine cl none [] 0 h (Jc N _ _) fun k h=>?_
 refine dr mixed ?_
 refine iQ dG ?_
 refine tv h fun m h=>?_
 refine dT false h fun o h=>?_
 refine tv h fun p h=>?_
 refine dT false h fun s h=>?_
 refine dk ?_
 refine cl none [] 0 h (Jc N _ _) fun u h=>?_
 refine rg ?_
 refine gd h (fun d h=>?_) (fun d h=>?_)
 refine gd h (fun e h=>?_) (fun e h=>?_)
 refine gd h (fun f h=>?_) (fun f h=>?_)
 cases h
 exact rt []
 cases h
 exact rt []
 cases h
 exact rt []
 cases h
 exact rt []
end Go.Proofs.YtipdkfmhfakbnaaGreatDoor.SL

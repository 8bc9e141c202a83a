/- Walks of the symbolic machine, written by a program of mine (wip/tool). -/
import Derived.Test.YtipdkfmhfakbnaaGreatDoorTB
import Derived.Test.YtipdkfmhfakbnaaGreatDoorAg
import Derived.Test.YtipdkfmhfakbnaaGreatDoorAf
import Derived.Test.YtipdkfmhfakbnaaGreatDoorSR
import Derived.Test.YtipdkfmhfakbnaaGreatDoorSE
import Derived.Test.YtipdkfmhfakbnaaGreatDoorSQ
import Derived.Test.YtipdkfmhfakbnaaGreatDoorSY
set_option linter.unusedVariables false
set_option linter.unusedSimpArgs false
set_option linter.unusedSectionVars false
set_option maxRecDepth 100000
set_option maxHeartbeats 4000000
namespace Go.Proofs.YtipdkfmhfakbnaaGreatDoor.SL
open Go Go.RowKit Go.X Go.Q Go.D Go.Proofs.YtipdkfmhfakbnaaGreatDoor.TB Go.Proofs.YtipdkfmhfakbnaaGreatDoor.FS Go.Proofs.YtipdkfmhfakbnaaGreatDoor.SR Go.Proofs.YtipdkfmhfakbnaaGreatDoor.SE Go.Proofs.YtipdkfmhfakbnaaGreatDoor.SQ Go.Proofs.YtipdkfmhfakbnaaGreatDoor.SY
theorem rK(N:Nat)(x:Int)(y:Int)(c:Int)(equal:Bool)(r:Constraint)(h:oI N x y c equal=some r):Cx Tryz.prog 35 [sI .i64 x,sI .i64 y,sI .i64 c,sB equal] [] [] [sA ct true r]:=by
 unfold oI at h
 refine fn tb en35 Tryz.func35 fun X w H ν=>?_
 refine de gA true [(gK.mk 0 x),(gK.mk 1 y)] ?_
 cases h
 exact rt []
theorem N3(N:Nat)(l:(List Constraint))(r:(List Constraint))(h:wU N l=some r):Cx Tryz.prog 16 [sR ct false l] [] [(0,some (.row ct true r))] [sO 0]:=by
 unfold wU at h
 refine fn tb en16 Tryz.func16 fun X w H ν=>?_
 refine jn (fun x=>x) (fun a=>aW 1 [.row ct true a] [vo 3 0]) h (fun j e k=>?_) ?_
 refine bk ?_
 refine ps (nl 3 ct) ?_
 refine lp (fun⟨b,c⟩=>aW 1 [.row ct true b] [vo 3 0,vr 6 ct false l,vi 7 (List.length l:Int),vi 8 c]) e [0] ?_
 rintro⟨b,c⟩ oo h f
 rw[CQ]at h
 refine cd h (fun g h=>?_) (fun g h=>?_)
 refine bk ?_
 refine bF h fun d h=>?_
 refine ji gA ?_
 refine dQ true h fun i h=>?_
 refine po (dE 3 [16,20] [1]) ?_
 refine de ct true [(Constraint.mk (Linear.mk d.Linear.Const i) d.e9)] ?_
 refine dQ true h fun m h=>?_
 cases h
 exact bl [5]
 cases h
 exact bj _ [0] (hx:=f _ rfl)
 intro a h
 try dsimp only at h
 cases h
 exact rt [0]
theorem yL(N:Nat)(n:Int)(l:(List Constraint))(r:(Bool×Bool))(h:qG N n l=some r):Cx Tryz.prog 12 [sI .i64 n,sR ct false l] [] [] [sB r.1,sB r.2]:=by
 unfold qG at h
 refine fn tb en12 Tryz.func12 fun X w H ν=>?_
 refine cl none [] 1 h (N3 N _) fun r1 h=>?_
 refine po (dE 0 [12] []) ?_
 refine cl (some true) [] 0 h (BB N _ _) fun r2 h=>?_
 refine cd h (fun hc7 h=>?_) (fun hc7 h=>?_)
 refine rg ?_
 refine gd h (fun hc8 h=>?_) (fun hc8 h=>?_)
 refine cl none [] 0 h (TR N _ _) fun r9 h=>?_
 cases h
 exact rt []
 cases h
 exact rt []
 refine rg ?_
 refine gd h (fun a h=>?_) (fun a h=>?_)
 refine cl none [] 0 h (Du N _ _ _) fun b h=>?_
 cases h
 exact rt []
 cases h
 exact rt []
theorem H8(N:Nat)(r:Bool)(h:uK N=some r):Cx Tryz.prog 10 [] [] [] [sB r]:=by
 unfold uK at h
 refine fn tb en10 Tryz.func10 fun X w H ν=>?_
 refine cl none [] 0 h (rK N _ _ _ _) fun r1 h=>?_
 refine cl none [] 0 h (rK N _ _ _ _) fun r2 h=>?_
 refine cl none [] 0 h (rK N _ _ _ _) fun r3 h=>?_
 refine de ct true [r1,r2,r3] ?_
 refine po (dE 0 [1,17,19] []) ?_
 refine cl (some true) [] 0 h (BB N _ _) fun r4 h=>?_
 refine cl (some true) [] 0 h (UP N _ _ _) fun r5 h=>?_
 refine cl none [] 0 h (rK N _ _ _ _) fun r6 h=>?_
 refine cl none [] 0 h (rK N _ _ _ _) fun r7 h=>?_
 refine de ct true [r6,r7] ?_
 refine po (dE 3 [7,31,33] []) ?_
 refine cl (some true) [] 0 h (BB N _ _) fun r8 h=>?_
 refine cl none [] 0 h (rK N _ _ _ _) fun r9 h=>?_
 refine de ct true [r9] ?_
 refine po (dE 5 [40] []) ?_
 refine cl (some true) [] 0 h (BB N _ _) fun a h=>?_
 refine sn (aW 3 [.box (aO.cl aA true r5.1),.box (aO.cl jb true r8.2.1),.box (aO.cl jb true a.2.1)] [vr 2 aA true r4.1,vb 4 r4.2.2,vp 5 0,vb 6 r5.2,vr 7 ct true [r6,r7],vp 9 1,vb 10 r8.2.2,vp 12 2,vb 13 a.2.2]) [2,4,6] ?_
 refine dr mixed ?_
 refine gd h (fun b h=>?_) (fun b h=>?_)
 refine gd h (fun c h=>?_) (fun c h=>?_)
 refine bF h fun m h=>?_
 refine cl none [] 0 h (oW N _) fun n h=>?_
 refine cl none [] 0 h (D3 N _ _) fun o h=>?_
 refine gd h (fun d h=>?_) (fun d h=>?_)
 refine bF h fun p h=>?_
 refine cl none [] 0 h (oW N _) fun s h=>?_
 refine cl none [] 0 h (D3 N _ _) fun u h=>?_
 refine gd h (fun e h=>?_) (fun e h=>?_)
 refine gd h (fun f h=>?_) (fun f h=>?_)
 refine cl none [] 0 h (oW N _) fun v h=>?_
 refine cl none [] 0 h (D3 N _ _) fun y h=>?_
 refine gd h (fun g h=>?_) (fun g h=>?_)
 refine gd h (fun i h=>?_) (fun i h=>?_)
 refine cl none [] 0 h (Du N _ _ _) fun a0 h=>?_
 refine gd h (fun j h=>?_) (fun j h=>?_)
 refine gd h (fun k h=>?_) (fun k h=>?_)
 refine cl none [] 0 h (rK N _ _ _ _) fun l h=>?_
 refine de ct true [l] ?_
 refine cl none [] 0 h (Du N _ _ _) fun a1 h=>?_
 refine dk ?_
 cases h
 exact rt []
 refine dk ?_
 cases h
 exact rt []
 refine dk ?_
 cases h
 exact rt []
 refine dk ?_
 cases h
 exact rt []
 refine dk ?_
 cases h
 exact rt []
 refine dk ?_
 cases h
 exact rt []
 refine dk ?_
 cases h
 exact rt []
 refine dk ?_
 cases h
 exact rt []
 refine dk ?_
 cases h
 exact rt []
 refine dk ?_
 cases h
 exact rt []
theorem Uk(N:Nat)(n:Int)(l:(List Constraint))(k:Int)(vby3:(List Int))(r:Bool)(h:Au N n l k vby3=some r):Cx Tryz.prog 6 [sI .i64 n,sR ct false l,sI .u8 k,sR (aD .i64) false vby3] [] [] [sB r]:=by
 unfold Au at h
 refine fn tb en6 Tryz.func6 fun X w H ν=>?_
 refine jn (fun x=>x) (fun x6=>aW 0 [] [vi 0 n,vr 1 ct false l,vk 2 .u8 k,vr 3 (aD .i64) false vby3,vb 35 x6]) h (fun s7 h g8=>?_) ?_
 refine rg ?_
 refine cl none [] 0 h (H8 N) fun r9 h=>?_
 refine gd h (fun m h=>?_) (fun m h=>?_)
 cases h
 exact bj _ []
 refine cl none [] 0 h (Sx N _ _ _) fun ad h=>?_
 refine gd h (fun o h=>?_) (fun o h=>?_)
 cases h
 exact bj _ []
 cases h
 exact bj _ []
 intro x6 h
 try dsimp only at h
 refine cd h (fun p h=>?_) (fun p h=>?_)
 refine cl none [] 0 h (H8 N) fun ae h=>?_
 cases h
 exact rt []
 refine jn (fun x=>(Sum.inl x)) (fun(_:Unit)=>aW 0 [] [vi 0 n,vr 1 ct false l,vk 2 .u8 k,vr 3 (aD .i64) false vby3]) h (fun af s u=>?_) ?_
 refine bk ?_
 refine lp (fun b=>aW 0 [] [vi 0 n,vr 1 ct false l,vk 2 .u8 k,vr 3 (aD .i64) false vby3,vr 37 (aD .i64) false vby3,vi 38 (List.length vby3:Int),vi 39 b]) s [] ?_
 rintro b oo h c
 rw[wa]at h
 refine cd h (fun v h=>?_) (fun v h=>?_)
 refine bk ?_
 refine bF h fun ag h=>?_
 refine jn (fun x=>x) (fun d=>aW 0 [] [vi 0 n,vr 1 ct false l,vk 2 .u8 k,vr 3 (aD .i64) false vby3,vr 37 (aD .i64) false vby3,vi 38 (List.length vby3:Int),vi 39 b,vb 48 d]) h (fun ah h ai=>?_) ?_
 refine rg ?_
 refine gd h (fun y h=>?_) (fun y h=>?_)
 cases h
 exact bj _ []
 cases h
 exact bj _ []
 intro d h
 try dsimp only at h
 refine cd h (fun a0 h=>?_) (fun a0 h=>?_)
 cases h
 have h:=u
 rw[<-c _ rfl]at h
 try dsimp only at h
 cases h
 exact rt []
 cases h
 exact bl []
 cases h
 exact bj _ [] (hx:=c _ rfl)
 intro _ h
 try dsimp only at h
 refine cl none [] 0 h (yL N _ _) fun a h=>?_
 refine jn (fun x=>x) (fun⟨e,f⟩=>aW 2 [.row ct false e,.row ct true f] [vi 0 n,vr 1 ct false l,vr 3 (aD .i64) false vby3,vb 11 a.1,vb 12 a.2,vo 13 0,vo 14 1]) h (fun aj a1 ak=>?_) ?_
 refine bk ?_
 refine ps (nl 13 ct) ?_
 refine ps (nl 14 ct) ?_
 refine lp (fun⟨g,i,j⟩=>aW 2 [.row ct false g,.row ct true i] [vi 0 n,vr 1 ct false l,vk 2 .u8 k,vr 3 (aD .i64) false vby3,vb 11 a.1,vb 12 a.2,vo 13 0,vo 14 1,vi 15 j]) a1 [0,1] ?_
 rintro⟨g,i,j⟩ oo h a2
 rw[EV]at h
 refine cd h (fun a3 h=>?_) (fun a3 h=>?_)
 refine bk ?_
 refine dr mixed ?_
 refine bF h fun a4 h=>?_
 refine bF h fun a5 h=>?_
 refine de ct false [a4,a5] ?_
 refine dQ false h fun al h=>?_
 refine dk ?_
 refine bF h fun am h=>?_
 refine ue ?_
 refine cl none [] 0 h (Uc N _ _) fun a6 h=>?_
 refine de ct true [a6] ?_
 refine dQ true h fun an h=>?_
 cases h
 exact bl [3,5]
 cases h
 exact bj _ [0,1] (hx:=a2 _ rfl)
 rintro⟨e,f⟩ h
 try dsimp only at h
 refine cl none [] 0 h (yL N _ _) fun ao h=>?_
 refine cl none [] 0 h (yL N _ _) fun aq h=>?_
 refine cl (some false) [] 1 h (PY N _ _) fun ar h=>?_
 refine cl none [] 0 h (yL N _ _) fun av h=>?_
 refine rg ?_
 refine gd h (fun a7 h=>?_) (fun a7 h=>?_)
 refine gd h (fun a8 h=>?_) (fun a8 h=>?_)
 refine gd h (fun a9 h=>?_) (fun a9 h=>?_)
 refine gd h (fun aa h=>?_) (fun aa h=>?_)
 refine gd h (fun ab h=>?_) (fun ab h=>?_)
 refine gd h (fun ac h=>?_) (fun ac h=>?_)
 cases h
 exact rt []
 cases h
 exact rt []
 cases h
 exact rt []
 cases h
 exact rt []
 cases h
 exact rt []
 cases h
 exact rt []
 cases h
 exact rt []
end Go.Proofs.YtipdkfmhfakbnaaGreatDoor.SL

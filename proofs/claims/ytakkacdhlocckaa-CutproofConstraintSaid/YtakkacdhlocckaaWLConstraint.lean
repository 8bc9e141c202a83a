/- Walks, written by a program of mine (wip/tool); the kernel checks them. -/
import Derived.Test.YtakkacdhlocckaaProg
import Derived.Test.YtakkacdhlocckaaZ7
import Derived.Test.YtakkacdhlocckaaPL
import Derived.Test.YtakkacdhlocckaaWAConstraint
import Derived.Test.YtakkacdhlocckaaWRConstraint
import Derived.Test.YtakkacdhlocckaaWBConstraint
import Derived.Test.YtakkacdhlocckaaWCConstraint
import Derived.Test.YtakkacdhlocckaaWDConstraint
set_option maxRecDepth 100000
set_option maxHeartbeats 4000000
set_option linter.unusedVariables false
namespace Go.Proofs.Ytakkacdhlocckaa.WL
open Go Go.RowKit Go.X Go.D Go.Proofs.Ytakkacdhlocckaa.WA Go.Proofs.Ytakkacdhlocckaa.WR Go.Proofs.Ytakkacdhlocckaa.WB Go.Proofs.Ytakkacdhlocckaa.WC Go.Proofs.Ytakkacdhlocckaa.WD
theorem mixed : Try.prog.follows .mixedOrders = true := by kernel_rfl
theorem ti26 : TI Try.prog 26 2 32 (Value.agg #[(Value.bool false), (Value.slice none 0 0)]) := TI.mk (by kernel_rfl)
theorem en37 : Enters Try.prog 37 := ⟨Try.f37, Try.func37, by kernel_rfl, by kernel_rfl⟩
theorem ti34 : TI Try.prog 34 3 56 (Value.agg #[(Value.slice none 0 0), (Value.bool false), (Value.slice none 0 0)]) := TI.mk (by kernel_rfl)
theorem en24 : Enters Try.prog 24 := ⟨Try.f24, Try.func24, by kernel_rfl, by kernel_rfl⟩
theorem pl34 : placesT Try.prog 34 = some [(0, 1), (1, 2)] := by kernel_rfl
theorem ti50 : TI Try.prog 50 3 40 (Value.agg #[(Value.int .i64 0), (Value.bool false), (Value.slice none 0 0)]) := TI.mk (by kernel_rfl)
theorem pl50 : placesT Try.prog 50 = some [(0, 1), (1, 2)] := by kernel_rfl
theorem en41 : Enters Try.prog 41 := ⟨Try.f41, Try.func41, by kernel_rfl, by kernel_rfl⟩
theorem en42 : Enters Try.prog 42 := ⟨Try.f42, Try.func42, by kernel_rfl, by kernel_rfl⟩
theorem pl28 : placesT Try.prog 28 = some [(0, 1), (1, 2)] := by kernel_rfl
theorem ti28 : TI Try.prog 28 3 56 (Value.agg #[(Value.slice none 0 0), (Value.bool false), (Value.slice none 0 0)]) := TI.mk (by kernel_rfl)
theorem pl42 : placesT Try.prog 42 = some [(0, 1), (1, 1), (2, 2), (4, 1)] := by kernel_rfl
theorem ti42 : TI Try.prog 42 5 104 (Value.agg #[(Value.slice none 0 0), (Value.slice none 0 0), (Value.bool false), (Value.slice none 0 0), (Value.slice none 0 0)]) := TI.mk (by kernel_rfl)
theorem en20 : Enters Try.prog 20 := ⟨Try.f20, Try.func20, by kernel_rfl, by kernel_rfl⟩
theorem en18 : Enters Try.prog 18 := ⟨Try.f18, Try.func18, by kernel_rfl, by kernel_rfl⟩
theorem en21 : Enters Try.prog 21 := ⟨Try.f21, Try.func21, by kernel_rfl, by kernel_rfl⟩
theorem en11 : Enters Try.prog 11 := ⟨Try.f11, Try.func11, by kernel_rfl, by kernel_rfl⟩
theorem en14 : Enters Try.prog 14 := ⟨Try.f14, Try.func14, by kernel_rfl, by kernel_rfl⟩
theorem ti39 : TI Try.prog 39 1 24 (Value.slice none 0 0) := TI.mk (by kernel_rfl)
theorem ti40 : TI Try.prog 40 1 24 (Value.slice none 0 0) := TI.mk (by kernel_rfl)
theorem ti32 : TI Try.prog 32 1 24 (Value.slice none 0 0) := TI.mk (by kernel_rfl)
theorem ti24 : TI Try.prog 24 1 24 (Value.slice none 0 0) := TI.mk (by kernel_rfl)
theorem ti23 : TI Try.prog 23 1 24 (Value.slice none 0 0) := TI.mk (by kernel_rfl)
theorem ti3 : TI Try.prog 3 1 8 (Value.int .i64 0) := TI.mk (by kernel_rfl)
theorem en28 : Enters Try.prog 28 := ⟨Try.f28, Try.func28, by kernel_rfl, by kernel_rfl⟩
theorem en29 : Enters Try.prog 29 := ⟨Try.f29, Try.func29, by kernel_rfl, by kernel_rfl⟩
theorem ti63 : TI Try.prog 63 3 40 (Value.agg #[(Value.int .i64 0), (Value.slice none 0 0), (Value.bool false)]) := TI.mk (by kernel_rfl)
theorem ti61 : TI Try.prog 61 2 32 (Value.agg #[(Value.int .i64 0), (Value.slice none 0 0)]) := TI.mk (by kernel_rfl)
theorem ti59 : TI Try.prog 59 1 24 (Value.slice none 0 0) := TI.mk (by kernel_rfl)
theorem en32 : Enters Try.prog 32 := ⟨Try.f32, Try.func32, by kernel_rfl, by kernel_rfl⟩
theorem en36 : Enters Try.prog 36 := ⟨Try.f36, Try.func36, by kernel_rfl, by kernel_rfl⟩
theorem ti2 : TI Try.prog 2 1 8 (Value.int .i64 0) := TI.mk (by kernel_rfl)
theorem ti71 : TI Try.prog 71 2 16 (Value.agg #[(Value.int .i64 0), (Value.int .i64 0)]) := TI.mk (by kernel_rfl)
theorem ti73 : TI Try.prog 73 1 2 (Value.int .i16 0) := TI.mk (by kernel_rfl)
theorem en39 : Enters Try.prog 39 := ⟨Try.f39, Try.func39, by kernel_rfl, by kernel_rfl⟩
theorem en38 : Enters Try.prog 38 := ⟨Try.f38, Try.func38, by kernel_rfl, by kernel_rfl⟩
theorem en40 : Enters Try.prog 40 := ⟨Try.f40, Try.func40, by kernel_rfl, by kernel_rfl⟩
theorem ti4 : TI Try.prog 4 1 1 (Value.bool false) := TI.mk (by kernel_rfl)
theorem lbig_w (N : Nat) (n : Int)  (w : World) (S : Nat → Prop)  (r : Big) (h : lbig N n = some r) :
  Calls Try.prog 24 #[(Value.int .i64 n)] w (Ret w (fun v w' => ∃ (v0_0 : Value), (Value.agg #[(Value.bool r.Negative), v0_0]) = v ∧ Rs (rInt .u32) (Hv w.heap.size None [] w') v0_0 r.Digits ∧ True)) := by
 unfold lbig at h
 have hL : Go.X.Loc [] [] w w [] [] := Go.X.Loc.begin0 w
 refine calls_of (l := [(Value.int .i64 n)]) (rl := [.cell 2 26]) (n := 5) Try.func24 rfl rfl rfl (Nat.le_of_ble_eq_true rfl) ?_
 refine Swp.seq ?_
 refine Swp.region rfl ?_
 refine Rl.op (OpY.alloc (cs := [(Value.bool false), (Value.slice none 0 0)]) ti26 rfl hL ?_)
 intro b1 w2 (hL3 : Go.X.Loc [] [] w w2 [some b1] [Cont.cells [(Value.bool false), (Value.slice none 0 0)]]) hS5
 refine Rl.nil ?_
 refine Swp.seq ?_
 refine Swp.region rfl ?_
 refine Rl.op (OpY.move (v := (Value.int .i64 n)) rfl ?_)
 obtain ⟨r6, q7, h⟩ := bind_some h
 refine Rl.op (OpY.call en37 rfl rfl (rOf_w N n _ Any r6 q7) ?_)
 rintro _ w11 hE14 ⟨v8, rfl, k9, -⟩
 replace k9 := k9.mono (Hv.freshO (S := None) hL3 [])
 have hL12 := hL3.ext hE14
 refine Rl.op0 (OpY.store (vs := [(Value.bool r6.Negative), v8]) ti26 rfl rfl rfl rfl (ones_cons rfl (ones_cons k9.one ones_nil)) hL12 0 rfl rfl (Nat.le_of_ble_eq_true rfl) ?_)
 intro w15 (hL16 : Go.X.Loc [] [] w w15 [some b1] [Cont.cells [(Value.bool r6.Negative), v8]]) hS18
 have K17 := Keep.step (s := w.heap.size) hS18
 refine Rl.nil ?_
 refine Swp.ret ?_
 obtain rfl := Option.some.inj h
 refine ⟨[(Value.agg #[(Value.bool r6.Negative), v8])], ⟨⟨⟨b1, 0, none⟩, rfl, res_boxA Try.underlying26 rfl ti26 (hL16.at 0 rfl rfl) rfl⟩, trivial⟩, ⟨_, rfl, hL16.done, ?_⟩⟩
 have f19 := (k9.mono (K17 None))
 exact ⟨v8, rfl, (f19.mono Hv.out), trivial⟩
theorem linequality_w (N : Nat) (coef : Int) (bound : Int)  (w : World) (S : Nat → Prop)  (r : Ineq) (h : linequality N coef bound = some r) :
  Calls Try.prog 41 #[(Value.int .i64 coef), (Value.int .i64 bound)] w (Ret w (fun v w' => ∃ (v0_0 : Value) (v0_1 : Value), (Value.agg #[v0_0, (Value.bool r.Bound.Negative), v0_1]) = v ∧ Rs rBig (Hv w.heap.size None [] w') v0_0 r.Coefs ∧ Rs (rInt .u32) (Hv w.heap.size None [] w') v0_1 r.Bound.Digits ∧ True)) := by
 unfold linequality at h
 have hL : Go.X.Loc [] [] w w [] [] := Go.X.Loc.begin0 w
 refine calls_of (l := [(Value.int .i64 coef), (Value.int .i64 bound)]) (rl := [.cell 4 34]) (n := 11) Try.func41 rfl rfl rfl (Nat.le_of_ble_eq_true rfl) ?_
 refine Swp.seq ?_
 refine Swp.region rfl ?_
 refine Rl.op (OpY.alloc (cs := [(Value.slice none 0 0), (Value.bool false), (Value.slice none 0 0)]) ti34 rfl hL ?_)
 intro b1 w2 (hL3 : Go.X.Loc [] [] w w2 [some b1] [Cont.cells [(Value.slice none 0 0), (Value.bool false), (Value.slice none 0 0)]]) hS5
 refine Rl.nil ?_
 refine Swp.seq ?_
 refine Swp.region rfl ?_
 refine Rl.op (OpY.move (v := (Value.int .i64 coef)) rfl ?_)
 obtain ⟨r6, q7, h⟩ := bind_some h
 refine Rl.op (OpY.call en24 rfl rfl (lbig_w N coef _ Any r6 q7) ?_)
 rintro _ w11 hE14 ⟨v8, rfl, k9, -⟩
 replace k9 := k9.mono (Hv.freshO (S := None) hL3 [])
 have hL12 := hL3.ext hE14
 have hE16 : Els rBig (Hv w.heap.size None [some b1] w11) [(Value.bool r6.Negative), v8] [r6] := (Els.cons (a := [(Value.bool r6.Negative), v8]) (rBig_close ⟨v8, rfl, k9, trivial⟩) Els.nil)
 refine Rl.op (OpY.litRow (r := rBig) (vs := [(Value.agg #[(Value.bool r6.Negative), v8])]) (css := [[(Value.bool r6.Negative), v8]]) (xs := [r6]) Try.underlying32 ti26 (Nat.le_of_ble_eq_true rfl) rfl rfl ⟨rfl, rfl, trivial⟩ (Nat.le_of_ble_eq_true rfl) hE16 rfl hL12 ?_)
 intro b15 w19 hc17 (hL20 : Go.X.Loc [] [] w w19 [some b15, some b1] [Cont.cells ([] ++ ([(Value.bool r6.Negative), v8] ++ [])), Cont.cells [(Value.slice none 0 0), (Value.bool false), (Value.slice none 0 0)]]) hS22
 have K21 := Keep.step (s := w.heap.size) hS22
 refine Rl.op (OpY.move (v := (Value.int .i64 bound)) rfl ?_)
 obtain ⟨r23, q24, h⟩ := bind_some h
 refine Rl.op (OpY.call en24 rfl rfl (lbig_w N bound _ Any r23 q24) ?_)
 rintro _ w28 hE31 ⟨v25, rfl, k26, -⟩
 replace k26 := k26.mono (Hv.freshO (S := None) hL20 [])
 have hL29 := hL20.ext hE31
 have K30 := Keep.ext (s := w.heap.size) (O := [some b15, some b1]) hE31
 refine Rl.op (OpY.build (zc := [(Value.slice none 0 0), (Value.bool false), (Value.slice none 0 0)]) (cs := [(osv (some b15) 0 1 1), (Value.bool r23.Negative), v25]) (is := [0, 1]) (vs := [(osv (some b15) 0 1 1), (Value.agg #[(Value.bool r23.Negative), v25])]) (css := [[(osv (some b15) 0 1 1)], [(Value.bool r23.Negative), v25]]) pl34 ti34 rfl rfl rfl ⟨(one_cells (osv_one _ _ _ _)), ⟨rfl, trivial⟩⟩ rfl ?_)
 refine Rl.op0 (OpY.store (vs := [(osv (some b15) 0 1 1), (Value.bool r23.Negative), v25]) ti34 rfl rfl rfl rfl (ones_cons (osv_one _ _ _ _) (ones_cons rfl (ones_cons k26.one ones_nil))) hL29 1 rfl rfl (Nat.le_of_ble_eq_true rfl) ?_)
 intro w32 (hL33 : Go.X.Loc [] [] w w32 [some b15, some b1] [Cont.cells ([] ++ ([(Value.bool r6.Negative), v8] ++ [])), Cont.cells [(osv (some b15) 0 1 1), (Value.bool r23.Negative), v25]]) hS35
 have K34 := Keep.step (s := w.heap.size) hS35
 refine Rl.nil ?_
 have f37 := (((hE16.mono (K21 None)).mono (K30 None)).mono (K34 None))
 have f36 := hL33.freezeRow 0 rfl rfl f37 rfl rfl rfl hc17
 have hp38 := hL33.pick [1] rfl rfl rfl
 have hL40 : Go.X.Loc [] [] w w32 [some b1] [Cont.cells [(osv (some b15) 0 1 1), (Value.bool r23.Negative), v25]] := hp38.1
 have K39 := Keep.step (s := w.heap.size) hp38.2
 refine Swp.ret ?_
 obtain rfl := Option.some.inj h
 refine ⟨[(Value.agg #[(osv (some b15) 0 1 1), (Value.bool r23.Negative), v25])], ⟨⟨⟨b1, 0, none⟩, rfl, res_boxA Try.underlying34 rfl ti34 (hL40.at 0 rfl rfl) rfl⟩, trivial⟩, ⟨_, rfl, hL40.done, ?_⟩⟩
 have f41 := ((k26.mono (K34 None)).mono (K39 None))
 exact ⟨(osv (some b15) 0 1 1), v25, rfl, (f36.mono Hv.out), (f41.mono Hv.out), trivial⟩
theorem luse_w (N : Nat) (i : Int) (n : Int)  (w : World) (S : Nat → Prop)  (r : Use) (h : luse N i n = some r) :
  Calls Try.prog 42 #[(Value.int .i64 i), (Value.int .i64 n)] w (Ret w (fun v w' => ∃ (v0_0 : Value), (Value.agg #[(Value.int .i64 r.Index), (Value.bool r.N.Negative), v0_0]) = v ∧ Rs (rInt .u32) (Hv w.heap.size None [] w') v0_0 r.N.Digits ∧ True)) := by
 unfold luse at h
 have hL : Go.X.Loc [] [] w w [] [] := Go.X.Loc.begin0 w
 refine calls_of (l := [(Value.int .i64 i), (Value.int .i64 n)]) (rl := [.cell 4 50]) (n := 9) Try.func42 rfl rfl rfl (Nat.le_of_ble_eq_true rfl) ?_
 refine Swp.seq ?_
 refine Swp.region rfl ?_
 refine Rl.op (OpY.alloc (cs := [(Value.int .i64 0), (Value.bool false), (Value.slice none 0 0)]) ti50 rfl hL ?_)
 intro b1 w2 (hL3 : Go.X.Loc [] [] w w2 [some b1] [Cont.cells [(Value.int .i64 0), (Value.bool false), (Value.slice none 0 0)]]) hS5
 refine Rl.nil ?_
 refine Swp.seq ?_
 refine Swp.region rfl ?_
 refine Rl.op (OpY.move (v := (Value.int .i64 i)) rfl ?_)
 refine Rl.op (OpY.move (v := (Value.int .i64 n)) rfl ?_)
 obtain ⟨r6, q7, h⟩ := bind_some h
 refine Rl.op (OpY.call en24 rfl rfl (lbig_w N n _ Any r6 q7) ?_)
 rintro _ w11 hE14 ⟨v8, rfl, k9, -⟩
 replace k9 := k9.mono (Hv.freshO (S := None) hL3 [])
 have hL12 := hL3.ext hE14
 refine Rl.op (OpY.build (zc := [(Value.int .i64 0), (Value.bool false), (Value.slice none 0 0)]) (cs := [(Value.int .i64 i), (Value.bool r6.Negative), v8]) (is := [0, 1]) (vs := [(Value.int .i64 i), (Value.agg #[(Value.bool r6.Negative), v8])]) (css := [[(Value.int .i64 i)], [(Value.bool r6.Negative), v8]]) pl50 ti50 rfl rfl rfl ⟨rfl, ⟨rfl, trivial⟩⟩ rfl ?_)
 refine Rl.op0 (OpY.store (vs := [(Value.int .i64 i), (Value.bool r6.Negative), v8]) ti50 rfl rfl rfl rfl (ones_cons rfl (ones_cons rfl (ones_cons k9.one ones_nil))) hL12 0 rfl rfl (Nat.le_of_ble_eq_true rfl) ?_)
 intro w15 (hL16 : Go.X.Loc [] [] w w15 [some b1] [Cont.cells [(Value.int .i64 i), (Value.bool r6.Negative), v8]]) hS18
 have K17 := Keep.step (s := w.heap.size) hS18
 refine Rl.nil ?_
 refine Swp.ret ?_
 obtain rfl := Option.some.inj h
 refine ⟨[(Value.agg #[(Value.int .i64 i), (Value.bool r6.Negative), v8])], ⟨⟨⟨b1, 0, none⟩, rfl, res_boxA Try.underlying50 rfl ti50 (hL16.at 0 rfl rfl) rfl⟩, trivial⟩, ⟨_, rfl, hL16.done, ?_⟩⟩
 have f19 := (k9.mono (K17 None))
 exact ⟨v8, rfl, (f19.mono Hv.out), trivial⟩
theorem awake_w (N : Nat)   (w : World) (S : Nat → Prop)  (r : Bool) (h : awake N  = some r) :
  Calls Try.prog 11 #[] w (Ret w (fun v w' => (Value.bool r) = v ∧ True)) := by
 unfold awake at h
 have hL : Go.X.Loc [] [] w w [] [] := Go.X.Loc.begin0 w
 refine calls_of (l := []) (rl := [.tmp 0]) (n := 84) Try.func11 rfl rfl rfl (Nat.le_of_ble_eq_true rfl) ?_
 refine Swp.seq ?_
 refine Swp.region rfl ?_
 refine Rl.op (OpY.assign (v := (Value.bool false)) rfl ?_)
 refine Rl.nil ?_
 refine Swp.seq ?_
 refine Swp.region rfl ?_
 obtain ⟨r1, q2, h⟩ := bind_some h
 refine Rl.op (OpY.call en41 rfl rfl (linequality_w N 1 2 _ Any r1 q2) ?_)
 rintro _ w8 hE11 ⟨v3, v5, rfl, k4, k6, -⟩
 replace k4 := k4.mono (Hv.freshO (S := None) hL [])
 replace k6 := k6.mono (Hv.freshO (S := None) hL [])
 have hL9 := hL.ext hE11
 obtain ⟨r12, q13, h⟩ := bind_some h
 refine Rl.op (OpY.call en41 rfl rfl (linequality_w N (-1) (-5) _ Any r12 q13) ?_)
 rintro _ w19 hE22 ⟨v14, v16, rfl, k15, k17, -⟩
 replace k15 := k15.mono (Hv.freshO (S := None) hL9 [])
 replace k17 := k17.mono (Hv.freshO (S := None) hL9 [])
 have hL20 := hL9.ext hE22
 have K21 := Keep.ext (s := w.heap.size) (O := []) hE22
 have f27 := (k4.mono (K21 None))
 have f28 := (k6.mono (K21 None))
 have hE24 : Els rIneq (Hv w.heap.size None [] w19) [v3, (Value.bool r1.Bound.Negative), v5, v14, (Value.bool r12.Bound.Negative), v16] [r1, r12] := (Els.cons (a := [v3, (Value.bool r1.Bound.Negative), v5]) (rIneq_close ⟨v3, v5, rfl, f27, f28, trivial⟩) (Els.cons (a := [v14, (Value.bool r12.Bound.Negative), v16]) (rIneq_close ⟨v14, v16, rfl, k15, k17, trivial⟩) Els.nil))
 refine Rl.op (OpY.litRow (r := rIneq) (vs := [(Value.agg #[v3, (Value.bool r1.Bound.Negative), v5]), (Value.agg #[v14, (Value.bool r12.Bound.Negative), v16])]) (css := [[v3, (Value.bool r1.Bound.Negative), v5], [v14, (Value.bool r12.Bound.Negative), v16]]) (xs := [r1, r12]) Try.underlying22 ti34 (Nat.le_of_ble_eq_true rfl) rfl rfl ⟨rfl, rfl, ⟨rfl, rfl, trivial⟩⟩ (Nat.le_of_ble_eq_true rfl) hE24 rfl hL20 ?_)
 intro b23 w29 hc25 (hL30 : Go.X.Loc [] [] w w29 [some b23] [Cont.cells ([] ++ ([v3, (Value.bool r1.Bound.Negative), v5, v14, (Value.bool r12.Bound.Negative), v16] ++ []))]) hS32
 have K31 := Keep.step (s := w.heap.size) hS32
 refine Rl.op (OpY.assign (v := (osv (some b23) 0 2 2)) rfl ?_)
 refine Rl.nil ?_
 refine Swp.seq ?_
 refine Swp.region rfl ?_
 obtain ⟨r33, q34, h⟩ := bind_some h
 refine Rl.op (OpY.call en41 rfl rfl (linequality_w N 2 5 _ Any r33 q34) ?_)
 rintro _ w40 hE43 ⟨v35, v37, rfl, k36, k38, -⟩
 replace k36 := k36.mono (Hv.freshO (S := None) hL30 [])
 replace k38 := k38.mono (Hv.freshO (S := None) hL30 [])
 have hL41 := hL30.ext hE43
 have K42 := Keep.ext (s := w.heap.size) (O := [some b23]) hE43
 obtain ⟨r44, q45, h⟩ := bind_some h
 refine Rl.op (OpY.call en41 rfl rfl (linequality_w N (-2) (-5) _ Any r44 q45) ?_)
 rintro _ w51 hE54 ⟨v46, v48, rfl, k47, k49, -⟩
 replace k47 := k47.mono (Hv.freshO (S := None) hL41 [])
 replace k49 := k49.mono (Hv.freshO (S := None) hL41 [])
 have hL52 := hL41.ext hE54
 have K53 := Keep.ext (s := w.heap.size) (O := [some b23]) hE54
 have f59 := (k36.mono (K53 None))
 have f60 := (k38.mono (K53 None))
 have hE56 : Els rIneq (Hv w.heap.size None [some b23] w51) [v35, (Value.bool r33.Bound.Negative), v37, v46, (Value.bool r44.Bound.Negative), v48] [r33, r44] := (Els.cons (a := [v35, (Value.bool r33.Bound.Negative), v37]) (rIneq_close ⟨v35, v37, rfl, f59, f60, trivial⟩) (Els.cons (a := [v46, (Value.bool r44.Bound.Negative), v48]) (rIneq_close ⟨v46, v48, rfl, k47, k49, trivial⟩) Els.nil))
 refine Rl.op (OpY.litRow (r := rIneq) (vs := [(Value.agg #[v35, (Value.bool r33.Bound.Negative), v37]), (Value.agg #[v46, (Value.bool r44.Bound.Negative), v48])]) (css := [[v35, (Value.bool r33.Bound.Negative), v37], [v46, (Value.bool r44.Bound.Negative), v48]]) (xs := [r33, r44]) Try.underlying22 ti34 (Nat.le_of_ble_eq_true rfl) rfl rfl ⟨rfl, rfl, ⟨rfl, rfl, trivial⟩⟩ (Nat.le_of_ble_eq_true rfl) hE56 rfl hL52 ?_)
 intro b55 w61 hc57 (hL62 : Go.X.Loc [] [] w w61 [some b55, some b23] [Cont.cells ([] ++ ([v35, (Value.bool r33.Bound.Negative), v37, v46, (Value.bool r44.Bound.Negative), v48] ++ [])), Cont.cells ([] ++ ([v3, (Value.bool r1.Bound.Negative), v5, v14, (Value.bool r12.Bound.Negative), v16] ++ []))]) hS64
 have K63 := Keep.step (s := w.heap.size) hS64
 refine Rl.op (OpY.assign (v := (osv (some b55) 0 2 2)) rfl ?_)
 refine Rl.nil ?_
 refine Swp.seq ?_
 refine Swp.region rfl ?_
 obtain ⟨r65, q66, h⟩ := bind_some h
 refine Rl.op (OpY.call en41 rfl rfl (linequality_w N 3 4 _ Any r65 q66) ?_)
 rintro _ w72 hE75 ⟨v67, v69, rfl, k68, k70, -⟩
 replace k68 := k68.mono (Hv.freshO (S := None) hL62 [])
 replace k70 := k70.mono (Hv.freshO (S := None) hL62 [])
 have hL73 := hL62.ext hE75
 have K74 := Keep.ext (s := w.heap.size) (O := [some b55, some b23]) hE75
 obtain ⟨r76, q77, h⟩ := bind_some h
 refine Rl.op (OpY.call en41 rfl rfl (linequality_w N (-3) (-4) _ Any r76 q77) ?_)
 rintro _ w83 hE86 ⟨v78, v80, rfl, k79, k81, -⟩
 replace k79 := k79.mono (Hv.freshO (S := None) hL73 [])
 replace k81 := k81.mono (Hv.freshO (S := None) hL73 [])
 have hL84 := hL73.ext hE86
 have K85 := Keep.ext (s := w.heap.size) (O := [some b55, some b23]) hE86
 have f91 := (k68.mono (K85 None))
 have f92 := (k70.mono (K85 None))
 have hE88 : Els rIneq (Hv w.heap.size None [some b55, some b23] w83) [v67, (Value.bool r65.Bound.Negative), v69, v78, (Value.bool r76.Bound.Negative), v80] [r65, r76] := (Els.cons (a := [v67, (Value.bool r65.Bound.Negative), v69]) (rIneq_close ⟨v67, v69, rfl, f91, f92, trivial⟩) (Els.cons (a := [v78, (Value.bool r76.Bound.Negative), v80]) (rIneq_close ⟨v78, v80, rfl, k79, k81, trivial⟩) Els.nil))
 refine Rl.op (OpY.litRow (r := rIneq) (vs := [(Value.agg #[v67, (Value.bool r65.Bound.Negative), v69]), (Value.agg #[v78, (Value.bool r76.Bound.Negative), v80])]) (css := [[v67, (Value.bool r65.Bound.Negative), v69], [v78, (Value.bool r76.Bound.Negative), v80]]) (xs := [r65, r76]) Try.underlying22 ti34 (Nat.le_of_ble_eq_true rfl) rfl rfl ⟨rfl, rfl, ⟨rfl, rfl, trivial⟩⟩ (Nat.le_of_ble_eq_true rfl) hE88 rfl hL84 ?_)
 intro b87 w93 hc89 (hL94 : Go.X.Loc [] [] w w93 [some b87, some b55, some b23] [Cont.cells ([] ++ ([v67, (Value.bool r65.Bound.Negative), v69, v78, (Value.bool r76.Bound.Negative), v80] ++ [])), Cont.cells ([] ++ ([v35, (Value.bool r33.Bound.Negative), v37, v46, (Value.bool r44.Bound.Negative), v48] ++ [])), Cont.cells ([] ++ ([v3, (Value.bool r1.Bound.Negative), v5, v14, (Value.bool r12.Bound.Negative), v16] ++ []))]) hS96
 have K95 := Keep.step (s := w.heap.size) hS96
 refine Rl.op (OpY.assign (v := (osv (some b87) 0 2 2)) rfl ?_)
 refine Rl.nil ?_
 refine Swp.seq ?_
 refine Swp.region rfl ?_
 obtain ⟨r97, q98, h⟩ := bind_some h
 refine Rl.op (OpY.call en42 rfl rfl (luse_w N 0 1 _ Any r97 q98) ?_)
 rintro _ w102 hE105 ⟨v99, rfl, k100, -⟩
 replace k100 := k100.mono (Hv.freshO (S := None) hL94 [])
 have hL103 := hL94.ext hE105
 have K104 := Keep.ext (s := w.heap.size) (O := [some b87, some b55, some b23]) hE105
 have hE107 : Els rUse (Hv w.heap.size None [some b87, some b55, some b23] w102) [(Value.int .i64 r97.Index), (Value.bool r97.N.Negative), v99] [r97] := (Els.cons (a := [(Value.int .i64 r97.Index), (Value.bool r97.N.Negative), v99]) (rUse_close ⟨v99, rfl, k100, trivial⟩) Els.nil)
 refine Rl.op (OpY.litRow (r := rUse) (vs := [(Value.agg #[(Value.int .i64 r97.Index), (Value.bool r97.N.Negative), v99])]) (css := [[(Value.int .i64 r97.Index), (Value.bool r97.N.Negative), v99]]) (xs := [r97]) Try.underlying23 ti50 (Nat.le_of_ble_eq_true rfl) rfl rfl ⟨rfl, rfl, trivial⟩ (Nat.le_of_ble_eq_true rfl) hE107 rfl hL103 ?_)
 intro b106 w110 hc108 (hL111 : Go.X.Loc [] [] w w110 [some b106, some b87, some b55, some b23] [Cont.cells ([] ++ ([(Value.int .i64 r97.Index), (Value.bool r97.N.Negative), v99] ++ [])), Cont.cells ([] ++ ([v67, (Value.bool r65.Bound.Negative), v69, v78, (Value.bool r76.Bound.Negative), v80] ++ [])), Cont.cells ([] ++ ([v35, (Value.bool r33.Bound.Negative), v37, v46, (Value.bool r44.Bound.Negative), v48] ++ [])), Cont.cells ([] ++ ([v3, (Value.bool r1.Bound.Negative), v5, v14, (Value.bool r12.Bound.Negative), v16] ++ []))]) hS113
 have K112 := Keep.step (s := w.heap.size) hS113
 obtain ⟨r114, q115, h⟩ := bind_some h
 refine Rl.op (OpY.call en24 rfl rfl (lbig_w N 2 _ Any r114 q115) ?_)
 rintro _ w119 hE122 ⟨v116, rfl, k117, -⟩
 replace k117 := k117.mono (Hv.freshO (S := None) hL111 [])
 have hL120 := hL111.ext hE122
 have K121 := Keep.ext (s := w.heap.size) (O := [some b106, some b87, some b55, some b23]) hE122
 refine Rl.op (OpY.build (zc := [(Value.slice none 0 0), (Value.bool false), (Value.slice none 0 0)]) (cs := [(osv (some b106) 0 1 1), (Value.bool r114.Negative), v116]) (is := [0, 1]) (vs := [(osv (some b106) 0 1 1), (Value.agg #[(Value.bool r114.Negative), v116])]) (css := [[(osv (some b106) 0 1 1)], [(Value.bool r114.Negative), v116]]) pl28 ti28 rfl rfl rfl ⟨(one_cells (osv_one _ _ _ _)), ⟨rfl, trivial⟩⟩ rfl ?_)
 obtain ⟨r123, q124, h⟩ := bind_some h
 refine Rl.op (OpY.call en42 rfl rfl (luse_w N 1 1 _ Any r123 q124) ?_)
 rintro _ w128 hE131 ⟨v125, rfl, k126, -⟩
 replace k126 := k126.mono (Hv.freshO (S := None) hL120 [])
 have hL129 := hL120.ext hE131
 have K130 := Keep.ext (s := w.heap.size) (O := [some b106, some b87, some b55, some b23]) hE131
 have hE133 : Els rUse (Hv w.heap.size None [some b106, some b87, some b55, some b23] w128) [(Value.int .i64 r123.Index), (Value.bool r123.N.Negative), v125] [r123] := (Els.cons (a := [(Value.int .i64 r123.Index), (Value.bool r123.N.Negative), v125]) (rUse_close ⟨v125, rfl, k126, trivial⟩) Els.nil)
 refine Rl.op (OpY.litRow (r := rUse) (vs := [(Value.agg #[(Value.int .i64 r123.Index), (Value.bool r123.N.Negative), v125])]) (css := [[(Value.int .i64 r123.Index), (Value.bool r123.N.Negative), v125]]) (xs := [r123]) Try.underlying23 ti50 (Nat.le_of_ble_eq_true rfl) rfl rfl ⟨rfl, rfl, trivial⟩ (Nat.le_of_ble_eq_true rfl) hE133 rfl hL129 ?_)
 intro b132 w136 hc134 (hL137 : Go.X.Loc [] [] w w136 [some b132, some b106, some b87, some b55, some b23] [Cont.cells ([] ++ ([(Value.int .i64 r123.Index), (Value.bool r123.N.Negative), v125] ++ [])), Cont.cells ([] ++ ([(Value.int .i64 r97.Index), (Value.bool r97.N.Negative), v99] ++ [])), Cont.cells ([] ++ ([v67, (Value.bool r65.Bound.Negative), v69, v78, (Value.bool r76.Bound.Negative), v80] ++ [])), Cont.cells ([] ++ ([v35, (Value.bool r33.Bound.Negative), v37, v46, (Value.bool r44.Bound.Negative), v48] ++ [])), Cont.cells ([] ++ ([v3, (Value.bool r1.Bound.Negative), v5, v14, (Value.bool r12.Bound.Negative), v16] ++ []))]) hS139
 have K138 := Keep.step (s := w.heap.size) hS139
 obtain ⟨r140, q141, h⟩ := bind_some h
 refine Rl.op (OpY.call en24 rfl rfl (lbig_w N 2 _ Any r140 q141) ?_)
 rintro _ w145 hE148 ⟨v142, rfl, k143, -⟩
 replace k143 := k143.mono (Hv.freshO (S := None) hL137 [])
 have hL146 := hL137.ext hE148
 have K147 := Keep.ext (s := w.heap.size) (O := [some b132, some b106, some b87, some b55, some b23]) hE148
 refine Rl.op (OpY.build (zc := [(Value.slice none 0 0), (Value.bool false), (Value.slice none 0 0)]) (cs := [(osv (some b132) 0 1 1), (Value.bool r140.Negative), v142]) (is := [0, 1]) (vs := [(osv (some b132) 0 1 1), (Value.agg #[(Value.bool r140.Negative), v142])]) (css := [[(osv (some b132) 0 1 1)], [(Value.bool r140.Negative), v142]]) pl28 ti28 rfl rfl rfl ⟨(one_cells (osv_one _ _ _ _)), ⟨rfl, trivial⟩⟩ rfl ?_)
 obtain ⟨r149, q150, h⟩ := bind_some h
 refine Rl.op (OpY.call en42 rfl rfl (luse_w N 2 1 _ Any r149 q150) ?_)
 rintro _ w154 hE157 ⟨v151, rfl, k152, -⟩
 replace k152 := k152.mono (Hv.freshO (S := None) hL146 [])
 have hL155 := hL146.ext hE157
 have K156 := Keep.ext (s := w.heap.size) (O := [some b132, some b106, some b87, some b55, some b23]) hE157
 obtain ⟨r158, q159, h⟩ := bind_some h
 refine Rl.op (OpY.call en42 rfl rfl (luse_w N 3 1 _ Any r158 q159) ?_)
 rintro _ w163 hE166 ⟨v160, rfl, k161, -⟩
 replace k161 := k161.mono (Hv.freshO (S := None) hL155 [])
 have hL164 := hL155.ext hE166
 have K165 := Keep.ext (s := w.heap.size) (O := [some b132, some b106, some b87, some b55, some b23]) hE166
 have f171 := (k152.mono (K165 None))
 have hE168 : Els rUse (Hv w.heap.size None [some b132, some b106, some b87, some b55, some b23] w163) [(Value.int .i64 r149.Index), (Value.bool r149.N.Negative), v151, (Value.int .i64 r158.Index), (Value.bool r158.N.Negative), v160] [r149, r158] := (Els.cons (a := [(Value.int .i64 r149.Index), (Value.bool r149.N.Negative), v151]) (rUse_close ⟨v151, rfl, f171, trivial⟩) (Els.cons (a := [(Value.int .i64 r158.Index), (Value.bool r158.N.Negative), v160]) (rUse_close ⟨v160, rfl, k161, trivial⟩) Els.nil))
 refine Rl.op (OpY.litRow (r := rUse) (vs := [(Value.agg #[(Value.int .i64 r149.Index), (Value.bool r149.N.Negative), v151]), (Value.agg #[(Value.int .i64 r158.Index), (Value.bool r158.N.Negative), v160])]) (css := [[(Value.int .i64 r149.Index), (Value.bool r149.N.Negative), v151], [(Value.int .i64 r158.Index), (Value.bool r158.N.Negative), v160]]) (xs := [r149, r158]) Try.underlying23 ti50 (Nat.le_of_ble_eq_true rfl) rfl rfl ⟨rfl, rfl, ⟨rfl, rfl, trivial⟩⟩ (Nat.le_of_ble_eq_true rfl) hE168 rfl hL164 ?_)
 intro b167 w172 hc169 (hL173 : Go.X.Loc [] [] w w172 [some b167, some b132, some b106, some b87, some b55, some b23] [Cont.cells ([] ++ ([(Value.int .i64 r149.Index), (Value.bool r149.N.Negative), v151, (Value.int .i64 r158.Index), (Value.bool r158.N.Negative), v160] ++ [])), Cont.cells ([] ++ ([(Value.int .i64 r123.Index), (Value.bool r123.N.Negative), v125] ++ [])), Cont.cells ([] ++ ([(Value.int .i64 r97.Index), (Value.bool r97.N.Negative), v99] ++ [])), Cont.cells ([] ++ ([v67, (Value.bool r65.Bound.Negative), v69, v78, (Value.bool r76.Bound.Negative), v80] ++ [])), Cont.cells ([] ++ ([v35, (Value.bool r33.Bound.Negative), v37, v46, (Value.bool r44.Bound.Negative), v48] ++ [])), Cont.cells ([] ++ ([v3, (Value.bool r1.Bound.Negative), v5, v14, (Value.bool r12.Bound.Negative), v16] ++ []))]) hS175
 have K174 := Keep.step (s := w.heap.size) hS175
 obtain ⟨r176, q177, h⟩ := bind_some h
 refine Rl.op (OpY.call en24 rfl rfl (lbig_w N 1 _ Any r176 q177) ?_)
 rintro _ w181 hE184 ⟨v178, rfl, k179, -⟩
 replace k179 := k179.mono (Hv.freshO (S := None) hL173 [])
 have hL182 := hL173.ext hE184
 have K183 := Keep.ext (s := w.heap.size) (O := [some b167, some b132, some b106, some b87, some b55, some b23]) hE184
 refine Rl.op (OpY.build (zc := [(Value.slice none 0 0), (Value.bool false), (Value.slice none 0 0)]) (cs := [(osv (some b167) 0 2 2), (Value.bool r176.Negative), v178]) (is := [0, 1]) (vs := [(osv (some b167) 0 2 2), (Value.agg #[(Value.bool r176.Negative), v178])]) (css := [[(osv (some b167) 0 2 2)], [(Value.bool r176.Negative), v178]]) pl28 ti28 rfl rfl rfl ⟨(one_cells (osv_one _ _ _ _)), ⟨rfl, trivial⟩⟩ rfl ?_)
 have f187 := (((((((((hE107.mono (K112 None)).mono (K121 None)).mono (K130 None)).mono (K138 None)).mono (K147 None)).mono (K156 None)).mono (K165 None)).mono (K174 None)).mono (K183 None))
 have f186 := hL182.freezeRow 2 rfl rfl f187 rfl rfl rfl hc108
 have hp188 := hL182.pick [0, 1, 3, 4, 5] rfl rfl rfl
 have hL190 : Go.X.Loc [] [] w w181 [some b167, some b132, some b87, some b55, some b23] [Cont.cells ([] ++ ([(Value.int .i64 r149.Index), (Value.bool r149.N.Negative), v151, (Value.int .i64 r158.Index), (Value.bool r158.N.Negative), v160] ++ [])), Cont.cells ([] ++ ([(Value.int .i64 r123.Index), (Value.bool r123.N.Negative), v125] ++ [])), Cont.cells ([] ++ ([v67, (Value.bool r65.Bound.Negative), v69, v78, (Value.bool r76.Bound.Negative), v80] ++ [])), Cont.cells ([] ++ ([v35, (Value.bool r33.Bound.Negative), v37, v46, (Value.bool r44.Bound.Negative), v48] ++ [])), Cont.cells ([] ++ ([v3, (Value.bool r1.Bound.Negative), v5, v14, (Value.bool r12.Bound.Negative), v16] ++ []))] := hp188.1
 have K189 := Keep.step (s := w.heap.size) hp188.2
 have f192 := (((((((hE133.mono (K138 None)).mono (K147 None)).mono (K156 None)).mono (K165 None)).mono (K174 None)).mono (K183 None)).mono (K189 None))
 have f191 := hL190.freezeRow 1 rfl rfl f192 rfl rfl rfl hc134
 have hp193 := hL190.pick [0, 2, 3, 4] rfl rfl rfl
 have hL195 : Go.X.Loc [] [] w w181 [some b167, some b87, some b55, some b23] [Cont.cells ([] ++ ([(Value.int .i64 r149.Index), (Value.bool r149.N.Negative), v151, (Value.int .i64 r158.Index), (Value.bool r158.N.Negative), v160] ++ [])), Cont.cells ([] ++ ([v67, (Value.bool r65.Bound.Negative), v69, v78, (Value.bool r76.Bound.Negative), v80] ++ [])), Cont.cells ([] ++ ([v35, (Value.bool r33.Bound.Negative), v37, v46, (Value.bool r44.Bound.Negative), v48] ++ [])), Cont.cells ([] ++ ([v3, (Value.bool r1.Bound.Negative), v5, v14, (Value.bool r12.Bound.Negative), v16] ++ []))] := hp193.1
 have K194 := Keep.step (s := w.heap.size) hp193.2
 have f197 := ((((hE168.mono (K174 None)).mono (K183 None)).mono (K189 None)).mono (K194 None))
 have f196 := hL195.freezeRow 0 rfl rfl f197 rfl rfl rfl hc169
 have hp198 := hL195.pick [1, 2, 3] rfl rfl rfl
 have hL200 : Go.X.Loc [] [] w w181 [some b87, some b55, some b23] [Cont.cells ([] ++ ([v67, (Value.bool r65.Bound.Negative), v69, v78, (Value.bool r76.Bound.Negative), v80] ++ [])), Cont.cells ([] ++ ([v35, (Value.bool r33.Bound.Negative), v37, v46, (Value.bool r44.Bound.Negative), v48] ++ [])), Cont.cells ([] ++ ([v3, (Value.bool r1.Bound.Negative), v5, v14, (Value.bool r12.Bound.Negative), v16] ++ []))] := hp198.1
 have K199 := Keep.step (s := w.heap.size) hp198.2
 have f204 := (((k179.mono (K189 None)).mono (K194 None)).mono (K199 None))
 have f205 := (f191.mono (K199 None))
 have f206 := (((((((k143.mono (K156 None)).mono (K165 None)).mono (K174 None)).mono (K183 None)).mono (K189 None)).mono (K194 None)).mono (K199 None))
 have f207 := ((f186.mono (K194 None)).mono (K199 None))
 have f208 := ((((((((((k117.mono (K130 None)).mono (K138 None)).mono (K147 None)).mono (K156 None)).mono (K165 None)).mono (K174 None)).mono (K183 None)).mono (K189 None)).mono (K194 None)).mono (K199 None))
 have hE201 : Els rStep (Hv w.heap.size None [some b87, some b55, some b23] w181) [(osv (some b106) 0 1 1), (Value.bool r114.Negative), v116, (osv (some b132) 0 1 1), (Value.bool r140.Negative), v142, (osv (some b167) 0 2 2), (Value.bool r176.Negative), v178] [(Step.mk [r97] r114), (Step.mk [r123] r140), (Step.mk [r149, r158] r176)] := (Els.cons (a := [(osv (some b106) 0 1 1), (Value.bool r114.Negative), v116]) (rStep_close ⟨(osv (some b106) 0 1 1), v116, rfl, f207, f208, trivial⟩) (Els.cons (a := [(osv (some b132) 0 1 1), (Value.bool r140.Negative), v142]) (rStep_close ⟨(osv (some b132) 0 1 1), v142, rfl, f205, f206, trivial⟩) (Els.cons (a := [(osv (some b167) 0 2 2), (Value.bool r176.Negative), v178]) (rStep_close ⟨(osv (some b167) 0 2 2), v178, rfl, f196, f204, trivial⟩) Els.nil)))
 refine Rl.op (OpY.litRow (r := rStep) (vs := [(Value.agg #[(osv (some b106) 0 1 1), (Value.bool r114.Negative), v116]), (Value.agg #[(osv (some b132) 0 1 1), (Value.bool r140.Negative), v142]), (Value.agg #[(osv (some b167) 0 2 2), (Value.bool r176.Negative), v178])]) (css := [[(osv (some b106) 0 1 1), (Value.bool r114.Negative), v116], [(osv (some b132) 0 1 1), (Value.bool r140.Negative), v142], [(osv (some b167) 0 2 2), (Value.bool r176.Negative), v178]]) (xs := [(Step.mk [r97] r114), (Step.mk [r123] r140), (Step.mk [r149, r158] r176)]) Try.underlying39 ti28 (Nat.le_of_ble_eq_true rfl) rfl rfl ⟨rfl, rfl, ⟨rfl, rfl, ⟨rfl, rfl, trivial⟩⟩⟩ (Nat.le_of_ble_eq_true rfl) hE201 rfl hL200 ?_)
 intro b185 w209 hc202 (hL210 : Go.X.Loc [] [] w w209 [some b185, some b87, some b55, some b23] [Cont.cells ([] ++ ([(osv (some b106) 0 1 1), (Value.bool r114.Negative), v116, (osv (some b132) 0 1 1), (Value.bool r140.Negative), v142, (osv (some b167) 0 2 2), (Value.bool r176.Negative), v178] ++ [])), Cont.cells ([] ++ ([v67, (Value.bool r65.Bound.Negative), v69, v78, (Value.bool r76.Bound.Negative), v80] ++ [])), Cont.cells ([] ++ ([v35, (Value.bool r33.Bound.Negative), v37, v46, (Value.bool r44.Bound.Negative), v48] ++ [])), Cont.cells ([] ++ ([v3, (Value.bool r1.Bound.Negative), v5, v14, (Value.bool r12.Bound.Negative), v16] ++ []))]) hS212
 have K211 := Keep.step (s := w.heap.size) hS212
 refine Rl.op (OpY.build (zc := [(Value.slice none 0 0), (Value.slice none 0 0), (Value.bool false), (Value.slice none 0 0), (Value.slice none 0 0)]) (cs := [(osv (some b185) 0 3 3), (Value.slice none 0 0), (Value.bool false), (Value.slice none 0 0), (Value.slice none 0 0)]) (is := [0]) (vs := [(osv (some b185) 0 3 3)]) (css := [[(osv (some b185) 0 3 3)]]) pl42 ti42 rfl rfl rfl ⟨(one_cells (osv_one _ _ _ _)), trivial⟩ rfl ?_)
 refine Rl.op (OpY.alloc (cs := [(Value.slice none 0 0), (Value.slice none 0 0), (Value.bool false), (Value.slice none 0 0), (Value.slice none 0 0)]) ti42 rfl hL210 ?_)
 intro b213 w214 (hL215 : Go.X.Loc [] [] w w214 [some b213, some b185, some b87, some b55, some b23] [Cont.cells [(Value.slice none 0 0), (Value.slice none 0 0), (Value.bool false), (Value.slice none 0 0), (Value.slice none 0 0)], Cont.cells ([] ++ ([(osv (some b106) 0 1 1), (Value.bool r114.Negative), v116, (osv (some b132) 0 1 1), (Value.bool r140.Negative), v142, (osv (some b167) 0 2 2), (Value.bool r176.Negative), v178] ++ [])), Cont.cells ([] ++ ([v67, (Value.bool r65.Bound.Negative), v69, v78, (Value.bool r76.Bound.Negative), v80] ++ [])), Cont.cells ([] ++ ([v35, (Value.bool r33.Bound.Negative), v37, v46, (Value.bool r44.Bound.Negative), v48] ++ [])), Cont.cells ([] ++ ([v3, (Value.bool r1.Bound.Negative), v5, v14, (Value.bool r12.Bound.Negative), v16] ++ []))]) hS217
 have K216 := Keep.step (s := w.heap.size) hS217
 refine Rl.op0 (OpY.store (vs := [(osv (some b185) 0 3 3), (Value.slice none 0 0), (Value.bool false), (Value.slice none 0 0), (Value.slice none 0 0)]) ti42 rfl rfl rfl rfl (ones_cons (osv_one _ _ _ _) (ones_cons rfl (ones_cons rfl (ones_cons rfl (ones_cons rfl ones_nil))))) hL215 0 rfl rfl (Nat.le_of_ble_eq_true rfl) ?_)
 intro w218 (hL219 : Go.X.Loc [] [] w w218 [some b213, some b185, some b87, some b55, some b23] [Cont.cells [(osv (some b185) 0 3 3), (Value.slice none 0 0), (Value.bool false), (Value.slice none 0 0), (Value.slice none 0 0)], Cont.cells ([] ++ ([(osv (some b106) 0 1 1), (Value.bool r114.Negative), v116, (osv (some b132) 0 1 1), (Value.bool r140.Negative), v142, (osv (some b167) 0 2 2), (Value.bool r176.Negative), v178] ++ [])), Cont.cells ([] ++ ([v67, (Value.bool r65.Bound.Negative), v69, v78, (Value.bool r76.Bound.Negative), v80] ++ [])), Cont.cells ([] ++ ([v35, (Value.bool r33.Bound.Negative), v37, v46, (Value.bool r44.Bound.Negative), v48] ++ [])), Cont.cells ([] ++ ([v3, (Value.bool r1.Bound.Negative), v5, v14, (Value.bool r12.Bound.Negative), v16] ++ []))]) hS221
 have K220 := Keep.step (s := w.heap.size) hS221
 refine Rl.nil ?_
 refine Swp.seq ?_
 refine Swp.region rfl ?_
 obtain ⟨r222, q223, h⟩ := bind_some h
 refine Rl.op (OpY.call en24 rfl rfl (lbig_w N 1 _ Any r222 q223) ?_)
 rintro _ w227 hE230 ⟨v224, rfl, k225, -⟩
 replace k225 := k225.mono (Hv.freshO (S := None) hL219 [])
 have hL228 := hL219.ext hE230
 have K229 := Keep.ext (s := w.heap.size) (O := [some b213, some b185, some b87, some b55, some b23]) hE230
 have hE232 : Els rBig (Hv w.heap.size None [some b213, some b185, some b87, some b55, some b23] w227) [(Value.bool r222.Negative), v224] [r222] := (Els.cons (a := [(Value.bool r222.Negative), v224]) (rBig_close ⟨v224, rfl, k225, trivial⟩) Els.nil)
 refine Rl.op (OpY.litRow (r := rBig) (vs := [(Value.agg #[(Value.bool r222.Negative), v224])]) (css := [[(Value.bool r222.Negative), v224]]) (xs := [r222]) Try.underlying32 ti26 (Nat.le_of_ble_eq_true rfl) rfl rfl ⟨rfl, rfl, trivial⟩ (Nat.le_of_ble_eq_true rfl) hE232 rfl hL228 ?_)
 intro b231 w235 hc233 (hL236 : Go.X.Loc [] [] w w235 [some b231, some b213, some b185, some b87, some b55, some b23] [Cont.cells ([] ++ ([(Value.bool r222.Negative), v224] ++ [])), Cont.cells [(osv (some b185) 0 3 3), (Value.slice none 0 0), (Value.bool false), (Value.slice none 0 0), (Value.slice none 0 0)], Cont.cells ([] ++ ([(osv (some b106) 0 1 1), (Value.bool r114.Negative), v116, (osv (some b132) 0 1 1), (Value.bool r140.Negative), v142, (osv (some b167) 0 2 2), (Value.bool r176.Negative), v178] ++ [])), Cont.cells ([] ++ ([v67, (Value.bool r65.Bound.Negative), v69, v78, (Value.bool r76.Bound.Negative), v80] ++ [])), Cont.cells ([] ++ ([v35, (Value.bool r33.Bound.Negative), v37, v46, (Value.bool r44.Bound.Negative), v48] ++ [])), Cont.cells ([] ++ ([v3, (Value.bool r1.Bound.Negative), v5, v14, (Value.bool r12.Bound.Negative), v16] ++ []))]) hS238
 have K237 := Keep.step (s := w.heap.size) hS238
 obtain ⟨r239, q240, h⟩ := bind_some h
 refine Rl.op (OpY.call en24 rfl rfl (lbig_w N 1 _ Any r239 q240) ?_)
 rintro _ w244 hE247 ⟨v241, rfl, k242, -⟩
 replace k242 := k242.mono (Hv.freshO (S := None) hL236 [])
 have hL245 := hL236.ext hE247
 have K246 := Keep.ext (s := w.heap.size) (O := [some b231, some b213, some b185, some b87, some b55, some b23]) hE247
 obtain ⟨r248, q249, h⟩ := bind_some h
 refine Rl.op (OpY.call en42 rfl rfl (luse_w N 2 3 _ Any r248 q249) ?_)
 rintro _ w253 hE256 ⟨v250, rfl, k251, -⟩
 replace k251 := k251.mono (Hv.freshO (S := None) hL245 [])
 have hL254 := hL245.ext hE256
 have K255 := Keep.ext (s := w.heap.size) (O := [some b231, some b213, some b185, some b87, some b55, some b23]) hE256
 obtain ⟨r257, q258, h⟩ := bind_some h
 refine Rl.op (OpY.call en42 rfl rfl (luse_w N 1 1 _ Any r257 q258) ?_)
 rintro _ w262 hE265 ⟨v259, rfl, k260, -⟩
 replace k260 := k260.mono (Hv.freshO (S := None) hL254 [])
 have hL263 := hL254.ext hE265
 have K264 := Keep.ext (s := w.heap.size) (O := [some b231, some b213, some b185, some b87, some b55, some b23]) hE265
 have f270 := (k251.mono (K264 None))
 have hE267 : Els rUse (Hv w.heap.size None [some b231, some b213, some b185, some b87, some b55, some b23] w262) [(Value.int .i64 r248.Index), (Value.bool r248.N.Negative), v250, (Value.int .i64 r257.Index), (Value.bool r257.N.Negative), v259] [r248, r257] := (Els.cons (a := [(Value.int .i64 r248.Index), (Value.bool r248.N.Negative), v250]) (rUse_close ⟨v250, rfl, f270, trivial⟩) (Els.cons (a := [(Value.int .i64 r257.Index), (Value.bool r257.N.Negative), v259]) (rUse_close ⟨v259, rfl, k260, trivial⟩) Els.nil))
 refine Rl.op (OpY.litRow (r := rUse) (vs := [(Value.agg #[(Value.int .i64 r248.Index), (Value.bool r248.N.Negative), v250]), (Value.agg #[(Value.int .i64 r257.Index), (Value.bool r257.N.Negative), v259])]) (css := [[(Value.int .i64 r248.Index), (Value.bool r248.N.Negative), v250], [(Value.int .i64 r257.Index), (Value.bool r257.N.Negative), v259]]) (xs := [r248, r257]) Try.underlying23 ti50 (Nat.le_of_ble_eq_true rfl) rfl rfl ⟨rfl, rfl, ⟨rfl, rfl, trivial⟩⟩ (Nat.le_of_ble_eq_true rfl) hE267 rfl hL263 ?_)
 intro b266 w271 hc268 (hL272 : Go.X.Loc [] [] w w271 [some b266, some b231, some b213, some b185, some b87, some b55, some b23] [Cont.cells ([] ++ ([(Value.int .i64 r248.Index), (Value.bool r248.N.Negative), v250, (Value.int .i64 r257.Index), (Value.bool r257.N.Negative), v259] ++ [])), Cont.cells ([] ++ ([(Value.bool r222.Negative), v224] ++ [])), Cont.cells [(osv (some b185) 0 3 3), (Value.slice none 0 0), (Value.bool false), (Value.slice none 0 0), (Value.slice none 0 0)], Cont.cells ([] ++ ([(osv (some b106) 0 1 1), (Value.bool r114.Negative), v116, (osv (some b132) 0 1 1), (Value.bool r140.Negative), v142, (osv (some b167) 0 2 2), (Value.bool r176.Negative), v178] ++ [])), Cont.cells ([] ++ ([v67, (Value.bool r65.Bound.Negative), v69, v78, (Value.bool r76.Bound.Negative), v80] ++ [])), Cont.cells ([] ++ ([v35, (Value.bool r33.Bound.Negative), v37, v46, (Value.bool r44.Bound.Negative), v48] ++ [])), Cont.cells ([] ++ ([v3, (Value.bool r1.Bound.Negative), v5, v14, (Value.bool r12.Bound.Negative), v16] ++ []))]) hS274
 have K273 := Keep.step (s := w.heap.size) hS274
 obtain ⟨r275, q276, h⟩ := bind_some h
 have f286 := (hE267.mono (K273 None))
 refine Rl.op (OpY.call en20 rfl rfl (cSum_w N [r248, r257] (osv (some b266) 0 2 2) _ Any (own_row_any (pre := []) (o := 0) (n := 2) (cap := 2) (hL272.at 0 rfl rfl) f286 vw_any rfl rfl rfl hc268) r275 q276) ?_)
 rintro _ w287 hE290 ⟨v277, v279, v281, v283, rfl, k278, k280, k282, k284, -⟩
 replace k278 := k278.mono (Hv.freshO (S := None) hL272 [])
 replace k280 := k280.mono (Hv.freshO (S := None) hL272 [])
 replace k282 := k282.mono (Hv.freshO (S := None) hL272 [])
 replace k284 := k284.mono (Hv.freshO (S := None) hL272 [])
 have hL288 := hL272.ext hE290
 have K289 := Keep.ext (s := w.heap.size) (O := [some b266, some b231, some b213, some b185, some b87, some b55, some b23]) hE290
 obtain ⟨r291, q292, h⟩ := bind_some h
 refine Rl.op (OpY.call en42 rfl rfl (luse_w N 2 3 _ Any r291 q292) ?_)
 rintro _ w296 hE299 ⟨v293, rfl, k294, -⟩
 replace k294 := k294.mono (Hv.freshO (S := None) hL288 [])
 have hL297 := hL288.ext hE299
 have K298 := Keep.ext (s := w.heap.size) (O := [some b266, some b231, some b213, some b185, some b87, some b55, some b23]) hE299
 obtain ⟨r300, q301, h⟩ := bind_some h
 refine Rl.op (OpY.call en42 rfl rfl (luse_w N 0 1 _ Any r300 q301) ?_)
 rintro _ w305 hE308 ⟨v302, rfl, k303, -⟩
 replace k303 := k303.mono (Hv.freshO (S := None) hL297 [])
 have hL306 := hL297.ext hE308
 have K307 := Keep.ext (s := w.heap.size) (O := [some b266, some b231, some b213, some b185, some b87, some b55, some b23]) hE308
 have f313 := (k294.mono (K307 None))
 have hE310 : Els rUse (Hv w.heap.size None [some b266, some b231, some b213, some b185, some b87, some b55, some b23] w305) [(Value.int .i64 r291.Index), (Value.bool r291.N.Negative), v293, (Value.int .i64 r300.Index), (Value.bool r300.N.Negative), v302] [r291, r300] := (Els.cons (a := [(Value.int .i64 r291.Index), (Value.bool r291.N.Negative), v293]) (rUse_close ⟨v293, rfl, f313, trivial⟩) (Els.cons (a := [(Value.int .i64 r300.Index), (Value.bool r300.N.Negative), v302]) (rUse_close ⟨v302, rfl, k303, trivial⟩) Els.nil))
 refine Rl.op (OpY.litRow (r := rUse) (vs := [(Value.agg #[(Value.int .i64 r291.Index), (Value.bool r291.N.Negative), v293]), (Value.agg #[(Value.int .i64 r300.Index), (Value.bool r300.N.Negative), v302])]) (css := [[(Value.int .i64 r291.Index), (Value.bool r291.N.Negative), v293], [(Value.int .i64 r300.Index), (Value.bool r300.N.Negative), v302]]) (xs := [r291, r300]) Try.underlying23 ti50 (Nat.le_of_ble_eq_true rfl) rfl rfl ⟨rfl, rfl, ⟨rfl, rfl, trivial⟩⟩ (Nat.le_of_ble_eq_true rfl) hE310 rfl hL306 ?_)
 intro b309 w314 hc311 (hL315 : Go.X.Loc [] [] w w314 [some b309, some b266, some b231, some b213, some b185, some b87, some b55, some b23] [Cont.cells ([] ++ ([(Value.int .i64 r291.Index), (Value.bool r291.N.Negative), v293, (Value.int .i64 r300.Index), (Value.bool r300.N.Negative), v302] ++ [])), Cont.cells ([] ++ ([(Value.int .i64 r248.Index), (Value.bool r248.N.Negative), v250, (Value.int .i64 r257.Index), (Value.bool r257.N.Negative), v259] ++ [])), Cont.cells ([] ++ ([(Value.bool r222.Negative), v224] ++ [])), Cont.cells [(osv (some b185) 0 3 3), (Value.slice none 0 0), (Value.bool false), (Value.slice none 0 0), (Value.slice none 0 0)], Cont.cells ([] ++ ([(osv (some b106) 0 1 1), (Value.bool r114.Negative), v116, (osv (some b132) 0 1 1), (Value.bool r140.Negative), v142, (osv (some b167) 0 2 2), (Value.bool r176.Negative), v178] ++ [])), Cont.cells ([] ++ ([v67, (Value.bool r65.Bound.Negative), v69, v78, (Value.bool r76.Bound.Negative), v80] ++ [])), Cont.cells ([] ++ ([v35, (Value.bool r33.Bound.Negative), v37, v46, (Value.bool r44.Bound.Negative), v48] ++ [])), Cont.cells ([] ++ ([v3, (Value.bool r1.Bound.Negative), v5, v14, (Value.bool r12.Bound.Negative), v16] ++ []))]) hS317
 have K316 := Keep.step (s := w.heap.size) hS317
 obtain ⟨r318, q319, h⟩ := bind_some h
 have f329 := (hE310.mono (K316 None))
 refine Rl.op (OpY.call en20 rfl rfl (cSum_w N [r291, r300] (osv (some b309) 0 2 2) _ Any (own_row_any (pre := []) (o := 0) (n := 2) (cap := 2) (hL315.at 0 rfl rfl) f329 vw_any rfl rfl rfl hc311) r318 q319) ?_)
 rintro _ w330 hE333 ⟨v320, v322, v324, v326, rfl, k321, k323, k325, k327, -⟩
 replace k321 := k321.mono (Hv.freshO (S := None) hL315 [])
 replace k323 := k323.mono (Hv.freshO (S := None) hL315 [])
 replace k325 := k325.mono (Hv.freshO (S := None) hL315 [])
 replace k327 := k327.mono (Hv.freshO (S := None) hL315 [])
 have hL331 := hL315.ext hE333
 have K332 := Keep.ext (s := w.heap.size) (O := [some b309, some b266, some b231, some b213, some b185, some b87, some b55, some b23]) hE333
 have f338 := ((((k278.mono (K298 None)).mono (K307 None)).mono (K316 None)).mono (K332 None))
 have f339 := ((((k280.mono (K298 None)).mono (K307 None)).mono (K316 None)).mono (K332 None))
 have f340 := ((((k282.mono (K298 None)).mono (K307 None)).mono (K316 None)).mono (K332 None))
 have f341 := ((((k284.mono (K298 None)).mono (K307 None)).mono (K316 None)).mono (K332 None))
 have hE335 : Els rProof (Hv w.heap.size None [some b309, some b266, some b231, some b213, some b185, some b87, some b55, some b23] w330) [v277, v279, (Value.bool r275.Bound.Negative), v281, v283, v320, v322, (Value.bool r318.Bound.Negative), v324, v326] [r275, r318] := (Els.cons (a := [v277, v279, (Value.bool r275.Bound.Negative), v281, v283]) (rProof_close ⟨v277, v279, v281, v283, rfl, f338, f339, f340, f341, trivial⟩) (Els.cons (a := [v320, v322, (Value.bool r318.Bound.Negative), v324, v326]) (rProof_close ⟨v320, v322, v324, v326, rfl, k321, k323, k325, k327, trivial⟩) Els.nil))
 refine Rl.op (OpY.litRow (r := rProof) (vs := [(Value.agg #[v277, v279, (Value.bool r275.Bound.Negative), v281, v283]), (Value.agg #[v320, v322, (Value.bool r318.Bound.Negative), v324, v326])]) (css := [[v277, v279, (Value.bool r275.Bound.Negative), v281, v283], [v320, v322, (Value.bool r318.Bound.Negative), v324, v326]]) (xs := [r275, r318]) Try.underlying40 ti42 (Nat.le_of_ble_eq_true rfl) rfl rfl ⟨rfl, rfl, ⟨rfl, rfl, trivial⟩⟩ (Nat.le_of_ble_eq_true rfl) hE335 rfl hL331 ?_)
 intro b334 w342 hc336 (hL343 : Go.X.Loc [] [] w w342 [some b334, some b309, some b266, some b231, some b213, some b185, some b87, some b55, some b23] [Cont.cells ([] ++ ([v277, v279, (Value.bool r275.Bound.Negative), v281, v283, v320, v322, (Value.bool r318.Bound.Negative), v324, v326] ++ [])), Cont.cells ([] ++ ([(Value.int .i64 r291.Index), (Value.bool r291.N.Negative), v293, (Value.int .i64 r300.Index), (Value.bool r300.N.Negative), v302] ++ [])), Cont.cells ([] ++ ([(Value.int .i64 r248.Index), (Value.bool r248.N.Negative), v250, (Value.int .i64 r257.Index), (Value.bool r257.N.Negative), v259] ++ [])), Cont.cells ([] ++ ([(Value.bool r222.Negative), v224] ++ [])), Cont.cells [(osv (some b185) 0 3 3), (Value.slice none 0 0), (Value.bool false), (Value.slice none 0 0), (Value.slice none 0 0)], Cont.cells ([] ++ ([(osv (some b106) 0 1 1), (Value.bool r114.Negative), v116, (osv (some b132) 0 1 1), (Value.bool r140.Negative), v142, (osv (some b167) 0 2 2), (Value.bool r176.Negative), v178] ++ [])), Cont.cells ([] ++ ([v67, (Value.bool r65.Bound.Negative), v69, v78, (Value.bool r76.Bound.Negative), v80] ++ [])), Cont.cells ([] ++ ([v35, (Value.bool r33.Bound.Negative), v37, v46, (Value.bool r44.Bound.Negative), v48] ++ [])), Cont.cells ([] ++ ([v3, (Value.bool r1.Bound.Negative), v5, v14, (Value.bool r12.Bound.Negative), v16] ++ []))]) hS345
 have K344 := Keep.step (s := w.heap.size) hS345
 refine Rl.op (OpY.build (zc := [(Value.slice none 0 0), (Value.slice none 0 0), (Value.bool false), (Value.slice none 0 0), (Value.slice none 0 0)]) (cs := [(Value.slice none 0 0), (osv (some b231) 0 1 1), (Value.bool r239.Negative), v241, (osv (some b334) 0 2 2)]) (is := [1, 2, 3]) (vs := [(osv (some b231) 0 1 1), (Value.agg #[(Value.bool r239.Negative), v241]), (osv (some b334) 0 2 2)]) (css := [[(osv (some b231) 0 1 1)], [(Value.bool r239.Negative), v241], [(osv (some b334) 0 2 2)]]) pl42 ti42 rfl rfl rfl ⟨(one_cells (osv_one _ _ _ _)), ⟨rfl, ⟨(one_cells (osv_one _ _ _ _)), trivial⟩⟩⟩ rfl ?_)
 refine Rl.op (OpY.alloc (cs := [(Value.slice none 0 0), (Value.slice none 0 0), (Value.bool false), (Value.slice none 0 0), (Value.slice none 0 0)]) ti42 rfl hL343 ?_)
 intro b346 w347 (hL348 : Go.X.Loc [] [] w w347 [some b346, some b334, some b309, some b266, some b231, some b213, some b185, some b87, some b55, some b23] [Cont.cells [(Value.slice none 0 0), (Value.slice none 0 0), (Value.bool false), (Value.slice none 0 0), (Value.slice none 0 0)], Cont.cells ([] ++ ([v277, v279, (Value.bool r275.Bound.Negative), v281, v283, v320, v322, (Value.bool r318.Bound.Negative), v324, v326] ++ [])), Cont.cells ([] ++ ([(Value.int .i64 r291.Index), (Value.bool r291.N.Negative), v293, (Value.int .i64 r300.Index), (Value.bool r300.N.Negative), v302] ++ [])), Cont.cells ([] ++ ([(Value.int .i64 r248.Index), (Value.bool r248.N.Negative), v250, (Value.int .i64 r257.Index), (Value.bool r257.N.Negative), v259] ++ [])), Cont.cells ([] ++ ([(Value.bool r222.Negative), v224] ++ [])), Cont.cells [(osv (some b185) 0 3 3), (Value.slice none 0 0), (Value.bool false), (Value.slice none 0 0), (Value.slice none 0 0)], Cont.cells ([] ++ ([(osv (some b106) 0 1 1), (Value.bool r114.Negative), v116, (osv (some b132) 0 1 1), (Value.bool r140.Negative), v142, (osv (some b167) 0 2 2), (Value.bool r176.Negative), v178] ++ [])), Cont.cells ([] ++ ([v67, (Value.bool r65.Bound.Negative), v69, v78, (Value.bool r76.Bound.Negative), v80] ++ [])), Cont.cells ([] ++ ([v35, (Value.bool r33.Bound.Negative), v37, v46, (Value.bool r44.Bound.Negative), v48] ++ [])), Cont.cells ([] ++ ([v3, (Value.bool r1.Bound.Negative), v5, v14, (Value.bool r12.Bound.Negative), v16] ++ []))]) hS350
 have K349 := Keep.step (s := w.heap.size) hS350
 have f351 := ((((((((((k242.mono (K255 None)).mono (K264 None)).mono (K273 None)).mono (K289 None)).mono (K298 None)).mono (K307 None)).mono (K316 None)).mono (K332 None)).mono (K344 None)).mono (K349 None))
 refine Rl.op0 (OpY.store (vs := [(Value.slice none 0 0), (osv (some b231) 0 1 1), (Value.bool r239.Negative), v241, (osv (some b334) 0 2 2)]) ti42 rfl rfl rfl rfl (ones_cons rfl (ones_cons (osv_one _ _ _ _) (ones_cons rfl (ones_cons f351.one (ones_cons (osv_one _ _ _ _) ones_nil))))) hL348 0 rfl rfl (Nat.le_of_ble_eq_true rfl) ?_)
 intro w352 (hL353 : Go.X.Loc [] [] w w352 [some b346, some b334, some b309, some b266, some b231, some b213, some b185, some b87, some b55, some b23] [Cont.cells [(Value.slice none 0 0), (osv (some b231) 0 1 1), (Value.bool r239.Negative), v241, (osv (some b334) 0 2 2)], Cont.cells ([] ++ ([v277, v279, (Value.bool r275.Bound.Negative), v281, v283, v320, v322, (Value.bool r318.Bound.Negative), v324, v326] ++ [])), Cont.cells ([] ++ ([(Value.int .i64 r291.Index), (Value.bool r291.N.Negative), v293, (Value.int .i64 r300.Index), (Value.bool r300.N.Negative), v302] ++ [])), Cont.cells ([] ++ ([(Value.int .i64 r248.Index), (Value.bool r248.N.Negative), v250, (Value.int .i64 r257.Index), (Value.bool r257.N.Negative), v259] ++ [])), Cont.cells ([] ++ ([(Value.bool r222.Negative), v224] ++ [])), Cont.cells [(osv (some b185) 0 3 3), (Value.slice none 0 0), (Value.bool false), (Value.slice none 0 0), (Value.slice none 0 0)], Cont.cells ([] ++ ([(osv (some b106) 0 1 1), (Value.bool r114.Negative), v116, (osv (some b132) 0 1 1), (Value.bool r140.Negative), v142, (osv (some b167) 0 2 2), (Value.bool r176.Negative), v178] ++ [])), Cont.cells ([] ++ ([v67, (Value.bool r65.Bound.Negative), v69, v78, (Value.bool r76.Bound.Negative), v80] ++ [])), Cont.cells ([] ++ ([v35, (Value.bool r33.Bound.Negative), v37, v46, (Value.bool r44.Bound.Negative), v48] ++ [])), Cont.cells ([] ++ ([v3, (Value.bool r1.Bound.Negative), v5, v14, (Value.bool r12.Bound.Negative), v16] ++ []))]) hS355
 have K354 := Keep.step (s := w.heap.size) hS355
 refine Rl.nil ?_
 refine Swp.seq ?_
 refine Swp.region rfl ?_
 refine Rl.op (OpY.move (v := (osv (some b23) 0 2 2)) rfl ?_)
 obtain ⟨r356, q357, h⟩ := bind_some h
 refine Rl.op (OpY.call en42 rfl rfl (luse_w N 0 1 _ Any r356 q357) ?_)
 rintro _ w361 hE364 ⟨v358, rfl, k359, -⟩
 replace k359 := k359.mono (Hv.freshO (S := None) hL353 [])
 have hL362 := hL353.ext hE364
 have K363 := Keep.ext (s := w.heap.size) (O := [some b346, some b334, some b309, some b266, some b231, some b213, some b185, some b87, some b55, some b23]) hE364
 obtain ⟨r365, q366, h⟩ := bind_some h
 refine Rl.op (OpY.call en42 rfl rfl (luse_w N 1 1 _ Any r365 q366) ?_)
 rintro _ w370 hE373 ⟨v367, rfl, k368, -⟩
 replace k368 := k368.mono (Hv.freshO (S := None) hL362 [])
 have hL371 := hL362.ext hE373
 have K372 := Keep.ext (s := w.heap.size) (O := [some b346, some b334, some b309, some b266, some b231, some b213, some b185, some b87, some b55, some b23]) hE373
 have f378 := (k359.mono (K372 None))
 have hE375 : Els rUse (Hv w.heap.size None [some b346, some b334, some b309, some b266, some b231, some b213, some b185, some b87, some b55, some b23] w370) [(Value.int .i64 r356.Index), (Value.bool r356.N.Negative), v358, (Value.int .i64 r365.Index), (Value.bool r365.N.Negative), v367] [r356, r365] := (Els.cons (a := [(Value.int .i64 r356.Index), (Value.bool r356.N.Negative), v358]) (rUse_close ⟨v358, rfl, f378, trivial⟩) (Els.cons (a := [(Value.int .i64 r365.Index), (Value.bool r365.N.Negative), v367]) (rUse_close ⟨v367, rfl, k368, trivial⟩) Els.nil))
 refine Rl.op (OpY.litRow (r := rUse) (vs := [(Value.agg #[(Value.int .i64 r356.Index), (Value.bool r356.N.Negative), v358]), (Value.agg #[(Value.int .i64 r365.Index), (Value.bool r365.N.Negative), v367])]) (css := [[(Value.int .i64 r356.Index), (Value.bool r356.N.Negative), v358], [(Value.int .i64 r365.Index), (Value.bool r365.N.Negative), v367]]) (xs := [r356, r365]) Try.underlying23 ti50 (Nat.le_of_ble_eq_true rfl) rfl rfl ⟨rfl, rfl, ⟨rfl, rfl, trivial⟩⟩ (Nat.le_of_ble_eq_true rfl) hE375 rfl hL371 ?_)
 intro b374 w379 hc376 (hL380 : Go.X.Loc [] [] w w379 [some b374, some b346, some b334, some b309, some b266, some b231, some b213, some b185, some b87, some b55, some b23] [Cont.cells ([] ++ ([(Value.int .i64 r356.Index), (Value.bool r356.N.Negative), v358, (Value.int .i64 r365.Index), (Value.bool r365.N.Negative), v367] ++ [])), Cont.cells [(Value.slice none 0 0), (osv (some b231) 0 1 1), (Value.bool r239.Negative), v241, (osv (some b334) 0 2 2)], Cont.cells ([] ++ ([v277, v279, (Value.bool r275.Bound.Negative), v281, v283, v320, v322, (Value.bool r318.Bound.Negative), v324, v326] ++ [])), Cont.cells ([] ++ ([(Value.int .i64 r291.Index), (Value.bool r291.N.Negative), v293, (Value.int .i64 r300.Index), (Value.bool r300.N.Negative), v302] ++ [])), Cont.cells ([] ++ ([(Value.int .i64 r248.Index), (Value.bool r248.N.Negative), v250, (Value.int .i64 r257.Index), (Value.bool r257.N.Negative), v259] ++ [])), Cont.cells ([] ++ ([(Value.bool r222.Negative), v224] ++ [])), Cont.cells [(osv (some b185) 0 3 3), (Value.slice none 0 0), (Value.bool false), (Value.slice none 0 0), (Value.slice none 0 0)], Cont.cells ([] ++ ([(osv (some b106) 0 1 1), (Value.bool r114.Negative), v116, (osv (some b132) 0 1 1), (Value.bool r140.Negative), v142, (osv (some b167) 0 2 2), (Value.bool r176.Negative), v178] ++ [])), Cont.cells ([] ++ ([v67, (Value.bool r65.Bound.Negative), v69, v78, (Value.bool r76.Bound.Negative), v80] ++ [])), Cont.cells ([] ++ ([v35, (Value.bool r33.Bound.Negative), v37, v46, (Value.bool r44.Bound.Negative), v48] ++ [])), Cont.cells ([] ++ ([v3, (Value.bool r1.Bound.Negative), v5, v14, (Value.bool r12.Bound.Negative), v16] ++ []))]) hS382
 have K381 := Keep.step (s := w.heap.size) hS382
 obtain ⟨r383, q384, h⟩ := bind_some h
 have f394 := (hE375.mono (K381 None))
 refine Rl.op (OpY.call en20 rfl rfl (cSum_w N [r356, r365] (osv (some b374) 0 2 2) _ Any (own_row_any (pre := []) (o := 0) (n := 2) (cap := 2) (hL380.at 0 rfl rfl) f394 vw_any rfl rfl rfl hc376) r383 q384) ?_)
 rintro _ w395 hE398 ⟨v385, v387, v389, v391, rfl, k386, k388, k390, k392, -⟩
 replace k386 := k386.mono (Hv.freshO (S := None) hL380 [])
 replace k388 := k388.mono (Hv.freshO (S := None) hL380 [])
 replace k390 := k390.mono (Hv.freshO (S := None) hL380 [])
 replace k392 := k392.mono (Hv.freshO (S := None) hL380 [])
 have hL396 := hL380.ext hE398
 have K397 := Keep.ext (s := w.heap.size) (O := [some b374, some b346, some b334, some b309, some b266, some b231, some b213, some b185, some b87, some b55, some b23]) hE398
 obtain ⟨r399, q400, h⟩ := bind_some h
 have f402 := (((((((((((((((((((((((((((((((((((((((((hE24.mono (K31 None)).mono (K42 None)).mono (K53 None)).mono (K63 None)).mono (K74 None)).mono (K85 None)).mono (K95 None)).mono (K104 None)).mono (K112 None)).mono (K121 None)).mono (K130 None)).mono (K138 None)).mono (K147 None)).mono (K156 None)).mono (K165 None)).mono (K174 None)).mono (K183 None)).mono (K189 None)).mono (K194 None)).mono (K199 None)).mono (K211 None)).mono (K216 None)).mono (K220 None)).mono (K229 None)).mono (K237 None)).mono (K246 None)).mono (K255 None)).mono (K264 None)).mono (K273 None)).mono (K289 None)).mono (K298 None)).mono (K307 None)).mono (K316 None)).mono (K332 None)).mono (K344 None)).mono (K349 None)).mono (K354 None)).mono (K363 None)).mono (K372 None)).mono (K381 None)).mono (K397 None))
 refine Rl.op (OpY.call en18 rfl rfl (cCheck_w N [r1, r12] r383 (osv (some b23) 0 2 2) v385 v387 v389 v391 _ Any (own_row_any (pre := []) (o := 0) (n := 2) (cap := 2) (hL396.at 10 rfl rfl) f402 vw_any rfl rfl rfl hc25) (k386.mono vw_any) (k388.mono vw_any) (k390.mono vw_any) (k392.mono vw_any) r399 q400) ?_)
 rintro _ w403 hE406 ⟨rfl, -⟩
 have hL404 := hL396.ext hE406
 have K405 := Keep.ext (s := w.heap.size) (O := [some b374, some b346, some b334, some b309, some b266, some b231, some b213, some b185, some b87, some b55, some b23]) hE406
 refine Rl.op (OpY.move (v := (Value.bool r399)) rfl ?_)
 by_cases hc407 : r399 = true
 ·
  replace h := ite_t hc407 h
  refine Rl.yes (dj := 49) (b' := r399) rfl rfl hc407 (OpY.move (v := (osv (some b55) 0 2 2)) rfl ?_)
  obtain ⟨r408, q409, h⟩ := bind_some h
  refine Rl.yes (dj := 49) (b' := r399) rfl rfl hc407 (OpY.call en42 rfl rfl (luse_w N 0 1 _ Any r408 q409) ?_)
  rintro _ w413 hE416 ⟨v410, rfl, k411, -⟩
  replace k411 := k411.mono (Hv.freshO (S := None) hL404 [])
  have hL414 := hL404.ext hE416
  have K415 := Keep.ext (s := w.heap.size) (O := [some b374, some b346, some b334, some b309, some b266, some b231, some b213, some b185, some b87, some b55, some b23]) hE416
  obtain ⟨r417, q418, h⟩ := bind_some h
  refine Rl.yes (dj := 49) (b' := r399) rfl rfl hc407 (OpY.call en42 rfl rfl (luse_w N 1 1 _ Any r417 q418) ?_)
  rintro _ w422 hE425 ⟨v419, rfl, k420, -⟩
  replace k420 := k420.mono (Hv.freshO (S := None) hL414 [])
  have hL423 := hL414.ext hE425
  have K424 := Keep.ext (s := w.heap.size) (O := [some b374, some b346, some b334, some b309, some b266, some b231, some b213, some b185, some b87, some b55, some b23]) hE425
  have f430 := (k411.mono (K424 None))
  have hE427 : Els rUse (Hv w.heap.size None [some b374, some b346, some b334, some b309, some b266, some b231, some b213, some b185, some b87, some b55, some b23] w422) [(Value.int .i64 r408.Index), (Value.bool r408.N.Negative), v410, (Value.int .i64 r417.Index), (Value.bool r417.N.Negative), v419] [r408, r417] := (Els.cons (a := [(Value.int .i64 r408.Index), (Value.bool r408.N.Negative), v410]) (rUse_close ⟨v410, rfl, f430, trivial⟩) (Els.cons (a := [(Value.int .i64 r417.Index), (Value.bool r417.N.Negative), v419]) (rUse_close ⟨v419, rfl, k420, trivial⟩) Els.nil))
  refine Rl.yes (dj := 49) (b' := r399) rfl rfl hc407 (OpY.litRow (r := rUse) (vs := [(Value.agg #[(Value.int .i64 r408.Index), (Value.bool r408.N.Negative), v410]), (Value.agg #[(Value.int .i64 r417.Index), (Value.bool r417.N.Negative), v419])]) (css := [[(Value.int .i64 r408.Index), (Value.bool r408.N.Negative), v410], [(Value.int .i64 r417.Index), (Value.bool r417.N.Negative), v419]]) (xs := [r408, r417]) Try.underlying23 ti50 (Nat.le_of_ble_eq_true rfl) rfl rfl ⟨rfl, rfl, ⟨rfl, rfl, trivial⟩⟩ (Nat.le_of_ble_eq_true rfl) hE427 rfl hL423 ?_)
  intro b426 w431 hc428 (hL432 : Go.X.Loc [] [] w w431 [some b426, some b374, some b346, some b334, some b309, some b266, some b231, some b213, some b185, some b87, some b55, some b23] [Cont.cells ([] ++ ([(Value.int .i64 r408.Index), (Value.bool r408.N.Negative), v410, (Value.int .i64 r417.Index), (Value.bool r417.N.Negative), v419] ++ [])), Cont.cells ([] ++ ([(Value.int .i64 r356.Index), (Value.bool r356.N.Negative), v358, (Value.int .i64 r365.Index), (Value.bool r365.N.Negative), v367] ++ [])), Cont.cells [(Value.slice none 0 0), (osv (some b231) 0 1 1), (Value.bool r239.Negative), v241, (osv (some b334) 0 2 2)], Cont.cells ([] ++ ([v277, v279, (Value.bool r275.Bound.Negative), v281, v283, v320, v322, (Value.bool r318.Bound.Negative), v324, v326] ++ [])), Cont.cells ([] ++ ([(Value.int .i64 r291.Index), (Value.bool r291.N.Negative), v293, (Value.int .i64 r300.Index), (Value.bool r300.N.Negative), v302] ++ [])), Cont.cells ([] ++ ([(Value.int .i64 r248.Index), (Value.bool r248.N.Negative), v250, (Value.int .i64 r257.Index), (Value.bool r257.N.Negative), v259] ++ [])), Cont.cells ([] ++ ([(Value.bool r222.Negative), v224] ++ [])), Cont.cells [(osv (some b185) 0 3 3), (Value.slice none 0 0), (Value.bool false), (Value.slice none 0 0), (Value.slice none 0 0)], Cont.cells ([] ++ ([(osv (some b106) 0 1 1), (Value.bool r114.Negative), v116, (osv (some b132) 0 1 1), (Value.bool r140.Negative), v142, (osv (some b167) 0 2 2), (Value.bool r176.Negative), v178] ++ [])), Cont.cells ([] ++ ([v67, (Value.bool r65.Bound.Negative), v69, v78, (Value.bool r76.Bound.Negative), v80] ++ [])), Cont.cells ([] ++ ([v35, (Value.bool r33.Bound.Negative), v37, v46, (Value.bool r44.Bound.Negative), v48] ++ [])), Cont.cells ([] ++ ([v3, (Value.bool r1.Bound.Negative), v5, v14, (Value.bool r12.Bound.Negative), v16] ++ []))]) hS434
  have K433 := Keep.step (s := w.heap.size) hS434
  obtain ⟨r435, q436, h⟩ := bind_some h
  have f446 := (hE427.mono (K433 None))
  refine Rl.yes (dj := 49) (b' := r399) rfl rfl hc407 (OpY.call en20 rfl rfl (cSum_w N [r408, r417] (osv (some b426) 0 2 2) _ Any (own_row_any (pre := []) (o := 0) (n := 2) (cap := 2) (hL432.at 0 rfl rfl) f446 vw_any rfl rfl rfl hc428) r435 q436) ?_)
  rintro _ w447 hE450 ⟨v437, v439, v441, v443, rfl, k438, k440, k442, k444, -⟩
  replace k438 := k438.mono (Hv.freshO (S := None) hL432 [])
  replace k440 := k440.mono (Hv.freshO (S := None) hL432 [])
  replace k442 := k442.mono (Hv.freshO (S := None) hL432 [])
  replace k444 := k444.mono (Hv.freshO (S := None) hL432 [])
  have hL448 := hL432.ext hE450
  have K449 := Keep.ext (s := w.heap.size) (O := [some b426, some b374, some b346, some b334, some b309, some b266, some b231, some b213, some b185, some b87, some b55, some b23]) hE450
  obtain ⟨r451, q452, h⟩ := bind_some h
  have f454 := (((((((((((((((((((((((((((((((((((((((((((hE56.mono (K63 None)).mono (K74 None)).mono (K85 None)).mono (K95 None)).mono (K104 None)).mono (K112 None)).mono (K121 None)).mono (K130 None)).mono (K138 None)).mono (K147 None)).mono (K156 None)).mono (K165 None)).mono (K174 None)).mono (K183 None)).mono (K189 None)).mono (K194 None)).mono (K199 None)).mono (K211 None)).mono (K216 None)).mono (K220 None)).mono (K229 None)).mono (K237 None)).mono (K246 None)).mono (K255 None)).mono (K264 None)).mono (K273 None)).mono (K289 None)).mono (K298 None)).mono (K307 None)).mono (K316 None)).mono (K332 None)).mono (K344 None)).mono (K349 None)).mono (K354 None)).mono (K363 None)).mono (K372 None)).mono (K381 None)).mono (K397 None)).mono (K405 None)).mono (K415 None)).mono (K424 None)).mono (K433 None)).mono (K449 None))
  refine Rl.yes (dj := 49) (b' := r399) rfl rfl hc407 (OpY.call en18 rfl rfl (cCheck_w N [r33, r44] r435 (osv (some b55) 0 2 2) v437 v439 v441 v443 _ Any (own_row_any (pre := []) (o := 0) (n := 2) (cap := 2) (hL448.at 10 rfl rfl) f454 vw_any rfl rfl rfl hc57) (k438.mono vw_any) (k440.mono vw_any) (k442.mono vw_any) (k444.mono vw_any) r451 q452) ?_)
  rintro _ w455 hE458 ⟨rfl, -⟩
  have hL456 := hL448.ext hE458
  have K457 := Keep.ext (s := w.heap.size) (O := [some b426, some b374, some b346, some b334, some b309, some b266, some b231, some b213, some b185, some b87, some b55, some b23]) hE458
  refine Rl.yes (dj := 49) (b' := r399) rfl rfl hc407 (OpY.not (x := r451) rfl ?_)
  refine Rl.op (OpY.pick_t (t := r399) (v := (Value.bool (!r451))) rfl hc407 rfl ?_)
  refine Rl.op (OpY.move (v := (Value.bool (!r451))) rfl ?_)
  by_cases hc459 : (!r451) = true
  ·
   replace h := ite_t hc459 h
   refine Rl.yes (dj := 58) (b' := (!r451)) rfl rfl hc459 (OpY.move (v := (osv (some b55) 0 2 2)) rfl ?_)
   refine Rl.yes (dj := 58) (b' := (!r451)) rfl rfl hc459 (OpY.ldBoxA (vs := [(osv (some b185) 0 3 3), (Value.slice none 0 0), (Value.bool false), (Value.slice none 0 0), (Value.slice none 0 0)]) Try.underlying42 rfl ti42 rfl (hL456.at 7 rfl rfl) rfl rfl ?_)
   obtain ⟨r460, q461, h⟩ := bind_some h
   have f463 := (f454.mono (K457 None))
   have f464 := (((((((((((((((((((((((((((hE201.mono (K211 None)).mono (K216 None)).mono (K220 None)).mono (K229 None)).mono (K237 None)).mono (K246 None)).mono (K255 None)).mono (K264 None)).mono (K273 None)).mono (K289 None)).mono (K298 None)).mono (K307 None)).mono (K316 None)).mono (K332 None)).mono (K344 None)).mono (K349 None)).mono (K354 None)).mono (K363 None)).mono (K372 None)).mono (K381 None)).mono (K397 None)).mono (K405 None)).mono (K415 None)).mono (K424 None)).mono (K433 None)).mono (K449 None)).mono (K457 None))
   refine Rl.yes (dj := 58) (b' := (!r451)) rfl rfl hc459 (OpY.call en18 rfl rfl (cCheck_w N [r33, r44] (Proof.mk [(Step.mk [r97] r114), (Step.mk [r123] r140), (Step.mk [r149, r158] r176)] [] (Big.mk false []) []) (osv (some b55) 0 2 2) (osv (some b185) 0 3 3) (Value.slice none 0 0) (Value.slice none 0 0) (Value.slice none 0 0) _ Any (own_row_any (pre := []) (o := 0) (n := 2) (cap := 2) (hL456.at 10 rfl rfl) f463 vw_any rfl rfl rfl hc57) (own_row_any (pre := []) (o := 0) (n := 3) (cap := 3) (hL456.at 8 rfl rfl) f464 vw_any rfl rfl rfl hc202) Rs.nil Rs.nil Rs.nil r460 q461) ?_)
   rintro _ w465 hE468 ⟨rfl, -⟩
   have hL466 := hL456.ext hE468
   have K467 := Keep.ext (s := w.heap.size) (O := [some b426, some b374, some b346, some b334, some b309, some b266, some b231, some b213, some b185, some b87, some b55, some b23]) hE468
   refine Rl.op (OpY.pick_t (t := (!r451)) (v := (Value.bool r460)) rfl hc459 rfl ?_)
   refine Rl.op (OpY.move (v := (Value.bool r460)) rfl ?_)
   by_cases hc469 : r460 = true
   ·
    replace h := ite_t hc469 h
    refine Rl.yes (dj := 63) (b' := r460) rfl rfl hc469 (OpY.move (v := (osv (some b87) 0 2 2)) rfl ?_)
    refine Rl.yes (dj := 63) (b' := r460) rfl rfl hc469 (OpY.ldBoxA (vs := [(Value.slice none 0 0), (osv (some b231) 0 1 1), (Value.bool r239.Negative), v241, (osv (some b334) 0 2 2)]) Try.underlying42 rfl ti42 rfl (hL466.at 2 rfl rfl) rfl rfl ?_)
    obtain ⟨r470, q471, h⟩ := bind_some h
    have f473 := ((((((((((((((((((((((((((((((((((((((((((hE88.mono (K95 None)).mono (K104 None)).mono (K112 None)).mono (K121 None)).mono (K130 None)).mono (K138 None)).mono (K147 None)).mono (K156 None)).mono (K165 None)).mono (K174 None)).mono (K183 None)).mono (K189 None)).mono (K194 None)).mono (K199 None)).mono (K211 None)).mono (K216 None)).mono (K220 None)).mono (K229 None)).mono (K237 None)).mono (K246 None)).mono (K255 None)).mono (K264 None)).mono (K273 None)).mono (K289 None)).mono (K298 None)).mono (K307 None)).mono (K316 None)).mono (K332 None)).mono (K344 None)).mono (K349 None)).mono (K354 None)).mono (K363 None)).mono (K372 None)).mono (K381 None)).mono (K397 None)).mono (K405 None)).mono (K415 None)).mono (K424 None)).mono (K433 None)).mono (K449 None)).mono (K457 None)).mono (K467 None))
    have f474 := ((((((((((((((((((((((((hE232.mono (K237 None)).mono (K246 None)).mono (K255 None)).mono (K264 None)).mono (K273 None)).mono (K289 None)).mono (K298 None)).mono (K307 None)).mono (K316 None)).mono (K332 None)).mono (K344 None)).mono (K349 None)).mono (K354 None)).mono (K363 None)).mono (K372 None)).mono (K381 None)).mono (K397 None)).mono (K405 None)).mono (K415 None)).mono (K424 None)).mono (K433 None)).mono (K449 None)).mono (K457 None)).mono (K467 None))
    have f475 := ((((((((((((f351.mono (K354 None)).mono (K363 None)).mono (K372 None)).mono (K381 None)).mono (K397 None)).mono (K405 None)).mono (K415 None)).mono (K424 None)).mono (K433 None)).mono (K449 None)).mono (K457 None)).mono (K467 None))
    have f476 := ((((((((((((((hE335.mono (K344 None)).mono (K349 None)).mono (K354 None)).mono (K363 None)).mono (K372 None)).mono (K381 None)).mono (K397 None)).mono (K405 None)).mono (K415 None)).mono (K424 None)).mono (K433 None)).mono (K449 None)).mono (K457 None)).mono (K467 None))
    refine Rl.yes (dj := 63) (b' := r460) rfl rfl hc469 (OpY.call en18 rfl rfl (cCheck_w N [r65, r76] (Proof.mk [] [r222] r239 [r275, r318]) (osv (some b87) 0 2 2) (Value.slice none 0 0) (osv (some b231) 0 1 1) v241 (osv (some b334) 0 2 2) _ Any (own_row_any (pre := []) (o := 0) (n := 2) (cap := 2) (hL466.at 9 rfl rfl) f473 vw_any rfl rfl rfl hc89) Rs.nil (own_row_any (pre := []) (o := 0) (n := 1) (cap := 1) (hL466.at 6 rfl rfl) f474 vw_any rfl rfl rfl hc233) (f475.mono vw_any) (own_row_any (pre := []) (o := 0) (n := 2) (cap := 2) (hL466.at 3 rfl rfl) f476 vw_any rfl rfl rfl hc336) r470 q471) ?_)
    rintro _ w477 hE480 ⟨rfl, -⟩
    have hL478 := hL466.ext hE480
    have K479 := Keep.ext (s := w.heap.size) (O := [some b426, some b374, some b346, some b334, some b309, some b266, some b231, some b213, some b185, some b87, some b55, some b23]) hE480
    refine Rl.op (OpY.pick_t (t := r460) (v := (Value.bool r470)) rfl hc469 rfl ?_)
    refine Rl.op (OpY.move (v := (Value.bool r470)) rfl ?_)
    by_cases hc481 : r470 = true
    ·
     replace h := ite_t hc481 h
     refine Rl.yes (dj := 68) (b' := r470) rfl rfl hc481 (OpY.move (v := (osv (some b55) 0 2 2)) rfl ?_)
     refine Rl.yes (dj := 68) (b' := r470) rfl rfl hc481 (OpY.ldBoxA (vs := [(Value.slice none 0 0), (osv (some b231) 0 1 1), (Value.bool r239.Negative), v241, (osv (some b334) 0 2 2)]) Try.underlying42 rfl ti42 rfl (hL478.at 2 rfl rfl) rfl rfl ?_)
     obtain ⟨r482, q483, h⟩ := bind_some h
     have f485 := ((f463.mono (K467 None)).mono (K479 None))
     have f486 := (f474.mono (K479 None))
     have f487 := (f475.mono (K479 None))
     have f488 := (f476.mono (K479 None))
     refine Rl.yes (dj := 68) (b' := r470) rfl rfl hc481 (OpY.call en18 rfl rfl (cCheck_w N [r33, r44] (Proof.mk [] [r222] r239 [r275, r318]) (osv (some b55) 0 2 2) (Value.slice none 0 0) (osv (some b231) 0 1 1) v241 (osv (some b334) 0 2 2) _ Any (own_row_any (pre := []) (o := 0) (n := 2) (cap := 2) (hL478.at 10 rfl rfl) f485 vw_any rfl rfl rfl hc57) Rs.nil (own_row_any (pre := []) (o := 0) (n := 1) (cap := 1) (hL478.at 6 rfl rfl) f486 vw_any rfl rfl rfl hc233) (f487.mono vw_any) (own_row_any (pre := []) (o := 0) (n := 2) (cap := 2) (hL478.at 3 rfl rfl) f488 vw_any rfl rfl rfl hc336) r482 q483) ?_)
     rintro _ w489 hE492 ⟨rfl, -⟩
     have hL490 := hL478.ext hE492
     have K491 := Keep.ext (s := w.heap.size) (O := [some b426, some b374, some b346, some b334, some b309, some b266, some b231, some b213, some b185, some b87, some b55, some b23]) hE492
     refine Rl.yes (dj := 68) (b' := r470) rfl rfl hc481 (OpY.not (x := r482) rfl ?_)
     refine Rl.op (OpY.pick_t (t := r470) (v := (Value.bool (!r482))) rfl hc481 rfl ?_)
     refine Rl.op (OpY.move (v := (Value.bool (!r482))) rfl ?_)
     by_cases hc493 : (!r482) = true
     ·
      replace h := ite_t hc493 h
      refine Rl.yes (dj := 74) (b' := (!r482)) rfl rfl hc493 (OpY.ldBoxA (vs := [(osv (some b185) 0 3 3), (Value.slice none 0 0), (Value.bool false), (Value.slice none 0 0), (Value.slice none 0 0)]) Try.underlying42 rfl ti42 rfl (hL490.at 7 rfl rfl) rfl rfl ?_)
      obtain ⟨r494, q495, h⟩ := bind_some h
      have f497 := (((f464.mono (K467 None)).mono (K479 None)).mono (K491 None))
      refine Rl.yes (dj := 74) (b' := (!r482)) rfl rfl hc493 (OpY.call en21 rfl rfl (cSize_w N (Proof.mk [(Step.mk [r97] r114), (Step.mk [r123] r140), (Step.mk [r149, r158] r176)] [] (Big.mk false []) []) (osv (some b185) 0 3 3) (Value.slice none 0 0) (Value.slice none 0 0) (Value.slice none 0 0) _ Any (own_row_any (pre := []) (o := 0) (n := 3) (cap := 3) (hL490.at 8 rfl rfl) f497 vw_any rfl rfl rfl hc202) Rs.nil Rs.nil Rs.nil r494 q495) ?_)
      rintro _ w498 hE501 ⟨rfl, -⟩
      have hL499 := hL490.ext hE501
      have K500 := Keep.ext (s := w.heap.size) (O := [some b426, some b374, some b346, some b334, some b309, some b266, some b231, some b213, some b185, some b87, some b55, some b23]) hE501
      refine Rl.yes (dj := 74) (b' := (!r482)) rfl rfl hc493 (OpY.eql (x := r494) (y := 3) ((r494 : Int) = 3) rfl rfl Iff.rfl ?_)
      refine Rl.op (OpY.pick_t (t := (!r482)) (v := (Value.bool (decide ((r494 : Int) = 3)))) rfl hc493 rfl ?_)
      refine Rl.op (OpY.move (v := (Value.bool (decide ((r494 : Int) = 3)))) rfl ?_)
      by_cases hc502 : (r494 : Int) = 3
      ·
       replace h := ite_t hc502 h
       refine Rl.yes (dj := 79) (b' := (decide ((r494 : Int) = 3))) rfl rfl (decide_eq_true hc502) (OpY.ldBoxA (vs := [(Value.slice none 0 0), (osv (some b231) 0 1 1), (Value.bool r239.Negative), v241, (osv (some b334) 0 2 2)]) Try.underlying42 rfl ti42 rfl (hL499.at 2 rfl rfl) rfl rfl ?_)
       obtain ⟨r503, q504, h⟩ := bind_some h
       have f506 := ((f486.mono (K491 None)).mono (K500 None))
       have f507 := ((f487.mono (K491 None)).mono (K500 None))
       have f508 := ((f488.mono (K491 None)).mono (K500 None))
       refine Rl.yes (dj := 79) (b' := (decide ((r494 : Int) = 3))) rfl rfl (decide_eq_true hc502) (OpY.call en21 rfl rfl (cSize_w N (Proof.mk [] [r222] r239 [r275, r318]) (Value.slice none 0 0) (osv (some b231) 0 1 1) v241 (osv (some b334) 0 2 2) _ Any Rs.nil (own_row_any (pre := []) (o := 0) (n := 1) (cap := 1) (hL499.at 6 rfl rfl) f506 vw_any rfl rfl rfl hc233) (f507.mono vw_any) (own_row_any (pre := []) (o := 0) (n := 2) (cap := 2) (hL499.at 3 rfl rfl) f508 vw_any rfl rfl rfl hc336) r503 q504) ?_)
       rintro _ w509 hE512 ⟨rfl, -⟩
       have hL510 := hL499.ext hE512
       refine Rl.yes (dj := 79) (b' := (decide ((r494 : Int) = 3))) rfl rfl (decide_eq_true hc502) (OpY.eql (x := r503) (y := 3) ((r503 : Int) = 3) rfl rfl Iff.rfl ?_)
       refine Rl.op (OpY.pick_t (t := (decide ((r494 : Int) = 3))) (v := (Value.bool (decide ((r503 : Int) = 3)))) rfl (decide_eq_true hc502) rfl ?_)
       refine Rl.op (OpY.assign (v := (Value.bool (decide ((r503 : Int) = 3)))) rfl ?_)
       refine Rl.nil ?_
       refine Swp.ret ?_
       obtain rfl := Option.some.inj h
       refine ⟨[(Value.bool (decide ((r503 : Int) = 3)))], ⟨rfl, trivial⟩, ⟨_, rfl, hL510.done, ?_⟩⟩
       exact ⟨rfl, trivial⟩
      ·
       replace h := ite_f hc502 h
       refine Rl.no (dj := 79) (b' := (decide ((r494 : Int) = 3))) rfl rfl (decide_eq_false hc502) ?_
       refine Rl.no (dj := 79) (b' := (decide ((r494 : Int) = 3))) rfl rfl (decide_eq_false hc502) ?_
       refine Rl.no (dj := 79) (b' := (decide ((r494 : Int) = 3))) rfl rfl (decide_eq_false hc502) ?_
       refine Rl.op (OpY.pick_f (t := (decide ((r494 : Int) = 3))) (v := (Value.bool false)) rfl (decide_eq_false hc502) rfl ?_)
       refine Rl.op (OpY.assign (v := (Value.bool false)) rfl ?_)
       refine Rl.nil ?_
       refine Swp.ret ?_
       obtain rfl := Option.some.inj h
       refine ⟨[(Value.bool false)], ⟨rfl, trivial⟩, ⟨_, rfl, hL499.done, ?_⟩⟩
       exact ⟨rfl, trivial⟩
     ·
      replace h := ite_f hc493 h
      refine Rl.no (dj := 74) (b' := (!r482)) rfl rfl (eq_false_of_ne_true hc493) ?_
      refine Rl.no (dj := 74) (b' := (!r482)) rfl rfl (eq_false_of_ne_true hc493) ?_
      refine Rl.no (dj := 74) (b' := (!r482)) rfl rfl (eq_false_of_ne_true hc493) ?_
      refine Rl.op (OpY.pick_f (t := (!r482)) (v := (Value.bool false)) rfl (eq_false_of_ne_true hc493) rfl ?_)
      refine Rl.op (OpY.move (v := (Value.bool false)) rfl ?_)
      refine Rl.no (dj := 79) (b' := false) rfl rfl rfl ?_
      refine Rl.no (dj := 79) (b' := false) rfl rfl rfl ?_
      refine Rl.no (dj := 79) (b' := false) rfl rfl rfl ?_
      refine Rl.op (OpY.pick_f (t := false) (v := (Value.bool false)) rfl rfl rfl ?_)
      refine Rl.op (OpY.assign (v := (Value.bool false)) rfl ?_)
      refine Rl.nil ?_
      refine Swp.ret ?_
      obtain rfl := Option.some.inj h
      refine ⟨[(Value.bool false)], ⟨rfl, trivial⟩, ⟨_, rfl, hL490.done, ?_⟩⟩
      exact ⟨rfl, trivial⟩
    ·
     replace h := ite_f hc481 h
     refine Rl.no (dj := 68) (b' := r470) rfl rfl (eq_false_of_ne_true hc481) ?_
     refine Rl.no (dj := 68) (b' := r470) rfl rfl (eq_false_of_ne_true hc481) ?_
     refine Rl.no (dj := 68) (b' := r470) rfl rfl (eq_false_of_ne_true hc481) ?_
     refine Rl.no (dj := 68) (b' := r470) rfl rfl (eq_false_of_ne_true hc481) ?_
     refine Rl.op (OpY.pick_f (t := r470) (v := (Value.bool false)) rfl (eq_false_of_ne_true hc481) rfl ?_)
     refine Rl.op (OpY.move (v := (Value.bool false)) rfl ?_)
     refine Rl.no (dj := 74) (b' := false) rfl rfl rfl ?_
     refine Rl.no (dj := 74) (b' := false) rfl rfl rfl ?_
     refine Rl.no (dj := 74) (b' := false) rfl rfl rfl ?_
     refine Rl.op (OpY.pick_f (t := false) (v := (Value.bool false)) rfl rfl rfl ?_)
     refine Rl.op (OpY.move (v := (Value.bool false)) rfl ?_)
     refine Rl.no (dj := 79) (b' := false) rfl rfl rfl ?_
     refine Rl.no (dj := 79) (b' := false) rfl rfl rfl ?_
     refine Rl.no (dj := 79) (b' := false) rfl rfl rfl ?_
     refine Rl.op (OpY.pick_f (t := false) (v := (Value.bool false)) rfl rfl rfl ?_)
     refine Rl.op (OpY.assign (v := (Value.bool false)) rfl ?_)
     refine Rl.nil ?_
     refine Swp.ret ?_
     obtain rfl := Option.some.inj h
     refine ⟨[(Value.bool false)], ⟨rfl, trivial⟩, ⟨_, rfl, hL478.done, ?_⟩⟩
     exact ⟨rfl, trivial⟩
   ·
    replace h := ite_f hc469 h
    refine Rl.no (dj := 63) (b' := r460) rfl rfl (eq_false_of_ne_true hc469) ?_
    refine Rl.no (dj := 63) (b' := r460) rfl rfl (eq_false_of_ne_true hc469) ?_
    refine Rl.no (dj := 63) (b' := r460) rfl rfl (eq_false_of_ne_true hc469) ?_
    refine Rl.op (OpY.pick_f (t := r460) (v := (Value.bool false)) rfl (eq_false_of_ne_true hc469) rfl ?_)
    refine Rl.op (OpY.move (v := (Value.bool false)) rfl ?_)
    refine Rl.no (dj := 68) (b' := false) rfl rfl rfl ?_
    refine Rl.no (dj := 68) (b' := false) rfl rfl rfl ?_
    refine Rl.no (dj := 68) (b' := false) rfl rfl rfl ?_
    refine Rl.no (dj := 68) (b' := false) rfl rfl rfl ?_
    refine Rl.op (OpY.pick_f (t := false) (v := (Value.bool false)) rfl rfl rfl ?_)
    refine Rl.op (OpY.move (v := (Value.bool false)) rfl ?_)
    refine Rl.no (dj := 74) (b' := false) rfl rfl rfl ?_
    refine Rl.no (dj := 74) (b' := false) rfl rfl rfl ?_
    refine Rl.no (dj := 74) (b' := false) rfl rfl rfl ?_
    refine Rl.op (OpY.pick_f (t := false) (v := (Value.bool false)) rfl rfl rfl ?_)
    refine Rl.op (OpY.move (v := (Value.bool false)) rfl ?_)
    refine Rl.no (dj := 79) (b' := false) rfl rfl rfl ?_
    refine Rl.no (dj := 79) (b' := false) rfl rfl rfl ?_
    refine Rl.no (dj := 79) (b' := false) rfl rfl rfl ?_
    refine Rl.op (OpY.pick_f (t := false) (v := (Value.bool false)) rfl rfl rfl ?_)
    refine Rl.op (OpY.assign (v := (Value.bool false)) rfl ?_)
    refine Rl.nil ?_
    refine Swp.ret ?_
    obtain rfl := Option.some.inj h
    refine ⟨[(Value.bool false)], ⟨rfl, trivial⟩, ⟨_, rfl, hL466.done, ?_⟩⟩
    exact ⟨rfl, trivial⟩
  ·
   replace h := ite_f hc459 h
   refine Rl.no (dj := 58) (b' := (!r451)) rfl rfl (eq_false_of_ne_true hc459) ?_
   refine Rl.no (dj := 58) (b' := (!r451)) rfl rfl (eq_false_of_ne_true hc459) ?_
   refine Rl.no (dj := 58) (b' := (!r451)) rfl rfl (eq_false_of_ne_true hc459) ?_
   refine Rl.op (OpY.pick_f (t := (!r451)) (v := (Value.bool false)) rfl (eq_false_of_ne_true hc459) rfl ?_)
   refine Rl.op (OpY.move (v := (Value.bool false)) rfl ?_)
   refine Rl.no (dj := 63) (b' := false) rfl rfl rfl ?_
   refine Rl.no (dj := 63) (b' := false) rfl rfl rfl ?_
   refine Rl.no (dj := 63) (b' := false) rfl rfl rfl ?_
   refine Rl.op (OpY.pick_f (t := false) (v := (Value.bool false)) rfl rfl rfl ?_)
   refine Rl.op (OpY.move (v := (Value.bool false)) rfl ?_)
   refine Rl.no (dj := 68) (b' := false) rfl rfl rfl ?_
   refine Rl.no (dj := 68) (b' := false) rfl rfl rfl ?_
   refine Rl.no (dj := 68) (b' := false) rfl rfl rfl ?_
   refine Rl.no (dj := 68) (b' := false) rfl rfl rfl ?_
   refine Rl.op (OpY.pick_f (t := false) (v := (Value.bool false)) rfl rfl rfl ?_)
   refine Rl.op (OpY.move (v := (Value.bool false)) rfl ?_)
   refine Rl.no (dj := 74) (b' := false) rfl rfl rfl ?_
   refine Rl.no (dj := 74) (b' := false) rfl rfl rfl ?_
   refine Rl.no (dj := 74) (b' := false) rfl rfl rfl ?_
   refine Rl.op (OpY.pick_f (t := false) (v := (Value.bool false)) rfl rfl rfl ?_)
   refine Rl.op (OpY.move (v := (Value.bool false)) rfl ?_)
   refine Rl.no (dj := 79) (b' := false) rfl rfl rfl ?_
   refine Rl.no (dj := 79) (b' := false) rfl rfl rfl ?_
   refine Rl.no (dj := 79) (b' := false) rfl rfl rfl ?_
   refine Rl.op (OpY.pick_f (t := false) (v := (Value.bool false)) rfl rfl rfl ?_)
   refine Rl.op (OpY.assign (v := (Value.bool false)) rfl ?_)
   refine Rl.nil ?_
   refine Swp.ret ?_
   obtain rfl := Option.some.inj h
   refine ⟨[(Value.bool false)], ⟨rfl, trivial⟩, ⟨_, rfl, hL456.done, ?_⟩⟩
   exact ⟨rfl, trivial⟩
 ·
  replace h := ite_f hc407 h
  refine Rl.no (dj := 49) (b' := r399) rfl rfl (eq_false_of_ne_true hc407) ?_
  refine Rl.no (dj := 49) (b' := r399) rfl rfl (eq_false_of_ne_true hc407) ?_
  refine Rl.no (dj := 49) (b' := r399) rfl rfl (eq_false_of_ne_true hc407) ?_
  refine Rl.no (dj := 49) (b' := r399) rfl rfl (eq_false_of_ne_true hc407) ?_
  refine Rl.no (dj := 49) (b' := r399) rfl rfl (eq_false_of_ne_true hc407) ?_
  refine Rl.no (dj := 49) (b' := r399) rfl rfl (eq_false_of_ne_true hc407) ?_
  refine Rl.no (dj := 49) (b' := r399) rfl rfl (eq_false_of_ne_true hc407) ?_
  refine Rl.op (OpY.pick_f (t := r399) (v := (Value.bool false)) rfl (eq_false_of_ne_true hc407) rfl ?_)
  refine Rl.op (OpY.move (v := (Value.bool false)) rfl ?_)
  refine Rl.no (dj := 58) (b' := false) rfl rfl rfl ?_
  refine Rl.no (dj := 58) (b' := false) rfl rfl rfl ?_
  refine Rl.no (dj := 58) (b' := false) rfl rfl rfl ?_
  refine Rl.op (OpY.pick_f (t := false) (v := (Value.bool false)) rfl rfl rfl ?_)
  refine Rl.op (OpY.move (v := (Value.bool false)) rfl ?_)
  refine Rl.no (dj := 63) (b' := false) rfl rfl rfl ?_
  refine Rl.no (dj := 63) (b' := false) rfl rfl rfl ?_
  refine Rl.no (dj := 63) (b' := false) rfl rfl rfl ?_
  refine Rl.op (OpY.pick_f (t := false) (v := (Value.bool false)) rfl rfl rfl ?_)
  refine Rl.op (OpY.move (v := (Value.bool false)) rfl ?_)
  refine Rl.no (dj := 68) (b' := false) rfl rfl rfl ?_
  refine Rl.no (dj := 68) (b' := false) rfl rfl rfl ?_
  refine Rl.no (dj := 68) (b' := false) rfl rfl rfl ?_
  refine Rl.no (dj := 68) (b' := false) rfl rfl rfl ?_
  refine Rl.op (OpY.pick_f (t := false) (v := (Value.bool false)) rfl rfl rfl ?_)
  refine Rl.op (OpY.move (v := (Value.bool false)) rfl ?_)
  refine Rl.no (dj := 74) (b' := false) rfl rfl rfl ?_
  refine Rl.no (dj := 74) (b' := false) rfl rfl rfl ?_
  refine Rl.no (dj := 74) (b' := false) rfl rfl rfl ?_
  refine Rl.op (OpY.pick_f (t := false) (v := (Value.bool false)) rfl rfl rfl ?_)
  refine Rl.op (OpY.move (v := (Value.bool false)) rfl ?_)
  refine Rl.no (dj := 79) (b' := false) rfl rfl rfl ?_
  refine Rl.no (dj := 79) (b' := false) rfl rfl rfl ?_
  refine Rl.no (dj := 79) (b' := false) rfl rfl rfl ?_
  refine Rl.op (OpY.pick_f (t := false) (v := (Value.bool false)) rfl rfl rfl ?_)
  refine Rl.op (OpY.assign (v := (Value.bool false)) rfl ?_)
  refine Rl.nil ?_
  refine Swp.ret ?_
  obtain rfl := Option.some.inj h
  refine ⟨[(Value.bool false)], ⟨rfl, trivial⟩, ⟨_, rfl, hL404.done, ?_⟩⟩
  exact ⟨rfl, trivial⟩
theorem lawConstraint_w (N : Nat) (c : Constraint) (x : (List Int)) (c_v : Value) (x_v : Value) (w : World) (S : Nat → Prop) (c_h : Rs rCoef (Hv w.heap.size S [] w) c_v c.Linear.Coefs) (x_h : Rs (rInt .i16) (Hv w.heap.size S [] w) x_v x) (r : Bool) (h : lawConstraint N c x = some r) :
  Calls Try.prog 10 #[(Value.agg #[(Value.int .i64 c.Linear.Const), c_v, (Value.bool c.Equal)]), x_v] w (Ret w (fun v w' => (Value.bool r) = v ∧ True)) := by
 unfold lawConstraint at h
 have hL : Go.X.Loc [] [] w w [] [] := Go.X.Loc.begin0 w
 refine calls_of (l := [(Value.agg #[(Value.int .i64 c.Linear.Const), c_v, (Value.bool c.Equal)]), x_v]) (rl := [.tmp 4]) (n := 100) Try.func10 rfl rfl rfl (Nat.le_of_ble_eq_true rfl) ?_
 refine Swp.seq ?_
 refine Swp.region rfl ?_
 refine Rl.op (OpY.box (cs := [(Value.int .i64 c.Linear.Const), c_v, (Value.bool c.Equal)]) rfl rfl hL ?_)
 intro b1 w2 (hL3 : Go.X.Loc [] [] w w2 [some b1] [Cont.cells [(Value.int .i64 c.Linear.Const), c_v, (Value.bool c.Equal)]]) hS5
 have K4 := Keep.step (s := w.heap.size) hS5
 refine Rl.op (OpY.assign (v := (Value.bool false)) rfl ?_)
 refine Rl.nil ?_
 refine Swp.seq ?_
 refine Swp.seq ?_
 obtain ⟨s26, h, g27⟩ := bind_some h
 refine Swp.join (fun e w' => ∃ (x25 : Bool) (u : Env), x25 = s26 ∧ e = upds [(1, x_v), (2, (Value.pointer (some ⟨b1, 0, none⟩))), (28, (Value.bool x25))] u ∧ Go.X.Loc [] [] w w' [some b1] [Cont.cells [(Value.int .i64 c.Linear.Const), c_v, (Value.bool c.Equal)]] ∧ Keep w.heap.size [some b1] w2 [some b1] w' ∧ True) ?_ ?_
 ·
  refine Swp.region rfl ?_
  obtain ⟨r28, q29, h⟩ := bind_some h
  refine Rl.op (OpY.call en11 rfl rfl (awake_w N _ Any r28 q29) ?_)
  rintro _ w31 hE34 ⟨rfl, -⟩
  have hL32 := hL3.ext hE34
  have K33 := Keep.ext (s := w.heap.size) (O := [some b1]) hE34
  refine Rl.op (OpY.not (x := r28) rfl ?_)
  refine Rl.op (OpY.move (v := (Value.bool (!r28))) rfl ?_)
  by_cases hc35 : (!r28) = true
  ·
   replace h := ite_t hc35 h
   refine Rl.no (dj := 17) (b' := (!r28)) rfl rfl hc35 ?_
   refine Rl.no (dj := 17) (b' := (!r28)) rfl rfl hc35 ?_
   refine Rl.no (dj := 17) (b' := (!r28)) rfl rfl hc35 ?_
   refine Rl.op (OpY.pick_t (t := (!r28)) (v := (Value.bool true)) rfl hc35 rfl ?_)
   refine Rl.op (OpY.move (v := (Value.bool true)) rfl ?_)
   refine Rl.no (dj := 22) (b' := true) rfl rfl rfl ?_
   refine Rl.no (dj := 22) (b' := true) rfl rfl rfl ?_
   refine Rl.no (dj := 22) (b' := true) rfl rfl rfl ?_
   refine Rl.no (dj := 22) (b' := true) rfl rfl rfl ?_
   refine Rl.no (dj := 22) (b' := true) rfl rfl rfl ?_
   refine Rl.op (OpY.pick_t (t := true) (v := (Value.bool true)) rfl rfl rfl ?_)
   refine Rl.nil ?_
   obtain rfl := Option.some.inj h
   refine Swp.pop_back ?_
   exact ⟨true, _, rfl, (upds_sym ⟨rfl, ⟨rfl, ⟨rfl, trivial⟩⟩⟩), hL32, K33, trivial⟩
  ·
   replace h := ite_f hc35 h
   refine Rl.yes (dj := 17) (b' := (!r28)) rfl rfl (eq_false_of_ne_true hc35) (OpY.move (v := x_v) rfl ?_)
   have f36 := ((x_h.mono (K4 S)).mono (K33 S))
   refine Rl.yes (dj := 17) (b' := (!r28)) rfl rfl (eq_false_of_ne_true hc35) (OpY.lenRo (v := x_v) Try.underlying68 rfl f36 ?_)
   refine Rl.yes (dj := 17) (b' := (!r28)) rfl rfl (eq_false_of_ne_true hc35) (OpY.gtr (x := (List.length x : Int)) (y := 6) (((List.length x : Int) : Int) > 6) rfl rfl Iff.rfl ?_)
   refine Rl.op (OpY.pick_f (t := (!r28)) (v := (Value.bool (decide (((List.length x : Int) : Int) > 6)))) rfl (eq_false_of_ne_true hc35) rfl ?_)
   refine Rl.op (OpY.move (v := (Value.bool (decide (((List.length x : Int) : Int) > 6)))) rfl ?_)
   by_cases hc37 : ((List.length x : Int) : Int) > 6
   ·
    replace h := ite_t hc37 h
    refine Rl.no (dj := 22) (b' := (decide (((List.length x : Int) : Int) > 6))) rfl rfl (decide_eq_true hc37) ?_
    refine Rl.no (dj := 22) (b' := (decide (((List.length x : Int) : Int) > 6))) rfl rfl (decide_eq_true hc37) ?_
    refine Rl.no (dj := 22) (b' := (decide (((List.length x : Int) : Int) > 6))) rfl rfl (decide_eq_true hc37) ?_
    refine Rl.no (dj := 22) (b' := (decide (((List.length x : Int) : Int) > 6))) rfl rfl (decide_eq_true hc37) ?_
    refine Rl.no (dj := 22) (b' := (decide (((List.length x : Int) : Int) > 6))) rfl rfl (decide_eq_true hc37) ?_
    refine Rl.op (OpY.pick_t (t := (decide (((List.length x : Int) : Int) > 6))) (v := (Value.bool true)) rfl (decide_eq_true hc37) rfl ?_)
    refine Rl.nil ?_
    obtain rfl := Option.some.inj h
    refine Swp.pop_back ?_
    exact ⟨true, _, rfl, (upds_sym ⟨rfl, ⟨rfl, ⟨rfl, trivial⟩⟩⟩), hL32, K33, trivial⟩
   ·
    replace h := ite_f hc37 h
    refine Rl.yes (dj := 22) (b' := (decide (((List.length x : Int) : Int) > 6))) rfl rfl (decide_eq_false hc37) (OpY.ldBoxA (vs := [(Value.int .i64 c.Linear.Const), c_v, (Value.bool c.Equal)]) Try.underlying63 rfl ti63 rfl (hL32.at 0 rfl rfl) rfl rfl ?_)
    refine Rl.yes (dj := 22) (b' := (decide (((List.length x : Int) : Int) > 6))) rfl rfl (decide_eq_false hc37) (OpY.move (v := x_v) rfl ?_)
    refine Rl.yes (dj := 22) (b' := (decide (((List.length x : Int) : Int) > 6))) rfl rfl (decide_eq_false hc37) (OpY.lenRo (v := x_v) Try.underlying68 rfl f36 ?_)
    obtain ⟨r38, q39, h⟩ := bind_some h
    have f41 := ((c_h.mono (K4 S)).mono (K33 S))
    refine Rl.yes (dj := 22) (b' := (decide (((List.length x : Int) : Int) > 6))) rfl rfl (decide_eq_false hc37) (OpY.call en36 rfl rfl (rRight_w N c (List.length x : Int) c_v _ Any (f41.mono vw_any) r38 q39) ?_)
    rintro _ w42 hE45 ⟨rfl, -⟩
    have hL43 := hL32.ext hE45
    have K44 := Keep.ext (s := w.heap.size) (O := [some b1]) hE45
    refine Rl.yes (dj := 22) (b' := (decide (((List.length x : Int) : Int) > 6))) rfl rfl (decide_eq_false hc37) (OpY.not (x := r38) rfl ?_)
    refine Rl.op (OpY.pick_f (t := (decide (((List.length x : Int) : Int) > 6))) (v := (Value.bool (!r38))) rfl (decide_eq_false hc37) rfl ?_)
    refine Rl.nil ?_
    obtain rfl := Option.some.inj h
    refine Swp.pop_back ?_
    exact ⟨(!r38), _, rfl, (upds_sym ⟨rfl, ⟨rfl, ⟨rfl, trivial⟩⟩⟩), hL43, (Keep.trans K33 K44), trivial⟩
 ·
  rintro _ w46 ⟨x25, u, rfl, rfl, hL47, K48, -⟩
  replace h := g27
  try dsimp only at h
  refine Swp.cond_b x25 rfl (fun hc49 => ?_) (fun hc49 => ?_)
  ·
   replace h := ite_t hc49 h
   refine Swp.seq ?_
   refine Swp.region rfl ?_
   obtain ⟨r50, q51, h⟩ := bind_some h
   refine Rl.op (OpY.call en11 rfl rfl (awake_w N _ Any r50 q51) ?_)
   rintro _ w53 hE56 ⟨rfl, -⟩
   have hL54 := hL47.ext hE56
   refine Rl.op (OpY.assign (v := (Value.bool r50)) rfl ?_)
   refine Rl.nil ?_
   refine Swp.ret ?_
   obtain rfl := Option.some.inj h
   refine ⟨[(Value.bool r50)], ⟨rfl, trivial⟩, ⟨_, rfl, hL54.done, ?_⟩⟩
   exact ⟨rfl, trivial⟩
  ·
   replace h := ite_f hc49 h
   refine Swp.skip ?_
   refine Swp.seq ?_
   refine Swp.region rfl ?_
   refine Rl.op (OpY.fieldAddr (q := 0) Try.underlying63 rfl ti61 rfl rfl rfl ?_)
   refine Rl.op (OpY.fieldAddr (q := 0) Try.underlying61 rfl ti2 rfl rfl rfl ?_)
   refine Rl.op (OpY.ldBox1 (v := (Value.int .i64 c.Linear.Const)) Try.underlying2 rfl rfl (hL47.at 0 rfl rfl) rfl ?_)
   obtain ⟨r57, q58, h⟩ := bind_some h
   refine Rl.op (OpY.call en37 rfl rfl (rOf_w N c.Linear.Const _ Any r57 q58) ?_)
   rintro _ w62 hE65 ⟨v59, rfl, k60, -⟩
   replace k60 := k60.mono (Hv.freshO (S := None) hL47 [])
   have hL63 := hL47.ext hE65
   have K64 := Keep.ext (s := w.heap.size) (O := [some b1]) hE65
   refine Rl.op (OpY.alloc (cs := [(Value.bool false), (Value.slice none 0 0)]) ti26 rfl hL63 ?_)
   intro b66 w67 (hL68 : Go.X.Loc [] [] w w67 [some b66, some b1] [Cont.cells [(Value.bool false), (Value.slice none 0 0)], Cont.cells [(Value.int .i64 c.Linear.Const), c_v, (Value.bool c.Equal)]]) hS70
   have K69 := Keep.step (s := w.heap.size) hS70
   have f71 := (k60.mono (K69 None))
   refine Rl.op0 (OpY.store (vs := [(Value.bool r57.Negative), v59]) ti26 rfl rfl rfl rfl (ones_cons rfl (ones_cons f71.one ones_nil)) hL68 0 rfl rfl (Nat.le_of_ble_eq_true rfl) ?_)
   intro w72 (hL73 : Go.X.Loc [] [] w w72 [some b66, some b1] [Cont.cells [(Value.bool r57.Negative), v59], Cont.cells [(Value.int .i64 c.Linear.Const), c_v, (Value.bool c.Equal)]]) hS75
   have K74 := Keep.step (s := w.heap.size) hS75
   refine Rl.nil ?_
   refine Swp.seq ?_
   refine Swp.seq ?_
   refine Swp.region rfl ?_
   refine Rl.op (OpY.fieldAddr (q := 0) Try.underlying63 rfl ti61 rfl rfl rfl ?_)
   refine Rl.op (OpY.fieldAddr (q := 1) Try.underlying61 rfl ti59 rfl rfl rfl ?_)
   refine Rl.op (OpY.ldBox1 (v := c_v) Try.underlying59 rfl rfl (hL73.at 1 rfl rfl) rfl ?_)
   have f76 := (((((c_h.mono (K4 S)).mono (K48 S)).mono (K64 S)).mono (K69 S)).mono (K74 S))
   refine Rl.op (OpY.lenRo (v := c_v) Try.underlying59 rfl f76 ?_)
   refine Rl.op (OpY.move (v := (Value.int .i64 0)) rfl ?_)
   refine Rl.nil ?_
   obtain ⟨s416, hl418, g417⟩ := bind_some h
   refine Swp.join (fun e w' => ∃ (sum413 : Big) (v414 : Value) (u : Env), sum413 = s416 ∧ e = upds [(1, x_v), (2, (Value.pointer (some ⟨b1, 0, none⟩))), (5, (Value.pointer (some ⟨b66, 0, none⟩)))] u ∧ Go.X.Loc [] [] w w' [some b1, some b66] [Cont.cells [(Value.int .i64 c.Linear.Const), c_v, (Value.bool c.Equal)], Cont.cells [(Value.bool sum413.Negative), v414]] ∧ Keep w.heap.size [some b66, some b1] w72 [some b1, some b66] w' ∧ Rs (rInt .u32) (Hv w.heap.size None [some b1, some b66] w') v414 sum413.Digits ∧ True) ?_ ?_
   ·
    refine Swp.block ?_
    have hp420 := hL73.pick [1, 0] rfl rfl rfl
    have hL422 : Go.X.Loc [] [] w w72 [some b1, some b66] [Cont.cells [(Value.int .i64 c.Linear.Const), c_v, (Value.bool c.Equal)], Cont.cells [(Value.bool r57.Negative), v59]] := hp420.1
    have K421 := Keep.step (s := w.heap.size) hp420.2
    have f423 := ((f71.mono (K74 None)).mono (K421 None))
    refine Swp.loopM hl418 (fun (ss : (Big × Int)) (e : Env) (w' : World) => match ss with | (sum407, x410) => ∃ (v408 : Value) (u : Env), e = upds [(1, x_v), (2, (Value.pointer (some ⟨b1, 0, none⟩))), (5, (Value.pointer (some ⟨b66, 0, none⟩))), (36, c_v), (37, (Value.int .i64 (List.length c.Linear.Coefs : Int))), (38, (Value.int .i64 x410))] u ∧ Go.X.Loc [] [] w w' [some b1, some b66] [Cont.cells [(Value.int .i64 c.Linear.Const), c_v, (Value.bool c.Equal)], Cont.cells [(Value.bool sum407.Negative), v408]] ∧ Keep w.heap.size [some b66, some b1] w72 [some b1, some b66] w' ∧ Rs (rInt .u32) (Hv w.heap.size None [some b1, some b66] w') v408 sum407.Digits ∧ True) ⟨v59, _, (upds_sym ⟨rfl, ⟨rfl, ⟨rfl, ⟨rfl, ⟨rfl, ⟨rfl, trivial⟩⟩⟩⟩⟩⟩), hL422, K421, f423, trivial⟩ ?_
    rintro ⟨sum407, x410⟩ oo _ w424 ⟨v408, u, rfl, hL425, K426, k409, -⟩ h hd419
    rw [lawConstraint_b1] at h
    refine Swp.seq ?_
    refine Swp.region rfl ?_
    refine Rl.op (OpY.lss (x := x410) (y := (List.length c.Linear.Coefs : Int)) ((x410 : Int) < (List.length c.Linear.Coefs : Int)) rfl rfl Iff.rfl ?_)
    refine Rl.nil ?_
    refine Swp.seq ?_
    refine Swp.cond_d ((x410 : Int) < (List.length c.Linear.Coefs : Int)) rfl (fun hc427 => ?_) (fun hc427 => ?_)
    ·
     replace h := ite_t hc427 h
     refine Swp.skip ?_
     refine Swp.seq ?_
     refine Swp.block ?_
     refine Swp.seq ?_
     refine Swp.region rfl ?_
     obtain ⟨x428, q429, h⟩ := bind_some h
     obtain ⟨n430, q431, q432⟩ := idx_some q429
     have f441 := (f76.mono (K426 S))
     obtain ⟨b433, o434, c435, vs436, q437, q438, f439, q440⟩ := Rs.get f441 q432
     obtain ⟨rfl, -⟩ := rCoef_open q440
     refine Rl.op (OpY.ixRoD (r := rCoef) (v := c_v) (n := n430) (m := (o434 + n430 * rCoef.sz)) Try.underlying59 ti71 rfl q437 rfl q431 q432 rfl ?_)
     refine Rl.op (OpY.ldRoA (vs := [(Value.int .i64 x428.Var), (Value.int .i64 x428.N)]) Try.underlying71 rfl ti71 rfl rfl vw_view f439 ?_)
     refine Rl.op (OpY.alloc (cs := [(Value.int .i64 0), (Value.int .i64 0)]) ti71 rfl hL425 ?_)
     intro b442 w443 (hL444 : Go.X.Loc [] [] w w443 [some b442, some b1, some b66] [Cont.cells [(Value.int .i64 0), (Value.int .i64 0)], Cont.cells [(Value.int .i64 c.Linear.Const), c_v, (Value.bool c.Equal)], Cont.cells [(Value.bool sum407.Negative), v408]]) hS446
     have K445 := Keep.step (s := w.heap.size) hS446
     refine Rl.op0 (OpY.store (vs := [(Value.int .i64 x428.Var), (Value.int .i64 x428.N)]) ti71 rfl rfl rfl rfl (ones_cons rfl (ones_cons rfl ones_nil)) hL444 0 rfl rfl (Nat.le_of_ble_eq_true rfl) ?_)
     intro w447 (hL448 : Go.X.Loc [] [] w w447 [some b442, some b1, some b66] [Cont.cells [(Value.int .i64 x428.Var), (Value.int .i64 x428.N)], Cont.cells [(Value.int .i64 c.Linear.Const), c_v, (Value.bool c.Equal)], Cont.cells [(Value.bool sum407.Negative), v408]]) hS450
     have K449 := Keep.step (s := w.heap.size) hS450
     refine Rl.nil ?_
     obtain ⟨r451, q452, h⟩ := bind_some h
     obtain ⟨x456, q457, h⟩ := bind_some h
     obtain ⟨n458, q459, q460⟩ := idx_some q457
     have f469 := ((((((((x_h.mono (K4 S)).mono (K48 S)).mono (K64 S)).mono (K69 S)).mono (K74 S)).mono (K426 S)).mono (K445 S)).mono (K449 S))
     obtain ⟨b461, o462, c463, vs464, q465, q466, f467, q468⟩ := Rs.get f469 q460
     obtain rfl := q468
     obtain ⟨r470, q471, h⟩ := bind_some h
     obtain ⟨r475, q476, h⟩ := bind_some h
     refine Swp.drawL 12 [] [] (fun W1 => [.det (Value.agg #[(Value.bool sum407.Negative), v408]), .det (Value.pointer (some ⟨b442, 1, none⟩)), .det (Value.int .i64 x428.N), .rel (fun v Z w' => ∃ v453, (Value.agg #[(Value.bool r451.Negative), v453]) = v ∧ Rs (rInt .u32) (Zv W1 w.heap.size None [some b442, some b1, some b66] Z w') v453 r451.Digits ∧ True) (fun _ => []), .det x_v, .det (Value.pointer (some ⟨b442, 0, none⟩)), .det (Value.int .i64 x428.Var), .det (Value.pointer (some ⟨b461, (o462 + n458 * (rInt .i16).sz), none⟩)), .det (Value.int .i16 x456), .det (Value.int .i64 (iw x456)), .rel (fun v Z w' => ∃ v472, (Value.agg #[(Value.bool r470.Negative), v472]) = v ∧ Rs (rInt .u32) (Zv W1 w.heap.size None [some b442, some b1, some b66] Z w') v472 r470.Digits ∧ True) (fun _ => []), .rel (fun v Z w' => ∃ v477, (Value.agg #[(Value.bool r475.Negative), v477]) = v ∧ Rs (rInt .u32) (Zv W1 w.heap.size None [some b442, some b1, some b66] Z w') v477 r475.Digits ∧ True) (fun _ => [])]) mixed rfl rfl rfl (fun _ => rfl) (fun _ => rfl) ?_ ?_
     ·
      intro W1 _
      exact ⟨fun v Z Z' w w' hΦ hz _ _ hs => by obtain ⟨v453, rfl, k454, -⟩ := hΦ; exact ⟨v453, rfl, (k454.mono (Zv.stay hz hs)), trivial⟩, ⟨fun v Z Z' w w' hΦ hz _ _ hs => by obtain ⟨v472, rfl, k473, -⟩ := hΦ; exact ⟨v472, rfl, (k473.mono (Zv.stay hz hs)), trivial⟩, ⟨fun v Z Z' w w' hΦ hz _ _ hs => by obtain ⟨v477, rfl, k478, -⟩ := hΦ; exact ⟨v477, rfl, (k478.mono (Zv.stay hz hs)), trivial⟩, trivial⟩⟩⟩
     ·
      intro w480 hE481
      have hL482 := hL448.ext hE481
      have K483 := Keep.ext (s := w.heap.size) (O := [some b442, some b1, some b66]) hE481
      refine DrH.det ?_ ?_
      ·
       rintro w484 Z485 hE486 hZ487 ⟨-⟩
       have hL488 := hL482.ext hE486
       refine GOp.op (OpY.ldBoxA (vs := [(Value.bool sum407.Negative), v408]) Try.underlying26 rfl ti26 rfl (hL488.at 2 rfl rfl) rfl rfl ?_)
       exact ⟨Ext.refl _, rfl⟩
      refine DrH.det ?_ ?_
      ·
       rintro w490 Z491 hE492 hZ493 ⟨-⟩
       refine GOp.op (OpY.fieldAddr (q := 1) Try.underlying71 rfl ti2 rfl rfl rfl ?_)
       exact ⟨Ext.refl _, rfl⟩
      refine DrH.det ?_ ?_
      ·
       rintro w496 Z497 hE498 hZ499 ⟨-⟩
       have hL500 := hL482.ext hE498
       refine GOp.op (OpY.ldBox1 (v := (Value.int .i64 x428.N)) Try.underlying2 rfl rfl (hL500.at 0 rfl rfl) rfl ?_)
       exact ⟨Ext.refl _, rfl⟩
      refine DrH.rel ?_ ?_
      ·
       rintro w502 Z503 hE504 hZ505 ⟨-⟩
       refine GOp.op (OpY.call en24 rfl rfl (lbig_w N x428.N _ Any r451 q452) ?_)
       rintro _ w508 hE509 ⟨v453, rfl, k454, -⟩
       exact Made.ext hE509 hZ505 NewOwn.nil (fun _ h => h) ⟨v453, rfl, (k454.mono Zv.made), trivial⟩
      intro z3
      refine DrH.det ?_ ?_
      ·
       rintro w510 Z511 hE512 hZ513 ⟨-, -⟩
       refine GOp.op (OpY.move (v := x_v) rfl ?_)
       exact ⟨Ext.refl _, rfl⟩
      refine DrH.det ?_ ?_
      ·
       rintro w516 Z517 hE518 hZ519 ⟨-, -⟩
       refine GOp.op (OpY.fieldAddr (q := 0) Try.underlying71 rfl ti3 rfl rfl rfl ?_)
       exact ⟨Ext.refl _, rfl⟩
      refine DrH.det ?_ ?_
      ·
       rintro w522 Z523 hE524 hZ525 ⟨-, -⟩
       have hL526 := hL482.ext hE524
       refine GOp.op (OpY.ldBox1 (v := (Value.int .i64 x428.Var)) Try.underlying3 rfl rfl (hL526.at 0 rfl rfl) rfl ?_)
       exact ⟨Ext.refl _, rfl⟩
      refine DrH.det ?_ ?_
      ·
       rintro w528 Z529 hE530 hZ531 ⟨-, -⟩
       refine GOp.op (OpY.ixRoD (r := (rInt .i16)) (v := x_v) (n := n458) (m := (o462 + n458 * (rInt .i16).sz)) Try.underlying68 ti73 rfl q465 rfl q459 q460 rfl ?_)
       exact ⟨Ext.refl _, rfl⟩
      refine DrH.det ?_ ?_
      ·
       rintro w534 Z535 hE536 hZ537 ⟨-, -⟩
       have K539 := Keep.ext (s := w.heap.size) (O := [some b442, some b1, some b66]) hE536
       refine GOp.op (OpY.ldRo1 (v := (Value.int .i16 x456)) Try.underlying73 rfl rfl vw_view (At.mono (K539 S) (At.mono (K483 S) f467)) ?_)
       exact ⟨Ext.refl _, rfl⟩
      refine DrH.det ?_ ?_
      ·
       rintro w540 Z541 hE542 hZ543 ⟨-, -⟩
       refine GOp.op (OpY.convInt (x := x456) (z := (iw x456)) Try.underlying73 Try.underlying2 rfl rfl ?_)
       exact ⟨Ext.refl _, rfl⟩
      refine DrH.rel ?_ ?_
      ·
       rintro w546 Z547 hE548 hZ549 ⟨⟨⟨v453, rfl, k454, -⟩, hB3⟩, -⟩
       refine GOp.op (OpY.call en24 rfl rfl (lbig_w N (iw x456) _ Any r470 q471) ?_)
       rintro _ w552 hE553 ⟨v472, rfl, k473, -⟩
       exact Made.ext hE553 hZ549 NewOwn.nil (fun _ h => h) ⟨v472, rfl, (k473.mono Zv.made), trivial⟩
      intro z10
      refine DrH.rel ?_ ?_
      ·
       rintro w554 Z555 hE556 hZ557 ⟨⟨⟨v472, rfl, k473, -⟩, hB10⟩, ⟨⟨v453, rfl, k454, -⟩, hB3⟩, -⟩
       refine GOp.op (OpY.call en39 rfl rfl (rMul_w N r451 r470 v453 v472 _ Any (k454.mono vw_any) (k473.mono vw_any) r475 q476) ?_)
       rintro _ w560 hE561 ⟨v477, rfl, k478, -⟩
       exact Made.ext hE561 hZ557 NewOwn.nil (fun _ h => h) ⟨v477, rfl, (k478.mono Zv.made), trivial⟩
      intro z11
      refine DrH.fin0 ?_
      rintro w562 Z563 hE564 hZ565 ⟨⟨⟨v477, rfl, k478, -⟩, hB11⟩, ⟨⟨v472, rfl, k473, -⟩, hB10⟩, ⟨⟨v453, rfl, k454, -⟩, hB3⟩, -⟩ ap566
      have hB567 : ∀ b, some b ∈ ([] : List (Option Nat)) → w480.heap.size ≤ b ∧ ¬ Z563 b := by
       intro b hb; cases hb
      replace k478 := k478.mono (Zv.fin hL482 hZ565 hB567)
      replace k473 := k473.mono (Zv.fin hL482 hZ565 hB567)
      replace k454 := k454.mono (Zv.fin hL482 hZ565 hB567)
      have hL568 := hL482.ext hE564
      have K569 := Keep.ext (s := w.heap.size) (O := [some b442, some b1, some b66]) hE564
      obtain ⟨r570, q571, h⟩ := bind_some h
      have f575 := ((((k409.mono (K445 None)).mono (K449 None)).mono (K483 None)).mono (K569 None))
      refine Rl.op (OpY.call en38 rfl rfl (rAdd_w N sum407 r475 v408 v477 _ Any (f575.mono vw_any) (k478.mono vw_any) r570 q571) ?_)
      rintro _ w576 hE579 ⟨v572, rfl, k573, -⟩
      replace k573 := k573.mono (Hv.freshO (S := None) hL568 [])
      have hL577 := hL568.ext hE579
      have K578 := Keep.ext (s := w.heap.size) (O := [some b442, some b1, some b66]) hE579
      refine Rl.op0 (OpY.store (vs := [(Value.bool r570.Negative), v572]) ti26 rfl rfl rfl rfl (ones_cons rfl (ones_cons k573.one ones_nil)) hL577 2 rfl rfl (Nat.le_of_ble_eq_true rfl) ?_)
      intro w580 (hL581 : Go.X.Loc [] [] w w580 [some b442, some b1, some b66] [Cont.cells [(Value.int .i64 x428.Var), (Value.int .i64 x428.N)], Cont.cells [(Value.int .i64 c.Linear.Const), c_v, (Value.bool c.Equal)], Cont.cells [(Value.bool r570.Negative), v572]]) hS583
      have K582 := Keep.step (s := w.heap.size) hS583
      refine Rl.nil ?_
      refine Swp.pop_blk ?_
      refine Swp.region rfl ?_
      refine Rl.op (OpY.add (x := x410) (y := 1) (z := (iw (x410 + 1))) rfl rfl rfl ?_)
      refine Rl.op (OpY.move (v := (Value.int .i64 (iw (x410 + 1)))) rfl ?_)
      refine Rl.nil ?_
      have hp584 := hL581.pick [1, 2] rfl rfl rfl
      have hL586 : Go.X.Loc [] [] w w580 [some b1, some b66] [Cont.cells [(Value.int .i64 c.Linear.Const), c_v, (Value.bool c.Equal)], Cont.cells [(Value.bool r570.Negative), v572]] := hp584.1
      have K585 := Keep.step (s := w.heap.size) hp584.2
      have f587 := ((k573.mono (K582 None)).mono (K585 None))
      obtain rfl := Option.some.inj h
      refine Swp.pop_back ⟨(r570, (iw (x410 + 1))), rfl, ?_⟩
      exact ⟨v572, _, (upds_sym ⟨rfl, ⟨rfl, ⟨rfl, ⟨rfl, ⟨rfl, ⟨rfl, trivial⟩⟩⟩⟩⟩⟩), hL586, (Keep.trans (Keep.trans (Keep.trans (Keep.trans (Keep.trans (Keep.trans (Keep.trans K426 K445) K449) K483) K569) K578) K582) K585), f587, trivial⟩
    ·
     replace h := ite_f hc427 h
     refine Swp.exit rfl ?_
     obtain rfl := Option.some.inj h
     obtain rfl := hd419 _ rfl
     replace h := g417
     try dsimp only at h
     skip
     refine Swp.pop_back ?_
     exact ⟨sum407, v408, _, rfl, (upds_sym ⟨rfl, ⟨rfl, ⟨rfl, trivial⟩⟩⟩), hL425, K426, k409, trivial⟩
   ·
    rintro _ w588 ⟨sum413, v414, u, rfl, rfl, hL589, K590, k415, -⟩
    replace h := g417
    try dsimp only at h
    refine Swp.seq ?_
    refine Swp.region rfl ?_
    refine Rl.op (OpY.assign (v := (Value.slice none 0 0)) rfl ?_)
    refine Rl.nil ?_
    refine Swp.seq ?_
    refine Swp.seq ?_
    refine Swp.region rfl ?_
    refine Rl.op (OpY.move (v := x_v) rfl ?_)
    have f591 := ((((((x_h.mono (K4 S)).mono (K48 S)).mono (K64 S)).mono (K69 S)).mono (K74 S)).mono (K590 S))
    refine Rl.op (OpY.lenRo (v := x_v) Try.underlying68 rfl f591 ?_)
    refine Rl.op (OpY.move (v := (Value.int .i64 0)) rfl ?_)
    refine Rl.nil ?_
    obtain ⟨s739, hl741, g740⟩ := bind_some h
    refine Swp.join (fun e w' => ∃ (values735 : (List Big)) (ob731 : Option Nat) (cap732 : Nat) (sp733 : List Value) (cs734 : List Value) (ln738 : Nat) (u : Env), values735 = s739 ∧ e = upds [(1, x_v), (2, (Value.pointer (some ⟨b1, 0, none⟩))), (5, (Value.pointer (some ⟨b66, 0, none⟩))), (8, (osv ob731 0 ln738 cap732))] u ∧ Go.X.Loc [] [] w w' [some b1, some b66, ob731] [Cont.cells [(Value.int .i64 c.Linear.Const), c_v, (Value.bool c.Equal)], Cont.cells [(Value.bool sum413.Negative), v414], Cont.cells ([] ++ (cs734 ++ sp733))] ∧ Keep w.heap.size [some b1, some b66] w588 [some b1, some b66, ob731] w' ∧ Els rBig (Hv w.heap.size None [some b1, some b66, ob731] w') cs734 values735 ∧ ln738 = List.length values735 ∧ (cs734 ++ sp733).length = cap732 * rBig.sz ∧ True) ?_ ?_
    ·
     refine Swp.block ?_
     have hp743 := hL589.addNil
     have hL744 : Go.X.Loc [] [] w w588 [none, some b1, some b66] [Cont.cells ([] ++ ([] ++ [])), Cont.cells [(Value.int .i64 c.Linear.Const), c_v, (Value.bool c.Equal)], Cont.cells [(Value.bool sum413.Negative), v414]] := hp743.1
     have K745 := Keep.step (s := w.heap.size) hp743.2
     have hp747 := hL744.pick [1, 2, 0] rfl rfl rfl
     have hL749 : Go.X.Loc [] [] w w588 [some b1, some b66, none] [Cont.cells [(Value.int .i64 c.Linear.Const), c_v, (Value.bool c.Equal)], Cont.cells [(Value.bool sum413.Negative), v414], Cont.cells ([] ++ ([] ++ []))] := hp747.1
     have K748 := Keep.step (s := w.heap.size) hp747.2
     have f750 := ((Els.nil (r := rBig)).mono (K748 None))
     refine Swp.loopM hl741 (fun (ss : ((List Big) × Int)) (e : Env) (w' : World) => match ss with | (values723, x727) => ∃ (ob719 : Option Nat) (cap720 : Nat) (sp721 : List Value) (cs722 : List Value) (ln726 : Nat) (u : Env), e = upds [(1, x_v), (2, (Value.pointer (some ⟨b1, 0, none⟩))), (5, (Value.pointer (some ⟨b66, 0, none⟩))), (8, (osv ob719 0 ln726 cap720)), (56, x_v), (57, (Value.int .i64 (List.length x : Int))), (58, (Value.int .i64 x727))] u ∧ Go.X.Loc [] [] w w' [some b1, some b66, ob719] [Cont.cells [(Value.int .i64 c.Linear.Const), c_v, (Value.bool c.Equal)], Cont.cells [(Value.bool sum413.Negative), v414], Cont.cells ([] ++ (cs722 ++ sp721))] ∧ Keep w.heap.size [some b1, some b66] w588 [some b1, some b66, ob719] w' ∧ Els rBig (Hv w.heap.size None [some b1, some b66, ob719] w') cs722 values723 ∧ ln726 = List.length values723 ∧ (cs722 ++ sp721).length = cap720 * rBig.sz ∧ True) ⟨none, 0, [], [], (List.length ([] : (List Big))), _, (upds_sym ⟨rfl, ⟨rfl, ⟨rfl, ⟨rfl, ⟨rfl, ⟨rfl, ⟨rfl, trivial⟩⟩⟩⟩⟩⟩⟩), hL749, (Keep.trans K745 K748), f750, rfl, (show ([] ++ [] : List Value).length = 0 * rBig.sz by simp), trivial⟩ ?_
     rintro ⟨values723, x727⟩ oo _ w751 ⟨ob719, cap720, sp721, cs722, ln726, u, rfl, hL752, K753, hE724, rfl, hc725, -⟩ h hd742
     rw [lawConstraint_b2] at h
     refine Swp.seq ?_
     refine Swp.region rfl ?_
     refine Rl.op (OpY.lss (x := x727) (y := (List.length x : Int)) ((x727 : Int) < (List.length x : Int)) rfl rfl Iff.rfl ?_)
     refine Rl.nil ?_
     refine Swp.seq ?_
     refine Swp.cond_d ((x727 : Int) < (List.length x : Int)) rfl (fun hc754 => ?_) (fun hc754 => ?_)
     ·
      replace h := ite_t hc754 h
      refine Swp.skip ?_
      refine Swp.seq ?_
      refine Swp.block ?_
      refine Swp.seq ?_
      refine Swp.region rfl ?_
      obtain ⟨x755, q756, h⟩ := bind_some h
      obtain ⟨n757, q758, q759⟩ := idx_some q756
      have f768 := (f591.mono (K753 S))
      obtain ⟨b760, o761, c762, vs763, q764, q765, f766, q767⟩ := Rs.get f768 q759
      obtain rfl := q767
      refine Rl.op (OpY.ixRoD (r := (rInt .i16)) (v := x_v) (n := n757) (m := (o761 + n757 * (rInt .i16).sz)) Try.underlying68 ti73 rfl q764 rfl q758 q759 rfl ?_)
      refine Rl.op (OpY.ldRo1 (v := (Value.int .i16 x755)) Try.underlying73 rfl rfl vw_view f766 ?_)
      refine Rl.op (OpY.assign (v := (Value.int .i16 x755)) rfl ?_)
      refine Rl.nil ?_
      refine Swp.region rfl ?_
      refine Rl.op (OpY.move (v := (osv ob719 0 (List.length values723) cap720)) rfl ?_)
      refine Rl.op (OpY.move (v := (Value.int .i16 x755)) rfl ?_)
      refine Rl.op (OpY.convInt (x := x755) (z := (iw x755)) Try.underlying73 Try.underlying2 rfl rfl ?_)
      obtain ⟨r769, q770, h⟩ := bind_some h
      refine Rl.op (OpY.call en24 rfl rfl (lbig_w N (iw x755) _ Any r769 q770) ?_)
      rintro _ w774 hE777 ⟨v771, rfl, k772, -⟩
      replace k772 := k772.mono (Hv.freshO (S := None) hL752 [])
      have hL775 := hL752.ext hE777
      have K776 := Keep.ext (s := w.heap.size) (O := [some b1, some b66, ob719]) hE777
      have hE779 : Els rBig (Hv w.heap.size None [some b1, some b66, ob719] w774) [(Value.bool r769.Negative), v771] [r769] := (Els.cons (a := [(Value.bool r769.Negative), v771]) (rBig_close ⟨v771, rfl, k772, trivial⟩) Els.nil)
      refine Rl.op (OpY.litRow (r := rBig) (vs := [(Value.agg #[(Value.bool r769.Negative), v771])]) (css := [[(Value.bool r769.Negative), v771]]) (xs := [r769]) Try.underlying32 ti26 (Nat.le_of_ble_eq_true rfl) rfl rfl ⟨rfl, rfl, trivial⟩ (Nat.le_of_ble_eq_true rfl) hE779 rfl hL775 ?_)
      intro b778 w782 hc780 (hL783 : Go.X.Loc [] [] w w782 [some b778, some b1, some b66, ob719] [Cont.cells ([] ++ ([(Value.bool r769.Negative), v771] ++ [])), Cont.cells [(Value.int .i64 c.Linear.Const), c_v, (Value.bool c.Equal)], Cont.cells [(Value.bool sum413.Negative), v414], Cont.cells ([] ++ (cs722 ++ sp721))]) hS785
      have K784 := Keep.step (s := w.heap.size) hS785
      obtain ⟨x786, q787, h⟩ := bind_some h
      obtain ⟨q788, q789, q790⟩ := apnd_some q787
      have f791 := (hE779.mono (K784 None))
      have f799 := ((hE724.mono (K776 None)).mono (K784 None))
      refine Rl.op (OpY.apRowX (r := rBig) (H := (Hv w.heap.size None [some b778, some b1, some b66, ob719] w782)) (cs := cs722) (sp := sp721) (xs := values723) (ys := [r769]) (Y := x786) (n := (List.length values723)) (cap := cap720) (i := 3) Try.underlying32 ti26 rfl rfl rfl rfl hL783 rfl rfl f799 rfl hc725 (Src.row (pre := []) (o := 0) (n := 1) (cap := 1) (hL783.at 0 rfl rfl) f791 rfl rfl rfl) f791 q788 q789 q790 ?_)
      intro ob792 cap793 sp795 cs794 w800 hE796 hc797 (hL801 : Go.X.Loc [] [] w w800 [some b778, some b1, some b66, ob792] [Cont.cells ([] ++ ([(Value.bool r769.Negative), v771] ++ [])), Cont.cells [(Value.int .i64 c.Linear.Const), c_v, (Value.bool c.Equal)], Cont.cells [(Value.bool sum413.Negative), v414], Cont.cells ([] ++ (cs794 ++ sp795))]) hS803
      have K802 := Keep.step (s := w.heap.size) hS803
      refine Rl.op (OpY.assign (v := (osv ob792 0 (List.length x786) cap793)) rfl ?_)
      refine Rl.nil ?_
      refine Swp.pop_blk ?_
      refine Swp.region rfl ?_
      refine Rl.op (OpY.add (x := x727) (y := 1) (z := (iw (x727 + 1))) rfl rfl rfl ?_)
      refine Rl.op (OpY.move (v := (Value.int .i64 (iw (x727 + 1)))) rfl ?_)
      refine Rl.nil ?_
      have hp804 := hL801.pick [1, 2, 3] rfl rfl rfl
      have hL806 : Go.X.Loc [] [] w w800 [some b1, some b66, ob792] [Cont.cells [(Value.int .i64 c.Linear.Const), c_v, (Value.bool c.Equal)], Cont.cells [(Value.bool sum413.Negative), v414], Cont.cells ([] ++ (cs794 ++ sp795))] := hp804.1
      have K805 := Keep.step (s := w.heap.size) hp804.2
      have f807 := ((hE796.mono (K802 None)).mono (K805 None))
      obtain rfl := Option.some.inj h
      refine Swp.pop_back ⟨(x786, (iw (x727 + 1))), rfl, ?_⟩
      exact ⟨ob792, cap793, sp795, cs794, (List.length x786), _, (upds_sym ⟨rfl, ⟨rfl, ⟨rfl, ⟨rfl, ⟨rfl, ⟨rfl, ⟨rfl, trivial⟩⟩⟩⟩⟩⟩⟩), hL806, (Keep.trans (Keep.trans (Keep.trans (Keep.trans K753 K776) K784) K802) K805), f807, rfl, hc797, trivial⟩
     ·
      replace h := ite_f hc754 h
      refine Swp.exit rfl ?_
      obtain rfl := Option.some.inj h
      obtain rfl := hd742 _ rfl
      replace h := g740
      try dsimp only at h
      skip
      refine Swp.pop_back ?_
      exact ⟨values723, ob719, cap720, sp721, cs722, (List.length values723), _, rfl, (upds_sym ⟨rfl, ⟨rfl, ⟨rfl, ⟨rfl, trivial⟩⟩⟩⟩), hL752, K753, hE724, rfl, hc725, trivial⟩
    ·
     rintro _ w808 ⟨values735, ob731, cap732, sp733, cs734, ln738, u, rfl, rfl, hL809, K810, hE736, rfl, hc737, -⟩
     replace h := g740
     try dsimp only at h
     refine Swp.seq ?_
     refine Swp.region rfl ?_
     refine Rl.op (OpY.assign (v := (Value.bool true)) rfl ?_)
     refine Rl.nil ?_
     refine Swp.seq ?_
     refine Swp.seq ?_
     refine Swp.region rfl ?_
     refine Rl.op (OpY.ldBoxA (vs := [(Value.int .i64 c.Linear.Const), c_v, (Value.bool c.Equal)]) Try.underlying63 rfl ti63 rfl (hL809.at 0 rfl rfl) rfl rfl ?_)
     refine Rl.op (OpY.move (v := x_v) rfl ?_)
     have f811 := (f591.mono (K810 S))
     refine Rl.op (OpY.lenRo (v := x_v) Try.underlying68 rfl f811 ?_)
     obtain ⟨r812, q813, h⟩ := bind_some h
     have f822 := ((f76.mono (K590 S)).mono (K810 S))
     refine Rl.op (OpY.call en32 rfl rfl (cOf_w N c (List.length x : Int) c_v _ Any (f822.mono vw_any) r812 q813) ?_)
     rintro _ w823 hE826 ⟨ob814, cap815, cs816, sp817, rfl, hN821, hE818, hc819, -⟩
     replace hE818 := hE818.mono (Hv.freshO (S := None) hL809 [ob814])
     have hp827 := hL809.adoptL hE826 hN821
     have hL824 : Go.X.Loc [] [] w w823 [ob814, some b1, some b66, ob731] [Cont.cells ([] ++ (cs816 ++ sp817)), Cont.cells [(Value.int .i64 c.Linear.Const), c_v, (Value.bool c.Equal)], Cont.cells [(Value.bool sum413.Negative), v414], Cont.cells ([] ++ (cs734 ++ sp733))] := hp827.1
     have K825 := Keep.step (s := w.heap.size) hp827.2
     refine Rl.op (OpY.lenRow (pre := []) (r := rIneq) (xs := r812) Try.underlying22 rfl (hL824.at 0 rfl rfl) hE818 rfl rfl ?_)
     refine Rl.op (OpY.move (v := (Value.int .i64 0)) rfl ?_)
     refine Rl.nil ?_
     obtain ⟨s932, hl934, g933⟩ := bind_some h
     refine Swp.join (fun e w' => ∃ (all931 : Bool) (u : Env), all931 = s932 ∧ e = upds [(2, (Value.pointer (some ⟨b1, 0, none⟩))), (5, (Value.pointer (some ⟨b66, 0, none⟩))), (11, (Value.bool all931))] u ∧ Go.X.Loc [] [] w w' [some b1, some b66] [Cont.cells [(Value.int .i64 c.Linear.Const), c_v, (Value.bool c.Equal)], Cont.cells [(Value.bool sum413.Negative), v414]] ∧ Keep w.heap.size [ob814, some b1, some b66, ob731] w823 [some b1, some b66] w' ∧ True) ?_ ?_
     ·
      refine Swp.block ?_
      have hp936 := hL824.pick [1, 2, 3, 0] rfl rfl rfl
      have hL938 : Go.X.Loc [] [] w w823 [some b1, some b66, ob731, ob814] [Cont.cells [(Value.int .i64 c.Linear.Const), c_v, (Value.bool c.Equal)], Cont.cells [(Value.bool sum413.Negative), v414], Cont.cells ([] ++ (cs734 ++ sp733)), Cont.cells ([] ++ (cs816 ++ sp817))] := hp936.1
      have K937 := Keep.step (s := w.heap.size) hp936.2
      refine Swp.loopM hl934 (fun (ss : (Bool × Int)) (e : Env) (w' : World) => match ss with | (all926, x928) => ∃ (u : Env), e = upds [(2, (Value.pointer (some ⟨b1, 0, none⟩))), (5, (Value.pointer (some ⟨b66, 0, none⟩))), (8, (osv ob731 0 (List.length values735) cap732)), (11, (Value.bool all926)), (72, (osv ob814 0 (List.length r812) cap815)), (73, (Value.int .i64 (List.length r812 : Int))), (74, (Value.int .i64 x928))] u ∧ Go.X.Loc [] [] w w' [some b1, some b66, ob731, ob814] [Cont.cells [(Value.int .i64 c.Linear.Const), c_v, (Value.bool c.Equal)], Cont.cells [(Value.bool sum413.Negative), v414], Cont.cells ([] ++ (cs734 ++ sp733)), Cont.cells ([] ++ (cs816 ++ sp817))] ∧ Keep w.heap.size [ob814, some b1, some b66, ob731] w823 [some b1, some b66, ob731, ob814] w' ∧ True) ⟨_, (upds_sym ⟨rfl, ⟨rfl, ⟨rfl, ⟨rfl, ⟨rfl, ⟨rfl, ⟨rfl, trivial⟩⟩⟩⟩⟩⟩⟩), hL938, K937, trivial⟩ ?_
      rintro ⟨all926, x928⟩ oo _ w939 ⟨u, rfl, hL940, K941, -⟩ h hd935
      rw [lawConstraint_b3] at h
      refine Swp.seq ?_
      refine Swp.region rfl ?_
      refine Rl.op (OpY.lss (x := x928) (y := (List.length r812 : Int)) ((x928 : Int) < (List.length r812 : Int)) rfl rfl Iff.rfl ?_)
      refine Rl.nil ?_
      refine Swp.seq ?_
      refine Swp.cond_d ((x928 : Int) < (List.length r812 : Int)) rfl (fun hc942 => ?_) (fun hc942 => ?_)
      ·
       replace h := ite_t hc942 h
       refine Swp.skip ?_
       refine Swp.seq ?_
       refine Swp.block ?_
       refine Swp.seq ?_
       refine Swp.region rfl ?_
       obtain ⟨x943, q944, h⟩ := bind_some h
       obtain ⟨n945, q946, q947⟩ := idx_some q944
       have q948 := (List.getElem?_eq_some_iff.1 q947).1
       have f951 := (hE818.mono (K941 None))
       obtain ⟨b949, hb950⟩ := hL940.row_some 3 rfl rfl (row_pos (pre := []) f951 q947 (Nat.lt_of_sub_eq_succ rfl))
       refine Rl.op (OpY.ixRowD (r := rIneq) (b := b949) (o := 0) (n := n945) (m := (List.length r812)) (xs := r812) (q := (0 + n945 * rIneq.sz)) Try.underlying22 ti34 (osv_some hb950) rfl rfl q946 q948 rfl ?_)
       obtain ⟨vs956, q957, q958, q959⟩ := row_elem (pre := []) (sp := sp817) f951 q947
       obtain ⟨v952, v954, rfl, k953, k955, -⟩ := rIneq_open q958
       refine Rl.op (OpY.ldBoxA (vs := [v952, (Value.bool x943.Bound.Negative), v954]) Try.underlying34 rfl ti34 rfl (own_some hb950 (hL940.at 3 rfl rfl)) rfl q959 ?_)
       refine Rl.op (OpY.alloc (cs := [(Value.slice none 0 0), (Value.bool false), (Value.slice none 0 0)]) ti34 rfl hL940 ?_)
       intro b960 w961 (hL962 : Go.X.Loc [] [] w w961 [some b960, some b1, some b66, ob731, ob814] [Cont.cells [(Value.slice none 0 0), (Value.bool false), (Value.slice none 0 0)], Cont.cells [(Value.int .i64 c.Linear.Const), c_v, (Value.bool c.Equal)], Cont.cells [(Value.bool sum413.Negative), v414], Cont.cells ([] ++ (cs734 ++ sp733)), Cont.cells ([] ++ (cs816 ++ sp817))]) hS964
       have K963 := Keep.step (s := w.heap.size) hS964
       have f965 := (k955.mono (K963 None))
       have f966 := (k953.mono (K963 None))
       refine Rl.op0 (OpY.store (vs := [v952, (Value.bool x943.Bound.Negative), v954]) ti34 rfl rfl rfl rfl (ones_cons f966.one (ones_cons rfl (ones_cons f965.one ones_nil))) hL962 0 rfl rfl (Nat.le_of_ble_eq_true rfl) ?_)
       intro w967 (hL968 : Go.X.Loc [] [] w w967 [some b960, some b1, some b66, ob731, ob814] [Cont.cells [v952, (Value.bool x943.Bound.Negative), v954], Cont.cells [(Value.int .i64 c.Linear.Const), c_v, (Value.bool c.Equal)], Cont.cells [(Value.bool sum413.Negative), v414], Cont.cells ([] ++ (cs734 ++ sp733)), Cont.cells ([] ++ (cs816 ++ sp817))]) hS970
       have K969 := Keep.step (s := w.heap.size) hS970
       refine Rl.nil ?_
       refine Swp.region rfl ?_
       refine Rl.op (OpY.move (v := (Value.bool all926)) rfl ?_)
       refine Rl.op (OpY.move (v := (Value.bool all926)) rfl ?_)
       by_cases hc971 : all926 = true
       ·
        replace h := ite_t hc971 h
        refine Rl.yes (dj := 79) (b' := all926) rfl rfl hc971 (OpY.ldBoxA (vs := [v952, (Value.bool x943.Bound.Negative), v954]) Try.underlying34 rfl ti34 rfl (hL968.at 0 rfl rfl) rfl rfl ?_)
        refine Rl.yes (dj := 79) (b' := all926) rfl rfl hc971 (OpY.move (v := (osv ob731 0 (List.length values735) cap732)) rfl ?_)
        obtain ⟨r972, q973, h⟩ := bind_some h
        have f975 := (f966.mono (K969 None))
        have f976 := (f965.mono (K969 None))
        have f977 := ((((hE736.mono (K825 None)).mono (K941 None)).mono (K963 None)).mono (K969 None))
        refine Rl.yes (dj := 79) (b' := all926) rfl rfl hc971 (OpY.call en28 rfl rfl (cHolds_w N x943 values735 v952 v954 (osv ob731 0 (List.length values735) cap732) _ Any (f975.mono vw_any) (f976.mono vw_any) (own_row_any (pre := []) (o := 0) (n := (List.length values735)) (cap := cap732) (hL968.at 3 rfl rfl) f977 vw_any rfl rfl rfl hc737) r972 q973) ?_)
        rintro _ w978 hE981 ⟨rfl, -⟩
        have hL979 := hL968.ext hE981
        have K980 := Keep.ext (s := w.heap.size) (O := [some b960, some b1, some b66, ob731, ob814]) hE981
        refine Rl.op (OpY.pick_t (t := all926) (v := (Value.bool r972)) rfl hc971 rfl ?_)
        refine Rl.op (OpY.assign (v := (Value.bool r972)) rfl ?_)
        refine Rl.nil ?_
        refine Swp.pop_blk ?_
        refine Swp.region rfl ?_
        refine Rl.op (OpY.add (x := x928) (y := 1) (z := (iw (x928 + 1))) rfl rfl rfl ?_)
        refine Rl.op (OpY.move (v := (Value.int .i64 (iw (x928 + 1)))) rfl ?_)
        refine Rl.nil ?_
        have hp982 := hL979.pick [1, 2, 3, 4] rfl rfl rfl
        have hL984 : Go.X.Loc [] [] w w978 [some b1, some b66, ob731, ob814] [Cont.cells [(Value.int .i64 c.Linear.Const), c_v, (Value.bool c.Equal)], Cont.cells [(Value.bool sum413.Negative), v414], Cont.cells ([] ++ (cs734 ++ sp733)), Cont.cells ([] ++ (cs816 ++ sp817))] := hp982.1
        have K983 := Keep.step (s := w.heap.size) hp982.2
        obtain rfl := Option.some.inj h
        refine Swp.pop_back ⟨(r972, (iw (x928 + 1))), rfl, ?_⟩
        exact ⟨_, (upds_sym ⟨rfl, ⟨rfl, ⟨rfl, ⟨rfl, ⟨rfl, ⟨rfl, ⟨rfl, trivial⟩⟩⟩⟩⟩⟩⟩), hL984, (Keep.trans (Keep.trans (Keep.trans (Keep.trans K941 K963) K969) K980) K983), trivial⟩
       ·
        replace h := ite_f hc971 h
        refine Rl.no (dj := 79) (b' := all926) rfl rfl (eq_false_of_ne_true hc971) ?_
        refine Rl.no (dj := 79) (b' := all926) rfl rfl (eq_false_of_ne_true hc971) ?_
        refine Rl.no (dj := 79) (b' := all926) rfl rfl (eq_false_of_ne_true hc971) ?_
        refine Rl.op (OpY.pick_f (t := all926) (v := (Value.bool false)) rfl (eq_false_of_ne_true hc971) rfl ?_)
        refine Rl.op (OpY.assign (v := (Value.bool false)) rfl ?_)
        refine Rl.nil ?_
        refine Swp.pop_blk ?_
        refine Swp.region rfl ?_
        refine Rl.op (OpY.add (x := x928) (y := 1) (z := (iw (x928 + 1))) rfl rfl rfl ?_)
        refine Rl.op (OpY.move (v := (Value.int .i64 (iw (x928 + 1)))) rfl ?_)
        refine Rl.nil ?_
        have hp985 := hL968.pick [1, 2, 3, 4] rfl rfl rfl
        have hL987 : Go.X.Loc [] [] w w967 [some b1, some b66, ob731, ob814] [Cont.cells [(Value.int .i64 c.Linear.Const), c_v, (Value.bool c.Equal)], Cont.cells [(Value.bool sum413.Negative), v414], Cont.cells ([] ++ (cs734 ++ sp733)), Cont.cells ([] ++ (cs816 ++ sp817))] := hp985.1
        have K986 := Keep.step (s := w.heap.size) hp985.2
        obtain rfl := Option.some.inj h
        refine Swp.pop_back ⟨(false, (iw (x928 + 1))), rfl, ?_⟩
        exact ⟨_, (upds_sym ⟨rfl, ⟨rfl, ⟨rfl, ⟨rfl, ⟨rfl, ⟨rfl, ⟨rfl, trivial⟩⟩⟩⟩⟩⟩⟩), hL987, (Keep.trans (Keep.trans (Keep.trans K941 K963) K969) K986), trivial⟩
      ·
       replace h := ite_f hc942 h
       refine Swp.exit rfl ?_
       have hp988 := hL940.pick [0, 1] rfl rfl rfl
       have hL990 : Go.X.Loc [] [] w w939 [some b1, some b66] [Cont.cells [(Value.int .i64 c.Linear.Const), c_v, (Value.bool c.Equal)], Cont.cells [(Value.bool sum413.Negative), v414]] := hp988.1
       have K989 := Keep.step (s := w.heap.size) hp988.2
       obtain rfl := Option.some.inj h
       obtain rfl := hd935 _ rfl
       replace h := g933
       try dsimp only at h
       skip
       refine Swp.pop_back ?_
       exact ⟨all926, _, rfl, (upds_sym ⟨rfl, ⟨rfl, ⟨rfl, trivial⟩⟩⟩), hL990, (Keep.trans K941 K989), trivial⟩
     ·
      rintro _ w991 ⟨all931, u, rfl, rfl, hL992, K993, -⟩
      replace h := g933
      try dsimp only at h
      refine Swp.seq ?_
      refine Swp.region rfl ?_
      refine Rl.op (OpY.ldBoxA (vs := [(Value.bool sum413.Negative), v414]) Try.underlying26 rfl ti26 rfl (hL992.at 1 rfl rfl) rfl rfl ?_)
      obtain ⟨r994, q995, h⟩ := bind_some h
      have f997 := (((k415.mono (K810 None)).mono (K825 None)).mono (K993 None))
      refine Rl.op (OpY.call en40 rfl rfl (rSign_w N sum413 v414 _ Any (f997.mono vw_any) r994 q995) ?_)
      rintro _ w998 hE1001 ⟨rfl, -⟩
      have hL999 := hL992.ext hE1001
      refine Rl.op (OpY.assign (v := (Value.int .i64 r994)) rfl ?_)
      refine Rl.nil ?_
      refine Swp.seq ?_
      refine Swp.region rfl ?_
      refine Rl.op (OpY.move (v := (Value.bool all931)) rfl ?_)
      refine Rl.op (OpY.move (v := (Value.int .i64 r994)) rfl ?_)
      refine Rl.op (OpY.eql (x := r994) (y := 0) ((r994 : Int) = 0) rfl rfl Iff.rfl ?_)
      refine Rl.op (OpY.move (v := (Value.bool (decide ((r994 : Int) = 0)))) rfl ?_)
      by_cases hc1002 : (r994 : Int) = 0
      ·
       replace h := ite_t hc1002 h
       refine Rl.no (dj := 90) (b' := (decide ((r994 : Int) = 0))) rfl rfl (decide_eq_true hc1002) ?_
       refine Rl.no (dj := 90) (b' := (decide ((r994 : Int) = 0))) rfl rfl (decide_eq_true hc1002) ?_
       refine Rl.no (dj := 90) (b' := (decide ((r994 : Int) = 0))) rfl rfl (decide_eq_true hc1002) ?_
       refine Rl.no_undef (dj := 93) rfl rfl ?_
       refine Rl.no_undef (dj := 93) rfl rfl ?_
       refine Rl.no_undef (dj := 93) rfl rfl ?_
       refine Rl.no (dj := 90) (b' := (decide ((r994 : Int) = 0))) rfl rfl (decide_eq_true hc1002) ?_
       refine Rl.op (OpY.pick_t (t := (decide ((r994 : Int) = 0))) (v := (Value.bool true)) rfl (decide_eq_true hc1002) rfl ?_)
       refine Rl.op (OpY.eqlBool (x := all931) (y := true) Try.underlying4 rfl rfl ?_)
       refine Rl.op (OpY.assign (v := (Value.bool (all931 == true))) rfl ?_)
       refine Rl.nil ?_
       refine Swp.ret ?_
       obtain rfl := Option.some.inj h
       refine ⟨[(Value.bool (all931 == true))], ⟨rfl, trivial⟩, ⟨_, rfl, hL999.done, ?_⟩⟩
       exact ⟨rfl, trivial⟩
      ·
       replace h := ite_f hc1002 h
       refine Rl.yes (dj := 90) (b' := (decide ((r994 : Int) = 0))) rfl rfl (decide_eq_false hc1002) (OpY.move (v := (Value.int .i64 r994)) rfl ?_)
       refine Rl.yes (dj := 90) (b' := (decide ((r994 : Int) = 0))) rfl rfl (decide_eq_false hc1002) (OpY.lss (x := r994) (y := 0) ((r994 : Int) < 0) rfl rfl Iff.rfl ?_)
       refine Rl.yes (dj := 90) (b' := (decide ((r994 : Int) = 0))) rfl rfl (decide_eq_false hc1002) (OpY.move (v := (Value.bool (decide ((r994 : Int) < 0)))) rfl ?_)
       by_cases hc1003 : (r994 : Int) < 0
       ·
        replace h := ite_t hc1003 h
        refine Rl.yes (dj := 93) (b' := (decide ((r994 : Int) < 0))) rfl rfl (decide_eq_true hc1003) (OpY.fieldAddr (q := 2) Try.underlying63 rfl ti4 rfl rfl rfl ?_)
        refine Rl.yes (dj := 93) (b' := (decide ((r994 : Int) < 0))) rfl rfl (decide_eq_true hc1003) (OpY.ldBox1 (v := (Value.bool c.Equal)) Try.underlying4 rfl rfl (hL999.at 0 rfl rfl) rfl ?_)
        refine Rl.yes (dj := 93) (b' := (decide ((r994 : Int) < 0))) rfl rfl (decide_eq_true hc1003) (OpY.not (x := c.Equal) rfl ?_)
        refine Rl.yes (dj := 90) (b' := (decide ((r994 : Int) = 0))) rfl rfl (decide_eq_false hc1002) (OpY.pick_t (t := (decide ((r994 : Int) < 0))) (v := (Value.bool (!c.Equal))) rfl (decide_eq_true hc1003) rfl ?_)
        refine Rl.op (OpY.pick_f (t := (decide ((r994 : Int) = 0))) (v := (Value.bool (!c.Equal))) rfl (decide_eq_false hc1002) rfl ?_)
        refine Rl.op (OpY.eqlBool (x := all931) (y := (!c.Equal)) Try.underlying4 rfl rfl ?_)
        refine Rl.op (OpY.assign (v := (Value.bool (all931 == (!c.Equal)))) rfl ?_)
        refine Rl.nil ?_
        refine Swp.ret ?_
        obtain rfl := Option.some.inj h
        refine ⟨[(Value.bool (all931 == (!c.Equal)))], ⟨rfl, trivial⟩, ⟨_, rfl, hL999.done, ?_⟩⟩
        exact ⟨rfl, trivial⟩
       ·
        replace h := ite_f hc1003 h
        refine Rl.no (dj := 93) (b' := (decide ((r994 : Int) < 0))) rfl rfl (decide_eq_false hc1003) ?_
        refine Rl.no (dj := 93) (b' := (decide ((r994 : Int) < 0))) rfl rfl (decide_eq_false hc1003) ?_
        refine Rl.no (dj := 93) (b' := (decide ((r994 : Int) < 0))) rfl rfl (decide_eq_false hc1003) ?_
        refine Rl.yes (dj := 90) (b' := (decide ((r994 : Int) = 0))) rfl rfl (decide_eq_false hc1002) (OpY.pick_f (t := (decide ((r994 : Int) < 0))) (v := (Value.bool false)) rfl (decide_eq_false hc1003) rfl ?_)
        refine Rl.op (OpY.pick_f (t := (decide ((r994 : Int) = 0))) (v := (Value.bool false)) rfl (decide_eq_false hc1002) rfl ?_)
        refine Rl.op (OpY.eqlBool (x := all931) (y := false) Try.underlying4 rfl rfl ?_)
        refine Rl.op (OpY.assign (v := (Value.bool (all931 == false))) rfl ?_)
        refine Rl.nil ?_
        refine Swp.ret ?_
        obtain rfl := Option.some.inj h
        refine ⟨[(Value.bool (all931 == false))], ⟨rfl, trivial⟩, ⟨_, rfl, hL999.done, ?_⟩⟩
        exact ⟨rfl, trivial⟩
end Go.Proofs.Ytakkacdhlocckaa.WL

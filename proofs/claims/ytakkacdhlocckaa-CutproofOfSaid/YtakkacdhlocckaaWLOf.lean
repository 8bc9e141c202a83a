/- Walks, written by a program of mine (wip/tool); the kernel checks them. -/
import Derived.Test.YtakkacdhlocckaaProg
import Derived.Test.YtakkacdhlocckaaZ7
import Derived.Test.YtakkacdhlocckaaPL
import Derived.Test.YtakkacdhlocckaaWAOf
import Derived.Test.YtakkacdhlocckaaWROf
import Derived.Test.YtakkacdhlocckaaWBOf
import Derived.Test.YtakkacdhlocckaaWCOf
import Derived.Test.YtakkacdhlocckaaWDOf
set_option maxRecDepth 100000
set_option maxHeartbeats 4000000
set_option linter.unusedVariables false
namespace Go.Proofs.Ytakkacdhlocckaa.WL
open Go Go.RowKit Go.X Go.D Go.Proofs.Ytakkacdhlocckaa.WA Go.Proofs.Ytakkacdhlocckaa.WR Go.Proofs.Ytakkacdhlocckaa.WB Go.Proofs.Ytakkacdhlocckaa.WC Go.Proofs.Ytakkacdhlocckaa.WD
theorem mixed : Try.prog.follows .mixedOrders = true := by kernel_rfl
theorem ti26 : TI Try.prog 26 2 32 (Value.agg #[(Value.bool false), (Value.slice none 0 0)]) := TI.mk (by kernel_rfl)
theorem en37 : Enters Try.prog 37 := ⟨Try.f37, Try.func37, by kernel_rfl, by kernel_rfl⟩
theorem ti34 : TI Try.prog 34 3 56 (Value.agg #[(Value.slice none 0 0), (Value.bool false), (Value.slice none 0 0)]) := TI.mk (by kernel_rfl)
theorem en24 : Enters Try.prog 24 := ⟨Try.f24, Try.func24, by kernel_rfl, by kernel_rfl⟩
theorem pl34 : placesT Try.prog 34 = some [(0, 1), (1, 2)] := by kernel_rfl
theorem ti50 : TI Try.prog 50 3 40 (Value.agg #[(Value.int .i64 0), (Value.bool false), (Value.slice none 0 0)]) := TI.mk (by kernel_rfl)
theorem pl50 : placesT Try.prog 50 = some [(0, 1), (1, 2)] := by kernel_rfl
theorem en41 : Enters Try.prog 41 := ⟨Try.f41, Try.func41, by kernel_rfl, by kernel_rfl⟩
theorem en42 : Enters Try.prog 42 := ⟨Try.f42, Try.func42, by kernel_rfl, by kernel_rfl⟩
theorem pl28 : placesT Try.prog 28 = some [(0, 1), (1, 2)] := by kernel_rfl
theorem ti28 : TI Try.prog 28 3 56 (Value.agg #[(Value.slice none 0 0), (Value.bool false), (Value.slice none 0 0)]) := TI.mk (by kernel_rfl)
theorem pl42 : placesT Try.prog 42 = some [(0, 1), (1, 1), (2, 2), (4, 1)] := by kernel_rfl
theorem ti42 : TI Try.prog 42 5 104 (Value.agg #[(Value.slice none 0 0), (Value.slice none 0 0), (Value.bool false), (Value.slice none 0 0), (Value.slice none 0 0)]) := TI.mk (by kernel_rfl)
theorem en20 : Enters Try.prog 20 := ⟨Try.f20, Try.func20, by kernel_rfl, by kernel_rfl⟩
theorem en18 : Enters Try.prog 18 := ⟨Try.f18, Try.func18, by kernel_rfl, by kernel_rfl⟩
theorem en21 : Enters Try.prog 21 := ⟨Try.f21, Try.func21, by kernel_rfl, by kernel_rfl⟩
theorem en11 : Enters Try.prog 11 := ⟨Try.f11, Try.func11, by kernel_rfl, by kernel_rfl⟩
theorem en14 : Enters Try.prog 14 := ⟨Try.f14, Try.func14, by kernel_rfl, by kernel_rfl⟩
theorem ti39 : TI Try.prog 39 1 24 (Value.slice none 0 0) := TI.mk (by kernel_rfl)
theorem ti40 : TI Try.prog 40 1 24 (Value.slice none 0 0) := TI.mk (by kernel_rfl)
theorem ti32 : TI Try.prog 32 1 24 (Value.slice none 0 0) := TI.mk (by kernel_rfl)
theorem ti24 : TI Try.prog 24 1 24 (Value.slice none 0 0) := TI.mk (by kernel_rfl)
theorem en23 : Enters Try.prog 23 := ⟨Try.f23, Try.func23, by kernel_rfl, by kernel_rfl⟩
theorem ti23 : TI Try.prog 23 1 24 (Value.slice none 0 0) := TI.mk (by kernel_rfl)
theorem ti3 : TI Try.prog 3 1 8 (Value.int .i64 0) := TI.mk (by kernel_rfl)
theorem en29 : Enters Try.prog 29 := ⟨Try.f29, Try.func29, by kernel_rfl, by kernel_rfl⟩
theorem ti63 : TI Try.prog 63 3 40 (Value.agg #[(Value.int .i64 0), (Value.slice none 0 0), (Value.bool false)]) := TI.mk (by kernel_rfl)
theorem ti61 : TI Try.prog 61 2 32 (Value.agg #[(Value.int .i64 0), (Value.slice none 0 0)]) := TI.mk (by kernel_rfl)
theorem ti59 : TI Try.prog 59 1 24 (Value.slice none 0 0) := TI.mk (by kernel_rfl)
theorem en32 : Enters Try.prog 32 := ⟨Try.f32, Try.func32, by kernel_rfl, by kernel_rfl⟩
theorem en33 : Enters Try.prog 33 := ⟨Try.f33, Try.func33, by kernel_rfl, by kernel_rfl⟩
theorem en31 : Enters Try.prog 31 := ⟨Try.f31, Try.func31, by kernel_rfl, by kernel_rfl⟩
theorem en34 : Enters Try.prog 34 := ⟨Try.f34, Try.func34, by kernel_rfl, by kernel_rfl⟩
theorem en35 : Enters Try.prog 35 := ⟨Try.f35, Try.func35, by kernel_rfl, by kernel_rfl⟩
theorem en36 : Enters Try.prog 36 := ⟨Try.f36, Try.func36, by kernel_rfl, by kernel_rfl⟩
theorem ti2 : TI Try.prog 2 1 8 (Value.int .i64 0) := TI.mk (by kernel_rfl)
theorem ti71 : TI Try.prog 71 2 16 (Value.agg #[(Value.int .i64 0), (Value.int .i64 0)]) := TI.mk (by kernel_rfl)
theorem ti4 : TI Try.prog 4 1 1 (Value.bool false) := TI.mk (by kernel_rfl)
theorem lbig_w (N : Nat) (n : Int)  (w : World) (S : Nat → Prop)  (r : Big) (h : lbig N n = some r) :
  Calls Try.prog 24 #[(Value.int .i64 n)] w (Ret w (fun v w' => ∃ (v0_0 : Value), (Value.agg #[(Value.bool r.Negative), v0_0]) = v ∧ Rs (rInt .u32) (Hv w.heap.size None [] w') v0_0 r.Digits ∧ True)) := by
 unfold lbig at h
 have hL : Go.X.Loc [] [] w w [] [] := Go.X.Loc.begin0 w
 refine calls_of (l := [(Value.int .i64 n)]) (rl := [.cell 2 26]) (n := 5) Try.func24 rfl rfl rfl (Nat.le_of_ble_eq_true rfl) ?_
 refine Swp.seq ?_
 refine Swp.region rfl ?_
 refine Rl.op (OpY.alloc (cs := [(Value.bool false), (Value.slice none 0 0)]) ti26 rfl hL ?_)
 intro b1 w2 (hL3 : Go.X.Loc [] [] w w2 [some b1] [Cont.cells [(Value.bool false), (Value.slice none 0 0)]]) hS5
 refine Rl.nil ?_
 refine Swp.seq ?_
 refine Swp.region rfl ?_
 refine Rl.op (OpY.move (v := (Value.int .i64 n)) rfl ?_)
 obtain ⟨r6, q7, h⟩ := bind_some h
 refine Rl.op (OpY.call en37 rfl rfl (rOf_w N n _ Any r6 q7) ?_)
 rintro _ w11 hE14 ⟨v8, rfl, k9, -⟩
 replace k9 := k9.mono (Hv.freshO (S := None) hL3 [])
 have hL12 := hL3.ext hE14
 refine Rl.op0 (OpY.store (vs := [(Value.bool r6.Negative), v8]) ti26 rfl rfl rfl rfl (ones_cons rfl (ones_cons k9.one ones_nil)) hL12 0 rfl rfl (Nat.le_of_ble_eq_true rfl) ?_)
 intro w15 (hL16 : Go.X.Loc [] [] w w15 [some b1] [Cont.cells [(Value.bool r6.Negative), v8]]) hS18
 have K17 := Keep.step (s := w.heap.size) hS18
 refine Rl.nil ?_
 refine Swp.ret ?_
 obtain rfl := Option.some.inj h
 refine ⟨[(Value.agg #[(Value.bool r6.Negative), v8])], ⟨⟨⟨b1, 0, none⟩, rfl, res_boxA Try.underlying26 rfl ti26 (hL16.at 0 rfl rfl) rfl⟩, trivial⟩, ⟨_, rfl, hL16.done, ?_⟩⟩
 have f19 := (k9.mono (K17 None))
 exact ⟨v8, rfl, (f19.mono Hv.out), trivial⟩
theorem linequality_w (N : Nat) (coef : Int) (bound : Int)  (w : World) (S : Nat → Prop)  (r : Ineq) (h : linequality N coef bound = some r) :
  Calls Try.prog 41 #[(Value.int .i64 coef), (Value.int .i64 bound)] w (Ret w (fun v w' => ∃ (v0_0 : Value) (v0_1 : Value), (Value.agg #[v0_0, (Value.bool r.Bound.Negative), v0_1]) = v ∧ Rs rBig (Hv w.heap.size None [] w') v0_0 r.Coefs ∧ Rs (rInt .u32) (Hv w.heap.size None [] w') v0_1 r.Bound.Digits ∧ True)) := by
 unfold linequality at h
 have hL : Go.X.Loc [] [] w w [] [] := Go.X.Loc.begin0 w
 refine calls_of (l := [(Value.int .i64 coef), (Value.int .i64 bound)]) (rl := [.cell 4 34]) (n := 11) Try.func41 rfl rfl rfl (Nat.le_of_ble_eq_true rfl) ?_
 refine Swp.seq ?_
 refine Swp.region rfl ?_
 refine Rl.op (OpY.alloc (cs := [(Value.slice none 0 0), (Value.bool false), (Value.slice none 0 0)]) ti34 rfl hL ?_)
 intro b1 w2 (hL3 : Go.X.Loc [] [] w w2 [some b1] [Cont.cells [(Value.slice none 0 0), (Value.bool false), (Value.slice none 0 0)]]) hS5
 refine Rl.nil ?_
 refine Swp.seq ?_
 refine Swp.region rfl ?_
 refine Rl.op (OpY.move (v := (Value.int .i64 coef)) rfl ?_)
 obtain ⟨r6, q7, h⟩ := bind_some h
 refine Rl.op (OpY.call en24 rfl rfl (lbig_w N coef _ Any r6 q7) ?_)
 rintro _ w11 hE14 ⟨v8, rfl, k9, -⟩
 replace k9 := k9.mono (Hv.freshO (S := None) hL3 [])
 have hL12 := hL3.ext hE14
 have hE16 : Els rBig (Hv w.heap.size None [some b1] w11) [(Value.bool r6.Negative), v8] [r6] := (Els.cons (a := [(Value.bool r6.Negative), v8]) (rBig_close ⟨v8, rfl, k9, trivial⟩) Els.nil)
 refine Rl.op (OpY.litRow (r := rBig) (vs := [(Value.agg #[(Value.bool r6.Negative), v8])]) (css := [[(Value.bool r6.Negative), v8]]) (xs := [r6]) Try.underlying32 ti26 (Nat.le_of_ble_eq_true rfl) rfl rfl ⟨rfl, rfl, trivial⟩ (Nat.le_of_ble_eq_true rfl) hE16 rfl hL12 ?_)
 intro b15 w19 hc17 (hL20 : Go.X.Loc [] [] w w19 [some b15, some b1] [Cont.cells ([] ++ ([(Value.bool r6.Negative), v8] ++ [])), Cont.cells [(Value.slice none 0 0), (Value.bool false), (Value.slice none 0 0)]]) hS22
 have K21 := Keep.step (s := w.heap.size) hS22
 refine Rl.op (OpY.move (v := (Value.int .i64 bound)) rfl ?_)
 obtain ⟨r23, q24, h⟩ := bind_some h
 refine Rl.op (OpY.call en24 rfl rfl (lbig_w N bound _ Any r23 q24) ?_)
 rintro _ w28 hE31 ⟨v25, rfl, k26, -⟩
 replace k26 := k26.mono (Hv.freshO (S := None) hL20 [])
 have hL29 := hL20.ext hE31
 have K30 := Keep.ext (s := w.heap.size) (O := [some b15, some b1]) hE31
 refine Rl.op (OpY.build (zc := [(Value.slice none 0 0), (Value.bool false), (Value.slice none 0 0)]) (cs := [(osv (some b15) 0 1 1), (Value.bool r23.Negative), v25]) (is := [0, 1]) (vs := [(osv (some b15) 0 1 1), (Value.agg #[(Value.bool r23.Negative), v25])]) (css := [[(osv (some b15) 0 1 1)], [(Value.bool r23.Negative), v25]]) pl34 ti34 rfl rfl rfl ⟨(one_cells (osv_one _ _ _ _)), ⟨rfl, trivial⟩⟩ rfl ?_)
 refine Rl.op0 (OpY.store (vs := [(osv (some b15) 0 1 1), (Value.bool r23.Negative), v25]) ti34 rfl rfl rfl rfl (ones_cons (osv_one _ _ _ _) (ones_cons rfl (ones_cons k26.one ones_nil))) hL29 1 rfl rfl (Nat.le_of_ble_eq_true rfl) ?_)
 intro w32 (hL33 : Go.X.Loc [] [] w w32 [some b15, some b1] [Cont.cells ([] ++ ([(Value.bool r6.Negative), v8] ++ [])), Cont.cells [(osv (some b15) 0 1 1), (Value.bool r23.Negative), v25]]) hS35
 have K34 := Keep.step (s := w.heap.size) hS35
 refine Rl.nil ?_
 have f37 := (((hE16.mono (K21 None)).mono (K30 None)).mono (K34 None))
 have f36 := hL33.freezeRow 0 rfl rfl f37 rfl rfl rfl hc17
 have hp38 := hL33.pick [1] rfl rfl rfl
 have hL40 : Go.X.Loc [] [] w w32 [some b1] [Cont.cells [(osv (some b15) 0 1 1), (Value.bool r23.Negative), v25]] := hp38.1
 have K39 := Keep.step (s := w.heap.size) hp38.2
 refine Swp.ret ?_
 obtain rfl := Option.some.inj h
 refine ⟨[(Value.agg #[(osv (some b15) 0 1 1), (Value.bool r23.Negative), v25])], ⟨⟨⟨b1, 0, none⟩, rfl, res_boxA Try.underlying34 rfl ti34 (hL40.at 0 rfl rfl) rfl⟩, trivial⟩, ⟨_, rfl, hL40.done, ?_⟩⟩
 have f41 := ((k26.mono (K34 None)).mono (K39 None))
 exact ⟨(osv (some b15) 0 1 1), v25, rfl, (f36.mono Hv.out), (f41.mono Hv.out), trivial⟩
theorem luse_w (N : Nat) (i : Int) (n : Int)  (w : World) (S : Nat → Prop)  (r : Use) (h : luse N i n = some r) :
  Calls Try.prog 42 #[(Value.int .i64 i), (Value.int .i64 n)] w (Ret w (fun v w' => ∃ (v0_0 : Value), (Value.agg #[(Value.int .i64 r.Index), (Value.bool r.N.Negative), v0_0]) = v ∧ Rs (rInt .u32) (Hv w.heap.size None [] w') v0_0 r.N.Digits ∧ True)) := by
 unfold luse at h
 have hL : Go.X.Loc [] [] w w [] [] := Go.X.Loc.begin0 w
 refine calls_of (l := [(Value.int .i64 i), (Value.int .i64 n)]) (rl := [.cell 4 50]) (n := 9) Try.func42 rfl rfl rfl (Nat.le_of_ble_eq_true rfl) ?_
 refine Swp.seq ?_
 refine Swp.region rfl ?_
 refine Rl.op (OpY.alloc (cs := [(Value.int .i64 0), (Value.bool false), (Value.slice none 0 0)]) ti50 rfl hL ?_)
 intro b1 w2 (hL3 : Go.X.Loc [] [] w w2 [some b1] [Cont.cells [(Value.int .i64 0), (Value.bool false), (Value.slice none 0 0)]]) hS5
 refine Rl.nil ?_
 refine Swp.seq ?_
 refine Swp.region rfl ?_
 refine Rl.op (OpY.move (v := (Value.int .i64 i)) rfl ?_)
 refine Rl.op (OpY.move (v := (Value.int .i64 n)) rfl ?_)
 obtain ⟨r6, q7, h⟩ := bind_some h
 refine Rl.op (OpY.call en24 rfl rfl (lbig_w N n _ Any r6 q7) ?_)
 rintro _ w11 hE14 ⟨v8, rfl, k9, -⟩
 replace k9 := k9.mono (Hv.freshO (S := None) hL3 [])
 have hL12 := hL3.ext hE14
 refine Rl.op (OpY.build (zc := [(Value.int .i64 0), (Value.bool false), (Value.slice none 0 0)]) (cs := [(Value.int .i64 i), (Value.bool r6.Negative), v8]) (is := [0, 1]) (vs := [(Value.int .i64 i), (Value.agg #[(Value.bool r6.Negative), v8])]) (css := [[(Value.int .i64 i)], [(Value.bool r6.Negative), v8]]) pl50 ti50 rfl rfl rfl ⟨rfl, ⟨rfl, trivial⟩⟩ rfl ?_)
 refine Rl.op0 (OpY.store (vs := [(Value.int .i64 i), (Value.bool r6.Negative), v8]) ti50 rfl rfl rfl rfl (ones_cons rfl (ones_cons rfl (ones_cons k9.one ones_nil))) hL12 0 rfl rfl (Nat.le_of_ble_eq_true rfl) ?_)
 intro w15 (hL16 : Go.X.Loc [] [] w w15 [some b1] [Cont.cells [(Value.int .i64 i), (Value.bool r6.Negative), v8]]) hS18
 have K17 := Keep.step (s := w.heap.size) hS18
 refine Rl.nil ?_
 refine Swp.ret ?_
 obtain rfl := Option.some.inj h
 refine ⟨[(Value.agg #[(Value.int .i64 i), (Value.bool r6.Negative), v8])], ⟨⟨⟨b1, 0, none⟩, rfl, res_boxA Try.underlying50 rfl ti50 (hL16.at 0 rfl rfl) rfl⟩, trivial⟩, ⟨_, rfl, hL16.done, ?_⟩⟩
 have f19 := (k9.mono (K17 None))
 exact ⟨v8, rfl, (f19.mono Hv.out), trivial⟩
theorem awake_w (N : Nat)   (w : World) (S : Nat → Prop)  (r : Bool) (h : awake N  = some r) :
  Calls Try.prog 11 #[] w (Ret w (fun v w' => (Value.bool r) = v ∧ True)) := by
 unfold awake at h
 have hL : Go.X.Loc [] [] w w [] [] := Go.X.Loc.begin0 w
 refine calls_of (l := []) (rl := [.tmp 0]) (n := 84) Try.func11 rfl rfl rfl (Nat.le_of_ble_eq_true rfl) ?_
 refine Swp.seq ?_
 refine Swp.region rfl ?_
 refine Rl.op (OpY.assign (v := (Value.bool false)) rfl ?_)
 refine Rl.nil ?_
 refine Swp.seq ?_
 refine Swp.region rfl ?_
 obtain ⟨r1, q2, h⟩ := bind_some h
 refine Rl.op (OpY.call en41 rfl rfl (linequality_w N 1 2 _ Any r1 q2) ?_)
 rintro _ w8 hE11 ⟨v3, v5, rfl, k4, k6, -⟩
 replace k4 := k4.mono (Hv.freshO (S := None) hL [])
 replace k6 := k6.mono (Hv.freshO (S := None) hL [])
 have hL9 := hL.ext hE11
 obtain ⟨r12, q13, h⟩ := bind_some h
 refine Rl.op (OpY.call en41 rfl rfl (linequality_w N (-1) (-5) _ Any r12 q13) ?_)
 rintro _ w19 hE22 ⟨v14, v16, rfl, k15, k17, -⟩
 replace k15 := k15.mono (Hv.freshO (S := None) hL9 [])
 replace k17 := k17.mono (Hv.freshO (S := None) hL9 [])
 have hL20 := hL9.ext hE22
 have K21 := Keep.ext (s := w.heap.size) (O := []) hE22
 have f27 := (k4.mono (K21 None))
 have f28 := (k6.mono (K21 None))
 have hE24 : Els rIneq (Hv w.heap.size None [] w19) [v3, (Value.bool r1.Bound.Negative), v5, v14, (Value.bool r12.Bound.Negative), v16] [r1, r12] := (Els.cons (a := [v3, (Value.bool r1.Bound.Negative), v5]) (rIneq_close ⟨v3, v5, rfl, f27, f28, trivial⟩) (Els.cons (a := [v14, (Value.bool r12.Bound.Negative), v16]) (rIneq_close ⟨v14, v16, rfl, k15, k17, trivial⟩) Els.nil))
 refine Rl.op (OpY.litRow (r := rIneq) (vs := [(Value.agg #[v3, (Value.bool r1.Bound.Negative), v5]), (Value.agg #[v14, (Value.bool r12.Bound.Negative), v16])]) (css := [[v3, (Value.bool r1.Bound.Negative), v5], [v14, (Value.bool r12.Bound.Negative), v16]]) (xs := [r1, r12]) Try.underlying22 ti34 (Nat.le_of_ble_eq_true rfl) rfl rfl ⟨rfl, rfl, ⟨rfl, rfl, trivial⟩⟩ (Nat.le_of_ble_eq_true rfl) hE24 rfl hL20 ?_)
 intro b23 w29 hc25 (hL30 : Go.X.Loc [] [] w w29 [some b23] [Cont.cells ([] ++ ([v3, (Value.bool r1.Bound.Negative), v5, v14, (Value.bool r12.Bound.Negative), v16] ++ []))]) hS32
 have K31 := Keep.step (s := w.heap.size) hS32
 refine Rl.op (OpY.assign (v := (osv (some b23) 0 2 2)) rfl ?_)
 refine Rl.nil ?_
 refine Swp.seq ?_
 refine Swp.region rfl ?_
 obtain ⟨r33, q34, h⟩ := bind_some h
 refine Rl.op (OpY.call en41 rfl rfl (linequality_w N 2 5 _ Any r33 q34) ?_)
 rintro _ w40 hE43 ⟨v35, v37, rfl, k36, k38, -⟩
 replace k36 := k36.mono (Hv.freshO (S := None) hL30 [])
 replace k38 := k38.mono (Hv.freshO (S := None) hL30 [])
 have hL41 := hL30.ext hE43
 have K42 := Keep.ext (s := w.heap.size) (O := [some b23]) hE43
 obtain ⟨r44, q45, h⟩ := bind_some h
 refine Rl.op (OpY.call en41 rfl rfl (linequality_w N (-2) (-5) _ Any r44 q45) ?_)
 rintro _ w51 hE54 ⟨v46, v48, rfl, k47, k49, -⟩
 replace k47 := k47.mono (Hv.freshO (S := None) hL41 [])
 replace k49 := k49.mono (Hv.freshO (S := None) hL41 [])
 have hL52 := hL41.ext hE54
 have K53 := Keep.ext (s := w.heap.size) (O := [some b23]) hE54
 have f59 := (k36.mono (K53 None))
 have f60 := (k38.mono (K53 None))
 have hE56 : Els rIneq (Hv w.heap.size None [some b23] w51) [v35, (Value.bool r33.Bound.Negative), v37, v46, (Value.bool r44.Bound.Negative), v48] [r33, r44] := (Els.cons (a := [v35, (Value.bool r33.Bound.Negative), v37]) (rIneq_close ⟨v35, v37, rfl, f59, f60, trivial⟩) (Els.cons (a := [v46, (Value.bool r44.Bound.Negative), v48]) (rIneq_close ⟨v46, v48, rfl, k47, k49, trivial⟩) Els.nil))
 refine Rl.op (OpY.litRow (r := rIneq) (vs := [(Value.agg #[v35, (Value.bool r33.Bound.Negative), v37]), (Value.agg #[v46, (Value.bool r44.Bound.Negative), v48])]) (css := [[v35, (Value.bool r33.Bound.Negative), v37], [v46, (Value.bool r44.Bound.Negative), v48]]) (xs := [r33, r44]) Try.underlying22 ti34 (Nat.le_of_ble_eq_true rfl) rfl rfl ⟨rfl, rfl, ⟨rfl, rfl, trivial⟩⟩ (Nat.le_of_ble_eq_true rfl) hE56 rfl hL52 ?_)
 intro b55 w61 hc57 (hL62 : Go.X.Loc [] [] w w61 [some b55, some b23] [Cont.cells ([] ++ ([v35, (Value.bool r33.Bound.Negative), v37, v46, (Value.bool r44.Bound.Negative), v48] ++ [])), Cont.cells ([] ++ ([v3, (Value.bool r1.Bound.Negative), v5, v14, (Value.bool r12.Bound.Negative), v16] ++ []))]) hS64
 have K63 := Keep.step (s := w.heap.size) hS64
 refine Rl.op (OpY.assign (v := (osv (some b55) 0 2 2)) rfl ?_)
 refine Rl.nil ?_
 refine Swp.seq ?_
 refine Swp.region rfl ?_
 obtain ⟨r65, q66, h⟩ := bind_some h
 refine Rl.op (OpY.call en41 rfl rfl (linequality_w N 3 4 _ Any r65 q66) ?_)
 rintro _ w72 hE75 ⟨v67, v69, rfl, k68, k70, -⟩
 replace k68 := k68.mono (Hv.freshO (S := None) hL62 [])
 replace k70 := k70.mono (Hv.freshO (S := None) hL62 [])
 have hL73 := hL62.ext hE75
 have K74 := Keep.ext (s := w.heap.size) (O := [some b55, some b23]) hE75
 obtain ⟨r76, q77, h⟩ := bind_some h
 refine Rl.op (OpY.call en41 rfl rfl (linequality_w N (-3) (-4) _ Any r76 q77) ?_)
 rintro _ w83 hE86 ⟨v78, v80, rfl, k79, k81, -⟩
 replace k79 := k79.mono (Hv.freshO (S := None) hL73 [])
 replace k81 := k81.mono (Hv.freshO (S := None) hL73 [])
 have hL84 := hL73.ext hE86
 have K85 := Keep.ext (s := w.heap.size) (O := [some b55, some b23]) hE86
 have f91 := (k68.mono (K85 None))
 have f92 := (k70.mono (K85 None))
 have hE88 : Els rIneq (Hv w.heap.size None [some b55, some b23] w83) [v67, (Value.bool r65.Bound.Negative), v69, v78, (Value.bool r76.Bound.Negative), v80] [r65, r76] := (Els.cons (a := [v67, (Value.bool r65.Bound.Negative), v69]) (rIneq_close ⟨v67, v69, rfl, f91, f92, trivial⟩) (Els.cons (a := [v78, (Value.bool r76.Bound.Negative), v80]) (rIneq_close ⟨v78, v80, rfl, k79, k81, trivial⟩) Els.nil))
 refine Rl.op (OpY.litRow (r := rIneq) (vs := [(Value.agg #[v67, (Value.bool r65.Bound.Negative), v69]), (Value.agg #[v78, (Value.bool r76.Bound.Negative), v80])]) (css := [[v67, (Value.bool r65.Bound.Negative), v69], [v78, (Value.bool r76.Bound.Negative), v80]]) (xs := [r65, r76]) Try.underlying22 ti34 (Nat.le_of_ble_eq_true rfl) rfl rfl ⟨rfl, rfl, ⟨rfl, rfl, trivial⟩⟩ (Nat.le_of_ble_eq_true rfl) hE88 rfl hL84 ?_)
 intro b87 w93 hc89 (hL94 : Go.X.Loc [] [] w w93 [some b87, some b55, some b23] [Cont.cells ([] ++ ([v67, (Value.bool r65.Bound.Negative), v69, v78, (Value.bool r76.Bound.Negative), v80] ++ [])), Cont.cells ([] ++ ([v35, (Value.bool r33.Bound.Negative), v37, v46, (Value.bool r44.Bound.Negative), v48] ++ [])), Cont.cells ([] ++ ([v3, (Value.bool r1.Bound.Negative), v5, v14, (Value.bool r12.Bound.Negative), v16] ++ []))]) hS96
 have K95 := Keep.step (s := w.heap.size) hS96
 refine Rl.op (OpY.assign (v := (osv (some b87) 0 2 2)) rfl ?_)
 refine Rl.nil ?_
 refine Swp.seq ?_
 refine Swp.region rfl ?_
 obtain ⟨r97, q98, h⟩ := bind_some h
 refine Rl.op (OpY.call en42 rfl rfl (luse_w N 0 1 _ Any r97 q98) ?_)
 rintro _ w102 hE105 ⟨v99, rfl, k100, -⟩
 replace k100 := k100.mono (Hv.freshO (S := None) hL94 [])
 have hL103 := hL94.ext hE105
 have K104 := Keep.ext (s := w.heap.size) (O := [some b87, some b55, some b23]) hE105
 have hE107 : Els rUse (Hv w.heap.size None [some b87, some b55, some b23] w102) [(Value.int .i64 r97.Index), (Value.bool r97.N.Negative), v99] [r97] := (Els.cons (a := [(Value.int .i64 r97.Index), (Value.bool r97.N.Negative), v99]) (rUse_close ⟨v99, rfl, k100, trivial⟩) Els.nil)
 refine Rl.op (OpY.litRow (r := rUse) (vs := [(Value.agg #[(Value.int .i64 r97.Index), (Value.bool r97.N.Negative), v99])]) (css := [[(Value.int .i64 r97.Index), (Value.bool r97.N.Negative), v99]]) (xs := [r97]) Try.underlying23 ti50 (Nat.le_of_ble_eq_true rfl) rfl rfl ⟨rfl, rfl, trivial⟩ (Nat.le_of_ble_eq_true rfl) hE107 rfl hL103 ?_)
 intro b106 w110 hc108 (hL111 : Go.X.Loc [] [] w w110 [some b106, some b87, some b55, some b23] [Cont.cells ([] ++ ([(Value.int .i64 r97.Index), (Value.bool r97.N.Negative), v99] ++ [])), Cont.cells ([] ++ ([v67, (Value.bool r65.Bound.Negative), v69, v78, (Value.bool r76.Bound.Negative), v80] ++ [])), Cont.cells ([] ++ ([v35, (Value.bool r33.Bound.Negative), v37, v46, (Value.bool r44.Bound.Negative), v48] ++ [])), Cont.cells ([] ++ ([v3, (Value.bool r1.Bound.Negative), v5, v14, (Value.bool r12.Bound.Negative), v16] ++ []))]) hS113
 have K112 := Keep.step (s := w.heap.size) hS113
 obtain ⟨r114, q115, h⟩ := bind_some h
 refine Rl.op (OpY.call en24 rfl rfl (lbig_w N 2 _ Any r114 q115) ?_)
 rintro _ w119 hE122 ⟨v116, rfl, k117, -⟩
 replace k117 := k117.mono (Hv.freshO (S := None) hL111 [])
 have hL120 := hL111.ext hE122
 have K121 := Keep.ext (s := w.heap.size) (O := [some b106, some b87, some b55, some b23]) hE122
 refine Rl.op (OpY.build (zc := [(Value.slice none 0 0), (Value.bool false), (Value.slice none 0 0)]) (cs := [(osv (some b106) 0 1 1), (Value.bool r114.Negative), v116]) (is := [0, 1]) (vs := [(osv (some b106) 0 1 1), (Value.agg #[(Value.bool r114.Negative), v116])]) (css := [[(osv (some b106) 0 1 1)], [(Value.bool r114.Negative), v116]]) pl28 ti28 rfl rfl rfl ⟨(one_cells (osv_one _ _ _ _)), ⟨rfl, trivial⟩⟩ rfl ?_)
 obtain ⟨r123, q124, h⟩ := bind_some h
 refine Rl.op (OpY.call en42 rfl rfl (luse_w N 1 1 _ Any r123 q124) ?_)
 rintro _ w128 hE131 ⟨v125, rfl, k126, -⟩
 replace k126 := k126.mono (Hv.freshO (S := None) hL120 [])
 have hL129 := hL120.ext hE131
 have K130 := Keep.ext (s := w.heap.size) (O := [some b106, some b87, some b55, some b23]) hE131
 have hE133 : Els rUse (Hv w.heap.size None [some b106, some b87, some b55, some b23] w128) [(Value.int .i64 r123.Index), (Value.bool r123.N.Negative), v125] [r123] := (Els.cons (a := [(Value.int .i64 r123.Index), (Value.bool r123.N.Negative), v125]) (rUse_close ⟨v125, rfl, k126, trivial⟩) Els.nil)
 refine Rl.op (OpY.litRow (r := rUse) (vs := [(Value.agg #[(Value.int .i64 r123.Index), (Value.bool r123.N.Negative), v125])]) (css := [[(Value.int .i64 r123.Index), (Value.bool r123.N.Negative), v125]]) (xs := [r123]) Try.underlying23 ti50 (Nat.le_of_ble_eq_true rfl) rfl rfl ⟨rfl, rfl, trivial⟩ (Nat.le_of_ble_eq_true rfl) hE133 rfl hL129 ?_)
 intro b132 w136 hc134 (hL137 : Go.X.Loc [] [] w w136 [some b132, some b106, some b87, some b55, some b23] [Cont.cells ([] ++ ([(Value.int .i64 r123.Index), (Value.bool r123.N.Negative), v125] ++ [])), Cont.cells ([] ++ ([(Value.int .i64 r97.Index), (Value.bool r97.N.Negative), v99] ++ [])), Cont.cells ([] ++ ([v67, (Value.bool r65.Bound.Negative), v69, v78, (Value.bool r76.Bound.Negative), v80] ++ [])), Cont.cells ([] ++ ([v35, (Value.bool r33.Bound.Negative), v37, v46, (Value.bool r44.Bound.Negative), v48] ++ [])), Cont.cells ([] ++ ([v3, (Value.bool r1.Bound.Negative), v5, v14, (Value.bool r12.Bound.Negative), v16] ++ []))]) hS139
 have K138 := Keep.step (s := w.heap.size) hS139
 obtain ⟨r140, q141, h⟩ := bind_some h
 refine Rl.op (OpY.call en24 rfl rfl (lbig_w N 2 _ Any r140 q141) ?_)
 rintro _ w145 hE148 ⟨v142, rfl, k143, -⟩
 replace k143 := k143.mono (Hv.freshO (S := None) hL137 [])
 have hL146 := hL137.ext hE148
 have K147 := Keep.ext (s := w.heap.size) (O := [some b132, some b106, some b87, some b55, some b23]) hE148
 refine Rl.op (OpY.build (zc := [(Value.slice none 0 0), (Value.bool false), (Value.slice none 0 0)]) (cs := [(osv (some b132) 0 1 1), (Value.bool r140.Negative), v142]) (is := [0, 1]) (vs := [(osv (some b132) 0 1 1), (Value.agg #[(Value.bool r140.Negative), v142])]) (css := [[(osv (some b132) 0 1 1)], [(Value.bool r140.Negative), v142]]) pl28 ti28 rfl rfl rfl ⟨(one_cells (osv_one _ _ _ _)), ⟨rfl, trivial⟩⟩ rfl ?_)
 obtain ⟨r149, q150, h⟩ := bind_some h
 refine Rl.op (OpY.call en42 rfl rfl (luse_w N 2 1 _ Any r149 q150) ?_)
 rintro _ w154 hE157 ⟨v151, rfl, k152, -⟩
 replace k152 := k152.mono (Hv.freshO (S := None) hL146 [])
 have hL155 := hL146.ext hE157
 have K156 := Keep.ext (s := w.heap.size) (O := [some b132, some b106, some b87, some b55, some b23]) hE157
 obtain ⟨r158, q159, h⟩ := bind_some h
 refine Rl.op (OpY.call en42 rfl rfl (luse_w N 3 1 _ Any r158 q159) ?_)
 rintro _ w163 hE166 ⟨v160, rfl, k161, -⟩
 replace k161 := k161.mono (Hv.freshO (S := None) hL155 [])
 have hL164 := hL155.ext hE166
 have K165 := Keep.ext (s := w.heap.size) (O := [some b132, some b106, some b87, some b55, some b23]) hE166
 have f171 := (k152.mono (K165 None))
 have hE168 : Els rUse (Hv w.heap.size None [some b132, some b106, some b87, some b55, some b23] w163) [(Value.int .i64 r149.Index), (Value.bool r149.N.Negative), v151, (Value.int .i64 r158.Index), (Value.bool r158.N.Negative), v160] [r149, r158] := (Els.cons (a := [(Value.int .i64 r149.Index), (Value.bool r149.N.Negative), v151]) (rUse_close ⟨v151, rfl, f171, trivial⟩) (Els.cons (a := [(Value.int .i64 r158.Index), (Value.bool r158.N.Negative), v160]) (rUse_close ⟨v160, rfl, k161, trivial⟩) Els.nil))
 refine Rl.op (OpY.litRow (r := rUse) (vs := [(Value.agg #[(Value.int .i64 r149.Index), (Value.bool r149.N.Negative), v151]), (Value.agg #[(Value.int .i64 r158.Index), (Value.bool r158.N.Negative), v160])]) (css := [[(Value.int .i64 r149.Index), (Value.bool r149.N.Negative), v151], [(Value.int .i64 r158.Index), (Value.bool r158.N.Negative), v160]]) (xs := [r149, r158]) Try.underlying23 ti50 (Nat.le_of_ble_eq_true rfl) rfl rfl ⟨rfl, rfl, ⟨rfl, rfl, trivial⟩⟩ (Nat.le_of_ble_eq_true rfl) hE168 rfl hL164 ?_)
 intro b167 w172 hc169 (hL173 : Go.X.Loc [] [] w w172 [some b167, some b132, some b106, some b87, some b55, some b23] [Cont.cells ([] ++ ([(Value.int .i64 r149.Index), (Value.bool r149.N.Negative), v151, (Value.int .i64 r158.Index), (Value.bool r158.N.Negative), v160] ++ [])), Cont.cells ([] ++ ([(Value.int .i64 r123.Index), (Value.bool r123.N.Negative), v125] ++ [])), Cont.cells ([] ++ ([(Value.int .i64 r97.Index), (Value.bool r97.N.Negative), v99] ++ [])), Cont.cells ([] ++ ([v67, (Value.bool r65.Bound.Negative), v69, v78, (Value.bool r76.Bound.Negative), v80] ++ [])), Cont.cells ([] ++ ([v35, (Value.bool r33.Bound.Negative), v37, v46, (Value.bool r44.Bound.Negative), v48] ++ [])), Cont.cells ([] ++ ([v3, (Value.bool r1.Bound.Negative), v5, v14, (Value.bool r12.Bound.Negative), v16] ++ []))]) hS175
 have K174 := Keep.step (s := w.heap.size) hS175
 obtain ⟨r176, q177, h⟩ := bind_some h
 refine Rl.op (OpY.call en24 rfl rfl (lbig_w N 1 _ Any r176 q177) ?_)
 rintro _ w181 hE184 ⟨v178, rfl, k179, -⟩
 replace k179 := k179.mono (Hv.freshO (S := None) hL173 [])
 have hL182 := hL173.ext hE184
 have K183 := Keep.ext (s := w.heap.size) (O := [some b167, some b132, some b106, some b87, some b55, some b23]) hE184
 refine Rl.op (OpY.build (zc := [(Value.slice none 0 0), (Value.bool false), (Value.slice none 0 0)]) (cs := [(osv (some b167) 0 2 2), (Value.bool r176.Negative), v178]) (is := [0, 1]) (vs := [(osv (some b167) 0 2 2), (Value.agg #[(Value.bool r176.Negative), v178])]) (css := [[(osv (some b167) 0 2 2)], [(Value.bool r176.Negative), v178]]) pl28 ti28 rfl rfl rfl ⟨(one_cells (osv_one _ _ _ _)), ⟨rfl, trivial⟩⟩ rfl ?_)
 have f187 := (((((((((hE107.mono (K112 None)).mono (K121 None)).mono (K130 None)).mono (K138 None)).mono (K147 None)).mono (K156 None)).mono (K165 None)).mono (K174 None)).mono (K183 None))
 have f186 := hL182.freezeRow 2 rfl rfl f187 rfl rfl rfl hc108
 have hp188 := hL182.pick [0, 1, 3, 4, 5] rfl rfl rfl
 have hL190 : Go.X.Loc [] [] w w181 [some b167, some b132, some b87, some b55, some b23] [Cont.cells ([] ++ ([(Value.int .i64 r149.Index), (Value.bool r149.N.Negative), v151, (Value.int .i64 r158.Index), (Value.bool r158.N.Negative), v160] ++ [])), Cont.cells ([] ++ ([(Value.int .i64 r123.Index), (Value.bool r123.N.Negative), v125] ++ [])), Cont.cells ([] ++ ([v67, (Value.bool r65.Bound.Negative), v69, v78, (Value.bool r76.Bound.Negative), v80] ++ [])), Cont.cells ([] ++ ([v35, (Value.bool r33.Bound.Negative), v37, v46, (Value.bool r44.Bound.Negative), v48] ++ [])), Cont.cells ([] ++ ([v3, (Value.bool r1.Bound.Negative), v5, v14, (Value.bool r12.Bound.Negative), v16] ++ []))] := hp188.1
 have K189 := Keep.step (s := w.heap.size) hp188.2
 have f192 := (((((((hE133.mono (K138 None)).mono (K147 None)).mono (K156 None)).mono (K165 None)).mono (K174 None)).mono (K183 None)).mono (K189 None))
 have f191 := hL190.freezeRow 1 rfl rfl f192 rfl rfl rfl hc134
 have hp193 := hL190.pick [0, 2, 3, 4] rfl rfl rfl
 have hL195 : Go.X.Loc [] [] w w181 [some b167, some b87, some b55, some b23] [Cont.cells ([] ++ ([(Value.int .i64 r149.Index), (Value.bool r149.N.Negative), v151, (Value.int .i64 r158.Index), (Value.bool r158.N.Negative), v160] ++ [])), Cont.cells ([] ++ ([v67, (Value.bool r65.Bound.Negative), v69, v78, (Value.bool r76.Bound.Negative), v80] ++ [])), Cont.cells ([] ++ ([v35, (Value.bool r33.Bound.Negative), v37, v46, (Value.bool r44.Bound.Negative), v48] ++ [])), Cont.cells ([] ++ ([v3, (Value.bool r1.Bound.Negative), v5, v14, (Value.bool r12.Bound.Negative), v16] ++ []))] := hp193.1
 have K194 := Keep.step (s := w.heap.size) hp193.2
 have f197 := ((((hE168.mono (K174 None)).mono (K183 None)).mono (K189 None)).mono (K194 None))
 have f196 := hL195.freezeRow 0 rfl rfl f197 rfl rfl rfl hc169
 have hp198 := hL195.pick [1, 2, 3] rfl rfl rfl
 have hL200 : Go.X.Loc [] [] w w181 [some b87, some b55, some b23] [Cont.cells ([] ++ ([v67, (Value.bool r65.Bound.Negative), v69, v78, (Value.bool r76.Bound.Negative), v80] ++ [])), Cont.cells ([] ++ ([v35, (Value.bool r33.Bound.Negative), v37, v46, (Value.bool r44.Bound.Negative), v48] ++ [])), Cont.cells ([] ++ ([v3, (Value.bool r1.Bound.Negative), v5, v14, (Value.bool r12.Bound.Negative), v16] ++ []))] := hp198.1
 have K199 := Keep.step (s := w.heap.size) hp198.2
 have f204 := (((k179.mono (K189 None)).mono (K194 None)).mono (K199 None))
 have f205 := (f191.mono (K199 None))
 have f206 := (((((((k143.mono (K156 None)).mono (K165 None)).mono (K174 None)).mono (K183 None)).mono (K189 None)).mono (K194 None)).mono (K199 None))
 have f207 := ((f186.mono (K194 None)).mono (K199 None))
 have f208 := ((((((((((k117.mono (K130 None)).mono (K138 None)).mono (K147 None)).mono (K156 None)).mono (K165 None)).mono (K174 None)).mono (K183 None)).mono (K189 None)).mono (K194 None)).mono (K199 None))
 have hE201 : Els rStep (Hv w.heap.size None [some b87, some b55, some b23] w181) [(osv (some b106) 0 1 1), (Value.bool r114.Negative), v116, (osv (some b132) 0 1 1), (Value.bool r140.Negative), v142, (osv (some b167) 0 2 2), (Value.bool r176.Negative), v178] [(Step.mk [r97] r114), (Step.mk [r123] r140), (Step.mk [r149, r158] r176)] := (Els.cons (a := [(osv (some b106) 0 1 1), (Value.bool r114.Negative), v116]) (rStep_close ⟨(osv (some b106) 0 1 1), v116, rfl, f207, f208, trivial⟩) (Els.cons (a := [(osv (some b132) 0 1 1), (Value.bool r140.Negative), v142]) (rStep_close ⟨(osv (some b132) 0 1 1), v142, rfl, f205, f206, trivial⟩) (Els.cons (a := [(osv (some b167) 0 2 2), (Value.bool r176.Negative), v178]) (rStep_close ⟨(osv (some b167) 0 2 2), v178, rfl, f196, f204, trivial⟩) Els.nil)))
 refine Rl.op (OpY.litRow (r := rStep) (vs := [(Value.agg #[(osv (some b106) 0 1 1), (Value.bool r114.Negative), v116]), (Value.agg #[(osv (some b132) 0 1 1), (Value.bool r140.Negative), v142]), (Value.agg #[(osv (some b167) 0 2 2), (Value.bool r176.Negative), v178])]) (css := [[(osv (some b106) 0 1 1), (Value.bool r114.Negative), v116], [(osv (some b132) 0 1 1), (Value.bool r140.Negative), v142], [(osv (some b167) 0 2 2), (Value.bool r176.Negative), v178]]) (xs := [(Step.mk [r97] r114), (Step.mk [r123] r140), (Step.mk [r149, r158] r176)]) Try.underlying39 ti28 (Nat.le_of_ble_eq_true rfl) rfl rfl ⟨rfl, rfl, ⟨rfl, rfl, ⟨rfl, rfl, trivial⟩⟩⟩ (Nat.le_of_ble_eq_true rfl) hE201 rfl hL200 ?_)
 intro b185 w209 hc202 (hL210 : Go.X.Loc [] [] w w209 [some b185, some b87, some b55, some b23] [Cont.cells ([] ++ ([(osv (some b106) 0 1 1), (Value.bool r114.Negative), v116, (osv (some b132) 0 1 1), (Value.bool r140.Negative), v142, (osv (some b167) 0 2 2), (Value.bool r176.Negative), v178] ++ [])), Cont.cells ([] ++ ([v67, (Value.bool r65.Bound.Negative), v69, v78, (Value.bool r76.Bound.Negative), v80] ++ [])), Cont.cells ([] ++ ([v35, (Value.bool r33.Bound.Negative), v37, v46, (Value.bool r44.Bound.Negative), v48] ++ [])), Cont.cells ([] ++ ([v3, (Value.bool r1.Bound.Negative), v5, v14, (Value.bool r12.Bound.Negative), v16] ++ []))]) hS212
 have K211 := Keep.step (s := w.heap.size) hS212
 refine Rl.op (OpY.build (zc := [(Value.slice none 0 0), (Value.slice none 0 0), (Value.bool false), (Value.slice none 0 0), (Value.slice none 0 0)]) (cs := [(osv (some b185) 0 3 3), (Value.slice none 0 0), (Value.bool false), (Value.slice none 0 0), (Value.slice none 0 0)]) (is := [0]) (vs := [(osv (some b185) 0 3 3)]) (css := [[(osv (some b185) 0 3 3)]]) pl42 ti42 rfl rfl rfl ⟨(one_cells (osv_one _ _ _ _)), trivial⟩ rfl ?_)
 refine Rl.op (OpY.alloc (cs := [(Value.slice none 0 0), (Value.slice none 0 0), (Value.bool false), (Value.slice none 0 0), (Value.slice none 0 0)]) ti42 rfl hL210 ?_)
 intro b213 w214 (hL215 : Go.X.Loc [] [] w w214 [some b213, some b185, some b87, some b55, some b23] [Cont.cells [(Value.slice none 0 0), (Value.slice none 0 0), (Value.bool false), (Value.slice none 0 0), (Value.slice none 0 0)], Cont.cells ([] ++ ([(osv (some b106) 0 1 1), (Value.bool r114.Negative), v116, (osv (some b132) 0 1 1), (Value.bool r140.Negative), v142, (osv (some b167) 0 2 2), (Value.bool r176.Negative), v178] ++ [])), Cont.cells ([] ++ ([v67, (Value.bool r65.Bound.Negative), v69, v78, (Value.bool r76.Bound.Negative), v80] ++ [])), Cont.cells ([] ++ ([v35, (Value.bool r33.Bound.Negative), v37, v46, (Value.bool r44.Bound.Negative), v48] ++ [])), Cont.cells ([] ++ ([v3, (Value.bool r1.Bound.Negative), v5, v14, (Value.bool r12.Bound.Negative), v16] ++ []))]) hS217
 have K216 := Keep.step (s := w.heap.size) hS217
 refine Rl.op0 (OpY.store (vs := [(osv (some b185) 0 3 3), (Value.slice none 0 0), (Value.bool false), (Value.slice none 0 0), (Value.slice none 0 0)]) ti42 rfl rfl rfl rfl (ones_cons (osv_one _ _ _ _) (ones_cons rfl (ones_cons rfl (ones_cons rfl (ones_cons rfl ones_nil))))) hL215 0 rfl rfl (Nat.le_of_ble_eq_true rfl) ?_)
 intro w218 (hL219 : Go.X.Loc [] [] w w218 [some b213, some b185, some b87, some b55, some b23] [Cont.cells [(osv (some b185) 0 3 3), (Value.slice none 0 0), (Value.bool false), (Value.slice none 0 0), (Value.slice none 0 0)], Cont.cells ([] ++ ([(osv (some b106) 0 1 1), (Value.bool r114.Negative), v116, (osv (some b132) 0 1 1), (Value.bool r140.Negative), v142, (osv (some b167) 0 2 2), (Value.bool r176.Negative), v178] ++ [])), Cont.cells ([] ++ ([v67, (Value.bool r65.Bound.Negative), v69, v78, (Value.bool r76.Bound.Negative), v80] ++ [])), Cont.cells ([] ++ ([v35, (Value.bool r33.Bound.Negative), v37, v46, (Value.bool r44.Bound.Negative), v48] ++ [])), Cont.cells ([] ++ ([v3, (Value.bool r1.Bound.Negative), v5, v14, (Value.bool r12.Bound.Negative), v16] ++ []))]) hS221
 have K220 := Keep.step (s := w.heap.size) hS221
 refine Rl.nil ?_
 refine Swp.seq ?_
 refine Swp.region rfl ?_
 obtain ⟨r222, q223, h⟩ := bind_some h
 refine Rl.op (OpY.call en24 rfl rfl (lbig_w N 1 _ Any r222 q223) ?_)
 rintro _ w227 hE230 ⟨v224, rfl, k225, -⟩
 replace k225 := k225.mono (Hv.freshO (S := None) hL219 [])
 have hL228 := hL219.ext hE230
 have K229 := Keep.ext (s := w.heap.size) (O := [some b213, some b185, some b87, some b55, some b23]) hE230
 have hE232 : Els rBig (Hv w.heap.size None [some b213, some b185, some b87, some b55, some b23] w227) [(Value.bool r222.Negative), v224] [r222] := (Els.cons (a := [(Value.bool r222.Negative), v224]) (rBig_close ⟨v224, rfl, k225, trivial⟩) Els.nil)
 refine Rl.op (OpY.litRow (r := rBig) (vs := [(Value.agg #[(Value.bool r222.Negative), v224])]) (css := [[(Value.bool r222.Negative), v224]]) (xs := [r222]) Try.underlying32 ti26 (Nat.le_of_ble_eq_true rfl) rfl rfl ⟨rfl, rfl, trivial⟩ (Nat.le_of_ble_eq_true rfl) hE232 rfl hL228 ?_)
 intro b231 w235 hc233 (hL236 : Go.X.Loc [] [] w w235 [some b231, some b213, some b185, some b87, some b55, some b23] [Cont.cells ([] ++ ([(Value.bool r222.Negative), v224] ++ [])), Cont.cells [(osv (some b185) 0 3 3), (Value.slice none 0 0), (Value.bool false), (Value.slice none 0 0), (Value.slice none 0 0)], Cont.cells ([] ++ ([(osv (some b106) 0 1 1), (Value.bool r114.Negative), v116, (osv (some b132) 0 1 1), (Value.bool r140.Negative), v142, (osv (some b167) 0 2 2), (Value.bool r176.Negative), v178] ++ [])), Cont.cells ([] ++ ([v67, (Value.bool r65.Bound.Negative), v69, v78, (Value.bool r76.Bound.Negative), v80] ++ [])), Cont.cells ([] ++ ([v35, (Value.bool r33.Bound.Negative), v37, v46, (Value.bool r44.Bound.Negative), v48] ++ [])), Cont.cells ([] ++ ([v3, (Value.bool r1.Bound.Negative), v5, v14, (Value.bool r12.Bound.Negative), v16] ++ []))]) hS238
 have K237 := Keep.step (s := w.heap.size) hS238
 obtain ⟨r239, q240, h⟩ := bind_some h
 refine Rl.op (OpY.call en24 rfl rfl (lbig_w N 1 _ Any r239 q240) ?_)
 rintro _ w244 hE247 ⟨v241, rfl, k242, -⟩
 replace k242 := k242.mono (Hv.freshO (S := None) hL236 [])
 have hL245 := hL236.ext hE247
 have K246 := Keep.ext (s := w.heap.size) (O := [some b231, some b213, some b185, some b87, some b55, some b23]) hE247
 obtain ⟨r248, q249, h⟩ := bind_some h
 refine Rl.op (OpY.call en42 rfl rfl (luse_w N 2 3 _ Any r248 q249) ?_)
 rintro _ w253 hE256 ⟨v250, rfl, k251, -⟩
 replace k251 := k251.mono (Hv.freshO (S := None) hL245 [])
 have hL254 := hL245.ext hE256
 have K255 := Keep.ext (s := w.heap.size) (O := [some b231, some b213, some b185, some b87, some b55, some b23]) hE256
 obtain ⟨r257, q258, h⟩ := bind_some h
 refine Rl.op (OpY.call en42 rfl rfl (luse_w N 1 1 _ Any r257 q258) ?_)
 rintro _ w262 hE265 ⟨v259, rfl, k260, -⟩
 replace k260 := k260.mono (Hv.freshO (S := None) hL254 [])
 have hL263 := hL254.ext hE265
 have K264 := Keep.ext (s := w.heap.size) (O := [some b231, some b213, some b185, some b87, some b55, some b23]) hE265
 have f270 := (k251.mono (K264 None))
 have hE267 : Els rUse (Hv w.heap.size None [some b231, some b213, some b185, some b87, some b55, some b23] w262) [(Value.int .i64 r248.Index), (Value.bool r248.N.Negative), v250, (Value.int .i64 r257.Index), (Value.bool r257.N.Negative), v259] [r248, r257] := (Els.cons (a := [(Value.int .i64 r248.Index), (Value.bool r248.N.Negative), v250]) (rUse_close ⟨v250, rfl, f270, trivial⟩) (Els.cons (a := [(Value.int .i64 r257.Index), (Value.bool r257.N.Negative), v259]) (rUse_close ⟨v259, rfl, k260, trivial⟩) Els.nil))
 refine Rl.op (OpY.litRow (r := rUse) (vs := [(Value.agg #[(Value.int .i64 r248.Index), (Value.bool r248.N.Negative), v250]), (Value.agg #[(Value.int .i64 r257.Index), (Value.bool r257.N.Negative), v259])]) (css := [[(Value.int .i64 r248.Index), (Value.bool r248.N.Negative), v250], [(Value.int .i64 r257.Index), (Value.bool r257.N.Negative), v259]]) (xs := [r248, r257]) Try.underlying23 ti50 (Nat.le_of_ble_eq_true rfl) rfl rfl ⟨rfl, rfl, ⟨rfl, rfl, trivial⟩⟩ (Nat.le_of_ble_eq_true rfl) hE267 rfl hL263 ?_)
 intro b266 w271 hc268 (hL272 : Go.X.Loc [] [] w w271 [some b266, some b231, some b213, some b185, some b87, some b55, some b23] [Cont.cells ([] ++ ([(Value.int .i64 r248.Index), (Value.bool r248.N.Negative), v250, (Value.int .i64 r257.Index), (Value.bool r257.N.Negative), v259] ++ [])), Cont.cells ([] ++ ([(Value.bool r222.Negative), v224] ++ [])), Cont.cells [(osv (some b185) 0 3 3), (Value.slice none 0 0), (Value.bool false), (Value.slice none 0 0), (Value.slice none 0 0)], Cont.cells ([] ++ ([(osv (some b106) 0 1 1), (Value.bool r114.Negative), v116, (osv (some b132) 0 1 1), (Value.bool r140.Negative), v142, (osv (some b167) 0 2 2), (Value.bool r176.Negative), v178] ++ [])), Cont.cells ([] ++ ([v67, (Value.bool r65.Bound.Negative), v69, v78, (Value.bool r76.Bound.Negative), v80] ++ [])), Cont.cells ([] ++ ([v35, (Value.bool r33.Bound.Negative), v37, v46, (Value.bool r44.Bound.Negative), v48] ++ [])), Cont.cells ([] ++ ([v3, (Value.bool r1.Bound.Negative), v5, v14, (Value.bool r12.Bound.Negative), v16] ++ []))]) hS274
 have K273 := Keep.step (s := w.heap.size) hS274
 obtain ⟨r275, q276, h⟩ := bind_some h
 have f286 := (hE267.mono (K273 None))
 refine Rl.op (OpY.call en20 rfl rfl (cSum_w N [r248, r257] (osv (some b266) 0 2 2) _ Any (own_row_any (pre := []) (o := 0) (n := 2) (cap := 2) (hL272.at 0 rfl rfl) f286 vw_any rfl rfl rfl hc268) r275 q276) ?_)
 rintro _ w287 hE290 ⟨v277, v279, v281, v283, rfl, k278, k280, k282, k284, -⟩
 replace k278 := k278.mono (Hv.freshO (S := None) hL272 [])
 replace k280 := k280.mono (Hv.freshO (S := None) hL272 [])
 replace k282 := k282.mono (Hv.freshO (S := None) hL272 [])
 replace k284 := k284.mono (Hv.freshO (S := None) hL272 [])
 have hL288 := hL272.ext hE290
 have K289 := Keep.ext (s := w.heap.size) (O := [some b266, some b231, some b213, some b185, some b87, some b55, some b23]) hE290
 obtain ⟨r291, q292, h⟩ := bind_some h
 refine Rl.op (OpY.call en42 rfl rfl (luse_w N 2 3 _ Any r291 q292) ?_)
 rintro _ w296 hE299 ⟨v293, rfl, k294, -⟩
 replace k294 := k294.mono (Hv.freshO (S := None) hL288 [])
 have hL297 := hL288.ext hE299
 have K298 := Keep.ext (s := w.heap.size) (O := [some b266, some b231, some b213, some b185, some b87, some b55, some b23]) hE299
 obtain ⟨r300, q301, h⟩ := bind_some h
 refine Rl.op (OpY.call en42 rfl rfl (luse_w N 0 1 _ Any r300 q301) ?_)
 rintro _ w305 hE308 ⟨v302, rfl, k303, -⟩
 replace k303 := k303.mono (Hv.freshO (S := None) hL297 [])
 have hL306 := hL297.ext hE308
 have K307 := Keep.ext (s := w.heap.size) (O := [some b266, some b231, some b213, some b185, some b87, some b55, some b23]) hE308
 have f313 := (k294.mono (K307 None))
 have hE310 : Els rUse (Hv w.heap.size None [some b266, some b231, some b213, some b185, some b87, some b55, some b23] w305) [(Value.int .i64 r291.Index), (Value.bool r291.N.Negative), v293, (Value.int .i64 r300.Index), (Value.bool r300.N.Negative), v302] [r291, r300] := (Els.cons (a := [(Value.int .i64 r291.Index), (Value.bool r291.N.Negative), v293]) (rUse_close ⟨v293, rfl, f313, trivial⟩) (Els.cons (a := [(Value.int .i64 r300.Index), (Value.bool r300.N.Negative), v302]) (rUse_close ⟨v302, rfl, k303, trivial⟩) Els.nil))
 refine Rl.op (OpY.litRow (r := rUse) (vs := [(Value.agg #[(Value.int .i64 r291.Index), (Value.bool r291.N.Negative), v293]), (Value.agg #[(Value.int .i64 r300.Index), (Value.bool r300.N.Negative), v302])]) (css := [[(Value.int .i64 r291.Index), (Value.bool r291.N.Negative), v293], [(Value.int .i64 r300.Index), (Value.bool r300.N.Negative), v302]]) (xs := [r291, r300]) Try.underlying23 ti50 (Nat.le_of_ble_eq_true rfl) rfl rfl ⟨rfl, rfl, ⟨rfl, rfl, trivial⟩⟩ (Nat.le_of_ble_eq_true rfl) hE310 rfl hL306 ?_)
 intro b309 w314 hc311 (hL315 : Go.X.Loc [] [] w w314 [some b309, some b266, some b231, some b213, some b185, some b87, some b55, some b23] [Cont.cells ([] ++ ([(Value.int .i64 r291.Index), (Value.bool r291.N.Negative), v293, (Value.int .i64 r300.Index), (Value.bool r300.N.Negative), v302] ++ [])), Cont.cells ([] ++ ([(Value.int .i64 r248.Index), (Value.bool r248.N.Negative), v250, (Value.int .i64 r257.Index), (Value.bool r257.N.Negative), v259] ++ [])), Cont.cells ([] ++ ([(Value.bool r222.Negative), v224] ++ [])), Cont.cells [(osv (some b185) 0 3 3), (Value.slice none 0 0), (Value.bool false), (Value.slice none 0 0), (Value.slice none 0 0)], Cont.cells ([] ++ ([(osv (some b106) 0 1 1), (Value.bool r114.Negative), v116, (osv (some b132) 0 1 1), (Value.bool r140.Negative), v142, (osv (some b167) 0 2 2), (Value.bool r176.Negative), v178] ++ [])), Cont.cells ([] ++ ([v67, (Value.bool r65.Bound.Negative), v69, v78, (Value.bool r76.Bound.Negative), v80] ++ [])), Cont.cells ([] ++ ([v35, (Value.bool r33.Bound.Negative), v37, v46, (Value.bool r44.Bound.Negative), v48] ++ [])), Cont.cells ([] ++ ([v3, (Value.bool r1.Bound.Negative), v5, v14, (Value.bool r12.Bound.Negative), v16] ++ []))]) hS317
 have K316 := Keep.step (s := w.heap.size) hS317
 obtain ⟨r318, q319, h⟩ := bind_some h
 have f329 := (hE310.mono (K316 None))
 refine Rl.op (OpY.call en20 rfl rfl (cSum_w N [r291, r300] (osv (some b309) 0 2 2) _ Any (own_row_any (pre := []) (o := 0) (n := 2) (cap := 2) (hL315.at 0 rfl rfl) f329 vw_any rfl rfl rfl hc311) r318 q319) ?_)
 rintro _ w330 hE333 ⟨v320, v322, v324, v326, rfl, k321, k323, k325, k327, -⟩
 replace k321 := k321.mono (Hv.freshO (S := None) hL315 [])
 replace k323 := k323.mono (Hv.freshO (S := None) hL315 [])
 replace k325 := k325.mono (Hv.freshO (S := None) hL315 [])
 replace k327 := k327.mono (Hv.freshO (S := None) hL315 [])
 have hL331 := hL315.ext hE333
 have K332 := Keep.ext (s := w.heap.size) (O := [some b309, some b266, some b231, some b213, some b185, some b87, some b55, some b23]) hE333
 have f338 := ((((k278.mono (K298 None)).mono (K307 None)).mono (K316 None)).mono (K332 None))
 have f339 := ((((k280.mono (K298 None)).mono (K307 None)).mono (K316 None)).mono (K332 None))
 have f340 := ((((k282.mono (K298 None)).mono (K307 None)).mono (K316 None)).mono (K332 None))
 have f341 := ((((k284.mono (K298 None)).mono (K307 None)).mono (K316 None)).mono (K332 None))
 have hE335 : Els rProof (Hv w.heap.size None [some b309, some b266, some b231, some b213, some b185, some b87, some b55, some b23] w330) [v277, v279, (Value.bool r275.Bound.Negative), v281, v283, v320, v322, (Value.bool r318.Bound.Negative), v324, v326] [r275, r318] := (Els.cons (a := [v277, v279, (Value.bool r275.Bound.Negative), v281, v283]) (rProof_close ⟨v277, v279, v281, v283, rfl, f338, f339, f340, f341, trivial⟩) (Els.cons (a := [v320, v322, (Value.bool r318.Bound.Negative), v324, v326]) (rProof_close ⟨v320, v322, v324, v326, rfl, k321, k323, k325, k327, trivial⟩) Els.nil))
 refine Rl.op (OpY.litRow (r := rProof) (vs := [(Value.agg #[v277, v279, (Value.bool r275.Bound.Negative), v281, v283]), (Value.agg #[v320, v322, (Value.bool r318.Bound.Negative), v324, v326])]) (css := [[v277, v279, (Value.bool r275.Bound.Negative), v281, v283], [v320, v322, (Value.bool r318.Bound.Negative), v324, v326]]) (xs := [r275, r318]) Try.underlying40 ti42 (Nat.le_of_ble_eq_true rfl) rfl rfl ⟨rfl, rfl, ⟨rfl, rfl, trivial⟩⟩ (Nat.le_of_ble_eq_true rfl) hE335 rfl hL331 ?_)
 intro b334 w342 hc336 (hL343 : Go.X.Loc [] [] w w342 [some b334, some b309, some b266, some b231, some b213, some b185, some b87, some b55, some b23] [Cont.cells ([] ++ ([v277, v279, (Value.bool r275.Bound.Negative), v281, v283, v320, v322, (Value.bool r318.Bound.Negative), v324, v326] ++ [])), Cont.cells ([] ++ ([(Value.int .i64 r291.Index), (Value.bool r291.N.Negative), v293, (Value.int .i64 r300.Index), (Value.bool r300.N.Negative), v302] ++ [])), Cont.cells ([] ++ ([(Value.int .i64 r248.Index), (Value.bool r248.N.Negative), v250, (Value.int .i64 r257.Index), (Value.bool r257.N.Negative), v259] ++ [])), Cont.cells ([] ++ ([(Value.bool r222.Negative), v224] ++ [])), Cont.cells [(osv (some b185) 0 3 3), (Value.slice none 0 0), (Value.bool false), (Value.slice none 0 0), (Value.slice none 0 0)], Cont.cells ([] ++ ([(osv (some b106) 0 1 1), (Value.bool r114.Negative), v116, (osv (some b132) 0 1 1), (Value.bool r140.Negative), v142, (osv (some b167) 0 2 2), (Value.bool r176.Negative), v178] ++ [])), Cont.cells ([] ++ ([v67, (Value.bool r65.Bound.Negative), v69, v78, (Value.bool r76.Bound.Negative), v80] ++ [])), Cont.cells ([] ++ ([v35, (Value.bool r33.Bound.Negative), v37, v46, (Value.bool r44.Bound.Negative), v48] ++ [])), Cont.cells ([] ++ ([v3, (Value.bool r1.Bound.Negative), v5, v14, (Value.bool r12.Bound.Negative), v16] ++ []))]) hS345
 have K344 := Keep.step (s := w.heap.size) hS345
 refine Rl.op (OpY.build (zc := [(Value.slice none 0 0), (Value.slice none 0 0), (Value.bool false), (Value.slice none 0 0), (Value.slice none 0 0)]) (cs := [(Value.slice none 0 0), (osv (some b231) 0 1 1), (Value.bool r239.Negative), v241, (osv (some b334) 0 2 2)]) (is := [1, 2, 3]) (vs := [(osv (some b231) 0 1 1), (Value.agg #[(Value.bool r239.Negative), v241]), (osv (some b334) 0 2 2)]) (css := [[(osv (some b231) 0 1 1)], [(Value.bool r239.Negative), v241], [(osv (some b334) 0 2 2)]]) pl42 ti42 rfl rfl rfl ⟨(one_cells (osv_one _ _ _ _)), ⟨rfl, ⟨(one_cells (osv_one _ _ _ _)), trivial⟩⟩⟩ rfl ?_)
 refine Rl.op (OpY.alloc (cs := [(Value.slice none 0 0), (Value.slice none 0 0), (Value.bool false), (Value.slice none 0 0), (Value.slice none 0 0)]) ti42 rfl hL343 ?_)
 intro b346 w347 (hL348 : Go.X.Loc [] [] w w347 [some b346, some b334, some b309, some b266, some b231, some b213, some b185, some b87, some b55, some b23] [Cont.cells [(Value.slice none 0 0), (Value.slice none 0 0), (Value.bool false), (Value.slice none 0 0), (Value.slice none 0 0)], Cont.cells ([] ++ ([v277, v279, (Value.bool r275.Bound.Negative), v281, v283, v320, v322, (Value.bool r318.Bound.Negative), v324, v326] ++ [])), Cont.cells ([] ++ ([(Value.int .i64 r291.Index), (Value.bool r291.N.Negative), v293, (Value.int .i64 r300.Index), (Value.bool r300.N.Negative), v302] ++ [])), Cont.cells ([] ++ ([(Value.int .i64 r248.Index), (Value.bool r248.N.Negative), v250, (Value.int .i64 r257.Index), (Value.bool r257.N.Negative), v259] ++ [])), Cont.cells ([] ++ ([(Value.bool r222.Negative), v224] ++ [])), Cont.cells [(osv (some b185) 0 3 3), (Value.slice none 0 0), (Value.bool false), (Value.slice none 0 0), (Value.slice none 0 0)], Cont.cells ([] ++ ([(osv (some b106) 0 1 1), (Value.bool r114.Negative), v116, (osv (some b132) 0 1 1), (Value.bool r140.Negative), v142, (osv (some b167) 0 2 2), (Value.bool r176.Negative), v178] ++ [])), Cont.cells ([] ++ ([v67, (Value.bool r65.Bound.Negative), v69, v78, (Value.bool r76.Bound.Negative), v80] ++ [])), Cont.cells ([] ++ ([v35, (Value.bool r33.Bound.Negative), v37, v46, (Value.bool r44.Bound.Negative), v48] ++ [])), Cont.cells ([] ++ ([v3, (Value.bool r1.Bound.Negative), v5, v14, (Value.bool r12.Bound.Negative), v16] ++ []))]) hS350
 have K349 := Keep.step (s := w.heap.size) hS350
 have f351 := ((((((((((k242.mono (K255 None)).mono (K264 None)).mono (K273 None)).mono (K289 None)).mono (K298 None)).mono (K307 None)).mono (K316 None)).mono (K332 None)).mono (K344 None)).mono (K349 None))
 refine Rl.op0 (OpY.store (vs := [(Value.slice none 0 0), (osv (some b231) 0 1 1), (Value.bool r239.Negative), v241, (osv (some b334) 0 2 2)]) ti42 rfl rfl rfl rfl (ones_cons rfl (ones_cons (osv_one _ _ _ _) (ones_cons rfl (ones_cons f351.one (ones_cons (osv_one _ _ _ _) ones_nil))))) hL348 0 rfl rfl (Nat.le_of_ble_eq_true rfl) ?_)
 intro w352 (hL353 : Go.X.Loc [] [] w w352 [some b346, some b334, some b309, some b266, some b231, some b213, some b185, some b87, some b55, some b23] [Cont.cells [(Value.slice none 0 0), (osv (some b231) 0 1 1), (Value.bool r239.Negative), v241, (osv (some b334) 0 2 2)], Cont.cells ([] ++ ([v277, v279, (Value.bool r275.Bound.Negative), v281, v283, v320, v322, (Value.bool r318.Bound.Negative), v324, v326] ++ [])), Cont.cells ([] ++ ([(Value.int .i64 r291.Index), (Value.bool r291.N.Negative), v293, (Value.int .i64 r300.Index), (Value.bool r300.N.Negative), v302] ++ [])), Cont.cells ([] ++ ([(Value.int .i64 r248.Index), (Value.bool r248.N.Negative), v250, (Value.int .i64 r257.Index), (Value.bool r257.N.Negative), v259] ++ [])), Cont.cells ([] ++ ([(Value.bool r222.Negative), v224] ++ [])), Cont.cells [(osv (some b185) 0 3 3), (Value.slice none 0 0), (Value.bool false), (Value.slice none 0 0), (Value.slice none 0 0)], Cont.cells ([] ++ ([(osv (some b106) 0 1 1), (Value.bool r114.Negative), v116, (osv (some b132) 0 1 1), (Value.bool r140.Negative), v142, (osv (some b167) 0 2 2), (Value.bool r176.Negative), v178] ++ [])), Cont.cells ([] ++ ([v67, (Value.bool r65.Bound.Negative), v69, v78, (Value.bool r76.Bound.Negative), v80] ++ [])), Cont.cells ([] ++ ([v35, (Value.bool r33.Bound.Negative), v37, v46, (Value.bool r44.Bound.Negative), v48] ++ [])), Cont.cells ([] ++ ([v3, (Value.bool r1.Bound.Negative), v5, v14, (Value.bool r12.Bound.Negative), v16] ++ []))]) hS355
 have K354 := Keep.step (s := w.heap.size) hS355
 refine Rl.nil ?_
 refine Swp.seq ?_
 refine Swp.region rfl ?_
 refine Rl.op (OpY.move (v := (osv (some b23) 0 2 2)) rfl ?_)
 obtain ⟨r356, q357, h⟩ := bind_some h
 refine Rl.op (OpY.call en42 rfl rfl (luse_w N 0 1 _ Any r356 q357) ?_)
 rintro _ w361 hE364 ⟨v358, rfl, k359, -⟩
 replace k359 := k359.mono (Hv.freshO (S := None) hL353 [])
 have hL362 := hL353.ext hE364
 have K363 := Keep.ext (s := w.heap.size) (O := [some b346, some b334, some b309, some b266, some b231, some b213, some b185, some b87, some b55, some b23]) hE364
 obtain ⟨r365, q366, h⟩ := bind_some h
 refine Rl.op (OpY.call en42 rfl rfl (luse_w N 1 1 _ Any r365 q366) ?_)
 rintro _ w370 hE373 ⟨v367, rfl, k368, -⟩
 replace k368 := k368.mono (Hv.freshO (S := None) hL362 [])
 have hL371 := hL362.ext hE373
 have K372 := Keep.ext (s := w.heap.size) (O := [some b346, some b334, some b309, some b266, some b231, some b213, some b185, some b87, some b55, some b23]) hE373
 have f378 := (k359.mono (K372 None))
 have hE375 : Els rUse (Hv w.heap.size None [some b346, some b334, some b309, some b266, some b231, some b213, some b185, some b87, some b55, some b23] w370) [(Value.int .i64 r356.Index), (Value.bool r356.N.Negative), v358, (Value.int .i64 r365.Index), (Value.bool r365.N.Negative), v367] [r356, r365] := (Els.cons (a := [(Value.int .i64 r356.Index), (Value.bool r356.N.Negative), v358]) (rUse_close ⟨v358, rfl, f378, trivial⟩) (Els.cons (a := [(Value.int .i64 r365.Index), (Value.bool r365.N.Negative), v367]) (rUse_close ⟨v367, rfl, k368, trivial⟩) Els.nil))
 refine Rl.op (OpY.litRow (r := rUse) (vs := [(Value.agg #[(Value.int .i64 r356.Index), (Value.bool r356.N.Negative), v358]), (Value.agg #[(Value.int .i64 r365.Index), (Value.bool r365.N.Negative), v367])]) (css := [[(Value.int .i64 r356.Index), (Value.bool r356.N.Negative), v358], [(Value.int .i64 r365.Index), (Value.bool r365.N.Negative), v367]]) (xs := [r356, r365]) Try.underlying23 ti50 (Nat.le_of_ble_eq_true rfl) rfl rfl ⟨rfl, rfl, ⟨rfl, rfl, trivial⟩⟩ (Nat.le_of_ble_eq_true rfl) hE375 rfl hL371 ?_)
 intro b374 w379 hc376 (hL380 : Go.X.Loc [] [] w w379 [some b374, some b346, some b334, some b309, some b266, some b231, some b213, some b185, some b87, some b55, some b23] [Cont.cells ([] ++ ([(Value.int .i64 r356.Index), (Value.bool r356.N.Negative), v358, (Value.int .i64 r365.Index), (Value.bool r365.N.Negative), v367] ++ [])), Cont.cells [(Value.slice none 0 0), (osv (some b231) 0 1 1), (Value.bool r239.Negative), v241, (osv (some b334) 0 2 2)], Cont.cells ([] ++ ([v277, v279, (Value.bool r275.Bound.Negative), v281, v283, v320, v322, (Value.bool r318.Bound.Negative), v324, v326] ++ [])), Cont.cells ([] ++ ([(Value.int .i64 r291.Index), (Value.bool r291.N.Negative), v293, (Value.int .i64 r300.Index), (Value.bool r300.N.Negative), v302] ++ [])), Cont.cells ([] ++ ([(Value.int .i64 r248.Index), (Value.bool r248.N.Negative), v250, (Value.int .i64 r257.Index), (Value.bool r257.N.Negative), v259] ++ [])), Cont.cells ([] ++ ([(Value.bool r222.Negative), v224] ++ [])), Cont.cells [(osv (some b185) 0 3 3), (Value.slice none 0 0), (Value.bool false), (Value.slice none 0 0), (Value.slice none 0 0)], Cont.cells ([] ++ ([(osv (some b106) 0 1 1), (Value.bool r114.Negative), v116, (osv (some b132) 0 1 1), (Value.bool r140.Negative), v142, (osv (some b167) 0 2 2), (Value.bool r176.Negative), v178] ++ [])), Cont.cells ([] ++ ([v67, (Value.bool r65.Bound.Negative), v69, v78, (Value.bool r76.Bound.Negative), v80] ++ [])), Cont.cells ([] ++ ([v35, (Value.bool r33.Bound.Negative), v37, v46, (Value.bool r44.Bound.Negative), v48] ++ [])), Cont.cells ([] ++ ([v3, (Value.bool r1.Bound.Negative), v5, v14, (Value.bool r12.Bound.Negative), v16] ++ []))]) hS382
 have K381 := Keep.step (s := w.heap.size) hS382
 obtain ⟨r383, q384, h⟩ := bind_some h
 have f394 := (hE375.mono (K381 None))
 refine Rl.op (OpY.call en20 rfl rfl (cSum_w N [r356, r365] (osv (some b374) 0 2 2) _ Any (own_row_any (pre := []) (o := 0) (n := 2) (cap := 2) (hL380.at 0 rfl rfl) f394 vw_any rfl rfl rfl hc376) r383 q384) ?_)
 rintro _ w395 hE398 ⟨v385, v387, v389, v391, rfl, k386, k388, k390, k392, -⟩
 replace k386 := k386.mono (Hv.freshO (S := None) hL380 [])
 replace k388 := k388.mono (Hv.freshO (S := None) hL380 [])
 replace k390 := k390.mono (Hv.freshO (S := None) hL380 [])
 replace k392 := k392.mono (Hv.freshO (S := None) hL380 [])
 have hL396 := hL380.ext hE398
 have K397 := Keep.ext (s := w.heap.size) (O := [some b374, some b346, some b334, some b309, some b266, some b231, some b213, some b185, some b87, some b55, some b23]) hE398
 obtain ⟨r399, q400, h⟩ := bind_some h
 have f402 := (((((((((((((((((((((((((((((((((((((((((hE24.mono (K31 None)).mono (K42 None)).mono (K53 None)).mono (K63 None)).mono (K74 None)).mono (K85 None)).mono (K95 None)).mono (K104 None)).mono (K112 None)).mono (K121 None)).mono (K130 None)).mono (K138 None)).mono (K147 None)).mono (K156 None)).mono (K165 None)).mono (K174 None)).mono (K183 None)).mono (K189 None)).mono (K194 None)).mono (K199 None)).mono (K211 None)).mono (K216 None)).mono (K220 None)).mono (K229 None)).mono (K237 None)).mono (K246 None)).mono (K255 None)).mono (K264 None)).mono (K273 None)).mono (K289 None)).mono (K298 None)).mono (K307 None)).mono (K316 None)).mono (K332 None)).mono (K344 None)).mono (K349 None)).mono (K354 None)).mono (K363 None)).mono (K372 None)).mono (K381 None)).mono (K397 None))
 refine Rl.op (OpY.call en18 rfl rfl (cCheck_w N [r1, r12] r383 (osv (some b23) 0 2 2) v385 v387 v389 v391 _ Any (own_row_any (pre := []) (o := 0) (n := 2) (cap := 2) (hL396.at 10 rfl rfl) f402 vw_any rfl rfl rfl hc25) (k386.mono vw_any) (k388.mono vw_any) (k390.mono vw_any) (k392.mono vw_any) r399 q400) ?_)
 rintro _ w403 hE406 ⟨rfl, -⟩
 have hL404 := hL396.ext hE406
 have K405 := Keep.ext (s := w.heap.size) (O := [some b374, some b346, some b334, some b309, some b266, some b231, some b213, some b185, some b87, some b55, some b23]) hE406
 refine Rl.op (OpY.move (v := (Value.bool r399)) rfl ?_)
 by_cases hc407 : r399 = true
 ·
  replace h := ite_t hc407 h
  refine Rl.yes (dj := 49) (b' := r399) rfl rfl hc407 (OpY.move (v := (osv (some b55) 0 2 2)) rfl ?_)
  obtain ⟨r408, q409, h⟩ := bind_some h
  refine Rl.yes (dj := 49) (b' := r399) rfl rfl hc407 (OpY.call en42 rfl rfl (luse_w N 0 1 _ Any r408 q409) ?_)
  rintro _ w413 hE416 ⟨v410, rfl, k411, -⟩
  replace k411 := k411.mono (Hv.freshO (S := None) hL404 [])
  have hL414 := hL404.ext hE416
  have K415 := Keep.ext (s := w.heap.size) (O := [some b374, some b346, some b334, some b309, some b266, some b231, some b213, some b185, some b87, some b55, some b23]) hE416
  obtain ⟨r417, q418, h⟩ := bind_some h
  refine Rl.yes (dj := 49) (b' := r399) rfl rfl hc407 (OpY.call en42 rfl rfl (luse_w N 1 1 _ Any r417 q418) ?_)
  rintro _ w422 hE425 ⟨v419, rfl, k420, -⟩
  replace k420 := k420.mono (Hv.freshO (S := None) hL414 [])
  have hL423 := hL414.ext hE425
  have K424 := Keep.ext (s := w.heap.size) (O := [some b374, some b346, some b334, some b309, some b266, some b231, some b213, some b185, some b87, some b55, some b23]) hE425
  have f430 := (k411.mono (K424 None))
  have hE427 : Els rUse (Hv w.heap.size None [some b374, some b346, some b334, some b309, some b266, some b231, some b213, some b185, some b87, some b55, some b23] w422) [(Value.int .i64 r408.Index), (Value.bool r408.N.Negative), v410, (Value.int .i64 r417.Index), (Value.bool r417.N.Negative), v419] [r408, r417] := (Els.cons (a := [(Value.int .i64 r408.Index), (Value.bool r408.N.Negative), v410]) (rUse_close ⟨v410, rfl, f430, trivial⟩) (Els.cons (a := [(Value.int .i64 r417.Index), (Value.bool r417.N.Negative), v419]) (rUse_close ⟨v419, rfl, k420, trivial⟩) Els.nil))
  refine Rl.yes (dj := 49) (b' := r399) rfl rfl hc407 (OpY.litRow (r := rUse) (vs := [(Value.agg #[(Value.int .i64 r408.Index), (Value.bool r408.N.Negative), v410]), (Value.agg #[(Value.int .i64 r417.Index), (Value.bool r417.N.Negative), v419])]) (css := [[(Value.int .i64 r408.Index), (Value.bool r408.N.Negative), v410], [(Value.int .i64 r417.Index), (Value.bool r417.N.Negative), v419]]) (xs := [r408, r417]) Try.underlying23 ti50 (Nat.le_of_ble_eq_true rfl) rfl rfl ⟨rfl, rfl, ⟨rfl, rfl, trivial⟩⟩ (Nat.le_of_ble_eq_true rfl) hE427 rfl hL423 ?_)
  intro b426 w431 hc428 (hL432 : Go.X.Loc [] [] w w431 [some b426, some b374, some b346, some b334, some b309, some b266, some b231, some b213, some b185, some b87, some b55, some b23] [Cont.cells ([] ++ ([(Value.int .i64 r408.Index), (Value.bool r408.N.Negative), v410, (Value.int .i64 r417.Index), (Value.bool r417.N.Negative), v419] ++ [])), Cont.cells ([] ++ ([(Value.int .i64 r356.Index), (Value.bool r356.N.Negative), v358, (Value.int .i64 r365.Index), (Value.bool r365.N.Negative), v367] ++ [])), Cont.cells [(Value.slice none 0 0), (osv (some b231) 0 1 1), (Value.bool r239.Negative), v241, (osv (some b334) 0 2 2)], Cont.cells ([] ++ ([v277, v279, (Value.bool r275.Bound.Negative), v281, v283, v320, v322, (Value.bool r318.Bound.Negative), v324, v326] ++ [])), Cont.cells ([] ++ ([(Value.int .i64 r291.Index), (Value.bool r291.N.Negative), v293, (Value.int .i64 r300.Index), (Value.bool r300.N.Negative), v302] ++ [])), Cont.cells ([] ++ ([(Value.int .i64 r248.Index), (Value.bool r248.N.Negative), v250, (Value.int .i64 r257.Index), (Value.bool r257.N.Negative), v259] ++ [])), Cont.cells ([] ++ ([(Value.bool r222.Negative), v224] ++ [])), Cont.cells [(osv (some b185) 0 3 3), (Value.slice none 0 0), (Value.bool false), (Value.slice none 0 0), (Value.slice none 0 0)], Cont.cells ([] ++ ([(osv (some b106) 0 1 1), (Value.bool r114.Negative), v116, (osv (some b132) 0 1 1), (Value.bool r140.Negative), v142, (osv (some b167) 0 2 2), (Value.bool r176.Negative), v178] ++ [])), Cont.cells ([] ++ ([v67, (Value.bool r65.Bound.Negative), v69, v78, (Value.bool r76.Bound.Negative), v80] ++ [])), Cont.cells ([] ++ ([v35, (Value.bool r33.Bound.Negative), v37, v46, (Value.bool r44.Bound.Negative), v48] ++ [])), Cont.cells ([] ++ ([v3, (Value.bool r1.Bound.Negative), v5, v14, (Value.bool r12.Bound.Negative), v16] ++ []))]) hS434
  have K433 := Keep.step (s := w.heap.size) hS434
  obtain ⟨r435, q436, h⟩ := bind_some h
  have f446 := (hE427.mono (K433 None))
  refine Rl.yes (dj := 49) (b' := r399) rfl rfl hc407 (OpY.call en20 rfl rfl (cSum_w N [r408, r417] (osv (some b426) 0 2 2) _ Any (own_row_any (pre := []) (o := 0) (n := 2) (cap := 2) (hL432.at 0 rfl rfl) f446 vw_any rfl rfl rfl hc428) r435 q436) ?_)
  rintro _ w447 hE450 ⟨v437, v439, v441, v443, rfl, k438, k440, k442, k444, -⟩
  replace k438 := k438.mono (Hv.freshO (S := None) hL432 [])
  replace k440 := k440.mono (Hv.freshO (S := None) hL432 [])
  replace k442 := k442.mono (Hv.freshO (S := None) hL432 [])
  replace k444 := k444.mono (Hv.freshO (S := None) hL432 [])
  have hL448 := hL432.ext hE450
  have K449 := Keep.ext (s := w.heap.size) (O := [some b426, some b374, some b346, some b334, some b309, some b266, some b231, some b213, some b185, some b87, some b55, some b23]) hE450
  obtain ⟨r451, q452, h⟩ := bind_some h
  have f454 := (((((((((((((((((((((((((((((((((((((((((((hE56.mono (K63 None)).mono (K74 None)).mono (K85 None)).mono (K95 None)).mono (K104 None)).mono (K112 None)).mono (K121 None)).mono (K130 None)).mono (K138 None)).mono (K147 None)).mono (K156 None)).mono (K165 None)).mono (K174 None)).mono (K183 None)).mono (K189 None)).mono (K194 None)).mono (K199 None)).mono (K211 None)).mono (K216 None)).mono (K220 None)).mono (K229 None)).mono (K237 None)).mono (K246 None)).mono (K255 None)).mono (K264 None)).mono (K273 None)).mono (K289 None)).mono (K298 None)).mono (K307 None)).mono (K316 None)).mono (K332 None)).mono (K344 None)).mono (K349 None)).mono (K354 None)).mono (K363 None)).mono (K372 None)).mono (K381 None)).mono (K397 None)).mono (K405 None)).mono (K415 None)).mono (K424 None)).mono (K433 None)).mono (K449 None))
  refine Rl.yes (dj := 49) (b' := r399) rfl rfl hc407 (OpY.call en18 rfl rfl (cCheck_w N [r33, r44] r435 (osv (some b55) 0 2 2) v437 v439 v441 v443 _ Any (own_row_any (pre := []) (o := 0) (n := 2) (cap := 2) (hL448.at 10 rfl rfl) f454 vw_any rfl rfl rfl hc57) (k438.mono vw_any) (k440.mono vw_any) (k442.mono vw_any) (k444.mono vw_any) r451 q452) ?_)
  rintro _ w455 hE458 ⟨rfl, -⟩
  have hL456 := hL448.ext hE458
  have K457 := Keep.ext (s := w.heap.size) (O := [some b426, some b374, some b346, some b334, some b309, some b266, some b231, some b213, some b185, some b87, some b55, some b23]) hE458
  refine Rl.yes (dj := 49) (b' := r399) rfl rfl hc407 (OpY.not (x := r451) rfl ?_)
  refine Rl.op (OpY.pick_t (t := r399) (v := (Value.bool (!r451))) rfl hc407 rfl ?_)
  refine Rl.op (OpY.move (v := (Value.bool (!r451))) rfl ?_)
  by_cases hc459 : (!r451) = true
  ·
   replace h := ite_t hc459 h
   refine Rl.yes (dj := 58) (b' := (!r451)) rfl rfl hc459 (OpY.move (v := (osv (some b55) 0 2 2)) rfl ?_)
   refine Rl.yes (dj := 58) (b' := (!r451)) rfl rfl hc459 (OpY.ldBoxA (vs := [(osv (some b185) 0 3 3), (Value.slice none 0 0), (Value.bool false), (Value.slice none 0 0), (Value.slice none 0 0)]) Try.underlying42 rfl ti42 rfl (hL456.at 7 rfl rfl) rfl rfl ?_)
   obtain ⟨r460, q461, h⟩ := bind_some h
   have f463 := (f454.mono (K457 None))
   have f464 := (((((((((((((((((((((((((((hE201.mono (K211 None)).mono (K216 None)).mono (K220 None)).mono (K229 None)).mono (K237 None)).mono (K246 None)).mono (K255 None)).mono (K264 None)).mono (K273 None)).mono (K289 None)).mono (K298 None)).mono (K307 None)).mono (K316 None)).mono (K332 None)).mono (K344 None)).mono (K349 None)).mono (K354 None)).mono (K363 None)).mono (K372 None)).mono (K381 None)).mono (K397 None)).mono (K405 None)).mono (K415 None)).mono (K424 None)).mono (K433 None)).mono (K449 None)).mono (K457 None))
   refine Rl.yes (dj := 58) (b' := (!r451)) rfl rfl hc459 (OpY.call en18 rfl rfl (cCheck_w N [r33, r44] (Proof.mk [(Step.mk [r97] r114), (Step.mk [r123] r140), (Step.mk [r149, r158] r176)] [] (Big.mk false []) []) (osv (some b55) 0 2 2) (osv (some b185) 0 3 3) (Value.slice none 0 0) (Value.slice none 0 0) (Value.slice none 0 0) _ Any (own_row_any (pre := []) (o := 0) (n := 2) (cap := 2) (hL456.at 10 rfl rfl) f463 vw_any rfl rfl rfl hc57) (own_row_any (pre := []) (o := 0) (n := 3) (cap := 3) (hL456.at 8 rfl rfl) f464 vw_any rfl rfl rfl hc202) Rs.nil Rs.nil Rs.nil r460 q461) ?_)
   rintro _ w465 hE468 ⟨rfl, -⟩
   have hL466 := hL456.ext hE468
   have K467 := Keep.ext (s := w.heap.size) (O := [some b426, some b374, some b346, some b334, some b309, some b266, some b231, some b213, some b185, some b87, some b55, some b23]) hE468
   refine Rl.op (OpY.pick_t (t := (!r451)) (v := (Value.bool r460)) rfl hc459 rfl ?_)
   refine Rl.op (OpY.move (v := (Value.bool r460)) rfl ?_)
   by_cases hc469 : r460 = true
   ·
    replace h := ite_t hc469 h
    refine Rl.yes (dj := 63) (b' := r460) rfl rfl hc469 (OpY.move (v := (osv (some b87) 0 2 2)) rfl ?_)
    refine Rl.yes (dj := 63) (b' := r460) rfl rfl hc469 (OpY.ldBoxA (vs := [(Value.slice none 0 0), (osv (some b231) 0 1 1), (Value.bool r239.Negative), v241, (osv (some b334) 0 2 2)]) Try.underlying42 rfl ti42 rfl (hL466.at 2 rfl rfl) rfl rfl ?_)
    obtain ⟨r470, q471, h⟩ := bind_some h
    have f473 := ((((((((((((((((((((((((((((((((((((((((((hE88.mono (K95 None)).mono (K104 None)).mono (K112 None)).mono (K121 None)).mono (K130 None)).mono (K138 None)).mono (K147 None)).mono (K156 None)).mono (K165 None)).mono (K174 None)).mono (K183 None)).mono (K189 None)).mono (K194 None)).mono (K199 None)).mono (K211 None)).mono (K216 None)).mono (K220 None)).mono (K229 None)).mono (K237 None)).mono (K246 None)).mono (K255 None)).mono (K264 None)).mono (K273 None)).mono (K289 None)).mono (K298 None)).mono (K307 None)).mono (K316 None)).mono (K332 None)).mono (K344 None)).mono (K349 None)).mono (K354 None)).mono (K363 None)).mono (K372 None)).mono (K381 None)).mono (K397 None)).mono (K405 None)).mono (K415 None)).mono (K424 None)).mono (K433 None)).mono (K449 None)).mono (K457 None)).mono (K467 None))
    have f474 := ((((((((((((((((((((((((hE232.mono (K237 None)).mono (K246 None)).mono (K255 None)).mono (K264 None)).mono (K273 None)).mono (K289 None)).mono (K298 None)).mono (K307 None)).mono (K316 None)).mono (K332 None)).mono (K344 None)).mono (K349 None)).mono (K354 None)).mono (K363 None)).mono (K372 None)).mono (K381 None)).mono (K397 None)).mono (K405 None)).mono (K415 None)).mono (K424 None)).mono (K433 None)).mono (K449 None)).mono (K457 None)).mono (K467 None))
    have f475 := ((((((((((((f351.mono (K354 None)).mono (K363 None)).mono (K372 None)).mono (K381 None)).mono (K397 None)).mono (K405 None)).mono (K415 None)).mono (K424 None)).mono (K433 None)).mono (K449 None)).mono (K457 None)).mono (K467 None))
    have f476 := ((((((((((((((hE335.mono (K344 None)).mono (K349 None)).mono (K354 None)).mono (K363 None)).mono (K372 None)).mono (K381 None)).mono (K397 None)).mono (K405 None)).mono (K415 None)).mono (K424 None)).mono (K433 None)).mono (K449 None)).mono (K457 None)).mono (K467 None))
    refine Rl.yes (dj := 63) (b' := r460) rfl rfl hc469 (OpY.call en18 rfl rfl (cCheck_w N [r65, r76] (Proof.mk [] [r222] r239 [r275, r318]) (osv (some b87) 0 2 2) (Value.slice none 0 0) (osv (some b231) 0 1 1) v241 (osv (some b334) 0 2 2) _ Any (own_row_any (pre := []) (o := 0) (n := 2) (cap := 2) (hL466.at 9 rfl rfl) f473 vw_any rfl rfl rfl hc89) Rs.nil (own_row_any (pre := []) (o := 0) (n := 1) (cap := 1) (hL466.at 6 rfl rfl) f474 vw_any rfl rfl rfl hc233) (f475.mono vw_any) (own_row_any (pre := []) (o := 0) (n := 2) (cap := 2) (hL466.at 3 rfl rfl) f476 vw_any rfl rfl rfl hc336) r470 q471) ?_)
    rintro _ w477 hE480 ⟨rfl, -⟩
    have hL478 := hL466.ext hE480
    have K479 := Keep.ext (s := w.heap.size) (O := [some b426, some b374, some b346, some b334, some b309, some b266, some b231, some b213, some b185, some b87, some b55, some b23]) hE480
    refine Rl.op (OpY.pick_t (t := r460) (v := (Value.bool r470)) rfl hc469 rfl ?_)
    refine Rl.op (OpY.move (v := (Value.bool r470)) rfl ?_)
    by_cases hc481 : r470 = true
    ·
     replace h := ite_t hc481 h
     refine Rl.yes (dj := 68) (b' := r470) rfl rfl hc481 (OpY.move (v := (osv (some b55) 0 2 2)) rfl ?_)
     refine Rl.yes (dj := 68) (b' := r470) rfl rfl hc481 (OpY.ldBoxA (vs := [(Value.slice none 0 0), (osv (some b231) 0 1 1), (Value.bool r239.Negative), v241, (osv (some b334) 0 2 2)]) Try.underlying42 rfl ti42 rfl (hL478.at 2 rfl rfl) rfl rfl ?_)
     obtain ⟨r482, q483, h⟩ := bind_some h
     have f485 := ((f463.mono (K467 None)).mono (K479 None))
     have f486 := (f474.mono (K479 None))
     have f487 := (f475.mono (K479 None))
     have f488 := (f476.mono (K479 None))
     refine Rl.yes (dj := 68) (b' := r470) rfl rfl hc481 (OpY.call en18 rfl rfl (cCheck_w N [r33, r44] (Proof.mk [] [r222] r239 [r275, r318]) (osv (some b55) 0 2 2) (Value.slice none 0 0) (osv (some b231) 0 1 1) v241 (osv (some b334) 0 2 2) _ Any (own_row_any (pre := []) (o := 0) (n := 2) (cap := 2) (hL478.at 10 rfl rfl) f485 vw_any rfl rfl rfl hc57) Rs.nil (own_row_any (pre := []) (o := 0) (n := 1) (cap := 1) (hL478.at 6 rfl rfl) f486 vw_any rfl rfl rfl hc233) (f487.mono vw_any) (own_row_any (pre := []) (o := 0) (n := 2) (cap := 2) (hL478.at 3 rfl rfl) f488 vw_any rfl rfl rfl hc336) r482 q483) ?_)
     rintro _ w489 hE492 ⟨rfl, -⟩
     have hL490 := hL478.ext hE492
     have K491 := Keep.ext (s := w.heap.size) (O := [some b426, some b374, some b346, some b334, some b309, some b266, some b231, some b213, some b185, some b87, some b55, some b23]) hE492
     refine Rl.yes (dj := 68) (b' := r470) rfl rfl hc481 (OpY.not (x := r482) rfl ?_)
     refine Rl.op (OpY.pick_t (t := r470) (v := (Value.bool (!r482))) rfl hc481 rfl ?_)
     refine Rl.op (OpY.move (v := (Value.bool (!r482))) rfl ?_)
     by_cases hc493 : (!r482) = true
     ·
      replace h := ite_t hc493 h
      refine Rl.yes (dj := 74) (b' := (!r482)) rfl rfl hc493 (OpY.ldBoxA (vs := [(osv (some b185) 0 3 3), (Value.slice none 0 0), (Value.bool false), (Value.slice none 0 0), (Value.slice none 0 0)]) Try.underlying42 rfl ti42 rfl (hL490.at 7 rfl rfl) rfl rfl ?_)
      obtain ⟨r494, q495, h⟩ := bind_some h
      have f497 := (((f464.mono (K467 None)).mono (K479 None)).mono (K491 None))
      refine Rl.yes (dj := 74) (b' := (!r482)) rfl rfl hc493 (OpY.call en21 rfl rfl (cSize_w N (Proof.mk [(Step.mk [r97] r114), (Step.mk [r123] r140), (Step.mk [r149, r158] r176)] [] (Big.mk false []) []) (osv (some b185) 0 3 3) (Value.slice none 0 0) (Value.slice none 0 0) (Value.slice none 0 0) _ Any (own_row_any (pre := []) (o := 0) (n := 3) (cap := 3) (hL490.at 8 rfl rfl) f497 vw_any rfl rfl rfl hc202) Rs.nil Rs.nil Rs.nil r494 q495) ?_)
      rintro _ w498 hE501 ⟨rfl, -⟩
      have hL499 := hL490.ext hE501
      have K500 := Keep.ext (s := w.heap.size) (O := [some b426, some b374, some b346, some b334, some b309, some b266, some b231, some b213, some b185, some b87, some b55, some b23]) hE501
      refine Rl.yes (dj := 74) (b' := (!r482)) rfl rfl hc493 (OpY.eql (x := r494) (y := 3) ((r494 : Int) = 3) rfl rfl Iff.rfl ?_)
      refine Rl.op (OpY.pick_t (t := (!r482)) (v := (Value.bool (decide ((r494 : Int) = 3)))) rfl hc493 rfl ?_)
      refine Rl.op (OpY.move (v := (Value.bool (decide ((r494 : Int) = 3)))) rfl ?_)
      by_cases hc502 : (r494 : Int) = 3
      ·
       replace h := ite_t hc502 h
       refine Rl.yes (dj := 79) (b' := (decide ((r494 : Int) = 3))) rfl rfl (decide_eq_true hc502) (OpY.ldBoxA (vs := [(Value.slice none 0 0), (osv (some b231) 0 1 1), (Value.bool r239.Negative), v241, (osv (some b334) 0 2 2)]) Try.underlying42 rfl ti42 rfl (hL499.at 2 rfl rfl) rfl rfl ?_)
       obtain ⟨r503, q504, h⟩ := bind_some h
       have f506 := ((f486.mono (K491 None)).mono (K500 None))
       have f507 := ((f487.mono (K491 None)).mono (K500 None))
       have f508 := ((f488.mono (K491 None)).mono (K500 None))
       refine Rl.yes (dj := 79) (b' := (decide ((r494 : Int) = 3))) rfl rfl (decide_eq_true hc502) (OpY.call en21 rfl rfl (cSize_w N (Proof.mk [] [r222] r239 [r275, r318]) (Value.slice none 0 0) (osv (some b231) 0 1 1) v241 (osv (some b334) 0 2 2) _ Any Rs.nil (own_row_any (pre := []) (o := 0) (n := 1) (cap := 1) (hL499.at 6 rfl rfl) f506 vw_any rfl rfl rfl hc233) (f507.mono vw_any) (own_row_any (pre := []) (o := 0) (n := 2) (cap := 2) (hL499.at 3 rfl rfl) f508 vw_any rfl rfl rfl hc336) r503 q504) ?_)
       rintro _ w509 hE512 ⟨rfl, -⟩
       have hL510 := hL499.ext hE512
       refine Rl.yes (dj := 79) (b' := (decide ((r494 : Int) = 3))) rfl rfl (decide_eq_true hc502) (OpY.eql (x := r503) (y := 3) ((r503 : Int) = 3) rfl rfl Iff.rfl ?_)
       refine Rl.op (OpY.pick_t (t := (decide ((r494 : Int) = 3))) (v := (Value.bool (decide ((r503 : Int) = 3)))) rfl (decide_eq_true hc502) rfl ?_)
       refine Rl.op (OpY.assign (v := (Value.bool (decide ((r503 : Int) = 3)))) rfl ?_)
       refine Rl.nil ?_
       refine Swp.ret ?_
       obtain rfl := Option.some.inj h
       refine ⟨[(Value.bool (decide ((r503 : Int) = 3)))], ⟨rfl, trivial⟩, ⟨_, rfl, hL510.done, ?_⟩⟩
       exact ⟨rfl, trivial⟩
      ·
       replace h := ite_f hc502 h
       refine Rl.no (dj := 79) (b' := (decide ((r494 : Int) = 3))) rfl rfl (decide_eq_false hc502) ?_
       refine Rl.no (dj := 79) (b' := (decide ((r494 : Int) = 3))) rfl rfl (decide_eq_false hc502) ?_
       refine Rl.no (dj := 79) (b' := (decide ((r494 : Int) = 3))) rfl rfl (decide_eq_false hc502) ?_
       refine Rl.op (OpY.pick_f (t := (decide ((r494 : Int) = 3))) (v := (Value.bool false)) rfl (decide_eq_false hc502) rfl ?_)
       refine Rl.op (OpY.assign (v := (Value.bool false)) rfl ?_)
       refine Rl.nil ?_
       refine Swp.ret ?_
       obtain rfl := Option.some.inj h
       refine ⟨[(Value.bool false)], ⟨rfl, trivial⟩, ⟨_, rfl, hL499.done, ?_⟩⟩
       exact ⟨rfl, trivial⟩
     ·
      replace h := ite_f hc493 h
      refine Rl.no (dj := 74) (b' := (!r482)) rfl rfl (eq_false_of_ne_true hc493) ?_
      refine Rl.no (dj := 74) (b' := (!r482)) rfl rfl (eq_false_of_ne_true hc493) ?_
      refine Rl.no (dj := 74) (b' := (!r482)) rfl rfl (eq_false_of_ne_true hc493) ?_
      refine Rl.op (OpY.pick_f (t := (!r482)) (v := (Value.bool false)) rfl (eq_false_of_ne_true hc493) rfl ?_)
      refine Rl.op (OpY.move (v := (Value.bool false)) rfl ?_)
      refine Rl.no (dj := 79) (b' := false) rfl rfl rfl ?_
      refine Rl.no (dj := 79) (b' := false) rfl rfl rfl ?_
      refine Rl.no (dj := 79) (b' := false) rfl rfl rfl ?_
      refine Rl.op (OpY.pick_f (t := false) (v := (Value.bool false)) rfl rfl rfl ?_)
      refine Rl.op (OpY.assign (v := (Value.bool false)) rfl ?_)
      refine Rl.nil ?_
      refine Swp.ret ?_
      obtain rfl := Option.some.inj h
      refine ⟨[(Value.bool false)], ⟨rfl, trivial⟩, ⟨_, rfl, hL490.done, ?_⟩⟩
      exact ⟨rfl, trivial⟩
    ·
     replace h := ite_f hc481 h
     refine Rl.no (dj := 68) (b' := r470) rfl rfl (eq_false_of_ne_true hc481) ?_
     refine Rl.no (dj := 68) (b' := r470) rfl rfl (eq_false_of_ne_true hc481) ?_
     refine Rl.no (dj := 68) (b' := r470) rfl rfl (eq_false_of_ne_true hc481) ?_
     refine Rl.no (dj := 68) (b' := r470) rfl rfl (eq_false_of_ne_true hc481) ?_
     refine Rl.op (OpY.pick_f (t := r470) (v := (Value.bool false)) rfl (eq_false_of_ne_true hc481) rfl ?_)
     refine Rl.op (OpY.move (v := (Value.bool false)) rfl ?_)
     refine Rl.no (dj := 74) (b' := false) rfl rfl rfl ?_
     refine Rl.no (dj := 74) (b' := false) rfl rfl rfl ?_
     refine Rl.no (dj := 74) (b' := false) rfl rfl rfl ?_
     refine Rl.op (OpY.pick_f (t := false) (v := (Value.bool false)) rfl rfl rfl ?_)
     refine Rl.op (OpY.move (v := (Value.bool false)) rfl ?_)
     refine Rl.no (dj := 79) (b' := false) rfl rfl rfl ?_
     refine Rl.no (dj := 79) (b' := false) rfl rfl rfl ?_
     refine Rl.no (dj := 79) (b' := false) rfl rfl rfl ?_
     refine Rl.op (OpY.pick_f (t := false) (v := (Value.bool false)) rfl rfl rfl ?_)
     refine Rl.op (OpY.assign (v := (Value.bool false)) rfl ?_)
     refine Rl.nil ?_
     refine Swp.ret ?_
     obtain rfl := Option.some.inj h
     refine ⟨[(Value.bool false)], ⟨rfl, trivial⟩, ⟨_, rfl, hL478.done, ?_⟩⟩
     exact ⟨rfl, trivial⟩
   ·
    replace h := ite_f hc469 h
    refine Rl.no (dj := 63) (b' := r460) rfl rfl (eq_false_of_ne_true hc469) ?_
    refine Rl.no (dj := 63) (b' := r460) rfl rfl (eq_false_of_ne_true hc469) ?_
    refine Rl.no (dj := 63) (b' := r460) rfl rfl (eq_false_of_ne_true hc469) ?_
    refine Rl.op (OpY.pick_f (t := r460) (v := (Value.bool false)) rfl (eq_false_of_ne_true hc469) rfl ?_)
    refine Rl.op (OpY.move (v := (Value.bool false)) rfl ?_)
    refine Rl.no (dj := 68) (b' := false) rfl rfl rfl ?_
    refine Rl.no (dj := 68) (b' := false) rfl rfl rfl ?_
    refine Rl.no (dj := 68) (b' := false) rfl rfl rfl ?_
    refine Rl.no (dj := 68) (b' := false) rfl rfl rfl ?_
    refine Rl.op (OpY.pick_f (t := false) (v := (Value.bool false)) rfl rfl rfl ?_)
    refine Rl.op (OpY.move (v := (Value.bool false)) rfl ?_)
    refine Rl.no (dj := 74) (b' := false) rfl rfl rfl ?_
    refine Rl.no (dj := 74) (b' := false) rfl rfl rfl ?_
    refine Rl.no (dj := 74) (b' := false) rfl rfl rfl ?_
    refine Rl.op (OpY.pick_f (t := false) (v := (Value.bool false)) rfl rfl rfl ?_)
    refine Rl.op (OpY.move (v := (Value.bool false)) rfl ?_)
    refine Rl.no (dj := 79) (b' := false) rfl rfl rfl ?_
    refine Rl.no (dj := 79) (b' := false) rfl rfl rfl ?_
    refine Rl.no (dj := 79) (b' := false) rfl rfl rfl ?_
    refine Rl.op (OpY.pick_f (t := false) (v := (Value.bool false)) rfl rfl rfl ?_)
    refine Rl.op (OpY.assign (v := (Value.bool false)) rfl ?_)
    refine Rl.nil ?_
    refine Swp.ret ?_
    obtain rfl := Option.some.inj h
    refine ⟨[(Value.bool false)], ⟨rfl, trivial⟩, ⟨_, rfl, hL466.done, ?_⟩⟩
    exact ⟨rfl, trivial⟩
  ·
   replace h := ite_f hc459 h
   refine Rl.no (dj := 58) (b' := (!r451)) rfl rfl (eq_false_of_ne_true hc459) ?_
   refine Rl.no (dj := 58) (b' := (!r451)) rfl rfl (eq_false_of_ne_true hc459) ?_
   refine Rl.no (dj := 58) (b' := (!r451)) rfl rfl (eq_false_of_ne_true hc459) ?_
   refine Rl.op (OpY.pick_f (t := (!r451)) (v := (Value.bool false)) rfl (eq_false_of_ne_true hc459) rfl ?_)
   refine Rl.op (OpY.move (v := (Value.bool false)) rfl ?_)
   refine Rl.no (dj := 63) (b' := false) rfl rfl rfl ?_
   refine Rl.no (dj := 63) (b' := false) rfl rfl rfl ?_
   refine Rl.no (dj := 63) (b' := false) rfl rfl rfl ?_
   refine Rl.op (OpY.pick_f (t := false) (v := (Value.bool false)) rfl rfl rfl ?_)
   refine Rl.op (OpY.move (v := (Value.bool false)) rfl ?_)
   refine Rl.no (dj := 68) (b' := false) rfl rfl rfl ?_
   refine Rl.no (dj := 68) (b' := false) rfl rfl rfl ?_
   refine Rl.no (dj := 68) (b' := false) rfl rfl rfl ?_
   refine Rl.no (dj := 68) (b' := false) rfl rfl rfl ?_
   refine Rl.op (OpY.pick_f (t := false) (v := (Value.bool false)) rfl rfl rfl ?_)
   refine Rl.op (OpY.move (v := (Value.bool false)) rfl ?_)
   refine Rl.no (dj := 74) (b' := false) rfl rfl rfl ?_
   refine Rl.no (dj := 74) (b' := false) rfl rfl rfl ?_
   refine Rl.no (dj := 74) (b' := false) rfl rfl rfl ?_
   refine Rl.op (OpY.pick_f (t := false) (v := (Value.bool false)) rfl rfl rfl ?_)
   refine Rl.op (OpY.move (v := (Value.bool false)) rfl ?_)
   refine Rl.no (dj := 79) (b' := false) rfl rfl rfl ?_
   refine Rl.no (dj := 79) (b' := false) rfl rfl rfl ?_
   refine Rl.no (dj := 79) (b' := false) rfl rfl rfl ?_
   refine Rl.op (OpY.pick_f (t := false) (v := (Value.bool false)) rfl rfl rfl ?_)
   refine Rl.op (OpY.assign (v := (Value.bool false)) rfl ?_)
   refine Rl.nil ?_
   refine Swp.ret ?_
   obtain rfl := Option.some.inj h
   refine ⟨[(Value.bool false)], ⟨rfl, trivial⟩, ⟨_, rfl, hL456.done, ?_⟩⟩
   exact ⟨rfl, trivial⟩
 ·
  replace h := ite_f hc407 h
  refine Rl.no (dj := 49) (b' := r399) rfl rfl (eq_false_of_ne_true hc407) ?_
  refine Rl.no (dj := 49) (b' := r399) rfl rfl (eq_false_of_ne_true hc407) ?_
  refine Rl.no (dj := 49) (b' := r399) rfl rfl (eq_false_of_ne_true hc407) ?_
  refine Rl.no (dj := 49) (b' := r399) rfl rfl (eq_false_of_ne_true hc407) ?_
  refine Rl.no (dj := 49) (b' := r399) rfl rfl (eq_false_of_ne_true hc407) ?_
  refine Rl.no (dj := 49) (b' := r399) rfl rfl (eq_false_of_ne_true hc407) ?_
  refine Rl.no (dj := 49) (b' := r399) rfl rfl (eq_false_of_ne_true hc407) ?_
  refine Rl.op (OpY.pick_f (t := r399) (v := (Value.bool false)) rfl (eq_false_of_ne_true hc407) rfl ?_)
  refine Rl.op (OpY.move (v := (Value.bool false)) rfl ?_)
  refine Rl.no (dj := 58) (b' := false) rfl rfl rfl ?_
  refine Rl.no (dj := 58) (b' := false) rfl rfl rfl ?_
  refine Rl.no (dj := 58) (b' := false) rfl rfl rfl ?_
  refine Rl.op (OpY.pick_f (t := false) (v := (Value.bool false)) rfl rfl rfl ?_)
  refine Rl.op (OpY.move (v := (Value.bool false)) rfl ?_)
  refine Rl.no (dj := 63) (b' := false) rfl rfl rfl ?_
  refine Rl.no (dj := 63) (b' := false) rfl rfl rfl ?_
  refine Rl.no (dj := 63) (b' := false) rfl rfl rfl ?_
  refine Rl.op (OpY.pick_f (t := false) (v := (Value.bool false)) rfl rfl rfl ?_)
  refine Rl.op (OpY.move (v := (Value.bool false)) rfl ?_)
  refine Rl.no (dj := 68) (b' := false) rfl rfl rfl ?_
  refine Rl.no (dj := 68) (b' := false) rfl rfl rfl ?_
  refine Rl.no (dj := 68) (b' := false) rfl rfl rfl ?_
  refine Rl.no (dj := 68) (b' := false) rfl rfl rfl ?_
  refine Rl.op (OpY.pick_f (t := false) (v := (Value.bool false)) rfl rfl rfl ?_)
  refine Rl.op (OpY.move (v := (Value.bool false)) rfl ?_)
  refine Rl.no (dj := 74) (b' := false) rfl rfl rfl ?_
  refine Rl.no (dj := 74) (b' := false) rfl rfl rfl ?_
  refine Rl.no (dj := 74) (b' := false) rfl rfl rfl ?_
  refine Rl.op (OpY.pick_f (t := false) (v := (Value.bool false)) rfl rfl rfl ?_)
  refine Rl.op (OpY.move (v := (Value.bool false)) rfl ?_)
  refine Rl.no (dj := 79) (b' := false) rfl rfl rfl ?_
  refine Rl.no (dj := 79) (b' := false) rfl rfl rfl ?_
  refine Rl.no (dj := 79) (b' := false) rfl rfl rfl ?_
  refine Rl.op (OpY.pick_f (t := false) (v := (Value.bool false)) rfl rfl rfl ?_)
  refine Rl.op (OpY.assign (v := (Value.bool false)) rfl ?_)
  refine Rl.nil ?_
  refine Swp.ret ?_
  obtain rfl := Option.some.inj h
  refine ⟨[(Value.bool false)], ⟨rfl, trivial⟩, ⟨_, rfl, hL404.done, ?_⟩⟩
  exact ⟨rfl, trivial⟩
theorem lawOf_w (N : Nat) (l : (List Constraint)) (n : Int) (l_v : Value) (w : World) (S : Nat → Prop) (l_h : Rs rConstraint (Hv w.heap.size S [] w) l_v l) (r : Bool) (h : lawOf N l n = some r) :
  Calls Try.prog 9 #[l_v, (Value.int .i64 n)] w (Ret w (fun v w' => (Value.bool r) = v ∧ True)) := by
 unfold lawOf at h
 have hL : Go.X.Loc [] [] w w [] [] := Go.X.Loc.begin0 w
 refine calls_of (l := [l_v, (Value.int .i64 n)]) (rl := [.tmp 4]) (n := 51) Try.func9 rfl rfl rfl (Nat.le_of_ble_eq_true rfl) ?_
 refine Swp.seq ?_
 refine Swp.region rfl ?_
 refine Rl.op (OpY.assign (v := (Value.bool false)) rfl ?_)
 refine Rl.nil ?_
 refine Swp.seq ?_
 refine Swp.seq ?_
 obtain ⟨s11, h, g12⟩ := bind_some h
 refine Swp.join (fun e w' => ∃ (x10 : Bool) (u : Env), x10 = s11 ∧ e = upds [(0, l_v), (1, (Value.int .i64 n)), (15, (Value.bool x10))] u ∧ Go.X.Loc [] [] w w' [] [] ∧ Keep w.heap.size [] w [] w' ∧ True) ?_ ?_
 ·
  refine Swp.region rfl ?_
  obtain ⟨r13, q14, h⟩ := bind_some h
  refine Rl.op (OpY.call en11 rfl rfl (awake_w N _ Any r13 q14) ?_)
  rintro _ w16 hE19 ⟨rfl, -⟩
  have hL17 := hL.ext hE19
  have K18 := Keep.ext (s := w.heap.size) (O := []) hE19
  refine Rl.op (OpY.not (x := r13) rfl ?_)
  refine Rl.op (OpY.move (v := (Value.bool (!r13))) rfl ?_)
  by_cases hc20 : (!r13) = true
  ·
   replace h := ite_t hc20 h
   refine Rl.no (dj := 11) (b' := (!r13)) rfl rfl hc20 ?_
   refine Rl.no (dj := 11) (b' := (!r13)) rfl rfl hc20 ?_
   refine Rl.no (dj := 11) (b' := (!r13)) rfl rfl hc20 ?_
   refine Rl.op (OpY.pick_t (t := (!r13)) (v := (Value.bool true)) rfl hc20 rfl ?_)
   refine Rl.nil ?_
   obtain rfl := Option.some.inj h
   refine Swp.pop_back ?_
   exact ⟨true, _, rfl, (upds_sym ⟨rfl, ⟨rfl, ⟨rfl, trivial⟩⟩⟩), hL17, K18, trivial⟩
  ·
   replace h := ite_f hc20 h
   refine Rl.yes (dj := 11) (b' := (!r13)) rfl rfl (eq_false_of_ne_true hc20) (OpY.move (v := l_v) rfl ?_)
   have f21 := (l_h.mono (K18 S))
   refine Rl.yes (dj := 11) (b' := (!r13)) rfl rfl (eq_false_of_ne_true hc20) (OpY.lenRo (v := l_v) Try.underlying58 rfl f21 ?_)
   refine Rl.yes (dj := 11) (b' := (!r13)) rfl rfl (eq_false_of_ne_true hc20) (OpY.gtr (x := (List.length l : Int)) (y := 8) (((List.length l : Int) : Int) > 8) rfl rfl Iff.rfl ?_)
   refine Rl.op (OpY.pick_f (t := (!r13)) (v := (Value.bool (decide (((List.length l : Int) : Int) > 8)))) rfl (eq_false_of_ne_true hc20) rfl ?_)
   refine Rl.nil ?_
   obtain rfl := Option.some.inj h
   refine Swp.pop_back ?_
   exact ⟨(decide (((List.length l : Int) : Int) > 8)), _, rfl, (upds_sym ⟨rfl, ⟨rfl, ⟨rfl, trivial⟩⟩⟩), hL17, K18, trivial⟩
 ·
  rintro _ w22 ⟨x10, u, rfl, rfl, hL23, K24, -⟩
  replace h := g12
  try dsimp only at h
  refine Swp.cond_b x10 rfl (fun hc25 => ?_) (fun hc25 => ?_)
  ·
   replace h := ite_t hc25 h
   refine Swp.seq ?_
   refine Swp.region rfl ?_
   obtain ⟨r26, q27, h⟩ := bind_some h
   refine Rl.op (OpY.call en11 rfl rfl (awake_w N _ Any r26 q27) ?_)
   rintro _ w29 hE32 ⟨rfl, -⟩
   have hL30 := hL23.ext hE32
   refine Rl.op (OpY.assign (v := (Value.bool r26)) rfl ?_)
   refine Rl.nil ?_
   refine Swp.ret ?_
   obtain rfl := Option.some.inj h
   refine ⟨[(Value.bool r26)], ⟨rfl, trivial⟩, ⟨_, rfl, hL30.done, ?_⟩⟩
   exact ⟨rfl, trivial⟩
  ·
   replace h := ite_f hc25 h
   refine Swp.skip ?_
   refine Swp.seq ?_
   refine Swp.seq ?_
   refine Swp.region rfl ?_
   refine Rl.op (OpY.move (v := l_v) rfl ?_)
   have f33 := (l_h.mono (K24 S))
   refine Rl.op (OpY.lenRo (v := l_v) Try.underlying58 rfl f33 ?_)
   refine Rl.op (OpY.move (v := (Value.int .i64 0)) rfl ?_)
   refine Rl.nil ?_
   obtain ⟨s100, hl102, g101⟩ := bind_some h
   refine Swp.join (fun e w' => ∃  (u : Env), (Sum.inl ()) = s100 ∧ e = upds [(0, l_v), (1, (Value.int .i64 n))] u ∧ Go.X.Loc [] [] w w' [] [] ∧ Keep w.heap.size [] w22 [] w' ∧ True) ?_ ?_
   ·
    refine Swp.block ?_
    refine Swp.loopM hl102 (fun (ss : Int) (e : Env) (w' : World) => match ss with | x99 => ∃ (u : Env), e = upds [(0, l_v), (1, (Value.int .i64 n)), (17, l_v), (18, (Value.int .i64 (List.length l : Int))), (19, (Value.int .i64 x99))] u ∧ Go.X.Loc [] [] w w' [] [] ∧ Keep w.heap.size [] w22 [] w' ∧ True) ⟨_, (upds_sym ⟨rfl, ⟨rfl, ⟨rfl, ⟨rfl, ⟨rfl, trivial⟩⟩⟩⟩⟩), hL23, Keep.refl, trivial⟩ ?_
    rintro x99 oo _ w104 ⟨u, rfl, hL105, K106, -⟩ h hd103
    rw [lawOf_b1] at h
    refine Swp.seq ?_
    refine Swp.region rfl ?_
    refine Rl.op (OpY.lss (x := x99) (y := (List.length l : Int)) ((x99 : Int) < (List.length l : Int)) rfl rfl Iff.rfl ?_)
    refine Rl.nil ?_
    refine Swp.seq ?_
    refine Swp.cond_d ((x99 : Int) < (List.length l : Int)) rfl (fun hc107 => ?_) (fun hc107 => ?_)
    ·
     replace h := ite_t hc107 h
     refine Swp.skip ?_
     refine Swp.seq ?_
     refine Swp.block ?_
     refine Swp.seq ?_
     refine Swp.region rfl ?_
     obtain ⟨x108, q109, h⟩ := bind_some h
     obtain ⟨n110, q111, q112⟩ := idx_some q109
     have f123 := (f33.mono (K106 S))
     obtain ⟨b113, o114, c115, vs116, q117, q118, f119, q120⟩ := Rs.get f123 q112
     obtain ⟨v121, rfl, k122, -⟩ := rConstraint_open q120
     refine Rl.op (OpY.ixRoD (r := rConstraint) (v := l_v) (n := n110) (m := (o114 + n110 * rConstraint.sz)) Try.underlying58 ti63 rfl q117 rfl q111 q112 rfl ?_)
     refine Rl.op (OpY.ldRoA (vs := [(Value.int .i64 x108.Linear.Const), v121, (Value.bool x108.Equal)]) Try.underlying63 rfl ti63 rfl rfl vw_view f119 ?_)
     refine Rl.op (OpY.alloc (cs := [(Value.int .i64 0), (Value.slice none 0 0), (Value.bool false)]) ti63 rfl hL105 ?_)
     intro b124 w125 (hL126 : Go.X.Loc [] [] w w125 [some b124] [Cont.cells [(Value.int .i64 0), (Value.slice none 0 0), (Value.bool false)]]) hS128
     have K127 := Keep.step (s := w.heap.size) hS128
     have f129 := (k122.mono (K127 S))
     refine Rl.op0 (OpY.store (vs := [(Value.int .i64 x108.Linear.Const), v121, (Value.bool x108.Equal)]) ti63 rfl rfl rfl rfl (ones_cons rfl (ones_cons f129.one (ones_cons rfl ones_nil))) hL126 0 rfl rfl (Nat.le_of_ble_eq_true rfl) ?_)
     intro w130 (hL131 : Go.X.Loc [] [] w w130 [some b124] [Cont.cells [(Value.int .i64 x108.Linear.Const), v121, (Value.bool x108.Equal)]]) hS133
     have K132 := Keep.step (s := w.heap.size) hS133
     refine Rl.nil ?_
     refine Swp.seq ?_
     refine Swp.region rfl ?_
     refine Rl.op (OpY.fieldAddr (q := 0) Try.underlying63 rfl ti61 rfl rfl rfl ?_)
     refine Rl.op (OpY.fieldAddr (q := 1) Try.underlying61 rfl ti59 rfl rfl rfl ?_)
     refine Rl.op (OpY.ldBox1 (v := v121) Try.underlying59 rfl rfl (hL131.at 0 rfl rfl) rfl ?_)
     have f134 := (f129.mono (K132 S))
     refine Rl.op (OpY.lenRo (v := v121) Try.underlying59 rfl f134 ?_)
     refine Rl.op (OpY.gtr (x := (List.length x108.Linear.Coefs : Int)) (y := 8) (((List.length x108.Linear.Coefs : Int) : Int) > 8) rfl rfl Iff.rfl ?_)
     refine Rl.nil ?_
     refine Swp.cond_d (((List.length x108.Linear.Coefs : Int) : Int) > 8) rfl (fun hc135 => ?_) (fun hc135 => ?_)
     ·
      replace h := ite_t hc135 h
      refine Swp.seq ?_
      refine Swp.region rfl ?_
      refine Rl.op (OpY.assign (v := (Value.bool true)) rfl ?_)
      refine Rl.nil ?_
      refine Swp.ret ?_
      obtain rfl := Option.some.inj h
      obtain rfl := hd103 _ rfl
      replace h := g101
      try dsimp only at h
      obtain rfl := Option.some.inj h
      refine ⟨[(Value.bool true)], ⟨rfl, trivial⟩, ⟨_, rfl, hL131.done, ?_⟩⟩
      exact ⟨rfl, trivial⟩
     ·
      replace h := ite_f hc135 h
      refine Swp.skip ?_
      refine Swp.pop_blk ?_
      refine Swp.region rfl ?_
      refine Rl.op (OpY.add (x := x99) (y := 1) (z := (iw (x99 + 1))) rfl rfl rfl ?_)
      refine Rl.op (OpY.move (v := (Value.int .i64 (iw (x99 + 1)))) rfl ?_)
      refine Rl.nil ?_
      have hp136 := hL131.pick [] rfl rfl rfl
      have hL138 : Go.X.Loc [] [] w w130 [] [] := hp136.1
      have K137 := Keep.step (s := w.heap.size) hp136.2
      obtain rfl := Option.some.inj h
      refine Swp.pop_back ⟨(iw (x99 + 1)), rfl, ?_⟩
      exact ⟨_, (upds_sym ⟨rfl, ⟨rfl, ⟨rfl, ⟨rfl, ⟨rfl, trivial⟩⟩⟩⟩⟩), hL138, (Keep.trans (Keep.trans (Keep.trans K106 K127) K132) K137), trivial⟩
    ·
     replace h := ite_f hc107 h
     refine Swp.exit rfl ?_
     obtain rfl := Option.some.inj h
     obtain rfl := hd103 _ rfl
     replace h := g101
     try dsimp only at h
     skip
     refine Swp.pop_back ?_
     exact ⟨_, rfl, (upds_sym ⟨rfl, ⟨rfl, trivial⟩⟩), hL105, K106, trivial⟩
   ·
    rintro _ w139 ⟨u, rfl, rfl, hL140, K141, -⟩
    replace h := g101
    try dsimp only at h
    refine Swp.seq ?_
    refine Swp.seq ?_
    refine Swp.region rfl ?_
    refine Rl.op (OpY.move (v := l_v) rfl ?_)
    have f142 := (f33.mono (K141 S))
    refine Rl.op (OpY.lenRo (v := l_v) Try.underlying58 rfl f142 ?_)
    refine Rl.op (OpY.move (v := (Value.int .i64 0)) rfl ?_)
    refine Rl.nil ?_
    obtain ⟨s369, hl371, g370⟩ := bind_some h
    refine Swp.join (fun e w' => ∃  (u : Env), (Sum.inl ()) = s369 ∧ e = upds [(0, l_v), (1, (Value.int .i64 n))] u ∧ Go.X.Loc [] [] w w' [] [] ∧ Keep w.heap.size [] w139 [] w' ∧ True) ?_ ?_
    ·
     refine Swp.block ?_
     refine Swp.loopM hl371 (fun (ss : Int) (e : Env) (w' : World) => match ss with | x368 => ∃ (u : Env), e = upds [(0, l_v), (1, (Value.int .i64 n)), (29, l_v), (30, (Value.int .i64 (List.length l : Int))), (31, (Value.int .i64 x368))] u ∧ Go.X.Loc [] [] w w' [] [] ∧ Keep w.heap.size [] w139 [] w' ∧ True) ⟨_, (upds_sym ⟨rfl, ⟨rfl, ⟨rfl, ⟨rfl, ⟨rfl, trivial⟩⟩⟩⟩⟩), hL140, Keep.refl, trivial⟩ ?_
     rintro x368 oo _ w373 ⟨u, rfl, hL374, K375, -⟩ h hd372
     rw [lawOf_b2] at h
     refine Swp.seq ?_
     refine Swp.region rfl ?_
     refine Rl.op (OpY.lss (x := x368) (y := (List.length l : Int)) ((x368 : Int) < (List.length l : Int)) rfl rfl Iff.rfl ?_)
     refine Rl.nil ?_
     refine Swp.seq ?_
     refine Swp.cond_d ((x368 : Int) < (List.length l : Int)) rfl (fun hc376 => ?_) (fun hc376 => ?_)
     ·
      replace h := ite_t hc376 h
      refine Swp.skip ?_
      refine Swp.seq ?_
      refine Swp.block ?_
      refine Swp.seq ?_
      refine Swp.region rfl ?_
      obtain ⟨x377, q378, h⟩ := bind_some h
      obtain ⟨n379, q380, q381⟩ := idx_some q378
      have f392 := (f142.mono (K375 S))
      obtain ⟨b382, o383, c384, vs385, q386, q387, f388, q389⟩ := Rs.get f392 q381
      obtain ⟨v390, rfl, k391, -⟩ := rConstraint_open q389
      refine Rl.op (OpY.ixRoD (r := rConstraint) (v := l_v) (n := n379) (m := (o383 + n379 * rConstraint.sz)) Try.underlying58 ti63 rfl q386 rfl q380 q381 rfl ?_)
      refine Rl.op (OpY.ldRoA (vs := [(Value.int .i64 x377.Linear.Const), v390, (Value.bool x377.Equal)]) Try.underlying63 rfl ti63 rfl rfl vw_view f388 ?_)
      refine Rl.op (OpY.alloc (cs := [(Value.int .i64 0), (Value.slice none 0 0), (Value.bool false)]) ti63 rfl hL374 ?_)
      intro b393 w394 (hL395 : Go.X.Loc [] [] w w394 [some b393] [Cont.cells [(Value.int .i64 0), (Value.slice none 0 0), (Value.bool false)]]) hS397
      have K396 := Keep.step (s := w.heap.size) hS397
      have f398 := (k391.mono (K396 S))
      refine Rl.op0 (OpY.store (vs := [(Value.int .i64 x377.Linear.Const), v390, (Value.bool x377.Equal)]) ti63 rfl rfl rfl rfl (ones_cons rfl (ones_cons f398.one (ones_cons rfl ones_nil))) hL395 0 rfl rfl (Nat.le_of_ble_eq_true rfl) ?_)
      intro w399 (hL400 : Go.X.Loc [] [] w w399 [some b393] [Cont.cells [(Value.int .i64 x377.Linear.Const), v390, (Value.bool x377.Equal)]]) hS402
      have K401 := Keep.step (s := w.heap.size) hS402
      refine Rl.nil ?_
      refine Swp.seq ?_
      obtain ⟨r403, q404, h⟩ := bind_some h
      refine Swp.drawW 5 [] (fun W1 => [.det (Value.agg #[(Value.int .i64 x377.Linear.Const), v390, (Value.bool x377.Equal)]), .det (Value.int .i64 n), .rel (fun v Z w' => ∃ ob405 cap406 cs407 sp408, (osv ob405 0 (List.length r403) cap406) = v ∧ OwnC w' ob405 (Cont.cells ([] ++ (cs407 ++ sp408))) ∧ Els rIneq (Zv W1 w.heap.size None [some b393] Z w') cs407 r403 ∧ (cs407 ++ sp408).length = cap406 * rIneq.sz ∧ True) footV, .det (Value.agg #[(Value.int .i64 x377.Linear.Const), v390, (Value.bool x377.Equal)]), .det (Value.int .i64 n)]) mixed rfl rfl rfl ?_ ?_
      ·
       intro W1 _
       exact ⟨fun v Z Z' w w' hΦ hz _ _ hs => by obtain ⟨ob405, cap406, cs407, sp408, rfl, hO413, hE409, hc410, -⟩ := hΦ; exact ⟨ob405, cap406, cs407, sp408, rfl, (hO413.stay (fun b hb => (footV_osv (ob := ob405) (o := 0) (n := (List.length r403)) (cap := cap406)).2 (by rw [hb]; exact List.mem_cons_self)) hs), (hE409.mono (Zv.stay hz hs)), hc410, trivial⟩, trivial⟩
      ·
       intro w414 hE415
       have hL416 := hL400.ext hE415
       have K417 := Keep.ext (s := w.heap.size) (O := [some b393]) hE415
       refine DrH.det ?_ ?_
       ·
        rintro w418 Z419 hE420 hZ421 ⟨-⟩
        have hL422 := hL416.ext hE420
        refine GOp.op (OpY.ldBoxA (vs := [(Value.int .i64 x377.Linear.Const), v390, (Value.bool x377.Equal)]) Try.underlying63 rfl ti63 rfl (hL422.at 0 rfl rfl) rfl rfl ?_)
        exact ⟨Ext.refl _, rfl⟩
       refine DrH.det ?_ ?_
       ·
        rintro w424 Z425 hE426 hZ427 ⟨-⟩
        refine GOp.op (OpY.move (v := (Value.int .i64 n)) rfl ?_)
        exact ⟨Ext.refl _, rfl⟩
       refine DrH.rel ?_ ?_
       ·
        rintro w430 Z431 hE432 hZ433 ⟨-⟩
        have K435 := Keep.ext (s := w.heap.size) (O := [some b393]) hE432
        refine GOp.op (OpY.call en32 rfl rfl (cOf_w N x377 n v390 _ Any ((((f398.mono (K401 S)).mono (K417 S)).mono (K435 S)).mono vw_any) r403 q404) ?_)
        rintro _ w436 hE437 ⟨ob405, cap406, cs407, sp408, rfl, hN412, hE409, hc410, -⟩
        exact Made.ext hE437 hZ433 hN412 (fun b hb => footV_osv.1 hb) ⟨ob405, cap406, cs407, sp408, rfl, hN412.2.2.1, (hE409.mono Zv.made), hc410, trivial⟩
       intro z2
       refine DrH.det ?_ ?_
       ·
        rintro w438 Z439 hE440 hZ441 ⟨-, -⟩
        have hL442 := hL416.ext hE440
        refine GOp.op (OpY.ldBoxA (vs := [(Value.int .i64 x377.Linear.Const), v390, (Value.bool x377.Equal)]) Try.underlying63 rfl ti63 rfl (hL442.at 0 rfl rfl) rfl rfl ?_)
        exact ⟨Ext.refl _, rfl⟩
       refine DrH.det ?_ ?_
       ·
        rintro w444 Z445 hE446 hZ447 ⟨-, -⟩
        refine GOp.op (OpY.move (v := (Value.int .i64 n)) rfl ?_)
        exact ⟨Ext.refl _, rfl⟩
       refine DrH.fin ?_
       rintro w450 Z451 hE452 hZ453 ⟨⟨⟨ob405, cap406, cs407, sp408, rfl, hO413, hE409, hc410, -⟩, hB2⟩, -⟩ ap454
       have hB455 : ∀ b, some b ∈ ([ob405] : List (Option Nat)) → w414.heap.size ≤ b ∧ ¬ Z451 b := by
        intro b hb
        rcases List.mem_cons.1 hb with hb' | hb
        ·
         have := hB2 b ((footV_osv (ob := ob405) (o := 0) (n := (List.length r403)) (cap := cap406)).2 (by rw [hb']; exact List.mem_cons_self)); exact ⟨this.1, this.2.2⟩
        cases hb
       replace hE409 := hE409.mono (Zv.fin hL416 hZ453 hB455)
       have hN458 : NewOwn w414 w450 [ob405] [Cont.cells ([] ++ (cs407 ++ sp408))] := (NewOwn.cons NewOwn.nil hO413 (fun b hb => (hB455 b (by rw [← hb]; simp)).1) (fun b _ hb => by cases hb))
       have hp459 := hL416.adoptL hE452 hN458
       have hL456 : Go.X.Loc [] [] w w450 [ob405, some b393] [Cont.cells ([] ++ (cs407 ++ sp408)), Cont.cells [(Value.int .i64 x377.Linear.Const), v390, (Value.bool x377.Equal)]] := hp459.1
       have K457 := Keep.step (s := w.heap.size) hp459.2
       obtain ⟨r460, q461, h⟩ := bind_some h
       have f470 := (((f398.mono (K401 S)).mono (K417 S)).mono (K457 S))
       refine Rl.op (OpY.call en33 rfl rfl (rIOf_w N x377 n v390 _ Any (f470.mono vw_any) r460 q461) ?_)
       rintro _ w471 hE474 ⟨ob462, cap463, cs464, sp465, rfl, hN469, hE466, hc467, -⟩
       replace hE466 := hE466.mono (Hv.freshO (S := None) hL456 [ob462])
       have hp475 := hL456.adoptL hE474 hN469
       have hL472 : Go.X.Loc [] [] w w471 [ob462, ob405, some b393] [Cont.cells ([] ++ (cs464 ++ sp465)), Cont.cells ([] ++ (cs407 ++ sp408)), Cont.cells [(Value.int .i64 x377.Linear.Const), v390, (Value.bool x377.Equal)]] := hp475.1
       have K473 := Keep.step (s := w.heap.size) hp475.2
       obtain ⟨r476, q477, h⟩ := bind_some h
       have f479 := (hE409.mono (K473 None))
       refine Rl.op (OpY.call en31 rfl rfl (rSames_w N r403 r460 (osv ob405 0 (List.length r403) cap406) (osv ob462 0 (List.length r460) cap463) _ Any (own_row_any (pre := []) (o := 0) (n := (List.length r403)) (cap := cap406) (hL472.at 1 rfl rfl) f479 vw_any rfl rfl rfl hc410) (own_row_any (pre := []) (o := 0) (n := (List.length r460)) (cap := cap463) (hL472.at 0 rfl rfl) hE466 vw_any rfl rfl rfl hc467) r476 q477) ?_)
       rintro _ w480 hE483 ⟨rfl, -⟩
       have hL481 := hL472.ext hE483
       have K482 := Keep.ext (s := w.heap.size) (O := [ob462, ob405, some b393]) hE483
       refine Rl.op (OpY.not (x := r476) rfl ?_)
       refine Rl.nil ?_
       refine Swp.cond_b (!r476) rfl (fun hc484 => ?_) (fun hc484 => ?_)
       ·
        replace h := ite_t hc484 h
        refine Swp.seq ?_
        refine Swp.region rfl ?_
        refine Rl.op (OpY.assign (v := (Value.bool false)) rfl ?_)
        refine Rl.nil ?_
        refine Swp.ret ?_
        obtain rfl := Option.some.inj h
        obtain rfl := hd372 _ rfl
        replace h := g370
        try dsimp only at h
        obtain rfl := Option.some.inj h
        refine ⟨[(Value.bool false)], ⟨rfl, trivial⟩, ⟨_, rfl, hL481.done, ?_⟩⟩
        exact ⟨rfl, trivial⟩
       ·
        replace h := ite_f hc484 h
        refine Swp.skip ?_
        refine Swp.pop_blk ?_
        refine Swp.region rfl ?_
        refine Rl.op (OpY.add (x := x368) (y := 1) (z := (iw (x368 + 1))) rfl rfl rfl ?_)
        refine Rl.op (OpY.move (v := (Value.int .i64 (iw (x368 + 1)))) rfl ?_)
        refine Rl.nil ?_
        have hp485 := hL481.pick [] rfl rfl rfl
        have hL487 : Go.X.Loc [] [] w w480 [] [] := hp485.1
        have K486 := Keep.step (s := w.heap.size) hp485.2
        obtain rfl := Option.some.inj h
        refine Swp.pop_back ⟨(iw (x368 + 1)), rfl, ?_⟩
        exact ⟨_, (upds_sym ⟨rfl, ⟨rfl, ⟨rfl, ⟨rfl, ⟨rfl, trivial⟩⟩⟩⟩⟩), hL487, (Keep.trans (Keep.trans (Keep.trans (Keep.trans (Keep.trans (Keep.trans (Keep.trans K375 K396) K401) K417) K457) K473) K482) K486), trivial⟩
     ·
      replace h := ite_f hc376 h
      refine Swp.exit rfl ?_
      obtain rfl := Option.some.inj h
      obtain rfl := hd372 _ rfl
      replace h := g370
      try dsimp only at h
      skip
      refine Swp.pop_back ?_
      exact ⟨_, rfl, (upds_sym ⟨rfl, ⟨rfl, trivial⟩⟩), hL374, K375, trivial⟩
    ·
     rintro _ w488 ⟨u, rfl, rfl, hL489, K490, -⟩
     replace h := g370
     try dsimp only at h
     refine Swp.seq ?_
     refine Swp.region rfl ?_
     refine Rl.op (OpY.move (v := l_v) rfl ?_)
     refine Rl.op (OpY.move (v := (Value.int .i64 n)) rfl ?_)
     obtain ⟨r491, q492, h⟩ := bind_some h
     have f501 := (f142.mono (K490 S))
     refine Rl.op (OpY.call en34 rfl rfl (cSystem_w N l n l_v _ Any (f501.mono vw_any) r491 q492) ?_)
     rintro _ w502 hE505 ⟨ob493, cap494, cs495, sp496, rfl, hN500, hE497, hc498, -⟩
     replace hE497 := hE497.mono (Hv.freshO (S := None) hL489 [ob493])
     have hp506 := hL489.adoptL hE505 hN500
     have hL503 : Go.X.Loc [] [] w w502 [ob493] [Cont.cells ([] ++ (cs495 ++ sp496))] := hp506.1
     have K504 := Keep.step (s := w.heap.size) hp506.2
     refine Rl.op (OpY.move (v := l_v) rfl ?_)
     refine Rl.op (OpY.move (v := (Value.int .i64 n)) rfl ?_)
     obtain ⟨r507, q508, h⟩ := bind_some h
     have f517 := (f501.mono (K504 S))
     refine Rl.op (OpY.call en35 rfl rfl (rSystem_w N l n l_v _ Any (f517.mono vw_any) r507 q508) ?_)
     rintro _ w518 hE521 ⟨ob509, cap510, cs511, sp512, rfl, hN516, hE513, hc514, -⟩
     replace hE513 := hE513.mono (Hv.freshO (S := None) hL503 [ob509])
     have hp522 := hL503.adoptL hE521 hN516
     have hL519 : Go.X.Loc [] [] w w518 [ob509, ob493] [Cont.cells ([] ++ (cs511 ++ sp512)), Cont.cells ([] ++ (cs495 ++ sp496))] := hp522.1
     have K520 := Keep.step (s := w.heap.size) hp522.2
     obtain ⟨r523, q524, h⟩ := bind_some h
     have f526 := (hE497.mono (K520 None))
     refine Rl.op (OpY.call en31 rfl rfl (rSames_w N r491 r507 (osv ob493 0 (List.length r491) cap494) (osv ob509 0 (List.length r507) cap510) _ Any (own_row_any (pre := []) (o := 0) (n := (List.length r491)) (cap := cap494) (hL519.at 1 rfl rfl) f526 vw_any rfl rfl rfl hc498) (own_row_any (pre := []) (o := 0) (n := (List.length r507)) (cap := cap510) (hL519.at 0 rfl rfl) hE513 vw_any rfl rfl rfl hc514) r523 q524) ?_)
     rintro _ w527 hE530 ⟨rfl, -⟩
     have hL528 := hL519.ext hE530
     refine Rl.op (OpY.assign (v := (Value.bool r523)) rfl ?_)
     refine Rl.nil ?_
     refine Swp.ret ?_
     obtain rfl := Option.some.inj h
     refine ⟨[(Value.bool r523)], ⟨rfl, trivial⟩, ⟨_, rfl, hL528.done, ?_⟩⟩
     exact ⟨rfl, trivial⟩
end Go.Proofs.Ytakkacdhlocckaa.WL

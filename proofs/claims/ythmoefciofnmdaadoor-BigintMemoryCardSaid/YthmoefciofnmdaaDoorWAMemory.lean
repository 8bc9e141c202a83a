/- Walks, written by a program of mine (wip/tool); the kernel checks them. -/
import Derived.Test.YthmoefciofnmdaaDoorProg
import Derived.Test.YthmoefciofnmdaaDoorZ7
import Derived.Test.YthmoefciofnmdaaDoorF2
import Derived.Test.YthmoefciofnmdaaDoorZ12
import Derived.Test.YthmoefciofnmdaaDoorZ15
import Derived.Test.YthmoefciofnmdaaDoorPA
set_option maxRecDepth 100000
set_option maxHeartbeats 40000000
set_option linter.unusedVariables false
set_option linter.unusedSimpArgs false
namespace Go.Proofs.YthmoefciofnmdaaDoor.WA
open Go Go.RowKit Go.X Go.D Go.Proofs.YthmoefciofnmdaaDoor.WF 
theorem mixed : Tryd.prog.follows .mixedOrders = true := by kernel_rfl
theorem ti47 : TI Tryd.prog 47 1 4 (Value.int .u32 0) := TI.mk (by kernel_rfl)
theorem en71 : Go.X.Enters Tryd.prog 71 := ⟨Tryd.f71, Tryd.func71, by kernel_rfl, by kernel_rfl⟩
theorem ti24 : TI Tryd.prog 24 2 32 (Value.agg #[(Value.bool false), (Value.slice none 0 0)]) := TI.mk (by kernel_rfl)
theorem en54 : Go.X.Enters Tryd.prog 54 := ⟨Tryd.f54, Tryd.func54, by kernel_rfl, by kernel_rfl⟩
theorem pl24 : placesT Tryd.prog 24 = some [(0, 1), (1, 1)] := by kernel_rfl
theorem en80 : Go.X.Enters Tryd.prog 80 := ⟨Tryd.f80, Tryd.func80, by kernel_rfl, by kernel_rfl⟩
theorem en65 : Go.X.Enters Tryd.prog 65 := ⟨Tryd.f65, Tryd.func65, by kernel_rfl, by kernel_rfl⟩
theorem cloneU32_w (N : Nat) (s : (List Int)) (s_v : Value) (w : World) (S : Nat → Prop) (s_h : Rs (rInt .u32) (Hv w.heap.size S [] w) s_v s) (r : (List Int)) (h : cloneU32 N s = some r) :
  Calls Tryd.prog 71 #[s_v] w (Ret w (fun v w' => ∃ (ob0 : Option Nat) (cap0 : Nat) (cs0 : List Value) (sp0 : List Value), (osv ob0 0 (List.length r) cap0) = v ∧ NewOwn w w' [ob0] [Cont.cells ([] ++ (cs0 ++ sp0))] ∧ Els (rInt .u32) (Hv w.heap.size None [ob0] w') cs0 r ∧ (cs0 ++ sp0).length = cap0 * (rInt .u32).sz ∧ True)) := by
 unfold cloneU32 at h
 have hL : Go.X.Loc [] [] w w [] [] := Go.X.Loc.begin0 w
 refine calls_of (l := [s_v]) (rl := [.tmp 2]) (n := 8) Tryd.func71 rfl rfl rfl (Nat.le_of_ble_eq_true rfl) ?_
 refine Swp.seq (Swp.region rfl (Rl.op (OpY.assign (v := (Value.slice none 0 0)) rfl ?_)))
 refine Rl.nil (Swp.seq (Swp.seq (Swp.region rfl (Rl.op (OpY.move (v := s_v) rfl ?_)))))
 refine Rl.op (OpY.eqlNil (v := s_v) Tryd.underlying22 rfl s_h.isSlice rfl ?_)
 refine Rl.nil ?_
 refine Swp.cond_b (isNil s_v) rfl (fun hc1 => ?_) (fun hc1 => ?_)
 ·
  have hnil := (Sl.of_isNil s_h hc1).1
  replace h : some [] = some r := by rw [hnil] at h; simpa [apnd] using h
  refine Swp.seq (Swp.region rfl (Rl.op (OpY.assign (v := (Value.slice none 0 0)) rfl ?_)))
  refine Rl.nil ?_
  have hp2 := hL.addNil
  have hL3 : Go.X.Loc [] [] w w [none] [Cont.cells ([] ++ ([] ++ []))] := hp2.1
  have hE6 : Els (rInt .u32) (Hv w.heap.size None [none] w) [] [] := Els.nil
  refine Swp.ret ?_
  obtain rfl := Option.some.inj h
  refine ⟨[(osv none 0 (List.length ([] : (List Int))) 0)], ⟨rfl, trivial⟩, ⟨_, rfl, hL3.done, ?_⟩⟩
  exact ⟨none, 0, [], [], rfl, (hL3.newOwn [0] rfl rfl rfl), (hE6.mono (Hv.pick [0] rfl)), (show ([] ++ [] : List Value).length = 0 * (rInt .u32).sz by simp), trivial⟩
 ·
  refine Swp.skip (Swp.seq (Swp.region rfl (Rl.op (OpY.litRow0 Tryd.underlying22 ti47 hL ?_))))
  intro b7 w10 hL10 hS10
  have hE10 : Els (rInt .u32) (Hv w.heap.size None [] w) [] [] := Els.nil
  have K10 := ks w hS10
  refine Rl.op (OpY.move (v := s_v) rfl ?_)
  obtain ⟨x10, q10, h⟩ := bind_some h
  obtain ⟨q11, q12, q13⟩ := apnd_some q10
  have f10 := (s_h.mono (K10 S))
  obtain ⟨ds10, q14, q15⟩ := Rs.src f10
  have f11 := (hE10.mono (K10 None))
  refine Rl.op (OpY.apRowX (r := (rInt .u32)) (H := (Hv w.heap.size None [some b7] w10)) (cs := []) (sp := []) (xs := ([] : (List Int))) (ys := s) (Y := x10) (n := (List.length ([] : (List Int)))) (cap := 0) (i := 0) Tryd.underlying22 ti47 rfl rfl rfl rfl hL10 rfl rfl f11 rfl (show ([] ++ [] : List Value).length = 0 * (rInt .u32).sz by simp) q14 (Els.anyH (fun _ _ _ _ h => h) q15) q11 q12 q13 ?_)
  intro ob10 cap10 sp10 cs10 w11 hE11 hc10 (hL11 : Go.X.Loc [] [] w w11 [ob10] [Cont.cells ([] ++ (cs10 ++ sp10))]) hS11
  have K11 := ks w hS11
  refine Rl.op (OpY.assign (v := (osv ob10 0 (List.length x10) cap10)) rfl ?_)
  refine Rl.nil (Swp.ret ?_)
  obtain rfl := Option.some.inj h
  refine ⟨[(osv ob10 0 (List.length x10) cap10)], ⟨rfl, trivial⟩, ⟨_, rfl, hL11.done, ?_⟩⟩
  have f12 := (hE11.mono (K11 None))
  exact ⟨ob10, cap10, cs10, sp10, rfl, (hL11.newOwn [0] rfl rfl rfl), (f12.mono (Hv.pick [0] rfl)), hc10, trivial⟩
theorem digit_w (N : Nat) (d : (List Int)) (i : Int) (d_v : Value) (w : World) (S : Nat → Prop) (d_h : Rs (rInt .u32) (Hv w.heap.size S [] w) d_v d) (r : Int) (h : digit N d i = some r) :
  Calls Tryd.prog 65 #[d_v, (Value.int .i64 i)] w (Ret w (fun v w' => (Value.int .u64 r) = v ∧ True)) := by
 unfold digit at h
 have hL : Go.X.Loc [] [] w w [] [] := Go.X.Loc.begin0 w
 refine calls_of (l := [d_v, (Value.int .i64 i)]) (rl := [.tmp 4]) (n := 14) Tryd.func65 rfl rfl rfl (Nat.le_of_ble_eq_true rfl) ?_
 refine Swp.seq (Swp.region rfl (Rl.op (OpY.assign (v := (Value.int .u64 0)) rfl ?_)))
 refine Rl.nil (Swp.seq (Swp.seq (Swp.region rfl (Rl.op (OpY.move (v := (Value.int .i64 i)) rfl ?_)))))
 refine Rl.op (OpY.move (v := d_v) rfl ?_)
 refine Rl.op (OpY.lenRo (v := d_v) Tryd.underlying22 rfl d_h ?_)
 refine Rl.op (OpY.lss (x := i) (y := (List.length d : Int)) ((i : Int) < (List.length d : Int)) rfl rfl Iff.rfl ?_)
 refine Rl.nil ?_
 refine Swp.cond_d ((i : Int) < (List.length d : Int)) rfl (fun hc1 => ?_) (fun hc1 => ?_)
 ·
  replace h := ite_t hc1 h
  refine Swp.seq (Swp.region rfl (Rl.op (OpY.move (v := d_v) rfl ?_)))
  refine Rl.op (OpY.move (v := (Value.int .i64 i)) rfl ?_)
  obtain ⟨x2, q3, h⟩ := bind_some h
  obtain ⟨n4, q5, q6⟩ := idx_some q3
  obtain ⟨b7, o8, c9, vs10, q10, q11, f10, q12⟩ := Rs.get d_h q6
  obtain rfl := q12
  refine Rl.op (OpY.ixRoD (r := (rInt .u32)) (v := d_v) (n := n4) (m := (o8 + n4 * (rInt .u32).sz)) Tryd.underlying22 ti47 rfl q10 rfl q5 q6 rfl ?_)
  refine Rl.op (OpY.ldRo1 (v := (Value.int .u32 x2)) Tryd.underlying47 rfl rfl vw_view f10 ?_)
  refine Rl.op (OpY.convInt (x := x2) (z := (uw x2)) Tryd.underlying47 Tryd.underlying62 rfl rfl ?_)
  refine Rl.op (OpY.assign (v := (Value.int .u64 (uw x2))) rfl ?_)
  refine Rl.nil (Swp.ret ?_)
  obtain rfl := Option.some.inj h
  refine ⟨[(Value.int .u64 (uw x2))], ⟨rfl, trivial⟩, ⟨_, rfl, hL.done, ?_⟩⟩
  exact ⟨rfl, trivial⟩
 ·
  replace h := ite_f hc1 h
  refine Swp.skip (Swp.seq (Swp.region rfl (Rl.op (OpY.assign (v := (Value.int .u64 0)) rfl ?_))))
  refine Rl.nil (Swp.ret ?_)
  obtain rfl := Option.some.inj h
  refine ⟨[(Value.int .u64 0)], ⟨rfl, trivial⟩, ⟨_, rfl, hL.done, ?_⟩⟩
  exact ⟨rfl, trivial⟩
theorem bsign_w (N : Nat) (n : Int)  (w : World) (S : Nat → Prop)  (r : Int) (h : bsign N n = some r) :
  Calls Tryd.prog 80 #[(Value.int .i64 n)] w (Ret w (fun v w' => (Value.int .i64 r) = v ∧ True)) := by
 unfold bsign at h
 have hL : Go.X.Loc [] [] w w [] [] := Go.X.Loc.begin0 w
 refine calls_of (l := [(Value.int .i64 n)]) (rl := [.tmp 2]) (n := 6) Tryd.func80 rfl rfl rfl (Nat.le_of_ble_eq_true rfl) ?_
 refine Swp.seq (Swp.region rfl (Rl.op (OpY.assign (v := (Value.int .i64 0)) rfl ?_)))
 refine Rl.nil (Swp.seq (Swp.region rfl (Rl.op (OpY.move (v := (Value.int .i64 n)) rfl ?_))))
 refine Rl.op (OpY.max (x := n) (y := (-1)) rfl rfl ?_)
 refine Rl.op (OpY.min (x := (imax n (-1))) (y := 1) rfl rfl ?_)
 refine Rl.op (OpY.assign (v := (Value.int .i64 (imin (imax n (-1)) 1))) rfl ?_)
 refine Rl.nil (Swp.ret ?_)
 obtain rfl := Option.some.inj h
 refine ⟨[(Value.int .i64 (imin (imax n (-1)) 1))], ⟨rfl, trivial⟩, ⟨_, rfl, hL.done, ?_⟩⟩
 exact ⟨rfl, trivial⟩
theorem btrim_w (N : Nat) (d : (List Int)) (d_v : Value) (w : World) (S : Nat → Prop) (d_h : Rs (rInt .u32) (Hv w.heap.size S [] w) d_v d) (r : (List Int)) (h : btrim N d = some r) :
  Calls Tryd.prog 54 #[d_v] w (Ret w (fun v w' => ∃ (ob0 : Option Nat) (cap0 : Nat) (cs0 : List Value) (sp0 : List Value), (osv ob0 0 (List.length r) cap0) = v ∧ NewOwn w w' [ob0] [Cont.cells ([] ++ (cs0 ++ sp0))] ∧ Els (rInt .u32) (Hv w.heap.size None [ob0] w') cs0 r ∧ (cs0 ++ sp0).length = cap0 * (rInt .u32).sz ∧ True)) := by
 unfold btrim at h
 have hL : Go.X.Loc [] [] w w [] [] := Go.X.Loc.begin0 w
 refine calls_of (l := [d_v]) (rl := [.tmp 2]) (n := 22) Tryd.func54 rfl rfl rfl (Nat.le_of_ble_eq_true rfl) ?_
 refine Swp.seq (Swp.region rfl (Rl.op (OpY.assign (v := (Value.slice none 0 0)) rfl ?_)))
 refine Rl.nil (Swp.seq (Swp.region rfl (Rl.op (OpY.move (v := d_v) rfl ?_))))
 refine Rl.op (OpY.lenRo (v := d_v) Tryd.underlying22 rfl d_h ?_)
 refine Rl.op (OpY.assign (v := (Value.int .i64 (List.length d : Int))) rfl ?_)
 refine Rl.nil (Swp.seq ?_)
 obtain ⟨s10, hl10, g10⟩ := bind_some h
 refine Swp.join (fun e w' => ∃ (n10 : Int) (u : Env), n10 = s10 ∧ e = upds [(0, d_v), (3, (Value.int .i64 n10))] u ∧ Go.X.Loc [] [] w w' [] [] ∧ Keep w.heap.size [] w [] w' ∧ True) ?_ ?_
 ·
  refine Swp.block ?_
  refine Swp.loopM hl10 (fun (ss : Int) (e : Env) (w' : World) => match ss with | n11 => ∃ (u : Env), e = upds [(0, d_v), (3, (Value.int .i64 n11))] u ∧ Go.X.Loc [] [] w w' [] [] ∧ Keep w.heap.size [] w [] w' ∧ True) ⟨_, (upds_sym ⟨rfl, rfl, trivial⟩), hL, Keep.refl, trivial⟩ ?_
  rintro n11 oo _ w10 ⟨u, rfl, hL10, K10, -⟩ h hd10
  rw [btrim_b1] at h
  refine Swp.seq (Swp.seq ?_)
  obtain ⟨s11, h, g11⟩ := bind_some h
  refine Swp.join (fun e w' => ∃ (x10 : Bool) (u : Env), x10 = s11 ∧ e = upds [(0, d_v), (3, (Value.int .i64 n11)), (15, (Value.bool x10))] u ∧ Go.X.Loc [] [] w w' [] [] ∧ Keep w.heap.size [] w10 [] w' ∧ True) ?_ ?_
  ·
   refine Swp.region rfl (Rl.op (OpY.move (v := (Value.int .i64 n11)) rfl ?_))
   refine Rl.op (OpY.gtr (x := n11) (y := 0) ((n11 : Int) > 0) rfl rfl Iff.rfl ?_)
   refine Rl.op (OpY.move (v := (Value.bool (decide ((n11 : Int) > 0)))) rfl ?_)
   by_cases hc10 : (n11 : Int) > 0
   ·
    replace h := ite_t hc10 h
    refine Rl.yes rfl rfl (decide_eq_true hc10) (OpY.move (v := d_v) rfl ?_)
    refine Rl.yes rfl rfl (decide_eq_true hc10) (OpY.move (v := (Value.int .i64 n11)) rfl ?_)
    refine Rl.yes rfl rfl (decide_eq_true hc10) (OpY.sub (x := n11) (y := 1) (z := (iw (n11 - 1))) rfl rfl rfl ?_)
    obtain ⟨x11, q10, h⟩ := bind_some h
    obtain ⟨n12, q11, q12⟩ := idx_some q10
    have f10 := (d_h.mono (K10 S))
    obtain ⟨b10, o10, c10, vs10, q13, q14, f11, q15⟩ := Rs.get f10 q12
    obtain rfl := q15
    refine Rl.yes rfl rfl (decide_eq_true hc10) (OpY.ixRoD (r := (rInt .u32)) (v := d_v) (n := n12) (m := (o10 + n12 * (rInt .u32).sz)) Tryd.underlying22 ti47 rfl q13 rfl q11 q12 rfl ?_)
    refine Rl.yes rfl rfl (decide_eq_true hc10) (OpY.ldRo1 (v := (Value.int .u32 x11)) Tryd.underlying47 rfl rfl vw_view f11 ?_)
    refine Rl.yes rfl rfl (decide_eq_true hc10) (OpY.eql (x := x11) (y := 0) ((x11 : Int) = 0) rfl rfl Iff.rfl ?_)
    refine Rl.op (OpY.pick_t (t := (decide ((n11 : Int) > 0))) (v := (Value.bool (decide ((x11 : Int) = 0)))) rfl (decide_eq_true hc10) rfl ?_)
    refine Rl.nil ?_
    obtain rfl := Option.some.inj h
    refine Swp.pop_back ?_
    exact ⟨(decide ((x11 : Int) = 0)), _, rfl, (upds_sym ⟨rfl, rfl, rfl, trivial⟩), hL10, Keep.refl, trivial⟩
   ·
    replace h := ite_f hc10 h
    refine Rl.no rfl rfl (decide_eq_false hc10) ?_
    refine Rl.no rfl rfl (decide_eq_false hc10) ?_
    refine Rl.no rfl rfl (decide_eq_false hc10) ?_
    refine Rl.no rfl rfl (decide_eq_false hc10) ?_
    refine Rl.no rfl rfl (decide_eq_false hc10) ?_
    refine Rl.no rfl rfl (decide_eq_false hc10) ?_
    refine Rl.op (OpY.pick_f (t := (decide ((n11 : Int) > 0))) (v := (Value.bool false)) rfl (decide_eq_false hc10) rfl ?_)
    refine Rl.nil ?_
    obtain rfl := Option.some.inj h
    refine Swp.pop_back ?_
    exact ⟨false, _, rfl, (upds_sym ⟨rfl, rfl, rfl, trivial⟩), hL10, Keep.refl, trivial⟩
  ·
   rintro _ w11 ⟨x10, u, rfl, rfl, hL11, K11, -⟩
   replace h := g11
   try dsimp only at h
   refine Swp.cond_b x10 rfl (fun hc11 => ?_) (fun hc11 => ?_)
   ·
    replace h := ite_t hc11 h
    refine Swp.skip (Swp.block (Swp.region rfl (Rl.op (OpY.move (v := (Value.int .i64 n11)) rfl ?_))))
    refine Rl.op (OpY.sub (x := n11) (y := 1) (z := (iw (n11 - 1))) rfl rfl rfl ?_)
    refine Rl.op (OpY.assign (v := (Value.int .i64 (iw (n11 - 1)))) rfl ?_)
    refine Rl.nil (Swp.pop_blk ?_)
    obtain rfl := Option.some.inj h
    refine Swp.pop_back ⟨(iw (n11 - 1)), rfl, ?_⟩
    exact ⟨_, (upds_sym ⟨rfl, rfl, trivial⟩), hL11, (Keep.trans K10 K11), trivial⟩
   ·
    replace h := ite_f hc11 h
    refine Swp.exit rfl ?_
    obtain rfl := Option.some.inj h
    obtain rfl := hd10 _ rfl
    replace h := g10
    try dsimp only at h
    skip
    refine Swp.pop_back ?_
    exact ⟨n11, _, rfl, (upds_sym ⟨rfl, rfl, trivial⟩), hL11, (Keep.trans K10 K11), trivial⟩
 ·
  rintro _ w12 ⟨n10, u, rfl, rfl, hL12, K12, -⟩
  replace h := g10
  try dsimp only at h
  refine Swp.seq (Swp.region rfl (Rl.op (OpY.move (v := d_v) rfl ?_)))
  refine Rl.op (OpY.move (v := (Value.int .i64 n10)) rfl ?_)
  obtain ⟨x12, q16, h⟩ := bind_some h
  obtain ⟨m10, n13, q17, q18, q19, q20, q21⟩ := cut_some q16
  have f12 := (d_h.mono (K12 S))
  refine Rl.op (OpY.cutRoX (l := m10) (h' := n13) Tryd.underlying22 ti47 rfl f12 (.inl ⟨rfl, by omega⟩) (.inr ⟨_, _, rfl, by rw [← q18]; rfl⟩) q19 q20 q21 ?_)
  intro v10 k10
  obtain ⟨r10, q22, h⟩ := bind_some h
  refine Rl.op (OpY.call en71 rfl rfl (cloneU32_w N x12 v10 _ Any (k10.mono vw_any) r10 q22) ?_)
  rintro _ w13 hE10 ⟨ob10, cap10, cs10, sp10, rfl, hN10, hE11, hc12, -⟩
  replace hE11 := hE11.mono (Hv.freshO (S := None) hL12 [ob10])
  have hp10 := hL12.adoptL hE10 hN10
  have hL13 := hp10.1
  refine Rl.op (OpY.assign (v := (osv ob10 0 (List.length r10) cap10)) rfl ?_)
  refine Rl.nil (Swp.ret ?_)
  obtain rfl := Option.some.inj h
  refine ⟨[(osv ob10 0 (List.length r10) cap10)], ⟨rfl, trivial⟩, ⟨_, rfl, hL13.done, ?_⟩⟩
  exact ⟨ob10, cap10, cs10, sp10, rfl, (hL13.newOwn [0] rfl rfl rfl), (hE11.mono (Hv.pick [0] rfl)), hc12, trivial⟩
theorem bnormal_w (N : Nat) (negative : Bool) (d : (List Int)) (d_v : Value) (w : World) (S : Nat → Prop) (d_h : Rs (rInt .u32) (Hv w.heap.size S [] w) d_v d) (r : Big) (h : bnormal N negative d = some r) :
  Calls Tryd.prog 48 #[(Value.bool negative), d_v] w (Ret w (fun v w' => ∃ (v0_0 : Value), (Value.agg #[(Value.bool r.Negative), v0_0]) = v ∧ Rs (rInt .u32) (Hv w.heap.size None [] w') v0_0 r.Digits ∧ True)) := by
 unfold bnormal at h
 have hL : Go.X.Loc [] [] w w [] [] := Go.X.Loc.begin0 w
 refine calls_of (l := [(Value.bool negative), d_v]) (rl := [.cell 4 24]) (n := 14) Tryd.func48 rfl rfl rfl (Nat.le_of_ble_eq_true rfl) ?_
 refine Swp.seq (Swp.region rfl (Rl.op (OpY.alloc (cs := [(Value.bool false), (Value.slice none 0 0)]) ti24 rfl hL ?_)))
 intro b1 w2 hL3 hS5
 have K4 := ks w hS5
 refine Rl.nil (Swp.seq (Swp.region rfl (Rl.op (OpY.move (v := d_v) rfl ?_))))
 obtain ⟨r6, q7, h⟩ := bind_some h
 have f10 := (d_h.mono (K4 S))
 refine Rl.op (OpY.call en54 rfl rfl (btrim_w N d d_v _ Any (f10.mono vw_any) r6 q7) ?_)
 rintro _ w10 hE10 ⟨ob8, cap9, cs10, sp10, rfl, hN10, hE11, hc10, -⟩
 replace hE11 := hE11.mono (Hv.freshO (S := None) hL3 [ob8])
 have hp10 := hL3.adoptL hE10 hN10
 have hL10 := hp10.1
 refine Rl.op (OpY.assign (v := (osv ob8 0 (List.length r6) cap9)) rfl ?_)
 refine Rl.nil (Swp.seq (Swp.seq (Swp.region rfl (Rl.op (OpY.move (v := (osv ob8 0 (List.length r6) cap9)) rfl ?_)))))
 refine Rl.op (OpY.lenRow (pre := []) (r := (rInt .u32)) (xs := r6) Tryd.underlying22 rfl (hL10.at 0 rfl rfl) hE11 rfl rfl ?_)
 refine Rl.op (OpY.eql (x := (List.length r6 : Int)) (y := 0) (((List.length r6 : Int) : Int) = 0) rfl rfl Iff.rfl ?_)
 refine Rl.nil ?_
 refine Swp.cond_d (((List.length r6 : Int) : Int) = 0) rfl (fun hc11 => ?_) (fun hc11 => ?_)
 ·
  replace h := ite_t hc11 h
  refine Swp.seq (Swp.region rfl (Rl.op (OpY.build (zc := [(Value.bool false), (Value.slice none 0 0)]) (cs := [(Value.bool false), (Value.slice none 0 0)]) (is := []) (vs := []) (css := []) pl24 ti24 rfl rfl rfl trivial rfl ?_)))
  refine Rl.op0 (OpY.store (vs := [(Value.bool false), (Value.slice none 0 0)]) ti24 rfl rfl rfl rfl (ones_cons rfl (ones_cons rfl ones_nil)) hL10 1 rfl rfl (Nat.le_of_ble_eq_true rfl) ?_)
  intro w11 (hL11 : Go.X.Loc [] [] w w11 [ob8, some b1] [Cont.cells ([] ++ (cs10 ++ sp10)), Cont.cells [(Value.bool false), (Value.slice none 0 0)]]) hS10
  refine Rl.nil (Swp.ret ?_)
  obtain rfl := Option.some.inj h
  refine ⟨[(Value.agg #[(Value.bool false), (Value.slice none 0 0)])], ⟨⟨⟨b1, 0, none⟩, rfl, res_boxA Tryd.underlying24 rfl ti24 (hL11.at 1 rfl rfl) rfl⟩, trivial⟩, ⟨_, rfl, hL11.done, ?_⟩⟩
  exact ⟨(Value.slice none 0 0), rfl, Rs.nil, trivial⟩
 ·
  replace h := ite_f hc11 h
  refine Swp.skip (Swp.seq (Swp.region rfl (Rl.op (OpY.move (v := (Value.bool negative)) rfl ?_))))
  refine Rl.op (OpY.move (v := (osv ob8 0 (List.length r6) cap9)) rfl ?_)
  refine Rl.op (OpY.build (zc := [(Value.bool false), (Value.slice none 0 0)]) (cs := [(Value.bool negative), (osv ob8 0 (List.length r6) cap9)]) (is := [0, 1]) (vs := [(Value.bool negative), (osv ob8 0 (List.length r6) cap9)]) (css := [[(Value.bool negative)], [(osv ob8 0 (List.length r6) cap9)]]) pl24 ti24 rfl rfl rfl ⟨rfl, ⟨(one_cells (osv_one _ _ _ _)), trivial⟩⟩ rfl ?_)
  refine Rl.op0 (OpY.store (vs := [(Value.bool negative), (osv ob8 0 (List.length r6) cap9)]) ti24 rfl rfl rfl rfl (ones_cons rfl (ones_cons (osv_one _ _ _ _) ones_nil)) hL10 1 rfl rfl (Nat.le_of_ble_eq_true rfl) ?_)
  intro w12 (hL12 : Go.X.Loc [] [] w w12 [ob8, some b1] [Cont.cells ([] ++ (cs10 ++ sp10)), Cont.cells [(Value.bool negative), (osv ob8 0 (List.length r6) cap9)]]) hS11
  have K10 := ks w hS11
  refine Rl.nil ?_
  have f11 := (hE11.mono (K10 None))
  have f12 := hL12.freezeRow 0 rfl rfl f11 rfl rfl rfl hc10
  have hp11 := hL12.pick [1] rfl rfl rfl
  have hL13 : Go.X.Loc [] [] w w12 [some b1] [Cont.cells [(Value.bool negative), (osv ob8 0 (List.length r6) cap9)]] := hp11.1
  refine Swp.ret ?_
  obtain rfl := Option.some.inj h
  refine ⟨[(Value.agg #[(Value.bool negative), (osv ob8 0 (List.length r6) cap9)])], ⟨⟨⟨b1, 0, none⟩, rfl, res_boxA Tryd.underlying24 rfl ti24 (hL13.at 0 rfl rfl) rfl⟩, trivial⟩, ⟨_, rfl, hL13.done, ?_⟩⟩
  exact ⟨(osv ob8 0 (List.length r6) cap9), rfl, (f12.mono Hv.out), trivial⟩
theorem bcompare_w (N : Nat) (a : (List Int)) (b : (List Int)) (a_v : Value) (b_v : Value) (w : World) (S : Nat → Prop) (a_h : Rs (rInt .u32) (Hv w.heap.size S [] w) a_v a) (b_h : Rs (rInt .u32) (Hv w.heap.size S [] w) b_v b) (r : Int) (h : bcompare N a b = some r) :
  Calls Tryd.prog 64 #[a_v, b_v] w (Ret w (fun v w' => (Value.int .i64 r) = v ∧ True)) := by
 unfold bcompare at h
 have hL : Go.X.Loc [] [] w w [] [] := Go.X.Loc.begin0 w
 refine calls_of (l := [a_v, b_v]) (rl := [.tmp 4]) (n := 42) Tryd.func64 rfl rfl rfl (Nat.le_of_ble_eq_true rfl) ?_
 refine Swp.seq (Swp.region rfl (Rl.op (OpY.assign (v := (Value.int .i64 0)) rfl ?_)))
 refine Rl.nil (Swp.seq (Swp.seq (Swp.region rfl (Rl.op (OpY.move (v := a_v) rfl ?_)))))
 refine Rl.op (OpY.lenRo (v := a_v) Tryd.underlying22 rfl a_h ?_)
 refine Rl.op (OpY.move (v := b_v) rfl ?_)
 refine Rl.op (OpY.lenRo (v := b_v) Tryd.underlying22 rfl b_h ?_)
 refine Rl.op (OpY.neq (x := (List.length a : Int)) (y := (List.length b : Int)) (((List.length a : Int) : Int) ≠ (List.length b : Int)) rfl rfl Iff.rfl ?_)
 refine Rl.nil ?_
 refine Swp.cond_d (((List.length a : Int) : Int) ≠ (List.length b : Int)) rfl (fun hc1 => ?_) (fun hc1 => ?_)
 ·
  replace h := ite_t hc1 h
  refine Swp.seq (Swp.region rfl (Rl.op (OpY.move (v := a_v) rfl ?_)))
  refine Rl.op (OpY.lenRo (v := a_v) Tryd.underlying22 rfl a_h ?_)
  refine Rl.op (OpY.move (v := b_v) rfl ?_)
  refine Rl.op (OpY.lenRo (v := b_v) Tryd.underlying22 rfl b_h ?_)
  refine Rl.op (OpY.sub (x := (List.length a : Int)) (y := (List.length b : Int)) (z := (iw ((List.length a : Int) - (List.length b : Int)))) rfl rfl rfl ?_)
  obtain ⟨r2, q3, h⟩ := bind_some h
  refine Rl.op (OpY.call en80 rfl rfl (bsign_w N (iw ((List.length a : Int) - (List.length b : Int))) _ Any r2 q3) ?_)
  rintro _ w5 hE8 ⟨rfl, -⟩
  have hL6 := hL.ext hE8
  refine Rl.op (OpY.assign (v := (Value.int .i64 r2)) rfl ?_)
  refine Rl.nil (Swp.ret ?_)
  obtain rfl := Option.some.inj h
  refine ⟨[(Value.int .i64 r2)], ⟨rfl, trivial⟩, ⟨_, rfl, hL6.done, ?_⟩⟩
  exact ⟨rfl, trivial⟩
 ·
  replace h := ite_f hc1 h
  refine Swp.skip (Swp.seq (Swp.seq (Swp.region rfl (Rl.op (OpY.move (v := a_v) rfl ?_)))))
  refine Rl.op (OpY.lenRo (v := a_v) Tryd.underlying22 rfl a_h ?_)
  refine Rl.op (OpY.sub (x := (List.length a : Int)) (y := 1) (z := (iw ((List.length a : Int) - 1))) rfl rfl rfl ?_)
  refine Rl.op (OpY.assign (v := (Value.int .i64 (iw ((List.length a : Int) - 1)))) rfl ?_)
  refine Rl.nil ?_
  obtain ⟨s10, hl10, g10⟩ := bind_some h
  refine Swp.join (fun e w' => ∃  (u : Env), (Sum.inl ()) = s10 ∧ e = upds [] u ∧ Go.X.Loc [] [] w w' [] [] ∧ Keep w.heap.size [] w [] w' ∧ True) ?_ ?_
  ·
   refine Swp.block ?_
   refine Swp.loopM hl10 (fun (ss : Int) (e : Env) (w' : World) => match ss with | i10 => ∃ (u : Env), e = upds [(0, a_v), (1, b_v), (5, (Value.int .i64 i10))] u ∧ Go.X.Loc [] [] w w' [] [] ∧ Keep w.heap.size [] w [] w' ∧ True) ⟨_, (upds_sym ⟨rfl, rfl, rfl, trivial⟩), hL, Keep.refl, trivial⟩ ?_
   rintro i10 oo _ w10 ⟨u, rfl, hL10, K10, -⟩ h hd10
   rw [bcompare_b1] at h
   refine Swp.seq (Swp.seq (Swp.region rfl (Rl.op (OpY.move (v := (Value.int .i64 i10)) rfl ?_))))
   refine Rl.op (OpY.geq (x := i10) (y := 0) ((i10 : Int) ≥ 0) rfl rfl Iff.rfl ?_)
   refine Rl.nil ?_
   refine Swp.cond_d ((i10 : Int) ≥ 0) rfl (fun hc10 => ?_) (fun hc10 => ?_)
   ·
    replace h := ite_t hc10 h
    refine Swp.skip (Swp.seq (Swp.block (Swp.seq (Swp.seq ?_))))
    obtain ⟨x10, q10, h⟩ := bind_some h
    obtain ⟨n10, q11, q12⟩ := idx_some q10
    have f10 := (a_h.mono (K10 S))
    obtain ⟨b10, o10, c10, vs10, q13, q14, f11, q15⟩ := Rs.get f10 q12
    obtain rfl := q15
    obtain ⟨x11, q16, h⟩ := bind_some h
    obtain ⟨n11, q17, q18⟩ := idx_some q16
    have f12 := (b_h.mono (K10 S))
    obtain ⟨b11, o11, c11, vs11, q19, q20, f13, q21⟩ := Rs.get f12 q18
    obtain rfl := q21
    refine Swp.drawL 8 [] [] (fun W1 => [.det a_v, .det (Value.int .i64 i10), .det (Value.pointer (some ⟨b10, (o10 + n10 * (rInt .u32).sz), none⟩)), .det (Value.int .u32 x10), .det b_v, .det (Value.int .i64 i10), .det (Value.pointer (some ⟨b11, (o11 + n11 * (rInt .u32).sz), none⟩)), .det (Value.int .u32 x11)]) mixed rfl rfl rfl (fun _ => rfl) (fun _ => rfl) ?_ ?_
    ·
     intro W1 _
     exact trivial
    ·
     intro w11 hE10
     have hL11 := hL10.ext hE10
     have K11 := ke hL10 hE10
     refine DrH.de (fun _ _ => GOp.op (OpY.move rfl (er rfl))) ?_
     refine DrH.de (fun _ _ => GOp.op (OpY.move rfl (er rfl))) ?_
     refine DrH.de (fun _ _ => GOp.op (OpY.ixRoD (r := (rInt .u32)) (v := a_v) (n := n10) (m := (o10 + n10 * (rInt .u32).sz)) Tryd.underlying22 ti47 rfl q13 rfl q11 q12 rfl (er rfl))) ?_
     refine DrH.de (fun _ hE14 => GOp.op (OpY.ldRo1 Tryd.underlying47 rfl rfl vw_view (At.mono ((ke hL11 hE14) S) (At.mono (K11 S) f11)) (er rfl))) ?_
     refine DrH.de (fun _ _ => GOp.op (OpY.move rfl (er rfl))) ?_
     refine DrH.de (fun _ _ => GOp.op (OpY.move rfl (er rfl))) ?_
     refine DrH.de (fun _ _ => GOp.op (OpY.ixRoD (r := (rInt .u32)) (v := b_v) (n := n11) (m := (o11 + n11 * (rInt .u32).sz)) Tryd.underlying22 ti47 rfl q19 rfl q17 q18 rfl (er rfl))) ?_
     refine DrH.de (fun _ hE18 => GOp.op (OpY.ldRo1 Tryd.underlying47 rfl rfl vw_view (At.mono ((ke hL11 hE18) S) (At.mono (K11 S) f13)) (er rfl))) ?_
     refine DrH.fin0 ?_
     rintro w20 Z22 hE19 hZ18 ⟨-⟩ ap10
     have hB10 : ∀ b, some b ∈ ([] : List (Option Nat)) → w11.heap.size ≤ b ∧ ¬ Z22 b := by
      intro b hb; cases hb
     have hL12 := hL11.ext hE19
     have K14 := ke hL11 hE19
     refine Rl.op (OpY.lss (x := x10) (y := x11) ((x10 : Int) < x11) rfl rfl Iff.rfl ?_)
     refine Rl.nil ?_
     refine Swp.cond_d ((x10 : Int) < x11) rfl (fun hc11 => ?_) (fun hc11 => ?_)
     ·
      replace h := ite_t hc11 h
      refine Swp.seq (Swp.region rfl (Rl.op (OpY.assign (v := (Value.int .i64 (-1))) rfl ?_)))
      refine Rl.nil (Swp.ret ?_)
      obtain rfl := Option.some.inj h
      obtain rfl := hd10 _ rfl
      replace h := g10
      try dsimp only at h
      obtain rfl := Option.some.inj h
      refine ⟨[(Value.int .i64 (-1))], ⟨rfl, trivial⟩, ⟨_, rfl, hL12.done, ?_⟩⟩
      exact ⟨rfl, trivial⟩
     ·
      replace h := ite_f hc11 h
      refine Swp.skip (Swp.seq ?_)
      obtain ⟨x12, q22, h⟩ := bind_some h
      obtain ⟨n12, q23, q24⟩ := idx_some q22
      have f14 := ((f10.mono (K11 S)).mono (K14 S))
      obtain ⟨b12, o12, c12, vs12, q25, q26, f15, q27⟩ := Rs.get f14 q24
      obtain rfl := q27
      obtain ⟨x13, q28, h⟩ := bind_some h
      obtain ⟨n13, q29, q30⟩ := idx_some q28
      have f16 := ((f12.mono (K11 S)).mono (K14 S))
      obtain ⟨b13, o13, c13, vs13, q31, q32, f17, q33⟩ := Rs.get f16 q30
      obtain rfl := q33
      refine Swp.drawL 8 [] [] (fun W1 => [.det a_v, .det (Value.int .i64 i10), .det (Value.pointer (some ⟨b12, (o12 + n12 * (rInt .u32).sz), none⟩)), .det (Value.int .u32 x12), .det b_v, .det (Value.int .i64 i10), .det (Value.pointer (some ⟨b13, (o13 + n13 * (rInt .u32).sz), none⟩)), .det (Value.int .u32 x13)]) mixed rfl rfl rfl (fun _ => rfl) (fun _ => rfl) ?_ ?_
      ·
       intro W1 _
       exact trivial
      ·
       intro w21 hE20
       have hL13 := hL12.ext hE20
       have K15 := ke hL12 hE20
       refine DrH.de (fun _ _ => GOp.op (OpY.move rfl (er rfl))) ?_
       refine DrH.de (fun _ _ => GOp.op (OpY.move rfl (er rfl))) ?_
       refine DrH.de (fun _ _ => GOp.op (OpY.ixRoD (r := (rInt .u32)) (v := a_v) (n := n12) (m := (o12 + n12 * (rInt .u32).sz)) Tryd.underlying22 ti47 rfl q25 rfl q23 q24 rfl (er rfl))) ?_
       refine DrH.de (fun _ hE24 => GOp.op (OpY.ldRo1 Tryd.underlying47 rfl rfl vw_view (At.mono ((ke hL13 hE24) S) (At.mono (K15 S) f15)) (er rfl))) ?_
       refine DrH.de (fun _ _ => GOp.op (OpY.move rfl (er rfl))) ?_
       refine DrH.de (fun _ _ => GOp.op (OpY.move rfl (er rfl))) ?_
       refine DrH.de (fun _ _ => GOp.op (OpY.ixRoD (r := (rInt .u32)) (v := b_v) (n := n13) (m := (o13 + n13 * (rInt .u32).sz)) Tryd.underlying22 ti47 rfl q31 rfl q29 q30 rfl (er rfl))) ?_
       refine DrH.de (fun _ hE28 => GOp.op (OpY.ldRo1 Tryd.underlying47 rfl rfl vw_view (At.mono ((ke hL13 hE28) S) (At.mono (K15 S) f17)) (er rfl))) ?_
       refine DrH.fin0 ?_
       rintro w30 Z31 hE29 hZ27 ⟨-⟩ ap11
       have hB11 : ∀ b, some b ∈ ([] : List (Option Nat)) → w21.heap.size ≤ b ∧ ¬ Z31 b := by
        intro b hb; cases hb
       have hL14 := hL13.ext hE29
       have K18 := ke hL13 hE29
       refine Rl.op (OpY.gtr (x := x12) (y := x13) ((x12 : Int) > x13) rfl rfl Iff.rfl ?_)
       refine Rl.nil ?_
       refine Swp.cond_d ((x12 : Int) > x13) rfl (fun hc12 => ?_) (fun hc12 => ?_)
       ·
        replace h := ite_t hc12 h
        refine Swp.seq (Swp.region rfl (Rl.op (OpY.assign (v := (Value.int .i64 1)) rfl ?_)))
        refine Rl.nil (Swp.ret ?_)
        obtain rfl := Option.some.inj h
        obtain rfl := hd10 _ rfl
        replace h := g10
        try dsimp only at h
        obtain rfl := Option.some.inj h
        refine ⟨[(Value.int .i64 1)], ⟨rfl, trivial⟩, ⟨_, rfl, hL14.done, ?_⟩⟩
        exact ⟨rfl, trivial⟩
       ·
        replace h := ite_f hc12 h
        refine Swp.skip (Swp.pop_blk (Swp.region rfl (Rl.op (OpY.move (v := (Value.int .i64 i10)) rfl ?_))))
        refine Rl.op (OpY.sub (x := i10) (y := 1) (z := (iw (i10 - 1))) rfl rfl rfl ?_)
        refine Rl.op (OpY.assign (v := (Value.int .i64 (iw (i10 - 1)))) rfl ?_)
        refine Rl.nil ?_
        obtain rfl := Option.some.inj h
        refine Swp.pop_back ⟨(iw (i10 - 1)), rfl, ?_⟩
        exact ⟨_, (upds_sym ⟨rfl, rfl, rfl, trivial⟩), hL14, (Keep.trans (Keep.trans (Keep.trans (Keep.trans K10 K11) K14) K15) K18), trivial⟩
   ·
    replace h := ite_f hc10 h
    refine Swp.exit rfl ?_
    obtain rfl := Option.some.inj h
    obtain rfl := hd10 _ rfl
    replace h := g10
    try dsimp only at h
    skip
    refine Swp.pop_back ?_
    exact ⟨_, rfl, (upds_sym trivial), hL10, K10, trivial⟩
  ·
   rintro _ w31 ⟨u, rfl, rfl, hL15, K19, -⟩
   replace h := g10
   try dsimp only at h
   refine Swp.seq (Swp.region rfl (Rl.op (OpY.assign (v := (Value.int .i64 0)) rfl ?_)))
   refine Rl.nil (Swp.ret ?_)
   obtain rfl := Option.some.inj h
   refine ⟨[(Value.int .i64 0)], ⟨rfl, trivial⟩, ⟨_, rfl, hL15.done, ?_⟩⟩
   exact ⟨rfl, trivial⟩
theorem bplus_w (N : Nat) (a : (List Int)) (b : (List Int)) (a_v : Value) (b_v : Value) (w : World) (S : Nat → Prop) (a_h : Rs (rInt .u32) (Hv w.heap.size S [] w) a_v a) (b_h : Rs (rInt .u32) (Hv w.heap.size S [] w) b_v b) (r : (List Int)) (h : bplus N a b = some r) :
  Calls Tryd.prog 46 #[a_v, b_v] w (Ret w (fun v w' => ∃ (ob0 : Option Nat) (cap0 : Nat) (cs0 : List Value) (sp0 : List Value), (osv ob0 0 (List.length r) cap0) = v ∧ NewOwn w w' [ob0] [Cont.cells ([] ++ (cs0 ++ sp0))] ∧ Els (rInt .u32) (Hv w.heap.size None [ob0] w') cs0 r ∧ (cs0 ++ sp0).length = cap0 * (rInt .u32).sz ∧ True)) := by
 unfold bplus at h
 have hL : Go.X.Loc [] [] w w [] [] := Go.X.Loc.begin0 w
 refine calls_of (l := [a_v, b_v]) (rl := [.tmp 4]) (n := 38) Tryd.func46 rfl rfl rfl (Nat.le_of_ble_eq_true rfl) ?_
 refine Swp.seq (Swp.region rfl (Rl.op (OpY.assign (v := (Value.slice none 0 0)) rfl ?_)))
 refine Rl.nil (Swp.seq (Swp.region rfl (Rl.op (OpY.move (v := a_v) rfl ?_))))
 refine Rl.op (OpY.lenRo (v := a_v) Tryd.underlying22 rfl a_h ?_)
 refine Rl.op (OpY.move (v := b_v) rfl ?_)
 refine Rl.op (OpY.lenRo (v := b_v) Tryd.underlying22 rfl b_h ?_)
 refine Rl.op (OpY.max (x := (List.length a : Int)) (y := (List.length b : Int)) rfl rfl ?_)
 refine Rl.op (OpY.add (x := (imax (List.length a : Int) (List.length b : Int))) (y := 1) (z := (iw ((imax (List.length a : Int) (List.length b : Int)) + 1))) rfl rfl rfl ?_)
 obtain ⟨x2, q3, h⟩ := bind_some h
 obtain ⟨m1, q4, q5, q6, q7⟩ := mk1_some q3
 refine Rl.op (OpY.mkRowX (r := (rInt .u32)) (H := (Hv w.heap.size None [] w)) (zc := [(Value.int .u32 0)]) (x := 0) Tryd.underlying22 ti47 rfl rfl rfl rfl q4 q5 q6 q7 hL ?_)
 intro b8 w10 cs9 hE10 hc10 hL10 hS10
 have K10 := ks w hS10
 refine Rl.op (OpY.assign (v := (osv (some b8) 0 (List.length x2) m1)) rfl ?_)
 refine Rl.nil (Swp.seq (Swp.region rfl (Rl.op (OpY.assign (v := (Value.int .u64 0)) rfl ?_))))
 refine Rl.nil (Swp.seq (Swp.seq (Swp.region rfl (Rl.op (OpY.move (v := (osv (some b8) 0 (List.length x2) m1)) rfl ?_)))))
 have f10 := (hE10.mono (K10 None))
 refine Rl.op (OpY.lenRow (pre := []) (r := (rInt .u32)) (xs := x2) Tryd.underlying22 rfl (hL10.at 0 rfl rfl) f10 rfl rfl ?_)
 refine Rl.op (OpY.move (v := (Value.int .i64 0)) rfl ?_)
 refine Rl.nil ?_
 obtain ⟨s10, hl10, g10⟩ := bind_some h
 refine Swp.join (fun e w' => ∃ (out10 : (List Int)) (cs10 : List Value) (u : Env), out10 = s10 ∧ e = upds [(5, (osv (some b8) 0 (List.length x2) m1))] u ∧ Go.X.Loc [] [] w w' [some b8] [Cont.cells ([] ++ (cs10 ++ []))] ∧ Keep w.heap.size [some b8] w10 [some b8] w' ∧ Els (rInt .u32) (Hv w.heap.size None [some b8] w') cs10 out10 ∧ (List.length x2) = List.length out10 ∧ (cs10 ++ []).length = m1 * (rInt .u32).sz ∧ True) ?_ ?_
 ·
  refine Swp.block ?_
  refine Swp.loopM hl10 (fun (ss : ((List Int) × Int × Int)) (e : Env) (w' : World) => match ss with | (out11, carry10, x10) => ∃ (cs11 : List Value) (u : Env), e = upds [(0, a_v), (1, b_v), (5, (osv (some b8) 0 (List.length x2) m1)), (6, (Value.int .u64 carry10)), (16, (Value.int .i64 (List.length x2 : Int))), (17, (Value.int .i64 x10))] u ∧ Go.X.Loc [] [] w w' [some b8] [Cont.cells ([] ++ (cs11 ++ []))] ∧ Keep w.heap.size [some b8] w10 [some b8] w' ∧ Els (rInt .u32) (Hv w.heap.size None [some b8] w') cs11 out11 ∧ (List.length x2) = List.length out11 ∧ (cs11 ++ []).length = m1 * (rInt .u32).sz ∧ True) ⟨cs9, _, (upds_sym ⟨rfl, rfl, rfl, rfl, rfl, rfl, trivial⟩), hL10, Keep.refl, f10, rfl, hc10, trivial⟩ ?_
  rintro ⟨out11, carry10, x10⟩ oo _ w11 ⟨cs11, u, rfl, hL11, K11, hE11, hl11, hc11, -⟩ h hd10
  rw [bplus_b1] at h
  refine Swp.seq (Swp.region rfl (Rl.op (OpY.lss (x := x10) (y := (List.length x2 : Int)) ((x10 : Int) < (List.length x2 : Int)) rfl rfl Iff.rfl ?_)))
  refine Rl.nil (Swp.seq ?_)
  refine Swp.cond_d ((x10 : Int) < (List.length x2 : Int)) rfl (fun hc12 => ?_) (fun hc12 => ?_)
  ·
   replace h := ite_t hc12 h
   refine Swp.skip (Swp.seq (Swp.block (Swp.seq (Swp.region rfl (Rl.op (OpY.move (v := (Value.int .i64 x10)) rfl ?_))))))
   refine Rl.op (OpY.assign (v := (Value.int .i64 x10)) rfl ?_)
   refine Rl.nil (Swp.seq (Swp.region rfl (Rl.op (OpY.move (v := (Value.int .u64 carry10)) rfl ?_))))
   refine Rl.op (OpY.move (v := a_v) rfl ?_)
   refine Rl.op (OpY.move (v := (Value.int .i64 x10)) rfl ?_)
   obtain ⟨r10, q10, h⟩ := bind_some h
   have f11 := ((a_h.mono (K10 S)).mono (K11 S))
   refine Rl.op (OpY.call en65 rfl rfl (digit_w N a x10 a_v _ Any (f11.mono vw_any) r10 q10) ?_)
   rintro _ w12 hE12 ⟨rfl, -⟩
   have hL12 := hL11.ext hE12
   have K12 := ke hL11 hE12
   refine Rl.op (OpY.move (v := b_v) rfl ?_)
   refine Rl.op (OpY.move (v := (Value.int .i64 x10)) rfl ?_)
   obtain ⟨r11, q11, h⟩ := bind_some h
   have f12 := (((b_h.mono (K10 S)).mono (K11 S)).mono (K12 S))
   refine Rl.op (OpY.call en65 rfl rfl (digit_w N b x10 b_v _ Any (f12.mono vw_any) r11 q11) ?_)
   rintro _ w13 hE13 ⟨rfl, -⟩
   have hL13 := hL12.ext hE13
   have K13 := ke hL12 hE13
   refine Rl.op (OpY.add (x := r10) (y := r11) (z := (uw (r10 + r11))) rfl rfl rfl ?_)
   refine Rl.op (OpY.add (x := carry10) (y := (uw (r10 + r11))) (z := (uw (carry10 + (uw (r10 + r11))))) rfl rfl rfl ?_)
   refine Rl.op (OpY.assign (v := (Value.int .u64 (uw (carry10 + (uw (r10 + r11)))))) rfl ?_)
   refine Rl.nil (Swp.seq (Swp.region rfl (Rl.op (OpY.move (v := (osv (some b8) 0 (List.length x2) m1)) rfl ?_))))
   refine Rl.op (OpY.move (v := (Value.int .i64 x10)) rfl ?_)
   refine Rl.op (OpY.move (v := (Value.int .u64 (uw (carry10 + (uw (r10 + r11)))))) rfl ?_)
   refine Rl.op (OpY.convInt (x := (uw (carry10 + (uw (r10 + r11))))) (z := (uw32 (uw (carry10 + (uw (r10 + r11)))))) Tryd.underlying62 Tryd.underlying47 rfl rfl ?_)
   obtain ⟨x11, q12, h⟩ := bind_some h
   obtain ⟨n10, q13, q14⟩ := idx_some q12
   have q15 := (List.getElem?_eq_some_iff.1 q14).1
   refine Rl.op (OpY.ixRowD (r := (rInt .u32)) (b := b8) (o := 0) (n := n10) (m := (List.length x2)) (xs := out11) (q := (0 + n10 * (rInt .u32).sz)) Tryd.underlying22 ti47 rfl hl11 rfl q13 q15 rfl ?_)
   obtain ⟨x12, q16, h⟩ := bind_some h
   obtain ⟨n11, q17, q18, q19⟩ := upd1_some q16
   obtain rfl := Int.ofNat_inj.1 (q13.symm.trans q17)
   have f13 := ((hE11.mono (K12 None)).mono (K13 None))
   refine Rl.op0 (OpY.stRowX (pre := []) (r := (rInt .u32)) (vs := [(Value.int .u32 (uw32 (uw (carry10 + (uw (r10 + r11))))))]) (a := (uw32 (uw (carry10 + (uw (r10 + r11)))))) ti47 rfl rfl rfl rfl hL13 0 rfl rfl f13 q15 rfl q19 ?_)
   have hl12 : (List.length x2) = List.length x12 := by rw [q19, List.length_set]; exact hl11
   intro w14 cs12 (hL14 : Go.X.Loc [] [] w w14 [some b8] [Cont.cells ([] ++ (cs12 ++ []))]) hS11 hE14 q20
   have hc13 : (cs12 ++ []).length = m1 * (rInt .u32).sz := by have := hc11; rw [List.length_append] at this ⊢; rw [q20]; exact this
   have K14 := ks w hS11
   refine Rl.nil (Swp.region rfl (Rl.op (OpY.move (v := (Value.int .u64 (uw (carry10 + (uw (r10 + r11)))))) rfl ?_)))
   refine Rl.op (OpY.ishr (x := (uw (carry10 + (uw (r10 + r11))))) (y := 32) rfl rfl (by decide) ?_)
   refine Rl.op (OpY.assign (v := (Value.int .u64 (bshr .u64 (uw (carry10 + (uw (r10 + r11)))) 32))) rfl ?_)
   refine Rl.nil (Swp.pop_blk (Swp.region rfl (Rl.op (OpY.add (x := x10) (y := 1) (z := (iw (x10 + 1))) rfl rfl rfl ?_))))
   refine Rl.op (OpY.move (v := (Value.int .i64 (iw (x10 + 1)))) rfl ?_)
   refine Rl.nil ?_
   have f14 := (hE14.mono (K14 None))
   obtain rfl := Option.some.inj h
   refine Swp.pop_back ⟨(x12, (bshr .u64 (uw (carry10 + (uw (r10 + r11)))) 32), (iw (x10 + 1))), rfl, ?_⟩
   exact ⟨cs12, _, (upds_sym ⟨rfl, rfl, rfl, rfl, rfl, rfl, trivial⟩), hL14, (Keep.trans (Keep.trans (Keep.trans K11 K12) K13) K14), f14, hl12, hc13, trivial⟩
  ·
   replace h := ite_f hc12 h
   refine Swp.exit rfl ?_
   obtain rfl := Option.some.inj h
   obtain rfl := hd10 _ rfl
   replace h := g10
   try dsimp only at h
   skip
   refine Swp.pop_back ?_
   exact ⟨out11, cs11, _, rfl, (upds_sym ⟨rfl, trivial⟩), hL11, K11, hE11, hl11, hc11, trivial⟩
 ·
  rintro _ w15 ⟨out10, cs10, u, rfl, rfl, hL15, K15, hE15, hl13, hc14, -⟩
  replace h := g10
  try dsimp only at h
  refine Swp.seq (Swp.region rfl (Rl.op (OpY.move (v := (osv (some b8) 0 (List.length x2) m1)) rfl ?_)))
  refine Rl.op (OpY.assign (v := (osv (some b8) 0 (List.length x2) m1)) rfl ?_)
  refine Rl.nil (Swp.ret ?_)
  obtain rfl := Option.some.inj h
  refine ⟨[(osv (some b8) 0 (List.length x2) m1)], ⟨rfl, trivial⟩, ⟨_, rfl, hL15.done, ?_⟩⟩
  exact ⟨some b8, m1, cs10, [], (by rw [← hl13]; rfl), (hL15.newOwn [0] rfl rfl rfl), (hE15.mono (Hv.pick [0] rfl)), hc14, trivial⟩
theorem bminus_w (N : Nat) (a : (List Int)) (b : (List Int)) (a_v : Value) (b_v : Value) (w : World) (S : Nat → Prop) (a_h : Rs (rInt .u32) (Hv w.heap.size S [] w) a_v a) (b_h : Rs (rInt .u32) (Hv w.heap.size S [] w) b_v b) (r : (List Int)) (h : bminus N a b = some r) :
  Calls Tryd.prog 47 #[a_v, b_v] w (Ret w (fun v w' => ∃ (ob0 : Option Nat) (cap0 : Nat) (cs0 : List Value) (sp0 : List Value), (osv ob0 0 (List.length r) cap0) = v ∧ NewOwn w w' [ob0] [Cont.cells ([] ++ (cs0 ++ sp0))] ∧ Els (rInt .u32) (Hv w.heap.size None [ob0] w') cs0 r ∧ (cs0 ++ sp0).length = cap0 * (rInt .u32).sz ∧ True)) := by
 unfold bminus at h
 have hL : Go.X.Loc [] [] w w [] [] := Go.X.Loc.begin0 w
 refine calls_of (l := [a_v, b_v]) (rl := [.tmp 4]) (n := 37) Tryd.func47 rfl rfl rfl (Nat.le_of_ble_eq_true rfl) ?_
 refine Swp.seq (Swp.region rfl (Rl.op (OpY.assign (v := (Value.slice none 0 0)) rfl ?_)))
 refine Rl.nil (Swp.seq (Swp.region rfl (Rl.op (OpY.move (v := a_v) rfl ?_))))
 refine Rl.op (OpY.lenRo (v := a_v) Tryd.underlying22 rfl a_h ?_)
 obtain ⟨x2, q3, h⟩ := bind_some h
 obtain ⟨m1, q4, q5, q6, q7⟩ := mk1_some q3
 refine Rl.op (OpY.mkRowX (r := (rInt .u32)) (H := (Hv w.heap.size None [] w)) (zc := [(Value.int .u32 0)]) (x := 0) Tryd.underlying22 ti47 rfl rfl rfl rfl q4 q5 q6 q7 hL ?_)
 intro b8 w10 cs9 hE10 hc10 hL10 hS10
 have K10 := ks w hS10
 refine Rl.op (OpY.assign (v := (osv (some b8) 0 (List.length x2) m1)) rfl ?_)
 refine Rl.nil (Swp.seq (Swp.region rfl (Rl.op (OpY.assign (v := (Value.int .u64 0)) rfl ?_))))
 refine Rl.nil (Swp.seq (Swp.seq (Swp.region rfl (Rl.op (OpY.move (v := a_v) rfl ?_)))))
 have f10 := (a_h.mono (K10 S))
 refine Rl.op (OpY.lenRo (v := a_v) Tryd.underlying22 rfl f10 ?_)
 refine Rl.op (OpY.move (v := (Value.int .i64 0)) rfl ?_)
 refine Rl.nil ?_
 obtain ⟨s10, hl10, g10⟩ := bind_some h
 refine Swp.join (fun e w' => ∃ (out10 : (List Int)) (cs10 : List Value) (u : Env), out10 = s10 ∧ e = upds [(5, (osv (some b8) 0 (List.length x2) m1))] u ∧ Go.X.Loc [] [] w w' [some b8] [Cont.cells ([] ++ (cs10 ++ []))] ∧ Keep w.heap.size [some b8] w10 [some b8] w' ∧ Els (rInt .u32) (Hv w.heap.size None [some b8] w') cs10 out10 ∧ (List.length x2) = List.length out10 ∧ (cs10 ++ []).length = m1 * (rInt .u32).sz ∧ True) ?_ ?_
 ·
  refine Swp.block ?_
  have f11 := (hE10.mono (K10 None))
  refine Swp.loopM hl10 (fun (ss : ((List Int) × Int × Int)) (e : Env) (w' : World) => match ss with | (out11, borrow10, x10) => ∃ (cs11 : List Value) (u : Env), e = upds [(0, a_v), (1, b_v), (5, (osv (some b8) 0 (List.length x2) m1)), (6, (Value.int .u64 borrow10)), (13, (Value.int .i64 (List.length a : Int))), (14, (Value.int .i64 x10))] u ∧ Go.X.Loc [] [] w w' [some b8] [Cont.cells ([] ++ (cs11 ++ []))] ∧ Keep w.heap.size [some b8] w10 [some b8] w' ∧ Els (rInt .u32) (Hv w.heap.size None [some b8] w') cs11 out11 ∧ (List.length x2) = List.length out11 ∧ (cs11 ++ []).length = m1 * (rInt .u32).sz ∧ True) ⟨cs9, _, (upds_sym ⟨rfl, rfl, rfl, rfl, rfl, rfl, trivial⟩), hL10, Keep.refl, f11, rfl, hc10, trivial⟩ ?_
  rintro ⟨out11, borrow10, x10⟩ oo _ w11 ⟨cs11, u, rfl, hL11, K11, hE11, hl11, hc11, -⟩ h hd10
  rw [bminus_b1] at h
  refine Swp.seq (Swp.region rfl (Rl.op (OpY.lss (x := x10) (y := (List.length a : Int)) ((x10 : Int) < (List.length a : Int)) rfl rfl Iff.rfl ?_)))
  refine Rl.nil (Swp.seq ?_)
  refine Swp.cond_d ((x10 : Int) < (List.length a : Int)) rfl (fun hc12 => ?_) (fun hc12 => ?_)
  ·
   replace h := ite_t hc12 h
   refine Swp.skip (Swp.seq (Swp.block (Swp.seq (Swp.region rfl (Rl.op (OpY.move (v := (Value.int .i64 x10)) rfl ?_))))))
   refine Rl.op (OpY.assign (v := (Value.int .i64 x10)) rfl ?_)
   refine Rl.nil (Swp.seq ?_)
   obtain ⟨x11, q10, h⟩ := bind_some h
   obtain ⟨n10, q11, q12⟩ := idx_some q10
   have f12 := (f10.mono (K11 S))
   obtain ⟨b10, o10, c10, vs10, q13, q14, f13, q15⟩ := Rs.get f12 q12
   obtain rfl := q15
   obtain ⟨r10, q16, h⟩ := bind_some h
   refine Swp.drawL 10 [] [] (fun W1 => [.det a_v, .det (Value.int .i64 x10), .det (Value.pointer (some ⟨b10, (o10 + n10 * (rInt .u32).sz), none⟩)), .det (Value.int .u32 x11), .det (Value.int .u64 (uw x11)), .det b_v, .det (Value.int .i64 x10), .det (Value.int .u64 r10), .det (Value.int .u64 (uw ((uw x11) - r10))), .det (Value.int .u64 borrow10)]) mixed rfl rfl rfl (fun _ => rfl) (fun _ => rfl) ?_ ?_
   ·
    intro W1 _
    exact trivial
   ·
    intro w12 hE12
    have hL12 := hL11.ext hE12
    have K12 := ke hL11 hE12
    refine DrH.de (fun _ _ => GOp.op (OpY.move rfl (er rfl))) ?_
    refine DrH.de (fun _ _ => GOp.op (OpY.move rfl (er rfl))) ?_
    refine DrH.de (fun _ _ => GOp.op (OpY.ixRoD (r := (rInt .u32)) (v := a_v) (n := n10) (m := (o10 + n10 * (rInt .u32).sz)) Tryd.underlying22 ti47 rfl q13 rfl q11 q12 rfl (er rfl))) ?_
    refine DrH.de (fun _ hE16 => GOp.op (OpY.ldRo1 Tryd.underlying47 rfl rfl vw_view (At.mono ((ke hL12 hE16) S) (At.mono (K12 S) f13)) (er rfl))) ?_
    refine DrH.de (fun _ _ => GOp.op (OpY.convInt Tryd.underlying47 Tryd.underlying62 rfl rfl (er rfl))) ?_
    refine DrH.de (fun _ _ => GOp.op (OpY.move rfl (er rfl))) ?_
    refine DrH.de (fun _ _ => GOp.op (OpY.move rfl (er rfl))) ?_
    refine DrH.det ?_ ?_
    ·
     rintro w20 Z21 hE20 hZ17 ⟨-⟩
     have K14 := ke hL12 hE20
     refine GOp.op (OpY.call en65 rfl rfl (digit_w N b x10 b_v _ Any (((((b_h.mono (K10 S)).mono (K11 S)).mono (K12 S)).mono (K14 S)).mono vw_any) r10 q16) ?_)
     rintro _ w21 hE21 ⟨rfl, -⟩
     exact ⟨hE21, rfl⟩
    refine DrH.de (fun _ _ => GOp.op (OpY.sub rfl rfl rfl (er rfl))) ?_
    refine DrH.de (fun _ _ => GOp.op (OpY.move rfl (er rfl))) ?_
    refine DrH.fin0 ?_
    rintro w24 Z24 hE24 hZ20 ⟨-⟩ ap10
    have hB10 : ∀ b, some b ∈ ([] : List (Option Nat)) → w12.heap.size ≤ b ∧ ¬ Z24 b := by
     intro b hb; cases hb
    have hL13 := hL12.ext hE24
    have K15 := ke hL12 hE24
    refine Rl.op (OpY.sub (x := (uw ((uw x11) - r10))) (y := borrow10) (z := (uw ((uw ((uw x11) - r10)) - borrow10))) rfl rfl rfl ?_)
    refine Rl.op (OpY.assign (v := (Value.int .u64 (uw ((uw ((uw x11) - r10)) - borrow10)))) rfl ?_)
    refine Rl.nil (Swp.seq (Swp.region rfl (Rl.op (OpY.move (v := (osv (some b8) 0 (List.length x2) m1)) rfl ?_))))
    refine Rl.op (OpY.move (v := (Value.int .i64 x10)) rfl ?_)
    refine Rl.op (OpY.move (v := (Value.int .u64 (uw ((uw ((uw x11) - r10)) - borrow10)))) rfl ?_)
    refine Rl.op (OpY.convInt (x := (uw ((uw ((uw x11) - r10)) - borrow10))) (z := (uw32 (uw ((uw ((uw x11) - r10)) - borrow10)))) Tryd.underlying62 Tryd.underlying47 rfl rfl ?_)
    obtain ⟨x12, q17, h⟩ := bind_some h
    obtain ⟨n11, q18, q19⟩ := idx_some q17
    have q20 := (List.getElem?_eq_some_iff.1 q19).1
    refine Rl.op (OpY.ixRowD (r := (rInt .u32)) (b := b8) (o := 0) (n := n11) (m := (List.length x2)) (xs := out11) (q := (0 + n11 * (rInt .u32).sz)) Tryd.underlying22 ti47 rfl hl11 rfl q18 q20 rfl ?_)
    obtain ⟨x13, q21, h⟩ := bind_some h
    obtain ⟨n12, q22, q23, q24⟩ := upd1_some q21
    obtain rfl := Int.ofNat_inj.1 (q18.symm.trans q22)
    have f14 := ((hE11.mono (K12 None)).mono (K15 None))
    refine Rl.op0 (OpY.stRowX (pre := []) (r := (rInt .u32)) (vs := [(Value.int .u32 (uw32 (uw ((uw ((uw x11) - r10)) - borrow10))))]) (a := (uw32 (uw ((uw ((uw x11) - r10)) - borrow10)))) ti47 rfl rfl rfl rfl hL13 0 rfl rfl f14 q20 rfl q24 ?_)
    have hl12 : (List.length x2) = List.length x13 := by rw [q24, List.length_set]; exact hl11
    intro w25 cs12 (hL14 : Go.X.Loc [] [] w w25 [some b8] [Cont.cells ([] ++ (cs12 ++ []))]) hS11 hE25 q25
    have hc13 : (cs12 ++ []).length = m1 * (rInt .u32).sz := by have := hc11; rw [List.length_append] at this ⊢; rw [q25]; exact this
    have K16 := ks w hS11
    refine Rl.nil (Swp.region rfl (Rl.op (OpY.move (v := (Value.int .u64 (uw ((uw ((uw x11) - r10)) - borrow10)))) rfl ?_)))
    refine Rl.op (OpY.ishr (x := (uw ((uw ((uw x11) - r10)) - borrow10))) (y := 63) rfl rfl (by decide) ?_)
    refine Rl.op (OpY.assign (v := (Value.int .u64 (bshr .u64 (uw ((uw ((uw x11) - r10)) - borrow10)) 63))) rfl ?_)
    refine Rl.nil (Swp.pop_blk (Swp.region rfl (Rl.op (OpY.add (x := x10) (y := 1) (z := (iw (x10 + 1))) rfl rfl rfl ?_))))
    refine Rl.op (OpY.move (v := (Value.int .i64 (iw (x10 + 1)))) rfl ?_)
    refine Rl.nil ?_
    have f15 := (hE25.mono (K16 None))
    obtain rfl := Option.some.inj h
    refine Swp.pop_back ⟨(x13, (bshr .u64 (uw ((uw ((uw x11) - r10)) - borrow10)) 63), (iw (x10 + 1))), rfl, ?_⟩
    exact ⟨cs12, _, (upds_sym ⟨rfl, rfl, rfl, rfl, rfl, rfl, trivial⟩), hL14, (Keep.trans (Keep.trans (Keep.trans K11 K12) K15) K16), f15, hl12, hc13, trivial⟩
  ·
   replace h := ite_f hc12 h
   refine Swp.exit rfl ?_
   obtain rfl := Option.some.inj h
   obtain rfl := hd10 _ rfl
   replace h := g10
   try dsimp only at h
   skip
   refine Swp.pop_back ?_
   exact ⟨out11, cs11, _, rfl, (upds_sym ⟨rfl, trivial⟩), hL11, K11, hE11, hl11, hc11, trivial⟩
 ·
  rintro _ w26 ⟨out10, cs10, u, rfl, rfl, hL15, K17, hE26, hl13, hc14, -⟩
  replace h := g10
  try dsimp only at h
  refine Swp.seq (Swp.region rfl (Rl.op (OpY.move (v := (osv (some b8) 0 (List.length x2) m1)) rfl ?_)))
  refine Rl.op (OpY.assign (v := (osv (some b8) 0 (List.length x2) m1)) rfl ?_)
  refine Rl.nil (Swp.ret ?_)
  obtain rfl := Option.some.inj h
  refine ⟨[(osv (some b8) 0 (List.length x2) m1)], ⟨rfl, trivial⟩, ⟨_, rfl, hL15.done, ?_⟩⟩
  exact ⟨some b8, m1, cs10, [], (by rw [← hl13]; rfl), (hL15.newOwn [0] rfl rfl rfl), (hE26.mono (Hv.pick [0] rfl)), hc14, trivial⟩
theorem btimes_w (N : Nat) (a : (List Int)) (b : (List Int)) (a_v : Value) (b_v : Value) (w : World) (S : Nat → Prop) (a_h : Rs (rInt .u32) (Hv w.heap.size S [] w) a_v a) (b_h : Rs (rInt .u32) (Hv w.heap.size S [] w) b_v b) (r : (List Int)) (h : btimes N a b = some r) :
  Calls Tryd.prog 60 #[a_v, b_v] w (Ret w (fun v w' => ∃ (ob0 : Option Nat) (cap0 : Nat) (cs0 : List Value) (sp0 : List Value), (osv ob0 0 (List.length r) cap0) = v ∧ NewOwn w w' [ob0] [Cont.cells ([] ++ (cs0 ++ sp0))] ∧ Els (rInt .u32) (Hv w.heap.size None [ob0] w') cs0 r ∧ (cs0 ++ sp0).length = cap0 * (rInt .u32).sz ∧ True)) := by
 unfold btimes at h
 have hL : Go.X.Loc [] [] w w [] [] := Go.X.Loc.begin0 w
 refine calls_of (l := [a_v, b_v]) (rl := [.tmp 4]) (n := 66) Tryd.func60 rfl rfl rfl (Nat.le_of_ble_eq_true rfl) ?_
 refine Swp.seq (Swp.region rfl (Rl.op (OpY.assign (v := (Value.slice none 0 0)) rfl ?_)))
 refine Rl.nil (Swp.seq (Swp.region rfl (Rl.op (OpY.move (v := a_v) rfl ?_))))
 refine Rl.op (OpY.lenRo (v := a_v) Tryd.underlying22 rfl a_h ?_)
 refine Rl.op (OpY.move (v := b_v) rfl ?_)
 refine Rl.op (OpY.lenRo (v := b_v) Tryd.underlying22 rfl b_h ?_)
 refine Rl.op (OpY.add (x := (List.length a : Int)) (y := (List.length b : Int)) (z := (iw ((List.length a : Int) + (List.length b : Int)))) rfl rfl rfl ?_)
 obtain ⟨x2, q3, h⟩ := bind_some h
 obtain ⟨m1, q4, q5, q6, q7⟩ := mk1_some q3
 refine Rl.op (OpY.mkRowX (r := (rInt .u32)) (H := (Hv w.heap.size None [] w)) (zc := [(Value.int .u32 0)]) (x := 0) Tryd.underlying22 ti47 rfl rfl rfl rfl q4 q5 q6 q7 hL ?_)
 intro b8 w10 cs9 hE10 hc10 hL10 hS10
 have K10 := ks w hS10
 refine Rl.op (OpY.assign (v := (osv (some b8) 0 (List.length x2) m1)) rfl ?_)
 refine Rl.nil (Swp.seq (Swp.seq (Swp.region rfl (Rl.op (OpY.move (v := a_v) rfl ?_)))))
 have f10 := (a_h.mono (K10 S))
 refine Rl.op (OpY.lenRo (v := a_v) Tryd.underlying22 rfl f10 ?_)
 refine Rl.op (OpY.move (v := (Value.int .i64 0)) rfl ?_)
 refine Rl.nil ?_
 obtain ⟨s10, hl10, g10⟩ := bind_some h
 refine Swp.join (fun e w' => ∃ (out10 : (List Int)) (cs10 : List Value) (u : Env), out10 = s10 ∧ e = upds [(5, (osv (some b8) 0 (List.length x2) m1))] u ∧ Go.X.Loc [] [] w w' [some b8] [Cont.cells ([] ++ (cs10 ++ []))] ∧ Keep w.heap.size [some b8] w10 [some b8] w' ∧ Els (rInt .u32) (Hv w.heap.size None [some b8] w') cs10 out10 ∧ (List.length x2) = List.length out10 ∧ (cs10 ++ []).length = m1 * (rInt .u32).sz ∧ True) ?_ ?_
 ·
  refine Swp.block ?_
  have f11 := (hE10.mono (K10 None))
  refine Swp.loopM hl10 (fun (ss : ((List Int) × Int)) (e : Env) (w' : World) => match ss with | (out11, x10) => ∃ (cs11 : List Value) (u : Env), e = upds [(1, b_v), (5, (osv (some b8) 0 (List.length x2) m1)), (17, a_v), (18, (Value.int .i64 (List.length a : Int))), (19, (Value.int .i64 x10))] u ∧ Go.X.Loc [] [] w w' [some b8] [Cont.cells ([] ++ (cs11 ++ []))] ∧ Keep w.heap.size [some b8] w10 [some b8] w' ∧ Els (rInt .u32) (Hv w.heap.size None [some b8] w') cs11 out11 ∧ (List.length x2) = List.length out11 ∧ (cs11 ++ []).length = m1 * (rInt .u32).sz ∧ True) ⟨cs9, _, (upds_sym ⟨rfl, rfl, rfl, rfl, rfl, trivial⟩), hL10, Keep.refl, f11, rfl, hc10, trivial⟩ ?_
  rintro ⟨out11, x10⟩ oo _ w11 ⟨cs11, u, rfl, hL11, K11, hE11, hl11, hc11, -⟩ h hd10
  rw [btimes_b1] at h
  refine Swp.seq (Swp.region rfl (Rl.op (OpY.lss (x := x10) (y := (List.length a : Int)) ((x10 : Int) < (List.length a : Int)) rfl rfl Iff.rfl ?_)))
  refine Rl.nil (Swp.seq ?_)
  refine Swp.cond_d ((x10 : Int) < (List.length a : Int)) rfl (fun hc12 => ?_) (fun hc12 => ?_)
  ·
   replace h := ite_t hc12 h
   refine Swp.skip (Swp.seq (Swp.block (Swp.seq (Swp.region rfl (Rl.op (OpY.move (v := (Value.int .i64 x10)) rfl ?_))))))
   obtain ⟨x11, q10, h⟩ := bind_some h
   obtain ⟨n10, q11, q12⟩ := idx_some q10
   have f12 := (f10.mono (K11 S))
   obtain ⟨b10, o10, c10, vs10, q13, q14, f13, q15⟩ := Rs.get f12 q12
   obtain rfl := q15
   refine Rl.op (OpY.ixRoD (r := (rInt .u32)) (v := a_v) (n := n10) (m := (o10 + n10 * (rInt .u32).sz)) Tryd.underlying22 ti47 rfl q13 rfl q11 q12 rfl ?_)
   refine Rl.op (OpY.ldRo1 (v := (Value.int .u32 x11)) Tryd.underlying47 rfl rfl vw_view f13 ?_)
   refine Rl.op (OpY.assign (v := (Value.int .i64 x10)) rfl ?_)
   refine Rl.op (OpY.assign (v := (Value.int .u32 x11)) rfl ?_)
   refine Rl.nil (Swp.seq (Swp.region rfl (Rl.op (OpY.assign (v := (Value.int .u64 0)) rfl ?_))))
   refine Rl.nil (Swp.seq (Swp.seq (Swp.region rfl (Rl.op (OpY.move (v := b_v) rfl ?_)))))
   have f14 := ((b_h.mono (K10 S)).mono (K11 S))
   refine Rl.op (OpY.lenRo (v := b_v) Tryd.underlying22 rfl f14 ?_)
   refine Rl.op (OpY.move (v := (Value.int .i64 0)) rfl ?_)
   refine Rl.nil ?_
   obtain ⟨s11, hl12, g11⟩ := bind_some h
   refine Swp.join (fun e w' => ∃ (out12 : (List Int)) (carry10 : Int) (cs12 : List Value) (u : Env), (out12, carry10) = s11 ∧ e = upds [(1, b_v), (5, (osv (some b8) 0 (List.length x2) m1)), (6, (Value.int .i64 x10)), (8, (Value.int .u64 carry10)), (17, a_v), (18, (Value.int .i64 (List.length a : Int))), (19, (Value.int .i64 x10))] u ∧ Go.X.Loc [] [] w w' [some b8] [Cont.cells ([] ++ (cs12 ++ []))] ∧ Keep w.heap.size [some b8] w11 [some b8] w' ∧ Els (rInt .u32) (Hv w.heap.size None [some b8] w') cs12 out12 ∧ (List.length x2) = List.length out12 ∧ (cs12 ++ []).length = m1 * (rInt .u32).sz ∧ True) ?_ ?_
   ·
    refine Swp.block ?_
    refine Swp.loopM hl12 (fun (ss : ((List Int) × Int × Int)) (e : Env) (w' : World) => match ss with | (out13, carry11, x12) => ∃ (cs13 : List Value) (u : Env), e = upds [(1, b_v), (5, (osv (some b8) 0 (List.length x2) m1)), (6, (Value.int .i64 x10)), (7, (Value.int .u32 x11)), (8, (Value.int .u64 carry11)), (17, a_v), (18, (Value.int .i64 (List.length a : Int))), (19, (Value.int .i64 x10)), (24, b_v), (25, (Value.int .i64 (List.length b : Int))), (26, (Value.int .i64 x12))] u ∧ Go.X.Loc [] [] w w' [some b8] [Cont.cells ([] ++ (cs13 ++ []))] ∧ Keep w.heap.size [some b8] w11 [some b8] w' ∧ Els (rInt .u32) (Hv w.heap.size None [some b8] w') cs13 out13 ∧ (List.length x2) = List.length out13 ∧ (cs13 ++ []).length = m1 * (rInt .u32).sz ∧ True) ⟨cs11, _, (upds_sym ⟨rfl, rfl, rfl, rfl, rfl, rfl, rfl, rfl, rfl, rfl, rfl, trivial⟩), hL11, Keep.refl, hE11, hl11, hc11, trivial⟩ ?_
    rintro ⟨out13, carry11, x12⟩ oo _ w12 ⟨cs13, u, rfl, hL12, K12, hE12, hl13, hc13, -⟩ h hd11
    rw [btimes_b2] at h
    refine Swp.seq (Swp.region rfl (Rl.op (OpY.lss (x := x12) (y := (List.length b : Int)) ((x12 : Int) < (List.length b : Int)) rfl rfl Iff.rfl ?_)))
    refine Rl.nil (Swp.seq ?_)
    refine Swp.cond_d ((x12 : Int) < (List.length b : Int)) rfl (fun hc14 => ?_) (fun hc14 => ?_)
    ·
     replace h := ite_t hc14 h
     refine Swp.skip (Swp.seq (Swp.block (Swp.seq (Swp.region rfl (Rl.op (OpY.move (v := (Value.int .i64 x12)) rfl ?_))))))
     obtain ⟨x13, q16, h⟩ := bind_some h
     obtain ⟨n11, q17, q18⟩ := idx_some q16
     have f15 := (f14.mono (K12 S))
     obtain ⟨b11, o11, c11, vs11, q19, q20, f16, q21⟩ := Rs.get f15 q18
     obtain rfl := q21
     refine Rl.op (OpY.ixRoD (r := (rInt .u32)) (v := b_v) (n := n11) (m := (o11 + n11 * (rInt .u32).sz)) Tryd.underlying22 ti47 rfl q19 rfl q17 q18 rfl ?_)
     refine Rl.op (OpY.ldRo1 (v := (Value.int .u32 x13)) Tryd.underlying47 rfl rfl vw_view f16 ?_)
     refine Rl.op (OpY.assign (v := (Value.int .i64 x12)) rfl ?_)
     refine Rl.op (OpY.assign (v := (Value.int .u32 x13)) rfl ?_)
     refine Rl.nil (Swp.seq (Swp.region rfl (Rl.op (OpY.move (v := (Value.int .u64 carry11)) rfl ?_))))
     refine Rl.op (OpY.move (v := (Value.int .u32 x11)) rfl ?_)
     refine Rl.op (OpY.convInt (x := x11) (z := (uw x11)) Tryd.underlying47 Tryd.underlying62 rfl rfl ?_)
     refine Rl.op (OpY.move (v := (Value.int .u32 x13)) rfl ?_)
     refine Rl.op (OpY.convInt (x := x13) (z := (uw x13)) Tryd.underlying47 Tryd.underlying62 rfl rfl ?_)
     refine Rl.op (OpY.mul (x := (uw x11)) (y := (uw x13)) (z := (uw ((uw x11) * (uw x13)))) rfl rfl rfl ?_)
     refine Rl.op (OpY.move (v := (osv (some b8) 0 (List.length x2) m1)) rfl ?_)
     refine Rl.op (OpY.move (v := (Value.int .i64 x10)) rfl ?_)
     refine Rl.op (OpY.move (v := (Value.int .i64 x12)) rfl ?_)
     refine Rl.op (OpY.add (x := x10) (y := x12) (z := (iw (x10 + x12))) rfl rfl rfl ?_)
     obtain ⟨x14, q22, h⟩ := bind_some h
     obtain ⟨n12, q23, q24⟩ := idx_some q22
     have q25 := (List.getElem?_eq_some_iff.1 q24).1
     refine Rl.op (OpY.ixRowD (r := (rInt .u32)) (b := b8) (o := 0) (n := n12) (m := (List.length x2)) (xs := out13) (q := (0 + n12 * (rInt .u32).sz)) Tryd.underlying22 ti47 rfl hl13 rfl q23 q25 rfl ?_)
     obtain ⟨vs12, q26, q27, q28⟩ := row_elem (pre := []) (sp := []) hE12 q24
     obtain rfl := q27
     refine Rl.op (OpY.ldElem1 (v := (Value.int .u32 x14)) Tryd.underlying47 rfl rfl (hL12.at 0 rfl rfl) q28 ?_)
     refine Rl.op (OpY.convInt (x := x14) (z := (uw x14)) Tryd.underlying47 Tryd.underlying62 rfl rfl ?_)
     refine Rl.op (OpY.add (x := (uw ((uw x11) * (uw x13)))) (y := (uw x14)) (z := (uw ((uw ((uw x11) * (uw x13))) + (uw x14)))) rfl rfl rfl ?_)
     refine Rl.op (OpY.add (x := carry11) (y := (uw ((uw ((uw x11) * (uw x13))) + (uw x14)))) (z := (uw (carry11 + (uw ((uw ((uw x11) * (uw x13))) + (uw x14)))))) rfl rfl rfl ?_)
     refine Rl.op (OpY.assign (v := (Value.int .u64 (uw (carry11 + (uw ((uw ((uw x11) * (uw x13))) + (uw x14))))))) rfl ?_)
     refine Rl.nil (Swp.seq (Swp.region rfl (Rl.op (OpY.move (v := (osv (some b8) 0 (List.length x2) m1)) rfl ?_))))
     refine Rl.op (OpY.move (v := (Value.int .i64 x10)) rfl ?_)
     refine Rl.op (OpY.move (v := (Value.int .i64 x12)) rfl ?_)
     refine Rl.op (OpY.add (x := x10) (y := x12) (z := (iw (x10 + x12))) rfl rfl rfl ?_)
     refine Rl.op (OpY.move (v := (Value.int .u64 (uw (carry11 + (uw ((uw ((uw x11) * (uw x13))) + (uw x14))))))) rfl ?_)
     refine Rl.op (OpY.convInt (x := (uw (carry11 + (uw ((uw ((uw x11) * (uw x13))) + (uw x14)))))) (z := (uw32 (uw (carry11 + (uw ((uw ((uw x11) * (uw x13))) + (uw x14))))))) Tryd.underlying62 Tryd.underlying47 rfl rfl ?_)
     obtain ⟨x15, q29, h⟩ := bind_some h
     obtain ⟨n13, q30, q31⟩ := idx_some q29
     have q32 := (List.getElem?_eq_some_iff.1 q31).1
     refine Rl.op (OpY.ixRowD (r := (rInt .u32)) (b := b8) (o := 0) (n := n13) (m := (List.length x2)) (xs := out13) (q := (0 + n13 * (rInt .u32).sz)) Tryd.underlying22 ti47 rfl hl13 rfl q30 q32 rfl ?_)
     obtain ⟨x16, q33, h⟩ := bind_some h
     obtain ⟨n14, q34, q35, q36⟩ := upd1_some q33
     obtain rfl := Int.ofNat_inj.1 (q30.symm.trans q34)
     refine Rl.op0 (OpY.stRowX (pre := []) (r := (rInt .u32)) (vs := [(Value.int .u32 (uw32 (uw (carry11 + (uw ((uw ((uw x11) * (uw x13))) + (uw x14)))))))]) (a := (uw32 (uw (carry11 + (uw ((uw ((uw x11) * (uw x13))) + (uw x14))))))) ti47 rfl rfl rfl rfl hL12 0 rfl rfl hE12 q32 rfl q36 ?_)
     have hl14 : (List.length x2) = List.length x16 := by rw [q36, List.length_set]; exact hl13
     intro w13 cs14 (hL13 : Go.X.Loc [] [] w w13 [some b8] [Cont.cells ([] ++ (cs14 ++ []))]) hS11 hE13 q37
     have hc15 : (cs14 ++ []).length = m1 * (rInt .u32).sz := by have := hc13; rw [List.length_append] at this ⊢; rw [q37]; exact this
     have K13 := ks w hS11
     refine Rl.nil (Swp.region rfl (Rl.op (OpY.move (v := (Value.int .u64 (uw (carry11 + (uw ((uw ((uw x11) * (uw x13))) + (uw x14))))))) rfl ?_)))
     refine Rl.op (OpY.ishr (x := (uw (carry11 + (uw ((uw ((uw x11) * (uw x13))) + (uw x14)))))) (y := 32) rfl rfl (by decide) ?_)
     refine Rl.op (OpY.assign (v := (Value.int .u64 (bshr .u64 (uw (carry11 + (uw ((uw ((uw x11) * (uw x13))) + (uw x14))))) 32))) rfl ?_)
     refine Rl.nil (Swp.pop_blk (Swp.region rfl (Rl.op (OpY.add (x := x12) (y := 1) (z := (iw (x12 + 1))) rfl rfl rfl ?_))))
     refine Rl.op (OpY.move (v := (Value.int .i64 (iw (x12 + 1)))) rfl ?_)
     refine Rl.nil ?_
     have f17 := (hE13.mono (K13 None))
     obtain rfl := Option.some.inj h
     refine Swp.pop_back ⟨(x16, (bshr .u64 (uw (carry11 + (uw ((uw ((uw x11) * (uw x13))) + (uw x14))))) 32), (iw (x12 + 1))), rfl, ?_⟩
     exact ⟨cs14, _, (upds_sym ⟨rfl, rfl, rfl, rfl, rfl, rfl, rfl, rfl, rfl, rfl, rfl, trivial⟩), hL13, (Keep.trans K12 K13), f17, hl14, hc15, trivial⟩
    ·
     replace h := ite_f hc14 h
     refine Swp.exit rfl ?_
     obtain rfl := Option.some.inj h
     obtain rfl := hd11 _ rfl
     replace h := g11
     try dsimp only at h
     skip
     refine Swp.pop_back ?_
     exact ⟨out13, carry11, cs13, _, rfl, (upds_sym ⟨rfl, rfl, rfl, rfl, rfl, rfl, rfl, trivial⟩), hL12, K12, hE12, hl13, hc13, trivial⟩
   ·
    rintro _ w14 ⟨out12, carry10, cs12, u, rfl, rfl, hL14, K14, hE14, hl15, hc16, -⟩
    replace h := g11
    try dsimp only at h
    refine Swp.region rfl (Rl.op (OpY.move (v := (osv (some b8) 0 (List.length x2) m1)) rfl ?_))
    refine Rl.op (OpY.move (v := (Value.int .i64 x10)) rfl ?_)
    refine Rl.op (OpY.move (v := b_v) rfl ?_)
    have f18 := (f14.mono (K14 S))
    refine Rl.op (OpY.lenRo (v := b_v) Tryd.underlying22 rfl f18 ?_)
    refine Rl.op (OpY.add (x := x10) (y := (List.length b : Int)) (z := (iw (x10 + (List.length b : Int)))) rfl rfl rfl ?_)
    refine Rl.op (OpY.move (v := (Value.int .u64 carry10)) rfl ?_)
    refine Rl.op (OpY.convInt (x := carry10) (z := (uw32 carry10)) Tryd.underlying62 Tryd.underlying47 rfl rfl ?_)
    obtain ⟨x17, q38, h⟩ := bind_some h
    obtain ⟨n15, q39, q40⟩ := idx_some q38
    have q41 := (List.getElem?_eq_some_iff.1 q40).1
    refine Rl.op (OpY.ixRowD (r := (rInt .u32)) (b := b8) (o := 0) (n := n15) (m := (List.length x2)) (xs := out12) (q := (0 + n15 * (rInt .u32).sz)) Tryd.underlying22 ti47 rfl hl15 rfl q39 q41 rfl ?_)
    obtain ⟨x18, q42, h⟩ := bind_some h
    obtain ⟨n16, q43, q44, q45⟩ := upd1_some q42
    obtain rfl := Int.ofNat_inj.1 (q39.symm.trans q43)
    refine Rl.op0 (OpY.stRowX (pre := []) (r := (rInt .u32)) (vs := [(Value.int .u32 (uw32 carry10))]) (a := (uw32 carry10)) ti47 rfl rfl rfl rfl hL14 0 rfl rfl hE14 q41 rfl q45 ?_)
    have hl16 : (List.length x2) = List.length x18 := by rw [q45, List.length_set]; exact hl15
    intro w15 cs15 (hL15 : Go.X.Loc [] [] w w15 [some b8] [Cont.cells ([] ++ (cs15 ++ []))]) hS12 hE15 q46
    have hc17 : (cs15 ++ []).length = m1 * (rInt .u32).sz := by have := hc16; rw [List.length_append] at this ⊢; rw [q46]; exact this
    have K15 := ks w hS12
    refine Rl.nil (Swp.pop_blk (Swp.region rfl (Rl.op (OpY.add (x := x10) (y := 1) (z := (iw (x10 + 1))) rfl rfl rfl ?_))))
    refine Rl.op (OpY.move (v := (Value.int .i64 (iw (x10 + 1)))) rfl ?_)
    refine Rl.nil ?_
    have f19 := (hE15.mono (K15 None))
    obtain rfl := Option.some.inj h
    refine Swp.pop_back ⟨(x18, (iw (x10 + 1))), rfl, ?_⟩
    exact ⟨cs15, _, (upds_sym ⟨rfl, rfl, rfl, rfl, rfl, trivial⟩), hL15, (Keep.trans (Keep.trans K11 K14) K15), f19, hl16, hc17, trivial⟩
  ·
   replace h := ite_f hc12 h
   refine Swp.exit rfl ?_
   obtain rfl := Option.some.inj h
   obtain rfl := hd10 _ rfl
   replace h := g10
   try dsimp only at h
   skip
   refine Swp.pop_back ?_
   exact ⟨out11, cs11, _, rfl, (upds_sym ⟨rfl, trivial⟩), hL11, K11, hE11, hl11, hc11, trivial⟩
 ·
  rintro _ w16 ⟨out10, cs10, u, rfl, rfl, hL16, K16, hE16, hl17, hc18, -⟩
  replace h := g10
  try dsimp only at h
  refine Swp.seq (Swp.region rfl (Rl.op (OpY.move (v := (osv (some b8) 0 (List.length x2) m1)) rfl ?_)))
  refine Rl.op (OpY.assign (v := (osv (some b8) 0 (List.length x2) m1)) rfl ?_)
  refine Rl.nil (Swp.ret ?_)
  obtain rfl := Option.some.inj h
  refine ⟨[(osv (some b8) 0 (List.length x2) m1)], ⟨rfl, trivial⟩, ⟨_, rfl, hL16.done, ?_⟩⟩
  exact ⟨some b8, m1, cs10, [], (by rw [← hl17]; rfl), (hL16.newOwn [0] rfl rfl rfl), (hE16.mono (Hv.pick [0] rfl)), hc18, trivial⟩
theorem bshort_w (N : Nat) (a : (List Int)) (pb : Int) (a_v : Value) (w : World) (S : Nat → Prop) (a_h : Rs (rInt .u32) (Hv w.heap.size S [] w) a_v a) (r : ((List Int) × Int)) (h : bshort N a pb = some r) :
  Calls Tryd.prog 53 #[a_v, (Value.int .u32 pb)] w (Ret w (fun v w' => ∃ (ob0 : Option Nat) (cap0 : Nat) (cs0 : List Value) (sp0 : List Value), .tuple #[(osv ob0 0 (List.length r.1) cap0), (Value.int .u32 r.2)] = v ∧ NewOwn w w' [ob0] [Cont.cells ([] ++ (cs0 ++ sp0))] ∧ Els (rInt .u32) (Hv w.heap.size None [ob0] w') cs0 r.1 ∧ (cs0 ++ sp0).length = cap0 * (rInt .u32).sz ∧ True)) := by
 unfold bshort at h
 have hL : Go.X.Loc [] [] w w [] [] := Go.X.Loc.begin0 w
 refine calls_of (l := [a_v, (Value.int .u32 pb)]) (rl := [.tmp 4, .tmp 5]) (n := 43) Tryd.func53 rfl rfl rfl (Nat.le_of_ble_eq_true rfl) ?_
 refine Swp.seq (Swp.region rfl (Rl.op (OpY.assign (v := (Value.slice none 0 0)) rfl ?_)))
 refine Rl.op (OpY.assign (v := (Value.int .u32 0)) rfl ?_)
 refine Rl.nil (Swp.seq (Swp.region rfl (Rl.op (OpY.move (v := a_v) rfl ?_))))
 refine Rl.op (OpY.lenRo (v := a_v) Tryd.underlying22 rfl a_h ?_)
 obtain ⟨x2, q3, h⟩ := bind_some h
 obtain ⟨m1, q4, q5, q6, q7⟩ := mk1_some q3
 refine Rl.op (OpY.mkRowX (r := (rInt .u32)) (H := (Hv w.heap.size None [] w)) (zc := [(Value.int .u32 0)]) (x := 0) Tryd.underlying22 ti47 rfl rfl rfl rfl q4 q5 q6 q7 hL ?_)
 intro b8 w10 cs9 hE10 hc10 hL10 hS10
 have K10 := ks w hS10
 refine Rl.op (OpY.assign (v := (osv (some b8) 0 (List.length x2) m1)) rfl ?_)
 refine Rl.nil (Swp.seq (Swp.region rfl (Rl.op (OpY.assign (v := (Value.int .u64 0)) rfl ?_))))
 refine Rl.nil (Swp.seq (Swp.seq (Swp.region rfl (Rl.op (OpY.move (v := a_v) rfl ?_)))))
 have f10 := (a_h.mono (K10 S))
 refine Rl.op (OpY.lenRo (v := a_v) Tryd.underlying22 rfl f10 ?_)
 refine Rl.op (OpY.sub (x := (List.length a : Int)) (y := 1) (z := (iw ((List.length a : Int) - 1))) rfl rfl rfl ?_)
 refine Rl.op (OpY.assign (v := (Value.int .i64 (iw ((List.length a : Int) - 1)))) rfl ?_)
 refine Rl.nil ?_
 obtain ⟨s10, hl10, g10⟩ := bind_some h
 refine Swp.join (fun e w' => ∃ (out10 : (List Int)) (rest10 : Int) (cs10 : List Value) (u : Env), (out10, rest10) = s10 ∧ e = upds [(6, (osv (some b8) 0 (List.length x2) m1)), (7, (Value.int .u64 rest10))] u ∧ Go.X.Loc [] [] w w' [some b8] [Cont.cells ([] ++ (cs10 ++ []))] ∧ Keep w.heap.size [some b8] w10 [some b8] w' ∧ Els (rInt .u32) (Hv w.heap.size None [some b8] w') cs10 out10 ∧ (List.length x2) = List.length out10 ∧ (cs10 ++ []).length = m1 * (rInt .u32).sz ∧ True) ?_ ?_
 ·
  refine Swp.block ?_
  have f11 := (hE10.mono (K10 None))
  refine Swp.loopM hl10 (fun (ss : ((List Int) × Int × Int)) (e : Env) (w' : World) => match ss with | (out11, rest11, i10) => ∃ (cs11 : List Value) (u : Env), e = upds [(0, a_v), (1, (Value.int .u32 pb)), (6, (osv (some b8) 0 (List.length x2) m1)), (7, (Value.int .u64 rest11)), (8, (Value.int .i64 i10))] u ∧ Go.X.Loc [] [] w w' [some b8] [Cont.cells ([] ++ (cs11 ++ []))] ∧ Keep w.heap.size [some b8] w10 [some b8] w' ∧ Els (rInt .u32) (Hv w.heap.size None [some b8] w') cs11 out11 ∧ (List.length x2) = List.length out11 ∧ (cs11 ++ []).length = m1 * (rInt .u32).sz ∧ True) ⟨cs9, _, (upds_sym ⟨rfl, rfl, rfl, rfl, rfl, trivial⟩), hL10, Keep.refl, f11, rfl, hc10, trivial⟩ ?_
  rintro ⟨out11, rest11, i10⟩ oo _ w11 ⟨cs11, u, rfl, hL11, K11, hE11, hl11, hc11, -⟩ h hd10
  rw [bshort_b1] at h
  refine Swp.seq (Swp.seq (Swp.region rfl (Rl.op (OpY.move (v := (Value.int .i64 i10)) rfl ?_))))
  refine Rl.op (OpY.geq (x := i10) (y := 0) ((i10 : Int) ≥ 0) rfl rfl Iff.rfl ?_)
  refine Rl.nil ?_
  refine Swp.cond_d ((i10 : Int) ≥ 0) rfl (fun hc12 => ?_) (fun hc12 => ?_)
  ·
   replace h := ite_t hc12 h
   refine Swp.skip (Swp.seq (Swp.block (Swp.seq (Swp.region rfl (Rl.op (OpY.move (v := (Value.int .u64 rest11)) rfl ?_))))))
   refine Rl.op (OpY.ishl (x := rest11) (y := 32) rfl rfl (by decide) ?_)
   refine Rl.op (OpY.move (v := a_v) rfl ?_)
   refine Rl.op (OpY.move (v := (Value.int .i64 i10)) rfl ?_)
   obtain ⟨x10, q10, h⟩ := bind_some h
   obtain ⟨n10, q11, q12⟩ := idx_some q10
   have f12 := (f10.mono (K11 S))
   obtain ⟨b10, o10, c10, vs10, q13, q14, f13, q15⟩ := Rs.get f12 q12
   obtain rfl := q15
   refine Rl.op (OpY.ixRoD (r := (rInt .u32)) (v := a_v) (n := n10) (m := (o10 + n10 * (rInt .u32).sz)) Tryd.underlying22 ti47 rfl q13 rfl q11 q12 rfl ?_)
   refine Rl.op (OpY.ldRo1 (v := (Value.int .u32 x10)) Tryd.underlying47 rfl rfl vw_view f13 ?_)
   refine Rl.op (OpY.convInt (x := x10) (z := (uw x10)) Tryd.underlying47 Tryd.underlying62 rfl rfl ?_)
   refine Rl.op (OpY.ior (x := (bshl .u64 rest11 32)) (y := (uw x10)) rfl rfl ?_)
   refine Rl.op (OpY.assign (v := (Value.int .u64 (bor .u64 (bshl .u64 rest11 32) (uw x10)))) rfl ?_)
   refine Rl.nil (Swp.seq (Swp.region rfl (Rl.op (OpY.move (v := (osv (some b8) 0 (List.length x2) m1)) rfl ?_))))
   refine Rl.op (OpY.move (v := (Value.int .i64 i10)) rfl ?_)
   refine Rl.op (OpY.move (v := (Value.int .u64 (bor .u64 (bshl .u64 rest11 32) (uw x10)))) rfl ?_)
   refine Rl.op (OpY.move (v := (Value.int .u32 pb)) rfl ?_)
   refine Rl.op (OpY.convInt (x := pb) (z := (uw pb)) Tryd.underlying47 Tryd.underlying62 rfl rfl ?_)
   obtain ⟨x11, q16, h⟩ := bind_some h
   obtain ⟨q17, q18⟩ := sdiv_some q16
   refine Rl.op (OpY.quoI (x := (bor .u64 (bshl .u64 rest11 32) (uw x10))) (y := (uw pb)) (z := x11) rfl rfl q17 q18 ?_)
   refine Rl.op (OpY.convInt (x := x11) (z := (uw32 x11)) Tryd.underlying62 Tryd.underlying47 rfl rfl ?_)
   obtain ⟨x12, q19, h⟩ := bind_some h
   obtain ⟨n11, q20, q21⟩ := idx_some q19
   have q22 := (List.getElem?_eq_some_iff.1 q21).1
   refine Rl.op (OpY.ixRowD (r := (rInt .u32)) (b := b8) (o := 0) (n := n11) (m := (List.length x2)) (xs := out11) (q := (0 + n11 * (rInt .u32).sz)) Tryd.underlying22 ti47 rfl hl11 rfl q20 q22 rfl ?_)
   obtain ⟨x13, q23, h⟩ := bind_some h
   obtain ⟨n12, q24, q25, q26⟩ := upd1_some q23
   obtain rfl := Int.ofNat_inj.1 (q20.symm.trans q24)
   refine Rl.op0 (OpY.stRowX (pre := []) (r := (rInt .u32)) (vs := [(Value.int .u32 (uw32 x11))]) (a := (uw32 x11)) ti47 rfl rfl rfl rfl hL11 0 rfl rfl hE11 q22 rfl q26 ?_)
   have hl12 : (List.length x2) = List.length x13 := by rw [q26, List.length_set]; exact hl11
   intro w12 cs12 (hL12 : Go.X.Loc [] [] w w12 [some b8] [Cont.cells ([] ++ (cs12 ++ []))]) hS11 hE12 q27
   have hc13 : (cs12 ++ []).length = m1 * (rInt .u32).sz := by have := hc11; rw [List.length_append] at this ⊢; rw [q27]; exact this
   have K12 := ks w hS11
   refine Rl.nil (Swp.region rfl (Rl.op (OpY.move (v := (Value.int .u64 (bor .u64 (bshl .u64 rest11 32) (uw x10)))) rfl ?_)))
   refine Rl.op (OpY.move (v := (Value.int .u32 pb)) rfl ?_)
   refine Rl.op (OpY.convInt (x := pb) (z := (uw pb)) Tryd.underlying47 Tryd.underlying62 rfl rfl ?_)
   obtain ⟨x14, q28, h⟩ := bind_some h
   obtain ⟨q29, q30⟩ := srem_some q28
   subst q30
   refine Rl.op (OpY.remI (x := (bor .u64 (bshl .u64 rest11 32) (uw x10))) (y := (uw pb)) rfl rfl q29 ?_)
   refine Rl.op (OpY.assign (v := (Value.int .u64 (Int.tmod (bor .u64 (bshl .u64 rest11 32) (uw x10)) (uw pb)))) rfl ?_)
   refine Rl.nil (Swp.pop_blk (Swp.region rfl (Rl.op (OpY.move (v := (Value.int .i64 i10)) rfl ?_))))
   refine Rl.op (OpY.sub (x := i10) (y := 1) (z := (iw (i10 - 1))) rfl rfl rfl ?_)
   refine Rl.op (OpY.assign (v := (Value.int .i64 (iw (i10 - 1)))) rfl ?_)
   refine Rl.nil ?_
   have f14 := (hE12.mono (K12 None))
   obtain rfl := Option.some.inj h
   refine Swp.pop_back ⟨(x13, (Int.tmod (bor .u64 (bshl .u64 rest11 32) (uw x10)) (uw pb)), (iw (i10 - 1))), rfl, ?_⟩
   exact ⟨cs12, _, (upds_sym ⟨rfl, rfl, rfl, rfl, rfl, trivial⟩), hL12, (Keep.trans K11 K12), f14, hl12, hc13, trivial⟩
  ·
   replace h := ite_f hc12 h
   refine Swp.exit rfl ?_
   obtain rfl := Option.some.inj h
   obtain rfl := hd10 _ rfl
   replace h := g10
   try dsimp only at h
   skip
   refine Swp.pop_back ?_
   exact ⟨out11, rest11, cs11, _, rfl, (upds_sym ⟨rfl, rfl, trivial⟩), hL11, K11, hE11, hl11, hc11, trivial⟩
 ·
  rintro _ w13 ⟨out10, rest10, cs10, u, rfl, rfl, hL13, K13, hE13, hl13, hc14, -⟩
  replace h := g10
  try dsimp only at h
  refine Swp.seq (Swp.region rfl (Rl.op (OpY.move (v := (osv (some b8) 0 (List.length x2) m1)) rfl ?_)))
  refine Rl.op (OpY.move (v := (Value.int .u64 rest10)) rfl ?_)
  refine Rl.op (OpY.convInt (x := rest10) (z := (uw32 rest10)) Tryd.underlying62 Tryd.underlying47 rfl rfl ?_)
  refine Rl.op (OpY.assign (v := (osv (some b8) 0 (List.length x2) m1)) rfl ?_)
  refine Rl.op (OpY.assign (v := (Value.int .u32 (uw32 rest10))) rfl ?_)
  refine Rl.nil (Swp.ret ?_)
  obtain rfl := Option.some.inj h
  refine ⟨[(osv (some b8) 0 (List.length x2) m1), (Value.int .u32 (uw32 rest10))], ⟨rfl, rfl, trivial⟩, ⟨_, rfl, hL13.done, ?_⟩⟩
  exact ⟨some b8, m1, cs10, [], (by rw [← hl13]; rfl), (hL13.newOwn [0] rfl rfl rfl), (hE13.mono (Hv.pick [0] rfl)), hc14, trivial⟩
theorem bshift_w (N : Nat) (a : (List Int)) (n : Int) (a_v : Value) (w : World) (S : Nat → Prop) (a_h : Rs (rInt .u32) (Hv w.heap.size S [] w) a_v a) (r : (List Int)) (h : bshift N a n = some r) :
  Calls Tryd.prog 69 #[a_v, (Value.int .u64 n)] w (Ret w (fun v w' => ∃ (ob0 : Option Nat) (cap0 : Nat) (cs0 : List Value) (sp0 : List Value), (osv ob0 0 (List.length r) cap0) = v ∧ NewOwn w w' [ob0] [Cont.cells ([] ++ (cs0 ++ sp0))] ∧ Els (rInt .u32) (Hv w.heap.size None [ob0] w') cs0 r ∧ (cs0 ++ sp0).length = cap0 * (rInt .u32).sz ∧ True)) := by
 unfold bshift at h
 have hL : Go.X.Loc [] [] w w [] [] := Go.X.Loc.begin0 w
 refine calls_of (l := [a_v, (Value.int .u64 n)]) (rl := [.tmp 4]) (n := 41) Tryd.func69 rfl rfl rfl (Nat.le_of_ble_eq_true rfl) ?_
 refine Swp.seq (Swp.region rfl (Rl.op (OpY.assign (v := (Value.slice none 0 0)) rfl ?_)))
 refine Rl.nil (Swp.seq (Swp.region rfl (Rl.op (OpY.move (v := a_v) rfl ?_))))
 refine Rl.op (OpY.lenRo (v := a_v) Tryd.underlying22 rfl a_h ?_)
 refine Rl.op (OpY.add (x := (List.length a : Int)) (y := 1) (z := (iw ((List.length a : Int) + 1))) rfl rfl rfl ?_)
 obtain ⟨x2, q3, h⟩ := bind_some h
 obtain ⟨m1, q4, q5, q6, q7⟩ := mk1_some q3
 refine Rl.op (OpY.mkRowX (r := (rInt .u32)) (H := (Hv w.heap.size None [] w)) (zc := [(Value.int .u32 0)]) (x := 0) Tryd.underlying22 ti47 rfl rfl rfl rfl q4 q5 q6 q7 hL ?_)
 intro b8 w10 cs9 hE10 hc10 hL10 hS10
 have K10 := ks w hS10
 refine Rl.op (OpY.assign (v := (osv (some b8) 0 (List.length x2) m1)) rfl ?_)
 refine Rl.nil (Swp.seq (Swp.seq (Swp.region rfl (Rl.op (OpY.move (v := a_v) rfl ?_)))))
 have f10 := (a_h.mono (K10 S))
 refine Rl.op (OpY.lenRo (v := a_v) Tryd.underlying22 rfl f10 ?_)
 refine Rl.op (OpY.move (v := (Value.int .i64 0)) rfl ?_)
 refine Rl.nil ?_
 obtain ⟨s10, hl10, g10⟩ := bind_some h
 refine Swp.join (fun e w' => ∃ (out10 : (List Int)) (cs10 : List Value) (u : Env), out10 = s10 ∧ e = upds [(5, (osv (some b8) 0 (List.length x2) m1))] u ∧ Go.X.Loc [] [] w w' [some b8] [Cont.cells ([] ++ (cs10 ++ []))] ∧ Keep w.heap.size [some b8] w10 [some b8] w' ∧ Els (rInt .u32) (Hv w.heap.size None [some b8] w') cs10 out10 ∧ (List.length x2) = List.length out10 ∧ (cs10 ++ []).length = m1 * (rInt .u32).sz ∧ True) ?_ ?_
 ·
  refine Swp.block ?_
  have f11 := (hE10.mono (K10 None))
  refine Swp.loopM hl10 (fun (ss : ((List Int) × Int)) (e : Env) (w' : World) => match ss with | (out11, x10) => ∃ (cs11 : List Value) (u : Env), e = upds [(1, (Value.int .u64 n)), (5, (osv (some b8) 0 (List.length x2) m1)), (13, a_v), (14, (Value.int .i64 (List.length a : Int))), (15, (Value.int .i64 x10))] u ∧ Go.X.Loc [] [] w w' [some b8] [Cont.cells ([] ++ (cs11 ++ []))] ∧ Keep w.heap.size [some b8] w10 [some b8] w' ∧ Els (rInt .u32) (Hv w.heap.size None [some b8] w') cs11 out11 ∧ (List.length x2) = List.length out11 ∧ (cs11 ++ []).length = m1 * (rInt .u32).sz ∧ True) ⟨cs9, _, (upds_sym ⟨rfl, rfl, rfl, rfl, rfl, trivial⟩), hL10, Keep.refl, f11, rfl, hc10, trivial⟩ ?_
  rintro ⟨out11, x10⟩ oo _ w11 ⟨cs11, u, rfl, hL11, K11, hE11, hl11, hc11, -⟩ h hd10
  rw [bshift_b1] at h
  refine Swp.seq (Swp.region rfl (Rl.op (OpY.lss (x := x10) (y := (List.length a : Int)) ((x10 : Int) < (List.length a : Int)) rfl rfl Iff.rfl ?_)))
  refine Rl.nil (Swp.seq ?_)
  refine Swp.cond_d ((x10 : Int) < (List.length a : Int)) rfl (fun hc12 => ?_) (fun hc12 => ?_)
  ·
   replace h := ite_t hc12 h
   refine Swp.skip (Swp.seq (Swp.block (Swp.seq (Swp.region rfl (Rl.op (OpY.move (v := (Value.int .i64 x10)) rfl ?_))))))
   obtain ⟨x11, q10, h⟩ := bind_some h
   obtain ⟨n10, q11, q12⟩ := idx_some q10
   have f12 := (f10.mono (K11 S))
   obtain ⟨b10, o10, c10, vs10, q13, q14, f13, q15⟩ := Rs.get f12 q12
   obtain rfl := q15
   refine Rl.op (OpY.ixRoD (r := (rInt .u32)) (v := a_v) (n := n10) (m := (o10 + n10 * (rInt .u32).sz)) Tryd.underlying22 ti47 rfl q13 rfl q11 q12 rfl ?_)
   refine Rl.op (OpY.ldRo1 (v := (Value.int .u32 x11)) Tryd.underlying47 rfl rfl vw_view f13 ?_)
   refine Rl.op (OpY.assign (v := (Value.int .i64 x10)) rfl ?_)
   refine Rl.op (OpY.assign (v := (Value.int .u32 x11)) rfl ?_)
   refine Rl.nil (Swp.seq (Swp.region rfl (Rl.op (OpY.move (v := (Value.int .u32 x11)) rfl ?_))))
   refine Rl.op (OpY.convInt (x := x11) (z := (uw x11)) Tryd.underlying47 Tryd.underlying62 rfl rfl ?_)
   refine Rl.op (OpY.move (v := (Value.int .u64 n)) rfl ?_)
   obtain ⟨u10, q16, h⟩ := bind_some h
   have q17 := chk_some q16
   refine Rl.op (OpY.ishl (x := (uw x11)) (y := n) rfl rfl q17 ?_)
   refine Rl.op (OpY.assign (v := (Value.int .u64 (bshl .u64 (uw x11) n))) rfl ?_)
   refine Rl.nil (Swp.seq (Swp.region rfl (Rl.op (OpY.move (v := (osv (some b8) 0 (List.length x2) m1)) rfl ?_))))
   refine Rl.op (OpY.move (v := (Value.int .i64 x10)) rfl ?_)
   obtain ⟨x12, q18, h⟩ := bind_some h
   obtain ⟨n11, q19, q20⟩ := idx_some q18
   have q21 := (List.getElem?_eq_some_iff.1 q20).1
   refine Rl.op (OpY.ixRowD (r := (rInt .u32)) (b := b8) (o := 0) (n := n11) (m := (List.length x2)) (xs := out11) (q := (0 + n11 * (rInt .u32).sz)) Tryd.underlying22 ti47 rfl hl11 rfl q19 q21 rfl ?_)
   obtain ⟨vs11, q22, q23, q24⟩ := row_elem (pre := []) (sp := []) hE11 q20
   obtain rfl := q23
   refine Rl.op (OpY.ldElem1 (v := (Value.int .u32 x12)) Tryd.underlying47 rfl rfl (hL11.at 0 rfl rfl) q24 ?_)
   refine Rl.op (OpY.move (v := (Value.int .u64 (bshl .u64 (uw x11) n))) rfl ?_)
   refine Rl.op (OpY.convInt (x := (bshl .u64 (uw x11) n)) (z := (uw32 (bshl .u64 (uw x11) n))) Tryd.underlying62 Tryd.underlying47 rfl rfl ?_)
   refine Rl.op (OpY.ior (x := x12) (y := (uw32 (bshl .u64 (uw x11) n))) rfl rfl ?_)
   obtain ⟨x13, q25, h⟩ := bind_some h
   obtain ⟨n12, q26, q27⟩ := idx_some q25
   have q28 := (List.getElem?_eq_some_iff.1 q27).1
   refine Rl.op (OpY.ixRowD (r := (rInt .u32)) (b := b8) (o := 0) (n := n12) (m := (List.length x2)) (xs := out11) (q := (0 + n12 * (rInt .u32).sz)) Tryd.underlying22 ti47 rfl hl11 rfl q26 q28 rfl ?_)
   obtain ⟨x14, q29, h⟩ := bind_some h
   obtain ⟨n13, q30, q31, q32⟩ := upd1_some q29
   obtain rfl := Int.ofNat_inj.1 (q26.symm.trans q30)
   refine Rl.op0 (OpY.stRowX (pre := []) (r := (rInt .u32)) (vs := [(Value.int .u32 (bor .u32 x12 (uw32 (bshl .u64 (uw x11) n))))]) (a := (bor .u32 x12 (uw32 (bshl .u64 (uw x11) n)))) ti47 rfl rfl rfl rfl hL11 0 rfl rfl hE11 q28 rfl q32 ?_)
   have hl12 : (List.length x2) = List.length x14 := by rw [q32, List.length_set]; exact hl11
   intro w12 cs12 (hL12 : Go.X.Loc [] [] w w12 [some b8] [Cont.cells ([] ++ (cs12 ++ []))]) hS11 hE12 q33
   have hc13 : (cs12 ++ []).length = m1 * (rInt .u32).sz := by have := hc11; rw [List.length_append] at this ⊢; rw [q33]; exact this
   have K12 := ks w hS11
   refine Rl.nil (Swp.region rfl (Rl.op (OpY.move (v := (osv (some b8) 0 (List.length x2) m1)) rfl ?_)))
   refine Rl.op (OpY.move (v := (Value.int .i64 x10)) rfl ?_)
   refine Rl.op (OpY.add (x := x10) (y := 1) (z := (iw (x10 + 1))) rfl rfl rfl ?_)
   refine Rl.op (OpY.move (v := (Value.int .u64 (bshl .u64 (uw x11) n))) rfl ?_)
   refine Rl.op (OpY.ishr (x := (bshl .u64 (uw x11) n)) (y := 32) rfl rfl (by decide) ?_)
   refine Rl.op (OpY.convInt (x := (bshr .u64 (bshl .u64 (uw x11) n) 32)) (z := (uw32 (bshr .u64 (bshl .u64 (uw x11) n) 32))) Tryd.underlying62 Tryd.underlying47 rfl rfl ?_)
   obtain ⟨x15, q34, h⟩ := bind_some h
   obtain ⟨n14, q35, q36⟩ := idx_some q34
   have q37 := (List.getElem?_eq_some_iff.1 q36).1
   refine Rl.op (OpY.ixRowD (r := (rInt .u32)) (b := b8) (o := 0) (n := n14) (m := (List.length x2)) (xs := x14) (q := (0 + n14 * (rInt .u32).sz)) Tryd.underlying22 ti47 rfl hl12 rfl q35 q37 rfl ?_)
   obtain ⟨x16, q38, h⟩ := bind_some h
   obtain ⟨n15, q39, q40, q41⟩ := upd1_some q38
   obtain rfl := Int.ofNat_inj.1 (q35.symm.trans q39)
   have f14 := (hE12.mono (K12 None))
   refine Rl.op0 (OpY.stRowX (pre := []) (r := (rInt .u32)) (vs := [(Value.int .u32 (uw32 (bshr .u64 (bshl .u64 (uw x11) n) 32)))]) (a := (uw32 (bshr .u64 (bshl .u64 (uw x11) n) 32))) ti47 rfl rfl rfl rfl hL12 0 rfl rfl f14 q37 rfl q41 ?_)
   have hl13 : (List.length x2) = List.length x16 := by rw [q41, List.length_set]; exact hl12
   intro w13 cs13 (hL13 : Go.X.Loc [] [] w w13 [some b8] [Cont.cells ([] ++ (cs13 ++ []))]) hS12 hE13 q42
   have hc14 : (cs13 ++ []).length = m1 * (rInt .u32).sz := by have := hc13; rw [List.length_append] at this ⊢; rw [q42]; exact this
   have K13 := ks w hS12
   refine Rl.nil (Swp.pop_blk (Swp.region rfl (Rl.op (OpY.add (x := x10) (y := 1) (z := (iw (x10 + 1))) rfl rfl rfl ?_))))
   refine Rl.op (OpY.move (v := (Value.int .i64 (iw (x10 + 1)))) rfl ?_)
   refine Rl.nil ?_
   have f15 := (hE13.mono (K13 None))
   obtain rfl := Option.some.inj h
   refine Swp.pop_back ⟨(x16, (iw (x10 + 1))), rfl, ?_⟩
   exact ⟨cs13, _, (upds_sym ⟨rfl, rfl, rfl, rfl, rfl, trivial⟩), hL13, (Keep.trans (Keep.trans K11 K12) K13), f15, hl13, hc14, trivial⟩
  ·
   replace h := ite_f hc12 h
   refine Swp.exit rfl ?_
   obtain rfl := Option.some.inj h
   obtain rfl := hd10 _ rfl
   replace h := g10
   try dsimp only at h
   skip
   refine Swp.pop_back ?_
   exact ⟨out11, cs11, _, rfl, (upds_sym ⟨rfl, trivial⟩), hL11, K11, hE11, hl11, hc11, trivial⟩
 ·
  rintro _ w14 ⟨out10, cs10, u, rfl, rfl, hL14, K14, hE14, hl14, hc15, -⟩
  replace h := g10
  try dsimp only at h
  refine Swp.seq (Swp.region rfl (Rl.op (OpY.move (v := (osv (some b8) 0 (List.length x2) m1)) rfl ?_)))
  refine Rl.op (OpY.assign (v := (osv (some b8) 0 (List.length x2) m1)) rfl ?_)
  refine Rl.nil (Swp.ret ?_)
  obtain rfl := Option.some.inj h
  refine ⟨[(osv (some b8) 0 (List.length x2) m1)], ⟨rfl, trivial⟩, ⟨_, rfl, hL14.done, ?_⟩⟩
  exact ⟨some b8, m1, cs10, [], (by rw [← hl14]; rfl), (hL14.newOwn [0] rfl rfl rfl), (hE14.mono (Hv.pick [0] rfl)), hc15, trivial⟩
end Go.Proofs.YthmoefciofnmdaaDoor.WA

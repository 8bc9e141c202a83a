/- Walks, written by a program of mine (wip/tool); the kernel checks them. -/
import Derived.Test.YtakkacdhlocckaaProg
import Derived.Test.YtakkacdhlocckaaZ7
import Derived.Test.YtakkacdhlocckaaPA
set_option maxRecDepth 100000
set_option maxHeartbeats 4000000
set_option linter.unusedVariables false
namespace Go.Proofs.Ytakkacdhlocckaa.WA
open Go Go.RowKit Go.X Go.D 
theorem mixed : Try.prog.follows .mixedOrders = true := by kernel_rfl
theorem ti89 : TI Try.prog 89 1 4 (Value.int .u32 0) := TI.mk (by kernel_rfl)
theorem en90 : Enters Try.prog 90 := ⟨Try.f90, Try.func90, by kernel_rfl, by kernel_rfl⟩
theorem ti26 : TI Try.prog 26 2 32 (Value.agg #[(Value.bool false), (Value.slice none 0 0)]) := TI.mk (by kernel_rfl)
theorem en83 : Enters Try.prog 83 := ⟨Try.f83, Try.func83, by kernel_rfl, by kernel_rfl⟩
theorem pl26 : placesT Try.prog 26 = some [(0, 1), (1, 1)] := by kernel_rfl
theorem en85 : Enters Try.prog 85 := ⟨Try.f85, Try.func85, by kernel_rfl, by kernel_rfl⟩
theorem en84 : Enters Try.prog 84 := ⟨Try.f84, Try.func84, by kernel_rfl, by kernel_rfl⟩
theorem cloneU32_w (N : Nat) (s : (List Int)) (s_v : Value) (w : World) (S : Nat → Prop) (s_h : Rs (rInt .u32) (Hv w.heap.size S [] w) s_v s) (r : (List Int)) (h : cloneU32 N s = some r) :
  Calls Try.prog 90 #[s_v] w (Ret w (fun v w' => ∃ (ob0 : Option Nat) (cap0 : Nat) (cs0 : List Value) (sp0 : List Value), (osv ob0 0 (List.length r) cap0) = v ∧ NewOwn w w' [ob0] [Cont.cells ([] ++ (cs0 ++ sp0))] ∧ Els (rInt .u32) (Hv w.heap.size None [ob0] w') cs0 r ∧ (cs0 ++ sp0).length = cap0 * (rInt .u32).sz ∧ True)) := by
 unfold cloneU32 at h
 have hL : Go.X.Loc [] [] w w [] [] := Go.X.Loc.begin0 w
 refine calls_of (l := [s_v]) (rl := [.tmp 2]) (n := 8) Try.func90 rfl rfl rfl (Nat.le_of_ble_eq_true rfl) ?_
 refine Swp.seq ?_
 refine Swp.region rfl ?_
 refine Rl.op (OpY.assign (v := (Value.slice none 0 0)) rfl ?_)
 refine Rl.nil ?_
 refine Swp.seq ?_
 refine Swp.seq ?_
 refine Swp.region rfl ?_
 refine Rl.op (OpY.move (v := s_v) rfl ?_)
 refine Rl.op (OpY.eqlNil (v := s_v) Try.underlying24 rfl s_h.isSlice rfl ?_)
 refine Rl.nil ?_
 refine Swp.cond_b (isNil s_v) rfl (fun hc1 => ?_) (fun hc1 => ?_)
 ·
  have hnil := (Sl.of_isNil s_h hc1).1
  replace h : some [] = some r := by rw [hnil] at h; simpa [apnd] using h
  refine Swp.seq ?_
  refine Swp.region rfl ?_
  refine Rl.op (OpY.assign (v := (Value.slice none 0 0)) rfl ?_)
  refine Rl.nil ?_
  have hp2 := hL.addNil
  have hL3 : Go.X.Loc [] [] w w [none] [Cont.cells ([] ++ ([] ++ []))] := hp2.1
  have hE6 : Els (rInt .u32) (Hv w.heap.size None [none] w) [] [] := Els.nil
  refine Swp.ret ?_
  obtain rfl := Option.some.inj h
  refine ⟨[(osv none 0 (List.length ([] : (List Int))) 0)], ⟨rfl, trivial⟩, ⟨_, rfl, hL3.done, ?_⟩⟩
  exact ⟨none, 0, [], [], rfl, (hL3.newOwn [0] rfl rfl rfl), (hE6.mono (Hv.pick [0] rfl)), (show ([] ++ [] : List Value).length = 0 * (rInt .u32).sz by simp), trivial⟩
 ·
  refine Swp.skip ?_
  refine Swp.seq ?_
  refine Swp.region rfl ?_
  refine Rl.op (OpY.litRow0 Try.underlying24 ti89 hL ?_)
  intro b7 w11 (hL12 : Go.X.Loc [] [] w w11 [some b7] [Cont.cells ([] ++ ([] ++ []))]) hS14
  have hE15 : Els (rInt .u32) (Hv w.heap.size None [] w) [] [] := Els.nil
  have K13 := Keep.step (s := w.heap.size) hS14
  refine Rl.op (OpY.move (v := s_v) rfl ?_)
  obtain ⟨x16, q17, h⟩ := bind_some h
  obtain ⟨q18, q19, q20⟩ := apnd_some q17
  have f24 := (s_h.mono (K13 S))
  obtain ⟨ds21, q22, q23⟩ := Rs.src f24
  have f32 := (hE15.mono (K13 None))
  refine Rl.op (OpY.apRowX (r := (rInt .u32)) (H := (Hv w.heap.size None [some b7] w11)) (cs := []) (sp := []) (xs := ([] : (List Int))) (ys := s) (Y := x16) (n := (List.length ([] : (List Int)))) (cap := 0) (i := 0) Try.underlying24 ti89 rfl rfl rfl rfl hL12 rfl rfl f32 rfl (show ([] ++ [] : List Value).length = 0 * (rInt .u32).sz by simp) q22 (Els.anyH (fun _ _ _ _ h => h) q23) q18 q19 q20 ?_)
  intro ob25 cap26 sp28 cs27 w33 hE29 hc30 (hL34 : Go.X.Loc [] [] w w33 [ob25] [Cont.cells ([] ++ (cs27 ++ sp28))]) hS36
  have K35 := Keep.step (s := w.heap.size) hS36
  refine Rl.op (OpY.assign (v := (osv ob25 0 (List.length x16) cap26)) rfl ?_)
  refine Rl.nil ?_
  refine Swp.ret ?_
  obtain rfl := Option.some.inj h
  refine ⟨[(osv ob25 0 (List.length x16) cap26)], ⟨rfl, trivial⟩, ⟨_, rfl, hL34.done, ?_⟩⟩
  have f37 := (hE29.mono (K35 None))
  exact ⟨ob25, cap26, cs27, sp28, rfl, (hL34.newOwn [0] rfl rfl rfl), (f37.mono (Hv.pick [0] rfl)), hc30, trivial⟩
theorem digit_w (N : Nat) (d : (List Int)) (i : Int) (d_v : Value) (w : World) (S : Nat → Prop) (d_h : Rs (rInt .u32) (Hv w.heap.size S [] w) d_v d) (r : Int) (h : digit N d i = some r) :
  Calls Try.prog 84 #[d_v, (Value.int .i64 i)] w (Ret w (fun v w' => (Value.int .u64 r) = v ∧ True)) := by
 unfold digit at h
 have hL : Go.X.Loc [] [] w w [] [] := Go.X.Loc.begin0 w
 refine calls_of (l := [d_v, (Value.int .i64 i)]) (rl := [.tmp 4]) (n := 14) Try.func84 rfl rfl rfl (Nat.le_of_ble_eq_true rfl) ?_
 refine Swp.seq ?_
 refine Swp.region rfl ?_
 refine Rl.op (OpY.assign (v := (Value.int .u64 0)) rfl ?_)
 refine Rl.nil ?_
 refine Swp.seq ?_
 refine Swp.seq ?_
 refine Swp.region rfl ?_
 refine Rl.op (OpY.move (v := (Value.int .i64 i)) rfl ?_)
 refine Rl.op (OpY.move (v := d_v) rfl ?_)
 refine Rl.op (OpY.lenRo (v := d_v) Try.underlying24 rfl d_h ?_)
 refine Rl.op (OpY.lss (x := i) (y := (List.length d : Int)) ((i : Int) < (List.length d : Int)) rfl rfl Iff.rfl ?_)
 refine Rl.nil ?_
 refine Swp.cond_d ((i : Int) < (List.length d : Int)) rfl (fun hc1 => ?_) (fun hc1 => ?_)
 ·
  replace h := ite_t hc1 h
  refine Swp.seq ?_
  refine Swp.region rfl ?_
  refine Rl.op (OpY.move (v := d_v) rfl ?_)
  refine Rl.op (OpY.move (v := (Value.int .i64 i)) rfl ?_)
  obtain ⟨x2, q3, h⟩ := bind_some h
  obtain ⟨n4, q5, q6⟩ := idx_some q3
  obtain ⟨b7, o8, c9, vs10, q11, q12, f13, q14⟩ := Rs.get d_h q6
  obtain rfl := q14
  refine Rl.op (OpY.ixRoD (r := (rInt .u32)) (v := d_v) (n := n4) (m := (o8 + n4 * (rInt .u32).sz)) Try.underlying24 ti89 rfl q11 rfl q5 q6 rfl ?_)
  refine Rl.op (OpY.ldRo1 (v := (Value.int .u32 x2)) Try.underlying89 rfl rfl vw_view f13 ?_)
  refine Rl.op (OpY.convInt (x := x2) (z := (uw x2)) Try.underlying89 Try.underlying93 rfl rfl ?_)
  refine Rl.op (OpY.assign (v := (Value.int .u64 (uw x2))) rfl ?_)
  refine Rl.nil ?_
  refine Swp.ret ?_
  obtain rfl := Option.some.inj h
  refine ⟨[(Value.int .u64 (uw x2))], ⟨rfl, trivial⟩, ⟨_, rfl, hL.done, ?_⟩⟩
  exact ⟨rfl, trivial⟩
 ·
  replace h := ite_f hc1 h
  refine Swp.skip ?_
  refine Swp.seq ?_
  refine Swp.region rfl ?_
  refine Rl.op (OpY.assign (v := (Value.int .u64 0)) rfl ?_)
  refine Rl.nil ?_
  refine Swp.ret ?_
  obtain rfl := Option.some.inj h
  refine ⟨[(Value.int .u64 0)], ⟨rfl, trivial⟩, ⟨_, rfl, hL.done, ?_⟩⟩
  exact ⟨rfl, trivial⟩
theorem bsign_w (N : Nat) (n : Int)  (w : World) (S : Nat → Prop)  (r : Int) (h : bsign N n = some r) :
  Calls Try.prog 85 #[(Value.int .i64 n)] w (Ret w (fun v w' => (Value.int .i64 r) = v ∧ True)) := by
 unfold bsign at h
 have hL : Go.X.Loc [] [] w w [] [] := Go.X.Loc.begin0 w
 refine calls_of (l := [(Value.int .i64 n)]) (rl := [.tmp 2]) (n := 6) Try.func85 rfl rfl rfl (Nat.le_of_ble_eq_true rfl) ?_
 refine Swp.seq ?_
 refine Swp.region rfl ?_
 refine Rl.op (OpY.assign (v := (Value.int .i64 0)) rfl ?_)
 refine Rl.nil ?_
 refine Swp.seq ?_
 refine Swp.region rfl ?_
 refine Rl.op (OpY.move (v := (Value.int .i64 n)) rfl ?_)
 refine Rl.op (OpY.max (x := n) (y := (-1)) rfl rfl ?_)
 refine Rl.op (OpY.min (x := (imax n (-1))) (y := 1) rfl rfl ?_)
 refine Rl.op (OpY.assign (v := (Value.int .i64 (imin (imax n (-1)) 1))) rfl ?_)
 refine Rl.nil ?_
 refine Swp.ret ?_
 obtain rfl := Option.some.inj h
 refine ⟨[(Value.int .i64 (imin (imax n (-1)) 1))], ⟨rfl, trivial⟩, ⟨_, rfl, hL.done, ?_⟩⟩
 exact ⟨rfl, trivial⟩
theorem btrim_w (N : Nat) (d : (List Int)) (d_v : Value) (w : World) (S : Nat → Prop) (d_h : Rs (rInt .u32) (Hv w.heap.size S [] w) d_v d) (r : (List Int)) (h : btrim N d = some r) :
  Calls Try.prog 83 #[d_v] w (Ret w (fun v w' => ∃ (ob0 : Option Nat) (cap0 : Nat) (cs0 : List Value) (sp0 : List Value), (osv ob0 0 (List.length r) cap0) = v ∧ NewOwn w w' [ob0] [Cont.cells ([] ++ (cs0 ++ sp0))] ∧ Els (rInt .u32) (Hv w.heap.size None [ob0] w') cs0 r ∧ (cs0 ++ sp0).length = cap0 * (rInt .u32).sz ∧ True)) := by
 unfold btrim at h
 have hL : Go.X.Loc [] [] w w [] [] := Go.X.Loc.begin0 w
 refine calls_of (l := [d_v]) (rl := [.tmp 2]) (n := 22) Try.func83 rfl rfl rfl (Nat.le_of_ble_eq_true rfl) ?_
 refine Swp.seq ?_
 refine Swp.region rfl ?_
 refine Rl.op (OpY.assign (v := (Value.slice none 0 0)) rfl ?_)
 refine Rl.nil ?_
 refine Swp.seq ?_
 refine Swp.region rfl ?_
 refine Rl.op (OpY.move (v := d_v) rfl ?_)
 refine Rl.op (OpY.lenRo (v := d_v) Try.underlying24 rfl d_h ?_)
 refine Rl.op (OpY.assign (v := (Value.int .i64 (List.length d : Int))) rfl ?_)
 refine Rl.nil ?_
 refine Swp.seq ?_
 obtain ⟨s84, hl86, g85⟩ := bind_some h
 refine Swp.join (fun e w' => ∃ (n83 : Int) (u : Env), n83 = s84 ∧ e = upds [(0, d_v), (3, (Value.int .i64 n83))] u ∧ Go.X.Loc [] [] w w' [] [] ∧ Keep w.heap.size [] w [] w' ∧ True) ?_ ?_
 ·
  refine Swp.block ?_
  refine Swp.loopM hl86 (fun (ss : Int) (e : Env) (w' : World) => match ss with | n82 => ∃ (u : Env), e = upds [(0, d_v), (3, (Value.int .i64 n82))] u ∧ Go.X.Loc [] [] w w' [] [] ∧ Keep w.heap.size [] w [] w' ∧ True) ⟨_, (upds_sym ⟨rfl, ⟨rfl, trivial⟩⟩), hL, Keep.refl, trivial⟩ ?_
  rintro n82 oo _ w88 ⟨u, rfl, hL89, K90, -⟩ h hd87
  rw [btrim_b1] at h
  refine Swp.seq ?_
  refine Swp.seq ?_
  obtain ⟨s107, h, g108⟩ := bind_some h
  refine Swp.join (fun e w' => ∃ (x106 : Bool) (u : Env), x106 = s107 ∧ e = upds [(0, d_v), (3, (Value.int .i64 n82)), (15, (Value.bool x106))] u ∧ Go.X.Loc [] [] w w' [] [] ∧ Keep w.heap.size [] w88 [] w' ∧ True) ?_ ?_
  ·
   refine Swp.region rfl ?_
   refine Rl.op (OpY.move (v := (Value.int .i64 n82)) rfl ?_)
   refine Rl.op (OpY.gtr (x := n82) (y := 0) ((n82 : Int) > 0) rfl rfl Iff.rfl ?_)
   refine Rl.op (OpY.move (v := (Value.bool (decide ((n82 : Int) > 0)))) rfl ?_)
   by_cases hc109 : (n82 : Int) > 0
   ·
    replace h := ite_t hc109 h
    refine Rl.yes (dj := 8) (b' := (decide ((n82 : Int) > 0))) rfl rfl (decide_eq_true hc109) (OpY.move (v := d_v) rfl ?_)
    refine Rl.yes (dj := 8) (b' := (decide ((n82 : Int) > 0))) rfl rfl (decide_eq_true hc109) (OpY.move (v := (Value.int .i64 n82)) rfl ?_)
    refine Rl.yes (dj := 8) (b' := (decide ((n82 : Int) > 0))) rfl rfl (decide_eq_true hc109) (OpY.sub (x := n82) (y := 1) (z := (iw (n82 - 1))) rfl rfl rfl ?_)
    obtain ⟨x110, q111, h⟩ := bind_some h
    obtain ⟨n112, q113, q114⟩ := idx_some q111
    have f123 := (d_h.mono (K90 S))
    obtain ⟨b115, o116, c117, vs118, q119, q120, f121, q122⟩ := Rs.get f123 q114
    obtain rfl := q122
    refine Rl.yes (dj := 8) (b' := (decide ((n82 : Int) > 0))) rfl rfl (decide_eq_true hc109) (OpY.ixRoD (r := (rInt .u32)) (v := d_v) (n := n112) (m := (o116 + n112 * (rInt .u32).sz)) Try.underlying24 ti89 rfl q119 rfl q113 q114 rfl ?_)
    refine Rl.yes (dj := 8) (b' := (decide ((n82 : Int) > 0))) rfl rfl (decide_eq_true hc109) (OpY.ldRo1 (v := (Value.int .u32 x110)) Try.underlying89 rfl rfl vw_view f121 ?_)
    refine Rl.yes (dj := 8) (b' := (decide ((n82 : Int) > 0))) rfl rfl (decide_eq_true hc109) (OpY.eql (x := x110) (y := 0) ((x110 : Int) = 0) rfl rfl Iff.rfl ?_)
    refine Rl.op (OpY.pick_t (t := (decide ((n82 : Int) > 0))) (v := (Value.bool (decide ((x110 : Int) = 0)))) rfl (decide_eq_true hc109) rfl ?_)
    refine Rl.nil ?_
    obtain rfl := Option.some.inj h
    refine Swp.pop_back ?_
    exact ⟨(decide ((x110 : Int) = 0)), _, rfl, (upds_sym ⟨rfl, ⟨rfl, ⟨rfl, trivial⟩⟩⟩), hL89, Keep.refl, trivial⟩
   ·
    replace h := ite_f hc109 h
    refine Rl.no (dj := 8) (b' := (decide ((n82 : Int) > 0))) rfl rfl (decide_eq_false hc109) ?_
    refine Rl.no (dj := 8) (b' := (decide ((n82 : Int) > 0))) rfl rfl (decide_eq_false hc109) ?_
    refine Rl.no (dj := 8) (b' := (decide ((n82 : Int) > 0))) rfl rfl (decide_eq_false hc109) ?_
    refine Rl.no (dj := 8) (b' := (decide ((n82 : Int) > 0))) rfl rfl (decide_eq_false hc109) ?_
    refine Rl.no (dj := 8) (b' := (decide ((n82 : Int) > 0))) rfl rfl (decide_eq_false hc109) ?_
    refine Rl.no (dj := 8) (b' := (decide ((n82 : Int) > 0))) rfl rfl (decide_eq_false hc109) ?_
    refine Rl.op (OpY.pick_f (t := (decide ((n82 : Int) > 0))) (v := (Value.bool false)) rfl (decide_eq_false hc109) rfl ?_)
    refine Rl.nil ?_
    obtain rfl := Option.some.inj h
    refine Swp.pop_back ?_
    exact ⟨false, _, rfl, (upds_sym ⟨rfl, ⟨rfl, ⟨rfl, trivial⟩⟩⟩), hL89, Keep.refl, trivial⟩
  ·
   rintro _ w124 ⟨x106, u, rfl, rfl, hL125, K126, -⟩
   replace h := g108
   try dsimp only at h
   refine Swp.cond_b x106 rfl (fun hc127 => ?_) (fun hc127 => ?_)
   ·
    replace h := ite_t hc127 h
    refine Swp.skip ?_
    refine Swp.block ?_
    refine Swp.region rfl ?_
    refine Rl.op (OpY.move (v := (Value.int .i64 n82)) rfl ?_)
    refine Rl.op (OpY.sub (x := n82) (y := 1) (z := (iw (n82 - 1))) rfl rfl rfl ?_)
    refine Rl.op (OpY.assign (v := (Value.int .i64 (iw (n82 - 1)))) rfl ?_)
    refine Rl.nil ?_
    refine Swp.pop_blk ?_
    obtain rfl := Option.some.inj h
    refine Swp.pop_back ⟨(iw (n82 - 1)), rfl, ?_⟩
    exact ⟨_, (upds_sym ⟨rfl, ⟨rfl, trivial⟩⟩), hL125, (Keep.trans K90 K126), trivial⟩
   ·
    replace h := ite_f hc127 h
    refine Swp.exit rfl ?_
    obtain rfl := Option.some.inj h
    obtain rfl := hd87 _ rfl
    replace h := g85
    try dsimp only at h
    skip
    refine Swp.pop_back ?_
    exact ⟨n82, _, rfl, (upds_sym ⟨rfl, ⟨rfl, trivial⟩⟩), hL125, (Keep.trans K90 K126), trivial⟩
 ·
  rintro _ w128 ⟨n83, u, rfl, rfl, hL129, K130, -⟩
  replace h := g85
  try dsimp only at h
  refine Swp.seq ?_
  refine Swp.region rfl ?_
  refine Rl.op (OpY.move (v := d_v) rfl ?_)
  refine Rl.op (OpY.move (v := (Value.int .i64 n83)) rfl ?_)
  obtain ⟨x131, q132, h⟩ := bind_some h
  obtain ⟨m133, n134, q135, q136, q137, q138, q139⟩ := cut_some q132
  have f142 := (d_h.mono (K130 S))
  refine Rl.op (OpY.cutRoX (l := m133) (h' := n134) Try.underlying24 ti89 rfl f142 (.inl ⟨rfl, by omega⟩) (.inr ⟨_, _, rfl, by rw [← q136]; rfl⟩) q137 q138 q139 ?_)
  intro v140 k141
  obtain ⟨r146, q147, h⟩ := bind_some h
  refine Rl.op (OpY.call en90 rfl rfl (cloneU32_w N x131 v140 _ Any (k141.mono vw_any) r146 q147) ?_)
  rintro _ w156 hE159 ⟨ob148, cap149, cs150, sp151, rfl, hN155, hE152, hc153, -⟩
  replace hE152 := hE152.mono (Hv.freshO (S := None) hL129 [ob148])
  have hp160 := hL129.adoptL hE159 hN155
  have hL157 : Go.X.Loc [] [] w w156 [ob148] [Cont.cells ([] ++ (cs150 ++ sp151))] := hp160.1
  refine Rl.op (OpY.assign (v := (osv ob148 0 (List.length r146) cap149)) rfl ?_)
  refine Rl.nil ?_
  refine Swp.ret ?_
  obtain rfl := Option.some.inj h
  refine ⟨[(osv ob148 0 (List.length r146) cap149)], ⟨rfl, trivial⟩, ⟨_, rfl, hL157.done, ?_⟩⟩
  exact ⟨ob148, cap149, cs150, sp151, rfl, (hL157.newOwn [0] rfl rfl rfl), (hE152.mono (Hv.pick [0] rfl)), hc153, trivial⟩
theorem bnormal_w (N : Nat) (negative : Bool) (d : (List Int)) (d_v : Value) (w : World) (S : Nat → Prop) (d_h : Rs (rInt .u32) (Hv w.heap.size S [] w) d_v d) (r : Big) (h : bnormal N negative d = some r) :
  Calls Try.prog 73 #[(Value.bool negative), d_v] w (Ret w (fun v w' => ∃ (v0_0 : Value), (Value.agg #[(Value.bool r.Negative), v0_0]) = v ∧ Rs (rInt .u32) (Hv w.heap.size None [] w') v0_0 r.Digits ∧ True)) := by
 unfold bnormal at h
 have hL : Go.X.Loc [] [] w w [] [] := Go.X.Loc.begin0 w
 refine calls_of (l := [(Value.bool negative), d_v]) (rl := [.cell 4 26]) (n := 14) Try.func73 rfl rfl rfl (Nat.le_of_ble_eq_true rfl) ?_
 refine Swp.seq ?_
 refine Swp.region rfl ?_
 refine Rl.op (OpY.alloc (cs := [(Value.bool false), (Value.slice none 0 0)]) ti26 rfl hL ?_)
 intro b1 w2 (hL3 : Go.X.Loc [] [] w w2 [some b1] [Cont.cells [(Value.bool false), (Value.slice none 0 0)]]) hS5
 have K4 := Keep.step (s := w.heap.size) hS5
 refine Rl.nil ?_
 refine Swp.seq ?_
 refine Swp.region rfl ?_
 refine Rl.op (OpY.move (v := d_v) rfl ?_)
 obtain ⟨r6, q7, h⟩ := bind_some h
 have f16 := (d_h.mono (K4 S))
 refine Rl.op (OpY.call en83 rfl rfl (btrim_w N d d_v _ Any (f16.mono vw_any) r6 q7) ?_)
 rintro _ w17 hE20 ⟨ob8, cap9, cs10, sp11, rfl, hN15, hE12, hc13, -⟩
 replace hE12 := hE12.mono (Hv.freshO (S := None) hL3 [ob8])
 have hp21 := hL3.adoptL hE20 hN15
 have hL18 : Go.X.Loc [] [] w w17 [ob8, some b1] [Cont.cells ([] ++ (cs10 ++ sp11)), Cont.cells [(Value.bool false), (Value.slice none 0 0)]] := hp21.1
 refine Rl.op (OpY.assign (v := (osv ob8 0 (List.length r6) cap9)) rfl ?_)
 refine Rl.nil ?_
 refine Swp.seq ?_
 refine Swp.seq ?_
 refine Swp.region rfl ?_
 refine Rl.op (OpY.move (v := (osv ob8 0 (List.length r6) cap9)) rfl ?_)
 refine Rl.op (OpY.lenRow (pre := []) (r := (rInt .u32)) (xs := r6) Try.underlying24 rfl (hL18.at 0 rfl rfl) hE12 rfl rfl ?_)
 refine Rl.op (OpY.eql (x := (List.length r6 : Int)) (y := 0) (((List.length r6 : Int) : Int) = 0) rfl rfl Iff.rfl ?_)
 refine Rl.nil ?_
 refine Swp.cond_d (((List.length r6 : Int) : Int) = 0) rfl (fun hc22 => ?_) (fun hc22 => ?_)
 ·
  replace h := ite_t hc22 h
  refine Swp.seq ?_
  refine Swp.region rfl ?_
  refine Rl.op (OpY.build (zc := [(Value.bool false), (Value.slice none 0 0)]) (cs := [(Value.bool false), (Value.slice none 0 0)]) (is := []) (vs := []) (css := []) pl26 ti26 rfl rfl rfl trivial rfl ?_)
  refine Rl.op0 (OpY.store (vs := [(Value.bool false), (Value.slice none 0 0)]) ti26 rfl rfl rfl rfl (ones_cons rfl (ones_cons rfl ones_nil)) hL18 1 rfl rfl (Nat.le_of_ble_eq_true rfl) ?_)
  intro w23 (hL24 : Go.X.Loc [] [] w w23 [ob8, some b1] [Cont.cells ([] ++ (cs10 ++ sp11)), Cont.cells [(Value.bool false), (Value.slice none 0 0)]]) hS26
  refine Rl.nil ?_
  refine Swp.ret ?_
  obtain rfl := Option.some.inj h
  refine ⟨[(Value.agg #[(Value.bool false), (Value.slice none 0 0)])], ⟨⟨⟨b1, 0, none⟩, rfl, res_boxA Try.underlying26 rfl ti26 (hL24.at 1 rfl rfl) rfl⟩, trivial⟩, ⟨_, rfl, hL24.done, ?_⟩⟩
  exact ⟨(Value.slice none 0 0), rfl, Rs.nil, trivial⟩
 ·
  replace h := ite_f hc22 h
  refine Swp.skip ?_
  refine Swp.seq ?_
  refine Swp.region rfl ?_
  refine Rl.op (OpY.move (v := (Value.bool negative)) rfl ?_)
  refine Rl.op (OpY.move (v := (osv ob8 0 (List.length r6) cap9)) rfl ?_)
  refine Rl.op (OpY.build (zc := [(Value.bool false), (Value.slice none 0 0)]) (cs := [(Value.bool negative), (osv ob8 0 (List.length r6) cap9)]) (is := [0, 1]) (vs := [(Value.bool negative), (osv ob8 0 (List.length r6) cap9)]) (css := [[(Value.bool negative)], [(osv ob8 0 (List.length r6) cap9)]]) pl26 ti26 rfl rfl rfl ⟨rfl, ⟨(one_cells (osv_one _ _ _ _)), trivial⟩⟩ rfl ?_)
  refine Rl.op0 (OpY.store (vs := [(Value.bool negative), (osv ob8 0 (List.length r6) cap9)]) ti26 rfl rfl rfl rfl (ones_cons rfl (ones_cons (osv_one _ _ _ _) ones_nil)) hL18 1 rfl rfl (Nat.le_of_ble_eq_true rfl) ?_)
  intro w27 (hL28 : Go.X.Loc [] [] w w27 [ob8, some b1] [Cont.cells ([] ++ (cs10 ++ sp11)), Cont.cells [(Value.bool negative), (osv ob8 0 (List.length r6) cap9)]]) hS30
  have K29 := Keep.step (s := w.heap.size) hS30
  refine Rl.nil ?_
  have f32 := (hE12.mono (K29 None))
  have f31 := hL28.freezeRow 0 rfl rfl f32 rfl rfl rfl hc13
  have hp33 := hL28.pick [1] rfl rfl rfl
  have hL35 : Go.X.Loc [] [] w w27 [some b1] [Cont.cells [(Value.bool negative), (osv ob8 0 (List.length r6) cap9)]] := hp33.1
  refine Swp.ret ?_
  obtain rfl := Option.some.inj h
  refine ⟨[(Value.agg #[(Value.bool negative), (osv ob8 0 (List.length r6) cap9)])], ⟨⟨⟨b1, 0, none⟩, rfl, res_boxA Try.underlying26 rfl ti26 (hL35.at 0 rfl rfl) rfl⟩, trivial⟩, ⟨_, rfl, hL35.done, ?_⟩⟩
  exact ⟨(osv ob8 0 (List.length r6) cap9), rfl, (f31.mono Hv.out), trivial⟩
theorem bcompare_w (N : Nat) (a : (List Int)) (b : (List Int)) (a_v : Value) (b_v : Value) (w : World) (S : Nat → Prop) (a_h : Rs (rInt .u32) (Hv w.heap.size S [] w) a_v a) (b_h : Rs (rInt .u32) (Hv w.heap.size S [] w) b_v b) (r : Int) (h : bcompare N a b = some r) :
  Calls Try.prog 75 #[a_v, b_v] w (Ret w (fun v w' => (Value.int .i64 r) = v ∧ True)) := by
 unfold bcompare at h
 have hL : Go.X.Loc [] [] w w [] [] := Go.X.Loc.begin0 w
 refine calls_of (l := [a_v, b_v]) (rl := [.tmp 4]) (n := 42) Try.func75 rfl rfl rfl (Nat.le_of_ble_eq_true rfl) ?_
 refine Swp.seq ?_
 refine Swp.region rfl ?_
 refine Rl.op (OpY.assign (v := (Value.int .i64 0)) rfl ?_)
 refine Rl.nil ?_
 refine Swp.seq ?_
 refine Swp.seq ?_
 refine Swp.region rfl ?_
 refine Rl.op (OpY.move (v := a_v) rfl ?_)
 refine Rl.op (OpY.lenRo (v := a_v) Try.underlying24 rfl a_h ?_)
 refine Rl.op (OpY.move (v := b_v) rfl ?_)
 refine Rl.op (OpY.lenRo (v := b_v) Try.underlying24 rfl b_h ?_)
 refine Rl.op (OpY.neq (x := (List.length a : Int)) (y := (List.length b : Int)) (((List.length a : Int) : Int) ≠ (List.length b : Int)) rfl rfl Iff.rfl ?_)
 refine Rl.nil ?_
 refine Swp.cond_d (((List.length a : Int) : Int) ≠ (List.length b : Int)) rfl (fun hc1 => ?_) (fun hc1 => ?_)
 ·
  replace h := ite_t hc1 h
  refine Swp.seq ?_
  refine Swp.region rfl ?_
  refine Rl.op (OpY.move (v := a_v) rfl ?_)
  refine Rl.op (OpY.lenRo (v := a_v) Try.underlying24 rfl a_h ?_)
  refine Rl.op (OpY.move (v := b_v) rfl ?_)
  refine Rl.op (OpY.lenRo (v := b_v) Try.underlying24 rfl b_h ?_)
  refine Rl.op (OpY.sub (x := (List.length a : Int)) (y := (List.length b : Int)) (z := (iw ((List.length a : Int) - (List.length b : Int)))) rfl rfl rfl ?_)
  obtain ⟨r2, q3, h⟩ := bind_some h
  refine Rl.op (OpY.call en85 rfl rfl (bsign_w N (iw ((List.length a : Int) - (List.length b : Int))) _ Any r2 q3) ?_)
  rintro _ w5 hE8 ⟨rfl, -⟩
  have hL6 := hL.ext hE8
  refine Rl.op (OpY.assign (v := (Value.int .i64 r2)) rfl ?_)
  refine Rl.nil ?_
  refine Swp.ret ?_
  obtain rfl := Option.some.inj h
  refine ⟨[(Value.int .i64 r2)], ⟨rfl, trivial⟩, ⟨_, rfl, hL6.done, ?_⟩⟩
  exact ⟨rfl, trivial⟩
 ·
  replace h := ite_f hc1 h
  refine Swp.skip ?_
  refine Swp.seq ?_
  refine Swp.seq ?_
  refine Swp.region rfl ?_
  refine Rl.op (OpY.move (v := a_v) rfl ?_)
  refine Rl.op (OpY.lenRo (v := a_v) Try.underlying24 rfl a_h ?_)
  refine Rl.op (OpY.sub (x := (List.length a : Int)) (y := 1) (z := (iw ((List.length a : Int) - 1))) rfl rfl rfl ?_)
  refine Rl.op (OpY.assign (v := (Value.int .i64 (iw ((List.length a : Int) - 1)))) rfl ?_)
  refine Rl.nil ?_
  obtain ⟨s375, hl377, g376⟩ := bind_some h
  refine Swp.join (fun e w' => ∃  (u : Env), (Sum.inl ()) = s375 ∧ e = upds [] u ∧ Go.X.Loc [] [] w w' [] [] ∧ Keep w.heap.size [] w [] w' ∧ True) ?_ ?_
  ·
   refine Swp.block ?_
   refine Swp.loopM hl377 (fun (ss : Int) (e : Env) (w' : World) => match ss with | i374 => ∃ (u : Env), e = upds [(0, a_v), (1, b_v), (5, (Value.int .i64 i374))] u ∧ Go.X.Loc [] [] w w' [] [] ∧ Keep w.heap.size [] w [] w' ∧ True) ⟨_, (upds_sym ⟨rfl, ⟨rfl, ⟨rfl, trivial⟩⟩⟩), hL, Keep.refl, trivial⟩ ?_
   rintro i374 oo _ w379 ⟨u, rfl, hL380, K381, -⟩ h hd378
   rw [bcompare_b1] at h
   refine Swp.seq ?_
   refine Swp.seq ?_
   refine Swp.region rfl ?_
   refine Rl.op (OpY.move (v := (Value.int .i64 i374)) rfl ?_)
   refine Rl.op (OpY.geq (x := i374) (y := 0) ((i374 : Int) ≥ 0) rfl rfl Iff.rfl ?_)
   refine Rl.nil ?_
   refine Swp.cond_d ((i374 : Int) ≥ 0) rfl (fun hc382 => ?_) (fun hc382 => ?_)
   ·
    replace h := ite_t hc382 h
    refine Swp.skip ?_
    refine Swp.seq ?_
    refine Swp.block ?_
    refine Swp.seq ?_
    refine Swp.seq ?_
    obtain ⟨x383, q384, h⟩ := bind_some h
    obtain ⟨n385, q386, q387⟩ := idx_some q384
    have f396 := (a_h.mono (K381 S))
    obtain ⟨b388, o389, c390, vs391, q392, q393, f394, q395⟩ := Rs.get f396 q387
    obtain rfl := q395
    obtain ⟨x397, q398, h⟩ := bind_some h
    obtain ⟨n399, q400, q401⟩ := idx_some q398
    have f410 := (b_h.mono (K381 S))
    obtain ⟨b402, o403, c404, vs405, q406, q407, f408, q409⟩ := Rs.get f410 q401
    obtain rfl := q409
    refine Swp.drawL 8 [] [] (fun W1 => [.det a_v, .det (Value.int .i64 i374), .det (Value.pointer (some ⟨b388, (o389 + n385 * (rInt .u32).sz), none⟩)), .det (Value.int .u32 x383), .det b_v, .det (Value.int .i64 i374), .det (Value.pointer (some ⟨b402, (o403 + n399 * (rInt .u32).sz), none⟩)), .det (Value.int .u32 x397)]) mixed rfl rfl rfl (fun _ => rfl) (fun _ => rfl) ?_ ?_
    ·
     intro W1 _
     exact trivial
    ·
     intro w411 hE412
     have hL413 := hL380.ext hE412
     have K414 := Keep.ext (s := w.heap.size) (O := []) hE412
     refine DrH.det ?_ ?_
     ·
      rintro w415 Z416 hE417 hZ418 ⟨-⟩
      refine GOp.op (OpY.move (v := a_v) rfl ?_)
      exact ⟨Ext.refl _, rfl⟩
     refine DrH.det ?_ ?_
     ·
      rintro w421 Z422 hE423 hZ424 ⟨-⟩
      refine GOp.op (OpY.move (v := (Value.int .i64 i374)) rfl ?_)
      exact ⟨Ext.refl _, rfl⟩
     refine DrH.det ?_ ?_
     ·
      rintro w427 Z428 hE429 hZ430 ⟨-⟩
      refine GOp.op (OpY.ixRoD (r := (rInt .u32)) (v := a_v) (n := n385) (m := (o389 + n385 * (rInt .u32).sz)) Try.underlying24 ti89 rfl q392 rfl q386 q387 rfl ?_)
      exact ⟨Ext.refl _, rfl⟩
     refine DrH.det ?_ ?_
     ·
      rintro w433 Z434 hE435 hZ436 ⟨-⟩
      have K438 := Keep.ext (s := w.heap.size) (O := []) hE435
      refine GOp.op (OpY.ldRo1 (v := (Value.int .u32 x383)) Try.underlying89 rfl rfl vw_view (At.mono (K438 S) (At.mono (K414 S) f394)) ?_)
      exact ⟨Ext.refl _, rfl⟩
     refine DrH.det ?_ ?_
     ·
      rintro w439 Z440 hE441 hZ442 ⟨-⟩
      refine GOp.op (OpY.move (v := b_v) rfl ?_)
      exact ⟨Ext.refl _, rfl⟩
     refine DrH.det ?_ ?_
     ·
      rintro w445 Z446 hE447 hZ448 ⟨-⟩
      refine GOp.op (OpY.move (v := (Value.int .i64 i374)) rfl ?_)
      exact ⟨Ext.refl _, rfl⟩
     refine DrH.det ?_ ?_
     ·
      rintro w451 Z452 hE453 hZ454 ⟨-⟩
      refine GOp.op (OpY.ixRoD (r := (rInt .u32)) (v := b_v) (n := n399) (m := (o403 + n399 * (rInt .u32).sz)) Try.underlying24 ti89 rfl q406 rfl q400 q401 rfl ?_)
      exact ⟨Ext.refl _, rfl⟩
     refine DrH.det ?_ ?_
     ·
      rintro w457 Z458 hE459 hZ460 ⟨-⟩
      have K462 := Keep.ext (s := w.heap.size) (O := []) hE459
      refine GOp.op (OpY.ldRo1 (v := (Value.int .u32 x397)) Try.underlying89 rfl rfl vw_view (At.mono (K462 S) (At.mono (K414 S) f408)) ?_)
      exact ⟨Ext.refl _, rfl⟩
     refine DrH.fin0 ?_
     rintro w463 Z464 hE465 hZ466 ⟨-⟩ ap467
     have hB468 : ∀ b, some b ∈ ([] : List (Option Nat)) → w411.heap.size ≤ b ∧ ¬ Z464 b := by
      intro b hb; cases hb
     have hL469 := hL413.ext hE465
     have K470 := Keep.ext (s := w.heap.size) (O := []) hE465
     refine Rl.op (OpY.lss (x := x383) (y := x397) ((x383 : Int) < x397) rfl rfl Iff.rfl ?_)
     refine Rl.nil ?_
     refine Swp.cond_d ((x383 : Int) < x397) rfl (fun hc471 => ?_) (fun hc471 => ?_)
     ·
      replace h := ite_t hc471 h
      refine Swp.seq ?_
      refine Swp.region rfl ?_
      refine Rl.op (OpY.assign (v := (Value.int .i64 (-1))) rfl ?_)
      refine Rl.nil ?_
      refine Swp.ret ?_
      obtain rfl := Option.some.inj h
      obtain rfl := hd378 _ rfl
      replace h := g376
      try dsimp only at h
      obtain rfl := Option.some.inj h
      refine ⟨[(Value.int .i64 (-1))], ⟨rfl, trivial⟩, ⟨_, rfl, hL469.done, ?_⟩⟩
      exact ⟨rfl, trivial⟩
     ·
      replace h := ite_f hc471 h
      refine Swp.skip ?_
      refine Swp.seq ?_
      obtain ⟨x472, q473, h⟩ := bind_some h
      obtain ⟨n474, q475, q476⟩ := idx_some q473
      have f485 := ((f396.mono (K414 S)).mono (K470 S))
      obtain ⟨b477, o478, c479, vs480, q481, q482, f483, q484⟩ := Rs.get f485 q476
      obtain rfl := q484
      obtain ⟨x486, q487, h⟩ := bind_some h
      obtain ⟨n488, q489, q490⟩ := idx_some q487
      have f499 := ((f410.mono (K414 S)).mono (K470 S))
      obtain ⟨b491, o492, c493, vs494, q495, q496, f497, q498⟩ := Rs.get f499 q490
      obtain rfl := q498
      refine Swp.drawL 8 [] [] (fun W1 => [.det a_v, .det (Value.int .i64 i374), .det (Value.pointer (some ⟨b477, (o478 + n474 * (rInt .u32).sz), none⟩)), .det (Value.int .u32 x472), .det b_v, .det (Value.int .i64 i374), .det (Value.pointer (some ⟨b491, (o492 + n488 * (rInt .u32).sz), none⟩)), .det (Value.int .u32 x486)]) mixed rfl rfl rfl (fun _ => rfl) (fun _ => rfl) ?_ ?_
      ·
       intro W1 _
       exact trivial
      ·
       intro w500 hE501
       have hL502 := hL469.ext hE501
       have K503 := Keep.ext (s := w.heap.size) (O := []) hE501
       refine DrH.det ?_ ?_
       ·
        rintro w504 Z505 hE506 hZ507 ⟨-⟩
        refine GOp.op (OpY.move (v := a_v) rfl ?_)
        exact ⟨Ext.refl _, rfl⟩
       refine DrH.det ?_ ?_
       ·
        rintro w510 Z511 hE512 hZ513 ⟨-⟩
        refine GOp.op (OpY.move (v := (Value.int .i64 i374)) rfl ?_)
        exact ⟨Ext.refl _, rfl⟩
       refine DrH.det ?_ ?_
       ·
        rintro w516 Z517 hE518 hZ519 ⟨-⟩
        refine GOp.op (OpY.ixRoD (r := (rInt .u32)) (v := a_v) (n := n474) (m := (o478 + n474 * (rInt .u32).sz)) Try.underlying24 ti89 rfl q481 rfl q475 q476 rfl ?_)
        exact ⟨Ext.refl _, rfl⟩
       refine DrH.det ?_ ?_
       ·
        rintro w522 Z523 hE524 hZ525 ⟨-⟩
        have K527 := Keep.ext (s := w.heap.size) (O := []) hE524
        refine GOp.op (OpY.ldRo1 (v := (Value.int .u32 x472)) Try.underlying89 rfl rfl vw_view (At.mono (K527 S) (At.mono (K503 S) f483)) ?_)
        exact ⟨Ext.refl _, rfl⟩
       refine DrH.det ?_ ?_
       ·
        rintro w528 Z529 hE530 hZ531 ⟨-⟩
        refine GOp.op (OpY.move (v := b_v) rfl ?_)
        exact ⟨Ext.refl _, rfl⟩
       refine DrH.det ?_ ?_
       ·
        rintro w534 Z535 hE536 hZ537 ⟨-⟩
        refine GOp.op (OpY.move (v := (Value.int .i64 i374)) rfl ?_)
        exact ⟨Ext.refl _, rfl⟩
       refine DrH.det ?_ ?_
       ·
        rintro w540 Z541 hE542 hZ543 ⟨-⟩
        refine GOp.op (OpY.ixRoD (r := (rInt .u32)) (v := b_v) (n := n488) (m := (o492 + n488 * (rInt .u32).sz)) Try.underlying24 ti89 rfl q495 rfl q489 q490 rfl ?_)
        exact ⟨Ext.refl _, rfl⟩
       refine DrH.det ?_ ?_
       ·
        rintro w546 Z547 hE548 hZ549 ⟨-⟩
        have K551 := Keep.ext (s := w.heap.size) (O := []) hE548
        refine GOp.op (OpY.ldRo1 (v := (Value.int .u32 x486)) Try.underlying89 rfl rfl vw_view (At.mono (K551 S) (At.mono (K503 S) f497)) ?_)
        exact ⟨Ext.refl _, rfl⟩
       refine DrH.fin0 ?_
       rintro w552 Z553 hE554 hZ555 ⟨-⟩ ap556
       have hB557 : ∀ b, some b ∈ ([] : List (Option Nat)) → w500.heap.size ≤ b ∧ ¬ Z553 b := by
        intro b hb; cases hb
       have hL558 := hL502.ext hE554
       have K559 := Keep.ext (s := w.heap.size) (O := []) hE554
       refine Rl.op (OpY.gtr (x := x472) (y := x486) ((x472 : Int) > x486) rfl rfl Iff.rfl ?_)
       refine Rl.nil ?_
       refine Swp.cond_d ((x472 : Int) > x486) rfl (fun hc560 => ?_) (fun hc560 => ?_)
       ·
        replace h := ite_t hc560 h
        refine Swp.seq ?_
        refine Swp.region rfl ?_
        refine Rl.op (OpY.assign (v := (Value.int .i64 1)) rfl ?_)
        refine Rl.nil ?_
        refine Swp.ret ?_
        obtain rfl := Option.some.inj h
        obtain rfl := hd378 _ rfl
        replace h := g376
        try dsimp only at h
        obtain rfl := Option.some.inj h
        refine ⟨[(Value.int .i64 1)], ⟨rfl, trivial⟩, ⟨_, rfl, hL558.done, ?_⟩⟩
        exact ⟨rfl, trivial⟩
       ·
        replace h := ite_f hc560 h
        refine Swp.skip ?_
        refine Swp.pop_blk ?_
        refine Swp.region rfl ?_
        refine Rl.op (OpY.move (v := (Value.int .i64 i374)) rfl ?_)
        refine Rl.op (OpY.sub (x := i374) (y := 1) (z := (iw (i374 - 1))) rfl rfl rfl ?_)
        refine Rl.op (OpY.assign (v := (Value.int .i64 (iw (i374 - 1)))) rfl ?_)
        refine Rl.nil ?_
        obtain rfl := Option.some.inj h
        refine Swp.pop_back ⟨(iw (i374 - 1)), rfl, ?_⟩
        exact ⟨_, (upds_sym ⟨rfl, ⟨rfl, ⟨rfl, trivial⟩⟩⟩), hL558, (Keep.trans (Keep.trans (Keep.trans (Keep.trans K381 K414) K470) K503) K559), trivial⟩
   ·
    replace h := ite_f hc382 h
    refine Swp.exit rfl ?_
    obtain rfl := Option.some.inj h
    obtain rfl := hd378 _ rfl
    replace h := g376
    try dsimp only at h
    skip
    refine Swp.pop_back ?_
    exact ⟨_, rfl, (upds_sym trivial), hL380, K381, trivial⟩
  ·
   rintro _ w561 ⟨u, rfl, rfl, hL562, K563, -⟩
   replace h := g376
   try dsimp only at h
   refine Swp.seq ?_
   refine Swp.region rfl ?_
   refine Rl.op (OpY.assign (v := (Value.int .i64 0)) rfl ?_)
   refine Rl.nil ?_
   refine Swp.ret ?_
   obtain rfl := Option.some.inj h
   refine ⟨[(Value.int .i64 0)], ⟨rfl, trivial⟩, ⟨_, rfl, hL562.done, ?_⟩⟩
   exact ⟨rfl, trivial⟩
theorem bplus_w (N : Nat) (a : (List Int)) (b : (List Int)) (a_v : Value) (b_v : Value) (w : World) (S : Nat → Prop) (a_h : Rs (rInt .u32) (Hv w.heap.size S [] w) a_v a) (b_h : Rs (rInt .u32) (Hv w.heap.size S [] w) b_v b) (r : (List Int)) (h : bplus N a b = some r) :
  Calls Try.prog 74 #[a_v, b_v] w (Ret w (fun v w' => ∃ (ob0 : Option Nat) (cap0 : Nat) (cs0 : List Value) (sp0 : List Value), (osv ob0 0 (List.length r) cap0) = v ∧ NewOwn w w' [ob0] [Cont.cells ([] ++ (cs0 ++ sp0))] ∧ Els (rInt .u32) (Hv w.heap.size None [ob0] w') cs0 r ∧ (cs0 ++ sp0).length = cap0 * (rInt .u32).sz ∧ True)) := by
 unfold bplus at h
 have hL : Go.X.Loc [] [] w w [] [] := Go.X.Loc.begin0 w
 refine calls_of (l := [a_v, b_v]) (rl := [.tmp 4]) (n := 38) Try.func74 rfl rfl rfl (Nat.le_of_ble_eq_true rfl) ?_
 refine Swp.seq ?_
 refine Swp.region rfl ?_
 refine Rl.op (OpY.assign (v := (Value.slice none 0 0)) rfl ?_)
 refine Rl.nil ?_
 refine Swp.seq ?_
 refine Swp.region rfl ?_
 refine Rl.op (OpY.move (v := a_v) rfl ?_)
 refine Rl.op (OpY.lenRo (v := a_v) Try.underlying24 rfl a_h ?_)
 refine Rl.op (OpY.move (v := b_v) rfl ?_)
 refine Rl.op (OpY.lenRo (v := b_v) Try.underlying24 rfl b_h ?_)
 refine Rl.op (OpY.max (x := (List.length a : Int)) (y := (List.length b : Int)) rfl rfl ?_)
 refine Rl.op (OpY.add (x := (imax (List.length a : Int) (List.length b : Int))) (y := 1) (z := (iw ((imax (List.length a : Int) (List.length b : Int)) + 1))) rfl rfl rfl ?_)
 obtain ⟨x2, q3, h⟩ := bind_some h
 obtain ⟨m1, q4, q5, q6, q7⟩ := mk1_some q3
 refine Rl.op (OpY.mkRowX (r := (rInt .u32)) (H := (Hv w.heap.size None [] w)) (zc := [(Value.int .u32 0)]) (x := 0) Try.underlying24 ti89 rfl rfl rfl rfl q4 q5 q6 q7 hL ?_)
 intro b8 w13 cs9 hE10 hc11 (hL14 : Go.X.Loc [] [] w w13 [some b8] [Cont.cells ([] ++ (cs9 ++ []))]) hS16
 have K15 := Keep.step (s := w.heap.size) hS16
 refine Rl.op (OpY.assign (v := (osv (some b8) 0 (List.length x2) m1)) rfl ?_)
 refine Rl.nil ?_
 refine Swp.seq ?_
 refine Swp.region rfl ?_
 refine Rl.op (OpY.assign (v := (Value.int .u64 0)) rfl ?_)
 refine Rl.nil ?_
 refine Swp.seq ?_
 refine Swp.seq ?_
 refine Swp.region rfl ?_
 refine Rl.op (OpY.move (v := (osv (some b8) 0 (List.length x2) m1)) rfl ?_)
 have f17 := (hE10.mono (K15 None))
 refine Rl.op (OpY.lenRow (pre := []) (r := (rInt .u32)) (xs := x2) Try.underlying24 rfl (hL14.at 0 rfl rfl) f17 rfl rfl ?_)
 refine Rl.op (OpY.move (v := (Value.int .i64 0)) rfl ?_)
 refine Rl.nil ?_
 obtain ⟨s125, hl127, g126⟩ := bind_some h
 refine Swp.join (fun e w' => ∃ (out121 : (List Int)) (cs120 : List Value) (u : Env), out121 = s125 ∧ e = upds [(5, (osv (some b8) 0 (List.length x2) m1))] u ∧ Go.X.Loc [] [] w w' [some b8] [Cont.cells ([] ++ (cs120 ++ []))] ∧ Keep w.heap.size [some b8] w13 [some b8] w' ∧ Els (rInt .u32) (Hv w.heap.size None [some b8] w') cs120 out121 ∧ (List.length x2) = List.length out121 ∧ (cs120 ++ []).length = m1 * (rInt .u32).sz ∧ True) ?_ ?_
 ·
  refine Swp.block ?_
  refine Swp.loopM hl127 (fun (ss : ((List Int) × Int × Int)) (e : Env) (w' : World) => match ss with | (out113, carry117, x118) => ∃ (cs112 : List Value) (u : Env), e = upds [(0, a_v), (1, b_v), (5, (osv (some b8) 0 (List.length x2) m1)), (6, (Value.int .u64 carry117)), (16, (Value.int .i64 (List.length x2 : Int))), (17, (Value.int .i64 x118))] u ∧ Go.X.Loc [] [] w w' [some b8] [Cont.cells ([] ++ (cs112 ++ []))] ∧ Keep w.heap.size [some b8] w13 [some b8] w' ∧ Els (rInt .u32) (Hv w.heap.size None [some b8] w') cs112 out113 ∧ (List.length x2) = List.length out113 ∧ (cs112 ++ []).length = m1 * (rInt .u32).sz ∧ True) ⟨cs9, _, (upds_sym ⟨rfl, ⟨rfl, ⟨rfl, ⟨rfl, ⟨rfl, ⟨rfl, trivial⟩⟩⟩⟩⟩⟩), hL14, Keep.refl, f17, rfl, hc11, trivial⟩ ?_
  rintro ⟨out113, carry117, x118⟩ oo _ w129 ⟨cs112, u, rfl, hL130, K131, hE114, hl116, hc115, -⟩ h hd128
  rw [bplus_b1] at h
  refine Swp.seq ?_
  refine Swp.region rfl ?_
  refine Rl.op (OpY.lss (x := x118) (y := (List.length x2 : Int)) ((x118 : Int) < (List.length x2 : Int)) rfl rfl Iff.rfl ?_)
  refine Rl.nil ?_
  refine Swp.seq ?_
  refine Swp.cond_d ((x118 : Int) < (List.length x2 : Int)) rfl (fun hc132 => ?_) (fun hc132 => ?_)
  ·
   replace h := ite_t hc132 h
   refine Swp.skip ?_
   refine Swp.seq ?_
   refine Swp.block ?_
   refine Swp.seq ?_
   refine Swp.region rfl ?_
   refine Rl.op (OpY.move (v := (Value.int .i64 x118)) rfl ?_)
   refine Rl.op (OpY.assign (v := (Value.int .i64 x118)) rfl ?_)
   refine Rl.nil ?_
   refine Swp.seq ?_
   refine Swp.region rfl ?_
   refine Rl.op (OpY.move (v := (Value.int .u64 carry117)) rfl ?_)
   refine Rl.op (OpY.move (v := a_v) rfl ?_)
   refine Rl.op (OpY.move (v := (Value.int .i64 x118)) rfl ?_)
   obtain ⟨r133, q134, h⟩ := bind_some h
   have f136 := ((a_h.mono (K15 S)).mono (K131 S))
   refine Rl.op (OpY.call en84 rfl rfl (digit_w N a x118 a_v _ Any (f136.mono vw_any) r133 q134) ?_)
   rintro _ w137 hE140 ⟨rfl, -⟩
   have hL138 := hL130.ext hE140
   have K139 := Keep.ext (s := w.heap.size) (O := [some b8]) hE140
   refine Rl.op (OpY.move (v := b_v) rfl ?_)
   refine Rl.op (OpY.move (v := (Value.int .i64 x118)) rfl ?_)
   obtain ⟨r141, q142, h⟩ := bind_some h
   have f144 := (((b_h.mono (K15 S)).mono (K131 S)).mono (K139 S))
   refine Rl.op (OpY.call en84 rfl rfl (digit_w N b x118 b_v _ Any (f144.mono vw_any) r141 q142) ?_)
   rintro _ w145 hE148 ⟨rfl, -⟩
   have hL146 := hL138.ext hE148
   have K147 := Keep.ext (s := w.heap.size) (O := [some b8]) hE148
   refine Rl.op (OpY.add (x := r133) (y := r141) (z := (uw (r133 + r141))) rfl rfl rfl ?_)
   refine Rl.op (OpY.add (x := carry117) (y := (uw (r133 + r141))) (z := (uw (carry117 + (uw (r133 + r141))))) rfl rfl rfl ?_)
   refine Rl.op (OpY.assign (v := (Value.int .u64 (uw (carry117 + (uw (r133 + r141)))))) rfl ?_)
   refine Rl.nil ?_
   refine Swp.seq ?_
   refine Swp.region rfl ?_
   refine Rl.op (OpY.move (v := (osv (some b8) 0 (List.length x2) m1)) rfl ?_)
   refine Rl.op (OpY.move (v := (Value.int .i64 x118)) rfl ?_)
   refine Rl.op (OpY.move (v := (Value.int .u64 (uw (carry117 + (uw (r133 + r141)))))) rfl ?_)
   refine Rl.op (OpY.convInt (x := (uw (carry117 + (uw (r133 + r141))))) (z := (uw32 (uw (carry117 + (uw (r133 + r141)))))) Try.underlying93 Try.underlying89 rfl rfl ?_)
   obtain ⟨x149, q150, h⟩ := bind_some h
   obtain ⟨n151, q152, q153⟩ := idx_some q150
   have q154 := (List.getElem?_eq_some_iff.1 q153).1
   refine Rl.op (OpY.ixRowD (r := (rInt .u32)) (b := b8) (o := 0) (n := n151) (m := (List.length x2)) (xs := out113) (q := (0 + n151 * (rInt .u32).sz)) Try.underlying24 ti89 rfl hl116 rfl q152 q154 rfl ?_)
   obtain ⟨x155, q156, h⟩ := bind_some h
   obtain ⟨n157, q158, q159, q160⟩ := upd1_some q156
   obtain rfl := Int.ofNat_inj.1 (q152.symm.trans q158)
   have f161 := ((hE114.mono (K139 None)).mono (K147 None))
   refine Rl.op0 (OpY.stRowX (pre := []) (r := (rInt .u32)) (vs := [(Value.int .u32 (uw32 (uw (carry117 + (uw (r133 + r141))))))]) (a := (uw32 (uw (carry117 + (uw (r133 + r141)))))) ti89 rfl rfl rfl rfl hL146 0 rfl rfl f161 q154 rfl q160 ?_)
   have hl169 : (List.length x2) = List.length x155 := by rw [q160, List.length_set]; exact hl116
   intro w162 cs166 (hL163 : Go.X.Loc [] [] w w162 [some b8] [Cont.cells ([] ++ (cs166 ++ []))]) hS165 hE167 q168
   have hc170 : (cs166 ++ []).length = m1 * (rInt .u32).sz := by have := hc115; rw [List.length_append] at this ⊢; rw [q168]; exact this
   have K164 := Keep.step (s := w.heap.size) hS165
   refine Rl.nil ?_
   refine Swp.region rfl ?_
   refine Rl.op (OpY.move (v := (Value.int .u64 (uw (carry117 + (uw (r133 + r141)))))) rfl ?_)
   refine Rl.op (OpY.ishr (x := (uw (carry117 + (uw (r133 + r141))))) (y := 32) rfl rfl (by decide) ?_)
   refine Rl.op (OpY.assign (v := (Value.int .u64 (bshr .u64 (uw (carry117 + (uw (r133 + r141)))) 32))) rfl ?_)
   refine Rl.nil ?_
   refine Swp.pop_blk ?_
   refine Swp.region rfl ?_
   refine Rl.op (OpY.add (x := x118) (y := 1) (z := (iw (x118 + 1))) rfl rfl rfl ?_)
   refine Rl.op (OpY.move (v := (Value.int .i64 (iw (x118 + 1)))) rfl ?_)
   refine Rl.nil ?_
   have f171 := (hE167.mono (K164 None))
   obtain rfl := Option.some.inj h
   refine Swp.pop_back ⟨(x155, (bshr .u64 (uw (carry117 + (uw (r133 + r141)))) 32), (iw (x118 + 1))), rfl, ?_⟩
   exact ⟨cs166, _, (upds_sym ⟨rfl, ⟨rfl, ⟨rfl, ⟨rfl, ⟨rfl, ⟨rfl, trivial⟩⟩⟩⟩⟩⟩), hL163, (Keep.trans (Keep.trans (Keep.trans K131 K139) K147) K164), f171, hl169, hc170, trivial⟩
  ·
   replace h := ite_f hc132 h
   refine Swp.exit rfl ?_
   obtain rfl := Option.some.inj h
   obtain rfl := hd128 _ rfl
   replace h := g126
   try dsimp only at h
   skip
   refine Swp.pop_back ?_
   exact ⟨out113, cs112, _, rfl, (upds_sym ⟨rfl, trivial⟩), hL130, K131, hE114, hl116, hc115, trivial⟩
 ·
  rintro _ w172 ⟨out121, cs120, u, rfl, rfl, hL173, K174, hE122, hl124, hc123, -⟩
  replace h := g126
  try dsimp only at h
  refine Swp.seq ?_
  refine Swp.region rfl ?_
  refine Rl.op (OpY.move (v := (osv (some b8) 0 (List.length x2) m1)) rfl ?_)
  refine Rl.op (OpY.assign (v := (osv (some b8) 0 (List.length x2) m1)) rfl ?_)
  refine Rl.nil ?_
  refine Swp.ret ?_
  obtain rfl := Option.some.inj h
  refine ⟨[(osv (some b8) 0 (List.length x2) m1)], ⟨rfl, trivial⟩, ⟨_, rfl, hL173.done, ?_⟩⟩
  exact ⟨some b8, m1, cs120, [], (by rw [← hl124]; rfl), (hL173.newOwn [0] rfl rfl rfl), (hE122.mono (Hv.pick [0] rfl)), hc123, trivial⟩
theorem bminus_w (N : Nat) (a : (List Int)) (b : (List Int)) (a_v : Value) (b_v : Value) (w : World) (S : Nat → Prop) (a_h : Rs (rInt .u32) (Hv w.heap.size S [] w) a_v a) (b_h : Rs (rInt .u32) (Hv w.heap.size S [] w) b_v b) (r : (List Int)) (h : bminus N a b = some r) :
  Calls Try.prog 76 #[a_v, b_v] w (Ret w (fun v w' => ∃ (ob0 : Option Nat) (cap0 : Nat) (cs0 : List Value) (sp0 : List Value), (osv ob0 0 (List.length r) cap0) = v ∧ NewOwn w w' [ob0] [Cont.cells ([] ++ (cs0 ++ sp0))] ∧ Els (rInt .u32) (Hv w.heap.size None [ob0] w') cs0 r ∧ (cs0 ++ sp0).length = cap0 * (rInt .u32).sz ∧ True)) := by
 unfold bminus at h
 have hL : Go.X.Loc [] [] w w [] [] := Go.X.Loc.begin0 w
 refine calls_of (l := [a_v, b_v]) (rl := [.tmp 4]) (n := 37) Try.func76 rfl rfl rfl (Nat.le_of_ble_eq_true rfl) ?_
 refine Swp.seq ?_
 refine Swp.region rfl ?_
 refine Rl.op (OpY.assign (v := (Value.slice none 0 0)) rfl ?_)
 refine Rl.nil ?_
 refine Swp.seq ?_
 refine Swp.region rfl ?_
 refine Rl.op (OpY.move (v := a_v) rfl ?_)
 refine Rl.op (OpY.lenRo (v := a_v) Try.underlying24 rfl a_h ?_)
 obtain ⟨x2, q3, h⟩ := bind_some h
 obtain ⟨m1, q4, q5, q6, q7⟩ := mk1_some q3
 refine Rl.op (OpY.mkRowX (r := (rInt .u32)) (H := (Hv w.heap.size None [] w)) (zc := [(Value.int .u32 0)]) (x := 0) Try.underlying24 ti89 rfl rfl rfl rfl q4 q5 q6 q7 hL ?_)
 intro b8 w13 cs9 hE10 hc11 (hL14 : Go.X.Loc [] [] w w13 [some b8] [Cont.cells ([] ++ (cs9 ++ []))]) hS16
 have K15 := Keep.step (s := w.heap.size) hS16
 refine Rl.op (OpY.assign (v := (osv (some b8) 0 (List.length x2) m1)) rfl ?_)
 refine Rl.nil ?_
 refine Swp.seq ?_
 refine Swp.region rfl ?_
 refine Rl.op (OpY.assign (v := (Value.int .u64 0)) rfl ?_)
 refine Rl.nil ?_
 refine Swp.seq ?_
 refine Swp.seq ?_
 refine Swp.region rfl ?_
 refine Rl.op (OpY.move (v := a_v) rfl ?_)
 have f17 := (a_h.mono (K15 S))
 refine Rl.op (OpY.lenRo (v := a_v) Try.underlying24 rfl f17 ?_)
 refine Rl.op (OpY.move (v := (Value.int .i64 0)) rfl ?_)
 refine Rl.nil ?_
 obtain ⟨s275, hl277, g276⟩ := bind_some h
 refine Swp.join (fun e w' => ∃ (out271 : (List Int)) (cs270 : List Value) (u : Env), out271 = s275 ∧ e = upds [(5, (osv (some b8) 0 (List.length x2) m1))] u ∧ Go.X.Loc [] [] w w' [some b8] [Cont.cells ([] ++ (cs270 ++ []))] ∧ Keep w.heap.size [some b8] w13 [some b8] w' ∧ Els (rInt .u32) (Hv w.heap.size None [some b8] w') cs270 out271 ∧ (List.length x2) = List.length out271 ∧ (cs270 ++ []).length = m1 * (rInt .u32).sz ∧ True) ?_ ?_
 ·
  refine Swp.block ?_
  have f279 := (hE10.mono (K15 None))
  refine Swp.loopM hl277 (fun (ss : ((List Int) × Int × Int)) (e : Env) (w' : World) => match ss with | (out263, borrow267, x268) => ∃ (cs262 : List Value) (u : Env), e = upds [(0, a_v), (1, b_v), (5, (osv (some b8) 0 (List.length x2) m1)), (6, (Value.int .u64 borrow267)), (13, (Value.int .i64 (List.length a : Int))), (14, (Value.int .i64 x268))] u ∧ Go.X.Loc [] [] w w' [some b8] [Cont.cells ([] ++ (cs262 ++ []))] ∧ Keep w.heap.size [some b8] w13 [some b8] w' ∧ Els (rInt .u32) (Hv w.heap.size None [some b8] w') cs262 out263 ∧ (List.length x2) = List.length out263 ∧ (cs262 ++ []).length = m1 * (rInt .u32).sz ∧ True) ⟨cs9, _, (upds_sym ⟨rfl, ⟨rfl, ⟨rfl, ⟨rfl, ⟨rfl, ⟨rfl, trivial⟩⟩⟩⟩⟩⟩), hL14, Keep.refl, f279, rfl, hc11, trivial⟩ ?_
  rintro ⟨out263, borrow267, x268⟩ oo _ w280 ⟨cs262, u, rfl, hL281, K282, hE264, hl266, hc265, -⟩ h hd278
  rw [bminus_b1] at h
  refine Swp.seq ?_
  refine Swp.region rfl ?_
  refine Rl.op (OpY.lss (x := x268) (y := (List.length a : Int)) ((x268 : Int) < (List.length a : Int)) rfl rfl Iff.rfl ?_)
  refine Rl.nil ?_
  refine Swp.seq ?_
  refine Swp.cond_d ((x268 : Int) < (List.length a : Int)) rfl (fun hc283 => ?_) (fun hc283 => ?_)
  ·
   replace h := ite_t hc283 h
   refine Swp.skip ?_
   refine Swp.seq ?_
   refine Swp.block ?_
   refine Swp.seq ?_
   refine Swp.region rfl ?_
   refine Rl.op (OpY.move (v := (Value.int .i64 x268)) rfl ?_)
   refine Rl.op (OpY.assign (v := (Value.int .i64 x268)) rfl ?_)
   refine Rl.nil ?_
   refine Swp.seq ?_
   obtain ⟨x284, q285, h⟩ := bind_some h
   obtain ⟨n286, q287, q288⟩ := idx_some q285
   have f297 := (f17.mono (K282 S))
   obtain ⟨b289, o290, c291, vs292, q293, q294, f295, q296⟩ := Rs.get f297 q288
   obtain rfl := q296
   obtain ⟨r298, q299, h⟩ := bind_some h
   refine Swp.drawL 10 [] [] (fun W1 => [.det a_v, .det (Value.int .i64 x268), .det (Value.pointer (some ⟨b289, (o290 + n286 * (rInt .u32).sz), none⟩)), .det (Value.int .u32 x284), .det (Value.int .u64 (uw x284)), .det b_v, .det (Value.int .i64 x268), .det (Value.int .u64 r298), .det (Value.int .u64 (uw ((uw x284) - r298))), .det (Value.int .u64 borrow267)]) mixed rfl rfl rfl (fun _ => rfl) (fun _ => rfl) ?_ ?_
   ·
    intro W1 _
    exact trivial
   ·
    intro w301 hE302
    have hL303 := hL281.ext hE302
    have K304 := Keep.ext (s := w.heap.size) (O := [some b8]) hE302
    refine DrH.det ?_ ?_
    ·
     rintro w305 Z306 hE307 hZ308 ⟨-⟩
     refine GOp.op (OpY.move (v := a_v) rfl ?_)
     exact ⟨Ext.refl _, rfl⟩
    refine DrH.det ?_ ?_
    ·
     rintro w311 Z312 hE313 hZ314 ⟨-⟩
     refine GOp.op (OpY.move (v := (Value.int .i64 x268)) rfl ?_)
     exact ⟨Ext.refl _, rfl⟩
    refine DrH.det ?_ ?_
    ·
     rintro w317 Z318 hE319 hZ320 ⟨-⟩
     refine GOp.op (OpY.ixRoD (r := (rInt .u32)) (v := a_v) (n := n286) (m := (o290 + n286 * (rInt .u32).sz)) Try.underlying24 ti89 rfl q293 rfl q287 q288 rfl ?_)
     exact ⟨Ext.refl _, rfl⟩
    refine DrH.det ?_ ?_
    ·
     rintro w323 Z324 hE325 hZ326 ⟨-⟩
     have K328 := Keep.ext (s := w.heap.size) (O := [some b8]) hE325
     refine GOp.op (OpY.ldRo1 (v := (Value.int .u32 x284)) Try.underlying89 rfl rfl vw_view (At.mono (K328 S) (At.mono (K304 S) f295)) ?_)
     exact ⟨Ext.refl _, rfl⟩
    refine DrH.det ?_ ?_
    ·
     rintro w329 Z330 hE331 hZ332 ⟨-⟩
     refine GOp.op (OpY.convInt (x := x284) (z := (uw x284)) Try.underlying89 Try.underlying93 rfl rfl ?_)
     exact ⟨Ext.refl _, rfl⟩
    refine DrH.det ?_ ?_
    ·
     rintro w335 Z336 hE337 hZ338 ⟨-⟩
     refine GOp.op (OpY.move (v := b_v) rfl ?_)
     exact ⟨Ext.refl _, rfl⟩
    refine DrH.det ?_ ?_
    ·
     rintro w341 Z342 hE343 hZ344 ⟨-⟩
     refine GOp.op (OpY.move (v := (Value.int .i64 x268)) rfl ?_)
     exact ⟨Ext.refl _, rfl⟩
    refine DrH.det ?_ ?_
    ·
     rintro w347 Z348 hE349 hZ350 ⟨-⟩
     have K352 := Keep.ext (s := w.heap.size) (O := [some b8]) hE349
     refine GOp.op (OpY.call en84 rfl rfl (digit_w N b x268 b_v _ Any (((((b_h.mono (K15 S)).mono (K282 S)).mono (K304 S)).mono (K352 S)).mono vw_any) r298 q299) ?_)
     rintro _ w353 hE354 ⟨rfl, -⟩
     exact ⟨hE354, rfl⟩
    refine DrH.det ?_ ?_
    ·
     rintro w355 Z356 hE357 hZ358 ⟨-⟩
     refine GOp.op (OpY.sub (x := (uw x284)) (y := r298) (z := (uw ((uw x284) - r298))) rfl rfl rfl ?_)
     exact ⟨Ext.refl _, rfl⟩
    refine DrH.det ?_ ?_
    ·
     rintro w361 Z362 hE363 hZ364 ⟨-⟩
     refine GOp.op (OpY.move (v := (Value.int .u64 borrow267)) rfl ?_)
     exact ⟨Ext.refl _, rfl⟩
    refine DrH.fin0 ?_
    rintro w367 Z368 hE369 hZ370 ⟨-⟩ ap371
    have hB372 : ∀ b, some b ∈ ([] : List (Option Nat)) → w301.heap.size ≤ b ∧ ¬ Z368 b := by
     intro b hb; cases hb
    have hL373 := hL303.ext hE369
    have K374 := Keep.ext (s := w.heap.size) (O := [some b8]) hE369
    refine Rl.op (OpY.sub (x := (uw ((uw x284) - r298))) (y := borrow267) (z := (uw ((uw ((uw x284) - r298)) - borrow267))) rfl rfl rfl ?_)
    refine Rl.op (OpY.assign (v := (Value.int .u64 (uw ((uw ((uw x284) - r298)) - borrow267)))) rfl ?_)
    refine Rl.nil ?_
    refine Swp.seq ?_
    refine Swp.region rfl ?_
    refine Rl.op (OpY.move (v := (osv (some b8) 0 (List.length x2) m1)) rfl ?_)
    refine Rl.op (OpY.move (v := (Value.int .i64 x268)) rfl ?_)
    refine Rl.op (OpY.move (v := (Value.int .u64 (uw ((uw ((uw x284) - r298)) - borrow267)))) rfl ?_)
    refine Rl.op (OpY.convInt (x := (uw ((uw ((uw x284) - r298)) - borrow267))) (z := (uw32 (uw ((uw ((uw x284) - r298)) - borrow267)))) Try.underlying93 Try.underlying89 rfl rfl ?_)
    obtain ⟨x375, q376, h⟩ := bind_some h
    obtain ⟨n377, q378, q379⟩ := idx_some q376
    have q380 := (List.getElem?_eq_some_iff.1 q379).1
    refine Rl.op (OpY.ixRowD (r := (rInt .u32)) (b := b8) (o := 0) (n := n377) (m := (List.length x2)) (xs := out263) (q := (0 + n377 * (rInt .u32).sz)) Try.underlying24 ti89 rfl hl266 rfl q378 q380 rfl ?_)
    obtain ⟨x381, q382, h⟩ := bind_some h
    obtain ⟨n383, q384, q385, q386⟩ := upd1_some q382
    obtain rfl := Int.ofNat_inj.1 (q378.symm.trans q384)
    have f387 := ((hE264.mono (K304 None)).mono (K374 None))
    refine Rl.op0 (OpY.stRowX (pre := []) (r := (rInt .u32)) (vs := [(Value.int .u32 (uw32 (uw ((uw ((uw x284) - r298)) - borrow267))))]) (a := (uw32 (uw ((uw ((uw x284) - r298)) - borrow267)))) ti89 rfl rfl rfl rfl hL373 0 rfl rfl f387 q380 rfl q386 ?_)
    have hl395 : (List.length x2) = List.length x381 := by rw [q386, List.length_set]; exact hl266
    intro w388 cs392 (hL389 : Go.X.Loc [] [] w w388 [some b8] [Cont.cells ([] ++ (cs392 ++ []))]) hS391 hE393 q394
    have hc396 : (cs392 ++ []).length = m1 * (rInt .u32).sz := by have := hc265; rw [List.length_append] at this ⊢; rw [q394]; exact this
    have K390 := Keep.step (s := w.heap.size) hS391
    refine Rl.nil ?_
    refine Swp.region rfl ?_
    refine Rl.op (OpY.move (v := (Value.int .u64 (uw ((uw ((uw x284) - r298)) - borrow267)))) rfl ?_)
    refine Rl.op (OpY.ishr (x := (uw ((uw ((uw x284) - r298)) - borrow267))) (y := 63) rfl rfl (by decide) ?_)
    refine Rl.op (OpY.assign (v := (Value.int .u64 (bshr .u64 (uw ((uw ((uw x284) - r298)) - borrow267)) 63))) rfl ?_)
    refine Rl.nil ?_
    refine Swp.pop_blk ?_
    refine Swp.region rfl ?_
    refine Rl.op (OpY.add (x := x268) (y := 1) (z := (iw (x268 + 1))) rfl rfl rfl ?_)
    refine Rl.op (OpY.move (v := (Value.int .i64 (iw (x268 + 1)))) rfl ?_)
    refine Rl.nil ?_
    have f397 := (hE393.mono (K390 None))
    obtain rfl := Option.some.inj h
    refine Swp.pop_back ⟨(x381, (bshr .u64 (uw ((uw ((uw x284) - r298)) - borrow267)) 63), (iw (x268 + 1))), rfl, ?_⟩
    exact ⟨cs392, _, (upds_sym ⟨rfl, ⟨rfl, ⟨rfl, ⟨rfl, ⟨rfl, ⟨rfl, trivial⟩⟩⟩⟩⟩⟩), hL389, (Keep.trans (Keep.trans (Keep.trans K282 K304) K374) K390), f397, hl395, hc396, trivial⟩
  ·
   replace h := ite_f hc283 h
   refine Swp.exit rfl ?_
   obtain rfl := Option.some.inj h
   obtain rfl := hd278 _ rfl
   replace h := g276
   try dsimp only at h
   skip
   refine Swp.pop_back ?_
   exact ⟨out263, cs262, _, rfl, (upds_sym ⟨rfl, trivial⟩), hL281, K282, hE264, hl266, hc265, trivial⟩
 ·
  rintro _ w398 ⟨out271, cs270, u, rfl, rfl, hL399, K400, hE272, hl274, hc273, -⟩
  replace h := g276
  try dsimp only at h
  refine Swp.seq ?_
  refine Swp.region rfl ?_
  refine Rl.op (OpY.move (v := (osv (some b8) 0 (List.length x2) m1)) rfl ?_)
  refine Rl.op (OpY.assign (v := (osv (some b8) 0 (List.length x2) m1)) rfl ?_)
  refine Rl.nil ?_
  refine Swp.ret ?_
  obtain rfl := Option.some.inj h
  refine ⟨[(osv (some b8) 0 (List.length x2) m1)], ⟨rfl, trivial⟩, ⟨_, rfl, hL399.done, ?_⟩⟩
  exact ⟨some b8, m1, cs270, [], (by rw [← hl274]; rfl), (hL399.newOwn [0] rfl rfl rfl), (hE272.mono (Hv.pick [0] rfl)), hc273, trivial⟩
theorem btimes_w (N : Nat) (a : (List Int)) (b : (List Int)) (a_v : Value) (b_v : Value) (w : World) (S : Nat → Prop) (a_h : Rs (rInt .u32) (Hv w.heap.size S [] w) a_v a) (b_h : Rs (rInt .u32) (Hv w.heap.size S [] w) b_v b) (r : (List Int)) (h : btimes N a b = some r) :
  Calls Try.prog 77 #[a_v, b_v] w (Ret w (fun v w' => ∃ (ob0 : Option Nat) (cap0 : Nat) (cs0 : List Value) (sp0 : List Value), (osv ob0 0 (List.length r) cap0) = v ∧ NewOwn w w' [ob0] [Cont.cells ([] ++ (cs0 ++ sp0))] ∧ Els (rInt .u32) (Hv w.heap.size None [ob0] w') cs0 r ∧ (cs0 ++ sp0).length = cap0 * (rInt .u32).sz ∧ True)) := by
 unfold btimes at h
 have hL : Go.X.Loc [] [] w w [] [] := Go.X.Loc.begin0 w
 refine calls_of (l := [a_v, b_v]) (rl := [.tmp 4]) (n := 66) Try.func77 rfl rfl rfl (Nat.le_of_ble_eq_true rfl) ?_
 refine Swp.seq ?_
 refine Swp.region rfl ?_
 refine Rl.op (OpY.assign (v := (Value.slice none 0 0)) rfl ?_)
 refine Rl.nil ?_
 refine Swp.seq ?_
 refine Swp.region rfl ?_
 refine Rl.op (OpY.move (v := a_v) rfl ?_)
 refine Rl.op (OpY.lenRo (v := a_v) Try.underlying24 rfl a_h ?_)
 refine Rl.op (OpY.move (v := b_v) rfl ?_)
 refine Rl.op (OpY.lenRo (v := b_v) Try.underlying24 rfl b_h ?_)
 refine Rl.op (OpY.add (x := (List.length a : Int)) (y := (List.length b : Int)) (z := (iw ((List.length a : Int) + (List.length b : Int)))) rfl rfl rfl ?_)
 obtain ⟨x2, q3, h⟩ := bind_some h
 obtain ⟨m1, q4, q5, q6, q7⟩ := mk1_some q3
 refine Rl.op (OpY.mkRowX (r := (rInt .u32)) (H := (Hv w.heap.size None [] w)) (zc := [(Value.int .u32 0)]) (x := 0) Try.underlying24 ti89 rfl rfl rfl rfl q4 q5 q6 q7 hL ?_)
 intro b8 w13 cs9 hE10 hc11 (hL14 : Go.X.Loc [] [] w w13 [some b8] [Cont.cells ([] ++ (cs9 ++ []))]) hS16
 have K15 := Keep.step (s := w.heap.size) hS16
 refine Rl.op (OpY.assign (v := (osv (some b8) 0 (List.length x2) m1)) rfl ?_)
 refine Rl.nil ?_
 refine Swp.seq ?_
 refine Swp.seq ?_
 refine Swp.region rfl ?_
 refine Rl.op (OpY.move (v := a_v) rfl ?_)
 have f17 := (a_h.mono (K15 S))
 refine Rl.op (OpY.lenRo (v := a_v) Try.underlying24 rfl f17 ?_)
 refine Rl.op (OpY.move (v := (Value.int .i64 0)) rfl ?_)
 refine Rl.nil ?_
 obtain ⟨s482, hl484, g483⟩ := bind_some h
 refine Swp.join (fun e w' => ∃ (out478 : (List Int)) (cs477 : List Value) (u : Env), out478 = s482 ∧ e = upds [(5, (osv (some b8) 0 (List.length x2) m1))] u ∧ Go.X.Loc [] [] w w' [some b8] [Cont.cells ([] ++ (cs477 ++ []))] ∧ Keep w.heap.size [some b8] w13 [some b8] w' ∧ Els (rInt .u32) (Hv w.heap.size None [some b8] w') cs477 out478 ∧ (List.length x2) = List.length out478 ∧ (cs477 ++ []).length = m1 * (rInt .u32).sz ∧ True) ?_ ?_
 ·
  refine Swp.block ?_
  have f486 := (hE10.mono (K15 None))
  refine Swp.loopM hl484 (fun (ss : ((List Int) × Int)) (e : Env) (w' : World) => match ss with | (out471, x475) => ∃ (cs470 : List Value) (u : Env), e = upds [(1, b_v), (5, (osv (some b8) 0 (List.length x2) m1)), (17, a_v), (18, (Value.int .i64 (List.length a : Int))), (19, (Value.int .i64 x475))] u ∧ Go.X.Loc [] [] w w' [some b8] [Cont.cells ([] ++ (cs470 ++ []))] ∧ Keep w.heap.size [some b8] w13 [some b8] w' ∧ Els (rInt .u32) (Hv w.heap.size None [some b8] w') cs470 out471 ∧ (List.length x2) = List.length out471 ∧ (cs470 ++ []).length = m1 * (rInt .u32).sz ∧ True) ⟨cs9, _, (upds_sym ⟨rfl, ⟨rfl, ⟨rfl, ⟨rfl, ⟨rfl, trivial⟩⟩⟩⟩⟩), hL14, Keep.refl, f486, rfl, hc11, trivial⟩ ?_
  rintro ⟨out471, x475⟩ oo _ w487 ⟨cs470, u, rfl, hL488, K489, hE472, hl474, hc473, -⟩ h hd485
  rw [btimes_b1] at h
  refine Swp.seq ?_
  refine Swp.region rfl ?_
  refine Rl.op (OpY.lss (x := x475) (y := (List.length a : Int)) ((x475 : Int) < (List.length a : Int)) rfl rfl Iff.rfl ?_)
  refine Rl.nil ?_
  refine Swp.seq ?_
  refine Swp.cond_d ((x475 : Int) < (List.length a : Int)) rfl (fun hc490 => ?_) (fun hc490 => ?_)
  ·
   replace h := ite_t hc490 h
   refine Swp.skip ?_
   refine Swp.seq ?_
   refine Swp.block ?_
   refine Swp.seq ?_
   refine Swp.region rfl ?_
   refine Rl.op (OpY.move (v := (Value.int .i64 x475)) rfl ?_)
   obtain ⟨x491, q492, h⟩ := bind_some h
   obtain ⟨n493, q494, q495⟩ := idx_some q492
   have f504 := (f17.mono (K489 S))
   obtain ⟨b496, o497, c498, vs499, q500, q501, f502, q503⟩ := Rs.get f504 q495
   obtain rfl := q503
   refine Rl.op (OpY.ixRoD (r := (rInt .u32)) (v := a_v) (n := n493) (m := (o497 + n493 * (rInt .u32).sz)) Try.underlying24 ti89 rfl q500 rfl q494 q495 rfl ?_)
   refine Rl.op (OpY.ldRo1 (v := (Value.int .u32 x491)) Try.underlying89 rfl rfl vw_view f502 ?_)
   refine Rl.op (OpY.assign (v := (Value.int .i64 x475)) rfl ?_)
   refine Rl.op (OpY.assign (v := (Value.int .u32 x491)) rfl ?_)
   refine Rl.nil ?_
   refine Swp.seq ?_
   refine Swp.region rfl ?_
   refine Rl.op (OpY.assign (v := (Value.int .u64 0)) rfl ?_)
   refine Rl.nil ?_
   refine Swp.seq ?_
   refine Swp.seq ?_
   refine Swp.region rfl ?_
   refine Rl.op (OpY.move (v := b_v) rfl ?_)
   have f505 := ((b_h.mono (K15 S)).mono (K489 S))
   refine Rl.op (OpY.lenRo (v := b_v) Try.underlying24 rfl f505 ?_)
   refine Rl.op (OpY.move (v := (Value.int .i64 0)) rfl ?_)
   refine Rl.nil ?_
   obtain ⟨s629, hl631, g630⟩ := bind_some h
   refine Swp.join (fun e w' => ∃ (out624 : (List Int)) (carry628 : Int) (cs623 : List Value) (u : Env), (out624, carry628) = s629 ∧ e = upds [(1, b_v), (5, (osv (some b8) 0 (List.length x2) m1)), (6, (Value.int .i64 x475)), (8, (Value.int .u64 carry628)), (17, a_v), (18, (Value.int .i64 (List.length a : Int))), (19, (Value.int .i64 x475))] u ∧ Go.X.Loc [] [] w w' [some b8] [Cont.cells ([] ++ (cs623 ++ []))] ∧ Keep w.heap.size [some b8] w487 [some b8] w' ∧ Els (rInt .u32) (Hv w.heap.size None [some b8] w') cs623 out624 ∧ (List.length x2) = List.length out624 ∧ (cs623 ++ []).length = m1 * (rInt .u32).sz ∧ True) ?_ ?_
   ·
    refine Swp.block ?_
    refine Swp.loopM hl631 (fun (ss : ((List Int) × Int × Int)) (e : Env) (w' : World) => match ss with | (out616, carry620, x621) => ∃ (cs615 : List Value) (u : Env), e = upds [(1, b_v), (5, (osv (some b8) 0 (List.length x2) m1)), (6, (Value.int .i64 x475)), (7, (Value.int .u32 x491)), (8, (Value.int .u64 carry620)), (17, a_v), (18, (Value.int .i64 (List.length a : Int))), (19, (Value.int .i64 x475)), (24, b_v), (25, (Value.int .i64 (List.length b : Int))), (26, (Value.int .i64 x621))] u ∧ Go.X.Loc [] [] w w' [some b8] [Cont.cells ([] ++ (cs615 ++ []))] ∧ Keep w.heap.size [some b8] w487 [some b8] w' ∧ Els (rInt .u32) (Hv w.heap.size None [some b8] w') cs615 out616 ∧ (List.length x2) = List.length out616 ∧ (cs615 ++ []).length = m1 * (rInt .u32).sz ∧ True) ⟨cs470, _, (upds_sym ⟨rfl, ⟨rfl, ⟨rfl, ⟨rfl, ⟨rfl, ⟨rfl, ⟨rfl, ⟨rfl, ⟨rfl, ⟨rfl, ⟨rfl, trivial⟩⟩⟩⟩⟩⟩⟩⟩⟩⟩⟩), hL488, Keep.refl, hE472, hl474, hc473, trivial⟩ ?_
    rintro ⟨out616, carry620, x621⟩ oo _ w633 ⟨cs615, u, rfl, hL634, K635, hE617, hl619, hc618, -⟩ h hd632
    rw [btimes_b2] at h
    refine Swp.seq ?_
    refine Swp.region rfl ?_
    refine Rl.op (OpY.lss (x := x621) (y := (List.length b : Int)) ((x621 : Int) < (List.length b : Int)) rfl rfl Iff.rfl ?_)
    refine Rl.nil ?_
    refine Swp.seq ?_
    refine Swp.cond_d ((x621 : Int) < (List.length b : Int)) rfl (fun hc636 => ?_) (fun hc636 => ?_)
    ·
     replace h := ite_t hc636 h
     refine Swp.skip ?_
     refine Swp.seq ?_
     refine Swp.block ?_
     refine Swp.seq ?_
     refine Swp.region rfl ?_
     refine Rl.op (OpY.move (v := (Value.int .i64 x621)) rfl ?_)
     obtain ⟨x637, q638, h⟩ := bind_some h
     obtain ⟨n639, q640, q641⟩ := idx_some q638
     have f650 := (f505.mono (K635 S))
     obtain ⟨b642, o643, c644, vs645, q646, q647, f648, q649⟩ := Rs.get f650 q641
     obtain rfl := q649
     refine Rl.op (OpY.ixRoD (r := (rInt .u32)) (v := b_v) (n := n639) (m := (o643 + n639 * (rInt .u32).sz)) Try.underlying24 ti89 rfl q646 rfl q640 q641 rfl ?_)
     refine Rl.op (OpY.ldRo1 (v := (Value.int .u32 x637)) Try.underlying89 rfl rfl vw_view f648 ?_)
     refine Rl.op (OpY.assign (v := (Value.int .i64 x621)) rfl ?_)
     refine Rl.op (OpY.assign (v := (Value.int .u32 x637)) rfl ?_)
     refine Rl.nil ?_
     refine Swp.seq ?_
     refine Swp.region rfl ?_
     refine Rl.op (OpY.move (v := (Value.int .u64 carry620)) rfl ?_)
     refine Rl.op (OpY.move (v := (Value.int .u32 x491)) rfl ?_)
     refine Rl.op (OpY.convInt (x := x491) (z := (uw x491)) Try.underlying89 Try.underlying93 rfl rfl ?_)
     refine Rl.op (OpY.move (v := (Value.int .u32 x637)) rfl ?_)
     refine Rl.op (OpY.convInt (x := x637) (z := (uw x637)) Try.underlying89 Try.underlying93 rfl rfl ?_)
     refine Rl.op (OpY.mul (x := (uw x491)) (y := (uw x637)) (z := (uw ((uw x491) * (uw x637)))) rfl rfl rfl ?_)
     refine Rl.op (OpY.move (v := (osv (some b8) 0 (List.length x2) m1)) rfl ?_)
     refine Rl.op (OpY.move (v := (Value.int .i64 x475)) rfl ?_)
     refine Rl.op (OpY.move (v := (Value.int .i64 x621)) rfl ?_)
     refine Rl.op (OpY.add (x := x475) (y := x621) (z := (iw (x475 + x621))) rfl rfl rfl ?_)
     obtain ⟨x651, q652, h⟩ := bind_some h
     obtain ⟨n653, q654, q655⟩ := idx_some q652
     have q656 := (List.getElem?_eq_some_iff.1 q655).1
     refine Rl.op (OpY.ixRowD (r := (rInt .u32)) (b := b8) (o := 0) (n := n653) (m := (List.length x2)) (xs := out616) (q := (0 + n653 * (rInt .u32).sz)) Try.underlying24 ti89 rfl hl619 rfl q654 q656 rfl ?_)
     obtain ⟨vs657, q658, q659, q660⟩ := row_elem (pre := []) (sp := []) hE617 q655
     obtain rfl := q659
     refine Rl.op (OpY.ldElem1 (v := (Value.int .u32 x651)) Try.underlying89 rfl rfl (hL634.at 0 rfl rfl) q660 ?_)
     refine Rl.op (OpY.convInt (x := x651) (z := (uw x651)) Try.underlying89 Try.underlying93 rfl rfl ?_)
     refine Rl.op (OpY.add (x := (uw ((uw x491) * (uw x637)))) (y := (uw x651)) (z := (uw ((uw ((uw x491) * (uw x637))) + (uw x651)))) rfl rfl rfl ?_)
     refine Rl.op (OpY.add (x := carry620) (y := (uw ((uw ((uw x491) * (uw x637))) + (uw x651)))) (z := (uw (carry620 + (uw ((uw ((uw x491) * (uw x637))) + (uw x651)))))) rfl rfl rfl ?_)
     refine Rl.op (OpY.assign (v := (Value.int .u64 (uw (carry620 + (uw ((uw ((uw x491) * (uw x637))) + (uw x651))))))) rfl ?_)
     refine Rl.nil ?_
     refine Swp.seq ?_
     refine Swp.region rfl ?_
     refine Rl.op (OpY.move (v := (osv (some b8) 0 (List.length x2) m1)) rfl ?_)
     refine Rl.op (OpY.move (v := (Value.int .i64 x475)) rfl ?_)
     refine Rl.op (OpY.move (v := (Value.int .i64 x621)) rfl ?_)
     refine Rl.op (OpY.add (x := x475) (y := x621) (z := (iw (x475 + x621))) rfl rfl rfl ?_)
     refine Rl.op (OpY.move (v := (Value.int .u64 (uw (carry620 + (uw ((uw ((uw x491) * (uw x637))) + (uw x651))))))) rfl ?_)
     refine Rl.op (OpY.convInt (x := (uw (carry620 + (uw ((uw ((uw x491) * (uw x637))) + (uw x651)))))) (z := (uw32 (uw (carry620 + (uw ((uw ((uw x491) * (uw x637))) + (uw x651))))))) Try.underlying93 Try.underlying89 rfl rfl ?_)
     obtain ⟨x661, q662, h⟩ := bind_some h
     obtain ⟨n663, q664, q665⟩ := idx_some q662
     have q666 := (List.getElem?_eq_some_iff.1 q665).1
     refine Rl.op (OpY.ixRowD (r := (rInt .u32)) (b := b8) (o := 0) (n := n663) (m := (List.length x2)) (xs := out616) (q := (0 + n663 * (rInt .u32).sz)) Try.underlying24 ti89 rfl hl619 rfl q664 q666 rfl ?_)
     obtain ⟨x667, q668, h⟩ := bind_some h
     obtain ⟨n669, q670, q671, q672⟩ := upd1_some q668
     obtain rfl := Int.ofNat_inj.1 (q664.symm.trans q670)
     refine Rl.op0 (OpY.stRowX (pre := []) (r := (rInt .u32)) (vs := [(Value.int .u32 (uw32 (uw (carry620 + (uw ((uw ((uw x491) * (uw x637))) + (uw x651)))))))]) (a := (uw32 (uw (carry620 + (uw ((uw ((uw x491) * (uw x637))) + (uw x651))))))) ti89 rfl rfl rfl rfl hL634 0 rfl rfl hE617 q666 rfl q672 ?_)
     have hl680 : (List.length x2) = List.length x667 := by rw [q672, List.length_set]; exact hl619
     intro w673 cs677 (hL674 : Go.X.Loc [] [] w w673 [some b8] [Cont.cells ([] ++ (cs677 ++ []))]) hS676 hE678 q679
     have hc681 : (cs677 ++ []).length = m1 * (rInt .u32).sz := by have := hc618; rw [List.length_append] at this ⊢; rw [q679]; exact this
     have K675 := Keep.step (s := w.heap.size) hS676
     refine Rl.nil ?_
     refine Swp.region rfl ?_
     refine Rl.op (OpY.move (v := (Value.int .u64 (uw (carry620 + (uw ((uw ((uw x491) * (uw x637))) + (uw x651))))))) rfl ?_)
     refine Rl.op (OpY.ishr (x := (uw (carry620 + (uw ((uw ((uw x491) * (uw x637))) + (uw x651)))))) (y := 32) rfl rfl (by decide) ?_)
     refine Rl.op (OpY.assign (v := (Value.int .u64 (bshr .u64 (uw (carry620 + (uw ((uw ((uw x491) * (uw x637))) + (uw x651))))) 32))) rfl ?_)
     refine Rl.nil ?_
     refine Swp.pop_blk ?_
     refine Swp.region rfl ?_
     refine Rl.op (OpY.add (x := x621) (y := 1) (z := (iw (x621 + 1))) rfl rfl rfl ?_)
     refine Rl.op (OpY.move (v := (Value.int .i64 (iw (x621 + 1)))) rfl ?_)
     refine Rl.nil ?_
     have f682 := (hE678.mono (K675 None))
     obtain rfl := Option.some.inj h
     refine Swp.pop_back ⟨(x667, (bshr .u64 (uw (carry620 + (uw ((uw ((uw x491) * (uw x637))) + (uw x651))))) 32), (iw (x621 + 1))), rfl, ?_⟩
     exact ⟨cs677, _, (upds_sym ⟨rfl, ⟨rfl, ⟨rfl, ⟨rfl, ⟨rfl, ⟨rfl, ⟨rfl, ⟨rfl, ⟨rfl, ⟨rfl, ⟨rfl, trivial⟩⟩⟩⟩⟩⟩⟩⟩⟩⟩⟩), hL674, (Keep.trans K635 K675), f682, hl680, hc681, trivial⟩
    ·
     replace h := ite_f hc636 h
     refine Swp.exit rfl ?_
     obtain rfl := Option.some.inj h
     obtain rfl := hd632 _ rfl
     replace h := g630
     try dsimp only at h
     skip
     refine Swp.pop_back ?_
     exact ⟨out616, carry620, cs615, _, rfl, (upds_sym ⟨rfl, ⟨rfl, ⟨rfl, ⟨rfl, ⟨rfl, ⟨rfl, ⟨rfl, trivial⟩⟩⟩⟩⟩⟩⟩), hL634, K635, hE617, hl619, hc618, trivial⟩
   ·
    rintro _ w683 ⟨out624, carry628, cs623, u, rfl, rfl, hL684, K685, hE625, hl627, hc626, -⟩
    replace h := g630
    try dsimp only at h
    refine Swp.region rfl ?_
    refine Rl.op (OpY.move (v := (osv (some b8) 0 (List.length x2) m1)) rfl ?_)
    refine Rl.op (OpY.move (v := (Value.int .i64 x475)) rfl ?_)
    refine Rl.op (OpY.move (v := b_v) rfl ?_)
    have f686 := (f505.mono (K685 S))
    refine Rl.op (OpY.lenRo (v := b_v) Try.underlying24 rfl f686 ?_)
    refine Rl.op (OpY.add (x := x475) (y := (List.length b : Int)) (z := (iw (x475 + (List.length b : Int)))) rfl rfl rfl ?_)
    refine Rl.op (OpY.move (v := (Value.int .u64 carry628)) rfl ?_)
    refine Rl.op (OpY.convInt (x := carry628) (z := (uw32 carry628)) Try.underlying93 Try.underlying89 rfl rfl ?_)
    obtain ⟨x687, q688, h⟩ := bind_some h
    obtain ⟨n689, q690, q691⟩ := idx_some q688
    have q692 := (List.getElem?_eq_some_iff.1 q691).1
    refine Rl.op (OpY.ixRowD (r := (rInt .u32)) (b := b8) (o := 0) (n := n689) (m := (List.length x2)) (xs := out624) (q := (0 + n689 * (rInt .u32).sz)) Try.underlying24 ti89 rfl hl627 rfl q690 q692 rfl ?_)
    obtain ⟨x693, q694, h⟩ := bind_some h
    obtain ⟨n695, q696, q697, q698⟩ := upd1_some q694
    obtain rfl := Int.ofNat_inj.1 (q690.symm.trans q696)
    refine Rl.op0 (OpY.stRowX (pre := []) (r := (rInt .u32)) (vs := [(Value.int .u32 (uw32 carry628))]) (a := (uw32 carry628)) ti89 rfl rfl rfl rfl hL684 0 rfl rfl hE625 q692 rfl q698 ?_)
    have hl706 : (List.length x2) = List.length x693 := by rw [q698, List.length_set]; exact hl627
    intro w699 cs703 (hL700 : Go.X.Loc [] [] w w699 [some b8] [Cont.cells ([] ++ (cs703 ++ []))]) hS702 hE704 q705
    have hc707 : (cs703 ++ []).length = m1 * (rInt .u32).sz := by have := hc626; rw [List.length_append] at this ⊢; rw [q705]; exact this
    have K701 := Keep.step (s := w.heap.size) hS702
    refine Rl.nil ?_
    refine Swp.pop_blk ?_
    refine Swp.region rfl ?_
    refine Rl.op (OpY.add (x := x475) (y := 1) (z := (iw (x475 + 1))) rfl rfl rfl ?_)
    refine Rl.op (OpY.move (v := (Value.int .i64 (iw (x475 + 1)))) rfl ?_)
    refine Rl.nil ?_
    have f708 := (hE704.mono (K701 None))
    obtain rfl := Option.some.inj h
    refine Swp.pop_back ⟨(x693, (iw (x475 + 1))), rfl, ?_⟩
    exact ⟨cs703, _, (upds_sym ⟨rfl, ⟨rfl, ⟨rfl, ⟨rfl, ⟨rfl, trivial⟩⟩⟩⟩⟩), hL700, (Keep.trans (Keep.trans K489 K685) K701), f708, hl706, hc707, trivial⟩
  ·
   replace h := ite_f hc490 h
   refine Swp.exit rfl ?_
   obtain rfl := Option.some.inj h
   obtain rfl := hd485 _ rfl
   replace h := g483
   try dsimp only at h
   skip
   refine Swp.pop_back ?_
   exact ⟨out471, cs470, _, rfl, (upds_sym ⟨rfl, trivial⟩), hL488, K489, hE472, hl474, hc473, trivial⟩
 ·
  rintro _ w709 ⟨out478, cs477, u, rfl, rfl, hL710, K711, hE479, hl481, hc480, -⟩
  replace h := g483
  try dsimp only at h
  refine Swp.seq ?_
  refine Swp.region rfl ?_
  refine Rl.op (OpY.move (v := (osv (some b8) 0 (List.length x2) m1)) rfl ?_)
  refine Rl.op (OpY.assign (v := (osv (some b8) 0 (List.length x2) m1)) rfl ?_)
  refine Rl.nil ?_
  refine Swp.ret ?_
  obtain rfl := Option.some.inj h
  refine ⟨[(osv (some b8) 0 (List.length x2) m1)], ⟨rfl, trivial⟩, ⟨_, rfl, hL710.done, ?_⟩⟩
  exact ⟨some b8, m1, cs477, [], (by rw [← hl481]; rfl), (hL710.newOwn [0] rfl rfl rfl), (hE479.mono (Hv.pick [0] rfl)), hc480, trivial⟩
theorem bshort_w (N : Nat) (a : (List Int)) (pb : Int) (a_v : Value) (w : World) (S : Nat → Prop) (a_h : Rs (rInt .u32) (Hv w.heap.size S [] w) a_v a) (r : ((List Int) × Int)) (h : bshort N a pb = some r) :
  Calls Try.prog 86 #[a_v, (Value.int .u32 pb)] w (Ret w (fun v w' => ∃ (ob0 : Option Nat) (cap0 : Nat) (cs0 : List Value) (sp0 : List Value), .tuple #[(osv ob0 0 (List.length r.1) cap0), (Value.int .u32 r.2)] = v ∧ NewOwn w w' [ob0] [Cont.cells ([] ++ (cs0 ++ sp0))] ∧ Els (rInt .u32) (Hv w.heap.size None [ob0] w') cs0 r.1 ∧ (cs0 ++ sp0).length = cap0 * (rInt .u32).sz ∧ True)) := by
 unfold bshort at h
 have hL : Go.X.Loc [] [] w w [] [] := Go.X.Loc.begin0 w
 refine calls_of (l := [a_v, (Value.int .u32 pb)]) (rl := [.tmp 4, .tmp 5]) (n := 43) Try.func86 rfl rfl rfl (Nat.le_of_ble_eq_true rfl) ?_
 refine Swp.seq ?_
 refine Swp.region rfl ?_
 refine Rl.op (OpY.assign (v := (Value.slice none 0 0)) rfl ?_)
 refine Rl.op (OpY.assign (v := (Value.int .u32 0)) rfl ?_)
 refine Rl.nil ?_
 refine Swp.seq ?_
 refine Swp.region rfl ?_
 refine Rl.op (OpY.move (v := a_v) rfl ?_)
 refine Rl.op (OpY.lenRo (v := a_v) Try.underlying24 rfl a_h ?_)
 obtain ⟨x2, q3, h⟩ := bind_some h
 obtain ⟨m1, q4, q5, q6, q7⟩ := mk1_some q3
 refine Rl.op (OpY.mkRowX (r := (rInt .u32)) (H := (Hv w.heap.size None [] w)) (zc := [(Value.int .u32 0)]) (x := 0) Try.underlying24 ti89 rfl rfl rfl rfl q4 q5 q6 q7 hL ?_)
 intro b8 w13 cs9 hE10 hc11 (hL14 : Go.X.Loc [] [] w w13 [some b8] [Cont.cells ([] ++ (cs9 ++ []))]) hS16
 have K15 := Keep.step (s := w.heap.size) hS16
 refine Rl.op (OpY.assign (v := (osv (some b8) 0 (List.length x2) m1)) rfl ?_)
 refine Rl.nil ?_
 refine Swp.seq ?_
 refine Swp.region rfl ?_
 refine Rl.op (OpY.assign (v := (Value.int .u64 0)) rfl ?_)
 refine Rl.nil ?_
 refine Swp.seq ?_
 refine Swp.seq ?_
 refine Swp.region rfl ?_
 refine Rl.op (OpY.move (v := a_v) rfl ?_)
 have f17 := (a_h.mono (K15 S))
 refine Rl.op (OpY.lenRo (v := a_v) Try.underlying24 rfl f17 ?_)
 refine Rl.op (OpY.sub (x := (List.length a : Int)) (y := 1) (z := (iw ((List.length a : Int) - 1))) rfl rfl rfl ?_)
 refine Rl.op (OpY.assign (v := (Value.int .i64 (iw ((List.length a : Int) - 1)))) rfl ?_)
 refine Rl.nil ?_
 obtain ⟨s137, hl139, g138⟩ := bind_some h
 refine Swp.join (fun e w' => ∃ (out132 : (List Int)) (rest136 : Int) (cs131 : List Value) (u : Env), (out132, rest136) = s137 ∧ e = upds [(6, (osv (some b8) 0 (List.length x2) m1)), (7, (Value.int .u64 rest136))] u ∧ Go.X.Loc [] [] w w' [some b8] [Cont.cells ([] ++ (cs131 ++ []))] ∧ Keep w.heap.size [some b8] w13 [some b8] w' ∧ Els (rInt .u32) (Hv w.heap.size None [some b8] w') cs131 out132 ∧ (List.length x2) = List.length out132 ∧ (cs131 ++ []).length = m1 * (rInt .u32).sz ∧ True) ?_ ?_
 ·
  refine Swp.block ?_
  have f141 := (hE10.mono (K15 None))
  refine Swp.loopM hl139 (fun (ss : ((List Int) × Int × Int)) (e : Env) (w' : World) => match ss with | (out124, rest128, i129) => ∃ (cs123 : List Value) (u : Env), e = upds [(0, a_v), (1, (Value.int .u32 pb)), (6, (osv (some b8) 0 (List.length x2) m1)), (7, (Value.int .u64 rest128)), (8, (Value.int .i64 i129))] u ∧ Go.X.Loc [] [] w w' [some b8] [Cont.cells ([] ++ (cs123 ++ []))] ∧ Keep w.heap.size [some b8] w13 [some b8] w' ∧ Els (rInt .u32) (Hv w.heap.size None [some b8] w') cs123 out124 ∧ (List.length x2) = List.length out124 ∧ (cs123 ++ []).length = m1 * (rInt .u32).sz ∧ True) ⟨cs9, _, (upds_sym ⟨rfl, ⟨rfl, ⟨rfl, ⟨rfl, ⟨rfl, trivial⟩⟩⟩⟩⟩), hL14, Keep.refl, f141, rfl, hc11, trivial⟩ ?_
  rintro ⟨out124, rest128, i129⟩ oo _ w142 ⟨cs123, u, rfl, hL143, K144, hE125, hl127, hc126, -⟩ h hd140
  rw [bshort_b1] at h
  refine Swp.seq ?_
  refine Swp.seq ?_
  refine Swp.region rfl ?_
  refine Rl.op (OpY.move (v := (Value.int .i64 i129)) rfl ?_)
  refine Rl.op (OpY.geq (x := i129) (y := 0) ((i129 : Int) ≥ 0) rfl rfl Iff.rfl ?_)
  refine Rl.nil ?_
  refine Swp.cond_d ((i129 : Int) ≥ 0) rfl (fun hc145 => ?_) (fun hc145 => ?_)
  ·
   replace h := ite_t hc145 h
   refine Swp.skip ?_
   refine Swp.seq ?_
   refine Swp.block ?_
   refine Swp.seq ?_
   refine Swp.region rfl ?_
   refine Rl.op (OpY.move (v := (Value.int .u64 rest128)) rfl ?_)
   refine Rl.op (OpY.ishl (x := rest128) (y := 32) rfl rfl (by decide) ?_)
   refine Rl.op (OpY.move (v := a_v) rfl ?_)
   refine Rl.op (OpY.move (v := (Value.int .i64 i129)) rfl ?_)
   obtain ⟨x146, q147, h⟩ := bind_some h
   obtain ⟨n148, q149, q150⟩ := idx_some q147
   have f159 := (f17.mono (K144 S))
   obtain ⟨b151, o152, c153, vs154, q155, q156, f157, q158⟩ := Rs.get f159 q150
   obtain rfl := q158
   refine Rl.op (OpY.ixRoD (r := (rInt .u32)) (v := a_v) (n := n148) (m := (o152 + n148 * (rInt .u32).sz)) Try.underlying24 ti89 rfl q155 rfl q149 q150 rfl ?_)
   refine Rl.op (OpY.ldRo1 (v := (Value.int .u32 x146)) Try.underlying89 rfl rfl vw_view f157 ?_)
   refine Rl.op (OpY.convInt (x := x146) (z := (uw x146)) Try.underlying89 Try.underlying93 rfl rfl ?_)
   refine Rl.op (OpY.ior (x := (bshl .u64 rest128 32)) (y := (uw x146)) rfl rfl ?_)
   refine Rl.op (OpY.assign (v := (Value.int .u64 (bor .u64 (bshl .u64 rest128 32) (uw x146)))) rfl ?_)
   refine Rl.nil ?_
   refine Swp.seq ?_
   refine Swp.region rfl ?_
   refine Rl.op (OpY.move (v := (osv (some b8) 0 (List.length x2) m1)) rfl ?_)
   refine Rl.op (OpY.move (v := (Value.int .i64 i129)) rfl ?_)
   refine Rl.op (OpY.move (v := (Value.int .u64 (bor .u64 (bshl .u64 rest128 32) (uw x146)))) rfl ?_)
   refine Rl.op (OpY.move (v := (Value.int .u32 pb)) rfl ?_)
   refine Rl.op (OpY.convInt (x := pb) (z := (uw pb)) Try.underlying89 Try.underlying93 rfl rfl ?_)
   obtain ⟨x160, q161, h⟩ := bind_some h
   obtain ⟨q162, q163⟩ := sdiv_some q161
   refine Rl.op (OpY.quoI (x := (bor .u64 (bshl .u64 rest128 32) (uw x146))) (y := (uw pb)) (z := x160) rfl rfl q162 q163 ?_)
   refine Rl.op (OpY.convInt (x := x160) (z := (uw32 x160)) Try.underlying93 Try.underlying89 rfl rfl ?_)
   obtain ⟨x164, q165, h⟩ := bind_some h
   obtain ⟨n166, q167, q168⟩ := idx_some q165
   have q169 := (List.getElem?_eq_some_iff.1 q168).1
   refine Rl.op (OpY.ixRowD (r := (rInt .u32)) (b := b8) (o := 0) (n := n166) (m := (List.length x2)) (xs := out124) (q := (0 + n166 * (rInt .u32).sz)) Try.underlying24 ti89 rfl hl127 rfl q167 q169 rfl ?_)
   obtain ⟨x170, q171, h⟩ := bind_some h
   obtain ⟨n172, q173, q174, q175⟩ := upd1_some q171
   obtain rfl := Int.ofNat_inj.1 (q167.symm.trans q173)
   refine Rl.op0 (OpY.stRowX (pre := []) (r := (rInt .u32)) (vs := [(Value.int .u32 (uw32 x160))]) (a := (uw32 x160)) ti89 rfl rfl rfl rfl hL143 0 rfl rfl hE125 q169 rfl q175 ?_)
   have hl183 : (List.length x2) = List.length x170 := by rw [q175, List.length_set]; exact hl127
   intro w176 cs180 (hL177 : Go.X.Loc [] [] w w176 [some b8] [Cont.cells ([] ++ (cs180 ++ []))]) hS179 hE181 q182
   have hc184 : (cs180 ++ []).length = m1 * (rInt .u32).sz := by have := hc126; rw [List.length_append] at this ⊢; rw [q182]; exact this
   have K178 := Keep.step (s := w.heap.size) hS179
   refine Rl.nil ?_
   refine Swp.region rfl ?_
   refine Rl.op (OpY.move (v := (Value.int .u64 (bor .u64 (bshl .u64 rest128 32) (uw x146)))) rfl ?_)
   refine Rl.op (OpY.move (v := (Value.int .u32 pb)) rfl ?_)
   refine Rl.op (OpY.convInt (x := pb) (z := (uw pb)) Try.underlying89 Try.underlying93 rfl rfl ?_)
   obtain ⟨x185, q186, h⟩ := bind_some h
   obtain ⟨q187, q188⟩ := srem_some q186
   subst q188
   refine Rl.op (OpY.remI (x := (bor .u64 (bshl .u64 rest128 32) (uw x146))) (y := (uw pb)) rfl rfl q187 ?_)
   refine Rl.op (OpY.assign (v := (Value.int .u64 (Int.tmod (bor .u64 (bshl .u64 rest128 32) (uw x146)) (uw pb)))) rfl ?_)
   refine Rl.nil ?_
   refine Swp.pop_blk ?_
   refine Swp.region rfl ?_
   refine Rl.op (OpY.move (v := (Value.int .i64 i129)) rfl ?_)
   refine Rl.op (OpY.sub (x := i129) (y := 1) (z := (iw (i129 - 1))) rfl rfl rfl ?_)
   refine Rl.op (OpY.assign (v := (Value.int .i64 (iw (i129 - 1)))) rfl ?_)
   refine Rl.nil ?_
   have f189 := (hE181.mono (K178 None))
   obtain rfl := Option.some.inj h
   refine Swp.pop_back ⟨(x170, (Int.tmod (bor .u64 (bshl .u64 rest128 32) (uw x146)) (uw pb)), (iw (i129 - 1))), rfl, ?_⟩
   exact ⟨cs180, _, (upds_sym ⟨rfl, ⟨rfl, ⟨rfl, ⟨rfl, ⟨rfl, trivial⟩⟩⟩⟩⟩), hL177, (Keep.trans K144 K178), f189, hl183, hc184, trivial⟩
  ·
   replace h := ite_f hc145 h
   refine Swp.exit rfl ?_
   obtain rfl := Option.some.inj h
   obtain rfl := hd140 _ rfl
   replace h := g138
   try dsimp only at h
   skip
   refine Swp.pop_back ?_
   exact ⟨out124, rest128, cs123, _, rfl, (upds_sym ⟨rfl, ⟨rfl, trivial⟩⟩), hL143, K144, hE125, hl127, hc126, trivial⟩
 ·
  rintro _ w190 ⟨out132, rest136, cs131, u, rfl, rfl, hL191, K192, hE133, hl135, hc134, -⟩
  replace h := g138
  try dsimp only at h
  refine Swp.seq ?_
  refine Swp.region rfl ?_
  refine Rl.op (OpY.move (v := (osv (some b8) 0 (List.length x2) m1)) rfl ?_)
  refine Rl.op (OpY.move (v := (Value.int .u64 rest136)) rfl ?_)
  refine Rl.op (OpY.convInt (x := rest136) (z := (uw32 rest136)) Try.underlying93 Try.underlying89 rfl rfl ?_)
  refine Rl.op (OpY.assign (v := (osv (some b8) 0 (List.length x2) m1)) rfl ?_)
  refine Rl.op (OpY.assign (v := (Value.int .u32 (uw32 rest136))) rfl ?_)
  refine Rl.nil ?_
  refine Swp.ret ?_
  obtain rfl := Option.some.inj h
  refine ⟨[(osv (some b8) 0 (List.length x2) m1), (Value.int .u32 (uw32 rest136))], ⟨rfl, ⟨rfl, trivial⟩⟩, ⟨_, rfl, hL191.done, ?_⟩⟩
  exact ⟨some b8, m1, cs131, [], (by rw [← hl135]; rfl), (hL191.newOwn [0] rfl rfl rfl), (hE133.mono (Hv.pick [0] rfl)), hc134, trivial⟩
theorem bshift_w (N : Nat) (a : (List Int)) (n : Int) (a_v : Value) (w : World) (S : Nat → Prop) (a_h : Rs (rInt .u32) (Hv w.heap.size S [] w) a_v a) (r : (List Int)) (h : bshift N a n = some r) :
  Calls Try.prog 88 #[a_v, (Value.int .u64 n)] w (Ret w (fun v w' => ∃ (ob0 : Option Nat) (cap0 : Nat) (cs0 : List Value) (sp0 : List Value), (osv ob0 0 (List.length r) cap0) = v ∧ NewOwn w w' [ob0] [Cont.cells ([] ++ (cs0 ++ sp0))] ∧ Els (rInt .u32) (Hv w.heap.size None [ob0] w') cs0 r ∧ (cs0 ++ sp0).length = cap0 * (rInt .u32).sz ∧ True)) := by
 unfold bshift at h
 have hL : Go.X.Loc [] [] w w [] [] := Go.X.Loc.begin0 w
 refine calls_of (l := [a_v, (Value.int .u64 n)]) (rl := [.tmp 4]) (n := 41) Try.func88 rfl rfl rfl (Nat.le_of_ble_eq_true rfl) ?_
 refine Swp.seq ?_
 refine Swp.region rfl ?_
 refine Rl.op (OpY.assign (v := (Value.slice none 0 0)) rfl ?_)
 refine Rl.nil ?_
 refine Swp.seq ?_
 refine Swp.region rfl ?_
 refine Rl.op (OpY.move (v := a_v) rfl ?_)
 refine Rl.op (OpY.lenRo (v := a_v) Try.underlying24 rfl a_h ?_)
 refine Rl.op (OpY.add (x := (List.length a : Int)) (y := 1) (z := (iw ((List.length a : Int) + 1))) rfl rfl rfl ?_)
 obtain ⟨x2, q3, h⟩ := bind_some h
 obtain ⟨m1, q4, q5, q6, q7⟩ := mk1_some q3
 refine Rl.op (OpY.mkRowX (r := (rInt .u32)) (H := (Hv w.heap.size None [] w)) (zc := [(Value.int .u32 0)]) (x := 0) Try.underlying24 ti89 rfl rfl rfl rfl q4 q5 q6 q7 hL ?_)
 intro b8 w13 cs9 hE10 hc11 (hL14 : Go.X.Loc [] [] w w13 [some b8] [Cont.cells ([] ++ (cs9 ++ []))]) hS16
 have K15 := Keep.step (s := w.heap.size) hS16
 refine Rl.op (OpY.assign (v := (osv (some b8) 0 (List.length x2) m1)) rfl ?_)
 refine Rl.nil ?_
 refine Swp.seq ?_
 refine Swp.seq ?_
 refine Swp.region rfl ?_
 refine Rl.op (OpY.move (v := a_v) rfl ?_)
 have f17 := (a_h.mono (K15 S))
 refine Rl.op (OpY.lenRo (v := a_v) Try.underlying24 rfl f17 ?_)
 refine Rl.op (OpY.move (v := (Value.int .i64 0)) rfl ?_)
 refine Rl.nil ?_
 obtain ⟨s188, hl190, g189⟩ := bind_some h
 refine Swp.join (fun e w' => ∃ (out184 : (List Int)) (cs183 : List Value) (u : Env), out184 = s188 ∧ e = upds [(5, (osv (some b8) 0 (List.length x2) m1))] u ∧ Go.X.Loc [] [] w w' [some b8] [Cont.cells ([] ++ (cs183 ++ []))] ∧ Keep w.heap.size [some b8] w13 [some b8] w' ∧ Els (rInt .u32) (Hv w.heap.size None [some b8] w') cs183 out184 ∧ (List.length x2) = List.length out184 ∧ (cs183 ++ []).length = m1 * (rInt .u32).sz ∧ True) ?_ ?_
 ·
  refine Swp.block ?_
  have f192 := (hE10.mono (K15 None))
  refine Swp.loopM hl190 (fun (ss : ((List Int) × Int)) (e : Env) (w' : World) => match ss with | (out177, x181) => ∃ (cs176 : List Value) (u : Env), e = upds [(1, (Value.int .u64 n)), (5, (osv (some b8) 0 (List.length x2) m1)), (13, a_v), (14, (Value.int .i64 (List.length a : Int))), (15, (Value.int .i64 x181))] u ∧ Go.X.Loc [] [] w w' [some b8] [Cont.cells ([] ++ (cs176 ++ []))] ∧ Keep w.heap.size [some b8] w13 [some b8] w' ∧ Els (rInt .u32) (Hv w.heap.size None [some b8] w') cs176 out177 ∧ (List.length x2) = List.length out177 ∧ (cs176 ++ []).length = m1 * (rInt .u32).sz ∧ True) ⟨cs9, _, (upds_sym ⟨rfl, ⟨rfl, ⟨rfl, ⟨rfl, ⟨rfl, trivial⟩⟩⟩⟩⟩), hL14, Keep.refl, f192, rfl, hc11, trivial⟩ ?_
  rintro ⟨out177, x181⟩ oo _ w193 ⟨cs176, u, rfl, hL194, K195, hE178, hl180, hc179, -⟩ h hd191
  rw [bshift_b1] at h
  refine Swp.seq ?_
  refine Swp.region rfl ?_
  refine Rl.op (OpY.lss (x := x181) (y := (List.length a : Int)) ((x181 : Int) < (List.length a : Int)) rfl rfl Iff.rfl ?_)
  refine Rl.nil ?_
  refine Swp.seq ?_
  refine Swp.cond_d ((x181 : Int) < (List.length a : Int)) rfl (fun hc196 => ?_) (fun hc196 => ?_)
  ·
   replace h := ite_t hc196 h
   refine Swp.skip ?_
   refine Swp.seq ?_
   refine Swp.block ?_
   refine Swp.seq ?_
   refine Swp.region rfl ?_
   refine Rl.op (OpY.move (v := (Value.int .i64 x181)) rfl ?_)
   obtain ⟨x197, q198, h⟩ := bind_some h
   obtain ⟨n199, q200, q201⟩ := idx_some q198
   have f210 := (f17.mono (K195 S))
   obtain ⟨b202, o203, c204, vs205, q206, q207, f208, q209⟩ := Rs.get f210 q201
   obtain rfl := q209
   refine Rl.op (OpY.ixRoD (r := (rInt .u32)) (v := a_v) (n := n199) (m := (o203 + n199 * (rInt .u32).sz)) Try.underlying24 ti89 rfl q206 rfl q200 q201 rfl ?_)
   refine Rl.op (OpY.ldRo1 (v := (Value.int .u32 x197)) Try.underlying89 rfl rfl vw_view f208 ?_)
   refine Rl.op (OpY.assign (v := (Value.int .i64 x181)) rfl ?_)
   refine Rl.op (OpY.assign (v := (Value.int .u32 x197)) rfl ?_)
   refine Rl.nil ?_
   refine Swp.seq ?_
   refine Swp.region rfl ?_
   refine Rl.op (OpY.move (v := (Value.int .u32 x197)) rfl ?_)
   refine Rl.op (OpY.convInt (x := x197) (z := (uw x197)) Try.underlying89 Try.underlying93 rfl rfl ?_)
   refine Rl.op (OpY.move (v := (Value.int .u64 n)) rfl ?_)
   obtain ⟨u211, q212, h⟩ := bind_some h
   have q213 := chk_some q212
   refine Rl.op (OpY.ishl (x := (uw x197)) (y := n) rfl rfl q213 ?_)
   refine Rl.op (OpY.assign (v := (Value.int .u64 (bshl .u64 (uw x197) n))) rfl ?_)
   refine Rl.nil ?_
   refine Swp.seq ?_
   refine Swp.region rfl ?_
   refine Rl.op (OpY.move (v := (osv (some b8) 0 (List.length x2) m1)) rfl ?_)
   refine Rl.op (OpY.move (v := (Value.int .i64 x181)) rfl ?_)
   obtain ⟨x214, q215, h⟩ := bind_some h
   obtain ⟨n216, q217, q218⟩ := idx_some q215
   have q219 := (List.getElem?_eq_some_iff.1 q218).1
   refine Rl.op (OpY.ixRowD (r := (rInt .u32)) (b := b8) (o := 0) (n := n216) (m := (List.length x2)) (xs := out177) (q := (0 + n216 * (rInt .u32).sz)) Try.underlying24 ti89 rfl hl180 rfl q217 q219 rfl ?_)
   obtain ⟨vs220, q221, q222, q223⟩ := row_elem (pre := []) (sp := []) hE178 q218
   obtain rfl := q222
   refine Rl.op (OpY.ldElem1 (v := (Value.int .u32 x214)) Try.underlying89 rfl rfl (hL194.at 0 rfl rfl) q223 ?_)
   refine Rl.op (OpY.move (v := (Value.int .u64 (bshl .u64 (uw x197) n))) rfl ?_)
   refine Rl.op (OpY.convInt (x := (bshl .u64 (uw x197) n)) (z := (uw32 (bshl .u64 (uw x197) n))) Try.underlying93 Try.underlying89 rfl rfl ?_)
   refine Rl.op (OpY.ior (x := x214) (y := (uw32 (bshl .u64 (uw x197) n))) rfl rfl ?_)
   obtain ⟨x224, q225, h⟩ := bind_some h
   obtain ⟨n226, q227, q228⟩ := idx_some q225
   have q229 := (List.getElem?_eq_some_iff.1 q228).1
   refine Rl.op (OpY.ixRowD (r := (rInt .u32)) (b := b8) (o := 0) (n := n226) (m := (List.length x2)) (xs := out177) (q := (0 + n226 * (rInt .u32).sz)) Try.underlying24 ti89 rfl hl180 rfl q227 q229 rfl ?_)
   obtain ⟨x230, q231, h⟩ := bind_some h
   obtain ⟨n232, q233, q234, q235⟩ := upd1_some q231
   obtain rfl := Int.ofNat_inj.1 (q227.symm.trans q233)
   refine Rl.op0 (OpY.stRowX (pre := []) (r := (rInt .u32)) (vs := [(Value.int .u32 (bor .u32 x214 (uw32 (bshl .u64 (uw x197) n))))]) (a := (bor .u32 x214 (uw32 (bshl .u64 (uw x197) n)))) ti89 rfl rfl rfl rfl hL194 0 rfl rfl hE178 q229 rfl q235 ?_)
   have hl243 : (List.length x2) = List.length x230 := by rw [q235, List.length_set]; exact hl180
   intro w236 cs240 (hL237 : Go.X.Loc [] [] w w236 [some b8] [Cont.cells ([] ++ (cs240 ++ []))]) hS239 hE241 q242
   have hc244 : (cs240 ++ []).length = m1 * (rInt .u32).sz := by have := hc179; rw [List.length_append] at this ⊢; rw [q242]; exact this
   have K238 := Keep.step (s := w.heap.size) hS239
   refine Rl.nil ?_
   refine Swp.region rfl ?_
   refine Rl.op (OpY.move (v := (osv (some b8) 0 (List.length x2) m1)) rfl ?_)
   refine Rl.op (OpY.move (v := (Value.int .i64 x181)) rfl ?_)
   refine Rl.op (OpY.add (x := x181) (y := 1) (z := (iw (x181 + 1))) rfl rfl rfl ?_)
   refine Rl.op (OpY.move (v := (Value.int .u64 (bshl .u64 (uw x197) n))) rfl ?_)
   refine Rl.op (OpY.ishr (x := (bshl .u64 (uw x197) n)) (y := 32) rfl rfl (by decide) ?_)
   refine Rl.op (OpY.convInt (x := (bshr .u64 (bshl .u64 (uw x197) n) 32)) (z := (uw32 (bshr .u64 (bshl .u64 (uw x197) n) 32))) Try.underlying93 Try.underlying89 rfl rfl ?_)
   obtain ⟨x245, q246, h⟩ := bind_some h
   obtain ⟨n247, q248, q249⟩ := idx_some q246
   have q250 := (List.getElem?_eq_some_iff.1 q249).1
   refine Rl.op (OpY.ixRowD (r := (rInt .u32)) (b := b8) (o := 0) (n := n247) (m := (List.length x2)) (xs := x230) (q := (0 + n247 * (rInt .u32).sz)) Try.underlying24 ti89 rfl hl243 rfl q248 q250 rfl ?_)
   obtain ⟨x251, q252, h⟩ := bind_some h
   obtain ⟨n253, q254, q255, q256⟩ := upd1_some q252
   obtain rfl := Int.ofNat_inj.1 (q248.symm.trans q254)
   have f257 := (hE241.mono (K238 None))
   refine Rl.op0 (OpY.stRowX (pre := []) (r := (rInt .u32)) (vs := [(Value.int .u32 (uw32 (bshr .u64 (bshl .u64 (uw x197) n) 32)))]) (a := (uw32 (bshr .u64 (bshl .u64 (uw x197) n) 32))) ti89 rfl rfl rfl rfl hL237 0 rfl rfl f257 q250 rfl q256 ?_)
   have hl265 : (List.length x2) = List.length x251 := by rw [q256, List.length_set]; exact hl243
   intro w258 cs262 (hL259 : Go.X.Loc [] [] w w258 [some b8] [Cont.cells ([] ++ (cs262 ++ []))]) hS261 hE263 q264
   have hc266 : (cs262 ++ []).length = m1 * (rInt .u32).sz := by have := hc244; rw [List.length_append] at this ⊢; rw [q264]; exact this
   have K260 := Keep.step (s := w.heap.size) hS261
   refine Rl.nil ?_
   refine Swp.pop_blk ?_
   refine Swp.region rfl ?_
   refine Rl.op (OpY.add (x := x181) (y := 1) (z := (iw (x181 + 1))) rfl rfl rfl ?_)
   refine Rl.op (OpY.move (v := (Value.int .i64 (iw (x181 + 1)))) rfl ?_)
   refine Rl.nil ?_
   have f267 := (hE263.mono (K260 None))
   obtain rfl := Option.some.inj h
   refine Swp.pop_back ⟨(x251, (iw (x181 + 1))), rfl, ?_⟩
   exact ⟨cs262, _, (upds_sym ⟨rfl, ⟨rfl, ⟨rfl, ⟨rfl, ⟨rfl, trivial⟩⟩⟩⟩⟩), hL259, (Keep.trans (Keep.trans K195 K238) K260), f267, hl265, hc266, trivial⟩
  ·
   replace h := ite_f hc196 h
   refine Swp.exit rfl ?_
   obtain rfl := Option.some.inj h
   obtain rfl := hd191 _ rfl
   replace h := g189
   try dsimp only at h
   skip
   refine Swp.pop_back ?_
   exact ⟨out177, cs176, _, rfl, (upds_sym ⟨rfl, trivial⟩), hL194, K195, hE178, hl180, hc179, trivial⟩
 ·
  rintro _ w268 ⟨out184, cs183, u, rfl, rfl, hL269, K270, hE185, hl187, hc186, -⟩
  replace h := g189
  try dsimp only at h
  refine Swp.seq ?_
  refine Swp.region rfl ?_
  refine Rl.op (OpY.move (v := (osv (some b8) 0 (List.length x2) m1)) rfl ?_)
  refine Rl.op (OpY.assign (v := (osv (some b8) 0 (List.length x2) m1)) rfl ?_)
  refine Rl.nil ?_
  refine Swp.ret ?_
  obtain rfl := Option.some.inj h
  refine ⟨[(osv (some b8) 0 (List.length x2) m1)], ⟨rfl, trivial⟩, ⟨_, rfl, hL269.done, ?_⟩⟩
  exact ⟨some b8, m1, cs183, [], (by rw [← hl187]; rfl), (hL269.newOwn [0] rfl rfl rfl), (hE185.mono (Hv.pick [0] rfl)), hc186, trivial⟩
end Go.Proofs.Ytakkacdhlocckaa.WA

/- Walks, written by a program of mine (wip/tool); the kernel checks them. -/
import Derived.Test.YtakkacdhlocckaaProg
import Derived.Test.YtakkacdhlocckaaZ7
import Derived.Test.YtakkacdhlocckaaPD
import Derived.Test.YtakkacdhlocckaaWAConstraint
import Derived.Test.YtakkacdhlocckaaWRConstraint
import Derived.Test.YtakkacdhlocckaaWBConstraint
import Derived.Test.YtakkacdhlocckaaWCConstraint
set_option maxRecDepth 100000
set_option maxHeartbeats 4000000
set_option linter.unusedVariables false
namespace Go.Proofs.Ytakkacdhlocckaa.WD
open Go Go.RowKit Go.X Go.D Go.Proofs.Ytakkacdhlocckaa.WA Go.Proofs.Ytakkacdhlocckaa.WR Go.Proofs.Ytakkacdhlocckaa.WB Go.Proofs.Ytakkacdhlocckaa.WC
theorem mixed : Try.prog.follows .mixedOrders = true := by kernel_rfl
theorem ti34 : TI Try.prog 34 3 56 (Value.agg #[(Value.slice none 0 0), (Value.bool false), (Value.slice none 0 0)]) := TI.mk (by kernel_rfl)
theorem ti26 : TI Try.prog 26 2 32 (Value.agg #[(Value.bool false), (Value.slice none 0 0)]) := TI.mk (by kernel_rfl)
theorem pl34 : placesT Try.prog 34 = some [(0, 1), (1, 2)] := by kernel_rfl
theorem ti61 : TI Try.prog 61 2 32 (Value.agg #[(Value.int .i64 0), (Value.slice none 0 0)]) := TI.mk (by kernel_rfl)
theorem ti59 : TI Try.prog 59 1 24 (Value.slice none 0 0) := TI.mk (by kernel_rfl)
theorem ti71 : TI Try.prog 71 2 16 (Value.agg #[(Value.int .i64 0), (Value.int .i64 0)]) := TI.mk (by kernel_rfl)
theorem ti3 : TI Try.prog 3 1 8 (Value.int .i64 0) := TI.mk (by kernel_rfl)
theorem ti32 : TI Try.prog 32 1 24 (Value.slice none 0 0) := TI.mk (by kernel_rfl)
theorem ti63 : TI Try.prog 63 3 40 (Value.agg #[(Value.int .i64 0), (Value.slice none 0 0), (Value.bool false)]) := TI.mk (by kernel_rfl)
theorem en36 : Enters Try.prog 36 := ⟨Try.f36, Try.func36, by kernel_rfl, by kernel_rfl⟩
theorem ti2 : TI Try.prog 2 1 8 (Value.int .i64 0) := TI.mk (by kernel_rfl)
theorem en37 : Enters Try.prog 37 := ⟨Try.f37, Try.func37, by kernel_rfl, by kernel_rfl⟩
theorem ti4 : TI Try.prog 4 1 1 (Value.bool false) := TI.mk (by kernel_rfl)
theorem en40 : Enters Try.prog 40 := ⟨Try.f40, Try.func40, by kernel_rfl, by kernel_rfl⟩
theorem ti23 : TI Try.prog 23 1 24 (Value.slice none 0 0) := TI.mk (by kernel_rfl)
theorem ti50 : TI Try.prog 50 3 40 (Value.agg #[(Value.int .i64 0), (Value.bool false), (Value.slice none 0 0)]) := TI.mk (by kernel_rfl)
theorem en39 : Enters Try.prog 39 := ⟨Try.f39, Try.func39, by kernel_rfl, by kernel_rfl⟩
theorem en38 : Enters Try.prog 38 := ⟨Try.f38, Try.func38, by kernel_rfl, by kernel_rfl⟩
theorem ti39 : TI Try.prog 39 1 24 (Value.slice none 0 0) := TI.mk (by kernel_rfl)
theorem ti28 : TI Try.prog 28 3 56 (Value.agg #[(Value.slice none 0 0), (Value.bool false), (Value.slice none 0 0)]) := TI.mk (by kernel_rfl)
theorem ti40 : TI Try.prog 40 1 24 (Value.slice none 0 0) := TI.mk (by kernel_rfl)
theorem ti42 : TI Try.prog 42 5 104 (Value.agg #[(Value.slice none 0 0), (Value.slice none 0 0), (Value.bool false), (Value.slice none 0 0), (Value.slice none 0 0)]) := TI.mk (by kernel_rfl)
theorem pl26 : placesT Try.prog 26 = some [(0, 1), (1, 1)] := by kernel_rfl
theorem ti24 : TI Try.prog 24 1 24 (Value.slice none 0 0) := TI.mk (by kernel_rfl)
theorem rRight_w (N : Nat) (c : Constraint) (n : Int) (c_v : Value) (w : World) (S : Nat → Prop) (c_h : Rs rCoef (Hv w.heap.size S [] w) c_v c.Linear.Coefs) (r : Bool) (h : rRight N c n = some r) :
  Calls Try.prog 36 #[(Value.agg #[(Value.int .i64 c.Linear.Const), c_v, (Value.bool c.Equal)]), (Value.int .i64 n)] w (Ret w (fun v w' => (Value.bool r) = v ∧ True)) := by
 unfold rRight at h
 have hL : Go.X.Loc [] [] w w [] [] := Go.X.Loc.begin0 w
 refine calls_of (l := [(Value.agg #[(Value.int .i64 c.Linear.Const), c_v, (Value.bool c.Equal)]), (Value.int .i64 n)]) (rl := [.tmp 4]) (n := 51) Try.func36 rfl rfl rfl (Nat.le_of_ble_eq_true rfl) ?_
 refine Swp.seq ?_
 refine Swp.region rfl ?_
 refine Rl.op (OpY.box (cs := [(Value.int .i64 c.Linear.Const), c_v, (Value.bool c.Equal)]) rfl rfl hL ?_)
 intro b1 w2 (hL3 : Go.X.Loc [] [] w w2 [some b1] [Cont.cells [(Value.int .i64 c.Linear.Const), c_v, (Value.bool c.Equal)]]) hS5
 have K4 := Keep.step (s := w.heap.size) hS5
 refine Rl.op (OpY.assign (v := (Value.bool false)) rfl ?_)
 refine Rl.nil ?_
 refine Swp.seq ?_
 refine Swp.seq ?_
 refine Swp.region rfl ?_
 refine Rl.op (OpY.assign (v := (Value.int .i64 0)) rfl ?_)
 refine Rl.nil ?_
 obtain ⟨s133, hl135, g134⟩ := bind_some h
 refine Swp.join (fun e w' => ∃  (u : Env), (Sum.inl ()) = s133 ∧ e = upds [(1, (Value.int .i64 n))] u ∧ Go.X.Loc [] [] w w' [] [] ∧ Keep w.heap.size [some b1] w2 [] w' ∧ True) ?_ ?_
 ·
  refine Swp.block ?_
  refine Swp.loopM hl135 (fun (ss : Int) (e : Env) (w' : World) => match ss with | i132 => ∃ (u : Env), e = upds [(1, (Value.int .i64 n)), (2, (Value.pointer (some ⟨b1, 0, none⟩))), (5, (Value.int .i64 i132))] u ∧ Go.X.Loc [] [] w w' [some b1] [Cont.cells [(Value.int .i64 c.Linear.Const), c_v, (Value.bool c.Equal)]] ∧ Keep w.heap.size [some b1] w2 [some b1] w' ∧ True) ⟨_, (upds_sym ⟨rfl, ⟨rfl, ⟨rfl, trivial⟩⟩⟩), hL3, Keep.refl, trivial⟩ ?_
  rintro i132 oo _ w137 ⟨u, rfl, hL138, K139, -⟩ h hd136
  rw [rRight_b1] at h
  refine Swp.seq ?_
  refine Swp.seq ?_
  refine Swp.region rfl ?_
  refine Rl.op (OpY.move (v := (Value.int .i64 i132)) rfl ?_)
  refine Rl.op (OpY.fieldAddr (q := 0) Try.underlying63 rfl ti61 rfl rfl rfl ?_)
  refine Rl.op (OpY.fieldAddr (q := 1) Try.underlying61 rfl ti59 rfl rfl rfl ?_)
  refine Rl.op (OpY.ldBox1 (v := c_v) Try.underlying59 rfl rfl (hL138.at 0 rfl rfl) rfl ?_)
  have f140 := ((c_h.mono (K4 S)).mono (K139 S))
  refine Rl.op (OpY.lenRo (v := c_v) Try.underlying59 rfl f140 ?_)
  refine Rl.op (OpY.lss (x := i132) (y := (List.length c.Linear.Coefs : Int)) ((i132 : Int) < (List.length c.Linear.Coefs : Int)) rfl rfl Iff.rfl ?_)
  refine Rl.nil ?_
  refine Swp.cond_d ((i132 : Int) < (List.length c.Linear.Coefs : Int)) rfl (fun hc141 => ?_) (fun hc141 => ?_)
  ·
   replace h := ite_t hc141 h
   refine Swp.skip ?_
   refine Swp.seq ?_
   refine Swp.block ?_
   refine Swp.seq ?_
   refine Swp.region rfl ?_
   refine Rl.op (OpY.fieldAddr (q := 0) Try.underlying63 rfl ti61 rfl rfl rfl ?_)
   refine Rl.op (OpY.fieldAddr (q := 1) Try.underlying61 rfl ti59 rfl rfl rfl ?_)
   refine Rl.op (OpY.ldBox1 (v := c_v) Try.underlying59 rfl rfl (hL138.at 0 rfl rfl) rfl ?_)
   refine Rl.op (OpY.move (v := (Value.int .i64 i132)) rfl ?_)
   obtain ⟨x142, q143, h⟩ := bind_some h
   obtain ⟨n144, q145, q146⟩ := idx_some q143
   obtain ⟨b147, o148, c149, vs150, q151, q152, f153, q154⟩ := Rs.get f140 q146
   obtain ⟨rfl, -⟩ := rCoef_open q154
   refine Rl.op (OpY.ixRoD (r := rCoef) (v := c_v) (n := n144) (m := (o148 + n144 * rCoef.sz)) Try.underlying59 ti71 rfl q151 rfl q145 q146 rfl ?_)
   have f155 := (f153.part (us := [(Value.int .i64 x142.Var)]) 0 rfl)
   refine Rl.op (OpY.fieldAddr (q := (o148 + n144 * rCoef.sz) + 0) Try.underlying71 rfl ti3 rfl rfl rfl ?_)
   refine Rl.op (OpY.ldRo1 (v := (Value.int .i64 x142.Var)) Try.underlying3 rfl rfl vw_view f155 ?_)
   refine Rl.op (OpY.assign (v := (Value.int .i64 x142.Var)) rfl ?_)
   refine Rl.nil ?_
   refine Swp.seq ?_
   obtain ⟨s175, h, g176⟩ := bind_some h
   refine Swp.join (fun e w' => ∃ (x174 : Bool) (u : Env), x174 = s175 ∧ e = upds [(1, (Value.int .i64 n)), (2, (Value.pointer (some ⟨b1, 0, none⟩))), (5, (Value.int .i64 i132)), (44, (Value.bool x174))] u ∧ Go.X.Loc [] [] w w' [some b1] [Cont.cells [(Value.int .i64 c.Linear.Const), c_v, (Value.bool c.Equal)]] ∧ Keep w.heap.size [some b1] w137 [some b1] w' ∧ True) ?_ ?_
   ·
    refine Swp.region rfl ?_
    refine Rl.op (OpY.move (v := (Value.int .i64 x142.Var)) rfl ?_)
    refine Rl.op (OpY.lss (x := x142.Var) (y := 0) ((x142.Var : Int) < 0) rfl rfl Iff.rfl ?_)
    refine Rl.op (OpY.move (v := (Value.bool (decide ((x142.Var : Int) < 0)))) rfl ?_)
    by_cases hc177 : (x142.Var : Int) < 0
    ·
     replace h := ite_t hc177 h
     refine Rl.no (dj := 24) (b' := (decide ((x142.Var : Int) < 0))) rfl rfl (decide_eq_true hc177) ?_
     refine Rl.no (dj := 24) (b' := (decide ((x142.Var : Int) < 0))) rfl rfl (decide_eq_true hc177) ?_
     refine Rl.no (dj := 24) (b' := (decide ((x142.Var : Int) < 0))) rfl rfl (decide_eq_true hc177) ?_
     refine Rl.op (OpY.pick_t (t := (decide ((x142.Var : Int) < 0))) (v := (Value.bool true)) rfl (decide_eq_true hc177) rfl ?_)
     refine Rl.op (OpY.move (v := (Value.bool true)) rfl ?_)
     refine Rl.no (dj := 29) (b' := true) rfl rfl rfl ?_
     refine Rl.no (dj := 29) (b' := true) rfl rfl rfl ?_
     refine Rl.no (dj := 29) (b' := true) rfl rfl rfl ?_
     refine Rl.no_undef (dj := 32) rfl rfl ?_
     refine Rl.no_undef (dj := 32) rfl rfl ?_
     refine Rl.no_undef (dj := 32) rfl rfl ?_
     refine Rl.no_undef (dj := 32) rfl rfl ?_
     refine Rl.no_undef (dj := 32) rfl rfl ?_
     refine Rl.no_undef (dj := 32) rfl rfl ?_
     refine Rl.no_undef (dj := 32) rfl rfl ?_
     refine Rl.no_undef (dj := 32) rfl rfl ?_
     refine Rl.no_undef (dj := 32) rfl rfl ?_
     refine Rl.no_undef (dj := 32) rfl rfl ?_
     refine Rl.no (dj := 29) (b' := true) rfl rfl rfl ?_
     refine Rl.op (OpY.pick_t (t := true) (v := (Value.bool true)) rfl rfl rfl ?_)
     refine Rl.nil ?_
     obtain rfl := Option.some.inj h
     refine Swp.pop_back ?_
     exact ⟨true, _, rfl, (upds_sym ⟨rfl, ⟨rfl, ⟨rfl, ⟨rfl, trivial⟩⟩⟩⟩), hL138, Keep.refl, trivial⟩
    ·
     replace h := ite_f hc177 h
     refine Rl.yes (dj := 24) (b' := (decide ((x142.Var : Int) < 0))) rfl rfl (decide_eq_false hc177) (OpY.move (v := (Value.int .i64 x142.Var)) rfl ?_)
     refine Rl.yes (dj := 24) (b' := (decide ((x142.Var : Int) < 0))) rfl rfl (decide_eq_false hc177) (OpY.move (v := (Value.int .i64 n)) rfl ?_)
     refine Rl.yes (dj := 24) (b' := (decide ((x142.Var : Int) < 0))) rfl rfl (decide_eq_false hc177) (OpY.geq (x := x142.Var) (y := n) ((x142.Var : Int) ≥ n) rfl rfl Iff.rfl ?_)
     refine Rl.op (OpY.pick_f (t := (decide ((x142.Var : Int) < 0))) (v := (Value.bool (decide ((x142.Var : Int) ≥ n)))) rfl (decide_eq_false hc177) rfl ?_)
     refine Rl.op (OpY.move (v := (Value.bool (decide ((x142.Var : Int) ≥ n)))) rfl ?_)
     by_cases hc178 : (x142.Var : Int) ≥ n
     ·
      replace h := ite_t hc178 h
      refine Rl.no (dj := 29) (b' := (decide ((x142.Var : Int) ≥ n))) rfl rfl (decide_eq_true hc178) ?_
      refine Rl.no (dj := 29) (b' := (decide ((x142.Var : Int) ≥ n))) rfl rfl (decide_eq_true hc178) ?_
      refine Rl.no (dj := 29) (b' := (decide ((x142.Var : Int) ≥ n))) rfl rfl (decide_eq_true hc178) ?_
      refine Rl.no_undef (dj := 32) rfl rfl ?_
      refine Rl.no_undef (dj := 32) rfl rfl ?_
      refine Rl.no_undef (dj := 32) rfl rfl ?_
      refine Rl.no_undef (dj := 32) rfl rfl ?_
      refine Rl.no_undef (dj := 32) rfl rfl ?_
      refine Rl.no_undef (dj := 32) rfl rfl ?_
      refine Rl.no_undef (dj := 32) rfl rfl ?_
      refine Rl.no_undef (dj := 32) rfl rfl ?_
      refine Rl.no_undef (dj := 32) rfl rfl ?_
      refine Rl.no_undef (dj := 32) rfl rfl ?_
      refine Rl.no (dj := 29) (b' := (decide ((x142.Var : Int) ≥ n))) rfl rfl (decide_eq_true hc178) ?_
      refine Rl.op (OpY.pick_t (t := (decide ((x142.Var : Int) ≥ n))) (v := (Value.bool true)) rfl (decide_eq_true hc178) rfl ?_)
      refine Rl.nil ?_
      obtain rfl := Option.some.inj h
      refine Swp.pop_back ?_
      exact ⟨true, _, rfl, (upds_sym ⟨rfl, ⟨rfl, ⟨rfl, ⟨rfl, trivial⟩⟩⟩⟩), hL138, Keep.refl, trivial⟩
     ·
      replace h := ite_f hc178 h
      refine Rl.yes (dj := 29) (b' := (decide ((x142.Var : Int) ≥ n))) rfl rfl (decide_eq_false hc178) (OpY.move (v := (Value.int .i64 i132)) rfl ?_)
      refine Rl.yes (dj := 29) (b' := (decide ((x142.Var : Int) ≥ n))) rfl rfl (decide_eq_false hc178) (OpY.gtr (x := i132) (y := 0) ((i132 : Int) > 0) rfl rfl Iff.rfl ?_)
      refine Rl.yes (dj := 29) (b' := (decide ((x142.Var : Int) ≥ n))) rfl rfl (decide_eq_false hc178) (OpY.move (v := (Value.bool (decide ((i132 : Int) > 0)))) rfl ?_)
      by_cases hc179 : (i132 : Int) > 0
      ·
       replace h := ite_t hc179 h
       refine Rl.yes (dj := 32) (b' := (decide ((i132 : Int) > 0))) rfl rfl (decide_eq_true hc179) (OpY.move (v := (Value.int .i64 x142.Var)) rfl ?_)
       refine Rl.yes (dj := 32) (b' := (decide ((i132 : Int) > 0))) rfl rfl (decide_eq_true hc179) (OpY.fieldAddr (q := 0) Try.underlying63 rfl ti61 rfl rfl rfl ?_)
       refine Rl.yes (dj := 32) (b' := (decide ((i132 : Int) > 0))) rfl rfl (decide_eq_true hc179) (OpY.fieldAddr (q := 1) Try.underlying61 rfl ti59 rfl rfl rfl ?_)
       refine Rl.yes (dj := 32) (b' := (decide ((i132 : Int) > 0))) rfl rfl (decide_eq_true hc179) (OpY.ldBox1 (v := c_v) Try.underlying59 rfl rfl (hL138.at 0 rfl rfl) rfl ?_)
       refine Rl.yes (dj := 32) (b' := (decide ((i132 : Int) > 0))) rfl rfl (decide_eq_true hc179) (OpY.move (v := (Value.int .i64 i132)) rfl ?_)
       refine Rl.yes (dj := 32) (b' := (decide ((i132 : Int) > 0))) rfl rfl (decide_eq_true hc179) (OpY.sub (x := i132) (y := 1) (z := (iw (i132 - 1))) rfl rfl rfl ?_)
       obtain ⟨x180, q181, h⟩ := bind_some h
       obtain ⟨n182, q183, q184⟩ := idx_some q181
       obtain ⟨b185, o186, c187, vs188, q189, q190, f191, q192⟩ := Rs.get f140 q184
       obtain ⟨rfl, -⟩ := rCoef_open q192
       refine Rl.yes (dj := 32) (b' := (decide ((i132 : Int) > 0))) rfl rfl (decide_eq_true hc179) (OpY.ixRoD (r := rCoef) (v := c_v) (n := n182) (m := (o186 + n182 * rCoef.sz)) Try.underlying59 ti71 rfl q189 rfl q183 q184 rfl ?_)
       have f193 := (f191.part (us := [(Value.int .i64 x180.Var)]) 0 rfl)
       refine Rl.yes (dj := 32) (b' := (decide ((i132 : Int) > 0))) rfl rfl (decide_eq_true hc179) (OpY.fieldAddr (q := (o186 + n182 * rCoef.sz) + 0) Try.underlying71 rfl ti3 rfl rfl rfl ?_)
       refine Rl.yes (dj := 32) (b' := (decide ((i132 : Int) > 0))) rfl rfl (decide_eq_true hc179) (OpY.ldRo1 (v := (Value.int .i64 x180.Var)) Try.underlying3 rfl rfl vw_view f193 ?_)
       refine Rl.yes (dj := 32) (b' := (decide ((i132 : Int) > 0))) rfl rfl (decide_eq_true hc179) (OpY.leq (x := x142.Var) (y := x180.Var) ((x142.Var : Int) ≤ x180.Var) rfl rfl Iff.rfl ?_)
       refine Rl.yes (dj := 29) (b' := (decide ((x142.Var : Int) ≥ n))) rfl rfl (decide_eq_false hc178) (OpY.pick_t (t := (decide ((i132 : Int) > 0))) (v := (Value.bool (decide ((x142.Var : Int) ≤ x180.Var)))) rfl (decide_eq_true hc179) rfl ?_)
       refine Rl.op (OpY.pick_f (t := (decide ((x142.Var : Int) ≥ n))) (v := (Value.bool (decide ((x142.Var : Int) ≤ x180.Var)))) rfl (decide_eq_false hc178) rfl ?_)
       refine Rl.nil ?_
       obtain rfl := Option.some.inj h
       refine Swp.pop_back ?_
       exact ⟨(decide ((x142.Var : Int) ≤ x180.Var)), _, rfl, (upds_sym ⟨rfl, ⟨rfl, ⟨rfl, ⟨rfl, trivial⟩⟩⟩⟩), hL138, Keep.refl, trivial⟩
      ·
       replace h := ite_f hc179 h
       refine Rl.no (dj := 32) (b' := (decide ((i132 : Int) > 0))) rfl rfl (decide_eq_false hc179) ?_
       refine Rl.no (dj := 32) (b' := (decide ((i132 : Int) > 0))) rfl rfl (decide_eq_false hc179) ?_
       refine Rl.no (dj := 32) (b' := (decide ((i132 : Int) > 0))) rfl rfl (decide_eq_false hc179) ?_
       refine Rl.no (dj := 32) (b' := (decide ((i132 : Int) > 0))) rfl rfl (decide_eq_false hc179) ?_
       refine Rl.no (dj := 32) (b' := (decide ((i132 : Int) > 0))) rfl rfl (decide_eq_false hc179) ?_
       refine Rl.no (dj := 32) (b' := (decide ((i132 : Int) > 0))) rfl rfl (decide_eq_false hc179) ?_
       refine Rl.no (dj := 32) (b' := (decide ((i132 : Int) > 0))) rfl rfl (decide_eq_false hc179) ?_
       refine Rl.no (dj := 32) (b' := (decide ((i132 : Int) > 0))) rfl rfl (decide_eq_false hc179) ?_
       refine Rl.no (dj := 32) (b' := (decide ((i132 : Int) > 0))) rfl rfl (decide_eq_false hc179) ?_
       refine Rl.no (dj := 32) (b' := (decide ((i132 : Int) > 0))) rfl rfl (decide_eq_false hc179) ?_
       refine Rl.yes (dj := 29) (b' := (decide ((x142.Var : Int) ≥ n))) rfl rfl (decide_eq_false hc178) (OpY.pick_f (t := (decide ((i132 : Int) > 0))) (v := (Value.bool false)) rfl (decide_eq_false hc179) rfl ?_)
       refine Rl.op (OpY.pick_f (t := (decide ((x142.Var : Int) ≥ n))) (v := (Value.bool false)) rfl (decide_eq_false hc178) rfl ?_)
       refine Rl.nil ?_
       obtain rfl := Option.some.inj h
       refine Swp.pop_back ?_
       exact ⟨false, _, rfl, (upds_sym ⟨rfl, ⟨rfl, ⟨rfl, ⟨rfl, trivial⟩⟩⟩⟩), hL138, Keep.refl, trivial⟩
   ·
    rintro _ w194 ⟨x174, u, rfl, rfl, hL195, K196, -⟩
    replace h := g176
    try dsimp only at h
    refine Swp.cond_b x174 rfl (fun hc197 => ?_) (fun hc197 => ?_)
    ·
     replace h := ite_t hc197 h
     refine Swp.seq ?_
     refine Swp.region rfl ?_
     refine Rl.op (OpY.assign (v := (Value.bool false)) rfl ?_)
     refine Rl.nil ?_
     refine Swp.ret ?_
     obtain rfl := Option.some.inj h
     obtain rfl := hd136 _ rfl
     replace h := g134
     try dsimp only at h
     obtain rfl := Option.some.inj h
     refine ⟨[(Value.bool false)], ⟨rfl, trivial⟩, ⟨_, rfl, hL195.done, ?_⟩⟩
     exact ⟨rfl, trivial⟩
    ·
     replace h := ite_f hc197 h
     refine Swp.skip ?_
     refine Swp.pop_blk ?_
     refine Swp.region rfl ?_
     refine Rl.op (OpY.move (v := (Value.int .i64 i132)) rfl ?_)
     refine Rl.op (OpY.add (x := i132) (y := 1) (z := (iw (i132 + 1))) rfl rfl rfl ?_)
     refine Rl.op (OpY.assign (v := (Value.int .i64 (iw (i132 + 1)))) rfl ?_)
     refine Rl.nil ?_
     obtain rfl := Option.some.inj h
     refine Swp.pop_back ⟨(iw (i132 + 1)), rfl, ?_⟩
     exact ⟨_, (upds_sym ⟨rfl, ⟨rfl, ⟨rfl, trivial⟩⟩⟩), hL195, (Keep.trans K139 K196), trivial⟩
  ·
   replace h := ite_f hc141 h
   refine Swp.exit rfl ?_
   have hp198 := hL138.pick [] rfl rfl rfl
   have hL200 : Go.X.Loc [] [] w w137 [] [] := hp198.1
   have K199 := Keep.step (s := w.heap.size) hp198.2
   obtain rfl := Option.some.inj h
   obtain rfl := hd136 _ rfl
   replace h := g134
   try dsimp only at h
   skip
   refine Swp.pop_back ?_
   exact ⟨_, rfl, (upds_sym ⟨rfl, trivial⟩), hL200, (Keep.trans K139 K199), trivial⟩
 ·
  rintro _ w201 ⟨u, rfl, rfl, hL202, K203, -⟩
  replace h := g134
  try dsimp only at h
  refine Swp.seq ?_
  refine Swp.region rfl ?_
  refine Rl.op (OpY.move (v := (Value.int .i64 n)) rfl ?_)
  refine Rl.op (OpY.geq (x := n) (y := 0) ((n : Int) ≥ 0) rfl rfl Iff.rfl ?_)
  refine Rl.op (OpY.move (v := (Value.bool (decide ((n : Int) ≥ 0)))) rfl ?_)
  by_cases hc204 : (n : Int) ≥ 0
  ·
   replace h := ite_t hc204 h
   refine Rl.yes (dj := 47) (b' := (decide ((n : Int) ≥ 0))) rfl rfl (decide_eq_true hc204) (OpY.move (v := (Value.int .i64 n)) rfl ?_)
   refine Rl.yes (dj := 47) (b' := (decide ((n : Int) ≥ 0))) rfl rfl (decide_eq_true hc204) (OpY.leq (x := n) (y := 512) ((n : Int) ≤ 512) rfl rfl Iff.rfl ?_)
   refine Rl.op (OpY.pick_t (t := (decide ((n : Int) ≥ 0))) (v := (Value.bool (decide ((n : Int) ≤ 512)))) rfl (decide_eq_true hc204) rfl ?_)
   refine Rl.op (OpY.assign (v := (Value.bool (decide ((n : Int) ≤ 512)))) rfl ?_)
   refine Rl.nil ?_
   refine Swp.ret ?_
   obtain rfl := Option.some.inj h
   refine ⟨[(Value.bool (decide ((n : Int) ≤ 512)))], ⟨rfl, trivial⟩, ⟨_, rfl, hL202.done, ?_⟩⟩
   exact ⟨rfl, trivial⟩
  ·
   replace h := ite_f hc204 h
   refine Rl.no (dj := 47) (b' := (decide ((n : Int) ≥ 0))) rfl rfl (decide_eq_false hc204) ?_
   refine Rl.no (dj := 47) (b' := (decide ((n : Int) ≥ 0))) rfl rfl (decide_eq_false hc204) ?_
   refine Rl.op (OpY.pick_f (t := (decide ((n : Int) ≥ 0))) (v := (Value.bool false)) rfl (decide_eq_false hc204) rfl ?_)
   refine Rl.op (OpY.assign (v := (Value.bool false)) rfl ?_)
   refine Rl.nil ?_
   refine Swp.ret ?_
   obtain rfl := Option.some.inj h
   refine ⟨[(Value.bool false)], ⟨rfl, trivial⟩, ⟨_, rfl, hL202.done, ?_⟩⟩
   exact ⟨rfl, trivial⟩
end Go.Proofs.Ytakkacdhlocckaa.WD

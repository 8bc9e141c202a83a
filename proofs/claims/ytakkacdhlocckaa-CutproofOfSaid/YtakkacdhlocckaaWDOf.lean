/- Walks, written by a program of mine (wip/tool); the kernel checks them. -/
import Derived.Test.YtakkacdhlocckaaProg
import Derived.Test.YtakkacdhlocckaaZ7
import Derived.Test.YtakkacdhlocckaaPD
import Derived.Test.YtakkacdhlocckaaWAOf
import Derived.Test.YtakkacdhlocckaaWROf
import Derived.Test.YtakkacdhlocckaaWBOf
import Derived.Test.YtakkacdhlocckaaWCOf
set_option maxRecDepth 100000
set_option maxHeartbeats 4000000
set_option linter.unusedVariables false
namespace Go.Proofs.Ytakkacdhlocckaa.WD
open Go Go.RowKit Go.X Go.D Go.Proofs.Ytakkacdhlocckaa.WA Go.Proofs.Ytakkacdhlocckaa.WR Go.Proofs.Ytakkacdhlocckaa.WB Go.Proofs.Ytakkacdhlocckaa.WC
theorem mixed : Try.prog.follows .mixedOrders = true := by kernel_rfl
theorem ti34 : TI Try.prog 34 3 56 (Value.agg #[(Value.slice none 0 0), (Value.bool false), (Value.slice none 0 0)]) := TI.mk (by kernel_rfl)
theorem ti26 : TI Try.prog 26 2 32 (Value.agg #[(Value.bool false), (Value.slice none 0 0)]) := TI.mk (by kernel_rfl)
theorem pl34 : placesT Try.prog 34 = some [(0, 1), (1, 2)] := by kernel_rfl
theorem ti61 : TI Try.prog 61 2 32 (Value.agg #[(Value.int .i64 0), (Value.slice none 0 0)]) := TI.mk (by kernel_rfl)
theorem ti59 : TI Try.prog 59 1 24 (Value.slice none 0 0) := TI.mk (by kernel_rfl)
theorem ti71 : TI Try.prog 71 2 16 (Value.agg #[(Value.int .i64 0), (Value.int .i64 0)]) := TI.mk (by kernel_rfl)
theorem ti3 : TI Try.prog 3 1 8 (Value.int .i64 0) := TI.mk (by kernel_rfl)
theorem en81 : Enters Try.prog 81 := ⟨Try.f81, Try.func81, by kernel_rfl, by kernel_rfl⟩
theorem ti32 : TI Try.prog 32 1 24 (Value.slice none 0 0) := TI.mk (by kernel_rfl)
theorem en62 : Enters Try.prog 62 := ⟨Try.f62, Try.func62, by kernel_rfl, by kernel_rfl⟩
theorem ti63 : TI Try.prog 63 3 40 (Value.agg #[(Value.int .i64 0), (Value.slice none 0 0), (Value.bool false)]) := TI.mk (by kernel_rfl)
theorem en36 : Enters Try.prog 36 := ⟨Try.f36, Try.func36, by kernel_rfl, by kernel_rfl⟩
theorem en50 : Enters Try.prog 50 := ⟨Try.f50, Try.func50, by kernel_rfl, by kernel_rfl⟩
theorem ti2 : TI Try.prog 2 1 8 (Value.int .i64 0) := TI.mk (by kernel_rfl)
theorem en37 : Enters Try.prog 37 := ⟨Try.f37, Try.func37, by kernel_rfl, by kernel_rfl⟩
theorem ti4 : TI Try.prog 4 1 1 (Value.bool false) := TI.mk (by kernel_rfl)
theorem en60 : Enters Try.prog 60 := ⟨Try.f60, Try.func60, by kernel_rfl, by kernel_rfl⟩
theorem en33 : Enters Try.prog 33 := ⟨Try.f33, Try.func33, by kernel_rfl, by kernel_rfl⟩
theorem ti23 : TI Try.prog 23 1 24 (Value.slice none 0 0) := TI.mk (by kernel_rfl)
theorem ti50 : TI Try.prog 50 3 40 (Value.agg #[(Value.int .i64 0), (Value.bool false), (Value.slice none 0 0)]) := TI.mk (by kernel_rfl)
theorem ti39 : TI Try.prog 39 1 24 (Value.slice none 0 0) := TI.mk (by kernel_rfl)
theorem ti28 : TI Try.prog 28 3 56 (Value.agg #[(Value.slice none 0 0), (Value.bool false), (Value.slice none 0 0)]) := TI.mk (by kernel_rfl)
theorem pl26 : placesT Try.prog 26 = some [(0, 1), (1, 1)] := by kernel_rfl
theorem ti40 : TI Try.prog 40 1 24 (Value.slice none 0 0) := TI.mk (by kernel_rfl)
theorem ti42 : TI Try.prog 42 5 104 (Value.agg #[(Value.slice none 0 0), (Value.slice none 0 0), (Value.bool false), (Value.slice none 0 0), (Value.slice none 0 0)]) := TI.mk (by kernel_rfl)
theorem en23 : Enters Try.prog 23 := ⟨Try.f23, Try.func23, by kernel_rfl, by kernel_rfl⟩
theorem en16 : Enters Try.prog 16 := ⟨Try.f16, Try.func16, by kernel_rfl, by kernel_rfl⟩
theorem ti24 : TI Try.prog 24 1 24 (Value.slice none 0 0) := TI.mk (by kernel_rfl)
theorem rzero_w (N : Nat) (n : Int)  (w : World) (S : Nat → Prop)  (r : Ineq) (h : rzero N n = some r) :
  Calls Try.prog 50 #[(Value.int .i64 n)] w (Ret w (fun v w' => ∃ (ob0_0 : Option Nat) (cap0_0 : Nat) (cs0_0 : List Value) (sp0_0 : List Value) (ob0_1 : Option Nat) (cap0_1 : Nat) (cs0_1 : List Value) (sp0_1 : List Value), (Value.agg #[(osv ob0_0 0 (List.length r.Coefs) cap0_0), (Value.bool r.Bound.Negative), (osv ob0_1 0 (List.length r.Bound.Digits) cap0_1)]) = v ∧ NewOwn w w' [ob0_0, ob0_1] [.cells ([] ++ (cs0_0 ++ sp0_0)), .cells ([] ++ (cs0_1 ++ sp0_1))] ∧ Els rBig (Hv w.heap.size None [ob0_0, ob0_1] w') cs0_0 r.Coefs ∧ (cs0_0 ++ sp0_0).length = cap0_0 * rBig.sz ∧ Els (rInt .u32) (Hv w.heap.size None [ob0_0, ob0_1] w') cs0_1 r.Bound.Digits ∧ (cs0_1 ++ sp0_1).length = cap0_1 * (rInt .u32).sz ∧ True)) := by
 unfold rzero at h
 have hL : Go.X.Loc [] [] w w [] [] := Go.X.Loc.begin0 w
 refine calls_of (l := [(Value.int .i64 n)]) (rl := [.cell 2 34]) (n := 6) Try.func50 rfl rfl rfl (Nat.le_of_ble_eq_true rfl) ?_
 refine Swp.seq ?_
 refine Swp.region rfl ?_
 refine Rl.op (OpY.alloc (cs := [(Value.slice none 0 0), (Value.bool false), (Value.slice none 0 0)]) ti34 rfl hL ?_)
 intro b1 w2 (hL3 : Go.X.Loc [] [] w w2 [some b1] [Cont.cells [(Value.slice none 0 0), (Value.bool false), (Value.slice none 0 0)]]) hS5
 refine Rl.nil ?_
 refine Swp.seq ?_
 refine Swp.region rfl ?_
 refine Rl.op (OpY.move (v := (Value.int .i64 n)) rfl ?_)
 obtain ⟨x7, q8, h⟩ := bind_some h
 obtain ⟨m6, q9, q10, q11, q12⟩ := mk1_some q8
 refine Rl.op (OpY.mkRowX (r := rBig) (H := (Hv w.heap.size None [some b1] w2)) (zc := [(Value.bool false), (Value.slice none 0 0)]) (x := (Big.mk false [])) Try.underlying32 ti26 rfl (rBig_close ⟨(Value.slice none 0 0), rfl, Rs.nil, trivial⟩) rfl rfl q9 q10 q11 q12 hL3 ?_)
 intro b13 w18 cs14 hE15 hc16 (hL19 : Go.X.Loc [] [] w w18 [some b13, some b1] [Cont.cells ([] ++ (cs14 ++ [])), Cont.cells [(Value.slice none 0 0), (Value.bool false), (Value.slice none 0 0)]]) hS21
 have K20 := Keep.step (s := w.heap.size) hS21
 refine Rl.op (OpY.build (zc := [(Value.slice none 0 0), (Value.bool false), (Value.slice none 0 0)]) (cs := [(osv (some b13) 0 (List.length x7) m6), (Value.bool false), (Value.slice none 0 0)]) (is := [0]) (vs := [(osv (some b13) 0 (List.length x7) m6)]) (css := [[(osv (some b13) 0 (List.length x7) m6)]]) pl34 ti34 rfl rfl rfl ⟨(one_cells (osv_one _ _ _ _)), trivial⟩ rfl ?_)
 refine Rl.op0 (OpY.store (vs := [(osv (some b13) 0 (List.length x7) m6), (Value.bool false), (Value.slice none 0 0)]) ti34 rfl rfl rfl rfl (ones_cons (osv_one _ _ _ _) (ones_cons rfl (ones_cons rfl ones_nil))) hL19 1 rfl rfl (Nat.le_of_ble_eq_true rfl) ?_)
 intro w22 (hL23 : Go.X.Loc [] [] w w22 [some b13, some b1] [Cont.cells ([] ++ (cs14 ++ [])), Cont.cells [(osv (some b13) 0 (List.length x7) m6), (Value.bool false), (Value.slice none 0 0)]]) hS25
 have K24 := Keep.step (s := w.heap.size) hS25
 refine Rl.nil ?_
 have hp26 := hL23.addNil
 have hL27 : Go.X.Loc [] [] w w22 [none, some b13, some b1] [Cont.cells ([] ++ ([] ++ [])), Cont.cells ([] ++ (cs14 ++ [])), Cont.cells [(osv (some b13) 0 (List.length x7) m6), (Value.bool false), (Value.slice none 0 0)]] := hp26.1
 have K28 := Keep.step (s := w.heap.size) hp26.2
 have hE30 : Els (rInt .u32) (Hv w.heap.size None [none, some b13, some b1] w22) [] [] := Els.nil
 refine Swp.ret ?_
 obtain rfl := Option.some.inj h
 refine ⟨[(Value.agg #[(osv (some b13) 0 (List.length x7) m6), (Value.bool false), (osv none 0 (List.length ([] : (List Int))) 0)])], ⟨⟨⟨b1, 0, none⟩, rfl, res_boxA Try.underlying34 rfl ti34 (hL27.at 2 rfl rfl) rfl⟩, trivial⟩, ⟨_, rfl, hL27.done, ?_⟩⟩
 have f31 := (((hE15.mono (K20 None)).mono (K24 None)).mono (K28 None))
 exact ⟨some b13, m6, cs14, [], none, 0, [], [], rfl, (hL27.newOwn [1, 0] rfl rfl rfl), (f31.mono (Hv.pick [1, 0] rfl)), hc16, (hE30.mono (Hv.pick [1, 0] rfl)), (show ([] ++ [] : List Value).length = 0 * (rInt .u32).sz by simp), trivial⟩
theorem rRight_w (N : Nat) (c : Constraint) (n : Int) (c_v : Value) (w : World) (S : Nat → Prop) (c_h : Rs rCoef (Hv w.heap.size S [] w) c_v c.Linear.Coefs) (r : Bool) (h : rRight N c n = some r) :
  Calls Try.prog 36 #[(Value.agg #[(Value.int .i64 c.Linear.Const), c_v, (Value.bool c.Equal)]), (Value.int .i64 n)] w (Ret w (fun v w' => (Value.bool r) = v ∧ True)) := by
 unfold rRight at h
 have hL : Go.X.Loc [] [] w w [] [] := Go.X.Loc.begin0 w
 refine calls_of (l := [(Value.agg #[(Value.int .i64 c.Linear.Const), c_v, (Value.bool c.Equal)]), (Value.int .i64 n)]) (rl := [.tmp 4]) (n := 51) Try.func36 rfl rfl rfl (Nat.le_of_ble_eq_true rfl) ?_
 refine Swp.seq ?_
 refine Swp.region rfl ?_
 refine Rl.op (OpY.box (cs := [(Value.int .i64 c.Linear.Const), c_v, (Value.bool c.Equal)]) rfl rfl hL ?_)
 intro b1 w2 (hL3 : Go.X.Loc [] [] w w2 [some b1] [Cont.cells [(Value.int .i64 c.Linear.Const), c_v, (Value.bool c.Equal)]]) hS5
 have K4 := Keep.step (s := w.heap.size) hS5
 refine Rl.op (OpY.assign (v := (Value.bool false)) rfl ?_)
 refine Rl.nil ?_
 refine Swp.seq ?_
 refine Swp.seq ?_
 refine Swp.region rfl ?_
 refine Rl.op (OpY.assign (v := (Value.int .i64 0)) rfl ?_)
 refine Rl.nil ?_
 obtain ⟨s133, hl135, g134⟩ := bind_some h
 refine Swp.join (fun e w' => ∃  (u : Env), (Sum.inl ()) = s133 ∧ e = upds [(1, (Value.int .i64 n))] u ∧ Go.X.Loc [] [] w w' [] [] ∧ Keep w.heap.size [some b1] w2 [] w' ∧ True) ?_ ?_
 ·
  refine Swp.block ?_
  refine Swp.loopM hl135 (fun (ss : Int) (e : Env) (w' : World) => match ss with | i132 => ∃ (u : Env), e = upds [(1, (Value.int .i64 n)), (2, (Value.pointer (some ⟨b1, 0, none⟩))), (5, (Value.int .i64 i132))] u ∧ Go.X.Loc [] [] w w' [some b1] [Cont.cells [(Value.int .i64 c.Linear.Const), c_v, (Value.bool c.Equal)]] ∧ Keep w.heap.size [some b1] w2 [some b1] w' ∧ True) ⟨_, (upds_sym ⟨rfl, ⟨rfl, ⟨rfl, trivial⟩⟩⟩), hL3, Keep.refl, trivial⟩ ?_
  rintro i132 oo _ w137 ⟨u, rfl, hL138, K139, -⟩ h hd136
  rw [rRight_b1] at h
  refine Swp.seq ?_
  refine Swp.seq ?_
  refine Swp.region rfl ?_
  refine Rl.op (OpY.move (v := (Value.int .i64 i132)) rfl ?_)
  refine Rl.op (OpY.fieldAddr (q := 0) Try.underlying63 rfl ti61 rfl rfl rfl ?_)
  refine Rl.op (OpY.fieldAddr (q := 1) Try.underlying61 rfl ti59 rfl rfl rfl ?_)
  refine Rl.op (OpY.ldBox1 (v := c_v) Try.underlying59 rfl rfl (hL138.at 0 rfl rfl) rfl ?_)
  have f140 := ((c_h.mono (K4 S)).mono (K139 S))
  refine Rl.op (OpY.lenRo (v := c_v) Try.underlying59 rfl f140 ?_)
  refine Rl.op (OpY.lss (x := i132) (y := (List.length c.Linear.Coefs : Int)) ((i132 : Int) < (List.length c.Linear.Coefs : Int)) rfl rfl Iff.rfl ?_)
  refine Rl.nil ?_
  refine Swp.cond_d ((i132 : Int) < (List.length c.Linear.Coefs : Int)) rfl (fun hc141 => ?_) (fun hc141 => ?_)
  ·
   replace h := ite_t hc141 h
   refine Swp.skip ?_
   refine Swp.seq ?_
   refine Swp.block ?_
   refine Swp.seq ?_
   refine Swp.region rfl ?_
   refine Rl.op (OpY.fieldAddr (q := 0) Try.underlying63 rfl ti61 rfl rfl rfl ?_)
   refine Rl.op (OpY.fieldAddr (q := 1) Try.underlying61 rfl ti59 rfl rfl rfl ?_)
   refine Rl.op (OpY.ldBox1 (v := c_v) Try.underlying59 rfl rfl (hL138.at 0 rfl rfl) rfl ?_)
   refine Rl.op (OpY.move (v := (Value.int .i64 i132)) rfl ?_)
   obtain ⟨x142, q143, h⟩ := bind_some h
   obtain ⟨n144, q145, q146⟩ := idx_some q143
   obtain ⟨b147, o148, c149, vs150, q151, q152, f153, q154⟩ := Rs.get f140 q146
   obtain ⟨rfl, -⟩ := rCoef_open q154
   refine Rl.op (OpY.ixRoD (r := rCoef) (v := c_v) (n := n144) (m := (o148 + n144 * rCoef.sz)) Try.underlying59 ti71 rfl q151 rfl q145 q146 rfl ?_)
   have f155 := (f153.part (us := [(Value.int .i64 x142.Var)]) 0 rfl)
   refine Rl.op (OpY.fieldAddr (q := (o148 + n144 * rCoef.sz) + 0) Try.underlying71 rfl ti3 rfl rfl rfl ?_)
   refine Rl.op (OpY.ldRo1 (v := (Value.int .i64 x142.Var)) Try.underlying3 rfl rfl vw_view f155 ?_)
   refine Rl.op (OpY.assign (v := (Value.int .i64 x142.Var)) rfl ?_)
   refine Rl.nil ?_
   refine Swp.seq ?_
   obtain ⟨s175, h, g176⟩ := bind_some h
   refine Swp.join (fun e w' => ∃ (x174 : Bool) (u : Env), x174 = s175 ∧ e = upds [(1, (Value.int .i64 n)), (2, (Value.pointer (some ⟨b1, 0, none⟩))), (5, (Value.int .i64 i132)), (44, (Value.bool x174))] u ∧ Go.X.Loc [] [] w w' [some b1] [Cont.cells [(Value.int .i64 c.Linear.Const), c_v, (Value.bool c.Equal)]] ∧ Keep w.heap.size [some b1] w137 [some b1] w' ∧ True) ?_ ?_
   ·
    refine Swp.region rfl ?_
    refine Rl.op (OpY.move (v := (Value.int .i64 x142.Var)) rfl ?_)
    refine Rl.op (OpY.lss (x := x142.Var) (y := 0) ((x142.Var : Int) < 0) rfl rfl Iff.rfl ?_)
    refine Rl.op (OpY.move (v := (Value.bool (decide ((x142.Var : Int) < 0)))) rfl ?_)
    by_cases hc177 : (x142.Var : Int) < 0
    ·
     replace h := ite_t hc177 h
     refine Rl.no (dj := 24) (b' := (decide ((x142.Var : Int) < 0))) rfl rfl (decide_eq_true hc177) ?_
     refine Rl.no (dj := 24) (b' := (decide ((x142.Var : Int) < 0))) rfl rfl (decide_eq_true hc177) ?_
     refine Rl.no (dj := 24) (b' := (decide ((x142.Var : Int) < 0))) rfl rfl (decide_eq_true hc177) ?_
     refine Rl.op (OpY.pick_t (t := (decide ((x142.Var : Int) < 0))) (v := (Value.bool true)) rfl (decide_eq_true hc177) rfl ?_)
     refine Rl.op (OpY.move (v := (Value.bool true)) rfl ?_)
     refine Rl.no (dj := 29) (b' := true) rfl rfl rfl ?_
     refine Rl.no (dj := 29) (b' := true) rfl rfl rfl ?_
     refine Rl.no (dj := 29) (b' := true) rfl rfl rfl ?_
     refine Rl.no_undef (dj := 32) rfl rfl ?_
     refine Rl.no_undef (dj := 32) rfl rfl ?_
     refine Rl.no_undef (dj := 32) rfl rfl ?_
     refine Rl.no_undef (dj := 32) rfl rfl ?_
     refine Rl.no_undef (dj := 32) rfl rfl ?_
     refine Rl.no_undef (dj := 32) rfl rfl ?_
     refine Rl.no_undef (dj := 32) rfl rfl ?_
     refine Rl.no_undef (dj := 32) rfl rfl ?_
     refine Rl.no_undef (dj := 32) rfl rfl ?_
     refine Rl.no_undef (dj := 32) rfl rfl ?_
     refine Rl.no (dj := 29) (b' := true) rfl rfl rfl ?_
     refine Rl.op (OpY.pick_t (t := true) (v := (Value.bool true)) rfl rfl rfl ?_)
     refine Rl.nil ?_
     obtain rfl := Option.some.inj h
     refine Swp.pop_back ?_
     exact ⟨true, _, rfl, (upds_sym ⟨rfl, ⟨rfl, ⟨rfl, ⟨rfl, trivial⟩⟩⟩⟩), hL138, Keep.refl, trivial⟩
    ·
     replace h := ite_f hc177 h
     refine Rl.yes (dj := 24) (b' := (decide ((x142.Var : Int) < 0))) rfl rfl (decide_eq_false hc177) (OpY.move (v := (Value.int .i64 x142.Var)) rfl ?_)
     refine Rl.yes (dj := 24) (b' := (decide ((x142.Var : Int) < 0))) rfl rfl (decide_eq_false hc177) (OpY.move (v := (Value.int .i64 n)) rfl ?_)
     refine Rl.yes (dj := 24) (b' := (decide ((x142.Var : Int) < 0))) rfl rfl (decide_eq_false hc177) (OpY.geq (x := x142.Var) (y := n) ((x142.Var : Int) ≥ n) rfl rfl Iff.rfl ?_)
     refine Rl.op (OpY.pick_f (t := (decide ((x142.Var : Int) < 0))) (v := (Value.bool (decide ((x142.Var : Int) ≥ n)))) rfl (decide_eq_false hc177) rfl ?_)
     refine Rl.op (OpY.move (v := (Value.bool (decide ((x142.Var : Int) ≥ n)))) rfl ?_)
     by_cases hc178 : (x142.Var : Int) ≥ n
     ·
      replace h := ite_t hc178 h
      refine Rl.no (dj := 29) (b' := (decide ((x142.Var : Int) ≥ n))) rfl rfl (decide_eq_true hc178) ?_
      refine Rl.no (dj := 29) (b' := (decide ((x142.Var : Int) ≥ n))) rfl rfl (decide_eq_true hc178) ?_
      refine Rl.no (dj := 29) (b' := (decide ((x142.Var : Int) ≥ n))) rfl rfl (decide_eq_true hc178) ?_
      refine Rl.no_undef (dj := 32) rfl rfl ?_
      refine Rl.no_undef (dj := 32) rfl rfl ?_
      refine Rl.no_undef (dj := 32) rfl rfl ?_
      refine Rl.no_undef (dj := 32) rfl rfl ?_
      refine Rl.no_undef (dj := 32) rfl rfl ?_
      refine Rl.no_undef (dj := 32) rfl rfl ?_
      refine Rl.no_undef (dj := 32) rfl rfl ?_
      refine Rl.no_undef (dj := 32) rfl rfl ?_
      refine Rl.no_undef (dj := 32) rfl rfl ?_
      refine Rl.no_undef (dj := 32) rfl rfl ?_
      refine Rl.no (dj := 29) (b' := (decide ((x142.Var : Int) ≥ n))) rfl rfl (decide_eq_true hc178) ?_
      refine Rl.op (OpY.pick_t (t := (decide ((x142.Var : Int) ≥ n))) (v := (Value.bool true)) rfl (decide_eq_true hc178) rfl ?_)
      refine Rl.nil ?_
      obtain rfl := Option.some.inj h
      refine Swp.pop_back ?_
      exact ⟨true, _, rfl, (upds_sym ⟨rfl, ⟨rfl, ⟨rfl, ⟨rfl, trivial⟩⟩⟩⟩), hL138, Keep.refl, trivial⟩
     ·
      replace h := ite_f hc178 h
      refine Rl.yes (dj := 29) (b' := (decide ((x142.Var : Int) ≥ n))) rfl rfl (decide_eq_false hc178) (OpY.move (v := (Value.int .i64 i132)) rfl ?_)
      refine Rl.yes (dj := 29) (b' := (decide ((x142.Var : Int) ≥ n))) rfl rfl (decide_eq_false hc178) (OpY.gtr (x := i132) (y := 0) ((i132 : Int) > 0) rfl rfl Iff.rfl ?_)
      refine Rl.yes (dj := 29) (b' := (decide ((x142.Var : Int) ≥ n))) rfl rfl (decide_eq_false hc178) (OpY.move (v := (Value.bool (decide ((i132 : Int) > 0)))) rfl ?_)
      by_cases hc179 : (i132 : Int) > 0
      ·
       replace h := ite_t hc179 h
       refine Rl.yes (dj := 32) (b' := (decide ((i132 : Int) > 0))) rfl rfl (decide_eq_true hc179) (OpY.move (v := (Value.int .i64 x142.Var)) rfl ?_)
       refine Rl.yes (dj := 32) (b' := (decide ((i132 : Int) > 0))) rfl rfl (decide_eq_true hc179) (OpY.fieldAddr (q := 0) Try.underlying63 rfl ti61 rfl rfl rfl ?_)
       refine Rl.yes (dj := 32) (b' := (decide ((i132 : Int) > 0))) rfl rfl (decide_eq_true hc179) (OpY.fieldAddr (q := 1) Try.underlying61 rfl ti59 rfl rfl rfl ?_)
       refine Rl.yes (dj := 32) (b' := (decide ((i132 : Int) > 0))) rfl rfl (decide_eq_true hc179) (OpY.ldBox1 (v := c_v) Try.underlying59 rfl rfl (hL138.at 0 rfl rfl) rfl ?_)
       refine Rl.yes (dj := 32) (b' := (decide ((i132 : Int) > 0))) rfl rfl (decide_eq_true hc179) (OpY.move (v := (Value.int .i64 i132)) rfl ?_)
       refine Rl.yes (dj := 32) (b' := (decide ((i132 : Int) > 0))) rfl rfl (decide_eq_true hc179) (OpY.sub (x := i132) (y := 1) (z := (iw (i132 - 1))) rfl rfl rfl ?_)
       obtain ⟨x180, q181, h⟩ := bind_some h
       obtain ⟨n182, q183, q184⟩ := idx_some q181
       obtain ⟨b185, o186, c187, vs188, q189, q190, f191, q192⟩ := Rs.get f140 q184
       obtain ⟨rfl, -⟩ := rCoef_open q192
       refine Rl.yes (dj := 32) (b' := (decide ((i132 : Int) > 0))) rfl rfl (decide_eq_true hc179) (OpY.ixRoD (r := rCoef) (v := c_v) (n := n182) (m := (o186 + n182 * rCoef.sz)) Try.underlying59 ti71 rfl q189 rfl q183 q184 rfl ?_)
       have f193 := (f191.part (us := [(Value.int .i64 x180.Var)]) 0 rfl)
       refine Rl.yes (dj := 32) (b' := (decide ((i132 : Int) > 0))) rfl rfl (decide_eq_true hc179) (OpY.fieldAddr (q := (o186 + n182 * rCoef.sz) + 0) Try.underlying71 rfl ti3 rfl rfl rfl ?_)
       refine Rl.yes (dj := 32) (b' := (decide ((i132 : Int) > 0))) rfl rfl (decide_eq_true hc179) (OpY.ldRo1 (v := (Value.int .i64 x180.Var)) Try.underlying3 rfl rfl vw_view f193 ?_)
       refine Rl.yes (dj := 32) (b' := (decide ((i132 : Int) > 0))) rfl rfl (decide_eq_true hc179) (OpY.leq (x := x142.Var) (y := x180.Var) ((x142.Var : Int) ≤ x180.Var) rfl rfl Iff.rfl ?_)
       refine Rl.yes (dj := 29) (b' := (decide ((x142.Var : Int) ≥ n))) rfl rfl (decide_eq_false hc178) (OpY.pick_t (t := (decide ((i132 : Int) > 0))) (v := (Value.bool (decide ((x142.Var : Int) ≤ x180.Var)))) rfl (decide_eq_true hc179) rfl ?_)
       refine Rl.op (OpY.pick_f (t := (decide ((x142.Var : Int) ≥ n))) (v := (Value.bool (decide ((x142.Var : Int) ≤ x180.Var)))) rfl (decide_eq_false hc178) rfl ?_)
       refine Rl.nil ?_
       obtain rfl := Option.some.inj h
       refine Swp.pop_back ?_
       exact ⟨(decide ((x142.Var : Int) ≤ x180.Var)), _, rfl, (upds_sym ⟨rfl, ⟨rfl, ⟨rfl, ⟨rfl, trivial⟩⟩⟩⟩), hL138, Keep.refl, trivial⟩
      ·
       replace h := ite_f hc179 h
       refine Rl.no (dj := 32) (b' := (decide ((i132 : Int) > 0))) rfl rfl (decide_eq_false hc179) ?_
       refine Rl.no (dj := 32) (b' := (decide ((i132 : Int) > 0))) rfl rfl (decide_eq_false hc179) ?_
       refine Rl.no (dj := 32) (b' := (decide ((i132 : Int) > 0))) rfl rfl (decide_eq_false hc179) ?_
       refine Rl.no (dj := 32) (b' := (decide ((i132 : Int) > 0))) rfl rfl (decide_eq_false hc179) ?_
       refine Rl.no (dj := 32) (b' := (decide ((i132 : Int) > 0))) rfl rfl (decide_eq_false hc179) ?_
       refine Rl.no (dj := 32) (b' := (decide ((i132 : Int) > 0))) rfl rfl (decide_eq_false hc179) ?_
       refine Rl.no (dj := 32) (b' := (decide ((i132 : Int) > 0))) rfl rfl (decide_eq_false hc179) ?_
       refine Rl.no (dj := 32) (b' := (decide ((i132 : Int) > 0))) rfl rfl (decide_eq_false hc179) ?_
       refine Rl.no (dj := 32) (b' := (decide ((i132 : Int) > 0))) rfl rfl (decide_eq_false hc179) ?_
       refine Rl.no (dj := 32) (b' := (decide ((i132 : Int) > 0))) rfl rfl (decide_eq_false hc179) ?_
       refine Rl.yes (dj := 29) (b' := (decide ((x142.Var : Int) ≥ n))) rfl rfl (decide_eq_false hc178) (OpY.pick_f (t := (decide ((i132 : Int) > 0))) (v := (Value.bool false)) rfl (decide_eq_false hc179) rfl ?_)
       refine Rl.op (OpY.pick_f (t := (decide ((x142.Var : Int) ≥ n))) (v := (Value.bool false)) rfl (decide_eq_false hc178) rfl ?_)
       refine Rl.nil ?_
       obtain rfl := Option.some.inj h
       refine Swp.pop_back ?_
       exact ⟨false, _, rfl, (upds_sym ⟨rfl, ⟨rfl, ⟨rfl, ⟨rfl, trivial⟩⟩⟩⟩), hL138, Keep.refl, trivial⟩
   ·
    rintro _ w194 ⟨x174, u, rfl, rfl, hL195, K196, -⟩
    replace h := g176
    try dsimp only at h
    refine Swp.cond_b x174 rfl (fun hc197 => ?_) (fun hc197 => ?_)
    ·
     replace h := ite_t hc197 h
     refine Swp.seq ?_
     refine Swp.region rfl ?_
     refine Rl.op (OpY.assign (v := (Value.bool false)) rfl ?_)
     refine Rl.nil ?_
     refine Swp.ret ?_
     obtain rfl := Option.some.inj h
     obtain rfl := hd136 _ rfl
     replace h := g134
     try dsimp only at h
     obtain rfl := Option.some.inj h
     refine ⟨[(Value.bool false)], ⟨rfl, trivial⟩, ⟨_, rfl, hL195.done, ?_⟩⟩
     exact ⟨rfl, trivial⟩
    ·
     replace h := ite_f hc197 h
     refine Swp.skip ?_
     refine Swp.pop_blk ?_
     refine Swp.region rfl ?_
     refine Rl.op (OpY.move (v := (Value.int .i64 i132)) rfl ?_)
     refine Rl.op (OpY.add (x := i132) (y := 1) (z := (iw (i132 + 1))) rfl rfl rfl ?_)
     refine Rl.op (OpY.assign (v := (Value.int .i64 (iw (i132 + 1)))) rfl ?_)
     refine Rl.nil ?_
     obtain rfl := Option.some.inj h
     refine Swp.pop_back ⟨(iw (i132 + 1)), rfl, ?_⟩
     exact ⟨_, (upds_sym ⟨rfl, ⟨rfl, ⟨rfl, trivial⟩⟩⟩), hL195, (Keep.trans K139 K196), trivial⟩
  ·
   replace h := ite_f hc141 h
   refine Swp.exit rfl ?_
   have hp198 := hL138.pick [] rfl rfl rfl
   have hL200 : Go.X.Loc [] [] w w137 [] [] := hp198.1
   have K199 := Keep.step (s := w.heap.size) hp198.2
   obtain rfl := Option.some.inj h
   obtain rfl := hd136 _ rfl
   replace h := g134
   try dsimp only at h
   skip
   refine Swp.pop_back ?_
   exact ⟨_, rfl, (upds_sym ⟨rfl, trivial⟩), hL200, (Keep.trans K139 K199), trivial⟩
 ·
  rintro _ w201 ⟨u, rfl, rfl, hL202, K203, -⟩
  replace h := g134
  try dsimp only at h
  refine Swp.seq ?_
  refine Swp.region rfl ?_
  refine Rl.op (OpY.move (v := (Value.int .i64 n)) rfl ?_)
  refine Rl.op (OpY.geq (x := n) (y := 0) ((n : Int) ≥ 0) rfl rfl Iff.rfl ?_)
  refine Rl.op (OpY.move (v := (Value.bool (decide ((n : Int) ≥ 0)))) rfl ?_)
  by_cases hc204 : (n : Int) ≥ 0
  ·
   replace h := ite_t hc204 h
   refine Rl.yes (dj := 47) (b' := (decide ((n : Int) ≥ 0))) rfl rfl (decide_eq_true hc204) (OpY.move (v := (Value.int .i64 n)) rfl ?_)
   refine Rl.yes (dj := 47) (b' := (decide ((n : Int) ≥ 0))) rfl rfl (decide_eq_true hc204) (OpY.leq (x := n) (y := 512) ((n : Int) ≤ 512) rfl rfl Iff.rfl ?_)
   refine Rl.op (OpY.pick_t (t := (decide ((n : Int) ≥ 0))) (v := (Value.bool (decide ((n : Int) ≤ 512)))) rfl (decide_eq_true hc204) rfl ?_)
   refine Rl.op (OpY.assign (v := (Value.bool (decide ((n : Int) ≤ 512)))) rfl ?_)
   refine Rl.nil ?_
   refine Swp.ret ?_
   obtain rfl := Option.some.inj h
   refine ⟨[(Value.bool (decide ((n : Int) ≤ 512)))], ⟨rfl, trivial⟩, ⟨_, rfl, hL202.done, ?_⟩⟩
   exact ⟨rfl, trivial⟩
  ·
   replace h := ite_f hc204 h
   refine Rl.no (dj := 47) (b' := (decide ((n : Int) ≥ 0))) rfl rfl (decide_eq_false hc204) ?_
   refine Rl.no (dj := 47) (b' := (decide ((n : Int) ≥ 0))) rfl rfl (decide_eq_false hc204) ?_
   refine Rl.op (OpY.pick_f (t := (decide ((n : Int) ≥ 0))) (v := (Value.bool false)) rfl (decide_eq_false hc204) rfl ?_)
   refine Rl.op (OpY.assign (v := (Value.bool false)) rfl ?_)
   refine Rl.nil ?_
   refine Swp.ret ?_
   obtain rfl := Option.some.inj h
   refine ⟨[(Value.bool false)], ⟨rfl, trivial⟩, ⟨_, rfl, hL202.done, ?_⟩⟩
   exact ⟨rfl, trivial⟩
theorem rflip_w (N : Nat) (q : Ineq) (bound : Big) (q_v : Value) (q_v1 : Value) (bound_v : Value) (w : World) (S : Nat → Prop) (q_h : Rs rBig (Hv w.heap.size S [] w) q_v q.Coefs) (q_h1 : Rs (rInt .u32) (Hv w.heap.size S [] w) q_v1 q.Bound.Digits) (bound_h : Rs (rInt .u32) (Hv w.heap.size S [] w) bound_v bound.Digits) (r : Ineq) (h : rflip N q bound = some r) :
  Calls Try.prog 60 #[(Value.agg #[q_v, (Value.bool q.Bound.Negative), q_v1]), (Value.agg #[(Value.bool bound.Negative), bound_v])] w (Ret w (fun v w' => ∃ (v0_0 : Value) (v0_1 : Value), (Value.agg #[v0_0, (Value.bool r.Bound.Negative), v0_1]) = v ∧ Rs rBig (Hv w.heap.size None [] w') v0_0 r.Coefs ∧ Rs (rInt .u32) (Hv w.heap.size None [] w') v0_1 r.Bound.Digits ∧ True)) := by
 unfold rflip at h
 have hL : Go.X.Loc [] [] w w [] [] := Go.X.Loc.begin0 w
 refine calls_of (l := [(Value.agg #[q_v, (Value.bool q.Bound.Negative), q_v1]), (Value.agg #[(Value.bool bound.Negative), bound_v])]) (rl := [.cell 4 34]) (n := 29) Try.func60 rfl rfl rfl (Nat.le_of_ble_eq_true rfl) ?_
 refine Swp.seq ?_
 refine Swp.region rfl ?_
 refine Rl.op (OpY.box (cs := [q_v, (Value.bool q.Bound.Negative), q_v1]) rfl rfl hL ?_)
 intro b1 w2 (hL3 : Go.X.Loc [] [] w w2 [some b1] [Cont.cells [q_v, (Value.bool q.Bound.Negative), q_v1]]) hS5
 have K4 := Keep.step (s := w.heap.size) hS5
 refine Rl.op (OpY.box (cs := [(Value.bool bound.Negative), bound_v]) rfl rfl hL3 ?_)
 intro b6 w7 (hL8 : Go.X.Loc [] [] w w7 [some b6, some b1] [Cont.cells [(Value.bool bound.Negative), bound_v], Cont.cells [q_v, (Value.bool q.Bound.Negative), q_v1]]) hS10
 have K9 := Keep.step (s := w.heap.size) hS10
 refine Rl.op (OpY.alloc (cs := [(Value.slice none 0 0), (Value.bool false), (Value.slice none 0 0)]) ti34 rfl hL8 ?_)
 intro b11 w12 (hL13 : Go.X.Loc [] [] w w12 [some b11, some b6, some b1] [Cont.cells [(Value.slice none 0 0), (Value.bool false), (Value.slice none 0 0)], Cont.cells [(Value.bool bound.Negative), bound_v], Cont.cells [q_v, (Value.bool q.Bound.Negative), q_v1]]) hS15
 have K14 := Keep.step (s := w.heap.size) hS15
 refine Rl.nil ?_
 refine Swp.seq ?_
 refine Swp.region rfl ?_
 refine Rl.op (OpY.ldBoxA (vs := [(Value.bool bound.Negative), bound_v]) Try.underlying26 rfl ti26 rfl (hL13.at 1 rfl rfl) rfl rfl ?_)
 obtain ⟨r16, q17, h⟩ := bind_some h
 have f21 := (((bound_h.mono (K4 S)).mono (K9 S)).mono (K14 S))
 refine Rl.op (OpY.call en81 rfl rfl (rNormal_w N bound bound_v _ Any (f21.mono vw_any) r16 q17) ?_)
 rintro _ w22 hE25 ⟨v18, rfl, k19, -⟩
 replace k19 := k19.mono (Hv.freshO (S := None) hL13 [])
 have hL23 := hL13.ext hE25
 have K24 := Keep.ext (s := w.heap.size) (O := [some b11, some b6, some b1]) hE25
 refine Rl.op (OpY.build (zc := [(Value.slice none 0 0), (Value.bool false), (Value.slice none 0 0)]) (cs := [(Value.slice none 0 0), (Value.bool r16.Negative), v18]) (is := [1]) (vs := [(Value.agg #[(Value.bool r16.Negative), v18])]) (css := [[(Value.bool r16.Negative), v18]]) pl34 ti34 rfl rfl rfl ⟨rfl, trivial⟩ rfl ?_)
 refine Rl.op (OpY.alloc (cs := [(Value.slice none 0 0), (Value.bool false), (Value.slice none 0 0)]) ti34 rfl hL23 ?_)
 intro b26 w27 (hL28 : Go.X.Loc [] [] w w27 [some b26, some b11, some b6, some b1] [Cont.cells [(Value.slice none 0 0), (Value.bool false), (Value.slice none 0 0)], Cont.cells [(Value.slice none 0 0), (Value.bool false), (Value.slice none 0 0)], Cont.cells [(Value.bool bound.Negative), bound_v], Cont.cells [q_v, (Value.bool q.Bound.Negative), q_v1]]) hS30
 have K29 := Keep.step (s := w.heap.size) hS30
 have f31 := (k19.mono (K29 None))
 refine Rl.op0 (OpY.store (vs := [(Value.slice none 0 0), (Value.bool r16.Negative), v18]) ti34 rfl rfl rfl rfl (ones_cons rfl (ones_cons rfl (ones_cons f31.one ones_nil))) hL28 0 rfl rfl (Nat.le_of_ble_eq_true rfl) ?_)
 intro w32 (hL33 : Go.X.Loc [] [] w w32 [some b26, some b11, some b6, some b1] [Cont.cells [(Value.slice none 0 0), (Value.bool r16.Negative), v18], Cont.cells [(Value.slice none 0 0), (Value.bool false), (Value.slice none 0 0)], Cont.cells [(Value.bool bound.Negative), bound_v], Cont.cells [q_v, (Value.bool q.Bound.Negative), q_v1]]) hS35
 have K34 := Keep.step (s := w.heap.size) hS35
 refine Rl.nil ?_
 refine Swp.seq ?_
 refine Swp.seq ?_
 refine Swp.region rfl ?_
 refine Rl.op (OpY.assign (v := (Value.int .i64 0)) rfl ?_)
 refine Rl.nil ?_
 obtain ⟨s337, hl339, g338⟩ := bind_some h
 refine Swp.join (fun e w' => ∃ (coefs333 : (List Big)) (ob329 : Option Nat) (cap330 : Nat) (sp331 : List Value) (cs332 : List Value) (ln336 : Nat) (u : Env), coefs333 = s337 ∧ e = upds [(4, (Value.pointer (some ⟨b11, 0, none⟩))), (5, (Value.pointer (some ⟨b26, 0, none⟩)))] u ∧ Go.X.Loc [] [] w w' [some b11, some b26, ob329] [Cont.cells [(Value.slice none 0 0), (Value.bool false), (Value.slice none 0 0)], Cont.cells [(osv ob329 0 ln336 cap330), (Value.bool r16.Negative), v18], Cont.cells ([] ++ (cs332 ++ sp331))] ∧ Keep w.heap.size [some b26, some b11, some b6, some b1] w32 [some b11, some b26, ob329] w' ∧ Els rBig (Hv w.heap.size None [some b11, some b26, ob329] w') cs332 coefs333 ∧ ln336 = List.length coefs333 ∧ (cs332 ++ sp331).length = cap330 * rBig.sz ∧ True) ?_ ?_
 ·
  refine Swp.block ?_
  have hp341 := hL33.addNil
  have hL342 : Go.X.Loc [] [] w w32 [none, some b26, some b11, some b6, some b1] [Cont.cells ([] ++ ([] ++ [])), Cont.cells [(Value.slice none 0 0), (Value.bool r16.Negative), v18], Cont.cells [(Value.slice none 0 0), (Value.bool false), (Value.slice none 0 0)], Cont.cells [(Value.bool bound.Negative), bound_v], Cont.cells [q_v, (Value.bool q.Bound.Negative), q_v1]] := hp341.1
  have K343 := Keep.step (s := w.heap.size) hp341.2
  have hp345 := hL342.pick [4, 2, 1, 0] rfl rfl rfl
  have hL347 : Go.X.Loc [] [] w w32 [some b1, some b11, some b26, none] [Cont.cells [q_v, (Value.bool q.Bound.Negative), q_v1], Cont.cells [(Value.slice none 0 0), (Value.bool false), (Value.slice none 0 0)], Cont.cells [(osv none 0 (List.length ([] : (List Big))) 0), (Value.bool r16.Negative), v18], Cont.cells ([] ++ ([] ++ []))] := hp345.1
  have K346 := Keep.step (s := w.heap.size) hp345.2
  have f348 := ((Els.nil (r := rBig)).mono (K346 None))
  refine Swp.loopM hl339 (fun (ss : ((List Big) × Int)) (e : Env) (w' : World) => match ss with | (coefs321, i325) => ∃ (ob317 : Option Nat) (cap318 : Nat) (sp319 : List Value) (cs320 : List Value) (ln324 : Nat) (u : Env), e = upds [(2, (Value.pointer (some ⟨b1, 0, none⟩))), (4, (Value.pointer (some ⟨b11, 0, none⟩))), (5, (Value.pointer (some ⟨b26, 0, none⟩))), (6, (Value.int .i64 i325))] u ∧ Go.X.Loc [] [] w w' [some b1, some b11, some b26, ob317] [Cont.cells [q_v, (Value.bool q.Bound.Negative), q_v1], Cont.cells [(Value.slice none 0 0), (Value.bool false), (Value.slice none 0 0)], Cont.cells [(osv ob317 0 ln324 cap318), (Value.bool r16.Negative), v18], Cont.cells ([] ++ (cs320 ++ sp319))] ∧ Keep w.heap.size [some b26, some b11, some b6, some b1] w32 [some b1, some b11, some b26, ob317] w' ∧ Els rBig (Hv w.heap.size None [some b1, some b11, some b26, ob317] w') cs320 coefs321 ∧ ln324 = List.length coefs321 ∧ (cs320 ++ sp319).length = cap318 * rBig.sz ∧ True) ⟨none, 0, [], [], (List.length ([] : (List Big))), _, (upds_sym ⟨rfl, ⟨rfl, ⟨rfl, ⟨rfl, trivial⟩⟩⟩⟩), hL347, (Keep.trans K343 K346), f348, rfl, (show ([] ++ [] : List Value).length = 0 * rBig.sz by simp), trivial⟩ ?_
  rintro ⟨coefs321, i325⟩ oo _ w349 ⟨ob317, cap318, sp319, cs320, ln324, u, rfl, hL350, K351, hE322, rfl, hc323, -⟩ h hd340
  rw [rflip_b1] at h
  refine Swp.seq ?_
  refine Swp.seq ?_
  refine Swp.region rfl ?_
  refine Rl.op (OpY.move (v := (Value.int .i64 i325)) rfl ?_)
  refine Rl.op (OpY.fieldAddr (q := 0) Try.underlying34 rfl ti32 rfl rfl rfl ?_)
  refine Rl.op (OpY.ldBox1 (v := q_v) Try.underlying32 rfl rfl (hL350.at 0 rfl rfl) rfl ?_)
  have f352 := (((((((q_h.mono (K4 S)).mono (K9 S)).mono (K14 S)).mono (K24 S)).mono (K29 S)).mono (K34 S)).mono (K351 S))
  refine Rl.op (OpY.lenRo (v := q_v) Try.underlying32 rfl f352 ?_)
  refine Rl.op (OpY.lss (x := i325) (y := (List.length q.Coefs : Int)) ((i325 : Int) < (List.length q.Coefs : Int)) rfl rfl Iff.rfl ?_)
  refine Rl.nil ?_
  refine Swp.cond_d ((i325 : Int) < (List.length q.Coefs : Int)) rfl (fun hc353 => ?_) (fun hc353 => ?_)
  ·
   replace h := ite_t hc353 h
   refine Swp.skip ?_
   refine Swp.seq ?_
   refine Swp.block ?_
   obtain ⟨x354, q355, h⟩ := bind_some h
   obtain ⟨n356, q357, q358⟩ := idx_some q355
   obtain ⟨b359, o360, c361, vs362, q363, q364, f365, q366⟩ := Rs.get f352 q358
   obtain ⟨v367, rfl, k368, -⟩ := rBig_open q366
   obtain ⟨r369, q370, h⟩ := bind_some h
   refine Swp.drawW 9 [] (fun W1 => [.det (Value.pointer (some ⟨b26, 0, none⟩)), .det (osv ob317 0 (List.length coefs321) cap318), .det (Value.pointer (some ⟨b1, 0, none⟩)), .det q_v, .det (Value.int .i64 i325), .det (Value.pointer (some ⟨b359, (o360 + n356 * rBig.sz), none⟩)), .det (Value.agg #[(Value.bool x354.Negative), v367]), .rel (fun v Z w' => ∃ v371, (Value.agg #[(Value.bool r369.Negative), v371]) = v ∧ Rs (rInt .u32) (Zv W1 w.heap.size None [some b1, some b11, some b26, ob317] Z w') v371 r369.Digits ∧ True) (fun _ => []), .rel (fun v Z w' => ∃ b374 cs381, (osv (some b374) 0 1 1) = v ∧ OwnC w' (some b374) (Cont.cells ([] ++ (cs381 ++ []))) ∧ Els rBig (Zv W1 w.heap.size None [some b1, some b11, some b26, ob317] Z w') cs381 [r369] ∧ (cs381 ++ []).length = 1 * rBig.sz ∧ True) footV]) mixed rfl rfl rfl ?_ ?_
   ·
    intro W1 _
    exact ⟨fun v Z Z' w w' hΦ hz _ _ hs => by obtain ⟨v371, rfl, k372, -⟩ := hΦ; exact ⟨v371, rfl, (k372.mono (Zv.stay hz hs)), trivial⟩, ⟨fun v Z Z' w w' hΦ hz _ _ hs => by obtain ⟨b374, cs381, rfl, hO378, hE379, hc380, -⟩ := hΦ; exact ⟨b374, cs381, rfl, (hO378.stay (fun b hb => by cases hb; exact List.mem_cons_self) hs), (hE379.mono (Zv.stay hz hs)), hc380, trivial⟩, trivial⟩⟩
   ·
    intro w382 hE383
    have hL384 := hL350.ext hE383
    have K385 := Keep.ext (s := w.heap.size) (O := [some b1, some b11, some b26, ob317]) hE383
    refine DrH.det ?_ ?_
    ·
     rintro w386 Z387 hE388 hZ389 ⟨-⟩
     refine GOp.op (OpY.fieldAddr (q := 0) Try.underlying34 rfl ti32 rfl rfl rfl ?_)
     exact ⟨Ext.refl _, rfl⟩
    refine DrH.det ?_ ?_
    ·
     rintro w392 Z393 hE394 hZ395 ⟨-⟩
     have hL396 := hL384.ext hE394
     refine GOp.op (OpY.ldBox1 (v := (osv ob317 0 (List.length coefs321) cap318)) Try.underlying32 rfl rfl (hL396.at 2 rfl rfl) rfl ?_)
     exact ⟨Ext.refl _, rfl⟩
    refine DrH.det ?_ ?_
    ·
     rintro w398 Z399 hE400 hZ401 ⟨-⟩
     refine GOp.op (OpY.fieldAddr (q := 0) Try.underlying34 rfl ti32 rfl rfl rfl ?_)
     exact ⟨Ext.refl _, rfl⟩
    refine DrH.det ?_ ?_
    ·
     rintro w404 Z405 hE406 hZ407 ⟨-⟩
     have hL408 := hL384.ext hE406
     refine GOp.op (OpY.ldBox1 (v := q_v) Try.underlying32 rfl rfl (hL408.at 0 rfl rfl) rfl ?_)
     exact ⟨Ext.refl _, rfl⟩
    refine DrH.det ?_ ?_
    ·
     rintro w410 Z411 hE412 hZ413 ⟨-⟩
     refine GOp.op (OpY.move (v := (Value.int .i64 i325)) rfl ?_)
     exact ⟨Ext.refl _, rfl⟩
    refine DrH.det ?_ ?_
    ·
     rintro w416 Z417 hE418 hZ419 ⟨-⟩
     refine GOp.op (OpY.ixRoD (r := rBig) (v := q_v) (n := n356) (m := (o360 + n356 * rBig.sz)) Try.underlying32 ti26 rfl q363 rfl q357 q358 rfl ?_)
     exact ⟨Ext.refl _, rfl⟩
    refine DrH.det ?_ ?_
    ·
     rintro w422 Z423 hE424 hZ425 ⟨-⟩
     have K427 := Keep.ext (s := w.heap.size) (O := [some b1, some b11, some b26, ob317]) hE424
     refine GOp.op (OpY.ldRoA (vs := [(Value.bool x354.Negative), v367]) Try.underlying26 rfl ti26 rfl rfl vw_view (At.mono (K427 S) (At.mono (K385 S) f365)) ?_)
     exact ⟨Ext.refl _, rfl⟩
    refine DrH.rel ?_ ?_
    ·
     rintro w428 Z429 hE430 hZ431 ⟨-⟩
     have K433 := Keep.ext (s := w.heap.size) (O := [some b1, some b11, some b26, ob317]) hE430
     refine GOp.op (OpY.call en62 rfl rfl (rNeg_w N x354 v367 _ Any (((k368.mono (K385 S)).mono (K433 S)).mono vw_any) r369 q370) ?_)
     rintro _ w434 hE435 ⟨v371, rfl, k372, -⟩
     exact Made.ext hE435 hZ431 NewOwn.nil (fun _ h => h) ⟨v371, rfl, (k372.mono Zv.made), trivial⟩
    intro z7
    refine DrH.rel ?_ ?_
    ·
     rintro w436 Z437 hE438 hZ439 ⟨⟨⟨v371, rfl, k372, -⟩, hB7⟩, -⟩
     have hE375 : Els rBig (Zv w382 w.heap.size None [some b1, some b11, some b26, ob317] Z437 w436) [(Value.bool r369.Negative), v371] [r369] := (Els.cons (a := [(Value.bool r369.Negative), v371]) (rBig_close ⟨v371, rfl, k372, trivial⟩) Els.nil)
     refine GOp.op (OpY.litRow (r := rBig) (vs := [(Value.agg #[(Value.bool r369.Negative), v371])]) (css := [[(Value.bool r369.Negative), v371]]) (xs := [r369]) Try.underlying32 ti26 (Nat.le_of_ble_eq_true rfl) rfl rfl ⟨rfl, rfl, trivial⟩ (Nat.le_of_ble_eq_true rfl) hE375 rfl (Go.X.Loc.begin0 w436) ?_)
     intro b374 w442 hc376 hL443 hS444
     have hN445 : NewOwn w436 w442 [some b374] [Cont.cells ([] ++ ([(Value.bool r369.Negative), v371] ++ []))] := hL443.newOwn [0] rfl rfl rfl
     exact Made.ext hL443.done hZ439 hN445 (fun _ h => h) ⟨b374, [(Value.bool r369.Negative), v371], rfl, hN445.2.2.1, (hE375.mono (Zv.grow hL443.done)), hc376, trivial⟩
    intro z8
    refine DrH.fin ?_
    rintro w446 Z447 hE448 hZ449 ⟨⟨⟨b374, cs381, rfl, hO378, hE379, hc380, -⟩, hB8⟩, ⟨⟨v371, rfl, k372, -⟩, hB7⟩, -⟩ ap450
    have hB451 : ∀ b, some b ∈ ([some b374] : List (Option Nat)) → w382.heap.size ≤ b ∧ ¬ Z447 b := by
     intro b hb
     rcases List.mem_cons.1 hb with hb' | hb
     ·
      have := hB8 b (by rw [hb']; exact List.mem_cons_self); exact ⟨this.1, this.2.2⟩
     cases hb
    replace hE379 := hE379.mono (Zv.fin hL384 hZ449 hB451)
    replace k372 := k372.mono (Zv.fin hL384 hZ449 hB451)
    have hN454 : NewOwn w382 w446 [some b374] [Cont.cells ([] ++ (cs381 ++ []))] := (NewOwn.cons NewOwn.nil hO378 (fun b hb => (hB451 b (by rw [← hb]; simp)).1) (fun b _ hb => by cases hb))
    have hp455 := hL384.adoptL hE448 hN454
    have hL452 : Go.X.Loc [] [] w w446 [some b374, some b1, some b11, some b26, ob317] [Cont.cells ([] ++ (cs381 ++ [])), Cont.cells [q_v, (Value.bool q.Bound.Negative), q_v1], Cont.cells [(Value.slice none 0 0), (Value.bool false), (Value.slice none 0 0)], Cont.cells [(osv ob317 0 (List.length coefs321) cap318), (Value.bool r16.Negative), v18], Cont.cells ([] ++ (cs320 ++ sp319))] := hp455.1
    have K453 := Keep.step (s := w.heap.size) hp455.2
    obtain ⟨x456, q457, h⟩ := bind_some h
    obtain ⟨q458, q459, q460⟩ := apnd_some q457
    have f468 := ((hE322.mono (K385 None)).mono (K453 None))
    refine Rl.op (OpY.apRowX (r := rBig) (H := (Hv w.heap.size None [some b374, some b1, some b11, some b26, ob317] w446)) (cs := cs320) (sp := sp319) (xs := coefs321) (ys := [r369]) (Y := x456) (n := (List.length coefs321)) (cap := cap318) (i := 4) Try.underlying32 ti26 rfl rfl rfl rfl hL452 rfl rfl f468 rfl hc323 (Src.row (pre := []) (o := 0) (n := 1) (cap := 1) (hL452.at 0 rfl rfl) hE379 rfl rfl rfl) hE379 q458 q459 q460 ?_)
    intro ob461 cap462 sp464 cs463 w469 hE465 hc466 (hL470 : Go.X.Loc [] [] w w469 [some b374, some b1, some b11, some b26, ob461] [Cont.cells ([] ++ (cs381 ++ [])), Cont.cells [q_v, (Value.bool q.Bound.Negative), q_v1], Cont.cells [(Value.slice none 0 0), (Value.bool false), (Value.slice none 0 0)], Cont.cells [(osv ob317 0 (List.length coefs321) cap318), (Value.bool r16.Negative), v18], Cont.cells ([] ++ (cs463 ++ sp464))]) hS472
    have K471 := Keep.step (s := w.heap.size) hS472
    refine Rl.op (OpY.fieldAddr (q := 0) Try.underlying34 rfl ti32 rfl rfl rfl ?_)
    refine Rl.op0 (OpY.store (vs := [(osv ob461 0 (List.length x456) cap462)]) ti32 rfl rfl (one_cells (osv_one _ _ _ _)) rfl (ones_cons (osv_one _ _ _ _) ones_nil) hL470 3 rfl rfl (Nat.le_of_ble_eq_true rfl) ?_)
    intro w473 (hL474 : Go.X.Loc [] [] w w473 [some b374, some b1, some b11, some b26, ob461] [Cont.cells ([] ++ (cs381 ++ [])), Cont.cells [q_v, (Value.bool q.Bound.Negative), q_v1], Cont.cells [(Value.slice none 0 0), (Value.bool false), (Value.slice none 0 0)], Cont.cells [(osv ob461 0 (List.length x456) cap462), (Value.bool r16.Negative), v18], Cont.cells ([] ++ (cs463 ++ sp464))]) hS476
    have K475 := Keep.step (s := w.heap.size) hS476
    refine Rl.nil ?_
    refine Swp.pop_blk ?_
    refine Swp.region rfl ?_
    refine Rl.op (OpY.move (v := (Value.int .i64 i325)) rfl ?_)
    refine Rl.op (OpY.add (x := i325) (y := 1) (z := (iw (i325 + 1))) rfl rfl rfl ?_)
    refine Rl.op (OpY.assign (v := (Value.int .i64 (iw (i325 + 1)))) rfl ?_)
    refine Rl.nil ?_
    have hp477 := hL474.pick [1, 2, 3, 4] rfl rfl rfl
    have hL479 : Go.X.Loc [] [] w w473 [some b1, some b11, some b26, ob461] [Cont.cells [q_v, (Value.bool q.Bound.Negative), q_v1], Cont.cells [(Value.slice none 0 0), (Value.bool false), (Value.slice none 0 0)], Cont.cells [(osv ob461 0 (List.length x456) cap462), (Value.bool r16.Negative), v18], Cont.cells ([] ++ (cs463 ++ sp464))] := hp477.1
    have K478 := Keep.step (s := w.heap.size) hp477.2
    have f480 := (((hE465.mono (K471 None)).mono (K475 None)).mono (K478 None))
    obtain rfl := Option.some.inj h
    refine Swp.pop_back ⟨(x456, (iw (i325 + 1))), rfl, ?_⟩
    exact ⟨ob461, cap462, sp464, cs463, (List.length x456), _, (upds_sym ⟨rfl, ⟨rfl, ⟨rfl, ⟨rfl, trivial⟩⟩⟩⟩), hL479, (Keep.trans (Keep.trans (Keep.trans (Keep.trans (Keep.trans K351 K385) K453) K471) K475) K478), f480, rfl, hc466, trivial⟩
  ·
   replace h := ite_f hc353 h
   refine Swp.exit rfl ?_
   have hp481 := hL350.pick [1, 2, 3] rfl rfl rfl
   have hL483 : Go.X.Loc [] [] w w349 [some b11, some b26, ob317] [Cont.cells [(Value.slice none 0 0), (Value.bool false), (Value.slice none 0 0)], Cont.cells [(osv ob317 0 (List.length coefs321) cap318), (Value.bool r16.Negative), v18], Cont.cells ([] ++ (cs320 ++ sp319))] := hp481.1
   have K482 := Keep.step (s := w.heap.size) hp481.2
   have f484 := (hE322.mono (K482 None))
   obtain rfl := Option.some.inj h
   obtain rfl := hd340 _ rfl
   replace h := g338
   try dsimp only at h
   skip
   refine Swp.pop_back ?_
   exact ⟨coefs321, ob317, cap318, sp319, cs320, (List.length coefs321), _, rfl, (upds_sym ⟨rfl, ⟨rfl, trivial⟩⟩), hL483, (Keep.trans K351 K482), f484, rfl, hc323, trivial⟩
 ·
  rintro _ w485 ⟨coefs333, ob329, cap330, sp331, cs332, ln336, u, rfl, rfl, hL486, K487, hE334, rfl, hc335, -⟩
  replace h := g338
  try dsimp only at h
  refine Swp.seq ?_
  refine Swp.region rfl ?_
  refine Rl.op (OpY.ldBoxA (vs := [(osv ob329 0 (List.length coefs333) cap330), (Value.bool r16.Negative), v18]) Try.underlying34 rfl ti34 rfl (hL486.at 1 rfl rfl) rfl rfl ?_)
  have f488 := ((f31.mono (K34 None)).mono (K487 None))
  refine Rl.op0 (OpY.store (vs := [(osv ob329 0 (List.length coefs333) cap330), (Value.bool r16.Negative), v18]) ti34 rfl rfl rfl rfl (ones_cons (osv_one _ _ _ _) (ones_cons rfl (ones_cons f488.one ones_nil))) hL486 0 rfl rfl (Nat.le_of_ble_eq_true rfl) ?_)
  intro w489 (hL490 : Go.X.Loc [] [] w w489 [some b11, some b26, ob329] [Cont.cells [(osv ob329 0 (List.length coefs333) cap330), (Value.bool r16.Negative), v18], Cont.cells [(osv ob329 0 (List.length coefs333) cap330), (Value.bool r16.Negative), v18], Cont.cells ([] ++ (cs332 ++ sp331))]) hS492
  have K491 := Keep.step (s := w.heap.size) hS492
  refine Rl.nil ?_
  have f494 := (hE334.mono (K491 None))
  have f493 := hL490.freezeRow 2 rfl rfl f494 rfl rfl rfl hc335
  have hp495 := hL490.pick [0, 1] rfl rfl rfl
  have hL497 : Go.X.Loc [] [] w w489 [some b11, some b26] [Cont.cells [(osv ob329 0 (List.length coefs333) cap330), (Value.bool r16.Negative), v18], Cont.cells [(osv ob329 0 (List.length coefs333) cap330), (Value.bool r16.Negative), v18]] := hp495.1
  have K496 := Keep.step (s := w.heap.size) hp495.2
  refine Swp.ret ?_
  obtain rfl := Option.some.inj h
  refine ⟨[(Value.agg #[(osv ob329 0 (List.length coefs333) cap330), (Value.bool r16.Negative), v18])], ⟨⟨⟨b11, 0, none⟩, rfl, res_boxA Try.underlying34 rfl ti34 (hL497.at 0 rfl rfl) rfl⟩, trivial⟩, ⟨_, rfl, hL497.done, ?_⟩⟩
  have f498 := ((f488.mono (K491 None)).mono (K496 None))
  exact ⟨(osv ob329 0 (List.length coefs333) cap330), v18, rfl, (f493.mono Hv.out), (f498.mono Hv.out), trivial⟩
theorem rIOf_w (N : Nat) (c : Constraint) (n : Int) (c_v : Value) (w : World) (S : Nat → Prop) (c_h : Rs rCoef (Hv w.heap.size S [] w) c_v c.Linear.Coefs) (r : (List Ineq)) (h : rIOf N c n = some r) :
  Calls Try.prog 33 #[(Value.agg #[(Value.int .i64 c.Linear.Const), c_v, (Value.bool c.Equal)]), (Value.int .i64 n)] w (Ret w (fun v w' => ∃ (ob0 : Option Nat) (cap0 : Nat) (cs0 : List Value) (sp0 : List Value), (osv ob0 0 (List.length r) cap0) = v ∧ NewOwn w w' [ob0] [Cont.cells ([] ++ (cs0 ++ sp0))] ∧ Els rIneq (Hv w.heap.size None [ob0] w') cs0 r ∧ (cs0 ++ sp0).length = cap0 * rIneq.sz ∧ True)) := by
 unfold rIOf at h
 have hL : Go.X.Loc [] [] w w [] [] := Go.X.Loc.begin0 w
 refine calls_of (l := [(Value.agg #[(Value.int .i64 c.Linear.Const), c_v, (Value.bool c.Equal)]), (Value.int .i64 n)]) (rl := [.tmp 4]) (n := 57) Try.func33 rfl rfl rfl (Nat.le_of_ble_eq_true rfl) ?_
 refine Swp.seq ?_
 refine Swp.region rfl ?_
 refine Rl.op (OpY.box (cs := [(Value.int .i64 c.Linear.Const), c_v, (Value.bool c.Equal)]) rfl rfl hL ?_)
 intro b1 w2 (hL3 : Go.X.Loc [] [] w w2 [some b1] [Cont.cells [(Value.int .i64 c.Linear.Const), c_v, (Value.bool c.Equal)]]) hS5
 have K4 := Keep.step (s := w.heap.size) hS5
 refine Rl.op (OpY.assign (v := (Value.slice none 0 0)) rfl ?_)
 refine Rl.nil ?_
 refine Swp.seq ?_
 refine Swp.seq ?_
 refine Swp.region rfl ?_
 refine Rl.op (OpY.ldBoxA (vs := [(Value.int .i64 c.Linear.Const), c_v, (Value.bool c.Equal)]) Try.underlying63 rfl ti63 rfl (hL3.at 0 rfl rfl) rfl rfl ?_)
 refine Rl.op (OpY.move (v := (Value.int .i64 n)) rfl ?_)
 obtain ⟨r6, q7, h⟩ := bind_some h
 have f9 := (c_h.mono (K4 S))
 refine Rl.op (OpY.call en36 rfl rfl (rRight_w N c n c_v _ Any (f9.mono vw_any) r6 q7) ?_)
 rintro _ w10 hE13 ⟨rfl, -⟩
 have hL11 := hL3.ext hE13
 have K12 := Keep.ext (s := w.heap.size) (O := [some b1]) hE13
 refine Rl.op (OpY.not (x := r6) rfl ?_)
 refine Rl.nil ?_
 refine Swp.cond_b (!r6) rfl (fun hc14 => ?_) (fun hc14 => ?_)
 ·
  replace h := ite_t hc14 h
  refine Swp.seq ?_
  refine Swp.region rfl ?_
  refine Rl.op (OpY.assign (v := (Value.slice none 0 0)) rfl ?_)
  refine Rl.nil ?_
  have hp15 := hL11.addNil
  have hL16 : Go.X.Loc [] [] w w10 [none, some b1] [Cont.cells ([] ++ ([] ++ [])), Cont.cells [(Value.int .i64 c.Linear.Const), c_v, (Value.bool c.Equal)]] := hp15.1
  have hE19 : Els rIneq (Hv w.heap.size None [none, some b1] w10) [] [] := Els.nil
  refine Swp.ret ?_
  obtain rfl := Option.some.inj h
  refine ⟨[(osv none 0 (List.length ([] : (List Ineq))) 0)], ⟨rfl, trivial⟩, ⟨_, rfl, hL16.done, ?_⟩⟩
  exact ⟨none, 0, [], [], rfl, (hL16.newOwn [0] rfl rfl rfl), (hE19.mono (Hv.pick [0] rfl)), (show ([] ++ [] : List Value).length = 0 * rIneq.sz by simp), trivial⟩
 ·
  replace h := ite_f hc14 h
  refine Swp.skip ?_
  refine Swp.seq ?_
  refine Swp.region rfl ?_
  refine Rl.op (OpY.move (v := (Value.int .i64 n)) rfl ?_)
  obtain ⟨r20, q21, h⟩ := bind_some h
  refine Rl.op (OpY.call en50 rfl rfl (rzero_w N n _ Any r20 q21) ?_)
  rintro _ w37 hE40 ⟨ob22, cap23, cs24, sp25, ob29, cap30, cs31, sp32, rfl, hN36, hE26, hc27, hE33, hc34, -⟩
  replace hE26 := hE26.mono (Hv.freshO (S := None) hL11 [ob22, ob29])
  replace hE33 := hE33.mono (Hv.freshO (S := None) hL11 [ob22, ob29])
  have hp41 := hL11.adoptL hE40 hN36
  have hL38 : Go.X.Loc [] [] w w37 [ob22, ob29, some b1] [Cont.cells ([] ++ (cs24 ++ sp25)), Cont.cells ([] ++ (cs31 ++ sp32)), Cont.cells [(Value.int .i64 c.Linear.Const), c_v, (Value.bool c.Equal)]] := hp41.1
  have K39 := Keep.step (s := w.heap.size) hp41.2
  refine Rl.op (OpY.alloc (cs := [(Value.slice none 0 0), (Value.bool false), (Value.slice none 0 0)]) ti34 rfl hL38 ?_)
  intro b42 w43 (hL44 : Go.X.Loc [] [] w w43 [some b42, ob22, ob29, some b1] [Cont.cells [(Value.slice none 0 0), (Value.bool false), (Value.slice none 0 0)], Cont.cells ([] ++ (cs24 ++ sp25)), Cont.cells ([] ++ (cs31 ++ sp32)), Cont.cells [(Value.int .i64 c.Linear.Const), c_v, (Value.bool c.Equal)]]) hS46
  have K45 := Keep.step (s := w.heap.size) hS46
  refine Rl.op0 (OpY.store (vs := [(osv ob22 0 (List.length r20.Coefs) cap23), (Value.bool r20.Bound.Negative), (osv ob29 0 (List.length r20.Bound.Digits) cap30)]) ti34 rfl rfl rfl rfl (ones_cons (osv_one _ _ _ _) (ones_cons rfl (ones_cons (osv_one _ _ _ _) ones_nil))) hL44 0 rfl rfl (Nat.le_of_ble_eq_true rfl) ?_)
  intro w47 (hL48 : Go.X.Loc [] [] w w47 [some b42, ob22, ob29, some b1] [Cont.cells [(osv ob22 0 (List.length r20.Coefs) cap23), (Value.bool r20.Bound.Negative), (osv ob29 0 (List.length r20.Bound.Digits) cap30)], Cont.cells ([] ++ (cs24 ++ sp25)), Cont.cells ([] ++ (cs31 ++ sp32)), Cont.cells [(Value.int .i64 c.Linear.Const), c_v, (Value.bool c.Equal)]]) hS50
  have K49 := Keep.step (s := w.heap.size) hS50
  refine Rl.nil ?_
  refine Swp.seq ?_
  refine Swp.seq ?_
  refine Swp.region rfl ?_
  refine Rl.op (OpY.assign (v := (Value.int .i64 0)) rfl ?_)
  refine Rl.nil ?_
  obtain ⟨s440, hl442, g441⟩ := bind_some h
  refine Swp.join (fun e w' => ∃ (coefs435 : (List Big)) (cs434 : List Value) (u : Env), coefs435 = s440 ∧ e = upds [(2, (Value.pointer (some ⟨b1, 0, none⟩))), (5, (Value.pointer (some ⟨b42, 0, none⟩)))] u ∧ Go.X.Loc [] [] w w' [some b1, some b42, ob22, ob29] [Cont.cells [(Value.int .i64 c.Linear.Const), c_v, (Value.bool c.Equal)], Cont.cells [(osv ob22 0 (List.length r20.Coefs) cap23), (Value.bool r20.Bound.Negative), (osv ob29 0 (List.length r20.Bound.Digits) cap30)], Cont.cells ([] ++ (cs434 ++ sp25)), Cont.cells ([] ++ (cs31 ++ sp32))] ∧ Keep w.heap.size [some b42, ob22, ob29, some b1] w47 [some b1, some b42, ob22, ob29] w' ∧ Els rBig (Hv w.heap.size None [some b1, some b42, ob22, ob29] w') cs434 coefs435 ∧ (List.length r20.Coefs) = List.length coefs435 ∧ (cs434 ++ sp25).length = cap23 * rBig.sz ∧ True) ?_ ?_
  ·
   refine Swp.block ?_
   have hp444 := hL48.pick [3, 0, 1, 2] rfl rfl rfl
   have hL446 : Go.X.Loc [] [] w w47 [some b1, some b42, ob22, ob29] [Cont.cells [(Value.int .i64 c.Linear.Const), c_v, (Value.bool c.Equal)], Cont.cells [(osv ob22 0 (List.length r20.Coefs) cap23), (Value.bool r20.Bound.Negative), (osv ob29 0 (List.length r20.Bound.Digits) cap30)], Cont.cells ([] ++ (cs24 ++ sp25)), Cont.cells ([] ++ (cs31 ++ sp32))] := hp444.1
   have K445 := Keep.step (s := w.heap.size) hp444.2
   have f447 := (((hE26.mono (K45 None)).mono (K49 None)).mono (K445 None))
   refine Swp.loopM hl442 (fun (ss : ((List Big) × Int)) (e : Env) (w' : World) => match ss with | (coefs425, i430) => ∃ (cs424 : List Value) (u : Env), e = upds [(2, (Value.pointer (some ⟨b1, 0, none⟩))), (5, (Value.pointer (some ⟨b42, 0, none⟩))), (6, (Value.int .i64 i430))] u ∧ Go.X.Loc [] [] w w' [some b1, some b42, ob22, ob29] [Cont.cells [(Value.int .i64 c.Linear.Const), c_v, (Value.bool c.Equal)], Cont.cells [(osv ob22 0 (List.length r20.Coefs) cap23), (Value.bool r20.Bound.Negative), (osv ob29 0 (List.length r20.Bound.Digits) cap30)], Cont.cells ([] ++ (cs424 ++ sp25)), Cont.cells ([] ++ (cs31 ++ sp32))] ∧ Keep w.heap.size [some b42, ob22, ob29, some b1] w47 [some b1, some b42, ob22, ob29] w' ∧ Els rBig (Hv w.heap.size None [some b1, some b42, ob22, ob29] w') cs424 coefs425 ∧ (List.length r20.Coefs) = List.length coefs425 ∧ (cs424 ++ sp25).length = cap23 * rBig.sz ∧ True) ⟨cs24, _, (upds_sym ⟨rfl, ⟨rfl, ⟨rfl, trivial⟩⟩⟩), hL446, K445, f447, rfl, hc27, trivial⟩ ?_
   rintro ⟨coefs425, i430⟩ oo _ w448 ⟨cs424, u, rfl, hL449, K450, hE426, hl428, hc427, -⟩ h hd443
   rw [rIOf_b1] at h
   refine Swp.seq ?_
   refine Swp.seq ?_
   refine Swp.region rfl ?_
   refine Rl.op (OpY.move (v := (Value.int .i64 i430)) rfl ?_)
   refine Rl.op (OpY.fieldAddr (q := 0) Try.underlying63 rfl ti61 rfl rfl rfl ?_)
   refine Rl.op (OpY.fieldAddr (q := 1) Try.underlying61 rfl ti59 rfl rfl rfl ?_)
   refine Rl.op (OpY.ldBox1 (v := c_v) Try.underlying59 rfl rfl (hL449.at 0 rfl rfl) rfl ?_)
   have f451 := (((((f9.mono (K12 S)).mono (K39 S)).mono (K45 S)).mono (K49 S)).mono (K450 S))
   refine Rl.op (OpY.lenRo (v := c_v) Try.underlying59 rfl f451 ?_)
   refine Rl.op (OpY.lss (x := i430) (y := (List.length c.Linear.Coefs : Int)) ((i430 : Int) < (List.length c.Linear.Coefs : Int)) rfl rfl Iff.rfl ?_)
   refine Rl.nil ?_
   refine Swp.cond_d ((i430 : Int) < (List.length c.Linear.Coefs : Int)) rfl (fun hc452 => ?_) (fun hc452 => ?_)
   ·
    replace h := ite_t hc452 h
    refine Swp.skip ?_
    refine Swp.seq ?_
    refine Swp.block ?_
    obtain ⟨x453, q454, h⟩ := bind_some h
    obtain ⟨n455, q456, q457⟩ := idx_some q454
    obtain ⟨b458, o459, c460, vs461, q462, q463, f464, q465⟩ := Rs.get f451 q457
    obtain ⟨rfl, -⟩ := rCoef_open q465
    have f466 := (f464.part (us := [(Value.int .i64 x453.Var)]) 0 rfl)
    obtain ⟨x467, q468, h⟩ := bind_some h
    obtain ⟨n469, q470, q471⟩ := idx_some q468
    obtain ⟨b472, o473, c474, vs475, q476, q477, f478, q479⟩ := Rs.get f451 q471
    obtain ⟨rfl, -⟩ := rCoef_open q479
    have f480 := (f478.part (us := [(Value.int .i64 x467.N)]) 1 rfl)
    obtain ⟨r481, q482, h⟩ := bind_some h
    refine Swp.drawW 17 [] (fun W1 => [.det (Value.pointer (some ⟨b42, 0, none⟩)), .det (osv ob22 0 (List.length r20.Coefs) cap23), .det (Value.pointer (some ⟨b1, 0, none⟩)), .det (Value.pointer (some ⟨b1, 1, none⟩)), .det c_v, .det (Value.int .i64 i430), .det (Value.pointer (some ⟨b458, (o459 + n455 * rCoef.sz), none⟩)), .det (Value.pointer (some ⟨b458, (o459 + n455 * rCoef.sz) + 0, none⟩)), .det (Value.int .i64 x453.Var), .det (Value.pointer (some ⟨b1, 0, none⟩)), .det (Value.pointer (some ⟨b1, 1, none⟩)), .det c_v, .det (Value.int .i64 i430), .det (Value.pointer (some ⟨b472, (o473 + n469 * rCoef.sz), none⟩)), .det (Value.pointer (some ⟨b472, (o473 + n469 * rCoef.sz) + 1, none⟩)), .det (Value.int .i64 x467.N), .rel (fun v Z w' => ∃ v483, (Value.agg #[(Value.bool r481.Negative), v483]) = v ∧ Rs (rInt .u32) (Zv W1 w.heap.size None [some b1, some b42, ob22, ob29] Z w') v483 r481.Digits ∧ True) (fun _ => [])]) mixed rfl rfl rfl ?_ ?_
    ·
     intro W1 _
     exact ⟨fun v Z Z' w w' hΦ hz _ _ hs => by obtain ⟨v483, rfl, k484, -⟩ := hΦ; exact ⟨v483, rfl, (k484.mono (Zv.stay hz hs)), trivial⟩, trivial⟩
    ·
     intro w486 hE487
     have hL488 := hL449.ext hE487
     have K489 := Keep.ext (s := w.heap.size) (O := [some b1, some b42, ob22, ob29]) hE487
     refine DrH.det ?_ ?_
     ·
      rintro w490 Z491 hE492 hZ493 ⟨-⟩
      refine GOp.op (OpY.fieldAddr (q := 0) Try.underlying34 rfl ti32 rfl rfl rfl ?_)
      exact ⟨Ext.refl _, rfl⟩
     refine DrH.det ?_ ?_
     ·
      rintro w496 Z497 hE498 hZ499 ⟨-⟩
      have hL500 := hL488.ext hE498
      refine GOp.op (OpY.ldBox1 (v := (osv ob22 0 (List.length r20.Coefs) cap23)) Try.underlying32 rfl rfl (hL500.at 1 rfl rfl) rfl ?_)
      exact ⟨Ext.refl _, rfl⟩
     refine DrH.det ?_ ?_
     ·
      rintro w502 Z503 hE504 hZ505 ⟨-⟩
      refine GOp.op (OpY.fieldAddr (q := 0) Try.underlying63 rfl ti61 rfl rfl rfl ?_)
      exact ⟨Ext.refl _, rfl⟩
     refine DrH.det ?_ ?_
     ·
      rintro w508 Z509 hE510 hZ511 ⟨-⟩
      refine GOp.op (OpY.fieldAddr (q := 1) Try.underlying61 rfl ti59 rfl rfl rfl ?_)
      exact ⟨Ext.refl _, rfl⟩
     refine DrH.det ?_ ?_
     ·
      rintro w514 Z515 hE516 hZ517 ⟨-⟩
      have hL518 := hL488.ext hE516
      refine GOp.op (OpY.ldBox1 (v := c_v) Try.underlying59 rfl rfl (hL518.at 0 rfl rfl) rfl ?_)
      exact ⟨Ext.refl _, rfl⟩
     refine DrH.det ?_ ?_
     ·
      rintro w520 Z521 hE522 hZ523 ⟨-⟩
      refine GOp.op (OpY.move (v := (Value.int .i64 i430)) rfl ?_)
      exact ⟨Ext.refl _, rfl⟩
     refine DrH.det ?_ ?_
     ·
      rintro w526 Z527 hE528 hZ529 ⟨-⟩
      refine GOp.op (OpY.ixRoD (r := rCoef) (v := c_v) (n := n455) (m := (o459 + n455 * rCoef.sz)) Try.underlying59 ti71 rfl q462 rfl q456 q457 rfl ?_)
      exact ⟨Ext.refl _, rfl⟩
     refine DrH.det ?_ ?_
     ·
      rintro w532 Z533 hE534 hZ535 ⟨-⟩
      refine GOp.op (OpY.fieldAddr (q := (o459 + n455 * rCoef.sz) + 0) Try.underlying71 rfl ti3 rfl rfl rfl ?_)
      exact ⟨Ext.refl _, rfl⟩
     refine DrH.det ?_ ?_
     ·
      rintro w538 Z539 hE540 hZ541 ⟨-⟩
      have K543 := Keep.ext (s := w.heap.size) (O := [some b1, some b42, ob22, ob29]) hE540
      refine GOp.op (OpY.ldRo1 (v := (Value.int .i64 x453.Var)) Try.underlying3 rfl rfl vw_view (At.mono (K543 S) (At.mono (K489 S) f466)) ?_)
      exact ⟨Ext.refl _, rfl⟩
     refine DrH.det ?_ ?_
     ·
      rintro w544 Z545 hE546 hZ547 ⟨-⟩
      refine GOp.op (OpY.fieldAddr (q := 0) Try.underlying63 rfl ti61 rfl rfl rfl ?_)
      exact ⟨Ext.refl _, rfl⟩
     refine DrH.det ?_ ?_
     ·
      rintro w550 Z551 hE552 hZ553 ⟨-⟩
      refine GOp.op (OpY.fieldAddr (q := 1) Try.underlying61 rfl ti59 rfl rfl rfl ?_)
      exact ⟨Ext.refl _, rfl⟩
     refine DrH.det ?_ ?_
     ·
      rintro w556 Z557 hE558 hZ559 ⟨-⟩
      have hL560 := hL488.ext hE558
      refine GOp.op (OpY.ldBox1 (v := c_v) Try.underlying59 rfl rfl (hL560.at 0 rfl rfl) rfl ?_)
      exact ⟨Ext.refl _, rfl⟩
     refine DrH.det ?_ ?_
     ·
      rintro w562 Z563 hE564 hZ565 ⟨-⟩
      refine GOp.op (OpY.move (v := (Value.int .i64 i430)) rfl ?_)
      exact ⟨Ext.refl _, rfl⟩
     refine DrH.det ?_ ?_
     ·
      rintro w568 Z569 hE570 hZ571 ⟨-⟩
      refine GOp.op (OpY.ixRoD (r := rCoef) (v := c_v) (n := n469) (m := (o473 + n469 * rCoef.sz)) Try.underlying59 ti71 rfl q476 rfl q470 q471 rfl ?_)
      exact ⟨Ext.refl _, rfl⟩
     refine DrH.det ?_ ?_
     ·
      rintro w574 Z575 hE576 hZ577 ⟨-⟩
      refine GOp.op (OpY.fieldAddr (q := (o473 + n469 * rCoef.sz) + 1) Try.underlying71 rfl ti2 rfl rfl rfl ?_)
      exact ⟨Ext.refl _, rfl⟩
     refine DrH.det ?_ ?_
     ·
      rintro w580 Z581 hE582 hZ583 ⟨-⟩
      have K585 := Keep.ext (s := w.heap.size) (O := [some b1, some b42, ob22, ob29]) hE582
      refine GOp.op (OpY.ldRo1 (v := (Value.int .i64 x467.N)) Try.underlying2 rfl rfl vw_view (At.mono (K585 S) (At.mono (K489 S) f480)) ?_)
      exact ⟨Ext.refl _, rfl⟩
     refine DrH.rel ?_ ?_
     ·
      rintro w586 Z587 hE588 hZ589 ⟨-⟩
      refine GOp.op (OpY.call en37 rfl rfl (rOf_w N x467.N _ Any r481 q482) ?_)
      rintro _ w592 hE593 ⟨v483, rfl, k484, -⟩
      exact Made.ext hE593 hZ589 NewOwn.nil (fun _ h => h) ⟨v483, rfl, (k484.mono Zv.made), trivial⟩
     intro z16
     refine DrH.fin ?_
     rintro w594 Z595 hE596 hZ597 ⟨⟨⟨v483, rfl, k484, -⟩, hB16⟩, -⟩ ap598
     have hB599 : ∀ b, some b ∈ ([] : List (Option Nat)) → w486.heap.size ≤ b ∧ ¬ Z595 b := by
      intro b hb; cases hb
     replace k484 := k484.mono (Zv.fin hL488 hZ597 hB599)
     have hL600 := hL488.ext hE596
     have K601 := Keep.ext (s := w.heap.size) (O := [some b1, some b42, ob22, ob29]) hE596
     obtain ⟨x602, q603, h⟩ := bind_some h
     obtain ⟨n604, q605, q606⟩ := idx_some q603
     have q607 := (List.getElem?_eq_some_iff.1 q606).1
     have f610 := ((hE426.mono (K489 None)).mono (K601 None))
     obtain ⟨b608, hb609⟩ := hL600.row_some 2 rfl rfl (row_pos (pre := []) f610 q606 (Nat.lt_of_sub_eq_succ rfl))
     refine Rl.op (OpY.ixRowD (r := rBig) (b := b608) (o := 0) (n := n604) (m := (List.length r20.Coefs)) (xs := coefs425) (q := (0 + n604 * rBig.sz)) Try.underlying32 ti26 (osv_some hb609) hl428 rfl q605 q607 rfl ?_)
     obtain ⟨x611, q612, h⟩ := bind_some h
     obtain ⟨n613, q614, q615, q616⟩ := upd1_some q612
     obtain rfl := Int.ofNat_inj.1 (q605.symm.trans q614)
     refine Rl.op0 (OpY.stRowX (pre := []) (r := rBig) (vs := [(Value.bool r481.Negative), v483]) (a := r481) ti26 rfl rfl rfl (rBig_close ⟨v483, rfl, k484, trivial⟩) hL600 2 (congrArg some hb609) rfl f610 q607 rfl q616 ?_)
     have hl624 : (List.length r20.Coefs) = List.length x611 := by rw [q616, List.length_set]; exact hl428
     intro w617 cs621 (hL618 : Go.X.Loc [] [] w w617 [some b1, some b42, ob22, ob29] [Cont.cells [(Value.int .i64 c.Linear.Const), c_v, (Value.bool c.Equal)], Cont.cells [(osv ob22 0 (List.length r20.Coefs) cap23), (Value.bool r20.Bound.Negative), (osv ob29 0 (List.length r20.Bound.Digits) cap30)], Cont.cells ([] ++ (cs621 ++ sp25)), Cont.cells ([] ++ (cs31 ++ sp32))]) hS620 hE622 q623
     have hc625 : (cs621 ++ sp25).length = cap23 * rBig.sz := by have := hc427; rw [List.length_append] at this ⊢; rw [q623]; exact this
     have K619 := Keep.step (s := w.heap.size) hS620
     refine Rl.nil ?_
     refine Swp.pop_blk ?_
     refine Swp.region rfl ?_
     refine Rl.op (OpY.move (v := (Value.int .i64 i430)) rfl ?_)
     refine Rl.op (OpY.add (x := i430) (y := 1) (z := (iw (i430 + 1))) rfl rfl rfl ?_)
     refine Rl.op (OpY.assign (v := (Value.int .i64 (iw (i430 + 1)))) rfl ?_)
     refine Rl.nil ?_
     have f626 := (hE622.mono (K619 None))
     obtain rfl := Option.some.inj h
     refine Swp.pop_back ⟨(x611, (iw (i430 + 1))), rfl, ?_⟩
     exact ⟨cs621, _, (upds_sym ⟨rfl, ⟨rfl, ⟨rfl, trivial⟩⟩⟩), hL618, (Keep.trans (Keep.trans (Keep.trans K450 K489) K601) K619), f626, hl624, hc625, trivial⟩
   ·
    replace h := ite_f hc452 h
    refine Swp.exit rfl ?_
    obtain rfl := Option.some.inj h
    obtain rfl := hd443 _ rfl
    replace h := g441
    try dsimp only at h
    skip
    refine Swp.pop_back ?_
    exact ⟨coefs425, cs424, _, rfl, (upds_sym ⟨rfl, ⟨rfl, trivial⟩⟩), hL449, K450, hE426, hl428, hc427, trivial⟩
  ·
   rintro _ w627 ⟨coefs435, cs434, u, rfl, rfl, hL628, K629, hE436, hl438, hc437, -⟩
   replace h := g441
   try dsimp only at h
   refine Swp.seq ?_
   refine Swp.region rfl ?_
   refine Rl.op (OpY.fieldAddr (q := 0) Try.underlying63 rfl ti61 rfl rfl rfl ?_)
   refine Rl.op (OpY.fieldAddr (q := 0) Try.underlying61 rfl ti2 rfl rfl rfl ?_)
   refine Rl.op (OpY.ldBox1 (v := (Value.int .i64 c.Linear.Const)) Try.underlying2 rfl rfl (hL628.at 0 rfl rfl) rfl ?_)
   obtain ⟨r630, q631, h⟩ := bind_some h
   refine Rl.op (OpY.call en37 rfl rfl (rOf_w N c.Linear.Const _ Any r630 q631) ?_)
   rintro _ w635 hE638 ⟨v632, rfl, k633, -⟩
   replace k633 := k633.mono (Hv.freshO (S := None) hL628 [])
   have hL636 := hL628.ext hE638
   have K637 := Keep.ext (s := w.heap.size) (O := [some b1, some b42, ob22, ob29]) hE638
   refine Rl.op (OpY.alloc (cs := [(Value.bool false), (Value.slice none 0 0)]) ti26 rfl hL636 ?_)
   intro b639 w640 (hL641 : Go.X.Loc [] [] w w640 [some b639, some b1, some b42, ob22, ob29] [Cont.cells [(Value.bool false), (Value.slice none 0 0)], Cont.cells [(Value.int .i64 c.Linear.Const), c_v, (Value.bool c.Equal)], Cont.cells [(osv ob22 0 (List.length r20.Coefs) cap23), (Value.bool r20.Bound.Negative), (osv ob29 0 (List.length r20.Bound.Digits) cap30)], Cont.cells ([] ++ (cs434 ++ sp25)), Cont.cells ([] ++ (cs31 ++ sp32))]) hS643
   have K642 := Keep.step (s := w.heap.size) hS643
   have f644 := (k633.mono (K642 None))
   refine Rl.op0 (OpY.store (vs := [(Value.bool r630.Negative), v632]) ti26 rfl rfl rfl rfl (ones_cons rfl (ones_cons f644.one ones_nil)) hL641 0 rfl rfl (Nat.le_of_ble_eq_true rfl) ?_)
   intro w645 (hL646 : Go.X.Loc [] [] w w645 [some b639, some b1, some b42, ob22, ob29] [Cont.cells [(Value.bool r630.Negative), v632], Cont.cells [(Value.int .i64 c.Linear.Const), c_v, (Value.bool c.Equal)], Cont.cells [(osv ob22 0 (List.length r20.Coefs) cap23), (Value.bool r20.Bound.Negative), (osv ob29 0 (List.length r20.Bound.Digits) cap30)], Cont.cells ([] ++ (cs434 ++ sp25)), Cont.cells ([] ++ (cs31 ++ sp32))]) hS648
   have K647 := Keep.step (s := w.heap.size) hS648
   refine Rl.nil ?_
   refine Swp.seq ?_
   refine Swp.region rfl ?_
   refine Rl.op (OpY.ldBoxA (vs := [(Value.bool r630.Negative), v632]) Try.underlying26 rfl ti26 rfl (hL646.at 0 rfl rfl) rfl rfl ?_)
   obtain ⟨r649, q650, h⟩ := bind_some h
   have f654 := (f644.mono (K647 None))
   refine Rl.op (OpY.call en62 rfl rfl (rNeg_w N r630 v632 _ Any (f654.mono vw_any) r649 q650) ?_)
   rintro _ w655 hE658 ⟨v651, rfl, k652, -⟩
   replace k652 := k652.mono (Hv.freshO (S := None) hL646 [])
   have hL656 := hL646.ext hE658
   have K657 := Keep.ext (s := w.heap.size) (O := [some b639, some b1, some b42, ob22, ob29]) hE658
   refine Rl.op (OpY.fieldAddr (q := 1) Try.underlying34 rfl ti26 rfl rfl rfl ?_)
   refine Rl.op0 (OpY.store (vs := [(Value.bool r649.Negative), v651]) ti26 rfl rfl rfl rfl (ones_cons rfl (ones_cons k652.one ones_nil)) hL656 2 rfl rfl (Nat.le_of_ble_eq_true rfl) ?_)
   intro w659 (hL660 : Go.X.Loc [] [] w w659 [some b639, some b1, some b42, ob22, ob29] [Cont.cells [(Value.bool r630.Negative), v632], Cont.cells [(Value.int .i64 c.Linear.Const), c_v, (Value.bool c.Equal)], Cont.cells [(osv ob22 0 (List.length r20.Coefs) cap23), (Value.bool r649.Negative), v651], Cont.cells ([] ++ (cs434 ++ sp25)), Cont.cells ([] ++ (cs31 ++ sp32))]) hS662
   have K661 := Keep.step (s := w.heap.size) hS662
   refine Rl.nil ?_
   refine Swp.seq ?_
   refine Swp.seq ?_
   refine Swp.region rfl ?_
   refine Rl.op (OpY.fieldAddr (q := 2) Try.underlying63 rfl ti4 rfl rfl rfl ?_)
   refine Rl.op (OpY.ldBox1 (v := (Value.bool c.Equal)) Try.underlying4 rfl rfl (hL660.at 1 rfl rfl) rfl ?_)
   refine Rl.op (OpY.not (x := c.Equal) rfl ?_)
   refine Rl.nil ?_
   refine Swp.cond_b (!c.Equal) rfl (fun hc663 => ?_) (fun hc663 => ?_)
   ·
    replace h := ite_t hc663 h
    refine Swp.seq ?_
    refine Swp.region rfl ?_
    refine Rl.op (OpY.ldBoxA (vs := [(osv ob22 0 (List.length r20.Coefs) cap23), (Value.bool r649.Negative), v651]) Try.underlying34 rfl ti34 rfl (hL660.at 2 rfl rfl) rfl rfl ?_)
    have f666 := (((((hE436.mono (K637 None)).mono (K642 None)).mono (K647 None)).mono (K657 None)).mono (K661 None))
    have f665 := hL660.freezeRow 3 rfl rfl f666 rfl rfl hl438 hc437
    have hp667 := hL660.pick [0, 1, 2, 4] rfl rfl rfl
    have hL669 : Go.X.Loc [] [] w w659 [some b639, some b1, some b42, ob29] [Cont.cells [(Value.bool r630.Negative), v632], Cont.cells [(Value.int .i64 c.Linear.Const), c_v, (Value.bool c.Equal)], Cont.cells [(osv ob22 0 (List.length r20.Coefs) cap23), (Value.bool r649.Negative), v651], Cont.cells ([] ++ (cs31 ++ sp32))] := hp667.1
    have K668 := Keep.step (s := w.heap.size) hp667.2
    have f673 := ((k652.mono (K661 None)).mono (K668 None))
    have hE670 : Els rIneq (Hv w.heap.size None [some b639, some b1, some b42, ob29] w659) [(osv ob22 0 (List.length r20.Coefs) cap23), (Value.bool r649.Negative), v651] [(Ineq.mk coefs435 r649)] := (Els.cons (a := [(osv ob22 0 (List.length r20.Coefs) cap23), (Value.bool r649.Negative), v651]) (rIneq_close ⟨(osv ob22 0 (List.length r20.Coefs) cap23), v651, rfl, f665, f673, trivial⟩) Els.nil)
    refine Rl.op (OpY.litRow (r := rIneq) (vs := [(Value.agg #[(osv ob22 0 (List.length r20.Coefs) cap23), (Value.bool r649.Negative), v651])]) (css := [[(osv ob22 0 (List.length r20.Coefs) cap23), (Value.bool r649.Negative), v651]]) (xs := [(Ineq.mk coefs435 r649)]) Try.underlying22 ti34 (Nat.le_of_ble_eq_true rfl) rfl rfl ⟨rfl, rfl, trivial⟩ (Nat.le_of_ble_eq_true rfl) hE670 rfl hL669 ?_)
    intro b664 w674 hc671 (hL675 : Go.X.Loc [] [] w w674 [some b664, some b639, some b1, some b42, ob29] [Cont.cells ([] ++ ([(osv ob22 0 (List.length r20.Coefs) cap23), (Value.bool r649.Negative), v651] ++ [])), Cont.cells [(Value.bool r630.Negative), v632], Cont.cells [(Value.int .i64 c.Linear.Const), c_v, (Value.bool c.Equal)], Cont.cells [(osv ob22 0 (List.length r20.Coefs) cap23), (Value.bool r649.Negative), v651], Cont.cells ([] ++ (cs31 ++ sp32))]) hS677
    have K676 := Keep.step (s := w.heap.size) hS677
    refine Rl.op (OpY.assign (v := (osv (some b664) 0 1 1)) rfl ?_)
    refine Rl.nil ?_
    refine Swp.ret ?_
    obtain rfl := Option.some.inj h
    refine ⟨[(osv (some b664) 0 1 1)], ⟨rfl, trivial⟩, ⟨_, rfl, hL675.done, ?_⟩⟩
    have f678 := (hE670.mono (K676 None))
    exact ⟨some b664, 1, [(osv ob22 0 (List.length r20.Coefs) cap23), (Value.bool r649.Negative), v651], [], rfl, (hL675.newOwn [0] rfl rfl rfl), (f678.mono (Hv.pick [0] rfl)), hc671, trivial⟩
   ·
    replace h := ite_f hc663 h
    refine Swp.skip ?_
    refine Swp.seq ?_
    obtain ⟨r679, q680, h⟩ := bind_some h
    refine Swp.drawW 4 [] (fun W1 => [.det (Value.agg #[(osv ob22 0 (List.length r20.Coefs) cap23), (Value.bool r649.Negative), v651]), .det (Value.agg #[(osv ob22 0 (List.length r20.Coefs) cap23), (Value.bool r649.Negative), v651]), .det (Value.agg #[(Value.bool r630.Negative), v632]), .rel (fun v Z w' => ∃ v681 v683, (Value.agg #[v681, (Value.bool r679.Bound.Negative), v683]) = v ∧ Rs rBig (Zv W1 w.heap.size None [some b639, some b1, some b42, ob22, ob29] Z w') v681 r679.Coefs ∧ Rs (rInt .u32) (Zv W1 w.heap.size None [some b639, some b1, some b42, ob22, ob29] Z w') v683 r679.Bound.Digits ∧ True) (fun _ => [])]) mixed rfl rfl rfl ?_ ?_
    ·
     intro W1 _
     exact ⟨fun v Z Z' w w' hΦ hz _ _ hs => by obtain ⟨v681, v683, rfl, k682, k684, -⟩ := hΦ; exact ⟨v681, v683, rfl, (k682.mono (Zv.stay hz hs)), (k684.mono (Zv.stay hz hs)), trivial⟩, trivial⟩
    ·
     intro w686 hE687
     have hL688 := hL660.ext hE687
     have K689 := Keep.ext (s := w.heap.size) (O := [some b639, some b1, some b42, ob22, ob29]) hE687
     refine DrH.det ?_ ?_
     ·
      rintro w690 Z691 hE692 hZ693 ⟨-⟩
      have hL694 := hL688.ext hE692
      refine GOp.op (OpY.ldBoxA (vs := [(osv ob22 0 (List.length r20.Coefs) cap23), (Value.bool r649.Negative), v651]) Try.underlying34 rfl ti34 rfl (hL694.at 2 rfl rfl) rfl rfl ?_)
      exact ⟨Ext.refl _, rfl⟩
     refine DrH.det ?_ ?_
     ·
      rintro w696 Z697 hE698 hZ699 ⟨-⟩
      have hL700 := hL688.ext hE698
      refine GOp.op (OpY.ldBoxA (vs := [(osv ob22 0 (List.length r20.Coefs) cap23), (Value.bool r649.Negative), v651]) Try.underlying34 rfl ti34 rfl (hL700.at 2 rfl rfl) rfl rfl ?_)
      exact ⟨Ext.refl _, rfl⟩
     refine DrH.det ?_ ?_
     ·
      rintro w702 Z703 hE704 hZ705 ⟨-⟩
      have hL706 := hL688.ext hE704
      refine GOp.op (OpY.ldBoxA (vs := [(Value.bool r630.Negative), v632]) Try.underlying26 rfl ti26 rfl (hL706.at 0 rfl rfl) rfl rfl ?_)
      exact ⟨Ext.refl _, rfl⟩
     refine DrH.rel ?_ ?_
     ·
      rintro w708 Z709 hE710 hZ711 ⟨-⟩
      have hL712 := hL688.ext hE710
      have K713 := Keep.ext (s := w.heap.size) (O := [some b639, some b1, some b42, ob22, ob29]) hE710
      refine GOp.op (OpY.call en60 rfl rfl (rflip_w N (Ineq.mk coefs435 r649) r630 (osv ob22 0 (List.length r20.Coefs) cap23) v651 v632 _ Any (own_row_any (pre := []) (o := 0) (n := (List.length r20.Coefs)) (cap := cap23) (hL712.at 3 rfl rfl) (((((((hE436.mono (K637 None)).mono (K642 None)).mono (K647 None)).mono (K657 None)).mono (K661 None)).mono (K689 None)).mono (K713 None)) vw_any rfl rfl hl438 hc437) ((((k652.mono (K661 None)).mono (K689 None)).mono (K713 None)).mono vw_any) (((((f654.mono (K657 None)).mono (K661 None)).mono (K689 None)).mono (K713 None)).mono vw_any) r679 q680) ?_)
      rintro _ w714 hE715 ⟨v681, v683, rfl, k682, k684, -⟩
      exact Made.ext hE715 hZ711 NewOwn.nil (fun _ h => h) ⟨v681, v683, rfl, (k682.mono Zv.made), (k684.mono Zv.made), trivial⟩
     intro z3
     refine DrH.fin ?_
     rintro w716 Z717 hE718 hZ719 ⟨⟨⟨v681, v683, rfl, k682, k684, -⟩, hB3⟩, -⟩ ap720
     have hB721 : ∀ b, some b ∈ ([] : List (Option Nat)) → w686.heap.size ≤ b ∧ ¬ Z717 b := by
      intro b hb; cases hb
     replace k682 := k682.mono (Zv.fin hL688 hZ719 hB721)
     replace k684 := k684.mono (Zv.fin hL688 hZ719 hB721)
     have hL722 := hL688.ext hE718
     have K723 := Keep.ext (s := w.heap.size) (O := [some b639, some b1, some b42, ob22, ob29]) hE718
     have f726 := (((((((hE436.mono (K637 None)).mono (K642 None)).mono (K647 None)).mono (K657 None)).mono (K661 None)).mono (K689 None)).mono (K723 None))
     have f725 := hL722.freezeRow 3 rfl rfl f726 rfl rfl hl438 hc437
     have hp727 := hL722.pick [0, 1, 2, 4] rfl rfl rfl
     have hL729 : Go.X.Loc [] [] w w716 [some b639, some b1, some b42, ob29] [Cont.cells [(Value.bool r630.Negative), v632], Cont.cells [(Value.int .i64 c.Linear.Const), c_v, (Value.bool c.Equal)], Cont.cells [(osv ob22 0 (List.length r20.Coefs) cap23), (Value.bool r649.Negative), v651], Cont.cells ([] ++ (cs31 ++ sp32))] := hp727.1
     have K728 := Keep.step (s := w.heap.size) hp727.2
     have f733 := (k682.mono (K728 None))
     have f734 := (k684.mono (K728 None))
     have f735 := ((((k652.mono (K661 None)).mono (K689 None)).mono (K723 None)).mono (K728 None))
     have hE730 : Els rIneq (Hv w.heap.size None [some b639, some b1, some b42, ob29] w716) [(osv ob22 0 (List.length r20.Coefs) cap23), (Value.bool r649.Negative), v651, v681, (Value.bool r679.Bound.Negative), v683] [(Ineq.mk coefs435 r649), r679] := (Els.cons (a := [(osv ob22 0 (List.length r20.Coefs) cap23), (Value.bool r649.Negative), v651]) (rIneq_close ⟨(osv ob22 0 (List.length r20.Coefs) cap23), v651, rfl, f725, f735, trivial⟩) (Els.cons (a := [v681, (Value.bool r679.Bound.Negative), v683]) (rIneq_close ⟨v681, v683, rfl, f733, f734, trivial⟩) Els.nil))
     refine Rl.op (OpY.litRow (r := rIneq) (vs := [(Value.agg #[(osv ob22 0 (List.length r20.Coefs) cap23), (Value.bool r649.Negative), v651]), (Value.agg #[v681, (Value.bool r679.Bound.Negative), v683])]) (css := [[(osv ob22 0 (List.length r20.Coefs) cap23), (Value.bool r649.Negative), v651], [v681, (Value.bool r679.Bound.Negative), v683]]) (xs := [(Ineq.mk coefs435 r649), r679]) Try.underlying22 ti34 (Nat.le_of_ble_eq_true rfl) rfl rfl ⟨rfl, rfl, ⟨rfl, rfl, trivial⟩⟩ (Nat.le_of_ble_eq_true rfl) hE730 rfl hL729 ?_)
     intro b724 w736 hc731 (hL737 : Go.X.Loc [] [] w w736 [some b724, some b639, some b1, some b42, ob29] [Cont.cells ([] ++ ([(osv ob22 0 (List.length r20.Coefs) cap23), (Value.bool r649.Negative), v651, v681, (Value.bool r679.Bound.Negative), v683] ++ [])), Cont.cells [(Value.bool r630.Negative), v632], Cont.cells [(Value.int .i64 c.Linear.Const), c_v, (Value.bool c.Equal)], Cont.cells [(osv ob22 0 (List.length r20.Coefs) cap23), (Value.bool r649.Negative), v651], Cont.cells ([] ++ (cs31 ++ sp32))]) hS739
     have K738 := Keep.step (s := w.heap.size) hS739
     refine Rl.op (OpY.assign (v := (osv (some b724) 0 2 2)) rfl ?_)
     refine Rl.nil ?_
     refine Swp.ret ?_
     obtain rfl := Option.some.inj h
     refine ⟨[(osv (some b724) 0 2 2)], ⟨rfl, trivial⟩, ⟨_, rfl, hL737.done, ?_⟩⟩
     have f740 := (hE730.mono (K738 None))
     exact ⟨some b724, 2, [(osv ob22 0 (List.length r20.Coefs) cap23), (Value.bool r649.Negative), v651, v681, (Value.bool r679.Bound.Negative), v683], [], rfl, (hL737.newOwn [0] rfl rfl rfl), (f740.mono (Hv.pick [0] rfl)), hc731, trivial⟩
theorem rSystem_w (N : Nat) (l : (List Constraint)) (n : Int) (l_v : Value) (w : World) (S : Nat → Prop) (l_h : Rs rConstraint (Hv w.heap.size S [] w) l_v l) (r : (List Ineq)) (h : rSystem N l n = some r) :
  Calls Try.prog 35 #[l_v, (Value.int .i64 n)] w (Ret w (fun v w' => ∃ (ob0 : Option Nat) (cap0 : Nat) (cs0 : List Value) (sp0 : List Value), (osv ob0 0 (List.length r) cap0) = v ∧ NewOwn w w' [ob0] [Cont.cells ([] ++ (cs0 ++ sp0))] ∧ Els rIneq (Hv w.heap.size None [ob0] w') cs0 r ∧ (cs0 ++ sp0).length = cap0 * rIneq.sz ∧ True)) := by
 unfold rSystem at h
 have hL : Go.X.Loc [] [] w w [] [] := Go.X.Loc.begin0 w
 refine calls_of (l := [l_v, (Value.int .i64 n)]) (rl := [.tmp 4]) (n := 30) Try.func35 rfl rfl rfl (Nat.le_of_ble_eq_true rfl) ?_
 refine Swp.seq ?_
 refine Swp.region rfl ?_
 refine Rl.op (OpY.assign (v := (Value.slice none 0 0)) rfl ?_)
 refine Rl.nil ?_
 refine Swp.seq ?_
 refine Swp.region rfl ?_
 refine Rl.op (OpY.litRow0 Try.underlying22 ti34 hL ?_)
 intro b1 w5 (hL6 : Go.X.Loc [] [] w w5 [some b1] [Cont.cells ([] ++ ([] ++ []))]) hS8
 have hE9 : Els rIneq (Hv w.heap.size None [] w) [] [] := Els.nil
 have K7 := Keep.step (s := w.heap.size) hS8
 refine Rl.op (OpY.assign (v := (osv (some b1) 0 (List.length ([] : (List Ineq))) 0)) rfl ?_)
 refine Rl.nil ?_
 refine Swp.seq ?_
 refine Swp.seq ?_
 refine Swp.region rfl ?_
 refine Rl.op (OpY.assign (v := (Value.int .i64 0)) rfl ?_)
 refine Rl.nil ?_
 obtain ⟨s202, hl204, g203⟩ := bind_some h
 refine Swp.join (fun e w' => ∃ (out198 : (List Ineq)) (ob194 : Option Nat) (cap195 : Nat) (sp196 : List Value) (cs197 : List Value) (ln201 : Nat) (u : Env), (Sum.inl out198) = s202 ∧ e = upds [(5, (osv ob194 0 ln201 cap195))] u ∧ Go.X.Loc [] [] w w' [ob194] [Cont.cells ([] ++ (cs197 ++ sp196))] ∧ Keep w.heap.size [some b1] w5 [ob194] w' ∧ Els rIneq (Hv w.heap.size None [ob194] w') cs197 out198 ∧ ln201 = List.length out198 ∧ (cs197 ++ sp196).length = cap195 * rIneq.sz ∧ True) ?_ ?_
 ·
  refine Swp.block ?_
  have f206 := (hE9.mono (K7 None))
  refine Swp.loopM hl204 (fun (ss : ((List Ineq) × Int)) (e : Env) (w' : World) => match ss with | (out188, i192) => ∃ (ob184 : Option Nat) (cap185 : Nat) (sp186 : List Value) (cs187 : List Value) (ln191 : Nat) (u : Env), e = upds [(0, l_v), (1, (Value.int .i64 n)), (5, (osv ob184 0 ln191 cap185)), (6, (Value.int .i64 i192))] u ∧ Go.X.Loc [] [] w w' [ob184] [Cont.cells ([] ++ (cs187 ++ sp186))] ∧ Keep w.heap.size [some b1] w5 [ob184] w' ∧ Els rIneq (Hv w.heap.size None [ob184] w') cs187 out188 ∧ ln191 = List.length out188 ∧ (cs187 ++ sp186).length = cap185 * rIneq.sz ∧ True) ⟨some b1, 0, [], [], (List.length ([] : (List Ineq))), _, (upds_sym ⟨rfl, ⟨rfl, ⟨rfl, ⟨rfl, trivial⟩⟩⟩⟩), hL6, Keep.refl, f206, rfl, (show ([] ++ [] : List Value).length = 0 * rIneq.sz by simp), trivial⟩ ?_
  rintro ⟨out188, i192⟩ oo _ w207 ⟨ob184, cap185, sp186, cs187, ln191, u, rfl, hL208, K209, hE189, rfl, hc190, -⟩ h hd205
  rw [rSystem_b1] at h
  refine Swp.seq ?_
  refine Swp.seq ?_
  refine Swp.region rfl ?_
  refine Rl.op (OpY.move (v := (Value.int .i64 i192)) rfl ?_)
  refine Rl.op (OpY.move (v := l_v) rfl ?_)
  have f210 := ((l_h.mono (K7 S)).mono (K209 S))
  refine Rl.op (OpY.lenRo (v := l_v) Try.underlying58 rfl f210 ?_)
  refine Rl.op (OpY.lss (x := i192) (y := (List.length l : Int)) ((i192 : Int) < (List.length l : Int)) rfl rfl Iff.rfl ?_)
  refine Rl.nil ?_
  refine Swp.cond_d ((i192 : Int) < (List.length l : Int)) rfl (fun hc211 => ?_) (fun hc211 => ?_)
  ·
   replace h := ite_t hc211 h
   refine Swp.skip ?_
   refine Swp.seq ?_
   refine Swp.block ?_
   refine Swp.seq ?_
   refine Swp.seq ?_
   refine Swp.region rfl ?_
   refine Rl.op (OpY.move (v := l_v) rfl ?_)
   refine Rl.op (OpY.move (v := (Value.int .i64 i192)) rfl ?_)
   obtain ⟨x212, q213, h⟩ := bind_some h
   obtain ⟨n214, q215, q216⟩ := idx_some q213
   obtain ⟨b217, o218, c219, vs220, q221, q222, f223, q224⟩ := Rs.get f210 q216
   obtain ⟨v225, rfl, k226, -⟩ := rConstraint_open q224
   refine Rl.op (OpY.ixRoD (r := rConstraint) (v := l_v) (n := n214) (m := (o218 + n214 * rConstraint.sz)) Try.underlying58 ti63 rfl q221 rfl q215 q216 rfl ?_)
   refine Rl.op (OpY.ldRoA (vs := [(Value.int .i64 x212.Linear.Const), v225, (Value.bool x212.Equal)]) Try.underlying63 rfl ti63 rfl rfl vw_view f223 ?_)
   refine Rl.op (OpY.move (v := (Value.int .i64 n)) rfl ?_)
   obtain ⟨r227, q228, h⟩ := bind_some h
   refine Rl.op (OpY.call en36 rfl rfl (rRight_w N x212 n v225 _ Any (k226.mono vw_any) r227 q228) ?_)
   rintro _ w230 hE233 ⟨rfl, -⟩
   have hL231 := hL208.ext hE233
   have K232 := Keep.ext (s := w.heap.size) (O := [ob184]) hE233
   refine Rl.op (OpY.not (x := r227) rfl ?_)
   refine Rl.nil ?_
   refine Swp.cond_b (!r227) rfl (fun hc234 => ?_) (fun hc234 => ?_)
   ·
    replace h := ite_t hc234 h
    refine Swp.seq ?_
    refine Swp.region rfl ?_
    refine Rl.op (OpY.assign (v := (Value.slice none 0 0)) rfl ?_)
    refine Rl.nil ?_
    have hp235 := hL231.addNil
    have hL236 : Go.X.Loc [] [] w w230 [none, ob184] [Cont.cells ([] ++ ([] ++ [])), Cont.cells ([] ++ (cs187 ++ sp186))] := hp235.1
    have hE239 : Els rIneq (Hv w.heap.size None [none, ob184] w230) [] [] := Els.nil
    refine Swp.ret ?_
    obtain rfl := Option.some.inj h
    obtain rfl := hd205 _ rfl
    replace h := g203
    try dsimp only at h
    obtain rfl := Option.some.inj h
    refine ⟨[(osv none 0 (List.length ([] : (List Ineq))) 0)], ⟨rfl, trivial⟩, ⟨_, rfl, hL236.done, ?_⟩⟩
    exact ⟨none, 0, [], [], rfl, (hL236.newOwn [0] rfl rfl rfl), (hE239.mono (Hv.pick [0] rfl)), (show ([] ++ [] : List Value).length = 0 * rIneq.sz by simp), trivial⟩
   ·
    replace h := ite_f hc234 h
    refine Swp.skip ?_
    refine Swp.region rfl ?_
    refine Rl.op (OpY.move (v := (osv ob184 0 (List.length out188) cap185)) rfl ?_)
    refine Rl.op (OpY.move (v := l_v) rfl ?_)
    refine Rl.op (OpY.move (v := (Value.int .i64 i192)) rfl ?_)
    obtain ⟨x240, q241, h⟩ := bind_some h
    obtain ⟨n242, q243, q244⟩ := idx_some q241
    have f255 := (f210.mono (K232 S))
    obtain ⟨b245, o246, c247, vs248, q249, q250, f251, q252⟩ := Rs.get f255 q244
    obtain ⟨v253, rfl, k254, -⟩ := rConstraint_open q252
    refine Rl.op (OpY.ixRoD (r := rConstraint) (v := l_v) (n := n242) (m := (o246 + n242 * rConstraint.sz)) Try.underlying58 ti63 rfl q249 rfl q243 q244 rfl ?_)
    refine Rl.op (OpY.ldRoA (vs := [(Value.int .i64 x240.Linear.Const), v253, (Value.bool x240.Equal)]) Try.underlying63 rfl ti63 rfl rfl vw_view f251 ?_)
    refine Rl.op (OpY.move (v := (Value.int .i64 n)) rfl ?_)
    obtain ⟨r256, q257, h⟩ := bind_some h
    refine Rl.op (OpY.call en33 rfl rfl (rIOf_w N x240 n v253 _ Any (k254.mono vw_any) r256 q257) ?_)
    rintro _ w266 hE269 ⟨ob258, cap259, cs260, sp261, rfl, hN265, hE262, hc263, -⟩
    replace hE262 := hE262.mono (Hv.freshO (S := None) hL231 [ob258])
    have hp270 := hL231.adoptL hE269 hN265
    have hL267 : Go.X.Loc [] [] w w266 [ob258, ob184] [Cont.cells ([] ++ (cs260 ++ sp261)), Cont.cells ([] ++ (cs187 ++ sp186))] := hp270.1
    have K268 := Keep.step (s := w.heap.size) hp270.2
    obtain ⟨x271, q272, h⟩ := bind_some h
    obtain ⟨q273, q274, q275⟩ := apnd_some q272
    have f283 := ((hE189.mono (K232 None)).mono (K268 None))
    refine Rl.op (OpY.apRowX (r := rIneq) (H := (Hv w.heap.size None [ob258, ob184] w266)) (cs := cs187) (sp := sp186) (xs := out188) (ys := r256) (Y := x271) (n := (List.length out188)) (cap := cap185) (i := 1) Try.underlying22 ti34 rfl rfl rfl rfl hL267 rfl rfl f283 rfl hc190 (Src.row (pre := []) (o := 0) (n := (List.length r256)) (cap := cap259) (hL267.at 0 rfl rfl) hE262 rfl rfl rfl) hE262 q273 q274 q275 ?_)
    intro ob276 cap277 sp279 cs278 w284 hE280 hc281 (hL285 : Go.X.Loc [] [] w w284 [ob258, ob276] [Cont.cells ([] ++ (cs260 ++ sp261)), Cont.cells ([] ++ (cs278 ++ sp279))]) hS287
    have K286 := Keep.step (s := w.heap.size) hS287
    refine Rl.op (OpY.assign (v := (osv ob276 0 (List.length x271) cap277)) rfl ?_)
    refine Rl.nil ?_
    refine Swp.pop_blk ?_
    refine Swp.region rfl ?_
    refine Rl.op (OpY.move (v := (Value.int .i64 i192)) rfl ?_)
    refine Rl.op (OpY.add (x := i192) (y := 1) (z := (iw (i192 + 1))) rfl rfl rfl ?_)
    refine Rl.op (OpY.assign (v := (Value.int .i64 (iw (i192 + 1)))) rfl ?_)
    refine Rl.nil ?_
    have hp288 := hL285.pick [1] rfl rfl rfl
    have hL290 : Go.X.Loc [] [] w w284 [ob276] [Cont.cells ([] ++ (cs278 ++ sp279))] := hp288.1
    have K289 := Keep.step (s := w.heap.size) hp288.2
    have f291 := ((hE280.mono (K286 None)).mono (K289 None))
    obtain rfl := Option.some.inj h
    refine Swp.pop_back ⟨(x271, (iw (i192 + 1))), rfl, ?_⟩
    exact ⟨ob276, cap277, sp279, cs278, (List.length x271), _, (upds_sym ⟨rfl, ⟨rfl, ⟨rfl, ⟨rfl, trivial⟩⟩⟩⟩), hL290, (Keep.trans (Keep.trans (Keep.trans (Keep.trans K209 K232) K268) K286) K289), f291, rfl, hc281, trivial⟩
  ·
   replace h := ite_f hc211 h
   refine Swp.exit rfl ?_
   obtain rfl := Option.some.inj h
   obtain rfl := hd205 _ rfl
   replace h := g203
   try dsimp only at h
   skip
   refine Swp.pop_back ?_
   exact ⟨out188, ob184, cap185, sp186, cs187, (List.length out188), _, rfl, (upds_sym ⟨rfl, trivial⟩), hL208, K209, hE189, rfl, hc190, trivial⟩
 ·
  rintro _ w292 ⟨out198, ob194, cap195, sp196, cs197, ln201, u, rfl, rfl, hL293, K294, hE199, rfl, hc200, -⟩
  replace h := g203
  try dsimp only at h
  refine Swp.seq ?_
  refine Swp.region rfl ?_
  refine Rl.op (OpY.move (v := (osv ob194 0 (List.length out198) cap195)) rfl ?_)
  refine Rl.op (OpY.assign (v := (osv ob194 0 (List.length out198) cap195)) rfl ?_)
  refine Rl.nil ?_
  refine Swp.ret ?_
  obtain rfl := Option.some.inj h
  refine ⟨[(osv ob194 0 (List.length out198) cap195)], ⟨rfl, trivial⟩, ⟨_, rfl, hL293.done, ?_⟩⟩
  exact ⟨ob194, cap195, cs197, sp196, rfl, (hL293.newOwn [0] rfl rfl rfl), (hE199.mono (Hv.pick [0] rfl)), hc200, trivial⟩
theorem rSame1_w (N : Nat) (a : Ineq) (b : Ineq) (a_v : Value) (a_v1 : Value) (b_v : Value) (b_v1 : Value) (w : World) (S : Nat → Prop) (a_h : Rs rBig (Hv w.heap.size S [] w) a_v a.Coefs) (a_h1 : Rs (rInt .u32) (Hv w.heap.size S [] w) a_v1 a.Bound.Digits) (b_h : Rs rBig (Hv w.heap.size S [] w) b_v b.Coefs) (b_h1 : Rs (rInt .u32) (Hv w.heap.size S [] w) b_v1 b.Bound.Digits) (r : Bool) (h : rSame1 N a b = some r) :
  Calls Try.prog 16 #[(Value.agg #[a_v, (Value.bool a.Bound.Negative), a_v1]), (Value.agg #[b_v, (Value.bool b.Bound.Negative), b_v1])] w (Ret w (fun v w' => (Value.bool r) = v ∧ True)) := by
 unfold rSame1 at h
 have hL : Go.X.Loc [] [] w w [] [] := Go.X.Loc.begin0 w
 refine calls_of (l := [(Value.agg #[a_v, (Value.bool a.Bound.Negative), a_v1]), (Value.agg #[b_v, (Value.bool b.Bound.Negative), b_v1])]) (rl := [.tmp 4]) (n := 40) Try.func16 rfl rfl rfl (Nat.le_of_ble_eq_true rfl) ?_
 refine Swp.seq ?_
 refine Swp.region rfl ?_
 refine Rl.op (OpY.box (cs := [a_v, (Value.bool a.Bound.Negative), a_v1]) rfl rfl hL ?_)
 intro b1 w2 (hL3 : Go.X.Loc [] [] w w2 [some b1] [Cont.cells [a_v, (Value.bool a.Bound.Negative), a_v1]]) hS5
 have K4 := Keep.step (s := w.heap.size) hS5
 refine Rl.op (OpY.box (cs := [b_v, (Value.bool b.Bound.Negative), b_v1]) rfl rfl hL3 ?_)
 intro b6 w7 (hL8 : Go.X.Loc [] [] w w7 [some b6, some b1] [Cont.cells [b_v, (Value.bool b.Bound.Negative), b_v1], Cont.cells [a_v, (Value.bool a.Bound.Negative), a_v1]]) hS10
 have K9 := Keep.step (s := w.heap.size) hS10
 refine Rl.op (OpY.assign (v := (Value.bool false)) rfl ?_)
 refine Rl.nil ?_
 refine Swp.seq ?_
 refine Swp.seq ?_
 obtain ⟨s26, h, g27⟩ := bind_some h
 refine Swp.join (fun e w' => ∃ (x25 : Bool) (u : Env), x25 = s26 ∧ e = upds [(2, (Value.pointer (some ⟨b1, 0, none⟩))), (3, (Value.pointer (some ⟨b6, 0, none⟩))), (20, (Value.bool x25))] u ∧ Go.X.Loc [] [] w w' [some b1, some b6] [Cont.cells [a_v, (Value.bool a.Bound.Negative), a_v1], Cont.cells [b_v, (Value.bool b.Bound.Negative), b_v1]] ∧ Keep w.heap.size [some b6, some b1] w7 [some b1, some b6] w' ∧ True) ?_ ?_
 ·
  refine Swp.region rfl ?_
  refine Rl.op (OpY.fieldAddr (q := 0) Try.underlying34 rfl ti32 rfl rfl rfl ?_)
  refine Rl.op (OpY.ldBox1 (v := a_v) Try.underlying32 rfl rfl (hL8.at 1 rfl rfl) rfl ?_)
  have f28 := ((a_h.mono (K4 S)).mono (K9 S))
  refine Rl.op (OpY.lenRo (v := a_v) Try.underlying32 rfl f28 ?_)
  refine Rl.op (OpY.fieldAddr (q := 0) Try.underlying34 rfl ti32 rfl rfl rfl ?_)
  refine Rl.op (OpY.ldBox1 (v := b_v) Try.underlying32 rfl rfl (hL8.at 0 rfl rfl) rfl ?_)
  have f29 := ((b_h.mono (K4 S)).mono (K9 S))
  refine Rl.op (OpY.lenRo (v := b_v) Try.underlying32 rfl f29 ?_)
  refine Rl.op (OpY.neq (x := (List.length a.Coefs : Int)) (y := (List.length b.Coefs : Int)) (((List.length a.Coefs : Int) : Int) ≠ (List.length b.Coefs : Int)) rfl rfl Iff.rfl ?_)
  refine Rl.op (OpY.move (v := (Value.bool (decide (((List.length a.Coefs : Int) : Int) ≠ (List.length b.Coefs : Int))))) rfl ?_)
  by_cases hc30 : ((List.length a.Coefs : Int) : Int) ≠ (List.length b.Coefs : Int)
  ·
   replace h := ite_t hc30 h
   refine Rl.no (dj := 13) (b' := (decide (((List.length a.Coefs : Int) : Int) ≠ (List.length b.Coefs : Int)))) rfl rfl (decide_eq_true hc30) ?_
   refine Rl.no (dj := 13) (b' := (decide (((List.length a.Coefs : Int) : Int) ≠ (List.length b.Coefs : Int)))) rfl rfl (decide_eq_true hc30) ?_
   refine Rl.no (dj := 13) (b' := (decide (((List.length a.Coefs : Int) : Int) ≠ (List.length b.Coefs : Int)))) rfl rfl (decide_eq_true hc30) ?_
   refine Rl.no (dj := 13) (b' := (decide (((List.length a.Coefs : Int) : Int) ≠ (List.length b.Coefs : Int)))) rfl rfl (decide_eq_true hc30) ?_
   refine Rl.no (dj := 13) (b' := (decide (((List.length a.Coefs : Int) : Int) ≠ (List.length b.Coefs : Int)))) rfl rfl (decide_eq_true hc30) ?_
   refine Rl.no (dj := 13) (b' := (decide (((List.length a.Coefs : Int) : Int) ≠ (List.length b.Coefs : Int)))) rfl rfl (decide_eq_true hc30) ?_
   refine Rl.op (OpY.pick_t (t := (decide (((List.length a.Coefs : Int) : Int) ≠ (List.length b.Coefs : Int)))) (v := (Value.bool true)) rfl (decide_eq_true hc30) rfl ?_)
   refine Rl.nil ?_
   have hp31 := hL8.pick [1, 0] rfl rfl rfl
   have hL33 : Go.X.Loc [] [] w w7 [some b1, some b6] [Cont.cells [a_v, (Value.bool a.Bound.Negative), a_v1], Cont.cells [b_v, (Value.bool b.Bound.Negative), b_v1]] := hp31.1
   have K32 := Keep.step (s := w.heap.size) hp31.2
   obtain rfl := Option.some.inj h
   refine Swp.pop_back ?_
   exact ⟨true, _, rfl, (upds_sym ⟨rfl, ⟨rfl, ⟨rfl, trivial⟩⟩⟩), hL33, K32, trivial⟩
  ·
   replace h := ite_f hc30 h
   refine Rl.yes (dj := 13) (b' := (decide (((List.length a.Coefs : Int) : Int) ≠ (List.length b.Coefs : Int)))) rfl rfl (decide_eq_false hc30) (OpY.fieldAddr (q := 1) Try.underlying34 rfl ti26 rfl rfl rfl ?_)
   refine Rl.yes (dj := 13) (b' := (decide (((List.length a.Coefs : Int) : Int) ≠ (List.length b.Coefs : Int)))) rfl rfl (decide_eq_false hc30) (OpY.ldBoxA (vs := [(Value.bool a.Bound.Negative), a_v1]) Try.underlying26 rfl ti26 rfl (hL8.at 1 rfl rfl) rfl rfl ?_)
   refine Rl.yes (dj := 13) (b' := (decide (((List.length a.Coefs : Int) : Int) ≠ (List.length b.Coefs : Int)))) rfl rfl (decide_eq_false hc30) (OpY.fieldAddr (q := 1) Try.underlying34 rfl ti26 rfl rfl rfl ?_)
   refine Rl.yes (dj := 13) (b' := (decide (((List.length a.Coefs : Int) : Int) ≠ (List.length b.Coefs : Int)))) rfl rfl (decide_eq_false hc30) (OpY.ldBoxA (vs := [(Value.bool b.Bound.Negative), b_v1]) Try.underlying26 rfl ti26 rfl (hL8.at 0 rfl rfl) rfl rfl ?_)
   obtain ⟨r34, q35, h⟩ := bind_some h
   have f37 := ((a_h1.mono (K4 S)).mono (K9 S))
   have f38 := ((b_h1.mono (K4 S)).mono (K9 S))
   refine Rl.yes (dj := 13) (b' := (decide (((List.length a.Coefs : Int) : Int) ≠ (List.length b.Coefs : Int)))) rfl rfl (decide_eq_false hc30) (OpY.call en23 rfl rfl (rSame_w N a.Bound b.Bound a_v1 b_v1 _ Any (f37.mono vw_any) (f38.mono vw_any) r34 q35) ?_)
   rintro _ w39 hE42 ⟨rfl, -⟩
   have hL40 := hL8.ext hE42
   have K41 := Keep.ext (s := w.heap.size) (O := [some b6, some b1]) hE42
   refine Rl.yes (dj := 13) (b' := (decide (((List.length a.Coefs : Int) : Int) ≠ (List.length b.Coefs : Int)))) rfl rfl (decide_eq_false hc30) (OpY.not (x := r34) rfl ?_)
   refine Rl.op (OpY.pick_f (t := (decide (((List.length a.Coefs : Int) : Int) ≠ (List.length b.Coefs : Int)))) (v := (Value.bool (!r34))) rfl (decide_eq_false hc30) rfl ?_)
   refine Rl.nil ?_
   have hp43 := hL40.pick [1, 0] rfl rfl rfl
   have hL45 : Go.X.Loc [] [] w w39 [some b1, some b6] [Cont.cells [a_v, (Value.bool a.Bound.Negative), a_v1], Cont.cells [b_v, (Value.bool b.Bound.Negative), b_v1]] := hp43.1
   have K44 := Keep.step (s := w.heap.size) hp43.2
   obtain rfl := Option.some.inj h
   refine Swp.pop_back ?_
   exact ⟨(!r34), _, rfl, (upds_sym ⟨rfl, ⟨rfl, ⟨rfl, trivial⟩⟩⟩), hL45, (Keep.trans K41 K44), trivial⟩
 ·
  rintro _ w46 ⟨x25, u, rfl, rfl, hL47, K48, -⟩
  replace h := g27
  try dsimp only at h
  refine Swp.cond_b x25 rfl (fun hc49 => ?_) (fun hc49 => ?_)
  ·
   replace h := ite_t hc49 h
   refine Swp.seq ?_
   refine Swp.region rfl ?_
   refine Rl.op (OpY.assign (v := (Value.bool false)) rfl ?_)
   refine Rl.nil ?_
   refine Swp.ret ?_
   obtain rfl := Option.some.inj h
   refine ⟨[(Value.bool false)], ⟨rfl, trivial⟩, ⟨_, rfl, hL47.done, ?_⟩⟩
   exact ⟨rfl, trivial⟩
  ·
   replace h := ite_f hc49 h
   refine Swp.skip ?_
   refine Swp.seq ?_
   refine Swp.seq ?_
   refine Swp.region rfl ?_
   refine Rl.op (OpY.assign (v := (Value.int .i64 0)) rfl ?_)
   refine Rl.nil ?_
   obtain ⟨s294, hl296, g295⟩ := bind_some h
   refine Swp.join (fun e w' => ∃  (u : Env), (Sum.inl ()) = s294 ∧ e = upds [] u ∧ Go.X.Loc [] [] w w' [] [] ∧ Keep w.heap.size [some b1, some b6] w46 [] w' ∧ True) ?_ ?_
   ·
    refine Swp.block ?_
    refine Swp.loopM hl296 (fun (ss : Int) (e : Env) (w' : World) => match ss with | i293 => ∃ (u : Env), e = upds [(2, (Value.pointer (some ⟨b1, 0, none⟩))), (3, (Value.pointer (some ⟨b6, 0, none⟩))), (5, (Value.int .i64 i293))] u ∧ Go.X.Loc [] [] w w' [some b1, some b6] [Cont.cells [a_v, (Value.bool a.Bound.Negative), a_v1], Cont.cells [b_v, (Value.bool b.Bound.Negative), b_v1]] ∧ Keep w.heap.size [some b1, some b6] w46 [some b1, some b6] w' ∧ True) ⟨_, (upds_sym ⟨rfl, ⟨rfl, ⟨rfl, trivial⟩⟩⟩), hL47, Keep.refl, trivial⟩ ?_
    rintro i293 oo _ w298 ⟨u, rfl, hL299, K300, -⟩ h hd297
    rw [rSame1_b1] at h
    refine Swp.seq ?_
    refine Swp.seq ?_
    refine Swp.region rfl ?_
    refine Rl.op (OpY.move (v := (Value.int .i64 i293)) rfl ?_)
    refine Rl.op (OpY.fieldAddr (q := 0) Try.underlying34 rfl ti32 rfl rfl rfl ?_)
    refine Rl.op (OpY.ldBox1 (v := a_v) Try.underlying32 rfl rfl (hL299.at 0 rfl rfl) rfl ?_)
    have f301 := ((((a_h.mono (K4 S)).mono (K9 S)).mono (K48 S)).mono (K300 S))
    refine Rl.op (OpY.lenRo (v := a_v) Try.underlying32 rfl f301 ?_)
    refine Rl.op (OpY.lss (x := i293) (y := (List.length a.Coefs : Int)) ((i293 : Int) < (List.length a.Coefs : Int)) rfl rfl Iff.rfl ?_)
    refine Rl.nil ?_
    refine Swp.cond_d ((i293 : Int) < (List.length a.Coefs : Int)) rfl (fun hc302 => ?_) (fun hc302 => ?_)
    ·
     replace h := ite_t hc302 h
     refine Swp.skip ?_
     refine Swp.seq ?_
     refine Swp.block ?_
     refine Swp.seq ?_
     obtain ⟨x303, q304, h⟩ := bind_some h
     obtain ⟨n305, q306, q307⟩ := idx_some q304
     obtain ⟨b308, o309, c310, vs311, q312, q313, f314, q315⟩ := Rs.get f301 q307
     obtain ⟨v316, rfl, k317, -⟩ := rBig_open q315
     obtain ⟨x318, q319, h⟩ := bind_some h
     obtain ⟨n320, q321, q322⟩ := idx_some q319
     have f333 := ((((b_h.mono (K4 S)).mono (K9 S)).mono (K48 S)).mono (K300 S))
     obtain ⟨b323, o324, c325, vs326, q327, q328, f329, q330⟩ := Rs.get f333 q322
     obtain ⟨v331, rfl, k332, -⟩ := rBig_open q330
     refine Swp.drawW 10 [] (fun W1 => [.det (Value.pointer (some ⟨b1, 0, none⟩)), .det a_v, .det (Value.int .i64 i293), .det (Value.pointer (some ⟨b308, (o309 + n305 * rBig.sz), none⟩)), .det (Value.agg #[(Value.bool x303.Negative), v316]), .det (Value.pointer (some ⟨b6, 0, none⟩)), .det b_v, .det (Value.int .i64 i293), .det (Value.pointer (some ⟨b323, (o324 + n320 * rBig.sz), none⟩)), .det (Value.agg #[(Value.bool x318.Negative), v331])]) mixed rfl rfl rfl ?_ ?_
     ·
      intro W1 _
      exact trivial
     ·
      intro w334 hE335
      have hL336 := hL299.ext hE335
      have K337 := Keep.ext (s := w.heap.size) (O := [some b1, some b6]) hE335
      refine DrH.det ?_ ?_
      ·
       rintro w338 Z339 hE340 hZ341 ⟨-⟩
       refine GOp.op (OpY.fieldAddr (q := 0) Try.underlying34 rfl ti32 rfl rfl rfl ?_)
       exact ⟨Ext.refl _, rfl⟩
      refine DrH.det ?_ ?_
      ·
       rintro w344 Z345 hE346 hZ347 ⟨-⟩
       have hL348 := hL336.ext hE346
       refine GOp.op (OpY.ldBox1 (v := a_v) Try.underlying32 rfl rfl (hL348.at 0 rfl rfl) rfl ?_)
       exact ⟨Ext.refl _, rfl⟩
      refine DrH.det ?_ ?_
      ·
       rintro w350 Z351 hE352 hZ353 ⟨-⟩
       refine GOp.op (OpY.move (v := (Value.int .i64 i293)) rfl ?_)
       exact ⟨Ext.refl _, rfl⟩
      refine DrH.det ?_ ?_
      ·
       rintro w356 Z357 hE358 hZ359 ⟨-⟩
       refine GOp.op (OpY.ixRoD (r := rBig) (v := a_v) (n := n305) (m := (o309 + n305 * rBig.sz)) Try.underlying32 ti26 rfl q312 rfl q306 q307 rfl ?_)
       exact ⟨Ext.refl _, rfl⟩
      refine DrH.det ?_ ?_
      ·
       rintro w362 Z363 hE364 hZ365 ⟨-⟩
       have K367 := Keep.ext (s := w.heap.size) (O := [some b1, some b6]) hE364
       refine GOp.op (OpY.ldRoA (vs := [(Value.bool x303.Negative), v316]) Try.underlying26 rfl ti26 rfl rfl vw_view (At.mono (K367 S) (At.mono (K337 S) f314)) ?_)
       exact ⟨Ext.refl _, rfl⟩
      refine DrH.det ?_ ?_
      ·
       rintro w368 Z369 hE370 hZ371 ⟨-⟩
       refine GOp.op (OpY.fieldAddr (q := 0) Try.underlying34 rfl ti32 rfl rfl rfl ?_)
       exact ⟨Ext.refl _, rfl⟩
      refine DrH.det ?_ ?_
      ·
       rintro w374 Z375 hE376 hZ377 ⟨-⟩
       have hL378 := hL336.ext hE376
       refine GOp.op (OpY.ldBox1 (v := b_v) Try.underlying32 rfl rfl (hL378.at 1 rfl rfl) rfl ?_)
       exact ⟨Ext.refl _, rfl⟩
      refine DrH.det ?_ ?_
      ·
       rintro w380 Z381 hE382 hZ383 ⟨-⟩
       refine GOp.op (OpY.move (v := (Value.int .i64 i293)) rfl ?_)
       exact ⟨Ext.refl _, rfl⟩
      refine DrH.det ?_ ?_
      ·
       rintro w386 Z387 hE388 hZ389 ⟨-⟩
       refine GOp.op (OpY.ixRoD (r := rBig) (v := b_v) (n := n320) (m := (o324 + n320 * rBig.sz)) Try.underlying32 ti26 rfl q327 rfl q321 q322 rfl ?_)
       exact ⟨Ext.refl _, rfl⟩
      refine DrH.det ?_ ?_
      ·
       rintro w392 Z393 hE394 hZ395 ⟨-⟩
       have K397 := Keep.ext (s := w.heap.size) (O := [some b1, some b6]) hE394
       refine GOp.op (OpY.ldRoA (vs := [(Value.bool x318.Negative), v331]) Try.underlying26 rfl ti26 rfl rfl vw_view (At.mono (K397 S) (At.mono (K337 S) f329)) ?_)
       exact ⟨Ext.refl _, rfl⟩
      refine DrH.fin ?_
      rintro w398 Z399 hE400 hZ401 ⟨-⟩ ap402
      have hB403 : ∀ b, some b ∈ ([] : List (Option Nat)) → w334.heap.size ≤ b ∧ ¬ Z399 b := by
       intro b hb; cases hb
      have hL404 := hL336.ext hE400
      have K405 := Keep.ext (s := w.heap.size) (O := [some b1, some b6]) hE400
      obtain ⟨r406, q407, h⟩ := bind_some h
      have f409 := ((k317.mono (K337 S)).mono (K405 S))
      have f410 := ((k332.mono (K337 S)).mono (K405 S))
      refine Rl.op (OpY.call en23 rfl rfl (rSame_w N x303 x318 v316 v331 _ Any (f409.mono vw_any) (f410.mono vw_any) r406 q407) ?_)
      rintro _ w411 hE414 ⟨rfl, -⟩
      have hL412 := hL404.ext hE414
      have K413 := Keep.ext (s := w.heap.size) (O := [some b1, some b6]) hE414
      refine Rl.op (OpY.not (x := r406) rfl ?_)
      refine Rl.nil ?_
      refine Swp.cond_b (!r406) rfl (fun hc415 => ?_) (fun hc415 => ?_)
      ·
       replace h := ite_t hc415 h
       refine Swp.seq ?_
       refine Swp.region rfl ?_
       refine Rl.op (OpY.assign (v := (Value.bool false)) rfl ?_)
       refine Rl.nil ?_
       refine Swp.ret ?_
       obtain rfl := Option.some.inj h
       obtain rfl := hd297 _ rfl
       replace h := g295
       try dsimp only at h
       obtain rfl := Option.some.inj h
       refine ⟨[(Value.bool false)], ⟨rfl, trivial⟩, ⟨_, rfl, hL412.done, ?_⟩⟩
       exact ⟨rfl, trivial⟩
      ·
       replace h := ite_f hc415 h
       refine Swp.skip ?_
       refine Swp.pop_blk ?_
       refine Swp.region rfl ?_
       refine Rl.op (OpY.move (v := (Value.int .i64 i293)) rfl ?_)
       refine Rl.op (OpY.add (x := i293) (y := 1) (z := (iw (i293 + 1))) rfl rfl rfl ?_)
       refine Rl.op (OpY.assign (v := (Value.int .i64 (iw (i293 + 1)))) rfl ?_)
       refine Rl.nil ?_
       obtain rfl := Option.some.inj h
       refine Swp.pop_back ⟨(iw (i293 + 1)), rfl, ?_⟩
       exact ⟨_, (upds_sym ⟨rfl, ⟨rfl, ⟨rfl, trivial⟩⟩⟩), hL412, (Keep.trans (Keep.trans (Keep.trans K300 K337) K405) K413), trivial⟩
    ·
     replace h := ite_f hc302 h
     refine Swp.exit rfl ?_
     have hp416 := hL299.pick [] rfl rfl rfl
     have hL418 : Go.X.Loc [] [] w w298 [] [] := hp416.1
     have K417 := Keep.step (s := w.heap.size) hp416.2
     obtain rfl := Option.some.inj h
     obtain rfl := hd297 _ rfl
     replace h := g295
     try dsimp only at h
     skip
     refine Swp.pop_back ?_
     exact ⟨_, rfl, (upds_sym trivial), hL418, (Keep.trans K300 K417), trivial⟩
   ·
    rintro _ w419 ⟨u, rfl, rfl, hL420, K421, -⟩
    replace h := g295
    try dsimp only at h
    refine Swp.seq ?_
    refine Swp.region rfl ?_
    refine Rl.op (OpY.assign (v := (Value.bool true)) rfl ?_)
    refine Rl.nil ?_
    refine Swp.ret ?_
    obtain rfl := Option.some.inj h
    refine ⟨[(Value.bool true)], ⟨rfl, trivial⟩, ⟨_, rfl, hL420.done, ?_⟩⟩
    exact ⟨rfl, trivial⟩
theorem rSames_w (N : Nat) (a : (List Ineq)) (b : (List Ineq)) (a_v : Value) (b_v : Value) (w : World) (S : Nat → Prop) (a_h : Rs rIneq (Hv w.heap.size S [] w) a_v a) (b_h : Rs rIneq (Hv w.heap.size S [] w) b_v b) (r : Bool) (h : rSames N a b = some r) :
  Calls Try.prog 31 #[a_v, b_v] w (Ret w (fun v w' => (Value.bool r) = v ∧ True)) := by
 unfold rSames at h
 have hL : Go.X.Loc [] [] w w [] [] := Go.X.Loc.begin0 w
 refine calls_of (l := [a_v, b_v]) (rl := [.tmp 4]) (n := 27) Try.func31 rfl rfl rfl (Nat.le_of_ble_eq_true rfl) ?_
 refine Swp.seq ?_
 refine Swp.region rfl ?_
 refine Rl.op (OpY.assign (v := (Value.bool false)) rfl ?_)
 refine Rl.nil ?_
 refine Swp.seq ?_
 refine Swp.seq ?_
 refine Swp.region rfl ?_
 refine Rl.op (OpY.move (v := a_v) rfl ?_)
 refine Rl.op (OpY.lenRo (v := a_v) Try.underlying22 rfl a_h ?_)
 refine Rl.op (OpY.move (v := b_v) rfl ?_)
 refine Rl.op (OpY.lenRo (v := b_v) Try.underlying22 rfl b_h ?_)
 refine Rl.op (OpY.neq (x := (List.length a : Int)) (y := (List.length b : Int)) (((List.length a : Int) : Int) ≠ (List.length b : Int)) rfl rfl Iff.rfl ?_)
 refine Rl.nil ?_
 refine Swp.cond_d (((List.length a : Int) : Int) ≠ (List.length b : Int)) rfl (fun hc1 => ?_) (fun hc1 => ?_)
 ·
  replace h := ite_t hc1 h
  refine Swp.seq ?_
  refine Swp.region rfl ?_
  refine Rl.op (OpY.assign (v := (Value.bool false)) rfl ?_)
  refine Rl.nil ?_
  refine Swp.ret ?_
  obtain rfl := Option.some.inj h
  refine ⟨[(Value.bool false)], ⟨rfl, trivial⟩, ⟨_, rfl, hL.done, ?_⟩⟩
  exact ⟨rfl, trivial⟩
 ·
  replace h := ite_f hc1 h
  refine Swp.skip ?_
  refine Swp.seq ?_
  refine Swp.seq ?_
  refine Swp.region rfl ?_
  refine Rl.op (OpY.assign (v := (Value.int .i64 0)) rfl ?_)
  refine Rl.nil ?_
  obtain ⟨s228, hl230, g229⟩ := bind_some h
  refine Swp.join (fun e w' => ∃  (u : Env), (Sum.inl ()) = s228 ∧ e = upds [] u ∧ Go.X.Loc [] [] w w' [] [] ∧ Keep w.heap.size [] w [] w' ∧ True) ?_ ?_
  ·
   refine Swp.block ?_
   refine Swp.loopM hl230 (fun (ss : Int) (e : Env) (w' : World) => match ss with | i227 => ∃ (u : Env), e = upds [(0, a_v), (1, b_v), (5, (Value.int .i64 i227))] u ∧ Go.X.Loc [] [] w w' [] [] ∧ Keep w.heap.size [] w [] w' ∧ True) ⟨_, (upds_sym ⟨rfl, ⟨rfl, ⟨rfl, trivial⟩⟩⟩), hL, Keep.refl, trivial⟩ ?_
   rintro i227 oo _ w232 ⟨u, rfl, hL233, K234, -⟩ h hd231
   rw [rSames_b1] at h
   refine Swp.seq ?_
   refine Swp.seq ?_
   refine Swp.region rfl ?_
   refine Rl.op (OpY.move (v := (Value.int .i64 i227)) rfl ?_)
   refine Rl.op (OpY.move (v := a_v) rfl ?_)
   have f235 := (a_h.mono (K234 S))
   refine Rl.op (OpY.lenRo (v := a_v) Try.underlying22 rfl f235 ?_)
   refine Rl.op (OpY.lss (x := i227) (y := (List.length a : Int)) ((i227 : Int) < (List.length a : Int)) rfl rfl Iff.rfl ?_)
   refine Rl.nil ?_
   refine Swp.cond_d ((i227 : Int) < (List.length a : Int)) rfl (fun hc236 => ?_) (fun hc236 => ?_)
   ·
    replace h := ite_t hc236 h
    refine Swp.skip ?_
    refine Swp.seq ?_
    refine Swp.block ?_
    refine Swp.seq ?_
    obtain ⟨x237, q238, h⟩ := bind_some h
    obtain ⟨n239, q240, q241⟩ := idx_some q238
    obtain ⟨b242, o243, c244, vs245, q246, q247, f248, q249⟩ := Rs.get f235 q241
    obtain ⟨v250, v252, rfl, k251, k253, -⟩ := rIneq_open q249
    obtain ⟨x254, q255, h⟩ := bind_some h
    obtain ⟨n256, q257, q258⟩ := idx_some q255
    have f271 := (b_h.mono (K234 S))
    obtain ⟨b259, o260, c261, vs262, q263, q264, f265, q266⟩ := Rs.get f271 q258
    obtain ⟨v267, v269, rfl, k268, k270, -⟩ := rIneq_open q266
    refine Swp.drawW 8 [] (fun W1 => [.det a_v, .det (Value.int .i64 i227), .det (Value.pointer (some ⟨b242, (o243 + n239 * rIneq.sz), none⟩)), .det (Value.agg #[v250, (Value.bool x237.Bound.Negative), v252]), .det b_v, .det (Value.int .i64 i227), .det (Value.pointer (some ⟨b259, (o260 + n256 * rIneq.sz), none⟩)), .det (Value.agg #[v267, (Value.bool x254.Bound.Negative), v269])]) mixed rfl rfl rfl ?_ ?_
    ·
     intro W1 _
     exact trivial
    ·
     intro w272 hE273
     have hL274 := hL233.ext hE273
     have K275 := Keep.ext (s := w.heap.size) (O := []) hE273
     refine DrH.det ?_ ?_
     ·
      rintro w276 Z277 hE278 hZ279 ⟨-⟩
      refine GOp.op (OpY.move (v := a_v) rfl ?_)
      exact ⟨Ext.refl _, rfl⟩
     refine DrH.det ?_ ?_
     ·
      rintro w282 Z283 hE284 hZ285 ⟨-⟩
      refine GOp.op (OpY.move (v := (Value.int .i64 i227)) rfl ?_)
      exact ⟨Ext.refl _, rfl⟩
     refine DrH.det ?_ ?_
     ·
      rintro w288 Z289 hE290 hZ291 ⟨-⟩
      refine GOp.op (OpY.ixRoD (r := rIneq) (v := a_v) (n := n239) (m := (o243 + n239 * rIneq.sz)) Try.underlying22 ti34 rfl q246 rfl q240 q241 rfl ?_)
      exact ⟨Ext.refl _, rfl⟩
     refine DrH.det ?_ ?_
     ·
      rintro w294 Z295 hE296 hZ297 ⟨-⟩
      have K299 := Keep.ext (s := w.heap.size) (O := []) hE296
      refine GOp.op (OpY.ldRoA (vs := [v250, (Value.bool x237.Bound.Negative), v252]) Try.underlying34 rfl ti34 rfl rfl vw_view (At.mono (K299 S) (At.mono (K275 S) f248)) ?_)
      exact ⟨Ext.refl _, rfl⟩
     refine DrH.det ?_ ?_
     ·
      rintro w300 Z301 hE302 hZ303 ⟨-⟩
      refine GOp.op (OpY.move (v := b_v) rfl ?_)
      exact ⟨Ext.refl _, rfl⟩
     refine DrH.det ?_ ?_
     ·
      rintro w306 Z307 hE308 hZ309 ⟨-⟩
      refine GOp.op (OpY.move (v := (Value.int .i64 i227)) rfl ?_)
      exact ⟨Ext.refl _, rfl⟩
     refine DrH.det ?_ ?_
     ·
      rintro w312 Z313 hE314 hZ315 ⟨-⟩
      refine GOp.op (OpY.ixRoD (r := rIneq) (v := b_v) (n := n256) (m := (o260 + n256 * rIneq.sz)) Try.underlying22 ti34 rfl q263 rfl q257 q258 rfl ?_)
      exact ⟨Ext.refl _, rfl⟩
     refine DrH.det ?_ ?_
     ·
      rintro w318 Z319 hE320 hZ321 ⟨-⟩
      have K323 := Keep.ext (s := w.heap.size) (O := []) hE320
      refine GOp.op (OpY.ldRoA (vs := [v267, (Value.bool x254.Bound.Negative), v269]) Try.underlying34 rfl ti34 rfl rfl vw_view (At.mono (K323 S) (At.mono (K275 S) f265)) ?_)
      exact ⟨Ext.refl _, rfl⟩
     refine DrH.fin ?_
     rintro w324 Z325 hE326 hZ327 ⟨-⟩ ap328
     have hB329 : ∀ b, some b ∈ ([] : List (Option Nat)) → w272.heap.size ≤ b ∧ ¬ Z325 b := by
      intro b hb; cases hb
     have hL330 := hL274.ext hE326
     have K331 := Keep.ext (s := w.heap.size) (O := []) hE326
     obtain ⟨r332, q333, h⟩ := bind_some h
     have f335 := ((k251.mono (K275 S)).mono (K331 S))
     have f336 := ((k253.mono (K275 S)).mono (K331 S))
     have f337 := ((k268.mono (K275 S)).mono (K331 S))
     have f338 := ((k270.mono (K275 S)).mono (K331 S))
     refine Rl.op (OpY.call en16 rfl rfl (rSame1_w N x237 x254 v250 v252 v267 v269 _ Any (f335.mono vw_any) (f336.mono vw_any) (f337.mono vw_any) (f338.mono vw_any) r332 q333) ?_)
     rintro _ w339 hE342 ⟨rfl, -⟩
     have hL340 := hL330.ext hE342
     have K341 := Keep.ext (s := w.heap.size) (O := []) hE342
     refine Rl.op (OpY.not (x := r332) rfl ?_)
     refine Rl.nil ?_
     refine Swp.cond_b (!r332) rfl (fun hc343 => ?_) (fun hc343 => ?_)
     ·
      replace h := ite_t hc343 h
      refine Swp.seq ?_
      refine Swp.region rfl ?_
      refine Rl.op (OpY.assign (v := (Value.bool false)) rfl ?_)
      refine Rl.nil ?_
      refine Swp.ret ?_
      obtain rfl := Option.some.inj h
      obtain rfl := hd231 _ rfl
      replace h := g229
      try dsimp only at h
      obtain rfl := Option.some.inj h
      refine ⟨[(Value.bool false)], ⟨rfl, trivial⟩, ⟨_, rfl, hL340.done, ?_⟩⟩
      exact ⟨rfl, trivial⟩
     ·
      replace h := ite_f hc343 h
      refine Swp.skip ?_
      refine Swp.pop_blk ?_
      refine Swp.region rfl ?_
      refine Rl.op (OpY.move (v := (Value.int .i64 i227)) rfl ?_)
      refine Rl.op (OpY.add (x := i227) (y := 1) (z := (iw (i227 + 1))) rfl rfl rfl ?_)
      refine Rl.op (OpY.assign (v := (Value.int .i64 (iw (i227 + 1)))) rfl ?_)
      refine Rl.nil ?_
      obtain rfl := Option.some.inj h
      refine Swp.pop_back ⟨(iw (i227 + 1)), rfl, ?_⟩
      exact ⟨_, (upds_sym ⟨rfl, ⟨rfl, ⟨rfl, trivial⟩⟩⟩), hL340, (Keep.trans (Keep.trans (Keep.trans K234 K275) K331) K341), trivial⟩
   ·
    replace h := ite_f hc236 h
    refine Swp.exit rfl ?_
    obtain rfl := Option.some.inj h
    obtain rfl := hd231 _ rfl
    replace h := g229
    try dsimp only at h
    skip
    refine Swp.pop_back ?_
    exact ⟨_, rfl, (upds_sym trivial), hL233, K234, trivial⟩
  ·
   rintro _ w344 ⟨u, rfl, rfl, hL345, K346, -⟩
   replace h := g229
   try dsimp only at h
   refine Swp.seq ?_
   refine Swp.region rfl ?_
   refine Rl.op (OpY.assign (v := (Value.bool true)) rfl ?_)
   refine Rl.nil ?_
   refine Swp.ret ?_
   obtain rfl := Option.some.inj h
   refine ⟨[(Value.bool true)], ⟨rfl, trivial⟩, ⟨_, rfl, hL345.done, ?_⟩⟩
   exact ⟨rfl, trivial⟩
end Go.Proofs.Ytakkacdhlocckaa.WD

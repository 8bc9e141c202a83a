/- Walks, written by a program of mine (wip/tool); the kernel checks them. -/
import Derived.Test.YtakkacdhlocckaaProg
import Derived.Test.YtakkacdhlocckaaZ7
import Derived.Test.YtakkacdhlocckaaPC
import Derived.Test.YtakkacdhlocckaaWAConstraint
import Derived.Test.YtakkacdhlocckaaWRConstraint
import Derived.Test.YtakkacdhlocckaaWBConstraint
set_option maxRecDepth 100000
set_option maxHeartbeats 4000000
set_option linter.unusedVariables false
namespace Go.Proofs.Ytakkacdhlocckaa.WC
open Go Go.RowKit Go.X Go.D Go.Proofs.Ytakkacdhlocckaa.WA Go.Proofs.Ytakkacdhlocckaa.WR Go.Proofs.Ytakkacdhlocckaa.WB
theorem mixed : Try.prog.follows .mixedOrders = true := by kernel_rfl
theorem ti61 : TI Try.prog 61 2 32 (Value.agg #[(Value.int .i64 0), (Value.slice none 0 0)]) := TI.mk (by kernel_rfl)
theorem ti59 : TI Try.prog 59 1 24 (Value.slice none 0 0) := TI.mk (by kernel_rfl)
theorem ti71 : TI Try.prog 71 2 16 (Value.agg #[(Value.int .i64 0), (Value.int .i64 0)]) := TI.mk (by kernel_rfl)
theorem ti3 : TI Try.prog 3 1 8 (Value.int .i64 0) := TI.mk (by kernel_rfl)
theorem ti34 : TI Try.prog 34 3 56 (Value.agg #[(Value.slice none 0 0), (Value.bool false), (Value.slice none 0 0)]) := TI.mk (by kernel_rfl)
theorem ti26 : TI Try.prog 26 2 32 (Value.agg #[(Value.bool false), (Value.slice none 0 0)]) := TI.mk (by kernel_rfl)
theorem en63 : Enters Try.prog 63 := ⟨Try.f63, Try.func63, by kernel_rfl, by kernel_rfl⟩
theorem pl34 : placesT Try.prog 34 = some [(0, 1), (1, 2)] := by kernel_rfl
theorem ti32 : TI Try.prog 32 1 24 (Value.slice none 0 0) := TI.mk (by kernel_rfl)
theorem en57 : Enters Try.prog 57 := ⟨Try.f57, Try.func57, by kernel_rfl, by kernel_rfl⟩
theorem ti63 : TI Try.prog 63 3 40 (Value.agg #[(Value.int .i64 0), (Value.slice none 0 0), (Value.bool false)]) := TI.mk (by kernel_rfl)
theorem en67 : Enters Try.prog 67 := ⟨Try.f67, Try.func67, by kernel_rfl, by kernel_rfl⟩
theorem ti2 : TI Try.prog 2 1 8 (Value.int .i64 0) := TI.mk (by kernel_rfl)
theorem en58 : Enters Try.prog 58 := ⟨Try.f58, Try.func58, by kernel_rfl, by kernel_rfl⟩
theorem ti4 : TI Try.prog 4 1 1 (Value.bool false) := TI.mk (by kernel_rfl)
theorem en55 : Enters Try.prog 55 := ⟨Try.f55, Try.func55, by kernel_rfl, by kernel_rfl⟩
theorem en32 : Enters Try.prog 32 := ⟨Try.f32, Try.func32, by kernel_rfl, by kernel_rfl⟩
theorem en80 : Enters Try.prog 80 := ⟨Try.f80, Try.func80, by kernel_rfl, by kernel_rfl⟩
theorem en72 : Enters Try.prog 72 := ⟨Try.f72, Try.func72, by kernel_rfl, by kernel_rfl⟩
theorem en54 : Enters Try.prog 54 := ⟨Try.f54, Try.func54, by kernel_rfl, by kernel_rfl⟩
theorem en44 : Enters Try.prog 44 := ⟨Try.f44, Try.func44, by kernel_rfl, by kernel_rfl⟩
theorem en45 : Enters Try.prog 45 := ⟨Try.f45, Try.func45, by kernel_rfl, by kernel_rfl⟩
theorem ti23 : TI Try.prog 23 1 24 (Value.slice none 0 0) := TI.mk (by kernel_rfl)
theorem ti50 : TI Try.prog 50 3 40 (Value.agg #[(Value.int .i64 0), (Value.bool false), (Value.slice none 0 0)]) := TI.mk (by kernel_rfl)
theorem en47 : Enters Try.prog 47 := ⟨Try.f47, Try.func47, by kernel_rfl, by kernel_rfl⟩
theorem en46 : Enters Try.prog 46 := ⟨Try.f46, Try.func46, by kernel_rfl, by kernel_rfl⟩
theorem en48 : Enters Try.prog 48 := ⟨Try.f48, Try.func48, by kernel_rfl, by kernel_rfl⟩
theorem en53 : Enters Try.prog 53 := ⟨Try.f53, Try.func53, by kernel_rfl, by kernel_rfl⟩
theorem ti39 : TI Try.prog 39 1 24 (Value.slice none 0 0) := TI.mk (by kernel_rfl)
theorem ti28 : TI Try.prog 28 3 56 (Value.agg #[(Value.slice none 0 0), (Value.bool false), (Value.slice none 0 0)]) := TI.mk (by kernel_rfl)
theorem en14 : Enters Try.prog 14 := ⟨Try.f14, Try.func14, by kernel_rfl, by kernel_rfl⟩
theorem ti40 : TI Try.prog 40 1 24 (Value.slice none 0 0) := TI.mk (by kernel_rfl)
theorem en29 : Enters Try.prog 29 := ⟨Try.f29, Try.func29, by kernel_rfl, by kernel_rfl⟩
theorem en56 : Enters Try.prog 56 := ⟨Try.f56, Try.func56, by kernel_rfl, by kernel_rfl⟩
theorem en59 : Enters Try.prog 59 := ⟨Try.f59, Try.func59, by kernel_rfl, by kernel_rfl⟩
theorem ti42 : TI Try.prog 42 5 104 (Value.agg #[(Value.slice none 0 0), (Value.slice none 0 0), (Value.bool false), (Value.slice none 0 0), (Value.slice none 0 0)]) := TI.mk (by kernel_rfl)
theorem en18 : Enters Try.prog 18 := ⟨Try.f18, Try.func18, by kernel_rfl, by kernel_rfl⟩
theorem pl26 : placesT Try.prog 26 = some [(0, 1), (1, 1)] := by kernel_rfl
theorem en66 : Enters Try.prog 66 := ⟨Try.f66, Try.func66, by kernel_rfl, by kernel_rfl⟩
theorem en21 : Enters Try.prog 21 := ⟨Try.f21, Try.func21, by kernel_rfl, by kernel_rfl⟩
theorem pl28 : placesT Try.prog 28 = some [(0, 1), (1, 2)] := by kernel_rfl
theorem pl50 : placesT Try.prog 50 = some [(0, 1), (1, 2)] := by kernel_rfl
theorem pl42 : placesT Try.prog 42 = some [(0, 1), (1, 1), (2, 2), (4, 1)] := by kernel_rfl
theorem cvalid_w (N : Nat) (c : Constraint) (n : Int) (c_v : Value) (w : World) (S : Nat → Prop) (c_h : Rs rCoef (Hv w.heap.size S [] w) c_v c.Linear.Coefs) (r : Bool) (h : cvalid N c n = some r) :
  Calls Try.prog 67 #[(Value.agg #[(Value.int .i64 c.Linear.Const), c_v, (Value.bool c.Equal)]), (Value.int .i64 n)] w (Ret w (fun v w' => (Value.bool r) = v ∧ True)) := by
 unfold cvalid at h
 have hL : Go.X.Loc [] [] w w [] [] := Go.X.Loc.begin0 w
 refine calls_of (l := [(Value.agg #[(Value.int .i64 c.Linear.Const), c_v, (Value.bool c.Equal)]), (Value.int .i64 n)]) (rl := [.tmp 4]) (n := 35) Try.func67 rfl rfl rfl (Nat.le_of_ble_eq_true rfl) ?_
 refine Swp.seq ?_
 refine Swp.region rfl ?_
 refine Rl.op (OpY.box (cs := [(Value.int .i64 c.Linear.Const), c_v, (Value.bool c.Equal)]) rfl rfl hL ?_)
 intro b1 w2 (hL3 : Go.X.Loc [] [] w w2 [some b1] [Cont.cells [(Value.int .i64 c.Linear.Const), c_v, (Value.bool c.Equal)]]) hS5
 have K4 := Keep.step (s := w.heap.size) hS5
 refine Rl.op (OpY.assign (v := (Value.bool false)) rfl ?_)
 refine Rl.nil ?_
 refine Swp.seq ?_
 refine Swp.region rfl ?_
 refine Rl.op (OpY.assign (v := (Value.int .i64 (-1))) rfl ?_)
 refine Rl.nil ?_
 refine Swp.seq ?_
 refine Swp.seq ?_
 refine Swp.region rfl ?_
 refine Rl.op (OpY.fieldAddr (q := 0) Try.underlying63 rfl ti61 rfl rfl rfl ?_)
 refine Rl.op (OpY.fieldAddr (q := 1) Try.underlying61 rfl ti59 rfl rfl rfl ?_)
 refine Rl.op (OpY.ldBox1 (v := c_v) Try.underlying59 rfl rfl (hL3.at 0 rfl rfl) rfl ?_)
 have f6 := (c_h.mono (K4 S))
 refine Rl.op (OpY.lenRo (v := c_v) Try.underlying59 rfl f6 ?_)
 refine Rl.op (OpY.move (v := (Value.int .i64 0)) rfl ?_)
 refine Rl.nil ?_
 obtain ⟨s85, hl87, g86⟩ := bind_some h
 refine Swp.join (fun e w' => ∃  (u : Env), (Sum.inl ()) = s85 ∧ e = upds [(1, (Value.int .i64 n))] u ∧ Go.X.Loc [] [] w w' [] [] ∧ Keep w.heap.size [some b1] w2 [] w' ∧ True) ?_ ?_
 ·
  refine Swp.block ?_
  have hp89 := hL3.pick [] rfl rfl rfl
  have hL91 : Go.X.Loc [] [] w w2 [] [] := hp89.1
  have K90 := Keep.step (s := w.heap.size) hp89.2
  refine Swp.loopM hl87 (fun (ss : (Int × Int)) (e : Env) (w' : World) => match ss with | (last83, x84) => ∃ (u : Env), e = upds [(1, (Value.int .i64 n)), (5, (Value.int .i64 last83)), (10, c_v), (11, (Value.int .i64 (List.length c.Linear.Coefs : Int))), (12, (Value.int .i64 x84))] u ∧ Go.X.Loc [] [] w w' [] [] ∧ Keep w.heap.size [some b1] w2 [] w' ∧ True) ⟨_, (upds_sym ⟨rfl, ⟨rfl, ⟨rfl, ⟨rfl, ⟨rfl, trivial⟩⟩⟩⟩⟩), hL91, K90, trivial⟩ ?_
  rintro ⟨last83, x84⟩ oo _ w92 ⟨u, rfl, hL93, K94, -⟩ h hd88
  rw [cvalid_b1] at h
  refine Swp.seq ?_
  refine Swp.region rfl ?_
  refine Rl.op (OpY.lss (x := x84) (y := (List.length c.Linear.Coefs : Int)) ((x84 : Int) < (List.length c.Linear.Coefs : Int)) rfl rfl Iff.rfl ?_)
  refine Rl.nil ?_
  refine Swp.seq ?_
  refine Swp.cond_d ((x84 : Int) < (List.length c.Linear.Coefs : Int)) rfl (fun hc95 => ?_) (fun hc95 => ?_)
  ·
   replace h := ite_t hc95 h
   refine Swp.skip ?_
   refine Swp.seq ?_
   refine Swp.block ?_
   refine Swp.seq ?_
   refine Swp.region rfl ?_
   obtain ⟨x96, q97, h⟩ := bind_some h
   obtain ⟨n98, q99, q100⟩ := idx_some q97
   have f109 := (f6.mono (K94 S))
   obtain ⟨b101, o102, c103, vs104, q105, q106, f107, q108⟩ := Rs.get f109 q100
   obtain ⟨rfl, -⟩ := rCoef_open q108
   refine Rl.op (OpY.ixRoD (r := rCoef) (v := c_v) (n := n98) (m := (o102 + n98 * rCoef.sz)) Try.underlying59 ti71 rfl q105 rfl q99 q100 rfl ?_)
   refine Rl.op (OpY.ldRoA (vs := [(Value.int .i64 x96.Var), (Value.int .i64 x96.N)]) Try.underlying71 rfl ti71 rfl rfl vw_view f107 ?_)
   refine Rl.op (OpY.alloc (cs := [(Value.int .i64 0), (Value.int .i64 0)]) ti71 rfl hL93 ?_)
   intro b110 w111 (hL112 : Go.X.Loc [] [] w w111 [some b110] [Cont.cells [(Value.int .i64 0), (Value.int .i64 0)]]) hS114
   have K113 := Keep.step (s := w.heap.size) hS114
   refine Rl.op0 (OpY.store (vs := [(Value.int .i64 x96.Var), (Value.int .i64 x96.N)]) ti71 rfl rfl rfl rfl (ones_cons rfl (ones_cons rfl ones_nil)) hL112 0 rfl rfl (Nat.le_of_ble_eq_true rfl) ?_)
   intro w115 (hL116 : Go.X.Loc [] [] w w115 [some b110] [Cont.cells [(Value.int .i64 x96.Var), (Value.int .i64 x96.N)]]) hS118
   have K117 := Keep.step (s := w.heap.size) hS118
   refine Rl.nil ?_
   refine Swp.seq ?_
   refine Swp.seq ?_
   obtain ⟨s122, h, g123⟩ := bind_some h
   refine Swp.join (fun e w' => ∃ (x121 : Bool) (u : Env), x121 = s122 ∧ e = upds [(1, (Value.int .i64 n)), (7, (Value.pointer (some ⟨b110, 0, none⟩))), (10, c_v), (11, (Value.int .i64 (List.length c.Linear.Coefs : Int))), (12, (Value.int .i64 x84)), (25, (Value.bool x121))] u ∧ Go.X.Loc [] [] w w' [some b110] [Cont.cells [(Value.int .i64 x96.Var), (Value.int .i64 x96.N)]] ∧ Keep w.heap.size [some b110] w115 [some b110] w' ∧ True) ?_ ?_
   ·
    refine Swp.region rfl ?_
    refine Rl.op (OpY.fieldAddr (q := 0) Try.underlying71 rfl ti3 rfl rfl rfl ?_)
    refine Rl.op (OpY.ldBox1 (v := (Value.int .i64 x96.Var)) Try.underlying3 rfl rfl (hL116.at 0 rfl rfl) rfl ?_)
    refine Rl.op (OpY.move (v := (Value.int .i64 last83)) rfl ?_)
    refine Rl.op (OpY.leq (x := x96.Var) (y := last83) ((x96.Var : Int) ≤ last83) rfl rfl Iff.rfl ?_)
    refine Rl.op (OpY.move (v := (Value.bool (decide ((x96.Var : Int) ≤ last83)))) rfl ?_)
    by_cases hc124 : (x96.Var : Int) ≤ last83
    ·
     replace h := ite_t hc124 h
     refine Rl.no (dj := 20) (b' := (decide ((x96.Var : Int) ≤ last83))) rfl rfl (decide_eq_true hc124) ?_
     refine Rl.no (dj := 20) (b' := (decide ((x96.Var : Int) ≤ last83))) rfl rfl (decide_eq_true hc124) ?_
     refine Rl.no (dj := 20) (b' := (decide ((x96.Var : Int) ≤ last83))) rfl rfl (decide_eq_true hc124) ?_
     refine Rl.no (dj := 20) (b' := (decide ((x96.Var : Int) ≤ last83))) rfl rfl (decide_eq_true hc124) ?_
     refine Rl.op (OpY.pick_t (t := (decide ((x96.Var : Int) ≤ last83))) (v := (Value.bool true)) rfl (decide_eq_true hc124) rfl ?_)
     refine Rl.nil ?_
     obtain rfl := Option.some.inj h
     refine Swp.pop_back ?_
     exact ⟨true, _, rfl, (upds_sym ⟨rfl, ⟨rfl, ⟨rfl, ⟨rfl, ⟨rfl, ⟨rfl, trivial⟩⟩⟩⟩⟩⟩), hL116, Keep.refl, trivial⟩
    ·
     replace h := ite_f hc124 h
     refine Rl.yes (dj := 20) (b' := (decide ((x96.Var : Int) ≤ last83))) rfl rfl (decide_eq_false hc124) (OpY.fieldAddr (q := 0) Try.underlying71 rfl ti3 rfl rfl rfl ?_)
     refine Rl.yes (dj := 20) (b' := (decide ((x96.Var : Int) ≤ last83))) rfl rfl (decide_eq_false hc124) (OpY.ldBox1 (v := (Value.int .i64 x96.Var)) Try.underlying3 rfl rfl (hL116.at 0 rfl rfl) rfl ?_)
     refine Rl.yes (dj := 20) (b' := (decide ((x96.Var : Int) ≤ last83))) rfl rfl (decide_eq_false hc124) (OpY.move (v := (Value.int .i64 n)) rfl ?_)
     refine Rl.yes (dj := 20) (b' := (decide ((x96.Var : Int) ≤ last83))) rfl rfl (decide_eq_false hc124) (OpY.geq (x := x96.Var) (y := n) ((x96.Var : Int) ≥ n) rfl rfl Iff.rfl ?_)
     refine Rl.op (OpY.pick_f (t := (decide ((x96.Var : Int) ≤ last83))) (v := (Value.bool (decide ((x96.Var : Int) ≥ n)))) rfl (decide_eq_false hc124) rfl ?_)
     refine Rl.nil ?_
     obtain rfl := Option.some.inj h
     refine Swp.pop_back ?_
     exact ⟨(decide ((x96.Var : Int) ≥ n)), _, rfl, (upds_sym ⟨rfl, ⟨rfl, ⟨rfl, ⟨rfl, ⟨rfl, ⟨rfl, trivial⟩⟩⟩⟩⟩⟩), hL116, Keep.refl, trivial⟩
   ·
    rintro _ w125 ⟨x121, u, rfl, rfl, hL126, K127, -⟩
    replace h := g123
    try dsimp only at h
    refine Swp.cond_b x121 rfl (fun hc128 => ?_) (fun hc128 => ?_)
    ·
     replace h := ite_t hc128 h
     refine Swp.seq ?_
     refine Swp.region rfl ?_
     refine Rl.op (OpY.assign (v := (Value.bool false)) rfl ?_)
     refine Rl.nil ?_
     refine Swp.ret ?_
     obtain rfl := Option.some.inj h
     obtain rfl := hd88 _ rfl
     replace h := g86
     try dsimp only at h
     obtain rfl := Option.some.inj h
     refine ⟨[(Value.bool false)], ⟨rfl, trivial⟩, ⟨_, rfl, hL126.done, ?_⟩⟩
     exact ⟨rfl, trivial⟩
    ·
     replace h := ite_f hc128 h
     refine Swp.skip ?_
     refine Swp.region rfl ?_
     refine Rl.op (OpY.fieldAddr (q := 0) Try.underlying71 rfl ti3 rfl rfl rfl ?_)
     refine Rl.op (OpY.ldBox1 (v := (Value.int .i64 x96.Var)) Try.underlying3 rfl rfl (hL126.at 0 rfl rfl) rfl ?_)
     refine Rl.op (OpY.assign (v := (Value.int .i64 x96.Var)) rfl ?_)
     refine Rl.nil ?_
     refine Swp.pop_blk ?_
     refine Swp.region rfl ?_
     refine Rl.op (OpY.add (x := x84) (y := 1) (z := (iw (x84 + 1))) rfl rfl rfl ?_)
     refine Rl.op (OpY.move (v := (Value.int .i64 (iw (x84 + 1)))) rfl ?_)
     refine Rl.nil ?_
     have hp129 := hL126.pick [] rfl rfl rfl
     have hL131 : Go.X.Loc [] [] w w125 [] [] := hp129.1
     have K130 := Keep.step (s := w.heap.size) hp129.2
     obtain rfl := Option.some.inj h
     refine Swp.pop_back ⟨(x96.Var, (iw (x84 + 1))), rfl, ?_⟩
     exact ⟨_, (upds_sym ⟨rfl, ⟨rfl, ⟨rfl, ⟨rfl, ⟨rfl, trivial⟩⟩⟩⟩⟩), hL131, (Keep.trans (Keep.trans (Keep.trans (Keep.trans K94 K113) K117) K127) K130), trivial⟩
  ·
   replace h := ite_f hc95 h
   refine Swp.exit rfl ?_
   obtain rfl := Option.some.inj h
   obtain rfl := hd88 _ rfl
   replace h := g86
   try dsimp only at h
   skip
   refine Swp.pop_back ?_
   exact ⟨_, rfl, (upds_sym ⟨rfl, trivial⟩), hL93, K94, trivial⟩
 ·
  rintro _ w132 ⟨u, rfl, rfl, hL133, K134, -⟩
  replace h := g86
  try dsimp only at h
  refine Swp.seq ?_
  refine Swp.region rfl ?_
  refine Rl.op (OpY.move (v := (Value.int .i64 n)) rfl ?_)
  refine Rl.op (OpY.geq (x := n) (y := 0) ((n : Int) ≥ 0) rfl rfl Iff.rfl ?_)
  refine Rl.op (OpY.move (v := (Value.bool (decide ((n : Int) ≥ 0)))) rfl ?_)
  by_cases hc135 : (n : Int) ≥ 0
  ·
   replace h := ite_t hc135 h
   refine Rl.yes (dj := 31) (b' := (decide ((n : Int) ≥ 0))) rfl rfl (decide_eq_true hc135) (OpY.move (v := (Value.int .i64 n)) rfl ?_)
   refine Rl.yes (dj := 31) (b' := (decide ((n : Int) ≥ 0))) rfl rfl (decide_eq_true hc135) (OpY.leq (x := n) (y := 512) ((n : Int) ≤ 512) rfl rfl Iff.rfl ?_)
   refine Rl.op (OpY.pick_t (t := (decide ((n : Int) ≥ 0))) (v := (Value.bool (decide ((n : Int) ≤ 512)))) rfl (decide_eq_true hc135) rfl ?_)
   refine Rl.op (OpY.assign (v := (Value.bool (decide ((n : Int) ≤ 512)))) rfl ?_)
   refine Rl.nil ?_
   refine Swp.ret ?_
   obtain rfl := Option.some.inj h
   refine ⟨[(Value.bool (decide ((n : Int) ≤ 512)))], ⟨rfl, trivial⟩, ⟨_, rfl, hL133.done, ?_⟩⟩
   exact ⟨rfl, trivial⟩
  ·
   replace h := ite_f hc135 h
   refine Rl.no (dj := 31) (b' := (decide ((n : Int) ≥ 0))) rfl rfl (decide_eq_false hc135) ?_
   refine Rl.no (dj := 31) (b' := (decide ((n : Int) ≥ 0))) rfl rfl (decide_eq_false hc135) ?_
   refine Rl.op (OpY.pick_f (t := (decide ((n : Int) ≥ 0))) (v := (Value.bool false)) rfl (decide_eq_false hc135) rfl ?_)
   refine Rl.op (OpY.assign (v := (Value.bool false)) rfl ?_)
   refine Rl.nil ?_
   refine Swp.ret ?_
   obtain rfl := Option.some.inj h
   refine ⟨[(Value.bool false)], ⟨rfl, trivial⟩, ⟨_, rfl, hL133.done, ?_⟩⟩
   exact ⟨rfl, trivial⟩
theorem negated_w (N : Nat) (l : (List Big)) (bound : Big) (l_v : Value) (bound_v : Value) (w : World) (S : Nat → Prop) (l_h : Rs rBig (Hv w.heap.size S [] w) l_v l) (bound_h : Rs (rInt .u32) (Hv w.heap.size S [] w) bound_v bound.Digits) (r : Ineq) (h : negated N l bound = some r) :
  Calls Try.prog 55 #[l_v, (Value.agg #[(Value.bool bound.Negative), bound_v])] w (Ret w (fun v w' => ∃ (v0_0 : Value) (v0_1 : Value), (Value.agg #[v0_0, (Value.bool r.Bound.Negative), v0_1]) = v ∧ Rs rBig (Hv w.heap.size None [] w') v0_0 r.Coefs ∧ Rs (rInt .u32) (Hv w.heap.size None [] w') v0_1 r.Bound.Digits ∧ True)) := by
 unfold negated at h
 have hL : Go.X.Loc [] [] w w [] [] := Go.X.Loc.begin0 w
 refine calls_of (l := [l_v, (Value.agg #[(Value.bool bound.Negative), bound_v])]) (rl := [.cell 4 34]) (n := 26) Try.func55 rfl rfl rfl (Nat.le_of_ble_eq_true rfl) ?_
 refine Swp.seq ?_
 refine Swp.region rfl ?_
 refine Rl.op (OpY.box (cs := [(Value.bool bound.Negative), bound_v]) rfl rfl hL ?_)
 intro b1 w2 (hL3 : Go.X.Loc [] [] w w2 [some b1] [Cont.cells [(Value.bool bound.Negative), bound_v]]) hS5
 have K4 := Keep.step (s := w.heap.size) hS5
 refine Rl.op (OpY.alloc (cs := [(Value.slice none 0 0), (Value.bool false), (Value.slice none 0 0)]) ti34 rfl hL3 ?_)
 intro b6 w7 (hL8 : Go.X.Loc [] [] w w7 [some b6, some b1] [Cont.cells [(Value.slice none 0 0), (Value.bool false), (Value.slice none 0 0)], Cont.cells [(Value.bool bound.Negative), bound_v]]) hS10
 have K9 := Keep.step (s := w.heap.size) hS10
 refine Rl.nil ?_
 refine Swp.seq ?_
 refine Swp.region rfl ?_
 refine Rl.op (OpY.ldBoxA (vs := [(Value.bool bound.Negative), bound_v]) Try.underlying26 rfl ti26 rfl (hL8.at 1 rfl rfl) rfl rfl ?_)
 obtain ⟨r11, q12, h⟩ := bind_some h
 have f16 := ((bound_h.mono (K4 S)).mono (K9 S))
 refine Rl.op (OpY.call en63 rfl rfl (bNormal_w N bound bound_v _ Any (f16.mono vw_any) r11 q12) ?_)
 rintro _ w17 hE20 ⟨v13, rfl, k14, -⟩
 replace k14 := k14.mono (Hv.freshO (S := None) hL8 [])
 have hL18 := hL8.ext hE20
 have K19 := Keep.ext (s := w.heap.size) (O := [some b6, some b1]) hE20
 refine Rl.op (OpY.build (zc := [(Value.slice none 0 0), (Value.bool false), (Value.slice none 0 0)]) (cs := [(Value.slice none 0 0), (Value.bool r11.Negative), v13]) (is := [1]) (vs := [(Value.agg #[(Value.bool r11.Negative), v13])]) (css := [[(Value.bool r11.Negative), v13]]) pl34 ti34 rfl rfl rfl ⟨rfl, trivial⟩ rfl ?_)
 refine Rl.op (OpY.alloc (cs := [(Value.slice none 0 0), (Value.bool false), (Value.slice none 0 0)]) ti34 rfl hL18 ?_)
 intro b21 w22 (hL23 : Go.X.Loc [] [] w w22 [some b21, some b6, some b1] [Cont.cells [(Value.slice none 0 0), (Value.bool false), (Value.slice none 0 0)], Cont.cells [(Value.slice none 0 0), (Value.bool false), (Value.slice none 0 0)], Cont.cells [(Value.bool bound.Negative), bound_v]]) hS25
 have K24 := Keep.step (s := w.heap.size) hS25
 have f26 := (k14.mono (K24 None))
 refine Rl.op0 (OpY.store (vs := [(Value.slice none 0 0), (Value.bool r11.Negative), v13]) ti34 rfl rfl rfl rfl (ones_cons rfl (ones_cons rfl (ones_cons f26.one ones_nil))) hL23 0 rfl rfl (Nat.le_of_ble_eq_true rfl) ?_)
 intro w27 (hL28 : Go.X.Loc [] [] w w27 [some b21, some b6, some b1] [Cont.cells [(Value.slice none 0 0), (Value.bool r11.Negative), v13], Cont.cells [(Value.slice none 0 0), (Value.bool false), (Value.slice none 0 0)], Cont.cells [(Value.bool bound.Negative), bound_v]]) hS30
 have K29 := Keep.step (s := w.heap.size) hS30
 refine Rl.nil ?_
 refine Swp.seq ?_
 refine Swp.seq ?_
 refine Swp.region rfl ?_
 refine Rl.op (OpY.move (v := l_v) rfl ?_)
 have f31 := (((((l_h.mono (K4 S)).mono (K9 S)).mono (K19 S)).mono (K24 S)).mono (K29 S))
 refine Rl.op (OpY.lenRo (v := l_v) Try.underlying32 rfl f31 ?_)
 refine Rl.op (OpY.move (v := (Value.int .i64 0)) rfl ?_)
 refine Rl.nil ?_
 obtain ⟨s302, hl304, g303⟩ := bind_some h
 refine Swp.join (fun e w' => ∃ (coefs298 : (List Big)) (ob294 : Option Nat) (cap295 : Nat) (sp296 : List Value) (cs297 : List Value) (ln301 : Nat) (u : Env), coefs298 = s302 ∧ e = upds [(4, (Value.pointer (some ⟨b6, 0, none⟩))), (5, (Value.pointer (some ⟨b21, 0, none⟩)))] u ∧ Go.X.Loc [] [] w w' [some b6, some b21, ob294] [Cont.cells [(Value.slice none 0 0), (Value.bool false), (Value.slice none 0 0)], Cont.cells [(osv ob294 0 ln301 cap295), (Value.bool r11.Negative), v13], Cont.cells ([] ++ (cs297 ++ sp296))] ∧ Keep w.heap.size [some b21, some b6, some b1] w27 [some b6, some b21, ob294] w' ∧ Els rBig (Hv w.heap.size None [some b6, some b21, ob294] w') cs297 coefs298 ∧ ln301 = List.length coefs298 ∧ (cs297 ++ sp296).length = cap295 * rBig.sz ∧ True) ?_ ?_
 ·
  refine Swp.block ?_
  have hp306 := hL28.addNil
  have hL307 : Go.X.Loc [] [] w w27 [none, some b21, some b6, some b1] [Cont.cells ([] ++ ([] ++ [])), Cont.cells [(Value.slice none 0 0), (Value.bool r11.Negative), v13], Cont.cells [(Value.slice none 0 0), (Value.bool false), (Value.slice none 0 0)], Cont.cells [(Value.bool bound.Negative), bound_v]] := hp306.1
  have K308 := Keep.step (s := w.heap.size) hp306.2
  have hp310 := hL307.pick [2, 1, 0] rfl rfl rfl
  have hL312 : Go.X.Loc [] [] w w27 [some b6, some b21, none] [Cont.cells [(Value.slice none 0 0), (Value.bool false), (Value.slice none 0 0)], Cont.cells [(osv none 0 (List.length ([] : (List Big))) 0), (Value.bool r11.Negative), v13], Cont.cells ([] ++ ([] ++ []))] := hp310.1
  have K311 := Keep.step (s := w.heap.size) hp310.2
  have f313 := ((Els.nil (r := rBig)).mono (K311 None))
  refine Swp.loopM hl304 (fun (ss : ((List Big) × Int)) (e : Env) (w' : World) => match ss with | (coefs286, x290) => ∃ (ob282 : Option Nat) (cap283 : Nat) (sp284 : List Value) (cs285 : List Value) (ln289 : Nat) (u : Env), e = upds [(4, (Value.pointer (some ⟨b6, 0, none⟩))), (5, (Value.pointer (some ⟨b21, 0, none⟩))), (11, l_v), (12, (Value.int .i64 (List.length l : Int))), (13, (Value.int .i64 x290))] u ∧ Go.X.Loc [] [] w w' [some b6, some b21, ob282] [Cont.cells [(Value.slice none 0 0), (Value.bool false), (Value.slice none 0 0)], Cont.cells [(osv ob282 0 ln289 cap283), (Value.bool r11.Negative), v13], Cont.cells ([] ++ (cs285 ++ sp284))] ∧ Keep w.heap.size [some b21, some b6, some b1] w27 [some b6, some b21, ob282] w' ∧ Els rBig (Hv w.heap.size None [some b6, some b21, ob282] w') cs285 coefs286 ∧ ln289 = List.length coefs286 ∧ (cs285 ++ sp284).length = cap283 * rBig.sz ∧ True) ⟨none, 0, [], [], (List.length ([] : (List Big))), _, (upds_sym ⟨rfl, ⟨rfl, ⟨rfl, ⟨rfl, ⟨rfl, trivial⟩⟩⟩⟩⟩), hL312, (Keep.trans K308 K311), f313, rfl, (show ([] ++ [] : List Value).length = 0 * rBig.sz by simp), trivial⟩ ?_
  rintro ⟨coefs286, x290⟩ oo _ w314 ⟨ob282, cap283, sp284, cs285, ln289, u, rfl, hL315, K316, hE287, rfl, hc288, -⟩ h hd305
  rw [negated_b1] at h
  refine Swp.seq ?_
  refine Swp.region rfl ?_
  refine Rl.op (OpY.lss (x := x290) (y := (List.length l : Int)) ((x290 : Int) < (List.length l : Int)) rfl rfl Iff.rfl ?_)
  refine Rl.nil ?_
  refine Swp.seq ?_
  refine Swp.cond_d ((x290 : Int) < (List.length l : Int)) rfl (fun hc317 => ?_) (fun hc317 => ?_)
  ·
   replace h := ite_t hc317 h
   refine Swp.skip ?_
   refine Swp.seq ?_
   refine Swp.block ?_
   refine Swp.seq ?_
   refine Swp.region rfl ?_
   obtain ⟨x318, q319, h⟩ := bind_some h
   obtain ⟨n320, q321, q322⟩ := idx_some q319
   have f333 := (f31.mono (K316 S))
   obtain ⟨b323, o324, c325, vs326, q327, q328, f329, q330⟩ := Rs.get f333 q322
   obtain ⟨v331, rfl, k332, -⟩ := rBig_open q330
   refine Rl.op (OpY.ixRoD (r := rBig) (v := l_v) (n := n320) (m := (o324 + n320 * rBig.sz)) Try.underlying32 ti26 rfl q327 rfl q321 q322 rfl ?_)
   refine Rl.op (OpY.ldRoA (vs := [(Value.bool x318.Negative), v331]) Try.underlying26 rfl ti26 rfl rfl vw_view f329 ?_)
   refine Rl.op (OpY.alloc (cs := [(Value.bool false), (Value.slice none 0 0)]) ti26 rfl hL315 ?_)
   intro b334 w335 (hL336 : Go.X.Loc [] [] w w335 [some b334, some b6, some b21, ob282] [Cont.cells [(Value.bool false), (Value.slice none 0 0)], Cont.cells [(Value.slice none 0 0), (Value.bool false), (Value.slice none 0 0)], Cont.cells [(osv ob282 0 (List.length coefs286) cap283), (Value.bool r11.Negative), v13], Cont.cells ([] ++ (cs285 ++ sp284))]) hS338
   have K337 := Keep.step (s := w.heap.size) hS338
   have f339 := (k332.mono (K337 S))
   refine Rl.op0 (OpY.store (vs := [(Value.bool x318.Negative), v331]) ti26 rfl rfl rfl rfl (ones_cons rfl (ones_cons f339.one ones_nil)) hL336 0 rfl rfl (Nat.le_of_ble_eq_true rfl) ?_)
   intro w340 (hL341 : Go.X.Loc [] [] w w340 [some b334, some b6, some b21, ob282] [Cont.cells [(Value.bool x318.Negative), v331], Cont.cells [(Value.slice none 0 0), (Value.bool false), (Value.slice none 0 0)], Cont.cells [(osv ob282 0 (List.length coefs286) cap283), (Value.bool r11.Negative), v13], Cont.cells ([] ++ (cs285 ++ sp284))]) hS343
   have K342 := Keep.step (s := w.heap.size) hS343
   refine Rl.nil ?_
   obtain ⟨r344, q345, h⟩ := bind_some h
   refine Swp.drawL 5 [] [] (fun W1 => [.det (Value.pointer (some ⟨b21, 0, none⟩)), .det (osv ob282 0 (List.length coefs286) cap283), .det (Value.agg #[(Value.bool x318.Negative), v331]), .rel (fun v Z w' => ∃ v346, (Value.agg #[(Value.bool r344.Negative), v346]) = v ∧ Rs (rInt .u32) (Zv W1 w.heap.size None [some b334, some b6, some b21, ob282] Z w') v346 r344.Digits ∧ True) (fun _ => []), .rel (fun v Z w' => ∃ b349 cs356, (osv (some b349) 0 1 1) = v ∧ OwnC w' (some b349) (Cont.cells ([] ++ (cs356 ++ []))) ∧ Els rBig (Zv W1 w.heap.size None [some b334, some b6, some b21, ob282] Z w') cs356 [r344] ∧ (cs356 ++ [] : List Value).length = 1 * rBig.sz ∧ True) footV]) mixed rfl rfl rfl (fun _ => rfl) (fun _ => rfl) ?_ ?_
   ·
    intro W1 _
    exact ⟨fun v Z Z' w w' hΦ hz _ _ hs => by obtain ⟨v346, rfl, k347, -⟩ := hΦ; exact ⟨v346, rfl, (k347.mono (Zv.stay hz hs)), trivial⟩, ⟨fun v Z Z' w w' hΦ hz _ _ hs => by obtain ⟨b349, cs356, rfl, hO353, hE354, hc355, -⟩ := hΦ; exact ⟨b349, cs356, rfl, (hO353.stay (fun b hb => by cases hb; exact List.mem_cons_self) hs), (hE354.mono (Zv.stay hz hs)), hc355, trivial⟩, trivial⟩⟩
   ·
    intro w357 hE358
    have hL359 := hL341.ext hE358
    have K360 := Keep.ext (s := w.heap.size) (O := [some b334, some b6, some b21, ob282]) hE358
    refine DrH.det ?_ ?_
    ·
     rintro w361 Z362 hE363 hZ364 ⟨-⟩
     refine GOp.op (OpY.fieldAddr (q := 0) Try.underlying34 rfl ti32 rfl rfl rfl ?_)
     exact ⟨Ext.refl _, rfl⟩
    refine DrH.det ?_ ?_
    ·
     rintro w367 Z368 hE369 hZ370 ⟨-⟩
     have hL371 := hL359.ext hE369
     refine GOp.op (OpY.ldBox1 (v := (osv ob282 0 (List.length coefs286) cap283)) Try.underlying32 rfl rfl (hL371.at 2 rfl rfl) rfl ?_)
     exact ⟨Ext.refl _, rfl⟩
    refine DrH.det ?_ ?_
    ·
     rintro w373 Z374 hE375 hZ376 ⟨-⟩
     have hL377 := hL359.ext hE375
     refine GOp.op (OpY.ldBoxA (vs := [(Value.bool x318.Negative), v331]) Try.underlying26 rfl ti26 rfl (hL377.at 0 rfl rfl) rfl rfl ?_)
     exact ⟨Ext.refl _, rfl⟩
    refine DrH.rel ?_ ?_
    ·
     rintro w379 Z380 hE381 hZ382 ⟨-⟩
     have K384 := Keep.ext (s := w.heap.size) (O := [some b334, some b6, some b21, ob282]) hE381
     refine GOp.op (OpY.call en57 rfl rfl (bNeg_w N x318 v331 _ Any ((((f339.mono (K342 S)).mono (K360 S)).mono (K384 S)).mono vw_any) r344 q345) ?_)
     rintro _ w385 hE386 ⟨v346, rfl, k347, -⟩
     exact Made.ext hE386 hZ382 NewOwn.nil (fun _ h => h) ⟨v346, rfl, (k347.mono Zv.made), trivial⟩
    intro z3
    refine DrH.rel ?_ ?_
    ·
     rintro w387 Z388 hE389 hZ390 ⟨⟨⟨v346, rfl, k347, -⟩, hB3⟩, -⟩
     have hE350 : Els rBig (Zv w357 w.heap.size None [some b334, some b6, some b21, ob282] Z388 w387) [(Value.bool r344.Negative), v346] [r344] := (Els.cons (a := [(Value.bool r344.Negative), v346]) (rBig_close ⟨v346, rfl, k347, trivial⟩) Els.nil)
     refine GOp.op (OpY.litRow (r := rBig) (vs := [(Value.agg #[(Value.bool r344.Negative), v346])]) (css := [[(Value.bool r344.Negative), v346]]) (xs := [r344]) Try.underlying32 ti26 (Nat.le_of_ble_eq_true rfl) rfl rfl ⟨rfl, rfl, trivial⟩ (Nat.le_of_ble_eq_true rfl) hE350 rfl (Go.X.Loc.begin0 w387) ?_)
     intro b349 w393 hc351 hL394 hS395
     have hN396 : NewOwn w387 w393 [some b349] [Cont.cells ([] ++ ([(Value.bool r344.Negative), v346] ++ []))] := hL394.newOwn [0] rfl rfl rfl
     exact Made.ext hL394.done hZ390 hN396 (fun _ h => h) ⟨b349, [(Value.bool r344.Negative), v346], rfl, hN396.2.2.1, (hE350.mono (Zv.grow hL394.done)), hc351, trivial⟩
    intro z4
    refine DrH.fin0 ?_
    rintro w397 Z398 hE399 hZ400 ⟨⟨⟨b349, cs356, rfl, hO353, hE354, hc355, -⟩, hB4⟩, ⟨⟨v346, rfl, k347, -⟩, hB3⟩, -⟩ ap401
    have hB402 : ∀ b, some b ∈ ([some b349] : List (Option Nat)) → w357.heap.size ≤ b ∧ ¬ Z398 b := by
     intro b hb
     rcases List.mem_cons.1 hb with hb' | hb
     ·
      have := hB4 b (by rw [hb']; exact List.mem_cons_self); exact ⟨this.1, this.2.2⟩
     cases hb
    replace hE354 := hE354.mono (Zv.fin hL359 hZ400 hB402)
    replace k347 := k347.mono (Zv.fin hL359 hZ400 hB402)
    have hN405 : NewOwn w357 w397 [some b349] [Cont.cells ([] ++ (cs356 ++ []))] := (NewOwn.cons NewOwn.nil hO353 (fun b hb => (hB402 b (by rw [← hb]; simp)).1) (fun b _ hb => by cases hb))
    have hp406 := hL359.adoptL hE399 hN405
    have hL403 : Go.X.Loc [] [] w w397 [some b349, some b334, some b6, some b21, ob282] [Cont.cells ([] ++ (cs356 ++ [])), Cont.cells [(Value.bool x318.Negative), v331], Cont.cells [(Value.slice none 0 0), (Value.bool false), (Value.slice none 0 0)], Cont.cells [(osv ob282 0 (List.length coefs286) cap283), (Value.bool r11.Negative), v13], Cont.cells ([] ++ (cs285 ++ sp284))] := hp406.1
    have K404 := Keep.step (s := w.heap.size) hp406.2
    obtain ⟨x407, q408, h⟩ := bind_some h
    obtain ⟨q409, q410, q411⟩ := apnd_some q408
    have f419 := ((((hE287.mono (K337 None)).mono (K342 None)).mono (K360 None)).mono (K404 None))
    refine Rl.op (OpY.apRowX (r := rBig) (H := (Hv w.heap.size None [some b349, some b334, some b6, some b21, ob282] w397)) (cs := cs285) (sp := sp284) (xs := coefs286) (ys := [r344]) (Y := x407) (n := (List.length coefs286)) (cap := cap283) (i := 4) Try.underlying32 ti26 rfl rfl rfl rfl hL403 rfl rfl f419 rfl hc288 (Src.row (pre := []) (o := 0) (n := 1) (cap := 1) (hL403.at 0 rfl rfl) hE354 rfl rfl rfl) hE354 q409 q410 q411 ?_)
    intro ob412 cap413 sp415 cs414 w420 hE416 hc417 (hL421 : Go.X.Loc [] [] w w420 [some b349, some b334, some b6, some b21, ob412] [Cont.cells ([] ++ (cs356 ++ [])), Cont.cells [(Value.bool x318.Negative), v331], Cont.cells [(Value.slice none 0 0), (Value.bool false), (Value.slice none 0 0)], Cont.cells [(osv ob282 0 (List.length coefs286) cap283), (Value.bool r11.Negative), v13], Cont.cells ([] ++ (cs414 ++ sp415))]) hS423
    have K422 := Keep.step (s := w.heap.size) hS423
    refine Rl.op (OpY.fieldAddr (q := 0) Try.underlying34 rfl ti32 rfl rfl rfl ?_)
    refine Rl.op0 (OpY.store (vs := [(osv ob412 0 (List.length x407) cap413)]) ti32 rfl rfl (one_cells (osv_one _ _ _ _)) rfl (ones_cons (osv_one _ _ _ _) ones_nil) hL421 3 rfl rfl (Nat.le_of_ble_eq_true rfl) ?_)
    intro w424 (hL425 : Go.X.Loc [] [] w w424 [some b349, some b334, some b6, some b21, ob412] [Cont.cells ([] ++ (cs356 ++ [])), Cont.cells [(Value.bool x318.Negative), v331], Cont.cells [(Value.slice none 0 0), (Value.bool false), (Value.slice none 0 0)], Cont.cells [(osv ob412 0 (List.length x407) cap413), (Value.bool r11.Negative), v13], Cont.cells ([] ++ (cs414 ++ sp415))]) hS427
    have K426 := Keep.step (s := w.heap.size) hS427
    refine Rl.nil ?_
    refine Swp.pop_blk ?_
    refine Swp.region rfl ?_
    refine Rl.op (OpY.add (x := x290) (y := 1) (z := (iw (x290 + 1))) rfl rfl rfl ?_)
    refine Rl.op (OpY.move (v := (Value.int .i64 (iw (x290 + 1)))) rfl ?_)
    refine Rl.nil ?_
    have hp428 := hL425.pick [2, 3, 4] rfl rfl rfl
    have hL430 : Go.X.Loc [] [] w w424 [some b6, some b21, ob412] [Cont.cells [(Value.slice none 0 0), (Value.bool false), (Value.slice none 0 0)], Cont.cells [(osv ob412 0 (List.length x407) cap413), (Value.bool r11.Negative), v13], Cont.cells ([] ++ (cs414 ++ sp415))] := hp428.1
    have K429 := Keep.step (s := w.heap.size) hp428.2
    have f431 := (((hE416.mono (K422 None)).mono (K426 None)).mono (K429 None))
    obtain rfl := Option.some.inj h
    refine Swp.pop_back ⟨(x407, (iw (x290 + 1))), rfl, ?_⟩
    exact ⟨ob412, cap413, sp415, cs414, (List.length x407), _, (upds_sym ⟨rfl, ⟨rfl, ⟨rfl, ⟨rfl, ⟨rfl, trivial⟩⟩⟩⟩⟩), hL430, (Keep.trans (Keep.trans (Keep.trans (Keep.trans (Keep.trans (Keep.trans (Keep.trans K316 K337) K342) K360) K404) K422) K426) K429), f431, rfl, hc417, trivial⟩
  ·
   replace h := ite_f hc317 h
   refine Swp.exit rfl ?_
   obtain rfl := Option.some.inj h
   obtain rfl := hd305 _ rfl
   replace h := g303
   try dsimp only at h
   skip
   refine Swp.pop_back ?_
   exact ⟨coefs286, ob282, cap283, sp284, cs285, (List.length coefs286), _, rfl, (upds_sym ⟨rfl, ⟨rfl, trivial⟩⟩), hL315, K316, hE287, rfl, hc288, trivial⟩
 ·
  rintro _ w432 ⟨coefs298, ob294, cap295, sp296, cs297, ln301, u, rfl, rfl, hL433, K434, hE299, rfl, hc300, -⟩
  replace h := g303
  try dsimp only at h
  refine Swp.seq ?_
  refine Swp.region rfl ?_
  refine Rl.op (OpY.ldBoxA (vs := [(osv ob294 0 (List.length coefs298) cap295), (Value.bool r11.Negative), v13]) Try.underlying34 rfl ti34 rfl (hL433.at 1 rfl rfl) rfl rfl ?_)
  have f435 := ((f26.mono (K29 None)).mono (K434 None))
  refine Rl.op0 (OpY.store (vs := [(osv ob294 0 (List.length coefs298) cap295), (Value.bool r11.Negative), v13]) ti34 rfl rfl rfl rfl (ones_cons (osv_one _ _ _ _) (ones_cons rfl (ones_cons f435.one ones_nil))) hL433 0 rfl rfl (Nat.le_of_ble_eq_true rfl) ?_)
  intro w436 (hL437 : Go.X.Loc [] [] w w436 [some b6, some b21, ob294] [Cont.cells [(osv ob294 0 (List.length coefs298) cap295), (Value.bool r11.Negative), v13], Cont.cells [(osv ob294 0 (List.length coefs298) cap295), (Value.bool r11.Negative), v13], Cont.cells ([] ++ (cs297 ++ sp296))]) hS439
  have K438 := Keep.step (s := w.heap.size) hS439
  refine Rl.nil ?_
  have f441 := (hE299.mono (K438 None))
  have f440 := hL437.freezeRow 2 rfl rfl f441 rfl rfl rfl hc300
  have hp442 := hL437.pick [0, 1] rfl rfl rfl
  have hL444 : Go.X.Loc [] [] w w436 [some b6, some b21] [Cont.cells [(osv ob294 0 (List.length coefs298) cap295), (Value.bool r11.Negative), v13], Cont.cells [(osv ob294 0 (List.length coefs298) cap295), (Value.bool r11.Negative), v13]] := hp442.1
  have K443 := Keep.step (s := w.heap.size) hp442.2
  refine Swp.ret ?_
  obtain rfl := Option.some.inj h
  refine ⟨[(Value.agg #[(osv ob294 0 (List.length coefs298) cap295), (Value.bool r11.Negative), v13])], ⟨⟨⟨b6, 0, none⟩, rfl, res_boxA Try.underlying34 rfl ti34 (hL444.at 0 rfl rfl) rfl⟩, trivial⟩, ⟨_, rfl, hL444.done, ?_⟩⟩
  have f445 := ((f435.mono (K438 None)).mono (K443 None))
  exact ⟨(osv ob294 0 (List.length coefs298) cap295), v13, rfl, (f440.mono Hv.out), (f445.mono Hv.out), trivial⟩
theorem cOf_w (N : Nat) (c : Constraint) (n : Int) (c_v : Value) (w : World) (S : Nat → Prop) (c_h : Rs rCoef (Hv w.heap.size S [] w) c_v c.Linear.Coefs) (r : (List Ineq)) (h : cOf N c n = some r) :
  Calls Try.prog 32 #[(Value.agg #[(Value.int .i64 c.Linear.Const), c_v, (Value.bool c.Equal)]), (Value.int .i64 n)] w (Ret w (fun v w' => ∃ (ob0 : Option Nat) (cap0 : Nat) (cs0 : List Value) (sp0 : List Value), (osv ob0 0 (List.length r) cap0) = v ∧ NewOwn w w' [ob0] [Cont.cells ([] ++ (cs0 ++ sp0))] ∧ Els rIneq (Hv w.heap.size None [ob0] w') cs0 r ∧ (cs0 ++ sp0).length = cap0 * rIneq.sz ∧ True)) := by
 unfold cOf at h
 have hL : Go.X.Loc [] [] w w [] [] := Go.X.Loc.begin0 w
 refine calls_of (l := [(Value.agg #[(Value.int .i64 c.Linear.Const), c_v, (Value.bool c.Equal)]), (Value.int .i64 n)]) (rl := [.tmp 4]) (n := 51) Try.func32 rfl rfl rfl (Nat.le_of_ble_eq_true rfl) ?_
 refine Swp.seq ?_
 refine Swp.region rfl ?_
 refine Rl.op (OpY.box (cs := [(Value.int .i64 c.Linear.Const), c_v, (Value.bool c.Equal)]) rfl rfl hL ?_)
 intro b1 w2 (hL3 : Go.X.Loc [] [] w w2 [some b1] [Cont.cells [(Value.int .i64 c.Linear.Const), c_v, (Value.bool c.Equal)]]) hS5
 have K4 := Keep.step (s := w.heap.size) hS5
 refine Rl.op (OpY.assign (v := (Value.slice none 0 0)) rfl ?_)
 refine Rl.nil ?_
 refine Swp.seq ?_
 refine Swp.seq ?_
 refine Swp.region rfl ?_
 refine Rl.op (OpY.ldBoxA (vs := [(Value.int .i64 c.Linear.Const), c_v, (Value.bool c.Equal)]) Try.underlying63 rfl ti63 rfl (hL3.at 0 rfl rfl) rfl rfl ?_)
 refine Rl.op (OpY.move (v := (Value.int .i64 n)) rfl ?_)
 obtain ⟨r6, q7, h⟩ := bind_some h
 have f9 := (c_h.mono (K4 S))
 refine Rl.op (OpY.call en67 rfl rfl (cvalid_w N c n c_v _ Any (f9.mono vw_any) r6 q7) ?_)
 rintro _ w10 hE13 ⟨rfl, -⟩
 have hL11 := hL3.ext hE13
 have K12 := Keep.ext (s := w.heap.size) (O := [some b1]) hE13
 refine Rl.op (OpY.not (x := r6) rfl ?_)
 refine Rl.nil ?_
 refine Swp.cond_b (!r6) rfl (fun hc14 => ?_) (fun hc14 => ?_)
 ·
  replace h := ite_t hc14 h
  refine Swp.seq ?_
  refine Swp.region rfl ?_
  refine Rl.op (OpY.assign (v := (Value.slice none 0 0)) rfl ?_)
  refine Rl.nil ?_
  have hp15 := hL11.addNil
  have hL16 : Go.X.Loc [] [] w w10 [none, some b1] [Cont.cells ([] ++ ([] ++ [])), Cont.cells [(Value.int .i64 c.Linear.Const), c_v, (Value.bool c.Equal)]] := hp15.1
  have hE19 : Els rIneq (Hv w.heap.size None [none, some b1] w10) [] [] := Els.nil
  refine Swp.ret ?_
  obtain rfl := Option.some.inj h
  refine ⟨[(osv none 0 (List.length ([] : (List Ineq))) 0)], ⟨rfl, trivial⟩, ⟨_, rfl, hL16.done, ?_⟩⟩
  exact ⟨none, 0, [], [], rfl, (hL16.newOwn [0] rfl rfl rfl), (hE19.mono (Hv.pick [0] rfl)), (show ([] ++ [] : List Value).length = 0 * rIneq.sz by simp), trivial⟩
 ·
  replace h := ite_f hc14 h
  refine Swp.skip ?_
  refine Swp.seq ?_
  obtain ⟨x21, q22, h⟩ := bind_some h
  obtain ⟨m20, q23, q24, q25, q26⟩ := mk1_some q22
  obtain ⟨r35, q36, h⟩ := bind_some h
  obtain ⟨r40, q41, h⟩ := bind_some h
  refine Swp.drawL 9 [[], [], [], [], [], [], [], [1], []] [] (fun W1 => [.det (Value.int .i64 n), .rel (fun v Z w' => ∃ b27 cs28, (osv (some b27) 0 (List.length x21) m20) = v ∧ OwnC w' (some b27) (Cont.cells ([] ++ (cs28 ++ []))) ∧ Els rBig (Zv W1 w.heap.size None [some b1] Z w') cs28 x21 ∧ (cs28 ++ [] : List Value).length = m20 * rBig.sz ∧ True) footV, .det (Value.pointer (some ⟨b1, 0, none⟩)), .det (Value.pointer (some ⟨b1, 0, none⟩)), .det (Value.int .i64 c.Linear.Const), .rel (fun v Z w' => ∃ v37, (Value.agg #[(Value.bool r35.Negative), v37]) = v ∧ Rs (rInt .u32) (Zv W1 w.heap.size None [some b1] Z w') v37 r35.Digits ∧ True) (fun _ => []), .rel (fun v Z w' => ∃ v42, (Value.agg #[(Value.bool r40.Negative), v42]) = v ∧ Rs (rInt .u32) (Zv W1 w.heap.size None [some b1] Z w') v42 r40.Digits ∧ True) (fun _ => []), .rel (fun v Z w' => ∃ b27 cs28 v46, (Value.agg #[(osv (some b27) 0 (List.length x21) m20), (Value.bool r40.Negative), v46]) = v ∧ OwnC w' (some b27) (Cont.cells ([] ++ (cs28 ++ []))) ∧ Els rBig (Zv W1 w.heap.size None [some b1] Z w') cs28 x21 ∧ (cs28 ++ [] : List Value).length = m20 * rBig.sz ∧ Rs (rInt .u32) (Zv W1 w.heap.size None [some b1] Z w') v46 r40.Digits ∧ True) (footA 0), .rel (fun v Z w' => ∃ b48, (Value.pointer (some ⟨b48, 0, none⟩)) = v ∧ OwnC w' (some b48) (Cont.cells [(Value.slice none 0 0), (Value.bool false), (Value.slice none 0 0)]) ∧ True) footV]) mixed rfl rfl rfl (fun _ => rfl) (fun _ => rfl) ?_ ?_
  ·
   intro W1 _
   exact ⟨fun v Z Z' w w' hΦ hz _ _ hs => by obtain ⟨b27, cs28, rfl, hO32, hE33, hc34, -⟩ := hΦ; exact ⟨b27, cs28, rfl, (hO32.stay (fun b hb => by cases hb; exact List.mem_cons_self) hs), (hE33.mono (Zv.stay hz hs)), hc34, trivial⟩, ⟨fun v Z Z' w w' hΦ hz _ _ hs => by obtain ⟨v37, rfl, k38, -⟩ := hΦ; exact ⟨v37, rfl, (k38.mono (Zv.stay hz hs)), trivial⟩, ⟨fun v Z Z' w w' hΦ hz _ _ hs => by obtain ⟨v42, rfl, k43, -⟩ := hΦ; exact ⟨v42, rfl, (k43.mono (Zv.stay hz hs)), trivial⟩, ⟨fun v Z Z' w w' hΦ hz _ _ hs => by obtain ⟨b27, cs28, v46, rfl, hO32, hE33, hc34, k47, -⟩ := hΦ; exact ⟨b27, cs28, v46, rfl, (hO32.stay (fun b hb => by cases hb; exact List.mem_cons_self) hs), (hE33.mono (Zv.stay hz hs)), hc34, (k47.mono (Zv.stay hz hs)), trivial⟩, ⟨fun v Z Z' w w' hΦ hz _ _ hs => by obtain ⟨b48, rfl, hO49, -⟩ := hΦ; exact ⟨b48, rfl, (hO49.stay (fun b hb => by cases hb; exact List.mem_cons_self) hs), trivial⟩, trivial⟩⟩⟩⟩⟩
  ·
   intro w50 hE51
   have hL52 := hL11.ext hE51
   have K53 := Keep.ext (s := w.heap.size) (O := [some b1]) hE51
   refine DrH.det ?_ ?_
   ·
    rintro w54 Z55 hE56 hZ57 ⟨-⟩
    refine GOp.op (OpY.move (v := (Value.int .i64 n)) rfl ?_)
    exact ⟨Ext.refl _, rfl⟩
   refine DrH.rel ?_ ?_
   ·
    rintro w60 Z61 hE62 hZ63 ⟨-⟩
    refine GOp.op (OpY.mkRowX (r := rBig) (H := (Zv w50 w.heap.size None [some b1] Z61 w60)) (zc := [(Value.bool false), (Value.slice none 0 0)]) (x := (Big.mk false [])) Try.underlying32 ti26 rfl (rBig_close ⟨(Value.slice none 0 0), rfl, Rs.nil, trivial⟩) rfl rfl q23 q24 q25 q26 (Go.X.Loc.begin0 w60) ?_)
    intro b27 w66 cs28 hE33 hc34 hL67 hS68
    have hN69 : NewOwn w60 w66 [some b27] [Cont.cells ([] ++ (cs28 ++ []))] := hL67.newOwn [0] rfl rfl rfl
    exact Made.ext hL67.done hZ63 hN69 (fun _ h => h) ⟨b27, cs28, rfl, hN69.2.2.1, (hE33.mono (Zv.grow hL67.done)), hc34, trivial⟩
   intro z1
   refine DrH.det ?_ ?_
   ·
    rintro w70 Z71 hE72 hZ73 ⟨-, -⟩
    refine GOp.op (OpY.fieldAddr (q := 0) Try.underlying63 rfl ti61 rfl rfl rfl ?_)
    exact ⟨Ext.refl _, rfl⟩
   refine DrH.det ?_ ?_
   ·
    rintro w76 Z77 hE78 hZ79 ⟨-, -⟩
    refine GOp.op (OpY.fieldAddr (q := 0) Try.underlying61 rfl ti2 rfl rfl rfl ?_)
    exact ⟨Ext.refl _, rfl⟩
   refine DrH.det ?_ ?_
   ·
    rintro w82 Z83 hE84 hZ85 ⟨-, -⟩
    have hL86 := hL52.ext hE84
    refine GOp.op (OpY.ldBox1 (v := (Value.int .i64 c.Linear.Const)) Try.underlying2 rfl rfl (hL86.at 0 rfl rfl) rfl ?_)
    exact ⟨Ext.refl _, rfl⟩
   refine DrH.rel ?_ ?_
   ·
    rintro w88 Z89 hE90 hZ91 ⟨-, -⟩
    refine GOp.op (OpY.call en58 rfl rfl (bOf_w N c.Linear.Const _ Any r35 q36) ?_)
    rintro _ w94 hE95 ⟨v37, rfl, k38, -⟩
    exact Made.ext hE95 hZ91 NewOwn.nil (fun _ h => h) ⟨v37, rfl, (k38.mono Zv.made), trivial⟩
   intro z5
   refine DrH.rel ?_ ?_
   ·
    rintro w96 Z97 hE98 hZ99 ⟨⟨⟨v37, rfl, k38, -⟩, hB5⟩, -, -⟩
    refine GOp.op (OpY.call en57 rfl rfl (bNeg_w N r35 v37 _ Any (k38.mono vw_any) r40 q41) ?_)
    rintro _ w102 hE103 ⟨v42, rfl, k43, -⟩
    exact Made.ext hE103 hZ99 NewOwn.nil (fun _ h => h) ⟨v42, rfl, (k43.mono Zv.made), trivial⟩
   intro z6
   refine DrH.rel ?_ ?_
   ·
    rintro w104 Z105 hE106 hZ107 ⟨⟨⟨v42, rfl, k43, -⟩, hB6⟩, -, ⟨⟨b27, cs28, rfl, hO32, hE33, hc34, -⟩, hB1⟩, -⟩
    refine GOp.op (OpY.build (zc := [(Value.slice none 0 0), (Value.bool false), (Value.slice none 0 0)]) (cs := [(osv (some b27) 0 (List.length x21) m20), (Value.bool r40.Negative), v42]) (is := [0, 1]) (vs := [(osv (some b27) 0 (List.length x21) m20), (Value.agg #[(Value.bool r40.Negative), v42])]) (css := [[(osv (some b27) 0 (List.length x21) m20)], [(Value.bool r40.Negative), v42]]) pl34 ti34 rfl rfl rfl ⟨(one_cells (osv_one _ _ _ _)), ⟨rfl, trivial⟩⟩ rfl ?_)
    exact Made.take (fun b hb => hB1 b ((footV_osv (o := 0) (n := (List.length x21)) (cap := m20)).2 hb)) (fun b hb => List.mem_append_left _ ((footV_osv (o := 0) (n := (List.length x21)) (cap := m20)).2 (by rw [← hb]; exact List.mem_cons_self))) (fun b hb => (footV_osv (ob := (some b27)) (o := 0) (n := (List.length x21)) (cap := m20)).1 hb) ⟨b27, cs28, v42, rfl, hO32, hE33, hc34, k43, trivial⟩
   intro z7
   refine DrH.rel ?_ ?_
   ·
    rintro w110 Z111 hE112 hZ113 ⟨-, -, -, -, -⟩
    refine GOp.op (OpY.alloc (cs := [(Value.slice none 0 0), (Value.bool false), (Value.slice none 0 0)]) ti34 rfl (Go.X.Loc.begin0 w110) ?_)
    intro b48 w116 hL117 hS118
    have hN119 : NewOwn w110 w116 [some b48] [Cont.cells [(Value.slice none 0 0), (Value.bool false), (Value.slice none 0 0)]] := hL117.newOwn [0] rfl rfl rfl
    exact Made.ext hL117.done hZ113 hN119 (fun _ h => h) ⟨b48, rfl, hN119.2.2.1, trivial⟩
   intro z8
   refine DrH.fin0 ?_
   rintro w120 Z121 hE122 hZ123 ⟨⟨⟨b48, rfl, hO49, -⟩, hB8⟩, ⟨⟨b27, cs28, v46, rfl, hO32, hE33, hc34, k47, -⟩, hB7⟩, ⟨⟨v42, rfl, k43, -⟩, hB6⟩, ⟨⟨v37, rfl, k38, -⟩, hB5⟩, -, -⟩ ap124
   have hB125 : ∀ b, some b ∈ ([some b48, some b27] : List (Option Nat)) → w50.heap.size ≤ b ∧ ¬ Z121 b := by
    intro b hb
    rcases List.mem_cons.1 hb with hb' | hb
    ·
     have := hB8 b (by rw [hb']; exact List.mem_cons_self); exact ⟨this.1, this.2.2⟩
    rcases List.mem_cons.1 hb with hb' | hb
    ·
     have := hB7 b (by rw [hb']; exact List.mem_cons_self); exact ⟨this.1, this.2.2⟩
    cases hb
   replace hE33 := hE33.mono (Zv.fin hL52 hZ123 hB125)
   replace k47 := k47.mono (Zv.fin hL52 hZ123 hB125)
   replace k43 := k43.mono (Zv.fin hL52 hZ123 hB125)
   replace k38 := k38.mono (Zv.fin hL52 hZ123 hB125)
   have hN128 : NewOwn w50 w120 [some b48, some b27] [Cont.cells [(Value.slice none 0 0), (Value.bool false), (Value.slice none 0 0)], Cont.cells ([] ++ (cs28 ++ []))] := (NewOwn.cons (NewOwn.cons NewOwn.nil hO32 (fun b hb => (hB125 b (by rw [← hb]; simp)).1) (fun b _ hb => by cases hb)) hO49 (fun b hb => (hB125 b (by rw [← hb]; simp)).1) (fun b hb hm => (List.mem_cons.1 hm).elim (fun e => apE (ap124.1) rfl rfl b (hb) ((footV_osv (ob := (some b27)) (o := 0) (n := (List.length x21)) (cap := m20)).2 (by rw [e]; exact List.mem_cons_self))) (fun hm => by cases hm)))
   have hp129 := hL52.adoptL hE122 hN128
   have hL126 : Go.X.Loc [] [] w w120 [some b48, some b27, some b1] [Cont.cells [(Value.slice none 0 0), (Value.bool false), (Value.slice none 0 0)], Cont.cells ([] ++ (cs28 ++ [])), Cont.cells [(Value.int .i64 c.Linear.Const), c_v, (Value.bool c.Equal)]] := hp129.1
   have K127 := Keep.step (s := w.heap.size) hp129.2
   refine Rl.op0 (OpY.store (vs := [(osv (some b27) 0 (List.length x21) m20), (Value.bool r40.Negative), v46]) ti34 rfl rfl rfl rfl (ones_cons (osv_one _ _ _ _) (ones_cons rfl (ones_cons k47.one ones_nil))) hL126 0 rfl rfl (Nat.le_of_ble_eq_true rfl) ?_)
   intro w130 (hL131 : Go.X.Loc [] [] w w130 [some b48, some b27, some b1] [Cont.cells [(osv (some b27) 0 (List.length x21) m20), (Value.bool r40.Negative), v46], Cont.cells ([] ++ (cs28 ++ [])), Cont.cells [(Value.int .i64 c.Linear.Const), c_v, (Value.bool c.Equal)]]) hS133
   have K132 := Keep.step (s := w.heap.size) hS133
   refine Rl.nil ?_
   refine Swp.seq ?_
   refine Swp.seq ?_
   refine Swp.region rfl ?_
   refine Rl.op (OpY.fieldAddr (q := 0) Try.underlying63 rfl ti61 rfl rfl rfl ?_)
   refine Rl.op (OpY.fieldAddr (q := 1) Try.underlying61 rfl ti59 rfl rfl rfl ?_)
   refine Rl.op (OpY.ldBox1 (v := c_v) Try.underlying59 rfl rfl (hL131.at 2 rfl rfl) rfl ?_)
   have f134 := ((((f9.mono (K12 S)).mono (K53 S)).mono (K127 S)).mono (K132 S))
   refine Rl.op (OpY.lenRo (v := c_v) Try.underlying59 rfl f134 ?_)
   refine Rl.op (OpY.move (v := (Value.int .i64 0)) rfl ?_)
   refine Rl.nil ?_
   obtain ⟨s384, hl386, g385⟩ := bind_some h
   refine Swp.join (fun e w' => ∃ (coefs380 : (List Big)) (cs379 : List Value) (u : Env), coefs380 = s384 ∧ e = upds [(2, (Value.pointer (some ⟨b1, 0, none⟩))), (5, (Value.pointer (some ⟨b48, 0, none⟩)))] u ∧ Go.X.Loc [] [] w w' [some b1, some b48, some b27] [Cont.cells [(Value.int .i64 c.Linear.Const), c_v, (Value.bool c.Equal)], Cont.cells [(osv (some b27) 0 (List.length x21) m20), (Value.bool r40.Negative), v46], Cont.cells ([] ++ (cs379 ++ []))] ∧ Keep w.heap.size [some b48, some b27, some b1] w130 [some b1, some b48, some b27] w' ∧ Els rBig (Hv w.heap.size None [some b1, some b48, some b27] w') cs379 coefs380 ∧ (List.length x21) = List.length coefs380 ∧ (cs379 ++ []).length = m20 * rBig.sz ∧ True) ?_ ?_
   ·
    refine Swp.block ?_
    have hp388 := hL131.pick [2, 0, 1] rfl rfl rfl
    have hL390 : Go.X.Loc [] [] w w130 [some b1, some b48, some b27] [Cont.cells [(Value.int .i64 c.Linear.Const), c_v, (Value.bool c.Equal)], Cont.cells [(osv (some b27) 0 (List.length x21) m20), (Value.bool r40.Negative), v46], Cont.cells ([] ++ (cs28 ++ []))] := hp388.1
    have K389 := Keep.step (s := w.heap.size) hp388.2
    have f391 := ((hE33.mono (K132 None)).mono (K389 None))
    refine Swp.loopM hl386 (fun (ss : ((List Big) × Int)) (e : Env) (w' : World) => match ss with | (coefs371, x375) => ∃ (cs370 : List Value) (u : Env), e = upds [(2, (Value.pointer (some ⟨b1, 0, none⟩))), (5, (Value.pointer (some ⟨b48, 0, none⟩))), (22, c_v), (23, (Value.int .i64 (List.length c.Linear.Coefs : Int))), (24, (Value.int .i64 x375))] u ∧ Go.X.Loc [] [] w w' [some b1, some b48, some b27] [Cont.cells [(Value.int .i64 c.Linear.Const), c_v, (Value.bool c.Equal)], Cont.cells [(osv (some b27) 0 (List.length x21) m20), (Value.bool r40.Negative), v46], Cont.cells ([] ++ (cs370 ++ []))] ∧ Keep w.heap.size [some b48, some b27, some b1] w130 [some b1, some b48, some b27] w' ∧ Els rBig (Hv w.heap.size None [some b1, some b48, some b27] w') cs370 coefs371 ∧ (List.length x21) = List.length coefs371 ∧ (cs370 ++ []).length = m20 * rBig.sz ∧ True) ⟨cs28, _, (upds_sym ⟨rfl, ⟨rfl, ⟨rfl, ⟨rfl, ⟨rfl, trivial⟩⟩⟩⟩⟩), hL390, K389, f391, rfl, hc34, trivial⟩ ?_
    rintro ⟨coefs371, x375⟩ oo _ w392 ⟨cs370, u, rfl, hL393, K394, hE372, hl374, hc373, -⟩ h hd387
    rw [cOf_b1] at h
    refine Swp.seq ?_
    refine Swp.region rfl ?_
    refine Rl.op (OpY.lss (x := x375) (y := (List.length c.Linear.Coefs : Int)) ((x375 : Int) < (List.length c.Linear.Coefs : Int)) rfl rfl Iff.rfl ?_)
    refine Rl.nil ?_
    refine Swp.seq ?_
    refine Swp.cond_d ((x375 : Int) < (List.length c.Linear.Coefs : Int)) rfl (fun hc395 => ?_) (fun hc395 => ?_)
    ·
     replace h := ite_t hc395 h
     refine Swp.skip ?_
     refine Swp.seq ?_
     refine Swp.block ?_
     refine Swp.seq ?_
     refine Swp.region rfl ?_
     obtain ⟨x396, q397, h⟩ := bind_some h
     obtain ⟨n398, q399, q400⟩ := idx_some q397
     have f409 := (f134.mono (K394 S))
     obtain ⟨b401, o402, c403, vs404, q405, q406, f407, q408⟩ := Rs.get f409 q400
     obtain ⟨rfl, -⟩ := rCoef_open q408
     refine Rl.op (OpY.ixRoD (r := rCoef) (v := c_v) (n := n398) (m := (o402 + n398 * rCoef.sz)) Try.underlying59 ti71 rfl q405 rfl q399 q400 rfl ?_)
     refine Rl.op (OpY.ldRoA (vs := [(Value.int .i64 x396.Var), (Value.int .i64 x396.N)]) Try.underlying71 rfl ti71 rfl rfl vw_view f407 ?_)
     refine Rl.op (OpY.alloc (cs := [(Value.int .i64 0), (Value.int .i64 0)]) ti71 rfl hL393 ?_)
     intro b410 w411 (hL412 : Go.X.Loc [] [] w w411 [some b410, some b1, some b48, some b27] [Cont.cells [(Value.int .i64 0), (Value.int .i64 0)], Cont.cells [(Value.int .i64 c.Linear.Const), c_v, (Value.bool c.Equal)], Cont.cells [(osv (some b27) 0 (List.length x21) m20), (Value.bool r40.Negative), v46], Cont.cells ([] ++ (cs370 ++ []))]) hS414
     have K413 := Keep.step (s := w.heap.size) hS414
     refine Rl.op0 (OpY.store (vs := [(Value.int .i64 x396.Var), (Value.int .i64 x396.N)]) ti71 rfl rfl rfl rfl (ones_cons rfl (ones_cons rfl ones_nil)) hL412 0 rfl rfl (Nat.le_of_ble_eq_true rfl) ?_)
     intro w415 (hL416 : Go.X.Loc [] [] w w415 [some b410, some b1, some b48, some b27] [Cont.cells [(Value.int .i64 x396.Var), (Value.int .i64 x396.N)], Cont.cells [(Value.int .i64 c.Linear.Const), c_v, (Value.bool c.Equal)], Cont.cells [(osv (some b27) 0 (List.length x21) m20), (Value.bool r40.Negative), v46], Cont.cells ([] ++ (cs370 ++ []))]) hS418
     have K417 := Keep.step (s := w.heap.size) hS418
     refine Rl.nil ?_
     obtain ⟨r419, q420, h⟩ := bind_some h
     refine Swp.drawL 7 [] [] (fun W1 => [.det (Value.pointer (some ⟨b48, 0, none⟩)), .det (osv (some b27) 0 (List.length x21) m20), .det (Value.pointer (some ⟨b410, 0, none⟩)), .det (Value.int .i64 x396.Var), .det (Value.pointer (some ⟨b410, 1, none⟩)), .det (Value.int .i64 x396.N), .rel (fun v Z w' => ∃ v421, (Value.agg #[(Value.bool r419.Negative), v421]) = v ∧ Rs (rInt .u32) (Zv W1 w.heap.size None [some b410, some b1, some b48, some b27] Z w') v421 r419.Digits ∧ True) (fun _ => [])]) mixed rfl rfl rfl (fun _ => rfl) (fun _ => rfl) ?_ ?_
     ·
      intro W1 _
      exact ⟨fun v Z Z' w w' hΦ hz _ _ hs => by obtain ⟨v421, rfl, k422, -⟩ := hΦ; exact ⟨v421, rfl, (k422.mono (Zv.stay hz hs)), trivial⟩, trivial⟩
     ·
      intro w424 hE425
      have hL426 := hL416.ext hE425
      have K427 := Keep.ext (s := w.heap.size) (O := [some b410, some b1, some b48, some b27]) hE425
      refine DrH.det ?_ ?_
      ·
       rintro w428 Z429 hE430 hZ431 ⟨-⟩
       refine GOp.op (OpY.fieldAddr (q := 0) Try.underlying34 rfl ti32 rfl rfl rfl ?_)
       exact ⟨Ext.refl _, rfl⟩
      refine DrH.det ?_ ?_
      ·
       rintro w434 Z435 hE436 hZ437 ⟨-⟩
       have hL438 := hL426.ext hE436
       refine GOp.op (OpY.ldBox1 (v := (osv (some b27) 0 (List.length x21) m20)) Try.underlying32 rfl rfl (hL438.at 2 rfl rfl) rfl ?_)
       exact ⟨Ext.refl _, rfl⟩
      refine DrH.det ?_ ?_
      ·
       rintro w440 Z441 hE442 hZ443 ⟨-⟩
       refine GOp.op (OpY.fieldAddr (q := 0) Try.underlying71 rfl ti3 rfl rfl rfl ?_)
       exact ⟨Ext.refl _, rfl⟩
      refine DrH.det ?_ ?_
      ·
       rintro w446 Z447 hE448 hZ449 ⟨-⟩
       have hL450 := hL426.ext hE448
       refine GOp.op (OpY.ldBox1 (v := (Value.int .i64 x396.Var)) Try.underlying3 rfl rfl (hL450.at 0 rfl rfl) rfl ?_)
       exact ⟨Ext.refl _, rfl⟩
      refine DrH.det ?_ ?_
      ·
       rintro w452 Z453 hE454 hZ455 ⟨-⟩
       refine GOp.op (OpY.fieldAddr (q := 1) Try.underlying71 rfl ti2 rfl rfl rfl ?_)
       exact ⟨Ext.refl _, rfl⟩
      refine DrH.det ?_ ?_
      ·
       rintro w458 Z459 hE460 hZ461 ⟨-⟩
       have hL462 := hL426.ext hE460
       refine GOp.op (OpY.ldBox1 (v := (Value.int .i64 x396.N)) Try.underlying2 rfl rfl (hL462.at 0 rfl rfl) rfl ?_)
       exact ⟨Ext.refl _, rfl⟩
      refine DrH.rel ?_ ?_
      ·
       rintro w464 Z465 hE466 hZ467 ⟨-⟩
       refine GOp.op (OpY.call en58 rfl rfl (bOf_w N x396.N _ Any r419 q420) ?_)
       rintro _ w470 hE471 ⟨v421, rfl, k422, -⟩
       exact Made.ext hE471 hZ467 NewOwn.nil (fun _ h => h) ⟨v421, rfl, (k422.mono Zv.made), trivial⟩
      intro z6
      refine DrH.fin0 ?_
      rintro w472 Z473 hE474 hZ475 ⟨⟨⟨v421, rfl, k422, -⟩, hB6⟩, -⟩ ap476
      have hB477 : ∀ b, some b ∈ ([] : List (Option Nat)) → w424.heap.size ≤ b ∧ ¬ Z473 b := by
       intro b hb; cases hb
      replace k422 := k422.mono (Zv.fin hL426 hZ475 hB477)
      have hL478 := hL426.ext hE474
      have K479 := Keep.ext (s := w.heap.size) (O := [some b410, some b1, some b48, some b27]) hE474
      obtain ⟨x480, q481, h⟩ := bind_some h
      obtain ⟨n482, q483, q484⟩ := idx_some q481
      have q485 := (List.getElem?_eq_some_iff.1 q484).1
      refine Rl.op (OpY.ixRowD (r := rBig) (b := b27) (o := 0) (n := n482) (m := (List.length x21)) (xs := coefs371) (q := (0 + n482 * rBig.sz)) Try.underlying32 ti26 rfl hl374 rfl q483 q485 rfl ?_)
      obtain ⟨x486, q487, h⟩ := bind_some h
      obtain ⟨n488, q489, q490, q491⟩ := upd1_some q487
      obtain rfl := Int.ofNat_inj.1 (q483.symm.trans q489)
      have f492 := ((((hE372.mono (K413 None)).mono (K417 None)).mono (K427 None)).mono (K479 None))
      refine Rl.op0 (OpY.stRowX (pre := []) (r := rBig) (vs := [(Value.bool r419.Negative), v421]) (a := r419) ti26 rfl rfl rfl (rBig_close ⟨v421, rfl, k422, trivial⟩) hL478 3 rfl rfl f492 q485 rfl q491 ?_)
      have hl500 : (List.length x21) = List.length x486 := by rw [q491, List.length_set]; exact hl374
      intro w493 cs497 (hL494 : Go.X.Loc [] [] w w493 [some b410, some b1, some b48, some b27] [Cont.cells [(Value.int .i64 x396.Var), (Value.int .i64 x396.N)], Cont.cells [(Value.int .i64 c.Linear.Const), c_v, (Value.bool c.Equal)], Cont.cells [(osv (some b27) 0 (List.length x21) m20), (Value.bool r40.Negative), v46], Cont.cells ([] ++ (cs497 ++ []))]) hS496 hE498 q499
      have hc501 : (cs497 ++ []).length = m20 * rBig.sz := by have := hc373; rw [List.length_append] at this ⊢; rw [q499]; exact this
      have K495 := Keep.step (s := w.heap.size) hS496
      refine Rl.nil ?_
      refine Swp.pop_blk ?_
      refine Swp.region rfl ?_
      refine Rl.op (OpY.add (x := x375) (y := 1) (z := (iw (x375 + 1))) rfl rfl rfl ?_)
      refine Rl.op (OpY.move (v := (Value.int .i64 (iw (x375 + 1)))) rfl ?_)
      refine Rl.nil ?_
      have hp502 := hL494.pick [1, 2, 3] rfl rfl rfl
      have hL504 : Go.X.Loc [] [] w w493 [some b1, some b48, some b27] [Cont.cells [(Value.int .i64 c.Linear.Const), c_v, (Value.bool c.Equal)], Cont.cells [(osv (some b27) 0 (List.length x21) m20), (Value.bool r40.Negative), v46], Cont.cells ([] ++ (cs497 ++ []))] := hp502.1
      have K503 := Keep.step (s := w.heap.size) hp502.2
      have f505 := ((hE498.mono (K495 None)).mono (K503 None))
      obtain rfl := Option.some.inj h
      refine Swp.pop_back ⟨(x486, (iw (x375 + 1))), rfl, ?_⟩
      exact ⟨cs497, _, (upds_sym ⟨rfl, ⟨rfl, ⟨rfl, ⟨rfl, ⟨rfl, trivial⟩⟩⟩⟩⟩), hL504, (Keep.trans (Keep.trans (Keep.trans (Keep.trans (Keep.trans (Keep.trans K394 K413) K417) K427) K479) K495) K503), f505, hl500, hc501, trivial⟩
    ·
     replace h := ite_f hc395 h
     refine Swp.exit rfl ?_
     obtain rfl := Option.some.inj h
     obtain rfl := hd387 _ rfl
     replace h := g385
     try dsimp only at h
     skip
     refine Swp.pop_back ?_
     exact ⟨coefs371, cs370, _, rfl, (upds_sym ⟨rfl, ⟨rfl, trivial⟩⟩), hL393, K394, hE372, hl374, hc373, trivial⟩
   ·
    rintro _ w506 ⟨coefs380, cs379, u, rfl, rfl, hL507, K508, hE381, hl383, hc382, -⟩
    replace h := g385
    try dsimp only at h
    refine Swp.seq ?_
    refine Swp.seq ?_
    refine Swp.region rfl ?_
    refine Rl.op (OpY.fieldAddr (q := 2) Try.underlying63 rfl ti4 rfl rfl rfl ?_)
    refine Rl.op (OpY.ldBox1 (v := (Value.bool c.Equal)) Try.underlying4 rfl rfl (hL507.at 0 rfl rfl) rfl ?_)
    refine Rl.op (OpY.not (x := c.Equal) rfl ?_)
    refine Rl.nil ?_
    refine Swp.cond_b (!c.Equal) rfl (fun hc509 => ?_) (fun hc509 => ?_)
    ·
     replace h := ite_t hc509 h
     refine Swp.seq ?_
     refine Swp.region rfl ?_
     refine Rl.op (OpY.ldBoxA (vs := [(osv (some b27) 0 (List.length x21) m20), (Value.bool r40.Negative), v46]) Try.underlying34 rfl ti34 rfl (hL507.at 1 rfl rfl) rfl rfl ?_)
     have f511 := hL507.freezeRow 2 rfl rfl hE381 rfl rfl hl383 hc382
     have hp512 := hL507.pick [0, 1] rfl rfl rfl
     have hL514 : Go.X.Loc [] [] w w506 [some b1, some b48] [Cont.cells [(Value.int .i64 c.Linear.Const), c_v, (Value.bool c.Equal)], Cont.cells [(osv (some b27) 0 (List.length x21) m20), (Value.bool r40.Negative), v46]] := hp512.1
     have K513 := Keep.step (s := w.heap.size) hp512.2
     have f518 := (((k47.mono (K132 None)).mono (K508 None)).mono (K513 None))
     have hE515 : Els rIneq (Hv w.heap.size None [some b1, some b48] w506) [(osv (some b27) 0 (List.length x21) m20), (Value.bool r40.Negative), v46] [(Ineq.mk coefs380 r40)] := (Els.cons (a := [(osv (some b27) 0 (List.length x21) m20), (Value.bool r40.Negative), v46]) (rIneq_close ⟨(osv (some b27) 0 (List.length x21) m20), v46, rfl, f511, f518, trivial⟩) Els.nil)
     refine Rl.op (OpY.litRow (r := rIneq) (vs := [(Value.agg #[(osv (some b27) 0 (List.length x21) m20), (Value.bool r40.Negative), v46])]) (css := [[(osv (some b27) 0 (List.length x21) m20), (Value.bool r40.Negative), v46]]) (xs := [(Ineq.mk coefs380 r40)]) Try.underlying22 ti34 (Nat.le_of_ble_eq_true rfl) rfl rfl ⟨rfl, rfl, trivial⟩ (Nat.le_of_ble_eq_true rfl) hE515 rfl hL514 ?_)
     intro b510 w519 hc516 (hL520 : Go.X.Loc [] [] w w519 [some b510, some b1, some b48] [Cont.cells ([] ++ ([(osv (some b27) 0 (List.length x21) m20), (Value.bool r40.Negative), v46] ++ [])), Cont.cells [(Value.int .i64 c.Linear.Const), c_v, (Value.bool c.Equal)], Cont.cells [(osv (some b27) 0 (List.length x21) m20), (Value.bool r40.Negative), v46]]) hS522
     have K521 := Keep.step (s := w.heap.size) hS522
     refine Rl.op (OpY.assign (v := (osv (some b510) 0 1 1)) rfl ?_)
     refine Rl.nil ?_
     refine Swp.ret ?_
     obtain rfl := Option.some.inj h
     refine ⟨[(osv (some b510) 0 1 1)], ⟨rfl, trivial⟩, ⟨_, rfl, hL520.done, ?_⟩⟩
     have f523 := (hE515.mono (K521 None))
     exact ⟨some b510, 1, [(osv (some b27) 0 (List.length x21) m20), (Value.bool r40.Negative), v46], [], rfl, (hL520.newOwn [0] rfl rfl rfl), (f523.mono (Hv.pick [0] rfl)), hc516, trivial⟩
    ·
     replace h := ite_f hc509 h
     refine Swp.skip ?_
     refine Swp.seq ?_
     obtain ⟨r524, q525, h⟩ := bind_some h
     obtain ⟨r529, q530, h⟩ := bind_some h
     refine Swp.drawL 8 [] [] (fun W1 => [.det (Value.agg #[(osv (some b27) 0 (List.length x21) m20), (Value.bool r40.Negative), v46]), .det (Value.pointer (some ⟨b48, 0, none⟩)), .det (osv (some b27) 0 (List.length x21) m20), .det (Value.pointer (some ⟨b1, 0, none⟩)), .det (Value.pointer (some ⟨b1, 0, none⟩)), .det (Value.int .i64 c.Linear.Const), .rel (fun v Z w' => ∃ v526, (Value.agg #[(Value.bool r524.Negative), v526]) = v ∧ Rs (rInt .u32) (Zv W1 w.heap.size None [some b1, some b48, some b27] Z w') v526 r524.Digits ∧ True) (fun _ => []), .rel (fun v Z w' => ∃ v531 v533, (Value.agg #[v531, (Value.bool r529.Bound.Negative), v533]) = v ∧ Rs rBig (Zv W1 w.heap.size None [some b1, some b48, some b27] Z w') v531 r529.Coefs ∧ Rs (rInt .u32) (Zv W1 w.heap.size None [some b1, some b48, some b27] Z w') v533 r529.Bound.Digits ∧ True) (fun _ => [])]) mixed rfl rfl rfl (fun _ => rfl) (fun _ => rfl) ?_ ?_
     ·
      intro W1 _
      exact ⟨fun v Z Z' w w' hΦ hz _ _ hs => by obtain ⟨v526, rfl, k527, -⟩ := hΦ; exact ⟨v526, rfl, (k527.mono (Zv.stay hz hs)), trivial⟩, ⟨fun v Z Z' w w' hΦ hz _ _ hs => by obtain ⟨v531, v533, rfl, k532, k534, -⟩ := hΦ; exact ⟨v531, v533, rfl, (k532.mono (Zv.stay hz hs)), (k534.mono (Zv.stay hz hs)), trivial⟩, trivial⟩⟩
     ·
      intro w536 hE537
      have hL538 := hL507.ext hE537
      have K539 := Keep.ext (s := w.heap.size) (O := [some b1, some b48, some b27]) hE537
      refine DrH.det ?_ ?_
      ·
       rintro w540 Z541 hE542 hZ543 ⟨-⟩
       have hL544 := hL538.ext hE542
       refine GOp.op (OpY.ldBoxA (vs := [(osv (some b27) 0 (List.length x21) m20), (Value.bool r40.Negative), v46]) Try.underlying34 rfl ti34 rfl (hL544.at 1 rfl rfl) rfl rfl ?_)
       exact ⟨Ext.refl _, rfl⟩
      refine DrH.det ?_ ?_
      ·
       rintro w546 Z547 hE548 hZ549 ⟨-⟩
       refine GOp.op (OpY.fieldAddr (q := 0) Try.underlying34 rfl ti32 rfl rfl rfl ?_)
       exact ⟨Ext.refl _, rfl⟩
      refine DrH.det ?_ ?_
      ·
       rintro w552 Z553 hE554 hZ555 ⟨-⟩
       have hL556 := hL538.ext hE554
       refine GOp.op (OpY.ldBox1 (v := (osv (some b27) 0 (List.length x21) m20)) Try.underlying32 rfl rfl (hL556.at 1 rfl rfl) rfl ?_)
       exact ⟨Ext.refl _, rfl⟩
      refine DrH.det ?_ ?_
      ·
       rintro w558 Z559 hE560 hZ561 ⟨-⟩
       refine GOp.op (OpY.fieldAddr (q := 0) Try.underlying63 rfl ti61 rfl rfl rfl ?_)
       exact ⟨Ext.refl _, rfl⟩
      refine DrH.det ?_ ?_
      ·
       rintro w564 Z565 hE566 hZ567 ⟨-⟩
       refine GOp.op (OpY.fieldAddr (q := 0) Try.underlying61 rfl ti2 rfl rfl rfl ?_)
       exact ⟨Ext.refl _, rfl⟩
      refine DrH.det ?_ ?_
      ·
       rintro w570 Z571 hE572 hZ573 ⟨-⟩
       have hL574 := hL538.ext hE572
       refine GOp.op (OpY.ldBox1 (v := (Value.int .i64 c.Linear.Const)) Try.underlying2 rfl rfl (hL574.at 0 rfl rfl) rfl ?_)
       exact ⟨Ext.refl _, rfl⟩
      refine DrH.rel ?_ ?_
      ·
       rintro w576 Z577 hE578 hZ579 ⟨-⟩
       refine GOp.op (OpY.call en58 rfl rfl (bOf_w N c.Linear.Const _ Any r524 q525) ?_)
       rintro _ w582 hE583 ⟨v526, rfl, k527, -⟩
       exact Made.ext hE583 hZ579 NewOwn.nil (fun _ h => h) ⟨v526, rfl, (k527.mono Zv.made), trivial⟩
      intro z6
      refine DrH.rel ?_ ?_
      ·
       rintro w584 Z585 hE586 hZ587 ⟨⟨⟨v526, rfl, k527, -⟩, hB6⟩, -⟩
       have hL588 := hL538.ext hE586
       have K589 := Keep.ext (s := w.heap.size) (O := [some b1, some b48, some b27]) hE586
       refine GOp.op (OpY.call en55 rfl rfl (negated_w N coefs380 r524 (osv (some b27) 0 (List.length x21) m20) v526 _ Any (own_row_any (pre := []) (o := 0) (n := (List.length x21)) (cap := m20) (hL588.at 2 rfl rfl) ((hE381.mono (K539 None)).mono (K589 None)) vw_any rfl rfl hl383 hc382) (k527.mono vw_any) r529 q530) ?_)
       rintro _ w590 hE591 ⟨v531, v533, rfl, k532, k534, -⟩
       exact Made.ext hE591 hZ587 NewOwn.nil (fun _ h => h) ⟨v531, v533, rfl, (k532.mono Zv.made), (k534.mono Zv.made), trivial⟩
      intro z7
      refine DrH.fin0 ?_
      rintro w592 Z593 hE594 hZ595 ⟨⟨⟨v531, v533, rfl, k532, k534, -⟩, hB7⟩, ⟨⟨v526, rfl, k527, -⟩, hB6⟩, -⟩ ap596
      have hB597 : ∀ b, some b ∈ ([] : List (Option Nat)) → w536.heap.size ≤ b ∧ ¬ Z593 b := by
       intro b hb; cases hb
      replace k532 := k532.mono (Zv.fin hL538 hZ595 hB597)
      replace k534 := k534.mono (Zv.fin hL538 hZ595 hB597)
      replace k527 := k527.mono (Zv.fin hL538 hZ595 hB597)
      have hL598 := hL538.ext hE594
      have K599 := Keep.ext (s := w.heap.size) (O := [some b1, some b48, some b27]) hE594
      have f602 := ((hE381.mono (K539 None)).mono (K599 None))
      have f601 := hL598.freezeRow 2 rfl rfl f602 rfl rfl hl383 hc382
      have hp603 := hL598.pick [0, 1] rfl rfl rfl
      have hL605 : Go.X.Loc [] [] w w592 [some b1, some b48] [Cont.cells [(Value.int .i64 c.Linear.Const), c_v, (Value.bool c.Equal)], Cont.cells [(osv (some b27) 0 (List.length x21) m20), (Value.bool r40.Negative), v46]] := hp603.1
      have K604 := Keep.step (s := w.heap.size) hp603.2
      have f609 := (k532.mono (K604 None))
      have f610 := (k534.mono (K604 None))
      have f611 := (((((k47.mono (K132 None)).mono (K508 None)).mono (K539 None)).mono (K599 None)).mono (K604 None))
      have hE606 : Els rIneq (Hv w.heap.size None [some b1, some b48] w592) [(osv (some b27) 0 (List.length x21) m20), (Value.bool r40.Negative), v46, v531, (Value.bool r529.Bound.Negative), v533] [(Ineq.mk coefs380 r40), r529] := (Els.cons (a := [(osv (some b27) 0 (List.length x21) m20), (Value.bool r40.Negative), v46]) (rIneq_close ⟨(osv (some b27) 0 (List.length x21) m20), v46, rfl, f601, f611, trivial⟩) (Els.cons (a := [v531, (Value.bool r529.Bound.Negative), v533]) (rIneq_close ⟨v531, v533, rfl, f609, f610, trivial⟩) Els.nil))
      refine Rl.op (OpY.litRow (r := rIneq) (vs := [(Value.agg #[(osv (some b27) 0 (List.length x21) m20), (Value.bool r40.Negative), v46]), (Value.agg #[v531, (Value.bool r529.Bound.Negative), v533])]) (css := [[(osv (some b27) 0 (List.length x21) m20), (Value.bool r40.Negative), v46], [v531, (Value.bool r529.Bound.Negative), v533]]) (xs := [(Ineq.mk coefs380 r40), r529]) Try.underlying22 ti34 (Nat.le_of_ble_eq_true rfl) rfl rfl ⟨rfl, rfl, ⟨rfl, rfl, trivial⟩⟩ (Nat.le_of_ble_eq_true rfl) hE606 rfl hL605 ?_)
      intro b600 w612 hc607 (hL613 : Go.X.Loc [] [] w w612 [some b600, some b1, some b48] [Cont.cells ([] ++ ([(osv (some b27) 0 (List.length x21) m20), (Value.bool r40.Negative), v46, v531, (Value.bool r529.Bound.Negative), v533] ++ [])), Cont.cells [(Value.int .i64 c.Linear.Const), c_v, (Value.bool c.Equal)], Cont.cells [(osv (some b27) 0 (List.length x21) m20), (Value.bool r40.Negative), v46]]) hS615
      have K614 := Keep.step (s := w.heap.size) hS615
      refine Rl.op (OpY.assign (v := (osv (some b600) 0 2 2)) rfl ?_)
      refine Rl.nil ?_
      refine Swp.ret ?_
      obtain rfl := Option.some.inj h
      refine ⟨[(osv (some b600) 0 2 2)], ⟨rfl, trivial⟩, ⟨_, rfl, hL613.done, ?_⟩⟩
      have f616 := (hE606.mono (K614 None))
      exact ⟨some b600, 2, [(osv (some b27) 0 (List.length x21) m20), (Value.bool r40.Negative), v46, v531, (Value.bool r529.Bound.Negative), v533], [], rfl, (hL613.newOwn [0] rfl rfl rfl), (f616.mono (Hv.pick [0] rfl)), hc607, trivial⟩
theorem cloneIneq_w (N : Nat) (s : (List Ineq)) (s_v : Value) (w : World) (S : Nat → Prop) (s_h : Rs rIneq (Hv w.heap.size S [] w) s_v s) (r : (List Ineq)) (h : cloneIneq N s = some r) :
  Calls Try.prog 53 #[s_v] w (Ret w (fun v w' => ∃ (ob0 : Option Nat) (cap0 : Nat) (cs0 : List Value) (sp0 : List Value), (osv ob0 0 (List.length r) cap0) = v ∧ NewOwn w w' [ob0] [Cont.cells ([] ++ (cs0 ++ sp0))] ∧ Els rIneq (Hv w.heap.size S [ob0] w') cs0 r ∧ (cs0 ++ sp0).length = cap0 * rIneq.sz ∧ True)) := by
 unfold cloneIneq at h
 have hL : Go.X.Loc [] [] w w [] [] := Go.X.Loc.begin0 w
 refine calls_of (l := [s_v]) (rl := [.tmp 2]) (n := 8) Try.func53 rfl rfl rfl (Nat.le_of_ble_eq_true rfl) ?_
 refine Swp.seq ?_
 refine Swp.region rfl ?_
 refine Rl.op (OpY.assign (v := (Value.slice none 0 0)) rfl ?_)
 refine Rl.nil ?_
 refine Swp.seq ?_
 refine Swp.seq ?_
 refine Swp.region rfl ?_
 refine Rl.op (OpY.move (v := s_v) rfl ?_)
 refine Rl.op (OpY.eqlNil (v := s_v) Try.underlying22 rfl s_h.isSlice rfl ?_)
 refine Rl.nil ?_
 refine Swp.cond_b (isNil s_v) rfl (fun hc1 => ?_) (fun hc1 => ?_)
 ·
  have hnil := (Sl.of_isNil s_h hc1).1
  replace h : some [] = some r := by rw [hnil] at h; simpa [apnd] using h
  refine Swp.seq ?_
  refine Swp.region rfl ?_
  refine Rl.op (OpY.assign (v := (Value.slice none 0 0)) rfl ?_)
  refine Rl.nil ?_
  have hp2 := hL.addNil
  have hL3 : Go.X.Loc [] [] w w [none] [Cont.cells ([] ++ ([] ++ []))] := hp2.1
  have hE6 : Els rIneq (Hv w.heap.size None [none] w) [] [] := Els.nil
  refine Swp.ret ?_
  obtain rfl := Option.some.inj h
  refine ⟨[(osv none 0 (List.length ([] : (List Ineq))) 0)], ⟨rfl, trivial⟩, ⟨_, rfl, hL3.done, ?_⟩⟩
  exact ⟨none, 0, [], [], rfl, (hL3.newOwn [0] rfl rfl rfl), ((hE6.mono Hv.none).mono (Hv.pick [0] rfl)), (show ([] ++ [] : List Value).length = 0 * rIneq.sz by simp), trivial⟩
 ·
  refine Swp.skip ?_
  refine Swp.seq ?_
  refine Swp.region rfl ?_
  refine Rl.op (OpY.litRow0 Try.underlying22 ti34 hL ?_)
  intro b7 w11 (hL12 : Go.X.Loc [] [] w w11 [some b7] [Cont.cells ([] ++ ([] ++ []))]) hS14
  have hE15 : Els rIneq (Hv w.heap.size None [] w) [] [] := Els.nil
  have K13 := Keep.step (s := w.heap.size) hS14
  refine Rl.op (OpY.move (v := s_v) rfl ?_)
  obtain ⟨x16, q17, h⟩ := bind_some h
  obtain ⟨q18, q19, q20⟩ := apnd_some q17
  have f24 := (s_h.mono (K13 S))
  obtain ⟨ds21, q22, q23⟩ := Rs.src f24
  have f32 := (hE15.mono (K13 None))
  refine Rl.op (OpY.apRowX (r := rIneq) (H := (Hv w.heap.size S [some b7] w11)) (cs := []) (sp := []) (xs := ([] : (List Ineq))) (ys := s) (Y := x16) (n := (List.length ([] : (List Ineq)))) (cap := 0) (i := 0) Try.underlying22 ti34 rfl rfl rfl rfl hL12 rfl rfl (f32.mono Hv.none) rfl (show ([] ++ [] : List Value).length = 0 * rIneq.sz by simp) q22 q23 q18 q19 q20 ?_)
  intro ob25 cap26 sp28 cs27 w33 hE29 hc30 (hL34 : Go.X.Loc [] [] w w33 [ob25] [Cont.cells ([] ++ (cs27 ++ sp28))]) hS36
  have K35 := Keep.step (s := w.heap.size) hS36
  refine Rl.op (OpY.assign (v := (osv ob25 0 (List.length x16) cap26)) rfl ?_)
  refine Rl.nil ?_
  refine Swp.ret ?_
  obtain rfl := Option.some.inj h
  refine ⟨[(osv ob25 0 (List.length x16) cap26)], ⟨rfl, trivial⟩, ⟨_, rfl, hL34.done, ?_⟩⟩
  have f37 := (hE29.mono (K35 S))
  exact ⟨ob25, cap26, cs27, sp28, rfl, (hL34.newOwn [0] rfl rfl rfl), (f37.mono (Hv.pick [0] rfl)), hc30, trivial⟩
theorem clipIneq_w (N : Nat) (s : (List Ineq)) (s_v : Value) (w : World) (S : Nat → Prop) (s_h : Rs rIneq (Hv w.heap.size S [] w) s_v s) (r : (List Ineq)) (h : clipIneq N s = some r) :
  Calls Try.prog 59 #[s_v] w (Ret w (fun v w' => ∃ (v0_0 : Value), v0_0 = v ∧ Rs rIneq (Hv w.heap.size S [] w') v0_0 r ∧ Clipped v0_0 ∧ True)) := by
 unfold clipIneq at h
 have hL : Go.X.Loc [] [] w w [] [] := Go.X.Loc.begin0 w
 refine calls_of (l := [s_v]) (rl := [.tmp 2]) (n := 9) Try.func59 rfl rfl rfl (Nat.le_of_ble_eq_true rfl) ?_
 refine Swp.seq ?_
 refine Swp.region rfl ?_
 refine Rl.op (OpY.assign (v := (Value.slice none 0 0)) rfl ?_)
 refine Rl.nil ?_
 refine Swp.seq ?_
 refine Swp.region rfl ?_
 refine Rl.op (OpY.move (v := s_v) rfl ?_)
 refine Rl.op (OpY.move (v := s_v) rfl ?_)
 refine Rl.op (OpY.lenRo (v := s_v) Try.underlying22 rfl s_h ?_)
 refine Rl.op (OpY.move (v := s_v) rfl ?_)
 refine Rl.op (OpY.lenRo (v := s_v) Try.underlying22 rfl s_h ?_)
 refine Rl.op (OpY.clipRo (n := List.length s) Try.underlying22 ti34 rfl s_h rfl rfl rfl rfl ?_)
 intro v1 k2 cl3
 refine Rl.op (OpY.assign (v := v1) rfl ?_)
 refine Rl.nil ?_
 refine Swp.ret ?_
 obtain rfl := Option.some.inj h
 refine ⟨[v1], ⟨rfl, trivial⟩, ⟨_, rfl, hL.done, ?_⟩⟩
 exact ⟨v1, rfl, (k2.mono Hv.out), cl3, trivial⟩
theorem indexIneq_w (N : Nat) (s : (List Ineq)) (f : (Ineq → Option Bool)) (s_v : Value) (f_v : Value) (w : World) (S : Nat → Prop) (s_h : Rs rIneq (Hv w.heap.size S [] w) s_v s) (f_h : ∀ w' : World, Ext w w' → ∀ (xa_ : Ineq) (vaa_ vab_ : Value), Rs rBig (Hv w'.heap.size Any [] w') vaa_ xa_.Coefs → Rs (rInt .u32) (Hv w'.heap.size Any [] w') vab_ xa_.Bound.Digits → ∀ z, f xa_ = some z → FunOk Try.prog f_v [(Value.agg #[vaa_, (Value.bool xa_.Bound.Negative), vab_])] w' (fun v w'' => Value.bool z = v ∧ True)) (r : Int) (h : indexIneq N s f = some r) :
  Calls Try.prog 80 #[s_v, f_v] w (Ret w (fun v w' => (Value.int .i64 r) = v ∧ True)) := by
 unfold indexIneq at h
 have hL : Go.X.Loc [] [] w w [] [] := Go.X.Loc.begin0 w
 refine calls_of (l := [s_v, f_v]) (rl := [.tmp 4]) (n := 19) Try.func80 rfl rfl rfl (Nat.le_of_ble_eq_true rfl) ?_
 refine Swp.seq ?_
 refine Swp.region rfl ?_
 refine Rl.op (OpY.assign (v := (Value.int .i64 0)) rfl ?_)
 refine Rl.nil ?_
 refine Swp.seq ?_
 refine Swp.seq ?_
 refine Swp.region rfl ?_
 refine Rl.op (OpY.move (v := s_v) rfl ?_)
 refine Rl.op (OpY.lenRo (v := s_v) Try.underlying22 rfl s_h ?_)
 refine Rl.op (OpY.move (v := (Value.int .i64 0)) rfl ?_)
 refine Rl.nil ?_
 obtain ⟨s63, hl65, g64⟩ := bind_some h
 refine Swp.join (fun e w' => ∃  (u : Env), (Sum.inl ()) = s63 ∧ e = upds [] u ∧ Go.X.Loc [] [] w w' [] [] ∧ Keep w.heap.size [] w [] w' ∧ True) ?_ ?_
 ·
  refine Swp.block ?_
  refine Swp.loopM hl65 (fun (ss : Int) (e : Env) (w' : World) => match ss with | x62 => ∃ (u : Env), e = upds [(0, s_v), (1, f_v), (7, (Value.int .i64 (List.length s : Int))), (8, (Value.int .i64 x62))] u ∧ Go.X.Loc [] [] w w' [] [] ∧ Keep w.heap.size [] w [] w' ∧ True) ⟨_, (upds_sym ⟨rfl, ⟨rfl, ⟨rfl, ⟨rfl, trivial⟩⟩⟩⟩), hL, Keep.refl, trivial⟩ ?_
  rintro x62 oo _ w67 ⟨u, rfl, hL68, K69, -⟩ h hd66
  rw [indexIneq_b1] at h
  refine Swp.seq ?_
  refine Swp.region rfl ?_
  refine Rl.op (OpY.lss (x := x62) (y := (List.length s : Int)) ((x62 : Int) < (List.length s : Int)) rfl rfl Iff.rfl ?_)
  refine Rl.nil ?_
  refine Swp.seq ?_
  refine Swp.cond_d ((x62 : Int) < (List.length s : Int)) rfl (fun hc70 => ?_) (fun hc70 => ?_)
  ·
   replace h := ite_t hc70 h
   refine Swp.skip ?_
   refine Swp.seq ?_
   refine Swp.block ?_
   refine Swp.seq ?_
   refine Swp.region rfl ?_
   refine Rl.op (OpY.move (v := (Value.int .i64 x62)) rfl ?_)
   refine Rl.op (OpY.assign (v := (Value.int .i64 x62)) rfl ?_)
   refine Rl.nil ?_
   refine Swp.seq ?_
   refine Swp.region rfl ?_
   refine Rl.op (OpY.move (v := f_v) rfl ?_)
   refine Rl.op (OpY.move (v := s_v) rfl ?_)
   refine Rl.op (OpY.move (v := (Value.int .i64 x62)) rfl ?_)
   obtain ⟨x71, q72, h⟩ := bind_some h
   obtain ⟨n73, q74, q75⟩ := idx_some q72
   have f88 := (s_h.mono (K69 S))
   obtain ⟨b76, o77, c78, vs79, q80, q81, f82, q83⟩ := Rs.get f88 q75
   obtain ⟨v84, v86, rfl, k85, k87, -⟩ := rIneq_open q83
   refine Rl.op (OpY.ixRoD (r := rIneq) (v := s_v) (n := n73) (m := (o77 + n73 * rIneq.sz)) Try.underlying22 ti34 rfl q80 rfl q74 q75 rfl ?_)
   refine Rl.op (OpY.ldRoA (vs := [v84, (Value.bool x71.Bound.Negative), v86]) Try.underlying34 rfl ti34 rfl rfl vw_view f82 ?_)
   obtain ⟨r89, q90, h⟩ := bind_some h
   refine Rl.op (OpY.callF rfl rfl (f_h _ hL68.done x71 v84 v86 (k85.mono vw_any) (k87.mono vw_any) r89 q90) ?_)
   rintro _ w92 hE95 ⟨rfl, -⟩
   have hL93 := hL68.ext hE95
   have K94 := Keep.ext (s := w.heap.size) (O := []) hE95
   refine Rl.nil ?_
   refine Swp.cond_b r89 rfl (fun hc96 => ?_) (fun hc96 => ?_)
   ·
    replace h := ite_t hc96 h
    refine Swp.seq ?_
    refine Swp.region rfl ?_
    refine Rl.op (OpY.move (v := (Value.int .i64 x62)) rfl ?_)
    refine Rl.op (OpY.assign (v := (Value.int .i64 x62)) rfl ?_)
    refine Rl.nil ?_
    refine Swp.ret ?_
    obtain rfl := Option.some.inj h
    obtain rfl := hd66 _ rfl
    replace h := g64
    try dsimp only at h
    obtain rfl := Option.some.inj h
    refine ⟨[(Value.int .i64 x62)], ⟨rfl, trivial⟩, ⟨_, rfl, hL93.done, ?_⟩⟩
    exact ⟨rfl, trivial⟩
   ·
    replace h := ite_f hc96 h
    refine Swp.skip ?_
    refine Swp.pop_blk ?_
    refine Swp.region rfl ?_
    refine Rl.op (OpY.add (x := x62) (y := 1) (z := (iw (x62 + 1))) rfl rfl rfl ?_)
    refine Rl.op (OpY.move (v := (Value.int .i64 (iw (x62 + 1)))) rfl ?_)
    refine Rl.nil ?_
    obtain rfl := Option.some.inj h
    refine Swp.pop_back ⟨(iw (x62 + 1)), rfl, ?_⟩
    exact ⟨_, (upds_sym ⟨rfl, ⟨rfl, ⟨rfl, ⟨rfl, trivial⟩⟩⟩⟩), hL93, (Keep.trans K69 K94), trivial⟩
  ·
   replace h := ite_f hc70 h
   refine Swp.exit rfl ?_
   obtain rfl := Option.some.inj h
   obtain rfl := hd66 _ rfl
   replace h := g64
   try dsimp only at h
   skip
   refine Swp.pop_back ?_
   exact ⟨_, rfl, (upds_sym trivial), hL68, K69, trivial⟩
 ·
  rintro _ w97 ⟨u, rfl, rfl, hL98, K99, -⟩
  replace h := g64
  try dsimp only at h
  refine Swp.seq ?_
  refine Swp.region rfl ?_
  refine Rl.op (OpY.assign (v := (Value.int .i64 (-1))) rfl ?_)
  refine Rl.nil ?_
  refine Swp.ret ?_
  obtain rfl := Option.some.inj h
  refine ⟨[(Value.int .i64 (-1))], ⟨rfl, trivial⟩, ⟨_, rfl, hL98.done, ?_⟩⟩
  exact ⟨rfl, trivial⟩
theorem containsIneq_w (N : Nat) (s : (List Ineq)) (f : (Ineq → Option Bool)) (s_v : Value) (f_v : Value) (w : World) (S : Nat → Prop) (s_h : Rs rIneq (Hv w.heap.size S [] w) s_v s) (f_h : ∀ w' : World, Ext w w' → ∀ (xa_ : Ineq) (vaa_ vab_ : Value), Rs rBig (Hv w'.heap.size Any [] w') vaa_ xa_.Coefs → Rs (rInt .u32) (Hv w'.heap.size Any [] w') vab_ xa_.Bound.Digits → ∀ z, f xa_ = some z → FunOk Try.prog f_v [(Value.agg #[vaa_, (Value.bool xa_.Bound.Negative), vab_])] w' (fun v w'' => Value.bool z = v ∧ True)) (r : Bool) (h : containsIneq N s f = some r) :
  Calls Try.prog 54 #[s_v, f_v] w (Ret w (fun v w' => (Value.bool r) = v ∧ True)) := by
 unfold containsIneq at h
 have hL : Go.X.Loc [] [] w w [] [] := Go.X.Loc.begin0 w
 refine calls_of (l := [s_v, f_v]) (rl := [.tmp 4]) (n := 9) Try.func54 rfl rfl rfl (Nat.le_of_ble_eq_true rfl) ?_
 refine Swp.seq ?_
 refine Swp.region rfl ?_
 refine Rl.op (OpY.assign (v := (Value.bool false)) rfl ?_)
 refine Rl.nil ?_
 refine Swp.seq ?_
 refine Swp.region rfl ?_
 refine Rl.op (OpY.move (v := s_v) rfl ?_)
 refine Rl.op (OpY.move (v := f_v) rfl ?_)
 obtain ⟨r1, q2, h⟩ := bind_some h
 refine Rl.op (OpY.call en80 rfl rfl (indexIneq_w N s f s_v f_v _ Any (s_h.mono vw_any) (fun w9 hE9 => f_h w9 (hL.done.trans hE9)) r1 q2) ?_)
 rintro _ w4 hE7 ⟨rfl, -⟩
 have hL5 := hL.ext hE7
 refine Rl.op (OpY.geq (x := r1) (y := 0) ((r1 : Int) ≥ 0) rfl rfl Iff.rfl ?_)
 refine Rl.op (OpY.assign (v := (Value.bool (decide ((r1 : Int) ≥ 0)))) rfl ?_)
 refine Rl.nil ?_
 refine Swp.ret ?_
 obtain rfl := Option.some.inj h
 refine ⟨[(Value.bool (decide ((r1 : Int) ≥ 0)))], ⟨rfl, trivial⟩, ⟨_, rfl, hL5.done, ?_⟩⟩
 exact ⟨rfl, trivial⟩
theorem width1_w (N : Nat) (q : Ineq) (ca : Int) (q_v : Value) (q_v1 : Value) (ca_b : Nat) (w : World) (S : Nat → Prop) (q_h : Rs rBig (Hv w.heap.size S [] w) q_v q.Coefs) (q_h1 : Rs (rInt .u32) (Hv w.heap.size S [] w) q_v1 q.Bound.Digits) (ca_at : At (Hv w.heap.size S [] w) ca_b 0 [(Value.int .i64 ca)]) (r : Bool) (h : width1 N q ca = some r) :
  Calls Try.prog 72 #[(Value.agg #[q_v, (Value.bool q.Bound.Negative), q_v1]), (Value.pointer (some ⟨ca_b, 0, none⟩))] w (Ret w (fun v w' => (Value.bool r) = v ∧ True)) := by
 unfold width1 at h
 have hL : Go.X.Loc [] [] w w [] [] := Go.X.Loc.begin0 w
 refine calls_of (l := [(Value.agg #[q_v, (Value.bool q.Bound.Negative), q_v1]), (Value.pointer (some ⟨ca_b, 0, none⟩))]) (rl := [.tmp 3]) (n := 9) Try.func72 rfl rfl rfl (Nat.le_of_ble_eq_true rfl) ?_
 refine Swp.seq ?_
 refine Swp.region rfl ?_
 refine Rl.op (OpY.box (cs := [q_v, (Value.bool q.Bound.Negative), q_v1]) rfl rfl hL ?_)
 intro b1 w2 (hL3 : Go.X.Loc [] [] w w2 [some b1] [Cont.cells [q_v, (Value.bool q.Bound.Negative), q_v1]]) hS5
 have K4 := Keep.step (s := w.heap.size) hS5
 refine Rl.op (OpY.assign (v := (Value.bool false)) rfl ?_)
 refine Rl.nil ?_
 refine Swp.seq ?_
 refine Swp.region rfl ?_
 refine Rl.op (OpY.fieldAddr (q := 0) Try.underlying34 rfl ti32 rfl rfl rfl ?_)
 refine Rl.op (OpY.ldBox1 (v := q_v) Try.underlying32 rfl rfl (hL3.at 0 rfl rfl) rfl ?_)
 have f6 := (q_h.mono (K4 S))
 refine Rl.op (OpY.lenRo (v := q_v) Try.underlying32 rfl f6 ?_)
 have f7 := (At.mono (K4 S) ca_at)
 refine Rl.op (OpY.ldRo1 (v := (Value.int .i64 ca)) Try.underlying3 rfl rfl vw_view f7 ?_)
 refine Rl.op (OpY.neq (x := (List.length q.Coefs : Int)) (y := ca) (((List.length q.Coefs : Int) : Int) ≠ ca) rfl rfl Iff.rfl ?_)
 refine Rl.op (OpY.assign (v := (Value.bool (decide (((List.length q.Coefs : Int) : Int) ≠ ca)))) rfl ?_)
 refine Rl.nil ?_
 refine Swp.ret ?_
 obtain rfl := Option.some.inj h
 refine ⟨[(Value.bool (decide (((List.length q.Coefs : Int) : Int) ≠ ca)))], ⟨rfl, trivial⟩, ⟨_, rfl, hL3.done, ?_⟩⟩
 exact ⟨rfl, trivial⟩
theorem cwidth_w (N : Nat) (l : (List Ineq)) (l_v : Value) (w : World) (S : Nat → Prop) (l_h : Rs rIneq (Hv w.heap.size S [] w) l_v l) (r : (Int × Bool)) (h : cwidth N l = some r) :
  Calls Try.prog 44 #[l_v] w (Ret w (fun v w' => .tuple #[(Value.int .i64 r.1), (Value.bool r.2)] = v ∧ True)) := by
 unfold cwidth at h
 have hL : Go.X.Loc [] [] w w [] [] := Go.X.Loc.begin0 w
 refine calls_of (l := [l_v]) (rl := [.tmp 2, .tmp 3]) (n := 18) Try.func44 rfl rfl rfl (Nat.le_of_ble_eq_true rfl) ?_
 refine Swp.seq ?_
 refine Swp.region rfl ?_
 refine Rl.op (OpY.assign (v := (Value.int .i64 0)) rfl ?_)
 refine Rl.op (OpY.assign (v := (Value.bool false)) rfl ?_)
 refine Rl.nil ?_
 refine Swp.seq ?_
 refine Swp.seq ?_
 refine Swp.region rfl ?_
 refine Rl.op (OpY.move (v := l_v) rfl ?_)
 refine Rl.op (OpY.lenRo (v := l_v) Try.underlying22 rfl l_h ?_)
 refine Rl.op (OpY.eql (x := (List.length l : Int)) (y := 0) (((List.length l : Int) : Int) = 0) rfl rfl Iff.rfl ?_)
 refine Rl.nil ?_
 refine Swp.cond_d (((List.length l : Int) : Int) = 0) rfl (fun hc1 => ?_) (fun hc1 => ?_)
 ·
  replace h := ite_t hc1 h
  refine Swp.seq ?_
  refine Swp.region rfl ?_
  refine Rl.op (OpY.assign (v := (Value.int .i64 0)) rfl ?_)
  refine Rl.op (OpY.assign (v := (Value.bool true)) rfl ?_)
  refine Rl.nil ?_
  refine Swp.ret ?_
  obtain rfl := Option.some.inj h
  refine ⟨[(Value.int .i64 0), (Value.bool true)], ⟨rfl, ⟨rfl, trivial⟩⟩, ⟨_, rfl, hL.done, ?_⟩⟩
  exact ⟨rfl, trivial⟩
 ·
  replace h := ite_f hc1 h
  refine Swp.skip ?_
  refine Swp.seq ?_
  refine Swp.region rfl ?_
  refine Rl.op (OpY.move (v := l_v) rfl ?_)
  obtain ⟨x2, q3, h⟩ := bind_some h
  obtain ⟨n4, q5, q6⟩ := idx_some q3
  obtain ⟨b7, o8, c9, vs10, q11, q12, f13, q14⟩ := Rs.get l_h q6
  obtain ⟨v15, v17, rfl, k16, k18, -⟩ := rIneq_open q14
  refine Rl.op (OpY.ixRoD (r := rIneq) (v := l_v) (n := n4) (m := (o8 + n4 * rIneq.sz)) Try.underlying22 ti34 rfl q11 rfl q5 q6 rfl ?_)
  have f19 := (f13.part (us := [v15]) 0 rfl)
  refine Rl.op (OpY.fieldAddr (q := (o8 + n4 * rIneq.sz) + 0) Try.underlying34 rfl ti32 rfl rfl rfl ?_)
  refine Rl.op (OpY.ldRo1 (v := v15) Try.underlying32 rfl rfl vw_view f19 ?_)
  refine Rl.op (OpY.lenRo (v := v15) Try.underlying32 rfl k16 ?_)
  refine Rl.op (OpY.alloc (cs := [(Value.int .i64 0)]) ti3 rfl hL ?_)
  intro b20 w21 (hL22 : Go.X.Loc [] [] w w21 [some b20] [Cont.cells [(Value.int .i64 0)]]) hS24
  have K23 := Keep.step (s := w.heap.size) hS24
  refine Rl.op0 (OpY.store (vs := [(Value.int .i64 (List.length x2.Coefs : Int))]) ti3 rfl rfl rfl rfl (ones_cons rfl ones_nil) hL22 0 rfl rfl (Nat.le_of_ble_eq_true rfl) ?_)
  intro w25 (hL26 : Go.X.Loc [] [] w w25 [some b20] [Cont.cells [(Value.int .i64 (List.length x2.Coefs : Int))]]) hS28
  have K27 := Keep.step (s := w.heap.size) hS28
  refine Rl.nil ?_
  refine Swp.seq ?_
  obtain ⟨r30, q31, h⟩ := bind_some h
  refine Swp.drawL 6 [] [] (fun W1 => [.det (Value.int .i64 (List.length x2.Coefs : Int)), .det l_v, .det (Value.func (.func 72) #[] #[(Value.pointer (some ⟨b20, 0, none⟩))]), .det (Value.bool r30), .det (Value.bool (!r30)), .det (Value.int .i64 (List.length x2.Coefs : Int))]) mixed rfl rfl rfl (fun _ => rfl) (fun _ => rfl) ?_ ?_
  ·
   intro W1 _
   exact trivial
  ·
   intro w33 hE34
   have hL35 := hL26.ext hE34
   have K36 := Keep.ext (s := w.heap.size) (O := [some b20]) hE34
   refine DrH.det ?_ ?_
   ·
    rintro w37 Z38 hE39 hZ40 ⟨-⟩
    have hL41 := hL35.ext hE39
    refine GOp.op (OpY.ldBox1 (v := (Value.int .i64 (List.length x2.Coefs : Int))) Try.underlying3 rfl rfl (hL41.at 0 rfl rfl) rfl ?_)
    exact ⟨Ext.refl _, rfl⟩
   refine DrH.det ?_ ?_
   ·
    rintro w43 Z44 hE45 hZ46 ⟨-⟩
    refine GOp.op (OpY.move (v := l_v) rfl ?_)
    exact ⟨Ext.refl _, rfl⟩
   refine DrH.det ?_ ?_
   ·
    rintro w49 Z50 hE51 hZ52 ⟨-⟩
    refine GOp.op (OpY.makeFunc (vs := [(Value.pointer (some ⟨b20, 0, none⟩))]) rfl ?_)
    exact ⟨Ext.refl _, rfl⟩
   refine DrH.det ?_ ?_
   ·
    rintro w55 Z56 hE57 hZ58 ⟨-⟩
    have hL59 := hL35.ext hE57
    have K60 := Keep.ext (s := w.heap.size) (O := [some b20]) hE57
    refine GOp.op (OpY.call en54 rfl rfl (containsIneq_w N l (fun y29 => width1 N y29 (List.length x2.Coefs : Int)) l_v (Value.func (.func 72) #[] #[(Value.pointer (some ⟨b20, 0, none⟩))]) _ Any (((((l_h.mono (K23 S)).mono (K27 S)).mono (K36 S)).mono (K60 S)).mono vw_any) (fun w9 hE9 y61 v62 v64 k63 k65 z9 hz9 => ⟨72, [(Value.pointer (some ⟨b20, 0, none⟩))], rfl, en72, (width1_w N y61 (List.length x2.Coefs : Int) v62 v64 b20 _ Any (k63.mono vw_any) (k65.mono vw_any) (own_any ((hL59.at 0 rfl rfl).ext hE9)) z9 hz9)⟩) r30 q31) ?_)
    rintro _ w66 hE67 ⟨rfl, -⟩
    exact ⟨hE67, rfl⟩
   refine DrH.det ?_ ?_
   ·
    rintro w68 Z69 hE70 hZ71 ⟨-⟩
    refine GOp.op (OpY.not (x := r30) rfl ?_)
    exact ⟨Ext.refl _, rfl⟩
   refine DrH.det ?_ ?_
   ·
    rintro w74 Z75 hE76 hZ77 ⟨-⟩
    refine GOp.op (OpY.assign (v := (Value.int .i64 (List.length x2.Coefs : Int))) rfl ?_)
    exact ⟨Ext.refl _, rfl⟩
   refine DrH.fin0 ?_
   rintro w80 Z81 hE82 hZ83 ⟨-⟩ ap84
   have hB85 : ∀ b, some b ∈ ([] : List (Option Nat)) → w33.heap.size ≤ b ∧ ¬ Z81 b := by
    intro b hb; cases hb
   have hL86 := hL35.ext hE82
   refine Rl.op (OpY.assign (v := (Value.bool (!r30))) rfl ?_)
   refine Rl.nil ?_
   refine Swp.ret ?_
   obtain rfl := Option.some.inj h
   refine ⟨[(Value.int .i64 (List.length x2.Coefs : Int)), (Value.bool (!r30))], ⟨rfl, ⟨rfl, trivial⟩⟩, ⟨_, rfl, hL86.done, ?_⟩⟩
   exact ⟨rfl, trivial⟩
theorem cApply_w (N : Nat) (l : (List Ineq)) (s : Step) (l_v : Value) (s_v : Value) (s_v1 : Value) (w : World) (S : Nat → Prop) (l_h : Rs rIneq (Hv w.heap.size S [] w) l_v l) (s_h : Rs rUse (Hv w.heap.size S [] w) s_v s.Uses) (s_h1 : Rs (rInt .u32) (Hv w.heap.size S [] w) s_v1 s.Divisor.Digits) (r : (Ineq × Bool)) (h : cApply N l s = some r) :
  Calls Try.prog 14 #[l_v, (Value.agg #[s_v, (Value.bool s.Divisor.Negative), s_v1])] w (Ret w (fun v w' => ∃ (v0_0 : Value) (v0_1 : Value), .tuple #[(Value.agg #[v0_0, (Value.bool r.1.Bound.Negative), v0_1]), (Value.bool r.2)] = v ∧ Rs rBig (Hv w.heap.size None [] w') v0_0 r.1.Coefs ∧ Rs (rInt .u32) (Hv w.heap.size None [] w') v0_1 r.1.Bound.Digits ∧ True)) := by
 unfold cApply at h
 have hL : Go.X.Loc [] [] w w [] [] := Go.X.Loc.begin0 w
 refine calls_of (l := [l_v, (Value.agg #[s_v, (Value.bool s.Divisor.Negative), s_v1])]) (rl := [.cell 4 34, .tmp 5]) (n := 135) Try.func14 rfl rfl rfl (Nat.le_of_ble_eq_true rfl) ?_
 refine Swp.seq ?_
 refine Swp.region rfl ?_
 refine Rl.op (OpY.box (cs := [s_v, (Value.bool s.Divisor.Negative), s_v1]) rfl rfl hL ?_)
 intro b1 w2 (hL3 : Go.X.Loc [] [] w w2 [some b1] [Cont.cells [s_v, (Value.bool s.Divisor.Negative), s_v1]]) hS5
 have K4 := Keep.step (s := w.heap.size) hS5
 refine Rl.op (OpY.alloc (cs := [(Value.slice none 0 0), (Value.bool false), (Value.slice none 0 0)]) ti34 rfl hL3 ?_)
 intro b6 w7 (hL8 : Go.X.Loc [] [] w w7 [some b6, some b1] [Cont.cells [(Value.slice none 0 0), (Value.bool false), (Value.slice none 0 0)], Cont.cells [s_v, (Value.bool s.Divisor.Negative), s_v1]]) hS10
 have K9 := Keep.step (s := w.heap.size) hS10
 refine Rl.op (OpY.assign (v := (Value.bool false)) rfl ?_)
 refine Rl.nil ?_
 refine Swp.seq ?_
 refine Swp.region rfl ?_
 refine Rl.op (OpY.move (v := l_v) rfl ?_)
 obtain ⟨r11, q12, h⟩ := bind_some h
 have f14 := ((l_h.mono (K4 S)).mono (K9 S))
 refine Rl.op (OpY.call en44 rfl rfl (cwidth_w N l l_v _ Any (f14.mono vw_any) r11 q12) ?_)
 rintro _ w15 hE18 ⟨rfl, -⟩
 have hL16 := hL8.ext hE18
 have K17 := Keep.ext (s := w.heap.size) (O := [some b6, some b1]) hE18
 refine Rl.op (OpY.move (v := (Value.tuple #[(Value.int .i64 r11.1), (Value.bool r11.2)])) rfl ?_)
 refine Rl.op (OpY.extract (vs := [(Value.int .i64 r11.1), (Value.bool r11.2)]) (v := (Value.int .i64 r11.1)) rfl rfl ?_)
 refine Rl.op (OpY.extract (vs := [(Value.int .i64 r11.1), (Value.bool r11.2)]) (v := (Value.bool r11.2)) rfl rfl ?_)
 refine Rl.op (OpY.assign (v := (Value.int .i64 r11.1)) rfl ?_)
 refine Rl.op (OpY.assign (v := (Value.bool r11.2)) rfl ?_)
 refine Rl.nil ?_
 refine Swp.seq ?_
 refine Swp.seq ?_
 obtain ⟨s31, h, g32⟩ := bind_some h
 refine Swp.join (fun e w' => ∃ (x30 : Bool) (u : Env), x30 = s31 ∧ e = upds [(0, l_v), (3, (Value.pointer (some ⟨b1, 0, none⟩))), (4, (Value.pointer (some ⟨b6, 0, none⟩))), (6, (Value.int .i64 r11.1)), (31, (Value.bool x30))] u ∧ Go.X.Loc [] [] w w' [some b1, some b6] [Cont.cells [s_v, (Value.bool s.Divisor.Negative), s_v1], Cont.cells [(Value.slice none 0 0), (Value.bool false), (Value.slice none 0 0)]] ∧ Keep w.heap.size [some b6, some b1] w15 [some b1, some b6] w' ∧ True) ?_ ?_
 ·
  refine Swp.region rfl ?_
  refine Rl.op (OpY.move (v := (Value.bool r11.2)) rfl ?_)
  refine Rl.op (OpY.not (x := r11.2) rfl ?_)
  refine Rl.op (OpY.move (v := (Value.bool (!r11.2))) rfl ?_)
  by_cases hc33 : (!r11.2) = true
  ·
   replace h := ite_t hc33 h
   refine Rl.no (dj := 26) (b' := (!r11.2)) rfl rfl hc33 ?_
   refine Rl.no (dj := 26) (b' := (!r11.2)) rfl rfl hc33 ?_
   refine Rl.no (dj := 26) (b' := (!r11.2)) rfl rfl hc33 ?_
   refine Rl.no (dj := 26) (b' := (!r11.2)) rfl rfl hc33 ?_
   refine Rl.op (OpY.pick_t (t := (!r11.2)) (v := (Value.bool true)) rfl hc33 rfl ?_)
   refine Rl.nil ?_
   have hp34 := hL16.pick [1, 0] rfl rfl rfl
   have hL36 : Go.X.Loc [] [] w w15 [some b1, some b6] [Cont.cells [s_v, (Value.bool s.Divisor.Negative), s_v1], Cont.cells [(Value.slice none 0 0), (Value.bool false), (Value.slice none 0 0)]] := hp34.1
   have K35 := Keep.step (s := w.heap.size) hp34.2
   obtain rfl := Option.some.inj h
   refine Swp.pop_back ?_
   exact ⟨true, _, rfl, (upds_sym ⟨rfl, ⟨rfl, ⟨rfl, ⟨rfl, ⟨rfl, trivial⟩⟩⟩⟩⟩), hL36, K35, trivial⟩
  ·
   replace h := ite_f hc33 h
   refine Rl.yes (dj := 26) (b' := (!r11.2)) rfl rfl (eq_false_of_ne_true hc33) (OpY.fieldAddr (q := 1) Try.underlying28 rfl ti26 rfl rfl rfl ?_)
   refine Rl.yes (dj := 26) (b' := (!r11.2)) rfl rfl (eq_false_of_ne_true hc33) (OpY.ldBoxA (vs := [(Value.bool s.Divisor.Negative), s_v1]) Try.underlying26 rfl ti26 rfl (hL16.at 1 rfl rfl) rfl rfl ?_)
   obtain ⟨r37, q38, h⟩ := bind_some h
   have f40 := (((s_h1.mono (K4 S)).mono (K9 S)).mono (K17 S))
   refine Rl.yes (dj := 26) (b' := (!r11.2)) rfl rfl (eq_false_of_ne_true hc33) (OpY.call en45 rfl rfl (bSign_w N s.Divisor s_v1 _ Any (f40.mono vw_any) r37 q38) ?_)
   rintro _ w41 hE44 ⟨rfl, -⟩
   have hL42 := hL16.ext hE44
   have K43 := Keep.ext (s := w.heap.size) (O := [some b6, some b1]) hE44
   refine Rl.yes (dj := 26) (b' := (!r11.2)) rfl rfl (eq_false_of_ne_true hc33) (OpY.lss (x := r37) (y := 1) ((r37 : Int) < 1) rfl rfl Iff.rfl ?_)
   refine Rl.op (OpY.pick_f (t := (!r11.2)) (v := (Value.bool (decide ((r37 : Int) < 1)))) rfl (eq_false_of_ne_true hc33) rfl ?_)
   refine Rl.nil ?_
   have hp45 := hL42.pick [1, 0] rfl rfl rfl
   have hL47 : Go.X.Loc [] [] w w41 [some b1, some b6] [Cont.cells [s_v, (Value.bool s.Divisor.Negative), s_v1], Cont.cells [(Value.slice none 0 0), (Value.bool false), (Value.slice none 0 0)]] := hp45.1
   have K46 := Keep.step (s := w.heap.size) hp45.2
   obtain rfl := Option.some.inj h
   refine Swp.pop_back ?_
   exact ⟨(decide ((r37 : Int) < 1)), _, rfl, (upds_sym ⟨rfl, ⟨rfl, ⟨rfl, ⟨rfl, ⟨rfl, trivial⟩⟩⟩⟩⟩), hL47, (Keep.trans K43 K46), trivial⟩
 ·
  rintro _ w48 ⟨x30, u, rfl, rfl, hL49, K50, -⟩
  replace h := g32
  try dsimp only at h
  refine Swp.cond_b x30 rfl (fun hc51 => ?_) (fun hc51 => ?_)
  ·
   replace h := ite_t hc51 h
   refine Swp.seq ?_
   refine Swp.region rfl ?_
   refine Rl.op (OpY.build (zc := [(Value.slice none 0 0), (Value.bool false), (Value.slice none 0 0)]) (cs := [(Value.slice none 0 0), (Value.bool false), (Value.slice none 0 0)]) (is := []) (vs := []) (css := []) pl34 ti34 rfl rfl rfl trivial rfl ?_)
   refine Rl.op0 (OpY.store (vs := [(Value.slice none 0 0), (Value.bool false), (Value.slice none 0 0)]) ti34 rfl rfl rfl rfl (ones_cons rfl (ones_cons rfl (ones_cons rfl ones_nil))) hL49 1 rfl rfl (Nat.le_of_ble_eq_true rfl) ?_)
   intro w52 (hL53 : Go.X.Loc [] [] w w52 [some b1, some b6] [Cont.cells [s_v, (Value.bool s.Divisor.Negative), s_v1], Cont.cells [(Value.slice none 0 0), (Value.bool false), (Value.slice none 0 0)]]) hS55
   refine Rl.op (OpY.assign (v := (Value.bool false)) rfl ?_)
   refine Rl.nil ?_
   refine Swp.ret ?_
   obtain rfl := Option.some.inj h
   refine ⟨[(Value.agg #[(Value.slice none 0 0), (Value.bool false), (Value.slice none 0 0)]), (Value.bool false)], ⟨⟨⟨b6, 0, none⟩, rfl, res_boxA Try.underlying34 rfl ti34 (hL53.at 1 rfl rfl) rfl⟩, ⟨rfl, trivial⟩⟩, ⟨_, rfl, hL53.done, ?_⟩⟩
   exact ⟨(Value.slice none 0 0), (Value.slice none 0 0), rfl, Rs.nil, Rs.nil, trivial⟩
  ·
   replace h := ite_f hc51 h
   refine Swp.skip ?_
   refine Swp.seq ?_
   refine Swp.region rfl ?_
   refine Rl.op (OpY.move (v := (Value.int .i64 r11.1)) rfl ?_)
   obtain ⟨x57, q58, h⟩ := bind_some h
   obtain ⟨m56, q59, q60, q61, q62⟩ := mk1_some q58
   refine Rl.op (OpY.mkRowX (r := rBig) (H := (Hv w.heap.size None [some b1, some b6] w48)) (zc := [(Value.bool false), (Value.slice none 0 0)]) (x := (Big.mk false [])) Try.underlying32 ti26 rfl (rBig_close ⟨(Value.slice none 0 0), rfl, Rs.nil, trivial⟩) rfl rfl q59 q60 q61 q62 hL49 ?_)
   intro b63 w68 cs64 hE65 hc66 (hL69 : Go.X.Loc [] [] w w68 [some b63, some b1, some b6] [Cont.cells ([] ++ (cs64 ++ [])), Cont.cells [s_v, (Value.bool s.Divisor.Negative), s_v1], Cont.cells [(Value.slice none 0 0), (Value.bool false), (Value.slice none 0 0)]]) hS71
   have K70 := Keep.step (s := w.heap.size) hS71
   refine Rl.op (OpY.build (zc := [(Value.slice none 0 0), (Value.bool false), (Value.slice none 0 0)]) (cs := [(osv (some b63) 0 (List.length x57) m56), (Value.bool false), (Value.slice none 0 0)]) (is := [0]) (vs := [(osv (some b63) 0 (List.length x57) m56)]) (css := [[(osv (some b63) 0 (List.length x57) m56)]]) pl34 ti34 rfl rfl rfl ⟨(one_cells (osv_one _ _ _ _)), trivial⟩ rfl ?_)
   refine Rl.op (OpY.alloc (cs := [(Value.slice none 0 0), (Value.bool false), (Value.slice none 0 0)]) ti34 rfl hL69 ?_)
   intro b72 w73 (hL74 : Go.X.Loc [] [] w w73 [some b72, some b63, some b1, some b6] [Cont.cells [(Value.slice none 0 0), (Value.bool false), (Value.slice none 0 0)], Cont.cells ([] ++ (cs64 ++ [])), Cont.cells [s_v, (Value.bool s.Divisor.Negative), s_v1], Cont.cells [(Value.slice none 0 0), (Value.bool false), (Value.slice none 0 0)]]) hS76
   have K75 := Keep.step (s := w.heap.size) hS76
   refine Rl.op0 (OpY.store (vs := [(osv (some b63) 0 (List.length x57) m56), (Value.bool false), (Value.slice none 0 0)]) ti34 rfl rfl rfl rfl (ones_cons (osv_one _ _ _ _) (ones_cons rfl (ones_cons rfl ones_nil))) hL74 0 rfl rfl (Nat.le_of_ble_eq_true rfl) ?_)
   intro w77 (hL78 : Go.X.Loc [] [] w w77 [some b72, some b63, some b1, some b6] [Cont.cells [(osv (some b63) 0 (List.length x57) m56), (Value.bool false), (Value.slice none 0 0)], Cont.cells ([] ++ (cs64 ++ [])), Cont.cells [s_v, (Value.bool s.Divisor.Negative), s_v1], Cont.cells [(Value.slice none 0 0), (Value.bool false), (Value.slice none 0 0)]]) hS80
   have K79 := Keep.step (s := w.heap.size) hS80
   refine Rl.nil ?_
   refine Swp.seq ?_
   refine Swp.seq ?_
   refine Swp.region rfl ?_
   refine Rl.op (OpY.fieldAddr (q := 0) Try.underlying28 rfl ti23 rfl rfl rfl ?_)
   refine Rl.op (OpY.ldBox1 (v := s_v) Try.underlying23 rfl rfl (hL78.at 2 rfl rfl) rfl ?_)
   have f81 := (((((((s_h.mono (K4 S)).mono (K9 S)).mono (K17 S)).mono (K50 S)).mono (K70 S)).mono (K75 S)).mono (K79 S))
   refine Rl.op (OpY.lenRo (v := s_v) Try.underlying23 rfl f81 ?_)
   refine Rl.op (OpY.move (v := (Value.int .i64 0)) rfl ?_)
   refine Rl.nil ?_
   obtain ⟨s1616, hl1618, g1617⟩ := bind_some h
   refine Swp.join (fun e w' => ∃ (coefs1608 : (List Big)) (negative1612 : Bool) (digits1613 : (List Int)) (cs1607 : List Value) (v1614 : Value) (u : Env), (Sum.inl (coefs1608, negative1612, digits1613)) = s1616 ∧ e = upds [(3, (Value.pointer (some ⟨b1, 0, none⟩))), (4, (Value.pointer (some ⟨b6, 0, none⟩))), (8, (Value.pointer (some ⟨b72, 0, none⟩)))] u ∧ Go.X.Loc [] [] w w' [some b1, some b6, some b72, some b63] [Cont.cells [s_v, (Value.bool s.Divisor.Negative), s_v1], Cont.cells [(Value.slice none 0 0), (Value.bool false), (Value.slice none 0 0)], Cont.cells [(osv (some b63) 0 (List.length x57) m56), (Value.bool negative1612), v1614], Cont.cells ([] ++ (cs1607 ++ []))] ∧ Keep w.heap.size [some b72, some b63, some b1, some b6] w77 [some b1, some b6, some b72, some b63] w' ∧ Els rBig (Hv w.heap.size None [some b1, some b6, some b72, some b63] w') cs1607 coefs1608 ∧ (List.length x57) = List.length coefs1608 ∧ (cs1607 ++ []).length = m56 * rBig.sz ∧ Rs (rInt .u32) (Hv w.heap.size None [some b1, some b6, some b72, some b63] w') v1614 digits1613 ∧ True) ?_ ?_
   ·
    refine Swp.block ?_
    have hp1620 := hL78.pick [2, 3, 0, 1] rfl rfl rfl
    have hL1622 : Go.X.Loc [] [] w w77 [some b1, some b6, some b72, some b63] [Cont.cells [s_v, (Value.bool s.Divisor.Negative), s_v1], Cont.cells [(Value.slice none 0 0), (Value.bool false), (Value.slice none 0 0)], Cont.cells [(osv (some b63) 0 (List.length x57) m56), (Value.bool false), (Value.slice none 0 0)], Cont.cells ([] ++ (cs64 ++ []))] := hp1620.1
    have K1621 := Keep.step (s := w.heap.size) hp1620.2
    have f1623 := ((((hE65.mono (K70 None)).mono (K75 None)).mono (K79 None)).mono (K1621 None))
    refine Swp.loopM hl1618 (fun (ss : ((List Big) × Bool × (List Int) × Int)) (e : Env) (w' : World) => match ss with | (coefs1594, negative1598, digits1599, x1602) => ∃ (cs1593 : List Value) (v1600 : Value) (u : Env), e = upds [(0, l_v), (3, (Value.pointer (some ⟨b1, 0, none⟩))), (4, (Value.pointer (some ⟨b6, 0, none⟩))), (8, (Value.pointer (some ⟨b72, 0, none⟩))), (37, s_v), (38, (Value.int .i64 (List.length s.Uses : Int))), (39, (Value.int .i64 x1602))] u ∧ Go.X.Loc [] [] w w' [some b1, some b6, some b72, some b63] [Cont.cells [s_v, (Value.bool s.Divisor.Negative), s_v1], Cont.cells [(Value.slice none 0 0), (Value.bool false), (Value.slice none 0 0)], Cont.cells [(osv (some b63) 0 (List.length x57) m56), (Value.bool negative1598), v1600], Cont.cells ([] ++ (cs1593 ++ []))] ∧ Keep w.heap.size [some b72, some b63, some b1, some b6] w77 [some b1, some b6, some b72, some b63] w' ∧ Els rBig (Hv w.heap.size None [some b1, some b6, some b72, some b63] w') cs1593 coefs1594 ∧ (List.length x57) = List.length coefs1594 ∧ (cs1593 ++ []).length = m56 * rBig.sz ∧ Rs (rInt .u32) (Hv w.heap.size None [some b1, some b6, some b72, some b63] w') v1600 digits1599 ∧ True) ⟨cs64, (Value.slice none 0 0), _, (upds_sym ⟨rfl, ⟨rfl, ⟨rfl, ⟨rfl, ⟨rfl, ⟨rfl, ⟨rfl, trivial⟩⟩⟩⟩⟩⟩⟩), hL1622, K1621, f1623, rfl, hc66, Rs.nil, trivial⟩ ?_
    rintro ⟨coefs1594, negative1598, digits1599, x1602⟩ oo _ w1624 ⟨cs1593, v1600, u, rfl, hL1625, K1626, hE1595, hl1597, hc1596, k1601, -⟩ h hd1619
    rw [cApply_b1] at h
    refine Swp.seq ?_
    refine Swp.region rfl ?_
    refine Rl.op (OpY.lss (x := x1602) (y := (List.length s.Uses : Int)) ((x1602 : Int) < (List.length s.Uses : Int)) rfl rfl Iff.rfl ?_)
    refine Rl.nil ?_
    refine Swp.seq ?_
    refine Swp.cond_d ((x1602 : Int) < (List.length s.Uses : Int)) rfl (fun hc1627 => ?_) (fun hc1627 => ?_)
    ·
     replace h := ite_t hc1627 h
     refine Swp.skip ?_
     refine Swp.seq ?_
     refine Swp.block ?_
     refine Swp.seq ?_
     refine Swp.region rfl ?_
     obtain ⟨x1628, q1629, h⟩ := bind_some h
     obtain ⟨n1630, q1631, q1632⟩ := idx_some q1629
     have f1643 := (f81.mono (K1626 S))
     obtain ⟨b1633, o1634, c1635, vs1636, q1637, q1638, f1639, q1640⟩ := Rs.get f1643 q1632
     obtain ⟨v1641, rfl, k1642, -⟩ := rUse_open q1640
     refine Rl.op (OpY.ixRoD (r := rUse) (v := s_v) (n := n1630) (m := (o1634 + n1630 * rUse.sz)) Try.underlying23 ti50 rfl q1637 rfl q1631 q1632 rfl ?_)
     refine Rl.op (OpY.ldRoA (vs := [(Value.int .i64 x1628.Index), (Value.bool x1628.N.Negative), v1641]) Try.underlying50 rfl ti50 rfl rfl vw_view f1639 ?_)
     refine Rl.op (OpY.alloc (cs := [(Value.int .i64 0), (Value.bool false), (Value.slice none 0 0)]) ti50 rfl hL1625 ?_)
     intro b1644 w1645 (hL1646 : Go.X.Loc [] [] w w1645 [some b1644, some b1, some b6, some b72, some b63] [Cont.cells [(Value.int .i64 0), (Value.bool false), (Value.slice none 0 0)], Cont.cells [s_v, (Value.bool s.Divisor.Negative), s_v1], Cont.cells [(Value.slice none 0 0), (Value.bool false), (Value.slice none 0 0)], Cont.cells [(osv (some b63) 0 (List.length x57) m56), (Value.bool negative1598), v1600], Cont.cells ([] ++ (cs1593 ++ []))]) hS1648
     have K1647 := Keep.step (s := w.heap.size) hS1648
     have f1649 := (k1642.mono (K1647 S))
     refine Rl.op0 (OpY.store (vs := [(Value.int .i64 x1628.Index), (Value.bool x1628.N.Negative), v1641]) ti50 rfl rfl rfl rfl (ones_cons rfl (ones_cons rfl (ones_cons f1649.one ones_nil))) hL1646 0 rfl rfl (Nat.le_of_ble_eq_true rfl) ?_)
     intro w1650 (hL1651 : Go.X.Loc [] [] w w1650 [some b1644, some b1, some b6, some b72, some b63] [Cont.cells [(Value.int .i64 x1628.Index), (Value.bool x1628.N.Negative), v1641], Cont.cells [s_v, (Value.bool s.Divisor.Negative), s_v1], Cont.cells [(Value.slice none 0 0), (Value.bool false), (Value.slice none 0 0)], Cont.cells [(osv (some b63) 0 (List.length x57) m56), (Value.bool negative1598), v1600], Cont.cells ([] ++ (cs1593 ++ []))]) hS1653
     have K1652 := Keep.step (s := w.heap.size) hS1653
     refine Rl.nil ?_
     refine Swp.seq ?_
     refine Swp.seq ?_
     obtain ⟨s1671, h, g1672⟩ := bind_some h
     refine Swp.join (fun e w' => ∃ (x1670 : Bool) (u : Env), x1670 = s1671 ∧ e = upds [(0, l_v), (3, (Value.pointer (some ⟨b1, 0, none⟩))), (4, (Value.pointer (some ⟨b6, 0, none⟩))), (8, (Value.pointer (some ⟨b72, 0, none⟩))), (10, (Value.pointer (some ⟨b1644, 0, none⟩))), (37, s_v), (38, (Value.int .i64 (List.length s.Uses : Int))), (39, (Value.int .i64 x1602)), (58, (Value.bool x1670))] u ∧ Go.X.Loc [] [] w w' [some b1, some b6, some b72, some b63, some b1644] [Cont.cells [s_v, (Value.bool s.Divisor.Negative), s_v1], Cont.cells [(Value.slice none 0 0), (Value.bool false), (Value.slice none 0 0)], Cont.cells [(osv (some b63) 0 (List.length x57) m56), (Value.bool negative1598), v1600], Cont.cells ([] ++ (cs1593 ++ [])), Cont.cells [(Value.int .i64 x1628.Index), (Value.bool x1628.N.Negative), v1641]] ∧ Keep w.heap.size [some b1644, some b1, some b6, some b72, some b63] w1650 [some b1, some b6, some b72, some b63, some b1644] w' ∧ True) ?_ ?_
     ·
      refine Swp.region rfl ?_
      refine Rl.op (OpY.fieldAddr (q := 0) Try.underlying50 rfl ti3 rfl rfl rfl ?_)
      refine Rl.op (OpY.ldBox1 (v := (Value.int .i64 x1628.Index)) Try.underlying3 rfl rfl (hL1651.at 0 rfl rfl) rfl ?_)
      refine Rl.op (OpY.lss (x := x1628.Index) (y := 0) ((x1628.Index : Int) < 0) rfl rfl Iff.rfl ?_)
      refine Rl.op (OpY.move (v := (Value.bool (decide ((x1628.Index : Int) < 0)))) rfl ?_)
      by_cases hc1673 : (x1628.Index : Int) < 0
      ·
       replace h := ite_t hc1673 h
       refine Rl.no (dj := 46) (b' := (decide ((x1628.Index : Int) < 0))) rfl rfl (decide_eq_true hc1673) ?_
       refine Rl.no (dj := 46) (b' := (decide ((x1628.Index : Int) < 0))) rfl rfl (decide_eq_true hc1673) ?_
       refine Rl.no (dj := 46) (b' := (decide ((x1628.Index : Int) < 0))) rfl rfl (decide_eq_true hc1673) ?_
       refine Rl.no (dj := 46) (b' := (decide ((x1628.Index : Int) < 0))) rfl rfl (decide_eq_true hc1673) ?_
       refine Rl.no (dj := 46) (b' := (decide ((x1628.Index : Int) < 0))) rfl rfl (decide_eq_true hc1673) ?_
       refine Rl.op (OpY.pick_t (t := (decide ((x1628.Index : Int) < 0))) (v := (Value.bool true)) rfl (decide_eq_true hc1673) rfl ?_)
       refine Rl.op (OpY.move (v := (Value.bool true)) rfl ?_)
       refine Rl.no (dj := 53) (b' := true) rfl rfl rfl ?_
       refine Rl.no (dj := 53) (b' := true) rfl rfl rfl ?_
       refine Rl.no (dj := 53) (b' := true) rfl rfl rfl ?_
       refine Rl.no (dj := 53) (b' := true) rfl rfl rfl ?_
       refine Rl.op (OpY.pick_t (t := true) (v := (Value.bool true)) rfl rfl rfl ?_)
       refine Rl.nil ?_
       have hp1674 := hL1651.pick [1, 2, 3, 4, 0] rfl rfl rfl
       have hL1676 : Go.X.Loc [] [] w w1650 [some b1, some b6, some b72, some b63, some b1644] [Cont.cells [s_v, (Value.bool s.Divisor.Negative), s_v1], Cont.cells [(Value.slice none 0 0), (Value.bool false), (Value.slice none 0 0)], Cont.cells [(osv (some b63) 0 (List.length x57) m56), (Value.bool negative1598), v1600], Cont.cells ([] ++ (cs1593 ++ [])), Cont.cells [(Value.int .i64 x1628.Index), (Value.bool x1628.N.Negative), v1641]] := hp1674.1
       have K1675 := Keep.step (s := w.heap.size) hp1674.2
       obtain rfl := Option.some.inj h
       refine Swp.pop_back ?_
       exact ⟨true, _, rfl, (upds_sym ⟨rfl, ⟨rfl, ⟨rfl, ⟨rfl, ⟨rfl, ⟨rfl, ⟨rfl, ⟨rfl, ⟨rfl, trivial⟩⟩⟩⟩⟩⟩⟩⟩⟩), hL1676, K1675, trivial⟩
      ·
       replace h := ite_f hc1673 h
       refine Rl.yes (dj := 46) (b' := (decide ((x1628.Index : Int) < 0))) rfl rfl (decide_eq_false hc1673) (OpY.fieldAddr (q := 0) Try.underlying50 rfl ti3 rfl rfl rfl ?_)
       refine Rl.yes (dj := 46) (b' := (decide ((x1628.Index : Int) < 0))) rfl rfl (decide_eq_false hc1673) (OpY.ldBox1 (v := (Value.int .i64 x1628.Index)) Try.underlying3 rfl rfl (hL1651.at 0 rfl rfl) rfl ?_)
       refine Rl.yes (dj := 46) (b' := (decide ((x1628.Index : Int) < 0))) rfl rfl (decide_eq_false hc1673) (OpY.move (v := l_v) rfl ?_)
       have f1677 := ((((((((f14.mono (K17 S)).mono (K50 S)).mono (K70 S)).mono (K75 S)).mono (K79 S)).mono (K1626 S)).mono (K1647 S)).mono (K1652 S))
       refine Rl.yes (dj := 46) (b' := (decide ((x1628.Index : Int) < 0))) rfl rfl (decide_eq_false hc1673) (OpY.lenRo (v := l_v) Try.underlying22 rfl f1677 ?_)
       refine Rl.yes (dj := 46) (b' := (decide ((x1628.Index : Int) < 0))) rfl rfl (decide_eq_false hc1673) (OpY.geq (x := x1628.Index) (y := (List.length l : Int)) ((x1628.Index : Int) ≥ (List.length l : Int)) rfl rfl Iff.rfl ?_)
       refine Rl.op (OpY.pick_f (t := (decide ((x1628.Index : Int) < 0))) (v := (Value.bool (decide ((x1628.Index : Int) ≥ (List.length l : Int))))) rfl (decide_eq_false hc1673) rfl ?_)
       refine Rl.op (OpY.move (v := (Value.bool (decide ((x1628.Index : Int) ≥ (List.length l : Int))))) rfl ?_)
       by_cases hc1678 : (x1628.Index : Int) ≥ (List.length l : Int)
       ·
        replace h := ite_t hc1678 h
        refine Rl.no (dj := 53) (b' := (decide ((x1628.Index : Int) ≥ (List.length l : Int)))) rfl rfl (decide_eq_true hc1678) ?_
        refine Rl.no (dj := 53) (b' := (decide ((x1628.Index : Int) ≥ (List.length l : Int)))) rfl rfl (decide_eq_true hc1678) ?_
        refine Rl.no (dj := 53) (b' := (decide ((x1628.Index : Int) ≥ (List.length l : Int)))) rfl rfl (decide_eq_true hc1678) ?_
        refine Rl.no (dj := 53) (b' := (decide ((x1628.Index : Int) ≥ (List.length l : Int)))) rfl rfl (decide_eq_true hc1678) ?_
        refine Rl.op (OpY.pick_t (t := (decide ((x1628.Index : Int) ≥ (List.length l : Int)))) (v := (Value.bool true)) rfl (decide_eq_true hc1678) rfl ?_)
        refine Rl.nil ?_
        have hp1679 := hL1651.pick [1, 2, 3, 4, 0] rfl rfl rfl
        have hL1681 : Go.X.Loc [] [] w w1650 [some b1, some b6, some b72, some b63, some b1644] [Cont.cells [s_v, (Value.bool s.Divisor.Negative), s_v1], Cont.cells [(Value.slice none 0 0), (Value.bool false), (Value.slice none 0 0)], Cont.cells [(osv (some b63) 0 (List.length x57) m56), (Value.bool negative1598), v1600], Cont.cells ([] ++ (cs1593 ++ [])), Cont.cells [(Value.int .i64 x1628.Index), (Value.bool x1628.N.Negative), v1641]] := hp1679.1
        have K1680 := Keep.step (s := w.heap.size) hp1679.2
        obtain rfl := Option.some.inj h
        refine Swp.pop_back ?_
        exact ⟨true, _, rfl, (upds_sym ⟨rfl, ⟨rfl, ⟨rfl, ⟨rfl, ⟨rfl, ⟨rfl, ⟨rfl, ⟨rfl, ⟨rfl, trivial⟩⟩⟩⟩⟩⟩⟩⟩⟩), hL1681, K1680, trivial⟩
       ·
        replace h := ite_f hc1678 h
        refine Rl.yes (dj := 53) (b' := (decide ((x1628.Index : Int) ≥ (List.length l : Int)))) rfl rfl (decide_eq_false hc1678) (OpY.fieldAddr (q := 1) Try.underlying50 rfl ti26 rfl rfl rfl ?_)
        refine Rl.yes (dj := 53) (b' := (decide ((x1628.Index : Int) ≥ (List.length l : Int)))) rfl rfl (decide_eq_false hc1678) (OpY.ldBoxA (vs := [(Value.bool x1628.N.Negative), v1641]) Try.underlying26 rfl ti26 rfl (hL1651.at 0 rfl rfl) rfl rfl ?_)
        obtain ⟨r1682, q1683, h⟩ := bind_some h
        have f1685 := (f1649.mono (K1652 S))
        refine Rl.yes (dj := 53) (b' := (decide ((x1628.Index : Int) ≥ (List.length l : Int)))) rfl rfl (decide_eq_false hc1678) (OpY.call en45 rfl rfl (bSign_w N x1628.N v1641 _ Any (f1685.mono vw_any) r1682 q1683) ?_)
        rintro _ w1686 hE1689 ⟨rfl, -⟩
        have hL1687 := hL1651.ext hE1689
        have K1688 := Keep.ext (s := w.heap.size) (O := [some b1644, some b1, some b6, some b72, some b63]) hE1689
        refine Rl.yes (dj := 53) (b' := (decide ((x1628.Index : Int) ≥ (List.length l : Int)))) rfl rfl (decide_eq_false hc1678) (OpY.lss (x := r1682) (y := 0) ((r1682 : Int) < 0) rfl rfl Iff.rfl ?_)
        refine Rl.op (OpY.pick_f (t := (decide ((x1628.Index : Int) ≥ (List.length l : Int)))) (v := (Value.bool (decide ((r1682 : Int) < 0)))) rfl (decide_eq_false hc1678) rfl ?_)
        refine Rl.nil ?_
        have hp1690 := hL1687.pick [1, 2, 3, 4, 0] rfl rfl rfl
        have hL1692 : Go.X.Loc [] [] w w1686 [some b1, some b6, some b72, some b63, some b1644] [Cont.cells [s_v, (Value.bool s.Divisor.Negative), s_v1], Cont.cells [(Value.slice none 0 0), (Value.bool false), (Value.slice none 0 0)], Cont.cells [(osv (some b63) 0 (List.length x57) m56), (Value.bool negative1598), v1600], Cont.cells ([] ++ (cs1593 ++ [])), Cont.cells [(Value.int .i64 x1628.Index), (Value.bool x1628.N.Negative), v1641]] := hp1690.1
        have K1691 := Keep.step (s := w.heap.size) hp1690.2
        obtain rfl := Option.some.inj h
        refine Swp.pop_back ?_
        exact ⟨(decide ((r1682 : Int) < 0)), _, rfl, (upds_sym ⟨rfl, ⟨rfl, ⟨rfl, ⟨rfl, ⟨rfl, ⟨rfl, ⟨rfl, ⟨rfl, ⟨rfl, trivial⟩⟩⟩⟩⟩⟩⟩⟩⟩), hL1692, (Keep.trans K1688 K1691), trivial⟩
     ·
      rintro _ w1693 ⟨x1670, u, rfl, rfl, hL1694, K1695, -⟩
      replace h := g1672
      try dsimp only at h
      refine Swp.cond_b x1670 rfl (fun hc1696 => ?_) (fun hc1696 => ?_)
      ·
       replace h := ite_t hc1696 h
       refine Swp.seq ?_
       refine Swp.region rfl ?_
       refine Rl.op (OpY.build (zc := [(Value.slice none 0 0), (Value.bool false), (Value.slice none 0 0)]) (cs := [(Value.slice none 0 0), (Value.bool false), (Value.slice none 0 0)]) (is := []) (vs := []) (css := []) pl34 ti34 rfl rfl rfl trivial rfl ?_)
       refine Rl.op0 (OpY.store (vs := [(Value.slice none 0 0), (Value.bool false), (Value.slice none 0 0)]) ti34 rfl rfl rfl rfl (ones_cons rfl (ones_cons rfl (ones_cons rfl ones_nil))) hL1694 1 rfl rfl (Nat.le_of_ble_eq_true rfl) ?_)
       intro w1697 (hL1698 : Go.X.Loc [] [] w w1697 [some b1, some b6, some b72, some b63, some b1644] [Cont.cells [s_v, (Value.bool s.Divisor.Negative), s_v1], Cont.cells [(Value.slice none 0 0), (Value.bool false), (Value.slice none 0 0)], Cont.cells [(osv (some b63) 0 (List.length x57) m56), (Value.bool negative1598), v1600], Cont.cells ([] ++ (cs1593 ++ [])), Cont.cells [(Value.int .i64 x1628.Index), (Value.bool x1628.N.Negative), v1641]]) hS1700
       refine Rl.op (OpY.assign (v := (Value.bool false)) rfl ?_)
       refine Rl.nil ?_
       refine Swp.ret ?_
       obtain rfl := Option.some.inj h
       obtain rfl := hd1619 _ rfl
       replace h := g1617
       try dsimp only at h
       obtain rfl := Option.some.inj h
       refine ⟨[(Value.agg #[(Value.slice none 0 0), (Value.bool false), (Value.slice none 0 0)]), (Value.bool false)], ⟨⟨⟨b6, 0, none⟩, rfl, res_boxA Try.underlying34 rfl ti34 (hL1698.at 1 rfl rfl) rfl⟩, ⟨rfl, trivial⟩⟩, ⟨_, rfl, hL1698.done, ?_⟩⟩
       exact ⟨(Value.slice none 0 0), (Value.slice none 0 0), rfl, Rs.nil, Rs.nil, trivial⟩
      ·
       replace h := ite_f hc1696 h
       refine Swp.skip ?_
       refine Swp.seq ?_
       refine Swp.region rfl ?_
       refine Rl.op (OpY.move (v := l_v) rfl ?_)
       refine Rl.op (OpY.fieldAddr (q := 0) Try.underlying50 rfl ti3 rfl rfl rfl ?_)
       refine Rl.op (OpY.ldBox1 (v := (Value.int .i64 x1628.Index)) Try.underlying3 rfl rfl (hL1694.at 4 rfl rfl) rfl ?_)
       obtain ⟨x1701, q1702, h⟩ := bind_some h
       obtain ⟨n1703, q1704, q1705⟩ := idx_some q1702
       have f1718 := (((((((((f14.mono (K17 S)).mono (K50 S)).mono (K70 S)).mono (K75 S)).mono (K79 S)).mono (K1626 S)).mono (K1647 S)).mono (K1652 S)).mono (K1695 S))
       obtain ⟨b1706, o1707, c1708, vs1709, q1710, q1711, f1712, q1713⟩ := Rs.get f1718 q1705
       obtain ⟨v1714, v1716, rfl, k1715, k1717, -⟩ := rIneq_open q1713
       refine Rl.op (OpY.ixRoD (r := rIneq) (v := l_v) (n := n1703) (m := (o1707 + n1703 * rIneq.sz)) Try.underlying22 ti34 rfl q1710 rfl q1704 q1705 rfl ?_)
       refine Rl.op (OpY.ldRoA (vs := [v1714, (Value.bool x1701.Bound.Negative), v1716]) Try.underlying34 rfl ti34 rfl rfl vw_view f1712 ?_)
       refine Rl.op (OpY.alloc (cs := [(Value.slice none 0 0), (Value.bool false), (Value.slice none 0 0)]) ti34 rfl hL1694 ?_)
       intro b1719 w1720 (hL1721 : Go.X.Loc [] [] w w1720 [some b1719, some b1, some b6, some b72, some b63, some b1644] [Cont.cells [(Value.slice none 0 0), (Value.bool false), (Value.slice none 0 0)], Cont.cells [s_v, (Value.bool s.Divisor.Negative), s_v1], Cont.cells [(Value.slice none 0 0), (Value.bool false), (Value.slice none 0 0)], Cont.cells [(osv (some b63) 0 (List.length x57) m56), (Value.bool negative1598), v1600], Cont.cells ([] ++ (cs1593 ++ [])), Cont.cells [(Value.int .i64 x1628.Index), (Value.bool x1628.N.Negative), v1641]]) hS1723
       have K1722 := Keep.step (s := w.heap.size) hS1723
       have f1724 := (k1717.mono (K1722 S))
       have f1725 := (k1715.mono (K1722 S))
       refine Rl.op0 (OpY.store (vs := [v1714, (Value.bool x1701.Bound.Negative), v1716]) ti34 rfl rfl rfl rfl (ones_cons f1725.one (ones_cons rfl (ones_cons f1724.one ones_nil))) hL1721 0 rfl rfl (Nat.le_of_ble_eq_true rfl) ?_)
       intro w1726 (hL1727 : Go.X.Loc [] [] w w1726 [some b1719, some b1, some b6, some b72, some b63, some b1644] [Cont.cells [v1714, (Value.bool x1701.Bound.Negative), v1716], Cont.cells [s_v, (Value.bool s.Divisor.Negative), s_v1], Cont.cells [(Value.slice none 0 0), (Value.bool false), (Value.slice none 0 0)], Cont.cells [(osv (some b63) 0 (List.length x57) m56), (Value.bool negative1598), v1600], Cont.cells ([] ++ (cs1593 ++ [])), Cont.cells [(Value.int .i64 x1628.Index), (Value.bool x1628.N.Negative), v1641]]) hS1729
       have K1728 := Keep.step (s := w.heap.size) hS1729
       refine Rl.nil ?_
       refine Swp.seq ?_
       refine Swp.seq ?_
       refine Swp.region rfl ?_
       refine Rl.op (OpY.fieldAddr (q := 0) Try.underlying34 rfl ti32 rfl rfl rfl ?_)
       refine Rl.op (OpY.ldBox1 (v := v1714) Try.underlying32 rfl rfl (hL1727.at 0 rfl rfl) rfl ?_)
       have f1730 := (f1725.mono (K1728 S))
       refine Rl.op (OpY.lenRo (v := v1714) Try.underlying32 rfl f1730 ?_)
       refine Rl.op (OpY.move (v := (Value.int .i64 0)) rfl ?_)
       refine Rl.nil ?_
       obtain ⟨s2110, hl2112, g2111⟩ := bind_some h
       refine Swp.join (fun e w' => ∃ (coefs2104 : (List Big)) (cs2103 : List Value) (u : Env), coefs2104 = s2110 ∧ e = upds [(0, l_v), (3, (Value.pointer (some ⟨b1, 0, none⟩))), (4, (Value.pointer (some ⟨b6, 0, none⟩))), (8, (Value.pointer (some ⟨b72, 0, none⟩))), (10, (Value.pointer (some ⟨b1644, 0, none⟩))), (11, (Value.pointer (some ⟨b1719, 0, none⟩))), (37, s_v), (38, (Value.int .i64 (List.length s.Uses : Int))), (39, (Value.int .i64 x1602))] u ∧ Go.X.Loc [] [] w w' [some b1, some b6, some b72, some b63, some b1644, some b1719] [Cont.cells [s_v, (Value.bool s.Divisor.Negative), s_v1], Cont.cells [(Value.slice none 0 0), (Value.bool false), (Value.slice none 0 0)], Cont.cells [(osv (some b63) 0 (List.length x57) m56), (Value.bool negative1598), v1600], Cont.cells ([] ++ (cs2103 ++ [])), Cont.cells [(Value.int .i64 x1628.Index), (Value.bool x1628.N.Negative), v1641], Cont.cells [v1714, (Value.bool x1701.Bound.Negative), v1716]] ∧ Keep w.heap.size [some b1719, some b1, some b6, some b72, some b63, some b1644] w1726 [some b1, some b6, some b72, some b63, some b1644, some b1719] w' ∧ Els rBig (Hv w.heap.size None [some b1, some b6, some b72, some b63, some b1644, some b1719] w') cs2103 coefs2104 ∧ (List.length x57) = List.length coefs2104 ∧ (cs2103 ++ []).length = m56 * rBig.sz ∧ True) ?_ ?_
       ·
        refine Swp.block ?_
        have hp2114 := hL1727.pick [1, 2, 3, 4, 5, 0] rfl rfl rfl
        have hL2116 : Go.X.Loc [] [] w w1726 [some b1, some b6, some b72, some b63, some b1644, some b1719] [Cont.cells [s_v, (Value.bool s.Divisor.Negative), s_v1], Cont.cells [(Value.slice none 0 0), (Value.bool false), (Value.slice none 0 0)], Cont.cells [(osv (some b63) 0 (List.length x57) m56), (Value.bool negative1598), v1600], Cont.cells ([] ++ (cs1593 ++ [])), Cont.cells [(Value.int .i64 x1628.Index), (Value.bool x1628.N.Negative), v1641], Cont.cells [v1714, (Value.bool x1701.Bound.Negative), v1716]] := hp2114.1
        have K2115 := Keep.step (s := w.heap.size) hp2114.2
        have f2117 := ((((((hE1595.mono (K1647 None)).mono (K1652 None)).mono (K1695 None)).mono (K1722 None)).mono (K1728 None)).mono (K2115 None))
        refine Swp.loopM hl2112 (fun (ss : ((List Big) × Int)) (e : Env) (w' : World) => match ss with | (coefs2092, x2098) => ∃ (cs2091 : List Value) (u : Env), e = upds [(0, l_v), (3, (Value.pointer (some ⟨b1, 0, none⟩))), (4, (Value.pointer (some ⟨b6, 0, none⟩))), (8, (Value.pointer (some ⟨b72, 0, none⟩))), (10, (Value.pointer (some ⟨b1644, 0, none⟩))), (11, (Value.pointer (some ⟨b1719, 0, none⟩))), (37, s_v), (38, (Value.int .i64 (List.length s.Uses : Int))), (39, (Value.int .i64 x1602)), (66, v1714), (67, (Value.int .i64 (List.length x1701.Coefs : Int))), (68, (Value.int .i64 x2098))] u ∧ Go.X.Loc [] [] w w' [some b1, some b6, some b72, some b63, some b1644, some b1719] [Cont.cells [s_v, (Value.bool s.Divisor.Negative), s_v1], Cont.cells [(Value.slice none 0 0), (Value.bool false), (Value.slice none 0 0)], Cont.cells [(osv (some b63) 0 (List.length x57) m56), (Value.bool negative1598), v1600], Cont.cells ([] ++ (cs2091 ++ [])), Cont.cells [(Value.int .i64 x1628.Index), (Value.bool x1628.N.Negative), v1641], Cont.cells [v1714, (Value.bool x1701.Bound.Negative), v1716]] ∧ Keep w.heap.size [some b1719, some b1, some b6, some b72, some b63, some b1644] w1726 [some b1, some b6, some b72, some b63, some b1644, some b1719] w' ∧ Els rBig (Hv w.heap.size None [some b1, some b6, some b72, some b63, some b1644, some b1719] w') cs2091 coefs2092 ∧ (List.length x57) = List.length coefs2092 ∧ (cs2091 ++ []).length = m56 * rBig.sz ∧ True) ⟨cs1593, _, (upds_sym ⟨rfl, ⟨rfl, ⟨rfl, ⟨rfl, ⟨rfl, ⟨rfl, ⟨rfl, ⟨rfl, ⟨rfl, ⟨rfl, ⟨rfl, ⟨rfl, trivial⟩⟩⟩⟩⟩⟩⟩⟩⟩⟩⟩⟩), hL2116, K2115, f2117, hl1597, hc1596, trivial⟩ ?_
        rintro ⟨coefs2092, x2098⟩ oo _ w2118 ⟨cs2091, u, rfl, hL2119, K2120, hE2093, hl2095, hc2094, -⟩ h hd2113
        rw [cApply_b2] at h
        refine Swp.seq ?_
        refine Swp.region rfl ?_
        refine Rl.op (OpY.lss (x := x2098) (y := (List.length x1701.Coefs : Int)) ((x2098 : Int) < (List.length x1701.Coefs : Int)) rfl rfl Iff.rfl ?_)
        refine Rl.nil ?_
        refine Swp.seq ?_
        refine Swp.cond_d ((x2098 : Int) < (List.length x1701.Coefs : Int)) rfl (fun hc2121 => ?_) (fun hc2121 => ?_)
        ·
         replace h := ite_t hc2121 h
         refine Swp.skip ?_
         refine Swp.seq ?_
         refine Swp.block ?_
         refine Swp.seq ?_
         refine Swp.region rfl ?_
         refine Rl.op (OpY.move (v := (Value.int .i64 x2098)) rfl ?_)
         obtain ⟨x2122, q2123, h⟩ := bind_some h
         obtain ⟨n2124, q2125, q2126⟩ := idx_some q2123
         have f2137 := (f1730.mono (K2120 S))
         obtain ⟨b2127, o2128, c2129, vs2130, q2131, q2132, f2133, q2134⟩ := Rs.get f2137 q2126
         obtain ⟨v2135, rfl, k2136, -⟩ := rBig_open q2134
         refine Rl.op (OpY.ixRoD (r := rBig) (v := v1714) (n := n2124) (m := (o2128 + n2124 * rBig.sz)) Try.underlying32 ti26 rfl q2131 rfl q2125 q2126 rfl ?_)
         refine Rl.op (OpY.ldRoA (vs := [(Value.bool x2122.Negative), v2135]) Try.underlying26 rfl ti26 rfl rfl vw_view f2133 ?_)
         refine Rl.op (OpY.alloc (cs := [(Value.bool false), (Value.slice none 0 0)]) ti26 rfl hL2119 ?_)
         intro b2138 w2139 (hL2140 : Go.X.Loc [] [] w w2139 [some b2138, some b1, some b6, some b72, some b63, some b1644, some b1719] [Cont.cells [(Value.bool false), (Value.slice none 0 0)], Cont.cells [s_v, (Value.bool s.Divisor.Negative), s_v1], Cont.cells [(Value.slice none 0 0), (Value.bool false), (Value.slice none 0 0)], Cont.cells [(osv (some b63) 0 (List.length x57) m56), (Value.bool negative1598), v1600], Cont.cells ([] ++ (cs2091 ++ [])), Cont.cells [(Value.int .i64 x1628.Index), (Value.bool x1628.N.Negative), v1641], Cont.cells [v1714, (Value.bool x1701.Bound.Negative), v1716]]) hS2142
         have K2141 := Keep.step (s := w.heap.size) hS2142
         refine Rl.op (OpY.assign (v := (Value.int .i64 x2098)) rfl ?_)
         have f2143 := (k2136.mono (K2141 S))
         refine Rl.op0 (OpY.store (vs := [(Value.bool x2122.Negative), v2135]) ti26 rfl rfl rfl rfl (ones_cons rfl (ones_cons f2143.one ones_nil)) hL2140 0 rfl rfl (Nat.le_of_ble_eq_true rfl) ?_)
         intro w2144 (hL2145 : Go.X.Loc [] [] w w2144 [some b2138, some b1, some b6, some b72, some b63, some b1644, some b1719] [Cont.cells [(Value.bool x2122.Negative), v2135], Cont.cells [s_v, (Value.bool s.Divisor.Negative), s_v1], Cont.cells [(Value.slice none 0 0), (Value.bool false), (Value.slice none 0 0)], Cont.cells [(osv (some b63) 0 (List.length x57) m56), (Value.bool negative1598), v1600], Cont.cells ([] ++ (cs2091 ++ [])), Cont.cells [(Value.int .i64 x1628.Index), (Value.bool x1628.N.Negative), v1641], Cont.cells [v1714, (Value.bool x1701.Bound.Negative), v1716]]) hS2147
         have K2146 := Keep.step (s := w.heap.size) hS2147
         refine Rl.nil ?_
         obtain ⟨x2148, q2149, h⟩ := bind_some h
         obtain ⟨n2150, q2151, q2152⟩ := idx_some q2149
         have q2153 := (List.getElem?_eq_some_iff.1 q2152).1
         have f2160 := ((hE2093.mono (K2141 None)).mono (K2146 None))
         obtain ⟨vs2156, q2157, q2158, q2159⟩ := row_elem (pre := []) (sp := []) f2160 q2152
         obtain ⟨v2154, rfl, k2155, -⟩ := rBig_open q2158
         obtain ⟨r2161, q2162, h⟩ := bind_some h
         obtain ⟨r2166, q2167, h⟩ := bind_some h
         refine Swp.drawL 13 [] [] (fun W1 => [.det (Value.pointer (some ⟨b72, 0, none⟩)), .det (osv (some b63) 0 (List.length x57) m56), .det (Value.int .i64 x2098), .det (Value.pointer (some ⟨b72, 0, none⟩)), .det (osv (some b63) 0 (List.length x57) m56), .det (Value.int .i64 x2098), .det (Value.pointer (some ⟨b63, (0 + n2150 * rBig.sz), none⟩)), .det (Value.agg #[(Value.bool x2148.Negative), v2154]), .det (Value.pointer (some ⟨b1644, 1, none⟩)), .det (Value.agg #[(Value.bool x1628.N.Negative), v1641]), .det (Value.agg #[(Value.bool x2122.Negative), v2135]), .rel (fun v Z w' => ∃ v2163, (Value.agg #[(Value.bool r2161.Negative), v2163]) = v ∧ Rs (rInt .u32) (Zv W1 w.heap.size None [some b2138, some b1, some b6, some b72, some b63, some b1644, some b1719] Z w') v2163 r2161.Digits ∧ True) (fun _ => []), .rel (fun v Z w' => ∃ v2168, (Value.agg #[(Value.bool r2166.Negative), v2168]) = v ∧ Rs (rInt .u32) (Zv W1 w.heap.size None [some b2138, some b1, some b6, some b72, some b63, some b1644, some b1719] Z w') v2168 r2166.Digits ∧ True) (fun _ => [])]) mixed rfl rfl rfl (fun _ => rfl) (fun _ => rfl) ?_ ?_
         ·
          intro W1 _
          exact ⟨fun v Z Z' w w' hΦ hz _ _ hs => by obtain ⟨v2163, rfl, k2164, -⟩ := hΦ; exact ⟨v2163, rfl, (k2164.mono (Zv.stay hz hs)), trivial⟩, ⟨fun v Z Z' w w' hΦ hz _ _ hs => by obtain ⟨v2168, rfl, k2169, -⟩ := hΦ; exact ⟨v2168, rfl, (k2169.mono (Zv.stay hz hs)), trivial⟩, trivial⟩⟩
         ·
          intro w2171 hE2172
          have hL2173 := hL2145.ext hE2172
          have K2174 := Keep.ext (s := w.heap.size) (O := [some b2138, some b1, some b6, some b72, some b63, some b1644, some b1719]) hE2172
          refine DrH.det ?_ ?_
          ·
           rintro w2175 Z2176 hE2177 hZ2178 ⟨-⟩
           refine GOp.op (OpY.fieldAddr (q := 0) Try.underlying34 rfl ti32 rfl rfl rfl ?_)
           exact ⟨Ext.refl _, rfl⟩
          refine DrH.det ?_ ?_
          ·
           rintro w2181 Z2182 hE2183 hZ2184 ⟨-⟩
           have hL2185 := hL2173.ext hE2183
           refine GOp.op (OpY.ldBox1 (v := (osv (some b63) 0 (List.length x57) m56)) Try.underlying32 rfl rfl (hL2185.at 3 rfl rfl) rfl ?_)
           exact ⟨Ext.refl _, rfl⟩
          refine DrH.det ?_ ?_
          ·
           rintro w2187 Z2188 hE2189 hZ2190 ⟨-⟩
           refine GOp.op (OpY.move (v := (Value.int .i64 x2098)) rfl ?_)
           exact ⟨Ext.refl _, rfl⟩
          refine DrH.det ?_ ?_
          ·
           rintro w2193 Z2194 hE2195 hZ2196 ⟨-⟩
           refine GOp.op (OpY.fieldAddr (q := 0) Try.underlying34 rfl ti32 rfl rfl rfl ?_)
           exact ⟨Ext.refl _, rfl⟩
          refine DrH.det ?_ ?_
          ·
           rintro w2199 Z2200 hE2201 hZ2202 ⟨-⟩
           have hL2203 := hL2173.ext hE2201
           refine GOp.op (OpY.ldBox1 (v := (osv (some b63) 0 (List.length x57) m56)) Try.underlying32 rfl rfl (hL2203.at 3 rfl rfl) rfl ?_)
           exact ⟨Ext.refl _, rfl⟩
          refine DrH.det ?_ ?_
          ·
           rintro w2205 Z2206 hE2207 hZ2208 ⟨-⟩
           refine GOp.op (OpY.move (v := (Value.int .i64 x2098)) rfl ?_)
           exact ⟨Ext.refl _, rfl⟩
          refine DrH.det ?_ ?_
          ·
           rintro w2211 Z2212 hE2213 hZ2214 ⟨-⟩
           refine GOp.op (OpY.ixRowD (r := rBig) (b := b63) (o := 0) (n := n2150) (m := (List.length x57)) (xs := coefs2092) (q := (0 + n2150 * rBig.sz)) Try.underlying32 ti26 rfl hl2095 rfl q2151 q2153 rfl ?_)
           exact ⟨Ext.refl _, rfl⟩
          refine DrH.det ?_ ?_
          ·
           rintro w2217 Z2218 hE2219 hZ2220 ⟨-⟩
           have hL2221 := hL2173.ext hE2219
           refine GOp.op (OpY.ldBoxA (vs := [(Value.bool x2148.Negative), v2154]) Try.underlying26 rfl ti26 rfl (hL2221.at 4 rfl rfl) rfl q2159 ?_)
           exact ⟨Ext.refl _, rfl⟩
          refine DrH.det ?_ ?_
          ·
           rintro w2223 Z2224 hE2225 hZ2226 ⟨-⟩
           refine GOp.op (OpY.fieldAddr (q := 1) Try.underlying50 rfl ti26 rfl rfl rfl ?_)
           exact ⟨Ext.refl _, rfl⟩
          refine DrH.det ?_ ?_
          ·
           rintro w2229 Z2230 hE2231 hZ2232 ⟨-⟩
           have hL2233 := hL2173.ext hE2231
           refine GOp.op (OpY.ldBoxA (vs := [(Value.bool x1628.N.Negative), v1641]) Try.underlying26 rfl ti26 rfl (hL2233.at 5 rfl rfl) rfl rfl ?_)
           exact ⟨Ext.refl _, rfl⟩
          refine DrH.det ?_ ?_
          ·
           rintro w2235 Z2236 hE2237 hZ2238 ⟨-⟩
           have hL2239 := hL2173.ext hE2237
           refine GOp.op (OpY.ldBoxA (vs := [(Value.bool x2122.Negative), v2135]) Try.underlying26 rfl ti26 rfl (hL2239.at 0 rfl rfl) rfl rfl ?_)
           exact ⟨Ext.refl _, rfl⟩
          refine DrH.rel ?_ ?_
          ·
           rintro w2241 Z2242 hE2243 hZ2244 ⟨-⟩
           have K2246 := Keep.ext (s := w.heap.size) (O := [some b2138, some b1, some b6, some b72, some b63, some b1644, some b1719]) hE2243
           refine GOp.op (OpY.call en47 rfl rfl (bMul_w N x1628.N x2122 v1641 v2135 _ Any ((((((((((f1649.mono (K1652 S)).mono (K1695 S)).mono (K1722 S)).mono (K1728 S)).mono (K2120 S)).mono (K2141 S)).mono (K2146 S)).mono (K2174 S)).mono (K2246 S)).mono vw_any) ((((f2143.mono (K2146 S)).mono (K2174 S)).mono (K2246 S)).mono vw_any) r2161 q2162) ?_)
           rintro _ w2247 hE2248 ⟨v2163, rfl, k2164, -⟩
           exact Made.ext hE2248 hZ2244 NewOwn.nil (fun _ h => h) ⟨v2163, rfl, (k2164.mono Zv.made), trivial⟩
          intro z11
          refine DrH.rel ?_ ?_
          ·
           rintro w2249 Z2250 hE2251 hZ2252 ⟨⟨⟨v2163, rfl, k2164, -⟩, hB11⟩, -⟩
           have K2254 := Keep.ext (s := w.heap.size) (O := [some b2138, some b1, some b6, some b72, some b63, some b1644, some b1719]) hE2251
           refine GOp.op (OpY.call en46 rfl rfl (bAdd_w N x2148 r2161 v2154 v2163 _ Any (((k2155.mono (K2174 None)).mono (K2254 None)).mono vw_any) (k2164.mono vw_any) r2166 q2167) ?_)
           rintro _ w2255 hE2256 ⟨v2168, rfl, k2169, -⟩
           exact Made.ext hE2256 hZ2252 NewOwn.nil (fun _ h => h) ⟨v2168, rfl, (k2169.mono Zv.made), trivial⟩
          intro z12
          refine DrH.fin0 ?_
          rintro w2257 Z2258 hE2259 hZ2260 ⟨⟨⟨v2168, rfl, k2169, -⟩, hB12⟩, ⟨⟨v2163, rfl, k2164, -⟩, hB11⟩, -⟩ ap2261
          have hB2262 : ∀ b, some b ∈ ([] : List (Option Nat)) → w2171.heap.size ≤ b ∧ ¬ Z2258 b := by
           intro b hb; cases hb
          replace k2169 := k2169.mono (Zv.fin hL2173 hZ2260 hB2262)
          replace k2164 := k2164.mono (Zv.fin hL2173 hZ2260 hB2262)
          have hL2263 := hL2173.ext hE2259
          have K2264 := Keep.ext (s := w.heap.size) (O := [some b2138, some b1, some b6, some b72, some b63, some b1644, some b1719]) hE2259
          obtain ⟨x2265, q2266, h⟩ := bind_some h
          obtain ⟨n2267, q2268, q2269⟩ := idx_some q2266
          have q2270 := (List.getElem?_eq_some_iff.1 q2269).1
          refine Rl.op (OpY.ixRowD (r := rBig) (b := b63) (o := 0) (n := n2267) (m := (List.length x57)) (xs := coefs2092) (q := (0 + n2267 * rBig.sz)) Try.underlying32 ti26 rfl hl2095 rfl q2268 q2270 rfl ?_)
          obtain ⟨x2271, q2272, h⟩ := bind_some h
          obtain ⟨n2273, q2274, q2275, q2276⟩ := upd1_some q2272
          obtain rfl := Int.ofNat_inj.1 (q2268.symm.trans q2274)
          have f2277 := ((f2160.mono (K2174 None)).mono (K2264 None))
          refine Rl.op0 (OpY.stRowX (pre := []) (r := rBig) (vs := [(Value.bool r2166.Negative), v2168]) (a := r2166) ti26 rfl rfl rfl (rBig_close ⟨v2168, rfl, k2169, trivial⟩) hL2263 4 rfl rfl f2277 q2270 rfl q2276 ?_)
          have hl2285 : (List.length x57) = List.length x2271 := by rw [q2276, List.length_set]; exact hl2095
          intro w2278 cs2282 (hL2279 : Go.X.Loc [] [] w w2278 [some b2138, some b1, some b6, some b72, some b63, some b1644, some b1719] [Cont.cells [(Value.bool x2122.Negative), v2135], Cont.cells [s_v, (Value.bool s.Divisor.Negative), s_v1], Cont.cells [(Value.slice none 0 0), (Value.bool false), (Value.slice none 0 0)], Cont.cells [(osv (some b63) 0 (List.length x57) m56), (Value.bool negative1598), v1600], Cont.cells ([] ++ (cs2282 ++ [])), Cont.cells [(Value.int .i64 x1628.Index), (Value.bool x1628.N.Negative), v1641], Cont.cells [v1714, (Value.bool x1701.Bound.Negative), v1716]]) hS2281 hE2283 q2284
          have hc2286 : (cs2282 ++ []).length = m56 * rBig.sz := by have := hc2094; rw [List.length_append] at this ⊢; rw [q2284]; exact this
          have K2280 := Keep.step (s := w.heap.size) hS2281
          refine Rl.nil ?_
          refine Swp.pop_blk ?_
          refine Swp.region rfl ?_
          refine Rl.op (OpY.add (x := x2098) (y := 1) (z := (iw (x2098 + 1))) rfl rfl rfl ?_)
          refine Rl.op (OpY.move (v := (Value.int .i64 (iw (x2098 + 1)))) rfl ?_)
          refine Rl.nil ?_
          have hp2287 := hL2279.pick [1, 2, 3, 4, 5, 6] rfl rfl rfl
          have hL2289 : Go.X.Loc [] [] w w2278 [some b1, some b6, some b72, some b63, some b1644, some b1719] [Cont.cells [s_v, (Value.bool s.Divisor.Negative), s_v1], Cont.cells [(Value.slice none 0 0), (Value.bool false), (Value.slice none 0 0)], Cont.cells [(osv (some b63) 0 (List.length x57) m56), (Value.bool negative1598), v1600], Cont.cells ([] ++ (cs2282 ++ [])), Cont.cells [(Value.int .i64 x1628.Index), (Value.bool x1628.N.Negative), v1641], Cont.cells [v1714, (Value.bool x1701.Bound.Negative), v1716]] := hp2287.1
          have K2288 := Keep.step (s := w.heap.size) hp2287.2
          have f2290 := ((hE2283.mono (K2280 None)).mono (K2288 None))
          obtain rfl := Option.some.inj h
          refine Swp.pop_back ⟨(x2271, (iw (x2098 + 1))), rfl, ?_⟩
          exact ⟨cs2282, _, (upds_sym ⟨rfl, ⟨rfl, ⟨rfl, ⟨rfl, ⟨rfl, ⟨rfl, ⟨rfl, ⟨rfl, ⟨rfl, ⟨rfl, ⟨rfl, ⟨rfl, trivial⟩⟩⟩⟩⟩⟩⟩⟩⟩⟩⟩⟩), hL2289, (Keep.trans (Keep.trans (Keep.trans (Keep.trans (Keep.trans (Keep.trans K2120 K2141) K2146) K2174) K2264) K2280) K2288), f2290, hl2285, hc2286, trivial⟩
        ·
         replace h := ite_f hc2121 h
         refine Swp.exit rfl ?_
         obtain rfl := Option.some.inj h
         obtain rfl := hd2113 _ rfl
         replace h := g2111
         try dsimp only at h
         skip
         refine Swp.pop_back ?_
         exact ⟨coefs2092, cs2091, _, rfl, (upds_sym ⟨rfl, ⟨rfl, ⟨rfl, ⟨rfl, ⟨rfl, ⟨rfl, ⟨rfl, ⟨rfl, ⟨rfl, trivial⟩⟩⟩⟩⟩⟩⟩⟩⟩), hL2119, K2120, hE2093, hl2095, hc2094, trivial⟩
       ·
        rintro _ w2291 ⟨coefs2104, cs2103, u, rfl, rfl, hL2292, K2293, hE2105, hl2107, hc2106, -⟩
        replace h := g2111
        try dsimp only at h
        obtain ⟨r2294, q2295, h⟩ := bind_some h
        refine Swp.drawL 7 [] [] (fun W1 => [.det (Value.pointer (some ⟨b72, 1, none⟩)), .det (Value.agg #[(Value.bool negative1598), v1600]), .det (Value.pointer (some ⟨b1644, 1, none⟩)), .det (Value.agg #[(Value.bool x1628.N.Negative), v1641]), .det (Value.pointer (some ⟨b1719, 1, none⟩)), .det (Value.agg #[(Value.bool x1701.Bound.Negative), v1716]), .rel (fun v Z w' => ∃ v2296, (Value.agg #[(Value.bool r2294.Negative), v2296]) = v ∧ Rs (rInt .u32) (Zv W1 w.heap.size None [some b1, some b6, some b72, some b63, some b1644, some b1719] Z w') v2296 r2294.Digits ∧ True) (fun _ => [])]) mixed rfl rfl rfl (fun _ => rfl) (fun _ => rfl) ?_ ?_
        ·
         intro W1 _
         exact ⟨fun v Z Z' w w' hΦ hz _ _ hs => by obtain ⟨v2296, rfl, k2297, -⟩ := hΦ; exact ⟨v2296, rfl, (k2297.mono (Zv.stay hz hs)), trivial⟩, trivial⟩
        ·
         intro w2299 hE2300
         have hL2301 := hL2292.ext hE2300
         have K2302 := Keep.ext (s := w.heap.size) (O := [some b1, some b6, some b72, some b63, some b1644, some b1719]) hE2300
         refine DrH.det ?_ ?_
         ·
          rintro w2303 Z2304 hE2305 hZ2306 ⟨-⟩
          refine GOp.op (OpY.fieldAddr (q := 1) Try.underlying34 rfl ti26 rfl rfl rfl ?_)
          exact ⟨Ext.refl _, rfl⟩
         refine DrH.det ?_ ?_
         ·
          rintro w2309 Z2310 hE2311 hZ2312 ⟨-⟩
          have hL2313 := hL2301.ext hE2311
          refine GOp.op (OpY.ldBoxA (vs := [(Value.bool negative1598), v1600]) Try.underlying26 rfl ti26 rfl (hL2313.at 2 rfl rfl) rfl rfl ?_)
          exact ⟨Ext.refl _, rfl⟩
         refine DrH.det ?_ ?_
         ·
          rintro w2315 Z2316 hE2317 hZ2318 ⟨-⟩
          refine GOp.op (OpY.fieldAddr (q := 1) Try.underlying50 rfl ti26 rfl rfl rfl ?_)
          exact ⟨Ext.refl _, rfl⟩
         refine DrH.det ?_ ?_
         ·
          rintro w2321 Z2322 hE2323 hZ2324 ⟨-⟩
          have hL2325 := hL2301.ext hE2323
          refine GOp.op (OpY.ldBoxA (vs := [(Value.bool x1628.N.Negative), v1641]) Try.underlying26 rfl ti26 rfl (hL2325.at 4 rfl rfl) rfl rfl ?_)
          exact ⟨Ext.refl _, rfl⟩
         refine DrH.det ?_ ?_
         ·
          rintro w2327 Z2328 hE2329 hZ2330 ⟨-⟩
          refine GOp.op (OpY.fieldAddr (q := 1) Try.underlying34 rfl ti26 rfl rfl rfl ?_)
          exact ⟨Ext.refl _, rfl⟩
         refine DrH.det ?_ ?_
         ·
          rintro w2333 Z2334 hE2335 hZ2336 ⟨-⟩
          have hL2337 := hL2301.ext hE2335
          refine GOp.op (OpY.ldBoxA (vs := [(Value.bool x1701.Bound.Negative), v1716]) Try.underlying26 rfl ti26 rfl (hL2337.at 5 rfl rfl) rfl rfl ?_)
          exact ⟨Ext.refl _, rfl⟩
         refine DrH.rel ?_ ?_
         ·
          rintro w2339 Z2340 hE2341 hZ2342 ⟨-⟩
          have K2344 := Keep.ext (s := w.heap.size) (O := [some b1, some b6, some b72, some b63, some b1644, some b1719]) hE2341
          refine GOp.op (OpY.call en47 rfl rfl (bMul_w N x1628.N x1701.Bound v1641 v1716 _ Any ((((((((f1649.mono (K1652 S)).mono (K1695 S)).mono (K1722 S)).mono (K1728 S)).mono (K2293 S)).mono (K2302 S)).mono (K2344 S)).mono vw_any) (((((f1724.mono (K1728 S)).mono (K2293 S)).mono (K2302 S)).mono (K2344 S)).mono vw_any) r2294 q2295) ?_)
          rintro _ w2345 hE2346 ⟨v2296, rfl, k2297, -⟩
          exact Made.ext hE2346 hZ2342 NewOwn.nil (fun _ h => h) ⟨v2296, rfl, (k2297.mono Zv.made), trivial⟩
         intro z6
         refine DrH.fin0 ?_
         rintro w2347 Z2348 hE2349 hZ2350 ⟨⟨⟨v2296, rfl, k2297, -⟩, hB6⟩, -⟩ ap2351
         have hB2352 : ∀ b, some b ∈ ([] : List (Option Nat)) → w2299.heap.size ≤ b ∧ ¬ Z2348 b := by
          intro b hb; cases hb
         replace k2297 := k2297.mono (Zv.fin hL2301 hZ2350 hB2352)
         have hL2353 := hL2301.ext hE2349
         have K2354 := Keep.ext (s := w.heap.size) (O := [some b1, some b6, some b72, some b63, some b1644, some b1719]) hE2349
         obtain ⟨r2355, q2356, h⟩ := bind_some h
         have f2360 := ((((((((k1601.mono (K1647 None)).mono (K1652 None)).mono (K1695 None)).mono (K1722 None)).mono (K1728 None)).mono (K2293 None)).mono (K2302 None)).mono (K2354 None))
         refine Rl.op (OpY.call en46 rfl rfl (bAdd_w N (Big.mk negative1598 digits1599) r2294 v1600 v2296 _ Any (f2360.mono vw_any) (k2297.mono vw_any) r2355 q2356) ?_)
         rintro _ w2361 hE2364 ⟨v2357, rfl, k2358, -⟩
         replace k2358 := k2358.mono (Hv.freshO (S := None) hL2353 [])
         have hL2362 := hL2353.ext hE2364
         have K2363 := Keep.ext (s := w.heap.size) (O := [some b1, some b6, some b72, some b63, some b1644, some b1719]) hE2364
         refine Rl.op (OpY.fieldAddr (q := 1) Try.underlying34 rfl ti26 rfl rfl rfl ?_)
         refine Rl.op0 (OpY.store (vs := [(Value.bool r2355.Negative), v2357]) ti26 rfl rfl rfl rfl (ones_cons rfl (ones_cons k2358.one ones_nil)) hL2362 2 rfl rfl (Nat.le_of_ble_eq_true rfl) ?_)
         intro w2365 (hL2366 : Go.X.Loc [] [] w w2365 [some b1, some b6, some b72, some b63, some b1644, some b1719] [Cont.cells [s_v, (Value.bool s.Divisor.Negative), s_v1], Cont.cells [(Value.slice none 0 0), (Value.bool false), (Value.slice none 0 0)], Cont.cells [(osv (some b63) 0 (List.length x57) m56), (Value.bool r2355.Negative), v2357], Cont.cells ([] ++ (cs2103 ++ [])), Cont.cells [(Value.int .i64 x1628.Index), (Value.bool x1628.N.Negative), v1641], Cont.cells [v1714, (Value.bool x1701.Bound.Negative), v1716]]) hS2368
         have K2367 := Keep.step (s := w.heap.size) hS2368
         refine Rl.nil ?_
         refine Swp.pop_blk ?_
         refine Swp.region rfl ?_
         refine Rl.op (OpY.add (x := x1602) (y := 1) (z := (iw (x1602 + 1))) rfl rfl rfl ?_)
         refine Rl.op (OpY.move (v := (Value.int .i64 (iw (x1602 + 1)))) rfl ?_)
         refine Rl.nil ?_
         have hp2369 := hL2366.pick [0, 1, 2, 3] rfl rfl rfl
         have hL2371 : Go.X.Loc [] [] w w2365 [some b1, some b6, some b72, some b63] [Cont.cells [s_v, (Value.bool s.Divisor.Negative), s_v1], Cont.cells [(Value.slice none 0 0), (Value.bool false), (Value.slice none 0 0)], Cont.cells [(osv (some b63) 0 (List.length x57) m56), (Value.bool r2355.Negative), v2357], Cont.cells ([] ++ (cs2103 ++ []))] := hp2369.1
         have K2370 := Keep.step (s := w.heap.size) hp2369.2
         have f2372 := (((((hE2105.mono (K2302 None)).mono (K2354 None)).mono (K2363 None)).mono (K2367 None)).mono (K2370 None))
         have f2373 := ((k2358.mono (K2367 None)).mono (K2370 None))
         obtain rfl := Option.some.inj h
         refine Swp.pop_back ⟨(coefs2104, r2355.Negative, r2355.Digits, (iw (x1602 + 1))), rfl, ?_⟩
         exact ⟨cs2103, v2357, _, (upds_sym ⟨rfl, ⟨rfl, ⟨rfl, ⟨rfl, ⟨rfl, ⟨rfl, ⟨rfl, trivial⟩⟩⟩⟩⟩⟩⟩), hL2371, (Keep.trans (Keep.trans (Keep.trans (Keep.trans (Keep.trans (Keep.trans (Keep.trans (Keep.trans (Keep.trans (Keep.trans (Keep.trans K1626 K1647) K1652) K1695) K1722) K1728) K2293) K2302) K2354) K2363) K2367) K2370), f2372, hl2107, hc2106, f2373, trivial⟩
    ·
     replace h := ite_f hc1627 h
     refine Swp.exit rfl ?_
     obtain rfl := Option.some.inj h
     obtain rfl := hd1619 _ rfl
     replace h := g1617
     try dsimp only at h
     skip
     refine Swp.pop_back ?_
     exact ⟨coefs1594, negative1598, digits1599, cs1593, v1600, _, rfl, (upds_sym ⟨rfl, ⟨rfl, ⟨rfl, trivial⟩⟩⟩), hL1625, K1626, hE1595, hl1597, hc1596, k1601, trivial⟩
   ·
    rintro _ w2374 ⟨coefs1608, negative1612, digits1613, cs1607, v1614, u, rfl, rfl, hL2375, K2376, hE1609, hl1611, hc1610, k1615, -⟩
    replace h := g1617
    try dsimp only at h
    refine Swp.seq ?_
    refine Swp.seq ?_
    refine Swp.region rfl ?_
    refine Rl.op (OpY.fieldAddr (q := 0) Try.underlying34 rfl ti32 rfl rfl rfl ?_)
    refine Rl.op (OpY.ldBox1 (v := (osv (some b63) 0 (List.length x57) m56)) Try.underlying32 rfl rfl (hL2375.at 2 rfl rfl) rfl ?_)
    refine Rl.op (OpY.lenRow (pre := []) (r := rBig) (xs := coefs1608) Try.underlying32 rfl (hL2375.at 3 rfl rfl) hE1609 rfl hl1611 ?_)
    refine Rl.op (OpY.move (v := (Value.int .i64 0)) rfl ?_)
    refine Rl.nil ?_
    obtain ⟨s2601, hl2603, g2602⟩ := bind_some h
    refine Swp.join (fun e w' => ∃ (coefs2597 : (List Big)) (cs2596 : List Value) (u : Env), (Sum.inl coefs2597) = s2601 ∧ e = upds [(3, (Value.pointer (some ⟨b1, 0, none⟩))), (4, (Value.pointer (some ⟨b6, 0, none⟩))), (8, (Value.pointer (some ⟨b72, 0, none⟩)))] u ∧ Go.X.Loc [] [] w w' [some b1, some b6, some b72, some b63] [Cont.cells [s_v, (Value.bool s.Divisor.Negative), s_v1], Cont.cells [(Value.slice none 0 0), (Value.bool false), (Value.slice none 0 0)], Cont.cells [(osv (some b63) 0 (List.length x57) m56), (Value.bool negative1612), v1614], Cont.cells ([] ++ (cs2596 ++ []))] ∧ Keep w.heap.size [some b1, some b6, some b72, some b63] w2374 [some b1, some b6, some b72, some b63] w' ∧ Els rBig (Hv w.heap.size None [some b1, some b6, some b72, some b63] w') cs2596 coefs2597 ∧ (List.length x57) = List.length coefs2597 ∧ (cs2596 ++ []).length = m56 * rBig.sz ∧ True) ?_ ?_
    ·
     refine Swp.block ?_
     refine Swp.loopM hl2603 (fun (ss : ((List Big) × Int)) (e : Env) (w' : World) => match ss with | (coefs2587, x2591) => ∃ (cs2586 : List Value) (u : Env), e = upds [(3, (Value.pointer (some ⟨b1, 0, none⟩))), (4, (Value.pointer (some ⟨b6, 0, none⟩))), (8, (Value.pointer (some ⟨b72, 0, none⟩))), (99, (osv (some b63) 0 (List.length x57) m56)), (100, (Value.int .i64 (List.length coefs1608 : Int))), (101, (Value.int .i64 x2591))] u ∧ Go.X.Loc [] [] w w' [some b1, some b6, some b72, some b63] [Cont.cells [s_v, (Value.bool s.Divisor.Negative), s_v1], Cont.cells [(Value.slice none 0 0), (Value.bool false), (Value.slice none 0 0)], Cont.cells [(osv (some b63) 0 (List.length x57) m56), (Value.bool negative1612), v1614], Cont.cells ([] ++ (cs2586 ++ []))] ∧ Keep w.heap.size [some b1, some b6, some b72, some b63] w2374 [some b1, some b6, some b72, some b63] w' ∧ Els rBig (Hv w.heap.size None [some b1, some b6, some b72, some b63] w') cs2586 coefs2587 ∧ (List.length x57) = List.length coefs2587 ∧ (cs2586 ++ []).length = m56 * rBig.sz ∧ True) ⟨cs1607, _, (upds_sym ⟨rfl, ⟨rfl, ⟨rfl, ⟨rfl, ⟨rfl, ⟨rfl, trivial⟩⟩⟩⟩⟩⟩), hL2375, Keep.refl, hE1609, hl1611, hc1610, trivial⟩ ?_
     rintro ⟨coefs2587, x2591⟩ oo _ w2605 ⟨cs2586, u, rfl, hL2606, K2607, hE2588, hl2590, hc2589, -⟩ h hd2604
     rw [cApply_b3] at h
     refine Swp.seq ?_
     refine Swp.region rfl ?_
     refine Rl.op (OpY.lss (x := x2591) (y := (List.length coefs1608 : Int)) ((x2591 : Int) < (List.length coefs1608 : Int)) rfl rfl Iff.rfl ?_)
     refine Rl.nil ?_
     refine Swp.seq ?_
     refine Swp.cond_d ((x2591 : Int) < (List.length coefs1608 : Int)) rfl (fun hc2608 => ?_) (fun hc2608 => ?_)
     ·
      replace h := ite_t hc2608 h
      refine Swp.skip ?_
      refine Swp.seq ?_
      refine Swp.block ?_
      refine Swp.seq ?_
      refine Swp.region rfl ?_
      refine Rl.op (OpY.move (v := (Value.int .i64 x2591)) rfl ?_)
      obtain ⟨x2609, q2610, h⟩ := bind_some h
      obtain ⟨n2611, q2612, q2613⟩ := idx_some q2610
      have q2614 := (List.getElem?_eq_some_iff.1 q2613).1
      refine Rl.op (OpY.ixRowD (r := rBig) (b := b63) (o := 0) (n := n2611) (m := (List.length x57)) (xs := coefs2587) (q := (0 + n2611 * rBig.sz)) Try.underlying32 ti26 rfl hl2590 rfl q2612 q2614 rfl ?_)
      obtain ⟨vs2617, q2618, q2619, q2620⟩ := row_elem (pre := []) (sp := []) hE2588 q2613
      obtain ⟨v2615, rfl, k2616, -⟩ := rBig_open q2619
      refine Rl.op (OpY.ldBoxA (vs := [(Value.bool x2609.Negative), v2615]) Try.underlying26 rfl ti26 rfl (hL2606.at 3 rfl rfl) rfl q2620 ?_)
      refine Rl.op (OpY.alloc (cs := [(Value.bool false), (Value.slice none 0 0)]) ti26 rfl hL2606 ?_)
      intro b2621 w2622 (hL2623 : Go.X.Loc [] [] w w2622 [some b2621, some b1, some b6, some b72, some b63] [Cont.cells [(Value.bool false), (Value.slice none 0 0)], Cont.cells [s_v, (Value.bool s.Divisor.Negative), s_v1], Cont.cells [(Value.slice none 0 0), (Value.bool false), (Value.slice none 0 0)], Cont.cells [(osv (some b63) 0 (List.length x57) m56), (Value.bool negative1612), v1614], Cont.cells ([] ++ (cs2586 ++ []))]) hS2625
      have K2624 := Keep.step (s := w.heap.size) hS2625
      refine Rl.op (OpY.assign (v := (Value.int .i64 x2591)) rfl ?_)
      have f2626 := (k2616.mono (K2624 None))
      refine Rl.op0 (OpY.store (vs := [(Value.bool x2609.Negative), v2615]) ti26 rfl rfl rfl rfl (ones_cons rfl (ones_cons f2626.one ones_nil)) hL2623 0 rfl rfl (Nat.le_of_ble_eq_true rfl) ?_)
      intro w2627 (hL2628 : Go.X.Loc [] [] w w2627 [some b2621, some b1, some b6, some b72, some b63] [Cont.cells [(Value.bool x2609.Negative), v2615], Cont.cells [s_v, (Value.bool s.Divisor.Negative), s_v1], Cont.cells [(Value.slice none 0 0), (Value.bool false), (Value.slice none 0 0)], Cont.cells [(osv (some b63) 0 (List.length x57) m56), (Value.bool negative1612), v1614], Cont.cells ([] ++ (cs2586 ++ []))]) hS2630
      have K2629 := Keep.step (s := w.heap.size) hS2630
      refine Rl.nil ?_
      refine Swp.seq ?_
      refine Swp.region rfl ?_
      refine Rl.op (OpY.ldBoxA (vs := [(Value.bool x2609.Negative), v2615]) Try.underlying26 rfl ti26 rfl (hL2628.at 0 rfl rfl) rfl rfl ?_)
      refine Rl.op (OpY.fieldAddr (q := 1) Try.underlying28 rfl ti26 rfl rfl rfl ?_)
      refine Rl.op (OpY.ldBoxA (vs := [(Value.bool s.Divisor.Negative), s_v1]) Try.underlying26 rfl ti26 rfl (hL2628.at 1 rfl rfl) rfl rfl ?_)
      obtain ⟨r2631, q2632, h⟩ := bind_some h
      have f2638 := (f2626.mono (K2629 None))
      have f2639 := (((((((((((s_h1.mono (K4 S)).mono (K9 S)).mono (K17 S)).mono (K50 S)).mono (K70 S)).mono (K75 S)).mono (K79 S)).mono (K2376 S)).mono (K2607 S)).mono (K2624 S)).mono (K2629 S))
      refine Rl.op (OpY.call en48 rfl rfl (bDivFloor_w N x2609 s.Divisor v2615 s_v1 _ Any (f2638.mono vw_any) (f2639.mono vw_any) r2631 q2632) ?_)
      rintro _ w2640 hE2643 ⟨v2633, v2635, rfl, k2634, k2636, -⟩
      replace k2634 := k2634.mono (Hv.freshO (S := None) hL2628 [])
      replace k2636 := k2636.mono (Hv.freshO (S := None) hL2628 [])
      have hL2641 := hL2628.ext hE2643
      have K2642 := Keep.ext (s := w.heap.size) (O := [some b2621, some b1, some b6, some b72, some b63]) hE2643
      refine Rl.op (OpY.move (v := (Value.tuple #[(Value.agg #[(Value.bool r2631.1.Negative), v2633]), (Value.agg #[(Value.bool r2631.2.1.Negative), v2635]), (Value.bool r2631.2.2)])) rfl ?_)
      refine Rl.op (OpY.extract (vs := [(Value.agg #[(Value.bool r2631.1.Negative), v2633]), (Value.agg #[(Value.bool r2631.2.1.Negative), v2635]), (Value.bool r2631.2.2)]) (v := (Value.agg #[(Value.bool r2631.1.Negative), v2633])) rfl rfl ?_)
      refine Rl.op (OpY.extract (vs := [(Value.agg #[(Value.bool r2631.1.Negative), v2633]), (Value.agg #[(Value.bool r2631.2.1.Negative), v2635]), (Value.bool r2631.2.2)]) (v := (Value.agg #[(Value.bool r2631.2.1.Negative), v2635])) rfl rfl ?_)
      refine Rl.op (OpY.extract (vs := [(Value.agg #[(Value.bool r2631.1.Negative), v2633]), (Value.agg #[(Value.bool r2631.2.1.Negative), v2635]), (Value.bool r2631.2.2)]) (v := (Value.bool r2631.2.2)) rfl rfl ?_)
      refine Rl.op (OpY.alloc (cs := [(Value.bool false), (Value.slice none 0 0)]) ti26 rfl hL2641 ?_)
      intro b2644 w2645 (hL2646 : Go.X.Loc [] [] w w2645 [some b2644, some b2621, some b1, some b6, some b72, some b63] [Cont.cells [(Value.bool false), (Value.slice none 0 0)], Cont.cells [(Value.bool x2609.Negative), v2615], Cont.cells [s_v, (Value.bool s.Divisor.Negative), s_v1], Cont.cells [(Value.slice none 0 0), (Value.bool false), (Value.slice none 0 0)], Cont.cells [(osv (some b63) 0 (List.length x57) m56), (Value.bool negative1612), v1614], Cont.cells ([] ++ (cs2586 ++ []))]) hS2648
      have K2647 := Keep.step (s := w.heap.size) hS2648
      refine Rl.op (OpY.alloc (cs := [(Value.bool false), (Value.slice none 0 0)]) ti26 rfl hL2646 ?_)
      intro b2649 w2650 (hL2651 : Go.X.Loc [] [] w w2650 [some b2649, some b2644, some b2621, some b1, some b6, some b72, some b63] [Cont.cells [(Value.bool false), (Value.slice none 0 0)], Cont.cells [(Value.bool false), (Value.slice none 0 0)], Cont.cells [(Value.bool x2609.Negative), v2615], Cont.cells [s_v, (Value.bool s.Divisor.Negative), s_v1], Cont.cells [(Value.slice none 0 0), (Value.bool false), (Value.slice none 0 0)], Cont.cells [(osv (some b63) 0 (List.length x57) m56), (Value.bool negative1612), v1614], Cont.cells ([] ++ (cs2586 ++ []))]) hS2653
      have K2652 := Keep.step (s := w.heap.size) hS2653
      have f2654 := ((k2634.mono (K2647 None)).mono (K2652 None))
      refine Rl.op0 (OpY.store (vs := [(Value.bool r2631.1.Negative), v2633]) ti26 rfl rfl rfl rfl (ones_cons rfl (ones_cons f2654.one ones_nil)) hL2651 1 rfl rfl (Nat.le_of_ble_eq_true rfl) ?_)
      intro w2655 (hL2656 : Go.X.Loc [] [] w w2655 [some b2649, some b2644, some b2621, some b1, some b6, some b72, some b63] [Cont.cells [(Value.bool false), (Value.slice none 0 0)], Cont.cells [(Value.bool r2631.1.Negative), v2633], Cont.cells [(Value.bool x2609.Negative), v2615], Cont.cells [s_v, (Value.bool s.Divisor.Negative), s_v1], Cont.cells [(Value.slice none 0 0), (Value.bool false), (Value.slice none 0 0)], Cont.cells [(osv (some b63) 0 (List.length x57) m56), (Value.bool negative1612), v1614], Cont.cells ([] ++ (cs2586 ++ []))]) hS2658
      have K2657 := Keep.step (s := w.heap.size) hS2658
      have f2659 := (((k2636.mono (K2647 None)).mono (K2652 None)).mono (K2657 None))
      refine Rl.op0 (OpY.store (vs := [(Value.bool r2631.2.1.Negative), v2635]) ti26 rfl rfl rfl rfl (ones_cons rfl (ones_cons f2659.one ones_nil)) hL2656 0 rfl rfl (Nat.le_of_ble_eq_true rfl) ?_)
      intro w2660 (hL2661 : Go.X.Loc [] [] w w2660 [some b2649, some b2644, some b2621, some b1, some b6, some b72, some b63] [Cont.cells [(Value.bool r2631.2.1.Negative), v2635], Cont.cells [(Value.bool r2631.1.Negative), v2633], Cont.cells [(Value.bool x2609.Negative), v2615], Cont.cells [s_v, (Value.bool s.Divisor.Negative), s_v1], Cont.cells [(Value.slice none 0 0), (Value.bool false), (Value.slice none 0 0)], Cont.cells [(osv (some b63) 0 (List.length x57) m56), (Value.bool negative1612), v1614], Cont.cells ([] ++ (cs2586 ++ []))]) hS2663
      have K2662 := Keep.step (s := w.heap.size) hS2663
      refine Rl.op (OpY.assign (v := (Value.bool r2631.2.2)) rfl ?_)
      refine Rl.nil ?_
      refine Swp.seq ?_
      refine Swp.seq ?_
      refine Swp.region rfl ?_
      refine Rl.op (OpY.ldBoxA (vs := [(Value.bool r2631.2.1.Negative), v2635]) Try.underlying26 rfl ti26 rfl (hL2661.at 0 rfl rfl) rfl rfl ?_)
      obtain ⟨r2664, q2665, h⟩ := bind_some h
      have f2667 := (f2659.mono (K2662 None))
      refine Rl.op (OpY.call en45 rfl rfl (bSign_w N r2631.2.1 v2635 _ Any (f2667.mono vw_any) r2664 q2665) ?_)
      rintro _ w2668 hE2671 ⟨rfl, -⟩
      have hL2669 := hL2661.ext hE2671
      have K2670 := Keep.ext (s := w.heap.size) (O := [some b2649, some b2644, some b2621, some b1, some b6, some b72, some b63]) hE2671
      refine Rl.op (OpY.neq (x := r2664) (y := 0) ((r2664 : Int) ≠ 0) rfl rfl Iff.rfl ?_)
      refine Rl.nil ?_
      refine Swp.cond_d ((r2664 : Int) ≠ 0) rfl (fun hc2672 => ?_) (fun hc2672 => ?_)
      ·
       replace h := ite_t hc2672 h
       refine Swp.seq ?_
       refine Swp.region rfl ?_
       refine Rl.op (OpY.build (zc := [(Value.slice none 0 0), (Value.bool false), (Value.slice none 0 0)]) (cs := [(Value.slice none 0 0), (Value.bool false), (Value.slice none 0 0)]) (is := []) (vs := []) (css := []) pl34 ti34 rfl rfl rfl trivial rfl ?_)
       refine Rl.op0 (OpY.store (vs := [(Value.slice none 0 0), (Value.bool false), (Value.slice none 0 0)]) ti34 rfl rfl rfl rfl (ones_cons rfl (ones_cons rfl (ones_cons rfl ones_nil))) hL2669 4 rfl rfl (Nat.le_of_ble_eq_true rfl) ?_)
       intro w2673 (hL2674 : Go.X.Loc [] [] w w2673 [some b2649, some b2644, some b2621, some b1, some b6, some b72, some b63] [Cont.cells [(Value.bool r2631.2.1.Negative), v2635], Cont.cells [(Value.bool r2631.1.Negative), v2633], Cont.cells [(Value.bool x2609.Negative), v2615], Cont.cells [s_v, (Value.bool s.Divisor.Negative), s_v1], Cont.cells [(Value.slice none 0 0), (Value.bool false), (Value.slice none 0 0)], Cont.cells [(osv (some b63) 0 (List.length x57) m56), (Value.bool negative1612), v1614], Cont.cells ([] ++ (cs2586 ++ []))]) hS2676
       refine Rl.op (OpY.assign (v := (Value.bool false)) rfl ?_)
       refine Rl.nil ?_
       refine Swp.ret ?_
       obtain rfl := Option.some.inj h
       obtain rfl := hd2604 _ rfl
       replace h := g2602
       try dsimp only at h
       obtain rfl := Option.some.inj h
       refine ⟨[(Value.agg #[(Value.slice none 0 0), (Value.bool false), (Value.slice none 0 0)]), (Value.bool false)], ⟨⟨⟨b6, 0, none⟩, rfl, res_boxA Try.underlying34 rfl ti34 (hL2674.at 4 rfl rfl) rfl⟩, ⟨rfl, trivial⟩⟩, ⟨_, rfl, hL2674.done, ?_⟩⟩
       exact ⟨(Value.slice none 0 0), (Value.slice none 0 0), rfl, Rs.nil, Rs.nil, trivial⟩
      ·
       replace h := ite_f hc2672 h
       refine Swp.skip ?_
       refine Swp.region rfl ?_
       refine Rl.op (OpY.fieldAddr (q := 0) Try.underlying34 rfl ti32 rfl rfl rfl ?_)
       refine Rl.op (OpY.ldBox1 (v := (osv (some b63) 0 (List.length x57) m56)) Try.underlying32 rfl rfl (hL2669.at 5 rfl rfl) rfl ?_)
       refine Rl.op (OpY.move (v := (Value.int .i64 x2591)) rfl ?_)
       refine Rl.op (OpY.ldBoxA (vs := [(Value.bool r2631.1.Negative), v2633]) Try.underlying26 rfl ti26 rfl (hL2669.at 1 rfl rfl) rfl rfl ?_)
       obtain ⟨x2677, q2678, h⟩ := bind_some h
       obtain ⟨n2679, q2680, q2681⟩ := idx_some q2678
       have q2682 := (List.getElem?_eq_some_iff.1 q2681).1
       refine Rl.op (OpY.ixRowD (r := rBig) (b := b63) (o := 0) (n := n2679) (m := (List.length x57)) (xs := coefs2587) (q := (0 + n2679 * rBig.sz)) Try.underlying32 ti26 rfl hl2590 rfl q2680 q2682 rfl ?_)
       obtain ⟨x2683, q2684, h⟩ := bind_some h
       obtain ⟨n2685, q2686, q2687, q2688⟩ := upd1_some q2684
       obtain rfl := Int.ofNat_inj.1 (q2680.symm.trans q2686)
       have f2689 := ((((((((hE2588.mono (K2624 None)).mono (K2629 None)).mono (K2642 None)).mono (K2647 None)).mono (K2652 None)).mono (K2657 None)).mono (K2662 None)).mono (K2670 None))
       have f2690 := (((f2654.mono (K2657 None)).mono (K2662 None)).mono (K2670 None))
       refine Rl.op0 (OpY.stRowX (pre := []) (r := rBig) (vs := [(Value.bool r2631.1.Negative), v2633]) (a := r2631.1) ti26 rfl rfl rfl (rBig_close ⟨v2633, rfl, f2690, trivial⟩) hL2669 6 rfl rfl f2689 q2682 rfl q2688 ?_)
       have hl2698 : (List.length x57) = List.length x2683 := by rw [q2688, List.length_set]; exact hl2590
       intro w2691 cs2695 (hL2692 : Go.X.Loc [] [] w w2691 [some b2649, some b2644, some b2621, some b1, some b6, some b72, some b63] [Cont.cells [(Value.bool r2631.2.1.Negative), v2635], Cont.cells [(Value.bool r2631.1.Negative), v2633], Cont.cells [(Value.bool x2609.Negative), v2615], Cont.cells [s_v, (Value.bool s.Divisor.Negative), s_v1], Cont.cells [(Value.slice none 0 0), (Value.bool false), (Value.slice none 0 0)], Cont.cells [(osv (some b63) 0 (List.length x57) m56), (Value.bool negative1612), v1614], Cont.cells ([] ++ (cs2695 ++ []))]) hS2694 hE2696 q2697
       have hc2699 : (cs2695 ++ []).length = m56 * rBig.sz := by have := hc2589; rw [List.length_append] at this ⊢; rw [q2697]; exact this
       have K2693 := Keep.step (s := w.heap.size) hS2694
       refine Rl.nil ?_
       refine Swp.pop_blk ?_
       refine Swp.region rfl ?_
       refine Rl.op (OpY.add (x := x2591) (y := 1) (z := (iw (x2591 + 1))) rfl rfl rfl ?_)
       refine Rl.op (OpY.move (v := (Value.int .i64 (iw (x2591 + 1)))) rfl ?_)
       refine Rl.nil ?_
       have hp2700 := hL2692.pick [3, 4, 5, 6] rfl rfl rfl
       have hL2702 : Go.X.Loc [] [] w w2691 [some b1, some b6, some b72, some b63] [Cont.cells [s_v, (Value.bool s.Divisor.Negative), s_v1], Cont.cells [(Value.slice none 0 0), (Value.bool false), (Value.slice none 0 0)], Cont.cells [(osv (some b63) 0 (List.length x57) m56), (Value.bool negative1612), v1614], Cont.cells ([] ++ (cs2695 ++ []))] := hp2700.1
       have K2701 := Keep.step (s := w.heap.size) hp2700.2
       have f2703 := ((hE2696.mono (K2693 None)).mono (K2701 None))
       obtain rfl := Option.some.inj h
       refine Swp.pop_back ⟨(x2683, (iw (x2591 + 1))), rfl, ?_⟩
       exact ⟨cs2695, _, (upds_sym ⟨rfl, ⟨rfl, ⟨rfl, ⟨rfl, ⟨rfl, ⟨rfl, trivial⟩⟩⟩⟩⟩⟩), hL2702, (Keep.trans (Keep.trans (Keep.trans (Keep.trans (Keep.trans (Keep.trans (Keep.trans (Keep.trans (Keep.trans (Keep.trans K2607 K2624) K2629) K2642) K2647) K2652) K2657) K2662) K2670) K2693) K2701), f2703, hl2698, hc2699, trivial⟩
     ·
      replace h := ite_f hc2608 h
      refine Swp.exit rfl ?_
      obtain rfl := Option.some.inj h
      obtain rfl := hd2604 _ rfl
      replace h := g2602
      try dsimp only at h
      skip
      refine Swp.pop_back ?_
      exact ⟨coefs2587, cs2586, _, rfl, (upds_sym ⟨rfl, ⟨rfl, ⟨rfl, trivial⟩⟩⟩), hL2606, K2607, hE2588, hl2590, hc2589, trivial⟩
    ·
     rintro _ w2704 ⟨coefs2597, cs2596, u, rfl, rfl, hL2705, K2706, hE2598, hl2600, hc2599, -⟩
     replace h := g2602
     try dsimp only at h
     refine Swp.seq ?_
     refine Swp.region rfl ?_
     refine Rl.op (OpY.fieldAddr (q := 1) Try.underlying34 rfl ti26 rfl rfl rfl ?_)
     refine Rl.op (OpY.ldBoxA (vs := [(Value.bool negative1612), v1614]) Try.underlying26 rfl ti26 rfl (hL2705.at 2 rfl rfl) rfl rfl ?_)
     refine Rl.op (OpY.fieldAddr (q := 1) Try.underlying28 rfl ti26 rfl rfl rfl ?_)
     refine Rl.op (OpY.ldBoxA (vs := [(Value.bool s.Divisor.Negative), s_v1]) Try.underlying26 rfl ti26 rfl (hL2705.at 0 rfl rfl) rfl rfl ?_)
     obtain ⟨r2707, q2708, h⟩ := bind_some h
     have f2714 := (k1615.mono (K2706 None))
     have f2715 := (((((((((s_h1.mono (K4 S)).mono (K9 S)).mono (K17 S)).mono (K50 S)).mono (K70 S)).mono (K75 S)).mono (K79 S)).mono (K2376 S)).mono (K2706 S))
     refine Rl.op (OpY.call en48 rfl rfl (bDivFloor_w N (Big.mk negative1612 digits1613) s.Divisor v1614 s_v1 _ Any (f2714.mono vw_any) (f2715.mono vw_any) r2707 q2708) ?_)
     rintro _ w2716 hE2719 ⟨v2709, v2711, rfl, k2710, k2712, -⟩
     replace k2710 := k2710.mono (Hv.freshO (S := None) hL2705 [])
     replace k2712 := k2712.mono (Hv.freshO (S := None) hL2705 [])
     have hL2717 := hL2705.ext hE2719
     have K2718 := Keep.ext (s := w.heap.size) (O := [some b1, some b6, some b72, some b63]) hE2719
     refine Rl.op (OpY.move (v := (Value.tuple #[(Value.agg #[(Value.bool r2707.1.Negative), v2709]), (Value.agg #[(Value.bool r2707.2.1.Negative), v2711]), (Value.bool r2707.2.2)])) rfl ?_)
     refine Rl.op (OpY.extract (vs := [(Value.agg #[(Value.bool r2707.1.Negative), v2709]), (Value.agg #[(Value.bool r2707.2.1.Negative), v2711]), (Value.bool r2707.2.2)]) (v := (Value.agg #[(Value.bool r2707.1.Negative), v2709])) rfl rfl ?_)
     refine Rl.op (OpY.extract (vs := [(Value.agg #[(Value.bool r2707.1.Negative), v2709]), (Value.agg #[(Value.bool r2707.2.1.Negative), v2711]), (Value.bool r2707.2.2)]) (v := (Value.agg #[(Value.bool r2707.2.1.Negative), v2711])) rfl rfl ?_)
     refine Rl.op (OpY.extract (vs := [(Value.agg #[(Value.bool r2707.1.Negative), v2709]), (Value.agg #[(Value.bool r2707.2.1.Negative), v2711]), (Value.bool r2707.2.2)]) (v := (Value.bool r2707.2.2)) rfl rfl ?_)
     refine Rl.op (OpY.fieldAddr (q := 1) Try.underlying34 rfl ti26 rfl rfl rfl ?_)
     refine Rl.op0 (OpY.store (vs := [(Value.bool r2707.1.Negative), v2709]) ti26 rfl rfl rfl rfl (ones_cons rfl (ones_cons k2710.one ones_nil)) hL2717 2 rfl rfl (Nat.le_of_ble_eq_true rfl) ?_)
     intro w2720 (hL2721 : Go.X.Loc [] [] w w2720 [some b1, some b6, some b72, some b63] [Cont.cells [s_v, (Value.bool s.Divisor.Negative), s_v1], Cont.cells [(Value.slice none 0 0), (Value.bool false), (Value.slice none 0 0)], Cont.cells [(osv (some b63) 0 (List.length x57) m56), (Value.bool r2707.1.Negative), v2709], Cont.cells ([] ++ (cs2596 ++ []))]) hS2723
     have K2722 := Keep.step (s := w.heap.size) hS2723
     refine Rl.nil ?_
     refine Swp.seq ?_
     refine Swp.region rfl ?_
     refine Rl.op (OpY.ldBoxA (vs := [(osv (some b63) 0 (List.length x57) m56), (Value.bool r2707.1.Negative), v2709]) Try.underlying34 rfl ti34 rfl (hL2721.at 2 rfl rfl) rfl rfl ?_)
     have f2724 := (k2710.mono (K2722 None))
     refine Rl.op0 (OpY.store (vs := [(osv (some b63) 0 (List.length x57) m56), (Value.bool r2707.1.Negative), v2709]) ti34 rfl rfl rfl rfl (ones_cons (osv_one _ _ _ _) (ones_cons rfl (ones_cons f2724.one ones_nil))) hL2721 1 rfl rfl (Nat.le_of_ble_eq_true rfl) ?_)
     intro w2725 (hL2726 : Go.X.Loc [] [] w w2725 [some b1, some b6, some b72, some b63] [Cont.cells [s_v, (Value.bool s.Divisor.Negative), s_v1], Cont.cells [(osv (some b63) 0 (List.length x57) m56), (Value.bool r2707.1.Negative), v2709], Cont.cells [(osv (some b63) 0 (List.length x57) m56), (Value.bool r2707.1.Negative), v2709], Cont.cells ([] ++ (cs2596 ++ []))]) hS2728
     have K2727 := Keep.step (s := w.heap.size) hS2728
     refine Rl.op (OpY.assign (v := (Value.bool true)) rfl ?_)
     refine Rl.nil ?_
     have f2730 := (((hE2598.mono (K2718 None)).mono (K2722 None)).mono (K2727 None))
     have f2729 := hL2726.freezeRow 3 rfl rfl f2730 rfl rfl hl2600 hc2599
     have hp2731 := hL2726.pick [0, 1, 2] rfl rfl rfl
     have hL2733 : Go.X.Loc [] [] w w2725 [some b1, some b6, some b72] [Cont.cells [s_v, (Value.bool s.Divisor.Negative), s_v1], Cont.cells [(osv (some b63) 0 (List.length x57) m56), (Value.bool r2707.1.Negative), v2709], Cont.cells [(osv (some b63) 0 (List.length x57) m56), (Value.bool r2707.1.Negative), v2709]] := hp2731.1
     have K2732 := Keep.step (s := w.heap.size) hp2731.2
     refine Swp.ret ?_
     obtain rfl := Option.some.inj h
     refine ⟨[(Value.agg #[(osv (some b63) 0 (List.length x57) m56), (Value.bool r2707.1.Negative), v2709]), (Value.bool true)], ⟨⟨⟨b6, 0, none⟩, rfl, res_boxA Try.underlying34 rfl ti34 (hL2733.at 1 rfl rfl) rfl⟩, ⟨rfl, trivial⟩⟩, ⟨_, rfl, hL2733.done, ?_⟩⟩
     have f2734 := ((f2724.mono (K2727 None)).mono (K2732 None))
     exact ⟨(osv (some b63) 0 (List.length x57) m56), v2709, rfl, (f2729.mono Hv.out), (f2734.mono Hv.out), trivial⟩
theorem cContradictory_w (N : Nat) (q : Ineq) (q_v : Value) (q_v1 : Value) (w : World) (S : Nat → Prop) (q_h : Rs rBig (Hv w.heap.size S [] w) q_v q.Coefs) (q_h1 : Rs (rInt .u32) (Hv w.heap.size S [] w) q_v1 q.Bound.Digits) (r : Bool) (h : cContradictory N q = some r) :
  Calls Try.prog 29 #[(Value.agg #[q_v, (Value.bool q.Bound.Negative), q_v1])] w (Ret w (fun v w' => (Value.bool r) = v ∧ True)) := by
 unfold cContradictory at h
 have hL : Go.X.Loc [] [] w w [] [] := Go.X.Loc.begin0 w
 refine calls_of (l := [(Value.agg #[q_v, (Value.bool q.Bound.Negative), q_v1])]) (rl := [.tmp 2]) (n := 20) Try.func29 rfl rfl rfl (Nat.le_of_ble_eq_true rfl) ?_
 refine Swp.seq ?_
 refine Swp.region rfl ?_
 refine Rl.op (OpY.box (cs := [q_v, (Value.bool q.Bound.Negative), q_v1]) rfl rfl hL ?_)
 intro b1 w2 (hL3 : Go.X.Loc [] [] w w2 [some b1] [Cont.cells [q_v, (Value.bool q.Bound.Negative), q_v1]]) hS5
 have K4 := Keep.step (s := w.heap.size) hS5
 refine Rl.op (OpY.assign (v := (Value.bool false)) rfl ?_)
 refine Rl.nil ?_
 refine Swp.seq ?_
 refine Swp.seq ?_
 refine Swp.region rfl ?_
 refine Rl.op (OpY.fieldAddr (q := 0) Try.underlying34 rfl ti32 rfl rfl rfl ?_)
 refine Rl.op (OpY.ldBox1 (v := q_v) Try.underlying32 rfl rfl (hL3.at 0 rfl rfl) rfl ?_)
 have f6 := (q_h.mono (K4 S))
 refine Rl.op (OpY.lenRo (v := q_v) Try.underlying32 rfl f6 ?_)
 refine Rl.op (OpY.move (v := (Value.int .i64 0)) rfl ?_)
 refine Rl.nil ?_
 obtain ⟨s91, hl93, g92⟩ := bind_some h
 refine Swp.join (fun e w' => ∃  (u : Env), (Sum.inl ()) = s91 ∧ e = upds [(1, (Value.pointer (some ⟨b1, 0, none⟩)))] u ∧ Go.X.Loc [] [] w w' [some b1] [Cont.cells [q_v, (Value.bool q.Bound.Negative), q_v1]] ∧ Keep w.heap.size [some b1] w2 [some b1] w' ∧ True) ?_ ?_
 ·
  refine Swp.block ?_
  refine Swp.loopM hl93 (fun (ss : Int) (e : Env) (w' : World) => match ss with | x89 => ∃ (u : Env), e = upds [(1, (Value.pointer (some ⟨b1, 0, none⟩))), (6, q_v), (7, (Value.int .i64 (List.length q.Coefs : Int))), (8, (Value.int .i64 x89))] u ∧ Go.X.Loc [] [] w w' [some b1] [Cont.cells [q_v, (Value.bool q.Bound.Negative), q_v1]] ∧ Keep w.heap.size [some b1] w2 [some b1] w' ∧ True) ⟨_, (upds_sym ⟨rfl, ⟨rfl, ⟨rfl, ⟨rfl, trivial⟩⟩⟩⟩), hL3, Keep.refl, trivial⟩ ?_
  rintro x89 oo _ w95 ⟨u, rfl, hL96, K97, -⟩ h hd94
  rw [cContradictory_b1] at h
  refine Swp.seq ?_
  refine Swp.region rfl ?_
  refine Rl.op (OpY.lss (x := x89) (y := (List.length q.Coefs : Int)) ((x89 : Int) < (List.length q.Coefs : Int)) rfl rfl Iff.rfl ?_)
  refine Rl.nil ?_
  refine Swp.seq ?_
  refine Swp.cond_d ((x89 : Int) < (List.length q.Coefs : Int)) rfl (fun hc98 => ?_) (fun hc98 => ?_)
  ·
   replace h := ite_t hc98 h
   refine Swp.skip ?_
   refine Swp.seq ?_
   refine Swp.block ?_
   refine Swp.seq ?_
   refine Swp.region rfl ?_
   obtain ⟨x99, q100, h⟩ := bind_some h
   obtain ⟨n101, q102, q103⟩ := idx_some q100
   have f114 := (f6.mono (K97 S))
   obtain ⟨b104, o105, c106, vs107, q108, q109, f110, q111⟩ := Rs.get f114 q103
   obtain ⟨v112, rfl, k113, -⟩ := rBig_open q111
   refine Rl.op (OpY.ixRoD (r := rBig) (v := q_v) (n := n101) (m := (o105 + n101 * rBig.sz)) Try.underlying32 ti26 rfl q108 rfl q102 q103 rfl ?_)
   refine Rl.op (OpY.ldRoA (vs := [(Value.bool x99.Negative), v112]) Try.underlying26 rfl ti26 rfl rfl vw_view f110 ?_)
   refine Rl.op (OpY.alloc (cs := [(Value.bool false), (Value.slice none 0 0)]) ti26 rfl hL96 ?_)
   intro b115 w116 (hL117 : Go.X.Loc [] [] w w116 [some b115, some b1] [Cont.cells [(Value.bool false), (Value.slice none 0 0)], Cont.cells [q_v, (Value.bool q.Bound.Negative), q_v1]]) hS119
   have K118 := Keep.step (s := w.heap.size) hS119
   have f120 := (k113.mono (K118 S))
   refine Rl.op0 (OpY.store (vs := [(Value.bool x99.Negative), v112]) ti26 rfl rfl rfl rfl (ones_cons rfl (ones_cons f120.one ones_nil)) hL117 0 rfl rfl (Nat.le_of_ble_eq_true rfl) ?_)
   intro w121 (hL122 : Go.X.Loc [] [] w w121 [some b115, some b1] [Cont.cells [(Value.bool x99.Negative), v112], Cont.cells [q_v, (Value.bool q.Bound.Negative), q_v1]]) hS124
   have K123 := Keep.step (s := w.heap.size) hS124
   refine Rl.nil ?_
   refine Swp.seq ?_
   refine Swp.region rfl ?_
   refine Rl.op (OpY.ldBoxA (vs := [(Value.bool x99.Negative), v112]) Try.underlying26 rfl ti26 rfl (hL122.at 0 rfl rfl) rfl rfl ?_)
   obtain ⟨r125, q126, h⟩ := bind_some h
   have f128 := (f120.mono (K123 S))
   refine Rl.op (OpY.call en45 rfl rfl (bSign_w N x99 v112 _ Any (f128.mono vw_any) r125 q126) ?_)
   rintro _ w129 hE132 ⟨rfl, -⟩
   have hL130 := hL122.ext hE132
   have K131 := Keep.ext (s := w.heap.size) (O := [some b115, some b1]) hE132
   refine Rl.op (OpY.neq (x := r125) (y := 0) ((r125 : Int) ≠ 0) rfl rfl Iff.rfl ?_)
   refine Rl.nil ?_
   refine Swp.cond_d ((r125 : Int) ≠ 0) rfl (fun hc133 => ?_) (fun hc133 => ?_)
   ·
    replace h := ite_t hc133 h
    refine Swp.seq ?_
    refine Swp.region rfl ?_
    refine Rl.op (OpY.assign (v := (Value.bool false)) rfl ?_)
    refine Rl.nil ?_
    refine Swp.ret ?_
    obtain rfl := Option.some.inj h
    obtain rfl := hd94 _ rfl
    replace h := g92
    try dsimp only at h
    obtain rfl := Option.some.inj h
    refine ⟨[(Value.bool false)], ⟨rfl, trivial⟩, ⟨_, rfl, hL130.done, ?_⟩⟩
    exact ⟨rfl, trivial⟩
   ·
    replace h := ite_f hc133 h
    refine Swp.skip ?_
    refine Swp.pop_blk ?_
    refine Swp.region rfl ?_
    refine Rl.op (OpY.add (x := x89) (y := 1) (z := (iw (x89 + 1))) rfl rfl rfl ?_)
    refine Rl.op (OpY.move (v := (Value.int .i64 (iw (x89 + 1)))) rfl ?_)
    refine Rl.nil ?_
    have hp134 := hL130.pick [1] rfl rfl rfl
    have hL136 : Go.X.Loc [] [] w w129 [some b1] [Cont.cells [q_v, (Value.bool q.Bound.Negative), q_v1]] := hp134.1
    have K135 := Keep.step (s := w.heap.size) hp134.2
    obtain rfl := Option.some.inj h
    refine Swp.pop_back ⟨(iw (x89 + 1)), rfl, ?_⟩
    exact ⟨_, (upds_sym ⟨rfl, ⟨rfl, ⟨rfl, ⟨rfl, trivial⟩⟩⟩⟩), hL136, (Keep.trans (Keep.trans (Keep.trans (Keep.trans K97 K118) K123) K131) K135), trivial⟩
  ·
   replace h := ite_f hc98 h
   refine Swp.exit rfl ?_
   obtain rfl := Option.some.inj h
   obtain rfl := hd94 _ rfl
   replace h := g92
   try dsimp only at h
   skip
   refine Swp.pop_back ?_
   exact ⟨_, rfl, (upds_sym ⟨rfl, trivial⟩), hL96, K97, trivial⟩
 ·
  rintro _ w137 ⟨u, rfl, rfl, hL138, K139, -⟩
  replace h := g92
  try dsimp only at h
  refine Swp.seq ?_
  refine Swp.region rfl ?_
  refine Rl.op (OpY.fieldAddr (q := 1) Try.underlying34 rfl ti26 rfl rfl rfl ?_)
  refine Rl.op (OpY.ldBoxA (vs := [(Value.bool q.Bound.Negative), q_v1]) Try.underlying26 rfl ti26 rfl (hL138.at 0 rfl rfl) rfl rfl ?_)
  obtain ⟨r140, q141, h⟩ := bind_some h
  have f143 := ((q_h1.mono (K4 S)).mono (K139 S))
  refine Rl.op (OpY.call en45 rfl rfl (bSign_w N q.Bound q_v1 _ Any (f143.mono vw_any) r140 q141) ?_)
  rintro _ w144 hE147 ⟨rfl, -⟩
  have hL145 := hL138.ext hE147
  refine Rl.op (OpY.lss (x := r140) (y := 0) ((r140 : Int) < 0) rfl rfl Iff.rfl ?_)
  refine Rl.op (OpY.assign (v := (Value.bool (decide ((r140 : Int) < 0)))) rfl ?_)
  refine Rl.nil ?_
  refine Swp.ret ?_
  obtain rfl := Option.some.inj h
  refine ⟨[(Value.bool (decide ((r140 : Int) < 0)))], ⟨rfl, trivial⟩, ⟨_, rfl, hL145.done, ?_⟩⟩
  exact ⟨rfl, trivial⟩
theorem cCheck_w (N : Nat) : ∀ (l : (List Ineq)) (p : Proof) (l_v : Value) (p_v : Value) (p_v1 : Value) (p_v2 : Value) (p_v3 : Value) (w : World) (S : Nat → Prop) (l_h : Rs rIneq (Hv w.heap.size S [] w) l_v l) (p_h : Rs rStep (Hv w.heap.size S [] w) p_v p.Steps) (p_h1 : Rs rBig (Hv w.heap.size S [] w) p_v1 p.Form) (p_h2 : Rs (rInt .u32) (Hv w.heap.size S [] w) p_v2 p.Bound.Digits) (p_h3 : Rs rProof (Hv w.heap.size S [] w) p_v3 p.Children) (r : Bool) (h : cCheck N l p = some r), Calls Try.prog 18 #[l_v, (Value.agg #[p_v, p_v1, (Value.bool p.Bound.Negative), p_v2, p_v3])] w (Ret w (fun v w' => (Value.bool r) = v ∧ True)) := by
 induction N with
 | zero => intro l p l_v p_v p_v1 p_v2 p_v3 w S l_h p_h p_h1 p_h2 p_h3 r h; cases (show (none : Option Bool) = some r from h)
 | succ N ih =>
  intro l p l_v p_v p_v1 p_v2 p_v3 w S l_h p_h p_h1 p_h2 p_h3 r h
  replace h : cCheck_step N (cCheck N) l p = some r := h
  unfold cCheck_step at h
  have hL : Go.X.Loc [] [] w w [] [] := Go.X.Loc.begin0 w
  refine calls_of (l := [l_v, (Value.agg #[p_v, p_v1, (Value.bool p.Bound.Negative), p_v2, p_v3])]) (rl := [.tmp 4]) (n := 104) Try.func18 rfl rfl rfl (Nat.le_of_ble_eq_true rfl) ?_
  refine Swp.seq ?_
  refine Swp.region rfl ?_
  refine Rl.op (OpY.box (cs := [p_v, p_v1, (Value.bool p.Bound.Negative), p_v2, p_v3]) rfl rfl hL ?_)
  intro b1 w2 (hL3 : Go.X.Loc [] [] w w2 [some b1] [Cont.cells [p_v, p_v1, (Value.bool p.Bound.Negative), p_v2, p_v3]]) hS5
  have K4 := Keep.step (s := w.heap.size) hS5
  refine Rl.op (OpY.assign (v := (Value.bool false)) rfl ?_)
  refine Rl.nil ?_
  refine Swp.seq ?_
  refine Swp.seq ?_
  refine Swp.region rfl ?_
  refine Rl.op (OpY.move (v := l_v) rfl ?_)
  obtain ⟨r6, q7, h⟩ := bind_some h
  have f9 := (l_h.mono (K4 S))
  refine Rl.op (OpY.call en44 rfl rfl (cwidth_w N l l_v _ Any (f9.mono vw_any) r6 q7) ?_)
  rintro _ w10 hE13 ⟨rfl, -⟩
  have hL11 := hL3.ext hE13
  have K12 := Keep.ext (s := w.heap.size) (O := [some b1]) hE13
  refine Rl.op (OpY.move (v := (Value.tuple #[(Value.int .i64 r6.1), (Value.bool r6.2)])) rfl ?_)
  refine Rl.op (OpY.extract (vs := [(Value.int .i64 r6.1), (Value.bool r6.2)]) (v := (Value.int .i64 r6.1)) rfl rfl ?_)
  refine Rl.op (OpY.extract (vs := [(Value.int .i64 r6.1), (Value.bool r6.2)]) (v := (Value.bool r6.2)) rfl rfl ?_)
  refine Rl.op (OpY.assign (v := (Value.int .i64 r6.1)) rfl ?_)
  refine Rl.op (OpY.assign (v := (Value.bool r6.2)) rfl ?_)
  refine Rl.nil ?_
  refine Swp.seq ?_
  refine Swp.region rfl ?_
  refine Rl.op (OpY.move (v := (Value.bool r6.2)) rfl ?_)
  refine Rl.op (OpY.not (x := r6.2) rfl ?_)
  refine Rl.nil ?_
  refine Swp.cond_b (!r6.2) rfl (fun hc14 => ?_) (fun hc14 => ?_)
  ·
   replace h := ite_t hc14 h
   refine Swp.seq ?_
   refine Swp.region rfl ?_
   refine Rl.op (OpY.assign (v := (Value.bool false)) rfl ?_)
   refine Rl.nil ?_
   refine Swp.ret ?_
   obtain rfl := Option.some.inj h
   refine ⟨[(Value.bool false)], ⟨rfl, trivial⟩, ⟨_, rfl, hL11.done, ?_⟩⟩
   exact ⟨rfl, trivial⟩
  ·
   replace h := ite_f hc14 h
   refine Swp.skip ?_
   refine Swp.seq ?_
   refine Swp.region rfl ?_
   refine Rl.op (OpY.move (v := l_v) rfl ?_)
   obtain ⟨r15, q16, h⟩ := bind_some h
   have f25 := (f9.mono (K12 S))
   refine Rl.op (OpY.call en53 rfl rfl (cloneIneq_w N l l_v _ _ (f25.mono Hv.enter) r15 q16) ?_)
   rintro _ w26 hE29 ⟨ob17, cap18, cs19, sp20, rfl, hN24, hE21, hc22, -⟩
   replace hE21 := hE21.mono (Hv.aliasO (S := S) hL11 [ob17])
   have hp30 := hL11.adoptL hE29 hN24
   have hL27 : Go.X.Loc [] [] w w26 [ob17, some b1] [Cont.cells ([] ++ (cs19 ++ sp20)), Cont.cells [p_v, p_v1, (Value.bool p.Bound.Negative), p_v2, p_v3]] := hp30.1
   have K28 := Keep.step (s := w.heap.size) hp30.2
   refine Rl.op (OpY.assign (v := (osv ob17 0 (List.length r15) cap18)) rfl ?_)
   refine Rl.nil ?_
   refine Swp.seq ?_
   refine Swp.seq ?_
   refine Swp.region rfl ?_
   refine Rl.op (OpY.fieldAddr (q := 0) Try.underlying42 rfl ti39 rfl rfl rfl ?_)
   refine Rl.op (OpY.ldBox1 (v := p_v) Try.underlying39 rfl rfl (hL27.at 1 rfl rfl) rfl ?_)
   have f31 := (((p_h.mono (K4 S)).mono (K12 S)).mono (K28 S))
   refine Rl.op (OpY.lenRo (v := p_v) Try.underlying39 rfl f31 ?_)
   refine Rl.op (OpY.move (v := (Value.int .i64 0)) rfl ?_)
   refine Rl.nil ?_
   obtain ⟨s240, hl242, g241⟩ := bind_some h
   refine Swp.join (fun e w' => ∃ (e236 : (List Ineq)) (ob232 : Option Nat) (cap233 : Nat) (sp234 : List Value) (cs235 : List Value) (ln239 : Nat) (u : Env), (Sum.inl e236) = s240 ∧ e = upds [(3, (Value.pointer (some ⟨b1, 0, none⟩))), (7, (osv ob232 0 ln239 cap233))] u ∧ Go.X.Loc [] [] w w' [some b1, ob232] [Cont.cells [p_v, p_v1, (Value.bool p.Bound.Negative), p_v2, p_v3], Cont.cells ([] ++ (cs235 ++ sp234))] ∧ Keep w.heap.size [ob17, some b1] w26 [some b1, ob232] w' ∧ Els rIneq (Hv w.heap.size S [some b1, ob232] w') cs235 e236 ∧ ln239 = List.length e236 ∧ (cs235 ++ sp234).length = cap233 * rIneq.sz ∧ True) ?_ ?_
   ·
    refine Swp.block ?_
    have hp244 := hL27.pick [1, 0] rfl rfl rfl
    have hL246 : Go.X.Loc [] [] w w26 [some b1, ob17] [Cont.cells [p_v, p_v1, (Value.bool p.Bound.Negative), p_v2, p_v3], Cont.cells ([] ++ (cs19 ++ sp20))] := hp244.1
    have K245 := Keep.step (s := w.heap.size) hp244.2
    have f247 := (hE21.mono (K245 S))
    refine Swp.loopM hl242 (fun (ss : ((List Ineq) × Int)) (e : Env) (w' : World) => match ss with | (e225, x229) => ∃ (ob221 : Option Nat) (cap222 : Nat) (sp223 : List Value) (cs224 : List Value) (ln228 : Nat) (u : Env), e = upds [(3, (Value.pointer (some ⟨b1, 0, none⟩))), (7, (osv ob221 0 ln228 cap222)), (26, p_v), (27, (Value.int .i64 (List.length p.Steps : Int))), (28, (Value.int .i64 x229))] u ∧ Go.X.Loc [] [] w w' [some b1, ob221] [Cont.cells [p_v, p_v1, (Value.bool p.Bound.Negative), p_v2, p_v3], Cont.cells ([] ++ (cs224 ++ sp223))] ∧ Keep w.heap.size [ob17, some b1] w26 [some b1, ob221] w' ∧ Els rIneq (Hv w.heap.size S [some b1, ob221] w') cs224 e225 ∧ ln228 = List.length e225 ∧ (cs224 ++ sp223).length = cap222 * rIneq.sz ∧ True) ⟨ob17, cap18, sp20, cs19, (List.length r15), _, (upds_sym ⟨rfl, ⟨rfl, ⟨rfl, ⟨rfl, ⟨rfl, trivial⟩⟩⟩⟩⟩), hL246, K245, f247, rfl, hc22, trivial⟩ ?_
    rintro ⟨e225, x229⟩ oo _ w248 ⟨ob221, cap222, sp223, cs224, ln228, u, rfl, hL249, K250, hE226, rfl, hc227, -⟩ h hd243
    rw [cCheck_b1] at h
    refine Swp.seq ?_
    refine Swp.region rfl ?_
    refine Rl.op (OpY.lss (x := x229) (y := (List.length p.Steps : Int)) ((x229 : Int) < (List.length p.Steps : Int)) rfl rfl Iff.rfl ?_)
    refine Rl.nil ?_
    refine Swp.seq ?_
    refine Swp.cond_d ((x229 : Int) < (List.length p.Steps : Int)) rfl (fun hc251 => ?_) (fun hc251 => ?_)
    ·
     replace h := ite_t hc251 h
     refine Swp.skip ?_
     refine Swp.seq ?_
     refine Swp.block ?_
     refine Swp.seq ?_
     refine Swp.region rfl ?_
     obtain ⟨x252, q253, h⟩ := bind_some h
     obtain ⟨n254, q255, q256⟩ := idx_some q253
     have f269 := (f31.mono (K250 S))
     obtain ⟨b257, o258, c259, vs260, q261, q262, f263, q264⟩ := Rs.get f269 q256
     obtain ⟨v265, v267, rfl, k266, k268, -⟩ := rStep_open q264
     refine Rl.op (OpY.ixRoD (r := rStep) (v := p_v) (n := n254) (m := (o258 + n254 * rStep.sz)) Try.underlying39 ti28 rfl q261 rfl q255 q256 rfl ?_)
     refine Rl.op (OpY.ldRoA (vs := [v265, (Value.bool x252.Divisor.Negative), v267]) Try.underlying28 rfl ti28 rfl rfl vw_view f263 ?_)
     refine Rl.op (OpY.alloc (cs := [(Value.slice none 0 0), (Value.bool false), (Value.slice none 0 0)]) ti28 rfl hL249 ?_)
     intro b270 w271 (hL272 : Go.X.Loc [] [] w w271 [some b270, some b1, ob221] [Cont.cells [(Value.slice none 0 0), (Value.bool false), (Value.slice none 0 0)], Cont.cells [p_v, p_v1, (Value.bool p.Bound.Negative), p_v2, p_v3], Cont.cells ([] ++ (cs224 ++ sp223))]) hS274
     have K273 := Keep.step (s := w.heap.size) hS274
     have f275 := (k268.mono (K273 S))
     have f276 := (k266.mono (K273 S))
     refine Rl.op0 (OpY.store (vs := [v265, (Value.bool x252.Divisor.Negative), v267]) ti28 rfl rfl rfl rfl (ones_cons f276.one (ones_cons rfl (ones_cons f275.one ones_nil))) hL272 0 rfl rfl (Nat.le_of_ble_eq_true rfl) ?_)
     intro w277 (hL278 : Go.X.Loc [] [] w w277 [some b270, some b1, ob221] [Cont.cells [v265, (Value.bool x252.Divisor.Negative), v267], Cont.cells [p_v, p_v1, (Value.bool p.Bound.Negative), p_v2, p_v3], Cont.cells ([] ++ (cs224 ++ sp223))]) hS280
     have K279 := Keep.step (s := w.heap.size) hS280
     refine Rl.nil ?_
     refine Swp.seq ?_
     refine Swp.region rfl ?_
     refine Rl.op (OpY.move (v := (osv ob221 0 (List.length e225) cap222)) rfl ?_)
     refine Rl.op (OpY.ldBoxA (vs := [v265, (Value.bool x252.Divisor.Negative), v267]) Try.underlying28 rfl ti28 rfl (hL278.at 0 rfl rfl) rfl rfl ?_)
     obtain ⟨r281, q282, h⟩ := bind_some h
     have f288 := ((hE226.mono (K273 S)).mono (K279 S))
     have f289 := (f276.mono (K279 S))
     have f290 := (f275.mono (K279 S))
     refine Rl.op (OpY.call en14 rfl rfl (cApply_w N e225 x252 (osv ob221 0 (List.length e225) cap222) v265 v267 _ Any (own_row_any (pre := []) (o := 0) (n := (List.length e225)) (cap := cap222) (hL278.at 2 rfl rfl) f288 vw_any rfl rfl rfl hc227) (f289.mono vw_any) (f290.mono vw_any) r281 q282) ?_)
     rintro _ w291 hE294 ⟨v283, v285, rfl, k284, k286, -⟩
     replace k284 := k284.mono (Hv.freshO (S := None) hL278 [])
     replace k286 := k286.mono (Hv.freshO (S := None) hL278 [])
     have hL292 := hL278.ext hE294
     have K293 := Keep.ext (s := w.heap.size) (O := [some b270, some b1, ob221]) hE294
     refine Rl.op (OpY.move (v := (Value.tuple #[(Value.agg #[v283, (Value.bool r281.1.Bound.Negative), v285]), (Value.bool r281.2)])) rfl ?_)
     refine Rl.op (OpY.extract (vs := [(Value.agg #[v283, (Value.bool r281.1.Bound.Negative), v285]), (Value.bool r281.2)]) (v := (Value.agg #[v283, (Value.bool r281.1.Bound.Negative), v285])) rfl rfl ?_)
     refine Rl.op (OpY.extract (vs := [(Value.agg #[v283, (Value.bool r281.1.Bound.Negative), v285]), (Value.bool r281.2)]) (v := (Value.bool r281.2)) rfl rfl ?_)
     refine Rl.op (OpY.alloc (cs := [(Value.slice none 0 0), (Value.bool false), (Value.slice none 0 0)]) ti34 rfl hL292 ?_)
     intro b295 w296 (hL297 : Go.X.Loc [] [] w w296 [some b295, some b270, some b1, ob221] [Cont.cells [(Value.slice none 0 0), (Value.bool false), (Value.slice none 0 0)], Cont.cells [v265, (Value.bool x252.Divisor.Negative), v267], Cont.cells [p_v, p_v1, (Value.bool p.Bound.Negative), p_v2, p_v3], Cont.cells ([] ++ (cs224 ++ sp223))]) hS299
     have K298 := Keep.step (s := w.heap.size) hS299
     have f300 := (k286.mono (K298 None))
     have f301 := (k284.mono (K298 None))
     refine Rl.op0 (OpY.store (vs := [v283, (Value.bool r281.1.Bound.Negative), v285]) ti34 rfl rfl rfl rfl (ones_cons f301.one (ones_cons rfl (ones_cons f300.one ones_nil))) hL297 0 rfl rfl (Nat.le_of_ble_eq_true rfl) ?_)
     intro w302 (hL303 : Go.X.Loc [] [] w w302 [some b295, some b270, some b1, ob221] [Cont.cells [v283, (Value.bool r281.1.Bound.Negative), v285], Cont.cells [v265, (Value.bool x252.Divisor.Negative), v267], Cont.cells [p_v, p_v1, (Value.bool p.Bound.Negative), p_v2, p_v3], Cont.cells ([] ++ (cs224 ++ sp223))]) hS305
     have K304 := Keep.step (s := w.heap.size) hS305
     refine Rl.op (OpY.assign (v := (Value.bool r281.2)) rfl ?_)
     refine Rl.nil ?_
     refine Swp.seq ?_
     refine Swp.seq ?_
     refine Swp.region rfl ?_
     refine Rl.op (OpY.move (v := (Value.bool r281.2)) rfl ?_)
     refine Rl.op (OpY.not (x := r281.2) rfl ?_)
     refine Rl.nil ?_
     refine Swp.cond_b (!r281.2) rfl (fun hc306 => ?_) (fun hc306 => ?_)
     ·
      replace h := ite_t hc306 h
      refine Swp.seq ?_
      refine Swp.region rfl ?_
      refine Rl.op (OpY.assign (v := (Value.bool false)) rfl ?_)
      refine Rl.nil ?_
      refine Swp.ret ?_
      obtain rfl := Option.some.inj h
      obtain rfl := hd243 _ rfl
      replace h := g241
      try dsimp only at h
      obtain rfl := Option.some.inj h
      refine ⟨[(Value.bool false)], ⟨rfl, trivial⟩, ⟨_, rfl, hL303.done, ?_⟩⟩
      exact ⟨rfl, trivial⟩
     ·
      replace h := ite_f hc306 h
      refine Swp.skip ?_
      refine Swp.region rfl ?_
      refine Rl.op (OpY.move (v := (osv ob221 0 (List.length e225) cap222)) rfl ?_)
      refine Rl.op (OpY.ldBoxA (vs := [v283, (Value.bool r281.1.Bound.Negative), v285]) Try.underlying34 rfl ti34 rfl (hL303.at 0 rfl rfl) rfl rfl ?_)
      have f311 := (f301.mono (K304 None))
      have f312 := (f300.mono (K304 None))
      have hE308 : Els rIneq (Hv w.heap.size None [some b295, some b270, some b1, ob221] w302) [v283, (Value.bool r281.1.Bound.Negative), v285] [r281.1] := (Els.cons (a := [v283, (Value.bool r281.1.Bound.Negative), v285]) (rIneq_close ⟨v283, v285, rfl, f311, f312, trivial⟩) Els.nil)
      refine Rl.op (OpY.litRow (r := rIneq) (vs := [(Value.agg #[v283, (Value.bool r281.1.Bound.Negative), v285])]) (css := [[v283, (Value.bool r281.1.Bound.Negative), v285]]) (xs := [r281.1]) Try.underlying22 ti34 (Nat.le_of_ble_eq_true rfl) rfl rfl ⟨rfl, rfl, trivial⟩ (Nat.le_of_ble_eq_true rfl) hE308 rfl hL303 ?_)
      intro b307 w313 hc309 (hL314 : Go.X.Loc [] [] w w313 [some b307, some b295, some b270, some b1, ob221] [Cont.cells ([] ++ ([v283, (Value.bool r281.1.Bound.Negative), v285] ++ [])), Cont.cells [v283, (Value.bool r281.1.Bound.Negative), v285], Cont.cells [v265, (Value.bool x252.Divisor.Negative), v267], Cont.cells [p_v, p_v1, (Value.bool p.Bound.Negative), p_v2, p_v3], Cont.cells ([] ++ (cs224 ++ sp223))]) hS316
      have K315 := Keep.step (s := w.heap.size) hS316
      obtain ⟨x317, q318, h⟩ := bind_some h
      obtain ⟨q319, q320, q321⟩ := apnd_some q318
      have f322 := (hE308.mono (K315 None))
      have f330 := ((((f288.mono (K293 S)).mono (K298 S)).mono (K304 S)).mono (K315 S))
      refine Rl.op (OpY.apRowX (r := rIneq) (H := (Hv w.heap.size S [some b307, some b295, some b270, some b1, ob221] w313)) (cs := cs224) (sp := sp223) (xs := e225) (ys := [r281.1]) (Y := x317) (n := (List.length e225)) (cap := cap222) (i := 4) Try.underlying22 ti34 rfl rfl rfl rfl hL314 rfl rfl f330 rfl hc227 (Src.row (pre := []) (o := 0) (n := 1) (cap := 1) (hL314.at 0 rfl rfl) f322 rfl rfl rfl) (f322.mono Hv.none) q319 q320 q321 ?_)
      intro ob323 cap324 sp326 cs325 w331 hE327 hc328 (hL332 : Go.X.Loc [] [] w w331 [some b307, some b295, some b270, some b1, ob323] [Cont.cells ([] ++ ([v283, (Value.bool r281.1.Bound.Negative), v285] ++ [])), Cont.cells [v283, (Value.bool r281.1.Bound.Negative), v285], Cont.cells [v265, (Value.bool x252.Divisor.Negative), v267], Cont.cells [p_v, p_v1, (Value.bool p.Bound.Negative), p_v2, p_v3], Cont.cells ([] ++ (cs325 ++ sp326))]) hS334
      have K333 := Keep.step (s := w.heap.size) hS334
      refine Rl.op (OpY.assign (v := (osv ob323 0 (List.length x317) cap324)) rfl ?_)
      refine Rl.nil ?_
      refine Swp.pop_blk ?_
      refine Swp.region rfl ?_
      refine Rl.op (OpY.add (x := x229) (y := 1) (z := (iw (x229 + 1))) rfl rfl rfl ?_)
      refine Rl.op (OpY.move (v := (Value.int .i64 (iw (x229 + 1)))) rfl ?_)
      refine Rl.nil ?_
      have hp335 := hL332.pick [3, 4] rfl rfl rfl
      have hL337 : Go.X.Loc [] [] w w331 [some b1, ob323] [Cont.cells [p_v, p_v1, (Value.bool p.Bound.Negative), p_v2, p_v3], Cont.cells ([] ++ (cs325 ++ sp326))] := hp335.1
      have K336 := Keep.step (s := w.heap.size) hp335.2
      have f338 := ((hE327.mono (K333 S)).mono (K336 S))
      obtain rfl := Option.some.inj h
      refine Swp.pop_back ⟨(x317, (iw (x229 + 1))), rfl, ?_⟩
      exact ⟨ob323, cap324, sp326, cs325, (List.length x317), _, (upds_sym ⟨rfl, ⟨rfl, ⟨rfl, ⟨rfl, ⟨rfl, trivial⟩⟩⟩⟩⟩), hL337, (Keep.trans (Keep.trans (Keep.trans (Keep.trans (Keep.trans (Keep.trans (Keep.trans (Keep.trans K250 K273) K279) K293) K298) K304) K315) K333) K336), f338, rfl, hc328, trivial⟩
    ·
     replace h := ite_f hc251 h
     refine Swp.exit rfl ?_
     obtain rfl := Option.some.inj h
     obtain rfl := hd243 _ rfl
     replace h := g241
     try dsimp only at h
     skip
     refine Swp.pop_back ?_
     exact ⟨e225, ob221, cap222, sp223, cs224, (List.length e225), _, rfl, (upds_sym ⟨rfl, ⟨rfl, trivial⟩⟩), hL249, K250, hE226, rfl, hc227, trivial⟩
   ·
    rintro _ w339 ⟨e236, ob232, cap233, sp234, cs235, ln239, u, rfl, rfl, hL340, K341, hE237, rfl, hc238, -⟩
    replace h := g241
    try dsimp only at h
    refine Swp.seq ?_
    refine Swp.seq ?_
    refine Swp.region rfl ?_
    refine Rl.op (OpY.fieldAddr (q := 4) Try.underlying42 rfl ti40 rfl rfl rfl ?_)
    refine Rl.op (OpY.ldBox1 (v := p_v3) Try.underlying40 rfl rfl (hL340.at 0 rfl rfl) rfl ?_)
    have f342 := ((((p_h3.mono (K4 S)).mono (K12 S)).mono (K28 S)).mono (K341 S))
    refine Rl.op (OpY.lenRo (v := p_v3) Try.underlying40 rfl f342 ?_)
    refine Rl.nil ?_
    refine Swp.block ?_
    refine Swp.seq ?_
    refine Swp.region rfl ?_
    refine Rl.op (OpY.eql (x := (List.length p.Children : Int)) (y := 0) (((List.length p.Children : Int) : Int) = 0) rfl rfl Iff.rfl ?_)
    refine Rl.op (OpY.assign (v := (Value.bool (decide (((List.length p.Children : Int) : Int) = 0)))) rfl ?_)
    refine Rl.nil ?_
    refine Swp.cond_d (((List.length p.Children : Int) : Int) = 0) rfl (fun hc343 => ?_) (fun hc343 => ?_)
    ·
     replace h := ite_t hc343 h
     refine Swp.seq ?_
     refine Swp.region rfl ?_
     refine Rl.op (OpY.move (v := (osv ob232 0 (List.length e236) cap233)) rfl ?_)
     obtain ⟨r345, q346, h⟩ := bind_some h
     refine Rl.op (OpY.call en54 rfl rfl (containsIneq_w N e236 (fun y344 => cContradictory N y344) (osv ob232 0 (List.length e236) cap233) (Value.func (.func 29) #[] #[]) _ Any (own_row_any (pre := []) (o := 0) (n := (List.length e236)) (cap := cap233) (hL340.at 1 rfl rfl) hE237 vw_any rfl rfl rfl hc238) (fun w9 hE9 y348 v349 v351 k350 k352 z9 hz9 => ⟨29, [], rfl, en29, (cContradictory_w N y348 v349 v351 _ Any (k350.mono vw_any) (k352.mono vw_any) z9 hz9)⟩) r345 q346) ?_)
     rintro _ w353 hE356 ⟨rfl, -⟩
     have hL354 := hL340.ext hE356
     refine Rl.op (OpY.assign (v := (Value.bool r345)) rfl ?_)
     refine Rl.nil ?_
     refine Swp.ret ?_
     obtain rfl := Option.some.inj h
     refine ⟨[(Value.bool r345)], ⟨rfl, trivial⟩, ⟨_, rfl, hL354.done, ?_⟩⟩
     exact ⟨rfl, trivial⟩
    ·
     replace h := ite_f hc343 h
     refine Swp.seq ?_
     refine Swp.region rfl ?_
     refine Rl.op (OpY.eql (x := (List.length p.Children : Int)) (y := 2) (((List.length p.Children : Int) : Int) = 2) rfl rfl Iff.rfl ?_)
     refine Rl.op (OpY.assign (v := (Value.bool (decide (((List.length p.Children : Int) : Int) = 2)))) rfl ?_)
     refine Rl.nil ?_
     refine Swp.cond_d (((List.length p.Children : Int) : Int) = 2) rfl (fun hc357 => ?_) (fun hc357 => ?_)
     ·
      replace h := ite_t hc357 h
      refine Swp.skip ?_
      refine Swp.pop_blk ?_
      refine Swp.seq ?_
      refine Swp.seq ?_
      refine Swp.region rfl ?_
      refine Rl.op (OpY.move (v := (osv ob232 0 (List.length e236) cap233)) rfl ?_)
      obtain ⟨r358, q359, h⟩ := bind_some h
      refine Rl.op (OpY.call en44 rfl rfl (cwidth_w N e236 (osv ob232 0 (List.length e236) cap233) _ Any (own_row_any (pre := []) (o := 0) (n := (List.length e236)) (cap := cap233) (hL340.at 1 rfl rfl) hE237 vw_any rfl rfl rfl hc238) r358 q359) ?_)
      rintro _ w361 hE364 ⟨rfl, -⟩
      have hL362 := hL340.ext hE364
      have K363 := Keep.ext (s := w.heap.size) (O := [some b1, ob232]) hE364
      refine Rl.op (OpY.move (v := (Value.tuple #[(Value.int .i64 r358.1), (Value.bool r358.2)])) rfl ?_)
      refine Rl.op (OpY.extract (vs := [(Value.int .i64 r358.1), (Value.bool r358.2)]) (v := (Value.int .i64 r358.1)) rfl rfl ?_)
      refine Rl.op (OpY.extract (vs := [(Value.int .i64 r358.1), (Value.bool r358.2)]) (v := (Value.bool r358.2)) rfl rfl ?_)
      refine Rl.op (OpY.assign (v := (Value.int .i64 r358.1)) rfl ?_)
      refine Rl.op (OpY.assign (v := (Value.bool r358.2)) rfl ?_)
      refine Rl.nil ?_
      refine Swp.seq ?_
      obtain ⟨s371, h, g372⟩ := bind_some h
      refine Swp.join (fun e w' => ∃ (x370 : Bool) (u : Env), x370 = s371 ∧ e = upds [(3, (Value.pointer (some ⟨b1, 0, none⟩))), (7, (osv ob232 0 (List.length e236) cap233)), (68, (Value.bool x370))] u ∧ Go.X.Loc [] [] w w' [some b1, ob232] [Cont.cells [p_v, p_v1, (Value.bool p.Bound.Negative), p_v2, p_v3], Cont.cells ([] ++ (cs235 ++ sp234))] ∧ Keep w.heap.size [some b1, ob232] w361 [some b1, ob232] w' ∧ True) ?_ ?_
      ·
       refine Swp.region rfl ?_
       refine Rl.op (OpY.move (v := (osv ob232 0 (List.length e236) cap233)) rfl ?_)
       have f373 := (hE237.mono (K363 S))
       refine Rl.op (OpY.lenRow (pre := []) (r := rIneq) (xs := e236) Try.underlying22 rfl (hL362.at 1 rfl rfl) f373 rfl rfl ?_)
       refine Rl.op (OpY.gtr (x := (List.length e236 : Int)) (y := 0) (((List.length e236 : Int) : Int) > 0) rfl rfl Iff.rfl ?_)
       refine Rl.op (OpY.move (v := (Value.bool (decide (((List.length e236 : Int) : Int) > 0)))) rfl ?_)
       by_cases hc374 : ((List.length e236 : Int) : Int) > 0
       ·
        replace h := ite_t hc374 h
        refine Rl.yes (dj := 62) (b' := (decide (((List.length e236 : Int) : Int) > 0))) rfl rfl (decide_eq_true hc374) (OpY.fieldAddr (q := 1) Try.underlying42 rfl ti32 rfl rfl rfl ?_)
        refine Rl.yes (dj := 62) (b' := (decide (((List.length e236 : Int) : Int) > 0))) rfl rfl (decide_eq_true hc374) (OpY.ldBox1 (v := p_v1) Try.underlying32 rfl rfl (hL362.at 0 rfl rfl) rfl ?_)
        have f375 := (((((p_h1.mono (K4 S)).mono (K12 S)).mono (K28 S)).mono (K341 S)).mono (K363 S))
        refine Rl.yes (dj := 62) (b' := (decide (((List.length e236 : Int) : Int) > 0))) rfl rfl (decide_eq_true hc374) (OpY.lenRo (v := p_v1) Try.underlying32 rfl f375 ?_)
        refine Rl.yes (dj := 62) (b' := (decide (((List.length e236 : Int) : Int) > 0))) rfl rfl (decide_eq_true hc374) (OpY.move (v := (Value.int .i64 r358.1)) rfl ?_)
        refine Rl.yes (dj := 62) (b' := (decide (((List.length e236 : Int) : Int) > 0))) rfl rfl (decide_eq_true hc374) (OpY.neq (x := (List.length p.Form : Int)) (y := r358.1) (((List.length p.Form : Int) : Int) ≠ r358.1) rfl rfl Iff.rfl ?_)
        refine Rl.op (OpY.pick_t (t := (decide (((List.length e236 : Int) : Int) > 0))) (v := (Value.bool (decide (((List.length p.Form : Int) : Int) ≠ r358.1)))) rfl (decide_eq_true hc374) rfl ?_)
        refine Rl.nil ?_
        obtain rfl := Option.some.inj h
        refine Swp.pop_back ?_
        exact ⟨(decide (((List.length p.Form : Int) : Int) ≠ r358.1)), _, rfl, (upds_sym ⟨rfl, ⟨rfl, ⟨rfl, trivial⟩⟩⟩), hL362, Keep.refl, trivial⟩
       ·
        replace h := ite_f hc374 h
        refine Rl.no (dj := 62) (b' := (decide (((List.length e236 : Int) : Int) > 0))) rfl rfl (decide_eq_false hc374) ?_
        refine Rl.no (dj := 62) (b' := (decide (((List.length e236 : Int) : Int) > 0))) rfl rfl (decide_eq_false hc374) ?_
        refine Rl.no (dj := 62) (b' := (decide (((List.length e236 : Int) : Int) > 0))) rfl rfl (decide_eq_false hc374) ?_
        refine Rl.no (dj := 62) (b' := (decide (((List.length e236 : Int) : Int) > 0))) rfl rfl (decide_eq_false hc374) ?_
        refine Rl.no (dj := 62) (b' := (decide (((List.length e236 : Int) : Int) > 0))) rfl rfl (decide_eq_false hc374) ?_
        refine Rl.op (OpY.pick_f (t := (decide (((List.length e236 : Int) : Int) > 0))) (v := (Value.bool false)) rfl (decide_eq_false hc374) rfl ?_)
        refine Rl.nil ?_
        obtain rfl := Option.some.inj h
        refine Swp.pop_back ?_
        exact ⟨false, _, rfl, (upds_sym ⟨rfl, ⟨rfl, ⟨rfl, trivial⟩⟩⟩), hL362, Keep.refl, trivial⟩
      ·
       rintro _ w376 ⟨x370, u, rfl, rfl, hL377, K378, -⟩
       replace h := g372
       try dsimp only at h
       refine Swp.cond_b x370 rfl (fun hc379 => ?_) (fun hc379 => ?_)
       ·
        replace h := ite_t hc379 h
        refine Swp.seq ?_
        refine Swp.region rfl ?_
        refine Rl.op (OpY.assign (v := (Value.bool false)) rfl ?_)
        refine Rl.nil ?_
        refine Swp.ret ?_
        obtain rfl := Option.some.inj h
        refine ⟨[(Value.bool false)], ⟨rfl, trivial⟩, ⟨_, rfl, hL377.done, ?_⟩⟩
        exact ⟨rfl, trivial⟩
       ·
        replace h := ite_f hc379 h
        refine Swp.skip ?_
        refine Swp.seq ?_
        refine Swp.region rfl ?_
        refine Rl.op (OpY.fieldAddr (q := 1) Try.underlying42 rfl ti32 rfl rfl rfl ?_)
        refine Rl.op (OpY.ldBox1 (v := p_v1) Try.underlying32 rfl rfl (hL377.at 0 rfl rfl) rfl ?_)
        refine Rl.op (OpY.fieldAddr (q := 2) Try.underlying42 rfl ti26 rfl rfl rfl ?_)
        refine Rl.op (OpY.ldBoxA (vs := [(Value.bool p.Bound.Negative), p_v2]) Try.underlying26 rfl ti26 rfl (hL377.at 0 rfl rfl) rfl rfl ?_)
        have f380 := ((((((p_h1.mono (K4 S)).mono (K12 S)).mono (K28 S)).mono (K341 S)).mono (K363 S)).mono (K378 S))
        refine Rl.op (OpY.build (zc := [(Value.slice none 0 0), (Value.bool false), (Value.slice none 0 0)]) (cs := [p_v1, (Value.bool p.Bound.Negative), p_v2]) (is := [0, 1]) (vs := [p_v1, (Value.agg #[(Value.bool p.Bound.Negative), p_v2])]) (css := [[p_v1], [(Value.bool p.Bound.Negative), p_v2]]) pl34 ti34 rfl rfl rfl ⟨(one_cells f380.one), ⟨rfl, trivial⟩⟩ rfl ?_)
        refine Rl.op (OpY.alloc (cs := [(Value.slice none 0 0), (Value.bool false), (Value.slice none 0 0)]) ti34 rfl hL377 ?_)
        intro b381 w382 (hL383 : Go.X.Loc [] [] w w382 [some b381, some b1, ob232] [Cont.cells [(Value.slice none 0 0), (Value.bool false), (Value.slice none 0 0)], Cont.cells [p_v, p_v1, (Value.bool p.Bound.Negative), p_v2, p_v3], Cont.cells ([] ++ (cs235 ++ sp234))]) hS385
        have K384 := Keep.step (s := w.heap.size) hS385
        have f386 := (((((((p_h2.mono (K4 S)).mono (K12 S)).mono (K28 S)).mono (K341 S)).mono (K363 S)).mono (K378 S)).mono (K384 S))
        have f387 := (f380.mono (K384 S))
        refine Rl.op0 (OpY.store (vs := [p_v1, (Value.bool p.Bound.Negative), p_v2]) ti34 rfl rfl rfl rfl (ones_cons f387.one (ones_cons rfl (ones_cons f386.one ones_nil))) hL383 0 rfl rfl (Nat.le_of_ble_eq_true rfl) ?_)
        intro w388 (hL389 : Go.X.Loc [] [] w w388 [some b381, some b1, ob232] [Cont.cells [p_v1, (Value.bool p.Bound.Negative), p_v2], Cont.cells [p_v, p_v1, (Value.bool p.Bound.Negative), p_v2, p_v3], Cont.cells ([] ++ (cs235 ++ sp234))]) hS391
        have K390 := Keep.step (s := w.heap.size) hS391
        refine Rl.nil ?_
        refine Swp.seq ?_
        obtain ⟨r392, q393, h⟩ := bind_some h
        obtain ⟨r397, q398, h⟩ := bind_some h
        obtain ⟨r402, q403, h⟩ := bind_some h
        obtain ⟨r407, q408, h⟩ := bind_some h
        refine Swp.drawL 9 [] [] (fun W1 => [.det (Value.pointer (some ⟨b1, 1, none⟩)), .det p_v1, .det (Value.pointer (some ⟨b1, 2, none⟩)), .det (Value.agg #[(Value.bool p.Bound.Negative), p_v2]), .rel (fun v Z w' => ∃ v394, (Value.agg #[(Value.bool r392.Negative), v394]) = v ∧ Rs (rInt .u32) (Zv W1 w.heap.size None [some b381, some b1, ob232] Z w') v394 r392.Digits ∧ True) (fun _ => []), .rel (fun v Z w' => ∃ v399, (Value.agg #[(Value.bool r397.Negative), v399]) = v ∧ Rs (rInt .u32) (Zv W1 w.heap.size None [some b381, some b1, ob232] Z w') v399 r397.Digits ∧ True) (fun _ => []), .rel (fun v Z w' => ∃ v404, (Value.agg #[(Value.bool r402.Negative), v404]) = v ∧ Rs (rInt .u32) (Zv W1 w.heap.size None [some b381, some b1, ob232] Z w') v404 r402.Digits ∧ True) (fun _ => []), .rel (fun v Z w' => ∃ v409 v411, (Value.agg #[v409, (Value.bool r407.Bound.Negative), v411]) = v ∧ Rs rBig (Zv W1 w.heap.size None [some b381, some b1, ob232] Z w') v409 r407.Coefs ∧ Rs (rInt .u32) (Zv W1 w.heap.size None [some b381, some b1, ob232] Z w') v411 r407.Bound.Digits ∧ True) (fun _ => []), .rel (fun v Z w' => ∃ b414, (Value.pointer (some ⟨b414, 0, none⟩)) = v ∧ OwnC w' (some b414) (Cont.cells [(Value.slice none 0 0), (Value.bool false), (Value.slice none 0 0)]) ∧ True) footV]) mixed rfl rfl rfl (fun _ => rfl) (fun _ => rfl) ?_ ?_
        ·
         intro W1 _
         exact ⟨fun v Z Z' w w' hΦ hz _ _ hs => by obtain ⟨v394, rfl, k395, -⟩ := hΦ; exact ⟨v394, rfl, (k395.mono (Zv.stay hz hs)), trivial⟩, ⟨fun v Z Z' w w' hΦ hz _ _ hs => by obtain ⟨v399, rfl, k400, -⟩ := hΦ; exact ⟨v399, rfl, (k400.mono (Zv.stay hz hs)), trivial⟩, ⟨fun v Z Z' w w' hΦ hz _ _ hs => by obtain ⟨v404, rfl, k405, -⟩ := hΦ; exact ⟨v404, rfl, (k405.mono (Zv.stay hz hs)), trivial⟩, ⟨fun v Z Z' w w' hΦ hz _ _ hs => by obtain ⟨v409, v411, rfl, k410, k412, -⟩ := hΦ; exact ⟨v409, v411, rfl, (k410.mono (Zv.stay hz hs)), (k412.mono (Zv.stay hz hs)), trivial⟩, ⟨fun v Z Z' w w' hΦ hz _ _ hs => by obtain ⟨b414, rfl, hO415, -⟩ := hΦ; exact ⟨b414, rfl, (hO415.stay (fun b hb => by cases hb; exact List.mem_cons_self) hs), trivial⟩, trivial⟩⟩⟩⟩⟩
        ·
         intro w416 hE417
         have hL418 := hL389.ext hE417
         have K419 := Keep.ext (s := w.heap.size) (O := [some b381, some b1, ob232]) hE417
         refine DrH.det ?_ ?_
         ·
          rintro w420 Z421 hE422 hZ423 ⟨-⟩
          refine GOp.op (OpY.fieldAddr (q := 1) Try.underlying42 rfl ti32 rfl rfl rfl ?_)
          exact ⟨Ext.refl _, rfl⟩
         refine DrH.det ?_ ?_
         ·
          rintro w426 Z427 hE428 hZ429 ⟨-⟩
          have hL430 := hL418.ext hE428
          refine GOp.op (OpY.ldBox1 (v := p_v1) Try.underlying32 rfl rfl (hL430.at 1 rfl rfl) rfl ?_)
          exact ⟨Ext.refl _, rfl⟩
         refine DrH.det ?_ ?_
         ·
          rintro w432 Z433 hE434 hZ435 ⟨-⟩
          refine GOp.op (OpY.fieldAddr (q := 2) Try.underlying42 rfl ti26 rfl rfl rfl ?_)
          exact ⟨Ext.refl _, rfl⟩
         refine DrH.det ?_ ?_
         ·
          rintro w438 Z439 hE440 hZ441 ⟨-⟩
          have hL442 := hL418.ext hE440
          refine GOp.op (OpY.ldBoxA (vs := [(Value.bool p.Bound.Negative), p_v2]) Try.underlying26 rfl ti26 rfl (hL442.at 1 rfl rfl) rfl rfl ?_)
          exact ⟨Ext.refl _, rfl⟩
         refine DrH.rel ?_ ?_
         ·
          rintro w444 Z445 hE446 hZ447 ⟨-⟩
          have K449 := Keep.ext (s := w.heap.size) (O := [some b381, some b1, ob232]) hE446
          refine GOp.op (OpY.call en57 rfl rfl (bNeg_w N p.Bound p_v2 _ Any ((((f386.mono (K390 S)).mono (K419 S)).mono (K449 S)).mono vw_any) r392 q393) ?_)
          rintro _ w450 hE451 ⟨v394, rfl, k395, -⟩
          exact Made.ext hE451 hZ447 NewOwn.nil (fun _ h => h) ⟨v394, rfl, (k395.mono Zv.made), trivial⟩
         intro z4
         refine DrH.rel ?_ ?_
         ·
          rintro w452 Z453 hE454 hZ455 ⟨⟨⟨v394, rfl, k395, -⟩, hB4⟩, -⟩
          refine GOp.op (OpY.call en58 rfl rfl (bOf_w N 1 _ Any r397 q398) ?_)
          rintro _ w458 hE459 ⟨v399, rfl, k400, -⟩
          exact Made.ext hE459 hZ455 NewOwn.nil (fun _ h => h) ⟨v399, rfl, (k400.mono Zv.made), trivial⟩
         intro z5
         refine DrH.rel ?_ ?_
         ·
          rintro w460 Z461 hE462 hZ463 ⟨⟨⟨v399, rfl, k400, -⟩, hB5⟩, ⟨⟨v394, rfl, k395, -⟩, hB4⟩, -⟩
          refine GOp.op (OpY.call en56 rfl rfl (bSub_w N r392 r397 v394 v399 _ Any (k395.mono vw_any) (k400.mono vw_any) r402 q403) ?_)
          rintro _ w466 hE467 ⟨v404, rfl, k405, -⟩
          exact Made.ext hE467 hZ463 NewOwn.nil (fun _ h => h) ⟨v404, rfl, (k405.mono Zv.made), trivial⟩
         intro z6
         refine DrH.rel ?_ ?_
         ·
          rintro w468 Z469 hE470 hZ471 ⟨⟨⟨v404, rfl, k405, -⟩, hB6⟩, -, -, -⟩
          have K473 := Keep.ext (s := w.heap.size) (O := [some b381, some b1, ob232]) hE470
          refine GOp.op (OpY.call en55 rfl rfl (negated_w N p.Form r402 p_v1 v404 _ Any ((((f387.mono (K390 S)).mono (K419 S)).mono (K473 S)).mono vw_any) (k405.mono vw_any) r407 q408) ?_)
          rintro _ w474 hE475 ⟨v409, v411, rfl, k410, k412, -⟩
          exact Made.ext hE475 hZ471 NewOwn.nil (fun _ h => h) ⟨v409, v411, rfl, (k410.mono Zv.made), (k412.mono Zv.made), trivial⟩
         intro z7
         refine DrH.rel ?_ ?_
         ·
          rintro w476 Z477 hE478 hZ479 ⟨-, -, -, -, -⟩
          refine GOp.op (OpY.alloc (cs := [(Value.slice none 0 0), (Value.bool false), (Value.slice none 0 0)]) ti34 rfl (Go.X.Loc.begin0 w476) ?_)
          intro b414 w482 hL483 hS484
          have hN485 : NewOwn w476 w482 [some b414] [Cont.cells [(Value.slice none 0 0), (Value.bool false), (Value.slice none 0 0)]] := hL483.newOwn [0] rfl rfl rfl
          exact Made.ext hL483.done hZ479 hN485 (fun _ h => h) ⟨b414, rfl, hN485.2.2.1, trivial⟩
         intro z8
         refine DrH.fin0 ?_
         rintro w486 Z487 hE488 hZ489 ⟨⟨⟨b414, rfl, hO415, -⟩, hB8⟩, ⟨⟨v409, v411, rfl, k410, k412, -⟩, hB7⟩, ⟨⟨v404, rfl, k405, -⟩, hB6⟩, ⟨⟨v399, rfl, k400, -⟩, hB5⟩, ⟨⟨v394, rfl, k395, -⟩, hB4⟩, -⟩ ap490
         have hB491 : ∀ b, some b ∈ ([some b414] : List (Option Nat)) → w416.heap.size ≤ b ∧ ¬ Z487 b := by
          intro b hb
          rcases List.mem_cons.1 hb with hb' | hb
          ·
           have := hB8 b (by rw [hb']; exact List.mem_cons_self); exact ⟨this.1, this.2.2⟩
          cases hb
         replace k410 := k410.mono (Zv.fin hL418 hZ489 hB491)
         replace k412 := k412.mono (Zv.fin hL418 hZ489 hB491)
         replace k405 := k405.mono (Zv.fin hL418 hZ489 hB491)
         replace k400 := k400.mono (Zv.fin hL418 hZ489 hB491)
         replace k395 := k395.mono (Zv.fin hL418 hZ489 hB491)
         have hN494 : NewOwn w416 w486 [some b414] [Cont.cells [(Value.slice none 0 0), (Value.bool false), (Value.slice none 0 0)]] := (NewOwn.cons NewOwn.nil hO415 (fun b hb => (hB491 b (by rw [← hb]; simp)).1) (fun b _ hb => by cases hb))
         have hp495 := hL418.adoptL hE488 hN494
         have hL492 : Go.X.Loc [] [] w w486 [some b414, some b381, some b1, ob232] [Cont.cells [(Value.slice none 0 0), (Value.bool false), (Value.slice none 0 0)], Cont.cells [p_v1, (Value.bool p.Bound.Negative), p_v2], Cont.cells [p_v, p_v1, (Value.bool p.Bound.Negative), p_v2, p_v3], Cont.cells ([] ++ (cs235 ++ sp234))] := hp495.1
         have K493 := Keep.step (s := w.heap.size) hp495.2
         refine Rl.op0 (OpY.store (vs := [v409, (Value.bool r407.Bound.Negative), v411]) ti34 rfl rfl rfl rfl (ones_cons k410.one (ones_cons rfl (ones_cons k412.one ones_nil))) hL492 0 rfl rfl (Nat.le_of_ble_eq_true rfl) ?_)
         intro w496 (hL497 : Go.X.Loc [] [] w w496 [some b414, some b381, some b1, ob232] [Cont.cells [v409, (Value.bool r407.Bound.Negative), v411], Cont.cells [p_v1, (Value.bool p.Bound.Negative), p_v2], Cont.cells [p_v, p_v1, (Value.bool p.Bound.Negative), p_v2, p_v3], Cont.cells ([] ++ (cs235 ++ sp234))]) hS499
         have K498 := Keep.step (s := w.heap.size) hS499
         refine Rl.nil ?_
         refine Swp.seq ?_
         refine Swp.region rfl ?_
         refine Rl.op (OpY.move (v := (osv ob232 0 (List.length e236) cap233)) rfl ?_)
         have f501 := (((((((hE237.mono (K363 S)).mono (K378 S)).mono (K384 S)).mono (K390 S)).mono (K419 S)).mono (K493 S)).mono (K498 S))
         have f500 := hL497.freezeRow 3 rfl rfl f501 rfl rfl rfl hc238
         have hp502 := hL497.pick [0, 1, 2] rfl rfl rfl
         have hL504 : Go.X.Loc [] [] w w496 [some b414, some b381, some b1] [Cont.cells [v409, (Value.bool r407.Bound.Negative), v411], Cont.cells [p_v1, (Value.bool p.Bound.Negative), p_v2], Cont.cells [p_v, p_v1, (Value.bool p.Bound.Negative), p_v2, p_v3]] := hp502.1
         have K503 := Keep.step (s := w.heap.size) hp502.2
         obtain ⟨r505, q506, h⟩ := bind_some h
         refine Rl.op (OpY.call en59 rfl rfl (clipIneq_w N e236 (osv ob232 0 (List.length e236) cap233) _ _ (f500.mono Hv.enter) r505 q506) ?_)
         rintro _ w511 hE514 ⟨v507, rfl, k508, cl509, -⟩
         replace k508 := k508.mono (Hv.aliasO (S := S) hL504 [])
         have hL512 := hL504.ext hE514
         have K513 := Keep.ext (s := w.heap.size) (O := [some b414, some b381, some b1]) hE514
         refine Rl.op (OpY.assign (v := v507) rfl ?_)
         refine Rl.nil ?_
         refine Swp.seq ?_
         obtain ⟨x523, q524, h⟩ := bind_some h
         obtain ⟨q525, q526, q527⟩ := apnd_some q524
         obtain ⟨x538, q539, h⟩ := bind_some h
         obtain ⟨n540, q541, q542⟩ := idx_some q539
         have f559 := (((((((((f342.mono (K363 S)).mono (K378 S)).mono (K384 S)).mono (K390 S)).mono (K419 S)).mono (K493 S)).mono (K498 S)).mono (K503 S)).mono (K513 S))
         obtain ⟨b543, o544, c545, vs546, q547, q548, f549, q550⟩ := Rs.get f559 q542
         obtain ⟨v551, v553, v555, v557, rfl, k552, k554, k556, k558, -⟩ := rProof_open q550
         obtain ⟨r560, q561, h⟩ := bind_some h
         by_cases hc563 : r560 = true
         ·
          replace h := ite_t hc563 h
          obtain ⟨x572, q573, h⟩ := bind_some h
          obtain ⟨q574, q575, q576⟩ := apnd_some q573
          obtain ⟨x587, q588, h⟩ := bind_some h
          obtain ⟨n589, q590, q591⟩ := idx_some q588
          obtain ⟨b592, o593, c594, vs595, q596, q597, f598, q599⟩ := Rs.get f559 q591
          obtain ⟨v600, v602, v604, v606, rfl, k601, k603, k605, k607, -⟩ := rProof_open q599
          refine Swp.drawL 18 [] [] (fun W1 => [.det v507, .det (Value.agg #[p_v1, (Value.bool p.Bound.Negative), p_v2]), .rel (fun v Z w' => ∃ b515 cs522, (osv (some b515) 0 1 1) = v ∧ OwnC w' (some b515) (Cont.cells ([] ++ (cs522 ++ []))) ∧ Els rIneq (Zv W1 w.heap.size S [some b414, some b381, some b1] Z w') cs522 [(Ineq.mk p.Form p.Bound)] ∧ (cs522 ++ [] : List Value).length = 1 * rIneq.sz ∧ True) footV, .rel (fun v Z w' => ∃ b528 cap529 cs530 sp531, (osv (some b528) 0 (List.length x523) cap529) = v ∧ OwnC w' (some b528) (Cont.cells ([] ++ (cs530 ++ sp531))) ∧ Els rIneq (Zv W1 w.heap.size S [some b414, some b381, some b1] Z w') cs530 x523 ∧ (cs530 ++ sp531 : List Value).length = cap529 * rIneq.sz ∧ True) footV, .det (Value.pointer (some ⟨b1, 4, none⟩)), .det p_v3, .det (Value.pointer (some ⟨b543, (o544 + n540 * rProof.sz), none⟩)), .det (Value.agg #[v551, v553, (Value.bool x538.Bound.Negative), v555, v557]), .det (Value.bool r560), .det (Value.bool r560), .det v507, .det (Value.agg #[v409, (Value.bool r407.Bound.Negative), v411]), .rel (fun v Z w' => ∃ b564 cs571, (osv (some b564) 0 1 1) = v ∧ OwnC w' (some b564) (Cont.cells ([] ++ (cs571 ++ []))) ∧ Els rIneq (Zv W1 w.heap.size None [some b414, some b381, some b1] Z w') cs571 [r407] ∧ (cs571 ++ [] : List Value).length = 1 * rIneq.sz ∧ True) footV, .rel (fun v Z w' => ∃ b577 cap578 cs579 sp580, (osv (some b577) 0 (List.length x572) cap578) = v ∧ OwnC w' (some b577) (Cont.cells ([] ++ (cs579 ++ sp580))) ∧ Els rIneq (Zv W1 w.heap.size S [some b414, some b381, some b1] Z w') cs579 x572 ∧ (cs579 ++ sp580 : List Value).length = cap578 * rIneq.sz ∧ True) footV, .det (Value.pointer (some ⟨b1, 4, none⟩)), .det p_v3, .det (Value.pointer (some ⟨b592, (o593 + n589 * rProof.sz), none⟩)), .det (Value.agg #[v600, v602, (Value.bool x587.Bound.Negative), v604, v606])]) mixed rfl rfl rfl (fun _ => rfl) (fun _ => rfl) ?_ ?_
          ·
           intro W1 _
           exact ⟨fun v Z Z' w w' hΦ hz _ _ hs => by obtain ⟨b515, cs522, rfl, hO519, hE520, hc521, -⟩ := hΦ; exact ⟨b515, cs522, rfl, (hO519.stay (fun b hb => by cases hb; exact List.mem_cons_self) hs), (hE520.mono (Zv.stay hz hs)), hc521, trivial⟩, ⟨fun v Z Z' w w' hΦ hz _ _ hs => by obtain ⟨b528, cap529, cs530, sp531, rfl, hO535, hE536, hc537, -⟩ := hΦ; exact ⟨b528, cap529, cs530, sp531, rfl, (hO535.stay (fun b hb => by cases hb; exact List.mem_cons_self) hs), (hE536.mono (Zv.stay hz hs)), hc537, trivial⟩, ⟨fun v Z Z' w w' hΦ hz _ _ hs => by obtain ⟨b564, cs571, rfl, hO568, hE569, hc570, -⟩ := hΦ; exact ⟨b564, cs571, rfl, (hO568.stay (fun b hb => by cases hb; exact List.mem_cons_self) hs), (hE569.mono (Zv.stay hz hs)), hc570, trivial⟩, ⟨fun v Z Z' w w' hΦ hz _ _ hs => by obtain ⟨b577, cap578, cs579, sp580, rfl, hO584, hE585, hc586, -⟩ := hΦ; exact ⟨b577, cap578, cs579, sp580, rfl, (hO584.stay (fun b hb => by cases hb; exact List.mem_cons_self) hs), (hE585.mono (Zv.stay hz hs)), hc586, trivial⟩, trivial⟩⟩⟩⟩
          ·
           intro w608 hE609
           have hL610 := hL512.ext hE609
           have K611 := Keep.ext (s := w.heap.size) (O := [some b414, some b381, some b1]) hE609
           refine DrH.det ?_ ?_
           ·
            rintro w612 Z613 hE614 hZ615 ⟨-⟩
            refine GOp.op (OpY.move (v := v507) rfl ?_)
            exact ⟨Ext.refl _, rfl⟩
           refine DrH.det ?_ ?_
           ·
            rintro w618 Z619 hE620 hZ621 ⟨-⟩
            have hL622 := hL610.ext hE620
            refine GOp.op (OpY.ldBoxA (vs := [p_v1, (Value.bool p.Bound.Negative), p_v2]) Try.underlying34 rfl ti34 rfl (hL622.at 1 rfl rfl) rfl rfl ?_)
            exact ⟨Ext.refl _, rfl⟩
           refine DrH.rel ?_ ?_
           ·
            rintro w624 Z625 hE626 hZ627 ⟨-⟩
            have hE516 : Els rIneq (Zv w608 w.heap.size S [some b414, some b381, some b1] Z625 w624) [p_v1, (Value.bool p.Bound.Negative), p_v2] [(Ineq.mk p.Form p.Bound)] := (Els.cons (a := [p_v1, (Value.bool p.Bound.Negative), p_v2]) (rIneq_close ⟨p_v1, p_v2, rfl, ((((((((f387.mono (K390 S)).mono (K419 S)).mono (K493 S)).mono (K498 S)).mono (K503 S)).mono (K513 S)).mono (K611 S)).mono (Zv.old (Z := Z625) hE626)), ((((((((f386.mono (K390 S)).mono (K419 S)).mono (K493 S)).mono (K498 S)).mono (K503 S)).mono (K513 S)).mono (K611 S)).mono (Zv.old (Z := Z625) hE626)), trivial⟩) Els.nil)
            refine GOp.op (OpY.litRow (r := rIneq) (vs := [(Value.agg #[p_v1, (Value.bool p.Bound.Negative), p_v2])]) (css := [[p_v1, (Value.bool p.Bound.Negative), p_v2]]) (xs := [(Ineq.mk p.Form p.Bound)]) Try.underlying22 ti34 (Nat.le_of_ble_eq_true rfl) rfl rfl ⟨rfl, rfl, trivial⟩ (Nat.le_of_ble_eq_true rfl) hE516 rfl (Go.X.Loc.begin0 w624) ?_)
            intro b515 w630 hc517 hL631 hS632
            have hN633 : NewOwn w624 w630 [some b515] [Cont.cells ([] ++ ([p_v1, (Value.bool p.Bound.Negative), p_v2] ++ []))] := hL631.newOwn [0] rfl rfl rfl
            exact Made.ext hL631.done hZ627 hN633 (fun _ h => h) ⟨b515, [p_v1, (Value.bool p.Bound.Negative), p_v2], rfl, hN633.2.2.1, (hE516.mono (Zv.grow hL631.done)), hc517, trivial⟩
           intro z2
           refine DrH.rel ?_ ?_
           ·
            rintro w634 Z635 hE636 hZ637 ⟨⟨⟨b515, cs522, rfl, hO519, hE520, hc521, -⟩, hB2⟩, -⟩
            refine GOp.op (OpY.apClip (r := rIneq) (v := v507) (xs := r505) (ys := [(Ineq.mk p.Form p.Bound)]) (Y := x523) Try.underlying22 ti34 rfl rfl rfl rfl ((k508.mono (K611 S)).mono (Zv.old (Z := Z635) hE636)) cl509 (Src.row (pre := []) (o := 0) (n := 1) (cap := 1) hO519 hE520 rfl rfl rfl) hE520 (Nat.le_of_ble_eq_true rfl) q525 q526 q527 (Go.X.Loc.begin0 w634) ?_)
            intro b528 cap529 sp531 cs530 w640 hE536 hc537 hL641 hS642
            have hN643 : NewOwn w634 w640 [some b528] [Cont.cells ([] ++ (cs530 ++ sp531))] := hL641.newOwn [0] rfl rfl rfl
            exact Made.ext hL641.done hZ637 hN643 (fun _ h => h) ⟨b528, cap529, cs530, sp531, rfl, hN643.2.2.1, (hE536.mono (Zv.grow hL641.done)), hc537, trivial⟩
           intro z3
           refine DrH.det ?_ ?_
           ·
            rintro w644 Z645 hE646 hZ647 ⟨-, -, -⟩
            refine GOp.op (OpY.fieldAddr (q := 4) Try.underlying42 rfl ti40 rfl rfl rfl ?_)
            exact ⟨Ext.refl _, rfl⟩
           refine DrH.det ?_ ?_
           ·
            rintro w650 Z651 hE652 hZ653 ⟨-, -, -⟩
            have hL654 := hL610.ext hE652
            refine GOp.op (OpY.ldBox1 (v := p_v3) Try.underlying40 rfl rfl (hL654.at 2 rfl rfl) rfl ?_)
            exact ⟨Ext.refl _, rfl⟩
           refine DrH.det ?_ ?_
           ·
            rintro w656 Z657 hE658 hZ659 ⟨-, -, -⟩
            refine GOp.op (OpY.ixRoD (r := rProof) (v := p_v3) (n := n540) (m := (o544 + n540 * rProof.sz)) Try.underlying40 ti42 rfl q547 rfl q541 q542 rfl ?_)
            exact ⟨Ext.refl _, rfl⟩
           refine DrH.det ?_ ?_
           ·
            rintro w662 Z663 hE664 hZ665 ⟨-, -, -⟩
            have K667 := Keep.ext (s := w.heap.size) (O := [some b414, some b381, some b1]) hE664
            refine GOp.op (OpY.ldRoA (vs := [v551, v553, (Value.bool x538.Bound.Negative), v555, v557]) Try.underlying42 rfl ti42 rfl rfl vw_view (At.mono (K667 S) (At.mono (K611 S) f549)) ?_)
            exact ⟨Ext.refl _, rfl⟩
           refine DrH.det ?_ ?_
           ·
            rintro w668 Z669 hE670 hZ671 ⟨⟨⟨b528, cap529, cs530, sp531, rfl, hO535, hE536, hc537, -⟩, hB3⟩, -, -⟩
            have K673 := Keep.ext (s := w.heap.size) (O := [some b414, some b381, some b1]) hE670
            refine GOp.op (OpY.call en18 rfl rfl (ih x523 x538 (osv (some b528) 0 (List.length x523) cap529) v551 v553 v555 v557 _ Any (own_row_any (pre := []) (o := 0) (n := (List.length x523)) (cap := cap529) hO535 hE536 vw_any rfl rfl rfl hc537) (((k552.mono (K611 S)).mono (K673 S)).mono vw_any) (((k554.mono (K611 S)).mono (K673 S)).mono vw_any) (((k556.mono (K611 S)).mono (K673 S)).mono vw_any) (((k558.mono (K611 S)).mono (K673 S)).mono vw_any) r560 q561) ?_)
            rintro _ w674 hE675 ⟨rfl, -⟩
            exact ⟨hE675, rfl⟩
           refine DrH.det ?_ ?_
           ·
            rintro w676 Z677 hE678 hZ679 ⟨-, -, -⟩
            refine GOp.op (OpY.move (v := (Value.bool r560)) rfl ?_)
            exact ⟨Ext.refl _, rfl⟩
           refine DrH.det ?_ ?_
           ·
            rintro w682 Z683 hE684 hZ685 ⟨-, -, -⟩
            refine GOp.yes (dj := 93) (b' := r560) rfl rfl hc563 (OpY.move (v := v507) rfl ?_)
            exact ⟨Ext.refl _, rfl⟩
           refine DrH.det ?_ ?_
           ·
            rintro w688 Z689 hE690 hZ691 ⟨-, -, -⟩
            have hL692 := hL610.ext hE690
            refine GOp.yes (dj := 93) (b' := r560) rfl rfl hc563 (OpY.ldBoxA (vs := [v409, (Value.bool r407.Bound.Negative), v411]) Try.underlying34 rfl ti34 rfl (hL692.at 0 rfl rfl) rfl rfl ?_)
            exact ⟨Ext.refl _, rfl⟩
           refine DrH.rel ?_ ?_
           ·
            rintro w694 Z695 hE696 hZ697 ⟨-, -, -⟩
            have hE565 : Els rIneq (Zv w608 w.heap.size None [some b414, some b381, some b1] Z695 w694) [v409, (Value.bool r407.Bound.Negative), v411] [r407] := (Els.cons (a := [v409, (Value.bool r407.Bound.Negative), v411]) (rIneq_close ⟨v409, v411, rfl, (((((k410.mono (K498 None)).mono (K503 None)).mono (K513 None)).mono (K611 None)).mono (Zv.old (Z := Z695) hE696)), (((((k412.mono (K498 None)).mono (K503 None)).mono (K513 None)).mono (K611 None)).mono (Zv.old (Z := Z695) hE696)), trivial⟩) Els.nil)
            refine GOp.yes (dj := 93) (b' := r560) rfl rfl hc563 (OpY.litRow (r := rIneq) (vs := [(Value.agg #[v409, (Value.bool r407.Bound.Negative), v411])]) (css := [[v409, (Value.bool r407.Bound.Negative), v411]]) (xs := [r407]) Try.underlying22 ti34 (Nat.le_of_ble_eq_true rfl) rfl rfl ⟨rfl, rfl, trivial⟩ (Nat.le_of_ble_eq_true rfl) hE565 rfl (Go.X.Loc.begin0 w694) ?_)
            intro b564 w700 hc566 hL701 hS702
            have hN703 : NewOwn w694 w700 [some b564] [Cont.cells ([] ++ ([v409, (Value.bool r407.Bound.Negative), v411] ++ []))] := hL701.newOwn [0] rfl rfl rfl
            exact Made.ext hL701.done hZ697 hN703 (fun _ h => h) ⟨b564, [v409, (Value.bool r407.Bound.Negative), v411], rfl, hN703.2.2.1, (hE565.mono (Zv.grow hL701.done)), hc566, trivial⟩
           intro z12
           refine DrH.rel ?_ ?_
           ·
            rintro w704 Z705 hE706 hZ707 ⟨⟨⟨b564, cs571, rfl, hO568, hE569, hc570, -⟩, hB12⟩, -, -, -⟩
            refine GOp.yes (dj := 93) (b' := r560) rfl rfl hc563 (OpY.apClip (r := rIneq) (v := v507) (xs := r505) (ys := [r407]) (Y := x572) Try.underlying22 ti34 rfl rfl rfl rfl ((k508.mono (K611 S)).mono (Zv.old (Z := Z705) hE706)) cl509 (Src.row (pre := []) (o := 0) (n := 1) (cap := 1) hO568 (hE569.mono (Zv.none (S := S))) rfl rfl rfl) (hE569.mono (Zv.none (S := S))) (Nat.le_of_ble_eq_true rfl) q574 q575 q576 (Go.X.Loc.begin0 w704) ?_)
            intro b577 cap578 sp580 cs579 w710 hE585 hc586 hL711 hS712
            have hN713 : NewOwn w704 w710 [some b577] [Cont.cells ([] ++ (cs579 ++ sp580))] := hL711.newOwn [0] rfl rfl rfl
            exact Made.ext hL711.done hZ707 hN713 (fun _ h => h) ⟨b577, cap578, cs579, sp580, rfl, hN713.2.2.1, (hE585.mono (Zv.grow hL711.done)), hc586, trivial⟩
           intro z13
           refine DrH.det ?_ ?_
           ·
            rintro w714 Z715 hE716 hZ717 ⟨-, -, -, -, -⟩
            refine GOp.yes (dj := 93) (b' := r560) rfl rfl hc563 (OpY.fieldAddr (q := 4) Try.underlying42 rfl ti40 rfl rfl rfl ?_)
            exact ⟨Ext.refl _, rfl⟩
           refine DrH.det ?_ ?_
           ·
            rintro w720 Z721 hE722 hZ723 ⟨-, -, -, -, -⟩
            have hL724 := hL610.ext hE722
            refine GOp.yes (dj := 93) (b' := r560) rfl rfl hc563 (OpY.ldBox1 (v := p_v3) Try.underlying40 rfl rfl (hL724.at 2 rfl rfl) rfl ?_)
            exact ⟨Ext.refl _, rfl⟩
           refine DrH.det ?_ ?_
           ·
            rintro w726 Z727 hE728 hZ729 ⟨-, -, -, -, -⟩
            refine GOp.yes (dj := 93) (b' := r560) rfl rfl hc563 (OpY.ixRoD (r := rProof) (v := p_v3) (n := n589) (m := (o593 + n589 * rProof.sz)) Try.underlying40 ti42 rfl q596 rfl q590 q591 rfl ?_)
            exact ⟨Ext.refl _, rfl⟩
           refine DrH.det ?_ ?_
           ·
            rintro w732 Z733 hE734 hZ735 ⟨-, -, -, -, -⟩
            have K737 := Keep.ext (s := w.heap.size) (O := [some b414, some b381, some b1]) hE734
            refine GOp.yes (dj := 93) (b' := r560) rfl rfl hc563 (OpY.ldRoA (vs := [v600, v602, (Value.bool x587.Bound.Negative), v604, v606]) Try.underlying42 rfl ti42 rfl rfl vw_view (At.mono (K737 S) (At.mono (K611 S) f598)) ?_)
            exact ⟨Ext.refl _, rfl⟩
           refine DrH.fin0 ?_
           rintro w738 Z739 hE740 hZ741 ⟨⟨⟨b577, cap578, cs579, sp580, rfl, hO584, hE585, hc586, -⟩, hB13⟩, ⟨⟨b564, cs571, rfl, hO568, hE569, hc570, -⟩, hB12⟩, ⟨⟨b528, cap529, cs530, sp531, rfl, hO535, hE536, hc537, -⟩, hB3⟩, ⟨⟨b515, cs522, rfl, hO519, hE520, hc521, -⟩, hB2⟩, -⟩ ap742
           have hB743 : ∀ b, some b ∈ ([some b577, some b564, some b528, some b515] : List (Option Nat)) → w608.heap.size ≤ b ∧ ¬ Z739 b := by
            intro b hb
            rcases List.mem_cons.1 hb with hb' | hb
            ·
             have := hB13 b (by rw [hb']; exact List.mem_cons_self); exact ⟨this.1, this.2.2⟩
            rcases List.mem_cons.1 hb with hb' | hb
            ·
             have := hB12 b (by rw [hb']; exact List.mem_cons_self); exact ⟨this.1, this.2.2⟩
            rcases List.mem_cons.1 hb with hb' | hb
            ·
             have := hB3 b (by rw [hb']; exact List.mem_cons_self); exact ⟨this.1, this.2.2⟩
            rcases List.mem_cons.1 hb with hb' | hb
            ·
             have := hB2 b (by rw [hb']; exact List.mem_cons_self); exact ⟨this.1, this.2.2⟩
            cases hb
           replace hE585 := hE585.mono (Zv.fin hL610 hZ741 hB743)
           replace hE569 := hE569.mono (Zv.fin hL610 hZ741 hB743)
           replace hE536 := hE536.mono (Zv.fin hL610 hZ741 hB743)
           replace hE520 := hE520.mono (Zv.fin hL610 hZ741 hB743)
           have hN746 : NewOwn w608 w738 [some b577, some b564, some b528, some b515] [Cont.cells ([] ++ (cs579 ++ sp580)), Cont.cells ([] ++ (cs571 ++ [])), Cont.cells ([] ++ (cs530 ++ sp531)), Cont.cells ([] ++ (cs522 ++ []))] := (NewOwn.cons (NewOwn.cons (NewOwn.cons (NewOwn.cons NewOwn.nil hO519 (fun b hb => (hB743 b (by rw [← hb]; simp)).1) (fun b _ hb => by cases hb)) hO535 (fun b hb => (hB743 b (by rw [← hb]; simp)).1) (fun b hb hm => (List.mem_cons.1 hm).elim (fun e => apE (ap742.2.2.1) rfl rfl b ((footV_osv (ob := (some b528)) (o := 0) (n := (List.length x523)) (cap := cap529)).2 hb) ((footV_osv (ob := (some b515)) (o := 0) (n := 1) (cap := 1)).2 (by rw [e]; exact List.mem_cons_self))) (fun hm => by cases hm))) hO568 (fun b hb => (hB743 b (by rw [← hb]; simp)).1) (fun b hb hm => (List.mem_cons.1 hm).elim (fun e => apE (ap742.2.1) rfl rfl b ((footV_osv (ob := (some b564)) (o := 0) (n := 1) (cap := 1)).2 hb) ((footV_osv (ob := (some b528)) (o := 0) (n := (List.length x523)) (cap := cap529)).2 (by rw [e]; exact List.mem_cons_self))) (fun hm => (List.mem_cons.1 hm).elim (fun e => apE (ap742.2.1.2) rfl rfl b ((footV_osv (ob := (some b564)) (o := 0) (n := 1) (cap := 1)).2 hb) ((footV_osv (ob := (some b515)) (o := 0) (n := 1) (cap := 1)).2 (by rw [e]; exact List.mem_cons_self))) (fun hm => by cases hm)))) hO584 (fun b hb => (hB743 b (by rw [← hb]; simp)).1) (fun b hb hm => (List.mem_cons.1 hm).elim (fun e => apE (ap742.1) rfl rfl b ((footV_osv (ob := (some b577)) (o := 0) (n := (List.length x572)) (cap := cap578)).2 hb) ((footV_osv (ob := (some b564)) (o := 0) (n := 1) (cap := 1)).2 (by rw [e]; exact List.mem_cons_self))) (fun hm => (List.mem_cons.1 hm).elim (fun e => apE (ap742.1.2) rfl rfl b ((footV_osv (ob := (some b577)) (o := 0) (n := (List.length x572)) (cap := cap578)).2 hb) ((footV_osv (ob := (some b528)) (o := 0) (n := (List.length x523)) (cap := cap529)).2 (by rw [e]; exact List.mem_cons_self))) (fun hm => (List.mem_cons.1 hm).elim (fun e => apE (ap742.1.2.2) rfl rfl b ((footV_osv (ob := (some b577)) (o := 0) (n := (List.length x572)) (cap := cap578)).2 hb) ((footV_osv (ob := (some b515)) (o := 0) (n := 1) (cap := 1)).2 (by rw [e]; exact List.mem_cons_self))) (fun hm => by cases hm)))))
           have hp747 := hL610.adoptL hE740 hN746
           have hL744 : Go.X.Loc [] [] w w738 [some b577, some b564, some b528, some b515, some b414, some b381, some b1] [Cont.cells ([] ++ (cs579 ++ sp580)), Cont.cells ([] ++ (cs571 ++ [])), Cont.cells ([] ++ (cs530 ++ sp531)), Cont.cells ([] ++ (cs522 ++ [])), Cont.cells [v409, (Value.bool r407.Bound.Negative), v411], Cont.cells [p_v1, (Value.bool p.Bound.Negative), p_v2], Cont.cells [p_v, p_v1, (Value.bool p.Bound.Negative), p_v2, p_v3]] := hp747.1
           have K745 := Keep.step (s := w.heap.size) hp747.2
           obtain ⟨r748, q749, h⟩ := bind_some h
           have f751 := ((k601.mono (K611 S)).mono (K745 S))
           have f752 := ((k603.mono (K611 S)).mono (K745 S))
           have f753 := ((k605.mono (K611 S)).mono (K745 S))
           have f754 := ((k607.mono (K611 S)).mono (K745 S))
           refine Rl.yes (dj := 93) (b' := r560) rfl rfl hc563 (OpY.call en18 rfl rfl (ih x572 x587 (osv (some b577) 0 (List.length x572) cap578) v600 v602 v604 v606 _ Any (own_row_any (pre := []) (o := 0) (n := (List.length x572)) (cap := cap578) (hL744.at 0 rfl rfl) hE585 vw_any rfl rfl rfl hc586) (f751.mono vw_any) (f752.mono vw_any) (f753.mono vw_any) (f754.mono vw_any) r748 q749) ?_)
           rintro _ w755 hE758 ⟨rfl, -⟩
           have hL756 := hL744.ext hE758
           refine Rl.op (OpY.pick_t (t := r560) (v := (Value.bool r748)) rfl hc563 rfl ?_)
           refine Rl.op (OpY.assign (v := (Value.bool r748)) rfl ?_)
           refine Rl.nil ?_
           refine Swp.ret ?_
           obtain rfl := Option.some.inj h
           refine ⟨[(Value.bool r748)], ⟨rfl, trivial⟩, ⟨_, rfl, hL756.done, ?_⟩⟩
           exact ⟨rfl, trivial⟩
         ·
          replace h := ite_f hc563 h
          refine Swp.drawL 18 [] [] (fun W1 => [.det v507, .det (Value.agg #[p_v1, (Value.bool p.Bound.Negative), p_v2]), .rel (fun v Z w' => ∃ b515 cs522, (osv (some b515) 0 1 1) = v ∧ OwnC w' (some b515) (Cont.cells ([] ++ (cs522 ++ []))) ∧ Els rIneq (Zv W1 w.heap.size S [some b414, some b381, some b1] Z w') cs522 [(Ineq.mk p.Form p.Bound)] ∧ (cs522 ++ [] : List Value).length = 1 * rIneq.sz ∧ True) footV, .rel (fun v Z w' => ∃ b528 cap529 cs530 sp531, (osv (some b528) 0 (List.length x523) cap529) = v ∧ OwnC w' (some b528) (Cont.cells ([] ++ (cs530 ++ sp531))) ∧ Els rIneq (Zv W1 w.heap.size S [some b414, some b381, some b1] Z w') cs530 x523 ∧ (cs530 ++ sp531 : List Value).length = cap529 * rIneq.sz ∧ True) footV, .det (Value.pointer (some ⟨b1, 4, none⟩)), .det p_v3, .det (Value.pointer (some ⟨b543, (o544 + n540 * rProof.sz), none⟩)), .det (Value.agg #[v551, v553, (Value.bool x538.Bound.Negative), v555, v557]), .det (Value.bool r560), .det (Value.bool r560), .det undef, .det undef, .det undef, .det undef, .det undef, .det undef, .det undef, .det undef]) mixed rfl rfl rfl (fun _ => rfl) (fun _ => rfl) ?_ ?_
          ·
           intro W1 _
           exact ⟨fun v Z Z' w w' hΦ hz _ _ hs => by obtain ⟨b515, cs522, rfl, hO519, hE520, hc521, -⟩ := hΦ; exact ⟨b515, cs522, rfl, (hO519.stay (fun b hb => by cases hb; exact List.mem_cons_self) hs), (hE520.mono (Zv.stay hz hs)), hc521, trivial⟩, ⟨fun v Z Z' w w' hΦ hz _ _ hs => by obtain ⟨b528, cap529, cs530, sp531, rfl, hO535, hE536, hc537, -⟩ := hΦ; exact ⟨b528, cap529, cs530, sp531, rfl, (hO535.stay (fun b hb => by cases hb; exact List.mem_cons_self) hs), (hE536.mono (Zv.stay hz hs)), hc537, trivial⟩, trivial⟩⟩
          ·
           intro w759 hE760
           have hL761 := hL512.ext hE760
           have K762 := Keep.ext (s := w.heap.size) (O := [some b414, some b381, some b1]) hE760
           refine DrH.det ?_ ?_
           ·
            rintro w763 Z764 hE765 hZ766 ⟨-⟩
            refine GOp.op (OpY.move (v := v507) rfl ?_)
            exact ⟨Ext.refl _, rfl⟩
           refine DrH.det ?_ ?_
           ·
            rintro w769 Z770 hE771 hZ772 ⟨-⟩
            have hL773 := hL761.ext hE771
            refine GOp.op (OpY.ldBoxA (vs := [p_v1, (Value.bool p.Bound.Negative), p_v2]) Try.underlying34 rfl ti34 rfl (hL773.at 1 rfl rfl) rfl rfl ?_)
            exact ⟨Ext.refl _, rfl⟩
           refine DrH.rel ?_ ?_
           ·
            rintro w775 Z776 hE777 hZ778 ⟨-⟩
            have hE516 : Els rIneq (Zv w759 w.heap.size S [some b414, some b381, some b1] Z776 w775) [p_v1, (Value.bool p.Bound.Negative), p_v2] [(Ineq.mk p.Form p.Bound)] := (Els.cons (a := [p_v1, (Value.bool p.Bound.Negative), p_v2]) (rIneq_close ⟨p_v1, p_v2, rfl, ((((((((f387.mono (K390 S)).mono (K419 S)).mono (K493 S)).mono (K498 S)).mono (K503 S)).mono (K513 S)).mono (K762 S)).mono (Zv.old (Z := Z776) hE777)), ((((((((f386.mono (K390 S)).mono (K419 S)).mono (K493 S)).mono (K498 S)).mono (K503 S)).mono (K513 S)).mono (K762 S)).mono (Zv.old (Z := Z776) hE777)), trivial⟩) Els.nil)
            refine GOp.op (OpY.litRow (r := rIneq) (vs := [(Value.agg #[p_v1, (Value.bool p.Bound.Negative), p_v2])]) (css := [[p_v1, (Value.bool p.Bound.Negative), p_v2]]) (xs := [(Ineq.mk p.Form p.Bound)]) Try.underlying22 ti34 (Nat.le_of_ble_eq_true rfl) rfl rfl ⟨rfl, rfl, trivial⟩ (Nat.le_of_ble_eq_true rfl) hE516 rfl (Go.X.Loc.begin0 w775) ?_)
            intro b515 w781 hc517 hL782 hS783
            have hN784 : NewOwn w775 w781 [some b515] [Cont.cells ([] ++ ([p_v1, (Value.bool p.Bound.Negative), p_v2] ++ []))] := hL782.newOwn [0] rfl rfl rfl
            exact Made.ext hL782.done hZ778 hN784 (fun _ h => h) ⟨b515, [p_v1, (Value.bool p.Bound.Negative), p_v2], rfl, hN784.2.2.1, (hE516.mono (Zv.grow hL782.done)), hc517, trivial⟩
           intro z2
           refine DrH.rel ?_ ?_
           ·
            rintro w785 Z786 hE787 hZ788 ⟨⟨⟨b515, cs522, rfl, hO519, hE520, hc521, -⟩, hB2⟩, -⟩
            refine GOp.op (OpY.apClip (r := rIneq) (v := v507) (xs := r505) (ys := [(Ineq.mk p.Form p.Bound)]) (Y := x523) Try.underlying22 ti34 rfl rfl rfl rfl ((k508.mono (K762 S)).mono (Zv.old (Z := Z786) hE787)) cl509 (Src.row (pre := []) (o := 0) (n := 1) (cap := 1) hO519 hE520 rfl rfl rfl) hE520 (Nat.le_of_ble_eq_true rfl) q525 q526 q527 (Go.X.Loc.begin0 w785) ?_)
            intro b528 cap529 sp531 cs530 w791 hE536 hc537 hL792 hS793
            have hN794 : NewOwn w785 w791 [some b528] [Cont.cells ([] ++ (cs530 ++ sp531))] := hL792.newOwn [0] rfl rfl rfl
            exact Made.ext hL792.done hZ788 hN794 (fun _ h => h) ⟨b528, cap529, cs530, sp531, rfl, hN794.2.2.1, (hE536.mono (Zv.grow hL792.done)), hc537, trivial⟩
           intro z3
           refine DrH.det ?_ ?_
           ·
            rintro w795 Z796 hE797 hZ798 ⟨-, -, -⟩
            refine GOp.op (OpY.fieldAddr (q := 4) Try.underlying42 rfl ti40 rfl rfl rfl ?_)
            exact ⟨Ext.refl _, rfl⟩
           refine DrH.det ?_ ?_
           ·
            rintro w801 Z802 hE803 hZ804 ⟨-, -, -⟩
            have hL805 := hL761.ext hE803
            refine GOp.op (OpY.ldBox1 (v := p_v3) Try.underlying40 rfl rfl (hL805.at 2 rfl rfl) rfl ?_)
            exact ⟨Ext.refl _, rfl⟩
           refine DrH.det ?_ ?_
           ·
            rintro w807 Z808 hE809 hZ810 ⟨-, -, -⟩
            refine GOp.op (OpY.ixRoD (r := rProof) (v := p_v3) (n := n540) (m := (o544 + n540 * rProof.sz)) Try.underlying40 ti42 rfl q547 rfl q541 q542 rfl ?_)
            exact ⟨Ext.refl _, rfl⟩
           refine DrH.det ?_ ?_
           ·
            rintro w813 Z814 hE815 hZ816 ⟨-, -, -⟩
            have K818 := Keep.ext (s := w.heap.size) (O := [some b414, some b381, some b1]) hE815
            refine GOp.op (OpY.ldRoA (vs := [v551, v553, (Value.bool x538.Bound.Negative), v555, v557]) Try.underlying42 rfl ti42 rfl rfl vw_view (At.mono (K818 S) (At.mono (K762 S) f549)) ?_)
            exact ⟨Ext.refl _, rfl⟩
           refine DrH.det ?_ ?_
           ·
            rintro w819 Z820 hE821 hZ822 ⟨⟨⟨b528, cap529, cs530, sp531, rfl, hO535, hE536, hc537, -⟩, hB3⟩, -, -⟩
            have K824 := Keep.ext (s := w.heap.size) (O := [some b414, some b381, some b1]) hE821
            refine GOp.op (OpY.call en18 rfl rfl (ih x523 x538 (osv (some b528) 0 (List.length x523) cap529) v551 v553 v555 v557 _ Any (own_row_any (pre := []) (o := 0) (n := (List.length x523)) (cap := cap529) hO535 hE536 vw_any rfl rfl rfl hc537) (((k552.mono (K762 S)).mono (K824 S)).mono vw_any) (((k554.mono (K762 S)).mono (K824 S)).mono vw_any) (((k556.mono (K762 S)).mono (K824 S)).mono vw_any) (((k558.mono (K762 S)).mono (K824 S)).mono vw_any) r560 q561) ?_)
            rintro _ w825 hE826 ⟨rfl, -⟩
            exact ⟨hE826, rfl⟩
           refine DrH.det ?_ ?_
           ·
            rintro w827 Z828 hE829 hZ830 ⟨-, -, -⟩
            refine GOp.op (OpY.move (v := (Value.bool r560)) rfl ?_)
            exact ⟨Ext.refl _, rfl⟩
           refine DrH.det ?_ ?_
           ·
            rintro w833 Z834 hE835 hZ836 ⟨-, -, -⟩
            exact GOp.no (dj := 93) (b' := r560) rfl rfl (eq_false_of_ne_true hc563) ⟨Ext.refl _, rfl⟩
           refine DrH.det ?_ ?_
           ·
            rintro w839 Z840 hE841 hZ842 ⟨-, -, -⟩
            exact GOp.no (dj := 93) (b' := r560) rfl rfl (eq_false_of_ne_true hc563) ⟨Ext.refl _, rfl⟩
           refine DrH.det ?_ ?_
           ·
            rintro w845 Z846 hE847 hZ848 ⟨-, -, -⟩
            exact GOp.no (dj := 93) (b' := r560) rfl rfl (eq_false_of_ne_true hc563) ⟨Ext.refl _, rfl⟩
           refine DrH.det ?_ ?_
           ·
            rintro w851 Z852 hE853 hZ854 ⟨-, -, -⟩
            exact GOp.no (dj := 93) (b' := r560) rfl rfl (eq_false_of_ne_true hc563) ⟨Ext.refl _, rfl⟩
           refine DrH.det ?_ ?_
           ·
            rintro w857 Z858 hE859 hZ860 ⟨-, -, -⟩
            exact GOp.no (dj := 93) (b' := r560) rfl rfl (eq_false_of_ne_true hc563) ⟨Ext.refl _, rfl⟩
           refine DrH.det ?_ ?_
           ·
            rintro w863 Z864 hE865 hZ866 ⟨-, -, -⟩
            exact GOp.no (dj := 93) (b' := r560) rfl rfl (eq_false_of_ne_true hc563) ⟨Ext.refl _, rfl⟩
           refine DrH.det ?_ ?_
           ·
            rintro w869 Z870 hE871 hZ872 ⟨-, -, -⟩
            exact GOp.no (dj := 93) (b' := r560) rfl rfl (eq_false_of_ne_true hc563) ⟨Ext.refl _, rfl⟩
           refine DrH.det ?_ ?_
           ·
            rintro w875 Z876 hE877 hZ878 ⟨-, -, -⟩
            exact GOp.no (dj := 93) (b' := r560) rfl rfl (eq_false_of_ne_true hc563) ⟨Ext.refl _, rfl⟩
           refine DrH.fin0 ?_
           rintro w881 Z882 hE883 hZ884 ⟨⟨⟨b528, cap529, cs530, sp531, rfl, hO535, hE536, hc537, -⟩, hB3⟩, ⟨⟨b515, cs522, rfl, hO519, hE520, hc521, -⟩, hB2⟩, -⟩ ap885
           have hB886 : ∀ b, some b ∈ ([some b528, some b515] : List (Option Nat)) → w759.heap.size ≤ b ∧ ¬ Z882 b := by
            intro b hb
            rcases List.mem_cons.1 hb with hb' | hb
            ·
             have := hB3 b (by rw [hb']; exact List.mem_cons_self); exact ⟨this.1, this.2.2⟩
            rcases List.mem_cons.1 hb with hb' | hb
            ·
             have := hB2 b (by rw [hb']; exact List.mem_cons_self); exact ⟨this.1, this.2.2⟩
            cases hb
           replace hE536 := hE536.mono (Zv.fin hL761 hZ884 hB886)
           replace hE520 := hE520.mono (Zv.fin hL761 hZ884 hB886)
           have hN889 : NewOwn w759 w881 [some b528, some b515] [Cont.cells ([] ++ (cs530 ++ sp531)), Cont.cells ([] ++ (cs522 ++ []))] := (NewOwn.cons (NewOwn.cons NewOwn.nil hO519 (fun b hb => (hB886 b (by rw [← hb]; simp)).1) (fun b _ hb => by cases hb)) hO535 (fun b hb => (hB886 b (by rw [← hb]; simp)).1) (fun b hb hm => (List.mem_cons.1 hm).elim (fun e => apE (ap885.1) rfl rfl b ((footV_osv (ob := (some b528)) (o := 0) (n := (List.length x523)) (cap := cap529)).2 hb) ((footV_osv (ob := (some b515)) (o := 0) (n := 1) (cap := 1)).2 (by rw [e]; exact List.mem_cons_self))) (fun hm => by cases hm)))
           have hp890 := hL761.adoptL hE883 hN889
           have hL887 : Go.X.Loc [] [] w w881 [some b528, some b515, some b414, some b381, some b1] [Cont.cells ([] ++ (cs530 ++ sp531)), Cont.cells ([] ++ (cs522 ++ [])), Cont.cells [v409, (Value.bool r407.Bound.Negative), v411], Cont.cells [p_v1, (Value.bool p.Bound.Negative), p_v2], Cont.cells [p_v, p_v1, (Value.bool p.Bound.Negative), p_v2, p_v3]] := hp890.1
           refine Rl.no (dj := 93) (b' := r560) rfl rfl (eq_false_of_ne_true hc563) ?_
           refine Rl.op (OpY.pick_f (t := r560) (v := (Value.bool false)) rfl (eq_false_of_ne_true hc563) rfl ?_)
           refine Rl.op (OpY.assign (v := (Value.bool false)) rfl ?_)
           refine Rl.nil ?_
           refine Swp.ret ?_
           obtain rfl := Option.some.inj h
           refine ⟨[(Value.bool false)], ⟨rfl, trivial⟩, ⟨_, rfl, hL887.done, ?_⟩⟩
           exact ⟨rfl, trivial⟩
     ·
      replace h := ite_f hc357 h
      refine Swp.seq ?_
      refine Swp.region rfl ?_
      refine Rl.op (OpY.assign (v := (Value.bool false)) rfl ?_)
      refine Rl.nil ?_
      refine Swp.ret ?_
      obtain rfl := Option.some.inj h
      refine ⟨[(Value.bool false)], ⟨rfl, trivial⟩, ⟨_, rfl, hL340.done, ?_⟩⟩
      exact ⟨rfl, trivial⟩
theorem cHolds_w (N : Nat) (q : Ineq) (x : (List Big)) (q_v : Value) (q_v1 : Value) (x_v : Value) (w : World) (S : Nat → Prop) (q_h : Rs rBig (Hv w.heap.size S [] w) q_v q.Coefs) (q_h1 : Rs (rInt .u32) (Hv w.heap.size S [] w) q_v1 q.Bound.Digits) (x_h : Rs rBig (Hv w.heap.size S [] w) x_v x) (r : Bool) (h : cHolds N q x = some r) :
  Calls Try.prog 28 #[(Value.agg #[q_v, (Value.bool q.Bound.Negative), q_v1]), x_v] w (Ret w (fun v w' => (Value.bool r) = v ∧ True)) := by
 unfold cHolds at h
 have hL : Go.X.Loc [] [] w w [] [] := Go.X.Loc.begin0 w
 refine calls_of (l := [(Value.agg #[q_v, (Value.bool q.Bound.Negative), q_v1]), x_v]) (rl := [.tmp 4]) (n := 37) Try.func28 rfl rfl rfl (Nat.le_of_ble_eq_true rfl) ?_
 refine Swp.seq ?_
 refine Swp.region rfl ?_
 refine Rl.op (OpY.box (cs := [q_v, (Value.bool q.Bound.Negative), q_v1]) rfl rfl hL ?_)
 intro b1 w2 (hL3 : Go.X.Loc [] [] w w2 [some b1] [Cont.cells [q_v, (Value.bool q.Bound.Negative), q_v1]]) hS5
 have K4 := Keep.step (s := w.heap.size) hS5
 refine Rl.op (OpY.assign (v := (Value.bool false)) rfl ?_)
 refine Rl.nil ?_
 refine Swp.seq ?_
 refine Swp.seq ?_
 refine Swp.region rfl ?_
 refine Rl.op (OpY.fieldAddr (q := 0) Try.underlying34 rfl ti32 rfl rfl rfl ?_)
 refine Rl.op (OpY.ldBox1 (v := q_v) Try.underlying32 rfl rfl (hL3.at 0 rfl rfl) rfl ?_)
 have f6 := (q_h.mono (K4 S))
 refine Rl.op (OpY.lenRo (v := q_v) Try.underlying32 rfl f6 ?_)
 refine Rl.op (OpY.move (v := x_v) rfl ?_)
 have f7 := (x_h.mono (K4 S))
 refine Rl.op (OpY.lenRo (v := x_v) Try.underlying32 rfl f7 ?_)
 refine Rl.op (OpY.neq (x := (List.length q.Coefs : Int)) (y := (List.length x : Int)) (((List.length q.Coefs : Int) : Int) ≠ (List.length x : Int)) rfl rfl Iff.rfl ?_)
 refine Rl.nil ?_
 refine Swp.cond_d (((List.length q.Coefs : Int) : Int) ≠ (List.length x : Int)) rfl (fun hc8 => ?_) (fun hc8 => ?_)
 ·
  replace h := ite_t hc8 h
  refine Swp.seq ?_
  refine Swp.region rfl ?_
  refine Rl.op (OpY.assign (v := (Value.bool false)) rfl ?_)
  refine Rl.nil ?_
  refine Swp.ret ?_
  obtain rfl := Option.some.inj h
  refine ⟨[(Value.bool false)], ⟨rfl, trivial⟩, ⟨_, rfl, hL3.done, ?_⟩⟩
  exact ⟨rfl, trivial⟩
 ·
  replace h := ite_f hc8 h
  refine Swp.skip ?_
  refine Swp.seq ?_
  refine Swp.region rfl ?_
  refine Rl.op (OpY.build (zc := [(Value.bool false), (Value.slice none 0 0)]) (cs := [(Value.bool false), (Value.slice none 0 0)]) (is := []) (vs := []) (css := []) pl26 ti26 rfl rfl rfl trivial rfl ?_)
  refine Rl.op (OpY.alloc (cs := [(Value.bool false), (Value.slice none 0 0)]) ti26 rfl hL3 ?_)
  intro b9 w10 (hL11 : Go.X.Loc [] [] w w10 [some b9, some b1] [Cont.cells [(Value.bool false), (Value.slice none 0 0)], Cont.cells [q_v, (Value.bool q.Bound.Negative), q_v1]]) hS13
  have K12 := Keep.step (s := w.heap.size) hS13
  refine Rl.op0 (OpY.store (vs := [(Value.bool false), (Value.slice none 0 0)]) ti26 rfl rfl rfl rfl (ones_cons rfl (ones_cons rfl ones_nil)) hL11 0 rfl rfl (Nat.le_of_ble_eq_true rfl) ?_)
  intro w14 (hL15 : Go.X.Loc [] [] w w14 [some b9, some b1] [Cont.cells [(Value.bool false), (Value.slice none 0 0)], Cont.cells [q_v, (Value.bool q.Bound.Negative), q_v1]]) hS17
  have K16 := Keep.step (s := w.heap.size) hS17
  refine Rl.nil ?_
  refine Swp.seq ?_
  refine Swp.seq ?_
  refine Swp.region rfl ?_
  refine Rl.op (OpY.fieldAddr (q := 0) Try.underlying34 rfl ti32 rfl rfl rfl ?_)
  refine Rl.op (OpY.ldBox1 (v := q_v) Try.underlying32 rfl rfl (hL15.at 1 rfl rfl) rfl ?_)
  have f18 := ((f6.mono (K12 S)).mono (K16 S))
  refine Rl.op (OpY.lenRo (v := q_v) Try.underlying32 rfl f18 ?_)
  refine Rl.op (OpY.move (v := (Value.int .i64 0)) rfl ?_)
  refine Rl.nil ?_
  obtain ⟨s282, hl284, g283⟩ := bind_some h
  refine Swp.join (fun e w' => ∃ (negative278 : Bool) (digits279 : (List Int)) (v280 : Value) (u : Env), (negative278, digits279) = s282 ∧ e = upds [(2, (Value.pointer (some ⟨b1, 0, none⟩))), (5, (Value.pointer (some ⟨b9, 0, none⟩)))] u ∧ Go.X.Loc [] [] w w' [some b1, some b9] [Cont.cells [q_v, (Value.bool q.Bound.Negative), q_v1], Cont.cells [(Value.bool negative278), v280]] ∧ Keep w.heap.size [some b9, some b1] w14 [some b1, some b9] w' ∧ Rs (rInt .u32) (Hv w.heap.size None [some b1, some b9] w') v280 digits279 ∧ True) ?_ ?_
  ·
   refine Swp.block ?_
   have hp286 := hL15.pick [1, 0] rfl rfl rfl
   have hL288 : Go.X.Loc [] [] w w14 [some b1, some b9] [Cont.cells [q_v, (Value.bool q.Bound.Negative), q_v1], Cont.cells [(Value.bool false), (Value.slice none 0 0)]] := hp286.1
   have K287 := Keep.step (s := w.heap.size) hp286.2
   refine Swp.loopM hl284 (fun (ss : (Bool × (List Int) × Int)) (e : Env) (w' : World) => match ss with | (negative271, digits272, x275) => ∃ (v273 : Value) (u : Env), e = upds [(1, x_v), (2, (Value.pointer (some ⟨b1, 0, none⟩))), (5, (Value.pointer (some ⟨b9, 0, none⟩))), (16, q_v), (17, (Value.int .i64 (List.length q.Coefs : Int))), (18, (Value.int .i64 x275))] u ∧ Go.X.Loc [] [] w w' [some b1, some b9] [Cont.cells [q_v, (Value.bool q.Bound.Negative), q_v1], Cont.cells [(Value.bool negative271), v273]] ∧ Keep w.heap.size [some b9, some b1] w14 [some b1, some b9] w' ∧ Rs (rInt .u32) (Hv w.heap.size None [some b1, some b9] w') v273 digits272 ∧ True) ⟨(Value.slice none 0 0), _, (upds_sym ⟨rfl, ⟨rfl, ⟨rfl, ⟨rfl, ⟨rfl, ⟨rfl, trivial⟩⟩⟩⟩⟩⟩), hL288, K287, Rs.nil, trivial⟩ ?_
   rintro ⟨negative271, digits272, x275⟩ oo _ w289 ⟨v273, u, rfl, hL290, K291, k274, -⟩ h hd285
   rw [cHolds_b1] at h
   refine Swp.seq ?_
   refine Swp.region rfl ?_
   refine Rl.op (OpY.lss (x := x275) (y := (List.length q.Coefs : Int)) ((x275 : Int) < (List.length q.Coefs : Int)) rfl rfl Iff.rfl ?_)
   refine Rl.nil ?_
   refine Swp.seq ?_
   refine Swp.cond_d ((x275 : Int) < (List.length q.Coefs : Int)) rfl (fun hc292 => ?_) (fun hc292 => ?_)
   ·
    replace h := ite_t hc292 h
    refine Swp.skip ?_
    refine Swp.seq ?_
    refine Swp.block ?_
    refine Swp.seq ?_
    refine Swp.region rfl ?_
    refine Rl.op (OpY.move (v := (Value.int .i64 x275)) rfl ?_)
    obtain ⟨x293, q294, h⟩ := bind_some h
    obtain ⟨n295, q296, q297⟩ := idx_some q294
    have f308 := (f18.mono (K291 S))
    obtain ⟨b298, o299, c300, vs301, q302, q303, f304, q305⟩ := Rs.get f308 q297
    obtain ⟨v306, rfl, k307, -⟩ := rBig_open q305
    refine Rl.op (OpY.ixRoD (r := rBig) (v := q_v) (n := n295) (m := (o299 + n295 * rBig.sz)) Try.underlying32 ti26 rfl q302 rfl q296 q297 rfl ?_)
    refine Rl.op (OpY.ldRoA (vs := [(Value.bool x293.Negative), v306]) Try.underlying26 rfl ti26 rfl rfl vw_view f304 ?_)
    refine Rl.op (OpY.alloc (cs := [(Value.bool false), (Value.slice none 0 0)]) ti26 rfl hL290 ?_)
    intro b309 w310 (hL311 : Go.X.Loc [] [] w w310 [some b309, some b1, some b9] [Cont.cells [(Value.bool false), (Value.slice none 0 0)], Cont.cells [q_v, (Value.bool q.Bound.Negative), q_v1], Cont.cells [(Value.bool negative271), v273]]) hS313
    have K312 := Keep.step (s := w.heap.size) hS313
    refine Rl.op (OpY.assign (v := (Value.int .i64 x275)) rfl ?_)
    have f314 := (k307.mono (K312 S))
    refine Rl.op0 (OpY.store (vs := [(Value.bool x293.Negative), v306]) ti26 rfl rfl rfl rfl (ones_cons rfl (ones_cons f314.one ones_nil)) hL311 0 rfl rfl (Nat.le_of_ble_eq_true rfl) ?_)
    intro w315 (hL316 : Go.X.Loc [] [] w w315 [some b309, some b1, some b9] [Cont.cells [(Value.bool x293.Negative), v306], Cont.cells [q_v, (Value.bool q.Bound.Negative), q_v1], Cont.cells [(Value.bool negative271), v273]]) hS318
    have K317 := Keep.step (s := w.heap.size) hS318
    refine Rl.nil ?_
    obtain ⟨x319, q320, h⟩ := bind_some h
    obtain ⟨n321, q322, q323⟩ := idx_some q320
    have f334 := (((((f7.mono (K12 S)).mono (K16 S)).mono (K291 S)).mono (K312 S)).mono (K317 S))
    obtain ⟨b324, o325, c326, vs327, q328, q329, f330, q331⟩ := Rs.get f334 q323
    obtain ⟨v332, rfl, k333, -⟩ := rBig_open q331
    obtain ⟨r335, q336, h⟩ := bind_some h
    refine Swp.drawL 7 [] [] (fun W1 => [.det (Value.agg #[(Value.bool negative271), v273]), .det (Value.agg #[(Value.bool x293.Negative), v306]), .det x_v, .det (Value.int .i64 x275), .det (Value.pointer (some ⟨b324, (o325 + n321 * rBig.sz), none⟩)), .det (Value.agg #[(Value.bool x319.Negative), v332]), .rel (fun v Z w' => ∃ v337, (Value.agg #[(Value.bool r335.Negative), v337]) = v ∧ Rs (rInt .u32) (Zv W1 w.heap.size None [some b309, some b1, some b9] Z w') v337 r335.Digits ∧ True) (fun _ => [])]) mixed rfl rfl rfl (fun _ => rfl) (fun _ => rfl) ?_ ?_
    ·
     intro W1 _
     exact ⟨fun v Z Z' w w' hΦ hz _ _ hs => by obtain ⟨v337, rfl, k338, -⟩ := hΦ; exact ⟨v337, rfl, (k338.mono (Zv.stay hz hs)), trivial⟩, trivial⟩
    ·
     intro w340 hE341
     have hL342 := hL316.ext hE341
     have K343 := Keep.ext (s := w.heap.size) (O := [some b309, some b1, some b9]) hE341
     refine DrH.det ?_ ?_
     ·
      rintro w344 Z345 hE346 hZ347 ⟨-⟩
      have hL348 := hL342.ext hE346
      refine GOp.op (OpY.ldBoxA (vs := [(Value.bool negative271), v273]) Try.underlying26 rfl ti26 rfl (hL348.at 2 rfl rfl) rfl rfl ?_)
      exact ⟨Ext.refl _, rfl⟩
     refine DrH.det ?_ ?_
     ·
      rintro w350 Z351 hE352 hZ353 ⟨-⟩
      have hL354 := hL342.ext hE352
      refine GOp.op (OpY.ldBoxA (vs := [(Value.bool x293.Negative), v306]) Try.underlying26 rfl ti26 rfl (hL354.at 0 rfl rfl) rfl rfl ?_)
      exact ⟨Ext.refl _, rfl⟩
     refine DrH.det ?_ ?_
     ·
      rintro w356 Z357 hE358 hZ359 ⟨-⟩
      refine GOp.op (OpY.move (v := x_v) rfl ?_)
      exact ⟨Ext.refl _, rfl⟩
     refine DrH.det ?_ ?_
     ·
      rintro w362 Z363 hE364 hZ365 ⟨-⟩
      refine GOp.op (OpY.move (v := (Value.int .i64 x275)) rfl ?_)
      exact ⟨Ext.refl _, rfl⟩
     refine DrH.det ?_ ?_
     ·
      rintro w368 Z369 hE370 hZ371 ⟨-⟩
      refine GOp.op (OpY.ixRoD (r := rBig) (v := x_v) (n := n321) (m := (o325 + n321 * rBig.sz)) Try.underlying32 ti26 rfl q328 rfl q322 q323 rfl ?_)
      exact ⟨Ext.refl _, rfl⟩
     refine DrH.det ?_ ?_
     ·
      rintro w374 Z375 hE376 hZ377 ⟨-⟩
      have K379 := Keep.ext (s := w.heap.size) (O := [some b309, some b1, some b9]) hE376
      refine GOp.op (OpY.ldRoA (vs := [(Value.bool x319.Negative), v332]) Try.underlying26 rfl ti26 rfl rfl vw_view (At.mono (K379 S) (At.mono (K343 S) f330)) ?_)
      exact ⟨Ext.refl _, rfl⟩
     refine DrH.rel ?_ ?_
     ·
      rintro w380 Z381 hE382 hZ383 ⟨-⟩
      have K385 := Keep.ext (s := w.heap.size) (O := [some b309, some b1, some b9]) hE382
      refine GOp.op (OpY.call en47 rfl rfl (bMul_w N x293 x319 v306 v332 _ Any ((((f314.mono (K317 S)).mono (K343 S)).mono (K385 S)).mono vw_any) (((k333.mono (K343 S)).mono (K385 S)).mono vw_any) r335 q336) ?_)
      rintro _ w386 hE387 ⟨v337, rfl, k338, -⟩
      exact Made.ext hE387 hZ383 NewOwn.nil (fun _ h => h) ⟨v337, rfl, (k338.mono Zv.made), trivial⟩
     intro z6
     refine DrH.fin0 ?_
     rintro w388 Z389 hE390 hZ391 ⟨⟨⟨v337, rfl, k338, -⟩, hB6⟩, -⟩ ap392
     have hB393 : ∀ b, some b ∈ ([] : List (Option Nat)) → w340.heap.size ≤ b ∧ ¬ Z389 b := by
      intro b hb; cases hb
     replace k338 := k338.mono (Zv.fin hL342 hZ391 hB393)
     have hL394 := hL342.ext hE390
     have K395 := Keep.ext (s := w.heap.size) (O := [some b309, some b1, some b9]) hE390
     obtain ⟨r396, q397, h⟩ := bind_some h
     have f401 := ((((k274.mono (K312 None)).mono (K317 None)).mono (K343 None)).mono (K395 None))
     refine Rl.op (OpY.call en46 rfl rfl (bAdd_w N (Big.mk negative271 digits272) r335 v273 v337 _ Any (f401.mono vw_any) (k338.mono vw_any) r396 q397) ?_)
     rintro _ w402 hE405 ⟨v398, rfl, k399, -⟩
     replace k399 := k399.mono (Hv.freshO (S := None) hL394 [])
     have hL403 := hL394.ext hE405
     have K404 := Keep.ext (s := w.heap.size) (O := [some b309, some b1, some b9]) hE405
     refine Rl.op0 (OpY.store (vs := [(Value.bool r396.Negative), v398]) ti26 rfl rfl rfl rfl (ones_cons rfl (ones_cons k399.one ones_nil)) hL403 2 rfl rfl (Nat.le_of_ble_eq_true rfl) ?_)
     intro w406 (hL407 : Go.X.Loc [] [] w w406 [some b309, some b1, some b9] [Cont.cells [(Value.bool x293.Negative), v306], Cont.cells [q_v, (Value.bool q.Bound.Negative), q_v1], Cont.cells [(Value.bool r396.Negative), v398]]) hS409
     have K408 := Keep.step (s := w.heap.size) hS409
     refine Rl.nil ?_
     refine Swp.pop_blk ?_
     refine Swp.region rfl ?_
     refine Rl.op (OpY.add (x := x275) (y := 1) (z := (iw (x275 + 1))) rfl rfl rfl ?_)
     refine Rl.op (OpY.move (v := (Value.int .i64 (iw (x275 + 1)))) rfl ?_)
     refine Rl.nil ?_
     have hp410 := hL407.pick [1, 2] rfl rfl rfl
     have hL412 : Go.X.Loc [] [] w w406 [some b1, some b9] [Cont.cells [q_v, (Value.bool q.Bound.Negative), q_v1], Cont.cells [(Value.bool r396.Negative), v398]] := hp410.1
     have K411 := Keep.step (s := w.heap.size) hp410.2
     have f413 := ((k399.mono (K408 None)).mono (K411 None))
     obtain rfl := Option.some.inj h
     refine Swp.pop_back ⟨(r396.Negative, r396.Digits, (iw (x275 + 1))), rfl, ?_⟩
     exact ⟨v398, _, (upds_sym ⟨rfl, ⟨rfl, ⟨rfl, ⟨rfl, ⟨rfl, ⟨rfl, trivial⟩⟩⟩⟩⟩⟩), hL412, (Keep.trans (Keep.trans (Keep.trans (Keep.trans (Keep.trans (Keep.trans (Keep.trans K291 K312) K317) K343) K395) K404) K408) K411), f413, trivial⟩
   ·
    replace h := ite_f hc292 h
    refine Swp.exit rfl ?_
    obtain rfl := Option.some.inj h
    obtain rfl := hd285 _ rfl
    replace h := g283
    try dsimp only at h
    skip
    refine Swp.pop_back ?_
    exact ⟨negative271, digits272, v273, _, rfl, (upds_sym ⟨rfl, ⟨rfl, trivial⟩⟩), hL290, K291, k274, trivial⟩
  ·
   rintro _ w414 ⟨negative278, digits279, v280, u, rfl, rfl, hL415, K416, k281, -⟩
   replace h := g283
   try dsimp only at h
   refine Swp.seq ?_
   refine Swp.region rfl ?_
   refine Rl.op (OpY.ldBoxA (vs := [(Value.bool negative278), v280]) Try.underlying26 rfl ti26 rfl (hL415.at 1 rfl rfl) rfl rfl ?_)
   refine Rl.op (OpY.fieldAddr (q := 1) Try.underlying34 rfl ti26 rfl rfl rfl ?_)
   refine Rl.op (OpY.ldBoxA (vs := [(Value.bool q.Bound.Negative), q_v1]) Try.underlying26 rfl ti26 rfl (hL415.at 0 rfl rfl) rfl rfl ?_)
   obtain ⟨r417, q418, h⟩ := bind_some h
   have f420 := ((((q_h1.mono (K4 S)).mono (K12 S)).mono (K16 S)).mono (K416 S))
   refine Rl.op (OpY.call en66 rfl rfl (bCompare_w N (Big.mk negative278 digits279) q.Bound v280 q_v1 _ Any (k281.mono vw_any) (f420.mono vw_any) r417 q418) ?_)
   rintro _ w421 hE424 ⟨rfl, -⟩
   have hL422 := hL415.ext hE424
   refine Rl.op (OpY.leq (x := r417) (y := 0) ((r417 : Int) ≤ 0) rfl rfl Iff.rfl ?_)
   refine Rl.op (OpY.assign (v := (Value.bool (decide ((r417 : Int) ≤ 0)))) rfl ?_)
   refine Rl.nil ?_
   refine Swp.ret ?_
   obtain rfl := Option.some.inj h
   refine ⟨[(Value.bool (decide ((r417 : Int) ≤ 0)))], ⟨rfl, trivial⟩, ⟨_, rfl, hL422.done, ?_⟩⟩
   exact ⟨rfl, trivial⟩
theorem cSize_w (N : Nat) : ∀ (p : Proof) (p_v : Value) (p_v1 : Value) (p_v2 : Value) (p_v3 : Value) (w : World) (S : Nat → Prop) (p_h : Rs rStep (Hv w.heap.size S [] w) p_v p.Steps) (p_h1 : Rs rBig (Hv w.heap.size S [] w) p_v1 p.Form) (p_h2 : Rs (rInt .u32) (Hv w.heap.size S [] w) p_v2 p.Bound.Digits) (p_h3 : Rs rProof (Hv w.heap.size S [] w) p_v3 p.Children) (r : Int) (h : cSize N p = some r), Calls Try.prog 21 #[(Value.agg #[p_v, p_v1, (Value.bool p.Bound.Negative), p_v2, p_v3])] w (Ret w (fun v w' => (Value.int .i64 r) = v ∧ True)) := by
 induction N with
 | zero => intro p p_v p_v1 p_v2 p_v3 w S p_h p_h1 p_h2 p_h3 r h; cases (show (none : Option Int) = some r from h)
 | succ N ih =>
  intro p p_v p_v1 p_v2 p_v3 w S p_h p_h1 p_h2 p_h3 r h
  replace h : cSize_step N (cSize N) p = some r := h
  unfold cSize_step at h
  have hL : Go.X.Loc [] [] w w [] [] := Go.X.Loc.begin0 w
  refine calls_of (l := [(Value.agg #[p_v, p_v1, (Value.bool p.Bound.Negative), p_v2, p_v3])]) (rl := [.tmp 2]) (n := 28) Try.func21 rfl rfl rfl (Nat.le_of_ble_eq_true rfl) ?_
  refine Swp.seq ?_
  refine Swp.region rfl ?_
  refine Rl.op (OpY.box (cs := [p_v, p_v1, (Value.bool p.Bound.Negative), p_v2, p_v3]) rfl rfl hL ?_)
  intro b1 w2 (hL3 : Go.X.Loc [] [] w w2 [some b1] [Cont.cells [p_v, p_v1, (Value.bool p.Bound.Negative), p_v2, p_v3]]) hS5
  have K4 := Keep.step (s := w.heap.size) hS5
  refine Rl.op (OpY.assign (v := (Value.int .i64 0)) rfl ?_)
  refine Rl.nil ?_
  refine Swp.seq ?_
  refine Swp.region rfl ?_
  refine Rl.op (OpY.fieldAddr (q := 0) Try.underlying42 rfl ti39 rfl rfl rfl ?_)
  refine Rl.op (OpY.ldBox1 (v := p_v) Try.underlying39 rfl rfl (hL3.at 0 rfl rfl) rfl ?_)
  have f6 := (p_h.mono (K4 S))
  refine Rl.op (OpY.lenRo (v := p_v) Try.underlying39 rfl f6 ?_)
  refine Rl.op (OpY.assign (v := (Value.int .i64 (List.length p.Steps : Int))) rfl ?_)
  refine Rl.nil ?_
  refine Swp.seq ?_
  refine Swp.seq ?_
  refine Swp.region rfl ?_
  refine Rl.op (OpY.fieldAddr (q := 4) Try.underlying42 rfl ti40 rfl rfl rfl ?_)
  refine Rl.op (OpY.ldBox1 (v := p_v3) Try.underlying40 rfl rfl (hL3.at 0 rfl rfl) rfl ?_)
  have f7 := (p_h3.mono (K4 S))
  refine Rl.op (OpY.lenRo (v := p_v3) Try.underlying40 rfl f7 ?_)
  refine Rl.op (OpY.gtr (x := (List.length p.Children : Int)) (y := 0) (((List.length p.Children : Int) : Int) > 0) rfl rfl Iff.rfl ?_)
  refine Rl.nil ?_
  obtain ⟨s11, h, g12⟩ := bind_some h
  refine Swp.join (fun e w' => ∃ (n10 : Int) (u : Env), n10 = s11 ∧ e = upds [(1, (Value.pointer (some ⟨b1, 0, none⟩))), (3, (Value.int .i64 n10))] u ∧ Go.X.Loc [] [] w w' [some b1] [Cont.cells [p_v, p_v1, (Value.bool p.Bound.Negative), p_v2, p_v3]] ∧ Keep w.heap.size [some b1] w2 [some b1] w' ∧ True) ?_ ?_
  ·
   refine Swp.cond_d (((List.length p.Children : Int) : Int) > 0) rfl (fun hc13 => ?_) (fun hc13 => ?_)
   ·
    replace h := ite_t hc13 h
    refine Swp.region rfl ?_
    refine Rl.op (OpY.move (v := (Value.int .i64 (List.length p.Steps : Int))) rfl ?_)
    refine Rl.op (OpY.add (x := (List.length p.Steps : Int)) (y := 1) (z := (iw ((List.length p.Steps : Int) + 1))) rfl rfl rfl ?_)
    refine Rl.op (OpY.assign (v := (Value.int .i64 (iw ((List.length p.Steps : Int) + 1)))) rfl ?_)
    refine Rl.nil ?_
    obtain rfl := Option.some.inj h
    refine Swp.pop_back ?_
    exact ⟨(iw ((List.length p.Steps : Int) + 1)), _, rfl, (upds_sym ⟨rfl, ⟨rfl, trivial⟩⟩), hL3, Keep.refl, trivial⟩
   ·
    replace h := ite_f hc13 h
    refine Swp.skip ?_
    obtain rfl := Option.some.inj h
    refine Swp.pop_back ?_
    exact ⟨(List.length p.Steps : Int), _, rfl, (upds_sym ⟨rfl, ⟨rfl, trivial⟩⟩), hL3, Keep.refl, trivial⟩
  ·
   rintro _ w14 ⟨n10, u, rfl, rfl, hL15, K16, -⟩
   replace h := g12
   try dsimp only at h
   refine Swp.seq ?_
   refine Swp.seq ?_
   refine Swp.region rfl ?_
   refine Rl.op (OpY.fieldAddr (q := 4) Try.underlying42 rfl ti40 rfl rfl rfl ?_)
   refine Rl.op (OpY.ldBox1 (v := p_v3) Try.underlying40 rfl rfl (hL15.at 0 rfl rfl) rfl ?_)
   have f17 := (f7.mono (K16 S))
   refine Rl.op (OpY.lenRo (v := p_v3) Try.underlying40 rfl f17 ?_)
   refine Rl.op (OpY.move (v := (Value.int .i64 0)) rfl ?_)
   refine Rl.nil ?_
   obtain ⟨s123, hl125, g124⟩ := bind_some h
   refine Swp.join (fun e w' => ∃ (n122 : Int) (u : Env), n122 = s123 ∧ e = upds [(3, (Value.int .i64 n122))] u ∧ Go.X.Loc [] [] w w' [] [] ∧ Keep w.heap.size [some b1] w14 [] w' ∧ True) ?_ ?_
   ·
    refine Swp.block ?_
    have hp127 := hL15.pick [] rfl rfl rfl
    have hL129 : Go.X.Loc [] [] w w14 [] [] := hp127.1
    have K128 := Keep.step (s := w.heap.size) hp127.2
    refine Swp.loopM hl125 (fun (ss : (Int × Int)) (e : Env) (w' : World) => match ss with | (n120, x121) => ∃ (u : Env), e = upds [(3, (Value.int .i64 n120)), (16, p_v3), (17, (Value.int .i64 (List.length p.Children : Int))), (18, (Value.int .i64 x121))] u ∧ Go.X.Loc [] [] w w' [] [] ∧ Keep w.heap.size [some b1] w14 [] w' ∧ True) ⟨_, (upds_sym ⟨rfl, ⟨rfl, ⟨rfl, ⟨rfl, trivial⟩⟩⟩⟩), hL129, K128, trivial⟩ ?_
    rintro ⟨n120, x121⟩ oo _ w130 ⟨u, rfl, hL131, K132, -⟩ h hd126
    rw [cSize_b1] at h
    refine Swp.seq ?_
    refine Swp.region rfl ?_
    refine Rl.op (OpY.lss (x := x121) (y := (List.length p.Children : Int)) ((x121 : Int) < (List.length p.Children : Int)) rfl rfl Iff.rfl ?_)
    refine Rl.nil ?_
    refine Swp.seq ?_
    refine Swp.cond_d ((x121 : Int) < (List.length p.Children : Int)) rfl (fun hc133 => ?_) (fun hc133 => ?_)
    ·
     replace h := ite_t hc133 h
     refine Swp.skip ?_
     refine Swp.seq ?_
     refine Swp.block ?_
     refine Swp.seq ?_
     refine Swp.region rfl ?_
     obtain ⟨x134, q135, h⟩ := bind_some h
     obtain ⟨n136, q137, q138⟩ := idx_some q135
     have f155 := (f17.mono (K132 S))
     obtain ⟨b139, o140, c141, vs142, q143, q144, f145, q146⟩ := Rs.get f155 q138
     obtain ⟨v147, v149, v151, v153, rfl, k148, k150, k152, k154, -⟩ := rProof_open q146
     refine Rl.op (OpY.ixRoD (r := rProof) (v := p_v3) (n := n136) (m := (o140 + n136 * rProof.sz)) Try.underlying40 ti42 rfl q143 rfl q137 q138 rfl ?_)
     refine Rl.op (OpY.ldRoA (vs := [v147, v149, (Value.bool x134.Bound.Negative), v151, v153]) Try.underlying42 rfl ti42 rfl rfl vw_view f145 ?_)
     refine Rl.op (OpY.alloc (cs := [(Value.slice none 0 0), (Value.slice none 0 0), (Value.bool false), (Value.slice none 0 0), (Value.slice none 0 0)]) ti42 rfl hL131 ?_)
     intro b156 w157 (hL158 : Go.X.Loc [] [] w w157 [some b156] [Cont.cells [(Value.slice none 0 0), (Value.slice none 0 0), (Value.bool false), (Value.slice none 0 0), (Value.slice none 0 0)]]) hS160
     have K159 := Keep.step (s := w.heap.size) hS160
     have f161 := (k154.mono (K159 S))
     have f162 := (k152.mono (K159 S))
     have f163 := (k150.mono (K159 S))
     have f164 := (k148.mono (K159 S))
     refine Rl.op0 (OpY.store (vs := [v147, v149, (Value.bool x134.Bound.Negative), v151, v153]) ti42 rfl rfl rfl rfl (ones_cons f164.one (ones_cons f163.one (ones_cons rfl (ones_cons f162.one (ones_cons f161.one ones_nil))))) hL158 0 rfl rfl (Nat.le_of_ble_eq_true rfl) ?_)
     intro w165 (hL166 : Go.X.Loc [] [] w w165 [some b156] [Cont.cells [v147, v149, (Value.bool x134.Bound.Negative), v151, v153]]) hS168
     have K167 := Keep.step (s := w.heap.size) hS168
     refine Rl.nil ?_
     refine Swp.region rfl ?_
     refine Rl.op (OpY.move (v := (Value.int .i64 n120)) rfl ?_)
     refine Rl.op (OpY.ldBoxA (vs := [v147, v149, (Value.bool x134.Bound.Negative), v151, v153]) Try.underlying42 rfl ti42 rfl (hL166.at 0 rfl rfl) rfl rfl ?_)
     obtain ⟨r169, q170, h⟩ := bind_some h
     have f172 := (f164.mono (K167 S))
     have f173 := (f163.mono (K167 S))
     have f174 := (f162.mono (K167 S))
     have f175 := (f161.mono (K167 S))
     refine Rl.op (OpY.call en21 rfl rfl (ih x134 v147 v149 v151 v153 _ Any (f172.mono vw_any) (f173.mono vw_any) (f174.mono vw_any) (f175.mono vw_any) r169 q170) ?_)
     rintro _ w176 hE179 ⟨rfl, -⟩
     have hL177 := hL166.ext hE179
     have K178 := Keep.ext (s := w.heap.size) (O := [some b156]) hE179
     refine Rl.op (OpY.add (x := n120) (y := r169) (z := (iw (n120 + r169))) rfl rfl rfl ?_)
     refine Rl.op (OpY.assign (v := (Value.int .i64 (iw (n120 + r169)))) rfl ?_)
     refine Rl.nil ?_
     refine Swp.pop_blk ?_
     refine Swp.region rfl ?_
     refine Rl.op (OpY.add (x := x121) (y := 1) (z := (iw (x121 + 1))) rfl rfl rfl ?_)
     refine Rl.op (OpY.move (v := (Value.int .i64 (iw (x121 + 1)))) rfl ?_)
     refine Rl.nil ?_
     have hp180 := hL177.pick [] rfl rfl rfl
     have hL182 : Go.X.Loc [] [] w w176 [] [] := hp180.1
     have K181 := Keep.step (s := w.heap.size) hp180.2
     obtain rfl := Option.some.inj h
     refine Swp.pop_back ⟨((iw (n120 + r169)), (iw (x121 + 1))), rfl, ?_⟩
     exact ⟨_, (upds_sym ⟨rfl, ⟨rfl, ⟨rfl, ⟨rfl, trivial⟩⟩⟩⟩), hL182, (Keep.trans (Keep.trans (Keep.trans (Keep.trans K132 K159) K167) K178) K181), trivial⟩
    ·
     replace h := ite_f hc133 h
     refine Swp.exit rfl ?_
     obtain rfl := Option.some.inj h
     obtain rfl := hd126 _ rfl
     replace h := g124
     try dsimp only at h
     skip
     refine Swp.pop_back ?_
     exact ⟨n120, _, rfl, (upds_sym ⟨rfl, trivial⟩), hL131, K132, trivial⟩
   ·
    rintro _ w183 ⟨n122, u, rfl, rfl, hL184, K185, -⟩
    replace h := g124
    try dsimp only at h
    refine Swp.seq ?_
    refine Swp.region rfl ?_
    refine Rl.op (OpY.move (v := (Value.int .i64 n122)) rfl ?_)
    refine Rl.op (OpY.assign (v := (Value.int .i64 n122)) rfl ?_)
    refine Rl.nil ?_
    refine Swp.ret ?_
    obtain rfl := Option.some.inj h
    refine ⟨[(Value.int .i64 n122)], ⟨rfl, trivial⟩, ⟨_, rfl, hL184.done, ?_⟩⟩
    exact ⟨rfl, trivial⟩
theorem cSum_w (N : Nat) (uses : (List Use)) (uses_v : Value) (w : World) (S : Nat → Prop) (uses_h : Rs rUse (Hv w.heap.size S [] w) uses_v uses) (r : Proof) (h : cSum N uses = some r) :
  Calls Try.prog 20 #[uses_v] w (Ret w (fun v w' => ∃ (v0_0 : Value) (v0_1 : Value) (v0_2 : Value) (v0_3 : Value), (Value.agg #[v0_0, v0_1, (Value.bool r.Bound.Negative), v0_2, v0_3]) = v ∧ Rs rStep (Hv w.heap.size None [] w') v0_0 r.Steps ∧ Rs rBig (Hv w.heap.size None [] w') v0_1 r.Form ∧ Rs (rInt .u32) (Hv w.heap.size None [] w') v0_2 r.Bound.Digits ∧ Rs rProof (Hv w.heap.size None [] w') v0_3 r.Children ∧ True)) := by
 unfold cSum at h
 have hL : Go.X.Loc [] [] w w [] [] := Go.X.Loc.begin0 w
 refine calls_of (l := [uses_v]) (rl := [.cell 2 42]) (n := 29) Try.func20 rfl rfl rfl (Nat.le_of_ble_eq_true rfl) ?_
 refine Swp.seq ?_
 refine Swp.region rfl ?_
 refine Rl.op (OpY.alloc (cs := [(Value.slice none 0 0), (Value.slice none 0 0), (Value.bool false), (Value.slice none 0 0), (Value.slice none 0 0)]) ti42 rfl hL ?_)
 intro b1 w2 (hL3 : Go.X.Loc [] [] w w2 [some b1] [Cont.cells [(Value.slice none 0 0), (Value.slice none 0 0), (Value.bool false), (Value.slice none 0 0), (Value.slice none 0 0)]]) hS5
 have K4 := Keep.step (s := w.heap.size) hS5
 refine Rl.nil ?_
 refine Swp.seq ?_
 refine Swp.region rfl ?_
 obtain ⟨r6, q7, h⟩ := bind_some h
 refine Rl.op (OpY.call en58 rfl rfl (bOf_w N 1 _ Any r6 q7) ?_)
 rintro _ w11 hE14 ⟨v8, rfl, k9, -⟩
 replace k9 := k9.mono (Hv.freshO (S := None) hL3 [])
 have hL12 := hL3.ext hE14
 have K13 := Keep.ext (s := w.heap.size) (O := [some b1]) hE14
 refine Rl.op (OpY.build (zc := [(Value.slice none 0 0), (Value.bool false), (Value.slice none 0 0)]) (cs := [(Value.slice none 0 0), (Value.bool r6.Negative), v8]) (is := [1]) (vs := [(Value.agg #[(Value.bool r6.Negative), v8])]) (css := [[(Value.bool r6.Negative), v8]]) pl28 ti28 rfl rfl rfl ⟨rfl, trivial⟩ rfl ?_)
 refine Rl.op (OpY.alloc (cs := [(Value.slice none 0 0), (Value.bool false), (Value.slice none 0 0)]) ti28 rfl hL12 ?_)
 intro b15 w16 (hL17 : Go.X.Loc [] [] w w16 [some b15, some b1] [Cont.cells [(Value.slice none 0 0), (Value.bool false), (Value.slice none 0 0)], Cont.cells [(Value.slice none 0 0), (Value.slice none 0 0), (Value.bool false), (Value.slice none 0 0), (Value.slice none 0 0)]]) hS19
 have K18 := Keep.step (s := w.heap.size) hS19
 have f20 := (k9.mono (K18 None))
 refine Rl.op0 (OpY.store (vs := [(Value.slice none 0 0), (Value.bool r6.Negative), v8]) ti28 rfl rfl rfl rfl (ones_cons rfl (ones_cons rfl (ones_cons f20.one ones_nil))) hL17 0 rfl rfl (Nat.le_of_ble_eq_true rfl) ?_)
 intro w21 (hL22 : Go.X.Loc [] [] w w21 [some b15, some b1] [Cont.cells [(Value.slice none 0 0), (Value.bool r6.Negative), v8], Cont.cells [(Value.slice none 0 0), (Value.slice none 0 0), (Value.bool false), (Value.slice none 0 0), (Value.slice none 0 0)]]) hS24
 have K23 := Keep.step (s := w.heap.size) hS24
 refine Rl.nil ?_
 refine Swp.seq ?_
 refine Swp.seq ?_
 refine Swp.region rfl ?_
 refine Rl.op (OpY.move (v := uses_v) rfl ?_)
 have f25 := ((((uses_h.mono (K4 S)).mono (K13 S)).mono (K18 S)).mono (K23 S))
 refine Rl.op (OpY.lenRo (v := uses_v) Try.underlying23 rfl f25 ?_)
 refine Rl.op (OpY.move (v := (Value.int .i64 0)) rfl ?_)
 refine Rl.nil ?_
 obtain ⟨s348, hl350, g349⟩ := bind_some h
 refine Swp.join (fun e w' => ∃ (uses344 : (List Use)) (ob340 : Option Nat) (cap341 : Nat) (sp342 : List Value) (cs343 : List Value) (ln347 : Nat) (u : Env), uses344 = s348 ∧ e = upds [(2, (Value.pointer (some ⟨b1, 0, none⟩))), (3, (Value.pointer (some ⟨b15, 0, none⟩)))] u ∧ Go.X.Loc [] [] w w' [some b1, some b15, ob340] [Cont.cells [(Value.slice none 0 0), (Value.slice none 0 0), (Value.bool false), (Value.slice none 0 0), (Value.slice none 0 0)], Cont.cells [(osv ob340 0 ln347 cap341), (Value.bool r6.Negative), v8], Cont.cells ([] ++ (cs343 ++ sp342))] ∧ Keep w.heap.size [some b15, some b1] w21 [some b1, some b15, ob340] w' ∧ Els rUse (Hv w.heap.size None [some b1, some b15, ob340] w') cs343 uses344 ∧ ln347 = List.length uses344 ∧ (cs343 ++ sp342).length = cap341 * rUse.sz ∧ True) ?_ ?_
 ·
  refine Swp.block ?_
  have hp352 := hL22.addNil
  have hL353 : Go.X.Loc [] [] w w21 [none, some b15, some b1] [Cont.cells ([] ++ ([] ++ [])), Cont.cells [(Value.slice none 0 0), (Value.bool r6.Negative), v8], Cont.cells [(Value.slice none 0 0), (Value.slice none 0 0), (Value.bool false), (Value.slice none 0 0), (Value.slice none 0 0)]] := hp352.1
  have K354 := Keep.step (s := w.heap.size) hp352.2
  have hp356 := hL353.pick [2, 1, 0] rfl rfl rfl
  have hL358 : Go.X.Loc [] [] w w21 [some b1, some b15, none] [Cont.cells [(Value.slice none 0 0), (Value.slice none 0 0), (Value.bool false), (Value.slice none 0 0), (Value.slice none 0 0)], Cont.cells [(osv none 0 (List.length ([] : (List Use))) 0), (Value.bool r6.Negative), v8], Cont.cells ([] ++ ([] ++ []))] := hp356.1
  have K357 := Keep.step (s := w.heap.size) hp356.2
  have f359 := ((Els.nil (r := rUse)).mono (K357 None))
  refine Swp.loopM hl350 (fun (ss : ((List Use) × Int)) (e : Env) (w' : World) => match ss with | (uses332, x336) => ∃ (ob328 : Option Nat) (cap329 : Nat) (sp330 : List Value) (cs331 : List Value) (ln335 : Nat) (u : Env), e = upds [(2, (Value.pointer (some ⟨b1, 0, none⟩))), (3, (Value.pointer (some ⟨b15, 0, none⟩))), (8, uses_v), (9, (Value.int .i64 (List.length uses : Int))), (10, (Value.int .i64 x336))] u ∧ Go.X.Loc [] [] w w' [some b1, some b15, ob328] [Cont.cells [(Value.slice none 0 0), (Value.slice none 0 0), (Value.bool false), (Value.slice none 0 0), (Value.slice none 0 0)], Cont.cells [(osv ob328 0 ln335 cap329), (Value.bool r6.Negative), v8], Cont.cells ([] ++ (cs331 ++ sp330))] ∧ Keep w.heap.size [some b15, some b1] w21 [some b1, some b15, ob328] w' ∧ Els rUse (Hv w.heap.size None [some b1, some b15, ob328] w') cs331 uses332 ∧ ln335 = List.length uses332 ∧ (cs331 ++ sp330).length = cap329 * rUse.sz ∧ True) ⟨none, 0, [], [], (List.length ([] : (List Use))), _, (upds_sym ⟨rfl, ⟨rfl, ⟨rfl, ⟨rfl, ⟨rfl, trivial⟩⟩⟩⟩⟩), hL358, (Keep.trans K354 K357), f359, rfl, (show ([] ++ [] : List Value).length = 0 * rUse.sz by simp), trivial⟩ ?_
  rintro ⟨uses332, x336⟩ oo _ w360 ⟨ob328, cap329, sp330, cs331, ln335, u, rfl, hL361, K362, hE333, rfl, hc334, -⟩ h hd351
  rw [cSum_b1] at h
  refine Swp.seq ?_
  refine Swp.region rfl ?_
  refine Rl.op (OpY.lss (x := x336) (y := (List.length uses : Int)) ((x336 : Int) < (List.length uses : Int)) rfl rfl Iff.rfl ?_)
  refine Rl.nil ?_
  refine Swp.seq ?_
  refine Swp.cond_d ((x336 : Int) < (List.length uses : Int)) rfl (fun hc363 => ?_) (fun hc363 => ?_)
  ·
   replace h := ite_t hc363 h
   refine Swp.skip ?_
   refine Swp.seq ?_
   refine Swp.block ?_
   refine Swp.seq ?_
   refine Swp.region rfl ?_
   obtain ⟨x364, q365, h⟩ := bind_some h
   obtain ⟨n366, q367, q368⟩ := idx_some q365
   have f379 := (f25.mono (K362 S))
   obtain ⟨b369, o370, c371, vs372, q373, q374, f375, q376⟩ := Rs.get f379 q368
   obtain ⟨v377, rfl, k378, -⟩ := rUse_open q376
   refine Rl.op (OpY.ixRoD (r := rUse) (v := uses_v) (n := n366) (m := (o370 + n366 * rUse.sz)) Try.underlying23 ti50 rfl q373 rfl q367 q368 rfl ?_)
   refine Rl.op (OpY.ldRoA (vs := [(Value.int .i64 x364.Index), (Value.bool x364.N.Negative), v377]) Try.underlying50 rfl ti50 rfl rfl vw_view f375 ?_)
   refine Rl.op (OpY.alloc (cs := [(Value.int .i64 0), (Value.bool false), (Value.slice none 0 0)]) ti50 rfl hL361 ?_)
   intro b380 w381 (hL382 : Go.X.Loc [] [] w w381 [some b380, some b1, some b15, ob328] [Cont.cells [(Value.int .i64 0), (Value.bool false), (Value.slice none 0 0)], Cont.cells [(Value.slice none 0 0), (Value.slice none 0 0), (Value.bool false), (Value.slice none 0 0), (Value.slice none 0 0)], Cont.cells [(osv ob328 0 (List.length uses332) cap329), (Value.bool r6.Negative), v8], Cont.cells ([] ++ (cs331 ++ sp330))]) hS384
   have K383 := Keep.step (s := w.heap.size) hS384
   have f385 := (k378.mono (K383 S))
   refine Rl.op0 (OpY.store (vs := [(Value.int .i64 x364.Index), (Value.bool x364.N.Negative), v377]) ti50 rfl rfl rfl rfl (ones_cons rfl (ones_cons rfl (ones_cons f385.one ones_nil))) hL382 0 rfl rfl (Nat.le_of_ble_eq_true rfl) ?_)
   intro w386 (hL387 : Go.X.Loc [] [] w w386 [some b380, some b1, some b15, ob328] [Cont.cells [(Value.int .i64 x364.Index), (Value.bool x364.N.Negative), v377], Cont.cells [(Value.slice none 0 0), (Value.slice none 0 0), (Value.bool false), (Value.slice none 0 0), (Value.slice none 0 0)], Cont.cells [(osv ob328 0 (List.length uses332) cap329), (Value.bool r6.Negative), v8], Cont.cells ([] ++ (cs331 ++ sp330))]) hS389
   have K388 := Keep.step (s := w.heap.size) hS389
   refine Rl.nil ?_
   obtain ⟨r390, q391, h⟩ := bind_some h
   refine Swp.drawL 9 [] [] (fun W1 => [.det (Value.pointer (some ⟨b15, 0, none⟩)), .det (osv ob328 0 (List.length uses332) cap329), .det (Value.pointer (some ⟨b380, 0, none⟩)), .det (Value.int .i64 x364.Index), .det (Value.pointer (some ⟨b380, 1, none⟩)), .det (Value.agg #[(Value.bool x364.N.Negative), v377]), .rel (fun v Z w' => ∃ v392, (Value.agg #[(Value.bool r390.Negative), v392]) = v ∧ Rs (rInt .u32) (Zv W1 w.heap.size None [some b380, some b1, some b15, ob328] Z w') v392 r390.Digits ∧ True) (fun _ => []), .rel (fun v Z w' => ∃ v395, (Value.agg #[(Value.int .i64 x364.Index), (Value.bool r390.Negative), v395]) = v ∧ Rs (rInt .u32) (Zv W1 w.heap.size None [some b380, some b1, some b15, ob328] Z w') v395 r390.Digits ∧ True) (fun _ => []), .rel (fun v Z w' => ∃ b397 cs404, (osv (some b397) 0 1 1) = v ∧ OwnC w' (some b397) (Cont.cells ([] ++ (cs404 ++ []))) ∧ Els rUse (Zv W1 w.heap.size None [some b380, some b1, some b15, ob328] Z w') cs404 [(Use.mk x364.Index r390)] ∧ (cs404 ++ [] : List Value).length = 1 * rUse.sz ∧ True) footV]) mixed rfl rfl rfl (fun _ => rfl) (fun _ => rfl) ?_ ?_
   ·
    intro W1 _
    exact ⟨fun v Z Z' w w' hΦ hz _ _ hs => by obtain ⟨v392, rfl, k393, -⟩ := hΦ; exact ⟨v392, rfl, (k393.mono (Zv.stay hz hs)), trivial⟩, ⟨fun v Z Z' w w' hΦ hz _ _ hs => by obtain ⟨v395, rfl, k396, -⟩ := hΦ; exact ⟨v395, rfl, (k396.mono (Zv.stay hz hs)), trivial⟩, ⟨fun v Z Z' w w' hΦ hz _ _ hs => by obtain ⟨b397, cs404, rfl, hO401, hE402, hc403, -⟩ := hΦ; exact ⟨b397, cs404, rfl, (hO401.stay (fun b hb => by cases hb; exact List.mem_cons_self) hs), (hE402.mono (Zv.stay hz hs)), hc403, trivial⟩, trivial⟩⟩⟩
   ·
    intro w405 hE406
    have hL407 := hL387.ext hE406
    have K408 := Keep.ext (s := w.heap.size) (O := [some b380, some b1, some b15, ob328]) hE406
    refine DrH.det ?_ ?_
    ·
     rintro w409 Z410 hE411 hZ412 ⟨-⟩
     refine GOp.op (OpY.fieldAddr (q := 0) Try.underlying28 rfl ti23 rfl rfl rfl ?_)
     exact ⟨Ext.refl _, rfl⟩
    refine DrH.det ?_ ?_
    ·
     rintro w415 Z416 hE417 hZ418 ⟨-⟩
     have hL419 := hL407.ext hE417
     refine GOp.op (OpY.ldBox1 (v := (osv ob328 0 (List.length uses332) cap329)) Try.underlying23 rfl rfl (hL419.at 2 rfl rfl) rfl ?_)
     exact ⟨Ext.refl _, rfl⟩
    refine DrH.det ?_ ?_
    ·
     rintro w421 Z422 hE423 hZ424 ⟨-⟩
     refine GOp.op (OpY.fieldAddr (q := 0) Try.underlying50 rfl ti3 rfl rfl rfl ?_)
     exact ⟨Ext.refl _, rfl⟩
    refine DrH.det ?_ ?_
    ·
     rintro w427 Z428 hE429 hZ430 ⟨-⟩
     have hL431 := hL407.ext hE429
     refine GOp.op (OpY.ldBox1 (v := (Value.int .i64 x364.Index)) Try.underlying3 rfl rfl (hL431.at 0 rfl rfl) rfl ?_)
     exact ⟨Ext.refl _, rfl⟩
    refine DrH.det ?_ ?_
    ·
     rintro w433 Z434 hE435 hZ436 ⟨-⟩
     refine GOp.op (OpY.fieldAddr (q := 1) Try.underlying50 rfl ti26 rfl rfl rfl ?_)
     exact ⟨Ext.refl _, rfl⟩
    refine DrH.det ?_ ?_
    ·
     rintro w439 Z440 hE441 hZ442 ⟨-⟩
     have hL443 := hL407.ext hE441
     refine GOp.op (OpY.ldBoxA (vs := [(Value.bool x364.N.Negative), v377]) Try.underlying26 rfl ti26 rfl (hL443.at 0 rfl rfl) rfl rfl ?_)
     exact ⟨Ext.refl _, rfl⟩
    refine DrH.rel ?_ ?_
    ·
     rintro w445 Z446 hE447 hZ448 ⟨-⟩
     have K450 := Keep.ext (s := w.heap.size) (O := [some b380, some b1, some b15, ob328]) hE447
     refine GOp.op (OpY.call en63 rfl rfl (bNormal_w N x364.N v377 _ Any ((((f385.mono (K388 S)).mono (K408 S)).mono (K450 S)).mono vw_any) r390 q391) ?_)
     rintro _ w451 hE452 ⟨v392, rfl, k393, -⟩
     exact Made.ext hE452 hZ448 NewOwn.nil (fun _ h => h) ⟨v392, rfl, (k393.mono Zv.made), trivial⟩
    intro z6
    refine DrH.rel ?_ ?_
    ·
     rintro w453 Z454 hE455 hZ456 ⟨⟨⟨v392, rfl, k393, -⟩, hB6⟩, -⟩
     refine GOp.op (OpY.build (zc := [(Value.int .i64 0), (Value.bool false), (Value.slice none 0 0)]) (cs := [(Value.int .i64 x364.Index), (Value.bool r390.Negative), v392]) (is := [0, 1]) (vs := [(Value.int .i64 x364.Index), (Value.agg #[(Value.bool r390.Negative), v392])]) (css := [[(Value.int .i64 x364.Index)], [(Value.bool r390.Negative), v392]]) pl50 ti50 rfl rfl rfl ⟨rfl, ⟨rfl, trivial⟩⟩ rfl ?_)
     exact Go.X.Made.same ⟨v392, rfl, k393, trivial⟩
    intro z7
    refine DrH.rel ?_ ?_
    ·
     rintro w459 Z460 hE461 hZ462 ⟨⟨⟨v395, rfl, k396, -⟩, hB7⟩, -, -⟩
     have hE398 : Els rUse (Zv w405 w.heap.size None [some b380, some b1, some b15, ob328] Z460 w459) [(Value.int .i64 x364.Index), (Value.bool r390.Negative), v395] [(Use.mk x364.Index r390)] := (Els.cons (a := [(Value.int .i64 x364.Index), (Value.bool r390.Negative), v395]) (rUse_close ⟨v395, rfl, k396, trivial⟩) Els.nil)
     refine GOp.op (OpY.litRow (r := rUse) (vs := [(Value.agg #[(Value.int .i64 x364.Index), (Value.bool r390.Negative), v395])]) (css := [[(Value.int .i64 x364.Index), (Value.bool r390.Negative), v395]]) (xs := [(Use.mk x364.Index r390)]) Try.underlying23 ti50 (Nat.le_of_ble_eq_true rfl) rfl rfl ⟨rfl, rfl, trivial⟩ (Nat.le_of_ble_eq_true rfl) hE398 rfl (Go.X.Loc.begin0 w459) ?_)
     intro b397 w465 hc399 hL466 hS467
     have hN468 : NewOwn w459 w465 [some b397] [Cont.cells ([] ++ ([(Value.int .i64 x364.Index), (Value.bool r390.Negative), v395] ++ []))] := hL466.newOwn [0] rfl rfl rfl
     exact Made.ext hL466.done hZ462 hN468 (fun _ h => h) ⟨b397, [(Value.int .i64 x364.Index), (Value.bool r390.Negative), v395], rfl, hN468.2.2.1, (hE398.mono (Zv.grow hL466.done)), hc399, trivial⟩
    intro z8
    refine DrH.fin0 ?_
    rintro w469 Z470 hE471 hZ472 ⟨⟨⟨b397, cs404, rfl, hO401, hE402, hc403, -⟩, hB8⟩, ⟨⟨v395, rfl, k396, -⟩, hB7⟩, ⟨⟨v392, rfl, k393, -⟩, hB6⟩, -⟩ ap473
    have hB474 : ∀ b, some b ∈ ([some b397] : List (Option Nat)) → w405.heap.size ≤ b ∧ ¬ Z470 b := by
     intro b hb
     rcases List.mem_cons.1 hb with hb' | hb
     ·
      have := hB8 b (by rw [hb']; exact List.mem_cons_self); exact ⟨this.1, this.2.2⟩
     cases hb
    replace hE402 := hE402.mono (Zv.fin hL407 hZ472 hB474)
    replace k396 := k396.mono (Zv.fin hL407 hZ472 hB474)
    replace k393 := k393.mono (Zv.fin hL407 hZ472 hB474)
    have hN477 : NewOwn w405 w469 [some b397] [Cont.cells ([] ++ (cs404 ++ []))] := (NewOwn.cons NewOwn.nil hO401 (fun b hb => (hB474 b (by rw [← hb]; simp)).1) (fun b _ hb => by cases hb))
    have hp478 := hL407.adoptL hE471 hN477
    have hL475 : Go.X.Loc [] [] w w469 [some b397, some b380, some b1, some b15, ob328] [Cont.cells ([] ++ (cs404 ++ [])), Cont.cells [(Value.int .i64 x364.Index), (Value.bool x364.N.Negative), v377], Cont.cells [(Value.slice none 0 0), (Value.slice none 0 0), (Value.bool false), (Value.slice none 0 0), (Value.slice none 0 0)], Cont.cells [(osv ob328 0 (List.length uses332) cap329), (Value.bool r6.Negative), v8], Cont.cells ([] ++ (cs331 ++ sp330))] := hp478.1
    have K476 := Keep.step (s := w.heap.size) hp478.2
    obtain ⟨x479, q480, h⟩ := bind_some h
    obtain ⟨q481, q482, q483⟩ := apnd_some q480
    have f491 := ((((hE333.mono (K383 None)).mono (K388 None)).mono (K408 None)).mono (K476 None))
    refine Rl.op (OpY.apRowX (r := rUse) (H := (Hv w.heap.size None [some b397, some b380, some b1, some b15, ob328] w469)) (cs := cs331) (sp := sp330) (xs := uses332) (ys := [(Use.mk x364.Index r390)]) (Y := x479) (n := (List.length uses332)) (cap := cap329) (i := 4) Try.underlying23 ti50 rfl rfl rfl rfl hL475 rfl rfl f491 rfl hc334 (Src.row (pre := []) (o := 0) (n := 1) (cap := 1) (hL475.at 0 rfl rfl) hE402 rfl rfl rfl) hE402 q481 q482 q483 ?_)
    intro ob484 cap485 sp487 cs486 w492 hE488 hc489 (hL493 : Go.X.Loc [] [] w w492 [some b397, some b380, some b1, some b15, ob484] [Cont.cells ([] ++ (cs404 ++ [])), Cont.cells [(Value.int .i64 x364.Index), (Value.bool x364.N.Negative), v377], Cont.cells [(Value.slice none 0 0), (Value.slice none 0 0), (Value.bool false), (Value.slice none 0 0), (Value.slice none 0 0)], Cont.cells [(osv ob328 0 (List.length uses332) cap329), (Value.bool r6.Negative), v8], Cont.cells ([] ++ (cs486 ++ sp487))]) hS495
    have K494 := Keep.step (s := w.heap.size) hS495
    refine Rl.op (OpY.fieldAddr (q := 0) Try.underlying28 rfl ti23 rfl rfl rfl ?_)
    refine Rl.op0 (OpY.store (vs := [(osv ob484 0 (List.length x479) cap485)]) ti23 rfl rfl (one_cells (osv_one _ _ _ _)) rfl (ones_cons (osv_one _ _ _ _) ones_nil) hL493 3 rfl rfl (Nat.le_of_ble_eq_true rfl) ?_)
    intro w496 (hL497 : Go.X.Loc [] [] w w496 [some b397, some b380, some b1, some b15, ob484] [Cont.cells ([] ++ (cs404 ++ [])), Cont.cells [(Value.int .i64 x364.Index), (Value.bool x364.N.Negative), v377], Cont.cells [(Value.slice none 0 0), (Value.slice none 0 0), (Value.bool false), (Value.slice none 0 0), (Value.slice none 0 0)], Cont.cells [(osv ob484 0 (List.length x479) cap485), (Value.bool r6.Negative), v8], Cont.cells ([] ++ (cs486 ++ sp487))]) hS499
    have K498 := Keep.step (s := w.heap.size) hS499
    refine Rl.nil ?_
    refine Swp.pop_blk ?_
    refine Swp.region rfl ?_
    refine Rl.op (OpY.add (x := x336) (y := 1) (z := (iw (x336 + 1))) rfl rfl rfl ?_)
    refine Rl.op (OpY.move (v := (Value.int .i64 (iw (x336 + 1)))) rfl ?_)
    refine Rl.nil ?_
    have hp500 := hL497.pick [2, 3, 4] rfl rfl rfl
    have hL502 : Go.X.Loc [] [] w w496 [some b1, some b15, ob484] [Cont.cells [(Value.slice none 0 0), (Value.slice none 0 0), (Value.bool false), (Value.slice none 0 0), (Value.slice none 0 0)], Cont.cells [(osv ob484 0 (List.length x479) cap485), (Value.bool r6.Negative), v8], Cont.cells ([] ++ (cs486 ++ sp487))] := hp500.1
    have K501 := Keep.step (s := w.heap.size) hp500.2
    have f503 := (((hE488.mono (K494 None)).mono (K498 None)).mono (K501 None))
    obtain rfl := Option.some.inj h
    refine Swp.pop_back ⟨(x479, (iw (x336 + 1))), rfl, ?_⟩
    exact ⟨ob484, cap485, sp487, cs486, (List.length x479), _, (upds_sym ⟨rfl, ⟨rfl, ⟨rfl, ⟨rfl, ⟨rfl, trivial⟩⟩⟩⟩⟩), hL502, (Keep.trans (Keep.trans (Keep.trans (Keep.trans (Keep.trans (Keep.trans (Keep.trans K362 K383) K388) K408) K476) K494) K498) K501), f503, rfl, hc489, trivial⟩
  ·
   replace h := ite_f hc363 h
   refine Swp.exit rfl ?_
   obtain rfl := Option.some.inj h
   obtain rfl := hd351 _ rfl
   replace h := g349
   try dsimp only at h
   skip
   refine Swp.pop_back ?_
   exact ⟨uses332, ob328, cap329, sp330, cs331, (List.length uses332), _, rfl, (upds_sym ⟨rfl, ⟨rfl, trivial⟩⟩), hL361, K362, hE333, rfl, hc334, trivial⟩
 ·
  rintro _ w504 ⟨uses344, ob340, cap341, sp342, cs343, ln347, u, rfl, rfl, hL505, K506, hE345, rfl, hc346, -⟩
  replace h := g349
  try dsimp only at h
  refine Swp.seq ?_
  refine Swp.region rfl ?_
  refine Rl.op (OpY.ldBoxA (vs := [(osv ob340 0 (List.length uses344) cap341), (Value.bool r6.Negative), v8]) Try.underlying28 rfl ti28 rfl (hL505.at 1 rfl rfl) rfl rfl ?_)
  have f508 := hL505.freezeRow 2 rfl rfl hE345 rfl rfl rfl hc346
  have hp509 := hL505.pick [0, 1] rfl rfl rfl
  have hL511 : Go.X.Loc [] [] w w504 [some b1, some b15] [Cont.cells [(Value.slice none 0 0), (Value.slice none 0 0), (Value.bool false), (Value.slice none 0 0), (Value.slice none 0 0)], Cont.cells [(osv ob340 0 (List.length uses344) cap341), (Value.bool r6.Negative), v8]] := hp509.1
  have K510 := Keep.step (s := w.heap.size) hp509.2
  have f515 := (((f20.mono (K23 None)).mono (K506 None)).mono (K510 None))
  have hE512 : Els rStep (Hv w.heap.size None [some b1, some b15] w504) [(osv ob340 0 (List.length uses344) cap341), (Value.bool r6.Negative), v8] [(Step.mk uses344 r6)] := (Els.cons (a := [(osv ob340 0 (List.length uses344) cap341), (Value.bool r6.Negative), v8]) (rStep_close ⟨(osv ob340 0 (List.length uses344) cap341), v8, rfl, f508, f515, trivial⟩) Els.nil)
  refine Rl.op (OpY.litRow (r := rStep) (vs := [(Value.agg #[(osv ob340 0 (List.length uses344) cap341), (Value.bool r6.Negative), v8])]) (css := [[(osv ob340 0 (List.length uses344) cap341), (Value.bool r6.Negative), v8]]) (xs := [(Step.mk uses344 r6)]) Try.underlying39 ti28 (Nat.le_of_ble_eq_true rfl) rfl rfl ⟨rfl, rfl, trivial⟩ (Nat.le_of_ble_eq_true rfl) hE512 rfl hL511 ?_)
  intro b507 w516 hc513 (hL517 : Go.X.Loc [] [] w w516 [some b507, some b1, some b15] [Cont.cells ([] ++ ([(osv ob340 0 (List.length uses344) cap341), (Value.bool r6.Negative), v8] ++ [])), Cont.cells [(Value.slice none 0 0), (Value.slice none 0 0), (Value.bool false), (Value.slice none 0 0), (Value.slice none 0 0)], Cont.cells [(osv ob340 0 (List.length uses344) cap341), (Value.bool r6.Negative), v8]]) hS519
  have K518 := Keep.step (s := w.heap.size) hS519
  refine Rl.op (OpY.build (zc := [(Value.slice none 0 0), (Value.slice none 0 0), (Value.bool false), (Value.slice none 0 0), (Value.slice none 0 0)]) (cs := [(osv (some b507) 0 1 1), (Value.slice none 0 0), (Value.bool false), (Value.slice none 0 0), (Value.slice none 0 0)]) (is := [0]) (vs := [(osv (some b507) 0 1 1)]) (css := [[(osv (some b507) 0 1 1)]]) pl42 ti42 rfl rfl rfl ⟨(one_cells (osv_one _ _ _ _)), trivial⟩ rfl ?_)
  refine Rl.op0 (OpY.store (vs := [(osv (some b507) 0 1 1), (Value.slice none 0 0), (Value.bool false), (Value.slice none 0 0), (Value.slice none 0 0)]) ti42 rfl rfl rfl rfl (ones_cons (osv_one _ _ _ _) (ones_cons rfl (ones_cons rfl (ones_cons rfl (ones_cons rfl ones_nil))))) hL517 1 rfl rfl (Nat.le_of_ble_eq_true rfl) ?_)
  intro w520 (hL521 : Go.X.Loc [] [] w w520 [some b507, some b1, some b15] [Cont.cells ([] ++ ([(osv ob340 0 (List.length uses344) cap341), (Value.bool r6.Negative), v8] ++ [])), Cont.cells [(osv (some b507) 0 1 1), (Value.slice none 0 0), (Value.bool false), (Value.slice none 0 0), (Value.slice none 0 0)], Cont.cells [(osv ob340 0 (List.length uses344) cap341), (Value.bool r6.Negative), v8]]) hS523
  have K522 := Keep.step (s := w.heap.size) hS523
  refine Rl.nil ?_
  have f525 := ((hE512.mono (K518 None)).mono (K522 None))
  have f524 := hL521.freezeRow 0 rfl rfl f525 rfl rfl rfl hc513
  have hp526 := hL521.pick [1, 2] rfl rfl rfl
  have hL528 : Go.X.Loc [] [] w w520 [some b1, some b15] [Cont.cells [(osv (some b507) 0 1 1), (Value.slice none 0 0), (Value.bool false), (Value.slice none 0 0), (Value.slice none 0 0)], Cont.cells [(osv ob340 0 (List.length uses344) cap341), (Value.bool r6.Negative), v8]] := hp526.1
  refine Swp.ret ?_
  obtain rfl := Option.some.inj h
  refine ⟨[(Value.agg #[(osv (some b507) 0 1 1), (Value.slice none 0 0), (Value.bool false), (Value.slice none 0 0), (Value.slice none 0 0)])], ⟨⟨⟨b1, 0, none⟩, rfl, res_boxA Try.underlying42 rfl ti42 (hL528.at 0 rfl rfl) rfl⟩, trivial⟩, ⟨_, rfl, hL528.done, ?_⟩⟩
  exact ⟨(osv (some b507) 0 1 1), (Value.slice none 0 0), (Value.slice none 0 0), (Value.slice none 0 0), rfl, (f524.mono Hv.out), Rs.nil, Rs.nil, Rs.nil, trivial⟩
end Go.Proofs.Ytakkacdhlocckaa.WC

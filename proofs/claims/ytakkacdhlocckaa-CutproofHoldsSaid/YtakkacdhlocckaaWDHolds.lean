/- Walks, written by a program of mine (wip/tool); the kernel checks them. -/
import Derived.Test.YtakkacdhlocckaaProg
import Derived.Test.YtakkacdhlocckaaZ7
import Derived.Test.YtakkacdhlocckaaPD
import Derived.Test.YtakkacdhlocckaaWAHolds
import Derived.Test.YtakkacdhlocckaaWRHolds
import Derived.Test.YtakkacdhlocckaaWBHolds
import Derived.Test.YtakkacdhlocckaaWCHolds
set_option maxRecDepth 100000
set_option maxHeartbeats 4000000
set_option linter.unusedVariables false
namespace Go.Proofs.Ytakkacdhlocckaa.WD
open Go Go.RowKit Go.X Go.D Go.Proofs.Ytakkacdhlocckaa.WA Go.Proofs.Ytakkacdhlocckaa.WR Go.Proofs.Ytakkacdhlocckaa.WB Go.Proofs.Ytakkacdhlocckaa.WC
theorem mixed : Try.prog.follows .mixedOrders = true := by kernel_rfl
theorem ti34 : TI Try.prog 34 3 56 (Value.agg #[(Value.slice none 0 0), (Value.bool false), (Value.slice none 0 0)]) := TI.mk (by kernel_rfl)
theorem ti26 : TI Try.prog 26 2 32 (Value.agg #[(Value.bool false), (Value.slice none 0 0)]) := TI.mk (by kernel_rfl)
theorem pl34 : placesT Try.prog 34 = some [(0, 1), (1, 2)] := by kernel_rfl
theorem ti61 : TI Try.prog 61 2 32 (Value.agg #[(Value.int .i64 0), (Value.slice none 0 0)]) := TI.mk (by kernel_rfl)
theorem ti59 : TI Try.prog 59 1 24 (Value.slice none 0 0) := TI.mk (by kernel_rfl)
theorem ti71 : TI Try.prog 71 2 16 (Value.agg #[(Value.int .i64 0), (Value.int .i64 0)]) := TI.mk (by kernel_rfl)
theorem ti3 : TI Try.prog 3 1 8 (Value.int .i64 0) := TI.mk (by kernel_rfl)
theorem en81 : Enters Try.prog 81 := ⟨Try.f81, Try.func81, by kernel_rfl, by kernel_rfl⟩
theorem ti32 : TI Try.prog 32 1 24 (Value.slice none 0 0) := TI.mk (by kernel_rfl)
theorem en62 : Enters Try.prog 62 := ⟨Try.f62, Try.func62, by kernel_rfl, by kernel_rfl⟩
theorem ti63 : TI Try.prog 63 3 40 (Value.agg #[(Value.int .i64 0), (Value.slice none 0 0), (Value.bool false)]) := TI.mk (by kernel_rfl)
theorem en36 : Enters Try.prog 36 := ⟨Try.f36, Try.func36, by kernel_rfl, by kernel_rfl⟩
theorem en50 : Enters Try.prog 50 := ⟨Try.f50, Try.func50, by kernel_rfl, by kernel_rfl⟩
theorem ti2 : TI Try.prog 2 1 8 (Value.int .i64 0) := TI.mk (by kernel_rfl)
theorem en37 : Enters Try.prog 37 := ⟨Try.f37, Try.func37, by kernel_rfl, by kernel_rfl⟩
theorem ti4 : TI Try.prog 4 1 1 (Value.bool false) := TI.mk (by kernel_rfl)
theorem en60 : Enters Try.prog 60 := ⟨Try.f60, Try.func60, by kernel_rfl, by kernel_rfl⟩
theorem en33 : Enters Try.prog 33 := ⟨Try.f33, Try.func33, by kernel_rfl, by kernel_rfl⟩
theorem en49 : Enters Try.prog 49 := ⟨Try.f49, Try.func49, by kernel_rfl, by kernel_rfl⟩
theorem en40 : Enters Try.prog 40 := ⟨Try.f40, Try.func40, by kernel_rfl, by kernel_rfl⟩
theorem ti23 : TI Try.prog 23 1 24 (Value.slice none 0 0) := TI.mk (by kernel_rfl)
theorem ti50 : TI Try.prog 50 3 40 (Value.agg #[(Value.int .i64 0), (Value.bool false), (Value.slice none 0 0)]) := TI.mk (by kernel_rfl)
theorem en39 : Enters Try.prog 39 := ⟨Try.f39, Try.func39, by kernel_rfl, by kernel_rfl⟩
theorem en38 : Enters Try.prog 38 := ⟨Try.f38, Try.func38, by kernel_rfl, by kernel_rfl⟩
theorem ti39 : TI Try.prog 39 1 24 (Value.slice none 0 0) := TI.mk (by kernel_rfl)
theorem ti28 : TI Try.prog 28 3 56 (Value.agg #[(Value.slice none 0 0), (Value.bool false), (Value.slice none 0 0)]) := TI.mk (by kernel_rfl)
theorem pl26 : placesT Try.prog 26 = some [(0, 1), (1, 1)] := by kernel_rfl
theorem en25 : Enters Try.prog 25 := ⟨Try.f25, Try.func25, by kernel_rfl, by kernel_rfl⟩
theorem en27 : Enters Try.prog 27 := ⟨Try.f27, Try.func27, by kernel_rfl, by kernel_rfl⟩
theorem ti40 : TI Try.prog 40 1 24 (Value.slice none 0 0) := TI.mk (by kernel_rfl)
theorem ti42 : TI Try.prog 42 5 104 (Value.agg #[(Value.slice none 0 0), (Value.slice none 0 0), (Value.bool false), (Value.slice none 0 0), (Value.slice none 0 0)]) := TI.mk (by kernel_rfl)
theorem en22 : Enters Try.prog 22 := ⟨Try.f22, Try.func22, by kernel_rfl, by kernel_rfl⟩
theorem en23 : Enters Try.prog 23 := ⟨Try.f23, Try.func23, by kernel_rfl, by kernel_rfl⟩
theorem en16 : Enters Try.prog 16 := ⟨Try.f16, Try.func16, by kernel_rfl, by kernel_rfl⟩
theorem ti24 : TI Try.prog 24 1 24 (Value.slice none 0 0) := TI.mk (by kernel_rfl)
theorem en43 : Enters Try.prog 43 := ⟨Try.f43, Try.func43, by kernel_rfl, by kernel_rfl⟩
theorem en13 : Enters Try.prog 13 := ⟨Try.f13, Try.func13, by kernel_rfl, by kernel_rfl⟩
theorem en52 : Enters Try.prog 52 := ⟨Try.f52, Try.func52, by kernel_rfl, by kernel_rfl⟩
theorem rBad_w (N : Nat) (q : Ineq) (q_v : Value) (q_v1 : Value) (w : World) (S : Nat → Prop) (q_h : Rs rBig (Hv w.heap.size S [] w) q_v q.Coefs) (q_h1 : Rs (rInt .u32) (Hv w.heap.size S [] w) q_v1 q.Bound.Digits) (r : Bool) (h : rBad N q = some r) :
  Calls Try.prog 30 #[(Value.agg #[q_v, (Value.bool q.Bound.Negative), q_v1])] w (Ret w (fun v w' => (Value.bool r) = v ∧ True)) := by
 unfold rBad at h
 have hL : Go.X.Loc [] [] w w [] [] := Go.X.Loc.begin0 w
 refine calls_of (l := [(Value.agg #[q_v, (Value.bool q.Bound.Negative), q_v1])]) (rl := [.tmp 2]) (n := 22) Try.func30 rfl rfl rfl (Nat.le_of_ble_eq_true rfl) ?_
 refine Swp.seq ?_
 refine Swp.region rfl ?_
 refine Rl.op (OpY.box (cs := [q_v, (Value.bool q.Bound.Negative), q_v1]) rfl rfl hL ?_)
 intro b1 w2 (hL3 : Go.X.Loc [] [] w w2 [some b1] [Cont.cells [q_v, (Value.bool q.Bound.Negative), q_v1]]) hS5
 have K4 := Keep.step (s := w.heap.size) hS5
 refine Rl.op (OpY.assign (v := (Value.bool false)) rfl ?_)
 refine Rl.nil ?_
 refine Swp.seq ?_
 refine Swp.seq ?_
 refine Swp.region rfl ?_
 refine Rl.op (OpY.assign (v := (Value.int .i64 0)) rfl ?_)
 refine Rl.nil ?_
 obtain ⟨s68, hl70, g69⟩ := bind_some h
 refine Swp.join (fun e w' => ∃  (u : Env), (Sum.inl ()) = s68 ∧ e = upds [(1, (Value.pointer (some ⟨b1, 0, none⟩)))] u ∧ Go.X.Loc [] [] w w' [some b1] [Cont.cells [q_v, (Value.bool q.Bound.Negative), q_v1]] ∧ Keep w.heap.size [some b1] w2 [some b1] w' ∧ True) ?_ ?_
 ·
  refine Swp.block ?_
  refine Swp.loopM hl70 (fun (ss : Int) (e : Env) (w' : World) => match ss with | i66 => ∃ (u : Env), e = upds [(1, (Value.pointer (some ⟨b1, 0, none⟩))), (3, (Value.int .i64 i66))] u ∧ Go.X.Loc [] [] w w' [some b1] [Cont.cells [q_v, (Value.bool q.Bound.Negative), q_v1]] ∧ Keep w.heap.size [some b1] w2 [some b1] w' ∧ True) ⟨_, (upds_sym ⟨rfl, ⟨rfl, trivial⟩⟩), hL3, Keep.refl, trivial⟩ ?_
  rintro i66 oo _ w72 ⟨u, rfl, hL73, K74, -⟩ h hd71
  rw [rBad_b1] at h
  refine Swp.seq ?_
  refine Swp.seq ?_
  refine Swp.region rfl ?_
  refine Rl.op (OpY.move (v := (Value.int .i64 i66)) rfl ?_)
  refine Rl.op (OpY.fieldAddr (q := 0) Try.underlying34 rfl ti32 rfl rfl rfl ?_)
  refine Rl.op (OpY.ldBox1 (v := q_v) Try.underlying32 rfl rfl (hL73.at 0 rfl rfl) rfl ?_)
  have f75 := ((q_h.mono (K4 S)).mono (K74 S))
  refine Rl.op (OpY.lenRo (v := q_v) Try.underlying32 rfl f75 ?_)
  refine Rl.op (OpY.lss (x := i66) (y := (List.length q.Coefs : Int)) ((i66 : Int) < (List.length q.Coefs : Int)) rfl rfl Iff.rfl ?_)
  refine Rl.nil ?_
  refine Swp.cond_d ((i66 : Int) < (List.length q.Coefs : Int)) rfl (fun hc76 => ?_) (fun hc76 => ?_)
  ·
   replace h := ite_t hc76 h
   refine Swp.skip ?_
   refine Swp.seq ?_
   refine Swp.block ?_
   refine Swp.seq ?_
   refine Swp.region rfl ?_
   refine Rl.op (OpY.fieldAddr (q := 0) Try.underlying34 rfl ti32 rfl rfl rfl ?_)
   refine Rl.op (OpY.ldBox1 (v := q_v) Try.underlying32 rfl rfl (hL73.at 0 rfl rfl) rfl ?_)
   refine Rl.op (OpY.move (v := (Value.int .i64 i66)) rfl ?_)
   obtain ⟨x77, q78, h⟩ := bind_some h
   obtain ⟨n79, q80, q81⟩ := idx_some q78
   obtain ⟨b82, o83, c84, vs85, q86, q87, f88, q89⟩ := Rs.get f75 q81
   obtain ⟨v90, rfl, k91, -⟩ := rBig_open q89
   refine Rl.op (OpY.ixRoD (r := rBig) (v := q_v) (n := n79) (m := (o83 + n79 * rBig.sz)) Try.underlying32 ti26 rfl q86 rfl q80 q81 rfl ?_)
   refine Rl.op (OpY.ldRoA (vs := [(Value.bool x77.Negative), v90]) Try.underlying26 rfl ti26 rfl rfl vw_view f88 ?_)
   obtain ⟨r92, q93, h⟩ := bind_some h
   refine Rl.op (OpY.call en40 rfl rfl (rSign_w N x77 v90 _ Any (k91.mono vw_any) r92 q93) ?_)
   rintro _ w95 hE98 ⟨rfl, -⟩
   have hL96 := hL73.ext hE98
   have K97 := Keep.ext (s := w.heap.size) (O := [some b1]) hE98
   refine Rl.op (OpY.neq (x := r92) (y := 0) ((r92 : Int) ≠ 0) rfl rfl Iff.rfl ?_)
   refine Rl.nil ?_
   refine Swp.cond_d ((r92 : Int) ≠ 0) rfl (fun hc99 => ?_) (fun hc99 => ?_)
   ·
    replace h := ite_t hc99 h
    refine Swp.seq ?_
    refine Swp.region rfl ?_
    refine Rl.op (OpY.assign (v := (Value.bool false)) rfl ?_)
    refine Rl.nil ?_
    refine Swp.ret ?_
    obtain rfl := Option.some.inj h
    obtain rfl := hd71 _ rfl
    replace h := g69
    try dsimp only at h
    obtain rfl := Option.some.inj h
    refine ⟨[(Value.bool false)], ⟨rfl, trivial⟩, ⟨_, rfl, hL96.done, ?_⟩⟩
    exact ⟨rfl, trivial⟩
   ·
    replace h := ite_f hc99 h
    refine Swp.skip ?_
    refine Swp.pop_blk ?_
    refine Swp.region rfl ?_
    refine Rl.op (OpY.move (v := (Value.int .i64 i66)) rfl ?_)
    refine Rl.op (OpY.add (x := i66) (y := 1) (z := (iw (i66 + 1))) rfl rfl rfl ?_)
    refine Rl.op (OpY.assign (v := (Value.int .i64 (iw (i66 + 1)))) rfl ?_)
    refine Rl.nil ?_
    obtain rfl := Option.some.inj h
    refine Swp.pop_back ⟨(iw (i66 + 1)), rfl, ?_⟩
    exact ⟨_, (upds_sym ⟨rfl, ⟨rfl, trivial⟩⟩), hL96, (Keep.trans K74 K97), trivial⟩
  ·
   replace h := ite_f hc76 h
   refine Swp.exit rfl ?_
   obtain rfl := Option.some.inj h
   obtain rfl := hd71 _ rfl
   replace h := g69
   try dsimp only at h
   skip
   refine Swp.pop_back ?_
   exact ⟨_, rfl, (upds_sym ⟨rfl, trivial⟩), hL73, K74, trivial⟩
 ·
  rintro _ w100 ⟨u, rfl, rfl, hL101, K102, -⟩
  replace h := g69
  try dsimp only at h
  refine Swp.seq ?_
  refine Swp.region rfl ?_
  refine Rl.op (OpY.fieldAddr (q := 1) Try.underlying34 rfl ti26 rfl rfl rfl ?_)
  refine Rl.op (OpY.ldBoxA (vs := [(Value.bool q.Bound.Negative), q_v1]) Try.underlying26 rfl ti26 rfl (hL101.at 0 rfl rfl) rfl rfl ?_)
  obtain ⟨r103, q104, h⟩ := bind_some h
  have f106 := ((q_h1.mono (K4 S)).mono (K102 S))
  refine Rl.op (OpY.call en40 rfl rfl (rSign_w N q.Bound q_v1 _ Any (f106.mono vw_any) r103 q104) ?_)
  rintro _ w107 hE110 ⟨rfl, -⟩
  have hL108 := hL101.ext hE110
  refine Rl.op (OpY.lss (x := r103) (y := 0) ((r103 : Int) < 0) rfl rfl Iff.rfl ?_)
  refine Rl.op (OpY.assign (v := (Value.bool (decide ((r103 : Int) < 0)))) rfl ?_)
  refine Rl.nil ?_
  refine Swp.ret ?_
  obtain rfl := Option.some.inj h
  refine ⟨[(Value.bool (decide ((r103 : Int) < 0)))], ⟨rfl, trivial⟩, ⟨_, rfl, hL108.done, ?_⟩⟩
  exact ⟨rfl, trivial⟩
theorem rHolds_w (N : Nat) (q : Ineq) (x : (List Big)) (q_v : Value) (q_v1 : Value) (x_v : Value) (w : World) (S : Nat → Prop) (q_h : Rs rBig (Hv w.heap.size S [] w) q_v q.Coefs) (q_h1 : Rs (rInt .u32) (Hv w.heap.size S [] w) q_v1 q.Bound.Digits) (x_h : Rs rBig (Hv w.heap.size S [] w) x_v x) (r : Bool) (h : rHolds N q x = some r) :
  Calls Try.prog 27 #[(Value.agg #[q_v, (Value.bool q.Bound.Negative), q_v1]), x_v] w (Ret w (fun v w' => (Value.bool r) = v ∧ True)) := by
 unfold rHolds at h
 have hL : Go.X.Loc [] [] w w [] [] := Go.X.Loc.begin0 w
 refine calls_of (l := [(Value.agg #[q_v, (Value.bool q.Bound.Negative), q_v1]), x_v]) (rl := [.tmp 4]) (n := 37) Try.func27 rfl rfl rfl (Nat.le_of_ble_eq_true rfl) ?_
 refine Swp.seq ?_
 refine Swp.region rfl ?_
 refine Rl.op (OpY.box (cs := [q_v, (Value.bool q.Bound.Negative), q_v1]) rfl rfl hL ?_)
 intro b1 w2 (hL3 : Go.X.Loc [] [] w w2 [some b1] [Cont.cells [q_v, (Value.bool q.Bound.Negative), q_v1]]) hS5
 have K4 := Keep.step (s := w.heap.size) hS5
 refine Rl.op (OpY.assign (v := (Value.bool false)) rfl ?_)
 refine Rl.nil ?_
 refine Swp.seq ?_
 refine Swp.seq ?_
 refine Swp.region rfl ?_
 refine Rl.op (OpY.fieldAddr (q := 0) Try.underlying34 rfl ti32 rfl rfl rfl ?_)
 refine Rl.op (OpY.ldBox1 (v := q_v) Try.underlying32 rfl rfl (hL3.at 0 rfl rfl) rfl ?_)
 have f6 := (q_h.mono (K4 S))
 refine Rl.op (OpY.lenRo (v := q_v) Try.underlying32 rfl f6 ?_)
 refine Rl.op (OpY.move (v := x_v) rfl ?_)
 have f7 := (x_h.mono (K4 S))
 refine Rl.op (OpY.lenRo (v := x_v) Try.underlying32 rfl f7 ?_)
 refine Rl.op (OpY.neq (x := (List.length q.Coefs : Int)) (y := (List.length x : Int)) (((List.length q.Coefs : Int) : Int) ≠ (List.length x : Int)) rfl rfl Iff.rfl ?_)
 refine Rl.nil ?_
 refine Swp.cond_d (((List.length q.Coefs : Int) : Int) ≠ (List.length x : Int)) rfl (fun hc8 => ?_) (fun hc8 => ?_)
 ·
  replace h := ite_t hc8 h
  refine Swp.seq ?_
  refine Swp.region rfl ?_
  refine Rl.op (OpY.assign (v := (Value.bool false)) rfl ?_)
  refine Rl.nil ?_
  refine Swp.ret ?_
  obtain rfl := Option.some.inj h
  refine ⟨[(Value.bool false)], ⟨rfl, trivial⟩, ⟨_, rfl, hL3.done, ?_⟩⟩
  exact ⟨rfl, trivial⟩
 ·
  replace h := ite_f hc8 h
  refine Swp.skip ?_
  refine Swp.seq ?_
  refine Swp.region rfl ?_
  refine Rl.op (OpY.build (zc := [(Value.bool false), (Value.slice none 0 0)]) (cs := [(Value.bool false), (Value.slice none 0 0)]) (is := []) (vs := []) (css := []) pl26 ti26 rfl rfl rfl trivial rfl ?_)
  refine Rl.op (OpY.alloc (cs := [(Value.bool false), (Value.slice none 0 0)]) ti26 rfl hL3 ?_)
  intro b9 w10 (hL11 : Go.X.Loc [] [] w w10 [some b9, some b1] [Cont.cells [(Value.bool false), (Value.slice none 0 0)], Cont.cells [q_v, (Value.bool q.Bound.Negative), q_v1]]) hS13
  have K12 := Keep.step (s := w.heap.size) hS13
  refine Rl.op0 (OpY.store (vs := [(Value.bool false), (Value.slice none 0 0)]) ti26 rfl rfl rfl rfl (ones_cons rfl (ones_cons rfl ones_nil)) hL11 0 rfl rfl (Nat.le_of_ble_eq_true rfl) ?_)
  intro w14 (hL15 : Go.X.Loc [] [] w w14 [some b9, some b1] [Cont.cells [(Value.bool false), (Value.slice none 0 0)], Cont.cells [q_v, (Value.bool q.Bound.Negative), q_v1]]) hS17
  have K16 := Keep.step (s := w.heap.size) hS17
  refine Rl.nil ?_
  refine Swp.seq ?_
  refine Swp.seq ?_
  refine Swp.region rfl ?_
  refine Rl.op (OpY.assign (v := (Value.int .i64 0)) rfl ?_)
  refine Rl.nil ?_
  obtain ⟨s309, hl311, g310⟩ := bind_some h
  refine Swp.join (fun e w' => ∃ (negative305 : Bool) (digits306 : (List Int)) (v307 : Value) (u : Env), (negative305, digits306) = s309 ∧ e = upds [(2, (Value.pointer (some ⟨b1, 0, none⟩))), (5, (Value.pointer (some ⟨b9, 0, none⟩)))] u ∧ Go.X.Loc [] [] w w' [some b1, some b9] [Cont.cells [q_v, (Value.bool q.Bound.Negative), q_v1], Cont.cells [(Value.bool negative305), v307]] ∧ Keep w.heap.size [some b9, some b1] w14 [some b1, some b9] w' ∧ Rs (rInt .u32) (Hv w.heap.size None [some b1, some b9] w') v307 digits306 ∧ True) ?_ ?_
  ·
   refine Swp.block ?_
   have hp313 := hL15.pick [1, 0] rfl rfl rfl
   have hL315 : Go.X.Loc [] [] w w14 [some b1, some b9] [Cont.cells [q_v, (Value.bool q.Bound.Negative), q_v1], Cont.cells [(Value.bool false), (Value.slice none 0 0)]] := hp313.1
   have K314 := Keep.step (s := w.heap.size) hp313.2
   refine Swp.loopM hl311 (fun (ss : (Bool × (List Int) × Int)) (e : Env) (w' : World) => match ss with | (negative298, digits299, i302) => ∃ (v300 : Value) (u : Env), e = upds [(1, x_v), (2, (Value.pointer (some ⟨b1, 0, none⟩))), (5, (Value.pointer (some ⟨b9, 0, none⟩))), (6, (Value.int .i64 i302))] u ∧ Go.X.Loc [] [] w w' [some b1, some b9] [Cont.cells [q_v, (Value.bool q.Bound.Negative), q_v1], Cont.cells [(Value.bool negative298), v300]] ∧ Keep w.heap.size [some b9, some b1] w14 [some b1, some b9] w' ∧ Rs (rInt .u32) (Hv w.heap.size None [some b1, some b9] w') v300 digits299 ∧ True) ⟨(Value.slice none 0 0), _, (upds_sym ⟨rfl, ⟨rfl, ⟨rfl, ⟨rfl, trivial⟩⟩⟩⟩), hL315, K314, Rs.nil, trivial⟩ ?_
   rintro ⟨negative298, digits299, i302⟩ oo _ w316 ⟨v300, u, rfl, hL317, K318, k301, -⟩ h hd312
   rw [rHolds_b1] at h
   refine Swp.seq ?_
   refine Swp.seq ?_
   refine Swp.region rfl ?_
   refine Rl.op (OpY.move (v := (Value.int .i64 i302)) rfl ?_)
   refine Rl.op (OpY.move (v := x_v) rfl ?_)
   have f319 := (((f7.mono (K12 S)).mono (K16 S)).mono (K318 S))
   refine Rl.op (OpY.lenRo (v := x_v) Try.underlying32 rfl f319 ?_)
   refine Rl.op (OpY.lss (x := i302) (y := (List.length x : Int)) ((i302 : Int) < (List.length x : Int)) rfl rfl Iff.rfl ?_)
   refine Rl.nil ?_
   refine Swp.cond_d ((i302 : Int) < (List.length x : Int)) rfl (fun hc320 => ?_) (fun hc320 => ?_)
   ·
    replace h := ite_t hc320 h
    refine Swp.skip ?_
    refine Swp.seq ?_
    refine Swp.block ?_
    obtain ⟨x321, q322, h⟩ := bind_some h
    obtain ⟨n323, q324, q325⟩ := idx_some q322
    have f336 := (((f6.mono (K12 S)).mono (K16 S)).mono (K318 S))
    obtain ⟨b326, o327, c328, vs329, q330, q331, f332, q333⟩ := Rs.get f336 q325
    obtain ⟨v334, rfl, k335, -⟩ := rBig_open q333
    obtain ⟨x337, q338, h⟩ := bind_some h
    obtain ⟨n339, q340, q341⟩ := idx_some q338
    obtain ⟨b342, o343, c344, vs345, q346, q347, f348, q349⟩ := Rs.get f319 q341
    obtain ⟨v350, rfl, k351, -⟩ := rBig_open q349
    obtain ⟨r352, q353, h⟩ := bind_some h
    refine Swp.drawW 11 [] (fun W1 => [.det (Value.agg #[(Value.bool negative298), v300]), .det (Value.pointer (some ⟨b1, 0, none⟩)), .det q_v, .det (Value.int .i64 i302), .det (Value.pointer (some ⟨b326, (o327 + n323 * rBig.sz), none⟩)), .det (Value.agg #[(Value.bool x321.Negative), v334]), .det x_v, .det (Value.int .i64 i302), .det (Value.pointer (some ⟨b342, (o343 + n339 * rBig.sz), none⟩)), .det (Value.agg #[(Value.bool x337.Negative), v350]), .rel (fun v Z w' => ∃ v354, (Value.agg #[(Value.bool r352.Negative), v354]) = v ∧ Rs (rInt .u32) (Zv W1 w.heap.size None [some b1, some b9] Z w') v354 r352.Digits ∧ True) (fun _ => [])]) mixed rfl rfl rfl ?_ ?_
    ·
     intro W1 _
     exact ⟨fun v Z Z' w w' hΦ hz _ _ hs => by obtain ⟨v354, rfl, k355, -⟩ := hΦ; exact ⟨v354, rfl, (k355.mono (Zv.stay hz hs)), trivial⟩, trivial⟩
    ·
     intro w357 hE358
     have hL359 := hL317.ext hE358
     have K360 := Keep.ext (s := w.heap.size) (O := [some b1, some b9]) hE358
     refine DrH.det ?_ ?_
     ·
      rintro w361 Z362 hE363 hZ364 ⟨-⟩
      have hL365 := hL359.ext hE363
      refine GOp.op (OpY.ldBoxA (vs := [(Value.bool negative298), v300]) Try.underlying26 rfl ti26 rfl (hL365.at 1 rfl rfl) rfl rfl ?_)
      exact ⟨Ext.refl _, rfl⟩
     refine DrH.det ?_ ?_
     ·
      rintro w367 Z368 hE369 hZ370 ⟨-⟩
      refine GOp.op (OpY.fieldAddr (q := 0) Try.underlying34 rfl ti32 rfl rfl rfl ?_)
      exact ⟨Ext.refl _, rfl⟩
     refine DrH.det ?_ ?_
     ·
      rintro w373 Z374 hE375 hZ376 ⟨-⟩
      have hL377 := hL359.ext hE375
      refine GOp.op (OpY.ldBox1 (v := q_v) Try.underlying32 rfl rfl (hL377.at 0 rfl rfl) rfl ?_)
      exact ⟨Ext.refl _, rfl⟩
     refine DrH.det ?_ ?_
     ·
      rintro w379 Z380 hE381 hZ382 ⟨-⟩
      refine GOp.op (OpY.move (v := (Value.int .i64 i302)) rfl ?_)
      exact ⟨Ext.refl _, rfl⟩
     refine DrH.det ?_ ?_
     ·
      rintro w385 Z386 hE387 hZ388 ⟨-⟩
      refine GOp.op (OpY.ixRoD (r := rBig) (v := q_v) (n := n323) (m := (o327 + n323 * rBig.sz)) Try.underlying32 ti26 rfl q330 rfl q324 q325 rfl ?_)
      exact ⟨Ext.refl _, rfl⟩
     refine DrH.det ?_ ?_
     ·
      rintro w391 Z392 hE393 hZ394 ⟨-⟩
      have K396 := Keep.ext (s := w.heap.size) (O := [some b1, some b9]) hE393
      refine GOp.op (OpY.ldRoA (vs := [(Value.bool x321.Negative), v334]) Try.underlying26 rfl ti26 rfl rfl vw_view (At.mono (K396 S) (At.mono (K360 S) f332)) ?_)
      exact ⟨Ext.refl _, rfl⟩
     refine DrH.det ?_ ?_
     ·
      rintro w397 Z398 hE399 hZ400 ⟨-⟩
      refine GOp.op (OpY.move (v := x_v) rfl ?_)
      exact ⟨Ext.refl _, rfl⟩
     refine DrH.det ?_ ?_
     ·
      rintro w403 Z404 hE405 hZ406 ⟨-⟩
      refine GOp.op (OpY.move (v := (Value.int .i64 i302)) rfl ?_)
      exact ⟨Ext.refl _, rfl⟩
     refine DrH.det ?_ ?_
     ·
      rintro w409 Z410 hE411 hZ412 ⟨-⟩
      refine GOp.op (OpY.ixRoD (r := rBig) (v := x_v) (n := n339) (m := (o343 + n339 * rBig.sz)) Try.underlying32 ti26 rfl q346 rfl q340 q341 rfl ?_)
      exact ⟨Ext.refl _, rfl⟩
     refine DrH.det ?_ ?_
     ·
      rintro w415 Z416 hE417 hZ418 ⟨-⟩
      have K420 := Keep.ext (s := w.heap.size) (O := [some b1, some b9]) hE417
      refine GOp.op (OpY.ldRoA (vs := [(Value.bool x337.Negative), v350]) Try.underlying26 rfl ti26 rfl rfl vw_view (At.mono (K420 S) (At.mono (K360 S) f348)) ?_)
      exact ⟨Ext.refl _, rfl⟩
     refine DrH.rel ?_ ?_
     ·
      rintro w421 Z422 hE423 hZ424 ⟨-⟩
      have K426 := Keep.ext (s := w.heap.size) (O := [some b1, some b9]) hE423
      refine GOp.op (OpY.call en39 rfl rfl (rMul_w N x321 x337 v334 v350 _ Any (((k335.mono (K360 S)).mono (K426 S)).mono vw_any) (((k351.mono (K360 S)).mono (K426 S)).mono vw_any) r352 q353) ?_)
      rintro _ w427 hE428 ⟨v354, rfl, k355, -⟩
      exact Made.ext hE428 hZ424 NewOwn.nil (fun _ h => h) ⟨v354, rfl, (k355.mono Zv.made), trivial⟩
     intro z10
     refine DrH.fin ?_
     rintro w429 Z430 hE431 hZ432 ⟨⟨⟨v354, rfl, k355, -⟩, hB10⟩, -⟩ ap433
     have hB434 : ∀ b, some b ∈ ([] : List (Option Nat)) → w357.heap.size ≤ b ∧ ¬ Z430 b := by
      intro b hb; cases hb
     replace k355 := k355.mono (Zv.fin hL359 hZ432 hB434)
     have hL435 := hL359.ext hE431
     have K436 := Keep.ext (s := w.heap.size) (O := [some b1, some b9]) hE431
     obtain ⟨r437, q438, h⟩ := bind_some h
     have f442 := ((k301.mono (K360 None)).mono (K436 None))
     refine Rl.op (OpY.call en38 rfl rfl (rAdd_w N (Big.mk negative298 digits299) r352 v300 v354 _ Any (f442.mono vw_any) (k355.mono vw_any) r437 q438) ?_)
     rintro _ w443 hE446 ⟨v439, rfl, k440, -⟩
     replace k440 := k440.mono (Hv.freshO (S := None) hL435 [])
     have hL444 := hL435.ext hE446
     have K445 := Keep.ext (s := w.heap.size) (O := [some b1, some b9]) hE446
     refine Rl.op0 (OpY.store (vs := [(Value.bool r437.Negative), v439]) ti26 rfl rfl rfl rfl (ones_cons rfl (ones_cons k440.one ones_nil)) hL444 1 rfl rfl (Nat.le_of_ble_eq_true rfl) ?_)
     intro w447 (hL448 : Go.X.Loc [] [] w w447 [some b1, some b9] [Cont.cells [q_v, (Value.bool q.Bound.Negative), q_v1], Cont.cells [(Value.bool r437.Negative), v439]]) hS450
     have K449 := Keep.step (s := w.heap.size) hS450
     refine Rl.nil ?_
     refine Swp.pop_blk ?_
     refine Swp.region rfl ?_
     refine Rl.op (OpY.move (v := (Value.int .i64 i302)) rfl ?_)
     refine Rl.op (OpY.add (x := i302) (y := 1) (z := (iw (i302 + 1))) rfl rfl rfl ?_)
     refine Rl.op (OpY.assign (v := (Value.int .i64 (iw (i302 + 1)))) rfl ?_)
     refine Rl.nil ?_
     have f451 := (k440.mono (K449 None))
     obtain rfl := Option.some.inj h
     refine Swp.pop_back ⟨(r437.Negative, r437.Digits, (iw (i302 + 1))), rfl, ?_⟩
     exact ⟨v439, _, (upds_sym ⟨rfl, ⟨rfl, ⟨rfl, ⟨rfl, trivial⟩⟩⟩⟩), hL448, (Keep.trans (Keep.trans (Keep.trans (Keep.trans K318 K360) K436) K445) K449), f451, trivial⟩
   ·
    replace h := ite_f hc320 h
    refine Swp.exit rfl ?_
    obtain rfl := Option.some.inj h
    obtain rfl := hd312 _ rfl
    replace h := g310
    try dsimp only at h
    skip
    refine Swp.pop_back ?_
    exact ⟨negative298, digits299, v300, _, rfl, (upds_sym ⟨rfl, ⟨rfl, trivial⟩⟩), hL317, K318, k301, trivial⟩
  ·
   rintro _ w452 ⟨negative305, digits306, v307, u, rfl, rfl, hL453, K454, k308, -⟩
   replace h := g310
   try dsimp only at h
   refine Swp.seq ?_
   refine Swp.region rfl ?_
   refine Rl.op (OpY.ldBoxA (vs := [(Value.bool negative305), v307]) Try.underlying26 rfl ti26 rfl (hL453.at 1 rfl rfl) rfl rfl ?_)
   refine Rl.op (OpY.fieldAddr (q := 1) Try.underlying34 rfl ti26 rfl rfl rfl ?_)
   refine Rl.op (OpY.ldBoxA (vs := [(Value.bool q.Bound.Negative), q_v1]) Try.underlying26 rfl ti26 rfl (hL453.at 0 rfl rfl) rfl rfl ?_)
   obtain ⟨r455, q456, h⟩ := bind_some h
   have f458 := ((((q_h1.mono (K4 S)).mono (K12 S)).mono (K16 S)).mono (K454 S))
   refine Rl.op (OpY.call en25 rfl rfl (rCompare_w N (Big.mk negative305 digits306) q.Bound v307 q_v1 _ Any (k308.mono vw_any) (f458.mono vw_any) r455 q456) ?_)
   rintro _ w459 hE462 ⟨rfl, -⟩
   have hL460 := hL453.ext hE462
   refine Rl.op (OpY.leq (x := r455) (y := 0) ((r455 : Int) ≤ 0) rfl rfl Iff.rfl ?_)
   refine Rl.op (OpY.assign (v := (Value.bool (decide ((r455 : Int) ≤ 0)))) rfl ?_)
   refine Rl.nil ?_
   refine Swp.ret ?_
   obtain rfl := Option.some.inj h
   refine ⟨[(Value.bool (decide ((r455 : Int) ≤ 0)))], ⟨rfl, trivial⟩, ⟨_, rfl, hL460.done, ?_⟩⟩
   exact ⟨rfl, trivial⟩
theorem rbigs_w (N : Nat) (l : (List Big)) (l_v : Value) (w : World) (S : Nat → Prop) (l_h : Rs rBig (Hv w.heap.size S [] w) l_v l) (r : Bool) (h : rbigs N l = some r) :
  Calls Try.prog 43 #[l_v] w (Ret w (fun v w' => (Value.bool r) = v ∧ True)) := by
 unfold rbigs at h
 have hL : Go.X.Loc [] [] w w [] [] := Go.X.Loc.begin0 w
 refine calls_of (l := [l_v]) (rl := [.tmp 2]) (n := 20) Try.func43 rfl rfl rfl (Nat.le_of_ble_eq_true rfl) ?_
 refine Swp.seq ?_
 refine Swp.region rfl ?_
 refine Rl.op (OpY.assign (v := (Value.bool false)) rfl ?_)
 refine Rl.nil ?_
 refine Swp.seq ?_
 refine Swp.seq ?_
 refine Swp.region rfl ?_
 refine Rl.op (OpY.assign (v := (Value.int .i64 0)) rfl ?_)
 refine Rl.nil ?_
 obtain ⟨s47, hl49, g48⟩ := bind_some h
 refine Swp.join (fun e w' => ∃  (u : Env), (Sum.inl ()) = s47 ∧ e = upds [(0, l_v)] u ∧ Go.X.Loc [] [] w w' [] [] ∧ Keep w.heap.size [] w [] w' ∧ True) ?_ ?_
 ·
  refine Swp.block ?_
  refine Swp.loopM hl49 (fun (ss : Int) (e : Env) (w' : World) => match ss with | i46 => ∃ (u : Env), e = upds [(0, l_v), (3, (Value.int .i64 i46))] u ∧ Go.X.Loc [] [] w w' [] [] ∧ Keep w.heap.size [] w [] w' ∧ True) ⟨_, (upds_sym ⟨rfl, ⟨rfl, trivial⟩⟩), hL, Keep.refl, trivial⟩ ?_
  rintro i46 oo _ w51 ⟨u, rfl, hL52, K53, -⟩ h hd50
  rw [rbigs_b1] at h
  refine Swp.seq ?_
  refine Swp.seq ?_
  refine Swp.region rfl ?_
  refine Rl.op (OpY.move (v := (Value.int .i64 i46)) rfl ?_)
  refine Rl.op (OpY.move (v := l_v) rfl ?_)
  have f54 := (l_h.mono (K53 S))
  refine Rl.op (OpY.lenRo (v := l_v) Try.underlying32 rfl f54 ?_)
  refine Rl.op (OpY.lss (x := i46) (y := (List.length l : Int)) ((i46 : Int) < (List.length l : Int)) rfl rfl Iff.rfl ?_)
  refine Rl.nil ?_
  refine Swp.cond_d ((i46 : Int) < (List.length l : Int)) rfl (fun hc55 => ?_) (fun hc55 => ?_)
  ·
   replace h := ite_t hc55 h
   refine Swp.skip ?_
   refine Swp.seq ?_
   refine Swp.block ?_
   refine Swp.seq ?_
   refine Swp.region rfl ?_
   refine Rl.op (OpY.move (v := l_v) rfl ?_)
   refine Rl.op (OpY.move (v := (Value.int .i64 i46)) rfl ?_)
   obtain ⟨x56, q57, h⟩ := bind_some h
   obtain ⟨n58, q59, q60⟩ := idx_some q57
   obtain ⟨b61, o62, c63, vs64, q65, q66, f67, q68⟩ := Rs.get f54 q60
   obtain ⟨v69, rfl, k70, -⟩ := rBig_open q68
   refine Rl.op (OpY.ixRoD (r := rBig) (v := l_v) (n := n58) (m := (o62 + n58 * rBig.sz)) Try.underlying32 ti26 rfl q65 rfl q59 q60 rfl ?_)
   have f71 := (f67.part (us := [v69]) 1 rfl)
   refine Rl.op (OpY.fieldAddr (q := (o62 + n58 * rBig.sz) + 1) Try.underlying26 rfl ti24 rfl rfl rfl ?_)
   refine Rl.op (OpY.ldRo1 (v := v69) Try.underlying24 rfl rfl vw_view f71 ?_)
   refine Rl.op (OpY.lenRo (v := v69) Try.underlying24 rfl k70 ?_)
   refine Rl.op (OpY.gtr (x := (List.length x56.Digits : Int)) (y := 4) (((List.length x56.Digits : Int) : Int) > 4) rfl rfl Iff.rfl ?_)
   refine Rl.nil ?_
   refine Swp.cond_d (((List.length x56.Digits : Int) : Int) > 4) rfl (fun hc72 => ?_) (fun hc72 => ?_)
   ·
    replace h := ite_t hc72 h
    refine Swp.seq ?_
    refine Swp.region rfl ?_
    refine Rl.op (OpY.assign (v := (Value.bool false)) rfl ?_)
    refine Rl.nil ?_
    refine Swp.ret ?_
    obtain rfl := Option.some.inj h
    obtain rfl := hd50 _ rfl
    replace h := g48
    try dsimp only at h
    obtain rfl := Option.some.inj h
    refine ⟨[(Value.bool false)], ⟨rfl, trivial⟩, ⟨_, rfl, hL52.done, ?_⟩⟩
    exact ⟨rfl, trivial⟩
   ·
    replace h := ite_f hc72 h
    refine Swp.skip ?_
    refine Swp.pop_blk ?_
    refine Swp.region rfl ?_
    refine Rl.op (OpY.move (v := (Value.int .i64 i46)) rfl ?_)
    refine Rl.op (OpY.add (x := i46) (y := 1) (z := (iw (i46 + 1))) rfl rfl rfl ?_)
    refine Rl.op (OpY.assign (v := (Value.int .i64 (iw (i46 + 1)))) rfl ?_)
    refine Rl.nil ?_
    obtain rfl := Option.some.inj h
    refine Swp.pop_back ⟨(iw (i46 + 1)), rfl, ?_⟩
    exact ⟨_, (upds_sym ⟨rfl, ⟨rfl, trivial⟩⟩), hL52, K53, trivial⟩
  ·
   replace h := ite_f hc55 h
   refine Swp.exit rfl ?_
   obtain rfl := Option.some.inj h
   obtain rfl := hd50 _ rfl
   replace h := g48
   try dsimp only at h
   skip
   refine Swp.pop_back ?_
   exact ⟨_, rfl, (upds_sym ⟨rfl, trivial⟩), hL52, K53, trivial⟩
 ·
  rintro _ w73 ⟨u, rfl, rfl, hL74, K75, -⟩
  replace h := g48
  try dsimp only at h
  refine Swp.seq ?_
  refine Swp.region rfl ?_
  refine Rl.op (OpY.move (v := l_v) rfl ?_)
  have f76 := (l_h.mono (K75 S))
  refine Rl.op (OpY.lenRo (v := l_v) Try.underlying32 rfl f76 ?_)
  refine Rl.op (OpY.leq (x := (List.length l : Int)) (y := 6) (((List.length l : Int) : Int) ≤ 6) rfl rfl Iff.rfl ?_)
  refine Rl.op (OpY.assign (v := (Value.bool (decide (((List.length l : Int) : Int) ≤ 6)))) rfl ?_)
  refine Rl.nil ?_
  refine Swp.ret ?_
  obtain rfl := Option.some.inj h
  refine ⟨[(Value.bool (decide (((List.length l : Int) : Int) ≤ 6)))], ⟨rfl, trivial⟩, ⟨_, rfl, hL74.done, ?_⟩⟩
  exact ⟨rfl, trivial⟩
theorem rSmall_w (N : Nat) (l : (List Ineq)) (l_v : Value) (w : World) (S : Nat → Prop) (l_h : Rs rIneq (Hv w.heap.size S [] w) l_v l) (r : Bool) (h : rSmall N l = some r) :
  Calls Try.prog 12 #[l_v] w (Ret w (fun v w' => (Value.bool r) = v ∧ True)) := by
 unfold rSmall at h
 have hL : Go.X.Loc [] [] w w [] [] := Go.X.Loc.begin0 w
 refine calls_of (l := [l_v]) (rl := [.tmp 2]) (n := 30) Try.func12 rfl rfl rfl (Nat.le_of_ble_eq_true rfl) ?_
 refine Swp.seq ?_
 refine Swp.region rfl ?_
 refine Rl.op (OpY.assign (v := (Value.bool false)) rfl ?_)
 refine Rl.nil ?_
 refine Swp.seq ?_
 refine Swp.seq ?_
 refine Swp.region rfl ?_
 refine Rl.op (OpY.assign (v := (Value.int .i64 0)) rfl ?_)
 refine Rl.nil ?_
 obtain ⟨s211, hl213, g212⟩ := bind_some h
 refine Swp.join (fun e w' => ∃  (u : Env), (Sum.inl ()) = s211 ∧ e = upds [(0, l_v)] u ∧ Go.X.Loc [] [] w w' [] [] ∧ Keep w.heap.size [] w [] w' ∧ True) ?_ ?_
 ·
  refine Swp.block ?_
  refine Swp.loopM hl213 (fun (ss : Int) (e : Env) (w' : World) => match ss with | i210 => ∃ (u : Env), e = upds [(0, l_v), (3, (Value.int .i64 i210))] u ∧ Go.X.Loc [] [] w w' [] [] ∧ Keep w.heap.size [] w [] w' ∧ True) ⟨_, (upds_sym ⟨rfl, ⟨rfl, trivial⟩⟩), hL, Keep.refl, trivial⟩ ?_
  rintro i210 oo _ w215 ⟨u, rfl, hL216, K217, -⟩ h hd214
  rw [rSmall_b1] at h
  refine Swp.seq ?_
  refine Swp.seq ?_
  refine Swp.region rfl ?_
  refine Rl.op (OpY.move (v := (Value.int .i64 i210)) rfl ?_)
  refine Rl.op (OpY.move (v := l_v) rfl ?_)
  have f218 := (l_h.mono (K217 S))
  refine Rl.op (OpY.lenRo (v := l_v) Try.underlying22 rfl f218 ?_)
  refine Rl.op (OpY.lss (x := i210) (y := (List.length l : Int)) ((i210 : Int) < (List.length l : Int)) rfl rfl Iff.rfl ?_)
  refine Rl.nil ?_
  refine Swp.cond_d ((i210 : Int) < (List.length l : Int)) rfl (fun hc219 => ?_) (fun hc219 => ?_)
  ·
   replace h := ite_t hc219 h
   refine Swp.skip ?_
   refine Swp.seq ?_
   refine Swp.block ?_
   refine Swp.seq ?_
   obtain ⟨s267, h, g268⟩ := bind_some h
   refine Swp.join (fun e w' => ∃ (x266 : Bool) (u : Env), x266 = s267 ∧ e = upds [(0, l_v), (3, (Value.int .i64 i210)), (26, (Value.bool x266))] u ∧ Go.X.Loc [] [] w w' [] [] ∧ Keep w.heap.size [] w215 [] w' ∧ True) ?_ ?_
   ·
    refine Swp.region rfl ?_
    refine Rl.op (OpY.move (v := l_v) rfl ?_)
    refine Rl.op (OpY.move (v := (Value.int .i64 i210)) rfl ?_)
    obtain ⟨x269, q270, h⟩ := bind_some h
    obtain ⟨n271, q272, q273⟩ := idx_some q270
    obtain ⟨b274, o275, c276, vs277, q278, q279, f280, q281⟩ := Rs.get f218 q273
    obtain ⟨v282, v284, rfl, k283, k285, -⟩ := rIneq_open q281
    refine Rl.op (OpY.ixRoD (r := rIneq) (v := l_v) (n := n271) (m := (o275 + n271 * rIneq.sz)) Try.underlying22 ti34 rfl q278 rfl q272 q273 rfl ?_)
    have f286 := (f280.part (us := [v282]) 0 rfl)
    refine Rl.op (OpY.fieldAddr (q := (o275 + n271 * rIneq.sz) + 0) Try.underlying34 rfl ti32 rfl rfl rfl ?_)
    refine Rl.op (OpY.ldRo1 (v := v282) Try.underlying32 rfl rfl vw_view f286 ?_)
    obtain ⟨r287, q288, h⟩ := bind_some h
    refine Rl.op (OpY.call en43 rfl rfl (rbigs_w N x269.Coefs v282 _ Any (k283.mono vw_any) r287 q288) ?_)
    rintro _ w290 hE293 ⟨rfl, -⟩
    have hL291 := hL216.ext hE293
    have K292 := Keep.ext (s := w.heap.size) (O := []) hE293
    refine Rl.op (OpY.not (x := r287) rfl ?_)
    refine Rl.op (OpY.move (v := (Value.bool (!r287))) rfl ?_)
    by_cases hc294 : (!r287) = true
    ·
     replace h := ite_t hc294 h
     refine Rl.no (dj := 17) (b' := (!r287)) rfl rfl hc294 ?_
     refine Rl.no (dj := 17) (b' := (!r287)) rfl rfl hc294 ?_
     refine Rl.no (dj := 17) (b' := (!r287)) rfl rfl hc294 ?_
     refine Rl.no (dj := 17) (b' := (!r287)) rfl rfl hc294 ?_
     refine Rl.no (dj := 17) (b' := (!r287)) rfl rfl hc294 ?_
     refine Rl.no (dj := 17) (b' := (!r287)) rfl rfl hc294 ?_
     refine Rl.no (dj := 17) (b' := (!r287)) rfl rfl hc294 ?_
     refine Rl.no (dj := 17) (b' := (!r287)) rfl rfl hc294 ?_
     refine Rl.op (OpY.pick_t (t := (!r287)) (v := (Value.bool true)) rfl hc294 rfl ?_)
     refine Rl.nil ?_
     obtain rfl := Option.some.inj h
     refine Swp.pop_back ?_
     exact ⟨true, _, rfl, (upds_sym ⟨rfl, ⟨rfl, ⟨rfl, trivial⟩⟩⟩), hL291, K292, trivial⟩
    ·
     replace h := ite_f hc294 h
     refine Rl.yes (dj := 17) (b' := (!r287)) rfl rfl (eq_false_of_ne_true hc294) (OpY.move (v := l_v) rfl ?_)
     refine Rl.yes (dj := 17) (b' := (!r287)) rfl rfl (eq_false_of_ne_true hc294) (OpY.move (v := (Value.int .i64 i210)) rfl ?_)
     obtain ⟨x295, q296, h⟩ := bind_some h
     obtain ⟨n297, q298, q299⟩ := idx_some q296
     have f312 := (f218.mono (K292 S))
     obtain ⟨b300, o301, c302, vs303, q304, q305, f306, q307⟩ := Rs.get f312 q299
     obtain ⟨v308, v310, rfl, k309, k311, -⟩ := rIneq_open q307
     refine Rl.yes (dj := 17) (b' := (!r287)) rfl rfl (eq_false_of_ne_true hc294) (OpY.ixRoD (r := rIneq) (v := l_v) (n := n297) (m := (o301 + n297 * rIneq.sz)) Try.underlying22 ti34 rfl q304 rfl q298 q299 rfl ?_)
     have f313 := (f306.part (us := [(Value.bool x295.Bound.Negative), v310]) 1 rfl)
     refine Rl.yes (dj := 17) (b' := (!r287)) rfl rfl (eq_false_of_ne_true hc294) (OpY.fieldAddr (q := (o301 + n297 * rIneq.sz) + 1) Try.underlying34 rfl ti26 rfl rfl rfl ?_)
     have f314 := (f313.part (us := [v310]) 1 rfl)
     refine Rl.yes (dj := 17) (b' := (!r287)) rfl rfl (eq_false_of_ne_true hc294) (OpY.fieldAddr (q := (o301 + n297 * rIneq.sz) + 1 + 1) Try.underlying26 rfl ti24 rfl rfl rfl ?_)
     refine Rl.yes (dj := 17) (b' := (!r287)) rfl rfl (eq_false_of_ne_true hc294) (OpY.ldRo1 (v := v310) Try.underlying24 rfl rfl vw_view f314 ?_)
     refine Rl.yes (dj := 17) (b' := (!r287)) rfl rfl (eq_false_of_ne_true hc294) (OpY.lenRo (v := v310) Try.underlying24 rfl k311 ?_)
     refine Rl.yes (dj := 17) (b' := (!r287)) rfl rfl (eq_false_of_ne_true hc294) (OpY.gtr (x := (List.length x295.Bound.Digits : Int)) (y := 4) (((List.length x295.Bound.Digits : Int) : Int) > 4) rfl rfl Iff.rfl ?_)
     refine Rl.op (OpY.pick_f (t := (!r287)) (v := (Value.bool (decide (((List.length x295.Bound.Digits : Int) : Int) > 4)))) rfl (eq_false_of_ne_true hc294) rfl ?_)
     refine Rl.nil ?_
     obtain rfl := Option.some.inj h
     refine Swp.pop_back ?_
     exact ⟨(decide (((List.length x295.Bound.Digits : Int) : Int) > 4)), _, rfl, (upds_sym ⟨rfl, ⟨rfl, ⟨rfl, trivial⟩⟩⟩), hL291, K292, trivial⟩
   ·
    rintro _ w315 ⟨x266, u, rfl, rfl, hL316, K317, -⟩
    replace h := g268
    try dsimp only at h
    refine Swp.cond_b x266 rfl (fun hc318 => ?_) (fun hc318 => ?_)
    ·
     replace h := ite_t hc318 h
     refine Swp.seq ?_
     refine Swp.region rfl ?_
     refine Rl.op (OpY.assign (v := (Value.bool false)) rfl ?_)
     refine Rl.nil ?_
     refine Swp.ret ?_
     obtain rfl := Option.some.inj h
     obtain rfl := hd214 _ rfl
     replace h := g212
     try dsimp only at h
     obtain rfl := Option.some.inj h
     refine ⟨[(Value.bool false)], ⟨rfl, trivial⟩, ⟨_, rfl, hL316.done, ?_⟩⟩
     exact ⟨rfl, trivial⟩
    ·
     replace h := ite_f hc318 h
     refine Swp.skip ?_
     refine Swp.pop_blk ?_
     refine Swp.region rfl ?_
     refine Rl.op (OpY.move (v := (Value.int .i64 i210)) rfl ?_)
     refine Rl.op (OpY.add (x := i210) (y := 1) (z := (iw (i210 + 1))) rfl rfl rfl ?_)
     refine Rl.op (OpY.assign (v := (Value.int .i64 (iw (i210 + 1)))) rfl ?_)
     refine Rl.nil ?_
     obtain rfl := Option.some.inj h
     refine Swp.pop_back ⟨(iw (i210 + 1)), rfl, ?_⟩
     exact ⟨_, (upds_sym ⟨rfl, ⟨rfl, trivial⟩⟩), hL316, (Keep.trans K217 K317), trivial⟩
  ·
   replace h := ite_f hc219 h
   refine Swp.exit rfl ?_
   obtain rfl := Option.some.inj h
   obtain rfl := hd214 _ rfl
   replace h := g212
   try dsimp only at h
   skip
   refine Swp.pop_back ?_
   exact ⟨_, rfl, (upds_sym ⟨rfl, trivial⟩), hL216, K217, trivial⟩
 ·
  rintro _ w319 ⟨u, rfl, rfl, hL320, K321, -⟩
  replace h := g212
  try dsimp only at h
  refine Swp.seq ?_
  refine Swp.region rfl ?_
  refine Rl.op (OpY.move (v := l_v) rfl ?_)
  have f322 := (l_h.mono (K321 S))
  refine Rl.op (OpY.lenRo (v := l_v) Try.underlying22 rfl f322 ?_)
  refine Rl.op (OpY.leq (x := (List.length l : Int)) (y := 12) (((List.length l : Int) : Int) ≤ 12) rfl rfl Iff.rfl ?_)
  refine Rl.op (OpY.assign (v := (Value.bool (decide (((List.length l : Int) : Int) ≤ 12)))) rfl ?_)
  refine Rl.nil ?_
  refine Swp.ret ?_
  obtain rfl := Option.some.inj h
  refine ⟨[(Value.bool (decide (((List.length l : Int) : Int) ≤ 12)))], ⟨rfl, trivial⟩, ⟨_, rfl, hL320.done, ?_⟩⟩
  exact ⟨rfl, trivial⟩
end Go.Proofs.Ytakkacdhlocckaa.WD

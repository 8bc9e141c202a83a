/- Walks, written by a program of mine (wip/tool); the kernel checks them. -/
import Derived.Test.YtckhldmpcddjmaaDoorProg
import Derived.Test.YtckhldmpcddjmaaDoorZ14
import Derived.Test.YtckhldmpcddjmaaDoorF20
import Derived.Test.YtckhldmpcddjmaaDoorPA
set_option maxRecDepth 100000
set_option maxHeartbeats 40000000
set_option linter.unusedVariables false
set_option linter.unusedSimpArgs false
namespace Go.Proofs.YtckhldmpcddjmaaDoor.WA
open Go Go.RowKit Go.X Go.D Go.Proofs.YtckhldmpcddjmaaDoor.WF 
theorem mixed : Tryd.prog.follows .mixedOrders = true := by kernel_rfl
theorem ti22 : TI Tryd.prog 22 1 24 (Value.slice none 0 0) := TI.mk (by kernel_rfl)
theorem ti30 : TI Tryd.prog 30 1 24 (Value.slice none 0 0) := TI.mk (by kernel_rfl)
theorem ti58 : TI Tryd.prog 58 1 24 (Value.slice none 0 0) := TI.mk (by kernel_rfl)
theorem ti57 : TI Tryd.prog 57 3 16 (Value.agg #[(Value.int .u8 0), (Value.int .u8 0), (Value.int .i64 0)]) := TI.mk (by kernel_rfl)
theorem ti5 : TI Tryd.prog 5 1 1 (Value.int .u8 0) := TI.mk (by kernel_rfl)
theorem ti3 : TI Tryd.prog 3 1 8 (Value.int .i64 0) := TI.mk (by kernel_rfl)
theorem ti4 : TI Tryd.prog 4 1 1 (Value.bool false) := TI.mk (by kernel_rfl)
theorem en39 : Go.X.Enters Tryd.prog 39 := ⟨Tryd.f39, Tryd.func39, by kernel_rfl, by kernel_rfl⟩
theorem en40 : Go.X.Enters Tryd.prog 40 := ⟨Tryd.f40, Tryd.func40, by kernel_rfl, by kernel_rfl⟩
theorem pl57 : placesT Tryd.prog 57 = some [(0, 1), (1, 1), (2, 1)] := by kernel_rfl
theorem en55 : Go.X.Enters Tryd.prog 55 := ⟨Tryd.f55, Tryd.func55, by kernel_rfl, by kernel_rfl⟩
theorem ti32 : TI Tryd.prog 32 2 48 (Value.agg #[(Value.slice none 0 0), (Value.slice none 0 0)]) := TI.mk (by kernel_rfl)
theorem en45 : Go.X.Enters Tryd.prog 45 := ⟨Tryd.f45, Tryd.func45, by kernel_rfl, by kernel_rfl⟩
theorem en36 : Go.X.Enters Tryd.prog 36 := ⟨Tryd.f36, Tryd.func36, by kernel_rfl, by kernel_rfl⟩
theorem pl32 : placesT Tryd.prog 32 = some [(0, 1), (1, 1)] := by kernel_rfl
theorem pl60 : placesT Tryd.prog 60 = some [(0, 1), (1, 1)] := by kernel_rfl
theorem ti60 : TI Tryd.prog 60 2 24 (Value.agg #[(Value.int .i64 0), (Value.string ⟨#[]⟩)]) := TI.mk (by kernel_rfl)
theorem ti9 : TI Tryd.prog 9 1 16 (Value.string ⟨#[]⟩) := TI.mk (by kernel_rfl)
theorem en56 : Go.X.Enters Tryd.prog 56 := ⟨Tryd.f56, Tryd.func56, by kernel_rfl, by kernel_rfl⟩
theorem en57 : Go.X.Enters Tryd.prog 57 := ⟨Tryd.f57, Tryd.func57, by kernel_rfl, by kernel_rfl⟩
theorem en59 : Go.X.Enters Tryd.prog 59 := ⟨Tryd.f59, Tryd.func59, by kernel_rfl, by kernel_rfl⟩
theorem en46 : Go.X.Enters Tryd.prog 46 := ⟨Tryd.f46, Tryd.func46, by kernel_rfl, by kernel_rfl⟩
theorem en58 : Go.X.Enters Tryd.prog 58 := ⟨Tryd.f58, Tryd.func58, by kernel_rfl, by kernel_rfl⟩
theorem en43 : Go.X.Enters Tryd.prog 43 := ⟨Tryd.f43, Tryd.func43, by kernel_rfl, by kernel_rfl⟩
theorem en44 : Go.X.Enters Tryd.prog 44 := ⟨Tryd.f44, Tryd.func44, by kernel_rfl, by kernel_rfl⟩
theorem pl90 : placesT Tryd.prog 90 = some [(0, 1), (1, 1)] := by kernel_rfl
theorem ti90 : TI Tryd.prog 90 2 16 (Value.agg #[(Value.int .i64 0), (Value.int .i64 0)]) := TI.mk (by kernel_rfl)
theorem ti35 : TI Tryd.prog 35 1 24 (Value.slice none 0 0) := TI.mk (by kernel_rfl)
theorem ti67 : TI Tryd.prog 67 1 24 (Value.slice none 0 0) := TI.mk (by kernel_rfl)
theorem en38 : Go.X.Enters Tryd.prog 38 := ⟨Tryd.f38, Tryd.func38, by kernel_rfl, by kernel_rfl⟩
theorem pl69 : placesT Tryd.prog 69 = some [(0, 2), (2, 1), (3, 1), (4, 1)] := by kernel_rfl
theorem ti69 : TI Tryd.prog 69 5 104 (Value.agg #[(Value.slice none 0 0), (Value.slice none 0 0), (Value.slice none 0 0), (Value.int .i64 0), (Value.slice none 0 0)]) := TI.mk (by kernel_rfl)
theorem ti66 : TI Tryd.prog 66 1 8 (Value.pointer none) := TI.mk (by kernel_rfl)
theorem en37 : Go.X.Enters Tryd.prog 37 := ⟨Tryd.f37, Tryd.func37, by kernel_rfl, by kernel_rfl⟩
theorem eq2_90 : Eq2 Tryd.prog 90 := ⟨by kernel_rfl, by kernel_rfl, by kernel_rfl, .i64, .i64, by kernel_rfl⟩
theorem mky_9 : MKey Tryd.prog 9 (fun x : List UInt8 => Value.string (s8 x)) := MKey.str Tryd.underlying9
theorem mky_3 : MKey Tryd.prog 3 (fun x : Int => Value.int .i64 x) := MKey.int Tryd.underlying3
theorem mky_90 : MKey Tryd.prog 90 (fun x : APair => Value.agg #[Value.int .i64 x.a, Value.int .i64 x.b]) := MKey.pair eq2_90 (fun x y h1 h2 => by cases x; cases y; simp at h1 h2; subst h1; subst h2; rfl)
theorem aStep_w (N : Nat) (d : ADfa) (state : Int) (c : Int) (d_b : Nat) (d_v : Value) (d_v1 : Value) (w : World) (S : Nat → Prop) (d_at : At (Hv w.heap.size Any [] w) d_b 0 [d_v, d_v1]) (d_h : Rs rBool (Hv w.heap.size S [] w) d_v d.Accept) (d_h1 : Rs (rSl rAEdge) (Hv w.heap.size S [] w) d_v1 d.Edges) (r : Int) (h : aStep N d state c = some r) :
  Calls Tryd.prog 39 #[(Value.pointer (some ⟨d_b, 0, none⟩)), (Value.int .i64 state), (Value.int .u8 c)] w (Ret w (fun v w' => (Value.int .i64 r) = v ∧ True)) := by
 unfold aStep at h
 have hL : Go.X.Loc [] [] w w [] [] := Go.X.Loc.begin0 w
 refine calls_of (l := [(Value.pointer (some ⟨d_b, 0, none⟩)), (Value.int .i64 state), (Value.int .u8 c)]) (rl := [.tmp 6]) (n := 36) Tryd.func39 rfl rfl rfl (Nat.le_of_ble_eq_true rfl) ?_
 refine Swp.seq (Swp.region rfl (Rl.op (OpY.assign (v := (Value.int .i64 0)) rfl ?_)))
 refine Rl.nil (Swp.seq (Swp.seq (Swp.region rfl (Rl.op (OpY.move (v := (Value.int .i64 state)) rfl ?_)))))
 refine Rl.op (OpY.eql (x := state) (y := (-1)) ((state : Int) = (-1)) rfl rfl Iff.rfl ?_)
 refine Rl.nil ?_
 refine Swp.cond_d ((state : Int) = (-1)) rfl (fun hc1 => ?_) (fun hc1 => ?_)
 ·
  replace h := ite_t hc1 h
  refine Swp.seq (Swp.region rfl (Rl.op (OpY.assign (v := (Value.int .i64 (-1))) rfl ?_)))
  refine Rl.nil (Swp.ret ?_)
  obtain rfl := Option.some.inj h
  refine ⟨[(Value.int .i64 (-1))], ⟨rfl, trivial⟩, ⟨_, rfl, hL.done, ?_⟩⟩
  exact ⟨rfl, trivial⟩
 ·
  replace h := ite_f hc1 h
  refine Swp.skip (Swp.seq (Swp.seq (Swp.region rfl (Rl.op (OpY.move (v := (Value.pointer (some ⟨d_b, 0, none⟩))) rfl ?_)))))
  refine Rl.op (OpY.nilCheck (b := ⟨d_b, 0, none⟩) rfl ?_)
  have f2 := (d_at.part (us := [d_v1]) 1 rfl)
  refine Rl.op (OpY.fieldAddr (q := 0 + 1) Tryd.underlying32 rfl ti30 rfl rfl rfl ?_)
  refine Rl.op (OpY.ldRo1 (v := d_v1) Tryd.underlying30 rfl rfl vw_view f2 ?_)
  refine Rl.op (OpY.move (v := (Value.int .i64 state)) rfl ?_)
  obtain ⟨x3, q4, h⟩ := bind_some h
  obtain ⟨n5, q6, q7⟩ := idx_some q4
  obtain ⟨b8, o9, c10, vs10, q10, q11, f10, q12⟩ := Rs.get d_h1 q7
  obtain ⟨v10, rfl, k10⟩ := q12
  refine Rl.op (OpY.ixRoD (r := (rSl rAEdge)) (v := d_v1) (n := n5) (m := (o9 + n5 * (rSl rAEdge).sz)) Tryd.underlying30 ti58 rfl q10 rfl q6 q7 rfl ?_)
  refine Rl.op (OpY.ldRo1 (v := v10) Tryd.underlying58 rfl rfl vw_view f10 ?_)
  refine Rl.op (OpY.lenRo (v := v10) Tryd.underlying58 rfl k10 ?_)
  refine Rl.op (OpY.move (v := (Value.int .i64 0)) rfl ?_)
  refine Rl.nil ?_
  obtain ⟨s10, hl10, g10⟩ := bind_some h
  refine Swp.join (fun e w' => ∃  (u : Env), (Sum.inl ()) = s10 ∧ e = upds [] u ∧ Go.X.Loc [] [] w w' [] [] ∧ Keep w.heap.size [] w [] w' ∧ True) ?_ ?_
  ·
   refine Swp.block ?_
   refine Swp.loopM hl10 (fun (ss : Int) (e : Env) (w' : World) => match ss with | x10 => ∃ (u : Env), e = upds [(2, (Value.int .u8 c)), (17, v10), (18, (Value.int .i64 (List.length x3 : Int))), (19, (Value.int .i64 x10))] u ∧ Go.X.Loc [] [] w w' [] [] ∧ Keep w.heap.size [] w [] w' ∧ True) ⟨_, (upds_sym ⟨rfl, rfl, rfl, rfl, trivial⟩), hL, Keep.refl, trivial⟩ ?_
   rintro x10 oo _ w10 ⟨u, rfl, hL10, K10, -⟩ h hd10
   rw [aStep_b1] at h
   refine Swp.seq (Swp.region rfl (Rl.op (OpY.lss (x := x10) (y := (List.length x3 : Int)) ((x10 : Int) < (List.length x3 : Int)) rfl rfl Iff.rfl ?_)))
   refine Rl.nil (Swp.seq ?_)
   refine Swp.cond_d ((x10 : Int) < (List.length x3 : Int)) rfl (fun hc10 => ?_) (fun hc10 => ?_)
   ·
    replace h := ite_t hc10 h
    refine Swp.skip (Swp.seq (Swp.block (Swp.seq (Swp.region rfl ?_))))
    obtain ⟨x11, q13, h⟩ := bind_some h
    obtain ⟨n10, q14, q15⟩ := idx_some q13
    have f11 := (k10.mono (K10 S))
    obtain ⟨b10, o10, c11, vs11, q16, q17, f12, q18⟩ := Rs.get f11 q15
    obtain ⟨rfl, -⟩ := rAEdge_open q18
    refine Rl.op (OpY.ixRoD (r := rAEdge) (v := v10) (n := n10) (m := (o10 + n10 * rAEdge.sz)) Tryd.underlying58 ti57 rfl q16 rfl q14 q15 rfl ?_)
    refine Rl.op (OpY.ldRoA (vs := [(Value.int .u8 x11.Low), (Value.int .u8 x11.High), (Value.int .i64 x11.To)]) Tryd.underlying57 rfl ti57 rfl rfl vw_view f12 ?_)
    refine Rl.op (OpY.alloc (cs := [(Value.int .u8 0), (Value.int .u8 0), (Value.int .i64 0)]) ti57 rfl hL10 ?_)
    intro b11 w11 hL11 hS10
    have K11 := ks w hS10
    refine Rl.op0 (OpY.store (vs := [(Value.int .u8 x11.Low), (Value.int .u8 x11.High), (Value.int .i64 x11.To)]) ti57 rfl rfl rfl rfl (ones_cons rfl (ones_cons rfl (ones_cons rfl ones_nil))) hL11 0 rfl rfl (Nat.le_of_ble_eq_true rfl) ?_)
    intro w12 (hL12 : Go.X.Loc [] [] w w12 [some b11] [Cont.cells [(Value.int .u8 x11.Low), (Value.int .u8 x11.High), (Value.int .i64 x11.To)]]) hS11
    have K12 := ks w hS11
    refine Rl.nil (Swp.seq ?_)
    obtain ⟨s11, h, g11⟩ := bind_some h
    refine Swp.join (fun e w' => ∃ (x12 : Bool) (u : Env), x12 = s11 ∧ e = upds [(2, (Value.int .u8 c)), (8, (Value.pointer (some ⟨b11, 0, none⟩))), (17, v10), (18, (Value.int .i64 (List.length x3 : Int))), (19, (Value.int .i64 x10)), (32, (Value.bool x12))] u ∧ Go.X.Loc [] [] w w' [some b11] [Cont.cells [(Value.int .u8 x11.Low), (Value.int .u8 x11.High), (Value.int .i64 x11.To)]] ∧ Keep w.heap.size [some b11] w12 [some b11] w' ∧ True) ?_ ?_
    ·
     refine Swp.region rfl (Rl.op (OpY.fieldAddr (q := 0) Tryd.underlying57 rfl ti5 rfl rfl rfl ?_))
     refine Rl.op (OpY.ldBox1 (v := (Value.int .u8 x11.Low)) Tryd.underlying5 rfl rfl (hL12.at 0 rfl rfl) rfl ?_)
     refine Rl.op (OpY.move (v := (Value.int .u8 c)) rfl ?_)
     refine Rl.op (OpY.leq (x := x11.Low) (y := c) ((x11.Low : Int) ≤ c) rfl rfl Iff.rfl ?_)
     refine Rl.op (OpY.move (v := (Value.bool (decide ((x11.Low : Int) ≤ c)))) rfl ?_)
     by_cases hc11 : (x11.Low : Int) ≤ c
     ·
      replace h := ite_t hc11 h
      refine Rl.yes rfl rfl (decide_eq_true hc11) (OpY.move (v := (Value.int .u8 c)) rfl ?_)
      refine Rl.yes rfl rfl (decide_eq_true hc11) (OpY.fieldAddr (q := 1) Tryd.underlying57 rfl ti5 rfl rfl rfl ?_)
      refine Rl.yes rfl rfl (decide_eq_true hc11) (OpY.ldBox1 (v := (Value.int .u8 x11.High)) Tryd.underlying5 rfl rfl (hL12.at 0 rfl rfl) rfl ?_)
      refine Rl.yes rfl rfl (decide_eq_true hc11) (OpY.leq (x := c) (y := x11.High) ((c : Int) ≤ x11.High) rfl rfl Iff.rfl ?_)
      refine Rl.op (OpY.pick_t (t := (decide ((x11.Low : Int) ≤ c))) (v := (Value.bool (decide ((c : Int) ≤ x11.High)))) rfl (decide_eq_true hc11) rfl ?_)
      refine Rl.nil ?_
      obtain rfl := Option.some.inj h
      refine Swp.pop_back ?_
      exact ⟨(decide ((c : Int) ≤ x11.High)), _, rfl, (upds_sym ⟨rfl, rfl, rfl, rfl, rfl, rfl, trivial⟩), hL12, Keep.refl, trivial⟩
     ·
      replace h := ite_f hc11 h
      refine Rl.no rfl rfl (decide_eq_false hc11) ?_
      refine Rl.no rfl rfl (decide_eq_false hc11) ?_
      refine Rl.no rfl rfl (decide_eq_false hc11) ?_
      refine Rl.no rfl rfl (decide_eq_false hc11) ?_
      refine Rl.op (OpY.pick_f (t := (decide ((x11.Low : Int) ≤ c))) (v := (Value.bool false)) rfl (decide_eq_false hc11) rfl ?_)
      refine Rl.nil ?_
      obtain rfl := Option.some.inj h
      refine Swp.pop_back ?_
      exact ⟨false, _, rfl, (upds_sym ⟨rfl, rfl, rfl, rfl, rfl, rfl, trivial⟩), hL12, Keep.refl, trivial⟩
    ·
     rintro _ w13 ⟨x12, u, rfl, rfl, hL13, K13, -⟩
     replace h := g11
     try dsimp only at h
     refine Swp.cond_b x12 rfl (fun hc12 => ?_) (fun hc12 => ?_)
     ·
      replace h := ite_t hc12 h
      refine Swp.seq (Swp.region rfl (Rl.op (OpY.fieldAddr (q := 2) Tryd.underlying57 rfl ti3 rfl rfl rfl ?_)))
      refine Rl.op (OpY.ldBox1 (v := (Value.int .i64 x11.To)) Tryd.underlying3 rfl rfl (hL13.at 0 rfl rfl) rfl ?_)
      refine Rl.op (OpY.assign (v := (Value.int .i64 x11.To)) rfl ?_)
      refine Rl.nil (Swp.ret ?_)
      obtain rfl := Option.some.inj h
      obtain rfl := hd10 _ rfl
      replace h := g10
      try dsimp only at h
      obtain rfl := Option.some.inj h
      refine ⟨[(Value.int .i64 x11.To)], ⟨rfl, trivial⟩, ⟨_, rfl, hL13.done, ?_⟩⟩
      exact ⟨rfl, trivial⟩
     ·
      replace h := ite_f hc12 h
      refine Swp.skip (Swp.pop_blk (Swp.region rfl (Rl.op (OpY.add (x := x10) (y := 1) (z := (iw (x10 + 1))) rfl rfl rfl ?_))))
      refine Rl.op (OpY.move (v := (Value.int .i64 (iw (x10 + 1)))) rfl ?_)
      refine Rl.nil ?_
      have hp10 := hL13.pick [] rfl rfl rfl
      have hL14 : Go.X.Loc [] [] w w13 [] [] := hp10.1
      have K14 := ks w hp10.2
      obtain rfl := Option.some.inj h
      refine Swp.pop_back ⟨(iw (x10 + 1)), rfl, ?_⟩
      exact ⟨_, (upds_sym ⟨rfl, rfl, rfl, rfl, trivial⟩), hL14, (Keep.trans (Keep.trans (Keep.trans (Keep.trans K10 K11) K12) K13) K14), trivial⟩
   ·
    replace h := ite_f hc10 h
    refine Swp.exit rfl ?_
    obtain rfl := Option.some.inj h
    obtain rfl := hd10 _ rfl
    replace h := g10
    try dsimp only at h
    skip
    refine Swp.pop_back ?_
    exact ⟨_, rfl, (upds_sym trivial), hL10, K10, trivial⟩
  ·
   rintro _ w14 ⟨u, rfl, rfl, hL15, K15, -⟩
   replace h := g10
   try dsimp only at h
   refine Swp.seq (Swp.region rfl (Rl.op (OpY.assign (v := (Value.int .i64 (-1))) rfl ?_)))
   refine Rl.nil (Swp.ret ?_)
   obtain rfl := Option.some.inj h
   refine ⟨[(Value.int .i64 (-1))], ⟨rfl, trivial⟩, ⟨_, rfl, hL15.done, ?_⟩⟩
   exact ⟨rfl, trivial⟩
theorem aFinal_w (N : Nat) (d : ADfa) (state : Int) (d_b : Nat) (d_v : Value) (d_v1 : Value) (w : World) (S : Nat → Prop) (d_at : At (Hv w.heap.size Any [] w) d_b 0 [d_v, d_v1]) (d_h : Rs rBool (Hv w.heap.size S [] w) d_v d.Accept) (d_h1 : Rs (rSl rAEdge) (Hv w.heap.size S [] w) d_v1 d.Edges) (r : Bool) (h : aFinal N d state = some r) :
  Calls Tryd.prog 40 #[(Value.pointer (some ⟨d_b, 0, none⟩)), (Value.int .i64 state)] w (Ret w (fun v w' => (Value.bool r) = v ∧ True)) := by
 unfold aFinal at h
 have hL : Go.X.Loc [] [] w w [] [] := Go.X.Loc.begin0 w
 refine calls_of (l := [(Value.pointer (some ⟨d_b, 0, none⟩)), (Value.int .i64 state)]) (rl := [.tmp 4]) (n := 16) Tryd.func40 rfl rfl rfl (Nat.le_of_ble_eq_true rfl) ?_
 refine Swp.seq (Swp.region rfl (Rl.op (OpY.assign (v := (Value.bool false)) rfl ?_)))
 refine Rl.nil (Swp.seq (Swp.region rfl (Rl.op (OpY.move (v := (Value.int .i64 state)) rfl ?_))))
 refine Rl.op (OpY.neq (x := state) (y := (-1)) ((state : Int) ≠ (-1)) rfl rfl Iff.rfl ?_)
 refine Rl.op (OpY.move (v := (Value.bool (decide ((state : Int) ≠ (-1))))) rfl ?_)
 by_cases hc1 : (state : Int) ≠ (-1)
 ·
  replace h := ite_t hc1 h
  refine Rl.yes rfl rfl (decide_eq_true hc1) (OpY.move (v := (Value.pointer (some ⟨d_b, 0, none⟩))) rfl ?_)
  refine Rl.yes rfl rfl (decide_eq_true hc1) (OpY.nilCheck (b := ⟨d_b, 0, none⟩) rfl ?_)
  have f2 := (d_at.part (us := [d_v]) 0 rfl)
  refine Rl.yes rfl rfl (decide_eq_true hc1) (OpY.fieldAddr (q := 0 + 0) Tryd.underlying32 rfl ti22 rfl rfl rfl ?_)
  refine Rl.yes rfl rfl (decide_eq_true hc1) (OpY.ldRo1 (v := d_v) Tryd.underlying22 rfl rfl vw_view f2 ?_)
  refine Rl.yes rfl rfl (decide_eq_true hc1) (OpY.move (v := (Value.int .i64 state)) rfl ?_)
  obtain ⟨x3, q4, h⟩ := bind_some h
  obtain ⟨n5, q6, q7⟩ := idx_some q4
  obtain ⟨b8, o9, c10, vs10, q10, q11, f10, q12⟩ := Rs.get d_h q7
  obtain rfl := q12
  refine Rl.yes rfl rfl (decide_eq_true hc1) (OpY.ixRoD (r := rBool) (v := d_v) (n := n5) (m := (o9 + n5 * rBool.sz)) Tryd.underlying22 ti4 rfl q10 rfl q6 q7 rfl ?_)
  refine Rl.yes rfl rfl (decide_eq_true hc1) (OpY.ldRo1 (v := (Value.bool x3)) Tryd.underlying4 rfl rfl vw_view f10 ?_)
  refine Rl.op (OpY.pick_t (t := (decide ((state : Int) ≠ (-1)))) (v := (Value.bool x3)) rfl (decide_eq_true hc1) rfl ?_)
  refine Rl.op (OpY.assign (v := (Value.bool x3)) rfl ?_)
  refine Rl.nil (Swp.ret ?_)
  obtain rfl := Option.some.inj h
  refine ⟨[(Value.bool x3)], ⟨rfl, trivial⟩, ⟨_, rfl, hL.done, ?_⟩⟩
  exact ⟨rfl, trivial⟩
 ·
  replace h := ite_f hc1 h
  refine Rl.no rfl rfl (decide_eq_false hc1) ?_
  refine Rl.no rfl rfl (decide_eq_false hc1) ?_
  refine Rl.no rfl rfl (decide_eq_false hc1) ?_
  refine Rl.no rfl rfl (decide_eq_false hc1) ?_
  refine Rl.no rfl rfl (decide_eq_false hc1) ?_
  refine Rl.no rfl rfl (decide_eq_false hc1) ?_
  refine Rl.no rfl rfl (decide_eq_false hc1) ?_
  refine Rl.op (OpY.pick_f (t := (decide ((state : Int) ≠ (-1)))) (v := (Value.bool false)) rfl (decide_eq_false hc1) rfl ?_)
  refine Rl.op (OpY.assign (v := (Value.bool false)) rfl ?_)
  refine Rl.nil (Swp.ret ?_)
  obtain rfl := Option.some.inj h
  refine ⟨[(Value.bool false)], ⟨rfl, trivial⟩, ⟨_, rfl, hL.done, ?_⟩⟩
  exact ⟨rfl, trivial⟩
theorem aAccepts_w (N : Nat) (d : ADfa) (s : (List UInt8)) (d_v : Value) (d_v1 : Value) (w : World) (S : Nat → Prop) (d_h : Rs rBool (Hv w.heap.size S [] w) d_v d.Accept) (d_h1 : Rs (rSl rAEdge) (Hv w.heap.size S [] w) d_v1 d.Edges) (r : Bool) (h : aAccepts N d s = some r) :
  Calls Tryd.prog 20 #[(Value.agg #[d_v, d_v1]), (Value.string (s8 s))] w (Ret w (fun v w' => (Value.bool r) = v ∧ True)) := by
 unfold aAccepts at h
 have hL : Go.X.Loc [] [] w w [] [] := Go.X.Loc.begin0 w
 refine calls_of (l := [(Value.agg #[d_v, d_v1]), (Value.string (s8 s))]) (rl := [.tmp 4]) (n := 20) Tryd.func20 rfl rfl rfl (Nat.le_of_ble_eq_true rfl) ?_
 refine Swp.seq (Swp.region rfl (Rl.op (OpY.box (cs := [d_v, d_v1]) rfl rfl hL ?_)))
 intro b1 w2 hL3 hS5
 have K4 := ks w hS5
 refine Rl.op (OpY.assign (v := (Value.bool false)) rfl ?_)
 refine Rl.nil (Swp.seq (Swp.region rfl (Rl.op (OpY.assign (v := (Value.int .i64 0)) rfl ?_))))
 refine Rl.nil (Swp.seq (Swp.seq (Swp.region rfl (Rl.op (OpY.move (v := (Value.string (s8 s))) rfl ?_)))))
 refine Rl.op (OpY.lenStr Tryd.underlying9 rfl ?_)
 refine Rl.op (OpY.move (v := (Value.int .i64 0)) rfl ?_)
 refine Rl.nil ?_
 obtain ⟨s10, hl10, g10⟩ := bind_some h
 refine Swp.join (fun e w' => ∃ (state10 : Int) (u : Env), state10 = s10 ∧ e = upds [(2, (Value.pointer (some ⟨b1, 0, none⟩))), (5, (Value.int .i64 state10))] u ∧ Go.X.Loc [] [] w w' [some b1] [Cont.cells [d_v, d_v1]] ∧ Keep w.heap.size [some b1] w2 [some b1] w' ∧ True) ?_ ?_
 ·
  refine Swp.block ?_
  refine Swp.loopM hl10 (fun (ss : (Int × Int)) (e : Env) (w' : World) => match ss with | (state11, x10) => ∃ (u : Env), e = upds [(1, (Value.string (s8 s))), (2, (Value.pointer (some ⟨b1, 0, none⟩))), (5, (Value.int .i64 state11)), (8, (Value.int .i64 (List.length s : Int))), (9, (Value.int .i64 x10))] u ∧ Go.X.Loc [] [] w w' [some b1] [Cont.cells [d_v, d_v1]] ∧ Keep w.heap.size [some b1] w2 [some b1] w' ∧ True) ⟨_, (upds_sym ⟨rfl, rfl, rfl, rfl, rfl, trivial⟩), hL3, Keep.refl, trivial⟩ ?_
  rintro ⟨state11, x10⟩ oo _ w10 ⟨u, rfl, hL10, K10, -⟩ h hd10
  rw [aAccepts_b1] at h
  refine Swp.seq (Swp.region rfl (Rl.op (OpY.lss (x := x10) (y := (List.length s : Int)) ((x10 : Int) < (List.length s : Int)) rfl rfl Iff.rfl ?_)))
  refine Rl.nil (Swp.seq ?_)
  refine Swp.cond_d ((x10 : Int) < (List.length s : Int)) rfl (fun hc10 => ?_) (fun hc10 => ?_)
  ·
   replace h := ite_t hc10 h
   refine Swp.skip (Swp.seq (Swp.block (Swp.seq (Swp.region rfl (Rl.op (OpY.move (v := (Value.int .i64 x10)) rfl ?_))))))
   refine Rl.op (OpY.assign (v := (Value.int .i64 x10)) rfl ?_)
   refine Rl.nil (Swp.region rfl (Rl.op (OpY.move (v := (Value.int .i64 state11)) rfl ?_)))
   refine Rl.op (OpY.move (v := (Value.string (s8 s))) rfl ?_)
   refine Rl.op (OpY.move (v := (Value.int .i64 x10)) rfl ?_)
   obtain ⟨x11, q10, h⟩ := bind_some h
   obtain ⟨n10, q11, q12⟩ := idx_some q10
   refine Rl.op (OpY.sIndex (xs := s) (i := x10) (n := n10) (a := x11) Tryd.underlying9 rfl rfl q11 q12 ?_)
   obtain ⟨r10, q13, h⟩ := bind_some h
   have f10 := ((d_h.mono (K4 S)).mono (K10 S))
   have f11 := ((d_h1.mono (K4 S)).mono (K10 S))
   refine Rl.op (OpY.call en39 rfl rfl (aStep_w N d state11 (UInt8.toNat x11 : Int) b1 d_v d_v1 _ Any (own_any (hL10.at 0 rfl rfl)) (f10.mono vw_any) (f11.mono vw_any) r10 q13) ?_)
   rintro _ w11 hE10 ⟨rfl, -⟩
   have hL11 := hL10.ext hE10
   have K11 := ke hL10 hE10
   refine Rl.op (OpY.assign (v := (Value.int .i64 r10)) rfl ?_)
   refine Rl.nil (Swp.pop_blk (Swp.region rfl (Rl.op (OpY.add (x := x10) (y := 1) (z := (iw (x10 + 1))) rfl rfl rfl ?_))))
   refine Rl.op (OpY.move (v := (Value.int .i64 (iw (x10 + 1)))) rfl ?_)
   refine Rl.nil ?_
   obtain rfl := Option.some.inj h
   refine Swp.pop_back ⟨(r10, (iw (x10 + 1))), rfl, ?_⟩
   exact ⟨_, (upds_sym ⟨rfl, rfl, rfl, rfl, rfl, trivial⟩), hL11, (Keep.trans K10 K11), trivial⟩
  ·
   replace h := ite_f hc10 h
   refine Swp.exit rfl ?_
   obtain rfl := Option.some.inj h
   obtain rfl := hd10 _ rfl
   replace h := g10
   try dsimp only at h
   skip
   refine Swp.pop_back ?_
   exact ⟨state11, _, rfl, (upds_sym ⟨rfl, rfl, trivial⟩), hL10, K10, trivial⟩
 ·
  rintro _ w12 ⟨state10, u, rfl, rfl, hL12, K12, -⟩
  replace h := g10
  try dsimp only at h
  refine Swp.seq (Swp.region rfl (Rl.op (OpY.move (v := (Value.int .i64 state10)) rfl ?_)))
  obtain ⟨r11, q14, h⟩ := bind_some h
  have f12 := ((d_h.mono (K4 S)).mono (K12 S))
  have f13 := ((d_h1.mono (K4 S)).mono (K12 S))
  refine Rl.op (OpY.call en40 rfl rfl (aFinal_w N d state10 b1 d_v d_v1 _ Any (own_any (hL12.at 0 rfl rfl)) (f12.mono vw_any) (f13.mono vw_any) r11 q14) ?_)
  rintro _ w13 hE11 ⟨rfl, -⟩
  have hL13 := hL12.ext hE11
  refine Rl.op (OpY.assign (v := (Value.bool r11)) rfl ?_)
  refine Rl.nil (Swp.ret ?_)
  obtain rfl := Option.some.inj h
  refine ⟨[(Value.bool r11)], ⟨rfl, trivial⟩, ⟨_, rfl, hL13.done, ?_⟩⟩
  exact ⟨rfl, trivial⟩
theorem indexEdge_w (N : Nat) (s : (List AEdge)) (f : (AEdge → Option Bool)) (s_v : Value) (f_v : Value) (w : World) (S : Nat → Prop) (s_h : Rs rAEdge (Hv w.heap.size S [] w) s_v s) (f_h : ∀ w' : World, Ext w w' → ∀ (xa_ : AEdge), ∀ z, f xa_ = some z → FunOk Tryd.prog f_v [(Value.agg #[(Value.int .u8 xa_.Low), (Value.int .u8 xa_.High), (Value.int .i64 xa_.To)])] w' (fun v w'' => Value.bool z = v ∧ True)) (r : Int) (h : indexEdge N s f = some r) :
  Calls Tryd.prog 55 #[s_v, f_v] w (Ret w (fun v w' => (Value.int .i64 r) = v ∧ True)) := by
 unfold indexEdge at h
 have hL : Go.X.Loc [] [] w w [] [] := Go.X.Loc.begin0 w
 refine calls_of (l := [s_v, f_v]) (rl := [.tmp 4]) (n := 19) Tryd.func55 rfl rfl rfl (Nat.le_of_ble_eq_true rfl) ?_
 refine Swp.seq (Swp.region rfl (Rl.op (OpY.assign (v := (Value.int .i64 0)) rfl ?_)))
 refine Rl.nil (Swp.seq (Swp.seq (Swp.region rfl (Rl.op (OpY.move (v := s_v) rfl ?_)))))
 refine Rl.op (OpY.lenRo (v := s_v) Tryd.underlying58 rfl s_h ?_)
 refine Rl.op (OpY.move (v := (Value.int .i64 0)) rfl ?_)
 refine Rl.nil ?_
 obtain ⟨s10, hl10, g10⟩ := bind_some h
 refine Swp.join (fun e w' => ∃  (u : Env), (Sum.inl ()) = s10 ∧ e = upds [] u ∧ Go.X.Loc [] [] w w' [] [] ∧ Keep w.heap.size [] w [] w' ∧ True) ?_ ?_
 ·
  refine Swp.block ?_
  refine Swp.loopM hl10 (fun (ss : Int) (e : Env) (w' : World) => match ss with | x10 => ∃ (u : Env), e = upds [(0, s_v), (1, f_v), (7, (Value.int .i64 (List.length s : Int))), (8, (Value.int .i64 x10))] u ∧ Go.X.Loc [] [] w w' [] [] ∧ Keep w.heap.size [] w [] w' ∧ True) ⟨_, (upds_sym ⟨rfl, rfl, rfl, rfl, trivial⟩), hL, Keep.refl, trivial⟩ ?_
  rintro x10 oo _ w10 ⟨u, rfl, hL10, K10, -⟩ h hd10
  rw [indexEdge_b1] at h
  refine Swp.seq (Swp.region rfl (Rl.op (OpY.lss (x := x10) (y := (List.length s : Int)) ((x10 : Int) < (List.length s : Int)) rfl rfl Iff.rfl ?_)))
  refine Rl.nil (Swp.seq ?_)
  refine Swp.cond_d ((x10 : Int) < (List.length s : Int)) rfl (fun hc10 => ?_) (fun hc10 => ?_)
  ·
   replace h := ite_t hc10 h
   refine Swp.skip (Swp.seq (Swp.block (Swp.seq (Swp.region rfl (Rl.op (OpY.move (v := (Value.int .i64 x10)) rfl ?_))))))
   refine Rl.op (OpY.assign (v := (Value.int .i64 x10)) rfl ?_)
   refine Rl.nil (Swp.seq (Swp.region rfl (Rl.op (OpY.move (v := f_v) rfl ?_))))
   refine Rl.op (OpY.move (v := s_v) rfl ?_)
   refine Rl.op (OpY.move (v := (Value.int .i64 x10)) rfl ?_)
   obtain ⟨x11, q10, h⟩ := bind_some h
   obtain ⟨n10, q11, q12⟩ := idx_some q10
   have f10 := (s_h.mono (K10 S))
   obtain ⟨b10, o10, c10, vs10, q13, q14, f11, q15⟩ := Rs.get f10 q12
   obtain ⟨rfl, -⟩ := rAEdge_open q15
   refine Rl.op (OpY.ixRoD (r := rAEdge) (v := s_v) (n := n10) (m := (o10 + n10 * rAEdge.sz)) Tryd.underlying58 ti57 rfl q13 rfl q11 q12 rfl ?_)
   refine Rl.op (OpY.ldRoA (vs := [(Value.int .u8 x11.Low), (Value.int .u8 x11.High), (Value.int .i64 x11.To)]) Tryd.underlying57 rfl ti57 rfl rfl vw_view f11 ?_)
   obtain ⟨r10, q16, h⟩ := bind_some h
   refine Rl.op (OpY.callF rfl rfl (f_h _ hL10.done x11  r10 q16) ?_)
   rintro _ w11 hE10 ⟨rfl, -⟩
   have hL11 := hL10.ext hE10
   have K11 := ke hL10 hE10
   refine Rl.nil ?_
   refine Swp.cond_b r10 rfl (fun hc11 => ?_) (fun hc11 => ?_)
   ·
    replace h := ite_t hc11 h
    refine Swp.seq (Swp.region rfl (Rl.op (OpY.move (v := (Value.int .i64 x10)) rfl ?_)))
    refine Rl.op (OpY.assign (v := (Value.int .i64 x10)) rfl ?_)
    refine Rl.nil (Swp.ret ?_)
    obtain rfl := Option.some.inj h
    obtain rfl := hd10 _ rfl
    replace h := g10
    try dsimp only at h
    obtain rfl := Option.some.inj h
    refine ⟨[(Value.int .i64 x10)], ⟨rfl, trivial⟩, ⟨_, rfl, hL11.done, ?_⟩⟩
    exact ⟨rfl, trivial⟩
   ·
    replace h := ite_f hc11 h
    refine Swp.skip (Swp.pop_blk (Swp.region rfl (Rl.op (OpY.add (x := x10) (y := 1) (z := (iw (x10 + 1))) rfl rfl rfl ?_))))
    refine Rl.op (OpY.move (v := (Value.int .i64 (iw (x10 + 1)))) rfl ?_)
    refine Rl.nil ?_
    obtain rfl := Option.some.inj h
    refine Swp.pop_back ⟨(iw (x10 + 1)), rfl, ?_⟩
    exact ⟨_, (upds_sym ⟨rfl, rfl, rfl, rfl, trivial⟩), hL11, (Keep.trans K10 K11), trivial⟩
  ·
   replace h := ite_f hc10 h
   refine Swp.exit rfl ?_
   obtain rfl := Option.some.inj h
   obtain rfl := hd10 _ rfl
   replace h := g10
   try dsimp only at h
   skip
   refine Swp.pop_back ?_
   exact ⟨_, rfl, (upds_sym trivial), hL10, K10, trivial⟩
 ·
  rintro _ w12 ⟨u, rfl, rfl, hL12, K12, -⟩
  replace h := g10
  try dsimp only at h
  refine Swp.seq (Swp.region rfl (Rl.op (OpY.assign (v := (Value.int .i64 (-1))) rfl ?_)))
  refine Rl.nil (Swp.ret ?_)
  obtain rfl := Option.some.inj h
  refine ⟨[(Value.int .i64 (-1))], ⟨rfl, trivial⟩, ⟨_, rfl, hL12.done, ?_⟩⟩
  exact ⟨rfl, trivial⟩
theorem containsEdge_w (N : Nat) (s : (List AEdge)) (f : (AEdge → Option Bool)) (s_v : Value) (f_v : Value) (w : World) (S : Nat → Prop) (s_h : Rs rAEdge (Hv w.heap.size S [] w) s_v s) (f_h : ∀ w' : World, Ext w w' → ∀ (xa_ : AEdge), ∀ z, f xa_ = some z → FunOk Tryd.prog f_v [(Value.agg #[(Value.int .u8 xa_.Low), (Value.int .u8 xa_.High), (Value.int .i64 xa_.To)])] w' (fun v w'' => Value.bool z = v ∧ True)) (r : Bool) (h : containsEdge N s f = some r) :
  Calls Tryd.prog 36 #[s_v, f_v] w (Ret w (fun v w' => (Value.bool r) = v ∧ True)) := by
 unfold containsEdge at h
 have hL : Go.X.Loc [] [] w w [] [] := Go.X.Loc.begin0 w
 refine calls_of (l := [s_v, f_v]) (rl := [.tmp 4]) (n := 9) Tryd.func36 rfl rfl rfl (Nat.le_of_ble_eq_true rfl) ?_
 refine Swp.seq (Swp.region rfl (Rl.op (OpY.assign (v := (Value.bool false)) rfl ?_)))
 refine Rl.nil (Swp.seq (Swp.region rfl (Rl.op (OpY.move (v := s_v) rfl ?_))))
 refine Rl.op (OpY.move (v := f_v) rfl ?_)
 obtain ⟨r1, q2, h⟩ := bind_some h
 refine Rl.op (OpY.call en55 rfl rfl (indexEdge_w N s f s_v f_v _ Any (s_h.mono vw_any) (fun w9 hE9 => f_h w9 (hL.done.trans hE9)) r1 q2) ?_)
 rintro _ w4 hE7 ⟨rfl, -⟩
 have hL5 := hL.ext hE7
 refine Rl.op (OpY.geq (x := r1) (y := 0) ((r1 : Int) ≥ 0) rfl rfl Iff.rfl ?_)
 refine Rl.op (OpY.assign (v := (Value.bool (decide ((r1 : Int) ≥ 0)))) rfl ?_)
 refine Rl.nil (Swp.ret ?_)
 obtain rfl := Option.some.inj h
 refine ⟨[(Value.bool (decide ((r1 : Int) ≥ 0)))], ⟨rfl, trivial⟩, ⟨_, rfl, hL5.done, ?_⟩⟩
 exact ⟨rfl, trivial⟩
theorem aShortest_w (N : Nat) (d : ADfa) (d_v : Value) (d_v1 : Value) (w : World) (S : Nat → Prop) (d_h : Rs rBool (Hv w.heap.size S [] w) d_v d.Accept) (d_h1 : Rs (rSl rAEdge) (Hv w.heap.size S [] w) d_v1 d.Edges) (r : ((List UInt8) × Bool)) (h : aShortest N d = some r) :
  Calls Tryd.prog 13 #[(Value.agg #[d_v, d_v1])] w (Ret w (fun v w' => .tuple #[(Value.string (s8 r.1)), (Value.bool r.2)] = v ∧ True)) := by
 unfold aShortest at h
 have hL : Go.X.Loc [] [] w w [] [] := Go.X.Loc.begin0 w
 refine calls_of (l := [(Value.agg #[d_v, d_v1])]) (rl := [.tmp 2, .tmp 3]) (n := 68) Tryd.func13 rfl rfl rfl (Nat.le_of_ble_eq_true rfl) ?_
 refine Swp.seq (Swp.region rfl (Rl.op (OpY.box (cs := [d_v, d_v1]) rfl rfl hL ?_)))
 intro b1 w2 hL3 hS5
 have K4 := ks w hS5
 refine Rl.op (OpY.assign (v := (Value.string (s8 ([] : List UInt8)))) rfl ?_)
 refine Rl.op (OpY.assign (v := (Value.bool false)) rfl ?_)
 refine Rl.nil (Swp.seq (Swp.region rfl (Rl.op (OpY.fieldAddr (q := 0) Tryd.underlying32 rfl ti22 rfl rfl rfl ?_))))
 refine Rl.op (OpY.ldBox1 (v := d_v) Tryd.underlying22 rfl rfl (hL3.at 0 rfl rfl) rfl ?_)
 have f6 := (d_h.mono (K4 S))
 refine Rl.op (OpY.lenRo (v := d_v) Tryd.underlying22 rfl f6 ?_)
 obtain ⟨x8, q9, h⟩ := bind_some h
 obtain ⟨m7, q10, q11, q12, q13⟩ := mk1_some q9
 refine Rl.op (OpY.mkRowX (r := rBool) (H := (Hv w.heap.size None [some b1] w2)) (zc := [(Value.bool false)]) (x := false) Tryd.underlying22 ti4 rfl rfl rfl rfl q10 q11 q12 q13 hL3 ?_)
 intro b10 w10 cs10 hE10 hc10 hL10 hS10
 have K10 := ks w hS10
 refine Rl.op (OpY.assign (v := (osv (some b10) 0 (List.length x8) m7)) rfl ?_)
 refine Rl.nil (Swp.seq (Swp.region rfl (Rl.op (OpY.move (v := (osv (some b10) 0 (List.length x8) m7)) rfl ?_))))
 obtain ⟨x10, q14, h⟩ := bind_some h
 obtain ⟨n10, q15, q16⟩ := idx_some q14
 have q17 := (List.getElem?_eq_some_iff.1 q16).1
 refine Rl.op (OpY.ixRowD (r := rBool) (b := b10) (o := 0) (n := n10) (m := (List.length x8)) (xs := x8) (q := (0 + n10 * rBool.sz)) Tryd.underlying22 ti4 rfl rfl rfl q15 q17 rfl ?_)
 obtain ⟨x11, q18, h⟩ := bind_some h
 obtain ⟨n11, q19, q20, q21⟩ := upd1_some q18
 obtain rfl := Int.ofNat_inj.1 (q15.symm.trans q19)
 have f10 := (hE10.mono (K10 None))
 refine Rl.op0 (OpY.stRowX (pre := []) (r := rBool) (vs := [(Value.bool true)]) (a := true) ti4 rfl rfl rfl rfl hL10 0 rfl rfl f10 q17 rfl q21 ?_)
 have hl10 : (List.length x8) = List.length x11 := by rw [q21, List.length_set]
 intro w11 cs11 (hL11 : Go.X.Loc [] [] w w11 [some b10, some b1] [Cont.cells ([] ++ (cs11 ++ [])), Cont.cells [d_v, d_v1]]) hS11 hE11 q22
 have hc11 : (cs11 ++ []).length = m7 * rBool.sz := by have := hc10; rw [List.length_append] at this ⊢; rw [q22]; exact this
 have K11 := ks w hS11
 refine Rl.nil (Swp.seq (Swp.seq (Swp.region rfl (Rl.op (OpY.build (zc := [(Value.int .i64 0), (Value.string ⟨#[]⟩)]) (cs := [(Value.int .i64 0), (Value.string (s8 []))]) (is := []) (vs := []) (css := []) pl60 ti60 rfl rfl rfl trivial rfl ?_)))))
 have hE12 : Els rAItem (Hv w.heap.size None [some b10, some b1] w11) [(Value.int .i64 0), (Value.string (s8 []))] [(AItem.mk 0 [])] := (Els.cons (a := [(Value.int .i64 0), (Value.string (s8 []))]) (rAItem_close ⟨rfl, trivial⟩) Els.nil)
 refine Rl.op (OpY.litRow (r := rAItem) (vs := [(Value.agg #[(Value.int .i64 0), (Value.string (s8 []))])]) (css := [[(Value.int .i64 0), (Value.string (s8 []))]]) (xs := [(AItem.mk 0 [])]) Tryd.underlying61 ti60 (Nat.le_of_ble_eq_true rfl) rfl rfl ⟨rfl, rfl, trivial⟩ (Nat.le_of_ble_eq_true rfl) hE12 rfl hL11 ?_)
 intro b11 w12 hc12 hL12 hS12
 have K12 := ks w hS12
 refine Rl.op (OpY.assign (v := (osv (some b11) 0 1 1)) rfl ?_)
 refine Rl.nil ?_
 obtain ⟨s10, hl11, g10⟩ := bind_some h
 refine Swp.join (fun e w' => ∃  (u : Env), (Sum.inl ()) = s10 ∧ e = upds [] u ∧ Go.X.Loc [] [] w w' [] [] ∧ Keep w.heap.size [some b11, some b10, some b1] w12 [] w' ∧ True) ?_ ?_
 ·
  refine Swp.block ?_
  have hp10 := hL12.pick [2, 1, 0] rfl rfl rfl
  have hL13 : Go.X.Loc [] [] w w12 [some b1, some b10, some b11] [Cont.cells [d_v, d_v1], Cont.cells ([] ++ (cs11 ++ [])), Cont.cells ([] ++ ([(Value.int .i64 0), (Value.string (s8 []))] ++ []))] := hp10.1
  have K13 := ks w hp10.2
  have f11 := (((hE11.mono (K11 None)).mono (K12 None)).mono (K13 None))
  have f12 := ((hE12.mono (K12 None)).mono (K13 None))
  refine Swp.loopM hl11 (fun (ss : ((List Bool) × (List AItem))) (e : Env) (w' : World) => match ss with | (seen10, queue10) => ∃ (cs12 : List Value) (ob10 : Option Nat) (cap10 : Nat) (sp10 : List Value) (cs13 : List Value) (pre10 : List Value) (v10 : Value) (ln10 : Nat) (u : Env), e = upds [(1, (Value.pointer (some ⟨b1, 0, none⟩))), (4, (osv (some b10) 0 (List.length x8) m7)), (5, v10)] u ∧ Go.X.Loc [] [] w w' [some b1, some b10, ob10] [Cont.cells [d_v, d_v1], Cont.cells ([] ++ (cs12 ++ [])), Cont.cells (pre10 ++ (cs13 ++ sp10))] ∧ Keep w.heap.size [some b11, some b10, some b1] w12 [some b1, some b10, ob10] w' ∧ Els rBool (Hv w.heap.size None [some b1, some b10, ob10] w') cs12 seen10 ∧ (List.length x8) = List.length seen10 ∧ (cs12 ++ []).length = m7 * rBool.sz ∧ Els rAItem (Hv w.heap.size None [some b1, some b10, ob10] w') cs13 queue10 ∧ ln10 = List.length queue10 ∧ (cs13 ++ sp10).length = cap10 * rAItem.sz ∧ Fv v10 ob10 (List.length pre10) (List.length queue10) cap10 ∧ True) ⟨cs11, some b11, 1, [], [(Value.int .i64 0), (Value.string (s8 []))], [], (osv (some b11) 0 1 1), 1, _, (upds_sym ⟨rfl, rfl, rfl, trivial⟩), hL13, K13, f11, hl10, hc11, f12, rfl, hc12, Fv.of, trivial⟩ ?_
  rintro ⟨seen10, queue10⟩ oo _ w13 ⟨cs12, ob10, cap10, sp10, cs13, pre10, v10, ln10, u, rfl, hL14, K14, hE13, hl12, hc13, hE14, rfl, hc14, hv10, -⟩ h hd10
  rw [aShortest_b1] at h
  refine Swp.seq (Swp.seq (Swp.region rfl (Rl.op (OpY.move (v := v10) rfl ?_))))
  refine Rl.op (OpY.lenQ (pre := pre10) (r := rAItem) (xs := queue10) Tryd.underlying61 rfl hv10 (hL14.at 2 rfl rfl) hE14 rfl rfl ?_)
  refine Rl.op (OpY.gtr (x := (List.length queue10 : Int)) (y := 0) (((List.length queue10 : Int) : Int) > 0) rfl rfl Iff.rfl ?_)
  refine Rl.nil ?_
  refine Swp.cond_d (((List.length queue10 : Int) : Int) > 0) rfl (fun hc15 => ?_) (fun hc15 => ?_)
  ·
   replace h := ite_t hc15 h
   refine Swp.skip (Swp.seq ?_)
   obtain ⟨s11, h, g11⟩ := bind_some h
   refine Swp.join (fun e w' => ∃ (seen11 : (List Bool)) (queue11 : (List AItem)) (cs14 : List Value) (ob11 : Option Nat) (cap11 : Nat) (sp11 : List Value) (cs15 : List Value) (pre11 : List Value) (v11 : Value) (ln11 : Nat) (u : Env), (Sum.inl (seen11, queue11)) = s11 ∧ e = upds [(1, (Value.pointer (some ⟨b1, 0, none⟩))), (4, (osv (some b10) 0 (List.length x8) m7)), (5, v11)] u ∧ Go.X.Loc [] [] w w' [some b1, some b10, ob11] [Cont.cells [d_v, d_v1], Cont.cells ([] ++ (cs14 ++ [])), Cont.cells (pre11 ++ (cs15 ++ sp11))] ∧ Keep w.heap.size [some b1, some b10, ob10] w13 [some b1, some b10, ob11] w' ∧ Els rBool (Hv w.heap.size None [some b1, some b10, ob11] w') cs14 seen11 ∧ (List.length x8) = List.length seen11 ∧ (cs14 ++ []).length = m7 * rBool.sz ∧ Els rAItem (Hv w.heap.size None [some b1, some b10, ob11] w') cs15 queue11 ∧ ln11 = List.length queue11 ∧ (cs15 ++ sp11).length = cap11 * rAItem.sz ∧ Fv v11 ob11 (List.length pre11) (List.length queue11) cap11 ∧ True) ?_ ?_
   ·
    refine Swp.block (Swp.seq (Swp.region rfl (Rl.op (OpY.move (v := v10) rfl ?_))))
    obtain ⟨x12, q23, h⟩ := bind_some h
    obtain ⟨n12, q24, q25⟩ := idx_some q23
    have q26 := (List.getElem?_eq_some_iff.1 q25).1
    obtain ⟨b12, hb10⟩ := hL14.row_some 2 rfl rfl (row_pos (pre := pre10) hE14 q25 (Nat.lt_of_sub_eq_succ rfl))
    refine Rl.op (OpY.ixQ (r := rAItem) (b := b12) (n := n12) (m := (List.length queue10)) (xs := queue10) (q := (List.length pre10 + n12 * rAItem.sz)) Tryd.underlying61 ti60 rfl hv10 hb10 rfl rfl q24 q26 rfl ?_)
    obtain ⟨vs10, q27, q28, q29⟩ := row_elem (pre := pre10) (sp := sp10) hE14 q25
    obtain ⟨rfl, -⟩ := rAItem_open q28
    refine Rl.op (OpY.ldBoxA (vs := [(Value.int .i64 x12.state), (Value.string (s8 x12.text))]) Tryd.underlying60 rfl ti60 rfl (own_some hb10 (hL14.at 2 rfl rfl)) rfl q29 ?_)
    refine Rl.op (OpY.alloc (cs := [(Value.int .i64 0), (Value.string (s8 []))]) ti60 rfl hL14 ?_)
    intro b13 w14 hL15 hS13
    have K15 := ks w hS13
    refine Rl.op0 (OpY.store (vs := [(Value.int .i64 x12.state), (Value.string (s8 x12.text))]) ti60 rfl rfl rfl rfl (ones_cons rfl (ones_cons rfl ones_nil)) hL15 0 rfl rfl (Nat.le_of_ble_eq_true rfl) ?_)
    intro w15 (hL16 : Go.X.Loc [] [] w w15 [some b13, some b1, some b10, ob10] [Cont.cells [(Value.int .i64 x12.state), (Value.string (s8 x12.text))], Cont.cells [d_v, d_v1], Cont.cells ([] ++ (cs12 ++ [])), Cont.cells (pre10 ++ (cs13 ++ sp10))]) hS14
    have K16 := ks w hS14
    refine Rl.nil (Swp.seq (Swp.seq (Swp.region rfl (Rl.op (OpY.fieldAddr (q := 0) Tryd.underlying32 rfl ti22 rfl rfl rfl ?_)))))
    refine Rl.op (OpY.ldBox1 (v := d_v) Tryd.underlying22 rfl rfl (hL16.at 1 rfl rfl) rfl ?_)
    refine Rl.op (OpY.fieldAddr (q := 0) Tryd.underlying60 rfl ti3 rfl rfl rfl ?_)
    refine Rl.op (OpY.ldBox1 (v := (Value.int .i64 x12.state)) Tryd.underlying3 rfl rfl (hL16.at 0 rfl rfl) rfl ?_)
    obtain ⟨x13, q30, h⟩ := bind_some h
    obtain ⟨n13, q31, q32⟩ := idx_some q30
    have f13 := ((((((f6.mono (K10 S)).mono (K11 S)).mono (K12 S)).mono (K14 S)).mono (K15 S)).mono (K16 S))
    obtain ⟨b14, o10, c10, vs11, q33, q34, f14, q35⟩ := Rs.get f13 q32
    obtain rfl := q35
    refine Rl.op (OpY.ixRoD (r := rBool) (v := d_v) (n := n13) (m := (o10 + n13 * rBool.sz)) Tryd.underlying22 ti4 rfl q33 rfl q31 q32 rfl ?_)
    refine Rl.op (OpY.ldRo1 (v := (Value.bool x13)) Tryd.underlying4 rfl rfl vw_view f14 ?_)
    refine Rl.nil ?_
    refine Swp.cond_b x13 rfl (fun hc16 => ?_) (fun hc16 => ?_)
    ·
     replace h := ite_t hc16 h
     refine Swp.seq (Swp.region rfl (Rl.op (OpY.fieldAddr (q := 1) Tryd.underlying60 rfl ti9 rfl rfl rfl ?_)))
     refine Rl.op (OpY.ldBox1 (v := (Value.string (s8 x12.text))) Tryd.underlying9 rfl rfl (hL16.at 0 rfl rfl) rfl ?_)
     refine Rl.op (OpY.assign (v := (Value.string (s8 x12.text))) rfl ?_)
     refine Rl.op (OpY.assign (v := (Value.bool true)) rfl ?_)
     refine Rl.nil (Swp.ret ?_)
     obtain rfl := Option.some.inj h
     replace h := g11
     try dsimp only at h
     obtain rfl := Option.some.inj h
     obtain rfl := hd10 _ rfl
     replace h := g10
     try dsimp only at h
     obtain rfl := Option.some.inj h
     refine ⟨[(Value.string (s8 x12.text)), (Value.bool true)], ⟨rfl, rfl, trivial⟩, ⟨_, rfl, hL16.done, ?_⟩⟩
     exact ⟨rfl, trivial⟩
    ·
     replace h := ite_f hc16 h
     refine Swp.skip (Swp.seq (Swp.region rfl (Rl.op (OpY.fieldAddr (q := 1) Tryd.underlying32 rfl ti30 rfl rfl rfl ?_))))
     refine Rl.op (OpY.ldBox1 (v := d_v1) Tryd.underlying30 rfl rfl (hL16.at 1 rfl rfl) rfl ?_)
     refine Rl.op (OpY.fieldAddr (q := 0) Tryd.underlying60 rfl ti3 rfl rfl rfl ?_)
     refine Rl.op (OpY.ldBox1 (v := (Value.int .i64 x12.state)) Tryd.underlying3 rfl rfl (hL16.at 0 rfl rfl) rfl ?_)
     obtain ⟨x14, q36, h⟩ := bind_some h
     obtain ⟨n14, q37, q38⟩ := idx_some q36
     have f15 := (((((((d_h1.mono (K4 S)).mono (K10 S)).mono (K11 S)).mono (K12 S)).mono (K14 S)).mono (K15 S)).mono (K16 S))
     obtain ⟨b15, o11, c11, vs12, q39, q40, f16, q41⟩ := Rs.get f15 q38
     obtain ⟨v12, rfl, k10⟩ := q41
     refine Rl.op (OpY.ixRoD (r := (rSl rAEdge)) (v := d_v1) (n := n14) (m := (o11 + n14 * (rSl rAEdge).sz)) Tryd.underlying30 ti58 rfl q39 rfl q37 q38 rfl ?_)
     refine Rl.op (OpY.ldRo1 (v := v12) Tryd.underlying58 rfl rfl vw_view f16 ?_)
     refine Rl.op (OpY.lenRo (v := v12) Tryd.underlying58 rfl k10 ?_)
     refine Rl.op (OpY.move (v := (Value.int .i64 0)) rfl ?_)
     refine Rl.nil ?_
     obtain ⟨s12, hl13, g12⟩ := bind_some h
     refine Swp.join (fun e w' => ∃ (seen12 : (List Bool)) (queue12 : (List AItem)) (cs16 : List Value) (ob12 : Option Nat) (cap12 : Nat) (sp12 : List Value) (cs17 : List Value) (pre12 : List Value) (v13 : Value) (ln12 : Nat) (u : Env), (seen12, queue12) = s12 ∧ e = upds [(1, (Value.pointer (some ⟨b1, 0, none⟩))), (4, (osv (some b10) 0 (List.length x8) m7)), (5, v13)] u ∧ Go.X.Loc [] [] w w' [some b1, some b10, ob12] [Cont.cells [d_v, d_v1], Cont.cells ([] ++ (cs16 ++ [])), Cont.cells (pre12 ++ (cs17 ++ sp12))] ∧ Keep w.heap.size [some b13, some b1, some b10, ob10] w15 [some b1, some b10, ob12] w' ∧ Els rBool (Hv w.heap.size None [some b1, some b10, ob12] w') cs16 seen12 ∧ (List.length x8) = List.length seen12 ∧ (cs16 ++ []).length = m7 * rBool.sz ∧ Els rAItem (Hv w.heap.size None [some b1, some b10, ob12] w') cs17 queue12 ∧ ln12 = List.length queue12 ∧ (cs17 ++ sp12).length = cap12 * rAItem.sz ∧ Fv v13 ob12 (List.length pre12) (List.length queue12) cap12 ∧ True) ?_ ?_
     ·
      refine Swp.block ?_
      have hp11 := hL16.pick [1, 2, 3, 0] rfl rfl rfl
      have hL17 : Go.X.Loc [] [] w w15 [some b1, some b10, ob10, some b13] [Cont.cells [d_v, d_v1], Cont.cells ([] ++ (cs12 ++ [])), Cont.cells (pre10 ++ (cs13 ++ sp10)), Cont.cells [(Value.int .i64 x12.state), (Value.string (s8 x12.text))]] := hp11.1
      have K17 := ks w hp11.2
      have f17 := (((hE13.mono (K15 None)).mono (K16 None)).mono (K17 None))
      have f18 := (((hE14.mono (K15 None)).mono (K16 None)).mono (K17 None))
      refine Swp.loopM hl13 (fun (ss : ((List Bool) × (List AItem) × Int)) (e : Env) (w' : World) => match ss with | (seen13, queue13, x15) => ∃ (cs18 : List Value) (ob13 : Option Nat) (cap13 : Nat) (sp13 : List Value) (cs19 : List Value) (pre13 : List Value) (v14 : Value) (ln13 : Nat) (u : Env), e = upds [(1, (Value.pointer (some ⟨b1, 0, none⟩))), (4, (osv (some b10) 0 (List.length x8) m7)), (5, v14), (6, (Value.pointer (some ⟨b13, 0, none⟩))), (38, v12), (39, (Value.int .i64 (List.length x14 : Int))), (40, (Value.int .i64 x15))] u ∧ Go.X.Loc [] [] w w' [some b1, some b10, ob13, some b13] [Cont.cells [d_v, d_v1], Cont.cells ([] ++ (cs18 ++ [])), Cont.cells (pre13 ++ (cs19 ++ sp13)), Cont.cells [(Value.int .i64 x12.state), (Value.string (s8 x12.text))]] ∧ Keep w.heap.size [some b13, some b1, some b10, ob10] w15 [some b1, some b10, ob13, some b13] w' ∧ Els rBool (Hv w.heap.size None [some b1, some b10, ob13, some b13] w') cs18 seen13 ∧ (List.length x8) = List.length seen13 ∧ (cs18 ++ []).length = m7 * rBool.sz ∧ Els rAItem (Hv w.heap.size None [some b1, some b10, ob13, some b13] w') cs19 queue13 ∧ ln13 = List.length queue13 ∧ (cs19 ++ sp13).length = cap13 * rAItem.sz ∧ Fv v14 ob13 (List.length pre13) (List.length queue13) cap13 ∧ True) ⟨cs12, ob10, cap10, sp10, cs13, pre10, v10, (List.length queue10), _, (upds_sym ⟨rfl, rfl, rfl, rfl, rfl, rfl, rfl, trivial⟩), hL17, K17, f17, hl12, hc13, f18, rfl, hc14, hv10, trivial⟩ ?_
      rintro ⟨seen13, queue13, x15⟩ oo _ w16 ⟨cs18, ob13, cap13, sp13, cs19, pre13, v14, ln13, u, rfl, hL18, K18, hE15, hl14, hc17, hE16, rfl, hc18, hv11, -⟩ h hd11
      rw [aShortest_b2] at h
      refine Swp.seq (Swp.region rfl (Rl.op (OpY.lss (x := x15) (y := (List.length x14 : Int)) ((x15 : Int) < (List.length x14 : Int)) rfl rfl Iff.rfl ?_)))
      refine Rl.nil (Swp.seq ?_)
      refine Swp.cond_d ((x15 : Int) < (List.length x14 : Int)) rfl (fun hc19 => ?_) (fun hc19 => ?_)
      ·
       replace h := ite_t hc19 h
       refine Swp.skip (Swp.seq (Swp.block (Swp.seq (Swp.region rfl ?_))))
       obtain ⟨x16, q42, h⟩ := bind_some h
       obtain ⟨n15, q43, q44⟩ := idx_some q42
       have f19 := (k10.mono (K18 S))
       obtain ⟨b16, o12, c12, vs13, q45, q46, f20, q47⟩ := Rs.get f19 q44
       obtain ⟨rfl, -⟩ := rAEdge_open q47
       refine Rl.op (OpY.ixRoD (r := rAEdge) (v := v12) (n := n15) (m := (o12 + n15 * rAEdge.sz)) Tryd.underlying58 ti57 rfl q45 rfl q43 q44 rfl ?_)
       refine Rl.op (OpY.ldRoA (vs := [(Value.int .u8 x16.Low), (Value.int .u8 x16.High), (Value.int .i64 x16.To)]) Tryd.underlying57 rfl ti57 rfl rfl vw_view f20 ?_)
       refine Rl.op (OpY.alloc (cs := [(Value.int .u8 0), (Value.int .u8 0), (Value.int .i64 0)]) ti57 rfl hL18 ?_)
       intro b17 w17 hL19 hS15
       have K19 := ks w hS15
       refine Rl.op0 (OpY.store (vs := [(Value.int .u8 x16.Low), (Value.int .u8 x16.High), (Value.int .i64 x16.To)]) ti57 rfl rfl rfl rfl (ones_cons rfl (ones_cons rfl (ones_cons rfl ones_nil))) hL19 0 rfl rfl (Nat.le_of_ble_eq_true rfl) ?_)
       intro w18 (hL20 : Go.X.Loc [] [] w w18 [some b17, some b1, some b10, ob13, some b13] [Cont.cells [(Value.int .u8 x16.Low), (Value.int .u8 x16.High), (Value.int .i64 x16.To)], Cont.cells [d_v, d_v1], Cont.cells ([] ++ (cs18 ++ [])), Cont.cells (pre13 ++ (cs19 ++ sp13)), Cont.cells [(Value.int .i64 x12.state), (Value.string (s8 x12.text))]]) hS16
       have K20 := ks w hS16
       refine Rl.nil (Swp.seq (Swp.region rfl (Rl.op (OpY.move (v := (osv (some b10) 0 (List.length x8) m7)) rfl ?_))))
       refine Rl.op (OpY.fieldAddr (q := 2) Tryd.underlying57 rfl ti3 rfl rfl rfl ?_)
       refine Rl.op (OpY.ldBox1 (v := (Value.int .i64 x16.To)) Tryd.underlying3 rfl rfl (hL20.at 0 rfl rfl) rfl ?_)
       obtain ⟨x17, q48, h⟩ := bind_some h
       obtain ⟨n16, q49, q50⟩ := idx_some q48
       have q51 := (List.getElem?_eq_some_iff.1 q50).1
       refine Rl.op (OpY.ixRowD (r := rBool) (b := b10) (o := 0) (n := n16) (m := (List.length x8)) (xs := seen13) (q := (0 + n16 * rBool.sz)) Tryd.underlying22 ti4 rfl hl14 rfl q49 q51 rfl ?_)
       have f21 := ((hE15.mono (K19 None)).mono (K20 None))
       obtain ⟨vs14, q52, q53, q54⟩ := row_elem (pre := []) (sp := []) f21 q50
       obtain rfl := q53
       refine Rl.op (OpY.ldElem1 (v := (Value.bool x17)) Tryd.underlying4 rfl rfl (hL20.at 2 rfl rfl) q54 ?_)
       refine Rl.op (OpY.not (x := x17) rfl ?_)
       refine Rl.nil ?_
       refine Swp.cond_b (!x17) rfl (fun hc20 => ?_) (fun hc20 => ?_)
       ·
        replace h := ite_t hc20 h
        refine Swp.seq (Swp.region rfl (Rl.op (OpY.move (v := (osv (some b10) 0 (List.length x8) m7)) rfl ?_)))
        refine Rl.op (OpY.fieldAddr (q := 2) Tryd.underlying57 rfl ti3 rfl rfl rfl ?_)
        refine Rl.op (OpY.ldBox1 (v := (Value.int .i64 x16.To)) Tryd.underlying3 rfl rfl (hL20.at 0 rfl rfl) rfl ?_)
        obtain ⟨x18, q55, h⟩ := bind_some h
        obtain ⟨n17, q56, q57⟩ := idx_some q55
        have q58 := (List.getElem?_eq_some_iff.1 q57).1
        refine Rl.op (OpY.ixRowD (r := rBool) (b := b10) (o := 0) (n := n17) (m := (List.length x8)) (xs := seen13) (q := (0 + n17 * rBool.sz)) Tryd.underlying22 ti4 rfl hl14 rfl q56 q58 rfl ?_)
        obtain ⟨x19, q59, h⟩ := bind_some h
        obtain ⟨n18, q60, q61, q62⟩ := upd1_some q59
        obtain rfl := Int.ofNat_inj.1 (q56.symm.trans q60)
        refine Rl.op0 (OpY.stRowX (pre := []) (r := rBool) (vs := [(Value.bool true)]) (a := true) ti4 rfl rfl rfl rfl hL20 2 rfl rfl f21 q58 rfl q62 ?_)
        have hl15 : (List.length x8) = List.length x19 := by rw [q62, List.length_set]; exact hl14
        intro w19 cs20 (hL21 : Go.X.Loc [] [] w w19 [some b17, some b1, some b10, ob13, some b13] [Cont.cells [(Value.int .u8 x16.Low), (Value.int .u8 x16.High), (Value.int .i64 x16.To)], Cont.cells [d_v, d_v1], Cont.cells ([] ++ (cs20 ++ [])), Cont.cells (pre13 ++ (cs19 ++ sp13)), Cont.cells [(Value.int .i64 x12.state), (Value.string (s8 x12.text))]]) hS17 hE17 q63
        have hc21 : (cs20 ++ []).length = m7 * rBool.sz := by have := hc17; rw [List.length_append] at this ⊢; rw [q63]; exact this
        have K21 := ks w hS17
        refine Rl.nil (Swp.region rfl (Rl.op (OpY.move (v := v14) rfl ?_)))
        refine Rl.op (OpY.fieldAddr (q := 2) Tryd.underlying57 rfl ti3 rfl rfl rfl ?_)
        refine Rl.op (OpY.ldBox1 (v := (Value.int .i64 x16.To)) Tryd.underlying3 rfl rfl (hL21.at 0 rfl rfl) rfl ?_)
        refine Rl.op (OpY.fieldAddr (q := 1) Tryd.underlying60 rfl ti9 rfl rfl rfl ?_)
        refine Rl.op (OpY.ldBox1 (v := (Value.string (s8 x12.text))) Tryd.underlying9 rfl rfl (hL21.at 4 rfl rfl) rfl ?_)
        refine Rl.op (OpY.fieldAddr (q := 0) Tryd.underlying57 rfl ti5 rfl rfl rfl ?_)
        refine Rl.op (OpY.ldBox1 (v := (Value.int .u8 x16.Low)) Tryd.underlying5 rfl rfl (hL21.at 0 rfl rfl) rfl ?_)
        have hE18 : Els (rInt .u8) (Hv w.heap.size None [some b17, some b1, some b10, ob13, some b13] w19) [(Value.int .u8 x16.Low)] [x16.Low] := (Els.cons (a := [(Value.int .u8 x16.Low)]) rfl Els.nil)
        refine Rl.op (OpY.litRow (r := (rInt .u8)) (vs := [(Value.int .u8 x16.Low)]) (css := [[(Value.int .u8 x16.Low)]]) (xs := [x16.Low]) Tryd.underlying62 ti5 (Nat.le_of_ble_eq_true rfl) rfl rfl ⟨rfl, rfl, trivial⟩ (Nat.le_of_ble_eq_true rfl) hE18 rfl hL21 ?_)
        intro b18 w20 hc22 hL22 hS18
        have K22 := ks w hS18
        have f22 := (hE18.mono (K22 None))
        refine Rl.op (OpY.strRow (pre := []) (cs := [(Value.int .u8 x16.Low)]) (sp := []) (xs := [x16.Low]) Tryd.underlying62 Tryd.underlying9 Tryd.underlying5 rfl (hL22.at 0 rfl rfl) f22 rfl ?_)
        obtain ⟨u10, q64, h⟩ := bind_some h
        have q65 := chk_some q64
        refine Rl.op (OpY.sAdd (x := x12.text) (y := (bstr [x16.Low])) rfl rfl q65 ?_)
        refine Rl.op (OpY.build (zc := [(Value.int .i64 0), (Value.string ⟨#[]⟩)]) (cs := [(Value.int .i64 x16.To), (Value.string (s8 (x12.text ++ (bstr [x16.Low]))))]) (is := [0, 1]) (vs := [(Value.int .i64 x16.To), (Value.string (s8 (x12.text ++ (bstr [x16.Low]))))]) (css := [[(Value.int .i64 x16.To)], [(Value.string (s8 (x12.text ++ (bstr [x16.Low]))))]]) pl60 ti60 rfl rfl rfl ⟨rfl, rfl, trivial⟩ rfl ?_)
        have hE19 : Els rAItem (Hv w.heap.size None [some b18, some b17, some b1, some b10, ob13, some b13] w20) [(Value.int .i64 x16.To), (Value.string (s8 (x12.text ++ (bstr [x16.Low]))))] [(AItem.mk x16.To (x12.text ++ (bstr [x16.Low])))] := (Els.cons (a := [(Value.int .i64 x16.To), (Value.string (s8 (x12.text ++ (bstr [x16.Low]))))]) (rAItem_close ⟨rfl, trivial⟩) Els.nil)
        refine Rl.op (OpY.litRow (r := rAItem) (vs := [(Value.agg #[(Value.int .i64 x16.To), (Value.string (s8 (x12.text ++ (bstr [x16.Low]))))])]) (css := [[(Value.int .i64 x16.To), (Value.string (s8 (x12.text ++ (bstr [x16.Low]))))]]) (xs := [(AItem.mk x16.To (x12.text ++ (bstr [x16.Low])))]) Tryd.underlying61 ti60 (Nat.le_of_ble_eq_true rfl) rfl rfl ⟨rfl, rfl, trivial⟩ (Nat.le_of_ble_eq_true rfl) hE19 rfl hL22 ?_)
        intro b19 w21 hc23 hL23 hS19
        have K23 := ks w hS19
        obtain ⟨x20, q66, h⟩ := bind_some h
        obtain ⟨q67, q68, q69⟩ := apnd_some q66
        have f23 := (hE19.mono (K23 None))
        have f24 := (((((hE16.mono (K19 None)).mono (K20 None)).mono (K21 None)).mono (K22 None)).mono (K23 None))
        refine Rl.op (OpY.apQ (r := rAItem) (H := (Hv w.heap.size None [some b19, some b18, some b17, some b1, some b10, ob13, some b13] w21)) (pre := pre13) (cs := cs19) (sp := sp13) (xs := queue13) (ys := [(AItem.mk x16.To (x12.text ++ (bstr [x16.Low])))]) (Y := x20) (n := (List.length queue13)) (cap := cap13) (i := 5) Tryd.underlying61 ti60 rfl rfl rfl hv11 rfl hL23 rfl rfl f24 rfl hc18 (Src.row (pre := []) (o := 0) (n := 1) (cap := 1) (hL23.at 0 rfl rfl) f23 rfl rfl rfl) (Els.anyH (fun _ _ _ _ h => h) f23) (Nat.le_of_ble_eq_true rfl) q67 q68 q69 ?_)
        intro v15 ob14 pre14 cap14 sp14 cs21 w22 hv12 hE20 hc24 (hL24 : Go.X.Loc [] [] w w22 [some b19, some b18, some b17, some b1, some b10, ob14, some b13] [Cont.cells ([] ++ ([(Value.int .i64 x16.To), (Value.string (s8 (x12.text ++ (bstr [x16.Low]))))] ++ [])), Cont.cells ([] ++ ([(Value.int .u8 x16.Low)] ++ [])), Cont.cells [(Value.int .u8 x16.Low), (Value.int .u8 x16.High), (Value.int .i64 x16.To)], Cont.cells [d_v, d_v1], Cont.cells ([] ++ (cs20 ++ [])), Cont.cells (pre14 ++ (cs21 ++ sp14)), Cont.cells [(Value.int .i64 x12.state), (Value.string (s8 x12.text))]]) hS20
        have K24 := ks w hS20
        refine Rl.op (OpY.assign (v := v15) rfl ?_)
        refine Rl.nil (Swp.pop_blk (Swp.region rfl (Rl.op (OpY.add (x := x15) (y := 1) (z := (iw (x15 + 1))) rfl rfl rfl ?_))))
        refine Rl.op (OpY.move (v := (Value.int .i64 (iw (x15 + 1)))) rfl ?_)
        refine Rl.nil ?_
        have hp12 := hL24.pick [3, 4, 5, 6] rfl rfl rfl
        have hL25 : Go.X.Loc [] [] w w22 [some b1, some b10, ob14, some b13] [Cont.cells [d_v, d_v1], Cont.cells ([] ++ (cs20 ++ [])), Cont.cells (pre14 ++ (cs21 ++ sp14)), Cont.cells [(Value.int .i64 x12.state), (Value.string (s8 x12.text))]] := hp12.1
        have K25 := ks w hp12.2
        have f25 := (((((hE17.mono (K21 None)).mono (K22 None)).mono (K23 None)).mono (K24 None)).mono (K25 None))
        have f26 := ((hE20.mono (K24 None)).mono (K25 None))
        obtain rfl := Option.some.inj h
        refine Swp.pop_back ⟨(x19, x20, (iw (x15 + 1))), rfl, ?_⟩
        exact ⟨cs20, ob14, cap14, sp14, cs21, pre14, v15, (List.length x20), _, (upds_sym ⟨rfl, rfl, rfl, rfl, rfl, rfl, rfl, trivial⟩), hL25, (Keep.trans (Keep.trans (Keep.trans (Keep.trans (Keep.trans (Keep.trans (Keep.trans K18 K19) K20) K21) K22) K23) K24) K25), f25, hl15, hc21, f26, rfl, hc24, hv12, trivial⟩
       ·
        replace h := ite_f hc20 h
        refine Swp.skip (Swp.pop_blk (Swp.region rfl (Rl.op (OpY.add (x := x15) (y := 1) (z := (iw (x15 + 1))) rfl rfl rfl ?_))))
        refine Rl.op (OpY.move (v := (Value.int .i64 (iw (x15 + 1)))) rfl ?_)
        refine Rl.nil ?_
        have hp13 := hL20.pick [1, 2, 3, 4] rfl rfl rfl
        have hL26 : Go.X.Loc [] [] w w18 [some b1, some b10, ob13, some b13] [Cont.cells [d_v, d_v1], Cont.cells ([] ++ (cs18 ++ [])), Cont.cells (pre13 ++ (cs19 ++ sp13)), Cont.cells [(Value.int .i64 x12.state), (Value.string (s8 x12.text))]] := hp13.1
        have K26 := ks w hp13.2
        have f27 := (f21.mono (K26 None))
        have f28 := (((hE16.mono (K19 None)).mono (K20 None)).mono (K26 None))
        obtain rfl := Option.some.inj h
        refine Swp.pop_back ⟨(seen13, queue13, (iw (x15 + 1))), rfl, ?_⟩
        exact ⟨cs18, ob13, cap13, sp13, cs19, pre13, v14, (List.length queue13), _, (upds_sym ⟨rfl, rfl, rfl, rfl, rfl, rfl, rfl, trivial⟩), hL26, (Keep.trans (Keep.trans (Keep.trans K18 K19) K20) K26), f27, hl14, hc17, f28, rfl, hc18, hv11, trivial⟩
      ·
       replace h := ite_f hc19 h
       refine Swp.exit rfl ?_
       have hp14 := hL18.pick [0, 1, 2] rfl rfl rfl
       have hL27 : Go.X.Loc [] [] w w16 [some b1, some b10, ob13] [Cont.cells [d_v, d_v1], Cont.cells ([] ++ (cs18 ++ [])), Cont.cells (pre13 ++ (cs19 ++ sp13))] := hp14.1
       have K27 := ks w hp14.2
       have f29 := (hE15.mono (K27 None))
       have f30 := (hE16.mono (K27 None))
       obtain rfl := Option.some.inj h
       obtain rfl := hd11 _ rfl
       replace h := g12
       try dsimp only at h
       skip
       refine Swp.pop_back ?_
       exact ⟨seen13, queue13, cs18, ob13, cap13, sp13, cs19, pre13, v14, (List.length queue13), _, rfl, (upds_sym ⟨rfl, rfl, rfl, trivial⟩), hL27, (Keep.trans K18 K27), f29, hl14, hc17, f30, rfl, hc18, hv11, trivial⟩
     ·
      rintro _ w23 ⟨seen12, queue12, cs16, ob12, cap12, sp12, cs17, pre12, v13, ln12, u, rfl, rfl, hL28, K28, hE21, hl16, hc25, hE22, rfl, hc26, hv13, -⟩
      replace h := g12
      try dsimp only at h
      refine Swp.pop_blk ?_
      obtain rfl := Option.some.inj h
      refine Swp.pop_back ?_
      exact ⟨seen12, queue12, cs16, ob12, cap12, sp12, cs17, pre12, v13, (List.length queue12), _, rfl, (upds_sym ⟨rfl, rfl, rfl, trivial⟩), hL28, (Keep.trans (Keep.trans K15 K16) K28), hE21, hl16, hc25, hE22, rfl, hc26, hv13, trivial⟩
   ·
    rintro _ w24 ⟨seen11, queue11, cs14, ob11, cap11, sp11, cs15, pre11, v11, ln11, u, rfl, rfl, hL29, K29, hE23, hl17, hc27, hE24, rfl, hc28, hv14, -⟩
    replace h := g11
    try dsimp only at h
    refine Swp.region rfl (Rl.op (OpY.move (v := v11) rfl ?_))
    obtain ⟨x21, q70, h⟩ := bind_some h
    obtain ⟨n19, q71, q72, q73⟩ := drp_some q70
    refine Rl.op (OpY.cutQ (r := rAItem) (l := n19) (pre := pre11) (cs := cs15) (sp := sp11) (xs := queue11) (cap := cap11) Tryd.underlying61 ti60 rfl rfl hv14 (hL29.at 2 rfl rfl) hE24 rfl hc28 rfl q71 q72 q73 ?_)
    intro v16 pre15 cs22 q74 hv15 hE25 hc29
    have hL30 : Go.X.Loc [] [] w w24 [some b1, some b10, ob11] [Cont.cells [d_v, d_v1], Cont.cells ([] ++ (cs14 ++ [])), Cont.cells (pre15 ++ (cs22 ++ sp11))] := by rw [q74]; exact hL29
    refine Rl.op (OpY.assign (v := v16) rfl ?_)
    refine Rl.nil ?_
    obtain rfl := Option.some.inj h
    refine Swp.pop_back ⟨(seen11, x21), rfl, ?_⟩
    exact ⟨cs14, ob11, (cap11 - n19), sp11, cs22, pre15, v16, (List.length x21), _, (upds_sym ⟨rfl, rfl, rfl, trivial⟩), hL30, (Keep.trans K14 K29), hE23, hl17, hc27, hE25, rfl, hc29, hv15, trivial⟩
  ·
   replace h := ite_f hc15 h
   refine Swp.exit rfl ?_
   have hp15 := hL14.pick [] rfl rfl rfl
   have hL31 : Go.X.Loc [] [] w w13 [] [] := hp15.1
   have K30 := ks w hp15.2
   obtain rfl := Option.some.inj h
   obtain rfl := hd10 _ rfl
   replace h := g10
   try dsimp only at h
   skip
   refine Swp.pop_back ?_
   exact ⟨_, rfl, (upds_sym trivial), hL31, (Keep.trans K14 K30), trivial⟩
 ·
  rintro _ w25 ⟨u, rfl, rfl, hL32, K31, -⟩
  replace h := g10
  try dsimp only at h
  refine Swp.seq (Swp.region rfl (Rl.op (OpY.assign (v := (Value.string (s8 ([] : List UInt8)))) rfl ?_)))
  refine Rl.op (OpY.assign (v := (Value.bool false)) rfl ?_)
  refine Rl.nil (Swp.ret ?_)
  obtain rfl := Option.some.inj h
  refine ⟨[(Value.string (s8 ([] : List UInt8))), (Value.bool false)], ⟨rfl, rfl, trivial⟩, ⟨_, rfl, hL32.done, ?_⟩⟩
  exact ⟨rfl, trivial⟩
theorem cloneBool_w (N : Nat) (s : (List Bool)) (s_v : Value) (w : World) (S : Nat → Prop) (s_h : Rs rBool (Hv w.heap.size S [] w) s_v s) (r : (List Bool)) (h : cloneBool N s = some r) :
  Calls Tryd.prog 56 #[s_v] w (Ret w (fun v w' => ∃ (ob0 : Option Nat) (cap0 : Nat) (cs0 : List Value) (sp0 : List Value), (osv ob0 0 (List.length r) cap0) = v ∧ NewOwn w w' [ob0] [Cont.cells ([] ++ (cs0 ++ sp0))] ∧ Els rBool (Hv w.heap.size None [ob0] w') cs0 r ∧ (cs0 ++ sp0).length = cap0 * rBool.sz ∧ True)) := by
 unfold cloneBool at h
 have hL : Go.X.Loc [] [] w w [] [] := Go.X.Loc.begin0 w
 refine calls_of (l := [s_v]) (rl := [.tmp 2]) (n := 8) Tryd.func56 rfl rfl rfl (Nat.le_of_ble_eq_true rfl) ?_
 refine Swp.seq (Swp.region rfl (Rl.op (OpY.assign (v := (Value.slice none 0 0)) rfl ?_)))
 refine Rl.nil (Swp.seq (Swp.seq (Swp.region rfl (Rl.op (OpY.move (v := s_v) rfl ?_)))))
 refine Rl.op (OpY.eqlNil (v := s_v) Tryd.underlying22 rfl s_h.isSlice rfl ?_)
 refine Rl.nil ?_
 refine Swp.cond_b (isNil s_v) rfl (fun hc1 => ?_) (fun hc1 => ?_)
 ·
  have hnil := (Sl.of_isNil s_h hc1).1
  replace h : some [] = some r := by rw [hnil] at h; simpa [apnd] using h
  refine Swp.seq (Swp.region rfl (Rl.op (OpY.assign (v := (Value.slice none 0 0)) rfl ?_)))
  refine Rl.nil ?_
  have hp2 := hL.addNil
  have hL3 : Go.X.Loc [] [] w w [none] [Cont.cells ([] ++ ([] ++ []))] := hp2.1
  have hE6 : Els rBool (Hv w.heap.size None [none] w) [] [] := Els.nil
  refine Swp.ret ?_
  obtain rfl := Option.some.inj h
  refine ⟨[(osv none 0 (List.length ([] : (List Bool))) 0)], ⟨rfl, trivial⟩, ⟨_, rfl, hL3.done, ?_⟩⟩
  exact ⟨none, 0, [], [], rfl, (hL3.newOwn [0] rfl rfl rfl), (hE6.mono (Hv.pick [0] rfl)), (show ([] ++ [] : List Value).length = 0 * rBool.sz by simp), trivial⟩
 ·
  refine Swp.skip (Swp.seq (Swp.region rfl (Rl.op (OpY.litRow0 Tryd.underlying22 ti4 hL ?_))))
  intro b7 w10 hL10 hS10
  have hE10 : Els rBool (Hv w.heap.size None [] w) [] [] := Els.nil
  have K10 := ks w hS10
  refine Rl.op (OpY.move (v := s_v) rfl ?_)
  obtain ⟨x10, q10, h⟩ := bind_some h
  obtain ⟨q11, q12, q13⟩ := apnd_some q10
  have f10 := (s_h.mono (K10 S))
  obtain ⟨ds10, q14, q15⟩ := Rs.src f10
  have f11 := (hE10.mono (K10 None))
  refine Rl.op (OpY.apRowX (r := rBool) (H := (Hv w.heap.size None [some b7] w10)) (cs := []) (sp := []) (xs := ([] : (List Bool))) (ys := s) (Y := x10) (n := (List.length ([] : (List Bool)))) (cap := 0) (i := 0) Tryd.underlying22 ti4 rfl rfl rfl rfl hL10 rfl rfl f11 rfl (show ([] ++ [] : List Value).length = 0 * rBool.sz by simp) q14 (Els.anyH (fun _ _ _ _ h => h) q15) q11 q12 q13 ?_)
  intro ob10 cap10 sp10 cs10 w11 hE11 hc10 (hL11 : Go.X.Loc [] [] w w11 [ob10] [Cont.cells ([] ++ (cs10 ++ sp10))]) hS11
  have K11 := ks w hS11
  refine Rl.op (OpY.assign (v := (osv ob10 0 (List.length x10) cap10)) rfl ?_)
  refine Rl.nil (Swp.ret ?_)
  obtain rfl := Option.some.inj h
  refine ⟨[(osv ob10 0 (List.length x10) cap10)], ⟨rfl, trivial⟩, ⟨_, rfl, hL11.done, ?_⟩⟩
  have f12 := (hE11.mono (K11 None))
  exact ⟨ob10, cap10, cs10, sp10, rfl, (hL11.newOwn [0] rfl rfl rfl), (f12.mono (Hv.pick [0] rfl)), hc10, trivial⟩
theorem aUseful1_w (N : Nat) (pa : AEdge) (ca : (List Bool)) (ca_b : Nat) (ca_v : Value) (w : World) (S : Nat → Prop) (ca_at : At (Hv w.heap.size S [] w) ca_b 0 [ca_v]) (ca_h : Rs rBool (Hv w.heap.size S [] w) ca_v ca) (r : Bool) (h : aUseful1 N pa ca = some r) :
  Calls Tryd.prog 57 #[(Value.agg #[(Value.int .u8 pa.Low), (Value.int .u8 pa.High), (Value.int .i64 pa.To)]), (Value.pointer (some ⟨ca_b, 0, none⟩))] w (Ret w (fun v w' => (Value.bool r) = v ∧ True)) := by
 unfold aUseful1 at h
 have hL : Go.X.Loc [] [] w w [] [] := Go.X.Loc.begin0 w
 refine calls_of (l := [(Value.agg #[(Value.int .u8 pa.Low), (Value.int .u8 pa.High), (Value.int .i64 pa.To)]), (Value.pointer (some ⟨ca_b, 0, none⟩))]) (rl := [.tmp 3]) (n := 9) Tryd.func57 rfl rfl rfl (Nat.le_of_ble_eq_true rfl) ?_
 refine Swp.seq (Swp.region rfl (Rl.op (OpY.box (cs := [(Value.int .u8 pa.Low), (Value.int .u8 pa.High), (Value.int .i64 pa.To)]) rfl rfl hL ?_)))
 intro b1 w2 hL3 hS5
 have K4 := ks w hS5
 refine Rl.op (OpY.assign (v := (Value.bool false)) rfl ?_)
 refine Rl.nil (Swp.seq (Swp.region rfl ?_))
 have f6 := (At.mono (K4 S) ca_at)
 refine Rl.op (OpY.ldRo1 (v := ca_v) Tryd.underlying22 rfl rfl vw_view f6 ?_)
 refine Rl.op (OpY.fieldAddr (q := 2) Tryd.underlying57 rfl ti3 rfl rfl rfl ?_)
 refine Rl.op (OpY.ldBox1 (v := (Value.int .i64 pa.To)) Tryd.underlying3 rfl rfl (hL3.at 0 rfl rfl) rfl ?_)
 obtain ⟨x7, q8, h⟩ := bind_some h
 obtain ⟨n9, q10, q11⟩ := idx_some q8
 have f10 := (ca_h.mono (K4 S))
 obtain ⟨b10, o10, c10, vs10, q12, q13, f11, q14⟩ := Rs.get f10 q11
 obtain rfl := q14
 refine Rl.op (OpY.ixRoD (r := rBool) (v := ca_v) (n := n9) (m := (o10 + n9 * rBool.sz)) Tryd.underlying22 ti4 rfl q12 rfl q10 q11 rfl ?_)
 refine Rl.op (OpY.ldRo1 (v := (Value.bool x7)) Tryd.underlying4 rfl rfl vw_view f11 ?_)
 refine Rl.op (OpY.assign (v := (Value.bool x7)) rfl ?_)
 refine Rl.nil (Swp.ret ?_)
 obtain rfl := Option.some.inj h
 refine ⟨[(Value.bool x7)], ⟨rfl, trivial⟩, ⟨_, rfl, hL3.done, ?_⟩⟩
 exact ⟨rfl, trivial⟩
theorem aUseful_w (N : Nat) (d : ADfa) (d_b : Nat) (d_v : Value) (d_v1 : Value) (w : World) (S : Nat → Prop) (d_at : At (Hv w.heap.size Any [] w) d_b 0 [d_v, d_v1]) (d_h : Rs rBool (Hv w.heap.size S [] w) d_v d.Accept) (d_h1 : Rs (rSl rAEdge) (Hv w.heap.size S [] w) d_v1 d.Edges) (r : (List Bool)) (h : aUseful N d = some r) :
  Calls Tryd.prog 43 #[(Value.pointer (some ⟨d_b, 0, none⟩))] w (Ret w (fun v w' => ∃ (ob0 : Option Nat) (cap0 : Nat) (cs0 : List Value) (sp0 : List Value), (osv ob0 0 (List.length r) cap0) = v ∧ NewOwn w w' [ob0] [Cont.cells ([] ++ (cs0 ++ sp0))] ∧ Els rBool (Hv w.heap.size None [ob0] w') cs0 r ∧ (cs0 ++ sp0).length = cap0 * rBool.sz ∧ True)) := by
 unfold aUseful at h
 have hL : Go.X.Loc [] [] w w [] [] := Go.X.Loc.begin0 w
 refine calls_of (l := [(Value.pointer (some ⟨d_b, 0, none⟩))]) (rl := [.tmp 2]) (n := 106) Tryd.func43 rfl rfl rfl (Nat.le_of_ble_eq_true rfl) ?_
 refine Swp.seq (Swp.region rfl (Rl.op (OpY.assign (v := (Value.slice none 0 0)) rfl ?_)))
 refine Rl.nil (Swp.seq (Swp.region rfl (Rl.op (OpY.move (v := (Value.pointer (some ⟨d_b, 0, none⟩))) rfl ?_))))
 refine Rl.op (OpY.nilCheck (b := ⟨d_b, 0, none⟩) rfl ?_)
 have f1 := (d_at.part (us := [d_v]) 0 rfl)
 refine Rl.op (OpY.fieldAddr (q := 0 + 0) Tryd.underlying32 rfl ti22 rfl rfl rfl ?_)
 refine Rl.op (OpY.ldRo1 (v := d_v) Tryd.underlying22 rfl rfl vw_view f1 ?_)
 refine Rl.op (OpY.lenRo (v := d_v) Tryd.underlying22 rfl d_h ?_)
 refine Rl.op (OpY.assign (v := (Value.int .i64 (List.length d.Accept : Int))) rfl ?_)
 refine Rl.nil (Swp.seq (Swp.region rfl (Rl.op (OpY.move (v := (Value.int .i64 (List.length d.Accept : Int))) rfl ?_))))
 obtain ⟨x3, q4, h⟩ := bind_some h
 obtain ⟨m2, q5, q6, q7, q8⟩ := mk1_some q4
 refine Rl.op (OpY.mkRowX (r := rBool) (H := (Hv w.heap.size None [] w)) (zc := [(Value.bool false)]) (x := false) Tryd.underlying22 ti4 rfl rfl rfl rfl q5 q6 q7 q8 hL ?_)
 intro b9 w10 cs10 hE10 hc10 hL10 hS10
 have K10 := ks w hS10
 refine Rl.op (OpY.assign (v := (osv (some b9) 0 (List.length x3) m2)) rfl ?_)
 refine Rl.nil (Swp.seq (Swp.region rfl (Rl.op (OpY.move (v := (osv (some b9) 0 (List.length x3) m2)) rfl ?_))))
 obtain ⟨x10, q10, h⟩ := bind_some h
 obtain ⟨n10, q11, q12⟩ := idx_some q10
 have q13 := (List.getElem?_eq_some_iff.1 q12).1
 refine Rl.op (OpY.ixRowD (r := rBool) (b := b9) (o := 0) (n := n10) (m := (List.length x3)) (xs := x3) (q := (0 + n10 * rBool.sz)) Tryd.underlying22 ti4 rfl rfl rfl q11 q13 rfl ?_)
 obtain ⟨x11, q14, h⟩ := bind_some h
 obtain ⟨n11, q15, q16, q17⟩ := upd1_some q14
 obtain rfl := Int.ofNat_inj.1 (q11.symm.trans q15)
 have f10 := (hE10.mono (K10 None))
 refine Rl.op0 (OpY.stRowX (pre := []) (r := rBool) (vs := [(Value.bool true)]) (a := true) ti4 rfl rfl rfl rfl hL10 0 rfl rfl f10 q13 rfl q17 ?_)
 have hl10 : (List.length x3) = List.length x11 := by rw [q17, List.length_set]
 intro w11 cs11 (hL11 : Go.X.Loc [] [] w w11 [some b9] [Cont.cells ([] ++ (cs11 ++ []))]) hS11 hE11 q18
 have hc11 : (cs11 ++ []).length = m2 * rBool.sz := by have := hc10; rw [List.length_append] at this ⊢; rw [q18]; exact this
 have K11 := ks w hS11
 refine Rl.nil (Swp.seq (Swp.seq (Swp.region rfl ?_)))
 have hE12 : Els (rInt .i64) (Hv w.heap.size None [some b9] w11) [(Value.int .i64 0)] [0] := (Els.cons (a := [(Value.int .i64 0)]) rfl Els.nil)
 refine Rl.op (OpY.litRow (r := (rInt .i64)) (vs := [(Value.int .i64 0)]) (css := [[(Value.int .i64 0)]]) (xs := [0]) Tryd.underlying78 ti3 (Nat.le_of_ble_eq_true rfl) rfl rfl ⟨rfl, rfl, trivial⟩ (Nat.le_of_ble_eq_true rfl) hE12 rfl hL11 ?_)
 intro b10 w12 hc12 hL12 hS12
 have K12 := ks w hS12
 refine Rl.op (OpY.assign (v := (osv (some b10) 0 1 1)) rfl ?_)
 refine Rl.nil ?_
 obtain ⟨s10, hl11, g10⟩ := bind_some h
 refine Swp.join (fun e w' => ∃ (reached10 : (List Bool)) (cs12 : List Value) (u : Env), reached10 = s10 ∧ e = upds [(0, (Value.pointer (some ⟨d_b, 0, none⟩))), (3, (Value.int .i64 (List.length d.Accept : Int))), (4, (osv (some b9) 0 (List.length x3) m2))] u ∧ Go.X.Loc [] [] w w' [some b9] [Cont.cells ([] ++ (cs12 ++ []))] ∧ Keep w.heap.size [some b10, some b9] w12 [some b9] w' ∧ Els rBool (Hv w.heap.size None [some b9] w') cs12 reached10 ∧ (List.length x3) = List.length reached10 ∧ (cs12 ++ []).length = m2 * rBool.sz ∧ True) ?_ ?_
 ·
  refine Swp.block ?_
  have hp10 := hL12.pick [1, 0] rfl rfl rfl
  have hL13 : Go.X.Loc [] [] w w12 [some b9, some b10] [Cont.cells ([] ++ (cs11 ++ [])), Cont.cells ([] ++ ([(Value.int .i64 0)] ++ []))] := hp10.1
  have K13 := ks w hp10.2
  have f11 := (((hE11.mono (K11 None)).mono (K12 None)).mono (K13 None))
  have f12 := ((hE12.mono (K12 None)).mono (K13 None))
  refine Swp.loopM hl11 (fun (ss : ((List Bool) × (List Int))) (e : Env) (w' : World) => match ss with | (reached11, queue10) => ∃ (cs13 : List Value) (ob10 : Option Nat) (cap10 : Nat) (sp10 : List Value) (cs14 : List Value) (pre10 : List Value) (v10 : Value) (ln10 : Nat) (u : Env), e = upds [(0, (Value.pointer (some ⟨d_b, 0, none⟩))), (3, (Value.int .i64 (List.length d.Accept : Int))), (4, (osv (some b9) 0 (List.length x3) m2)), (5, v10)] u ∧ Go.X.Loc [] [] w w' [some b9, ob10] [Cont.cells ([] ++ (cs13 ++ [])), Cont.cells (pre10 ++ (cs14 ++ sp10))] ∧ Keep w.heap.size [some b10, some b9] w12 [some b9, ob10] w' ∧ Els rBool (Hv w.heap.size None [some b9, ob10] w') cs13 reached11 ∧ (List.length x3) = List.length reached11 ∧ (cs13 ++ []).length = m2 * rBool.sz ∧ Els (rInt .i64) (Hv w.heap.size None [some b9, ob10] w') cs14 queue10 ∧ ln10 = List.length queue10 ∧ (cs14 ++ sp10).length = cap10 * (rInt .i64).sz ∧ Fv v10 ob10 (List.length pre10) (List.length queue10) cap10 ∧ True) ⟨cs11, some b10, 1, [], [(Value.int .i64 0)], [], (osv (some b10) 0 1 1), 1, _, (upds_sym ⟨rfl, rfl, rfl, rfl, trivial⟩), hL13, K13, f11, hl10, hc11, f12, rfl, hc12, Fv.of, trivial⟩ ?_
  rintro ⟨reached11, queue10⟩ oo _ w13 ⟨cs13, ob10, cap10, sp10, cs14, pre10, v10, ln10, u, rfl, hL14, K14, hE13, hl12, hc13, hE14, rfl, hc14, hv10, -⟩ h hd10
  rw [aUseful_b1] at h
  refine Swp.seq (Swp.seq (Swp.region rfl (Rl.op (OpY.move (v := v10) rfl ?_))))
  refine Rl.op (OpY.lenQ (pre := pre10) (r := (rInt .i64)) (xs := queue10) Tryd.underlying78 rfl hv10 (hL14.at 1 rfl rfl) hE14 rfl rfl ?_)
  refine Rl.op (OpY.gtr (x := (List.length queue10 : Int)) (y := 0) (((List.length queue10 : Int) : Int) > 0) rfl rfl Iff.rfl ?_)
  refine Rl.nil ?_
  refine Swp.cond_d (((List.length queue10 : Int) : Int) > 0) rfl (fun hc15 => ?_) (fun hc15 => ?_)
  ·
   replace h := ite_t hc15 h
   refine Swp.skip (Swp.seq ?_)
   obtain ⟨s11, h, g11⟩ := bind_some h
   refine Swp.join (fun e w' => ∃ (reached12 : (List Bool)) (queue11 : (List Int)) (cs15 : List Value) (ob11 : Option Nat) (cap11 : Nat) (sp11 : List Value) (cs16 : List Value) (pre11 : List Value) (v11 : Value) (ln11 : Nat) (u : Env), (reached12, queue11) = s11 ∧ e = upds [(0, (Value.pointer (some ⟨d_b, 0, none⟩))), (3, (Value.int .i64 (List.length d.Accept : Int))), (4, (osv (some b9) 0 (List.length x3) m2)), (5, v11)] u ∧ Go.X.Loc [] [] w w' [some b9, ob11] [Cont.cells ([] ++ (cs15 ++ [])), Cont.cells (pre11 ++ (cs16 ++ sp11))] ∧ Keep w.heap.size [some b9, ob10] w13 [some b9, ob11] w' ∧ Els rBool (Hv w.heap.size None [some b9, ob11] w') cs15 reached12 ∧ (List.length x3) = List.length reached12 ∧ (cs15 ++ []).length = m2 * rBool.sz ∧ Els (rInt .i64) (Hv w.heap.size None [some b9, ob11] w') cs16 queue11 ∧ ln11 = List.length queue11 ∧ (cs16 ++ sp11).length = cap11 * (rInt .i64).sz ∧ Fv v11 ob11 (List.length pre11) (List.length queue11) cap11 ∧ True) ?_ ?_
   ·
    refine Swp.block (Swp.seq ?_)
    have f13 := (At.mono (K14 Any) (At.mono (K12 Any) (At.mono (K11 Any) (At.mono (K10 Any) d_at))))
    have f14 := (f13.part (us := [d_v1]) 1 rfl)
    obtain ⟨x12, q19, h⟩ := bind_some h
    obtain ⟨n12, q20, q21⟩ := idx_some q19
    have q22 := (List.getElem?_eq_some_iff.1 q21).1
    obtain ⟨b11, hb10⟩ := hL14.row_some 1 rfl rfl (row_pos (pre := pre10) hE14 q21 (Nat.lt_of_sub_eq_succ rfl))
    obtain ⟨vs10, q23, q24, q25⟩ := row_elem (pre := pre10) (sp := sp10) hE14 q21
    obtain rfl := q24
    obtain ⟨x13, q26, h⟩ := bind_some h
    obtain ⟨n13, q27, q28⟩ := idx_some q26
    have f15 := ((((d_h1.mono (K10 S)).mono (K11 S)).mono (K12 S)).mono (K14 S))
    obtain ⟨b12, o10, c10, vs11, q29, q30, f16, q31⟩ := Rs.get f15 q28
    obtain ⟨v12, rfl, k10⟩ := q31
    refine Swp.drawL 11 [] [] (fun W1 => [.det (Value.pointer (some ⟨d_b, 0, none⟩)), .det (Value.pointer (some ⟨d_b, 0, none⟩)), .det (Value.pointer (some ⟨d_b, 0 + 1, none⟩)), .det d_v1, .det v10, .det (Value.pointer (some ⟨b11, (List.length pre10 + n12 * (rInt .i64).sz), none⟩)), .det (Value.int .i64 x12), .det (Value.pointer (some ⟨b12, (o10 + n13 * (rSl rAEdge).sz), none⟩)), .det v12, .det (Value.int .i64 (List.length x13 : Int)), .det (Value.int .i64 0)]) mixed rfl rfl rfl (fun _ => rfl) (fun _ => rfl) ?_ ?_
    ·
     intro W1 _
     exact trivial
    ·
     intro w14 hE15
     have hL15 := hL14.ext hE15
     have K15 := ke hL14 hE15
     refine DrH.de (fun _ _ => GOp.op (OpY.move rfl (er rfl))) ?_
     refine DrH.de (fun _ _ => GOp.op (OpY.nilCheck (b := ⟨d_b, 0, none⟩) rfl (er rfl))) ?_
     refine DrH.de (fun _ _ => GOp.op (OpY.fieldAddr Tryd.underlying32 rfl ti30 rfl rfl rfl (er rfl))) ?_
     refine DrH.de (fun _ hE19 => GOp.op (OpY.ldRo1 Tryd.underlying30 rfl rfl vw_view (At.mono ((ke hL15 hE19) Any) (At.mono (K15 Any) f14)) (er rfl))) ?_
     refine DrH.de (fun _ _ => GOp.op (OpY.move rfl (er rfl))) ?_
     refine DrH.de (fun _ _ => GOp.op (OpY.ixQ (r := (rInt .i64)) (b := b11) (n := n12) (m := (List.length queue10)) (xs := queue10) (q := (List.length pre10 + n12 * (rInt .i64).sz)) Tryd.underlying78 ti3 rfl hv10 hb10 rfl rfl q20 q22 rfl (er rfl))) ?_
     refine DrH.de (fun _ hE22 => GOp.op (OpY.ldElem1 Tryd.underlying3 rfl rfl (own_some hb10 ((hL15.ext hE22).at 1 rfl rfl)) q25 (er rfl))) ?_
     refine DrH.de (fun _ _ => GOp.op (OpY.ixRoD (r := (rSl rAEdge)) (v := d_v1) (n := n13) (m := (o10 + n13 * (rSl rAEdge).sz)) Tryd.underlying30 ti58 rfl q29 rfl q27 q28 rfl (er rfl))) ?_
     refine DrH.de (fun _ hE24 => GOp.op (OpY.ldRo1 Tryd.underlying58 rfl rfl vw_view (At.mono ((ke hL15 hE24) S) (At.mono (K15 S) f16)) (er rfl))) ?_
     refine DrH.de (fun _ hE25 => GOp.op (OpY.lenRo (v := v12) Tryd.underlying58 rfl ((k10.mono (K15 S)).mono ((ke hL15 hE25) S)) (er rfl))) ?_
     refine DrH.de (fun _ _ => GOp.op (OpY.move rfl (er rfl))) ?_
     refine DrH.fin0 ?_
     rintro w26 Z25 hE27 hZ21 ⟨-⟩ ap10
     have hB10 : ∀ b, some b ∈ ([] : List (Option Nat)) → w14.heap.size ≤ b ∧ ¬ Z25 b := by
      intro b hb; cases hb
     have hL17 := hL15.ext hE27
     have K19 := ke hL15 hE27
     refine Rl.nil ?_
     obtain ⟨s12, hl13, g12⟩ := bind_some h
     refine Swp.join (fun e w' => ∃ (reached13 : (List Bool)) (queue12 : (List Int)) (cs17 : List Value) (ob12 : Option Nat) (cap12 : Nat) (sp12 : List Value) (cs18 : List Value) (pre12 : List Value) (v13 : Value) (ln12 : Nat) (u : Env), (reached13, queue12) = s12 ∧ e = upds [(0, (Value.pointer (some ⟨d_b, 0, none⟩))), (3, (Value.int .i64 (List.length d.Accept : Int))), (4, (osv (some b9) 0 (List.length x3) m2)), (5, v13)] u ∧ Go.X.Loc [] [] w w' [some b9, ob12] [Cont.cells ([] ++ (cs17 ++ [])), Cont.cells (pre12 ++ (cs18 ++ sp12))] ∧ Keep w.heap.size [some b9, ob10] w26 [some b9, ob12] w' ∧ Els rBool (Hv w.heap.size None [some b9, ob12] w') cs17 reached13 ∧ (List.length x3) = List.length reached13 ∧ (cs17 ++ []).length = m2 * rBool.sz ∧ Els (rInt .i64) (Hv w.heap.size None [some b9, ob12] w') cs18 queue12 ∧ ln12 = List.length queue12 ∧ (cs18 ++ sp12).length = cap12 * (rInt .i64).sz ∧ Fv v13 ob12 (List.length pre12) (List.length queue12) cap12 ∧ True) ?_ ?_
     ·
      refine Swp.block ?_
      have f17 := ((hE13.mono (K15 None)).mono (K19 None))
      have f18 := ((hE14.mono (K15 None)).mono (K19 None))
      refine Swp.loopM hl13 (fun (ss : ((List Bool) × (List Int) × Int)) (e : Env) (w' : World) => match ss with | (reached14, queue13, x14) => ∃ (cs19 : List Value) (ob13 : Option Nat) (cap13 : Nat) (sp13 : List Value) (cs20 : List Value) (pre13 : List Value) (v14 : Value) (ln13 : Nat) (u : Env), e = upds [(0, (Value.pointer (some ⟨d_b, 0, none⟩))), (3, (Value.int .i64 (List.length d.Accept : Int))), (4, (osv (some b9) 0 (List.length x3) m2)), (5, v14), (35, v12), (36, (Value.int .i64 (List.length x13 : Int))), (37, (Value.int .i64 x14))] u ∧ Go.X.Loc [] [] w w' [some b9, ob13] [Cont.cells ([] ++ (cs19 ++ [])), Cont.cells (pre13 ++ (cs20 ++ sp13))] ∧ Keep w.heap.size [some b9, ob10] w26 [some b9, ob13] w' ∧ Els rBool (Hv w.heap.size None [some b9, ob13] w') cs19 reached14 ∧ (List.length x3) = List.length reached14 ∧ (cs19 ++ []).length = m2 * rBool.sz ∧ Els (rInt .i64) (Hv w.heap.size None [some b9, ob13] w') cs20 queue13 ∧ ln13 = List.length queue13 ∧ (cs20 ++ sp13).length = cap13 * (rInt .i64).sz ∧ Fv v14 ob13 (List.length pre13) (List.length queue13) cap13 ∧ True) ⟨cs13, ob10, cap10, sp10, cs14, pre10, v10, (List.length queue10), _, (upds_sym ⟨rfl, rfl, rfl, rfl, rfl, rfl, rfl, trivial⟩), hL17, Keep.refl, f17, hl12, hc13, f18, rfl, hc14, hv10, trivial⟩ ?_
      rintro ⟨reached14, queue13, x14⟩ oo _ w27 ⟨cs19, ob13, cap13, sp13, cs20, pre13, v14, ln13, u, rfl, hL18, K20, hE28, hl14, hc16, hE29, rfl, hc17, hv11, -⟩ h hd11
      rw [aUseful_b2] at h
      refine Swp.seq (Swp.region rfl (Rl.op (OpY.lss (x := x14) (y := (List.length x13 : Int)) ((x14 : Int) < (List.length x13 : Int)) rfl rfl Iff.rfl ?_)))
      refine Rl.nil (Swp.seq ?_)
      refine Swp.cond_d ((x14 : Int) < (List.length x13 : Int)) rfl (fun hc18 => ?_) (fun hc18 => ?_)
      ·
       replace h := ite_t hc18 h
       refine Swp.skip (Swp.seq (Swp.block (Swp.seq (Swp.region rfl ?_))))
       obtain ⟨x15, q32, h⟩ := bind_some h
       obtain ⟨n14, q33, q34⟩ := idx_some q32
       have f19 := (((k10.mono (K15 S)).mono (K19 S)).mono (K20 S))
       obtain ⟨b13, o11, c11, vs12, q35, q36, f20, q37⟩ := Rs.get f19 q34
       obtain ⟨rfl, -⟩ := rAEdge_open q37
       refine Rl.op (OpY.ixRoD (r := rAEdge) (v := v12) (n := n14) (m := (o11 + n14 * rAEdge.sz)) Tryd.underlying58 ti57 rfl q35 rfl q33 q34 rfl ?_)
       refine Rl.op (OpY.ldRoA (vs := [(Value.int .u8 x15.Low), (Value.int .u8 x15.High), (Value.int .i64 x15.To)]) Tryd.underlying57 rfl ti57 rfl rfl vw_view f20 ?_)
       refine Rl.op (OpY.alloc (cs := [(Value.int .u8 0), (Value.int .u8 0), (Value.int .i64 0)]) ti57 rfl hL18 ?_)
       intro b14 w28 hL19 hS13
       have K21 := ks w hS13
       refine Rl.op0 (OpY.store (vs := [(Value.int .u8 x15.Low), (Value.int .u8 x15.High), (Value.int .i64 x15.To)]) ti57 rfl rfl rfl rfl (ones_cons rfl (ones_cons rfl (ones_cons rfl ones_nil))) hL19 0 rfl rfl (Nat.le_of_ble_eq_true rfl) ?_)
       intro w29 (hL20 : Go.X.Loc [] [] w w29 [some b14, some b9, ob13] [Cont.cells [(Value.int .u8 x15.Low), (Value.int .u8 x15.High), (Value.int .i64 x15.To)], Cont.cells ([] ++ (cs19 ++ [])), Cont.cells (pre13 ++ (cs20 ++ sp13))]) hS14
       have K22 := ks w hS14
       refine Rl.nil (Swp.seq (Swp.region rfl (Rl.op (OpY.move (v := (osv (some b9) 0 (List.length x3) m2)) rfl ?_))))
       refine Rl.op (OpY.fieldAddr (q := 2) Tryd.underlying57 rfl ti3 rfl rfl rfl ?_)
       refine Rl.op (OpY.ldBox1 (v := (Value.int .i64 x15.To)) Tryd.underlying3 rfl rfl (hL20.at 0 rfl rfl) rfl ?_)
       obtain ⟨x16, q38, h⟩ := bind_some h
       obtain ⟨n15, q39, q40⟩ := idx_some q38
       have q41 := (List.getElem?_eq_some_iff.1 q40).1
       refine Rl.op (OpY.ixRowD (r := rBool) (b := b9) (o := 0) (n := n15) (m := (List.length x3)) (xs := reached14) (q := (0 + n15 * rBool.sz)) Tryd.underlying22 ti4 rfl hl14 rfl q39 q41 rfl ?_)
       have f21 := ((hE28.mono (K21 None)).mono (K22 None))
       obtain ⟨vs13, q42, q43, q44⟩ := row_elem (pre := []) (sp := []) f21 q40
       obtain rfl := q43
       refine Rl.op (OpY.ldElem1 (v := (Value.bool x16)) Tryd.underlying4 rfl rfl (hL20.at 1 rfl rfl) q44 ?_)
       refine Rl.op (OpY.not (x := x16) rfl ?_)
       refine Rl.nil ?_
       refine Swp.cond_b (!x16) rfl (fun hc19 => ?_) (fun hc19 => ?_)
       ·
        replace h := ite_t hc19 h
        refine Swp.seq (Swp.region rfl (Rl.op (OpY.move (v := (osv (some b9) 0 (List.length x3) m2)) rfl ?_)))
        refine Rl.op (OpY.fieldAddr (q := 2) Tryd.underlying57 rfl ti3 rfl rfl rfl ?_)
        refine Rl.op (OpY.ldBox1 (v := (Value.int .i64 x15.To)) Tryd.underlying3 rfl rfl (hL20.at 0 rfl rfl) rfl ?_)
        obtain ⟨x17, q45, h⟩ := bind_some h
        obtain ⟨n16, q46, q47⟩ := idx_some q45
        have q48 := (List.getElem?_eq_some_iff.1 q47).1
        refine Rl.op (OpY.ixRowD (r := rBool) (b := b9) (o := 0) (n := n16) (m := (List.length x3)) (xs := reached14) (q := (0 + n16 * rBool.sz)) Tryd.underlying22 ti4 rfl hl14 rfl q46 q48 rfl ?_)
        obtain ⟨x18, q49, h⟩ := bind_some h
        obtain ⟨n17, q50, q51, q52⟩ := upd1_some q49
        obtain rfl := Int.ofNat_inj.1 (q46.symm.trans q50)
        refine Rl.op0 (OpY.stRowX (pre := []) (r := rBool) (vs := [(Value.bool true)]) (a := true) ti4 rfl rfl rfl rfl hL20 1 rfl rfl f21 q48 rfl q52 ?_)
        have hl15 : (List.length x3) = List.length x18 := by rw [q52, List.length_set]; exact hl14
        intro w30 cs21 (hL21 : Go.X.Loc [] [] w w30 [some b14, some b9, ob13] [Cont.cells [(Value.int .u8 x15.Low), (Value.int .u8 x15.High), (Value.int .i64 x15.To)], Cont.cells ([] ++ (cs21 ++ [])), Cont.cells (pre13 ++ (cs20 ++ sp13))]) hS15 hE30 q53
        have hc20 : (cs21 ++ []).length = m2 * rBool.sz := by have := hc16; rw [List.length_append] at this ⊢; rw [q53]; exact this
        have K23 := ks w hS15
        refine Rl.nil (Swp.region rfl (Rl.op (OpY.move (v := v14) rfl ?_)))
        refine Rl.op (OpY.fieldAddr (q := 2) Tryd.underlying57 rfl ti3 rfl rfl rfl ?_)
        refine Rl.op (OpY.ldBox1 (v := (Value.int .i64 x15.To)) Tryd.underlying3 rfl rfl (hL21.at 0 rfl rfl) rfl ?_)
        have hE31 : Els (rInt .i64) (Hv w.heap.size None [some b14, some b9, ob13] w30) [(Value.int .i64 x15.To)] [x15.To] := (Els.cons (a := [(Value.int .i64 x15.To)]) rfl Els.nil)
        refine Rl.op (OpY.litRow (r := (rInt .i64)) (vs := [(Value.int .i64 x15.To)]) (css := [[(Value.int .i64 x15.To)]]) (xs := [x15.To]) Tryd.underlying78 ti3 (Nat.le_of_ble_eq_true rfl) rfl rfl ⟨rfl, rfl, trivial⟩ (Nat.le_of_ble_eq_true rfl) hE31 rfl hL21 ?_)
        intro b15 w31 hc21 hL22 hS16
        have K24 := ks w hS16
        obtain ⟨x19, q54, h⟩ := bind_some h
        obtain ⟨q55, q56, q57⟩ := apnd_some q54
        have f22 := (hE31.mono (K24 None))
        have f23 := ((((hE29.mono (K21 None)).mono (K22 None)).mono (K23 None)).mono (K24 None))
        refine Rl.op (OpY.apQ (r := (rInt .i64)) (H := (Hv w.heap.size None [some b15, some b14, some b9, ob13] w31)) (pre := pre13) (cs := cs20) (sp := sp13) (xs := queue13) (ys := [x15.To]) (Y := x19) (n := (List.length queue13)) (cap := cap13) (i := 3) Tryd.underlying78 ti3 rfl rfl rfl hv11 rfl hL22 rfl rfl f23 rfl hc17 (Src.row (pre := []) (o := 0) (n := 1) (cap := 1) (hL22.at 0 rfl rfl) f22 rfl rfl rfl) (Els.anyH (fun _ _ _ _ h => h) f22) (Nat.le_of_ble_eq_true rfl) q55 q56 q57 ?_)
        intro v15 ob14 pre14 cap14 sp14 cs22 w32 hv12 hE32 hc22 (hL23 : Go.X.Loc [] [] w w32 [some b15, some b14, some b9, ob14] [Cont.cells ([] ++ ([(Value.int .i64 x15.To)] ++ [])), Cont.cells [(Value.int .u8 x15.Low), (Value.int .u8 x15.High), (Value.int .i64 x15.To)], Cont.cells ([] ++ (cs21 ++ [])), Cont.cells (pre14 ++ (cs22 ++ sp14))]) hS17
        have K25 := ks w hS17
        refine Rl.op (OpY.assign (v := v15) rfl ?_)
        refine Rl.nil (Swp.pop_blk (Swp.region rfl (Rl.op (OpY.add (x := x14) (y := 1) (z := (iw (x14 + 1))) rfl rfl rfl ?_))))
        refine Rl.op (OpY.move (v := (Value.int .i64 (iw (x14 + 1)))) rfl ?_)
        refine Rl.nil ?_
        have hp11 := hL23.pick [2, 3] rfl rfl rfl
        have hL24 : Go.X.Loc [] [] w w32 [some b9, ob14] [Cont.cells ([] ++ (cs21 ++ [])), Cont.cells (pre14 ++ (cs22 ++ sp14))] := hp11.1
        have K26 := ks w hp11.2
        have f24 := ((((hE30.mono (K23 None)).mono (K24 None)).mono (K25 None)).mono (K26 None))
        have f25 := ((hE32.mono (K25 None)).mono (K26 None))
        obtain rfl := Option.some.inj h
        refine Swp.pop_back ⟨(x18, x19, (iw (x14 + 1))), rfl, ?_⟩
        exact ⟨cs21, ob14, cap14, sp14, cs22, pre14, v15, (List.length x19), _, (upds_sym ⟨rfl, rfl, rfl, rfl, rfl, rfl, rfl, trivial⟩), hL24, (Keep.trans (Keep.trans (Keep.trans (Keep.trans (Keep.trans (Keep.trans K20 K21) K22) K23) K24) K25) K26), f24, hl15, hc20, f25, rfl, hc22, hv12, trivial⟩
       ·
        replace h := ite_f hc19 h
        refine Swp.skip (Swp.pop_blk (Swp.region rfl (Rl.op (OpY.add (x := x14) (y := 1) (z := (iw (x14 + 1))) rfl rfl rfl ?_))))
        refine Rl.op (OpY.move (v := (Value.int .i64 (iw (x14 + 1)))) rfl ?_)
        refine Rl.nil ?_
        have hp12 := hL20.pick [1, 2] rfl rfl rfl
        have hL25 : Go.X.Loc [] [] w w29 [some b9, ob13] [Cont.cells ([] ++ (cs19 ++ [])), Cont.cells (pre13 ++ (cs20 ++ sp13))] := hp12.1
        have K27 := ks w hp12.2
        have f26 := (f21.mono (K27 None))
        have f27 := (((hE29.mono (K21 None)).mono (K22 None)).mono (K27 None))
        obtain rfl := Option.some.inj h
        refine Swp.pop_back ⟨(reached14, queue13, (iw (x14 + 1))), rfl, ?_⟩
        exact ⟨cs19, ob13, cap13, sp13, cs20, pre13, v14, (List.length queue13), _, (upds_sym ⟨rfl, rfl, rfl, rfl, rfl, rfl, rfl, trivial⟩), hL25, (Keep.trans (Keep.trans (Keep.trans K20 K21) K22) K27), f26, hl14, hc16, f27, rfl, hc17, hv11, trivial⟩
      ·
       replace h := ite_f hc18 h
       refine Swp.exit rfl ?_
       obtain rfl := Option.some.inj h
       obtain rfl := hd11 _ rfl
       replace h := g12
       try dsimp only at h
       skip
       refine Swp.pop_back ?_
       exact ⟨reached14, queue13, cs19, ob13, cap13, sp13, cs20, pre13, v14, (List.length queue13), _, rfl, (upds_sym ⟨rfl, rfl, rfl, rfl, trivial⟩), hL18, K20, hE28, hl14, hc16, hE29, rfl, hc17, hv11, trivial⟩
     ·
      rintro _ w33 ⟨reached13, queue12, cs17, ob12, cap12, sp12, cs18, pre12, v13, ln12, u, rfl, rfl, hL26, K28, hE33, hl16, hc23, hE34, rfl, hc24, hv13, -⟩
      replace h := g12
      try dsimp only at h
      refine Swp.pop_blk ?_
      obtain rfl := Option.some.inj h
      refine Swp.pop_back ?_
      exact ⟨reached13, queue12, cs17, ob12, cap12, sp12, cs18, pre12, v13, (List.length queue12), _, rfl, (upds_sym ⟨rfl, rfl, rfl, rfl, trivial⟩), hL26, (Keep.trans (Keep.trans K15 K19) K28), hE33, hl16, hc23, hE34, rfl, hc24, hv13, trivial⟩
   ·
    rintro _ w34 ⟨reached12, queue11, cs15, ob11, cap11, sp11, cs16, pre11, v11, ln11, u, rfl, rfl, hL27, K29, hE35, hl17, hc25, hE36, rfl, hc26, hv14, -⟩
    replace h := g11
    try dsimp only at h
    refine Swp.region rfl (Rl.op (OpY.move (v := v11) rfl ?_))
    obtain ⟨x20, q58, h⟩ := bind_some h
    obtain ⟨n18, q59, q60, q61⟩ := drp_some q58
    refine Rl.op (OpY.cutQ (r := (rInt .i64)) (l := n18) (pre := pre11) (cs := cs16) (sp := sp11) (xs := queue11) (cap := cap11) Tryd.underlying78 ti3 rfl rfl hv14 (hL27.at 1 rfl rfl) hE36 rfl hc26 rfl q59 q60 q61 ?_)
    intro v16 pre15 cs23 q62 hv15 hE37 hc27
    have hL28 : Go.X.Loc [] [] w w34 [some b9, ob11] [Cont.cells ([] ++ (cs15 ++ [])), Cont.cells (pre15 ++ (cs23 ++ sp11))] := by rw [q62]; exact hL27
    refine Rl.op (OpY.assign (v := v16) rfl ?_)
    refine Rl.nil ?_
    obtain rfl := Option.some.inj h
    refine Swp.pop_back ⟨(reached12, x20), rfl, ?_⟩
    exact ⟨cs15, ob11, (cap11 - n18), sp11, cs23, pre15, v16, (List.length x20), _, (upds_sym ⟨rfl, rfl, rfl, rfl, trivial⟩), hL28, (Keep.trans K14 K29), hE35, hl17, hc25, hE37, rfl, hc27, hv15, trivial⟩
  ·
   replace h := ite_f hc15 h
   refine Swp.exit rfl ?_
   have hp13 := hL14.pick [0] rfl rfl rfl
   have hL29 : Go.X.Loc [] [] w w13 [some b9] [Cont.cells ([] ++ (cs13 ++ []))] := hp13.1
   have K30 := ks w hp13.2
   have f28 := (hE13.mono (K30 None))
   obtain rfl := Option.some.inj h
   obtain rfl := hd10 _ rfl
   replace h := g10
   try dsimp only at h
   skip
   refine Swp.pop_back ?_
   exact ⟨reached11, cs13, _, rfl, (upds_sym ⟨rfl, rfl, rfl, trivial⟩), hL29, (Keep.trans K14 K30), f28, hl12, hc13, trivial⟩
 ·
  rintro _ w35 ⟨reached10, cs12, u, rfl, rfl, hL30, K31, hE38, hl18, hc28, -⟩
  replace h := g10
  try dsimp only at h
  refine Swp.seq (Swp.region rfl (Rl.op (OpY.move (v := (Value.pointer (some ⟨d_b, 0, none⟩))) rfl ?_)))
  refine Rl.op (OpY.nilCheck (b := ⟨d_b, 0, none⟩) rfl ?_)
  have f29 := (At.mono (K31 Any) (At.mono (K12 Any) (At.mono (K11 Any) (At.mono (K10 Any) d_at))))
  have f30 := (f29.part (us := [d_v]) 0 rfl)
  refine Rl.op (OpY.fieldAddr (q := 0 + 0) Tryd.underlying32 rfl ti22 rfl rfl rfl ?_)
  refine Rl.op (OpY.ldRo1 (v := d_v) Tryd.underlying22 rfl rfl vw_view f30 ?_)
  obtain ⟨r10, q63, h⟩ := bind_some h
  have f31 := ((((d_h.mono (K10 S)).mono (K11 S)).mono (K12 S)).mono (K31 S))
  refine Rl.op (OpY.call en56 rfl rfl (cloneBool_w N d.Accept d_v _ Any (f31.mono vw_any) r10 q63) ?_)
  rintro _ w36 hE39 ⟨ob15, cap15, cs24, sp15, rfl, hN10, hE40, hc29, -⟩
  replace hE40 := hE40.mono (Hv.freshO (S := None) hL30 [ob15])
  have hp14 := hL30.adoptL hE39 hN10
  have hL31 := hp14.1
  have K32 := ks w hp14.2
  refine Rl.op (OpY.alloc (cs := [(Value.slice none 0 0)]) ti22 rfl hL31 ?_)
  intro b16 w37 hL32 hS18
  have K33 := ks w hS18
  refine Rl.op0 (OpY.store (vs := [(osv ob15 0 (List.length r10) cap15)]) ti22 rfl rfl (one_cells (osv_one ob15 0 (List.length r10) cap15)) rfl (ones_cons (osv_one ob15 0 (List.length r10) cap15) ones_nil) hL32 0 rfl rfl (Nat.le_of_ble_eq_true rfl) ?_)
  intro w38 (hL33 : Go.X.Loc [] [] w w38 [some b16, ob15, some b9] [Cont.cells [(osv ob15 0 (List.length r10) cap15)], Cont.cells ([] ++ (cs24 ++ sp15)), Cont.cells ([] ++ (cs12 ++ []))]) hS19
  have K34 := ks w hS19
  refine Rl.nil (Swp.seq (Swp.seq (Swp.region rfl (Rl.op (OpY.assign (v := (Value.bool true)) rfl ?_)))))
  refine Rl.nil ?_
  obtain ⟨s13, hl19, g13⟩ := bind_some h
  refine Swp.join (fun e w' => ∃ (live10 : (List Bool)) (cs25 : List Value) (u : Env), live10 = s13 ∧ e = upds [(3, (Value.int .i64 (List.length d.Accept : Int))), (4, (osv (some b9) 0 (List.length x3) m2)), (8, (Value.pointer (some ⟨b16, 0, none⟩)))] u ∧ Go.X.Loc [] [] w w' [some b9, some b16, ob15] [Cont.cells ([] ++ (cs12 ++ [])), Cont.cells [(osv ob15 0 (List.length r10) cap15)], Cont.cells ([] ++ (cs25 ++ sp15))] ∧ Keep w.heap.size [some b16, ob15, some b9] w38 [some b9, some b16, ob15] w' ∧ Els rBool (Hv w.heap.size None [some b9, some b16, ob15] w') cs25 live10 ∧ (List.length r10) = List.length live10 ∧ (cs25 ++ sp15).length = cap15 * rBool.sz ∧ True) ?_ ?_
  ·
   refine Swp.block ?_
   have hp15 := hL33.pick [2, 0, 1] rfl rfl rfl
   have hL34 : Go.X.Loc [] [] w w38 [some b9, some b16, ob15] [Cont.cells ([] ++ (cs12 ++ [])), Cont.cells [(osv ob15 0 (List.length r10) cap15)], Cont.cells ([] ++ (cs24 ++ sp15))] := hp15.1
   have K35 := ks w hp15.2
   have f32 := (((hE40.mono (K33 None)).mono (K34 None)).mono (K35 None))
   refine Swp.loopM hl19 (fun (ss : ((List Bool) × Bool)) (e : Env) (w' : World) => match ss with | (live11, changed10) => ∃ (cs26 : List Value) (u : Env), e = upds [(0, (Value.pointer (some ⟨d_b, 0, none⟩))), (3, (Value.int .i64 (List.length d.Accept : Int))), (4, (osv (some b9) 0 (List.length x3) m2)), (8, (Value.pointer (some ⟨b16, 0, none⟩))), (9, (Value.bool changed10))] u ∧ Go.X.Loc [] [] w w' [some b9, some b16, ob15] [Cont.cells ([] ++ (cs12 ++ [])), Cont.cells [(osv ob15 0 (List.length r10) cap15)], Cont.cells ([] ++ (cs26 ++ sp15))] ∧ Keep w.heap.size [some b16, ob15, some b9] w38 [some b9, some b16, ob15] w' ∧ Els rBool (Hv w.heap.size None [some b9, some b16, ob15] w') cs26 live11 ∧ (List.length r10) = List.length live11 ∧ (cs26 ++ sp15).length = cap15 * rBool.sz ∧ True) ⟨cs24, _, (upds_sym ⟨rfl, rfl, rfl, rfl, rfl, trivial⟩), hL34, K35, f32, rfl, hc29, trivial⟩ ?_
   rintro ⟨live11, changed10⟩ oo _ w39 ⟨cs26, u, rfl, hL35, K36, hE41, hl20, hc30, -⟩ h hd12
   rw [aUseful_b3] at h
   refine Swp.seq (Swp.seq (Swp.region rfl (Rl.op (OpY.move (v := (Value.bool changed10)) rfl ?_))))
   refine Rl.nil ?_
   refine Swp.cond_b changed10 rfl (fun hc31 => ?_) (fun hc31 => ?_)
   ·
    replace h := ite_t hc31 h
    refine Swp.skip (Swp.block (Swp.seq (Swp.region rfl (Rl.op (OpY.assign (v := (Value.bool false)) rfl ?_)))))
    refine Rl.nil (Swp.seq (Swp.region rfl (Rl.op (OpY.move (v := (Value.int .i64 (List.length d.Accept : Int))) rfl ?_))))
    refine Rl.op (OpY.move (v := (Value.int .i64 0)) rfl ?_)
    refine Rl.nil ?_
    obtain ⟨s14, hl21, g14⟩ := bind_some h
    refine Swp.join (fun e w' => ∃ (live12 : (List Bool)) (changed11 : Bool) (cs27 : List Value) (u : Env), (live12, changed11) = s14 ∧ e = upds [(0, (Value.pointer (some ⟨d_b, 0, none⟩))), (3, (Value.int .i64 (List.length d.Accept : Int))), (4, (osv (some b9) 0 (List.length x3) m2)), (8, (Value.pointer (some ⟨b16, 0, none⟩))), (9, (Value.bool changed11))] u ∧ Go.X.Loc [] [] w w' [some b9, some b16, ob15] [Cont.cells ([] ++ (cs12 ++ [])), Cont.cells [(osv ob15 0 (List.length r10) cap15)], Cont.cells ([] ++ (cs27 ++ sp15))] ∧ Keep w.heap.size [some b9, some b16, ob15] w39 [some b9, some b16, ob15] w' ∧ Els rBool (Hv w.heap.size None [some b9, some b16, ob15] w') cs27 live12 ∧ (List.length r10) = List.length live12 ∧ (cs27 ++ sp15).length = cap15 * rBool.sz ∧ True) ?_ ?_
    ·
     refine Swp.block ?_
     refine Swp.loopM hl21 (fun (ss : ((List Bool) × Bool × Int)) (e : Env) (w' : World) => match ss with | (live13, changed12, x21) => ∃ (cs28 : List Value) (u : Env), e = upds [(0, (Value.pointer (some ⟨d_b, 0, none⟩))), (3, (Value.int .i64 (List.length d.Accept : Int))), (4, (osv (some b9) 0 (List.length x3) m2)), (8, (Value.pointer (some ⟨b16, 0, none⟩))), (9, (Value.bool changed12)), (63, (Value.int .i64 (List.length d.Accept : Int))), (64, (Value.int .i64 x21))] u ∧ Go.X.Loc [] [] w w' [some b9, some b16, ob15] [Cont.cells ([] ++ (cs12 ++ [])), Cont.cells [(osv ob15 0 (List.length r10) cap15)], Cont.cells ([] ++ (cs28 ++ sp15))] ∧ Keep w.heap.size [some b9, some b16, ob15] w39 [some b9, some b16, ob15] w' ∧ Els rBool (Hv w.heap.size None [some b9, some b16, ob15] w') cs28 live13 ∧ (List.length r10) = List.length live13 ∧ (cs28 ++ sp15).length = cap15 * rBool.sz ∧ True) ⟨cs26, _, (upds_sym ⟨rfl, rfl, rfl, rfl, rfl, rfl, rfl, trivial⟩), hL35, Keep.refl, hE41, hl20, hc30, trivial⟩ ?_
     rintro ⟨live13, changed12, x21⟩ oo _ w40 ⟨cs28, u, rfl, hL36, K37, hE42, hl22, hc32, -⟩ h hd13
     rw [aUseful_b4] at h
     refine Swp.seq (Swp.region rfl (Rl.op (OpY.lss (x := x21) (y := (List.length d.Accept : Int)) ((x21 : Int) < (List.length d.Accept : Int)) rfl rfl Iff.rfl ?_)))
     refine Rl.nil (Swp.seq ?_)
     refine Swp.cond_d ((x21 : Int) < (List.length d.Accept : Int)) rfl (fun hc33 => ?_) (fun hc33 => ?_)
     ·
      replace h := ite_t hc33 h
      refine Swp.skip (Swp.seq (Swp.block (Swp.seq (Swp.region rfl (Rl.op (OpY.move (v := (Value.int .i64 x21)) rfl ?_))))))
      refine Rl.op (OpY.assign (v := (Value.int .i64 x21)) rfl ?_)
      refine Rl.nil (Swp.seq ?_)
      obtain ⟨s15, h, g15⟩ := bind_some h
      refine Swp.join (fun e w' => ∃ (x22 : Bool) (u : Env), x22 = s15 ∧ e = upds [(0, (Value.pointer (some ⟨d_b, 0, none⟩))), (3, (Value.int .i64 (List.length d.Accept : Int))), (4, (osv (some b9) 0 (List.length x3) m2)), (8, (Value.pointer (some ⟨b16, 0, none⟩))), (9, (Value.bool changed12)), (10, (Value.int .i64 x21)), (63, (Value.int .i64 (List.length d.Accept : Int))), (64, (Value.int .i64 x21)), (82, (Value.bool x22))] u ∧ Go.X.Loc [] [] w w' [some b9, some b16, ob15] [Cont.cells ([] ++ (cs12 ++ [])), Cont.cells [(osv ob15 0 (List.length r10) cap15)], Cont.cells ([] ++ (cs28 ++ sp15))] ∧ Keep w.heap.size [some b9, some b16, ob15] w40 [some b9, some b16, ob15] w' ∧ True) ?_ ?_
      ·
       refine Swp.region rfl (Rl.op (OpY.ldBox1 (v := (osv ob15 0 (List.length r10) cap15)) Tryd.underlying22 rfl rfl (hL36.at 1 rfl rfl) rfl ?_))
       refine Rl.op (OpY.move (v := (Value.int .i64 x21)) rfl ?_)
       obtain ⟨x23, q64, h⟩ := bind_some h
       obtain ⟨n19, q65, q66⟩ := idx_some q64
       have q67 := (List.getElem?_eq_some_iff.1 q66).1
       obtain ⟨b17, hb11⟩ := hL36.row_some 2 rfl rfl (row_pos (pre := []) hE42 q66 (Nat.lt_of_sub_eq_succ rfl))
       refine Rl.op (OpY.ixRowD (r := rBool) (b := b17) (o := 0) (n := n19) (m := (List.length r10)) (xs := live13) (q := (0 + n19 * rBool.sz)) Tryd.underlying22 ti4 (osv_some hb11) hl22 rfl q65 q67 rfl ?_)
       obtain ⟨vs14, q68, q69, q70⟩ := row_elem (pre := []) (sp := sp15) hE42 q66
       obtain rfl := q69
       refine Rl.op (OpY.ldElem1 (v := (Value.bool x23)) Tryd.underlying4 rfl rfl (own_some hb11 (hL36.at 2 rfl rfl)) q70 ?_)
       refine Rl.op (OpY.not (x := x23) rfl ?_)
       refine Rl.op (OpY.move (v := (Value.bool (!x23))) rfl ?_)
       by_cases hc34 : (!x23) = true
       ·
        replace h := ite_t hc34 h
        refine Rl.yes rfl rfl hc34 (OpY.move (v := (Value.pointer (some ⟨d_b, 0, none⟩))) rfl ?_)
        refine Rl.yes rfl rfl hc34 (OpY.nilCheck (b := ⟨d_b, 0, none⟩) rfl ?_)
        have f33 := (At.mono (K37 Any) (At.mono (K36 Any) (At.mono (K34 Any) (At.mono (K33 Any) (At.mono (K32 Any) f29)))))
        have f34 := (f33.part (us := [d_v1]) 1 rfl)
        refine Rl.yes rfl rfl hc34 (OpY.fieldAddr (q := 0 + 1) Tryd.underlying32 rfl ti30 rfl rfl rfl ?_)
        refine Rl.yes rfl rfl hc34 (OpY.ldRo1 (v := d_v1) Tryd.underlying30 rfl rfl vw_view f34 ?_)
        refine Rl.yes rfl rfl hc34 (OpY.move (v := (Value.int .i64 x21)) rfl ?_)
        obtain ⟨x24, q71, h⟩ := bind_some h
        obtain ⟨n20, q72, q73⟩ := idx_some q71
        have f35 := (((((((((d_h1.mono (K10 S)).mono (K11 S)).mono (K12 S)).mono (K31 S)).mono (K32 S)).mono (K33 S)).mono (K34 S)).mono (K36 S)).mono (K37 S))
        obtain ⟨b18, o12, c12, vs15, q74, q75, f36, q76⟩ := Rs.get f35 q73
        obtain ⟨v17, rfl, k11⟩ := q76
        refine Rl.yes rfl rfl hc34 (OpY.ixRoD (r := (rSl rAEdge)) (v := d_v1) (n := n20) (m := (o12 + n20 * (rSl rAEdge).sz)) Tryd.underlying30 ti58 rfl q74 rfl q72 q73 rfl ?_)
        refine Rl.yes rfl rfl hc34 (OpY.ldRo1 (v := v17) Tryd.underlying58 rfl rfl vw_view f36 ?_)
        refine Rl.yes rfl rfl hc34 (OpY.makeFunc (vs := [(Value.pointer (some ⟨b16, 0, none⟩))]) rfl ?_)
        obtain ⟨r11, q77, h⟩ := bind_some h
        refine Rl.yes rfl rfl hc34 (OpY.call en36 rfl rfl (containsEdge_w N x24 (fun y10 => aUseful1 N y10 live13) v17 (Value.func (.func 57) #[] #[(Value.pointer (some ⟨b16, 0, none⟩))]) _ Any (k11.mono vw_any) (fun w9 hE9 y11 z9 hz9 => ⟨57, [(Value.pointer (some ⟨b16, 0, none⟩))], rfl, en57, (aUseful1_w N y11 live13 b16 (osv ob15 0 (List.length r10) cap15) _ Any (own_any ((hL36.at 1 rfl rfl).ext hE9)) ((own_row_any (pre := []) (o := 0) (n := (List.length r10)) (cap := cap15) (hL36.at 2 rfl rfl) hE42 vw_any rfl rfl hl22 hc32).mono (any_ext hE9)) z9 hz9)⟩) r11 q77) ?_)
        rintro _ w41 hE43 ⟨rfl, -⟩
        have hL37 := hL36.ext hE43
        have K38 := ke hL36 hE43
        refine Rl.op (OpY.pick_t (t := (!x23)) (v := (Value.bool r11)) rfl hc34 rfl ?_)
        refine Rl.nil ?_
        obtain rfl := Option.some.inj h
        refine Swp.pop_back ?_
        exact ⟨r11, _, rfl, (upds_sym ⟨rfl, rfl, rfl, rfl, rfl, rfl, rfl, rfl, rfl, trivial⟩), hL37, K38, trivial⟩
       ·
        replace h := ite_f hc34 h
        refine Rl.no rfl rfl (eq_false_of_ne_true hc34) ?_
        refine Rl.no rfl rfl (eq_false_of_ne_true hc34) ?_
        refine Rl.no rfl rfl (eq_false_of_ne_true hc34) ?_
        refine Rl.no rfl rfl (eq_false_of_ne_true hc34) ?_
        refine Rl.no rfl rfl (eq_false_of_ne_true hc34) ?_
        refine Rl.no rfl rfl (eq_false_of_ne_true hc34) ?_
        refine Rl.no rfl rfl (eq_false_of_ne_true hc34) ?_
        refine Rl.no rfl rfl (eq_false_of_ne_true hc34) ?_
        refine Rl.no rfl rfl (eq_false_of_ne_true hc34) ?_
        refine Rl.op (OpY.pick_f (t := (!x23)) (v := (Value.bool false)) rfl (eq_false_of_ne_true hc34) rfl ?_)
        refine Rl.nil ?_
        obtain rfl := Option.some.inj h
        refine Swp.pop_back ?_
        exact ⟨false, _, rfl, (upds_sym ⟨rfl, rfl, rfl, rfl, rfl, rfl, rfl, rfl, rfl, trivial⟩), hL36, Keep.refl, trivial⟩
      ·
       rintro _ w42 ⟨x22, u, rfl, rfl, hL38, K39, -⟩
       replace h := g15
       try dsimp only at h
       refine Swp.cond_b x22 rfl (fun hc35 => ?_) (fun hc35 => ?_)
       ·
        replace h := ite_t hc35 h
        refine Swp.region rfl (Rl.op (OpY.ldBox1 (v := (osv ob15 0 (List.length r10) cap15)) Tryd.underlying22 rfl rfl (hL38.at 1 rfl rfl) rfl ?_))
        refine Rl.op (OpY.move (v := (Value.int .i64 x21)) rfl ?_)
        obtain ⟨x25, q78, h⟩ := bind_some h
        obtain ⟨n21, q79, q80⟩ := idx_some q78
        have q81 := (List.getElem?_eq_some_iff.1 q80).1
        have f37 := (hE42.mono (K39 None))
        obtain ⟨b19, hb12⟩ := hL38.row_some 2 rfl rfl (row_pos (pre := []) f37 q80 (Nat.lt_of_sub_eq_succ rfl))
        refine Rl.op (OpY.ixRowD (r := rBool) (b := b19) (o := 0) (n := n21) (m := (List.length r10)) (xs := live13) (q := (0 + n21 * rBool.sz)) Tryd.underlying22 ti4 (osv_some hb12) hl22 rfl q79 q81 rfl ?_)
        obtain ⟨x26, q82, h⟩ := bind_some h
        obtain ⟨n22, q83, q84, q85⟩ := upd1_some q82
        obtain rfl := Int.ofNat_inj.1 (q79.symm.trans q83)
        refine Rl.op0 (OpY.stRowX (pre := []) (r := rBool) (vs := [(Value.bool true)]) (a := true) ti4 rfl rfl rfl rfl hL38 2 (congrArg some hb12) rfl f37 q81 rfl q85 ?_)
        have hl23 : (List.length r10) = List.length x26 := by rw [q85, List.length_set]; exact hl22
        intro w43 cs29 (hL39 : Go.X.Loc [] [] w w43 [some b9, some b16, ob15] [Cont.cells ([] ++ (cs12 ++ [])), Cont.cells [(osv ob15 0 (List.length r10) cap15)], Cont.cells ([] ++ (cs29 ++ sp15))]) hS20 hE44 q86
        have hc36 : (cs29 ++ sp15).length = cap15 * rBool.sz := by have := hc32; rw [List.length_append] at this ⊢; rw [q86]; exact this
        have K40 := ks w hS20
        refine Rl.op (OpY.assign (v := (Value.bool true)) rfl ?_)
        refine Rl.nil (Swp.pop_blk (Swp.region rfl (Rl.op (OpY.add (x := x21) (y := 1) (z := (iw (x21 + 1))) rfl rfl rfl ?_))))
        refine Rl.op (OpY.move (v := (Value.int .i64 (iw (x21 + 1)))) rfl ?_)
        refine Rl.nil ?_
        have f38 := (hE44.mono (K40 None))
        obtain rfl := Option.some.inj h
        refine Swp.pop_back ⟨(x26, true, (iw (x21 + 1))), rfl, ?_⟩
        exact ⟨cs29, _, (upds_sym ⟨rfl, rfl, rfl, rfl, rfl, rfl, rfl, trivial⟩), hL39, (Keep.trans (Keep.trans K37 K39) K40), f38, hl23, hc36, trivial⟩
       ·
        replace h := ite_f hc35 h
        refine Swp.skip (Swp.pop_blk (Swp.region rfl (Rl.op (OpY.add (x := x21) (y := 1) (z := (iw (x21 + 1))) rfl rfl rfl ?_))))
        refine Rl.op (OpY.move (v := (Value.int .i64 (iw (x21 + 1)))) rfl ?_)
        refine Rl.nil ?_
        have f39 := (hE42.mono (K39 None))
        obtain rfl := Option.some.inj h
        refine Swp.pop_back ⟨(live13, changed12, (iw (x21 + 1))), rfl, ?_⟩
        exact ⟨cs28, _, (upds_sym ⟨rfl, rfl, rfl, rfl, rfl, rfl, rfl, trivial⟩), hL38, (Keep.trans K37 K39), f39, hl22, hc32, trivial⟩
     ·
      replace h := ite_f hc33 h
      refine Swp.exit rfl ?_
      obtain rfl := Option.some.inj h
      obtain rfl := hd13 _ rfl
      replace h := g14
      try dsimp only at h
      skip
      refine Swp.pop_back ?_
      exact ⟨live13, changed12, cs28, _, rfl, (upds_sym ⟨rfl, rfl, rfl, rfl, rfl, trivial⟩), hL36, K37, hE42, hl22, hc32, trivial⟩
    ·
     rintro _ w44 ⟨live12, changed11, cs27, u, rfl, rfl, hL40, K41, hE45, hl24, hc37, -⟩
     replace h := g14
     try dsimp only at h
     refine Swp.pop_blk ?_
     obtain rfl := Option.some.inj h
     refine Swp.pop_back ⟨(live12, changed11), rfl, ?_⟩
     exact ⟨cs27, _, (upds_sym ⟨rfl, rfl, rfl, rfl, rfl, trivial⟩), hL40, (Keep.trans K36 K41), hE45, hl24, hc37, trivial⟩
   ·
    replace h := ite_f hc31 h
    refine Swp.exit rfl ?_
    obtain rfl := Option.some.inj h
    obtain rfl := hd12 _ rfl
    replace h := g13
    try dsimp only at h
    skip
    refine Swp.pop_back ?_
    exact ⟨live11, cs26, _, rfl, (upds_sym ⟨rfl, rfl, rfl, trivial⟩), hL35, K36, hE41, hl20, hc30, trivial⟩
  ·
   rintro _ w45 ⟨live10, cs25, u, rfl, rfl, hL41, K42, hE46, hl25, hc38, -⟩
   replace h := g13
   try dsimp only at h
   refine Swp.seq (Swp.seq (Swp.region rfl (Rl.op (OpY.move (v := (Value.int .i64 (List.length d.Accept : Int))) rfl ?_))))
   refine Rl.op (OpY.move (v := (Value.int .i64 0)) rfl ?_)
   refine Rl.nil ?_
   obtain ⟨s16, hl26, g16⟩ := bind_some h
   refine Swp.join (fun e w' => ∃ (reached15 : (List Bool)) (cs30 : List Value) (u : Env), reached15 = s16 ∧ e = upds [(4, (osv (some b9) 0 (List.length x3) m2))] u ∧ Go.X.Loc [] [] w w' [some b9] [Cont.cells ([] ++ (cs30 ++ []))] ∧ Keep w.heap.size [some b9, some b16, ob15] w45 [some b9] w' ∧ Els rBool (Hv w.heap.size None [some b9] w') cs30 reached15 ∧ (List.length x3) = List.length reached15 ∧ (cs30 ++ []).length = m2 * rBool.sz ∧ True) ?_ ?_
   ·
    refine Swp.block ?_
    have f40 := ((((hE38.mono (K32 None)).mono (K33 None)).mono (K34 None)).mono (K42 None))
    refine Swp.loopM hl26 (fun (ss : ((List Bool) × Int)) (e : Env) (w' : World) => match ss with | (reached16, x27) => ∃ (cs31 : List Value) (u : Env), e = upds [(4, (osv (some b9) 0 (List.length x3) m2)), (8, (Value.pointer (some ⟨b16, 0, none⟩))), (87, (Value.int .i64 (List.length d.Accept : Int))), (88, (Value.int .i64 x27))] u ∧ Go.X.Loc [] [] w w' [some b9, some b16, ob15] [Cont.cells ([] ++ (cs31 ++ [])), Cont.cells [(osv ob15 0 (List.length r10) cap15)], Cont.cells ([] ++ (cs25 ++ sp15))] ∧ Keep w.heap.size [some b9, some b16, ob15] w45 [some b9, some b16, ob15] w' ∧ Els rBool (Hv w.heap.size None [some b9, some b16, ob15] w') cs31 reached16 ∧ (List.length x3) = List.length reached16 ∧ (cs31 ++ []).length = m2 * rBool.sz ∧ True) ⟨cs12, _, (upds_sym ⟨rfl, rfl, rfl, rfl, trivial⟩), hL41, Keep.refl, f40, hl18, hc28, trivial⟩ ?_
    rintro ⟨reached16, x27⟩ oo _ w46 ⟨cs31, u, rfl, hL42, K43, hE47, hl27, hc39, -⟩ h hd14
    rw [aUseful_b5] at h
    refine Swp.seq (Swp.region rfl (Rl.op (OpY.lss (x := x27) (y := (List.length d.Accept : Int)) ((x27 : Int) < (List.length d.Accept : Int)) rfl rfl Iff.rfl ?_)))
    refine Rl.nil (Swp.seq ?_)
    refine Swp.cond_d ((x27 : Int) < (List.length d.Accept : Int)) rfl (fun hc40 => ?_) (fun hc40 => ?_)
    ·
     replace h := ite_t hc40 h
     refine Swp.skip (Swp.seq (Swp.block (Swp.seq (Swp.region rfl (Rl.op (OpY.move (v := (Value.int .i64 x27)) rfl ?_))))))
     refine Rl.op (OpY.assign (v := (Value.int .i64 x27)) rfl ?_)
     refine Rl.nil (Swp.region rfl (Rl.op (OpY.move (v := (osv (some b9) 0 (List.length x3) m2)) rfl ?_)))
     refine Rl.op (OpY.move (v := (Value.int .i64 x27)) rfl ?_)
     refine Rl.op (OpY.move (v := (osv (some b9) 0 (List.length x3) m2)) rfl ?_)
     refine Rl.op (OpY.move (v := (Value.int .i64 x27)) rfl ?_)
     obtain ⟨x28, q87, h⟩ := bind_some h
     obtain ⟨n23, q88, q89⟩ := idx_some q87
     have q90 := (List.getElem?_eq_some_iff.1 q89).1
     refine Rl.op (OpY.ixRowD (r := rBool) (b := b9) (o := 0) (n := n23) (m := (List.length x3)) (xs := reached16) (q := (0 + n23 * rBool.sz)) Tryd.underlying22 ti4 rfl hl27 rfl q88 q90 rfl ?_)
     obtain ⟨vs16, q91, q92, q93⟩ := row_elem (pre := []) (sp := []) hE47 q89
     obtain rfl := q92
     refine Rl.op (OpY.ldElem1 (v := (Value.bool x28)) Tryd.underlying4 rfl rfl (hL42.at 0 rfl rfl) q93 ?_)
     refine Rl.op (OpY.move (v := (Value.bool x28)) rfl ?_)
     by_cases hc41 : x28 = true
     ·
      replace h := ite_t hc41 h
      refine Rl.yes rfl rfl hc41 (OpY.ldBox1 (v := (osv ob15 0 (List.length r10) cap15)) Tryd.underlying22 rfl rfl (hL42.at 1 rfl rfl) rfl ?_)
      refine Rl.yes rfl rfl hc41 (OpY.move (v := (Value.int .i64 x27)) rfl ?_)
      obtain ⟨x29, q94, h⟩ := bind_some h
      obtain ⟨n24, q95, q96⟩ := idx_some q94
      have q97 := (List.getElem?_eq_some_iff.1 q96).1
      have f41 := (hE46.mono (K43 None))
      obtain ⟨b20, hb13⟩ := hL42.row_some 2 rfl rfl (row_pos (pre := []) f41 q96 (Nat.lt_of_sub_eq_succ rfl))
      refine Rl.yes rfl rfl hc41 (OpY.ixRowD (r := rBool) (b := b20) (o := 0) (n := n24) (m := (List.length r10)) (xs := live10) (q := (0 + n24 * rBool.sz)) Tryd.underlying22 ti4 (osv_some hb13) hl25 rfl q95 q97 rfl ?_)
      obtain ⟨vs17, q98, q99, q100⟩ := row_elem (pre := []) (sp := sp15) f41 q96
      obtain rfl := q99
      refine Rl.yes rfl rfl hc41 (OpY.ldElem1 (v := (Value.bool x29)) Tryd.underlying4 rfl rfl (own_some hb13 (hL42.at 2 rfl rfl)) q100 ?_)
      refine Rl.op (OpY.pick_t (t := x28) (v := (Value.bool x29)) rfl hc41 rfl ?_)
      obtain ⟨x30, q101, h⟩ := bind_some h
      obtain ⟨n25, q102, q103⟩ := idx_some q101
      have q104 := (List.getElem?_eq_some_iff.1 q103).1
      refine Rl.op (OpY.ixRowD (r := rBool) (b := b9) (o := 0) (n := n25) (m := (List.length x3)) (xs := reached16) (q := (0 + n25 * rBool.sz)) Tryd.underlying22 ti4 rfl hl27 rfl q102 q104 rfl ?_)
      obtain ⟨x31, q105, h⟩ := bind_some h
      obtain ⟨n26, q106, q107, q108⟩ := upd1_some q105
      obtain rfl := Int.ofNat_inj.1 (q102.symm.trans q106)
      refine Rl.op0 (OpY.stRowX (pre := []) (r := rBool) (vs := [(Value.bool x29)]) (a := x29) ti4 rfl rfl rfl rfl hL42 0 rfl rfl hE47 q104 rfl q108 ?_)
      have hl28 : (List.length x3) = List.length x31 := by rw [q108, List.length_set]; exact hl27
      intro w47 cs32 (hL43 : Go.X.Loc [] [] w w47 [some b9, some b16, ob15] [Cont.cells ([] ++ (cs32 ++ [])), Cont.cells [(osv ob15 0 (List.length r10) cap15)], Cont.cells ([] ++ (cs25 ++ sp15))]) hS21 hE48 q109
      have hc42 : (cs32 ++ []).length = m2 * rBool.sz := by have := hc39; rw [List.length_append] at this ⊢; rw [q109]; exact this
      have K44 := ks w hS21
      refine Rl.nil (Swp.pop_blk (Swp.region rfl (Rl.op (OpY.add (x := x27) (y := 1) (z := (iw (x27 + 1))) rfl rfl rfl ?_))))
      refine Rl.op (OpY.move (v := (Value.int .i64 (iw (x27 + 1)))) rfl ?_)
      refine Rl.nil ?_
      have f42 := (hE48.mono (K44 None))
      obtain rfl := Option.some.inj h
      refine Swp.pop_back ⟨(x31, (iw (x27 + 1))), rfl, ?_⟩
      exact ⟨cs32, _, (upds_sym ⟨rfl, rfl, rfl, rfl, trivial⟩), hL43, (Keep.trans K43 K44), f42, hl28, hc42, trivial⟩
     ·
      replace h := ite_f hc41 h
      refine Rl.no rfl rfl (eq_false_of_ne_true hc41) ?_
      refine Rl.no rfl rfl (eq_false_of_ne_true hc41) ?_
      refine Rl.no rfl rfl (eq_false_of_ne_true hc41) ?_
      refine Rl.no rfl rfl (eq_false_of_ne_true hc41) ?_
      refine Rl.op (OpY.pick_f (t := x28) (v := (Value.bool false)) rfl (eq_false_of_ne_true hc41) rfl ?_)
      obtain ⟨x32, q110, h⟩ := bind_some h
      obtain ⟨n27, q111, q112⟩ := idx_some q110
      have q113 := (List.getElem?_eq_some_iff.1 q112).1
      refine Rl.op (OpY.ixRowD (r := rBool) (b := b9) (o := 0) (n := n27) (m := (List.length x3)) (xs := reached16) (q := (0 + n27 * rBool.sz)) Tryd.underlying22 ti4 rfl hl27 rfl q111 q113 rfl ?_)
      obtain ⟨x33, q114, h⟩ := bind_some h
      obtain ⟨n28, q115, q116, q117⟩ := upd1_some q114
      obtain rfl := Int.ofNat_inj.1 (q111.symm.trans q115)
      refine Rl.op0 (OpY.stRowX (pre := []) (r := rBool) (vs := [(Value.bool false)]) (a := false) ti4 rfl rfl rfl rfl hL42 0 rfl rfl hE47 q113 rfl q117 ?_)
      have hl29 : (List.length x3) = List.length x33 := by rw [q117, List.length_set]; exact hl27
      intro w48 cs33 (hL44 : Go.X.Loc [] [] w w48 [some b9, some b16, ob15] [Cont.cells ([] ++ (cs33 ++ [])), Cont.cells [(osv ob15 0 (List.length r10) cap15)], Cont.cells ([] ++ (cs25 ++ sp15))]) hS22 hE49 q118
      have hc43 : (cs33 ++ []).length = m2 * rBool.sz := by have := hc39; rw [List.length_append] at this ⊢; rw [q118]; exact this
      have K45 := ks w hS22
      refine Rl.nil (Swp.pop_blk (Swp.region rfl (Rl.op (OpY.add (x := x27) (y := 1) (z := (iw (x27 + 1))) rfl rfl rfl ?_))))
      refine Rl.op (OpY.move (v := (Value.int .i64 (iw (x27 + 1)))) rfl ?_)
      refine Rl.nil ?_
      have f43 := (hE49.mono (K45 None))
      obtain rfl := Option.some.inj h
      refine Swp.pop_back ⟨(x33, (iw (x27 + 1))), rfl, ?_⟩
      exact ⟨cs33, _, (upds_sym ⟨rfl, rfl, rfl, rfl, trivial⟩), hL44, (Keep.trans K43 K45), f43, hl29, hc43, trivial⟩
    ·
     replace h := ite_f hc40 h
     refine Swp.exit rfl ?_
     have hp16 := hL42.pick [0] rfl rfl rfl
     have hL45 : Go.X.Loc [] [] w w46 [some b9] [Cont.cells ([] ++ (cs31 ++ []))] := hp16.1
     have K46 := ks w hp16.2
     have f44 := (hE47.mono (K46 None))
     obtain rfl := Option.some.inj h
     obtain rfl := hd14 _ rfl
     replace h := g16
     try dsimp only at h
     skip
     refine Swp.pop_back ?_
     exact ⟨reached16, cs31, _, rfl, (upds_sym ⟨rfl, trivial⟩), hL45, (Keep.trans K43 K46), f44, hl27, hc39, trivial⟩
   ·
    rintro _ w49 ⟨reached15, cs30, u, rfl, rfl, hL46, K47, hE50, hl30, hc44, -⟩
    replace h := g16
    try dsimp only at h
    refine Swp.seq (Swp.region rfl (Rl.op (OpY.move (v := (osv (some b9) 0 (List.length x3) m2)) rfl ?_)))
    refine Rl.op (OpY.assign (v := (osv (some b9) 0 (List.length x3) m2)) rfl ?_)
    refine Rl.nil (Swp.ret ?_)
    obtain rfl := Option.some.inj h
    refine ⟨[(osv (some b9) 0 (List.length x3) m2)], ⟨rfl, trivial⟩, ⟨_, rfl, hL46.done, ?_⟩⟩
    exact ⟨some b9, m2, cs30, [], (by rw [← hl30]; rfl), (hL46.newOwn [0] rfl rfl rfl), (hE50.mono (Hv.pick [0] rfl)), hc44, trivial⟩
theorem aClass_w (N : Nat) (classes : (List Int)) (state : Int) (classes_v : Value) (w : World) (S : Nat → Prop) (classes_h : Rs (rInt .i64) (Hv w.heap.size S [] w) classes_v classes) (r : Int) (h : aClass N classes state = some r) :
  Calls Tryd.prog 46 #[classes_v, (Value.int .i64 state)] w (Ret w (fun v w' => (Value.int .i64 r) = v ∧ True)) := by
 unfold aClass at h
 have hL : Go.X.Loc [] [] w w [] [] := Go.X.Loc.begin0 w
 refine calls_of (l := [classes_v, (Value.int .i64 state)]) (rl := [.tmp 4]) (n := 11) Tryd.func46 rfl rfl rfl (Nat.le_of_ble_eq_true rfl) ?_
 refine Swp.seq (Swp.region rfl (Rl.op (OpY.assign (v := (Value.int .i64 0)) rfl ?_)))
 refine Rl.nil (Swp.seq (Swp.seq (Swp.region rfl (Rl.op (OpY.move (v := (Value.int .i64 state)) rfl ?_)))))
 refine Rl.op (OpY.eql (x := state) (y := (-1)) ((state : Int) = (-1)) rfl rfl Iff.rfl ?_)
 refine Rl.nil ?_
 refine Swp.cond_d ((state : Int) = (-1)) rfl (fun hc1 => ?_) (fun hc1 => ?_)
 ·
  replace h := ite_t hc1 h
  refine Swp.seq (Swp.region rfl (Rl.op (OpY.assign (v := (Value.int .i64 (-1))) rfl ?_)))
  refine Rl.nil (Swp.ret ?_)
  obtain rfl := Option.some.inj h
  refine ⟨[(Value.int .i64 (-1))], ⟨rfl, trivial⟩, ⟨_, rfl, hL.done, ?_⟩⟩
  exact ⟨rfl, trivial⟩
 ·
  replace h := ite_f hc1 h
  refine Swp.skip (Swp.seq (Swp.region rfl (Rl.op (OpY.move (v := classes_v) rfl ?_))))
  refine Rl.op (OpY.move (v := (Value.int .i64 state)) rfl ?_)
  obtain ⟨x2, q3, h⟩ := bind_some h
  obtain ⟨n4, q5, q6⟩ := idx_some q3
  obtain ⟨b7, o8, c9, vs10, q10, q11, f10, q12⟩ := Rs.get classes_h q6
  obtain rfl := q12
  refine Rl.op (OpY.ixRoD (r := (rInt .i64)) (v := classes_v) (n := n4) (m := (o8 + n4 * (rInt .i64).sz)) Tryd.underlying78 ti3 rfl q10 rfl q5 q6 rfl ?_)
  refine Rl.op (OpY.ldRo1 (v := (Value.int .i64 x2)) Tryd.underlying3 rfl rfl vw_view f10 ?_)
  refine Rl.op (OpY.assign (v := (Value.int .i64 x2)) rfl ?_)
  refine Rl.nil (Swp.ret ?_)
  obtain rfl := Option.some.inj h
  refine ⟨[(Value.int .i64 x2)], ⟨rfl, trivial⟩, ⟨_, rfl, hL.done, ?_⟩⟩
  exact ⟨rfl, trivial⟩
theorem aRefined_w (N : Nat) (d : ADfa) (classes : (List Int)) (d_b : Nat) (d_v : Value) (d_v1 : Value) (classes_v : Value) (w : World) (S : Nat → Prop) (hG : G w) (d_at : At (Hv w.heap.size Any [] w) d_b 0 [d_v, d_v1]) (d_h : Rs rBool (Hv w.heap.size S [] w) d_v d.Accept) (d_h1 : Rs (rSl rAEdge) (Hv w.heap.size S [] w) d_v1 d.Edges) (classes_h : Rs (rInt .i64) (Hv w.heap.size S [] w) classes_v classes) (r : ((List Int) × Int)) (h : aRefined N d classes = some r) :
  Calls Tryd.prog 58 #[(Value.pointer (some ⟨d_b, 0, none⟩)), classes_v] w (Ret w (fun v w' => ∃ (ob0 : Option Nat) (cap0 : Nat) (cs0 : List Value) (sp0 : List Value), .tuple #[(osv ob0 0 (List.length r.1) cap0), (Value.int .i64 r.2)] = v ∧ NewOwn w w' [ob0] [Cont.cells ([] ++ (cs0 ++ sp0))] ∧ Els (rInt .i64) (Hv w.heap.size None [ob0] w') cs0 r.1 ∧ (cs0 ++ sp0).length = cap0 * (rInt .i64).sz ∧ True)) := by
 unfold aRefined at h
 have hL : Go.X.Loc [] [] w w [] [] := Go.X.Loc.begin0 w
 refine calls_of (l := [(Value.pointer (some ⟨d_b, 0, none⟩)), classes_v]) (rl := [.tmp 4, .tmp 5]) (n := 68) Tryd.func58 rfl rfl rfl (Nat.le_of_ble_eq_true rfl) ?_
 refine Swp.seq (Swp.region rfl (Rl.op (OpY.assign (v := (Value.slice none 0 0)) rfl ?_)))
 refine Rl.op (OpY.assign (v := (Value.int .i64 0)) rfl ?_)
 refine Rl.nil (Swp.seq (Swp.region rfl (Rl.op (OpY.makeMap (kf := (fun x : List UInt8 => Value.string (s8 x))) (vf := (fun x : Int => Value.int .i64 x)) hL ?_))))
 intro b1 w3 hL4 hS6
 have K5 := ks w hS6
 refine Rl.op (OpY.assign (v := (Value.map (some b1))) rfl ?_)
 refine Rl.nil (Swp.seq (Swp.region rfl (Rl.op (OpY.move (v := classes_v) rfl ?_))))
 have f7 := (classes_h.mono (K5 S))
 refine Rl.op (OpY.lenRo (v := classes_v) Tryd.underlying78 rfl f7 ?_)
 obtain ⟨x9, q10, h⟩ := bind_some h
 obtain ⟨m8, q11, q12, q13, q14⟩ := mk1_some q10
 refine Rl.op (OpY.mkRowX (r := (rInt .i64)) (H := (Hv w.heap.size None [some b1] w3)) (zc := [(Value.int .i64 0)]) (x := 0) Tryd.underlying78 ti3 rfl rfl rfl rfl q11 q12 q13 q14 hL4 ?_)
 intro b10 w10 cs10 hE10 hc10 hL10 hS10
 have K10 := ks w hS10
 refine Rl.op (OpY.assign (v := (osv (some b10) 0 (List.length x9) m8)) rfl ?_)
 refine Rl.nil (Swp.seq (Swp.seq (Swp.region rfl (Rl.op (OpY.move (v := classes_v) rfl ?_)))))
 have f10 := (f7.mono (K10 S))
 refine Rl.op (OpY.lenRo (v := classes_v) Tryd.underlying78 rfl f10 ?_)
 refine Rl.op (OpY.move (v := (Value.int .i64 0)) rfl ?_)
 refine Rl.nil ?_
 obtain ⟨s10, hl10, g10⟩ := bind_some h
 refine Swp.join (fun e w' => ∃ (number10 : (List ((List UInt8) × Int))) (out10 : (List Int)) (cs11 : List Value) (u : Env), (number10, out10) = s10 ∧ e = upds [(6, (Value.map (some b1))), (7, (osv (some b10) 0 (List.length x9) m8))] u ∧ Go.X.Loc [] [] w w' [some b1, some b10] [(mcont (fun x : List UInt8 => Value.string (s8 x)) (fun x : Int => Value.int .i64 x) number10), Cont.cells ([] ++ (cs11 ++ []))] ∧ Keep w.heap.size [some b10, some b1] w10 [some b1, some b10] w' ∧ Els (rInt .i64) (Hv w.heap.size None [some b1, some b10] w') cs11 out10 ∧ (List.length x9) = List.length out10 ∧ (cs11 ++ []).length = m8 * (rInt .i64).sz ∧ True) ?_ ?_
 ·
  refine Swp.block ?_
  have hp10 := hL10.pick [1, 0] rfl rfl rfl
  have hL11 : Go.X.Loc [] [] w w10 [some b1, some b10] [(mcont (fun x : List UInt8 => Value.string (s8 x)) (fun x : Int => Value.int .i64 x) ([] : (List ((List UInt8) × Int)))), Cont.cells ([] ++ (cs10 ++ []))] := hp10.1
  have K11 := ks w hp10.2
  have f11 := ((hE10.mono (K10 None)).mono (K11 None))
  refine Swp.loopM hl10 (fun (ss : ((List ((List UInt8) × Int)) × (List Int) × Int)) (e : Env) (w' : World) => match ss with | (number11, out11, x10) => ∃ (cs12 : List Value) (u : Env), e = upds [(0, (Value.pointer (some ⟨d_b, 0, none⟩))), (1, classes_v), (6, (Value.map (some b1))), (7, (osv (some b10) 0 (List.length x9) m8)), (18, classes_v), (19, (Value.int .i64 (List.length classes : Int))), (20, (Value.int .i64 x10))] u ∧ Go.X.Loc [] [] w w' [some b1, some b10] [(mcont (fun x : List UInt8 => Value.string (s8 x)) (fun x : Int => Value.int .i64 x) number11), Cont.cells ([] ++ (cs12 ++ []))] ∧ Keep w.heap.size [some b10, some b1] w10 [some b1, some b10] w' ∧ Els (rInt .i64) (Hv w.heap.size None [some b1, some b10] w') cs12 out11 ∧ (List.length x9) = List.length out11 ∧ (cs12 ++ []).length = m8 * (rInt .i64).sz ∧ True) ⟨cs10, _, (upds_sym ⟨rfl, rfl, rfl, rfl, rfl, rfl, rfl, trivial⟩), hL11, K11, f11, rfl, hc10, trivial⟩ ?_
  rintro ⟨number11, out11, x10⟩ oo _ w11 ⟨cs12, u, rfl, hL12, K12, hE11, hl11, hc11, -⟩ h hd10
  rw [aRefined_b1] at h
  refine Swp.seq (Swp.region rfl (Rl.op (OpY.lss (x := x10) (y := (List.length classes : Int)) ((x10 : Int) < (List.length classes : Int)) rfl rfl Iff.rfl ?_)))
  refine Rl.nil (Swp.seq ?_)
  refine Swp.cond_d ((x10 : Int) < (List.length classes : Int)) rfl (fun hc12 => ?_) (fun hc12 => ?_)
  ·
   replace h := ite_t hc12 h
   refine Swp.skip (Swp.seq (Swp.block (Swp.seq (Swp.region rfl (Rl.op (OpY.move (v := (Value.int .i64 x10)) rfl ?_))))))
   obtain ⟨x11, q15, h⟩ := bind_some h
   obtain ⟨n10, q16, q17⟩ := idx_some q15
   have f12 := (f10.mono (K12 S))
   obtain ⟨b11, o10, c10, vs10, q18, q19, f13, q20⟩ := Rs.get f12 q17
   obtain rfl := q20
   refine Rl.op (OpY.ixRoD (r := (rInt .i64)) (v := classes_v) (n := n10) (m := (o10 + n10 * (rInt .i64).sz)) Tryd.underlying78 ti3 rfl q18 rfl q16 q17 rfl ?_)
   refine Rl.op (OpY.ldRo1 (v := (Value.int .i64 x11)) Tryd.underlying3 rfl rfl vw_view f13 ?_)
   refine Rl.op (OpY.assign (v := (Value.int .i64 x10)) rfl ?_)
   refine Rl.op (OpY.assign (v := (Value.int .i64 x11)) rfl ?_)
   refine Rl.nil (Swp.seq (Swp.seq (Swp.region rfl (Rl.op (OpY.move (v := (Value.int .i64 x11)) rfl ?_)))))
   refine Rl.op (OpY.eql (x := x11) (y := (-1)) ((x11 : Int) = (-1)) rfl rfl Iff.rfl ?_)
   refine Rl.nil ?_
   refine Swp.cond_d ((x11 : Int) = (-1)) rfl (fun hc13 => ?_) (fun hc13 => ?_)
   ·
    replace h := ite_t hc13 h
    refine Swp.seq (Swp.region rfl (Rl.op (OpY.move (v := (osv (some b10) 0 (List.length x9) m8)) rfl ?_)))
    refine Rl.op (OpY.move (v := (Value.int .i64 x10)) rfl ?_)
    obtain ⟨x12, q21, h⟩ := bind_some h
    obtain ⟨n11, q22, q23⟩ := idx_some q21
    have q24 := (List.getElem?_eq_some_iff.1 q23).1
    refine Rl.op (OpY.ixRowD (r := (rInt .i64)) (b := b10) (o := 0) (n := n11) (m := (List.length x9)) (xs := out11) (q := (0 + n11 * (rInt .i64).sz)) Tryd.underlying78 ti3 rfl hl11 rfl q22 q24 rfl ?_)
    obtain ⟨x13, q25, h⟩ := bind_some h
    obtain ⟨n12, q26, q27, q28⟩ := upd1_some q25
    obtain rfl := Int.ofNat_inj.1 (q22.symm.trans q26)
    refine Rl.op0 (OpY.stRowX (pre := []) (r := (rInt .i64)) (vs := [(Value.int .i64 (-1))]) (a := (-1)) ti3 rfl rfl rfl rfl hL12 1 rfl rfl hE11 q24 rfl q28 ?_)
    have hl12 : (List.length x9) = List.length x13 := by rw [q28, List.length_set]; exact hl11
    intro w12 cs13 (hL13 : Go.X.Loc [] [] w w12 [some b1, some b10] [(mcont (fun x : List UInt8 => Value.string (s8 x)) (fun x : Int => Value.int .i64 x) number11), Cont.cells ([] ++ (cs13 ++ []))]) hS11 hE12 q29
    have hc14 : (cs13 ++ []).length = m8 * (rInt .i64).sz := by have := hc11; rw [List.length_append] at this ⊢; rw [q29]; exact this
    have K13 := ks w hS11
    refine Rl.nil (Swp.exit rfl (Swp.region rfl (Rl.op (OpY.add (x := x10) (y := 1) (z := (iw (x10 + 1))) rfl rfl rfl ?_))))
    refine Rl.op (OpY.move (v := (Value.int .i64 (iw (x10 + 1)))) rfl ?_)
    refine Rl.nil ?_
    have f14 := (hE12.mono (K13 None))
    obtain rfl := Option.some.inj h
    refine Swp.pop_back ⟨(number11, x13, (iw (x10 + 1))), rfl, ?_⟩
    exact ⟨cs13, _, (upds_sym ⟨rfl, rfl, rfl, rfl, rfl, rfl, rfl, trivial⟩), hL13, (Keep.trans K12 K13), f14, hl12, hc14, trivial⟩
   ·
    replace h := ite_f hc13 h
    refine Swp.skip (Swp.seq (Swp.region rfl (Rl.op (OpY.move (v := (Value.int .i64 x11)) rfl ?_))))
    obtain ⟨r10, q30, h⟩ := bind_some h
    refine Rl.op (OpY.call en59 rfl rfl (fmtI_w N x11 _ Any (hG.ext hL12.done) r10 q30) ?_)
    rintro _ w13 hE13 ⟨rfl, -⟩
    have hL14 := hL12.ext hE13
    have K14 := ke hL12 hE13
    refine Rl.op (OpY.assign (v := (Value.string (s8 r10))) rfl ?_)
    refine Rl.nil (Swp.seq (Swp.seq (Swp.region rfl (Rl.op (OpY.assign (v := (Value.int .i64 32)) rfl ?_)))))
    refine Rl.nil ?_
    obtain ⟨s11, hl13, g11⟩ := bind_some h
    refine Swp.join (fun e w' => ∃ (key10 : (List UInt8)) (u : Env), key10 = s11 ∧ e = upds [(0, (Value.pointer (some ⟨d_b, 0, none⟩))), (1, classes_v), (6, (Value.map (some b1))), (7, (osv (some b10) 0 (List.length x9) m8)), (8, (Value.int .i64 x10)), (10, (Value.string (s8 key10))), (18, classes_v), (19, (Value.int .i64 (List.length classes : Int))), (20, (Value.int .i64 x10))] u ∧ Go.X.Loc [] [] w w' [some b1, some b10] [(mcont (fun x : List UInt8 => Value.string (s8 x)) (fun x : Int => Value.int .i64 x) number11), Cont.cells ([] ++ (cs12 ++ []))] ∧ Keep w.heap.size [some b1, some b10] w13 [some b1, some b10] w' ∧ True) ?_ ?_
    ·
     refine Swp.block ?_
     refine Swp.loopM hl13 (fun (ss : ((List UInt8) × Int)) (e : Env) (w' : World) => match ss with | (key11, x14) => ∃ (u : Env), e = upds [(0, (Value.pointer (some ⟨d_b, 0, none⟩))), (1, classes_v), (6, (Value.map (some b1))), (7, (osv (some b10) 0 (List.length x9) m8)), (8, (Value.int .i64 x10)), (10, (Value.string (s8 key11))), (11, (Value.int .i64 x14)), (18, classes_v), (19, (Value.int .i64 (List.length classes : Int))), (20, (Value.int .i64 x10))] u ∧ Go.X.Loc [] [] w w' [some b1, some b10] [(mcont (fun x : List UInt8 => Value.string (s8 x)) (fun x : Int => Value.int .i64 x) number11), Cont.cells ([] ++ (cs12 ++ []))] ∧ Keep w.heap.size [some b1, some b10] w13 [some b1, some b10] w' ∧ True) ⟨_, (upds_sym ⟨rfl, rfl, rfl, rfl, rfl, rfl, rfl, rfl, rfl, rfl, trivial⟩), hL14, Keep.refl, trivial⟩ ?_
     rintro ⟨key11, x14⟩ oo _ w14 ⟨u, rfl, hL15, K15, -⟩ h hd11
     rw [aRefined_b2] at h
     refine Swp.seq (Swp.seq (Swp.region rfl (Rl.op (OpY.move (v := (Value.int .i64 x14)) rfl ?_))))
     refine Rl.op (OpY.leq (x := x14) (y := 126) ((x14 : Int) ≤ 126) rfl rfl Iff.rfl ?_)
     refine Rl.nil ?_
     refine Swp.cond_d ((x14 : Int) ≤ 126) rfl (fun hc15 => ?_) (fun hc15 => ?_)
     ·
      replace h := ite_t hc15 h
      refine Swp.skip (Swp.seq (Swp.block (Swp.region rfl (Rl.op (OpY.move (v := (Value.string (s8 key11))) rfl ?_)))))
      refine Rl.op (OpY.move (v := classes_v) rfl ?_)
      refine Rl.op (OpY.move (v := (Value.pointer (some ⟨d_b, 0, none⟩))) rfl ?_)
      refine Rl.op (OpY.move (v := (Value.int .i64 x10)) rfl ?_)
      refine Rl.op (OpY.move (v := (Value.int .i64 x14)) rfl ?_)
      refine Rl.op (OpY.convInt (x := x14) (z := (uw8 x14)) Tryd.underlying3 Tryd.underlying5 rfl rfl ?_)
      obtain ⟨r11, q31, h⟩ := bind_some h
      have f15 := (At.mono (K15 Any) (At.mono (K14 Any) (At.mono (K12 Any) (At.mono (K10 Any) (At.mono (K5 Any) d_at)))))
      have f16 := (((((d_h.mono (K5 S)).mono (K10 S)).mono (K12 S)).mono (K14 S)).mono (K15 S))
      have f17 := (((((d_h1.mono (K5 S)).mono (K10 S)).mono (K12 S)).mono (K14 S)).mono (K15 S))
      refine Rl.op (OpY.call en39 rfl rfl (aStep_w N d x10 (uw8 x14) d_b d_v d_v1 _ Any (At.mono vw_any f15) (f16.mono vw_any) (f17.mono vw_any) r11 q31) ?_)
      rintro _ w15 hE14 ⟨rfl, -⟩
      have hL16 := hL15.ext hE14
      have K16 := ke hL15 hE14
      obtain ⟨r12, q32, h⟩ := bind_some h
      have f18 := (((f12.mono (K14 S)).mono (K15 S)).mono (K16 S))
      refine Rl.op (OpY.call en46 rfl rfl (aClass_w N classes r11 classes_v _ Any (f18.mono vw_any) r12 q32) ?_)
      rintro _ w16 hE15 ⟨rfl, -⟩
      have hL17 := hL16.ext hE15
      have K17 := ke hL16 hE15
      obtain ⟨r13, q33, h⟩ := bind_some h
      refine Rl.op (OpY.call en59 rfl rfl (fmtI_w N r12 _ Any (hG.ext hL17.done) r13 q33) ?_)
      rintro _ w17 hE16 ⟨rfl, -⟩
      have hL18 := hL17.ext hE16
      have K18 := ke hL17 hE16
      obtain ⟨u10, q34, h⟩ := bind_some h
      have q35 := chk_some q34
      refine Rl.op (OpY.sAdd (x := ([32] : List UInt8)) (y := r13) rfl rfl q35 ?_)
      obtain ⟨u11, q36, h⟩ := bind_some h
      have q37 := chk_some q36
      refine Rl.op (OpY.sAdd (x := key11) (y := (([32] : List UInt8) ++ r13)) rfl rfl q37 ?_)
      refine Rl.op (OpY.assign (v := (Value.string (s8 (key11 ++ (([32] : List UInt8) ++ r13))))) rfl ?_)
      refine Rl.nil (Swp.pop_blk (Swp.region rfl (Rl.op (OpY.move (v := (Value.int .i64 x14)) rfl ?_))))
      refine Rl.op (OpY.add (x := x14) (y := 1) (z := (iw (x14 + 1))) rfl rfl rfl ?_)
      refine Rl.op (OpY.assign (v := (Value.int .i64 (iw (x14 + 1)))) rfl ?_)
      refine Rl.nil ?_
      obtain rfl := Option.some.inj h
      refine Swp.pop_back ⟨((key11 ++ (([32] : List UInt8) ++ r13)), (iw (x14 + 1))), rfl, ?_⟩
      exact ⟨_, (upds_sym ⟨rfl, rfl, rfl, rfl, rfl, rfl, rfl, rfl, rfl, rfl, trivial⟩), hL18, (Keep.trans (Keep.trans (Keep.trans K15 K16) K17) K18), trivial⟩
     ·
      replace h := ite_f hc15 h
      refine Swp.exit rfl ?_
      obtain rfl := Option.some.inj h
      obtain rfl := hd11 _ rfl
      replace h := g11
      try dsimp only at h
      skip
      refine Swp.pop_back ?_
      exact ⟨key11, _, rfl, (upds_sym ⟨rfl, rfl, rfl, rfl, rfl, rfl, rfl, rfl, rfl, trivial⟩), hL15, K15, trivial⟩
    ·
     rintro _ w18 ⟨key10, u, rfl, rfl, hL19, K19, -⟩
     replace h := g11
     try dsimp only at h
     refine Swp.seq (Swp.region rfl (Rl.op (OpY.move (v := (Value.map (some b1))) rfl ?_)))
     refine Rl.op (OpY.move (v := (Value.string (s8 key10))) rfl ?_)
     refine Rl.op (OpY.look (kf := (fun x : List UInt8 => Value.string (s8 x))) (vf := (fun x : Int => Value.int .i64 x)) (m := number11) (x := key10) (z := 0) mky_9 Tryd.underlying104 ti3 rfl (hL19.at 0 rfl rfl) rfl ?_)
     refine Rl.op (OpY.move (v := (Value.tuple #[(Value.int .i64 (mget number11 key10 0).1), (Value.bool (mget number11 key10 0).2)])) rfl ?_)
     refine Rl.op (OpY.extract (vs := [(Value.int .i64 (mget number11 key10 0).1), (Value.bool (mget number11 key10 0).2)]) (v := (Value.int .i64 (mget number11 key10 0).1)) rfl rfl ?_)
     refine Rl.op (OpY.extract (vs := [(Value.int .i64 (mget number11 key10 0).1), (Value.bool (mget number11 key10 0).2)]) (v := (Value.bool (mget number11 key10 0).2)) rfl rfl ?_)
     refine Rl.op (OpY.assign (v := (Value.int .i64 (mget number11 key10 0).1)) rfl ?_)
     refine Rl.op (OpY.assign (v := (Value.bool (mget number11 key10 0).2)) rfl ?_)
     refine Rl.nil (Swp.seq (Swp.seq (Swp.region rfl (Rl.op (OpY.move (v := (Value.bool (mget number11 key10 0).2)) rfl ?_)))))
     refine Rl.op (OpY.not (x := (mget number11 key10 0).2) rfl ?_)
     refine Rl.nil ?_
     obtain ⟨s12, h, g12⟩ := bind_some h
     refine Swp.join (fun e w' => ∃ (number12 : (List ((List UInt8) × Int))) (n13 : Int) (u : Env), (number12, n13) = s12 ∧ e = upds [(0, (Value.pointer (some ⟨d_b, 0, none⟩))), (1, classes_v), (6, (Value.map (some b1))), (7, (osv (some b10) 0 (List.length x9) m8)), (8, (Value.int .i64 x10)), (12, (Value.int .i64 n13)), (18, classes_v), (19, (Value.int .i64 (List.length classes : Int))), (20, (Value.int .i64 x10))] u ∧ Go.X.Loc [] [] w w' [some b1, some b10] [(mcont (fun x : List UInt8 => Value.string (s8 x)) (fun x : Int => Value.int .i64 x) number12), Cont.cells ([] ++ (cs12 ++ []))] ∧ Keep w.heap.size [some b1, some b10] w18 [some b1, some b10] w' ∧ True) ?_ ?_
     ·
      refine Swp.cond_b (!(mget number11 key10 0).2) rfl (fun hc16 => ?_) (fun hc16 => ?_)
      ·
       replace h := ite_t hc16 h
       refine Swp.seq (Swp.region rfl (Rl.op (OpY.move (v := (Value.map (some b1))) rfl ?_)))
       refine Rl.op (OpY.lenMap (kf := (fun x : List UInt8 => Value.string (s8 x))) (vf := (fun x : Int => Value.int .i64 x)) (m := number11) Tryd.underlying104 rfl (hL19.at 0 rfl rfl) ?_)
       refine Rl.op (OpY.assign (v := (Value.int .i64 (List.length number11 : Int))) rfl ?_)
       refine Rl.nil (Swp.region rfl (Rl.op (OpY.move (v := (Value.map (some b1))) rfl ?_)))
       refine Rl.op (OpY.move (v := (Value.string (s8 key10))) rfl ?_)
       refine Rl.op (OpY.move (v := (Value.int .i64 (List.length number11 : Int))) rfl ?_)
       refine Rl.op0 (OpY.mapPut (kf := (fun x : List UInt8 => Value.string (s8 x))) (vf := (fun x : Int => Value.int .i64 x)) (m := number11) (x := key10) (y := (List.length number11 : Int)) mky_9 Tryd.underlying104 rfl rfl rfl hL19 0 rfl rfl ?_)
       intro w19 (hL20 : Go.X.Loc [] [] w w19 [some b1, some b10] [(mcont (fun x : List UInt8 => Value.string (s8 x)) (fun x : Int => Value.int .i64 x) (mput number11 key10 (List.length number11 : Int))), Cont.cells ([] ++ (cs12 ++ []))]) hS12
       have K20 := ks w hS12
       refine Rl.nil ?_
       obtain rfl := Option.some.inj h
       refine Swp.pop_back ?_
       exact ⟨(mput number11 key10 (List.length number11 : Int)), (List.length number11 : Int), _, rfl, (upds_sym ⟨rfl, rfl, rfl, rfl, rfl, rfl, rfl, rfl, rfl, trivial⟩), hL20, K20, trivial⟩
      ·
       replace h := ite_f hc16 h
       refine Swp.skip ?_
       obtain rfl := Option.some.inj h
       refine Swp.pop_back ?_
       exact ⟨number11, (mget number11 key10 0).1, _, rfl, (upds_sym ⟨rfl, rfl, rfl, rfl, rfl, rfl, rfl, rfl, rfl, trivial⟩), hL19, Keep.refl, trivial⟩
     ·
      rintro _ w20 ⟨number12, n13, u, rfl, rfl, hL21, K21, -⟩
      replace h := g12
      try dsimp only at h
      refine Swp.region rfl (Rl.op (OpY.move (v := (osv (some b10) 0 (List.length x9) m8)) rfl ?_))
      refine Rl.op (OpY.move (v := (Value.int .i64 x10)) rfl ?_)
      refine Rl.op (OpY.move (v := (Value.int .i64 n13)) rfl ?_)
      obtain ⟨x15, q38, h⟩ := bind_some h
      obtain ⟨n14, q39, q40⟩ := idx_some q38
      have q41 := (List.getElem?_eq_some_iff.1 q40).1
      refine Rl.op (OpY.ixRowD (r := (rInt .i64)) (b := b10) (o := 0) (n := n14) (m := (List.length x9)) (xs := out11) (q := (0 + n14 * (rInt .i64).sz)) Tryd.underlying78 ti3 rfl hl11 rfl q39 q41 rfl ?_)
      obtain ⟨x16, q42, h⟩ := bind_some h
      obtain ⟨n15, q43, q44, q45⟩ := upd1_some q42
      obtain rfl := Int.ofNat_inj.1 (q39.symm.trans q43)
      have f19 := (((hE11.mono (K14 None)).mono (K19 None)).mono (K21 None))
      refine Rl.op0 (OpY.stRowX (pre := []) (r := (rInt .i64)) (vs := [(Value.int .i64 n13)]) (a := n13) ti3 rfl rfl rfl rfl hL21 1 rfl rfl f19 q41 rfl q45 ?_)
      have hl14 : (List.length x9) = List.length x16 := by rw [q45, List.length_set]; exact hl11
      intro w21 cs14 (hL22 : Go.X.Loc [] [] w w21 [some b1, some b10] [(mcont (fun x : List UInt8 => Value.string (s8 x)) (fun x : Int => Value.int .i64 x) number12), Cont.cells ([] ++ (cs14 ++ []))]) hS13 hE17 q46
      have hc17 : (cs14 ++ []).length = m8 * (rInt .i64).sz := by have := hc11; rw [List.length_append] at this ⊢; rw [q46]; exact this
      have K22 := ks w hS13
      refine Rl.nil (Swp.pop_blk (Swp.region rfl (Rl.op (OpY.add (x := x10) (y := 1) (z := (iw (x10 + 1))) rfl rfl rfl ?_))))
      refine Rl.op (OpY.move (v := (Value.int .i64 (iw (x10 + 1)))) rfl ?_)
      refine Rl.nil ?_
      have f20 := (hE17.mono (K22 None))
      obtain rfl := Option.some.inj h
      refine Swp.pop_back ⟨(number12, x16, (iw (x10 + 1))), rfl, ?_⟩
      exact ⟨cs14, _, (upds_sym ⟨rfl, rfl, rfl, rfl, rfl, rfl, rfl, trivial⟩), hL22, (Keep.trans (Keep.trans (Keep.trans (Keep.trans K12 K14) K19) K21) K22), f20, hl14, hc17, trivial⟩
  ·
   replace h := ite_f hc12 h
   refine Swp.exit rfl ?_
   obtain rfl := Option.some.inj h
   obtain rfl := hd10 _ rfl
   replace h := g10
   try dsimp only at h
   skip
   refine Swp.pop_back ?_
   exact ⟨number11, out11, cs12, _, rfl, (upds_sym ⟨rfl, rfl, trivial⟩), hL12, K12, hE11, hl11, hc11, trivial⟩
 ·
  rintro _ w22 ⟨number10, out10, cs11, u, rfl, rfl, hL23, K23, hE18, hl15, hc18, -⟩
  replace h := g10
  try dsimp only at h
  refine Swp.seq (Swp.region rfl (Rl.op (OpY.move (v := (osv (some b10) 0 (List.length x9) m8)) rfl ?_)))
  refine Rl.op (OpY.move (v := (Value.map (some b1))) rfl ?_)
  refine Rl.op (OpY.lenMap (kf := (fun x : List UInt8 => Value.string (s8 x))) (vf := (fun x : Int => Value.int .i64 x)) (m := number10) Tryd.underlying104 rfl (hL23.at 0 rfl rfl) ?_)
  refine Rl.op (OpY.assign (v := (osv (some b10) 0 (List.length x9) m8)) rfl ?_)
  refine Rl.op (OpY.assign (v := (Value.int .i64 (List.length number10 : Int))) rfl ?_)
  refine Rl.nil (Swp.ret ?_)
  obtain rfl := Option.some.inj h
  refine ⟨[(osv (some b10) 0 (List.length x9) m8), (Value.int .i64 (List.length number10 : Int))], ⟨rfl, rfl, trivial⟩, ⟨_, rfl, hL23.done, ?_⟩⟩
  exact ⟨some b10, m8, cs11, [], (by rw [← hl15]; rfl), (hL23.newOwn [1] rfl rfl rfl), (hE18.mono (Hv.pick [1] rfl)), hc18, trivial⟩
theorem aPartition_w (N : Nat) (d : ADfa) (useful : (List Bool)) (d_b : Nat) (d_v : Value) (d_v1 : Value) (useful_v : Value) (w : World) (S : Nat → Prop) (hG : G w) (d_at : At (Hv w.heap.size Any [] w) d_b 0 [d_v, d_v1]) (d_h : Rs rBool (Hv w.heap.size S [] w) d_v d.Accept) (d_h1 : Rs (rSl rAEdge) (Hv w.heap.size S [] w) d_v1 d.Edges) (useful_h : Rs rBool (Hv w.heap.size S [] w) useful_v useful) (r : (List Int)) (h : aPartition N d useful = some r) :
  Calls Tryd.prog 44 #[(Value.pointer (some ⟨d_b, 0, none⟩)), useful_v] w (Ret w (fun v w' => ∃ (ob0 : Option Nat) (cap0 : Nat) (cs0 : List Value) (sp0 : List Value), (osv ob0 0 (List.length r) cap0) = v ∧ NewOwn w w' [ob0] [Cont.cells ([] ++ (cs0 ++ sp0))] ∧ Els (rInt .i64) (Hv w.heap.size None [ob0] w') cs0 r ∧ (cs0 ++ sp0).length = cap0 * (rInt .i64).sz ∧ True)) := by
 unfold aPartition at h
 have hL : Go.X.Loc [] [] w w [] [] := Go.X.Loc.begin0 w
 refine calls_of (l := [(Value.pointer (some ⟨d_b, 0, none⟩)), useful_v]) (rl := [.tmp 4]) (n := 51) Tryd.func44 rfl rfl rfl (Nat.le_of_ble_eq_true rfl) ?_
 refine Swp.seq (Swp.region rfl (Rl.op (OpY.assign (v := (Value.slice none 0 0)) rfl ?_)))
 refine Rl.nil (Swp.seq (Swp.region rfl (Rl.op (OpY.move (v := useful_v) rfl ?_))))
 refine Rl.op (OpY.lenRo (v := useful_v) Tryd.underlying22 rfl useful_h ?_)
 obtain ⟨x2, q3, h⟩ := bind_some h
 obtain ⟨m1, q4, q5, q6, q7⟩ := mk1_some q3
 refine Rl.op (OpY.mkRowX (r := (rInt .i64)) (H := (Hv w.heap.size None [] w)) (zc := [(Value.int .i64 0)]) (x := 0) Tryd.underlying78 ti3 rfl rfl rfl rfl q4 q5 q6 q7 hL ?_)
 intro b8 w10 cs9 hE10 hc10 hL10 hS10
 have K10 := ks w hS10
 refine Rl.op (OpY.assign (v := (osv (some b8) 0 (List.length x2) m1)) rfl ?_)
 refine Rl.nil (Swp.seq (Swp.seq (Swp.region rfl (Rl.op (OpY.move (v := (osv (some b8) 0 (List.length x2) m1)) rfl ?_)))))
 have f10 := (hE10.mono (K10 None))
 refine Rl.op (OpY.lenRow (pre := []) (r := (rInt .i64)) (xs := x2) Tryd.underlying78 rfl (hL10.at 0 rfl rfl) f10 rfl rfl ?_)
 refine Rl.op (OpY.move (v := (Value.int .i64 0)) rfl ?_)
 refine Rl.nil ?_
 obtain ⟨s10, hl10, g10⟩ := bind_some h
 refine Swp.join (fun e w' => ∃ (classes10 : (List Int)) (cs10 : List Value) (u : Env), classes10 = s10 ∧ e = upds [(0, (Value.pointer (some ⟨d_b, 0, none⟩))), (5, (osv (some b8) 0 (List.length x2) m1))] u ∧ Go.X.Loc [] [] w w' [some b8] [Cont.cells ([] ++ (cs10 ++ []))] ∧ Keep w.heap.size [some b8] w10 [some b8] w' ∧ Els (rInt .i64) (Hv w.heap.size None [some b8] w') cs10 classes10 ∧ (List.length x2) = List.length classes10 ∧ (cs10 ++ []).length = m1 * (rInt .i64).sz ∧ True) ?_ ?_
 ·
  refine Swp.block ?_
  refine Swp.loopM hl10 (fun (ss : ((List Int) × Int)) (e : Env) (w' : World) => match ss with | (classes11, x10) => ∃ (cs11 : List Value) (u : Env), e = upds [(0, (Value.pointer (some ⟨d_b, 0, none⟩))), (1, useful_v), (5, (osv (some b8) 0 (List.length x2) m1)), (14, (Value.int .i64 (List.length x2 : Int))), (15, (Value.int .i64 x10))] u ∧ Go.X.Loc [] [] w w' [some b8] [Cont.cells ([] ++ (cs11 ++ []))] ∧ Keep w.heap.size [some b8] w10 [some b8] w' ∧ Els (rInt .i64) (Hv w.heap.size None [some b8] w') cs11 classes11 ∧ (List.length x2) = List.length classes11 ∧ (cs11 ++ []).length = m1 * (rInt .i64).sz ∧ True) ⟨cs9, _, (upds_sym ⟨rfl, rfl, rfl, rfl, rfl, trivial⟩), hL10, Keep.refl, f10, rfl, hc10, trivial⟩ ?_
  rintro ⟨classes11, x10⟩ oo _ w11 ⟨cs11, u, rfl, hL11, K11, hE11, hl11, hc11, -⟩ h hd10
  rw [aPartition_b1] at h
  refine Swp.seq (Swp.region rfl (Rl.op (OpY.lss (x := x10) (y := (List.length x2 : Int)) ((x10 : Int) < (List.length x2 : Int)) rfl rfl Iff.rfl ?_)))
  refine Rl.nil (Swp.seq ?_)
  refine Swp.cond_d ((x10 : Int) < (List.length x2 : Int)) rfl (fun hc12 => ?_) (fun hc12 => ?_)
  ·
   replace h := ite_t hc12 h
   refine Swp.skip (Swp.seq (Swp.block (Swp.seq (Swp.region rfl (Rl.op (OpY.move (v := (Value.int .i64 x10)) rfl ?_))))))
   refine Rl.op (OpY.assign (v := (Value.int .i64 x10)) rfl ?_)
   refine Rl.nil (Swp.block (Swp.seq (Swp.region rfl (Rl.op (OpY.move (v := useful_v) rfl ?_)))))
   refine Rl.op (OpY.move (v := (Value.int .i64 x10)) rfl ?_)
   obtain ⟨x11, q10, h⟩ := bind_some h
   obtain ⟨n10, q11, q12⟩ := idx_some q10
   have f11 := ((useful_h.mono (K10 S)).mono (K11 S))
   obtain ⟨b10, o10, c10, vs10, q13, q14, f12, q15⟩ := Rs.get f11 q12
   obtain rfl := q15
   refine Rl.op (OpY.ixRoD (r := rBool) (v := useful_v) (n := n10) (m := (o10 + n10 * rBool.sz)) Tryd.underlying22 ti4 rfl q13 rfl q11 q12 rfl ?_)
   refine Rl.op (OpY.ldRo1 (v := (Value.bool x11)) Tryd.underlying4 rfl rfl vw_view f12 ?_)
   refine Rl.op (OpY.not (x := x11) rfl ?_)
   refine Rl.op (OpY.assign (v := (Value.bool (!x11))) rfl ?_)
   refine Rl.nil ?_
   refine Swp.cond_b (!x11) rfl (fun hc13 => ?_) (fun hc13 => ?_)
   ·
    replace h := ite_t hc13 h
    refine Swp.region rfl (Rl.op (OpY.move (v := (osv (some b8) 0 (List.length x2) m1)) rfl ?_))
    refine Rl.op (OpY.move (v := (Value.int .i64 x10)) rfl ?_)
    obtain ⟨x12, q16, h⟩ := bind_some h
    obtain ⟨n11, q17, q18⟩ := idx_some q16
    have q19 := (List.getElem?_eq_some_iff.1 q18).1
    refine Rl.op (OpY.ixRowD (r := (rInt .i64)) (b := b8) (o := 0) (n := n11) (m := (List.length x2)) (xs := classes11) (q := (0 + n11 * (rInt .i64).sz)) Tryd.underlying78 ti3 rfl hl11 rfl q17 q19 rfl ?_)
    obtain ⟨x13, q20, h⟩ := bind_some h
    obtain ⟨n12, q21, q22, q23⟩ := upd1_some q20
    obtain rfl := Int.ofNat_inj.1 (q17.symm.trans q21)
    refine Rl.op0 (OpY.stRowX (pre := []) (r := (rInt .i64)) (vs := [(Value.int .i64 (-1))]) (a := (-1)) ti3 rfl rfl rfl rfl hL11 0 rfl rfl hE11 q19 rfl q23 ?_)
    have hl12 : (List.length x2) = List.length x13 := by rw [q23, List.length_set]; exact hl11
    intro w12 cs12 (hL12 : Go.X.Loc [] [] w w12 [some b8] [Cont.cells ([] ++ (cs12 ++ []))]) hS11 hE12 q24
    have hc14 : (cs12 ++ []).length = m1 * (rInt .i64).sz := by have := hc11; rw [List.length_append] at this ⊢; rw [q24]; exact this
    have K12 := ks w hS11
    refine Rl.nil (Swp.pop_blk (Swp.pop_blk (Swp.region rfl (Rl.op (OpY.add (x := x10) (y := 1) (z := (iw (x10 + 1))) rfl rfl rfl ?_)))))
    refine Rl.op (OpY.move (v := (Value.int .i64 (iw (x10 + 1)))) rfl ?_)
    refine Rl.nil ?_
    have f13 := (hE12.mono (K12 None))
    obtain rfl := Option.some.inj h
    refine Swp.pop_back ⟨(x13, (iw (x10 + 1))), rfl, ?_⟩
    exact ⟨cs12, _, (upds_sym ⟨rfl, rfl, rfl, rfl, rfl, trivial⟩), hL12, (Keep.trans K11 K12), f13, hl12, hc14, trivial⟩
   ·
    replace h := ite_f hc13 h
    refine Swp.seq (Swp.region rfl (Rl.op (OpY.move (v := (Value.pointer (some ⟨d_b, 0, none⟩))) rfl ?_)))
    refine Rl.op (OpY.nilCheck (b := ⟨d_b, 0, none⟩) rfl ?_)
    have f14 := (At.mono (K11 Any) (At.mono (K10 Any) d_at))
    have f15 := (f14.part (us := [d_v]) 0 rfl)
    refine Rl.op (OpY.fieldAddr (q := 0 + 0) Tryd.underlying32 rfl ti22 rfl rfl rfl ?_)
    refine Rl.op (OpY.ldRo1 (v := d_v) Tryd.underlying22 rfl rfl vw_view f15 ?_)
    refine Rl.op (OpY.move (v := (Value.int .i64 x10)) rfl ?_)
    obtain ⟨x14, q25, h⟩ := bind_some h
    obtain ⟨n13, q26, q27⟩ := idx_some q25
    have f16 := ((d_h.mono (K10 S)).mono (K11 S))
    obtain ⟨b11, o11, c11, vs11, q28, q29, f17, q30⟩ := Rs.get f16 q27
    obtain rfl := q30
    refine Rl.op (OpY.ixRoD (r := rBool) (v := d_v) (n := n13) (m := (o11 + n13 * rBool.sz)) Tryd.underlying22 ti4 rfl q28 rfl q26 q27 rfl ?_)
    refine Rl.op (OpY.ldRo1 (v := (Value.bool x14)) Tryd.underlying4 rfl rfl vw_view f17 ?_)
    refine Rl.op (OpY.assign (v := (Value.bool x14)) rfl ?_)
    refine Rl.nil ?_
    refine Swp.cond_b x14 rfl (fun hc15 => ?_) (fun hc15 => ?_)
    ·
     replace h := ite_t hc15 h
     refine Swp.region rfl (Rl.op (OpY.move (v := (osv (some b8) 0 (List.length x2) m1)) rfl ?_))
     refine Rl.op (OpY.move (v := (Value.int .i64 x10)) rfl ?_)
     obtain ⟨x15, q31, h⟩ := bind_some h
     obtain ⟨n14, q32, q33⟩ := idx_some q31
     have q34 := (List.getElem?_eq_some_iff.1 q33).1
     refine Rl.op (OpY.ixRowD (r := (rInt .i64)) (b := b8) (o := 0) (n := n14) (m := (List.length x2)) (xs := classes11) (q := (0 + n14 * (rInt .i64).sz)) Tryd.underlying78 ti3 rfl hl11 rfl q32 q34 rfl ?_)
     obtain ⟨x16, q35, h⟩ := bind_some h
     obtain ⟨n15, q36, q37, q38⟩ := upd1_some q35
     obtain rfl := Int.ofNat_inj.1 (q32.symm.trans q36)
     refine Rl.op0 (OpY.stRowX (pre := []) (r := (rInt .i64)) (vs := [(Value.int .i64 1)]) (a := 1) ti3 rfl rfl rfl rfl hL11 0 rfl rfl hE11 q34 rfl q38 ?_)
     have hl13 : (List.length x2) = List.length x16 := by rw [q38, List.length_set]; exact hl11
     intro w13 cs13 (hL13 : Go.X.Loc [] [] w w13 [some b8] [Cont.cells ([] ++ (cs13 ++ []))]) hS12 hE13 q39
     have hc16 : (cs13 ++ []).length = m1 * (rInt .i64).sz := by have := hc11; rw [List.length_append] at this ⊢; rw [q39]; exact this
     have K13 := ks w hS12
     refine Rl.nil (Swp.pop_blk (Swp.pop_blk (Swp.region rfl (Rl.op (OpY.add (x := x10) (y := 1) (z := (iw (x10 + 1))) rfl rfl rfl ?_)))))
     refine Rl.op (OpY.move (v := (Value.int .i64 (iw (x10 + 1)))) rfl ?_)
     refine Rl.nil ?_
     have f18 := (hE13.mono (K13 None))
     obtain rfl := Option.some.inj h
     refine Swp.pop_back ⟨(x16, (iw (x10 + 1))), rfl, ?_⟩
     exact ⟨cs13, _, (upds_sym ⟨rfl, rfl, rfl, rfl, rfl, trivial⟩), hL13, (Keep.trans K11 K13), f18, hl13, hc16, trivial⟩
    ·
     replace h := ite_f hc15 h
     refine Swp.skip (Swp.pop_blk (Swp.pop_blk (Swp.region rfl (Rl.op (OpY.add (x := x10) (y := 1) (z := (iw (x10 + 1))) rfl rfl rfl ?_)))))
     refine Rl.op (OpY.move (v := (Value.int .i64 (iw (x10 + 1)))) rfl ?_)
     refine Rl.nil ?_
     obtain rfl := Option.some.inj h
     refine Swp.pop_back ⟨(classes11, (iw (x10 + 1))), rfl, ?_⟩
     exact ⟨cs11, _, (upds_sym ⟨rfl, rfl, rfl, rfl, rfl, trivial⟩), hL11, K11, hE11, hl11, hc11, trivial⟩
  ·
   replace h := ite_f hc12 h
   refine Swp.exit rfl ?_
   obtain rfl := Option.some.inj h
   obtain rfl := hd10 _ rfl
   replace h := g10
   try dsimp only at h
   skip
   refine Swp.pop_back ?_
   exact ⟨classes11, cs11, _, rfl, (upds_sym ⟨rfl, rfl, trivial⟩), hL11, K11, hE11, hl11, hc11, trivial⟩
 ·
  rintro _ w14 ⟨classes10, cs10, u, rfl, rfl, hL14, K14, hE14, hl14, hc17, -⟩
  replace h := g10
  try dsimp only at h
  refine Swp.seq (Swp.region rfl (Rl.op (OpY.assign (v := (Value.int .i64 0)) rfl ?_)))
  refine Rl.nil (Swp.block ?_)
  obtain ⟨s11, hl15, g11⟩ := bind_some h
  refine Swp.loopM hl15 (fun (ss : ((List Int) × Int)) (e : Env) (w' : World) => match ss with | (classes12, count10) => ∃ (ob10 : Option Nat) (cap10 : Nat) (sp10 : List Value) (cs14 : List Value) (ln10 : Nat) (u : Env), e = upds [(0, (Value.pointer (some ⟨d_b, 0, none⟩))), (5, (osv ob10 0 ln10 cap10)), (7, (Value.int .i64 count10))] u ∧ Go.X.Loc [] [] w w' [ob10] [Cont.cells ([] ++ (cs14 ++ sp10))] ∧ Keep w.heap.size [some b8] w14 [ob10] w' ∧ Els (rInt .i64) (Hv w.heap.size None [ob10] w') cs14 classes12 ∧ ln10 = List.length classes12 ∧ (cs14 ++ sp10).length = cap10 * (rInt .i64).sz ∧ True) ⟨some b8, m1, [], cs10, (List.length x2), _, (upds_sym ⟨rfl, rfl, rfl, trivial⟩), hL14, Keep.refl, hE14, hl14, hc17, trivial⟩ ?_
  rintro ⟨classes12, count10⟩ oo _ w15 ⟨ob10, cap10, sp10, cs14, ln10, u, rfl, hL15, K15, hE15, rfl, hc18, -⟩ h hd11
  rw [aPartition_b2] at h
  refine Swp.block (Swp.seq (Swp.region rfl (Rl.op (OpY.move (v := (Value.pointer (some ⟨d_b, 0, none⟩))) rfl ?_))))
  refine Rl.op (OpY.move (v := (osv ob10 0 (List.length classes12) cap10)) rfl ?_)
  obtain ⟨r10, q40, h⟩ := bind_some h
  have f19 := (At.mono (K15 Any) (At.mono (K14 Any) (At.mono (K10 Any) d_at)))
  have f20 := (((d_h.mono (K10 S)).mono (K14 S)).mono (K15 S))
  have f21 := (((d_h1.mono (K10 S)).mono (K14 S)).mono (K15 S))
  refine Rl.op (OpY.call en58 rfl rfl (aRefined_w N d classes12 d_b d_v d_v1 (osv ob10 0 (List.length classes12) cap10) _ Any (hG.ext hL15.done) (At.mono vw_any f19) (f20.mono vw_any) (f21.mono vw_any) (own_row_any (pre := []) (o := 0) (n := (List.length classes12)) (cap := cap10) (hL15.at 0 rfl rfl) hE15 vw_any rfl rfl rfl hc18) r10 q40) ?_)
  rintro _ w16 hE16 ⟨ob11, cap11, cs15, sp11, rfl, hN10, hE17, hc19, -⟩
  replace hE17 := hE17.mono (Hv.freshO (S := None) hL15 [ob11])
  have hp10 := hL15.adoptL hE16 hN10
  have hL16 := hp10.1
  have K16 := ks w hp10.2
  refine Rl.op (OpY.move (v := (Value.tuple #[(osv ob11 0 (List.length r10.1) cap11), (Value.int .i64 r10.2)])) rfl ?_)
  refine Rl.op (OpY.extract (vs := [(osv ob11 0 (List.length r10.1) cap11), (Value.int .i64 r10.2)]) (v := (osv ob11 0 (List.length r10.1) cap11)) rfl rfl ?_)
  refine Rl.op (OpY.extract (vs := [(osv ob11 0 (List.length r10.1) cap11), (Value.int .i64 r10.2)]) (v := (Value.int .i64 r10.2)) rfl rfl ?_)
  refine Rl.op (OpY.assign (v := (osv ob11 0 (List.length r10.1) cap11)) rfl ?_)
  refine Rl.op (OpY.assign (v := (Value.int .i64 r10.2)) rfl ?_)
  refine Rl.nil (Swp.seq (Swp.region rfl (Rl.op (OpY.move (v := (osv ob11 0 (List.length r10.1) cap11)) rfl ?_))))
  refine Rl.op (OpY.assign (v := (osv ob11 0 (List.length r10.1) cap11)) rfl ?_)
  refine Rl.nil (Swp.seq (Swp.seq (Swp.region rfl (Rl.op (OpY.move (v := (Value.int .i64 r10.2)) rfl ?_)))))
  refine Rl.op (OpY.move (v := (Value.int .i64 count10)) rfl ?_)
  refine Rl.op (OpY.eql (x := r10.2) (y := count10) ((r10.2 : Int) = count10) rfl rfl Iff.rfl ?_)
  refine Rl.nil ?_
  refine Swp.cond_d ((r10.2 : Int) = count10) rfl (fun hc20 => ?_) (fun hc20 => ?_)
  ·
   replace h := ite_t hc20 h
   refine Swp.seq (Swp.region rfl (Rl.op (OpY.move (v := (osv ob11 0 (List.length r10.1) cap11)) rfl ?_)))
   refine Rl.op (OpY.assign (v := (osv ob11 0 (List.length r10.1) cap11)) rfl ?_)
   refine Rl.nil (Swp.ret ?_)
   obtain rfl := Option.some.inj h
   obtain rfl := hd11 _ rfl
   replace h := g11
   try dsimp only at h
   obtain rfl := Option.some.inj h
   refine ⟨[(osv ob11 0 (List.length r10.1) cap11)], ⟨rfl, trivial⟩, ⟨_, rfl, hL16.done, ?_⟩⟩
   exact ⟨ob11, cap11, cs15, sp11, rfl, (hL16.newOwn [0] rfl rfl rfl), (hE17.mono (Hv.pick [0] rfl)), hc19, trivial⟩
  ·
   replace h := ite_f hc20 h
   refine Swp.skip (Swp.region rfl (Rl.op (OpY.move (v := (Value.int .i64 r10.2)) rfl ?_)))
   refine Rl.op (OpY.assign (v := (Value.int .i64 r10.2)) rfl ?_)
   refine Rl.nil (Swp.pop_blk ?_)
   have hp11 := hL16.pick [0] rfl rfl rfl
   have hL17 : Go.X.Loc [] [] w w16 [ob11] [Cont.cells ([] ++ (cs15 ++ sp11))] := hp11.1
   have K17 := ks w hp11.2
   have f22 := (hE17.mono (K17 None))
   obtain rfl := Option.some.inj h
   refine Swp.pop_back ⟨(r10.1, r10.2), rfl, ?_⟩
   exact ⟨ob11, cap11, sp11, cs15, (List.length r10.1), _, (upds_sym ⟨rfl, rfl, rfl, trivial⟩), hL17, (Keep.trans (Keep.trans K15 K16) K17), f22, rfl, hc19, trivial⟩
theorem aMinimize_w (N : Nat) (d : ADfa) (d_v : Value) (d_v1 : Value) (w : World) (S : Nat → Prop) (hG : G w) (d_h : Rs rBool (Hv w.heap.size S [] w) d_v d.Accept) (d_h1 : Rs (rSl rAEdge) (Hv w.heap.size S [] w) d_v1 d.Edges) (r : (ADfa × Int)) (h : aMinimize N d = some r) :
  Calls Tryd.prog 22 #[(Value.agg #[d_v, d_v1])] w (Ret w (fun v w' => ∃ (v0_0 : Value) (v0_1 : Value), .tuple #[(Value.agg #[v0_0, v0_1]), (Value.int .i64 r.2)] = v ∧ Rs rBool (Hv w.heap.size None [] w') v0_0 r.1.Accept ∧ Rs (rSl rAEdge) (Hv w.heap.size None [] w') v0_1 r.1.Edges ∧ True)) := by
 unfold aMinimize at h
 have hL : Go.X.Loc [] [] w w [] [] := Go.X.Loc.begin0 w
 refine calls_of (l := [(Value.agg #[d_v, d_v1])]) (rl := [.cell 2 32, .tmp 3]) (n := 130) Tryd.func22 rfl rfl rfl (Nat.le_of_ble_eq_true rfl) ?_
 refine Swp.seq (Swp.region rfl (Rl.op (OpY.box (cs := [d_v, d_v1]) rfl rfl hL ?_)))
 intro b1 w2 hL3 hS5
 have K4 := ks w hS5
 refine Rl.op (OpY.alloc (cs := [(Value.slice none 0 0), (Value.slice none 0 0)]) ti32 rfl hL3 ?_)
 intro b6 w7 hL8 hS10
 have K9 := ks w hS10
 refine Rl.op (OpY.assign (v := (Value.int .i64 0)) rfl ?_)
 refine Rl.nil (Swp.seq (Swp.region rfl ?_))
 obtain ⟨r10, q10, h⟩ := bind_some h
 have f10 := ((d_h.mono (K4 S)).mono (K9 S))
 have f11 := ((d_h1.mono (K4 S)).mono (K9 S))
 refine Rl.op (OpY.call en43 rfl rfl (aUseful_w N d b1 d_v d_v1 _ Any (own_any (hL8.at 1 rfl rfl)) (f10.mono vw_any) (f11.mono vw_any) r10 q10) ?_)
 rintro _ w10 hE10 ⟨ob10, cap10, cs10, sp10, rfl, hN10, hE11, hc10, -⟩
 replace hE11 := hE11.mono (Hv.freshO (S := None) hL8 [ob10])
 have hp10 := hL8.adoptL hE10 hN10
 have hL10 := hp10.1
 have K10 := ks w hp10.2
 refine Rl.op (OpY.assign (v := (osv ob10 0 (List.length r10) cap10)) rfl ?_)
 refine Rl.nil (Swp.seq (Swp.seq (Swp.region rfl (Rl.op (OpY.move (v := (osv ob10 0 (List.length r10) cap10)) rfl ?_)))))
 obtain ⟨x10, q11, h⟩ := bind_some h
 obtain ⟨n10, q12, q13⟩ := idx_some q11
 have q14 := (List.getElem?_eq_some_iff.1 q13).1
 obtain ⟨b10, hb10⟩ := hL10.row_some 0 rfl rfl (row_pos (pre := []) hE11 q13 (Nat.lt_of_sub_eq_succ rfl))
 refine Rl.op (OpY.ixRowD (r := rBool) (b := b10) (o := 0) (n := n10) (m := (List.length r10)) (xs := r10) (q := (0 + n10 * rBool.sz)) Tryd.underlying22 ti4 (osv_some hb10) rfl rfl q12 q14 rfl ?_)
 obtain ⟨vs10, q15, q16, q17⟩ := row_elem (pre := []) (sp := sp10) hE11 q13
 obtain rfl := q16
 refine Rl.op (OpY.ldElem1 (v := (Value.bool x10)) Tryd.underlying4 rfl rfl (own_some hb10 (hL10.at 0 rfl rfl)) q17 ?_)
 refine Rl.op (OpY.not (x := x10) rfl ?_)
 refine Rl.nil ?_
 refine Swp.cond_b (!x10) rfl (fun hc11 => ?_) (fun hc11 => ?_)
 ·
  replace h := ite_t hc11 h
  refine Swp.seq (Swp.region rfl ?_)
  have hE12 : Els rBool (Hv w.heap.size None [ob10, some b6, some b1] w10) [(Value.bool false)] [false] := (Els.cons (a := [(Value.bool false)]) rfl Els.nil)
  refine Rl.op (OpY.litRow (r := rBool) (vs := [(Value.bool false)]) (css := [[(Value.bool false)]]) (xs := [false]) Tryd.underlying22 ti4 (Nat.le_of_ble_eq_true rfl) rfl rfl ⟨rfl, rfl, trivial⟩ (Nat.le_of_ble_eq_true rfl) hE12 rfl hL10 ?_)
  intro b11 w11 hc12 hL11 hS11
  have K11 := ks w hS11
  have hE13 : Els (rSl rAEdge) (Hv w.heap.size None [some b11, ob10, some b6, some b1] w11) [(Value.slice none 0 0)] [[]] := (Els.cons (a := [(Value.slice none 0 0)]) ⟨_, rfl, Rs.nil⟩ Els.nil)
  refine Rl.op (OpY.litRow (r := (rSl rAEdge)) (vs := [(Value.slice none 0 0)]) (css := [[(Value.slice none 0 0)]]) (xs := [[]]) Tryd.underlying30 ti58 (Nat.le_of_ble_eq_true rfl) rfl rfl ⟨rfl, rfl, trivial⟩ (Nat.le_of_ble_eq_true rfl) hE13 rfl hL11 ?_)
  intro b12 w12 hc13 hL12 hS12
  have K12 := ks w hS12
  refine Rl.op (OpY.build (zc := [(Value.slice none 0 0), (Value.slice none 0 0)]) (cs := [(osv (some b11) 0 1 1), (osv (some b12) 0 1 1)]) (is := [0, 1]) (vs := [(osv (some b11) 0 1 1), (osv (some b12) 0 1 1)]) (css := [[(osv (some b11) 0 1 1)], [(osv (some b12) 0 1 1)]]) pl32 ti32 rfl rfl rfl ⟨(one_cells (osv_one _ _ _ _)), ⟨(one_cells (osv_one _ _ _ _)), trivial⟩⟩ rfl ?_)
  refine Rl.op0 (OpY.store (vs := [(osv (some b11) 0 1 1), (osv (some b12) 0 1 1)]) ti32 rfl rfl rfl rfl (ones_cons (osv_one _ _ _ _) (ones_cons (osv_one _ _ _ _) ones_nil)) hL12 3 rfl rfl (Nat.le_of_ble_eq_true rfl) ?_)
  intro w13 (hL13 : Go.X.Loc [] [] w w13 [some b12, some b11, ob10, some b6, some b1] [Cont.cells ([] ++ ([(Value.slice none 0 0)] ++ [])), Cont.cells ([] ++ ([(Value.bool false)] ++ [])), Cont.cells ([] ++ (cs10 ++ sp10)), Cont.cells [(osv (some b11) 0 1 1), (osv (some b12) 0 1 1)], Cont.cells [d_v, d_v1]]) hS13
  have K13 := ks w hS13
  refine Rl.op (OpY.assign (v := (Value.int .i64 0)) rfl ?_)
  refine Rl.nil ?_
  have f12 := (((hE12.mono (K11 None)).mono (K12 None)).mono (K13 None))
  have f13 := hL13.freezeRow 1 rfl rfl f12 rfl rfl rfl hc12
  have hp11 := hL13.pick [0, 2, 3, 4] rfl rfl rfl
  have hL14 : Go.X.Loc [] [] w w13 [some b12, ob10, some b6, some b1] [Cont.cells ([] ++ ([(Value.slice none 0 0)] ++ [])), Cont.cells ([] ++ (cs10 ++ sp10)), Cont.cells [(osv (some b11) 0 1 1), (osv (some b12) 0 1 1)], Cont.cells [d_v, d_v1]] := hp11.1
  have K14 := ks w hp11.2
  have f14 := (((hE13.mono (K12 None)).mono (K13 None)).mono (K14 None))
  have f15 := hL14.freezeRow 0 rfl rfl f14 rfl rfl rfl hc13
  have hp12 := hL14.pick [1, 2, 3] rfl rfl rfl
  have hL15 : Go.X.Loc [] [] w w13 [ob10, some b6, some b1] [Cont.cells ([] ++ (cs10 ++ sp10)), Cont.cells [(osv (some b11) 0 1 1), (osv (some b12) 0 1 1)], Cont.cells [d_v, d_v1]] := hp12.1
  have K15 := ks w hp12.2
  refine Swp.ret ?_
  obtain rfl := Option.some.inj h
  refine ⟨[(Value.agg #[(osv (some b11) 0 1 1), (osv (some b12) 0 1 1)]), (Value.int .i64 0)], ⟨⟨⟨b6, 0, none⟩, rfl, res_boxA Tryd.underlying32 rfl ti32 (hL15.at 1 rfl rfl) rfl⟩, ⟨rfl, trivial⟩⟩, ⟨_, rfl, hL15.done, ?_⟩⟩
  have f16 := (f13.mono (K15 None))
  exact ⟨(osv (some b11) 0 1 1), (osv (some b12) 0 1 1), rfl, (f16.mono Hv.out), (f15.mono Hv.out), trivial⟩
 ·
  replace h := ite_f hc11 h
  refine Swp.skip (Swp.seq (Swp.region rfl (Rl.op (OpY.move (v := (osv ob10 0 (List.length r10) cap10)) rfl ?_))))
  obtain ⟨r11, q18, h⟩ := bind_some h
  have f17 := (f10.mono (K10 S))
  have f18 := (f11.mono (K10 S))
  refine Rl.op (OpY.call en44 rfl rfl (aPartition_w N d r10 b1 d_v d_v1 (osv ob10 0 (List.length r10) cap10) _ Any (hG.ext hL10.done) (own_any (hL10.at 2 rfl rfl)) (f17.mono vw_any) (f18.mono vw_any) (own_row_any (pre := []) (o := 0) (n := (List.length r10)) (cap := cap10) (hL10.at 0 rfl rfl) hE11 vw_any rfl rfl rfl hc10) r11 q18) ?_)
  rintro _ w14 hE14 ⟨ob11, cap11, cs11, sp11, rfl, hN11, hE15, hc14, -⟩
  replace hE15 := hE15.mono (Hv.freshO (S := None) hL10 [ob11])
  have hp13 := hL10.adoptL hE14 hN11
  have hL16 := hp13.1
  have K16 := ks w hp13.2
  refine Rl.op (OpY.assign (v := (osv ob11 0 (List.length r11) cap11)) rfl ?_)
  refine Rl.nil (Swp.seq (Swp.region rfl (Rl.op (OpY.alloc (cs := [(Value.slice none 0 0), (Value.slice none 0 0)]) ti32 rfl hL16 ?_))))
  intro b13 w15 hL17 hS14
  have K17 := ks w hS14
  refine Rl.nil (Swp.seq (Swp.region rfl (Rl.op (OpY.makeMap (kf := (fun x : Int => Value.int .i64 x)) (vf := (fun x : Int => Value.int .i64 x)) hL17 ?_))))
  intro b14 w16 hL18 hS15
  have K18 := ks w hS15
  refine Rl.op (OpY.move (v := (osv ob11 0 (List.length r11) cap11)) rfl ?_)
  obtain ⟨x11, q19, h⟩ := bind_some h
  obtain ⟨n11, q20, q21⟩ := idx_some q19
  have q22 := (List.getElem?_eq_some_iff.1 q21).1
  have f19 := ((hE15.mono (K17 None)).mono (K18 None))
  obtain ⟨b15, hb11⟩ := hL18.row_some 2 rfl rfl (row_pos (pre := []) f19 q21 (Nat.lt_of_sub_eq_succ rfl))
  refine Rl.op (OpY.ixRowD (r := (rInt .i64)) (b := b15) (o := 0) (n := n11) (m := (List.length r11)) (xs := r11) (q := (0 + n11 * (rInt .i64).sz)) Tryd.underlying78 ti3 (osv_some hb11) rfl rfl q20 q22 rfl ?_)
  obtain ⟨vs11, q23, q24, q25⟩ := row_elem (pre := []) (sp := sp11) f19 q21
  obtain rfl := q24
  refine Rl.op (OpY.ldElem1 (v := (Value.int .i64 x11)) Tryd.underlying3 rfl rfl (own_some hb11 (hL18.at 2 rfl rfl)) q25 ?_)
  refine Rl.op0 (OpY.mapIns (kf := (fun x : Int => Value.int .i64 x)) (vf := (fun x : Int => Value.int .i64 x)) (m := ([] : (List (Int × Int)))) (x := x11) (y := 0) mky_3 Tryd.underlying80 rfl rfl rfl hL18 0 rfl rfl ?_)
  intro w17 (hL19 : Go.X.Loc [] [] w w17 [some b14, some b13, ob11, ob10, some b6, some b1] [(mcont (fun x : Int => Value.int .i64 x) (fun x : Int => Value.int .i64 x) (mput ([] : (List (Int × Int))) x11 0)), Cont.cells [(Value.slice none 0 0), (Value.slice none 0 0)], Cont.cells ([] ++ (cs11 ++ sp11)), Cont.cells ([] ++ (cs10 ++ sp10)), Cont.cells [(Value.slice none 0 0), (Value.slice none 0 0)], Cont.cells [d_v, d_v1]]) hS16
  have K19 := ks w hS16
  refine Rl.op (OpY.move (v := (Value.map (some b14))) rfl ?_)
  refine Rl.op (OpY.assign (v := (Value.map (some b14))) rfl ?_)
  refine Rl.nil (Swp.seq (Swp.region rfl ?_))
  have hE16 : Els (rInt .i64) (Hv w.heap.size None [some b14, some b13, ob11, ob10, some b6, some b1] w17) [(Value.int .i64 0)] [0] := (Els.cons (a := [(Value.int .i64 0)]) rfl Els.nil)
  refine Rl.op (OpY.litRow (r := (rInt .i64)) (vs := [(Value.int .i64 0)]) (css := [[(Value.int .i64 0)]]) (xs := [0]) Tryd.underlying78 ti3 (Nat.le_of_ble_eq_true rfl) rfl rfl ⟨rfl, rfl, trivial⟩ (Nat.le_of_ble_eq_true rfl) hE16 rfl hL19 ?_)
  intro b16 w18 hc15 hL20 hS17
  have K20 := ks w hS17
  refine Rl.op (OpY.assign (v := (osv (some b16) 0 1 1)) rfl ?_)
  refine Rl.nil (Swp.seq (Swp.seq (Swp.region rfl (Rl.op (OpY.assign (v := (Value.int .i64 0)) rfl ?_)))))
  refine Rl.nil ?_
  obtain ⟨s10, hl10, g10⟩ := bind_some h
  refine Swp.join (fun e w' => ∃ (accept10 : (List Bool)) (edges10 : (List (List AEdge))) (ob12 : Option Nat) (cap12 : Nat) (sp12 : List Value) (cs12 : List Value) (ln10 : Nat) (ob13 : Option Nat) (cap13 : Nat) (sp13 : List Value) (cs13 : List Value) (ln11 : Nat) (u : Env), (accept10, edges10) = s10 ∧ e = upds [(2, (Value.pointer (some ⟨b6, 0, none⟩))), (6, (Value.pointer (some ⟨b13, 0, none⟩)))] u ∧ Go.X.Loc [] [] w w' [some b6, some b13, ob12, ob13] [Cont.cells [(Value.slice none 0 0), (Value.slice none 0 0)], Cont.cells [(osv ob12 0 ln10 cap12), (osv ob13 0 ln11 cap13)], Cont.cells ([] ++ (cs12 ++ sp12)), Cont.cells ([] ++ (cs13 ++ sp13))] ∧ Keep w.heap.size [some b16, some b14, some b13, ob11, ob10, some b6, some b1] w18 [some b6, some b13, ob12, ob13] w' ∧ Els rBool (Hv w.heap.size None [some b6, some b13, ob12, ob13] w') cs12 accept10 ∧ ln10 = List.length accept10 ∧ (cs12 ++ sp12).length = cap12 * rBool.sz ∧ Els (rSl rAEdge) (Hv w.heap.size None [some b6, some b13, ob12, ob13] w') cs13 edges10 ∧ ln11 = List.length edges10 ∧ (cs13 ++ sp13).length = cap13 * (rSl rAEdge).sz ∧ True) ?_ ?_
  ·
   refine Swp.block ?_
   have hp14 := hL20.addNil
   have hL21 : Go.X.Loc [] [] w w18 [none, some b16, some b14, some b13, ob11, ob10, some b6, some b1] [Cont.cells ([] ++ ([] ++ [])), Cont.cells ([] ++ ([(Value.int .i64 0)] ++ [])), (mcont (fun x : Int => Value.int .i64 x) (fun x : Int => Value.int .i64 x) (mput ([] : (List (Int × Int))) x11 0)), Cont.cells [(Value.slice none 0 0), (Value.slice none 0 0)], Cont.cells ([] ++ (cs11 ++ sp11)), Cont.cells ([] ++ (cs10 ++ sp10)), Cont.cells [(Value.slice none 0 0), (Value.slice none 0 0)], Cont.cells [d_v, d_v1]] := hp14.1
   have K21 := ks w hp14.2
   have hp15 := hL21.addNil
   have hL22 : Go.X.Loc [] [] w w18 [none, none, some b16, some b14, some b13, ob11, ob10, some b6, some b1] [Cont.cells ([] ++ ([] ++ [])), Cont.cells ([] ++ ([] ++ [])), Cont.cells ([] ++ ([(Value.int .i64 0)] ++ [])), (mcont (fun x : Int => Value.int .i64 x) (fun x : Int => Value.int .i64 x) (mput ([] : (List (Int × Int))) x11 0)), Cont.cells [(Value.slice none 0 0), (Value.slice none 0 0)], Cont.cells ([] ++ (cs11 ++ sp11)), Cont.cells ([] ++ (cs10 ++ sp10)), Cont.cells [(Value.slice none 0 0), (Value.slice none 0 0)], Cont.cells [d_v, d_v1]] := hp15.1
   have K22 := ks w hp15.2
   have hp16 := hL22.pick [8, 7, 5, 4, 1, 0, 3, 2] rfl rfl rfl
   have hL23 : Go.X.Loc [] [] w w18 [some b1, some b6, ob11, some b13, none, none, some b14, some b16] [Cont.cells [d_v, d_v1], Cont.cells [(Value.slice none 0 0), (Value.slice none 0 0)], Cont.cells ([] ++ (cs11 ++ sp11)), Cont.cells [(osv none 0 (List.length ([] : (List Bool))) 0), (osv none 0 (List.length ([] : (List (List AEdge)))) 0)], Cont.cells ([] ++ ([] ++ [])), Cont.cells ([] ++ ([] ++ [])), (mcont (fun x : Int => Value.int .i64 x) (fun x : Int => Value.int .i64 x) (mput ([] : (List (Int × Int))) x11 0)), Cont.cells ([] ++ ([(Value.int .i64 0)] ++ []))] := hp16.1
   have K23 := ks w hp16.2
   have f20 := (((Els.nil (r := rBool)).mono (K22 None)).mono (K23 None))
   have f21 := ((Els.nil (r := (rSl rAEdge))).mono (K23 None))
   have f22 := ((((hE16.mono (K20 None)).mono (K21 None)).mono (K22 None)).mono (K23 None))
   refine Swp.loopM hl10 (fun (ss : ((List Bool) × (List (List AEdge)) × (List (Int × Int)) × (List Int) × Int)) (e : Env) (w' : World) => match ss with | (accept11, edges11, number10, states10, i10) => ∃ (ob14 : Option Nat) (cap14 : Nat) (sp14 : List Value) (cs14 : List Value) (ln12 : Nat) (ob15 : Option Nat) (cap15 : Nat) (sp15 : List Value) (cs15 : List Value) (ln13 : Nat) (ob16 : Option Nat) (cap16 : Nat) (sp16 : List Value) (cs16 : List Value) (ln14 : Nat) (u : Env), e = upds [(1, (Value.pointer (some ⟨b1, 0, none⟩))), (2, (Value.pointer (some ⟨b6, 0, none⟩))), (5, (osv ob11 0 (List.length r11) cap11)), (6, (Value.pointer (some ⟨b13, 0, none⟩))), (7, (Value.map (some b14))), (8, (osv ob16 0 ln14 cap16)), (9, (Value.int .i64 i10))] u ∧ Go.X.Loc [] [] w w' [some b1, some b6, ob11, some b13, ob14, ob15, some b14, ob16] [Cont.cells [d_v, d_v1], Cont.cells [(Value.slice none 0 0), (Value.slice none 0 0)], Cont.cells ([] ++ (cs11 ++ sp11)), Cont.cells [(osv ob14 0 ln12 cap14), (osv ob15 0 ln13 cap15)], Cont.cells ([] ++ (cs14 ++ sp14)), Cont.cells ([] ++ (cs15 ++ sp15)), (mcont (fun x : Int => Value.int .i64 x) (fun x : Int => Value.int .i64 x) number10), Cont.cells ([] ++ (cs16 ++ sp16))] ∧ Keep w.heap.size [some b16, some b14, some b13, ob11, ob10, some b6, some b1] w18 [some b1, some b6, ob11, some b13, ob14, ob15, some b14, ob16] w' ∧ Els rBool (Hv w.heap.size None [some b1, some b6, ob11, some b13, ob14, ob15, some b14, ob16] w') cs14 accept11 ∧ ln12 = List.length accept11 ∧ (cs14 ++ sp14).length = cap14 * rBool.sz ∧ Els (rSl rAEdge) (Hv w.heap.size None [some b1, some b6, ob11, some b13, ob14, ob15, some b14, ob16] w') cs15 edges11 ∧ ln13 = List.length edges11 ∧ (cs15 ++ sp15).length = cap15 * (rSl rAEdge).sz ∧ Els (rInt .i64) (Hv w.heap.size None [some b1, some b6, ob11, some b13, ob14, ob15, some b14, ob16] w') cs16 states10 ∧ ln14 = List.length states10 ∧ (cs16 ++ sp16).length = cap16 * (rInt .i64).sz ∧ True) ⟨none, 0, [], [], (List.length ([] : (List Bool))), none, 0, [], [], (List.length ([] : (List (List AEdge)))), some b16, 1, [], [(Value.int .i64 0)], 1, _, (upds_sym ⟨rfl, rfl, rfl, rfl, rfl, rfl, rfl, trivial⟩), hL23, (Keep.trans (Keep.trans K21 K22) K23), f20, rfl, (show ([] ++ [] : List Value).length = 0 * rBool.sz by simp), f21, rfl, (show ([] ++ [] : List Value).length = 0 * (rSl rAEdge).sz by simp), f22, rfl, hc15, trivial⟩ ?_
   rintro ⟨accept11, edges11, number10, states10, i10⟩ oo _ w19 ⟨ob14, cap14, sp14, cs14, ln12, ob15, cap15, sp15, cs15, ln13, ob16, cap16, sp16, cs16, ln14, u, rfl, hL24, K24, hE17, rfl, hc16, hE18, rfl, hc17, hE19, rfl, hc18, -⟩ h hd10
   rw [aMinimize_b1] at h
   refine Swp.seq (Swp.seq (Swp.region rfl (Rl.op (OpY.move (v := (Value.int .i64 i10)) rfl ?_))))
   refine Rl.op (OpY.move (v := (osv ob16 0 (List.length states10) cap16)) rfl ?_)
   refine Rl.op (OpY.lenRow (pre := []) (r := (rInt .i64)) (xs := states10) Tryd.underlying78 rfl (hL24.at 7 rfl rfl) hE19 rfl rfl ?_)
   refine Rl.op (OpY.lss (x := i10) (y := (List.length states10 : Int)) ((i10 : Int) < (List.length states10 : Int)) rfl rfl Iff.rfl ?_)
   refine Rl.nil ?_
   refine Swp.cond_d ((i10 : Int) < (List.length states10 : Int)) rfl (fun hc19 => ?_) (fun hc19 => ?_)
   ·
    replace h := ite_t hc19 h
    refine Swp.skip (Swp.seq (Swp.block (Swp.seq (Swp.region rfl (Rl.op (OpY.move (v := (osv ob16 0 (List.length states10) cap16)) rfl ?_))))))
    refine Rl.op (OpY.move (v := (Value.int .i64 i10)) rfl ?_)
    obtain ⟨x12, q26, h⟩ := bind_some h
    obtain ⟨n12, q27, q28⟩ := idx_some q26
    have q29 := (List.getElem?_eq_some_iff.1 q28).1
    obtain ⟨b17, hb12⟩ := hL24.row_some 7 rfl rfl (row_pos (pre := []) hE19 q28 (Nat.lt_of_sub_eq_succ rfl))
    refine Rl.op (OpY.ixRowD (r := (rInt .i64)) (b := b17) (o := 0) (n := n12) (m := (List.length states10)) (xs := states10) (q := (0 + n12 * (rInt .i64).sz)) Tryd.underlying78 ti3 (osv_some hb12) rfl rfl q27 q29 rfl ?_)
    obtain ⟨vs12, q30, q31, q32⟩ := row_elem (pre := []) (sp := sp16) hE19 q28
    obtain rfl := q31
    refine Rl.op (OpY.ldElem1 (v := (Value.int .i64 x12)) Tryd.underlying3 rfl rfl (own_some hb12 (hL24.at 7 rfl rfl)) q32 ?_)
    refine Rl.op (OpY.assign (v := (Value.int .i64 x12)) rfl ?_)
    refine Rl.nil (Swp.seq (Swp.region rfl (Rl.op (OpY.fieldAddr (q := 0) Tryd.underlying32 rfl ti22 rfl rfl rfl ?_))))
    refine Rl.op (OpY.ldBox1 (v := d_v) Tryd.underlying22 rfl rfl (hL24.at 0 rfl rfl) rfl ?_)
    refine Rl.op (OpY.move (v := (Value.int .i64 x12)) rfl ?_)
    obtain ⟨x13, q33, h⟩ := bind_some h
    obtain ⟨n13, q34, q35⟩ := idx_some q33
    have f23 := ((((((f17.mono (K16 S)).mono (K17 S)).mono (K18 S)).mono (K19 S)).mono (K20 S)).mono (K24 S))
    obtain ⟨b18, o10, c10, vs13, q36, q37, f24, q38⟩ := Rs.get f23 q35
    obtain rfl := q38
    refine Rl.op (OpY.ixRoD (r := rBool) (v := d_v) (n := n13) (m := (o10 + n13 * rBool.sz)) Tryd.underlying22 ti4 rfl q36 rfl q34 q35 rfl ?_)
    refine Rl.op (OpY.ldRo1 (v := (Value.bool x13)) Tryd.underlying4 rfl rfl vw_view f24 ?_)
    obtain ⟨s11, h, g11⟩ := bind_some h
    refine Rl.op (OpY.callg (T := fun e w' => ∃ (accept12 : (List Bool)) (edgesL10 : (List AEdge)) (x14 : Int) (ob17 : Option Nat) (cap17 : Nat) (sp17 : List Value) (cs17 : List Value) (ln15 : Nat) (ob18 : Option Nat) (cap18 : Nat) (sp18 : List Value) (cs18 : List Value), (accept12, edgesL10, x14) = s11 ∧ e = Ending.returned (Value.int .i64 x14) ∧ Go.X.Loc [] [] w w' [some b1, some b6, ob11, some b13, ob17, ob18, none, some b14, ob16] [Cont.cells [d_v, d_v1], Cont.cells [(Value.slice none 0 0), (Value.slice none 0 0)], Cont.cells ([] ++ (cs11 ++ sp11)), Cont.cells [(osv ob17 0 ln15 cap17), (osv ob18 0 (List.length edges11 + 1) cap18)], Cont.cells ([] ++ (cs17 ++ sp17)), Cont.cells ([] ++ ((cs15 ++ [(osv none 0 (List.length ([] : (List AEdge))) 0)]) ++ sp18)), Cont.cells ([] ++ (cs18 ++ [])), (mcont (fun x : Int => Value.int .i64 x) (fun x : Int => Value.int .i64 x) number10), Cont.cells ([] ++ (cs16 ++ sp16))] ∧ Keep w.heap.size [some b1, some b6, ob11, some b13, ob14, ob15, some b14, ob16] w19 [some b1, some b6, ob11, some b13, ob17, ob18, none, some b14, ob16] w' ∧ Els rBool (Hv w.heap.size None [some b1, some b6, ob11, some b13, ob17, ob18, none, some b14, ob16] w') cs17 accept12 ∧ ln15 = List.length accept12 ∧ (cs17 ++ sp17).length = cap17 * rBool.sz ∧ (List.length cs15 + 1) + List.length sp18 = cap18 * (rSl rAEdge).sz ∧ Els rAEdge (Hv w.heap.size None [some b1, some b6, ob11, some b13, ob17, ob18, none, some b14, ob16] w') cs18 edgesL10 ∧ (List.length ([] : (List AEdge))) = List.length edgesL10 ∧ (cs18 ++ []).length = 0 * rAEdge.sz ∧ True) en45 rfl rfl ?_ ?_)
    ·
     refine calls_of (l := [(Value.pointer (some ⟨b13, 0, none⟩)), (Value.bool x13)]) (rl := [.tmp 4]) (n := 30) Tryd.func45 rfl rfl rfl (Nat.le_of_ble_eq_true rfl) ?_
     refine Swp.seq (Swp.region rfl (Rl.op (OpY.assign (v := (Value.int .i64 0)) rfl ?_)))
     refine Rl.nil (Swp.seq (Swp.region rfl (Rl.op (OpY.move (v := (Value.pointer (some ⟨b13, 0, none⟩))) rfl ?_))))
     refine Rl.op (OpY.move (v := (Value.pointer (some ⟨b13, 0, none⟩))) rfl ?_)
     refine Rl.op (OpY.nilCheck (b := ⟨b13, 0, none⟩) rfl ?_)
     refine Rl.op (OpY.fieldAddr (q := 0) Tryd.underlying32 rfl ti22 rfl rfl rfl ?_)
     refine Rl.op (OpY.ldBox1 (v := (osv ob14 0 (List.length accept11) cap14)) Tryd.underlying22 rfl rfl (hL24.at 3 rfl rfl) rfl ?_)
     refine Rl.op (OpY.move (v := (Value.bool x13)) rfl ?_)
     have hE20 : Els rBool (Hv w.heap.size None [some b1, some b6, ob11, some b13, ob14, ob15, some b14, ob16] w19) [(Value.bool x13)] [x13] := (Els.cons (a := [(Value.bool x13)]) rfl Els.nil)
     refine Rl.op (OpY.litRow (r := rBool) (vs := [(Value.bool x13)]) (css := [[(Value.bool x13)]]) (xs := [x13]) Tryd.underlying22 ti4 (Nat.le_of_ble_eq_true rfl) rfl rfl ⟨rfl, rfl, trivial⟩ (Nat.le_of_ble_eq_true rfl) hE20 rfl hL24 ?_)
     intro b19 w20 hc20 hL25 hS18
     have K25 := ks w hS18
     obtain ⟨x15, q39, h⟩ := bind_some h
     obtain ⟨q40, q41, q42⟩ := apnd_some q39
     have f25 := (hE20.mono (K25 None))
     have f26 := (hE17.mono (K25 None))
     refine Rl.op (OpY.apRowX (r := rBool) (H := (Hv w.heap.size None [some b19, some b1, some b6, ob11, some b13, ob14, ob15, some b14, ob16] w20)) (cs := cs14) (sp := sp14) (xs := accept11) (ys := [x13]) (Y := x15) (n := (List.length accept11)) (cap := cap14) (i := 5) Tryd.underlying22 ti4 rfl rfl rfl rfl hL25 rfl rfl f26 rfl hc16 (Src.row (pre := []) (o := 0) (n := 1) (cap := 1) (hL25.at 0 rfl rfl) f25 rfl rfl rfl) (Els.anyH (fun _ _ _ _ h => h) f25) q40 q41 q42 ?_)
     intro ob19 cap19 sp19 cs19 w21 hE21 hc21 (hL26 : Go.X.Loc [] [] w w21 [some b19, some b1, some b6, ob11, some b13, ob19, ob15, some b14, ob16] [Cont.cells ([] ++ ([(Value.bool x13)] ++ [])), Cont.cells [d_v, d_v1], Cont.cells [(Value.slice none 0 0), (Value.slice none 0 0)], Cont.cells ([] ++ (cs11 ++ sp11)), Cont.cells [(osv ob14 0 (List.length accept11) cap14), (osv ob15 0 (List.length edges11) cap15)], Cont.cells ([] ++ (cs19 ++ sp19)), Cont.cells ([] ++ (cs15 ++ sp15)), (mcont (fun x : Int => Value.int .i64 x) (fun x : Int => Value.int .i64 x) number10), Cont.cells ([] ++ (cs16 ++ sp16))]) hS19
     have K26 := ks w hS19
     refine Rl.op (OpY.nilCheck (b := ⟨b13, 0, none⟩) rfl ?_)
     refine Rl.op (OpY.fieldAddr (q := 0) Tryd.underlying32 rfl ti22 rfl rfl rfl ?_)
     refine Rl.op0 (OpY.store (vs := [(osv ob19 0 (List.length x15) cap19)]) ti22 rfl rfl (one_cells (osv_one ob19 0 (List.length x15) cap19)) rfl (ones_cons (osv_one ob19 0 (List.length x15) cap19) ones_nil) hL26 4 rfl rfl (Nat.le_of_ble_eq_true rfl) ?_)
     intro w22 (hL27 : Go.X.Loc [] [] w w22 [some b19, some b1, some b6, ob11, some b13, ob19, ob15, some b14, ob16] [Cont.cells ([] ++ ([(Value.bool x13)] ++ [])), Cont.cells [d_v, d_v1], Cont.cells [(Value.slice none 0 0), (Value.slice none 0 0)], Cont.cells ([] ++ (cs11 ++ sp11)), Cont.cells [(osv ob19 0 (List.length x15) cap19), (osv ob15 0 (List.length edges11) cap15)], Cont.cells ([] ++ (cs19 ++ sp19)), Cont.cells ([] ++ (cs15 ++ sp15)), (mcont (fun x : Int => Value.int .i64 x) (fun x : Int => Value.int .i64 x) number10), Cont.cells ([] ++ (cs16 ++ sp16))]) hS20
     have K27 := ks w hS20
     refine Rl.nil (Swp.seq (Swp.region rfl (Rl.op (OpY.move (v := (Value.pointer (some ⟨b13, 0, none⟩))) rfl ?_))))
     refine Rl.op (OpY.move (v := (Value.pointer (some ⟨b13, 0, none⟩))) rfl ?_)
     refine Rl.op (OpY.nilCheck (b := ⟨b13, 0, none⟩) rfl ?_)
     refine Rl.op (OpY.fieldAddr (q := 1) Tryd.underlying32 rfl ti30 rfl rfl rfl ?_)
     refine Rl.op (OpY.ldBox1 (v := (osv ob15 0 (List.length edges11) cap15)) Tryd.underlying30 rfl rfl (hL27.at 4 rfl rfl) rfl ?_)
     have hE22 : Els (rSl rAEdge) (Hv w.heap.size None [some b19, some b1, some b6, ob11, some b13, ob19, ob15, some b14, ob16] w22) [(Value.slice none 0 0)] [[]] := (Els.cons (a := [(Value.slice none 0 0)]) ⟨_, rfl, Rs.nil⟩ Els.nil)
     refine Rl.op (OpY.litRow (r := (rSl rAEdge)) (vs := [(Value.slice none 0 0)]) (css := [[(Value.slice none 0 0)]]) (xs := [[]]) Tryd.underlying30 ti58 (Nat.le_of_ble_eq_true rfl) rfl rfl ⟨rfl, rfl, trivial⟩ (Nat.le_of_ble_eq_true rfl) hE22 rfl hL27 ?_)
     intro b20 w23 hc22 hL28 hS21
     have K28 := ks w hS21
     obtain ⟨u10, q43, h⟩ := bind_some h
     have q44 := chk_some q43
     have f27 := (hE22.mono (K28 None))
     have f28 := ((((hE18.mono (K25 None)).mono (K26 None)).mono (K27 None)).mono (K28 None))
     refine Rl.op (OpY.apOpen (r := (rSl rAEdge)) (H := (Hv w.heap.size None [some b20, some b19, some b1, some b6, ob11, some b13, ob19, ob15, some b14, ob16] w23)) (cs := cs15) (sp := sp15) (xs := edges11) (n := (List.length edges11)) (cap := cap15) (i := 7) Tryd.underlying30 ti58 rfl rfl rfl rfl hL28 rfl rfl f28 rfl hc17 (Src.row (pre := []) (o := 0) (n := 1) (cap := 1) (hL28.at 0 rfl rfl) f27 rfl rfl rfl) q44.2 q44.1 ?_)
     intro ob20 cap20 sp20 w24 hc23 (hL29 : Go.X.Loc [] [] w w24 [some b20, some b19, some b1, some b6, ob11, some b13, ob19, ob20, some b14, ob16] [Cont.cells ([] ++ ([(Value.slice none 0 0)] ++ [])), Cont.cells ([] ++ ([(Value.bool x13)] ++ [])), Cont.cells [d_v, d_v1], Cont.cells [(Value.slice none 0 0), (Value.slice none 0 0)], Cont.cells ([] ++ (cs11 ++ sp11)), Cont.cells [(osv ob19 0 (List.length x15) cap19), (osv ob15 0 (List.length edges11) cap15)], Cont.cells ([] ++ (cs19 ++ sp19)), Cont.cells ([] ++ ((cs15 ++ [(Value.slice none 0 0)]) ++ sp20)), (mcont (fun x : Int => Value.int .i64 x) (fun x : Int => Value.int .i64 x) number10), Cont.cells ([] ++ (cs16 ++ sp16))]) hS22
     have K29 := ks w hS22
     have hp17 := hL29.addNil
     have hL30 : Go.X.Loc [] [] w w24 [none, some b20, some b19, some b1, some b6, ob11, some b13, ob19, ob20, some b14, ob16] [Cont.cells ([] ++ ([] ++ [])), Cont.cells ([] ++ ([(Value.slice none 0 0)] ++ [])), Cont.cells ([] ++ ([(Value.bool x13)] ++ [])), Cont.cells [d_v, d_v1], Cont.cells [(Value.slice none 0 0), (Value.slice none 0 0)], Cont.cells ([] ++ (cs11 ++ sp11)), Cont.cells [(osv ob19 0 (List.length x15) cap19), (osv ob15 0 (List.length edges11) cap15)], Cont.cells ([] ++ (cs19 ++ sp19)), Cont.cells ([] ++ ((cs15 ++ [(Value.slice none 0 0)]) ++ sp20)), (mcont (fun x : Int => Value.int .i64 x) (fun x : Int => Value.int .i64 x) number10), Cont.cells ([] ++ (cs16 ++ sp16))] := hp17.1
     have K30 := ks w hp17.2
     have hE23 : Els rAEdge (Hv w.heap.size None [none, some b20, some b19, some b1, some b6, ob11, some b13, ob19, ob20, some b14, ob16] w24) [] [] := Els.nil
     refine Rl.op (OpY.nilCheck (b := ⟨b13, 0, none⟩) rfl ?_)
     refine Rl.op (OpY.fieldAddr (q := 1) Tryd.underlying32 rfl ti30 rfl rfl rfl ?_)
     refine Rl.op0 (OpY.store (vs := [(osv ob20 0 (List.length edges11 + 1) cap20)]) ti30 rfl rfl (one_cells (osv_one ob20 0 (List.length edges11 + 1) cap20)) rfl (ones_cons (osv_one ob20 0 (List.length edges11 + 1) cap20) ones_nil) hL30 6 rfl rfl (Nat.le_of_ble_eq_true rfl) ?_)
     intro w25 (hL31 : Go.X.Loc [] [] w w25 [none, some b20, some b19, some b1, some b6, ob11, some b13, ob19, ob20, some b14, ob16] [Cont.cells ([] ++ ([] ++ [])), Cont.cells ([] ++ ([(Value.slice none 0 0)] ++ [])), Cont.cells ([] ++ ([(Value.bool x13)] ++ [])), Cont.cells [d_v, d_v1], Cont.cells [(Value.slice none 0 0), (Value.slice none 0 0)], Cont.cells ([] ++ (cs11 ++ sp11)), Cont.cells [(osv ob19 0 (List.length x15) cap19), (osv ob20 0 (List.length edges11 + 1) cap20)], Cont.cells ([] ++ (cs19 ++ sp19)), Cont.cells ([] ++ ((cs15 ++ [(Value.slice none 0 0)]) ++ sp20)), (mcont (fun x : Int => Value.int .i64 x) (fun x : Int => Value.int .i64 x) number10), Cont.cells ([] ++ (cs16 ++ sp16))]) hS23
     have K31 := ks w hS23
     refine Rl.nil (Swp.seq (Swp.region rfl (Rl.op (OpY.move (v := (Value.pointer (some ⟨b13, 0, none⟩))) rfl ?_))))
     refine Rl.op (OpY.nilCheck (b := ⟨b13, 0, none⟩) rfl ?_)
     refine Rl.op (OpY.fieldAddr (q := 0) Tryd.underlying32 rfl ti22 rfl rfl rfl ?_)
     refine Rl.op (OpY.ldBox1 (v := (osv ob19 0 (List.length x15) cap19)) Tryd.underlying22 rfl rfl (hL31.at 6 rfl rfl) rfl ?_)
     have f29 := ((((((hE21.mono (K26 None)).mono (K27 None)).mono (K28 None)).mono (K29 None)).mono (K30 None)).mono (K31 None))
     refine Rl.op (OpY.lenRow (pre := []) (r := rBool) (xs := x15) Tryd.underlying22 rfl (hL31.at 7 rfl rfl) f29 rfl rfl ?_)
     refine Rl.op (OpY.sub (x := (List.length x15 : Int)) (y := 1) (z := (iw ((List.length x15 : Int) - 1))) rfl rfl rfl ?_)
     refine Rl.op (OpY.assign (v := (Value.int .i64 (iw ((List.length x15 : Int) - 1)))) rfl ?_)
     refine Rl.nil (Swp.ret ?_)
     refine ⟨[(Value.int .i64 (iw ((List.length x15 : Int) - 1)))], ⟨rfl, trivial⟩, ?_⟩
     have hp18 := hL31.pick [3, 4, 5, 6, 7, 8, 0, 9, 10] rfl rfl rfl
     have hL32 : Go.X.Loc [] [] w w25 [some b1, some b6, ob11, some b13, ob19, ob20, none, some b14, ob16] [Cont.cells [d_v, d_v1], Cont.cells [(Value.slice none 0 0), (Value.slice none 0 0)], Cont.cells ([] ++ (cs11 ++ sp11)), Cont.cells [(osv ob19 0 (List.length x15) cap19), (osv ob20 0 (List.length edges11 + 1) cap20)], Cont.cells ([] ++ (cs19 ++ sp19)), Cont.cells ([] ++ ((cs15 ++ [(Value.slice none 0 0)]) ++ sp20)), Cont.cells ([] ++ ([] ++ [])), (mcont (fun x : Int => Value.int .i64 x) (fun x : Int => Value.int .i64 x) number10), Cont.cells ([] ++ (cs16 ++ sp16))] := hp18.1
     have K32 := ks w hp18.2
     have f30 := (f29.mono (K32 None))
     have f31 := ((hE23.mono (K31 None)).mono (K32 None))
     obtain rfl := Option.some.inj h
     exact ⟨x15, ([] : (List AEdge)), (iw ((List.length x15 : Int) - 1)), ob19, cap19, sp19, cs19, (List.length x15), ob20, cap20, sp20, [], rfl, rfl, hL32, (Keep.trans (Keep.trans (Keep.trans (Keep.trans (Keep.trans (Keep.trans (Keep.trans K25 K26) K27) K28) K29) K30) K31) K32), f30, rfl, hc21, hc23, f31, rfl, (show ([] ++ [] : List Value).length = 0 * rAEdge.sz by simp), trivial⟩
    ·
     rintro _ w26 ⟨accept12, edgesL10, x14, ob17, cap17, sp17, cs17, ln15, ob18, cap18, sp18, cs18, rfl, rfl, hL33, K33, hE24, rfl, hc24, hc25, hE25, hl11, hc26, -⟩
     refine ⟨_, rfl, ?_⟩
     replace h := g11
     try dsimp only at h
     refine Rl.nil (Swp.seq (Swp.region rfl (Rl.op (OpY.assign (v := (Value.int .i64 32)) rfl ?_))))
     refine Rl.nil ?_
     obtain ⟨s12, hl12, g12⟩ := bind_some h
     refine Swp.join (fun e w' => ∃ (edgesL11 : (List AEdge)) (number11 : (List (Int × Int))) (states11 : (List Int)) (ob21 : Option Nat) (cap21 : Nat) (sp21 : List Value) (cs20 : List Value) (ln16 : Nat) (ob22 : Option Nat) (cap22 : Nat) (sp22 : List Value) (cs21 : List Value) (ln17 : Nat) (u : Env), (edgesL11, number11, states11) = s12 ∧ e = upds [(1, (Value.pointer (some ⟨b1, 0, none⟩))), (2, (Value.pointer (some ⟨b6, 0, none⟩))), (5, (osv ob11 0 (List.length r11) cap11)), (6, (Value.pointer (some ⟨b13, 0, none⟩))), (7, (Value.map (some b14))), (8, (osv ob22 0 ln17 cap22)), (9, (Value.int .i64 i10))] u ∧ Go.X.Loc [] [] w w' [some b1, some b6, ob11, some b13, ob17, ob18, ob21, some b14, ob22] [Cont.cells [d_v, d_v1], Cont.cells [(Value.slice none 0 0), (Value.slice none 0 0)], Cont.cells ([] ++ (cs11 ++ sp11)), Cont.cells [(osv ob17 0 (List.length accept12) cap17), (osv ob18 0 (List.length edges11 + 1) cap18)], Cont.cells ([] ++ (cs17 ++ sp17)), Cont.cells ([] ++ ((cs15 ++ [(osv ob21 0 ln16 cap21)]) ++ sp18)), Cont.cells ([] ++ (cs20 ++ sp21)), (mcont (fun x : Int => Value.int .i64 x) (fun x : Int => Value.int .i64 x) number11), Cont.cells ([] ++ (cs21 ++ sp22))] ∧ Keep w.heap.size [some b1, some b6, ob11, some b13, ob17, ob18, none, some b14, ob16] w26 [some b1, some b6, ob11, some b13, ob17, ob18, ob21, some b14, ob22] w' ∧ (List.length cs15 + 1) + List.length sp18 = cap18 * (rSl rAEdge).sz ∧ Els rAEdge (Hv w.heap.size None [some b1, some b6, ob11, some b13, ob17, ob18, ob21, some b14, ob22] w') cs20 edgesL11 ∧ ln16 = List.length edgesL11 ∧ (cs20 ++ sp21).length = cap21 * rAEdge.sz ∧ Els (rInt .i64) (Hv w.heap.size None [some b1, some b6, ob11, some b13, ob17, ob18, ob21, some b14, ob22] w') cs21 states11 ∧ ln17 = List.length states11 ∧ (cs21 ++ sp22).length = cap22 * (rInt .i64).sz ∧ True) ?_ ?_
     ·
      refine Swp.block ?_
      have f32 := (hE19.mono (K33 None))
      refine Swp.loopM hl12 (fun (ss : ((List AEdge) × (List (Int × Int)) × (List Int) × Int)) (e : Env) (w' : World) => match ss with | (edgesL12, number12, states12, x16) => ∃ (ob23 : Option Nat) (cap23 : Nat) (sp23 : List Value) (cs22 : List Value) (ln18 : Nat) (ob24 : Option Nat) (cap24 : Nat) (sp24 : List Value) (cs23 : List Value) (ln19 : Nat) (u : Env), e = upds [(1, (Value.pointer (some ⟨b1, 0, none⟩))), (2, (Value.pointer (some ⟨b6, 0, none⟩))), (5, (osv ob11 0 (List.length r11) cap11)), (6, (Value.pointer (some ⟨b13, 0, none⟩))), (7, (Value.map (some b14))), (8, (osv ob24 0 ln19 cap24)), (9, (Value.int .i64 i10)), (10, (Value.int .i64 x12)), (11, (Value.int .i64 x16))] u ∧ Go.X.Loc [] [] w w' [some b1, some b6, ob11, some b13, ob17, ob18, ob23, some b14, ob24] [Cont.cells [d_v, d_v1], Cont.cells [(Value.slice none 0 0), (Value.slice none 0 0)], Cont.cells ([] ++ (cs11 ++ sp11)), Cont.cells [(osv ob17 0 (List.length accept12) cap17), (osv ob18 0 (List.length edges11 + 1) cap18)], Cont.cells ([] ++ (cs17 ++ sp17)), Cont.cells ([] ++ ((cs15 ++ [(osv ob23 0 ln18 cap23)]) ++ sp18)), Cont.cells ([] ++ (cs22 ++ sp23)), (mcont (fun x : Int => Value.int .i64 x) (fun x : Int => Value.int .i64 x) number12), Cont.cells ([] ++ (cs23 ++ sp24))] ∧ Keep w.heap.size [some b1, some b6, ob11, some b13, ob17, ob18, none, some b14, ob16] w26 [some b1, some b6, ob11, some b13, ob17, ob18, ob23, some b14, ob24] w' ∧ (List.length cs15 + 1) + List.length sp18 = cap18 * (rSl rAEdge).sz ∧ Els rAEdge (Hv w.heap.size None [some b1, some b6, ob11, some b13, ob17, ob18, ob23, some b14, ob24] w') cs22 edgesL12 ∧ ln18 = List.length edgesL12 ∧ (cs22 ++ sp23).length = cap23 * rAEdge.sz ∧ Els (rInt .i64) (Hv w.heap.size None [some b1, some b6, ob11, some b13, ob17, ob18, ob23, some b14, ob24] w') cs23 states12 ∧ ln19 = List.length states12 ∧ (cs23 ++ sp24).length = cap24 * (rInt .i64).sz ∧ True) ⟨none, 0, [], cs18, (List.length ([] : (List AEdge))), ob16, cap16, sp16, cs16, (List.length states10), _, (upds_sym ⟨rfl, rfl, rfl, rfl, rfl, rfl, rfl, rfl, rfl, trivial⟩), hL33, Keep.refl, hc25, hE25, hl11, hc26, f32, rfl, hc18, trivial⟩ ?_
      rintro ⟨edgesL12, number12, states12, x16⟩ oo _ w27 ⟨ob23, cap23, sp23, cs22, ln18, ob24, cap24, sp24, cs23, ln19, u, rfl, hL34, K34, hc27, hE26, rfl, hc28, hE27, rfl, hc29, -⟩ h hd11
      rw [aMinimize_b2] at h
      refine Swp.seq (Swp.seq (Swp.region rfl (Rl.op (OpY.move (v := (Value.int .i64 x16)) rfl ?_))))
      refine Rl.op (OpY.leq (x := x16) (y := 126) ((x16 : Int) ≤ 126) rfl rfl Iff.rfl ?_)
      refine Rl.nil ?_
      refine Swp.cond_d ((x16 : Int) ≤ 126) rfl (fun hc30 => ?_) (fun hc30 => ?_)
      ·
       replace h := ite_t hc30 h
       refine Swp.skip (Swp.seq (Swp.block (Swp.seq (Swp.region rfl (Rl.op (OpY.move (v := (Value.int .i64 x12)) rfl ?_))))))
       refine Rl.op (OpY.move (v := (Value.int .i64 x16)) rfl ?_)
       refine Rl.op (OpY.convInt (x := x16) (z := (uw8 x16)) Tryd.underlying3 Tryd.underlying5 rfl rfl ?_)
       obtain ⟨r12, q45, h⟩ := bind_some h
       have f33 := ((f23.mono (K33 S)).mono (K34 S))
       have f34 := ((((((((f18.mono (K16 S)).mono (K17 S)).mono (K18 S)).mono (K19 S)).mono (K20 S)).mono (K24 S)).mono (K33 S)).mono (K34 S))
       refine Rl.op (OpY.call en39 rfl rfl (aStep_w N d x12 (uw8 x16) b1 d_v d_v1 _ Any (own_any (hL34.at 0 rfl rfl)) (f33.mono vw_any) (f34.mono vw_any) r12 q45) ?_)
       rintro _ w28 hE28 ⟨rfl, -⟩
       have hL35 := hL34.ext hE28
       have K35 := ke hL34 hE28
       refine Rl.op (OpY.assign (v := (Value.int .i64 r12)) rfl ?_)
       refine Rl.nil (Swp.seq (Swp.region rfl (Rl.op (OpY.move (v := (osv ob11 0 (List.length r11) cap11)) rfl ?_))))
       refine Rl.op (OpY.move (v := (Value.int .i64 r12)) rfl ?_)
       obtain ⟨r13, q46, h⟩ := bind_some h
       have f35 := ((((((f19.mono (K19 None)).mono (K20 None)).mono (K24 None)).mono (K33 None)).mono (K34 None)).mono (K35 None))
       refine Rl.op (OpY.call en46 rfl rfl (aClass_w N r11 r12 (osv ob11 0 (List.length r11) cap11) _ Any (own_row_any (pre := []) (o := 0) (n := (List.length r11)) (cap := cap11) (hL35.at 2 rfl rfl) f35 vw_any rfl rfl rfl hc14) r13 q46) ?_)
       rintro _ w29 hE29 ⟨rfl, -⟩
       have hL36 := hL35.ext hE29
       have K36 := ke hL35 hE29
       refine Rl.op (OpY.assign (v := (Value.int .i64 r13)) rfl ?_)
       refine Rl.nil (Swp.seq (Swp.seq (Swp.region rfl (Rl.op (OpY.move (v := (Value.int .i64 r13)) rfl ?_)))))
       refine Rl.op (OpY.eql (x := r13) (y := (-1)) ((r13 : Int) = (-1)) rfl rfl Iff.rfl ?_)
       refine Rl.nil ?_
       refine Swp.cond_d ((r13 : Int) = (-1)) rfl (fun hc31 => ?_) (fun hc31 => ?_)
       ·
        replace h := ite_t hc31 h
        refine Swp.exit rfl (Swp.region rfl (Rl.op (OpY.move (v := (Value.int .i64 x16)) rfl ?_)))
        refine Rl.op (OpY.add (x := x16) (y := 1) (z := (iw (x16 + 1))) rfl rfl rfl ?_)
        refine Rl.op (OpY.assign (v := (Value.int .i64 (iw (x16 + 1)))) rfl ?_)
        refine Rl.nil ?_
        have f36 := ((hE26.mono (K35 None)).mono (K36 None))
        have f37 := ((hE27.mono (K35 None)).mono (K36 None))
        obtain rfl := Option.some.inj h
        refine Swp.pop_back ⟨(edgesL12, number12, states12, (iw (x16 + 1))), rfl, ?_⟩
        exact ⟨ob23, cap23, sp23, cs22, (List.length edgesL12), ob24, cap24, sp24, cs23, (List.length states12), _, (upds_sym ⟨rfl, rfl, rfl, rfl, rfl, rfl, rfl, rfl, rfl, trivial⟩), hL36, (Keep.trans (Keep.trans K34 K35) K36), hc27, f36, rfl, hc28, f37, rfl, hc29, trivial⟩
       ·
        replace h := ite_f hc31 h
        refine Swp.skip (Swp.seq (Swp.region rfl (Rl.op (OpY.move (v := (Value.map (some b14))) rfl ?_))))
        refine Rl.op (OpY.move (v := (Value.int .i64 r13)) rfl ?_)
        refine Rl.op (OpY.look (kf := (fun x : Int => Value.int .i64 x)) (vf := (fun x : Int => Value.int .i64 x)) (m := number12) (x := r13) (z := 0) mky_3 Tryd.underlying80 ti3 rfl (hL36.at 7 rfl rfl) rfl ?_)
        refine Rl.op (OpY.move (v := (Value.tuple #[(Value.int .i64 (mget number12 r13 0).1), (Value.bool (mget number12 r13 0).2)])) rfl ?_)
        refine Rl.op (OpY.extract (vs := [(Value.int .i64 (mget number12 r13 0).1), (Value.bool (mget number12 r13 0).2)]) (v := (Value.int .i64 (mget number12 r13 0).1)) rfl rfl ?_)
        refine Rl.op (OpY.extract (vs := [(Value.int .i64 (mget number12 r13 0).1), (Value.bool (mget number12 r13 0).2)]) (v := (Value.bool (mget number12 r13 0).2)) rfl rfl ?_)
        refine Rl.op (OpY.assign (v := (Value.int .i64 (mget number12 r13 0).1)) rfl ?_)
        refine Rl.op (OpY.assign (v := (Value.bool (mget number12 r13 0).2)) rfl ?_)
        refine Rl.nil (Swp.seq (Swp.seq (Swp.region rfl (Rl.op (OpY.move (v := (Value.bool (mget number12 r13 0).2)) rfl ?_)))))
        refine Rl.op (OpY.not (x := (mget number12 r13 0).2) rfl ?_)
        refine Rl.nil ?_
        obtain ⟨s13, h, g13⟩ := bind_some h
        refine Swp.join (fun e w' => ∃ (number13 : (List (Int × Int))) (states13 : (List Int)) (n14 : Int) (ob25 : Option Nat) (cap25 : Nat) (sp25 : List Value) (cs24 : List Value) (ln20 : Nat) (u : Env), (number13, states13, n14) = s13 ∧ e = upds [(1, (Value.pointer (some ⟨b1, 0, none⟩))), (2, (Value.pointer (some ⟨b6, 0, none⟩))), (5, (osv ob11 0 (List.length r11) cap11)), (6, (Value.pointer (some ⟨b13, 0, none⟩))), (7, (Value.map (some b14))), (8, (osv ob25 0 ln20 cap25)), (9, (Value.int .i64 i10)), (10, (Value.int .i64 x12)), (11, (Value.int .i64 x16)), (14, (Value.int .i64 n14))] u ∧ Go.X.Loc [] [] w w' [some b1, some b6, ob11, some b13, ob17, ob18, ob23, some b14, ob25] [Cont.cells [d_v, d_v1], Cont.cells [(Value.slice none 0 0), (Value.slice none 0 0)], Cont.cells ([] ++ (cs11 ++ sp11)), Cont.cells [(osv ob17 0 (List.length accept12) cap17), (osv ob18 0 (List.length edges11 + 1) cap18)], Cont.cells ([] ++ (cs17 ++ sp17)), Cont.cells ([] ++ ((cs15 ++ [(osv ob23 0 (List.length edgesL12) cap23)]) ++ sp18)), Cont.cells ([] ++ (cs22 ++ sp23)), (mcont (fun x : Int => Value.int .i64 x) (fun x : Int => Value.int .i64 x) number13), Cont.cells ([] ++ (cs24 ++ sp25))] ∧ Keep w.heap.size [some b1, some b6, ob11, some b13, ob17, ob18, ob23, some b14, ob24] w29 [some b1, some b6, ob11, some b13, ob17, ob18, ob23, some b14, ob25] w' ∧ (List.length cs15 + 1) + List.length sp18 = cap18 * (rSl rAEdge).sz ∧ Els (rInt .i64) (Hv w.heap.size None [some b1, some b6, ob11, some b13, ob17, ob18, ob23, some b14, ob25] w') cs24 states13 ∧ ln20 = List.length states13 ∧ (cs24 ++ sp25).length = cap25 * (rInt .i64).sz ∧ True) ?_ ?_
        ·
         refine Swp.cond_b (!(mget number12 r13 0).2) rfl (fun hc32 => ?_) (fun hc32 => ?_)
         ·
          replace h := ite_t hc32 h
          refine Swp.seq (Swp.region rfl (Rl.op (OpY.move (v := (osv ob24 0 (List.length states12) cap24)) rfl ?_)))
          have f38 := ((hE27.mono (K35 None)).mono (K36 None))
          refine Rl.op (OpY.lenRow (pre := []) (r := (rInt .i64)) (xs := states12) Tryd.underlying78 rfl (hL36.at 8 rfl rfl) f38 rfl rfl ?_)
          refine Rl.op (OpY.assign (v := (Value.int .i64 (List.length states12 : Int))) rfl ?_)
          refine Rl.nil (Swp.seq (Swp.region rfl (Rl.op (OpY.move (v := (Value.map (some b14))) rfl ?_))))
          refine Rl.op (OpY.move (v := (Value.int .i64 r13)) rfl ?_)
          refine Rl.op (OpY.move (v := (Value.int .i64 (List.length states12 : Int))) rfl ?_)
          refine Rl.op0 (OpY.mapPut (kf := (fun x : Int => Value.int .i64 x)) (vf := (fun x : Int => Value.int .i64 x)) (m := number12) (x := r13) (y := (List.length states12 : Int)) mky_3 Tryd.underlying80 rfl rfl rfl hL36 7 rfl rfl ?_)
          intro w30 (hL37 : Go.X.Loc [] [] w w30 [some b1, some b6, ob11, some b13, ob17, ob18, ob23, some b14, ob24] [Cont.cells [d_v, d_v1], Cont.cells [(Value.slice none 0 0), (Value.slice none 0 0)], Cont.cells ([] ++ (cs11 ++ sp11)), Cont.cells [(osv ob17 0 (List.length accept12) cap17), (osv ob18 0 (List.length edges11 + 1) cap18)], Cont.cells ([] ++ (cs17 ++ sp17)), Cont.cells ([] ++ ((cs15 ++ [(osv ob23 0 (List.length edgesL12) cap23)]) ++ sp18)), Cont.cells ([] ++ (cs22 ++ sp23)), (mcont (fun x : Int => Value.int .i64 x) (fun x : Int => Value.int .i64 x) (mput number12 r13 (List.length states12 : Int))), Cont.cells ([] ++ (cs23 ++ sp24))]) hS24
          have K37 := ks w hS24
          refine Rl.nil (Swp.region rfl (Rl.op (OpY.move (v := (osv ob24 0 (List.length states12) cap24)) rfl ?_)))
          refine Rl.op (OpY.move (v := (Value.int .i64 r12)) rfl ?_)
          have hE30 : Els (rInt .i64) (Hv w.heap.size None [some b1, some b6, ob11, some b13, ob17, ob18, ob23, some b14, ob24] w30) [(Value.int .i64 r12)] [r12] := (Els.cons (a := [(Value.int .i64 r12)]) rfl Els.nil)
          refine Rl.op (OpY.litRow (r := (rInt .i64)) (vs := [(Value.int .i64 r12)]) (css := [[(Value.int .i64 r12)]]) (xs := [r12]) Tryd.underlying78 ti3 (Nat.le_of_ble_eq_true rfl) rfl rfl ⟨rfl, rfl, trivial⟩ (Nat.le_of_ble_eq_true rfl) hE30 rfl hL37 ?_)
          intro b21 w31 hc33 hL38 hS25
          have K38 := ks w hS25
          obtain ⟨x17, q47, h⟩ := bind_some h
          obtain ⟨q48, q49, q50⟩ := apnd_some q47
          have f39 := (hE30.mono (K38 None))
          have f40 := ((f38.mono (K37 None)).mono (K38 None))
          refine Rl.op (OpY.apRowX (r := (rInt .i64)) (H := (Hv w.heap.size None [some b21, some b1, some b6, ob11, some b13, ob17, ob18, ob23, some b14, ob24] w31)) (cs := cs23) (sp := sp24) (xs := states12) (ys := [r12]) (Y := x17) (n := (List.length states12)) (cap := cap24) (i := 9) Tryd.underlying78 ti3 rfl rfl rfl rfl hL38 rfl rfl f40 rfl hc29 (Src.row (pre := []) (o := 0) (n := 1) (cap := 1) (hL38.at 0 rfl rfl) f39 rfl rfl rfl) (Els.anyH (fun _ _ _ _ h => h) f39) q48 q49 q50 ?_)
          intro ob26 cap26 sp26 cs25 w32 hE31 hc34 (hL39 : Go.X.Loc [] [] w w32 [some b21, some b1, some b6, ob11, some b13, ob17, ob18, ob23, some b14, ob26] [Cont.cells ([] ++ ([(Value.int .i64 r12)] ++ [])), Cont.cells [d_v, d_v1], Cont.cells [(Value.slice none 0 0), (Value.slice none 0 0)], Cont.cells ([] ++ (cs11 ++ sp11)), Cont.cells [(osv ob17 0 (List.length accept12) cap17), (osv ob18 0 (List.length edges11 + 1) cap18)], Cont.cells ([] ++ (cs17 ++ sp17)), Cont.cells ([] ++ ((cs15 ++ [(osv ob23 0 (List.length edgesL12) cap23)]) ++ sp18)), Cont.cells ([] ++ (cs22 ++ sp23)), (mcont (fun x : Int => Value.int .i64 x) (fun x : Int => Value.int .i64 x) (mput number12 r13 (List.length states12 : Int))), Cont.cells ([] ++ (cs25 ++ sp26))]) hS26
          have K39 := ks w hS26
          refine Rl.op (OpY.assign (v := (osv ob26 0 (List.length x17) cap26)) rfl ?_)
          refine Rl.nil ?_
          have hp19 := hL39.pick [1, 2, 3, 4, 5, 6, 7, 8, 9] rfl rfl rfl
          have hL40 : Go.X.Loc [] [] w w32 [some b1, some b6, ob11, some b13, ob17, ob18, ob23, some b14, ob26] [Cont.cells [d_v, d_v1], Cont.cells [(Value.slice none 0 0), (Value.slice none 0 0)], Cont.cells ([] ++ (cs11 ++ sp11)), Cont.cells [(osv ob17 0 (List.length accept12) cap17), (osv ob18 0 (List.length edges11 + 1) cap18)], Cont.cells ([] ++ (cs17 ++ sp17)), Cont.cells ([] ++ ((cs15 ++ [(osv ob23 0 (List.length edgesL12) cap23)]) ++ sp18)), Cont.cells ([] ++ (cs22 ++ sp23)), (mcont (fun x : Int => Value.int .i64 x) (fun x : Int => Value.int .i64 x) (mput number12 r13 (List.length states12 : Int))), Cont.cells ([] ++ (cs25 ++ sp26))] := hp19.1
          have K40 := ks w hp19.2
          have f41 := ((hE31.mono (K39 None)).mono (K40 None))
          obtain rfl := Option.some.inj h
          refine Swp.pop_back ?_
          exact ⟨(mput number12 r13 (List.length states12 : Int)), x17, (List.length states12 : Int), ob26, cap26, sp26, cs25, (List.length x17), _, rfl, (upds_sym ⟨rfl, rfl, rfl, rfl, rfl, rfl, rfl, rfl, rfl, rfl, trivial⟩), hL40, (Keep.trans (Keep.trans (Keep.trans K37 K38) K39) K40), hc27, f41, rfl, hc34, trivial⟩
         ·
          replace h := ite_f hc32 h
          refine Swp.skip ?_
          have f42 := ((hE27.mono (K35 None)).mono (K36 None))
          obtain rfl := Option.some.inj h
          refine Swp.pop_back ?_
          exact ⟨number12, states12, (mget number12 r13 0).1, ob24, cap24, sp24, cs23, (List.length states12), _, rfl, (upds_sym ⟨rfl, rfl, rfl, rfl, rfl, rfl, rfl, rfl, rfl, rfl, trivial⟩), hL36, Keep.refl, hc27, f42, rfl, hc29, trivial⟩
        ·
         rintro _ w33 ⟨number13, states13, n14, ob25, cap25, sp25, cs24, ln20, u, rfl, rfl, hL41, K41, hc35, hE32, rfl, hc36, -⟩
         replace h := g13
         try dsimp only at h
         refine Swp.seq (Swp.region rfl (Rl.op (OpY.fieldAddr (q := 1) Tryd.underlying32 rfl ti30 rfl rfl rfl ?_)))
         refine Rl.op (OpY.ldBox1 (v := (osv ob18 0 (List.length edges11 + 1) cap18)) Tryd.underlying30 rfl rfl (hL41.at 3 rfl rfl) rfl ?_)
         refine Rl.op (OpY.move (v := (Value.int .i64 i10)) rfl ?_)
         obtain ⟨u11, q51, h⟩ := bind_some h
         have q52 := chk_some q51
         obtain ⟨b22, hb13⟩ := hL41.row_some 5 rfl rfl (by simp only [List.nil_append, List.length_append, List.length_cons]; omega)
         refine Rl.op (OpY.ixRowD (r := (rSl rAEdge)) (b := b22) (o := 0) (n := (List.length edges11)) (m := (List.length edges11 + 1)) (xs := edges11 ++ [[]]) (q := (0 + (List.length edges11) * (rSl rAEdge).sz)) Tryd.underlying30 ti58 (osv_some hb13) (by rw [List.length_append]; rfl) rfl q52 (by rw [List.length_append]; exact Nat.lt_succ_self _) rfl ?_)
         have f43 := (((((hE18.mono (K33 None)).mono (K34 None)).mono (K35 None)).mono (K36 None)).mono (K41 None))
         refine Rl.op (OpY.ldElem1 (v := (osv ob23 0 (List.length edgesL12) cap23)) Tryd.underlying58 rfl rfl (own_some hb13 (hL41.at 5 rfl rfl)) (open_elem f43 rfl) ?_)
         refine Rl.op (OpY.assign (v := (osv ob23 0 (List.length edgesL12) cap23)) rfl ?_)
         refine Rl.nil (Swp.seq (Swp.region rfl (Rl.op (OpY.move (v := (osv ob23 0 (List.length edgesL12) cap23)) rfl ?_))))
         have f44 := (((hE26.mono (K35 None)).mono (K36 None)).mono (K41 None))
         refine Rl.op (OpY.lenRow (pre := []) (r := rAEdge) (xs := edgesL12) Tryd.underlying58 rfl (hL41.at 6 rfl rfl) f44 rfl rfl ?_)
         refine Rl.op (OpY.sub (x := (List.length edgesL12 : Int)) (y := 1) (z := (iw ((List.length edgesL12 : Int) - 1))) rfl rfl rfl ?_)
         refine Rl.op (OpY.assign (v := (Value.int .i64 (iw ((List.length edgesL12 : Int) - 1)))) rfl ?_)
         refine Rl.nil (Swp.seq ?_)
         obtain ⟨s14, h, g14⟩ := bind_some h
         refine Swp.join (fun e w' => ∃ (x18 : Bool) (u : Env), x18 = s14 ∧ e = upds [(1, (Value.pointer (some ⟨b1, 0, none⟩))), (2, (Value.pointer (some ⟨b6, 0, none⟩))), (5, (osv ob11 0 (List.length r11) cap11)), (6, (Value.pointer (some ⟨b13, 0, none⟩))), (7, (Value.map (some b14))), (8, (osv ob25 0 (List.length states13) cap25)), (9, (Value.int .i64 i10)), (10, (Value.int .i64 x12)), (11, (Value.int .i64 x16)), (14, (Value.int .i64 n14)), (16, (osv ob23 0 (List.length edgesL12) cap23)), (17, (Value.int .i64 (iw ((List.length edgesL12 : Int) - 1)))), (109, (Value.bool x18))] u ∧ Go.X.Loc [] [] w w' [some b1, some b6, ob11, some b13, ob17, ob18, ob23, some b14, ob25] [Cont.cells [d_v, d_v1], Cont.cells [(Value.slice none 0 0), (Value.slice none 0 0)], Cont.cells ([] ++ (cs11 ++ sp11)), Cont.cells [(osv ob17 0 (List.length accept12) cap17), (osv ob18 0 (List.length edges11 + 1) cap18)], Cont.cells ([] ++ (cs17 ++ sp17)), Cont.cells ([] ++ ((cs15 ++ [(osv ob23 0 (List.length edgesL12) cap23)]) ++ sp18)), Cont.cells ([] ++ (cs22 ++ sp23)), (mcont (fun x : Int => Value.int .i64 x) (fun x : Int => Value.int .i64 x) number13), Cont.cells ([] ++ (cs24 ++ sp25))] ∧ Keep w.heap.size [some b1, some b6, ob11, some b13, ob17, ob18, ob23, some b14, ob25] w33 [some b1, some b6, ob11, some b13, ob17, ob18, ob23, some b14, ob25] w' ∧ (List.length cs15 + 1) + List.length sp18 = cap18 * (rSl rAEdge).sz ∧ True) ?_ ?_
         ·
          refine Swp.region rfl (Rl.op (OpY.move (v := (Value.int .i64 (iw ((List.length edgesL12 : Int) - 1)))) rfl ?_))
          refine Rl.op (OpY.geq (x := (iw ((List.length edgesL12 : Int) - 1))) (y := 0) (((iw ((List.length edgesL12 : Int) - 1)) : Int) ≥ 0) rfl rfl Iff.rfl ?_)
          refine Rl.op (OpY.move (v := (Value.bool (decide (((iw ((List.length edgesL12 : Int) - 1)) : Int) ≥ 0)))) rfl ?_)
          by_cases hc37 : ((iw ((List.length edgesL12 : Int) - 1)) : Int) ≥ 0
          ·
           replace h := ite_t hc37 h
           refine Rl.yes rfl rfl (decide_eq_true hc37) (OpY.move (v := (osv ob23 0 (List.length edgesL12) cap23)) rfl ?_)
           refine Rl.yes rfl rfl (decide_eq_true hc37) (OpY.move (v := (Value.int .i64 (iw ((List.length edgesL12 : Int) - 1)))) rfl ?_)
           obtain ⟨x19, q53, h⟩ := bind_some h
           obtain ⟨n15, q54, q55⟩ := idx_some q53
           have q56 := (List.getElem?_eq_some_iff.1 q55).1
           obtain ⟨b23, hb14⟩ := hL41.row_some 6 rfl rfl (row_pos (pre := []) f44 q55 (Nat.lt_of_sub_eq_succ rfl))
           refine Rl.yes rfl rfl (decide_eq_true hc37) (OpY.ixRowD (r := rAEdge) (b := b23) (o := 0) (n := n15) (m := (List.length edgesL12)) (xs := edgesL12) (q := (0 + n15 * rAEdge.sz)) Tryd.underlying58 ti57 (osv_some hb14) rfl rfl q54 q56 rfl ?_)
           refine Rl.yes rfl rfl (decide_eq_true hc37) (OpY.fieldAddr (q := ((0 + n15 * rAEdge.sz) + 2)) Tryd.underlying57 rfl ti3 rfl rfl rfl ?_)
           obtain ⟨vs14, q57, q58, q59⟩ := row_elem (pre := []) (sp := sp23) f44 q55
           obtain ⟨rfl, -⟩ := rAEdge_open q58
           have q60 := elem_part (us := [(Value.int .i64 x19.To)]) (q := 2) q59 rfl
           refine Rl.yes rfl rfl (decide_eq_true hc37) (OpY.ldElem1 (v := (Value.int .i64 x19.To)) Tryd.underlying3 rfl rfl (own_some hb14 (hL41.at 6 rfl rfl)) q60 ?_)
           refine Rl.yes rfl rfl (decide_eq_true hc37) (OpY.move (v := (Value.int .i64 n14)) rfl ?_)
           refine Rl.yes rfl rfl (decide_eq_true hc37) (OpY.eql (x := x19.To) (y := n14) ((x19.To : Int) = n14) rfl rfl Iff.rfl ?_)
           refine Rl.op (OpY.pick_t (t := (decide (((iw ((List.length edgesL12 : Int) - 1)) : Int) ≥ 0))) (v := (Value.bool (decide ((x19.To : Int) = n14)))) rfl (decide_eq_true hc37) rfl ?_)
           refine Rl.op (OpY.move (v := (Value.bool (decide ((x19.To : Int) = n14)))) rfl ?_)
           by_cases hc38 : (x19.To : Int) = n14
           ·
            replace h := ite_t hc38 h
            refine Rl.yes rfl rfl (decide_eq_true hc38) (OpY.move (v := (osv ob23 0 (List.length edgesL12) cap23)) rfl ?_)
            refine Rl.yes rfl rfl (decide_eq_true hc38) (OpY.move (v := (Value.int .i64 (iw ((List.length edgesL12 : Int) - 1)))) rfl ?_)
            obtain ⟨x20, q61, h⟩ := bind_some h
            obtain ⟨n16, q62, q63⟩ := idx_some q61
            have q64 := (List.getElem?_eq_some_iff.1 q63).1
            refine Rl.yes rfl rfl (decide_eq_true hc38) (OpY.ixRowD (r := rAEdge) (b := b23) (o := 0) (n := n16) (m := (List.length edgesL12)) (xs := edgesL12) (q := (0 + n16 * rAEdge.sz)) Tryd.underlying58 ti57 (osv_some hb14) rfl rfl q62 q64 rfl ?_)
            refine Rl.yes rfl rfl (decide_eq_true hc38) (OpY.fieldAddr (q := ((0 + n16 * rAEdge.sz) + 1)) Tryd.underlying57 rfl ti5 rfl rfl rfl ?_)
            obtain ⟨vs15, q65, q66, q67⟩ := row_elem (pre := []) (sp := sp23) f44 q63
            obtain ⟨rfl, -⟩ := rAEdge_open q66
            have q68 := elem_part (us := [(Value.int .u8 x20.High)]) (q := 1) q67 rfl
            refine Rl.yes rfl rfl (decide_eq_true hc38) (OpY.ldElem1 (v := (Value.int .u8 x20.High)) Tryd.underlying5 rfl rfl (own_some hb14 (hL41.at 6 rfl rfl)) q68 ?_)
            refine Rl.yes rfl rfl (decide_eq_true hc38) (OpY.convInt (x := x20.High) (z := (iw x20.High)) Tryd.underlying5 Tryd.underlying3 rfl rfl ?_)
            refine Rl.yes rfl rfl (decide_eq_true hc38) (OpY.move (v := (Value.int .i64 x16)) rfl ?_)
            refine Rl.yes rfl rfl (decide_eq_true hc38) (OpY.sub (x := x16) (y := 1) (z := (iw (x16 - 1))) rfl rfl rfl ?_)
            refine Rl.yes rfl rfl (decide_eq_true hc38) (OpY.eql (x := (iw x20.High)) (y := (iw (x16 - 1))) (((iw x20.High) : Int) = (iw (x16 - 1))) rfl rfl Iff.rfl ?_)
            refine Rl.op (OpY.pick_t (t := (decide ((x19.To : Int) = n14))) (v := (Value.bool (decide (((iw x20.High) : Int) = (iw (x16 - 1)))))) rfl (decide_eq_true hc38) rfl ?_)
            refine Rl.nil ?_
            obtain rfl := Option.some.inj h
            refine Swp.pop_back ?_
            exact ⟨(decide (((iw x20.High) : Int) = (iw (x16 - 1)))), _, rfl, (upds_sym ⟨rfl, rfl, rfl, rfl, rfl, rfl, rfl, rfl, rfl, rfl, rfl, rfl, rfl, trivial⟩), hL41, Keep.refl, hc35, trivial⟩
           ·
            replace h := ite_f hc38 h
            refine Rl.no rfl rfl (decide_eq_false hc38) ?_
            refine Rl.no rfl rfl (decide_eq_false hc38) ?_
            refine Rl.no rfl rfl (decide_eq_false hc38) ?_
            refine Rl.no rfl rfl (decide_eq_false hc38) ?_
            refine Rl.no rfl rfl (decide_eq_false hc38) ?_
            refine Rl.no rfl rfl (decide_eq_false hc38) ?_
            refine Rl.no rfl rfl (decide_eq_false hc38) ?_
            refine Rl.no rfl rfl (decide_eq_false hc38) ?_
            refine Rl.no rfl rfl (decide_eq_false hc38) ?_
            refine Rl.op (OpY.pick_f (t := (decide ((x19.To : Int) = n14))) (v := (Value.bool false)) rfl (decide_eq_false hc38) rfl ?_)
            refine Rl.nil ?_
            obtain rfl := Option.some.inj h
            refine Swp.pop_back ?_
            exact ⟨false, _, rfl, (upds_sym ⟨rfl, rfl, rfl, rfl, rfl, rfl, rfl, rfl, rfl, rfl, rfl, rfl, rfl, trivial⟩), hL41, Keep.refl, hc35, trivial⟩
          ·
           replace h := ite_f hc37 h
           refine Rl.no rfl rfl (decide_eq_false hc37) ?_
           refine Rl.no rfl rfl (decide_eq_false hc37) ?_
           refine Rl.no rfl rfl (decide_eq_false hc37) ?_
           refine Rl.no rfl rfl (decide_eq_false hc37) ?_
           refine Rl.no rfl rfl (decide_eq_false hc37) ?_
           refine Rl.no rfl rfl (decide_eq_false hc37) ?_
           refine Rl.no rfl rfl (decide_eq_false hc37) ?_
           refine Rl.op (OpY.pick_f (t := (decide (((iw ((List.length edgesL12 : Int) - 1)) : Int) ≥ 0))) (v := (Value.bool false)) rfl (decide_eq_false hc37) rfl ?_)
           refine Rl.op (OpY.move (v := (Value.bool false)) rfl ?_)
           refine Rl.no rfl rfl rfl ?_
           refine Rl.no rfl rfl rfl ?_
           refine Rl.no rfl rfl rfl ?_
           refine Rl.no rfl rfl rfl ?_
           refine Rl.no rfl rfl rfl ?_
           refine Rl.no rfl rfl rfl ?_
           refine Rl.no rfl rfl rfl ?_
           refine Rl.no rfl rfl rfl ?_
           refine Rl.no rfl rfl rfl ?_
           refine Rl.op (OpY.pick_f (t := false) (v := (Value.bool false)) rfl rfl rfl ?_)
           refine Rl.nil ?_
           obtain rfl := Option.some.inj h
           refine Swp.pop_back ?_
           exact ⟨false, _, rfl, (upds_sym ⟨rfl, rfl, rfl, rfl, rfl, rfl, rfl, rfl, rfl, rfl, rfl, rfl, rfl, trivial⟩), hL41, Keep.refl, hc35, trivial⟩
         ·
          rintro _ w34 ⟨x18, u, rfl, rfl, hL42, K42, hc39, -⟩
          replace h := g14
          try dsimp only at h
          refine Swp.cond_b x18 rfl (fun hc40 => ?_) (fun hc40 => ?_)
          ·
           replace h := ite_t hc40 h
           refine Swp.region rfl (Rl.op (OpY.move (v := (osv ob23 0 (List.length edgesL12) cap23)) rfl ?_))
           refine Rl.op (OpY.move (v := (Value.int .i64 (iw ((List.length edgesL12 : Int) - 1)))) rfl ?_)
           refine Rl.op (OpY.move (v := (Value.int .i64 x16)) rfl ?_)
           refine Rl.op (OpY.convInt (x := x16) (z := (uw8 x16)) Tryd.underlying3 Tryd.underlying5 rfl rfl ?_)
           obtain ⟨x21, q69, h⟩ := bind_some h
           obtain ⟨n17, q70, q71⟩ := idx_some q69
           have q72 := (List.getElem?_eq_some_iff.1 q71).1
           have f45 := (f44.mono (K42 None))
           obtain ⟨b24, hb15⟩ := hL42.row_some 6 rfl rfl (row_pos (pre := []) f45 q71 (Nat.lt_of_sub_eq_succ rfl))
           refine Rl.op (OpY.ixRowD (r := rAEdge) (b := b24) (o := 0) (n := n17) (m := (List.length edgesL12)) (xs := edgesL12) (q := (0 + n17 * rAEdge.sz)) Tryd.underlying58 ti57 (osv_some hb15) rfl rfl q70 q72 rfl ?_)
           refine Rl.op (OpY.fieldAddr (q := ((0 + n17 * rAEdge.sz) + 1)) Tryd.underlying57 rfl ti5 rfl rfl rfl ?_)
           obtain ⟨vs16, q73, q74, q75⟩ := row_elem (pre := []) (sp := sp23) f45 q71
           obtain ⟨rfl, -⟩ := rAEdge_open q74
           obtain ⟨x22, q76, h⟩ := bind_some h
           obtain ⟨n18, q77, q78, q79⟩ := upd1_some q76
           obtain rfl := Int.ofNat_inj.1 (q70.symm.trans q77)
           refine Rl.op0 (OpY.stPart (pre := []) (r := rAEdge) (off := 1) (us := [(Value.int .u8 (uw8 x16))]) (vs := [(Value.int .u8 x21.Low), (Value.int .u8 x21.High), (Value.int .i64 x21.To)]) (vs' := [(Value.int .u8 x21.Low), (Value.int .u8 (uw8 x16)), (Value.int .i64 x21.To)]) (a := (AEdge.mk x21.Low (uw8 x16) x21.To)) ti5 rfl rfl rfl rfl (ones_cons rfl ones_nil) q75 (Nat.le_of_ble_eq_true rfl) rfl (rAEdge_close ⟨rfl, trivial⟩) hL42 6 (congrArg some hb15) rfl f45 q72 rfl q79 ?_)
           have hl13 : (List.length edgesL12) = List.length x22 := by rw [q79, List.length_set]
           intro w35 cs26 (hL43 : Go.X.Loc [] [] w w35 [some b1, some b6, ob11, some b13, ob17, ob18, ob23, some b14, ob25] [Cont.cells [d_v, d_v1], Cont.cells [(Value.slice none 0 0), (Value.slice none 0 0)], Cont.cells ([] ++ (cs11 ++ sp11)), Cont.cells [(osv ob17 0 (List.length accept12) cap17), (osv ob18 0 (List.length edges11 + 1) cap18)], Cont.cells ([] ++ (cs17 ++ sp17)), Cont.cells ([] ++ ((cs15 ++ [(osv ob23 0 (List.length edgesL12) cap23)]) ++ sp18)), Cont.cells ([] ++ (cs26 ++ sp23)), (mcont (fun x : Int => Value.int .i64 x) (fun x : Int => Value.int .i64 x) number13), Cont.cells ([] ++ (cs24 ++ sp25))]) hS27 hE33 q80
           have hc41 : (cs26 ++ sp23).length = cap23 * rAEdge.sz := by have := hc28; rw [List.length_append] at this ⊢; rw [q80]; exact this
           have K43 := ks w hS27
           refine Rl.nil (Swp.pop_blk (Swp.region rfl (Rl.op (OpY.move (v := (Value.int .i64 x16)) rfl ?_))))
           refine Rl.op (OpY.add (x := x16) (y := 1) (z := (iw (x16 + 1))) rfl rfl rfl ?_)
           refine Rl.op (OpY.assign (v := (Value.int .i64 (iw (x16 + 1)))) rfl ?_)
           refine Rl.nil ?_
           have f46 := (hE33.mono (K43 None))
           have f47 := ((hE32.mono (K42 None)).mono (K43 None))
           obtain rfl := Option.some.inj h
           refine Swp.pop_back ⟨(x22, number13, states13, (iw (x16 + 1))), rfl, ?_⟩
           exact ⟨ob23, cap23, sp23, cs26, (List.length edgesL12), ob25, cap25, sp25, cs24, (List.length states13), _, (upds_sym ⟨rfl, rfl, rfl, rfl, rfl, rfl, rfl, rfl, rfl, trivial⟩), hL43, (Keep.trans (Keep.trans (Keep.trans (Keep.trans (Keep.trans K34 K35) K36) K41) K42) K43), hc39, f46, hl13, hc41, f47, rfl, hc36, trivial⟩
          ·
           replace h := ite_f hc40 h
           obtain ⟨u12, q81, h⟩ := bind_some h
           have q82 := chk_some q81
           obtain ⟨b25, hb16⟩ := hL42.row_some 5 rfl rfl (by simp only [List.nil_append, List.length_append, List.length_cons]; omega)
           refine Swp.drawP [10, 11, 13] [0, 1, 2, 3, 4, 5, 6, 7, 8, 9, 12] [(116, (Value.pointer (some ⟨b13, 1, none⟩))), (117, (osv ob18 0 (List.length edges11 + 1) cap18)), (118, (Value.int .i64 i10)), (119, (osv ob23 0 (List.length edgesL12) cap23)), (120, (Value.int .i64 x16)), (121, (Value.int .u8 (uw8 x16))), (122, (Value.int .i64 x16)), (123, (Value.int .u8 (uw8 x16))), (124, (Value.int .i64 n14)), (125, (Value.agg #[(Value.int .u8 (uw8 x16)), (Value.int .u8 (uw8 x16)), (Value.int .i64 n14)])), (128, (Value.pointer (some ⟨b25, (0 + (List.length edges11) * (rSl rAEdge).sz), none⟩)))] mixed rfl rfl rfl rfl ?_
           intro w36 hE34
           have hL44 := hL42.ext hE34
           have K44 := ke hL42 hE34
           refine ⟨?_, ?_⟩
           ·
            refine LateP.cons (i := 0) rfl rfl (GOp.op (OpY.fieldAddr (q := 1) Tryd.underlying32 rfl ti30 rfl rfl rfl ⟨rfl, rfl⟩)) ?_
            refine LateP.cons (i := 1) rfl rfl (GOp.op (OpY.ldBox1 (v := (osv ob18 0 (List.length edges11 + 1) cap18)) Tryd.underlying30 rfl rfl (hL44.at 3 rfl rfl) rfl ⟨rfl, rfl⟩)) ?_
            refine LateP.cons (i := 2) rfl rfl (GOp.op (OpY.move (v := (Value.int .i64 i10)) rfl ⟨rfl, rfl⟩)) ?_
            refine LateP.cons (i := 3) rfl rfl (GOp.op (OpY.move (v := (osv ob23 0 (List.length edgesL12) cap23)) rfl ⟨rfl, rfl⟩)) ?_
            refine LateP.cons (i := 4) rfl rfl (GOp.op (OpY.move (v := (Value.int .i64 x16)) rfl ⟨rfl, rfl⟩)) ?_
            refine LateP.cons (i := 5) rfl rfl (GOp.op (OpY.convInt (x := x16) (z := (uw8 x16)) Tryd.underlying3 Tryd.underlying5 rfl rfl ⟨rfl, rfl⟩)) ?_
            refine LateP.cons (i := 6) rfl rfl (GOp.op (OpY.move (v := (Value.int .i64 x16)) rfl ⟨rfl, rfl⟩)) ?_
            refine LateP.cons (i := 7) rfl rfl (GOp.op (OpY.convInt (x := x16) (z := (uw8 x16)) Tryd.underlying3 Tryd.underlying5 rfl rfl ⟨rfl, rfl⟩)) ?_
            refine LateP.cons (i := 8) rfl rfl (GOp.op (OpY.move (v := (Value.int .i64 n14)) rfl ⟨rfl, rfl⟩)) ?_
            refine LateP.cons (i := 9) rfl rfl (GOp.op (OpY.build (zc := [(Value.int .u8 0), (Value.int .u8 0), (Value.int .i64 0)]) (cs := [(Value.int .u8 (uw8 x16)), (Value.int .u8 (uw8 x16)), (Value.int .i64 n14)]) (is := [0, 1, 2]) (vs := [(Value.int .u8 (uw8 x16)), (Value.int .u8 (uw8 x16)), (Value.int .i64 n14)]) (css := [[(Value.int .u8 (uw8 x16))], [(Value.int .u8 (uw8 x16))], [(Value.int .i64 n14)]]) pl57 ti57 rfl rfl rfl ⟨rfl, rfl, rfl, trivial⟩ rfl ⟨rfl, rfl⟩)) ?_
            refine LateP.cons (i := 12) rfl rfl (GOp.op (OpY.ixRowD (r := (rSl rAEdge)) (b := b25) (o := 0) (n := (List.length edges11)) (m := (List.length edges11 + 1)) (xs := edges11 ++ [[]]) (q := (0 + (List.length edges11) * (rSl rAEdge).sz)) Tryd.underlying30 ti58 (osv_some hb16) (by rw [List.length_append]; rfl) rfl q82 (by rw [List.length_append]; exact Nat.lt_succ_self _) rfl ⟨rfl, rfl⟩)) ?_
            exact LateP.nil
           have hE35 : Els rAEdge (Hv w.heap.size None [some b1, some b6, ob11, some b13, ob17, ob18, ob23, some b14, ob25] w36) [(Value.int .u8 (uw8 x16)), (Value.int .u8 (uw8 x16)), (Value.int .i64 n14)] [(AEdge.mk (uw8 x16) (uw8 x16) n14)] := (Els.cons (a := [(Value.int .u8 (uw8 x16)), (Value.int .u8 (uw8 x16)), (Value.int .i64 n14)]) (rAEdge_close ⟨rfl, trivial⟩) Els.nil)
           refine RlL.op (OpY.litRow (r := rAEdge) (vs := [(Value.agg #[(Value.int .u8 (uw8 x16)), (Value.int .u8 (uw8 x16)), (Value.int .i64 n14)])]) (css := [[(Value.int .u8 (uw8 x16)), (Value.int .u8 (uw8 x16)), (Value.int .i64 n14)]]) (xs := [(AEdge.mk (uw8 x16) (uw8 x16) n14)]) Tryd.underlying58 ti57 (Nat.le_of_ble_eq_true rfl) rfl rfl ⟨rfl, rfl, trivial⟩ (Nat.le_of_ble_eq_true rfl) hE35 rfl hL44 ?_)
           intro b26 w37 hc42 hL45 hS28
           have K45 := ks w hS28
           refine ⟨?_, ?_⟩
           ·
            refine LateP.cons (i := 0) rfl rfl (GOp.op (OpY.fieldAddr (q := 1) Tryd.underlying32 rfl ti30 rfl rfl rfl ⟨rfl, rfl⟩)) ?_
            refine LateP.cons (i := 1) rfl rfl (GOp.op (OpY.ldBox1 (v := (osv ob18 0 (List.length edges11 + 1) cap18)) Tryd.underlying30 rfl rfl (hL45.at 4 rfl rfl) rfl ⟨rfl, rfl⟩)) ?_
            refine LateP.cons (i := 2) rfl rfl (GOp.op (OpY.move (v := (Value.int .i64 i10)) rfl ⟨rfl, rfl⟩)) ?_
            refine LateP.cons (i := 3) rfl rfl (GOp.op (OpY.move (v := (osv ob23 0 (List.length edgesL12) cap23)) rfl ⟨rfl, rfl⟩)) ?_
            refine LateP.cons (i := 4) rfl rfl (GOp.op (OpY.move (v := (Value.int .i64 x16)) rfl ⟨rfl, rfl⟩)) ?_
            refine LateP.cons (i := 5) rfl rfl (GOp.op (OpY.convInt (x := x16) (z := (uw8 x16)) Tryd.underlying3 Tryd.underlying5 rfl rfl ⟨rfl, rfl⟩)) ?_
            refine LateP.cons (i := 6) rfl rfl (GOp.op (OpY.move (v := (Value.int .i64 x16)) rfl ⟨rfl, rfl⟩)) ?_
            refine LateP.cons (i := 7) rfl rfl (GOp.op (OpY.convInt (x := x16) (z := (uw8 x16)) Tryd.underlying3 Tryd.underlying5 rfl rfl ⟨rfl, rfl⟩)) ?_
            refine LateP.cons (i := 8) rfl rfl (GOp.op (OpY.move (v := (Value.int .i64 n14)) rfl ⟨rfl, rfl⟩)) ?_
            refine LateP.cons (i := 12) rfl rfl (GOp.op (OpY.ixRowD (r := (rSl rAEdge)) (b := b25) (o := 0) (n := (List.length edges11)) (m := (List.length edges11 + 1)) (xs := edges11 ++ [[]]) (q := (0 + (List.length edges11) * (rSl rAEdge).sz)) Tryd.underlying30 ti58 (osv_some hb16) (by rw [List.length_append]; rfl) rfl q82 (by rw [List.length_append]; exact Nat.lt_succ_self _) rfl ⟨rfl, rfl⟩)) ?_
            exact LateP.nil
           obtain ⟨x23, q83, h⟩ := bind_some h
           obtain ⟨q84, q85, q86⟩ := apnd_some q83
           have f48 := (hE35.mono (K45 None))
           have f49 := (((f44.mono (K42 None)).mono (K44 None)).mono (K45 None))
           refine RlL.op (OpY.apRowX (r := rAEdge) (H := (Hv w.heap.size None [some b26, some b1, some b6, ob11, some b13, ob17, ob18, ob23, some b14, ob25] w37)) (cs := cs22) (sp := sp23) (xs := edgesL12) (ys := [(AEdge.mk (uw8 x16) (uw8 x16) n14)]) (Y := x23) (n := (List.length edgesL12)) (cap := cap23) (i := 7) Tryd.underlying58 ti57 rfl rfl rfl rfl hL45 rfl rfl f49 rfl hc28 (Src.row (pre := []) (o := 0) (n := 1) (cap := 1) (hL45.at 0 rfl rfl) f48 rfl rfl rfl) (Els.anyH (fun _ _ _ _ h => h) f48) q84 q85 q86 ?_)
           intro ob27 cap27 sp27 cs27 w38 hE36 hc43 (hL46 : Go.X.Loc [] [] w w38 [some b26, some b1, some b6, ob11, some b13, ob17, ob18, ob27, some b14, ob25] [Cont.cells ([] ++ ([(Value.int .u8 (uw8 x16)), (Value.int .u8 (uw8 x16)), (Value.int .i64 n14)] ++ [])), Cont.cells [d_v, d_v1], Cont.cells [(Value.slice none 0 0), (Value.slice none 0 0)], Cont.cells ([] ++ (cs11 ++ sp11)), Cont.cells [(osv ob17 0 (List.length accept12) cap17), (osv ob18 0 (List.length edges11 + 1) cap18)], Cont.cells ([] ++ (cs17 ++ sp17)), Cont.cells ([] ++ ((cs15 ++ [(osv ob23 0 (List.length edgesL12) cap23)]) ++ sp18)), Cont.cells ([] ++ (cs27 ++ sp27)), (mcont (fun x : Int => Value.int .i64 x) (fun x : Int => Value.int .i64 x) number13), Cont.cells ([] ++ (cs24 ++ sp25))]) hS29
           have K46 := ks w hS29
           refine ⟨?_, ?_⟩
           ·
            refine LateP.cons (i := 0) rfl rfl (GOp.op (OpY.fieldAddr (q := 1) Tryd.underlying32 rfl ti30 rfl rfl rfl ⟨rfl, rfl⟩)) ?_
            refine LateP.cons (i := 1) rfl rfl (GOp.op (OpY.ldBox1 (v := (osv ob18 0 (List.length edges11 + 1) cap18)) Tryd.underlying30 rfl rfl (hL46.at 4 rfl rfl) rfl ⟨rfl, rfl⟩)) ?_
            refine LateP.cons (i := 2) rfl rfl (GOp.op (OpY.move (v := (Value.int .i64 i10)) rfl ⟨rfl, rfl⟩)) ?_
            refine LateP.cons (i := 4) rfl rfl (GOp.op (OpY.move (v := (Value.int .i64 x16)) rfl ⟨rfl, rfl⟩)) ?_
            refine LateP.cons (i := 5) rfl rfl (GOp.op (OpY.convInt (x := x16) (z := (uw8 x16)) Tryd.underlying3 Tryd.underlying5 rfl rfl ⟨rfl, rfl⟩)) ?_
            refine LateP.cons (i := 6) rfl rfl (GOp.op (OpY.move (v := (Value.int .i64 x16)) rfl ⟨rfl, rfl⟩)) ?_
            refine LateP.cons (i := 7) rfl rfl (GOp.op (OpY.convInt (x := x16) (z := (uw8 x16)) Tryd.underlying3 Tryd.underlying5 rfl rfl ⟨rfl, rfl⟩)) ?_
            refine LateP.cons (i := 8) rfl rfl (GOp.op (OpY.move (v := (Value.int .i64 n14)) rfl ⟨rfl, rfl⟩)) ?_
            refine LateP.cons (i := 12) rfl rfl (GOp.op (OpY.ixRowD (r := (rSl rAEdge)) (b := b25) (o := 0) (n := (List.length edges11)) (m := (List.length edges11 + 1)) (xs := edges11 ++ [[]]) (q := (0 + (List.length edges11) * (rSl rAEdge).sz)) Tryd.underlying30 ti58 (osv_some hb16) (by rw [List.length_append]; rfl) rfl q82 (by rw [List.length_append]; exact Nat.lt_succ_self _) rfl ⟨rfl, rfl⟩)) ?_
            exact LateP.nil
           have f50 := ((((f43.mono (K42 None)).mono (K44 None)).mono (K45 None)).mono (K46 None))
           refine RlL.op0 (OpY.stOpen (i := 6) (r := (rSl rAEdge)) (xs := edges11) (v := (osv ob23 0 (List.length edgesL12) cap23)) ti58 rfl rfl (one_cells (osv_one ob27 0 (List.length x23) cap27)) rfl (osv_one ob27 0 (List.length x23) cap27) hL46 (congrArg some hb16) rfl f50 rfl ?_)
           intro w39 (hL47 : Go.X.Loc [] [] w w39 [some b26, some b1, some b6, ob11, some b13, ob17, ob18, ob27, some b14, ob25] [Cont.cells ([] ++ ([(Value.int .u8 (uw8 x16)), (Value.int .u8 (uw8 x16)), (Value.int .i64 n14)] ++ [])), Cont.cells [d_v, d_v1], Cont.cells [(Value.slice none 0 0), (Value.slice none 0 0)], Cont.cells ([] ++ (cs11 ++ sp11)), Cont.cells [(osv ob17 0 (List.length accept12) cap17), (osv ob18 0 (List.length edges11 + 1) cap18)], Cont.cells ([] ++ (cs17 ++ sp17)), Cont.cells ([] ++ ((cs15 ++ [(osv ob27 0 (List.length x23) cap27)]) ++ sp18)), Cont.cells ([] ++ (cs27 ++ sp27)), (mcont (fun x : Int => Value.int .i64 x) (fun x : Int => Value.int .i64 x) number13), Cont.cells ([] ++ (cs24 ++ sp25))]) hS30
           have K47 := ks w hS30
           refine ⟨?_, ?_⟩
           ·
            exact LateP.nil
           refine RlL.fin ?_
           refine Swp.pop_blk (Swp.region rfl (Rl.op (OpY.move (v := (Value.int .i64 x16)) rfl ?_)))
           refine Rl.op (OpY.add (x := x16) (y := 1) (z := (iw (x16 + 1))) rfl rfl rfl ?_)
           refine Rl.op (OpY.assign (v := (Value.int .i64 (iw (x16 + 1)))) rfl ?_)
           refine Rl.nil ?_
           have hp20 := hL47.pick [1, 2, 3, 4, 5, 6, 7, 8, 9] rfl rfl rfl
           have hL48 : Go.X.Loc [] [] w w39 [some b1, some b6, ob11, some b13, ob17, ob18, ob27, some b14, ob25] [Cont.cells [d_v, d_v1], Cont.cells [(Value.slice none 0 0), (Value.slice none 0 0)], Cont.cells ([] ++ (cs11 ++ sp11)), Cont.cells [(osv ob17 0 (List.length accept12) cap17), (osv ob18 0 (List.length edges11 + 1) cap18)], Cont.cells ([] ++ (cs17 ++ sp17)), Cont.cells ([] ++ ((cs15 ++ [(osv ob27 0 (List.length x23) cap27)]) ++ sp18)), Cont.cells ([] ++ (cs27 ++ sp27)), (mcont (fun x : Int => Value.int .i64 x) (fun x : Int => Value.int .i64 x) number13), Cont.cells ([] ++ (cs24 ++ sp25))] := hp20.1
           have K48 := ks w hp20.2
           have f51 := (((hE36.mono (K46 None)).mono (K47 None)).mono (K48 None))
           have f52 := ((((((hE32.mono (K42 None)).mono (K44 None)).mono (K45 None)).mono (K46 None)).mono (K47 None)).mono (K48 None))
           obtain rfl := Option.some.inj h
           refine Swp.pop_back ⟨(x23, number13, states13, (iw (x16 + 1))), rfl, ?_⟩
           exact ⟨ob27, cap27, sp27, cs27, (List.length x23), ob25, cap25, sp25, cs24, (List.length states13), _, (upds_sym ⟨rfl, rfl, rfl, rfl, rfl, rfl, rfl, rfl, rfl, trivial⟩), hL48, (Keep.trans (Keep.trans (Keep.trans (Keep.trans (Keep.trans (Keep.trans (Keep.trans (Keep.trans (Keep.trans K34 K35) K36) K41) K42) K44) K45) K46) K47) K48), hc39, f51, rfl, hc43, f52, rfl, hc36, trivial⟩
      ·
       replace h := ite_f hc30 h
       refine Swp.exit rfl ?_
       obtain rfl := Option.some.inj h
       obtain rfl := hd11 _ rfl
       replace h := g12
       try dsimp only at h
       skip
       refine Swp.pop_back ?_
       exact ⟨edgesL12, number12, states12, ob23, cap23, sp23, cs22, (List.length edgesL12), ob24, cap24, sp24, cs23, (List.length states12), _, rfl, (upds_sym ⟨rfl, rfl, rfl, rfl, rfl, rfl, rfl, trivial⟩), hL34, K34, hc27, hE26, rfl, hc28, hE27, rfl, hc29, trivial⟩
     ·
      rintro _ w40 ⟨edgesL11, number11, states11, ob21, cap21, sp21, cs20, ln16, ob22, cap22, sp22, cs21, ln17, u, rfl, rfl, hL49, K49, hc44, hE37, rfl, hc45, hE38, rfl, hc46, -⟩
      replace h := g12
      try dsimp only at h
      refine Swp.pop_blk (Swp.region rfl (Rl.op (OpY.move (v := (Value.int .i64 i10)) rfl ?_)))
      refine Rl.op (OpY.add (x := i10) (y := 1) (z := (iw (i10 + 1))) rfl rfl rfl ?_)
      refine Rl.op (OpY.assign (v := (Value.int .i64 (iw (i10 + 1)))) rfl ?_)
      refine Rl.nil ?_
      have f53 := hL49.freezeRow 6 rfl rfl hE37 rfl rfl rfl hc45
      have hp21 := hL49.pick [0, 1, 2, 3, 4, 5, 7, 8] rfl rfl rfl
      have hL50 : Go.X.Loc [] [] w w40 [some b1, some b6, ob11, some b13, ob17, ob18, some b14, ob22] [Cont.cells [d_v, d_v1], Cont.cells [(Value.slice none 0 0), (Value.slice none 0 0)], Cont.cells ([] ++ (cs11 ++ sp11)), Cont.cells [(osv ob17 0 (List.length accept12) cap17), (osv ob18 0 (List.length edges11 + 1) cap18)], Cont.cells ([] ++ (cs17 ++ sp17)), Cont.cells ([] ++ ((cs15 ++ [(osv ob21 0 (List.length edgesL11) cap21)]) ++ sp18)), (mcont (fun x : Int => Value.int .i64 x) (fun x : Int => Value.int .i64 x) number11), Cont.cells ([] ++ (cs21 ++ sp22))] := hp21.1
      have K50 := ks w hp21.2
      have f54 := (((hE18.mono (K33 None)).mono (K49 None)).mono (K50 None))
      have hE39 : Els (rSl rAEdge) (Hv w.heap.size None [some b1, some b6, ob11, some b13, ob17, ob18, some b14, ob22] w40) (cs15 ++ [(osv ob21 0 (List.length edgesL11) cap21)]) (edges11 ++ [edgesL11]) := f54.append (Els.one (a := [(osv ob21 0 (List.length edgesL11) cap21)]) ⟨_, rfl, f53⟩)
      have hc47 : ((cs15 ++ [(osv ob21 0 (List.length edgesL11) cap21)]) ++ sp18).length = cap18 * (rSl rAEdge).sz := by rw [List.length_append, List.length_append]; exact hc44
      have hl14 : List.length edges11 + 1 = List.length (edges11 ++ [edgesL11]) := by rw [List.length_append]; rfl
      have f55 := ((hE24.mono (K49 None)).mono (K50 None))
      have f56 := (hE38.mono (K50 None))
      obtain rfl := Option.some.inj h
      refine Swp.pop_back ⟨(accept12, (edges11 ++ [edgesL11]), number11, states11, (iw (i10 + 1))), rfl, ?_⟩
      exact ⟨ob17, cap17, sp17, cs17, (List.length accept12), ob18, cap18, sp18, (cs15 ++ [(osv ob21 0 (List.length edgesL11) cap21)]), (List.length edges11 + 1), ob22, cap22, sp22, cs21, (List.length states11), _, (upds_sym ⟨rfl, rfl, rfl, rfl, rfl, rfl, rfl, trivial⟩), hL50, (Keep.trans (Keep.trans (Keep.trans K24 K33) K49) K50), f55, rfl, hc24, hE39, hl14, hc47, f56, rfl, hc46, trivial⟩
   ·
    replace h := ite_f hc19 h
    refine Swp.exit rfl ?_
    have hp22 := hL24.pick [1, 3, 4, 5] rfl rfl rfl
    have hL51 : Go.X.Loc [] [] w w19 [some b6, some b13, ob14, ob15] [Cont.cells [(Value.slice none 0 0), (Value.slice none 0 0)], Cont.cells [(osv ob14 0 (List.length accept11) cap14), (osv ob15 0 (List.length edges11) cap15)], Cont.cells ([] ++ (cs14 ++ sp14)), Cont.cells ([] ++ (cs15 ++ sp15))] := hp22.1
    have K51 := ks w hp22.2
    have f57 := (hE17.mono (K51 None))
    have f58 := (hE18.mono (K51 None))
    obtain rfl := Option.some.inj h
    obtain rfl := hd10 _ rfl
    replace h := g10
    try dsimp only at h
    skip
    refine Swp.pop_back ?_
    exact ⟨accept11, edges11, ob14, cap14, sp14, cs14, (List.length accept11), ob15, cap15, sp15, cs15, (List.length edges11), _, rfl, (upds_sym ⟨rfl, rfl, trivial⟩), hL51, (Keep.trans K24 K51), f57, rfl, hc16, f58, rfl, hc17, trivial⟩
  ·
   rintro _ w41 ⟨accept10, edges10, ob12, cap12, sp12, cs12, ln10, ob13, cap13, sp13, cs13, ln11, u, rfl, rfl, hL52, K52, hE40, rfl, hc48, hE41, rfl, hc49, -⟩
   replace h := g10
   try dsimp only at h
   refine Swp.seq (Swp.region rfl (Rl.op (OpY.ldBoxA (vs := [(osv ob12 0 (List.length accept10) cap12), (osv ob13 0 (List.length edges10) cap13)]) Tryd.underlying32 rfl ti32 rfl (hL52.at 1 rfl rfl) rfl rfl ?_)))
   refine Rl.op0 (OpY.store (vs := [(osv ob12 0 (List.length accept10) cap12), (osv ob13 0 (List.length edges10) cap13)]) ti32 rfl rfl rfl rfl (ones_cons (osv_one _ _ _ _) (ones_cons (osv_one _ _ _ _) ones_nil)) hL52 0 rfl rfl (Nat.le_of_ble_eq_true rfl) ?_)
   intro w42 (hL53 : Go.X.Loc [] [] w w42 [some b6, some b13, ob12, ob13] [Cont.cells [(osv ob12 0 (List.length accept10) cap12), (osv ob13 0 (List.length edges10) cap13)], Cont.cells [(osv ob12 0 (List.length accept10) cap12), (osv ob13 0 (List.length edges10) cap13)], Cont.cells ([] ++ (cs12 ++ sp12)), Cont.cells ([] ++ (cs13 ++ sp13))]) hS31
   have K53 := ks w hS31
   refine Rl.op (OpY.assign (v := (Value.int .i64 0)) rfl ?_)
   refine Rl.nil ?_
   have f59 := (hE40.mono (K53 None))
   have f60 := hL53.freezeRow 2 rfl rfl f59 rfl rfl rfl hc48
   have hp23 := hL53.pick [0, 1, 3] rfl rfl rfl
   have hL54 : Go.X.Loc [] [] w w42 [some b6, some b13, ob13] [Cont.cells [(osv ob12 0 (List.length accept10) cap12), (osv ob13 0 (List.length edges10) cap13)], Cont.cells [(osv ob12 0 (List.length accept10) cap12), (osv ob13 0 (List.length edges10) cap13)], Cont.cells ([] ++ (cs13 ++ sp13))] := hp23.1
   have K54 := ks w hp23.2
   have f61 := ((hE41.mono (K53 None)).mono (K54 None))
   have f62 := hL54.freezeRow 2 rfl rfl f61 rfl rfl rfl hc49
   have hp24 := hL54.pick [0, 1] rfl rfl rfl
   have hL55 : Go.X.Loc [] [] w w42 [some b6, some b13] [Cont.cells [(osv ob12 0 (List.length accept10) cap12), (osv ob13 0 (List.length edges10) cap13)], Cont.cells [(osv ob12 0 (List.length accept10) cap12), (osv ob13 0 (List.length edges10) cap13)]] := hp24.1
   have K55 := ks w hp24.2
   refine Swp.ret ?_
   obtain rfl := Option.some.inj h
   refine ⟨[(Value.agg #[(osv ob12 0 (List.length accept10) cap12), (osv ob13 0 (List.length edges10) cap13)]), (Value.int .i64 0)], ⟨⟨⟨b6, 0, none⟩, rfl, res_boxA Tryd.underlying32 rfl ti32 (hL55.at 0 rfl rfl) rfl⟩, ⟨rfl, trivial⟩⟩, ⟨_, rfl, hL55.done, ?_⟩⟩
   have f63 := (f60.mono (K55 None))
   exact ⟨(osv ob12 0 (List.length accept10) cap12), (osv ob13 0 (List.length edges10) cap13), rfl, (f63.mono Hv.out), (f62.mono Hv.out), trivial⟩
end Go.Proofs.YtckhldmpcddjmaaDoor.WA

/- Walks, written by a program of mine (wip/tool); the kernel checks them. -/
import Derived.Test.YtckhldmpcddjmaaDoorProg
import Derived.Test.YtckhldmpcddjmaaDoorZ14
import Derived.Test.YtckhldmpcddjmaaDoorF20
import Derived.Test.YtckhldmpcddjmaaDoorPR
import Derived.Test.YtckhldmpcddjmaaDoorWAEquivalent
set_option maxRecDepth 100000
set_option maxHeartbeats 40000000
set_option linter.unusedVariables false
set_option linter.unusedSimpArgs false
namespace Go.Proofs.YtckhldmpcddjmaaDoor.WR
open Go Go.RowKit Go.X Go.D Go.Proofs.YtckhldmpcddjmaaDoor.WF Go.Proofs.YtckhldmpcddjmaaDoor.WA
theorem ti23 : TI Tryd.prog 23 1 24 (Value.slice none 0 0) := TI.mk (by kernel_rfl)
theorem ti39 : TI Tryd.prog 39 1 24 (Value.slice none 0 0) := TI.mk (by kernel_rfl)
theorem ti63 : TI Tryd.prog 63 3 16 (Value.agg #[(Value.int .u8 0), (Value.int .u8 0), (Value.int .i64 0)]) := TI.mk (by kernel_rfl)
theorem ti25 : TI Tryd.prog 25 2 48 (Value.agg #[(Value.slice none 0 0), (Value.slice none 0 0)]) := TI.mk (by kernel_rfl)
theorem en52 : Go.X.Enters Tryd.prog 52 := ⟨Tryd.f52, Tryd.func52, by kernel_rfl, by kernel_rfl⟩
theorem en41 : Go.X.Enters Tryd.prog 41 := ⟨Tryd.f41, Tryd.func41, by kernel_rfl, by kernel_rfl⟩
theorem ti88 : TI Tryd.prog 88 2 16 (Value.agg #[(Value.int .i64 0), (Value.int .i64 0)]) := TI.mk (by kernel_rfl)
theorem pl88 : placesT Tryd.prog 88 = some [(0, 1), (1, 1)] := by kernel_rfl
theorem en51 : Go.X.Enters Tryd.prog 51 := ⟨Tryd.f51, Tryd.func51, by kernel_rfl, by kernel_rfl⟩
theorem en50 : Go.X.Enters Tryd.prog 50 := ⟨Tryd.f50, Tryd.func50, by kernel_rfl, by kernel_rfl⟩
theorem en25 : Go.X.Enters Tryd.prog 25 := ⟨Tryd.f25, Tryd.func25, by kernel_rfl, by kernel_rfl⟩
theorem en18 : Go.X.Enters Tryd.prog 18 := ⟨Tryd.f18, Tryd.func18, by kernel_rfl, by kernel_rfl⟩
theorem eq2_88 : Eq2 Tryd.prog 88 := ⟨by kernel_rfl, by kernel_rfl, by kernel_rfl, .i64, .i64, by kernel_rfl⟩
theorem rValid_w (N : Nat) (d : ADfa) (d_v : Value) (d_v1 : Value) (w : World) (S : Nat → Prop) (d_h : Rs rBool (Hv w.heap.size S [] w) d_v d.Accept) (d_h1 : Rs (rSl rAEdge) (Hv w.heap.size S [] w) d_v1 d.Edges) (r : Bool) (h : rValid N d = some r) :
  Calls Tryd.prog 18 #[(Value.agg #[d_v, d_v1])] w (Ret w (fun v w' => (Value.bool r) = v ∧ True)) := by
 unfold rValid at h
 have hL : Go.X.Loc [] [] w w [] [] := Go.X.Loc.begin0 w
 refine calls_of (l := [(Value.agg #[d_v, d_v1])]) (rl := [.tmp 2]) (n := 78) Tryd.func18 rfl rfl rfl (Nat.le_of_ble_eq_true rfl) ?_
 refine Swp.seq (Swp.region rfl (Rl.op (OpY.box (cs := [d_v, d_v1]) rfl rfl hL ?_)))
 intro b1 w2 hL3 hS5
 have K4 := ks w hS5
 refine Rl.op (OpY.assign (v := (Value.bool false)) rfl ?_)
 refine Rl.nil (Swp.seq (Swp.region rfl (Rl.op (OpY.fieldAddr (q := 0) Tryd.underlying25 rfl ti22 rfl rfl rfl ?_))))
 refine Rl.op (OpY.ldBox1 (v := d_v) Tryd.underlying22 rfl rfl (hL3.at 0 rfl rfl) rfl ?_)
 have f6 := (d_h.mono (K4 S))
 refine Rl.op (OpY.lenRo (v := d_v) Tryd.underlying22 rfl f6 ?_)
 refine Rl.op (OpY.assign (v := (Value.int .i64 (List.length d.Accept : Int))) rfl ?_)
 refine Rl.nil (Swp.seq (Swp.seq ?_))
 obtain ⟨s10, h, g10⟩ := bind_some h
 refine Swp.join (fun e w' => ∃ (x10 : Bool) (u : Env), x10 = s10 ∧ e = upds [(1, (Value.pointer (some ⟨b1, 0, none⟩))), (3, (Value.int .i64 (List.length d.Accept : Int))), (23, (Value.bool x10))] u ∧ Go.X.Loc [] [] w w' [some b1] [Cont.cells [d_v, d_v1]] ∧ Keep w.heap.size [some b1] w2 [some b1] w' ∧ True) ?_ ?_
 ·
  refine Swp.region rfl (Rl.op (OpY.move (v := (Value.int .i64 (List.length d.Accept : Int))) rfl ?_))
  refine Rl.op (OpY.lss (x := (List.length d.Accept : Int)) (y := 1) (((List.length d.Accept : Int) : Int) < 1) rfl rfl Iff.rfl ?_)
  refine Rl.op (OpY.move (v := (Value.bool (decide (((List.length d.Accept : Int) : Int) < 1)))) rfl ?_)
  by_cases hc10 : ((List.length d.Accept : Int) : Int) < 1
  ·
   replace h := ite_t hc10 h
   refine Rl.no rfl rfl (decide_eq_true hc10) ?_
   refine Rl.no rfl rfl (decide_eq_true hc10) ?_
   refine Rl.op (OpY.pick_t (t := (decide (((List.length d.Accept : Int) : Int) < 1))) (v := (Value.bool true)) rfl (decide_eq_true hc10) rfl ?_)
   refine Rl.op (OpY.move (v := (Value.bool true)) rfl ?_)
   refine Rl.no rfl rfl rfl ?_
   refine Rl.no rfl rfl rfl ?_
   refine Rl.no rfl rfl rfl ?_
   refine Rl.no rfl rfl rfl ?_
   refine Rl.no rfl rfl rfl ?_
   refine Rl.op (OpY.pick_t (t := true) (v := (Value.bool true)) rfl rfl rfl ?_)
   refine Rl.nil ?_
   obtain rfl := Option.some.inj h
   refine Swp.pop_back ?_
   exact ⟨true, _, rfl, (upds_sym ⟨rfl, rfl, rfl, trivial⟩), hL3, Keep.refl, trivial⟩
  ·
   replace h := ite_f hc10 h
   refine Rl.yes rfl rfl (decide_eq_false hc10) (OpY.move (v := (Value.int .i64 (List.length d.Accept : Int))) rfl ?_)
   refine Rl.yes rfl rfl (decide_eq_false hc10) (OpY.gtr (x := (List.length d.Accept : Int)) (y := 4096) (((List.length d.Accept : Int) : Int) > 4096) rfl rfl Iff.rfl ?_)
   refine Rl.op (OpY.pick_f (t := (decide (((List.length d.Accept : Int) : Int) < 1))) (v := (Value.bool (decide (((List.length d.Accept : Int) : Int) > 4096)))) rfl (decide_eq_false hc10) rfl ?_)
   refine Rl.op (OpY.move (v := (Value.bool (decide (((List.length d.Accept : Int) : Int) > 4096)))) rfl ?_)
   by_cases hc11 : ((List.length d.Accept : Int) : Int) > 4096
   ·
    replace h := ite_t hc11 h
    refine Rl.no rfl rfl (decide_eq_true hc11) ?_
    refine Rl.no rfl rfl (decide_eq_true hc11) ?_
    refine Rl.no rfl rfl (decide_eq_true hc11) ?_
    refine Rl.no rfl rfl (decide_eq_true hc11) ?_
    refine Rl.no rfl rfl (decide_eq_true hc11) ?_
    refine Rl.op (OpY.pick_t (t := (decide (((List.length d.Accept : Int) : Int) > 4096))) (v := (Value.bool true)) rfl (decide_eq_true hc11) rfl ?_)
    refine Rl.nil ?_
    obtain rfl := Option.some.inj h
    refine Swp.pop_back ?_
    exact ⟨true, _, rfl, (upds_sym ⟨rfl, rfl, rfl, trivial⟩), hL3, Keep.refl, trivial⟩
   ·
    replace h := ite_f hc11 h
    refine Rl.yes rfl rfl (decide_eq_false hc11) (OpY.fieldAddr (q := 1) Tryd.underlying25 rfl ti23 rfl rfl rfl ?_)
    refine Rl.yes rfl rfl (decide_eq_false hc11) (OpY.ldBox1 (v := d_v1) Tryd.underlying23 rfl rfl (hL3.at 0 rfl rfl) rfl ?_)
    have f10 := (d_h1.mono (K4 S))
    refine Rl.yes rfl rfl (decide_eq_false hc11) (OpY.lenRo (v := d_v1) Tryd.underlying23 rfl f10 ?_)
    refine Rl.yes rfl rfl (decide_eq_false hc11) (OpY.move (v := (Value.int .i64 (List.length d.Accept : Int))) rfl ?_)
    refine Rl.yes rfl rfl (decide_eq_false hc11) (OpY.neq (x := (List.length d.Edges : Int)) (y := (List.length d.Accept : Int)) (((List.length d.Edges : Int) : Int) ≠ (List.length d.Accept : Int)) rfl rfl Iff.rfl ?_)
    refine Rl.op (OpY.pick_f (t := (decide (((List.length d.Accept : Int) : Int) > 4096))) (v := (Value.bool (decide (((List.length d.Edges : Int) : Int) ≠ (List.length d.Accept : Int))))) rfl (decide_eq_false hc11) rfl ?_)
    refine Rl.nil ?_
    obtain rfl := Option.some.inj h
    refine Swp.pop_back ?_
    exact ⟨(decide (((List.length d.Edges : Int) : Int) ≠ (List.length d.Accept : Int))), _, rfl, (upds_sym ⟨rfl, rfl, rfl, trivial⟩), hL3, Keep.refl, trivial⟩
 ·
  rintro _ w10 ⟨x10, u, rfl, rfl, hL10, K10, -⟩
  replace h := g10
  try dsimp only at h
  refine Swp.cond_b x10 rfl (fun hc12 => ?_) (fun hc12 => ?_)
  ·
   replace h := ite_t hc12 h
   refine Swp.seq (Swp.region rfl (Rl.op (OpY.assign (v := (Value.bool false)) rfl ?_)))
   refine Rl.nil (Swp.ret ?_)
   obtain rfl := Option.some.inj h
   refine ⟨[(Value.bool false)], ⟨rfl, trivial⟩, ⟨_, rfl, hL10.done, ?_⟩⟩
   exact ⟨rfl, trivial⟩
  ·
   replace h := ite_f hc12 h
   refine Swp.skip (Swp.seq (Swp.seq (Swp.region rfl (Rl.op (OpY.assign (v := (Value.int .i64 0)) rfl ?_)))))
   refine Rl.nil ?_
   obtain ⟨s11, hl10, g11⟩ := bind_some h
   refine Swp.join (fun e w' => ∃  (u : Env), (Sum.inl ()) = s11 ∧ e = upds [] u ∧ Go.X.Loc [] [] w w' [] [] ∧ Keep w.heap.size [some b1] w10 [] w' ∧ True) ?_ ?_
   ·
    refine Swp.block ?_
    refine Swp.loopM hl10 (fun (ss : Int) (e : Env) (w' : World) => match ss with | i10 => ∃ (u : Env), e = upds [(1, (Value.pointer (some ⟨b1, 0, none⟩))), (3, (Value.int .i64 (List.length d.Accept : Int))), (4, (Value.int .i64 i10))] u ∧ Go.X.Loc [] [] w w' [some b1] [Cont.cells [d_v, d_v1]] ∧ Keep w.heap.size [some b1] w10 [some b1] w' ∧ True) ⟨_, (upds_sym ⟨rfl, rfl, rfl, trivial⟩), hL10, Keep.refl, trivial⟩ ?_
    rintro i10 oo _ w11 ⟨u, rfl, hL11, K11, -⟩ h hd10
    rw [rValid_b1] at h
    refine Swp.seq (Swp.seq (Swp.region rfl (Rl.op (OpY.move (v := (Value.int .i64 i10)) rfl ?_))))
    refine Rl.op (OpY.move (v := (Value.int .i64 (List.length d.Accept : Int))) rfl ?_)
    refine Rl.op (OpY.lss (x := i10) (y := (List.length d.Accept : Int)) ((i10 : Int) < (List.length d.Accept : Int)) rfl rfl Iff.rfl ?_)
    refine Rl.nil ?_
    refine Swp.cond_d ((i10 : Int) < (List.length d.Accept : Int)) rfl (fun hc13 => ?_) (fun hc13 => ?_)
    ·
     replace h := ite_t hc13 h
     refine Swp.skip (Swp.seq (Swp.block (Swp.seq (Swp.region rfl (Rl.op (OpY.assign (v := (Value.int .i64 31)) rfl ?_))))))
     refine Rl.nil (Swp.seq (Swp.region rfl (Rl.op (OpY.assign (v := (Value.int .i64 0)) rfl ?_))))
     refine Rl.nil ?_
     obtain ⟨s12, hl11, g12⟩ := bind_some h
     refine Swp.join (fun e w' => ∃  (u : Env), (Sum.inl ()) = s12 ∧ e = upds [(1, (Value.pointer (some ⟨b1, 0, none⟩))), (3, (Value.int .i64 (List.length d.Accept : Int))), (4, (Value.int .i64 i10))] u ∧ Go.X.Loc [] [] w w' [some b1] [Cont.cells [d_v, d_v1]] ∧ Keep w.heap.size [some b1] w11 [some b1] w' ∧ True) ?_ ?_
     ·
      refine Swp.block ?_
      refine Swp.loopM hl11 (fun (ss : (Int × Int)) (e : Env) (w' : World) => match ss with | (last10, k10) => ∃ (u : Env), e = upds [(1, (Value.pointer (some ⟨b1, 0, none⟩))), (3, (Value.int .i64 (List.length d.Accept : Int))), (4, (Value.int .i64 i10)), (5, (Value.int .i64 last10)), (6, (Value.int .i64 k10))] u ∧ Go.X.Loc [] [] w w' [some b1] [Cont.cells [d_v, d_v1]] ∧ Keep w.heap.size [some b1] w11 [some b1] w' ∧ True) ⟨_, (upds_sym ⟨rfl, rfl, rfl, rfl, rfl, trivial⟩), hL11, Keep.refl, trivial⟩ ?_
      rintro ⟨last10, k10⟩ oo _ w12 ⟨u, rfl, hL12, K12, -⟩ h hd11
      rw [rValid_b2] at h
      refine Swp.seq (Swp.seq (Swp.region rfl (Rl.op (OpY.move (v := (Value.int .i64 k10)) rfl ?_))))
      refine Rl.op (OpY.fieldAddr (q := 1) Tryd.underlying25 rfl ti23 rfl rfl rfl ?_)
      refine Rl.op (OpY.ldBox1 (v := d_v1) Tryd.underlying23 rfl rfl (hL12.at 0 rfl rfl) rfl ?_)
      refine Rl.op (OpY.move (v := (Value.int .i64 i10)) rfl ?_)
      obtain ⟨x11, q10, h⟩ := bind_some h
      obtain ⟨n10, q11, q12⟩ := idx_some q10
      have f11 := ((((d_h1.mono (K4 S)).mono (K10 S)).mono (K11 S)).mono (K12 S))
      obtain ⟨b10, o10, c10, vs10, q13, q14, f12, q15⟩ := Rs.get f11 q12
      obtain ⟨v10, rfl, k11⟩ := q15
      refine Rl.op (OpY.ixRoD (r := (rSl rAEdge)) (v := d_v1) (n := n10) (m := (o10 + n10 * (rSl rAEdge).sz)) Tryd.underlying23 ti39 rfl q13 rfl q11 q12 rfl ?_)
      refine Rl.op (OpY.ldRo1 (v := v10) Tryd.underlying39 rfl rfl vw_view f12 ?_)
      refine Rl.op (OpY.lenRo (v := v10) Tryd.underlying39 rfl k11 ?_)
      refine Rl.op (OpY.lss (x := k10) (y := (List.length x11 : Int)) ((k10 : Int) < (List.length x11 : Int)) rfl rfl Iff.rfl ?_)
      refine Rl.nil ?_
      refine Swp.cond_d ((k10 : Int) < (List.length x11 : Int)) rfl (fun hc14 => ?_) (fun hc14 => ?_)
      ·
       replace h := ite_t hc14 h
       refine Swp.skip (Swp.seq (Swp.block (Swp.seq (Swp.region rfl (Rl.op (OpY.fieldAddr (q := 1) Tryd.underlying25 rfl ti23 rfl rfl rfl ?_))))))
       refine Rl.op (OpY.ldBox1 (v := d_v1) Tryd.underlying23 rfl rfl (hL12.at 0 rfl rfl) rfl ?_)
       refine Rl.op (OpY.move (v := (Value.int .i64 i10)) rfl ?_)
       obtain ⟨x12, q16, h⟩ := bind_some h
       obtain ⟨n11, q17, q18⟩ := idx_some q16
       obtain ⟨b11, o11, c11, vs11, q19, q20, f13, q21⟩ := Rs.get f11 q18
       obtain ⟨v11, rfl, k12⟩ := q21
       refine Rl.op (OpY.ixRoD (r := (rSl rAEdge)) (v := d_v1) (n := n11) (m := (o11 + n11 * (rSl rAEdge).sz)) Tryd.underlying23 ti39 rfl q19 rfl q17 q18 rfl ?_)
       refine Rl.op (OpY.ldRo1 (v := v11) Tryd.underlying39 rfl rfl vw_view f13 ?_)
       refine Rl.op (OpY.move (v := (Value.int .i64 k10)) rfl ?_)
       obtain ⟨x13, q22, h⟩ := bind_some h
       obtain ⟨n12, q23, q24⟩ := idx_some q22
       obtain ⟨b12, o12, c12, vs12, q25, q26, f14, q27⟩ := Rs.get k12 q24
       obtain ⟨rfl, -⟩ := rAEdge_open q27
       refine Rl.op (OpY.ixRoD (r := rAEdge) (v := v11) (n := n12) (m := (o12 + n12 * rAEdge.sz)) Tryd.underlying39 ti63 rfl q25 rfl q23 q24 rfl ?_)
       refine Rl.op (OpY.ldRoA (vs := [(Value.int .u8 x13.Low), (Value.int .u8 x13.High), (Value.int .i64 x13.To)]) Tryd.underlying63 rfl ti63 rfl rfl vw_view f14 ?_)
       refine Rl.op (OpY.alloc (cs := [(Value.int .u8 0), (Value.int .u8 0), (Value.int .i64 0)]) ti63 rfl hL12 ?_)
       intro b13 w13 hL13 hS10
       have K13 := ks w hS10
       refine Rl.op0 (OpY.store (vs := [(Value.int .u8 x13.Low), (Value.int .u8 x13.High), (Value.int .i64 x13.To)]) ti63 rfl rfl rfl rfl (ones_cons rfl (ones_cons rfl (ones_cons rfl ones_nil))) hL13 0 rfl rfl (Nat.le_of_ble_eq_true rfl) ?_)
       intro w14 (hL14 : Go.X.Loc [] [] w w14 [some b13, some b1] [Cont.cells [(Value.int .u8 x13.Low), (Value.int .u8 x13.High), (Value.int .i64 x13.To)], Cont.cells [d_v, d_v1]]) hS11
       have K14 := ks w hS11
       refine Rl.nil (Swp.seq (Swp.seq ?_))
       obtain ⟨s13, h, g13⟩ := bind_some h
       refine Swp.join (fun e w' => ∃ (x14 : Bool) (u : Env), x14 = s13 ∧ e = upds [(1, (Value.pointer (some ⟨b1, 0, none⟩))), (3, (Value.int .i64 (List.length d.Accept : Int))), (4, (Value.int .i64 i10)), (6, (Value.int .i64 k10)), (7, (Value.pointer (some ⟨b13, 0, none⟩))), (74, (Value.bool x14))] u ∧ Go.X.Loc [] [] w w' [some b1, some b13] [Cont.cells [d_v, d_v1], Cont.cells [(Value.int .u8 x13.Low), (Value.int .u8 x13.High), (Value.int .i64 x13.To)]] ∧ Keep w.heap.size [some b13, some b1] w14 [some b1, some b13] w' ∧ True) ?_ ?_
       ·
        refine Swp.region rfl (Rl.op (OpY.fieldAddr (q := 0) Tryd.underlying63 rfl ti5 rfl rfl rfl ?_))
        refine Rl.op (OpY.ldBox1 (v := (Value.int .u8 x13.Low)) Tryd.underlying5 rfl rfl (hL14.at 0 rfl rfl) rfl ?_)
        refine Rl.op (OpY.convInt (x := x13.Low) (z := (iw x13.Low)) Tryd.underlying5 Tryd.underlying3 rfl rfl ?_)
        refine Rl.op (OpY.move (v := (Value.int .i64 last10)) rfl ?_)
        refine Rl.op (OpY.leq (x := (iw x13.Low)) (y := last10) (((iw x13.Low) : Int) ≤ last10) rfl rfl Iff.rfl ?_)
        refine Rl.op (OpY.move (v := (Value.bool (decide (((iw x13.Low) : Int) ≤ last10)))) rfl ?_)
        by_cases hc15 : ((iw x13.Low) : Int) ≤ last10
        ·
         replace h := ite_t hc15 h
         refine Rl.no rfl rfl (decide_eq_true hc15) ?_
         refine Rl.no rfl rfl (decide_eq_true hc15) ?_
         refine Rl.no rfl rfl (decide_eq_true hc15) ?_
         refine Rl.no rfl rfl (decide_eq_true hc15) ?_
         refine Rl.no rfl rfl (decide_eq_true hc15) ?_
         refine Rl.op (OpY.pick_t (t := (decide (((iw x13.Low) : Int) ≤ last10))) (v := (Value.bool true)) rfl (decide_eq_true hc15) rfl ?_)
         refine Rl.op (OpY.move (v := (Value.bool true)) rfl ?_)
         refine Rl.no rfl rfl rfl ?_
         refine Rl.no rfl rfl rfl ?_
         refine Rl.no rfl rfl rfl ?_
         refine Rl.op (OpY.pick_t (t := true) (v := (Value.bool true)) rfl rfl rfl ?_)
         refine Rl.op (OpY.move (v := (Value.bool true)) rfl ?_)
         refine Rl.no rfl rfl rfl ?_
         refine Rl.no rfl rfl rfl ?_
         refine Rl.no rfl rfl rfl ?_
         refine Rl.op (OpY.pick_t (t := true) (v := (Value.bool true)) rfl rfl rfl ?_)
         refine Rl.op (OpY.move (v := (Value.bool true)) rfl ?_)
         refine Rl.no rfl rfl rfl ?_
         refine Rl.no rfl rfl rfl ?_
         refine Rl.no rfl rfl rfl ?_
         refine Rl.no rfl rfl rfl ?_
         refine Rl.op (OpY.pick_t (t := true) (v := (Value.bool true)) rfl rfl rfl ?_)
         refine Rl.nil ?_
         have hp10 := hL14.pick [1, 0] rfl rfl rfl
         have hL15 : Go.X.Loc [] [] w w14 [some b1, some b13] [Cont.cells [d_v, d_v1], Cont.cells [(Value.int .u8 x13.Low), (Value.int .u8 x13.High), (Value.int .i64 x13.To)]] := hp10.1
         have K15 := ks w hp10.2
         obtain rfl := Option.some.inj h
         refine Swp.pop_back ?_
         exact ⟨true, _, rfl, (upds_sym ⟨rfl, rfl, rfl, rfl, rfl, rfl, trivial⟩), hL15, K15, trivial⟩
        ·
         replace h := ite_f hc15 h
         refine Rl.yes rfl rfl (decide_eq_false hc15) (OpY.fieldAddr (q := 1) Tryd.underlying63 rfl ti5 rfl rfl rfl ?_)
         refine Rl.yes rfl rfl (decide_eq_false hc15) (OpY.ldBox1 (v := (Value.int .u8 x13.High)) Tryd.underlying5 rfl rfl (hL14.at 0 rfl rfl) rfl ?_)
         refine Rl.yes rfl rfl (decide_eq_false hc15) (OpY.fieldAddr (q := 0) Tryd.underlying63 rfl ti5 rfl rfl rfl ?_)
         refine Rl.yes rfl rfl (decide_eq_false hc15) (OpY.ldBox1 (v := (Value.int .u8 x13.Low)) Tryd.underlying5 rfl rfl (hL14.at 0 rfl rfl) rfl ?_)
         refine Rl.yes rfl rfl (decide_eq_false hc15) (OpY.lss (x := x13.High) (y := x13.Low) ((x13.High : Int) < x13.Low) rfl rfl Iff.rfl ?_)
         refine Rl.op (OpY.pick_f (t := (decide (((iw x13.Low) : Int) ≤ last10))) (v := (Value.bool (decide ((x13.High : Int) < x13.Low)))) rfl (decide_eq_false hc15) rfl ?_)
         refine Rl.op (OpY.move (v := (Value.bool (decide ((x13.High : Int) < x13.Low)))) rfl ?_)
         by_cases hc16 : (x13.High : Int) < x13.Low
         ·
          replace h := ite_t hc16 h
          refine Rl.no rfl rfl (decide_eq_true hc16) ?_
          refine Rl.no rfl rfl (decide_eq_true hc16) ?_
          refine Rl.no rfl rfl (decide_eq_true hc16) ?_
          refine Rl.op (OpY.pick_t (t := (decide ((x13.High : Int) < x13.Low))) (v := (Value.bool true)) rfl (decide_eq_true hc16) rfl ?_)
          refine Rl.op (OpY.move (v := (Value.bool true)) rfl ?_)
          refine Rl.no rfl rfl rfl ?_
          refine Rl.no rfl rfl rfl ?_
          refine Rl.no rfl rfl rfl ?_
          refine Rl.op (OpY.pick_t (t := true) (v := (Value.bool true)) rfl rfl rfl ?_)
          refine Rl.op (OpY.move (v := (Value.bool true)) rfl ?_)
          refine Rl.no rfl rfl rfl ?_
          refine Rl.no rfl rfl rfl ?_
          refine Rl.no rfl rfl rfl ?_
          refine Rl.no rfl rfl rfl ?_
          refine Rl.op (OpY.pick_t (t := true) (v := (Value.bool true)) rfl rfl rfl ?_)
          refine Rl.nil ?_
          have hp11 := hL14.pick [1, 0] rfl rfl rfl
          have hL16 : Go.X.Loc [] [] w w14 [some b1, some b13] [Cont.cells [d_v, d_v1], Cont.cells [(Value.int .u8 x13.Low), (Value.int .u8 x13.High), (Value.int .i64 x13.To)]] := hp11.1
          have K16 := ks w hp11.2
          obtain rfl := Option.some.inj h
          refine Swp.pop_back ?_
          exact ⟨true, _, rfl, (upds_sym ⟨rfl, rfl, rfl, rfl, rfl, rfl, trivial⟩), hL16, K16, trivial⟩
         ·
          replace h := ite_f hc16 h
          refine Rl.yes rfl rfl (decide_eq_false hc16) (OpY.fieldAddr (q := 1) Tryd.underlying63 rfl ti5 rfl rfl rfl ?_)
          refine Rl.yes rfl rfl (decide_eq_false hc16) (OpY.ldBox1 (v := (Value.int .u8 x13.High)) Tryd.underlying5 rfl rfl (hL14.at 0 rfl rfl) rfl ?_)
          refine Rl.yes rfl rfl (decide_eq_false hc16) (OpY.gtr (x := x13.High) (y := 126) ((x13.High : Int) > 126) rfl rfl Iff.rfl ?_)
          refine Rl.op (OpY.pick_f (t := (decide ((x13.High : Int) < x13.Low))) (v := (Value.bool (decide ((x13.High : Int) > 126)))) rfl (decide_eq_false hc16) rfl ?_)
          refine Rl.op (OpY.move (v := (Value.bool (decide ((x13.High : Int) > 126)))) rfl ?_)
          by_cases hc17 : (x13.High : Int) > 126
          ·
           replace h := ite_t hc17 h
           refine Rl.no rfl rfl (decide_eq_true hc17) ?_
           refine Rl.no rfl rfl (decide_eq_true hc17) ?_
           refine Rl.no rfl rfl (decide_eq_true hc17) ?_
           refine Rl.op (OpY.pick_t (t := (decide ((x13.High : Int) > 126))) (v := (Value.bool true)) rfl (decide_eq_true hc17) rfl ?_)
           refine Rl.op (OpY.move (v := (Value.bool true)) rfl ?_)
           refine Rl.no rfl rfl rfl ?_
           refine Rl.no rfl rfl rfl ?_
           refine Rl.no rfl rfl rfl ?_
           refine Rl.no rfl rfl rfl ?_
           refine Rl.op (OpY.pick_t (t := true) (v := (Value.bool true)) rfl rfl rfl ?_)
           refine Rl.nil ?_
           have hp12 := hL14.pick [1, 0] rfl rfl rfl
           have hL17 : Go.X.Loc [] [] w w14 [some b1, some b13] [Cont.cells [d_v, d_v1], Cont.cells [(Value.int .u8 x13.Low), (Value.int .u8 x13.High), (Value.int .i64 x13.To)]] := hp12.1
           have K17 := ks w hp12.2
           obtain rfl := Option.some.inj h
           refine Swp.pop_back ?_
           exact ⟨true, _, rfl, (upds_sym ⟨rfl, rfl, rfl, rfl, rfl, rfl, trivial⟩), hL17, K17, trivial⟩
          ·
           replace h := ite_f hc17 h
           refine Rl.yes rfl rfl (decide_eq_false hc17) (OpY.fieldAddr (q := 2) Tryd.underlying63 rfl ti3 rfl rfl rfl ?_)
           refine Rl.yes rfl rfl (decide_eq_false hc17) (OpY.ldBox1 (v := (Value.int .i64 x13.To)) Tryd.underlying3 rfl rfl (hL14.at 0 rfl rfl) rfl ?_)
           refine Rl.yes rfl rfl (decide_eq_false hc17) (OpY.lss (x := x13.To) (y := 0) ((x13.To : Int) < 0) rfl rfl Iff.rfl ?_)
           refine Rl.op (OpY.pick_f (t := (decide ((x13.High : Int) > 126))) (v := (Value.bool (decide ((x13.To : Int) < 0)))) rfl (decide_eq_false hc17) rfl ?_)
           refine Rl.op (OpY.move (v := (Value.bool (decide ((x13.To : Int) < 0)))) rfl ?_)
           by_cases hc18 : (x13.To : Int) < 0
           ·
            replace h := ite_t hc18 h
            refine Rl.no rfl rfl (decide_eq_true hc18) ?_
            refine Rl.no rfl rfl (decide_eq_true hc18) ?_
            refine Rl.no rfl rfl (decide_eq_true hc18) ?_
            refine Rl.no rfl rfl (decide_eq_true hc18) ?_
            refine Rl.op (OpY.pick_t (t := (decide ((x13.To : Int) < 0))) (v := (Value.bool true)) rfl (decide_eq_true hc18) rfl ?_)
            refine Rl.nil ?_
            have hp13 := hL14.pick [1, 0] rfl rfl rfl
            have hL18 : Go.X.Loc [] [] w w14 [some b1, some b13] [Cont.cells [d_v, d_v1], Cont.cells [(Value.int .u8 x13.Low), (Value.int .u8 x13.High), (Value.int .i64 x13.To)]] := hp13.1
            have K18 := ks w hp13.2
            obtain rfl := Option.some.inj h
            refine Swp.pop_back ?_
            exact ⟨true, _, rfl, (upds_sym ⟨rfl, rfl, rfl, rfl, rfl, rfl, trivial⟩), hL18, K18, trivial⟩
           ·
            replace h := ite_f hc18 h
            refine Rl.yes rfl rfl (decide_eq_false hc18) (OpY.fieldAddr (q := 2) Tryd.underlying63 rfl ti3 rfl rfl rfl ?_)
            refine Rl.yes rfl rfl (decide_eq_false hc18) (OpY.ldBox1 (v := (Value.int .i64 x13.To)) Tryd.underlying3 rfl rfl (hL14.at 0 rfl rfl) rfl ?_)
            refine Rl.yes rfl rfl (decide_eq_false hc18) (OpY.move (v := (Value.int .i64 (List.length d.Accept : Int))) rfl ?_)
            refine Rl.yes rfl rfl (decide_eq_false hc18) (OpY.geq (x := x13.To) (y := (List.length d.Accept : Int)) ((x13.To : Int) ≥ (List.length d.Accept : Int)) rfl rfl Iff.rfl ?_)
            refine Rl.op (OpY.pick_f (t := (decide ((x13.To : Int) < 0))) (v := (Value.bool (decide ((x13.To : Int) ≥ (List.length d.Accept : Int))))) rfl (decide_eq_false hc18) rfl ?_)
            refine Rl.nil ?_
            have hp14 := hL14.pick [1, 0] rfl rfl rfl
            have hL19 : Go.X.Loc [] [] w w14 [some b1, some b13] [Cont.cells [d_v, d_v1], Cont.cells [(Value.int .u8 x13.Low), (Value.int .u8 x13.High), (Value.int .i64 x13.To)]] := hp14.1
            have K19 := ks w hp14.2
            obtain rfl := Option.some.inj h
            refine Swp.pop_back ?_
            exact ⟨(decide ((x13.To : Int) ≥ (List.length d.Accept : Int))), _, rfl, (upds_sym ⟨rfl, rfl, rfl, rfl, rfl, rfl, trivial⟩), hL19, K19, trivial⟩
       ·
        rintro _ w15 ⟨x14, u, rfl, rfl, hL20, K20, -⟩
        replace h := g13
        try dsimp only at h
        refine Swp.cond_b x14 rfl (fun hc19 => ?_) (fun hc19 => ?_)
        ·
         replace h := ite_t hc19 h
         refine Swp.seq (Swp.region rfl (Rl.op (OpY.assign (v := (Value.bool false)) rfl ?_)))
         refine Rl.nil (Swp.ret ?_)
         obtain rfl := Option.some.inj h
         obtain rfl := hd11 _ rfl
         replace h := g12
         try dsimp only at h
         obtain rfl := Option.some.inj h
         obtain rfl := hd10 _ rfl
         replace h := g11
         try dsimp only at h
         obtain rfl := Option.some.inj h
         refine ⟨[(Value.bool false)], ⟨rfl, trivial⟩, ⟨_, rfl, hL20.done, ?_⟩⟩
         exact ⟨rfl, trivial⟩
        ·
         replace h := ite_f hc19 h
         refine Swp.skip (Swp.region rfl (Rl.op (OpY.fieldAddr (q := 1) Tryd.underlying63 rfl ti5 rfl rfl rfl ?_)))
         refine Rl.op (OpY.ldBox1 (v := (Value.int .u8 x13.High)) Tryd.underlying5 rfl rfl (hL20.at 1 rfl rfl) rfl ?_)
         refine Rl.op (OpY.convInt (x := x13.High) (z := (iw x13.High)) Tryd.underlying5 Tryd.underlying3 rfl rfl ?_)
         refine Rl.op (OpY.assign (v := (Value.int .i64 (iw x13.High))) rfl ?_)
         refine Rl.nil (Swp.pop_blk (Swp.region rfl (Rl.op (OpY.move (v := (Value.int .i64 k10)) rfl ?_))))
         refine Rl.op (OpY.add (x := k10) (y := 1) (z := (iw (k10 + 1))) rfl rfl rfl ?_)
         refine Rl.op (OpY.assign (v := (Value.int .i64 (iw (k10 + 1)))) rfl ?_)
         refine Rl.nil ?_
         have hp15 := hL20.pick [0] rfl rfl rfl
         have hL21 : Go.X.Loc [] [] w w15 [some b1] [Cont.cells [d_v, d_v1]] := hp15.1
         have K21 := ks w hp15.2
         obtain rfl := Option.some.inj h
         refine Swp.pop_back ⟨((iw x13.High), (iw (k10 + 1))), rfl, ?_⟩
         exact ⟨_, (upds_sym ⟨rfl, rfl, rfl, rfl, rfl, trivial⟩), hL21, (Keep.trans (Keep.trans (Keep.trans (Keep.trans K12 K13) K14) K20) K21), trivial⟩
      ·
       replace h := ite_f hc14 h
       refine Swp.exit rfl ?_
       obtain rfl := Option.some.inj h
       obtain rfl := hd11 _ rfl
       replace h := g12
       try dsimp only at h
       skip
       refine Swp.pop_back ?_
       exact ⟨_, rfl, (upds_sym ⟨rfl, rfl, rfl, trivial⟩), hL12, K12, trivial⟩
     ·
      rintro _ w16 ⟨u, rfl, rfl, hL22, K22, -⟩
      replace h := g12
      try dsimp only at h
      refine Swp.pop_blk (Swp.region rfl (Rl.op (OpY.move (v := (Value.int .i64 i10)) rfl ?_)))
      refine Rl.op (OpY.add (x := i10) (y := 1) (z := (iw (i10 + 1))) rfl rfl rfl ?_)
      refine Rl.op (OpY.assign (v := (Value.int .i64 (iw (i10 + 1)))) rfl ?_)
      refine Rl.nil ?_
      obtain rfl := Option.some.inj h
      refine Swp.pop_back ⟨(iw (i10 + 1)), rfl, ?_⟩
      exact ⟨_, (upds_sym ⟨rfl, rfl, rfl, trivial⟩), hL22, (Keep.trans K11 K22), trivial⟩
    ·
     replace h := ite_f hc13 h
     refine Swp.exit rfl ?_
     have hp16 := hL11.pick [] rfl rfl rfl
     have hL23 : Go.X.Loc [] [] w w11 [] [] := hp16.1
     have K23 := ks w hp16.2
     obtain rfl := Option.some.inj h
     obtain rfl := hd10 _ rfl
     replace h := g11
     try dsimp only at h
     skip
     refine Swp.pop_back ?_
     exact ⟨_, rfl, (upds_sym trivial), hL23, (Keep.trans K11 K23), trivial⟩
   ·
    rintro _ w17 ⟨u, rfl, rfl, hL24, K24, -⟩
    replace h := g11
    try dsimp only at h
    refine Swp.seq (Swp.region rfl (Rl.op (OpY.assign (v := (Value.bool true)) rfl ?_)))
    refine Rl.nil (Swp.ret ?_)
    obtain rfl := Option.some.inj h
    refine ⟨[(Value.bool true)], ⟨rfl, trivial⟩, ⟨_, rfl, hL24.done, ?_⟩⟩
    exact ⟨rfl, trivial⟩
theorem rStep_w (N : Nat) (d : ADfa) (state : Int) (c : Int) (d_v : Value) (d_v1 : Value) (w : World) (S : Nat → Prop) (d_h : Rs rBool (Hv w.heap.size S [] w) d_v d.Accept) (d_h1 : Rs (rSl rAEdge) (Hv w.heap.size S [] w) d_v1 d.Edges) (r : Int) (h : rStep N d state c = some r) :
  Calls Tryd.prog 52 #[(Value.agg #[d_v, d_v1]), (Value.int .i64 state), (Value.int .u8 c)] w (Ret w (fun v w' => (Value.int .i64 r) = v ∧ True)) := by
 unfold rStep at h
 have hL : Go.X.Loc [] [] w w [] [] := Go.X.Loc.begin0 w
 refine calls_of (l := [(Value.agg #[d_v, d_v1]), (Value.int .i64 state), (Value.int .u8 c)]) (rl := [.tmp 6]) (n := 41) Tryd.func52 rfl rfl rfl (Nat.le_of_ble_eq_true rfl) ?_
 refine Swp.seq (Swp.region rfl (Rl.op (OpY.box (cs := [d_v, d_v1]) rfl rfl hL ?_)))
 intro b1 w2 hL3 hS5
 have K4 := ks w hS5
 refine Rl.op (OpY.assign (v := (Value.int .i64 0)) rfl ?_)
 refine Rl.nil (Swp.seq (Swp.seq (Swp.region rfl (Rl.op (OpY.move (v := (Value.int .i64 state)) rfl ?_)))))
 refine Rl.op (OpY.lss (x := state) (y := 0) ((state : Int) < 0) rfl rfl Iff.rfl ?_)
 refine Rl.nil ?_
 refine Swp.cond_d ((state : Int) < 0) rfl (fun hc6 => ?_) (fun hc6 => ?_)
 ·
  replace h := ite_t hc6 h
  refine Swp.seq (Swp.region rfl (Rl.op (OpY.assign (v := (Value.int .i64 (-1))) rfl ?_)))
  refine Rl.nil (Swp.ret ?_)
  obtain rfl := Option.some.inj h
  refine ⟨[(Value.int .i64 (-1))], ⟨rfl, trivial⟩, ⟨_, rfl, hL3.done, ?_⟩⟩
  exact ⟨rfl, trivial⟩
 ·
  replace h := ite_f hc6 h
  refine Swp.skip (Swp.seq (Swp.seq (Swp.region rfl (Rl.op (OpY.assign (v := (Value.int .i64 0)) rfl ?_)))))
  refine Rl.nil ?_
  obtain ⟨s10, hl10, g10⟩ := bind_some h
  refine Swp.join (fun e w' => ∃  (u : Env), (Sum.inl ()) = s10 ∧ e = upds [] u ∧ Go.X.Loc [] [] w w' [] [] ∧ Keep w.heap.size [some b1] w2 [] w' ∧ True) ?_ ?_
  ·
   refine Swp.block ?_
   refine Swp.loopM hl10 (fun (ss : Int) (e : Env) (w' : World) => match ss with | k10 => ∃ (u : Env), e = upds [(1, (Value.int .i64 state)), (2, (Value.int .u8 c)), (3, (Value.pointer (some ⟨b1, 0, none⟩))), (7, (Value.int .i64 k10))] u ∧ Go.X.Loc [] [] w w' [some b1] [Cont.cells [d_v, d_v1]] ∧ Keep w.heap.size [some b1] w2 [some b1] w' ∧ True) ⟨_, (upds_sym ⟨rfl, rfl, rfl, rfl, trivial⟩), hL3, Keep.refl, trivial⟩ ?_
   rintro k10 oo _ w10 ⟨u, rfl, hL10, K10, -⟩ h hd10
   rw [rStep_b1] at h
   refine Swp.seq (Swp.seq (Swp.region rfl (Rl.op (OpY.move (v := (Value.int .i64 k10)) rfl ?_))))
   refine Rl.op (OpY.fieldAddr (q := 1) Tryd.underlying25 rfl ti23 rfl rfl rfl ?_)
   refine Rl.op (OpY.ldBox1 (v := d_v1) Tryd.underlying23 rfl rfl (hL10.at 0 rfl rfl) rfl ?_)
   refine Rl.op (OpY.move (v := (Value.int .i64 state)) rfl ?_)
   obtain ⟨x10, q10, h⟩ := bind_some h
   obtain ⟨n10, q11, q12⟩ := idx_some q10
   have f10 := ((d_h1.mono (K4 S)).mono (K10 S))
   obtain ⟨b10, o10, c10, vs10, q13, q14, f11, q15⟩ := Rs.get f10 q12
   obtain ⟨v10, rfl, k11⟩ := q15
   refine Rl.op (OpY.ixRoD (r := (rSl rAEdge)) (v := d_v1) (n := n10) (m := (o10 + n10 * (rSl rAEdge).sz)) Tryd.underlying23 ti39 rfl q13 rfl q11 q12 rfl ?_)
   refine Rl.op (OpY.ldRo1 (v := v10) Tryd.underlying39 rfl rfl vw_view f11 ?_)
   refine Rl.op (OpY.lenRo (v := v10) Tryd.underlying39 rfl k11 ?_)
   refine Rl.op (OpY.lss (x := k10) (y := (List.length x10 : Int)) ((k10 : Int) < (List.length x10 : Int)) rfl rfl Iff.rfl ?_)
   refine Rl.nil ?_
   refine Swp.cond_d ((k10 : Int) < (List.length x10 : Int)) rfl (fun hc10 => ?_) (fun hc10 => ?_)
   ·
    replace h := ite_t hc10 h
    refine Swp.skip (Swp.seq (Swp.block (Swp.seq (Swp.region rfl (Rl.op (OpY.fieldAddr (q := 1) Tryd.underlying25 rfl ti23 rfl rfl rfl ?_))))))
    refine Rl.op (OpY.ldBox1 (v := d_v1) Tryd.underlying23 rfl rfl (hL10.at 0 rfl rfl) rfl ?_)
    refine Rl.op (OpY.move (v := (Value.int .i64 state)) rfl ?_)
    obtain ⟨x11, q16, h⟩ := bind_some h
    obtain ⟨n11, q17, q18⟩ := idx_some q16
    obtain ⟨b11, o11, c11, vs11, q19, q20, f12, q21⟩ := Rs.get f10 q18
    obtain ⟨v11, rfl, k12⟩ := q21
    refine Rl.op (OpY.ixRoD (r := (rSl rAEdge)) (v := d_v1) (n := n11) (m := (o11 + n11 * (rSl rAEdge).sz)) Tryd.underlying23 ti39 rfl q19 rfl q17 q18 rfl ?_)
    refine Rl.op (OpY.ldRo1 (v := v11) Tryd.underlying39 rfl rfl vw_view f12 ?_)
    refine Rl.op (OpY.move (v := (Value.int .i64 k10)) rfl ?_)
    obtain ⟨x12, q22, h⟩ := bind_some h
    obtain ⟨n12, q23, q24⟩ := idx_some q22
    obtain ⟨b12, o12, c12, vs12, q25, q26, f13, q27⟩ := Rs.get k12 q24
    obtain ⟨rfl, -⟩ := rAEdge_open q27
    refine Rl.op (OpY.ixRoD (r := rAEdge) (v := v11) (n := n12) (m := (o12 + n12 * rAEdge.sz)) Tryd.underlying39 ti63 rfl q25 rfl q23 q24 rfl ?_)
    refine Rl.op (OpY.ldRoA (vs := [(Value.int .u8 x12.Low), (Value.int .u8 x12.High), (Value.int .i64 x12.To)]) Tryd.underlying63 rfl ti63 rfl rfl vw_view f13 ?_)
    refine Rl.op (OpY.alloc (cs := [(Value.int .u8 0), (Value.int .u8 0), (Value.int .i64 0)]) ti63 rfl hL10 ?_)
    intro b13 w11 hL11 hS10
    have K11 := ks w hS10
    refine Rl.op0 (OpY.store (vs := [(Value.int .u8 x12.Low), (Value.int .u8 x12.High), (Value.int .i64 x12.To)]) ti63 rfl rfl rfl rfl (ones_cons rfl (ones_cons rfl (ones_cons rfl ones_nil))) hL11 0 rfl rfl (Nat.le_of_ble_eq_true rfl) ?_)
    intro w12 (hL12 : Go.X.Loc [] [] w w12 [some b13, some b1] [Cont.cells [(Value.int .u8 x12.Low), (Value.int .u8 x12.High), (Value.int .i64 x12.To)], Cont.cells [d_v, d_v1]]) hS11
    have K12 := ks w hS11
    refine Rl.nil (Swp.seq ?_)
    obtain ⟨s11, h, g11⟩ := bind_some h
    refine Swp.join (fun e w' => ∃ (x13 : Bool) (u : Env), x13 = s11 ∧ e = upds [(1, (Value.int .i64 state)), (2, (Value.int .u8 c)), (3, (Value.pointer (some ⟨b1, 0, none⟩))), (7, (Value.int .i64 k10)), (8, (Value.pointer (some ⟨b13, 0, none⟩))), (38, (Value.bool x13))] u ∧ Go.X.Loc [] [] w w' [some b1, some b13] [Cont.cells [d_v, d_v1], Cont.cells [(Value.int .u8 x12.Low), (Value.int .u8 x12.High), (Value.int .i64 x12.To)]] ∧ Keep w.heap.size [some b13, some b1] w12 [some b1, some b13] w' ∧ True) ?_ ?_
    ·
     refine Swp.region rfl (Rl.op (OpY.fieldAddr (q := 0) Tryd.underlying63 rfl ti5 rfl rfl rfl ?_))
     refine Rl.op (OpY.ldBox1 (v := (Value.int .u8 x12.Low)) Tryd.underlying5 rfl rfl (hL12.at 0 rfl rfl) rfl ?_)
     refine Rl.op (OpY.move (v := (Value.int .u8 c)) rfl ?_)
     refine Rl.op (OpY.leq (x := x12.Low) (y := c) ((x12.Low : Int) ≤ c) rfl rfl Iff.rfl ?_)
     refine Rl.op (OpY.move (v := (Value.bool (decide ((x12.Low : Int) ≤ c)))) rfl ?_)
     by_cases hc11 : (x12.Low : Int) ≤ c
     ·
      replace h := ite_t hc11 h
      refine Rl.yes rfl rfl (decide_eq_true hc11) (OpY.move (v := (Value.int .u8 c)) rfl ?_)
      refine Rl.yes rfl rfl (decide_eq_true hc11) (OpY.fieldAddr (q := 1) Tryd.underlying63 rfl ti5 rfl rfl rfl ?_)
      refine Rl.yes rfl rfl (decide_eq_true hc11) (OpY.ldBox1 (v := (Value.int .u8 x12.High)) Tryd.underlying5 rfl rfl (hL12.at 0 rfl rfl) rfl ?_)
      refine Rl.yes rfl rfl (decide_eq_true hc11) (OpY.leq (x := c) (y := x12.High) ((c : Int) ≤ x12.High) rfl rfl Iff.rfl ?_)
      refine Rl.op (OpY.pick_t (t := (decide ((x12.Low : Int) ≤ c))) (v := (Value.bool (decide ((c : Int) ≤ x12.High)))) rfl (decide_eq_true hc11) rfl ?_)
      refine Rl.nil ?_
      have hp10 := hL12.pick [1, 0] rfl rfl rfl
      have hL13 : Go.X.Loc [] [] w w12 [some b1, some b13] [Cont.cells [d_v, d_v1], Cont.cells [(Value.int .u8 x12.Low), (Value.int .u8 x12.High), (Value.int .i64 x12.To)]] := hp10.1
      have K13 := ks w hp10.2
      obtain rfl := Option.some.inj h
      refine Swp.pop_back ?_
      exact ⟨(decide ((c : Int) ≤ x12.High)), _, rfl, (upds_sym ⟨rfl, rfl, rfl, rfl, rfl, rfl, trivial⟩), hL13, K13, trivial⟩
     ·
      replace h := ite_f hc11 h
      refine Rl.no rfl rfl (decide_eq_false hc11) ?_
      refine Rl.no rfl rfl (decide_eq_false hc11) ?_
      refine Rl.no rfl rfl (decide_eq_false hc11) ?_
      refine Rl.no rfl rfl (decide_eq_false hc11) ?_
      refine Rl.op (OpY.pick_f (t := (decide ((x12.Low : Int) ≤ c))) (v := (Value.bool false)) rfl (decide_eq_false hc11) rfl ?_)
      refine Rl.nil ?_
      have hp11 := hL12.pick [1, 0] rfl rfl rfl
      have hL14 : Go.X.Loc [] [] w w12 [some b1, some b13] [Cont.cells [d_v, d_v1], Cont.cells [(Value.int .u8 x12.Low), (Value.int .u8 x12.High), (Value.int .i64 x12.To)]] := hp11.1
      have K14 := ks w hp11.2
      obtain rfl := Option.some.inj h
      refine Swp.pop_back ?_
      exact ⟨false, _, rfl, (upds_sym ⟨rfl, rfl, rfl, rfl, rfl, rfl, trivial⟩), hL14, K14, trivial⟩
    ·
     rintro _ w13 ⟨x13, u, rfl, rfl, hL15, K15, -⟩
     replace h := g11
     try dsimp only at h
     refine Swp.cond_b x13 rfl (fun hc12 => ?_) (fun hc12 => ?_)
     ·
      replace h := ite_t hc12 h
      refine Swp.seq (Swp.region rfl (Rl.op (OpY.fieldAddr (q := 2) Tryd.underlying63 rfl ti3 rfl rfl rfl ?_)))
      refine Rl.op (OpY.ldBox1 (v := (Value.int .i64 x12.To)) Tryd.underlying3 rfl rfl (hL15.at 1 rfl rfl) rfl ?_)
      refine Rl.op (OpY.assign (v := (Value.int .i64 x12.To)) rfl ?_)
      refine Rl.nil (Swp.ret ?_)
      obtain rfl := Option.some.inj h
      obtain rfl := hd10 _ rfl
      replace h := g10
      try dsimp only at h
      obtain rfl := Option.some.inj h
      refine ⟨[(Value.int .i64 x12.To)], ⟨rfl, trivial⟩, ⟨_, rfl, hL15.done, ?_⟩⟩
      exact ⟨rfl, trivial⟩
     ·
      replace h := ite_f hc12 h
      refine Swp.skip (Swp.pop_blk (Swp.region rfl (Rl.op (OpY.move (v := (Value.int .i64 k10)) rfl ?_))))
      refine Rl.op (OpY.add (x := k10) (y := 1) (z := (iw (k10 + 1))) rfl rfl rfl ?_)
      refine Rl.op (OpY.assign (v := (Value.int .i64 (iw (k10 + 1)))) rfl ?_)
      refine Rl.nil ?_
      have hp12 := hL15.pick [0] rfl rfl rfl
      have hL16 : Go.X.Loc [] [] w w13 [some b1] [Cont.cells [d_v, d_v1]] := hp12.1
      have K16 := ks w hp12.2
      obtain rfl := Option.some.inj h
      refine Swp.pop_back ⟨(iw (k10 + 1)), rfl, ?_⟩
      exact ⟨_, (upds_sym ⟨rfl, rfl, rfl, rfl, trivial⟩), hL16, (Keep.trans (Keep.trans (Keep.trans (Keep.trans K10 K11) K12) K15) K16), trivial⟩
   ·
    replace h := ite_f hc10 h
    refine Swp.exit rfl ?_
    have hp13 := hL10.pick [] rfl rfl rfl
    have hL17 : Go.X.Loc [] [] w w10 [] [] := hp13.1
    have K17 := ks w hp13.2
    obtain rfl := Option.some.inj h
    obtain rfl := hd10 _ rfl
    replace h := g10
    try dsimp only at h
    skip
    refine Swp.pop_back ?_
    exact ⟨_, rfl, (upds_sym trivial), hL17, (Keep.trans K10 K17), trivial⟩
  ·
   rintro _ w14 ⟨u, rfl, rfl, hL18, K18, -⟩
   replace h := g10
   try dsimp only at h
   refine Swp.seq (Swp.region rfl (Rl.op (OpY.assign (v := (Value.int .i64 (-1))) rfl ?_)))
   refine Rl.nil (Swp.ret ?_)
   obtain rfl := Option.some.inj h
   refine ⟨[(Value.int .i64 (-1))], ⟨rfl, trivial⟩, ⟨_, rfl, hL18.done, ?_⟩⟩
   exact ⟨rfl, trivial⟩
theorem rFinal_w (N : Nat) (d : ADfa) (state : Int) (d_v : Value) (d_v1 : Value) (w : World) (S : Nat → Prop) (d_h : Rs rBool (Hv w.heap.size S [] w) d_v d.Accept) (d_h1 : Rs (rSl rAEdge) (Hv w.heap.size S [] w) d_v1 d.Edges) (r : Bool) (h : rFinal N d state = some r) :
  Calls Tryd.prog 41 #[(Value.agg #[d_v, d_v1]), (Value.int .i64 state)] w (Ret w (fun v w' => (Value.bool r) = v ∧ True)) := by
 unfold rFinal at h
 have hL : Go.X.Loc [] [] w w [] [] := Go.X.Loc.begin0 w
 refine calls_of (l := [(Value.agg #[d_v, d_v1]), (Value.int .i64 state)]) (rl := [.tmp 4]) (n := 14) Tryd.func41 rfl rfl rfl (Nat.le_of_ble_eq_true rfl) ?_
 refine Swp.seq (Swp.region rfl (Rl.op (OpY.box (cs := [d_v, d_v1]) rfl rfl hL ?_)))
 intro b1 w2 hL3 hS5
 have K4 := ks w hS5
 refine Rl.op (OpY.assign (v := (Value.bool false)) rfl ?_)
 refine Rl.nil (Swp.seq (Swp.region rfl (Rl.op (OpY.move (v := (Value.int .i64 state)) rfl ?_))))
 refine Rl.op (OpY.geq (x := state) (y := 0) ((state : Int) ≥ 0) rfl rfl Iff.rfl ?_)
 refine Rl.op (OpY.move (v := (Value.bool (decide ((state : Int) ≥ 0)))) rfl ?_)
 by_cases hc6 : (state : Int) ≥ 0
 ·
  replace h := ite_t hc6 h
  refine Rl.yes rfl rfl (decide_eq_true hc6) (OpY.fieldAddr (q := 0) Tryd.underlying25 rfl ti22 rfl rfl rfl ?_)
  refine Rl.yes rfl rfl (decide_eq_true hc6) (OpY.ldBox1 (v := d_v) Tryd.underlying22 rfl rfl (hL3.at 0 rfl rfl) rfl ?_)
  refine Rl.yes rfl rfl (decide_eq_true hc6) (OpY.move (v := (Value.int .i64 state)) rfl ?_)
  obtain ⟨x7, q8, h⟩ := bind_some h
  obtain ⟨n9, q10, q11⟩ := idx_some q8
  have f10 := (d_h.mono (K4 S))
  obtain ⟨b10, o10, c10, vs10, q12, q13, f11, q14⟩ := Rs.get f10 q11
  obtain rfl := q14
  refine Rl.yes rfl rfl (decide_eq_true hc6) (OpY.ixRoD (r := rBool) (v := d_v) (n := n9) (m := (o10 + n9 * rBool.sz)) Tryd.underlying22 ti4 rfl q12 rfl q10 q11 rfl ?_)
  refine Rl.yes rfl rfl (decide_eq_true hc6) (OpY.ldRo1 (v := (Value.bool x7)) Tryd.underlying4 rfl rfl vw_view f11 ?_)
  refine Rl.op (OpY.pick_t (t := (decide ((state : Int) ≥ 0))) (v := (Value.bool x7)) rfl (decide_eq_true hc6) rfl ?_)
  refine Rl.op (OpY.assign (v := (Value.bool x7)) rfl ?_)
  refine Rl.nil (Swp.ret ?_)
  obtain rfl := Option.some.inj h
  refine ⟨[(Value.bool x7)], ⟨rfl, trivial⟩, ⟨_, rfl, hL3.done, ?_⟩⟩
  exact ⟨rfl, trivial⟩
 ·
  replace h := ite_f hc6 h
  refine Rl.no rfl rfl (decide_eq_false hc6) ?_
  refine Rl.no rfl rfl (decide_eq_false hc6) ?_
  refine Rl.no rfl rfl (decide_eq_false hc6) ?_
  refine Rl.no rfl rfl (decide_eq_false hc6) ?_
  refine Rl.no rfl rfl (decide_eq_false hc6) ?_
  refine Rl.op (OpY.pick_f (t := (decide ((state : Int) ≥ 0))) (v := (Value.bool false)) rfl (decide_eq_false hc6) rfl ?_)
  refine Rl.op (OpY.assign (v := (Value.bool false)) rfl ?_)
  refine Rl.nil (Swp.ret ?_)
  obtain rfl := Option.some.inj h
  refine ⟨[(Value.bool false)], ⟨rfl, trivial⟩, ⟨_, rfl, hL3.done, ?_⟩⟩
  exact ⟨rfl, trivial⟩
theorem rPlace_w (N : Nat) (l : (List APair2)) (p : APair2) (l_v : Value) (w : World) (S : Nat → Prop) (l_h : Rs rAPair2 (Hv w.heap.size S [] w) l_v l) (r : Int) (h : rPlace N l p = some r) :
  Calls Tryd.prog 51 #[l_v, (Value.agg #[(Value.int .i64 p.A), (Value.int .i64 p.B)])] w (Ret w (fun v w' => (Value.int .i64 r) = v ∧ True)) := by
 unfold rPlace at h
 have hL : Go.X.Loc [] [] w w [] [] := Go.X.Loc.begin0 w
 refine calls_of (l := [l_v, (Value.agg #[(Value.int .i64 p.A), (Value.int .i64 p.B)])]) (rl := [.tmp 4]) (n := 21) Tryd.func51 rfl rfl rfl (Nat.le_of_ble_eq_true rfl) ?_
 refine Swp.seq (Swp.region rfl (Rl.op (OpY.box (cs := [(Value.int .i64 p.A), (Value.int .i64 p.B)]) rfl rfl hL ?_)))
 intro b1 w2 hL3 hS5
 have K4 := ks w hS5
 refine Rl.op (OpY.assign (v := (Value.int .i64 0)) rfl ?_)
 refine Rl.nil (Swp.seq (Swp.seq (Swp.region rfl (Rl.op (OpY.assign (v := (Value.int .i64 0)) rfl ?_)))))
 refine Rl.nil ?_
 obtain ⟨s10, hl10, g10⟩ := bind_some h
 refine Swp.join (fun e w' => ∃  (u : Env), (Sum.inl ()) = s10 ∧ e = upds [(0, l_v)] u ∧ Go.X.Loc [] [] w w' [] [] ∧ Keep w.heap.size [some b1] w2 [] w' ∧ True) ?_ ?_
 ·
  refine Swp.block ?_
  refine Swp.loopM hl10 (fun (ss : Int) (e : Env) (w' : World) => match ss with | i10 => ∃ (u : Env), e = upds [(0, l_v), (3, (Value.pointer (some ⟨b1, 0, none⟩))), (5, (Value.int .i64 i10))] u ∧ Go.X.Loc [] [] w w' [some b1] [Cont.cells [(Value.int .i64 p.A), (Value.int .i64 p.B)]] ∧ Keep w.heap.size [some b1] w2 [some b1] w' ∧ True) ⟨_, (upds_sym ⟨rfl, rfl, rfl, trivial⟩), hL3, Keep.refl, trivial⟩ ?_
  rintro i10 oo _ w10 ⟨u, rfl, hL10, K10, -⟩ h hd10
  rw [rPlace_b1] at h
  refine Swp.seq (Swp.seq (Swp.region rfl (Rl.op (OpY.move (v := (Value.int .i64 i10)) rfl ?_))))
  refine Rl.op (OpY.move (v := l_v) rfl ?_)
  have f10 := ((l_h.mono (K4 S)).mono (K10 S))
  refine Rl.op (OpY.lenRo (v := l_v) Tryd.underlying85 rfl f10 ?_)
  refine Rl.op (OpY.lss (x := i10) (y := (List.length l : Int)) ((i10 : Int) < (List.length l : Int)) rfl rfl Iff.rfl ?_)
  refine Rl.nil ?_
  refine Swp.cond_d ((i10 : Int) < (List.length l : Int)) rfl (fun hc10 => ?_) (fun hc10 => ?_)
  ·
   replace h := ite_t hc10 h
   refine Swp.skip (Swp.seq (Swp.block (Swp.seq ?_)))
   obtain ⟨x10, q10, h⟩ := bind_some h
   obtain ⟨n10, q11, q12⟩ := idx_some q10
   obtain ⟨b10, o10, c10, vs10, q13, q14, f11, q15⟩ := Rs.get f10 q12
   obtain ⟨rfl, -⟩ := rAPair2_open q15
   refine Swp.drawL 5 [] [] (fun W1 => [.det l_v, .det (Value.int .i64 i10), .det (Value.pointer (some ⟨b10, (o10 + n10 * rAPair2.sz), none⟩)), .det (Value.agg #[(Value.int .i64 x10.A), (Value.int .i64 x10.B)]), .det (Value.agg #[(Value.int .i64 p.A), (Value.int .i64 p.B)])]) mixed rfl rfl rfl (fun _ => rfl) (fun _ => rfl) ?_ ?_
   ·
    intro W1 _
    exact trivial
   ·
    intro w11 hE10
    have hL11 := hL10.ext hE10
    have K11 := ke hL10 hE10
    refine DrH.de (fun _ _ => GOp.op (OpY.move rfl (er rfl))) ?_
    refine DrH.de (fun _ _ => GOp.op (OpY.move rfl (er rfl))) ?_
    refine DrH.de (fun _ _ => GOp.op (OpY.ixRoD (r := rAPair2) (v := l_v) (n := n10) (m := (o10 + n10 * rAPair2.sz)) Tryd.underlying85 ti88 rfl q13 rfl q11 q12 rfl (er rfl))) ?_
    refine DrH.de (fun _ hE14 => GOp.op (OpY.ldRoA (vs := [(Value.int .i64 x10.A), (Value.int .i64 x10.B)]) Tryd.underlying88 rfl ti88 rfl rfl vw_view (At.mono ((ke hL11 hE14) S) (At.mono (K11 S) f11)) (er rfl))) ?_
    refine DrH.de (fun _ hE15 => GOp.op (OpY.ldBoxA (vs := [(Value.int .i64 p.A), (Value.int .i64 p.B)]) Tryd.underlying88 rfl ti88 rfl ((hL11.ext hE15).at 0 rfl rfl) rfl rfl (er rfl))) ?_
    refine DrH.fin0 ?_
    rintro w17 Z19 hE16 hZ15 ⟨-⟩ ap10
    have hB10 : ∀ b, some b ∈ ([] : List (Option Nat)) → w11.heap.size ≤ b ∧ ¬ Z19 b := by
     intro b hb; cases hb
    have hL13 := hL11.ext hE16
    have K13 := ke hL11 hE16
    refine Rl.op (OpY.eql2 eq2_88 rfl rfl ?_)
    refine Rl.nil ?_
    refine Swp.cond_d ((x10.A : Int) = p.A ∧ (x10.B : Int) = p.B) rfl (fun hc11 => ?_) (fun hc11 => ?_)
    ·
     replace h := ite_t hc11 h
     refine Swp.seq (Swp.region rfl (Rl.op (OpY.move (v := (Value.int .i64 i10)) rfl ?_)))
     refine Rl.op (OpY.assign (v := (Value.int .i64 i10)) rfl ?_)
     refine Rl.nil (Swp.ret ?_)
     obtain rfl := Option.some.inj h
     obtain rfl := hd10 _ rfl
     replace h := g10
     try dsimp only at h
     obtain rfl := Option.some.inj h
     refine ⟨[(Value.int .i64 i10)], ⟨rfl, trivial⟩, ⟨_, rfl, hL13.done, ?_⟩⟩
     exact ⟨rfl, trivial⟩
    ·
     replace h := ite_f hc11 h
     refine Swp.skip (Swp.pop_blk (Swp.region rfl (Rl.op (OpY.move (v := (Value.int .i64 i10)) rfl ?_))))
     refine Rl.op (OpY.add (x := i10) (y := 1) (z := (iw (i10 + 1))) rfl rfl rfl ?_)
     refine Rl.op (OpY.assign (v := (Value.int .i64 (iw (i10 + 1)))) rfl ?_)
     refine Rl.nil ?_
     obtain rfl := Option.some.inj h
     refine Swp.pop_back ⟨(iw (i10 + 1)), rfl, ?_⟩
     exact ⟨_, (upds_sym ⟨rfl, rfl, rfl, trivial⟩), hL13, (Keep.trans (Keep.trans K10 K11) K13), trivial⟩
  ·
   replace h := ite_f hc10 h
   refine Swp.exit rfl ?_
   have hp10 := hL10.pick [] rfl rfl rfl
   have hL14 : Go.X.Loc [] [] w w10 [] [] := hp10.1
   have K14 := ks w hp10.2
   obtain rfl := Option.some.inj h
   obtain rfl := hd10 _ rfl
   replace h := g10
   try dsimp only at h
   skip
   refine Swp.pop_back ?_
   exact ⟨_, rfl, (upds_sym ⟨rfl, trivial⟩), hL14, (Keep.trans K10 K14), trivial⟩
 ·
  rintro _ w18 ⟨u, rfl, rfl, hL15, K15, -⟩
  replace h := g10
  try dsimp only at h
  refine Swp.seq (Swp.region rfl (Rl.op (OpY.move (v := l_v) rfl ?_)))
  have f12 := ((l_h.mono (K4 S)).mono (K15 S))
  refine Rl.op (OpY.lenRo (v := l_v) Tryd.underlying85 rfl f12 ?_)
  refine Rl.op (OpY.assign (v := (Value.int .i64 (List.length l : Int))) rfl ?_)
  refine Rl.nil (Swp.ret ?_)
  obtain rfl := Option.some.inj h
  refine ⟨[(Value.int .i64 (List.length l : Int))], ⟨rfl, trivial⟩, ⟨_, rfl, hL15.done, ?_⟩⟩
  exact ⟨rfl, trivial⟩
theorem rPairs_w (N : Nat) (a : ADfa) (b : ADfa) (a_v : Value) (a_v1 : Value) (b_v : Value) (b_v1 : Value) (w : World) (S : Nat → Prop) (a_h : Rs rBool (Hv w.heap.size S [] w) a_v a.Accept) (a_h1 : Rs (rSl rAEdge) (Hv w.heap.size S [] w) a_v1 a.Edges) (b_h : Rs rBool (Hv w.heap.size S [] w) b_v b.Accept) (b_h1 : Rs (rSl rAEdge) (Hv w.heap.size S [] w) b_v1 b.Edges) (r : (List APair2)) (h : rPairs N a b = some r) :
  Calls Tryd.prog 50 #[(Value.agg #[a_v, a_v1]), (Value.agg #[b_v, b_v1])] w (Ret w (fun v w' => ∃ (ob0 : Option Nat) (cap0 : Nat) (cs0 : List Value) (sp0 : List Value), (osv ob0 0 (List.length r) cap0) = v ∧ NewOwn w w' [ob0] [Cont.cells ([] ++ (cs0 ++ sp0))] ∧ Els rAPair2 (Hv w.heap.size None [ob0] w') cs0 r ∧ (cs0 ++ sp0).length = cap0 * rAPair2.sz ∧ True)) := by
 unfold rPairs at h
 have hL : Go.X.Loc [] [] w w [] [] := Go.X.Loc.begin0 w
 refine calls_of (l := [(Value.agg #[a_v, a_v1]), (Value.agg #[b_v, b_v1])]) (rl := [.tmp 4]) (n := 49) Tryd.func50 rfl rfl rfl (Nat.le_of_ble_eq_true rfl) ?_
 refine Swp.seq (Swp.region rfl (Rl.op (OpY.box (cs := [a_v, a_v1]) rfl rfl hL ?_)))
 intro b1 w2 hL3 hS5
 have K4 := ks w hS5
 refine Rl.op (OpY.box (cs := [b_v, b_v1]) rfl rfl hL3 ?_)
 intro b6 w7 hL8 hS10
 have K9 := ks w hS10
 refine Rl.op (OpY.assign (v := (Value.slice none 0 0)) rfl ?_)
 refine Rl.nil (Swp.seq (Swp.region rfl (Rl.op (OpY.build (zc := [(Value.int .i64 0), (Value.int .i64 0)]) (cs := [(Value.int .i64 0), (Value.int .i64 0)]) (is := [0, 1]) (vs := [(Value.int .i64 0), (Value.int .i64 0)]) (css := [[(Value.int .i64 0)], [(Value.int .i64 0)]]) pl88 ti88 rfl rfl rfl ⟨rfl, rfl, trivial⟩ rfl ?_))))
 have hE10 : Els rAPair2 (Hv w.heap.size None [some b6, some b1] w7) [(Value.int .i64 0), (Value.int .i64 0)] [(APair2.mk 0 0)] := (Els.cons (a := [(Value.int .i64 0), (Value.int .i64 0)]) (rAPair2_close ⟨rfl, trivial⟩) Els.nil)
 refine Rl.op (OpY.litRow (r := rAPair2) (vs := [(Value.agg #[(Value.int .i64 0), (Value.int .i64 0)])]) (css := [[(Value.int .i64 0), (Value.int .i64 0)]]) (xs := [(APair2.mk 0 0)]) Tryd.underlying85 ti88 (Nat.le_of_ble_eq_true rfl) rfl rfl ⟨rfl, rfl, trivial⟩ (Nat.le_of_ble_eq_true rfl) hE10 rfl hL8 ?_)
 intro b10 w10 hc10 hL10 hS11
 have K10 := ks w hS11
 refine Rl.op (OpY.assign (v := (osv (some b10) 0 1 1)) rfl ?_)
 refine Rl.nil (Swp.seq (Swp.seq (Swp.region rfl (Rl.op (OpY.assign (v := (Value.int .i64 0)) rfl ?_)))))
 refine Rl.nil ?_
 obtain ⟨s10, hl10, g10⟩ := bind_some h
 refine Swp.join (fun e w' => ∃ (l10 : (List APair2)) (ob10 : Option Nat) (cap10 : Nat) (sp10 : List Value) (cs10 : List Value) (ln10 : Nat) (u : Env), l10 = s10 ∧ e = upds [(5, (osv ob10 0 ln10 cap10))] u ∧ Go.X.Loc [] [] w w' [ob10] [Cont.cells ([] ++ (cs10 ++ sp10))] ∧ Keep w.heap.size [some b10, some b6, some b1] w10 [ob10] w' ∧ Els rAPair2 (Hv w.heap.size None [ob10] w') cs10 l10 ∧ ln10 = List.length l10 ∧ (cs10 ++ sp10).length = cap10 * rAPair2.sz ∧ True) ?_ ?_
 ·
  refine Swp.block ?_
  have hp10 := hL10.pick [2, 1, 0] rfl rfl rfl
  have hL11 : Go.X.Loc [] [] w w10 [some b1, some b6, some b10] [Cont.cells [a_v, a_v1], Cont.cells [b_v, b_v1], Cont.cells ([] ++ ([(Value.int .i64 0), (Value.int .i64 0)] ++ []))] := hp10.1
  have K11 := ks w hp10.2
  have f10 := ((hE10.mono (K10 None)).mono (K11 None))
  refine Swp.loopM hl10 (fun (ss : ((List APair2) × Int)) (e : Env) (w' : World) => match ss with | (l11, i10) => ∃ (ob11 : Option Nat) (cap11 : Nat) (sp11 : List Value) (cs11 : List Value) (ln11 : Nat) (u : Env), e = upds [(2, (Value.pointer (some ⟨b1, 0, none⟩))), (3, (Value.pointer (some ⟨b6, 0, none⟩))), (5, (osv ob11 0 ln11 cap11)), (6, (Value.int .i64 i10))] u ∧ Go.X.Loc [] [] w w' [some b1, some b6, ob11] [Cont.cells [a_v, a_v1], Cont.cells [b_v, b_v1], Cont.cells ([] ++ (cs11 ++ sp11))] ∧ Keep w.heap.size [some b10, some b6, some b1] w10 [some b1, some b6, ob11] w' ∧ Els rAPair2 (Hv w.heap.size None [some b1, some b6, ob11] w') cs11 l11 ∧ ln11 = List.length l11 ∧ (cs11 ++ sp11).length = cap11 * rAPair2.sz ∧ True) ⟨some b10, 1, [], [(Value.int .i64 0), (Value.int .i64 0)], 1, _, (upds_sym ⟨rfl, rfl, rfl, rfl, trivial⟩), hL11, K11, f10, rfl, hc10, trivial⟩ ?_
  rintro ⟨l11, i10⟩ oo _ w11 ⟨ob11, cap11, sp11, cs11, ln11, u, rfl, hL12, K12, hE11, rfl, hc11, -⟩ h hd10
  rw [rPairs_b1] at h
  refine Swp.seq (Swp.seq (Swp.region rfl (Rl.op (OpY.move (v := (Value.int .i64 i10)) rfl ?_))))
  refine Rl.op (OpY.move (v := (osv ob11 0 (List.length l11) cap11)) rfl ?_)
  refine Rl.op (OpY.lenRow (pre := []) (r := rAPair2) (xs := l11) Tryd.underlying85 rfl (hL12.at 2 rfl rfl) hE11 rfl rfl ?_)
  refine Rl.op (OpY.lss (x := i10) (y := (List.length l11 : Int)) ((i10 : Int) < (List.length l11 : Int)) rfl rfl Iff.rfl ?_)
  refine Rl.nil ?_
  refine Swp.cond_d ((i10 : Int) < (List.length l11 : Int)) rfl (fun hc12 => ?_) (fun hc12 => ?_)
  ·
   replace h := ite_t hc12 h
   refine Swp.skip (Swp.seq (Swp.block (Swp.seq (Swp.region rfl (Rl.op (OpY.assign (v := (Value.int .u8 32)) rfl ?_))))))
   refine Rl.nil ?_
   obtain ⟨s11, hl11, g11⟩ := bind_some h
   refine Swp.join (fun e w' => ∃ (l12 : (List APair2)) (ob12 : Option Nat) (cap12 : Nat) (sp12 : List Value) (cs12 : List Value) (ln12 : Nat) (u : Env), l12 = s11 ∧ e = upds [(2, (Value.pointer (some ⟨b1, 0, none⟩))), (3, (Value.pointer (some ⟨b6, 0, none⟩))), (5, (osv ob12 0 ln12 cap12)), (6, (Value.int .i64 i10))] u ∧ Go.X.Loc [] [] w w' [some b1, some b6, ob12] [Cont.cells [a_v, a_v1], Cont.cells [b_v, b_v1], Cont.cells ([] ++ (cs12 ++ sp12))] ∧ Keep w.heap.size [some b1, some b6, ob11] w11 [some b1, some b6, ob12] w' ∧ Els rAPair2 (Hv w.heap.size None [some b1, some b6, ob12] w') cs12 l12 ∧ ln12 = List.length l12 ∧ (cs12 ++ sp12).length = cap12 * rAPair2.sz ∧ True) ?_ ?_
   ·
    refine Swp.block ?_
    refine Swp.loopM hl11 (fun (ss : ((List APair2) × Int)) (e : Env) (w' : World) => match ss with | (l13, c10) => ∃ (ob13 : Option Nat) (cap13 : Nat) (sp13 : List Value) (cs13 : List Value) (ln13 : Nat) (u : Env), e = upds [(2, (Value.pointer (some ⟨b1, 0, none⟩))), (3, (Value.pointer (some ⟨b6, 0, none⟩))), (5, (osv ob13 0 ln13 cap13)), (6, (Value.int .i64 i10)), (7, (Value.int .u8 c10))] u ∧ Go.X.Loc [] [] w w' [some b1, some b6, ob13] [Cont.cells [a_v, a_v1], Cont.cells [b_v, b_v1], Cont.cells ([] ++ (cs13 ++ sp13))] ∧ Keep w.heap.size [some b1, some b6, ob11] w11 [some b1, some b6, ob13] w' ∧ Els rAPair2 (Hv w.heap.size None [some b1, some b6, ob13] w') cs13 l13 ∧ ln13 = List.length l13 ∧ (cs13 ++ sp13).length = cap13 * rAPair2.sz ∧ True) ⟨ob11, cap11, sp11, cs11, (List.length l11), _, (upds_sym ⟨rfl, rfl, rfl, rfl, rfl, trivial⟩), hL12, Keep.refl, hE11, rfl, hc11, trivial⟩ ?_
    rintro ⟨l13, c10⟩ oo _ w12 ⟨ob13, cap13, sp13, cs13, ln13, u, rfl, hL13, K13, hE12, rfl, hc13, -⟩ h hd11
    rw [rPairs_b2] at h
    refine Swp.seq (Swp.seq (Swp.region rfl (Rl.op (OpY.move (v := (Value.int .u8 c10)) rfl ?_))))
    refine Rl.op (OpY.lss (x := c10) (y := 127) ((c10 : Int) < 127) rfl rfl Iff.rfl ?_)
    refine Rl.nil ?_
    refine Swp.cond_d ((c10 : Int) < 127) rfl (fun hc14 => ?_) (fun hc14 => ?_)
    ·
     replace h := ite_t hc14 h
     refine Swp.skip (Swp.seq (Swp.block (Swp.seq ?_)))
     obtain ⟨x10, q10, h⟩ := bind_some h
     obtain ⟨n10, q11, q12⟩ := idx_some q10
     have q13 := (List.getElem?_eq_some_iff.1 q12).1
     obtain ⟨b11, hb10⟩ := hL13.row_some 2 rfl rfl (row_pos (pre := []) hE12 q12 (Nat.lt_of_sub_eq_succ rfl))
     obtain ⟨vs10, q14, q15, q16⟩ := row_elem (pre := []) (sp := sp13) hE12 q12
     obtain ⟨rfl, -⟩ := rAPair2_open q15
     have q17 := elem_part (us := [(Value.int .i64 x10.A)]) (q := 0) q16 rfl
     obtain ⟨r10, q18, h⟩ := bind_some h
     obtain ⟨x11, q19, h⟩ := bind_some h
     obtain ⟨n11, q20, q21⟩ := idx_some q19
     have q22 := (List.getElem?_eq_some_iff.1 q21).1
     obtain ⟨vs11, q23, q24, q25⟩ := row_elem (pre := []) (sp := sp13) hE12 q21
     obtain ⟨rfl, -⟩ := rAPair2_open q24
     have q26 := elem_part (us := [(Value.int .i64 x11.B)]) (q := 1) q25 rfl
     obtain ⟨r11, q27, h⟩ := bind_some h
     refine Swp.drawL 18 [] [] (fun W1 => [.det (Value.agg #[a_v, a_v1]), .det (osv ob13 0 (List.length l13) cap13), .det (Value.int .i64 i10), .det (Value.pointer (some ⟨b11, (0 + n10 * rAPair2.sz), none⟩)), .det (Value.pointer (some ⟨b11, ((0 + n10 * rAPair2.sz) + 0), none⟩)), .det (Value.int .i64 x10.A), .det (Value.int .u8 c10), .det (Value.int .i64 r10), .det (Value.agg #[b_v, b_v1]), .det (osv ob13 0 (List.length l13) cap13), .det (Value.int .i64 i10), .det (Value.pointer (some ⟨b11, (0 + n11 * rAPair2.sz), none⟩)), .det (Value.pointer (some ⟨b11, ((0 + n11 * rAPair2.sz) + 1), none⟩)), .det (Value.int .i64 x11.B), .det (Value.int .u8 c10), .det (Value.int .i64 r11), .det (Value.agg #[(Value.int .i64 r10), (Value.int .i64 r11)]), .rel (fun v Z w' => ∃ b12, (Value.pointer (some ⟨b12, 0, none⟩)) = v ∧ OwnC w' (some b12) (Cont.cells [(Value.int .i64 0), (Value.int .i64 0)]) ∧ True) footV]) mixed rfl rfl rfl (fun _ => rfl) (fun _ => rfl) ?_ ?_
     ·
      intro W1 _
      exact ⟨fun v Z Z' w w' hΦ hz _ _ hs => by obtain ⟨b12, rfl, hO10, -⟩ := hΦ; exact ⟨b12, rfl, (hO10.stay (fun b hb => by cases hb; exact List.mem_cons_self) hs), trivial⟩, trivial⟩
     ·
      intro w13 hE13
      have hL14 := hL13.ext hE13
      have K14 := ke hL13 hE13
      refine DrH.de (fun _ hE14 => GOp.op (OpY.ldBoxA (vs := [a_v, a_v1]) Tryd.underlying25 rfl ti25 rfl ((hL14.ext hE14).at 0 rfl rfl) rfl rfl (er rfl))) ?_
      refine DrH.de (fun _ _ => GOp.op (OpY.move rfl (er rfl))) ?_
      refine DrH.de (fun _ _ => GOp.op (OpY.move rfl (er rfl))) ?_
      refine DrH.de (fun _ _ => GOp.op (OpY.ixRowD (r := rAPair2) (b := b11) (o := 0) (n := n10) (m := (List.length l13)) (xs := l13) (q := (0 + n10 * rAPair2.sz)) Tryd.underlying85 ti88 (osv_some hb10) rfl rfl q11 q13 rfl (er rfl))) ?_
      refine DrH.de (fun _ _ => GOp.op (OpY.fieldAddr Tryd.underlying88 rfl ti3 rfl rfl rfl (er rfl))) ?_
      refine DrH.de (fun _ hE19 => GOp.op (OpY.ldElem1 Tryd.underlying3 rfl rfl (own_some hb10 ((hL14.ext hE19).at 2 rfl rfl)) q17 (er rfl))) ?_
      refine DrH.de (fun _ _ => GOp.op (OpY.move rfl (er rfl))) ?_
      refine DrH.det ?_ ?_
      ·
       rintro w21 Z21 hE21 hZ17 ⟨-⟩
       have K15 := ke hL14 hE21
       refine GOp.op (OpY.call en52 rfl rfl (rStep_w N a x10.A c10 a_v a_v1 _ Any ((((((((a_h.mono (K4 S)).mono (K9 S)).mono (K10 S)).mono (K12 S)).mono (K13 S)).mono (K14 S)).mono (K15 S)).mono vw_any) ((((((((a_h1.mono (K4 S)).mono (K9 S)).mono (K10 S)).mono (K12 S)).mono (K13 S)).mono (K14 S)).mono (K15 S)).mono vw_any) r10 q18) ?_)
       rintro _ w22 hE22 ⟨rfl, -⟩
       exact ⟨hE22, rfl⟩
      refine DrH.de (fun _ hE23 => GOp.op (OpY.ldBoxA (vs := [b_v, b_v1]) Tryd.underlying25 rfl ti25 rfl ((hL14.ext hE23).at 1 rfl rfl) rfl rfl (er rfl))) ?_
      refine DrH.de (fun _ _ => GOp.op (OpY.move rfl (er rfl))) ?_
      refine DrH.de (fun _ _ => GOp.op (OpY.move rfl (er rfl))) ?_
      refine DrH.de (fun _ _ => GOp.op (OpY.ixRowD (r := rAPair2) (b := b11) (o := 0) (n := n11) (m := (List.length l13)) (xs := l13) (q := (0 + n11 * rAPair2.sz)) Tryd.underlying85 ti88 (osv_some hb10) rfl rfl q20 q22 rfl (er rfl))) ?_
      refine DrH.de (fun _ _ => GOp.op (OpY.fieldAddr Tryd.underlying88 rfl ti3 rfl rfl rfl (er rfl))) ?_
      refine DrH.de (fun _ hE28 => GOp.op (OpY.ldElem1 Tryd.underlying3 rfl rfl (own_some hb10 ((hL14.ext hE28).at 2 rfl rfl)) q26 (er rfl))) ?_
      refine DrH.de (fun _ _ => GOp.op (OpY.move rfl (er rfl))) ?_
      refine DrH.det ?_ ?_
      ·
       rintro w30 Z29 hE30 hZ25 ⟨-⟩
       have K16 := ke hL14 hE30
       refine GOp.op (OpY.call en52 rfl rfl (rStep_w N b x11.B c10 b_v b_v1 _ Any ((((((((b_h.mono (K4 S)).mono (K9 S)).mono (K10 S)).mono (K12 S)).mono (K13 S)).mono (K14 S)).mono (K16 S)).mono vw_any) ((((((((b_h1.mono (K4 S)).mono (K9 S)).mono (K10 S)).mono (K12 S)).mono (K13 S)).mono (K14 S)).mono (K16 S)).mono vw_any) r11 q27) ?_)
       rintro _ w31 hE31 ⟨rfl, -⟩
       exact ⟨hE31, rfl⟩
      refine DrH.de (fun _ _ => GOp.op (OpY.build (zc := [(Value.int .i64 0), (Value.int .i64 0)]) (cs := [(Value.int .i64 r10), (Value.int .i64 r11)]) (is := [0, 1]) (vs := [(Value.int .i64 r10), (Value.int .i64 r11)]) (css := [[(Value.int .i64 r10)], [(Value.int .i64 r11)]]) pl88 ti88 rfl rfl rfl ⟨rfl, rfl, trivial⟩ rfl (er rfl))) ?_
      refine DrH.rel ?_ ?_
      ·
       rintro w33 Z31 hE33 hZ27 ⟨-⟩
       refine GOp.op (OpY.alloc (cs := [(Value.int .i64 0), (Value.int .i64 0)]) ti88 rfl (Go.X.Loc.begin0 w33) ?_)
       intro b12 w34 hL19 hS12
       have hN10 : NewOwn w33 w34 [some b12] [Cont.cells [(Value.int .i64 0), (Value.int .i64 0)]] := hL19.newOwn [0] rfl rfl rfl
       exact Made.ext hL19.done hZ27 hN10 (fun _ h => h) ⟨b12, rfl, hN10.2.2.1, trivial⟩
      intro z10
      refine DrH.fin0 ?_
      rintro w35 Z32 hE34 hZ28 ⟨⟨⟨b12, rfl, hO10, -⟩, hB10⟩, -⟩ ap10
      have hB11 : ∀ b, some b ∈ ([some b12] : List (Option Nat)) → w13.heap.size ≤ b ∧ ¬ Z32 b := by
       intro b hb
       rcases List.mem_cons.1 hb with hb' | hb
       ·
        have := hB10 b (by rw [hb']; exact List.mem_cons_self); exact ⟨this.1, this.2.2⟩
       cases hb
      have hN11 : NewOwn w13 w35 [some b12] [Cont.cells [(Value.int .i64 0), (Value.int .i64 0)]] := (NewOwn.cons NewOwn.nil hO10 (fun b hb => (hB11 b (by rw [← hb]; simp)).1) (fun b _ hb => by cases hb))
      have hp11 := hL14.adoptL hE34 hN11
      have hL20 := hp11.1
      have K17 := ks w hp11.2
      refine Rl.op0 (OpY.store (vs := [(Value.int .i64 r10), (Value.int .i64 r11)]) ti88 rfl rfl rfl rfl (ones_cons rfl (ones_cons rfl ones_nil)) hL20 0 rfl rfl (Nat.le_of_ble_eq_true rfl) ?_)
      intro w36 (hL21 : Go.X.Loc [] [] w w36 [some b12, some b1, some b6, ob13] [Cont.cells [(Value.int .i64 r10), (Value.int .i64 r11)], Cont.cells [a_v, a_v1], Cont.cells [b_v, b_v1], Cont.cells ([] ++ (cs13 ++ sp13))]) hS13
      have K18 := ks w hS13
      refine Rl.nil (Swp.seq (Swp.region rfl (Rl.op (OpY.move (v := (osv ob13 0 (List.length l13) cap13)) rfl ?_))))
      refine Rl.op (OpY.ldBoxA (vs := [(Value.int .i64 r10), (Value.int .i64 r11)]) Tryd.underlying88 rfl ti88 rfl (hL21.at 0 rfl rfl) rfl rfl ?_)
      obtain ⟨r12, q28, h⟩ := bind_some h
      have f11 := (((hE12.mono (K14 None)).mono (K17 None)).mono (K18 None))
      refine Rl.op (OpY.call en51 rfl rfl (rPlace_w N l13 (APair2.mk r10 r11) (osv ob13 0 (List.length l13) cap13) _ Any (own_row_any (pre := []) (o := 0) (n := (List.length l13)) (cap := cap13) (hL21.at 3 rfl rfl) f11 vw_any rfl rfl rfl hc13) r12 q28) ?_)
      rintro _ w37 hE35 ⟨rfl, -⟩
      have hL22 := hL21.ext hE35
      have K19 := ke hL21 hE35
      refine Rl.op (OpY.move (v := (osv ob13 0 (List.length l13) cap13)) rfl ?_)
      have f12 := (f11.mono (K19 None))
      refine Rl.op (OpY.lenRow (pre := []) (r := rAPair2) (xs := l13) Tryd.underlying85 rfl (hL22.at 3 rfl rfl) f12 rfl rfl ?_)
      refine Rl.op (OpY.eql (x := r12) (y := (List.length l13 : Int)) ((r12 : Int) = (List.length l13 : Int)) rfl rfl Iff.rfl ?_)
      refine Rl.nil ?_
      refine Swp.cond_d ((r12 : Int) = (List.length l13 : Int)) rfl (fun hc15 => ?_) (fun hc15 => ?_)
      ·
       replace h := ite_t hc15 h
       refine Swp.region rfl (Rl.op (OpY.move (v := (osv ob13 0 (List.length l13) cap13)) rfl ?_))
       refine Rl.op (OpY.ldBoxA (vs := [(Value.int .i64 r10), (Value.int .i64 r11)]) Tryd.underlying88 rfl ti88 rfl (hL22.at 0 rfl rfl) rfl rfl ?_)
       have hE36 : Els rAPair2 (Hv w.heap.size None [some b12, some b1, some b6, ob13] w37) [(Value.int .i64 r10), (Value.int .i64 r11)] [(APair2.mk r10 r11)] := (Els.cons (a := [(Value.int .i64 r10), (Value.int .i64 r11)]) (rAPair2_close ⟨rfl, trivial⟩) Els.nil)
       refine Rl.op (OpY.litRow (r := rAPair2) (vs := [(Value.agg #[(Value.int .i64 r10), (Value.int .i64 r11)])]) (css := [[(Value.int .i64 r10), (Value.int .i64 r11)]]) (xs := [(APair2.mk r10 r11)]) Tryd.underlying85 ti88 (Nat.le_of_ble_eq_true rfl) rfl rfl ⟨rfl, rfl, trivial⟩ (Nat.le_of_ble_eq_true rfl) hE36 rfl hL22 ?_)
       intro b13 w38 hc16 hL23 hS14
       have K20 := ks w hS14
       obtain ⟨x12, q29, h⟩ := bind_some h
       obtain ⟨q30, q31, q32⟩ := apnd_some q29
       have f13 := (hE36.mono (K20 None))
       have f14 := (f12.mono (K20 None))
       refine Rl.op (OpY.apRowX (r := rAPair2) (H := (Hv w.heap.size None [some b13, some b12, some b1, some b6, ob13] w38)) (cs := cs13) (sp := sp13) (xs := l13) (ys := [(APair2.mk r10 r11)]) (Y := x12) (n := (List.length l13)) (cap := cap13) (i := 4) Tryd.underlying85 ti88 rfl rfl rfl rfl hL23 rfl rfl f14 rfl hc13 (Src.row (pre := []) (o := 0) (n := 1) (cap := 1) (hL23.at 0 rfl rfl) f13 rfl rfl rfl) (Els.anyH (fun _ _ _ _ h => h) f13) q30 q31 q32 ?_)
       intro ob14 cap14 sp14 cs14 w39 hE37 hc17 (hL24 : Go.X.Loc [] [] w w39 [some b13, some b12, some b1, some b6, ob14] [Cont.cells ([] ++ ([(Value.int .i64 r10), (Value.int .i64 r11)] ++ [])), Cont.cells [(Value.int .i64 r10), (Value.int .i64 r11)], Cont.cells [a_v, a_v1], Cont.cells [b_v, b_v1], Cont.cells ([] ++ (cs14 ++ sp14))]) hS15
       have K21 := ks w hS15
       refine Rl.op (OpY.assign (v := (osv ob14 0 (List.length x12) cap14)) rfl ?_)
       refine Rl.nil (Swp.pop_blk (Swp.region rfl (Rl.op (OpY.move (v := (Value.int .u8 c10)) rfl ?_))))
       refine Rl.op (OpY.add (x := c10) (y := 1) (z := (uw8 (c10 + 1))) rfl rfl rfl ?_)
       refine Rl.op (OpY.assign (v := (Value.int .u8 (uw8 (c10 + 1)))) rfl ?_)
       refine Rl.nil ?_
       have hp12 := hL24.pick [2, 3, 4] rfl rfl rfl
       have hL25 : Go.X.Loc [] [] w w39 [some b1, some b6, ob14] [Cont.cells [a_v, a_v1], Cont.cells [b_v, b_v1], Cont.cells ([] ++ (cs14 ++ sp14))] := hp12.1
       have K22 := ks w hp12.2
       have f15 := ((hE37.mono (K21 None)).mono (K22 None))
       obtain rfl := Option.some.inj h
       refine Swp.pop_back ⟨(x12, (uw8 (c10 + 1))), rfl, ?_⟩
       exact ⟨ob14, cap14, sp14, cs14, (List.length x12), _, (upds_sym ⟨rfl, rfl, rfl, rfl, rfl, trivial⟩), hL25, (Keep.trans (Keep.trans (Keep.trans (Keep.trans (Keep.trans (Keep.trans (Keep.trans K13 K14) K17) K18) K19) K20) K21) K22), f15, rfl, hc17, trivial⟩
      ·
       replace h := ite_f hc15 h
       refine Swp.skip (Swp.pop_blk (Swp.region rfl (Rl.op (OpY.move (v := (Value.int .u8 c10)) rfl ?_))))
       refine Rl.op (OpY.add (x := c10) (y := 1) (z := (uw8 (c10 + 1))) rfl rfl rfl ?_)
       refine Rl.op (OpY.assign (v := (Value.int .u8 (uw8 (c10 + 1)))) rfl ?_)
       refine Rl.nil ?_
       have hp13 := hL22.pick [1, 2, 3] rfl rfl rfl
       have hL26 : Go.X.Loc [] [] w w37 [some b1, some b6, ob13] [Cont.cells [a_v, a_v1], Cont.cells [b_v, b_v1], Cont.cells ([] ++ (cs13 ++ sp13))] := hp13.1
       have K23 := ks w hp13.2
       have f16 := (f12.mono (K23 None))
       obtain rfl := Option.some.inj h
       refine Swp.pop_back ⟨(l13, (uw8 (c10 + 1))), rfl, ?_⟩
       exact ⟨ob13, cap13, sp13, cs13, (List.length l13), _, (upds_sym ⟨rfl, rfl, rfl, rfl, rfl, trivial⟩), hL26, (Keep.trans (Keep.trans (Keep.trans (Keep.trans (Keep.trans K13 K14) K17) K18) K19) K23), f16, rfl, hc13, trivial⟩
    ·
     replace h := ite_f hc14 h
     refine Swp.exit rfl ?_
     obtain rfl := Option.some.inj h
     obtain rfl := hd11 _ rfl
     replace h := g11
     try dsimp only at h
     skip
     refine Swp.pop_back ?_
     exact ⟨l13, ob13, cap13, sp13, cs13, (List.length l13), _, rfl, (upds_sym ⟨rfl, rfl, rfl, rfl, trivial⟩), hL13, K13, hE12, rfl, hc13, trivial⟩
   ·
    rintro _ w40 ⟨l12, ob12, cap12, sp12, cs12, ln12, u, rfl, rfl, hL27, K24, hE38, rfl, hc18, -⟩
    replace h := g11
    try dsimp only at h
    refine Swp.pop_blk (Swp.region rfl (Rl.op (OpY.move (v := (Value.int .i64 i10)) rfl ?_)))
    refine Rl.op (OpY.add (x := i10) (y := 1) (z := (iw (i10 + 1))) rfl rfl rfl ?_)
    refine Rl.op (OpY.assign (v := (Value.int .i64 (iw (i10 + 1)))) rfl ?_)
    refine Rl.nil ?_
    obtain rfl := Option.some.inj h
    refine Swp.pop_back ⟨(l12, (iw (i10 + 1))), rfl, ?_⟩
    exact ⟨ob12, cap12, sp12, cs12, (List.length l12), _, (upds_sym ⟨rfl, rfl, rfl, rfl, trivial⟩), hL27, (Keep.trans K12 K24), hE38, rfl, hc18, trivial⟩
  ·
   replace h := ite_f hc12 h
   refine Swp.exit rfl ?_
   have hp14 := hL12.pick [2] rfl rfl rfl
   have hL28 : Go.X.Loc [] [] w w11 [ob11] [Cont.cells ([] ++ (cs11 ++ sp11))] := hp14.1
   have K25 := ks w hp14.2
   have f17 := (hE11.mono (K25 None))
   obtain rfl := Option.some.inj h
   obtain rfl := hd10 _ rfl
   replace h := g10
   try dsimp only at h
   skip
   refine Swp.pop_back ?_
   exact ⟨l11, ob11, cap11, sp11, cs11, (List.length l11), _, rfl, (upds_sym ⟨rfl, trivial⟩), hL28, (Keep.trans K12 K25), f17, rfl, hc11, trivial⟩
 ·
  rintro _ w41 ⟨l10, ob10, cap10, sp10, cs10, ln10, u, rfl, rfl, hL29, K26, hE39, rfl, hc19, -⟩
  replace h := g10
  try dsimp only at h
  refine Swp.seq (Swp.region rfl (Rl.op (OpY.move (v := (osv ob10 0 (List.length l10) cap10)) rfl ?_)))
  refine Rl.op (OpY.assign (v := (osv ob10 0 (List.length l10) cap10)) rfl ?_)
  refine Rl.nil (Swp.ret ?_)
  obtain rfl := Option.some.inj h
  refine ⟨[(osv ob10 0 (List.length l10) cap10)], ⟨rfl, trivial⟩, ⟨_, rfl, hL29.done, ?_⟩⟩
  exact ⟨ob10, cap10, cs10, sp10, rfl, (hL29.newOwn [0] rfl rfl rfl), (hE39.mono (Hv.pick [0] rfl)), hc19, trivial⟩
theorem rEquivalent_w (N : Nat) (a : ADfa) (b : ADfa) (a_v : Value) (a_v1 : Value) (b_v : Value) (b_v1 : Value) (w : World) (S : Nat → Prop) (a_h : Rs rBool (Hv w.heap.size S [] w) a_v a.Accept) (a_h1 : Rs (rSl rAEdge) (Hv w.heap.size S [] w) a_v1 a.Edges) (b_h : Rs rBool (Hv w.heap.size S [] w) b_v b.Accept) (b_h1 : Rs (rSl rAEdge) (Hv w.heap.size S [] w) b_v1 b.Edges) (r : Bool) (h : rEquivalent N a b = some r) :
  Calls Tryd.prog 25 #[(Value.agg #[a_v, a_v1]), (Value.agg #[b_v, b_v1])] w (Ret w (fun v w' => (Value.bool r) = v ∧ True)) := by
 unfold rEquivalent at h
 have hL : Go.X.Loc [] [] w w [] [] := Go.X.Loc.begin0 w
 refine calls_of (l := [(Value.agg #[a_v, a_v1]), (Value.agg #[b_v, b_v1])]) (rl := [.tmp 4]) (n := 31) Tryd.func25 rfl rfl rfl (Nat.le_of_ble_eq_true rfl) ?_
 refine Swp.seq (Swp.region rfl (Rl.op (OpY.box (cs := [a_v, a_v1]) rfl rfl hL ?_)))
 intro b1 w2 hL3 hS5
 have K4 := ks w hS5
 refine Rl.op (OpY.box (cs := [b_v, b_v1]) rfl rfl hL3 ?_)
 intro b6 w7 hL8 hS10
 have K9 := ks w hS10
 refine Rl.op (OpY.assign (v := (Value.bool false)) rfl ?_)
 refine Rl.nil (Swp.seq (Swp.region rfl (Rl.op (OpY.ldBoxA (vs := [a_v, a_v1]) Tryd.underlying25 rfl ti25 rfl (hL8.at 1 rfl rfl) rfl rfl ?_))))
 refine Rl.op (OpY.ldBoxA (vs := [b_v, b_v1]) Tryd.underlying25 rfl ti25 rfl (hL8.at 0 rfl rfl) rfl rfl ?_)
 obtain ⟨r10, q10, h⟩ := bind_some h
 have f10 := ((a_h.mono (K4 S)).mono (K9 S))
 have f11 := ((a_h1.mono (K4 S)).mono (K9 S))
 have f12 := ((b_h.mono (K4 S)).mono (K9 S))
 have f13 := ((b_h1.mono (K4 S)).mono (K9 S))
 refine Rl.op (OpY.call en50 rfl rfl (rPairs_w N a b a_v a_v1 b_v b_v1 _ Any (f10.mono vw_any) (f11.mono vw_any) (f12.mono vw_any) (f13.mono vw_any) r10 q10) ?_)
 rintro _ w10 hE10 ⟨ob10, cap10, cs10, sp10, rfl, hN10, hE11, hc10, -⟩
 replace hE11 := hE11.mono (Hv.freshO (S := None) hL8 [ob10])
 have hp10 := hL8.adoptL hE10 hN10
 have hL10 := hp10.1
 have K10 := ks w hp10.2
 refine Rl.op (OpY.assign (v := (osv ob10 0 (List.length r10) cap10)) rfl ?_)
 refine Rl.nil (Swp.seq (Swp.seq (Swp.region rfl (Rl.op (OpY.assign (v := (Value.int .i64 0)) rfl ?_)))))
 refine Rl.nil ?_
 obtain ⟨s10, hl10, g10⟩ := bind_some h
 refine Swp.join (fun e w' => ∃  (u : Env), (Sum.inl ()) = s10 ∧ e = upds [] u ∧ Go.X.Loc [] [] w w' [] [] ∧ Keep w.heap.size [ob10, some b6, some b1] w10 [] w' ∧ True) ?_ ?_
 ·
  refine Swp.block ?_
  have hp11 := hL10.pick [2, 1, 0] rfl rfl rfl
  have hL11 : Go.X.Loc [] [] w w10 [some b1, some b6, ob10] [Cont.cells [a_v, a_v1], Cont.cells [b_v, b_v1], Cont.cells ([] ++ (cs10 ++ sp10))] := hp11.1
  have K11 := ks w hp11.2
  refine Swp.loopM hl10 (fun (ss : Int) (e : Env) (w' : World) => match ss with | i10 => ∃ (u : Env), e = upds [(2, (Value.pointer (some ⟨b1, 0, none⟩))), (3, (Value.pointer (some ⟨b6, 0, none⟩))), (5, (osv ob10 0 (List.length r10) cap10)), (6, (Value.int .i64 i10))] u ∧ Go.X.Loc [] [] w w' [some b1, some b6, ob10] [Cont.cells [a_v, a_v1], Cont.cells [b_v, b_v1], Cont.cells ([] ++ (cs10 ++ sp10))] ∧ Keep w.heap.size [ob10, some b6, some b1] w10 [some b1, some b6, ob10] w' ∧ True) ⟨_, (upds_sym ⟨rfl, rfl, rfl, rfl, trivial⟩), hL11, K11, trivial⟩ ?_
  rintro i10 oo _ w11 ⟨u, rfl, hL12, K12, -⟩ h hd10
  rw [rEquivalent_b1] at h
  refine Swp.seq (Swp.seq (Swp.region rfl (Rl.op (OpY.move (v := (Value.int .i64 i10)) rfl ?_))))
  refine Rl.op (OpY.move (v := (osv ob10 0 (List.length r10) cap10)) rfl ?_)
  have f14 := (hE11.mono (K12 None))
  refine Rl.op (OpY.lenRow (pre := []) (r := rAPair2) (xs := r10) Tryd.underlying85 rfl (hL12.at 2 rfl rfl) f14 rfl rfl ?_)
  refine Rl.op (OpY.lss (x := i10) (y := (List.length r10 : Int)) ((i10 : Int) < (List.length r10 : Int)) rfl rfl Iff.rfl ?_)
  refine Rl.nil ?_
  refine Swp.cond_d ((i10 : Int) < (List.length r10 : Int)) rfl (fun hc11 => ?_) (fun hc11 => ?_)
  ·
   replace h := ite_t hc11 h
   refine Swp.skip (Swp.seq (Swp.block (Swp.seq ?_)))
   obtain ⟨x10, q11, h⟩ := bind_some h
   obtain ⟨n10, q12, q13⟩ := idx_some q11
   have q14 := (List.getElem?_eq_some_iff.1 q13).1
   obtain ⟨b10, hb10⟩ := hL12.row_some 2 rfl rfl (row_pos (pre := []) f14 q13 (Nat.lt_of_sub_eq_succ rfl))
   obtain ⟨vs10, q15, q16, q17⟩ := row_elem (pre := []) (sp := sp10) f14 q13
   obtain ⟨rfl, -⟩ := rAPair2_open q16
   have q18 := elem_part (us := [(Value.int .i64 x10.A)]) (q := 0) q17 rfl
   obtain ⟨r11, q19, h⟩ := bind_some h
   obtain ⟨x11, q20, h⟩ := bind_some h
   obtain ⟨n11, q21, q22⟩ := idx_some q20
   have q23 := (List.getElem?_eq_some_iff.1 q22).1
   obtain ⟨vs11, q24, q25, q26⟩ := row_elem (pre := []) (sp := sp10) f14 q22
   obtain ⟨rfl, -⟩ := rAPair2_open q25
   have q27 := elem_part (us := [(Value.int .i64 x11.B)]) (q := 1) q26 rfl
   refine Swp.drawL 13 [] [] (fun W1 => [.det (Value.agg #[a_v, a_v1]), .det (osv ob10 0 (List.length r10) cap10), .det (Value.int .i64 i10), .det (Value.pointer (some ⟨b10, (0 + n10 * rAPair2.sz), none⟩)), .det (Value.pointer (some ⟨b10, ((0 + n10 * rAPair2.sz) + 0), none⟩)), .det (Value.int .i64 x10.A), .det (Value.bool r11), .det (Value.agg #[b_v, b_v1]), .det (osv ob10 0 (List.length r10) cap10), .det (Value.int .i64 i10), .det (Value.pointer (some ⟨b10, (0 + n11 * rAPair2.sz), none⟩)), .det (Value.pointer (some ⟨b10, ((0 + n11 * rAPair2.sz) + 1), none⟩)), .det (Value.int .i64 x11.B)]) mixed rfl rfl rfl (fun _ => rfl) (fun _ => rfl) ?_ ?_
   ·
    intro W1 _
    exact trivial
   ·
    intro w12 hE12
    have hL13 := hL12.ext hE12
    have K13 := ke hL12 hE12
    refine DrH.de (fun _ hE13 => GOp.op (OpY.ldBoxA (vs := [a_v, a_v1]) Tryd.underlying25 rfl ti25 rfl ((hL13.ext hE13).at 0 rfl rfl) rfl rfl (er rfl))) ?_
    refine DrH.de (fun _ _ => GOp.op (OpY.move rfl (er rfl))) ?_
    refine DrH.de (fun _ _ => GOp.op (OpY.move rfl (er rfl))) ?_
    refine DrH.de (fun _ _ => GOp.op (OpY.ixRowD (r := rAPair2) (b := b10) (o := 0) (n := n10) (m := (List.length r10)) (xs := r10) (q := (0 + n10 * rAPair2.sz)) Tryd.underlying85 ti88 (osv_some hb10) rfl rfl q12 q14 rfl (er rfl))) ?_
    refine DrH.de (fun _ _ => GOp.op (OpY.fieldAddr Tryd.underlying88 rfl ti3 rfl rfl rfl (er rfl))) ?_
    refine DrH.de (fun _ hE18 => GOp.op (OpY.ldElem1 Tryd.underlying3 rfl rfl (own_some hb10 ((hL13.ext hE18).at 2 rfl rfl)) q18 (er rfl))) ?_
    refine DrH.det ?_ ?_
    ·
     rintro w19 Z20 hE19 hZ16 ⟨-⟩
     have K14 := ke hL13 hE19
     refine GOp.op (OpY.call en41 rfl rfl (rFinal_w N a x10.A a_v a_v1 _ Any (((((f10.mono (K10 S)).mono (K12 S)).mono (K13 S)).mono (K14 S)).mono vw_any) (((((f11.mono (K10 S)).mono (K12 S)).mono (K13 S)).mono (K14 S)).mono vw_any) r11 q19) ?_)
     rintro _ w20 hE20 ⟨rfl, -⟩
     exact ⟨hE20, rfl⟩
    refine DrH.de (fun _ hE21 => GOp.op (OpY.ldBoxA (vs := [b_v, b_v1]) Tryd.underlying25 rfl ti25 rfl ((hL13.ext hE21).at 1 rfl rfl) rfl rfl (er rfl))) ?_
    refine DrH.de (fun _ _ => GOp.op (OpY.move rfl (er rfl))) ?_
    refine DrH.de (fun _ _ => GOp.op (OpY.move rfl (er rfl))) ?_
    refine DrH.de (fun _ _ => GOp.op (OpY.ixRowD (r := rAPair2) (b := b10) (o := 0) (n := n11) (m := (List.length r10)) (xs := r10) (q := (0 + n11 * rAPair2.sz)) Tryd.underlying85 ti88 (osv_some hb10) rfl rfl q21 q23 rfl (er rfl))) ?_
    refine DrH.de (fun _ _ => GOp.op (OpY.fieldAddr Tryd.underlying88 rfl ti3 rfl rfl rfl (er rfl))) ?_
    refine DrH.de (fun _ hE26 => GOp.op (OpY.ldElem1 Tryd.underlying3 rfl rfl (own_some hb10 ((hL13.ext hE26).at 2 rfl rfl)) q27 (er rfl))) ?_
    refine DrH.fin0 ?_
    rintro w27 Z27 hE27 hZ23 ⟨-⟩ ap10
    have hB10 : ∀ b, some b ∈ ([] : List (Option Nat)) → w12.heap.size ≤ b ∧ ¬ Z27 b := by
     intro b hb; cases hb
    have hL18 := hL13.ext hE27
    have K15 := ke hL13 hE27
    obtain ⟨r12, q28, h⟩ := bind_some h
    have f15 := ((((f12.mono (K10 S)).mono (K12 S)).mono (K13 S)).mono (K15 S))
    have f16 := ((((f13.mono (K10 S)).mono (K12 S)).mono (K13 S)).mono (K15 S))
    refine Rl.op (OpY.call en41 rfl rfl (rFinal_w N b x11.B b_v b_v1 _ Any (f15.mono vw_any) (f16.mono vw_any) r12 q28) ?_)
    rintro _ w28 hE28 ⟨rfl, -⟩
    have hL19 := hL18.ext hE28
    have K16 := ke hL18 hE28
    refine Rl.op (OpY.neqBool (x := r11) (y := r12) Tryd.underlying4 rfl rfl ?_)
    refine Rl.nil ?_
    refine Swp.cond_b (!(r11 == r12)) rfl (fun hc12 => ?_) (fun hc12 => ?_)
    ·
     replace h := ite_t hc12 h
     refine Swp.seq (Swp.region rfl (Rl.op (OpY.assign (v := (Value.bool false)) rfl ?_)))
     refine Rl.nil (Swp.ret ?_)
     obtain rfl := Option.some.inj h
     obtain rfl := hd10 _ rfl
     replace h := g10
     try dsimp only at h
     obtain rfl := Option.some.inj h
     refine ⟨[(Value.bool false)], ⟨rfl, trivial⟩, ⟨_, rfl, hL19.done, ?_⟩⟩
     exact ⟨rfl, trivial⟩
    ·
     replace h := ite_f hc12 h
     refine Swp.skip (Swp.pop_blk (Swp.region rfl (Rl.op (OpY.move (v := (Value.int .i64 i10)) rfl ?_))))
     refine Rl.op (OpY.add (x := i10) (y := 1) (z := (iw (i10 + 1))) rfl rfl rfl ?_)
     refine Rl.op (OpY.assign (v := (Value.int .i64 (iw (i10 + 1)))) rfl ?_)
     refine Rl.nil ?_
     obtain rfl := Option.some.inj h
     refine Swp.pop_back ⟨(iw (i10 + 1)), rfl, ?_⟩
     exact ⟨_, (upds_sym ⟨rfl, rfl, rfl, rfl, trivial⟩), hL19, (Keep.trans (Keep.trans (Keep.trans K12 K13) K15) K16), trivial⟩
  ·
   replace h := ite_f hc11 h
   refine Swp.exit rfl ?_
   have hp12 := hL12.pick [] rfl rfl rfl
   have hL20 : Go.X.Loc [] [] w w11 [] [] := hp12.1
   have K17 := ks w hp12.2
   obtain rfl := Option.some.inj h
   obtain rfl := hd10 _ rfl
   replace h := g10
   try dsimp only at h
   skip
   refine Swp.pop_back ?_
   exact ⟨_, rfl, (upds_sym trivial), hL20, (Keep.trans K12 K17), trivial⟩
 ·
  rintro _ w29 ⟨u, rfl, rfl, hL21, K18, -⟩
  replace h := g10
  try dsimp only at h
  refine Swp.seq (Swp.region rfl (Rl.op (OpY.assign (v := (Value.bool true)) rfl ?_)))
  refine Rl.nil (Swp.ret ?_)
  obtain rfl := Option.some.inj h
  refine ⟨[(Value.bool true)], ⟨rfl, trivial⟩, ⟨_, rfl, hL21.done, ?_⟩⟩
  exact ⟨rfl, trivial⟩
theorem rFew_w (N : Nat) (d : ADfa) (d_v : Value) (d_v1 : Value) (w : World) (S : Nat → Prop) (d_h : Rs rBool (Hv w.heap.size S [] w) d_v d.Accept) (d_h1 : Rs (rSl rAEdge) (Hv w.heap.size S [] w) d_v1 d.Edges) (r : Bool) (h : rFew N d = some r) :
  Calls Tryd.prog 12 #[(Value.agg #[d_v, d_v1])] w (Ret w (fun v w' => (Value.bool r) = v ∧ True)) := by
 unfold rFew at h
 have hL : Go.X.Loc [] [] w w [] [] := Go.X.Loc.begin0 w
 refine calls_of (l := [(Value.agg #[d_v, d_v1])]) (rl := [.tmp 2]) (n := 11) Tryd.func12 rfl rfl rfl (Nat.le_of_ble_eq_true rfl) ?_
 refine Swp.seq (Swp.region rfl (Rl.op (OpY.box (cs := [d_v, d_v1]) rfl rfl hL ?_)))
 intro b1 w2 hL3 hS5
 have K4 := ks w hS5
 refine Rl.op (OpY.assign (v := (Value.bool false)) rfl ?_)
 refine Rl.nil (Swp.seq (Swp.region rfl (Rl.op (OpY.fieldAddr (q := 0) Tryd.underlying25 rfl ti22 rfl rfl rfl ?_))))
 refine Rl.op (OpY.ldBox1 (v := d_v) Tryd.underlying22 rfl rfl (hL3.at 0 rfl rfl) rfl ?_)
 have f6 := (d_h.mono (K4 S))
 refine Rl.op (OpY.lenRo (v := d_v) Tryd.underlying22 rfl f6 ?_)
 refine Rl.op (OpY.leq (x := (List.length d.Accept : Int)) (y := 8) (((List.length d.Accept : Int) : Int) ≤ 8) rfl rfl Iff.rfl ?_)
 refine Rl.op (OpY.move (v := (Value.bool (decide (((List.length d.Accept : Int) : Int) ≤ 8)))) rfl ?_)
 by_cases hc7 : ((List.length d.Accept : Int) : Int) ≤ 8
 ·
  replace h := ite_t hc7 h
  refine Rl.yes rfl rfl (decide_eq_true hc7) (OpY.ldBoxA (vs := [d_v, d_v1]) Tryd.underlying25 rfl ti25 rfl (hL3.at 0 rfl rfl) rfl rfl ?_)
  obtain ⟨r8, q9, h⟩ := bind_some h
  have f10 := (d_h1.mono (K4 S))
  refine Rl.yes rfl rfl (decide_eq_true hc7) (OpY.call en18 rfl rfl (rValid_w N d d_v d_v1 _ Any (f6.mono vw_any) (f10.mono vw_any) r8 q9) ?_)
  rintro _ w10 hE10 ⟨rfl, -⟩
  have hL10 := hL3.ext hE10
  refine Rl.op (OpY.pick_t (t := (decide (((List.length d.Accept : Int) : Int) ≤ 8))) (v := (Value.bool r8)) rfl (decide_eq_true hc7) rfl ?_)
  refine Rl.op (OpY.assign (v := (Value.bool r8)) rfl ?_)
  refine Rl.nil (Swp.ret ?_)
  obtain rfl := Option.some.inj h
  refine ⟨[(Value.bool r8)], ⟨rfl, trivial⟩, ⟨_, rfl, hL10.done, ?_⟩⟩
  exact ⟨rfl, trivial⟩
 ·
  replace h := ite_f hc7 h
  refine Rl.no rfl rfl (decide_eq_false hc7) ?_
  refine Rl.no rfl rfl (decide_eq_false hc7) ?_
  refine Rl.op (OpY.pick_f (t := (decide (((List.length d.Accept : Int) : Int) ≤ 8))) (v := (Value.bool false)) rfl (decide_eq_false hc7) rfl ?_)
  refine Rl.op (OpY.assign (v := (Value.bool false)) rfl ?_)
  refine Rl.nil (Swp.ret ?_)
  obtain rfl := Option.some.inj h
  refine ⟨[(Value.bool false)], ⟨rfl, trivial⟩, ⟨_, rfl, hL3.done, ?_⟩⟩
  exact ⟨rfl, trivial⟩
end Go.Proofs.YtckhldmpcddjmaaDoor.WR

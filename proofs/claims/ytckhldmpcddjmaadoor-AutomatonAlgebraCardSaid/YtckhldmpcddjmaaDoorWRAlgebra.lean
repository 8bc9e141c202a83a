/- Walks, written by a program of mine (wip/tool); the kernel checks them. -/
import Derived.Test.YtckhldmpcddjmaaDoorProg
import Derived.Test.YtckhldmpcddjmaaDoorZ14
import Derived.Test.YtckhldmpcddjmaaDoorPR
import Derived.Test.YtckhldmpcddjmaaDoorWAAlgebra
set_option maxRecDepth 100000
set_option maxHeartbeats 40000000
set_option linter.unusedVariables false
set_option linter.unusedSimpArgs false
namespace Go.Proofs.YtckhldmpcddjmaaDoor.WR
open Go Go.RowKit Go.X Go.D Go.Proofs.YtckhldmpcddjmaaDoor.WA
theorem ti23 : TI Tryd.prog 23 1 24 (Value.slice none 0 0) := TI.mk (by kernel_rfl)
theorem ti39 : TI Tryd.prog 39 1 24 (Value.slice none 0 0) := TI.mk (by kernel_rfl)
theorem ti63 : TI Tryd.prog 63 3 16 (Value.agg #[(Value.int .u8 0), (Value.int .u8 0), (Value.int .i64 0)]) := TI.mk (by kernel_rfl)
theorem ti25 : TI Tryd.prog 25 2 48 (Value.agg #[(Value.slice none 0 0), (Value.slice none 0 0)]) := TI.mk (by kernel_rfl)
theorem en52 : Go.X.Enters Tryd.prog 52 := ⟨Tryd.f52, Tryd.func52, by kernel_rfl, by kernel_rfl⟩
theorem en42 : Go.X.Enters Tryd.prog 42 := ⟨Tryd.f42, Tryd.func42, by kernel_rfl, by kernel_rfl⟩
theorem en41 : Go.X.Enters Tryd.prog 41 := ⟨Tryd.f41, Tryd.func41, by kernel_rfl, by kernel_rfl⟩
theorem ti88 : TI Tryd.prog 88 2 16 (Value.agg #[(Value.int .i64 0), (Value.int .i64 0)]) := TI.mk (by kernel_rfl)
theorem pl88 : placesT Tryd.prog 88 = some [(0, 1), (1, 1)] := by kernel_rfl
theorem en51 : Go.X.Enters Tryd.prog 51 := ⟨Tryd.f51, Tryd.func51, by kernel_rfl, by kernel_rfl⟩
theorem en50 : Go.X.Enters Tryd.prog 50 := ⟨Tryd.f50, Tryd.func50, by kernel_rfl, by kernel_rfl⟩
theorem en34 : Go.X.Enters Tryd.prog 34 := ⟨Tryd.f34, Tryd.func34, by kernel_rfl, by kernel_rfl⟩
theorem en35 : Go.X.Enters Tryd.prog 35 := ⟨Tryd.f35, Tryd.func35, by kernel_rfl, by kernel_rfl⟩
theorem pl25 : placesT Tryd.prog 25 = some [(0, 1), (1, 1)] := by kernel_rfl
theorem pl63 : placesT Tryd.prog 63 = some [(0, 1), (1, 1), (2, 1)] := by kernel_rfl
theorem en47 : Go.X.Enters Tryd.prog 47 := ⟨Tryd.f47, Tryd.func47, by kernel_rfl, by kernel_rfl⟩
theorem en48 : Go.X.Enters Tryd.prog 48 := ⟨Tryd.f48, Tryd.func48, by kernel_rfl, by kernel_rfl⟩
theorem en49 : Go.X.Enters Tryd.prog 49 := ⟨Tryd.f49, Tryd.func49, by kernel_rfl, by kernel_rfl⟩
theorem en25 : Go.X.Enters Tryd.prog 25 := ⟨Tryd.f25, Tryd.func25, by kernel_rfl, by kernel_rfl⟩
theorem en18 : Go.X.Enters Tryd.prog 18 := ⟨Tryd.f18, Tryd.func18, by kernel_rfl, by kernel_rfl⟩
theorem eq2_88 : Eq2 Tryd.prog 88 := ⟨by kernel_rfl, by kernel_rfl, by kernel_rfl, .i64, .i64, by kernel_rfl⟩
theorem rValid_w (N : Nat) (d : ADfa) (d_v : Value) (d_v1 : Value) (w : World) (S : Nat → Prop) (d_h : Rs rBool (Hv w.heap.size S [] w) d_v d.Accept) (d_h1 : Rs (rSl rAEdge) (Hv w.heap.size S [] w) d_v1 d.Edges) (r : Bool) (h : rValid N d = some r) :
  Calls Tryd.prog 18 #[(Value.agg #[d_v, d_v1])] w (Ret w (fun v w' => (Value.bool r) = v ∧ True)) := by
 unfold rValid at h
 have hL : Go.X.Loc [] [] w w [] [] := Go.X.Loc.begin0 w
 refine calls_of (l := [(Value.agg #[d_v, d_v1])]) (rl := [.tmp 2]) (n := 78) Tryd.func18 rfl rfl rfl (Nat.le_of_ble_eq_true rfl) ?_
 refine Swp.seq (Swp.region rfl (Rl.op (OpY.box (cs := [d_v, d_v1]) rfl rfl hL ?_)))
 intro b1 w2 hL3 hS5
 have K4 := ks w hS5
 refine Rl.op (OpY.assign (v := (Value.bool false)) rfl ?_)
 refine Rl.nil (Swp.seq (Swp.region rfl (Rl.op (OpY.fieldAddr (q := 0) Tryd.underlying25 rfl ti22 rfl rfl rfl ?_))))
 refine Rl.op (OpY.ldBox1 (v := d_v) Tryd.underlying22 rfl rfl (hL3.at 0 rfl rfl) rfl ?_)
 have f6 := (d_h.mono (K4 S))
 refine Rl.op (OpY.lenRo (v := d_v) Tryd.underlying22 rfl f6 ?_)
 refine Rl.op (OpY.assign (v := (Value.int .i64 (List.length d.Accept : Int))) rfl ?_)
 refine Rl.nil (Swp.seq (Swp.seq ?_))
 obtain ⟨s10, h, g10⟩ := bind_some h
 refine Swp.join (fun e w' => ∃ (x10 : Bool) (u : Env), x10 = s10 ∧ e = upds [(1, (Value.pointer (some ⟨b1, 0, none⟩))), (3, (Value.int .i64 (List.length d.Accept : Int))), (23, (Value.bool x10))] u ∧ Go.X.Loc [] [] w w' [some b1] [Cont.cells [d_v, d_v1]] ∧ Keep w.heap.size [some b1] w2 [some b1] w' ∧ True) ?_ ?_
 ·
  refine Swp.region rfl (Rl.op (OpY.move (v := (Value.int .i64 (List.length d.Accept : Int))) rfl ?_))
  refine Rl.op (OpY.lss (x := (List.length d.Accept : Int)) (y := 1) (((List.length d.Accept : Int) : Int) < 1) rfl rfl Iff.rfl ?_)
  refine Rl.op (OpY.move (v := (Value.bool (decide (((List.length d.Accept : Int) : Int) < 1)))) rfl ?_)
  by_cases hc10 : ((List.length d.Accept : Int) : Int) < 1
  ·
   replace h := ite_t hc10 h
   refine Rl.no rfl rfl (decide_eq_true hc10) ?_
   refine Rl.no rfl rfl (decide_eq_true hc10) ?_
   refine Rl.op (OpY.pick_t (t := (decide (((List.length d.Accept : Int) : Int) < 1))) (v := (Value.bool true)) rfl (decide_eq_true hc10) rfl ?_)
   refine Rl.op (OpY.move (v := (Value.bool true)) rfl ?_)
   refine Rl.no rfl rfl rfl ?_
   refine Rl.no rfl rfl rfl ?_
   refine Rl.no rfl rfl rfl ?_
   refine Rl.no rfl rfl rfl ?_
   refine Rl.no rfl rfl rfl ?_
   refine Rl.op (OpY.pick_t (t := true) (v := (Value.bool true)) rfl rfl rfl ?_)
   refine Rl.nil ?_
   obtain rfl := Option.some.inj h
   refine Swp.pop_back ?_
   exact ⟨true, _, rfl, (upds_sym ⟨rfl, rfl, rfl, trivial⟩), hL3, Keep.refl, trivial⟩
  ·
   replace h := ite_f hc10 h
   refine Rl.yes rfl rfl (decide_eq_false hc10) (OpY.move (v := (Value.int .i64 (List.length d.Accept : Int))) rfl ?_)
   refine Rl.yes rfl rfl (decide_eq_false hc10) (OpY.gtr (x := (List.length d.Accept : Int)) (y := 4096) (((List.length d.Accept : Int) : Int) > 4096) rfl rfl Iff.rfl ?_)
   refine Rl.op (OpY.pick_f (t := (decide (((List.length d.Accept : Int) : Int) < 1))) (v := (Value.bool (decide (((List.length d.Accept : Int) : Int) > 4096)))) rfl (decide_eq_false hc10) rfl ?_)
   refine Rl.op (OpY.move (v := (Value.bool (decide (((List.length d.Accept : Int) : Int) > 4096)))) rfl ?_)
   by_cases hc11 : ((List.length d.Accept : Int) : Int) > 4096
   ·
    replace h := ite_t hc11 h
    refine Rl.no rfl rfl (decide_eq_true hc11) ?_
    refine Rl.no rfl rfl (decide_eq_true hc11) ?_
    refine Rl.no rfl rfl (decide_eq_true hc11) ?_
    refine Rl.no rfl rfl (decide_eq_true hc11) ?_
    refine Rl.no rfl rfl (decide_eq_true hc11) ?_
    refine Rl.op (OpY.pick_t (t := (decide (((List.length d.Accept : Int) : Int) > 4096))) (v := (Value.bool true)) rfl (decide_eq_true hc11) rfl ?_)
    refine Rl.nil ?_
    obtain rfl := Option.some.inj h
    refine Swp.pop_back ?_
    exact ⟨true, _, rfl, (upds_sym ⟨rfl, rfl, rfl, trivial⟩), hL3, Keep.refl, trivial⟩
   ·
    replace h := ite_f hc11 h
    refine Rl.yes rfl rfl (decide_eq_false hc11) (OpY.fieldAddr (q := 1) Tryd.underlying25 rfl ti23 rfl rfl rfl ?_)
    refine Rl.yes rfl rfl (decide_eq_false hc11) (OpY.ldBox1 (v := d_v1) Tryd.underlying23 rfl rfl (hL3.at 0 rfl rfl) rfl ?_)
    have f10 := (d_h1.mono (K4 S))
    refine Rl.yes rfl rfl (decide_eq_false hc11) (OpY.lenRo (v := d_v1) Tryd.underlying23 rfl f10 ?_)
    refine Rl.yes rfl rfl (decide_eq_false hc11) (OpY.move (v := (Value.int .i64 (List.length d.Accept : Int))) rfl ?_)
    refine Rl.yes rfl rfl (decide_eq_false hc11) (OpY.neq (x := (List.length d.Edges : Int)) (y := (List.length d.Accept : Int)) (((List.length d.Edges : Int) : Int) ≠ (List.length d.Accept : Int)) rfl rfl Iff.rfl ?_)
    refine Rl.op (OpY.pick_f (t := (decide (((List.length d.Accept : Int) : Int) > 4096))) (v := (Value.bool (decide (((List.length d.Edges : Int) : Int) ≠ (List.length d.Accept : Int))))) rfl (decide_eq_false hc11) rfl ?_)
    refine Rl.nil ?_
    obtain rfl := Option.some.inj h
    refine Swp.pop_back ?_
    exact ⟨(decide (((List.length d.Edges : Int) : Int) ≠ (List.length d.Accept : Int))), _, rfl, (upds_sym ⟨rfl, rfl, rfl, trivial⟩), hL3, Keep.refl, trivial⟩
 ·
  rintro _ w10 ⟨x10, u, rfl, rfl, hL10, K10, -⟩
  replace h := g10
  try dsimp only at h
  refine Swp.cond_b x10 rfl (fun hc12 => ?_) (fun hc12 => ?_)
  ·
   replace h := ite_t hc12 h
   refine Swp.seq (Swp.region rfl (Rl.op (OpY.assign (v := (Value.bool false)) rfl ?_)))
   refine Rl.nil (Swp.ret ?_)
   obtain rfl := Option.some.inj h
   refine ⟨[(Value.bool false)], ⟨rfl, trivial⟩, ⟨_, rfl, hL10.done, ?_⟩⟩
   exact ⟨rfl, trivial⟩
  ·
   replace h := ite_f hc12 h
   refine Swp.skip (Swp.seq (Swp.seq (Swp.region rfl (Rl.op (OpY.assign (v := (Value.int .i64 0)) rfl ?_)))))
   refine Rl.nil ?_
   obtain ⟨s11, hl10, g11⟩ := bind_some h
   refine Swp.join (fun e w' => ∃  (u : Env), (Sum.inl ()) = s11 ∧ e = upds [] u ∧ Go.X.Loc [] [] w w' [] [] ∧ Keep w.heap.size [some b1] w10 [] w' ∧ True) ?_ ?_
   ·
    refine Swp.block ?_
    refine Swp.loopM hl10 (fun (ss : Int) (e : Env) (w' : World) => match ss with | i10 => ∃ (u : Env), e = upds [(1, (Value.pointer (some ⟨b1, 0, none⟩))), (3, (Value.int .i64 (List.length d.Accept : Int))), (4, (Value.int .i64 i10))] u ∧ Go.X.Loc [] [] w w' [some b1] [Cont.cells [d_v, d_v1]] ∧ Keep w.heap.size [some b1] w10 [some b1] w' ∧ True) ⟨_, (upds_sym ⟨rfl, rfl, rfl, trivial⟩), hL10, Keep.refl, trivial⟩ ?_
    rintro i10 oo _ w11 ⟨u, rfl, hL11, K11, -⟩ h hd10
    rw [rValid_b1] at h
    refine Swp.seq (Swp.seq (Swp.region rfl (Rl.op (OpY.move (v := (Value.int .i64 i10)) rfl ?_))))
    refine Rl.op (OpY.move (v := (Value.int .i64 (List.length d.Accept : Int))) rfl ?_)
    refine Rl.op (OpY.lss (x := i10) (y := (List.length d.Accept : Int)) ((i10 : Int) < (List.length d.Accept : Int)) rfl rfl Iff.rfl ?_)
    refine Rl.nil ?_
    refine Swp.cond_d ((i10 : Int) < (List.length d.Accept : Int)) rfl (fun hc13 => ?_) (fun hc13 => ?_)
    ·
     replace h := ite_t hc13 h
     refine Swp.skip (Swp.seq (Swp.block (Swp.seq (Swp.region rfl (Rl.op (OpY.assign (v := (Value.int .i64 31)) rfl ?_))))))
     refine Rl.nil (Swp.seq (Swp.region rfl (Rl.op (OpY.assign (v := (Value.int .i64 0)) rfl ?_))))
     refine Rl.nil ?_
     obtain ⟨s12, hl11, g12⟩ := bind_some h
     refine Swp.join (fun e w' => ∃  (u : Env), (Sum.inl ()) = s12 ∧ e = upds [(1, (Value.pointer (some ⟨b1, 0, none⟩))), (3, (Value.int .i64 (List.length d.Accept : Int))), (4, (Value.int .i64 i10))] u ∧ Go.X.Loc [] [] w w' [some b1] [Cont.cells [d_v, d_v1]] ∧ Keep w.heap.size [some b1] w11 [some b1] w' ∧ True) ?_ ?_
     ·
      refine Swp.block ?_
      refine Swp.loopM hl11 (fun (ss : (Int × Int)) (e : Env) (w' : World) => match ss with | (last10, k10) => ∃ (u : Env), e = upds [(1, (Value.pointer (some ⟨b1, 0, none⟩))), (3, (Value.int .i64 (List.length d.Accept : Int))), (4, (Value.int .i64 i10)), (5, (Value.int .i64 last10)), (6, (Value.int .i64 k10))] u ∧ Go.X.Loc [] [] w w' [some b1] [Cont.cells [d_v, d_v1]] ∧ Keep w.heap.size [some b1] w11 [some b1] w' ∧ True) ⟨_, (upds_sym ⟨rfl, rfl, rfl, rfl, rfl, trivial⟩), hL11, Keep.refl, trivial⟩ ?_
      rintro ⟨last10, k10⟩ oo _ w12 ⟨u, rfl, hL12, K12, -⟩ h hd11
      rw [rValid_b2] at h
      refine Swp.seq (Swp.seq (Swp.region rfl (Rl.op (OpY.move (v := (Value.int .i64 k10)) rfl ?_))))
      refine Rl.op (OpY.fieldAddr (q := 1) Tryd.underlying25 rfl ti23 rfl rfl rfl ?_)
      refine Rl.op (OpY.ldBox1 (v := d_v1) Tryd.underlying23 rfl rfl (hL12.at 0 rfl rfl) rfl ?_)
      refine Rl.op (OpY.move (v := (Value.int .i64 i10)) rfl ?_)
      obtain ⟨x11, q10, h⟩ := bind_some h
      obtain ⟨n10, q11, q12⟩ := idx_some q10
      have f11 := ((((d_h1.mono (K4 S)).mono (K10 S)).mono (K11 S)).mono (K12 S))
      obtain ⟨b10, o10, c10, vs10, q13, q14, f12, q15⟩ := Rs.get f11 q12
      obtain ⟨v10, rfl, k11⟩ := q15
      refine Rl.op (OpY.ixRoD (r := (rSl rAEdge)) (v := d_v1) (n := n10) (m := (o10 + n10 * (rSl rAEdge).sz)) Tryd.underlying23 ti39 rfl q13 rfl q11 q12 rfl ?_)
      refine Rl.op (OpY.ldRo1 (v := v10) Tryd.underlying39 rfl rfl vw_view f12 ?_)
      refine Rl.op (OpY.lenRo (v := v10) Tryd.underlying39 rfl k11 ?_)
      refine Rl.op (OpY.lss (x := k10) (y := (List.length x11 : Int)) ((k10 : Int) < (List.length x11 : Int)) rfl rfl Iff.rfl ?_)
      refine Rl.nil ?_
      refine Swp.cond_d ((k10 : Int) < (List.length x11 : Int)) rfl (fun hc14 => ?_) (fun hc14 => ?_)
      ·
       replace h := ite_t hc14 h
       refine Swp.skip (Swp.seq (Swp.block (Swp.seq (Swp.region rfl (Rl.op (OpY.fieldAddr (q := 1) Tryd.underlying25 rfl ti23 rfl rfl rfl ?_))))))
       refine Rl.op (OpY.ldBox1 (v := d_v1) Tryd.underlying23 rfl rfl (hL12.at 0 rfl rfl) rfl ?_)
       refine Rl.op (OpY.move (v := (Value.int .i64 i10)) rfl ?_)
       obtain ⟨x12, q16, h⟩ := bind_some h
       obtain ⟨n11, q17, q18⟩ := idx_some q16
       obtain ⟨b11, o11, c11, vs11, q19, q20, f13, q21⟩ := Rs.get f11 q18
       obtain ⟨v11, rfl, k12⟩ := q21
       refine Rl.op (OpY.ixRoD (r := (rSl rAEdge)) (v := d_v1) (n := n11) (m := (o11 + n11 * (rSl rAEdge).sz)) Tryd.underlying23 ti39 rfl q19 rfl q17 q18 rfl ?_)
       refine Rl.op (OpY.ldRo1 (v := v11) Tryd.underlying39 rfl rfl vw_view f13 ?_)
       refine Rl.op (OpY.move (v := (Value.int .i64 k10)) rfl ?_)
       obtain ⟨x13, q22, h⟩ := bind_some h
       obtain ⟨n12, q23, q24⟩ := idx_some q22
       obtain ⟨b12, o12, c12, vs12, q25, q26, f14, q27⟩ := Rs.get k12 q24
       obtain ⟨rfl, -⟩ := rAEdge_open q27
       refine Rl.op (OpY.ixRoD (r := rAEdge) (v := v11) (n := n12) (m := (o12 + n12 * rAEdge.sz)) Tryd.underlying39 ti63 rfl q25 rfl q23 q24 rfl ?_)
       refine Rl.op (OpY.ldRoA (vs := [(Value.int .u8 x13.Low), (Value.int .u8 x13.High), (Value.int .i64 x13.To)]) Tryd.underlying63 rfl ti63 rfl rfl vw_view f14 ?_)
       refine Rl.op (OpY.alloc (cs := [(Value.int .u8 0), (Value.int .u8 0), (Value.int .i64 0)]) ti63 rfl hL12 ?_)
       intro b13 w13 hL13 hS10
       have K13 := ks w hS10
       refine Rl.op0 (OpY.store (vs := [(Value.int .u8 x13.Low), (Value.int .u8 x13.High), (Value.int .i64 x13.To)]) ti63 rfl rfl rfl rfl (ones_cons rfl (ones_cons rfl (ones_cons rfl ones_nil))) hL13 0 rfl rfl (Nat.le_of_ble_eq_true rfl) ?_)
       intro w14 (hL14 : Go.X.Loc [] [] w w14 [some b13, some b1] [Cont.cells [(Value.int .u8 x13.Low), (Value.int .u8 x13.High), (Value.int .i64 x13.To)], Cont.cells [d_v, d_v1]]) hS11
       have K14 := ks w hS11
       refine Rl.nil (Swp.seq (Swp.seq ?_))
       obtain ⟨s13, h, g13⟩ := bind_some h
       refine Swp.join (fun e w' => ∃ (x14 : Bool) (u : Env), x14 = s13 ∧ e = upds [(1, (Value.pointer (some ⟨b1, 0, none⟩))), (3, (Value.int .i64 (List.length d.Accept : Int))), (4, (Value.int .i64 i10)), (6, (Value.int .i64 k10)), (7, (Value.pointer (some ⟨b13, 0, none⟩))), (74, (Value.bool x14))] u ∧ Go.X.Loc [] [] w w' [some b1, some b13] [Cont.cells [d_v, d_v1], Cont.cells [(Value.int .u8 x13.Low), (Value.int .u8 x13.High), (Value.int .i64 x13.To)]] ∧ Keep w.heap.size [some b13, some b1] w14 [some b1, some b13] w' ∧ True) ?_ ?_
       ·
        refine Swp.region rfl (Rl.op (OpY.fieldAddr (q := 0) Tryd.underlying63 rfl ti5 rfl rfl rfl ?_))
        refine Rl.op (OpY.ldBox1 (v := (Value.int .u8 x13.Low)) Tryd.underlying5 rfl rfl (hL14.at 0 rfl rfl) rfl ?_)
        refine Rl.op (OpY.convInt (x := x13.Low) (z := (iw x13.Low)) Tryd.underlying5 Tryd.underlying3 rfl rfl ?_)
        refine Rl.op (OpY.move (v := (Value.int .i64 last10)) rfl ?_)
        refine Rl.op (OpY.leq (x := (iw x13.Low)) (y := last10) (((iw x13.Low) : Int) ≤ last10) rfl rfl Iff.rfl ?_)
        refine Rl.op (OpY.move (v := (Value.bool (decide (((iw x13.Low) : Int) ≤ last10)))) rfl ?_)
        by_cases hc15 : ((iw x13.Low) : Int) ≤ last10
        ·
         replace h := ite_t hc15 h
         refine Rl.no rfl rfl (decide_eq_true hc15) ?_
         refine Rl.no rfl rfl (decide_eq_true hc15) ?_
         refine Rl.no rfl rfl (decide_eq_true hc15) ?_
         refine Rl.no rfl rfl (decide_eq_true hc15) ?_
         refine Rl.no rfl rfl (decide_eq_true hc15) ?_
         refine Rl.op (OpY.pick_t (t := (decide (((iw x13.Low) : Int) ≤ last10))) (v := (Value.bool true)) rfl (decide_eq_true hc15) rfl ?_)
         refine Rl.op (OpY.move (v := (Value.bool true)) rfl ?_)
         refine Rl.no rfl rfl rfl ?_
         refine Rl.no rfl rfl rfl ?_
         refine Rl.no rfl rfl rfl ?_
         refine Rl.op (OpY.pick_t (t := true) (v := (Value.bool true)) rfl rfl rfl ?_)
         refine Rl.op (OpY.move (v := (Value.bool true)) rfl ?_)
         refine Rl.no rfl rfl rfl ?_
         refine Rl.no rfl rfl rfl ?_
         refine Rl.no rfl rfl rfl ?_
         refine Rl.op (OpY.pick_t (t := true) (v := (Value.bool true)) rfl rfl rfl ?_)
         refine Rl.op (OpY.move (v := (Value.bool true)) rfl ?_)
         refine Rl.no rfl rfl rfl ?_
         refine Rl.no rfl rfl rfl ?_
         refine Rl.no rfl rfl rfl ?_
         refine Rl.no rfl rfl rfl ?_
         refine Rl.op (OpY.pick_t (t := true) (v := (Value.bool true)) rfl rfl rfl ?_)
         refine Rl.nil ?_
         have hp10 := hL14.pick [1, 0] rfl rfl rfl
         have hL15 : Go.X.Loc [] [] w w14 [some b1, some b13] [Cont.cells [d_v, d_v1], Cont.cells [(Value.int .u8 x13.Low), (Value.int .u8 x13.High), (Value.int .i64 x13.To)]] := hp10.1
         have K15 := ks w hp10.2
         obtain rfl := Option.some.inj h
         refine Swp.pop_back ?_
         exact ⟨true, _, rfl, (upds_sym ⟨rfl, rfl, rfl, rfl, rfl, rfl, trivial⟩), hL15, K15, trivial⟩
        ·
         replace h := ite_f hc15 h
         refine Rl.yes rfl rfl (decide_eq_false hc15) (OpY.fieldAddr (q := 1) Tryd.underlying63 rfl ti5 rfl rfl rfl ?_)
         refine Rl.yes rfl rfl (decide_eq_false hc15) (OpY.ldBox1 (v := (Value.int .u8 x13.High)) Tryd.underlying5 rfl rfl (hL14.at 0 rfl rfl) rfl ?_)
         refine Rl.yes rfl rfl (decide_eq_false hc15) (OpY.fieldAddr (q := 0) Tryd.underlying63 rfl ti5 rfl rfl rfl ?_)
         refine Rl.yes rfl rfl (decide_eq_false hc15) (OpY.ldBox1 (v := (Value.int .u8 x13.Low)) Tryd.underlying5 rfl rfl (hL14.at 0 rfl rfl) rfl ?_)
         refine Rl.yes rfl rfl (decide_eq_false hc15) (OpY.lss (x := x13.High) (y := x13.Low) ((x13.High : Int) < x13.Low) rfl rfl Iff.rfl ?_)
         refine Rl.op (OpY.pick_f (t := (decide (((iw x13.Low) : Int) ≤ last10))) (v := (Value.bool (decide ((x13.High : Int) < x13.Low)))) rfl (decide_eq_false hc15) rfl ?_)
         refine Rl.op (OpY.move (v := (Value.bool (decide ((x13.High : Int) < x13.Low)))) rfl ?_)
         by_cases hc16 : (x13.High : Int) < x13.Low
         ·
          replace h := ite_t hc16 h
          refine Rl.no rfl rfl (decide_eq_true hc16) ?_
          refine Rl.no rfl rfl (decide_eq_true hc16) ?_
          refine Rl.no rfl rfl (decide_eq_true hc16) ?_
          refine Rl.op (OpY.pick_t (t := (decide ((x13.High : Int) < x13.Low))) (v := (Value.bool true)) rfl (decide_eq_true hc16) rfl ?_)
          refine Rl.op (OpY.move (v := (Value.bool true)) rfl ?_)
          refine Rl.no rfl rfl rfl ?_
          refine Rl.no rfl rfl rfl ?_
          refine Rl.no rfl rfl rfl ?_
          refine Rl.op (OpY.pick_t (t := true) (v := (Value.bool true)) rfl rfl rfl ?_)
          refine Rl.op (OpY.move (v := (Value.bool true)) rfl ?_)
          refine Rl.no rfl rfl rfl ?_
          refine Rl.no rfl rfl rfl ?_
          refine Rl.no rfl rfl rfl ?_
          refine Rl.no rfl rfl rfl ?_
          refine Rl.op (OpY.pick_t (t := true) (v := (Value.bool true)) rfl rfl rfl ?_)
          refine Rl.nil ?_
          have hp11 := hL14.pick [1, 0] rfl rfl rfl
          have hL16 : Go.X.Loc [] [] w w14 [some b1, some b13] [Cont.cells [d_v, d_v1], Cont.cells [(Value.int .u8 x13.Low), (Value.int .u8 x13.High), (Value.int .i64 x13.To)]] := hp11.1
          have K16 := ks w hp11.2
          obtain rfl := Option.some.inj h
          refine Swp.pop_back ?_
          exact ⟨true, _, rfl, (upds_sym ⟨rfl, rfl, rfl, rfl, rfl, rfl, trivial⟩), hL16, K16, trivial⟩
         ·
          replace h := ite_f hc16 h
          refine Rl.yes rfl rfl (decide_eq_false hc16) (OpY.fieldAddr (q := 1) Tryd.underlying63 rfl ti5 rfl rfl rfl ?_)
          refine Rl.yes rfl rfl (decide_eq_false hc16) (OpY.ldBox1 (v := (Value.int .u8 x13.High)) Tryd.underlying5 rfl rfl (hL14.at 0 rfl rfl) rfl ?_)
          refine Rl.yes rfl rfl (decide_eq_false hc16) (OpY.gtr (x := x13.High) (y := 126) ((x13.High : Int) > 126) rfl rfl Iff.rfl ?_)
          refine Rl.op (OpY.pick_f (t := (decide ((x13.High : Int) < x13.Low))) (v := (Value.bool (decide ((x13.High : Int) > 126)))) rfl (decide_eq_false hc16) rfl ?_)
          refine Rl.op (OpY.move (v := (Value.bool (decide ((x13.High : Int) > 126)))) rfl ?_)
          by_cases hc17 : (x13.High : Int) > 126
          ·
           replace h := ite_t hc17 h
           refine Rl.no rfl rfl (decide_eq_true hc17) ?_
           refine Rl.no rfl rfl (decide_eq_true hc17) ?_
           refine Rl.no rfl rfl (decide_eq_true hc17) ?_
           refine Rl.op (OpY.pick_t (t := (decide ((x13.High : Int) > 126))) (v := (Value.bool true)) rfl (decide_eq_true hc17) rfl ?_)
           refine Rl.op (OpY.move (v := (Value.bool true)) rfl ?_)
           refine Rl.no rfl rfl rfl ?_
           refine Rl.no rfl rfl rfl ?_
           refine Rl.no rfl rfl rfl ?_
           refine Rl.no rfl rfl rfl ?_
           refine Rl.op (OpY.pick_t (t := true) (v := (Value.bool true)) rfl rfl rfl ?_)
           refine Rl.nil ?_
           have hp12 := hL14.pick [1, 0] rfl rfl rfl
           have hL17 : Go.X.Loc [] [] w w14 [some b1, some b13] [Cont.cells [d_v, d_v1], Cont.cells [(Value.int .u8 x13.Low), (Value.int .u8 x13.High), (Value.int .i64 x13.To)]] := hp12.1
           have K17 := ks w hp12.2
           obtain rfl := Option.some.inj h
           refine Swp.pop_back ?_
           exact ⟨true, _, rfl, (upds_sym ⟨rfl, rfl, rfl, rfl, rfl, rfl, trivial⟩), hL17, K17, trivial⟩
          ·
           replace h := ite_f hc17 h
           refine Rl.yes rfl rfl (decide_eq_false hc17) (OpY.fieldAddr (q := 2) Tryd.underlying63 rfl ti3 rfl rfl rfl ?_)
           refine Rl.yes rfl rfl (decide_eq_false hc17) (OpY.ldBox1 (v := (Value.int .i64 x13.To)) Tryd.underlying3 rfl rfl (hL14.at 0 rfl rfl) rfl ?_)
           refine Rl.yes rfl rfl (decide_eq_false hc17) (OpY.lss (x := x13.To) (y := 0) ((x13.To : Int) < 0) rfl rfl Iff.rfl ?_)
           refine Rl.op (OpY.pick_f (t := (decide ((x13.High : Int) > 126))) (v := (Value.bool (decide ((x13.To : Int) < 0)))) rfl (decide_eq_false hc17) rfl ?_)
           refine Rl.op (OpY.move (v := (Value.bool (decide ((x13.To : Int) < 0)))) rfl ?_)
           by_cases hc18 : (x13.To : Int) < 0
           ·
            replace h := ite_t hc18 h
            refine Rl.no rfl rfl (decide_eq_true hc18) ?_
            refine Rl.no rfl rfl (decide_eq_true hc18) ?_
            refine Rl.no rfl rfl (decide_eq_true hc18) ?_
            refine Rl.no rfl rfl (decide_eq_true hc18) ?_
            refine Rl.op (OpY.pick_t (t := (decide ((x13.To : Int) < 0))) (v := (Value.bool true)) rfl (decide_eq_true hc18) rfl ?_)
            refine Rl.nil ?_
            have hp13 := hL14.pick [1, 0] rfl rfl rfl
            have hL18 : Go.X.Loc [] [] w w14 [some b1, some b13] [Cont.cells [d_v, d_v1], Cont.cells [(Value.int .u8 x13.Low), (Value.int .u8 x13.High), (Value.int .i64 x13.To)]] := hp13.1
            have K18 := ks w hp13.2
            obtain rfl := Option.some.inj h
            refine Swp.pop_back ?_
            exact ⟨true, _, rfl, (upds_sym ⟨rfl, rfl, rfl, rfl, rfl, rfl, trivial⟩), hL18, K18, trivial⟩
           ·
            replace h := ite_f hc18 h
            refine Rl.yes rfl rfl (decide_eq_false hc18) (OpY.fieldAddr (q := 2) Tryd.underlying63 rfl ti3 rfl rfl rfl ?_)
            refine Rl.yes rfl rfl (decide_eq_false hc18) (OpY.ldBox1 (v := (Value.int .i64 x13.To)) Tryd.underlying3 rfl rfl (hL14.at 0 rfl rfl) rfl ?_)
            refine Rl.yes rfl rfl (decide_eq_false hc18) (OpY.move (v := (Value.int .i64 (List.length d.Accept : Int))) rfl ?_)
            refine Rl.yes rfl rfl (decide_eq_false hc18) (OpY.geq (x := x13.To) (y := (List.length d.Accept : Int)) ((x13.To : Int) ≥ (List.length d.Accept : Int)) rfl rfl Iff.rfl ?_)
            refine Rl.op (OpY.pick_f (t := (decide ((x13.To : Int) < 0))) (v := (Value.bool (decide ((x13.To : Int) ≥ (List.length d.Accept : Int))))) rfl (decide_eq_false hc18) rfl ?_)
            refine Rl.nil ?_
            have hp14 := hL14.pick [1, 0] rfl rfl rfl
            have hL19 : Go.X.Loc [] [] w w14 [some b1, some b13] [Cont.cells [d_v, d_v1], Cont.cells [(Value.int .u8 x13.Low), (Value.int .u8 x13.High), (Value.int .i64 x13.To)]] := hp14.1
            have K19 := ks w hp14.2
            obtain rfl := Option.some.inj h
            refine Swp.pop_back ?_
            exact ⟨(decide ((x13.To : Int) ≥ (List.length d.Accept : Int))), _, rfl, (upds_sym ⟨rfl, rfl, rfl, rfl, rfl, rfl, trivial⟩), hL19, K19, trivial⟩
       ·
        rintro _ w15 ⟨x14, u, rfl, rfl, hL20, K20, -⟩
        replace h := g13
        try dsimp only at h
        refine Swp.cond_b x14 rfl (fun hc19 => ?_) (fun hc19 => ?_)
        ·
         replace h := ite_t hc19 h
         refine Swp.seq (Swp.region rfl (Rl.op (OpY.assign (v := (Value.bool false)) rfl ?_)))
         refine Rl.nil (Swp.ret ?_)
         obtain rfl := Option.some.inj h
         obtain rfl := hd11 _ rfl
         replace h := g12
         try dsimp only at h
         obtain rfl := Option.some.inj h
         obtain rfl := hd10 _ rfl
         replace h := g11
         try dsimp only at h
         obtain rfl := Option.some.inj h
         refine ⟨[(Value.bool false)], ⟨rfl, trivial⟩, ⟨_, rfl, hL20.done, ?_⟩⟩
         exact ⟨rfl, trivial⟩
        ·
         replace h := ite_f hc19 h
         refine Swp.skip (Swp.region rfl (Rl.op (OpY.fieldAddr (q := 1) Tryd.underlying63 rfl ti5 rfl rfl rfl ?_)))
         refine Rl.op (OpY.ldBox1 (v := (Value.int .u8 x13.High)) Tryd.underlying5 rfl rfl (hL20.at 1 rfl rfl) rfl ?_)
         refine Rl.op (OpY.convInt (x := x13.High) (z := (iw x13.High)) Tryd.underlying5 Tryd.underlying3 rfl rfl ?_)
         refine Rl.op (OpY.assign (v := (Value.int .i64 (iw x13.High))) rfl ?_)
         refine Rl.nil (Swp.pop_blk (Swp.region rfl (Rl.op (OpY.move (v := (Value.int .i64 k10)) rfl ?_))))
         refine Rl.op (OpY.add (x := k10) (y := 1) (z := (iw (k10 + 1))) rfl rfl rfl ?_)
         refine Rl.op (OpY.assign (v := (Value.int .i64 (iw (k10 + 1)))) rfl ?_)
         refine Rl.nil ?_
         have hp15 := hL20.pick [0] rfl rfl rfl
         have hL21 : Go.X.Loc [] [] w w15 [some b1] [Cont.cells [d_v, d_v1]] := hp15.1
         have K21 := ks w hp15.2
         obtain rfl := Option.some.inj h
         refine Swp.pop_back ⟨((iw x13.High), (iw (k10 + 1))), rfl, ?_⟩
         exact ⟨_, (upds_sym ⟨rfl, rfl, rfl, rfl, rfl, trivial⟩), hL21, (Keep.trans (Keep.trans (Keep.trans (Keep.trans K12 K13) K14) K20) K21), trivial⟩
      ·
       replace h := ite_f hc14 h
       refine Swp.exit rfl ?_
       obtain rfl := Option.some.inj h
       obtain rfl := hd11 _ rfl
       replace h := g12
       try dsimp only at h
       skip
       refine Swp.pop_back ?_
       exact ⟨_, rfl, (upds_sym ⟨rfl, rfl, rfl, trivial⟩), hL12, K12, trivial⟩
     ·
      rintro _ w16 ⟨u, rfl, rfl, hL22, K22, -⟩
      replace h := g12
      try dsimp only at h
      refine Swp.pop_blk (Swp.region rfl (Rl.op (OpY.move (v := (Value.int .i64 i10)) rfl ?_)))
      refine Rl.op (OpY.add (x := i10) (y := 1) (z := (iw (i10 + 1))) rfl rfl rfl ?_)
      refine Rl.op (OpY.assign (v := (Value.int .i64 (iw (i10 + 1)))) rfl ?_)
      refine Rl.nil ?_
      obtain rfl := Option.some.inj h
      refine Swp.pop_back ⟨(iw (i10 + 1)), rfl, ?_⟩
      exact ⟨_, (upds_sym ⟨rfl, rfl, rfl, trivial⟩), hL22, (Keep.trans K11 K22), trivial⟩
    ·
     replace h := ite_f hc13 h
     refine Swp.exit rfl ?_
     have hp16 := hL11.pick [] rfl rfl rfl
     have hL23 : Go.X.Loc [] [] w w11 [] [] := hp16.1
     have K23 := ks w hp16.2
     obtain rfl := Option.some.inj h
     obtain rfl := hd10 _ rfl
     replace h := g11
     try dsimp only at h
     skip
     refine Swp.pop_back ?_
     exact ⟨_, rfl, (upds_sym trivial), hL23, (Keep.trans K11 K23), trivial⟩
   ·
    rintro _ w17 ⟨u, rfl, rfl, hL24, K24, -⟩
    replace h := g11
    try dsimp only at h
    refine Swp.seq (Swp.region rfl (Rl.op (OpY.assign (v := (Value.bool true)) rfl ?_)))
    refine Rl.nil (Swp.ret ?_)
    obtain rfl := Option.some.inj h
    refine ⟨[(Value.bool true)], ⟨rfl, trivial⟩, ⟨_, rfl, hL24.done, ?_⟩⟩
    exact ⟨rfl, trivial⟩
theorem rFew_w (N : Nat) (d : ADfa) (d_v : Value) (d_v1 : Value) (w : World) (S : Nat → Prop) (d_h : Rs rBool (Hv w.heap.size S [] w) d_v d.Accept) (d_h1 : Rs (rSl rAEdge) (Hv w.heap.size S [] w) d_v1 d.Edges) (r : Bool) (h : rFew N d = some r) :
  Calls Tryd.prog 12 #[(Value.agg #[d_v, d_v1])] w (Ret w (fun v w' => (Value.bool r) = v ∧ True)) := by
 unfold rFew at h
 have hL : Go.X.Loc [] [] w w [] [] := Go.X.Loc.begin0 w
 refine calls_of (l := [(Value.agg #[d_v, d_v1])]) (rl := [.tmp 2]) (n := 11) Tryd.func12 rfl rfl rfl (Nat.le_of_ble_eq_true rfl) ?_
 refine Swp.seq (Swp.region rfl (Rl.op (OpY.box (cs := [d_v, d_v1]) rfl rfl hL ?_)))
 intro b1 w2 hL3 hS5
 have K4 := ks w hS5
 refine Rl.op (OpY.assign (v := (Value.bool false)) rfl ?_)
 refine Rl.nil (Swp.seq (Swp.region rfl (Rl.op (OpY.fieldAddr (q := 0) Tryd.underlying25 rfl ti22 rfl rfl rfl ?_))))
 refine Rl.op (OpY.ldBox1 (v := d_v) Tryd.underlying22 rfl rfl (hL3.at 0 rfl rfl) rfl ?_)
 have f6 := (d_h.mono (K4 S))
 refine Rl.op (OpY.lenRo (v := d_v) Tryd.underlying22 rfl f6 ?_)
 refine Rl.op (OpY.leq (x := (List.length d.Accept : Int)) (y := 8) (((List.length d.Accept : Int) : Int) ≤ 8) rfl rfl Iff.rfl ?_)
 refine Rl.op (OpY.move (v := (Value.bool (decide (((List.length d.Accept : Int) : Int) ≤ 8)))) rfl ?_)
 by_cases hc7 : ((List.length d.Accept : Int) : Int) ≤ 8
 ·
  replace h := ite_t hc7 h
  refine Rl.yes rfl rfl (decide_eq_true hc7) (OpY.ldBoxA (vs := [d_v, d_v1]) Tryd.underlying25 rfl ti25 rfl (hL3.at 0 rfl rfl) rfl rfl ?_)
  obtain ⟨r8, q9, h⟩ := bind_some h
  have f10 := (d_h1.mono (K4 S))
  refine Rl.yes rfl rfl (decide_eq_true hc7) (OpY.call en18 rfl rfl (rValid_w N d d_v d_v1 _ Any (f6.mono vw_any) (f10.mono vw_any) r8 q9) ?_)
  rintro _ w10 hE10 ⟨rfl, -⟩
  have hL10 := hL3.ext hE10
  refine Rl.op (OpY.pick_t (t := (decide (((List.length d.Accept : Int) : Int) ≤ 8))) (v := (Value.bool r8)) rfl (decide_eq_true hc7) rfl ?_)
  refine Rl.op (OpY.assign (v := (Value.bool r8)) rfl ?_)
  refine Rl.nil (Swp.ret ?_)
  obtain rfl := Option.some.inj h
  refine ⟨[(Value.bool r8)], ⟨rfl, trivial⟩, ⟨_, rfl, hL10.done, ?_⟩⟩
  exact ⟨rfl, trivial⟩
 ·
  replace h := ite_f hc7 h
  refine Rl.no rfl rfl (decide_eq_false hc7) ?_
  refine Rl.no rfl rfl (decide_eq_false hc7) ?_
  refine Rl.op (OpY.pick_f (t := (decide (((List.length d.Accept : Int) : Int) ≤ 8))) (v := (Value.bool false)) rfl (decide_eq_false hc7) rfl ?_)
  refine Rl.op (OpY.assign (v := (Value.bool false)) rfl ?_)
  refine Rl.nil (Swp.ret ?_)
  obtain rfl := Option.some.inj h
  refine ⟨[(Value.bool false)], ⟨rfl, trivial⟩, ⟨_, rfl, hL3.done, ?_⟩⟩
  exact ⟨rfl, trivial⟩
end Go.Proofs.YtckhldmpcddjmaaDoor.WR

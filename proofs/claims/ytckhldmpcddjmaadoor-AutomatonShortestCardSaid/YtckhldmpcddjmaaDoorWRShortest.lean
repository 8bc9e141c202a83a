/- Walks, written by a program of mine (wip/tool); the kernel checks them. -/
import Derived.Test.YtckhldmpcddjmaaDoorProg
import Derived.Test.YtckhldmpcddjmaaDoorZ12
import Derived.Test.YtckhldmpcddjmaaDoorPR
import Derived.Test.YtckhldmpcddjmaaDoorWAShortest
set_option maxRecDepth 100000
set_option maxHeartbeats 40000000
set_option linter.unusedVariables false
set_option linter.unusedSimpArgs false
namespace Go.Proofs.YtckhldmpcddjmaaDoor.WR
open Go Go.RowKit Go.X Go.D Go.Proofs.YtckhldmpcddjmaaDoor.WA
theorem ti23 : TI Tryd.prog 23 1 24 (Value.slice none 0 0) := TI.mk (by kernel_rfl)
theorem ti39 : TI Tryd.prog 39 1 24 (Value.slice none 0 0) := TI.mk (by kernel_rfl)
theorem ti63 : TI Tryd.prog 63 3 16 (Value.agg #[(Value.int .u8 0), (Value.int .u8 0), (Value.int .i64 0)]) := TI.mk (by kernel_rfl)
theorem ti25 : TI Tryd.prog 25 2 48 (Value.agg #[(Value.slice none 0 0), (Value.slice none 0 0)]) := TI.mk (by kernel_rfl)
theorem en52 : Go.X.Enters Tryd.prog 52 := ⟨Tryd.f52, Tryd.func52, by kernel_rfl, by kernel_rfl⟩
theorem en42 : Go.X.Enters Tryd.prog 42 := ⟨Tryd.f42, Tryd.func42, by kernel_rfl, by kernel_rfl⟩
theorem en41 : Go.X.Enters Tryd.prog 41 := ⟨Tryd.f41, Tryd.func41, by kernel_rfl, by kernel_rfl⟩
theorem ti88 : TI Tryd.prog 88 2 16 (Value.agg #[(Value.int .i64 0), (Value.int .i64 0)]) := TI.mk (by kernel_rfl)
theorem pl88 : placesT Tryd.prog 88 = some [(0, 1), (1, 1)] := by kernel_rfl
theorem en51 : Go.X.Enters Tryd.prog 51 := ⟨Tryd.f51, Tryd.func51, by kernel_rfl, by kernel_rfl⟩
theorem en50 : Go.X.Enters Tryd.prog 50 := ⟨Tryd.f50, Tryd.func50, by kernel_rfl, by kernel_rfl⟩
theorem en34 : Go.X.Enters Tryd.prog 34 := ⟨Tryd.f34, Tryd.func34, by kernel_rfl, by kernel_rfl⟩
theorem en35 : Go.X.Enters Tryd.prog 35 := ⟨Tryd.f35, Tryd.func35, by kernel_rfl, by kernel_rfl⟩
theorem pl25 : placesT Tryd.prog 25 = some [(0, 1), (1, 1)] := by kernel_rfl
theorem pl63 : placesT Tryd.prog 63 = some [(0, 1), (1, 1), (2, 1)] := by kernel_rfl
theorem en47 : Go.X.Enters Tryd.prog 47 := ⟨Tryd.f47, Tryd.func47, by kernel_rfl, by kernel_rfl⟩
theorem en48 : Go.X.Enters Tryd.prog 48 := ⟨Tryd.f48, Tryd.func48, by kernel_rfl, by kernel_rfl⟩
theorem en49 : Go.X.Enters Tryd.prog 49 := ⟨Tryd.f49, Tryd.func49, by kernel_rfl, by kernel_rfl⟩
theorem en25 : Go.X.Enters Tryd.prog 25 := ⟨Tryd.f25, Tryd.func25, by kernel_rfl, by kernel_rfl⟩
theorem en18 : Go.X.Enters Tryd.prog 18 := ⟨Tryd.f18, Tryd.func18, by kernel_rfl, by kernel_rfl⟩
theorem eq2_88 : Eq2 Tryd.prog 88 := ⟨by kernel_rfl, by kernel_rfl, by kernel_rfl, .i64, .i64, by kernel_rfl⟩
theorem rValid_w (N : Nat) (d : ADfa) (d_v : Value) (d_v1 : Value) (w : World) (S : Nat → Prop) (d_h : Rs rBool (Hv w.heap.size S [] w) d_v d.Accept) (d_h1 : Rs (rSl rAEdge) (Hv w.heap.size S [] w) d_v1 d.Edges) (r : Bool) (h : rValid N d = some r) :
  Calls Tryd.prog 18 #[(Value.agg #[d_v, d_v1])] w (Ret w (fun v w' => (Value.bool r) = v ∧ True)) := by
 unfold rValid at h
 have hL : Go.X.Loc [] [] w w [] [] := Go.X.Loc.begin0 w
 refine calls_of (l := [(Value.agg #[d_v, d_v1])]) (rl := [.tmp 2]) (n := 78) Tryd.func18 rfl rfl rfl (Nat.le_of_ble_eq_true rfl) ?_
 refine Swp.seq (Swp.region rfl (Rl.op (OpY.box (cs := [d_v, d_v1]) rfl rfl hL ?_)))
 intro b1 w2 hL3 hS5
 have K4 := ks w hS5
 refine Rl.op (OpY.assign (v := (Value.bool false)) rfl ?_)
 refine Rl.nil (Swp.seq (Swp.region rfl (Rl.op (OpY.fieldAddr (q := 0) Tryd.underlying25 rfl ti22 rfl rfl rfl ?_))))
 refine Rl.op (OpY.ldBox1 (v := d_v) Tryd.underlying22 rfl rfl (hL3.at 0 rfl rfl) rfl ?_)
 have f6 := (d_h.mono (K4 S))
 refine Rl.op (OpY.lenRo (v := d_v) Tryd.underlying22 rfl f6 ?_)
 refine Rl.op (OpY.assign (v := (Value.int .i64 (List.length d.Accept : Int))) rfl ?_)
 refine Rl.nil (Swp.seq (Swp.seq ?_))
 obtain ⟨s10, h, g10⟩ := bind_some h
 refine Swp.join (fun e w' => ∃ (x10 : Bool) (u : Env), x10 = s10 ∧ e = upds [(1, (Value.pointer (some ⟨b1, 0, none⟩))), (3, (Value.int .i64 (List.length d.Accept : Int))), (23, (Value.bool x10))] u ∧ Go.X.Loc [] [] w w' [some b1] [Cont.cells [d_v, d_v1]] ∧ Keep w.heap.size [some b1] w2 [some b1] w' ∧ True) ?_ ?_
 ·
  refine Swp.region rfl (Rl.op (OpY.move (v := (Value.int .i64 (List.length d.Accept : Int))) rfl ?_))
  refine Rl.op (OpY.lss (x := (List.length d.Accept : Int)) (y := 1) (((List.length d.Accept : Int) : Int) < 1) rfl rfl Iff.rfl ?_)
  refine Rl.op (OpY.move (v := (Value.bool (decide (((List.length d.Accept : Int) : Int) < 1)))) rfl ?_)
  by_cases hc10 : ((List.length d.Accept : Int) : Int) < 1
  ·
   replace h := ite_t hc10 h
   refine Rl.no rfl rfl (decide_eq_true hc10) ?_
   refine Rl.no rfl rfl (decide_eq_true hc10) ?_
   refine Rl.op (OpY.pick_t (t := (decide (((List.length d.Accept : Int) : Int) < 1))) (v := (Value.bool true)) rfl (decide_eq_true hc10) rfl ?_)
   refine Rl.op (OpY.move (v := (Value.bool true)) rfl ?_)
   refine Rl.no rfl rfl rfl ?_
   refine Rl.no rfl rfl rfl ?_
   refine Rl.no rfl rfl rfl ?_
   refine Rl.no rfl rfl rfl ?_
   refine Rl.no rfl rfl rfl ?_
   refine Rl.op (OpY.pick_t (t := true) (v := (Value.bool true)) rfl rfl rfl ?_)
   refine Rl.nil ?_
   obtain rfl := Option.some.inj h
   refine Swp.pop_back ?_
   exact ⟨true, _, rfl, (upds_sym ⟨rfl, rfl, rfl, trivial⟩), hL3, Keep.refl, trivial⟩
  ·
   replace h := ite_f hc10 h
   refine Rl.yes rfl rfl (decide_eq_false hc10) (OpY.move (v := (Value.int .i64 (List.length d.Accept : Int))) rfl ?_)
   refine Rl.yes rfl rfl (decide_eq_false hc10) (OpY.gtr (x := (List.length d.Accept : Int)) (y := 4096) (((List.length d.Accept : Int) : Int) > 4096) rfl rfl Iff.rfl ?_)
   refine Rl.op (OpY.pick_f (t := (decide (((List.length d.Accept : Int) : Int) < 1))) (v := (Value.bool (decide (((List.length d.Accept : Int) : Int) > 4096)))) rfl (decide_eq_false hc10) rfl ?_)
   refine Rl.op (OpY.move (v := (Value.bool (decide (((List.length d.Accept : Int) : Int) > 4096)))) rfl ?_)
   by_cases hc11 : ((List.length d.Accept : Int) : Int) > 4096
   ·
    replace h := ite_t hc11 h
    refine Rl.no rfl rfl (decide_eq_true hc11) ?_
    refine Rl.no rfl rfl (decide_eq_true hc11) ?_
    refine Rl.no rfl rfl (decide_eq_true hc11) ?_
    refine Rl.no rfl rfl (decide_eq_true hc11) ?_
    refine Rl.no rfl rfl (decide_eq_true hc11) ?_
    refine Rl.op (OpY.pick_t (t := (decide (((List.length d.Accept : Int) : Int) > 4096))) (v := (Value.bool true)) rfl (decide_eq_true hc11) rfl ?_)
    refine Rl.nil ?_
    obtain rfl := Option.some.inj h
    refine Swp.pop_back ?_
    exact ⟨true, _, rfl, (upds_sym ⟨rfl, rfl, rfl, trivial⟩), hL3, Keep.refl, trivial⟩
   ·
    replace h := ite_f hc11 h
    refine Rl.yes rfl rfl (decide_eq_false hc11) (OpY.fieldAddr (q := 1) Tryd.underlying25 rfl ti23 rfl rfl rfl ?_)
    refine Rl.yes rfl rfl (decide_eq_false hc11) (OpY.ldBox1 (v := d_v1) Tryd.underlying23 rfl rfl (hL3.at 0 rfl rfl) rfl ?_)
    have f10 := (d_h1.mono (K4 S))
    refine Rl.yes rfl rfl (decide_eq_false hc11) (OpY.lenRo (v := d_v1) Tryd.underlying23 rfl f10 ?_)
    refine Rl.yes rfl rfl (decide_eq_false hc11) (OpY.move (v := (Value.int .i64 (List.length d.Accept : Int))) rfl ?_)
    refine Rl.yes rfl rfl (decide_eq_false hc11) (OpY.neq (x := (List.length d.Edges : Int)) (y := (List.length d.Accept : Int)) (((List.length d.Edges : Int) : Int) ≠ (List.length d.Accept : Int)) rfl rfl Iff.rfl ?_)
    refine Rl.op (OpY.pick_f (t := (decide (((List.length d.Accept : Int) : Int) > 4096))) (v := (Value.bool (decide (((List.length d.Edges : Int) : Int) ≠ (List.length d.Accept : Int))))) rfl (decide_eq_false hc11) rfl ?_)
    refine Rl.nil ?_
    obtain rfl := Option.some.inj h
    refine Swp.pop_back ?_
    exact ⟨(decide (((List.length d.Edges : Int) : Int) ≠ (List.length d.Accept : Int))), _, rfl, (upds_sym ⟨rfl, rfl, rfl, trivial⟩), hL3, Keep.refl, trivial⟩
 ·
  rintro _ w10 ⟨x10, u, rfl, rfl, hL10, K10, -⟩
  replace h := g10
  try dsimp only at h
  refine Swp.cond_b x10 rfl (fun hc12 => ?_) (fun hc12 => ?_)
  ·
   replace h := ite_t hc12 h
   refine Swp.seq (Swp.region rfl (Rl.op (OpY.assign (v := (Value.bool false)) rfl ?_)))
   refine Rl.nil (Swp.ret ?_)
   obtain rfl := Option.some.inj h
   refine ⟨[(Value.bool false)], ⟨rfl, trivial⟩, ⟨_, rfl, hL10.done, ?_⟩⟩
   exact ⟨rfl, trivial⟩
  ·
   replace h := ite_f hc12 h
   refine Swp.skip (Swp.seq (Swp.seq (Swp.region rfl (Rl.op (OpY.assign (v := (Value.int .i64 0)) rfl ?_)))))
   refine Rl.nil ?_
   obtain ⟨s11, hl10, g11⟩ := bind_some h
   refine Swp.join (fun e w' => ∃  (u : Env), (Sum.inl ()) = s11 ∧ e = upds [] u ∧ Go.X.Loc [] [] w w' [] [] ∧ Keep w.heap.size [some b1] w10 [] w' ∧ True) ?_ ?_
   ·
    refine Swp.block ?_
    refine Swp.loopM hl10 (fun (ss : Int) (e : Env) (w' : World) => match ss with | i10 => ∃ (u : Env), e = upds [(1, (Value.pointer (some ⟨b1, 0, none⟩))), (3, (Value.int .i64 (List.length d.Accept : Int))), (4, (Value.int .i64 i10))] u ∧ Go.X.Loc [] [] w w' [some b1] [Cont.cells [d_v, d_v1]] ∧ Keep w.heap.size [some b1] w10 [some b1] w' ∧ True) ⟨_, (upds_sym ⟨rfl, rfl, rfl, trivial⟩), hL10, Keep.refl, trivial⟩ ?_
    rintro i10 oo _ w11 ⟨u, rfl, hL11, K11, -⟩ h hd10
    rw [rValid_b1] at h
    refine Swp.seq (Swp.seq (Swp.region rfl (Rl.op (OpY.move (v := (Value.int .i64 i10)) rfl ?_))))
    refine Rl.op (OpY.move (v := (Value.int .i64 (List.length d.Accept : Int))) rfl ?_)
    refine Rl.op (OpY.lss (x := i10) (y := (List.length d.Accept : Int)) ((i10 : Int) < (List.length d.Accept : Int)) rfl rfl Iff.rfl ?_)
    refine Rl.nil ?_
    refine Swp.cond_d ((i10 : Int) < (List.length d.Accept : Int)) rfl (fun hc13 => ?_) (fun hc13 => ?_)
    ·
     replace h := ite_t hc13 h
     refine Swp.skip (Swp.seq (Swp.block (Swp.seq (Swp.region rfl (Rl.op (OpY.assign (v := (Value.int .i64 31)) rfl ?_))))))
     refine Rl.nil (Swp.seq (Swp.region rfl (Rl.op (OpY.assign (v := (Value.int .i64 0)) rfl ?_))))
     refine Rl.nil ?_
     obtain ⟨s12, hl11, g12⟩ := bind_some h
     refine Swp.join (fun e w' => ∃  (u : Env), (Sum.inl ()) = s12 ∧ e = upds [(1, (Value.pointer (some ⟨b1, 0, none⟩))), (3, (Value.int .i64 (List.length d.Accept : Int))), (4, (Value.int .i64 i10))] u ∧ Go.X.Loc [] [] w w' [some b1] [Cont.cells [d_v, d_v1]] ∧ Keep w.heap.size [some b1] w11 [some b1] w' ∧ True) ?_ ?_
     ·
      refine Swp.block ?_
      refine Swp.loopM hl11 (fun (ss : (Int × Int)) (e : Env) (w' : World) => match ss with | (last10, k10) => ∃ (u : Env), e = upds [(1, (Value.pointer (some ⟨b1, 0, none⟩))), (3, (Value.int .i64 (List.length d.Accept : Int))), (4, (Value.int .i64 i10)), (5, (Value.int .i64 last10)), (6, (Value.int .i64 k10))] u ∧ Go.X.Loc [] [] w w' [some b1] [Cont.cells [d_v, d_v1]] ∧ Keep w.heap.size [some b1] w11 [some b1] w' ∧ True) ⟨_, (upds_sym ⟨rfl, rfl, rfl, rfl, rfl, trivial⟩), hL11, Keep.refl, trivial⟩ ?_
      rintro ⟨last10, k10⟩ oo _ w12 ⟨u, rfl, hL12, K12, -⟩ h hd11
      rw [rValid_b2] at h
      refine Swp.seq (Swp.seq (Swp.region rfl (Rl.op (OpY.move (v := (Value.int .i64 k10)) rfl ?_))))
      refine Rl.op (OpY.fieldAddr (q := 1) Tryd.underlying25 rfl ti23 rfl rfl rfl ?_)
      refine Rl.op (OpY.ldBox1 (v := d_v1) Tryd.underlying23 rfl rfl (hL12.at 0 rfl rfl) rfl ?_)
      refine Rl.op (OpY.move (v := (Value.int .i64 i10)) rfl ?_)
      obtain ⟨x11, q10, h⟩ := bind_some h
      obtain ⟨n10, q11, q12⟩ := idx_some q10
      have f11 := ((((d_h1.mono (K4 S)).mono (K10 S)).mono (K11 S)).mono (K12 S))
      obtain ⟨b10, o10, c10, vs10, q13, q14, f12, q15⟩ := Rs.get f11 q12
      obtain ⟨v10, rfl, k11⟩ := q15
      refine Rl.op (OpY.ixRoD (r := (rSl rAEdge)) (v := d_v1) (n := n10) (m := (o10 + n10 * (rSl rAEdge).sz)) Tryd.underlying23 ti39 rfl q13 rfl q11 q12 rfl ?_)
      refine Rl.op (OpY.ldRo1 (v := v10) Tryd.underlying39 rfl rfl vw_view f12 ?_)
      refine Rl.op (OpY.lenRo (v := v10) Tryd.underlying39 rfl k11 ?_)
      refine Rl.op (OpY.lss (x := k10) (y := (List.length x11 : Int)) ((k10 : Int) < (List.length x11 : Int)) rfl rfl Iff.rfl ?_)
      refine Rl.nil ?_
      refine Swp.cond_d ((k10 : Int) < (List.length x11 : Int)) rfl (fun hc14 => ?_) (fun hc14 => ?_)
      ·
       replace h := ite_t hc14 h
       refine Swp.skip (Swp.seq (Swp.block (Swp.seq (Swp.region rfl (Rl.op (OpY.fieldAddr (q := 1) Tryd.underlying25 rfl ti23 rfl rfl rfl ?_))))))
       refine Rl.op (OpY.ldBox1 (v := d_v1) Tryd.underlying23 rfl rfl (hL12.at 0 rfl rfl) rfl ?_)
       refine Rl.op (OpY.move (v := (Value.int .i64 i10)) rfl ?_)
       obtain ⟨x12, q16, h⟩ := bind_some h
       obtain ⟨n11, q17, q18⟩ := idx_some q16
       obtain ⟨b11, o11, c11, vs11, q19, q20, f13, q21⟩ := Rs.get f11 q18
       obtain ⟨v11, rfl, k12⟩ := q21
       refine Rl.op (OpY.ixRoD (r := (rSl rAEdge)) (v := d_v1) (n := n11) (m := (o11 + n11 * (rSl rAEdge).sz)) Tryd.underlying23 ti39 rfl q19 rfl q17 q18 rfl ?_)
       refine Rl.op (OpY.ldRo1 (v := v11) Tryd.underlying39 rfl rfl vw_view f13 ?_)
       refine Rl.op (OpY.move (v := (Value.int .i64 k10)) rfl ?_)
       obtain ⟨x13, q22, h⟩ := bind_some h
       obtain ⟨n12, q23, q24⟩ := idx_some q22
       obtain ⟨b12, o12, c12, vs12, q25, q26, f14, q27⟩ := Rs.get k12 q24
       obtain ⟨rfl, -⟩ := rAEdge_open q27
       refine Rl.op (OpY.ixRoD (r := rAEdge) (v := v11) (n := n12) (m := (o12 + n12 * rAEdge.sz)) Tryd.underlying39 ti63 rfl q25 rfl q23 q24 rfl ?_)
       refine Rl.op (OpY.ldRoA (vs := [(Value.int .u8 x13.Low), (Value.int .u8 x13.High), (Value.int .i64 x13.To)]) Tryd.underlying63 rfl ti63 rfl rfl vw_view f14 ?_)
       refine Rl.op (OpY.alloc (cs := [(Value.int .u8 0), (Value.int .u8 0), (Value.int .i64 0)]) ti63 rfl hL12 ?_)
       intro b13 w13 hL13 hS10
       have K13 := ks w hS10
       refine Rl.op0 (OpY.store (vs := [(Value.int .u8 x13.Low), (Value.int .u8 x13.High), (Value.int .i64 x13.To)]) ti63 rfl rfl rfl rfl (ones_cons rfl (ones_cons rfl (ones_cons rfl ones_nil))) hL13 0 rfl rfl (Nat.le_of_ble_eq_true rfl) ?_)
       intro w14 (hL14 : Go.X.Loc [] [] w w14 [some b13, some b1] [Cont.cells [(Value.int .u8 x13.Low), (Value.int .u8 x13.High), (Value.int .i64 x13.To)], Cont.cells [d_v, d_v1]]) hS11
       have K14 := ks w hS11
       refine Rl.nil (Swp.seq (Swp.seq ?_))
       obtain ⟨s13, h, g13⟩ := bind_some h
       refine Swp.join (fun e w' => ∃ (x14 : Bool) (u : Env), x14 = s13 ∧ e = upds [(1, (Value.pointer (some ⟨b1, 0, none⟩))), (3, (Value.int .i64 (List.length d.Accept : Int))), (4, (Value.int .i64 i10)), (6, (Value.int .i64 k10)), (7, (Value.pointer (some ⟨b13, 0, none⟩))), (74, (Value.bool x14))] u ∧ Go.X.Loc [] [] w w' [some b1, some b13] [Cont.cells [d_v, d_v1], Cont.cells [(Value.int .u8 x13.Low), (Value.int .u8 x13.High), (Value.int .i64 x13.To)]] ∧ Keep w.heap.size [some b13, some b1] w14 [some b1, some b13] w' ∧ True) ?_ ?_
       ·
        refine Swp.region rfl (Rl.op (OpY.fieldAddr (q := 0) Tryd.underlying63 rfl ti5 rfl rfl rfl ?_))
        refine Rl.op (OpY.ldBox1 (v := (Value.int .u8 x13.Low)) Tryd.underlying5 rfl rfl (hL14.at 0 rfl rfl) rfl ?_)
        refine Rl.op (OpY.convInt (x := x13.Low) (z := (iw x13.Low)) Tryd.underlying5 Tryd.underlying3 rfl rfl ?_)
        refine Rl.op (OpY.move (v := (Value.int .i64 last10)) rfl ?_)
        refine Rl.op (OpY.leq (x := (iw x13.Low)) (y := last10) (((iw x13.Low) : Int) ≤ last10) rfl rfl Iff.rfl ?_)
        refine Rl.op (OpY.move (v := (Value.bool (decide (((iw x13.Low) : Int) ≤ last10)))) rfl ?_)
        by_cases hc15 : ((iw x13.Low) : Int) ≤ last10
        ·
         replace h := ite_t hc15 h
         refine Rl.no rfl rfl (decide_eq_true hc15) ?_
         refine Rl.no rfl rfl (decide_eq_true hc15) ?_
         refine Rl.no rfl rfl (decide_eq_true hc15) ?_
         refine Rl.no rfl rfl (decide_eq_true hc15) ?_
         refine Rl.no rfl rfl (decide_eq_true hc15) ?_
         refine Rl.op (OpY.pick_t (t := (decide (((iw x13.Low) : Int) ≤ last10))) (v := (Value.bool true)) rfl (decide_eq_true hc15) rfl ?_)
         refine Rl.op (OpY.move (v := (Value.bool true)) rfl ?_)
         refine Rl.no rfl rfl rfl ?_
         refine Rl.no rfl rfl rfl ?_
         refine Rl.no rfl rfl rfl ?_
         refine Rl.op (OpY.pick_t (t := true) (v := (Value.bool true)) rfl rfl rfl ?_)
         refine Rl.op (OpY.move (v := (Value.bool true)) rfl ?_)
         refine Rl.no rfl rfl rfl ?_
         refine Rl.no rfl rfl rfl ?_
         refine Rl.no rfl rfl rfl ?_
         refine Rl.op (OpY.pick_t (t := true) (v := (Value.bool true)) rfl rfl rfl ?_)
         refine Rl.op (OpY.move (v := (Value.bool true)) rfl ?_)
         refine Rl.no rfl rfl rfl ?_
         refine Rl.no rfl rfl rfl ?_
         refine Rl.no rfl rfl rfl ?_
         refine Rl.no rfl rfl rfl ?_
         refine Rl.op (OpY.pick_t (t := true) (v := (Value.bool true)) rfl rfl rfl ?_)
         refine Rl.nil ?_
         have hp10 := hL14.pick [1, 0] rfl rfl rfl
         have hL15 : Go.X.Loc [] [] w w14 [some b1, some b13] [Cont.cells [d_v, d_v1], Cont.cells [(Value.int .u8 x13.Low), (Value.int .u8 x13.High), (Value.int .i64 x13.To)]] := hp10.1
         have K15 := ks w hp10.2
         obtain rfl := Option.some.inj h
         refine Swp.pop_back ?_
         exact ⟨true, _, rfl, (upds_sym ⟨rfl, rfl, rfl, rfl, rfl, rfl, trivial⟩), hL15, K15, trivial⟩
        ·
         replace h := ite_f hc15 h
         refine Rl.yes rfl rfl (decide_eq_false hc15) (OpY.fieldAddr (q := 1) Tryd.underlying63 rfl ti5 rfl rfl rfl ?_)
         refine Rl.yes rfl rfl (decide_eq_false hc15) (OpY.ldBox1 (v := (Value.int .u8 x13.High)) Tryd.underlying5 rfl rfl (hL14.at 0 rfl rfl) rfl ?_)
         refine Rl.yes rfl rfl (decide_eq_false hc15) (OpY.fieldAddr (q := 0) Tryd.underlying63 rfl ti5 rfl rfl rfl ?_)
         refine Rl.yes rfl rfl (decide_eq_false hc15) (OpY.ldBox1 (v := (Value.int .u8 x13.Low)) Tryd.underlying5 rfl rfl (hL14.at 0 rfl rfl) rfl ?_)
         refine Rl.yes rfl rfl (decide_eq_false hc15) (OpY.lss (x := x13.High) (y := x13.Low) ((x13.High : Int) < x13.Low) rfl rfl Iff.rfl ?_)
         refine Rl.op (OpY.pick_f (t := (decide (((iw x13.Low) : Int) ≤ last10))) (v := (Value.bool (decide ((x13.High : Int) < x13.Low)))) rfl (decide_eq_false hc15) rfl ?_)
         refine Rl.op (OpY.move (v := (Value.bool (decide ((x13.High : Int) < x13.Low)))) rfl ?_)
         by_cases hc16 : (x13.High : Int) < x13.Low
         ·
          replace h := ite_t hc16 h
          refine Rl.no rfl rfl (decide_eq_true hc16) ?_
          refine Rl.no rfl rfl (decide_eq_true hc16) ?_
          refine Rl.no rfl rfl (decide_eq_true hc16) ?_
          refine Rl.op (OpY.pick_t (t := (decide ((x13.High : Int) < x13.Low))) (v := (Value.bool true)) rfl (decide_eq_true hc16) rfl ?_)
          refine Rl.op (OpY.move (v := (Value.bool true)) rfl ?_)
          refine Rl.no rfl rfl rfl ?_
          refine Rl.no rfl rfl rfl ?_
          refine Rl.no rfl rfl rfl ?_
          refine Rl.op (OpY.pick_t (t := true) (v := (Value.bool true)) rfl rfl rfl ?_)
          refine Rl.op (OpY.move (v := (Value.bool true)) rfl ?_)
          refine Rl.no rfl rfl rfl ?_
          refine Rl.no rfl rfl rfl ?_
          refine Rl.no rfl rfl rfl ?_
          refine Rl.no rfl rfl rfl ?_
          refine Rl.op (OpY.pick_t (t := true) (v := (Value.bool true)) rfl rfl rfl ?_)
          refine Rl.nil ?_
          have hp11 := hL14.pick [1, 0] rfl rfl rfl
          have hL16 : Go.X.Loc [] [] w w14 [some b1, some b13] [Cont.cells [d_v, d_v1], Cont.cells [(Value.int .u8 x13.Low), (Value.int .u8 x13.High), (Value.int .i64 x13.To)]] := hp11.1
          have K16 := ks w hp11.2
          obtain rfl := Option.some.inj h
          refine Swp.pop_back ?_
          exact ⟨true, _, rfl, (upds_sym ⟨rfl, rfl, rfl, rfl, rfl, rfl, trivial⟩), hL16, K16, trivial⟩
         ·
          replace h := ite_f hc16 h
          refine Rl.yes rfl rfl (decide_eq_false hc16) (OpY.fieldAddr (q := 1) Tryd.underlying63 rfl ti5 rfl rfl rfl ?_)
          refine Rl.yes rfl rfl (decide_eq_false hc16) (OpY.ldBox1 (v := (Value.int .u8 x13.High)) Tryd.underlying5 rfl rfl (hL14.at 0 rfl rfl) rfl ?_)
          refine Rl.yes rfl rfl (decide_eq_false hc16) (OpY.gtr (x := x13.High) (y := 126) ((x13.High : Int) > 126) rfl rfl Iff.rfl ?_)
          refine Rl.op (OpY.pick_f (t := (decide ((x13.High : Int) < x13.Low))) (v := (Value.bool (decide ((x13.High : Int) > 126)))) rfl (decide_eq_false hc16) rfl ?_)
          refine Rl.op (OpY.move (v := (Value.bool (decide ((x13.High : Int) > 126)))) rfl ?_)
          by_cases hc17 : (x13.High : Int) > 126
          ·
           replace h := ite_t hc17 h
           refine Rl.no rfl rfl (decide_eq_true hc17) ?_
           refine Rl.no rfl rfl (decide_eq_true hc17) ?_
           refine Rl.no rfl rfl (decide_eq_true hc17) ?_
           refine Rl.op (OpY.pick_t (t := (decide ((x13.High : Int) > 126))) (v := (Value.bool true)) rfl (decide_eq_true hc17) rfl ?_)
           refine Rl.op (OpY.move (v := (Value.bool true)) rfl ?_)
           refine Rl.no rfl rfl rfl ?_
           refine Rl.no rfl rfl rfl ?_
           refine Rl.no rfl rfl rfl ?_
           refine Rl.no rfl rfl rfl ?_
           refine Rl.op (OpY.pick_t (t := true) (v := (Value.bool true)) rfl rfl rfl ?_)
           refine Rl.nil ?_
           have hp12 := hL14.pick [1, 0] rfl rfl rfl
           have hL17 : Go.X.Loc [] [] w w14 [some b1, some b13] [Cont.cells [d_v, d_v1], Cont.cells [(Value.int .u8 x13.Low), (Value.int .u8 x13.High), (Value.int .i64 x13.To)]] := hp12.1
           have K17 := ks w hp12.2
           obtain rfl := Option.some.inj h
           refine Swp.pop_back ?_
           exact ⟨true, _, rfl, (upds_sym ⟨rfl, rfl, rfl, rfl, rfl, rfl, trivial⟩), hL17, K17, trivial⟩
          ·
           replace h := ite_f hc17 h
           refine Rl.yes rfl rfl (decide_eq_false hc17) (OpY.fieldAddr (q := 2) Tryd.underlying63 rfl ti3 rfl rfl rfl ?_)
           refine Rl.yes rfl rfl (decide_eq_false hc17) (OpY.ldBox1 (v := (Value.int .i64 x13.To)) Tryd.underlying3 rfl rfl (hL14.at 0 rfl rfl) rfl ?_)
           refine Rl.yes rfl rfl (decide_eq_false hc17) (OpY.lss (x := x13.To) (y := 0) ((x13.To : Int) < 0) rfl rfl Iff.rfl ?_)
           refine Rl.op (OpY.pick_f (t := (decide ((x13.High : Int) > 126))) (v := (Value.bool (decide ((x13.To : Int) < 0)))) rfl (decide_eq_false hc17) rfl ?_)
           refine Rl.op (OpY.move (v := (Value.bool (decide ((x13.To : Int) < 0)))) rfl ?_)
           by_cases hc18 : (x13.To : Int) < 0
           ·
            replace h := ite_t hc18 h
            refine Rl.no rfl rfl (decide_eq_true hc18) ?_
            refine Rl.no rfl rfl (decide_eq_true hc18) ?_
            refine Rl.no rfl rfl (decide_eq_true hc18) ?_
            refine Rl.no rfl rfl (decide_eq_true hc18) ?_
            refine Rl.op (OpY.pick_t (t := (decide ((x13.To : Int) < 0))) (v := (Value.bool true)) rfl (decide_eq_true hc18) rfl ?_)
            refine Rl.nil ?_
            have hp13 := hL14.pick [1, 0] rfl rfl rfl
            have hL18 : Go.X.Loc [] [] w w14 [some b1, some b13] [Cont.cells [d_v, d_v1], Cont.cells [(Value.int .u8 x13.Low), (Value.int .u8 x13.High), (Value.int .i64 x13.To)]] := hp13.1
            have K18 := ks w hp13.2
            obtain rfl := Option.some.inj h
            refine Swp.pop_back ?_
            exact ⟨true, _, rfl, (upds_sym ⟨rfl, rfl, rfl, rfl, rfl, rfl, trivial⟩), hL18, K18, trivial⟩
           ·
            replace h := ite_f hc18 h
            refine Rl.yes rfl rfl (decide_eq_false hc18) (OpY.fieldAddr (q := 2) Tryd.underlying63 rfl ti3 rfl rfl rfl ?_)
            refine Rl.yes rfl rfl (decide_eq_false hc18) (OpY.ldBox1 (v := (Value.int .i64 x13.To)) Tryd.underlying3 rfl rfl (hL14.at 0 rfl rfl) rfl ?_)
            refine Rl.yes rfl rfl (decide_eq_false hc18) (OpY.move (v := (Value.int .i64 (List.length d.Accept : Int))) rfl ?_)
            refine Rl.yes rfl rfl (decide_eq_false hc18) (OpY.geq (x := x13.To) (y := (List.length d.Accept : Int)) ((x13.To : Int) ≥ (List.length d.Accept : Int)) rfl rfl Iff.rfl ?_)
            refine Rl.op (OpY.pick_f (t := (decide ((x13.To : Int) < 0))) (v := (Value.bool (decide ((x13.To : Int) ≥ (List.length d.Accept : Int))))) rfl (decide_eq_false hc18) rfl ?_)
            refine Rl.nil ?_
            have hp14 := hL14.pick [1, 0] rfl rfl rfl
            have hL19 : Go.X.Loc [] [] w w14 [some b1, some b13] [Cont.cells [d_v, d_v1], Cont.cells [(Value.int .u8 x13.Low), (Value.int .u8 x13.High), (Value.int .i64 x13.To)]] := hp14.1
            have K19 := ks w hp14.2
            obtain rfl := Option.some.inj h
            refine Swp.pop_back ?_
            exact ⟨(decide ((x13.To : Int) ≥ (List.length d.Accept : Int))), _, rfl, (upds_sym ⟨rfl, rfl, rfl, rfl, rfl, rfl, trivial⟩), hL19, K19, trivial⟩
       ·
        rintro _ w15 ⟨x14, u, rfl, rfl, hL20, K20, -⟩
        replace h := g13
        try dsimp only at h
        refine Swp.cond_b x14 rfl (fun hc19 => ?_) (fun hc19 => ?_)
        ·
         replace h := ite_t hc19 h
         refine Swp.seq (Swp.region rfl (Rl.op (OpY.assign (v := (Value.bool false)) rfl ?_)))
         refine Rl.nil (Swp.ret ?_)
         obtain rfl := Option.some.inj h
         obtain rfl := hd11 _ rfl
         replace h := g12
         try dsimp only at h
         obtain rfl := Option.some.inj h
         obtain rfl := hd10 _ rfl
         replace h := g11
         try dsimp only at h
         obtain rfl := Option.some.inj h
         refine ⟨[(Value.bool false)], ⟨rfl, trivial⟩, ⟨_, rfl, hL20.done, ?_⟩⟩
         exact ⟨rfl, trivial⟩
        ·
         replace h := ite_f hc19 h
         refine Swp.skip (Swp.region rfl (Rl.op (OpY.fieldAddr (q := 1) Tryd.underlying63 rfl ti5 rfl rfl rfl ?_)))
         refine Rl.op (OpY.ldBox1 (v := (Value.int .u8 x13.High)) Tryd.underlying5 rfl rfl (hL20.at 1 rfl rfl) rfl ?_)
         refine Rl.op (OpY.convInt (x := x13.High) (z := (iw x13.High)) Tryd.underlying5 Tryd.underlying3 rfl rfl ?_)
         refine Rl.op (OpY.assign (v := (Value.int .i64 (iw x13.High))) rfl ?_)
         refine Rl.nil (Swp.pop_blk (Swp.region rfl (Rl.op (OpY.move (v := (Value.int .i64 k10)) rfl ?_))))
         refine Rl.op (OpY.add (x := k10) (y := 1) (z := (iw (k10 + 1))) rfl rfl rfl ?_)
         refine Rl.op (OpY.assign (v := (Value.int .i64 (iw (k10 + 1)))) rfl ?_)
         refine Rl.nil ?_
         have hp15 := hL20.pick [0] rfl rfl rfl
         have hL21 : Go.X.Loc [] [] w w15 [some b1] [Cont.cells [d_v, d_v1]] := hp15.1
         have K21 := ks w hp15.2
         obtain rfl := Option.some.inj h
         refine Swp.pop_back ⟨((iw x13.High), (iw (k10 + 1))), rfl, ?_⟩
         exact ⟨_, (upds_sym ⟨rfl, rfl, rfl, rfl, rfl, trivial⟩), hL21, (Keep.trans (Keep.trans (Keep.trans (Keep.trans K12 K13) K14) K20) K21), trivial⟩
      ·
       replace h := ite_f hc14 h
       refine Swp.exit rfl ?_
       obtain rfl := Option.some.inj h
       obtain rfl := hd11 _ rfl
       replace h := g12
       try dsimp only at h
       skip
       refine Swp.pop_back ?_
       exact ⟨_, rfl, (upds_sym ⟨rfl, rfl, rfl, trivial⟩), hL12, K12, trivial⟩
     ·
      rintro _ w16 ⟨u, rfl, rfl, hL22, K22, -⟩
      replace h := g12
      try dsimp only at h
      refine Swp.pop_blk (Swp.region rfl (Rl.op (OpY.move (v := (Value.int .i64 i10)) rfl ?_)))
      refine Rl.op (OpY.add (x := i10) (y := 1) (z := (iw (i10 + 1))) rfl rfl rfl ?_)
      refine Rl.op (OpY.assign (v := (Value.int .i64 (iw (i10 + 1)))) rfl ?_)
      refine Rl.nil ?_
      obtain rfl := Option.some.inj h
      refine Swp.pop_back ⟨(iw (i10 + 1)), rfl, ?_⟩
      exact ⟨_, (upds_sym ⟨rfl, rfl, rfl, trivial⟩), hL22, (Keep.trans K11 K22), trivial⟩
    ·
     replace h := ite_f hc13 h
     refine Swp.exit rfl ?_
     have hp16 := hL11.pick [] rfl rfl rfl
     have hL23 : Go.X.Loc [] [] w w11 [] [] := hp16.1
     have K23 := ks w hp16.2
     obtain rfl := Option.some.inj h
     obtain rfl := hd10 _ rfl
     replace h := g11
     try dsimp only at h
     skip
     refine Swp.pop_back ?_
     exact ⟨_, rfl, (upds_sym trivial), hL23, (Keep.trans K11 K23), trivial⟩
   ·
    rintro _ w17 ⟨u, rfl, rfl, hL24, K24, -⟩
    replace h := g11
    try dsimp only at h
    refine Swp.seq (Swp.region rfl (Rl.op (OpY.assign (v := (Value.bool true)) rfl ?_)))
    refine Rl.nil (Swp.ret ?_)
    obtain rfl := Option.some.inj h
    refine ⟨[(Value.bool true)], ⟨rfl, trivial⟩, ⟨_, rfl, hL24.done, ?_⟩⟩
    exact ⟨rfl, trivial⟩
theorem rStep_w (N : Nat) (d : ADfa) (state : Int) (c : Int) (d_v : Value) (d_v1 : Value) (w : World) (S : Nat → Prop) (d_h : Rs rBool (Hv w.heap.size S [] w) d_v d.Accept) (d_h1 : Rs (rSl rAEdge) (Hv w.heap.size S [] w) d_v1 d.Edges) (r : Int) (h : rStep N d state c = some r) :
  Calls Tryd.prog 52 #[(Value.agg #[d_v, d_v1]), (Value.int .i64 state), (Value.int .u8 c)] w (Ret w (fun v w' => (Value.int .i64 r) = v ∧ True)) := by
 unfold rStep at h
 have hL : Go.X.Loc [] [] w w [] [] := Go.X.Loc.begin0 w
 refine calls_of (l := [(Value.agg #[d_v, d_v1]), (Value.int .i64 state), (Value.int .u8 c)]) (rl := [.tmp 6]) (n := 41) Tryd.func52 rfl rfl rfl (Nat.le_of_ble_eq_true rfl) ?_
 refine Swp.seq (Swp.region rfl (Rl.op (OpY.box (cs := [d_v, d_v1]) rfl rfl hL ?_)))
 intro b1 w2 hL3 hS5
 have K4 := ks w hS5
 refine Rl.op (OpY.assign (v := (Value.int .i64 0)) rfl ?_)
 refine Rl.nil (Swp.seq (Swp.seq (Swp.region rfl (Rl.op (OpY.move (v := (Value.int .i64 state)) rfl ?_)))))
 refine Rl.op (OpY.lss (x := state) (y := 0) ((state : Int) < 0) rfl rfl Iff.rfl ?_)
 refine Rl.nil ?_
 refine Swp.cond_d ((state : Int) < 0) rfl (fun hc6 => ?_) (fun hc6 => ?_)
 ·
  replace h := ite_t hc6 h
  refine Swp.seq (Swp.region rfl (Rl.op (OpY.assign (v := (Value.int .i64 (-1))) rfl ?_)))
  refine Rl.nil (Swp.ret ?_)
  obtain rfl := Option.some.inj h
  refine ⟨[(Value.int .i64 (-1))], ⟨rfl, trivial⟩, ⟨_, rfl, hL3.done, ?_⟩⟩
  exact ⟨rfl, trivial⟩
 ·
  replace h := ite_f hc6 h
  refine Swp.skip (Swp.seq (Swp.seq (Swp.region rfl (Rl.op (OpY.assign (v := (Value.int .i64 0)) rfl ?_)))))
  refine Rl.nil ?_
  obtain ⟨s10, hl10, g10⟩ := bind_some h
  refine Swp.join (fun e w' => ∃  (u : Env), (Sum.inl ()) = s10 ∧ e = upds [] u ∧ Go.X.Loc [] [] w w' [] [] ∧ Keep w.heap.size [some b1] w2 [] w' ∧ True) ?_ ?_
  ·
   refine Swp.block ?_
   refine Swp.loopM hl10 (fun (ss : Int) (e : Env) (w' : World) => match ss with | k10 => ∃ (u : Env), e = upds [(1, (Value.int .i64 state)), (2, (Value.int .u8 c)), (3, (Value.pointer (some ⟨b1, 0, none⟩))), (7, (Value.int .i64 k10))] u ∧ Go.X.Loc [] [] w w' [some b1] [Cont.cells [d_v, d_v1]] ∧ Keep w.heap.size [some b1] w2 [some b1] w' ∧ True) ⟨_, (upds_sym ⟨rfl, rfl, rfl, rfl, trivial⟩), hL3, Keep.refl, trivial⟩ ?_
   rintro k10 oo _ w10 ⟨u, rfl, hL10, K10, -⟩ h hd10
   rw [rStep_b1] at h
   refine Swp.seq (Swp.seq (Swp.region rfl (Rl.op (OpY.move (v := (Value.int .i64 k10)) rfl ?_))))
   refine Rl.op (OpY.fieldAddr (q := 1) Tryd.underlying25 rfl ti23 rfl rfl rfl ?_)
   refine Rl.op (OpY.ldBox1 (v := d_v1) Tryd.underlying23 rfl rfl (hL10.at 0 rfl rfl) rfl ?_)
   refine Rl.op (OpY.move (v := (Value.int .i64 state)) rfl ?_)
   obtain ⟨x10, q10, h⟩ := bind_some h
   obtain ⟨n10, q11, q12⟩ := idx_some q10
   have f10 := ((d_h1.mono (K4 S)).mono (K10 S))
   obtain ⟨b10, o10, c10, vs10, q13, q14, f11, q15⟩ := Rs.get f10 q12
   obtain ⟨v10, rfl, k11⟩ := q15
   refine Rl.op (OpY.ixRoD (r := (rSl rAEdge)) (v := d_v1) (n := n10) (m := (o10 + n10 * (rSl rAEdge).sz)) Tryd.underlying23 ti39 rfl q13 rfl q11 q12 rfl ?_)
   refine Rl.op (OpY.ldRo1 (v := v10) Tryd.underlying39 rfl rfl vw_view f11 ?_)
   refine Rl.op (OpY.lenRo (v := v10) Tryd.underlying39 rfl k11 ?_)
   refine Rl.op (OpY.lss (x := k10) (y := (List.length x10 : Int)) ((k10 : Int) < (List.length x10 : Int)) rfl rfl Iff.rfl ?_)
   refine Rl.nil ?_
   refine Swp.cond_d ((k10 : Int) < (List.length x10 : Int)) rfl (fun hc10 => ?_) (fun hc10 => ?_)
   ·
    replace h := ite_t hc10 h
    refine Swp.skip (Swp.seq (Swp.block (Swp.seq (Swp.region rfl (Rl.op (OpY.fieldAddr (q := 1) Tryd.underlying25 rfl ti23 rfl rfl rfl ?_))))))
    refine Rl.op (OpY.ldBox1 (v := d_v1) Tryd.underlying23 rfl rfl (hL10.at 0 rfl rfl) rfl ?_)
    refine Rl.op (OpY.move (v := (Value.int .i64 state)) rfl ?_)
    obtain ⟨x11, q16, h⟩ := bind_some h
    obtain ⟨n11, q17, q18⟩ := idx_some q16
    obtain ⟨b11, o11, c11, vs11, q19, q20, f12, q21⟩ := Rs.get f10 q18
    obtain ⟨v11, rfl, k12⟩ := q21
    refine Rl.op (OpY.ixRoD (r := (rSl rAEdge)) (v := d_v1) (n := n11) (m := (o11 + n11 * (rSl rAEdge).sz)) Tryd.underlying23 ti39 rfl q19 rfl q17 q18 rfl ?_)
    refine Rl.op (OpY.ldRo1 (v := v11) Tryd.underlying39 rfl rfl vw_view f12 ?_)
    refine Rl.op (OpY.move (v := (Value.int .i64 k10)) rfl ?_)
    obtain ⟨x12, q22, h⟩ := bind_some h
    obtain ⟨n12, q23, q24⟩ := idx_some q22
    obtain ⟨b12, o12, c12, vs12, q25, q26, f13, q27⟩ := Rs.get k12 q24
    obtain ⟨rfl, -⟩ := rAEdge_open q27
    refine Rl.op (OpY.ixRoD (r := rAEdge) (v := v11) (n := n12) (m := (o12 + n12 * rAEdge.sz)) Tryd.underlying39 ti63 rfl q25 rfl q23 q24 rfl ?_)
    refine Rl.op (OpY.ldRoA (vs := [(Value.int .u8 x12.Low), (Value.int .u8 x12.High), (Value.int .i64 x12.To)]) Tryd.underlying63 rfl ti63 rfl rfl vw_view f13 ?_)
    refine Rl.op (OpY.alloc (cs := [(Value.int .u8 0), (Value.int .u8 0), (Value.int .i64 0)]) ti63 rfl hL10 ?_)
    intro b13 w11 hL11 hS10
    have K11 := ks w hS10
    refine Rl.op0 (OpY.store (vs := [(Value.int .u8 x12.Low), (Value.int .u8 x12.High), (Value.int .i64 x12.To)]) ti63 rfl rfl rfl rfl (ones_cons rfl (ones_cons rfl (ones_cons rfl ones_nil))) hL11 0 rfl rfl (Nat.le_of_ble_eq_true rfl) ?_)
    intro w12 (hL12 : Go.X.Loc [] [] w w12 [some b13, some b1] [Cont.cells [(Value.int .u8 x12.Low), (Value.int .u8 x12.High), (Value.int .i64 x12.To)], Cont.cells [d_v, d_v1]]) hS11
    have K12 := ks w hS11
    refine Rl.nil (Swp.seq ?_)
    obtain ⟨s11, h, g11⟩ := bind_some h
    refine Swp.join (fun e w' => ∃ (x13 : Bool) (u : Env), x13 = s11 ∧ e = upds [(1, (Value.int .i64 state)), (2, (Value.int .u8 c)), (3, (Value.pointer (some ⟨b1, 0, none⟩))), (7, (Value.int .i64 k10)), (8, (Value.pointer (some ⟨b13, 0, none⟩))), (38, (Value.bool x13))] u ∧ Go.X.Loc [] [] w w' [some b1, some b13] [Cont.cells [d_v, d_v1], Cont.cells [(Value.int .u8 x12.Low), (Value.int .u8 x12.High), (Value.int .i64 x12.To)]] ∧ Keep w.heap.size [some b13, some b1] w12 [some b1, some b13] w' ∧ True) ?_ ?_
    ·
     refine Swp.region rfl (Rl.op (OpY.fieldAddr (q := 0) Tryd.underlying63 rfl ti5 rfl rfl rfl ?_))
     refine Rl.op (OpY.ldBox1 (v := (Value.int .u8 x12.Low)) Tryd.underlying5 rfl rfl (hL12.at 0 rfl rfl) rfl ?_)
     refine Rl.op (OpY.move (v := (Value.int .u8 c)) rfl ?_)
     refine Rl.op (OpY.leq (x := x12.Low) (y := c) ((x12.Low : Int) ≤ c) rfl rfl Iff.rfl ?_)
     refine Rl.op (OpY.move (v := (Value.bool (decide ((x12.Low : Int) ≤ c)))) rfl ?_)
     by_cases hc11 : (x12.Low : Int) ≤ c
     ·
      replace h := ite_t hc11 h
      refine Rl.yes rfl rfl (decide_eq_true hc11) (OpY.move (v := (Value.int .u8 c)) rfl ?_)
      refine Rl.yes rfl rfl (decide_eq_true hc11) (OpY.fieldAddr (q := 1) Tryd.underlying63 rfl ti5 rfl rfl rfl ?_)
      refine Rl.yes rfl rfl (decide_eq_true hc11) (OpY.ldBox1 (v := (Value.int .u8 x12.High)) Tryd.underlying5 rfl rfl (hL12.at 0 rfl rfl) rfl ?_)
      refine Rl.yes rfl rfl (decide_eq_true hc11) (OpY.leq (x := c) (y := x12.High) ((c : Int) ≤ x12.High) rfl rfl Iff.rfl ?_)
      refine Rl.op (OpY.pick_t (t := (decide ((x12.Low : Int) ≤ c))) (v := (Value.bool (decide ((c : Int) ≤ x12.High)))) rfl (decide_eq_true hc11) rfl ?_)
      refine Rl.nil ?_
      have hp10 := hL12.pick [1, 0] rfl rfl rfl
      have hL13 : Go.X.Loc [] [] w w12 [some b1, some b13] [Cont.cells [d_v, d_v1], Cont.cells [(Value.int .u8 x12.Low), (Value.int .u8 x12.High), (Value.int .i64 x12.To)]] := hp10.1
      have K13 := ks w hp10.2
      obtain rfl := Option.some.inj h
      refine Swp.pop_back ?_
      exact ⟨(decide ((c : Int) ≤ x12.High)), _, rfl, (upds_sym ⟨rfl, rfl, rfl, rfl, rfl, rfl, trivial⟩), hL13, K13, trivial⟩
     ·
      replace h := ite_f hc11 h
      refine Rl.no rfl rfl (decide_eq_false hc11) ?_
      refine Rl.no rfl rfl (decide_eq_false hc11) ?_
      refine Rl.no rfl rfl (decide_eq_false hc11) ?_
      refine Rl.no rfl rfl (decide_eq_false hc11) ?_
      refine Rl.op (OpY.pick_f (t := (decide ((x12.Low : Int) ≤ c))) (v := (Value.bool false)) rfl (decide_eq_false hc11) rfl ?_)
      refine Rl.nil ?_
      have hp11 := hL12.pick [1, 0] rfl rfl rfl
      have hL14 : Go.X.Loc [] [] w w12 [some b1, some b13] [Cont.cells [d_v, d_v1], Cont.cells [(Value.int .u8 x12.Low), (Value.int .u8 x12.High), (Value.int .i64 x12.To)]] := hp11.1
      have K14 := ks w hp11.2
      obtain rfl := Option.some.inj h
      refine Swp.pop_back ?_
      exact ⟨false, _, rfl, (upds_sym ⟨rfl, rfl, rfl, rfl, rfl, rfl, trivial⟩), hL14, K14, trivial⟩
    ·
     rintro _ w13 ⟨x13, u, rfl, rfl, hL15, K15, -⟩
     replace h := g11
     try dsimp only at h
     refine Swp.cond_b x13 rfl (fun hc12 => ?_) (fun hc12 => ?_)
     ·
      replace h := ite_t hc12 h
      refine Swp.seq (Swp.region rfl (Rl.op (OpY.fieldAddr (q := 2) Tryd.underlying63 rfl ti3 rfl rfl rfl ?_)))
      refine Rl.op (OpY.ldBox1 (v := (Value.int .i64 x12.To)) Tryd.underlying3 rfl rfl (hL15.at 1 rfl rfl) rfl ?_)
      refine Rl.op (OpY.assign (v := (Value.int .i64 x12.To)) rfl ?_)
      refine Rl.nil (Swp.ret ?_)
      obtain rfl := Option.some.inj h
      obtain rfl := hd10 _ rfl
      replace h := g10
      try dsimp only at h
      obtain rfl := Option.some.inj h
      refine ⟨[(Value.int .i64 x12.To)], ⟨rfl, trivial⟩, ⟨_, rfl, hL15.done, ?_⟩⟩
      exact ⟨rfl, trivial⟩
     ·
      replace h := ite_f hc12 h
      refine Swp.skip (Swp.pop_blk (Swp.region rfl (Rl.op (OpY.move (v := (Value.int .i64 k10)) rfl ?_))))
      refine Rl.op (OpY.add (x := k10) (y := 1) (z := (iw (k10 + 1))) rfl rfl rfl ?_)
      refine Rl.op (OpY.assign (v := (Value.int .i64 (iw (k10 + 1)))) rfl ?_)
      refine Rl.nil ?_
      have hp12 := hL15.pick [0] rfl rfl rfl
      have hL16 : Go.X.Loc [] [] w w13 [some b1] [Cont.cells [d_v, d_v1]] := hp12.1
      have K16 := ks w hp12.2
      obtain rfl := Option.some.inj h
      refine Swp.pop_back ⟨(iw (k10 + 1)), rfl, ?_⟩
      exact ⟨_, (upds_sym ⟨rfl, rfl, rfl, rfl, trivial⟩), hL16, (Keep.trans (Keep.trans (Keep.trans (Keep.trans K10 K11) K12) K15) K16), trivial⟩
   ·
    replace h := ite_f hc10 h
    refine Swp.exit rfl ?_
    have hp13 := hL10.pick [] rfl rfl rfl
    have hL17 : Go.X.Loc [] [] w w10 [] [] := hp13.1
    have K17 := ks w hp13.2
    obtain rfl := Option.some.inj h
    obtain rfl := hd10 _ rfl
    replace h := g10
    try dsimp only at h
    skip
    refine Swp.pop_back ?_
    exact ⟨_, rfl, (upds_sym trivial), hL17, (Keep.trans K10 K17), trivial⟩
  ·
   rintro _ w14 ⟨u, rfl, rfl, hL18, K18, -⟩
   replace h := g10
   try dsimp only at h
   refine Swp.seq (Swp.region rfl (Rl.op (OpY.assign (v := (Value.int .i64 (-1))) rfl ?_)))
   refine Rl.nil (Swp.ret ?_)
   obtain rfl := Option.some.inj h
   refine ⟨[(Value.int .i64 (-1))], ⟨rfl, trivial⟩, ⟨_, rfl, hL18.done, ?_⟩⟩
   exact ⟨rfl, trivial⟩
theorem rCan_w (N : Nat) (d : ADfa) (state : Int) (length : Int) (d_v : Value) (d_v1 : Value) (w : World) (S : Nat → Prop) (d_h : Rs rBool (Hv w.heap.size S [] w) d_v d.Accept) (d_h1 : Rs (rSl rAEdge) (Hv w.heap.size S [] w) d_v1 d.Edges) (r : Bool) (h : rCan N d state length = some r) :
  Calls Tryd.prog 34 #[(Value.agg #[d_v, d_v1]), (Value.int .i64 state), (Value.int .i64 length)] w (Ret w (fun v w' => (Value.bool r) = v ∧ True)) := by
 unfold rCan at h
 have hL : Go.X.Loc [] [] w w [] [] := Go.X.Loc.begin0 w
 refine calls_of (l := [(Value.agg #[d_v, d_v1]), (Value.int .i64 state), (Value.int .i64 length)]) (rl := [.tmp 6]) (n := 78) Tryd.func34 rfl rfl rfl (Nat.le_of_ble_eq_true rfl) ?_
 refine Swp.seq (Swp.region rfl (Rl.op (OpY.box (cs := [d_v, d_v1]) rfl rfl hL ?_)))
 intro b1 w2 hL3 hS5
 have K4 := ks w hS5
 refine Rl.op (OpY.assign (v := (Value.bool false)) rfl ?_)
 refine Rl.nil (Swp.seq (Swp.region rfl (Rl.op (OpY.fieldAddr (q := 0) Tryd.underlying25 rfl ti22 rfl rfl rfl ?_))))
 refine Rl.op (OpY.ldBox1 (v := d_v) Tryd.underlying22 rfl rfl (hL3.at 0 rfl rfl) rfl ?_)
 have f6 := (d_h.mono (K4 S))
 refine Rl.op (OpY.lenRo (v := d_v) Tryd.underlying22 rfl f6 ?_)
 obtain ⟨x8, q9, h⟩ := bind_some h
 obtain ⟨m7, q10, q11, q12, q13⟩ := mk1_some q9
 refine Rl.op (OpY.mkRowX (r := rBool) (H := (Hv w.heap.size None [some b1] w2)) (zc := [(Value.bool false)]) (x := false) Tryd.underlying22 ti4 rfl rfl rfl rfl q10 q11 q12 q13 hL3 ?_)
 intro b10 w10 cs10 hE10 hc10 hL10 hS10
 have K10 := ks w hS10
 refine Rl.op (OpY.assign (v := (osv (some b10) 0 (List.length x8) m7)) rfl ?_)
 refine Rl.nil (Swp.seq (Swp.region rfl (Rl.op (OpY.move (v := (osv (some b10) 0 (List.length x8) m7)) rfl ?_))))
 refine Rl.op (OpY.move (v := (Value.int .i64 state)) rfl ?_)
 obtain ⟨x10, q14, h⟩ := bind_some h
 obtain ⟨n10, q15, q16⟩ := idx_some q14
 have q17 := (List.getElem?_eq_some_iff.1 q16).1
 refine Rl.op (OpY.ixRowD (r := rBool) (b := b10) (o := 0) (n := n10) (m := (List.length x8)) (xs := x8) (q := (0 + n10 * rBool.sz)) Tryd.underlying22 ti4 rfl rfl rfl q15 q17 rfl ?_)
 obtain ⟨x11, q18, h⟩ := bind_some h
 obtain ⟨n11, q19, q20, q21⟩ := upd1_some q18
 obtain rfl := Int.ofNat_inj.1 (q15.symm.trans q19)
 have f10 := (hE10.mono (K10 None))
 refine Rl.op0 (OpY.stRowX (pre := []) (r := rBool) (vs := [(Value.bool true)]) (a := true) ti4 rfl rfl rfl rfl hL10 0 rfl rfl f10 q17 rfl q21 ?_)
 have hl10 : (List.length x8) = List.length x11 := by rw [q21, List.length_set]
 intro w11 cs11 (hL11 : Go.X.Loc [] [] w w11 [some b10, some b1] [Cont.cells ([] ++ (cs11 ++ [])), Cont.cells [d_v, d_v1]]) hS11 hE11 q22
 have hc11 : (cs11 ++ []).length = m7 * rBool.sz := by have := hc10; rw [List.length_append] at this ⊢; rw [q22]; exact this
 have K11 := ks w hS11
 refine Rl.nil (Swp.seq ?_)
 obtain ⟨s10, hl11, g10⟩ := bind_some h
 refine Swp.join (fun e w' => ∃ (x12 : (List Bool)) (ob10 : Option Nat) (cap10 : Nat) (cs12 : List Value) (ln10 : Nat) (u : Env), x12 = s10 ∧ e = upds [(3, (Value.pointer (some ⟨b1, 0, none⟩))), (7, (osv ob10 0 ln10 cap10))] u ∧ Go.X.Loc [] [] w w' [some b1, ob10] [Cont.cells [d_v, d_v1], Cont.cells ([] ++ (cs12 ++ []))] ∧ Keep w.heap.size [some b10, some b1] w11 [some b1, ob10] w' ∧ Els rBool (Hv w.heap.size None [some b1, ob10] w') cs12 x12 ∧ ln10 = List.length x12 ∧ (cs12 ++ []).length = cap10 * rBool.sz ∧ True) ?_ ?_
 ·
  refine Swp.block ?_
  have hp10 := hL11.pick [1, 0] rfl rfl rfl
  have hL12 : Go.X.Loc [] [] w w11 [some b1, some b10] [Cont.cells [d_v, d_v1], Cont.cells ([] ++ (cs11 ++ []))] := hp10.1
  have K12 := ks w hp10.2
  have f11 := ((hE11.mono (K11 None)).mono (K12 None))
  refine Swp.loopM hl11 (fun (ss : (Int × (List Bool))) (e : Env) (w' : World) => match ss with | (length10, x13) => ∃ (ob11 : Option Nat) (cap11 : Nat) (cs13 : List Value) (ln11 : Nat) (u : Env), e = upds [(2, (Value.int .i64 length10)), (3, (Value.pointer (some ⟨b1, 0, none⟩))), (7, (osv ob11 0 ln11 cap11))] u ∧ Go.X.Loc [] [] w w' [some b1, ob11] [Cont.cells [d_v, d_v1], Cont.cells ([] ++ (cs13 ++ []))] ∧ Keep w.heap.size [some b10, some b1] w11 [some b1, ob11] w' ∧ Els rBool (Hv w.heap.size None [some b1, ob11] w') cs13 x13 ∧ ln11 = List.length x13 ∧ (cs13 ++ []).length = cap11 * rBool.sz ∧ True) ⟨some b10, m7, cs11, (List.length x8), _, (upds_sym ⟨rfl, rfl, rfl, trivial⟩), hL12, K12, f11, hl10, hc11, trivial⟩ ?_
  rintro ⟨length10, x13⟩ oo _ w12 ⟨ob11, cap11, cs13, ln11, u, rfl, hL13, K13, hE12, rfl, hc12, -⟩ h hd10
  rw [rCan_b1] at h
  refine Swp.seq (Swp.seq (Swp.region rfl (Rl.op (OpY.move (v := (Value.int .i64 length10)) rfl ?_))))
  refine Rl.op (OpY.gtr (x := length10) (y := 0) ((length10 : Int) > 0) rfl rfl Iff.rfl ?_)
  refine Rl.nil ?_
  refine Swp.cond_d ((length10 : Int) > 0) rfl (fun hc13 => ?_) (fun hc13 => ?_)
  ·
   replace h := ite_t hc13 h
   refine Swp.skip (Swp.seq (Swp.block (Swp.seq (Swp.region rfl (Rl.op (OpY.fieldAddr (q := 0) Tryd.underlying25 rfl ti22 rfl rfl rfl ?_))))))
   refine Rl.op (OpY.ldBox1 (v := d_v) Tryd.underlying22 rfl rfl (hL13.at 0 rfl rfl) rfl ?_)
   have f12 := (((f6.mono (K10 S)).mono (K11 S)).mono (K13 S))
   refine Rl.op (OpY.lenRo (v := d_v) Tryd.underlying22 rfl f12 ?_)
   obtain ⟨x14, q23, h⟩ := bind_some h
   obtain ⟨m10, q24, q25, q26, q27⟩ := mk1_some q23
   refine Rl.op (OpY.mkRowX (r := rBool) (H := (Hv w.heap.size None [some b1, ob11] w12)) (zc := [(Value.bool false)]) (x := false) Tryd.underlying22 ti4 rfl rfl rfl rfl q24 q25 q26 q27 hL13 ?_)
   intro b11 w13 cs14 hE13 hc14 hL14 hS12
   have K14 := ks w hS12
   refine Rl.op (OpY.assign (v := (osv (some b11) 0 (List.length x14) m10)) rfl ?_)
   refine Rl.nil (Swp.seq (Swp.seq (Swp.region rfl (Rl.op (OpY.assign (v := (Value.int .i64 0)) rfl ?_)))))
   refine Rl.nil ?_
   obtain ⟨s11, hl12, g11⟩ := bind_some h
   refine Swp.join (fun e w' => ∃ (next10 : (List Bool)) (cs15 : List Value) (u : Env), next10 = s11 ∧ e = upds [(2, (Value.int .i64 length10)), (3, (Value.pointer (some ⟨b1, 0, none⟩))), (8, (osv (some b11) 0 (List.length x14) m10))] u ∧ Go.X.Loc [] [] w w' [some b1, some b11] [Cont.cells [d_v, d_v1], Cont.cells ([] ++ (cs15 ++ []))] ∧ Keep w.heap.size [some b11, some b1, ob11] w13 [some b1, some b11] w' ∧ Els rBool (Hv w.heap.size None [some b1, some b11] w') cs15 next10 ∧ (List.length x14) = List.length next10 ∧ (cs15 ++ []).length = m10 * rBool.sz ∧ True) ?_ ?_
   ·
    refine Swp.block ?_
    have hp11 := hL14.pick [1, 2, 0] rfl rfl rfl
    have hL15 : Go.X.Loc [] [] w w13 [some b1, ob11, some b11] [Cont.cells [d_v, d_v1], Cont.cells ([] ++ (cs13 ++ [])), Cont.cells ([] ++ (cs14 ++ []))] := hp11.1
    have K15 := ks w hp11.2
    have f13 := ((hE13.mono (K14 None)).mono (K15 None))
    refine Swp.loopM hl12 (fun (ss : ((List Bool) × Int)) (e : Env) (w' : World) => match ss with | (next11, i10) => ∃ (cs16 : List Value) (u : Env), e = upds [(2, (Value.int .i64 length10)), (3, (Value.pointer (some ⟨b1, 0, none⟩))), (7, (osv ob11 0 (List.length x13) cap11)), (8, (osv (some b11) 0 (List.length x14) m10)), (9, (Value.int .i64 i10))] u ∧ Go.X.Loc [] [] w w' [some b1, ob11, some b11] [Cont.cells [d_v, d_v1], Cont.cells ([] ++ (cs13 ++ [])), Cont.cells ([] ++ (cs16 ++ []))] ∧ Keep w.heap.size [some b11, some b1, ob11] w13 [some b1, ob11, some b11] w' ∧ Els rBool (Hv w.heap.size None [some b1, ob11, some b11] w') cs16 next11 ∧ (List.length x14) = List.length next11 ∧ (cs16 ++ []).length = m10 * rBool.sz ∧ True) ⟨cs14, _, (upds_sym ⟨rfl, rfl, rfl, rfl, rfl, trivial⟩), hL15, K15, f13, rfl, hc14, trivial⟩ ?_
    rintro ⟨next11, i10⟩ oo _ w14 ⟨cs16, u, rfl, hL16, K16, hE14, hl13, hc15, -⟩ h hd11
    rw [rCan_b2] at h
    refine Swp.seq (Swp.seq (Swp.region rfl (Rl.op (OpY.move (v := (Value.int .i64 i10)) rfl ?_))))
    refine Rl.op (OpY.move (v := (osv ob11 0 (List.length x13) cap11)) rfl ?_)
    have f14 := ((hE12.mono (K14 None)).mono (K16 None))
    refine Rl.op (OpY.lenRow (pre := []) (r := rBool) (xs := x13) Tryd.underlying22 rfl (hL16.at 1 rfl rfl) f14 rfl rfl ?_)
    refine Rl.op (OpY.lss (x := i10) (y := (List.length x13 : Int)) ((i10 : Int) < (List.length x13 : Int)) rfl rfl Iff.rfl ?_)
    refine Rl.nil ?_
    refine Swp.cond_d ((i10 : Int) < (List.length x13 : Int)) rfl (fun hc16 => ?_) (fun hc16 => ?_)
    ·
     replace h := ite_t hc16 h
     refine Swp.skip (Swp.seq (Swp.block (Swp.seq (Swp.region rfl (Rl.op (OpY.assign (v := (Value.int .i64 0)) rfl ?_))))))
     refine Rl.nil ?_
     obtain ⟨s12, hl14, g12⟩ := bind_some h
     refine Swp.join (fun e w' => ∃ (next12 : (List Bool)) (cs17 : List Value) (u : Env), next12 = s12 ∧ e = upds [(2, (Value.int .i64 length10)), (3, (Value.pointer (some ⟨b1, 0, none⟩))), (7, (osv ob11 0 (List.length x13) cap11)), (8, (osv (some b11) 0 (List.length x14) m10)), (9, (Value.int .i64 i10))] u ∧ Go.X.Loc [] [] w w' [some b1, ob11, some b11] [Cont.cells [d_v, d_v1], Cont.cells ([] ++ (cs13 ++ [])), Cont.cells ([] ++ (cs17 ++ []))] ∧ Keep w.heap.size [some b1, ob11, some b11] w14 [some b1, ob11, some b11] w' ∧ Els rBool (Hv w.heap.size None [some b1, ob11, some b11] w') cs17 next12 ∧ (List.length x14) = List.length next12 ∧ (cs17 ++ []).length = m10 * rBool.sz ∧ True) ?_ ?_
     ·
      refine Swp.block ?_
      refine Swp.loopM hl14 (fun (ss : ((List Bool) × Int)) (e : Env) (w' : World) => match ss with | (next13, k10) => ∃ (cs18 : List Value) (u : Env), e = upds [(2, (Value.int .i64 length10)), (3, (Value.pointer (some ⟨b1, 0, none⟩))), (7, (osv ob11 0 (List.length x13) cap11)), (8, (osv (some b11) 0 (List.length x14) m10)), (9, (Value.int .i64 i10)), (10, (Value.int .i64 k10))] u ∧ Go.X.Loc [] [] w w' [some b1, ob11, some b11] [Cont.cells [d_v, d_v1], Cont.cells ([] ++ (cs13 ++ [])), Cont.cells ([] ++ (cs18 ++ []))] ∧ Keep w.heap.size [some b1, ob11, some b11] w14 [some b1, ob11, some b11] w' ∧ Els rBool (Hv w.heap.size None [some b1, ob11, some b11] w') cs18 next13 ∧ (List.length x14) = List.length next13 ∧ (cs18 ++ []).length = m10 * rBool.sz ∧ True) ⟨cs16, _, (upds_sym ⟨rfl, rfl, rfl, rfl, rfl, rfl, trivial⟩), hL16, Keep.refl, hE14, hl13, hc15, trivial⟩ ?_
      rintro ⟨next13, k10⟩ oo _ w15 ⟨cs18, u, rfl, hL17, K17, hE15, hl15, hc17, -⟩ h hd12
      rw [rCan_b3] at h
      refine Swp.seq (Swp.seq ?_)
      obtain ⟨s13, h, g13⟩ := bind_some h
      refine Swp.join (fun e w' => ∃ (x15 : Bool) (u : Env), x15 = s13 ∧ e = upds [(2, (Value.int .i64 length10)), (3, (Value.pointer (some ⟨b1, 0, none⟩))), (7, (osv ob11 0 (List.length x13) cap11)), (8, (osv (some b11) 0 (List.length x14) m10)), (9, (Value.int .i64 i10)), (10, (Value.int .i64 k10)), (46, (Value.bool x15))] u ∧ Go.X.Loc [] [] w w' [some b1, ob11, some b11] [Cont.cells [d_v, d_v1], Cont.cells ([] ++ (cs13 ++ [])), Cont.cells ([] ++ (cs18 ++ []))] ∧ Keep w.heap.size [some b1, ob11, some b11] w15 [some b1, ob11, some b11] w' ∧ True) ?_ ?_
      ·
       refine Swp.region rfl (Rl.op (OpY.move (v := (osv ob11 0 (List.length x13) cap11)) rfl ?_))
       refine Rl.op (OpY.move (v := (Value.int .i64 i10)) rfl ?_)
       obtain ⟨x16, q28, h⟩ := bind_some h
       obtain ⟨n12, q29, q30⟩ := idx_some q28
       have q31 := (List.getElem?_eq_some_iff.1 q30).1
       have f15 := (f14.mono (K17 None))
       obtain ⟨b12, hb10⟩ := hL17.row_some 1 rfl rfl (row_pos (pre := []) f15 q30 (Nat.lt_of_sub_eq_succ rfl))
       refine Rl.op (OpY.ixRowD (r := rBool) (b := b12) (o := 0) (n := n12) (m := (List.length x13)) (xs := x13) (q := (0 + n12 * rBool.sz)) Tryd.underlying22 ti4 (osv_some hb10) rfl rfl q29 q31 rfl ?_)
       obtain ⟨vs10, q32, q33, q34⟩ := row_elem (pre := []) (sp := []) f15 q30
       obtain rfl := q33
       refine Rl.op (OpY.ldElem1 (v := (Value.bool x16)) Tryd.underlying4 rfl rfl (own_some hb10 (hL17.at 1 rfl rfl)) q34 ?_)
       refine Rl.op (OpY.move (v := (Value.bool x16)) rfl ?_)
       by_cases hc18 : x16 = true
       ·
        replace h := ite_t hc18 h
        refine Rl.yes rfl rfl hc18 (OpY.move (v := (Value.int .i64 k10)) rfl ?_)
        refine Rl.yes rfl rfl hc18 (OpY.fieldAddr (q := 1) Tryd.underlying25 rfl ti23 rfl rfl rfl ?_)
        refine Rl.yes rfl rfl hc18 (OpY.ldBox1 (v := d_v1) Tryd.underlying23 rfl rfl (hL17.at 0 rfl rfl) rfl ?_)
        refine Rl.yes rfl rfl hc18 (OpY.move (v := (Value.int .i64 i10)) rfl ?_)
        obtain ⟨x17, q35, h⟩ := bind_some h
        obtain ⟨n13, q36, q37⟩ := idx_some q35
        have f16 := (((((((d_h1.mono (K4 S)).mono (K10 S)).mono (K11 S)).mono (K13 S)).mono (K14 S)).mono (K16 S)).mono (K17 S))
        obtain ⟨b13, o10, c10, vs11, q38, q39, f17, q40⟩ := Rs.get f16 q37
        obtain ⟨v10, rfl, k11⟩ := q40
        refine Rl.yes rfl rfl hc18 (OpY.ixRoD (r := (rSl rAEdge)) (v := d_v1) (n := n13) (m := (o10 + n13 * (rSl rAEdge).sz)) Tryd.underlying23 ti39 rfl q38 rfl q36 q37 rfl ?_)
        refine Rl.yes rfl rfl hc18 (OpY.ldRo1 (v := v10) Tryd.underlying39 rfl rfl vw_view f17 ?_)
        refine Rl.yes rfl rfl hc18 (OpY.lenRo (v := v10) Tryd.underlying39 rfl k11 ?_)
        refine Rl.yes rfl rfl hc18 (OpY.lss (x := k10) (y := (List.length x17 : Int)) ((k10 : Int) < (List.length x17 : Int)) rfl rfl Iff.rfl ?_)
        refine Rl.op (OpY.pick_t (t := x16) (v := (Value.bool (decide ((k10 : Int) < (List.length x17 : Int))))) rfl hc18 rfl ?_)
        refine Rl.nil ?_
        obtain rfl := Option.some.inj h
        refine Swp.pop_back ?_
        exact ⟨(decide ((k10 : Int) < (List.length x17 : Int))), _, rfl, (upds_sym ⟨rfl, rfl, rfl, rfl, rfl, rfl, rfl, trivial⟩), hL17, Keep.refl, trivial⟩
       ·
        replace h := ite_f hc18 h
        refine Rl.no rfl rfl (eq_false_of_ne_true hc18) ?_
        refine Rl.no rfl rfl (eq_false_of_ne_true hc18) ?_
        refine Rl.no rfl rfl (eq_false_of_ne_true hc18) ?_
        refine Rl.no rfl rfl (eq_false_of_ne_true hc18) ?_
        refine Rl.no rfl rfl (eq_false_of_ne_true hc18) ?_
        refine Rl.no rfl rfl (eq_false_of_ne_true hc18) ?_
        refine Rl.no rfl rfl (eq_false_of_ne_true hc18) ?_
        refine Rl.no rfl rfl (eq_false_of_ne_true hc18) ?_
        refine Rl.op (OpY.pick_f (t := x16) (v := (Value.bool false)) rfl (eq_false_of_ne_true hc18) rfl ?_)
        refine Rl.nil ?_
        obtain rfl := Option.some.inj h
        refine Swp.pop_back ?_
        exact ⟨false, _, rfl, (upds_sym ⟨rfl, rfl, rfl, rfl, rfl, rfl, rfl, trivial⟩), hL17, Keep.refl, trivial⟩
      ·
       rintro _ w16 ⟨x15, u, rfl, rfl, hL18, K18, -⟩
       replace h := g13
       try dsimp only at h
       refine Swp.cond_b x15 rfl (fun hc19 => ?_) (fun hc19 => ?_)
       ·
        replace h := ite_t hc19 h
        refine Swp.skip (Swp.seq (Swp.block (Swp.region rfl (Rl.op (OpY.move (v := (osv (some b11) 0 (List.length x14) m10)) rfl ?_)))))
        refine Rl.op (OpY.fieldAddr (q := 1) Tryd.underlying25 rfl ti23 rfl rfl rfl ?_)
        refine Rl.op (OpY.ldBox1 (v := d_v1) Tryd.underlying23 rfl rfl (hL18.at 0 rfl rfl) rfl ?_)
        refine Rl.op (OpY.move (v := (Value.int .i64 i10)) rfl ?_)
        obtain ⟨x18, q41, h⟩ := bind_some h
        obtain ⟨n14, q42, q43⟩ := idx_some q41
        have f18 := ((((((((d_h1.mono (K4 S)).mono (K10 S)).mono (K11 S)).mono (K13 S)).mono (K14 S)).mono (K16 S)).mono (K17 S)).mono (K18 S))
        obtain ⟨b14, o11, c11, vs12, q44, q45, f19, q46⟩ := Rs.get f18 q43
        obtain ⟨v11, rfl, k12⟩ := q46
        refine Rl.op (OpY.ixRoD (r := (rSl rAEdge)) (v := d_v1) (n := n14) (m := (o11 + n14 * (rSl rAEdge).sz)) Tryd.underlying23 ti39 rfl q44 rfl q42 q43 rfl ?_)
        refine Rl.op (OpY.ldRo1 (v := v11) Tryd.underlying39 rfl rfl vw_view f19 ?_)
        refine Rl.op (OpY.move (v := (Value.int .i64 k10)) rfl ?_)
        obtain ⟨x19, q47, h⟩ := bind_some h
        obtain ⟨n15, q48, q49⟩ := idx_some q47
        obtain ⟨b15, o12, c12, vs13, q50, q51, f20, q52⟩ := Rs.get k12 q49
        obtain ⟨rfl, -⟩ := rAEdge_open q52
        refine Rl.op (OpY.ixRoD (r := rAEdge) (v := v11) (n := n15) (m := (o12 + n15 * rAEdge.sz)) Tryd.underlying39 ti63 rfl q50 rfl q48 q49 rfl ?_)
        have f21 := (f20.part (us := [(Value.int .i64 x19.To)]) 2 rfl)
        refine Rl.op (OpY.fieldAddr (q := (o12 + n15 * rAEdge.sz) + 2) Tryd.underlying63 rfl ti3 rfl rfl rfl ?_)
        refine Rl.op (OpY.ldRo1 (v := (Value.int .i64 x19.To)) Tryd.underlying3 rfl rfl vw_view f21 ?_)
        obtain ⟨x20, q53, h⟩ := bind_some h
        obtain ⟨n16, q54, q55⟩ := idx_some q53
        have q56 := (List.getElem?_eq_some_iff.1 q55).1
        refine Rl.op (OpY.ixRowD (r := rBool) (b := b11) (o := 0) (n := n16) (m := (List.length x14)) (xs := next13) (q := (0 + n16 * rBool.sz)) Tryd.underlying22 ti4 rfl hl15 rfl q54 q56 rfl ?_)
        obtain ⟨x21, q57, h⟩ := bind_some h
        obtain ⟨n17, q58, q59, q60⟩ := upd1_some q57
        obtain rfl := Int.ofNat_inj.1 (q54.symm.trans q58)
        have f22 := (hE15.mono (K18 None))
        refine Rl.op0 (OpY.stRowX (pre := []) (r := rBool) (vs := [(Value.bool true)]) (a := true) ti4 rfl rfl rfl rfl hL18 2 rfl rfl f22 q56 rfl q60 ?_)
        have hl16 : (List.length x14) = List.length x21 := by rw [q60, List.length_set]; exact hl15
        intro w17 cs19 (hL19 : Go.X.Loc [] [] w w17 [some b1, ob11, some b11] [Cont.cells [d_v, d_v1], Cont.cells ([] ++ (cs13 ++ [])), Cont.cells ([] ++ (cs19 ++ []))]) hS13 hE16 q61
        have hc20 : (cs19 ++ []).length = m10 * rBool.sz := by have := hc17; rw [List.length_append] at this ⊢; rw [q61]; exact this
        have K19 := ks w hS13
        refine Rl.nil (Swp.pop_blk (Swp.region rfl (Rl.op (OpY.move (v := (Value.int .i64 k10)) rfl ?_))))
        refine Rl.op (OpY.add (x := k10) (y := 1) (z := (iw (k10 + 1))) rfl rfl rfl ?_)
        refine Rl.op (OpY.assign (v := (Value.int .i64 (iw (k10 + 1)))) rfl ?_)
        refine Rl.nil ?_
        have f23 := (hE16.mono (K19 None))
        obtain rfl := Option.some.inj h
        refine Swp.pop_back ⟨(x21, (iw (k10 + 1))), rfl, ?_⟩
        exact ⟨cs19, _, (upds_sym ⟨rfl, rfl, rfl, rfl, rfl, rfl, trivial⟩), hL19, (Keep.trans (Keep.trans K17 K18) K19), f23, hl16, hc20, trivial⟩
       ·
        replace h := ite_f hc19 h
        refine Swp.exit rfl ?_
        have f24 := (hE15.mono (K18 None))
        obtain rfl := Option.some.inj h
        obtain rfl := hd12 _ rfl
        replace h := g12
        try dsimp only at h
        skip
        refine Swp.pop_back ?_
        exact ⟨next13, cs18, _, rfl, (upds_sym ⟨rfl, rfl, rfl, rfl, rfl, trivial⟩), hL18, (Keep.trans K17 K18), f24, hl15, hc17, trivial⟩
     ·
      rintro _ w18 ⟨next12, cs17, u, rfl, rfl, hL20, K20, hE17, hl17, hc21, -⟩
      replace h := g12
      try dsimp only at h
      refine Swp.pop_blk (Swp.region rfl (Rl.op (OpY.move (v := (Value.int .i64 i10)) rfl ?_)))
      refine Rl.op (OpY.add (x := i10) (y := 1) (z := (iw (i10 + 1))) rfl rfl rfl ?_)
      refine Rl.op (OpY.assign (v := (Value.int .i64 (iw (i10 + 1)))) rfl ?_)
      refine Rl.nil ?_
      obtain rfl := Option.some.inj h
      refine Swp.pop_back ⟨(next12, (iw (i10 + 1))), rfl, ?_⟩
      exact ⟨cs17, _, (upds_sym ⟨rfl, rfl, rfl, rfl, rfl, trivial⟩), hL20, (Keep.trans K16 K20), hE17, hl17, hc21, trivial⟩
    ·
     replace h := ite_f hc16 h
     refine Swp.exit rfl ?_
     have hp12 := hL16.pick [0, 2] rfl rfl rfl
     have hL21 : Go.X.Loc [] [] w w14 [some b1, some b11] [Cont.cells [d_v, d_v1], Cont.cells ([] ++ (cs16 ++ []))] := hp12.1
     have K21 := ks w hp12.2
     have f25 := (hE14.mono (K21 None))
     obtain rfl := Option.some.inj h
     obtain rfl := hd11 _ rfl
     replace h := g11
     try dsimp only at h
     skip
     refine Swp.pop_back ?_
     exact ⟨next11, cs16, _, rfl, (upds_sym ⟨rfl, rfl, rfl, trivial⟩), hL21, (Keep.trans K16 K21), f25, hl13, hc15, trivial⟩
   ·
    rintro _ w19 ⟨next10, cs15, u, rfl, rfl, hL22, K22, hE18, hl18, hc22, -⟩
    replace h := g11
    try dsimp only at h
    refine Swp.region rfl (Rl.op (OpY.move (v := (osv (some b11) 0 (List.length x14) m10)) rfl ?_))
    refine Rl.op (OpY.assign (v := (osv (some b11) 0 (List.length x14) m10)) rfl ?_)
    refine Rl.nil (Swp.pop_blk (Swp.region rfl (Rl.op (OpY.move (v := (Value.int .i64 length10)) rfl ?_))))
    refine Rl.op (OpY.sub (x := length10) (y := 1) (z := (iw (length10 - 1))) rfl rfl rfl ?_)
    refine Rl.op (OpY.assign (v := (Value.int .i64 (iw (length10 - 1)))) rfl ?_)
    refine Rl.nil ?_
    obtain rfl := Option.some.inj h
    refine Swp.pop_back ⟨((iw (length10 - 1)), next10), rfl, ?_⟩
    exact ⟨some b11, m10, cs15, (List.length x14), _, (upds_sym ⟨rfl, rfl, rfl, trivial⟩), hL22, (Keep.trans (Keep.trans K13 K14) K22), hE18, hl18, hc22, trivial⟩
  ·
   replace h := ite_f hc13 h
   refine Swp.exit rfl ?_
   obtain rfl := Option.some.inj h
   obtain rfl := hd10 _ rfl
   replace h := g10
   try dsimp only at h
   skip
   refine Swp.pop_back ?_
   exact ⟨x13, ob11, cap11, cs13, (List.length x13), _, rfl, (upds_sym ⟨rfl, rfl, trivial⟩), hL13, K13, hE12, rfl, hc12, trivial⟩
 ·
  rintro _ w20 ⟨x12, ob10, cap10, cs12, ln10, u, rfl, rfl, hL23, K23, hE19, rfl, hc23, -⟩
  replace h := g10
  try dsimp only at h
  refine Swp.seq (Swp.seq (Swp.region rfl (Rl.op (OpY.assign (v := (Value.int .i64 0)) rfl ?_))))
  refine Rl.nil ?_
  obtain ⟨s14, hl19, g14⟩ := bind_some h
  refine Swp.join (fun e w' => ∃  (u : Env), (Sum.inl ()) = s14 ∧ e = upds [] u ∧ Go.X.Loc [] [] w w' [] [] ∧ Keep w.heap.size [some b1, ob10] w20 [] w' ∧ True) ?_ ?_
  ·
   refine Swp.block ?_
   refine Swp.loopM hl19 (fun (ss : Int) (e : Env) (w' : World) => match ss with | i11 => ∃ (u : Env), e = upds [(3, (Value.pointer (some ⟨b1, 0, none⟩))), (7, (osv ob10 0 (List.length x12) cap10)), (11, (Value.int .i64 i11))] u ∧ Go.X.Loc [] [] w w' [some b1, ob10] [Cont.cells [d_v, d_v1], Cont.cells ([] ++ (cs12 ++ []))] ∧ Keep w.heap.size [some b1, ob10] w20 [some b1, ob10] w' ∧ True) ⟨_, (upds_sym ⟨rfl, rfl, rfl, trivial⟩), hL23, Keep.refl, trivial⟩ ?_
   rintro i11 oo _ w21 ⟨u, rfl, hL24, K24, -⟩ h hd13
   rw [rCan_b4] at h
   refine Swp.seq (Swp.seq (Swp.region rfl (Rl.op (OpY.move (v := (Value.int .i64 i11)) rfl ?_))))
   refine Rl.op (OpY.move (v := (osv ob10 0 (List.length x12) cap10)) rfl ?_)
   have f26 := (hE19.mono (K24 None))
   refine Rl.op (OpY.lenRow (pre := []) (r := rBool) (xs := x12) Tryd.underlying22 rfl (hL24.at 1 rfl rfl) f26 rfl rfl ?_)
   refine Rl.op (OpY.lss (x := i11) (y := (List.length x12 : Int)) ((i11 : Int) < (List.length x12 : Int)) rfl rfl Iff.rfl ?_)
   refine Rl.nil ?_
   refine Swp.cond_d ((i11 : Int) < (List.length x12 : Int)) rfl (fun hc24 => ?_) (fun hc24 => ?_)
   ·
    replace h := ite_t hc24 h
    refine Swp.skip (Swp.seq (Swp.block (Swp.seq ?_)))
    obtain ⟨s15, h, g15⟩ := bind_some h
    refine Swp.join (fun e w' => ∃ (x22 : Bool) (u : Env), x22 = s15 ∧ e = upds [(3, (Value.pointer (some ⟨b1, 0, none⟩))), (7, (osv ob10 0 (List.length x12) cap10)), (11, (Value.int .i64 i11)), (77, (Value.bool x22))] u ∧ Go.X.Loc [] [] w w' [some b1, ob10] [Cont.cells [d_v, d_v1], Cont.cells ([] ++ (cs12 ++ []))] ∧ Keep w.heap.size [some b1, ob10] w21 [some b1, ob10] w' ∧ True) ?_ ?_
    ·
     refine Swp.region rfl (Rl.op (OpY.move (v := (osv ob10 0 (List.length x12) cap10)) rfl ?_))
     refine Rl.op (OpY.move (v := (Value.int .i64 i11)) rfl ?_)
     obtain ⟨x23, q62, h⟩ := bind_some h
     obtain ⟨n18, q63, q64⟩ := idx_some q62
     have q65 := (List.getElem?_eq_some_iff.1 q64).1
     obtain ⟨b16, hb11⟩ := hL24.row_some 1 rfl rfl (row_pos (pre := []) f26 q64 (Nat.lt_of_sub_eq_succ rfl))
     refine Rl.op (OpY.ixRowD (r := rBool) (b := b16) (o := 0) (n := n18) (m := (List.length x12)) (xs := x12) (q := (0 + n18 * rBool.sz)) Tryd.underlying22 ti4 (osv_some hb11) rfl rfl q63 q65 rfl ?_)
     obtain ⟨vs14, q66, q67, q68⟩ := row_elem (pre := []) (sp := []) f26 q64
     obtain rfl := q67
     refine Rl.op (OpY.ldElem1 (v := (Value.bool x23)) Tryd.underlying4 rfl rfl (own_some hb11 (hL24.at 1 rfl rfl)) q68 ?_)
     refine Rl.op (OpY.move (v := (Value.bool x23)) rfl ?_)
     by_cases hc25 : x23 = true
     ·
      replace h := ite_t hc25 h
      refine Rl.yes rfl rfl hc25 (OpY.fieldAddr (q := 0) Tryd.underlying25 rfl ti22 rfl rfl rfl ?_)
      refine Rl.yes rfl rfl hc25 (OpY.ldBox1 (v := d_v) Tryd.underlying22 rfl rfl (hL24.at 0 rfl rfl) rfl ?_)
      refine Rl.yes rfl rfl hc25 (OpY.move (v := (Value.int .i64 i11)) rfl ?_)
      obtain ⟨x24, q69, h⟩ := bind_some h
      obtain ⟨n19, q70, q71⟩ := idx_some q69
      have f27 := ((((f6.mono (K10 S)).mono (K11 S)).mono (K23 S)).mono (K24 S))
      obtain ⟨b17, o13, c13, vs15, q72, q73, f28, q74⟩ := Rs.get f27 q71
      obtain rfl := q74
      refine Rl.yes rfl rfl hc25 (OpY.ixRoD (r := rBool) (v := d_v) (n := n19) (m := (o13 + n19 * rBool.sz)) Tryd.underlying22 ti4 rfl q72 rfl q70 q71 rfl ?_)
      refine Rl.yes rfl rfl hc25 (OpY.ldRo1 (v := (Value.bool x24)) Tryd.underlying4 rfl rfl vw_view f28 ?_)
      refine Rl.op (OpY.pick_t (t := x23) (v := (Value.bool x24)) rfl hc25 rfl ?_)
      refine Rl.nil ?_
      obtain rfl := Option.some.inj h
      refine Swp.pop_back ?_
      exact ⟨x24, _, rfl, (upds_sym ⟨rfl, rfl, rfl, rfl, trivial⟩), hL24, Keep.refl, trivial⟩
     ·
      replace h := ite_f hc25 h
      refine Rl.no rfl rfl (eq_false_of_ne_true hc25) ?_
      refine Rl.no rfl rfl (eq_false_of_ne_true hc25) ?_
      refine Rl.no rfl rfl (eq_false_of_ne_true hc25) ?_
      refine Rl.no rfl rfl (eq_false_of_ne_true hc25) ?_
      refine Rl.no rfl rfl (eq_false_of_ne_true hc25) ?_
      refine Rl.op (OpY.pick_f (t := x23) (v := (Value.bool false)) rfl (eq_false_of_ne_true hc25) rfl ?_)
      refine Rl.nil ?_
      obtain rfl := Option.some.inj h
      refine Swp.pop_back ?_
      exact ⟨false, _, rfl, (upds_sym ⟨rfl, rfl, rfl, rfl, trivial⟩), hL24, Keep.refl, trivial⟩
    ·
     rintro _ w22 ⟨x22, u, rfl, rfl, hL25, K25, -⟩
     replace h := g15
     try dsimp only at h
     refine Swp.cond_b x22 rfl (fun hc26 => ?_) (fun hc26 => ?_)
     ·
      replace h := ite_t hc26 h
      refine Swp.seq (Swp.region rfl (Rl.op (OpY.assign (v := (Value.bool true)) rfl ?_)))
      refine Rl.nil (Swp.ret ?_)
      obtain rfl := Option.some.inj h
      obtain rfl := hd13 _ rfl
      replace h := g14
      try dsimp only at h
      obtain rfl := Option.some.inj h
      refine ⟨[(Value.bool true)], ⟨rfl, trivial⟩, ⟨_, rfl, hL25.done, ?_⟩⟩
      exact ⟨rfl, trivial⟩
     ·
      replace h := ite_f hc26 h
      refine Swp.skip (Swp.pop_blk (Swp.region rfl (Rl.op (OpY.move (v := (Value.int .i64 i11)) rfl ?_))))
      refine Rl.op (OpY.add (x := i11) (y := 1) (z := (iw (i11 + 1))) rfl rfl rfl ?_)
      refine Rl.op (OpY.assign (v := (Value.int .i64 (iw (i11 + 1)))) rfl ?_)
      refine Rl.nil ?_
      obtain rfl := Option.some.inj h
      refine Swp.pop_back ⟨(iw (i11 + 1)), rfl, ?_⟩
      exact ⟨_, (upds_sym ⟨rfl, rfl, rfl, trivial⟩), hL25, (Keep.trans K24 K25), trivial⟩
   ·
    replace h := ite_f hc24 h
    refine Swp.exit rfl ?_
    have hp13 := hL24.pick [] rfl rfl rfl
    have hL26 : Go.X.Loc [] [] w w21 [] [] := hp13.1
    have K26 := ks w hp13.2
    obtain rfl := Option.some.inj h
    obtain rfl := hd13 _ rfl
    replace h := g14
    try dsimp only at h
    skip
    refine Swp.pop_back ?_
    exact ⟨_, rfl, (upds_sym trivial), hL26, (Keep.trans K24 K26), trivial⟩
  ·
   rintro _ w23 ⟨u, rfl, rfl, hL27, K27, -⟩
   replace h := g14
   try dsimp only at h
   refine Swp.seq (Swp.region rfl (Rl.op (OpY.assign (v := (Value.bool false)) rfl ?_)))
   refine Rl.nil (Swp.ret ?_)
   obtain rfl := Option.some.inj h
   refine ⟨[(Value.bool false)], ⟨rfl, trivial⟩, ⟨_, rfl, hL27.done, ?_⟩⟩
   exact ⟨rfl, trivial⟩
theorem rwords_w (N : Nat) : ∀ (d : ADfa) (state : Int) (length : Int) (most : Int) (d_v : Value) (d_v1 : Value) (w : World) (S : Nat → Prop) (d_h : Rs rBool (Hv w.heap.size S [] w) d_v d.Accept) (d_h1 : Rs (rSl rAEdge) (Hv w.heap.size S [] w) d_v1 d.Edges) (r : (List (List UInt8))) (h : rwords N d state length most = some r), Calls Tryd.prog 35 #[(Value.agg #[d_v, d_v1]), (Value.int .i64 state), (Value.int .i64 length), (Value.int .i64 most)] w (Ret w (fun v w' => ∃ (ob0 : Option Nat) (cap0 : Nat) (cs0 : List Value) (sp0 : List Value), (osv ob0 0 (List.length r) cap0) = v ∧ NewOwn w w' [ob0] [Cont.cells ([] ++ (cs0 ++ sp0))] ∧ Els rStr (Hv w.heap.size None [ob0] w') cs0 r ∧ (cs0 ++ sp0).length = cap0 * rStr.sz ∧ True)) := by
 induction N with
 | zero => intro d state length most d_v d_v1 w S d_h d_h1 r h; cases (show (none : Option (List (List UInt8))) = some r from h)
 | succ N ih =>
  intro d state length most d_v d_v1 w S d_h d_h1 r h
  replace h : rwords_step N (rwords N) d state length most = some r := h
  unfold rwords_step at h
  have hL : Go.X.Loc [] [] w w [] [] := Go.X.Loc.begin0 w
  refine calls_of (l := [(Value.agg #[d_v, d_v1]), (Value.int .i64 state), (Value.int .i64 length), (Value.int .i64 most)]) (rl := [.tmp 8]) (n := 69) Tryd.func35 rfl rfl rfl (Nat.le_of_ble_eq_true rfl) ?_
  refine Swp.seq (Swp.region rfl (Rl.op (OpY.box (cs := [d_v, d_v1]) rfl rfl hL ?_)))
  intro b1 w2 hL3 hS5
  have K4 := ks w hS5
  refine Rl.op (OpY.assign (v := (Value.slice none 0 0)) rfl ?_)
  refine Rl.nil (Swp.seq (Swp.seq ?_))
  obtain ⟨s10, h, g10⟩ := bind_some h
  refine Swp.join (fun e w' => ∃ (x10 : Bool) (u : Env), x10 = s10 ∧ e = upds [(1, (Value.int .i64 state)), (2, (Value.int .i64 length)), (3, (Value.int .i64 most)), (4, (Value.pointer (some ⟨b1, 0, none⟩))), (22, (Value.bool x10))] u ∧ Go.X.Loc [] [] w w' [some b1] [Cont.cells [d_v, d_v1]] ∧ Keep w.heap.size [some b1] w2 [some b1] w' ∧ True) ?_ ?_
  ·
   refine Swp.region rfl (Rl.op (OpY.ldBoxA (vs := [d_v, d_v1]) Tryd.underlying25 rfl ti25 rfl (hL3.at 0 rfl rfl) rfl rfl ?_))
   refine Rl.op (OpY.move (v := (Value.int .i64 state)) rfl ?_)
   refine Rl.op (OpY.move (v := (Value.int .i64 length)) rfl ?_)
   obtain ⟨r10, q10, h⟩ := bind_some h
   have f10 := (d_h.mono (K4 S))
   have f11 := (d_h1.mono (K4 S))
   refine Rl.op (OpY.call en34 rfl rfl (rCan_w N d state length d_v d_v1 _ Any (f10.mono vw_any) (f11.mono vw_any) r10 q10) ?_)
   rintro _ w10 hE10 ⟨rfl, -⟩
   have hL10 := hL3.ext hE10
   have K10 := ke hL3 hE10
   refine Rl.op (OpY.not (x := r10) rfl ?_)
   refine Rl.op (OpY.move (v := (Value.bool (!r10))) rfl ?_)
   by_cases hc10 : (!r10) = true
   ·
    replace h := ite_t hc10 h
    refine Rl.no rfl rfl hc10 ?_
    refine Rl.no rfl rfl hc10 ?_
    refine Rl.op (OpY.pick_t (t := (!r10)) (v := (Value.bool true)) rfl hc10 rfl ?_)
    refine Rl.nil ?_
    obtain rfl := Option.some.inj h
    refine Swp.pop_back ?_
    exact ⟨true, _, rfl, (upds_sym ⟨rfl, rfl, rfl, rfl, rfl, trivial⟩), hL10, K10, trivial⟩
   ·
    replace h := ite_f hc10 h
    refine Rl.yes rfl rfl (eq_false_of_ne_true hc10) (OpY.move (v := (Value.int .i64 most)) rfl ?_)
    refine Rl.yes rfl rfl (eq_false_of_ne_true hc10) (OpY.eql (x := most) (y := 0) ((most : Int) = 0) rfl rfl Iff.rfl ?_)
    refine Rl.op (OpY.pick_f (t := (!r10)) (v := (Value.bool (decide ((most : Int) = 0)))) rfl (eq_false_of_ne_true hc10) rfl ?_)
    refine Rl.nil ?_
    obtain rfl := Option.some.inj h
    refine Swp.pop_back ?_
    exact ⟨(decide ((most : Int) = 0)), _, rfl, (upds_sym ⟨rfl, rfl, rfl, rfl, rfl, trivial⟩), hL10, K10, trivial⟩
  ·
   rintro _ w11 ⟨x10, u, rfl, rfl, hL11, K11, -⟩
   replace h := g10
   try dsimp only at h
   refine Swp.cond_b x10 rfl (fun hc11 => ?_) (fun hc11 => ?_)
   ·
    replace h := ite_t hc11 h
    refine Swp.seq (Swp.region rfl (Rl.op (OpY.assign (v := (Value.slice none 0 0)) rfl ?_)))
    refine Rl.nil ?_
    have hp10 := hL11.addNil
    have hL12 : Go.X.Loc [] [] w w11 [none, some b1] [Cont.cells ([] ++ ([] ++ [])), Cont.cells [d_v, d_v1]] := hp10.1
    have hE11 : Els rStr (Hv w.heap.size None [none, some b1] w11) [] [] := Els.nil
    refine Swp.ret ?_
    obtain rfl := Option.some.inj h
    refine ⟨[(osv none 0 (List.length ([] : (List (List UInt8)))) 0)], ⟨rfl, trivial⟩, ⟨_, rfl, hL12.done, ?_⟩⟩
    exact ⟨none, 0, [], [], rfl, (hL12.newOwn [0] rfl rfl rfl), (hE11.mono (Hv.pick [0] rfl)), (show ([] ++ [] : List Value).length = 0 * rStr.sz by simp), trivial⟩
   ·
    replace h := ite_f hc11 h
    refine Swp.skip (Swp.seq (Swp.seq (Swp.region rfl (Rl.op (OpY.move (v := (Value.int .i64 length)) rfl ?_)))))
    refine Rl.op (OpY.eql (x := length) (y := 0) ((length : Int) = 0) rfl rfl Iff.rfl ?_)
    refine Rl.nil ?_
    refine Swp.cond_d ((length : Int) = 0) rfl (fun hc12 => ?_) (fun hc12 => ?_)
    ·
     replace h := ite_t hc12 h
     refine Swp.seq (Swp.region rfl ?_)
     have hE12 : Els rStr (Hv w.heap.size None [some b1] w11) [(Value.string (s8 ([] : List UInt8)))] [([] : List UInt8)] := (Els.cons (a := [(Value.string (s8 ([] : List UInt8)))]) rfl Els.nil)
     refine Rl.op (OpY.litRow (r := rStr) (vs := [(Value.string (s8 ([] : List UInt8)))]) (css := [[(Value.string (s8 ([] : List UInt8)))]]) (xs := [([] : List UInt8)]) Tryd.underlying35 ti9 (Nat.le_of_ble_eq_true rfl) rfl rfl ⟨rfl, rfl, trivial⟩ (Nat.le_of_ble_eq_true rfl) hE12 rfl hL11 ?_)
     intro b10 w12 hc13 hL13 hS10
     have K12 := ks w hS10
     refine Rl.op (OpY.assign (v := (osv (some b10) 0 1 1)) rfl ?_)
     refine Rl.nil (Swp.ret ?_)
     obtain rfl := Option.some.inj h
     refine ⟨[(osv (some b10) 0 1 1)], ⟨rfl, trivial⟩, ⟨_, rfl, hL13.done, ?_⟩⟩
     have f12 := (hE12.mono (K12 None))
     exact ⟨some b10, 1, [(Value.string (s8 ([] : List UInt8)))], [], rfl, (hL13.newOwn [0] rfl rfl rfl), (f12.mono (Hv.pick [0] rfl)), hc13, trivial⟩
    ·
     replace h := ite_f hc12 h
     refine Swp.skip (Swp.seq (Swp.region rfl (Rl.op (OpY.assign (v := (Value.slice none 0 0)) rfl ?_))))
     refine Rl.nil (Swp.seq (Swp.seq (Swp.region rfl (Rl.op (OpY.assign (v := (Value.int .u8 32)) rfl ?_)))))
     refine Rl.nil ?_
     obtain ⟨s11, hl10, g11⟩ := bind_some h
     refine Swp.join (fun e w' => ∃ (out10 : (List (List UInt8))) (ob10 : Option Nat) (cap10 : Nat) (sp10 : List Value) (cs10 : List Value) (ln10 : Nat) (u : Env), out10 = s11 ∧ e = upds [(9, (osv ob10 0 ln10 cap10))] u ∧ Go.X.Loc [] [] w w' [ob10] [Cont.cells ([] ++ (cs10 ++ sp10))] ∧ Keep w.heap.size [some b1] w11 [ob10] w' ∧ Els rStr (Hv w.heap.size None [ob10] w') cs10 out10 ∧ ln10 = List.length out10 ∧ (cs10 ++ sp10).length = cap10 * rStr.sz ∧ True) ?_ ?_
     ·
      refine Swp.block ?_
      have hp11 := hL11.addNil
      have hL14 : Go.X.Loc [] [] w w11 [none, some b1] [Cont.cells ([] ++ ([] ++ [])), Cont.cells [d_v, d_v1]] := hp11.1
      have K13 := ks w hp11.2
      have hp12 := hL14.pick [1, 0] rfl rfl rfl
      have hL15 : Go.X.Loc [] [] w w11 [some b1, none] [Cont.cells [d_v, d_v1], Cont.cells ([] ++ ([] ++ []))] := hp12.1
      have K14 := ks w hp12.2
      have f13 := ((Els.nil (r := rStr)).mono (K14 None))
      refine Swp.loopM hl10 (fun (ss : ((List (List UInt8)) × Int)) (e : Env) (w' : World) => match ss with | (out11, c10) => ∃ (ob11 : Option Nat) (cap11 : Nat) (sp11 : List Value) (cs11 : List Value) (ln11 : Nat) (u : Env), e = upds [(1, (Value.int .i64 state)), (2, (Value.int .i64 length)), (3, (Value.int .i64 most)), (4, (Value.pointer (some ⟨b1, 0, none⟩))), (9, (osv ob11 0 ln11 cap11)), (10, (Value.int .u8 c10))] u ∧ Go.X.Loc [] [] w w' [some b1, ob11] [Cont.cells [d_v, d_v1], Cont.cells ([] ++ (cs11 ++ sp11))] ∧ Keep w.heap.size [some b1] w11 [some b1, ob11] w' ∧ Els rStr (Hv w.heap.size None [some b1, ob11] w') cs11 out11 ∧ ln11 = List.length out11 ∧ (cs11 ++ sp11).length = cap11 * rStr.sz ∧ True) ⟨none, 0, [], [], (List.length ([] : (List (List UInt8)))), _, (upds_sym ⟨rfl, rfl, rfl, rfl, rfl, rfl, trivial⟩), hL15, (Keep.trans K13 K14), f13, rfl, (show ([] ++ [] : List Value).length = 0 * rStr.sz by simp), trivial⟩ ?_
      rintro ⟨out11, c10⟩ oo _ w13 ⟨ob11, cap11, sp11, cs11, ln11, u, rfl, hL16, K15, hE13, rfl, hc14, -⟩ h hd10
      rw [rwords_b1] at h
      refine Swp.seq (Swp.seq (Swp.region rfl (Rl.op (OpY.move (v := (Value.int .u8 c10)) rfl ?_))))
      refine Rl.op (OpY.lss (x := c10) (y := 127) ((c10 : Int) < 127) rfl rfl Iff.rfl ?_)
      refine Rl.nil ?_
      refine Swp.cond_d ((c10 : Int) < 127) rfl (fun hc15 => ?_) (fun hc15 => ?_)
      ·
       replace h := ite_t hc15 h
       refine Swp.skip (Swp.seq (Swp.block (Swp.seq (Swp.region rfl (Rl.op (OpY.ldBoxA (vs := [d_v, d_v1]) Tryd.underlying25 rfl ti25 rfl (hL16.at 0 rfl rfl) rfl rfl ?_))))))
       refine Rl.op (OpY.move (v := (Value.int .i64 state)) rfl ?_)
       refine Rl.op (OpY.move (v := (Value.int .u8 c10)) rfl ?_)
       obtain ⟨r11, q11, h⟩ := bind_some h
       have f14 := (((d_h.mono (K4 S)).mono (K11 S)).mono (K15 S))
       have f15 := (((d_h1.mono (K4 S)).mono (K11 S)).mono (K15 S))
       refine Rl.op (OpY.call en52 rfl rfl (rStep_w N d state c10 d_v d_v1 _ Any (f14.mono vw_any) (f15.mono vw_any) r11 q11) ?_)
       rintro _ w14 hE14 ⟨rfl, -⟩
       have hL17 := hL16.ext hE14
       have K16 := ke hL16 hE14
       refine Rl.op (OpY.assign (v := (Value.int .i64 r11)) rfl ?_)
       refine Rl.nil (Swp.seq ?_)
       obtain ⟨s12, h, g12⟩ := bind_some h
       refine Swp.join (fun e w' => ∃ (x11 : Bool) (u : Env), x11 = s12 ∧ e = upds [(1, (Value.int .i64 state)), (2, (Value.int .i64 length)), (3, (Value.int .i64 most)), (4, (Value.pointer (some ⟨b1, 0, none⟩))), (9, (osv ob11 0 (List.length out11) cap11)), (10, (Value.int .u8 c10)), (11, (Value.int .i64 r11)), (41, (Value.bool x11))] u ∧ Go.X.Loc [] [] w w' [some b1, ob11] [Cont.cells [d_v, d_v1], Cont.cells ([] ++ (cs11 ++ sp11))] ∧ Keep w.heap.size [some b1, ob11] w14 [some b1, ob11] w' ∧ True) ?_ ?_
       ·
        refine Swp.region rfl (Rl.op (OpY.move (v := (Value.int .i64 r11)) rfl ?_))
        refine Rl.op (OpY.geq (x := r11) (y := 0) ((r11 : Int) ≥ 0) rfl rfl Iff.rfl ?_)
        refine Rl.op (OpY.move (v := (Value.bool (decide ((r11 : Int) ≥ 0)))) rfl ?_)
        by_cases hc16 : (r11 : Int) ≥ 0
        ·
         replace h := ite_t hc16 h
         refine Rl.yes rfl rfl (decide_eq_true hc16) (OpY.move (v := (osv ob11 0 (List.length out11) cap11)) rfl ?_)
         have f16 := (hE13.mono (K16 None))
         refine Rl.yes rfl rfl (decide_eq_true hc16) (OpY.lenRow (pre := []) (r := rStr) (xs := out11) Tryd.underlying35 rfl (hL17.at 1 rfl rfl) f16 rfl rfl ?_)
         refine Rl.yes rfl rfl (decide_eq_true hc16) (OpY.move (v := (Value.int .i64 most)) rfl ?_)
         refine Rl.yes rfl rfl (decide_eq_true hc16) (OpY.lss (x := (List.length out11 : Int)) (y := most) (((List.length out11 : Int) : Int) < most) rfl rfl Iff.rfl ?_)
         refine Rl.op (OpY.pick_t (t := (decide ((r11 : Int) ≥ 0))) (v := (Value.bool (decide (((List.length out11 : Int) : Int) < most)))) rfl (decide_eq_true hc16) rfl ?_)
         refine Rl.nil ?_
         obtain rfl := Option.some.inj h
         refine Swp.pop_back ?_
         exact ⟨(decide (((List.length out11 : Int) : Int) < most)), _, rfl, (upds_sym ⟨rfl, rfl, rfl, rfl, rfl, rfl, rfl, rfl, trivial⟩), hL17, Keep.refl, trivial⟩
        ·
         replace h := ite_f hc16 h
         refine Rl.no rfl rfl (decide_eq_false hc16) ?_
         refine Rl.no rfl rfl (decide_eq_false hc16) ?_
         refine Rl.no rfl rfl (decide_eq_false hc16) ?_
         refine Rl.no rfl rfl (decide_eq_false hc16) ?_
         refine Rl.op (OpY.pick_f (t := (decide ((r11 : Int) ≥ 0))) (v := (Value.bool false)) rfl (decide_eq_false hc16) rfl ?_)
         refine Rl.nil ?_
         obtain rfl := Option.some.inj h
         refine Swp.pop_back ?_
         exact ⟨false, _, rfl, (upds_sym ⟨rfl, rfl, rfl, rfl, rfl, rfl, rfl, rfl, trivial⟩), hL17, Keep.refl, trivial⟩
       ·
        rintro _ w15 ⟨x11, u, rfl, rfl, hL18, K17, -⟩
        replace h := g12
        try dsimp only at h
        refine Swp.cond_b x11 rfl (fun hc17 => ?_) (fun hc17 => ?_)
        ·
         replace h := ite_t hc17 h
         refine Swp.seq (Swp.region rfl (Rl.op (OpY.ldBoxA (vs := [d_v, d_v1]) Tryd.underlying25 rfl ti25 rfl (hL18.at 0 rfl rfl) rfl rfl ?_)))
         refine Rl.op (OpY.move (v := (Value.int .i64 r11)) rfl ?_)
         refine Rl.op (OpY.move (v := (Value.int .i64 length)) rfl ?_)
         refine Rl.op (OpY.sub (x := length) (y := 1) (z := (iw (length - 1))) rfl rfl rfl ?_)
         refine Rl.op (OpY.move (v := (Value.int .i64 most)) rfl ?_)
         refine Rl.op (OpY.move (v := (osv ob11 0 (List.length out11) cap11)) rfl ?_)
         have f17 := ((hE13.mono (K16 None)).mono (K17 None))
         refine Rl.op (OpY.lenRow (pre := []) (r := rStr) (xs := out11) Tryd.underlying35 rfl (hL18.at 1 rfl rfl) f17 rfl rfl ?_)
         refine Rl.op (OpY.sub (x := most) (y := (List.length out11 : Int)) (z := (iw (most - (List.length out11 : Int)))) rfl rfl rfl ?_)
         obtain ⟨r12, q12, h⟩ := bind_some h
         have f18 := ((f14.mono (K16 S)).mono (K17 S))
         have f19 := ((f15.mono (K16 S)).mono (K17 S))
         refine Rl.op (OpY.call en35 rfl rfl (ih d r11 (iw (length - 1)) (iw (most - (List.length out11 : Int))) d_v d_v1 _ Any (f18.mono vw_any) (f19.mono vw_any) r12 q12) ?_)
         rintro _ w16 hE15 ⟨ob12, cap12, cs12, sp12, rfl, hN10, hE16, hc18, -⟩
         replace hE16 := hE16.mono (Hv.freshO (S := None) hL18 [ob12])
         have hp13 := hL18.adoptL hE15 hN10
         have hL19 := hp13.1
         have K18 := ks w hp13.2
         refine Rl.op (OpY.assign (v := (osv ob12 0 (List.length r12) cap12)) rfl ?_)
         refine Rl.nil (Swp.seq (Swp.region rfl (Rl.op (OpY.assign (v := (Value.int .i64 0)) rfl ?_))))
         refine Rl.nil ?_
         obtain ⟨s13, hl11, g13⟩ := bind_some h
         refine Swp.join (fun e w' => ∃ (out12 : (List (List UInt8))) (ob13 : Option Nat) (cap13 : Nat) (sp13 : List Value) (cs13 : List Value) (ln12 : Nat) (u : Env), out12 = s13 ∧ e = upds [(1, (Value.int .i64 state)), (2, (Value.int .i64 length)), (3, (Value.int .i64 most)), (4, (Value.pointer (some ⟨b1, 0, none⟩))), (9, (osv ob13 0 ln12 cap13)), (10, (Value.int .u8 c10))] u ∧ Go.X.Loc [] [] w w' [some b1, ob13] [Cont.cells [d_v, d_v1], Cont.cells ([] ++ (cs13 ++ sp13))] ∧ Keep w.heap.size [ob12, some b1, ob11] w16 [some b1, ob13] w' ∧ Els rStr (Hv w.heap.size None [some b1, ob13] w') cs13 out12 ∧ ln12 = List.length out12 ∧ (cs13 ++ sp13).length = cap13 * rStr.sz ∧ True) ?_ ?_
         ·
          refine Swp.block ?_
          have hp14 := hL19.pick [1, 2, 0] rfl rfl rfl
          have hL20 : Go.X.Loc [] [] w w16 [some b1, ob11, ob12] [Cont.cells [d_v, d_v1], Cont.cells ([] ++ (cs11 ++ sp11)), Cont.cells ([] ++ (cs12 ++ sp12))] := hp14.1
          have K19 := ks w hp14.2
          have f20 := ((f17.mono (K18 None)).mono (K19 None))
          refine Swp.loopM hl11 (fun (ss : ((List (List UInt8)) × Int)) (e : Env) (w' : World) => match ss with | (out13, i10) => ∃ (ob14 : Option Nat) (cap14 : Nat) (sp14 : List Value) (cs14 : List Value) (ln13 : Nat) (u : Env), e = upds [(1, (Value.int .i64 state)), (2, (Value.int .i64 length)), (3, (Value.int .i64 most)), (4, (Value.pointer (some ⟨b1, 0, none⟩))), (9, (osv ob14 0 ln13 cap14)), (10, (Value.int .u8 c10)), (12, (osv ob12 0 (List.length r12) cap12)), (13, (Value.int .i64 i10))] u ∧ Go.X.Loc [] [] w w' [some b1, ob14, ob12] [Cont.cells [d_v, d_v1], Cont.cells ([] ++ (cs14 ++ sp14)), Cont.cells ([] ++ (cs12 ++ sp12))] ∧ Keep w.heap.size [ob12, some b1, ob11] w16 [some b1, ob14, ob12] w' ∧ Els rStr (Hv w.heap.size None [some b1, ob14, ob12] w') cs14 out13 ∧ ln13 = List.length out13 ∧ (cs14 ++ sp14).length = cap14 * rStr.sz ∧ True) ⟨ob11, cap11, sp11, cs11, (List.length out11), _, (upds_sym ⟨rfl, rfl, rfl, rfl, rfl, rfl, rfl, rfl, trivial⟩), hL20, K19, f20, rfl, hc14, trivial⟩ ?_
          rintro ⟨out13, i10⟩ oo _ w17 ⟨ob14, cap14, sp14, cs14, ln13, u, rfl, hL21, K20, hE17, rfl, hc19, -⟩ h hd11
          rw [rwords_b2] at h
          refine Swp.seq (Swp.seq (Swp.region rfl (Rl.op (OpY.move (v := (Value.int .i64 i10)) rfl ?_))))
          refine Rl.op (OpY.move (v := (osv ob12 0 (List.length r12) cap12)) rfl ?_)
          have f21 := (hE16.mono (K20 None))
          refine Rl.op (OpY.lenRow (pre := []) (r := rStr) (xs := r12) Tryd.underlying35 rfl (hL21.at 2 rfl rfl) f21 rfl rfl ?_)
          refine Rl.op (OpY.lss (x := i10) (y := (List.length r12 : Int)) ((i10 : Int) < (List.length r12 : Int)) rfl rfl Iff.rfl ?_)
          refine Rl.nil ?_
          refine Swp.cond_d ((i10 : Int) < (List.length r12 : Int)) rfl (fun hc20 => ?_) (fun hc20 => ?_)
          ·
           replace h := ite_t hc20 h
           refine Swp.skip (Swp.seq (Swp.block ?_))
           obtain ⟨x12, q13, h⟩ := bind_some h
           obtain ⟨n10, q14, q15⟩ := idx_some q13
           have q16 := (List.getElem?_eq_some_iff.1 q15).1
           obtain ⟨b11, hb10⟩ := hL21.row_some 2 rfl rfl (row_pos (pre := []) f21 q15 (Nat.lt_of_sub_eq_succ rfl))
           obtain ⟨vs10, q17, q18, q19⟩ := row_elem (pre := []) (sp := sp12) f21 q15
           obtain rfl := q18
           obtain ⟨u10, q20, h⟩ := bind_some h
           have q21 := chk_some q20
           refine Swp.drawL 10 [] [] (fun W1 => [.det (osv ob14 0 (List.length out13) cap14), .det (Value.int .u8 c10), .rel (fun v Z w' => ∃ b12 cs15, (osv (some b12) 0 1 1) = v ∧ OwnC w' (some b12) (Cont.cells ([] ++ (cs15 ++ []))) ∧ Els (rInt .u8) (Zv W1 w.heap.size None [some b1, ob14, ob12] Z w') cs15 [c10] ∧ (cs15 ++ [] : List Value).length = 1 * (rInt .u8).sz ∧ True) footV, .det (Value.string (s8 (bstr [c10]))), .det (osv ob12 0 (List.length r12) cap12), .det (Value.int .i64 i10), .det (Value.pointer (some ⟨b11, (0 + n10 * rStr.sz), none⟩)), .det (Value.string (s8 x12)), .det (Value.string (s8 ((bstr [c10]) ++ x12))), .rel (fun v Z w' => ∃ b13 cs16, (osv (some b13) 0 1 1) = v ∧ OwnC w' (some b13) (Cont.cells ([] ++ (cs16 ++ []))) ∧ Els rStr (Zv W1 w.heap.size None [some b1, ob14, ob12] Z w') cs16 [((bstr [c10]) ++ x12)] ∧ (cs16 ++ [] : List Value).length = 1 * rStr.sz ∧ True) footV]) mixed rfl rfl rfl (fun _ => rfl) (fun _ => rfl) ?_ ?_
           ·
            intro W1 _
            exact ⟨fun v Z Z' w w' hΦ hz _ _ hs => by obtain ⟨b12, cs15, rfl, hO10, hE18, hc21, -⟩ := hΦ; exact ⟨b12, cs15, rfl, (hO10.stay (fun b hb => by cases hb; exact List.mem_cons_self) hs), (hE18.mono (Zv.stay hz hs)), hc21, trivial⟩, ⟨fun v Z Z' w w' hΦ hz _ _ hs => by obtain ⟨b13, cs16, rfl, hO11, hE19, hc22, -⟩ := hΦ; exact ⟨b13, cs16, rfl, (hO11.stay (fun b hb => by cases hb; exact List.mem_cons_self) hs), (hE19.mono (Zv.stay hz hs)), hc22, trivial⟩, trivial⟩⟩
           ·
            intro w18 hE20
            have hL22 := hL21.ext hE20
            have K21 := ke hL21 hE20
            refine DrH.de (fun _ _ => GOp.op (OpY.move rfl (er rfl))) ?_
            refine DrH.de (fun _ _ => GOp.op (OpY.move rfl (er rfl))) ?_
            refine DrH.rel ?_ ?_
            ·
             rintro w21 Z15 hE23 hZ12 ⟨-⟩
             have hE24 : Els (rInt .u8) (Zv w18 w.heap.size None [some b1, ob14, ob12] Z15 w21) [(Value.int .u8 c10)] [c10] := (Els.cons (a := [(Value.int .u8 c10)]) rfl Els.nil)
             refine GOp.op (OpY.litRow (r := (rInt .u8)) (vs := [(Value.int .u8 c10)]) (css := [[(Value.int .u8 c10)]]) (xs := [c10]) Tryd.underlying62 ti5 (Nat.le_of_ble_eq_true rfl) rfl rfl ⟨rfl, rfl, trivial⟩ (Nat.le_of_ble_eq_true rfl) hE24 rfl (Go.X.Loc.begin0 w21) ?_)
             intro b12 w22 hc23 hL23 hS11
             have hN11 : NewOwn w21 w22 [some b12] [Cont.cells ([] ++ ([(Value.int .u8 c10)] ++ []))] := hL23.newOwn [0] rfl rfl rfl
             exact Made.ext hL23.done hZ12 hN11 (fun _ h => h) ⟨b12, [(Value.int .u8 c10)], rfl, hN11.2.2.1, (hE24.mono (Zv.grow hL23.done)), hc23, trivial⟩
            intro z2
            refine DrH.det ?_ ?_
            ·
             rintro w23 Z16 hE25 hZ13 ⟨⟨⟨b12, cs15, rfl, hO10, hE18, hc21, -⟩, hB2⟩, -⟩
             refine GOp.op (OpY.strRow (pre := []) (cs := cs15) (sp := []) (xs := [c10]) Tryd.underlying62 Tryd.underlying9 Tryd.underlying5 rfl hO10 hE18 rfl ?_)
             exact ⟨Ext.refl _, rfl⟩
            refine DrH.de (fun _ _ => GOp.op (OpY.move rfl (er rfl))) ?_
            refine DrH.de (fun _ _ => GOp.op (OpY.move rfl (er rfl))) ?_
            refine DrH.de (fun _ _ => GOp.op (OpY.ixRowD (r := rStr) (b := b11) (o := 0) (n := n10) (m := (List.length r12)) (xs := r12) (q := (0 + n10 * rStr.sz)) Tryd.underlying35 ti9 (osv_some hb10) rfl rfl q14 q16 rfl (er rfl))) ?_
            refine DrH.de (fun _ hE29 => GOp.op (OpY.ldElem1 Tryd.underlying9 rfl rfl (own_some hb10 ((hL22.ext hE29).at 2 rfl rfl)) q19 (er rfl))) ?_
            refine DrH.de (fun _ _ => GOp.op (OpY.sAdd (x := (bstr [c10])) (y := x12) rfl rfl q21 (er rfl))) ?_
            refine DrH.rel ?_ ?_
            ·
             rintro w29 Z22 hE31 hZ19 ⟨-, -⟩
             have hE32 : Els rStr (Zv w18 w.heap.size None [some b1, ob14, ob12] Z22 w29) [(Value.string (s8 ((bstr [c10]) ++ x12)))] [((bstr [c10]) ++ x12)] := (Els.cons (a := [(Value.string (s8 ((bstr [c10]) ++ x12)))]) rfl Els.nil)
             refine GOp.op (OpY.litRow (r := rStr) (vs := [(Value.string (s8 ((bstr [c10]) ++ x12)))]) (css := [[(Value.string (s8 ((bstr [c10]) ++ x12)))]]) (xs := [((bstr [c10]) ++ x12)]) Tryd.underlying35 ti9 (Nat.le_of_ble_eq_true rfl) rfl rfl ⟨rfl, rfl, trivial⟩ (Nat.le_of_ble_eq_true rfl) hE32 rfl (Go.X.Loc.begin0 w29) ?_)
             intro b13 w30 hc24 hL25 hS12
             have hN12 : NewOwn w29 w30 [some b13] [Cont.cells ([] ++ ([(Value.string (s8 ((bstr [c10]) ++ x12)))] ++ []))] := hL25.newOwn [0] rfl rfl rfl
             exact Made.ext hL25.done hZ19 hN12 (fun _ h => h) ⟨b13, [(Value.string (s8 ((bstr [c10]) ++ x12)))], rfl, hN12.2.2.1, (hE32.mono (Zv.grow hL25.done)), hc24, trivial⟩
            intro z9
            refine DrH.fin0 ?_
            rintro w31 Z23 hE33 hZ20 ⟨⟨⟨b13, cs16, rfl, hO11, hE19, hc22, -⟩, hB9⟩, ⟨⟨b12, cs15, rfl, hO10, hE18, hc21, -⟩, hB2⟩, -⟩ ap10
            have hB10 : ∀ b, some b ∈ ([some b13, some b12] : List (Option Nat)) → w18.heap.size ≤ b ∧ ¬ Z23 b := by
             intro b hb
             rcases List.mem_cons.1 hb with hb' | hb
             ·
              have := hB9 b (by rw [hb']; exact List.mem_cons_self); exact ⟨this.1, this.2.2⟩
             rcases List.mem_cons.1 hb with hb' | hb
             ·
              have := hB2 b (by rw [hb']; exact List.mem_cons_self); exact ⟨this.1, this.2.2⟩
             cases hb
            replace hE19 := hE19.mono (Zv.fin hL22 hZ20 hB10)
            replace hE18 := hE18.mono (Zv.fin hL22 hZ20 hB10)
            have hN13 : NewOwn w18 w31 [some b13, some b12] [Cont.cells ([] ++ (cs16 ++ [])), Cont.cells ([] ++ (cs15 ++ []))] := (NewOwn.cons (NewOwn.cons NewOwn.nil hO10 (fun b hb => (hB10 b (by rw [← hb]; simp)).1) (fun b _ hb => by cases hb)) hO11 (fun b hb => (hB10 b (by rw [← hb]; simp)).1) (fun b hb hm => (List.mem_cons.1 hm).elim (fun e => apE (ap10.1) rfl rfl b ((footV_osv (ob := (some b13)) (o := 0) (n := 1) (cap := 1)).2 hb) ((footV_osv (ob := (some b12)) (o := 0) (n := 1) (cap := 1)).2 (by rw [e]; exact List.mem_cons_self))) (fun hm => by cases hm)))
            have hp15 := hL22.adoptL hE33 hN13
            have hL26 := hp15.1
            have K22 := ks w hp15.2
            obtain ⟨x13, q22, h⟩ := bind_some h
            obtain ⟨q23, q24, q25⟩ := apnd_some q22
            have f22 := ((hE17.mono (K21 None)).mono (K22 None))
            refine Rl.op (OpY.apRowX (r := rStr) (H := (Hv w.heap.size None [some b13, some b12, some b1, ob14, ob12] w31)) (cs := cs14) (sp := sp14) (xs := out13) (ys := [((bstr [c10]) ++ x12)]) (Y := x13) (n := (List.length out13)) (cap := cap14) (i := 3) Tryd.underlying35 ti9 rfl rfl rfl rfl hL26 rfl rfl f22 rfl hc19 (Src.row (pre := []) (o := 0) (n := 1) (cap := 1) (hL26.at 0 rfl rfl) hE19 rfl rfl rfl) (Els.anyH (fun _ _ _ _ h => h) hE19) q23 q24 q25 ?_)
            intro ob15 cap15 sp15 cs17 w32 hE34 hc25 (hL27 : Go.X.Loc [] [] w w32 [some b13, some b12, some b1, ob15, ob12] [Cont.cells ([] ++ (cs16 ++ [])), Cont.cells ([] ++ (cs15 ++ [])), Cont.cells [d_v, d_v1], Cont.cells ([] ++ (cs17 ++ sp15)), Cont.cells ([] ++ (cs12 ++ sp12))]) hS13
            have K23 := ks w hS13
            refine Rl.op (OpY.assign (v := (osv ob15 0 (List.length x13) cap15)) rfl ?_)
            refine Rl.nil (Swp.pop_blk (Swp.region rfl (Rl.op (OpY.move (v := (Value.int .i64 i10)) rfl ?_))))
            refine Rl.op (OpY.add (x := i10) (y := 1) (z := (iw (i10 + 1))) rfl rfl rfl ?_)
            refine Rl.op (OpY.assign (v := (Value.int .i64 (iw (i10 + 1)))) rfl ?_)
            refine Rl.nil ?_
            have hp16 := hL27.pick [2, 3, 4] rfl rfl rfl
            have hL28 : Go.X.Loc [] [] w w32 [some b1, ob15, ob12] [Cont.cells [d_v, d_v1], Cont.cells ([] ++ (cs17 ++ sp15)), Cont.cells ([] ++ (cs12 ++ sp12))] := hp16.1
            have K24 := ks w hp16.2
            have f23 := ((hE34.mono (K23 None)).mono (K24 None))
            obtain rfl := Option.some.inj h
            refine Swp.pop_back ⟨(x13, (iw (i10 + 1))), rfl, ?_⟩
            exact ⟨ob15, cap15, sp15, cs17, (List.length x13), _, (upds_sym ⟨rfl, rfl, rfl, rfl, rfl, rfl, rfl, rfl, trivial⟩), hL28, (Keep.trans (Keep.trans (Keep.trans (Keep.trans K20 K21) K22) K23) K24), f23, rfl, hc25, trivial⟩
          ·
           replace h := ite_f hc20 h
           refine Swp.exit rfl ?_
           have hp17 := hL21.pick [0, 1] rfl rfl rfl
           have hL29 : Go.X.Loc [] [] w w17 [some b1, ob14] [Cont.cells [d_v, d_v1], Cont.cells ([] ++ (cs14 ++ sp14))] := hp17.1
           have K25 := ks w hp17.2
           have f24 := (hE17.mono (K25 None))
           obtain rfl := Option.some.inj h
           obtain rfl := hd11 _ rfl
           replace h := g13
           try dsimp only at h
           skip
           refine Swp.pop_back ?_
           exact ⟨out13, ob14, cap14, sp14, cs14, (List.length out13), _, rfl, (upds_sym ⟨rfl, rfl, rfl, rfl, rfl, rfl, trivial⟩), hL29, (Keep.trans K20 K25), f24, rfl, hc19, trivial⟩
         ·
          rintro _ w33 ⟨out12, ob13, cap13, sp13, cs13, ln12, u, rfl, rfl, hL30, K26, hE35, rfl, hc26, -⟩
          replace h := g13
          try dsimp only at h
          refine Swp.pop_blk (Swp.region rfl (Rl.op (OpY.move (v := (Value.int .u8 c10)) rfl ?_)))
          refine Rl.op (OpY.add (x := c10) (y := 1) (z := (uw8 (c10 + 1))) rfl rfl rfl ?_)
          refine Rl.op (OpY.assign (v := (Value.int .u8 (uw8 (c10 + 1)))) rfl ?_)
          refine Rl.nil ?_
          obtain rfl := Option.some.inj h
          refine Swp.pop_back ⟨(out12, (uw8 (c10 + 1))), rfl, ?_⟩
          exact ⟨ob13, cap13, sp13, cs13, (List.length out12), _, (upds_sym ⟨rfl, rfl, rfl, rfl, rfl, rfl, trivial⟩), hL30, (Keep.trans (Keep.trans (Keep.trans (Keep.trans K15 K16) K17) K18) K26), hE35, rfl, hc26, trivial⟩
        ·
         replace h := ite_f hc17 h
         refine Swp.skip (Swp.pop_blk (Swp.region rfl (Rl.op (OpY.move (v := (Value.int .u8 c10)) rfl ?_))))
         refine Rl.op (OpY.add (x := c10) (y := 1) (z := (uw8 (c10 + 1))) rfl rfl rfl ?_)
         refine Rl.op (OpY.assign (v := (Value.int .u8 (uw8 (c10 + 1)))) rfl ?_)
         refine Rl.nil ?_
         have f25 := ((hE13.mono (K16 None)).mono (K17 None))
         obtain rfl := Option.some.inj h
         refine Swp.pop_back ⟨(out11, (uw8 (c10 + 1))), rfl, ?_⟩
         exact ⟨ob11, cap11, sp11, cs11, (List.length out11), _, (upds_sym ⟨rfl, rfl, rfl, rfl, rfl, rfl, trivial⟩), hL18, (Keep.trans (Keep.trans K15 K16) K17), f25, rfl, hc14, trivial⟩
      ·
       replace h := ite_f hc15 h
       refine Swp.exit rfl ?_
       have hp18 := hL16.pick [1] rfl rfl rfl
       have hL31 : Go.X.Loc [] [] w w13 [ob11] [Cont.cells ([] ++ (cs11 ++ sp11))] := hp18.1
       have K27 := ks w hp18.2
       have f26 := (hE13.mono (K27 None))
       obtain rfl := Option.some.inj h
       obtain rfl := hd10 _ rfl
       replace h := g11
       try dsimp only at h
       skip
       refine Swp.pop_back ?_
       exact ⟨out11, ob11, cap11, sp11, cs11, (List.length out11), _, rfl, (upds_sym ⟨rfl, trivial⟩), hL31, (Keep.trans K15 K27), f26, rfl, hc14, trivial⟩
     ·
      rintro _ w34 ⟨out10, ob10, cap10, sp10, cs10, ln10, u, rfl, rfl, hL32, K28, hE36, rfl, hc27, -⟩
      replace h := g11
      try dsimp only at h
      refine Swp.seq (Swp.region rfl (Rl.op (OpY.move (v := (osv ob10 0 (List.length out10) cap10)) rfl ?_)))
      refine Rl.op (OpY.assign (v := (osv ob10 0 (List.length out10) cap10)) rfl ?_)
      refine Rl.nil (Swp.ret ?_)
      obtain rfl := Option.some.inj h
      refine ⟨[(osv ob10 0 (List.length out10) cap10)], ⟨rfl, trivial⟩, ⟨_, rfl, hL32.done, ?_⟩⟩
      exact ⟨ob10, cap10, cs10, sp10, rfl, (hL32.newOwn [0] rfl rfl rfl), (hE36.mono (Hv.pick [0] rfl)), hc27, trivial⟩
theorem rWords_w (N : Nat) (d : ADfa) (length : Int) (most : Int) (d_v : Value) (d_v1 : Value) (w : World) (S : Nat → Prop) (d_h : Rs rBool (Hv w.heap.size S [] w) d_v d.Accept) (d_h1 : Rs (rSl rAEdge) (Hv w.heap.size S [] w) d_v1 d.Edges) (r : (List (List UInt8))) (h : rWords N d length most = some r) :
  Calls Tryd.prog 17 #[(Value.agg #[d_v, d_v1]), (Value.int .i64 length), (Value.int .i64 most)] w (Ret w (fun v w' => ∃ (ob0 : Option Nat) (cap0 : Nat) (cs0 : List Value) (sp0 : List Value), (osv ob0 0 (List.length r) cap0) = v ∧ NewOwn w w' [ob0] [Cont.cells ([] ++ (cs0 ++ sp0))] ∧ Els rStr (Hv w.heap.size None [ob0] w') cs0 r ∧ (cs0 ++ sp0).length = cap0 * rStr.sz ∧ True)) := by
 unfold rWords at h
 have hL : Go.X.Loc [] [] w w [] [] := Go.X.Loc.begin0 w
 refine calls_of (l := [(Value.agg #[d_v, d_v1]), (Value.int .i64 length), (Value.int .i64 most)]) (rl := [.tmp 6]) (n := 17) Tryd.func17 rfl rfl rfl (Nat.le_of_ble_eq_true rfl) ?_
 refine Swp.seq (Swp.region rfl (Rl.op (OpY.box (cs := [d_v, d_v1]) rfl rfl hL ?_)))
 intro b1 w2 hL3 hS5
 have K4 := ks w hS5
 refine Rl.op (OpY.assign (v := (Value.slice none 0 0)) rfl ?_)
 refine Rl.nil (Swp.seq (Swp.seq ?_))
 obtain ⟨s9, h, g10⟩ := bind_some h
 refine Swp.join (fun e w' => ∃ (x8 : Bool) (u : Env), x8 = s9 ∧ e = upds [(1, (Value.int .i64 length)), (2, (Value.int .i64 most)), (3, (Value.pointer (some ⟨b1, 0, none⟩))), (12, (Value.bool x8))] u ∧ Go.X.Loc [] [] w w' [some b1] [Cont.cells [d_v, d_v1]] ∧ Keep w.heap.size [some b1] w2 [some b1] w' ∧ True) ?_ ?_
 ·
  refine Swp.region rfl (Rl.op (OpY.move (v := (Value.int .i64 length)) rfl ?_))
  refine Rl.op (OpY.lss (x := length) (y := 0) ((length : Int) < 0) rfl rfl Iff.rfl ?_)
  refine Rl.op (OpY.move (v := (Value.bool (decide ((length : Int) < 0)))) rfl ?_)
  by_cases hc10 : (length : Int) < 0
  ·
   replace h := ite_t hc10 h
   refine Rl.no rfl rfl (decide_eq_true hc10) ?_
   refine Rl.no rfl rfl (decide_eq_true hc10) ?_
   refine Rl.op (OpY.pick_t (t := (decide ((length : Int) < 0))) (v := (Value.bool true)) rfl (decide_eq_true hc10) rfl ?_)
   refine Rl.nil ?_
   obtain rfl := Option.some.inj h
   refine Swp.pop_back ?_
   exact ⟨true, _, rfl, (upds_sym ⟨rfl, rfl, rfl, rfl, trivial⟩), hL3, Keep.refl, trivial⟩
  ·
   replace h := ite_f hc10 h
   refine Rl.yes rfl rfl (decide_eq_false hc10) (OpY.move (v := (Value.int .i64 most)) rfl ?_)
   refine Rl.yes rfl rfl (decide_eq_false hc10) (OpY.lss (x := most) (y := 0) ((most : Int) < 0) rfl rfl Iff.rfl ?_)
   refine Rl.op (OpY.pick_f (t := (decide ((length : Int) < 0))) (v := (Value.bool (decide ((most : Int) < 0)))) rfl (decide_eq_false hc10) rfl ?_)
   refine Rl.nil ?_
   obtain rfl := Option.some.inj h
   refine Swp.pop_back ?_
   exact ⟨(decide ((most : Int) < 0)), _, rfl, (upds_sym ⟨rfl, rfl, rfl, rfl, trivial⟩), hL3, Keep.refl, trivial⟩
 ·
  rintro _ w10 ⟨x8, u, rfl, rfl, hL10, K10, -⟩
  replace h := g10
  try dsimp only at h
  refine Swp.cond_b x8 rfl (fun hc11 => ?_) (fun hc11 => ?_)
  ·
   replace h := ite_t hc11 h
   refine Swp.seq (Swp.region rfl (Rl.op (OpY.assign (v := (Value.slice none 0 0)) rfl ?_)))
   refine Rl.nil ?_
   have hp10 := hL10.addNil
   have hL11 : Go.X.Loc [] [] w w10 [none, some b1] [Cont.cells ([] ++ ([] ++ [])), Cont.cells [d_v, d_v1]] := hp10.1
   have hE10 : Els rStr (Hv w.heap.size None [none, some b1] w10) [] [] := Els.nil
   refine Swp.ret ?_
   obtain rfl := Option.some.inj h
   refine ⟨[(osv none 0 (List.length ([] : (List (List UInt8)))) 0)], ⟨rfl, trivial⟩, ⟨_, rfl, hL11.done, ?_⟩⟩
   exact ⟨none, 0, [], [], rfl, (hL11.newOwn [0] rfl rfl rfl), (hE10.mono (Hv.pick [0] rfl)), (show ([] ++ [] : List Value).length = 0 * rStr.sz by simp), trivial⟩
  ·
   replace h := ite_f hc11 h
   refine Swp.skip (Swp.seq (Swp.region rfl (Rl.op (OpY.ldBoxA (vs := [d_v, d_v1]) Tryd.underlying25 rfl ti25 rfl (hL10.at 0 rfl rfl) rfl rfl ?_))))
   refine Rl.op (OpY.move (v := (Value.int .i64 length)) rfl ?_)
   refine Rl.op (OpY.move (v := (Value.int .i64 most)) rfl ?_)
   obtain ⟨r10, q10, h⟩ := bind_some h
   have f10 := ((d_h.mono (K4 S)).mono (K10 S))
   have f11 := ((d_h1.mono (K4 S)).mono (K10 S))
   refine Rl.op (OpY.call en35 rfl rfl (rwords_w N d 0 length most d_v d_v1 _ Any (f10.mono vw_any) (f11.mono vw_any) r10 q10) ?_)
   rintro _ w11 hE11 ⟨ob10, cap10, cs10, sp10, rfl, hN10, hE12, hc12, -⟩
   replace hE12 := hE12.mono (Hv.freshO (S := None) hL10 [ob10])
   have hp11 := hL10.adoptL hE11 hN10
   have hL12 := hp11.1
   refine Rl.op (OpY.assign (v := (osv ob10 0 (List.length r10) cap10)) rfl ?_)
   refine Rl.nil (Swp.ret ?_)
   obtain rfl := Option.some.inj h
   refine ⟨[(osv ob10 0 (List.length r10) cap10)], ⟨rfl, trivial⟩, ⟨_, rfl, hL12.done, ?_⟩⟩
   exact ⟨ob10, cap10, cs10, sp10, rfl, (hL12.newOwn [0] rfl rfl rfl), (hE12.mono (Hv.pick [0] rfl)), hc12, trivial⟩
theorem rShortest_w (N : Nat) (d : ADfa) (d_v : Value) (d_v1 : Value) (w : World) (S : Nat → Prop) (d_h : Rs rBool (Hv w.heap.size S [] w) d_v d.Accept) (d_h1 : Rs (rSl rAEdge) (Hv w.heap.size S [] w) d_v1 d.Edges) (r : ((List UInt8) × Bool)) (h : rShortest N d = some r) :
  Calls Tryd.prog 15 #[(Value.agg #[d_v, d_v1])] w (Ret w (fun v w' => .tuple #[(Value.string (s8 r.1)), (Value.bool r.2)] = v ∧ True)) := by
 unfold rShortest at h
 have hL : Go.X.Loc [] [] w w [] [] := Go.X.Loc.begin0 w
 refine calls_of (l := [(Value.agg #[d_v, d_v1])]) (rl := [.tmp 2, .tmp 3]) (n := 20) Tryd.func15 rfl rfl rfl (Nat.le_of_ble_eq_true rfl) ?_
 refine Swp.seq (Swp.region rfl (Rl.op (OpY.box (cs := [d_v, d_v1]) rfl rfl hL ?_)))
 intro b1 w2 hL3 hS5
 have K4 := ks w hS5
 refine Rl.op (OpY.assign (v := (Value.string (s8 ([] : List UInt8)))) rfl ?_)
 refine Rl.op (OpY.assign (v := (Value.bool false)) rfl ?_)
 refine Rl.nil (Swp.seq (Swp.seq (Swp.region rfl (Rl.op (OpY.assign (v := (Value.int .i64 0)) rfl ?_)))))
 refine Rl.nil ?_
 obtain ⟨s10, hl10, g10⟩ := bind_some h
 refine Swp.join (fun e w' => ∃  (u : Env), (Sum.inl ()) = s10 ∧ e = upds [] u ∧ Go.X.Loc [] [] w w' [] [] ∧ Keep w.heap.size [some b1] w2 [] w' ∧ True) ?_ ?_
 ·
  refine Swp.block ?_
  refine Swp.loopM hl10 (fun (ss : Int) (e : Env) (w' : World) => match ss with | n10 => ∃ (u : Env), e = upds [(1, (Value.pointer (some ⟨b1, 0, none⟩))), (4, (Value.int .i64 n10))] u ∧ Go.X.Loc [] [] w w' [some b1] [Cont.cells [d_v, d_v1]] ∧ Keep w.heap.size [some b1] w2 [some b1] w' ∧ True) ⟨_, (upds_sym ⟨rfl, rfl, trivial⟩), hL3, Keep.refl, trivial⟩ ?_
  rintro n10 oo _ w10 ⟨u, rfl, hL10, K10, -⟩ h hd10
  rw [rShortest_b1] at h
  refine Swp.seq (Swp.seq (Swp.region rfl (Rl.op (OpY.move (v := (Value.int .i64 n10)) rfl ?_))))
  refine Rl.op (OpY.fieldAddr (q := 0) Tryd.underlying25 rfl ti22 rfl rfl rfl ?_)
  refine Rl.op (OpY.ldBox1 (v := d_v) Tryd.underlying22 rfl rfl (hL10.at 0 rfl rfl) rfl ?_)
  have f10 := ((d_h.mono (K4 S)).mono (K10 S))
  refine Rl.op (OpY.lenRo (v := d_v) Tryd.underlying22 rfl f10 ?_)
  refine Rl.op (OpY.lss (x := n10) (y := (List.length d.Accept : Int)) ((n10 : Int) < (List.length d.Accept : Int)) rfl rfl Iff.rfl ?_)
  refine Rl.nil ?_
  refine Swp.cond_d ((n10 : Int) < (List.length d.Accept : Int)) rfl (fun hc10 => ?_) (fun hc10 => ?_)
  ·
   replace h := ite_t hc10 h
   refine Swp.skip (Swp.seq (Swp.block (Swp.seq (Swp.region rfl (Rl.op (OpY.ldBoxA (vs := [d_v, d_v1]) Tryd.underlying25 rfl ti25 rfl (hL10.at 0 rfl rfl) rfl rfl ?_))))))
   refine Rl.op (OpY.move (v := (Value.int .i64 n10)) rfl ?_)
   obtain ⟨r10, q10, h⟩ := bind_some h
   have f11 := ((d_h1.mono (K4 S)).mono (K10 S))
   refine Rl.op (OpY.call en34 rfl rfl (rCan_w N d 0 n10 d_v d_v1 _ Any (f10.mono vw_any) (f11.mono vw_any) r10 q10) ?_)
   rintro _ w11 hE10 ⟨rfl, -⟩
   have hL11 := hL10.ext hE10
   have K11 := ke hL10 hE10
   refine Rl.nil ?_
   refine Swp.cond_b r10 rfl (fun hc11 => ?_) (fun hc11 => ?_)
   ·
    replace h := ite_t hc11 h
    refine Swp.seq (Swp.region rfl (Rl.op (OpY.ldBoxA (vs := [d_v, d_v1]) Tryd.underlying25 rfl ti25 rfl (hL11.at 0 rfl rfl) rfl rfl ?_)))
    refine Rl.op (OpY.move (v := (Value.int .i64 n10)) rfl ?_)
    obtain ⟨r11, q11, h⟩ := bind_some h
    have f12 := (f10.mono (K11 S))
    have f13 := (f11.mono (K11 S))
    refine Rl.op (OpY.call en35 rfl rfl (rwords_w N d 0 n10 1 d_v d_v1 _ Any (f12.mono vw_any) (f13.mono vw_any) r11 q11) ?_)
    rintro _ w12 hE11 ⟨ob10, cap10, cs10, sp10, rfl, hN10, hE12, hc12, -⟩
    replace hE12 := hE12.mono (Hv.freshO (S := None) hL11 [ob10])
    have hp10 := hL11.adoptL hE11 hN10
    have hL12 := hp10.1
    obtain ⟨x10, q12, h⟩ := bind_some h
    obtain ⟨n11, q13, q14⟩ := idx_some q12
    have q15 := (List.getElem?_eq_some_iff.1 q14).1
    obtain ⟨b10, hb10⟩ := hL12.row_some 0 rfl rfl (row_pos (pre := []) hE12 q14 (Nat.lt_of_sub_eq_succ rfl))
    refine Rl.op (OpY.ixRowD (r := rStr) (b := b10) (o := 0) (n := n11) (m := (List.length r11)) (xs := r11) (q := (0 + n11 * rStr.sz)) Tryd.underlying35 ti9 (osv_some hb10) rfl rfl q13 q15 rfl ?_)
    obtain ⟨vs10, q16, q17, q18⟩ := row_elem (pre := []) (sp := sp10) hE12 q14
    obtain rfl := q17
    refine Rl.op (OpY.ldElem1 (v := (Value.string (s8 x10))) Tryd.underlying9 rfl rfl (own_some hb10 (hL12.at 0 rfl rfl)) q18 ?_)
    refine Rl.op (OpY.assign (v := (Value.string (s8 x10))) rfl ?_)
    refine Rl.op (OpY.assign (v := (Value.bool true)) rfl ?_)
    refine Rl.nil (Swp.ret ?_)
    obtain rfl := Option.some.inj h
    obtain rfl := hd10 _ rfl
    replace h := g10
    try dsimp only at h
    obtain rfl := Option.some.inj h
    refine ⟨[(Value.string (s8 x10)), (Value.bool true)], ⟨rfl, rfl, trivial⟩, ⟨_, rfl, hL12.done, ?_⟩⟩
    exact ⟨rfl, trivial⟩
   ·
    replace h := ite_f hc11 h
    refine Swp.skip (Swp.pop_blk (Swp.region rfl (Rl.op (OpY.move (v := (Value.int .i64 n10)) rfl ?_))))
    refine Rl.op (OpY.add (x := n10) (y := 1) (z := (iw (n10 + 1))) rfl rfl rfl ?_)
    refine Rl.op (OpY.assign (v := (Value.int .i64 (iw (n10 + 1)))) rfl ?_)
    refine Rl.nil ?_
    obtain rfl := Option.some.inj h
    refine Swp.pop_back ⟨(iw (n10 + 1)), rfl, ?_⟩
    exact ⟨_, (upds_sym ⟨rfl, rfl, trivial⟩), hL11, (Keep.trans K10 K11), trivial⟩
  ·
   replace h := ite_f hc10 h
   refine Swp.exit rfl ?_
   have hp11 := hL10.pick [] rfl rfl rfl
   have hL13 : Go.X.Loc [] [] w w10 [] [] := hp11.1
   have K12 := ks w hp11.2
   obtain rfl := Option.some.inj h
   obtain rfl := hd10 _ rfl
   replace h := g10
   try dsimp only at h
   skip
   refine Swp.pop_back ?_
   exact ⟨_, rfl, (upds_sym trivial), hL13, (Keep.trans K10 K12), trivial⟩
 ·
  rintro _ w13 ⟨u, rfl, rfl, hL14, K13, -⟩
  replace h := g10
  try dsimp only at h
  refine Swp.seq (Swp.region rfl (Rl.op (OpY.assign (v := (Value.string (s8 ([] : List UInt8)))) rfl ?_)))
  refine Rl.op (OpY.assign (v := (Value.bool false)) rfl ?_)
  refine Rl.nil (Swp.ret ?_)
  obtain rfl := Option.some.inj h
  refine ⟨[(Value.string (s8 ([] : List UInt8))), (Value.bool false)], ⟨rfl, rfl, trivial⟩, ⟨_, rfl, hL14.done, ?_⟩⟩
  exact ⟨rfl, trivial⟩
theorem rFew_w (N : Nat) (d : ADfa) (d_v : Value) (d_v1 : Value) (w : World) (S : Nat → Prop) (d_h : Rs rBool (Hv w.heap.size S [] w) d_v d.Accept) (d_h1 : Rs (rSl rAEdge) (Hv w.heap.size S [] w) d_v1 d.Edges) (r : Bool) (h : rFew N d = some r) :
  Calls Tryd.prog 12 #[(Value.agg #[d_v, d_v1])] w (Ret w (fun v w' => (Value.bool r) = v ∧ True)) := by
 unfold rFew at h
 have hL : Go.X.Loc [] [] w w [] [] := Go.X.Loc.begin0 w
 refine calls_of (l := [(Value.agg #[d_v, d_v1])]) (rl := [.tmp 2]) (n := 11) Tryd.func12 rfl rfl rfl (Nat.le_of_ble_eq_true rfl) ?_
 refine Swp.seq (Swp.region rfl (Rl.op (OpY.box (cs := [d_v, d_v1]) rfl rfl hL ?_)))
 intro b1 w2 hL3 hS5
 have K4 := ks w hS5
 refine Rl.op (OpY.assign (v := (Value.bool false)) rfl ?_)
 refine Rl.nil (Swp.seq (Swp.region rfl (Rl.op (OpY.fieldAddr (q := 0) Tryd.underlying25 rfl ti22 rfl rfl rfl ?_))))
 refine Rl.op (OpY.ldBox1 (v := d_v) Tryd.underlying22 rfl rfl (hL3.at 0 rfl rfl) rfl ?_)
 have f6 := (d_h.mono (K4 S))
 refine Rl.op (OpY.lenRo (v := d_v) Tryd.underlying22 rfl f6 ?_)
 refine Rl.op (OpY.leq (x := (List.length d.Accept : Int)) (y := 8) (((List.length d.Accept : Int) : Int) ≤ 8) rfl rfl Iff.rfl ?_)
 refine Rl.op (OpY.move (v := (Value.bool (decide (((List.length d.Accept : Int) : Int) ≤ 8)))) rfl ?_)
 by_cases hc7 : ((List.length d.Accept : Int) : Int) ≤ 8
 ·
  replace h := ite_t hc7 h
  refine Rl.yes rfl rfl (decide_eq_true hc7) (OpY.ldBoxA (vs := [d_v, d_v1]) Tryd.underlying25 rfl ti25 rfl (hL3.at 0 rfl rfl) rfl rfl ?_)
  obtain ⟨r8, q9, h⟩ := bind_some h
  have f10 := (d_h1.mono (K4 S))
  refine Rl.yes rfl rfl (decide_eq_true hc7) (OpY.call en18 rfl rfl (rValid_w N d d_v d_v1 _ Any (f6.mono vw_any) (f10.mono vw_any) r8 q9) ?_)
  rintro _ w10 hE10 ⟨rfl, -⟩
  have hL10 := hL3.ext hE10
  refine Rl.op (OpY.pick_t (t := (decide (((List.length d.Accept : Int) : Int) ≤ 8))) (v := (Value.bool r8)) rfl (decide_eq_true hc7) rfl ?_)
  refine Rl.op (OpY.assign (v := (Value.bool r8)) rfl ?_)
  refine Rl.nil (Swp.ret ?_)
  obtain rfl := Option.some.inj h
  refine ⟨[(Value.bool r8)], ⟨rfl, trivial⟩, ⟨_, rfl, hL10.done, ?_⟩⟩
  exact ⟨rfl, trivial⟩
 ·
  replace h := ite_f hc7 h
  refine Rl.no rfl rfl (decide_eq_false hc7) ?_
  refine Rl.no rfl rfl (decide_eq_false hc7) ?_
  refine Rl.op (OpY.pick_f (t := (decide (((List.length d.Accept : Int) : Int) ≤ 8))) (v := (Value.bool false)) rfl (decide_eq_false hc7) rfl ?_)
  refine Rl.op (OpY.assign (v := (Value.bool false)) rfl ?_)
  refine Rl.nil (Swp.ret ?_)
  obtain rfl := Option.some.inj h
  refine ⟨[(Value.bool false)], ⟨rfl, trivial⟩, ⟨_, rfl, hL3.done, ?_⟩⟩
  exact ⟨rfl, trivial⟩
end Go.Proofs.YtckhldmpcddjmaaDoor.WR

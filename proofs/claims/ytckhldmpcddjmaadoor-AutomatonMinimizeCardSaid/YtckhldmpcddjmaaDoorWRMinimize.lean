/- Walks, written by a program of mine (wip/tool); the kernel checks them. -/
import Derived.Test.YtckhldmpcddjmaaDoorProg
import Derived.Test.YtckhldmpcddjmaaDoorZ14
import Derived.Test.YtckhldmpcddjmaaDoorF20
import Derived.Test.YtckhldmpcddjmaaDoorPR
import Derived.Test.YtckhldmpcddjmaaDoorWAMinimize
set_option maxRecDepth 100000
set_option maxHeartbeats 40000000
set_option linter.unusedVariables false
set_option linter.unusedSimpArgs false
namespace Go.Proofs.YtckhldmpcddjmaaDoor.WR
open Go Go.RowKit Go.X Go.D Go.Proofs.YtckhldmpcddjmaaDoor.WF Go.Proofs.YtckhldmpcddjmaaDoor.WA
theorem ti23 : TI Tryd.prog 23 1 24 (Value.slice none 0 0) := TI.mk (by kernel_rfl)
theorem ti39 : TI Tryd.prog 39 1 24 (Value.slice none 0 0) := TI.mk (by kernel_rfl)
theorem ti63 : TI Tryd.prog 63 3 16 (Value.agg #[(Value.int .u8 0), (Value.int .u8 0), (Value.int .i64 0)]) := TI.mk (by kernel_rfl)
theorem ti25 : TI Tryd.prog 25 2 48 (Value.agg #[(Value.slice none 0 0), (Value.slice none 0 0)]) := TI.mk (by kernel_rfl)
theorem en52 : Go.X.Enters Tryd.prog 52 := ⟨Tryd.f52, Tryd.func52, by kernel_rfl, by kernel_rfl⟩
theorem en41 : Go.X.Enters Tryd.prog 41 := ⟨Tryd.f41, Tryd.func41, by kernel_rfl, by kernel_rfl⟩
theorem ti88 : TI Tryd.prog 88 2 16 (Value.agg #[(Value.int .i64 0), (Value.int .i64 0)]) := TI.mk (by kernel_rfl)
theorem pl88 : placesT Tryd.prog 88 = some [(0, 1), (1, 1)] := by kernel_rfl
theorem en51 : Go.X.Enters Tryd.prog 51 := ⟨Tryd.f51, Tryd.func51, by kernel_rfl, by kernel_rfl⟩
theorem en50 : Go.X.Enters Tryd.prog 50 := ⟨Tryd.f50, Tryd.func50, by kernel_rfl, by kernel_rfl⟩
theorem en34 : Go.X.Enters Tryd.prog 34 := ⟨Tryd.f34, Tryd.func34, by kernel_rfl, by kernel_rfl⟩
theorem pl25 : placesT Tryd.prog 25 = some [(0, 1), (1, 1)] := by kernel_rfl
theorem pl63 : placesT Tryd.prog 63 = some [(0, 1), (1, 1), (2, 1)] := by kernel_rfl
theorem en47 : Go.X.Enters Tryd.prog 47 := ⟨Tryd.f47, Tryd.func47, by kernel_rfl, by kernel_rfl⟩
theorem en48 : Go.X.Enters Tryd.prog 48 := ⟨Tryd.f48, Tryd.func48, by kernel_rfl, by kernel_rfl⟩
theorem en49 : Go.X.Enters Tryd.prog 49 := ⟨Tryd.f49, Tryd.func49, by kernel_rfl, by kernel_rfl⟩
theorem en25 : Go.X.Enters Tryd.prog 25 := ⟨Tryd.f25, Tryd.func25, by kernel_rfl, by kernel_rfl⟩
theorem en18 : Go.X.Enters Tryd.prog 18 := ⟨Tryd.f18, Tryd.func18, by kernel_rfl, by kernel_rfl⟩
theorem eq2_88 : Eq2 Tryd.prog 88 := ⟨by kernel_rfl, by kernel_rfl, by kernel_rfl, .i64, .i64, by kernel_rfl⟩
theorem rValid_w (N : Nat) (d : ADfa) (d_v : Value) (d_v1 : Value) (w : World) (S : Nat → Prop) (d_h : Rs rBool (Hv w.heap.size S [] w) d_v d.Accept) (d_h1 : Rs (rSl rAEdge) (Hv w.heap.size S [] w) d_v1 d.Edges) (r : Bool) (h : rValid N d = some r) :
  Calls Tryd.prog 18 #[(Value.agg #[d_v, d_v1])] w (Ret w (fun v w' => (Value.bool r) = v ∧ True)) := by
 unfold rValid at h
 have hL : Go.X.Loc [] [] w w [] [] := Go.X.Loc.begin0 w
 refine calls_of (l := [(Value.agg #[d_v, d_v1])]) (rl := [.tmp 2]) (n := 78) Tryd.func18 rfl rfl rfl (Nat.le_of_ble_eq_true rfl) ?_
 refine Swp.seq (Swp.region rfl (Rl.op (OpY.box (cs := [d_v, d_v1]) rfl rfl hL ?_)))
 intro b1 w2 hL3 hS5
 have K4 := ks w hS5
 refine Rl.op (OpY.assign (v := (Value.bool false)) rfl ?_)
 refine Rl.nil (Swp.seq (Swp.region rfl (Rl.op (OpY.fieldAddr (q := 0) Tryd.underlying25 rfl ti22 rfl rfl rfl ?_))))
 refine Rl.op (OpY.ldBox1 (v := d_v) Tryd.underlying22 rfl rfl (hL3.at 0 rfl rfl) rfl ?_)
 have f6 := (d_h.mono (K4 S))
 refine Rl.op (OpY.lenRo (v := d_v) Tryd.underlying22 rfl f6 ?_)
 refine Rl.op (OpY.assign (v := (Value.int .i64 (List.length d.Accept : Int))) rfl ?_)
 refine Rl.nil (Swp.seq (Swp.seq ?_))
 obtain ⟨s10, h, g10⟩ := bind_some h
 refine Swp.join (fun e w' => ∃ (x10 : Bool) (u : Env), x10 = s10 ∧ e = upds [(1, (Value.pointer (some ⟨b1, 0, none⟩))), (3, (Value.int .i64 (List.length d.Accept : Int))), (23, (Value.bool x10))] u ∧ Go.X.Loc [] [] w w' [some b1] [Cont.cells [d_v, d_v1]] ∧ Keep w.heap.size [some b1] w2 [some b1] w' ∧ True) ?_ ?_
 ·
  refine Swp.region rfl (Rl.op (OpY.move (v := (Value.int .i64 (List.length d.Accept : Int))) rfl ?_))
  refine Rl.op (OpY.lss (x := (List.length d.Accept : Int)) (y := 1) (((List.length d.Accept : Int) : Int) < 1) rfl rfl Iff.rfl ?_)
  refine Rl.op (OpY.move (v := (Value.bool (decide (((List.length d.Accept : Int) : Int) < 1)))) rfl ?_)
  by_cases hc10 : ((List.length d.Accept : Int) : Int) < 1
  ·
   replace h := ite_t hc10 h
   refine Rl.no rfl rfl (decide_eq_true hc10) ?_
   refine Rl.no rfl rfl (decide_eq_true hc10) ?_
   refine Rl.op (OpY.pick_t (t := (decide (((List.length d.Accept : Int) : Int) < 1))) (v := (Value.bool true)) rfl (decide_eq_true hc10) rfl ?_)
   refine Rl.op (OpY.move (v := (Value.bool true)) rfl ?_)
   refine Rl.no rfl rfl rfl ?_
   refine Rl.no rfl rfl rfl ?_
   refine Rl.no rfl rfl rfl ?_
   refine Rl.no rfl rfl rfl ?_
   refine Rl.no rfl rfl rfl ?_
   refine Rl.op (OpY.pick_t (t := true) (v := (Value.bool true)) rfl rfl rfl ?_)
   refine Rl.nil ?_
   obtain rfl := Option.some.inj h
   refine Swp.pop_back ?_
   exact ⟨true, _, rfl, (upds_sym ⟨rfl, rfl, rfl, trivial⟩), hL3, Keep.refl, trivial⟩
  ·
   replace h := ite_f hc10 h
   refine Rl.yes rfl rfl (decide_eq_false hc10) (OpY.move (v := (Value.int .i64 (List.length d.Accept : Int))) rfl ?_)
   refine Rl.yes rfl rfl (decide_eq_false hc10) (OpY.gtr (x := (List.length d.Accept : Int)) (y := 4096) (((List.length d.Accept : Int) : Int) > 4096) rfl rfl Iff.rfl ?_)
   refine Rl.op (OpY.pick_f (t := (decide (((List.length d.Accept : Int) : Int) < 1))) (v := (Value.bool (decide (((List.length d.Accept : Int) : Int) > 4096)))) rfl (decide_eq_false hc10) rfl ?_)
   refine Rl.op (OpY.move (v := (Value.bool (decide (((List.length d.Accept : Int) : Int) > 4096)))) rfl ?_)
   by_cases hc11 : ((List.length d.Accept : Int) : Int) > 4096
   ·
    replace h := ite_t hc11 h
    refine Rl.no rfl rfl (decide_eq_true hc11) ?_
    refine Rl.no rfl rfl (decide_eq_true hc11) ?_
    refine Rl.no rfl rfl (decide_eq_true hc11) ?_
    refine Rl.no rfl rfl (decide_eq_true hc11) ?_
    refine Rl.no rfl rfl (decide_eq_true hc11) ?_
    refine Rl.op (OpY.pick_t (t := (decide (((List.length d.Accept : Int) : Int) > 4096))) (v := (Value.bool true)) rfl (decide_eq_true hc11) rfl ?_)
    refine Rl.nil ?_
    obtain rfl := Option.some.inj h
    refine Swp.pop_back ?_
    exact ⟨true, _, rfl, (upds_sym ⟨rfl, rfl, rfl, trivial⟩), hL3, Keep.refl, trivial⟩
   ·
    replace h := ite_f hc11 h
    refine Rl.yes rfl rfl (decide_eq_false hc11) (OpY.fieldAddr (q := 1) Tryd.underlying25 rfl ti23 rfl rfl rfl ?_)
    refine Rl.yes rfl rfl (decide_eq_false hc11) (OpY.ldBox1 (v := d_v1) Tryd.underlying23 rfl rfl (hL3.at 0 rfl rfl) rfl ?_)
    have f10 := (d_h1.mono (K4 S))
    refine Rl.yes rfl rfl (decide_eq_false hc11) (OpY.lenRo (v := d_v1) Tryd.underlying23 rfl f10 ?_)
    refine Rl.yes rfl rfl (decide_eq_false hc11) (OpY.move (v := (Value.int .i64 (List.length d.Accept : Int))) rfl ?_)
    refine Rl.yes rfl rfl (decide_eq_false hc11) (OpY.neq (x := (List.length d.Edges : Int)) (y := (List.length d.Accept : Int)) (((List.length d.Edges : Int) : Int) ≠ (List.length d.Accept : Int)) rfl rfl Iff.rfl ?_)
    refine Rl.op (OpY.pick_f (t := (decide (((List.length d.Accept : Int) : Int) > 4096))) (v := (Value.bool (decide (((List.length d.Edges : Int) : Int) ≠ (List.length d.Accept : Int))))) rfl (decide_eq_false hc11) rfl ?_)
    refine Rl.nil ?_
    obtain rfl := Option.some.inj h
    refine Swp.pop_back ?_
    exact ⟨(decide (((List.length d.Edges : Int) : Int) ≠ (List.length d.Accept : Int))), _, rfl, (upds_sym ⟨rfl, rfl, rfl, trivial⟩), hL3, Keep.refl, trivial⟩
 ·
  rintro _ w10 ⟨x10, u, rfl, rfl, hL10, K10, -⟩
  replace h := g10
  try dsimp only at h
  refine Swp.cond_b x10 rfl (fun hc12 => ?_) (fun hc12 => ?_)
  ·
   replace h := ite_t hc12 h
   refine Swp.seq (Swp.region rfl (Rl.op (OpY.assign (v := (Value.bool false)) rfl ?_)))
   refine Rl.nil (Swp.ret ?_)
   obtain rfl := Option.some.inj h
   refine ⟨[(Value.bool false)], ⟨rfl, trivial⟩, ⟨_, rfl, hL10.done, ?_⟩⟩
   exact ⟨rfl, trivial⟩
  ·
   replace h := ite_f hc12 h
   refine Swp.skip (Swp.seq (Swp.seq (Swp.region rfl (Rl.op (OpY.assign (v := (Value.int .i64 0)) rfl ?_)))))
   refine Rl.nil ?_
   obtain ⟨s11, hl10, g11⟩ := bind_some h
   refine Swp.join (fun e w' => ∃  (u : Env), (Sum.inl ()) = s11 ∧ e = upds [] u ∧ Go.X.Loc [] [] w w' [] [] ∧ Keep w.heap.size [some b1] w10 [] w' ∧ True) ?_ ?_
   ·
    refine Swp.block ?_
    refine Swp.loopM hl10 (fun (ss : Int) (e : Env) (w' : World) => match ss with | i10 => ∃ (u : Env), e = upds [(1, (Value.pointer (some ⟨b1, 0, none⟩))), (3, (Value.int .i64 (List.length d.Accept : Int))), (4, (Value.int .i64 i10))] u ∧ Go.X.Loc [] [] w w' [some b1] [Cont.cells [d_v, d_v1]] ∧ Keep w.heap.size [some b1] w10 [some b1] w' ∧ True) ⟨_, (upds_sym ⟨rfl, rfl, rfl, trivial⟩), hL10, Keep.refl, trivial⟩ ?_
    rintro i10 oo _ w11 ⟨u, rfl, hL11, K11, -⟩ h hd10
    rw [rValid_b1] at h
    refine Swp.seq (Swp.seq (Swp.region rfl (Rl.op (OpY.move (v := (Value.int .i64 i10)) rfl ?_))))
    refine Rl.op (OpY.move (v := (Value.int .i64 (List.length d.Accept : Int))) rfl ?_)
    refine Rl.op (OpY.lss (x := i10) (y := (List.length d.Accept : Int)) ((i10 : Int) < (List.length d.Accept : Int)) rfl rfl Iff.rfl ?_)
    refine Rl.nil ?_
    refine Swp.cond_d ((i10 : Int) < (List.length d.Accept : Int)) rfl (fun hc13 => ?_) (fun hc13 => ?_)
    ·
     replace h := ite_t hc13 h
     refine Swp.skip (Swp.seq (Swp.block (Swp.seq (Swp.region rfl (Rl.op (OpY.assign (v := (Value.int .i64 31)) rfl ?_))))))
     refine Rl.nil (Swp.seq (Swp.region rfl (Rl.op (OpY.assign (v := (Value.int .i64 0)) rfl ?_))))
     refine Rl.nil ?_
     obtain ⟨s12, hl11, g12⟩ := bind_some h
     refine Swp.join (fun e w' => ∃  (u : Env), (Sum.inl ()) = s12 ∧ e = upds [(1, (Value.pointer (some ⟨b1, 0, none⟩))), (3, (Value.int .i64 (List.length d.Accept : Int))), (4, (Value.int .i64 i10))] u ∧ Go.X.Loc [] [] w w' [some b1] [Cont.cells [d_v, d_v1]] ∧ Keep w.heap.size [some b1] w11 [some b1] w' ∧ True) ?_ ?_
     ·
      refine Swp.block ?_
      refine Swp.loopM hl11 (fun (ss : (Int × Int)) (e : Env) (w' : World) => match ss with | (last10, k10) => ∃ (u : Env), e = upds [(1, (Value.pointer (some ⟨b1, 0, none⟩))), (3, (Value.int .i64 (List.length d.Accept : Int))), (4, (Value.int .i64 i10)), (5, (Value.int .i64 last10)), (6, (Value.int .i64 k10))] u ∧ Go.X.Loc [] [] w w' [some b1] [Cont.cells [d_v, d_v1]] ∧ Keep w.heap.size [some b1] w11 [some b1] w' ∧ True) ⟨_, (upds_sym ⟨rfl, rfl, rfl, rfl, rfl, trivial⟩), hL11, Keep.refl, trivial⟩ ?_
      rintro ⟨last10, k10⟩ oo _ w12 ⟨u, rfl, hL12, K12, -⟩ h hd11
      rw [rValid_b2] at h
      refine Swp.seq (Swp.seq (Swp.region rfl (Rl.op (OpY.move (v := (Value.int .i64 k10)) rfl ?_))))
      refine Rl.op (OpY.fieldAddr (q := 1) Tryd.underlying25 rfl ti23 rfl rfl rfl ?_)
      refine Rl.op (OpY.ldBox1 (v := d_v1) Tryd.underlying23 rfl rfl (hL12.at 0 rfl rfl) rfl ?_)
      refine Rl.op (OpY.move (v := (Value.int .i64 i10)) rfl ?_)
      obtain ⟨x11, q10, h⟩ := bind_some h
      obtain ⟨n10, q11, q12⟩ := idx_some q10
      have f11 := ((((d_h1.mono (K4 S)).mono (K10 S)).mono (K11 S)).mono (K12 S))
      obtain ⟨b10, o10, c10, vs10, q13, q14, f12, q15⟩ := Rs.get f11 q12
      obtain ⟨v10, rfl, k11⟩ := q15
      refine Rl.op (OpY.ixRoD (r := (rSl rAEdge)) (v := d_v1) (n := n10) (m := (o10 + n10 * (rSl rAEdge).sz)) Tryd.underlying23 ti39 rfl q13 rfl q11 q12 rfl ?_)
      refine Rl.op (OpY.ldRo1 (v := v10) Tryd.underlying39 rfl rfl vw_view f12 ?_)
      refine Rl.op (OpY.lenRo (v := v10) Tryd.underlying39 rfl k11 ?_)
      refine Rl.op (OpY.lss (x := k10) (y := (List.length x11 : Int)) ((k10 : Int) < (List.length x11 : Int)) rfl rfl Iff.rfl ?_)
      refine Rl.nil ?_
      refine Swp.cond_d ((k10 : Int) < (List.length x11 : Int)) rfl (fun hc14 => ?_) (fun hc14 => ?_)
      ·
       replace h := ite_t hc14 h
       refine Swp.skip (Swp.seq (Swp.block (Swp.seq (Swp.region rfl (Rl.op (OpY.fieldAddr (q := 1) Tryd.underlying25 rfl ti23 rfl rfl rfl ?_))))))
       refine Rl.op (OpY.ldBox1 (v := d_v1) Tryd.underlying23 rfl rfl (hL12.at 0 rfl rfl) rfl ?_)
       refine Rl.op (OpY.move (v := (Value.int .i64 i10)) rfl ?_)
       obtain ⟨x12, q16, h⟩ := bind_some h
       obtain ⟨n11, q17, q18⟩ := idx_some q16
       obtain ⟨b11, o11, c11, vs11, q19, q20, f13, q21⟩ := Rs.get f11 q18
       obtain ⟨v11, rfl, k12⟩ := q21
       refine Rl.op (OpY.ixRoD (r := (rSl rAEdge)) (v := d_v1) (n := n11) (m := (o11 + n11 * (rSl rAEdge).sz)) Tryd.underlying23 ti39 rfl q19 rfl q17 q18 rfl ?_)
       refine Rl.op (OpY.ldRo1 (v := v11) Tryd.underlying39 rfl rfl vw_view f13 ?_)
       refine Rl.op (OpY.move (v := (Value.int .i64 k10)) rfl ?_)
       obtain ⟨x13, q22, h⟩ := bind_some h
       obtain ⟨n12, q23, q24⟩ := idx_some q22
       obtain ⟨b12, o12, c12, vs12, q25, q26, f14, q27⟩ := Rs.get k12 q24
       obtain ⟨rfl, -⟩ := rAEdge_open q27
       refine Rl.op (OpY.ixRoD (r := rAEdge) (v := v11) (n := n12) (m := (o12 + n12 * rAEdge.sz)) Tryd.underlying39 ti63 rfl q25 rfl q23 q24 rfl ?_)
       refine Rl.op (OpY.ldRoA (vs := [(Value.int .u8 x13.Low), (Value.int .u8 x13.High), (Value.int .i64 x13.To)]) Tryd.underlying63 rfl ti63 rfl rfl vw_view f14 ?_)
       refine Rl.op (OpY.alloc (cs := [(Value.int .u8 0), (Value.int .u8 0), (Value.int .i64 0)]) ti63 rfl hL12 ?_)
       intro b13 w13 hL13 hS10
       have K13 := ks w hS10
       refine Rl.op0 (OpY.store (vs := [(Value.int .u8 x13.Low), (Value.int .u8 x13.High), (Value.int .i64 x13.To)]) ti63 rfl rfl rfl rfl (ones_cons rfl (ones_cons rfl (ones_cons rfl ones_nil))) hL13 0 rfl rfl (Nat.le_of_ble_eq_true rfl) ?_)
       intro w14 (hL14 : Go.X.Loc [] [] w w14 [some b13, some b1] [Cont.cells [(Value.int .u8 x13.Low), (Value.int .u8 x13.High), (Value.int .i64 x13.To)], Cont.cells [d_v, d_v1]]) hS11
       have K14 := ks w hS11
       refine Rl.nil (Swp.seq (Swp.seq ?_))
       obtain ⟨s13, h, g13⟩ := bind_some h
       refine Swp.join (fun e w' => ∃ (x14 : Bool) (u : Env), x14 = s13 ∧ e = upds [(1, (Value.pointer (some ⟨b1, 0, none⟩))), (3, (Value.int .i64 (List.length d.Accept : Int))), (4, (Value.int .i64 i10)), (6, (Value.int .i64 k10)), (7, (Value.pointer (some ⟨b13, 0, none⟩))), (74, (Value.bool x14))] u ∧ Go.X.Loc [] [] w w' [some b1, some b13] [Cont.cells [d_v, d_v1], Cont.cells [(Value.int .u8 x13.Low), (Value.int .u8 x13.High), (Value.int .i64 x13.To)]] ∧ Keep w.heap.size [some b13, some b1] w14 [some b1, some b13] w' ∧ True) ?_ ?_
       ·
        refine Swp.region rfl (Rl.op (OpY.fieldAddr (q := 0) Tryd.underlying63 rfl ti5 rfl rfl rfl ?_))
        refine Rl.op (OpY.ldBox1 (v := (Value.int .u8 x13.Low)) Tryd.underlying5 rfl rfl (hL14.at 0 rfl rfl) rfl ?_)
        refine Rl.op (OpY.convInt (x := x13.Low) (z := (iw x13.Low)) Tryd.underlying5 Tryd.underlying3 rfl rfl ?_)
        refine Rl.op (OpY.move (v := (Value.int .i64 last10)) rfl ?_)
        refine Rl.op (OpY.leq (x := (iw x13.Low)) (y := last10) (((iw x13.Low) : Int) ≤ last10) rfl rfl Iff.rfl ?_)
        refine Rl.op (OpY.move (v := (Value.bool (decide (((iw x13.Low) : Int) ≤ last10)))) rfl ?_)
        by_cases hc15 : ((iw x13.Low) : Int) ≤ last10
        ·
         replace h := ite_t hc15 h
         refine Rl.no rfl rfl (decide_eq_true hc15) ?_
         refine Rl.no rfl rfl (decide_eq_true hc15) ?_
         refine Rl.no rfl rfl (decide_eq_true hc15) ?_
         refine Rl.no rfl rfl (decide_eq_true hc15) ?_
         refine Rl.no rfl rfl (decide_eq_true hc15) ?_
         refine Rl.op (OpY.pick_t (t := (decide (((iw x13.Low) : Int) ≤ last10))) (v := (Value.bool true)) rfl (decide_eq_true hc15) rfl ?_)
         refine Rl.op (OpY.move (v := (Value.bool true)) rfl ?_)
         refine Rl.no rfl rfl rfl ?_
         refine Rl.no rfl rfl rfl ?_
         refine Rl.no rfl rfl rfl ?_
         refine Rl.op (OpY.pick_t (t := true) (v := (Value.bool true)) rfl rfl rfl ?_)
         refine Rl.op (OpY.move (v := (Value.bool true)) rfl ?_)
         refine Rl.no rfl rfl rfl ?_
         refine Rl.no rfl rfl rfl ?_
         refine Rl.no rfl rfl rfl ?_
         refine Rl.op (OpY.pick_t (t := true) (v := (Value.bool true)) rfl rfl rfl ?_)
         refine Rl.op (OpY.move (v := (Value.bool true)) rfl ?_)
         refine Rl.no rfl rfl rfl ?_
         refine Rl.no rfl rfl rfl ?_
         refine Rl.no rfl rfl rfl ?_
         refine Rl.no rfl rfl rfl ?_
         refine Rl.op (OpY.pick_t (t := true) (v := (Value.bool true)) rfl rfl rfl ?_)
         refine Rl.nil ?_
         have hp10 := hL14.pick [1, 0] rfl rfl rfl
         have hL15 : Go.X.Loc [] [] w w14 [some b1, some b13] [Cont.cells [d_v, d_v1], Cont.cells [(Value.int .u8 x13.Low), (Value.int .u8 x13.High), (Value.int .i64 x13.To)]] := hp10.1
         have K15 := ks w hp10.2
         obtain rfl := Option.some.inj h
         refine Swp.pop_back ?_
         exact ⟨true, _, rfl, (upds_sym ⟨rfl, rfl, rfl, rfl, rfl, rfl, trivial⟩), hL15, K15, trivial⟩
        ·
         replace h := ite_f hc15 h
         refine Rl.yes rfl rfl (decide_eq_false hc15) (OpY.fieldAddr (q := 1) Tryd.underlying63 rfl ti5 rfl rfl rfl ?_)
         refine Rl.yes rfl rfl (decide_eq_false hc15) (OpY.ldBox1 (v := (Value.int .u8 x13.High)) Tryd.underlying5 rfl rfl (hL14.at 0 rfl rfl) rfl ?_)
         refine Rl.yes rfl rfl (decide_eq_false hc15) (OpY.fieldAddr (q := 0) Tryd.underlying63 rfl ti5 rfl rfl rfl ?_)
         refine Rl.yes rfl rfl (decide_eq_false hc15) (OpY.ldBox1 (v := (Value.int .u8 x13.Low)) Tryd.underlying5 rfl rfl (hL14.at 0 rfl rfl) rfl ?_)
         refine Rl.yes rfl rfl (decide_eq_false hc15) (OpY.lss (x := x13.High) (y := x13.Low) ((x13.High : Int) < x13.Low) rfl rfl Iff.rfl ?_)
         refine Rl.op (OpY.pick_f (t := (decide (((iw x13.Low) : Int) ≤ last10))) (v := (Value.bool (decide ((x13.High : Int) < x13.Low)))) rfl (decide_eq_false hc15) rfl ?_)
         refine Rl.op (OpY.move (v := (Value.bool (decide ((x13.High : Int) < x13.Low)))) rfl ?_)
         by_cases hc16 : (x13.High : Int) < x13.Low
         ·
          replace h := ite_t hc16 h
          refine Rl.no rfl rfl (decide_eq_true hc16) ?_
          refine Rl.no rfl rfl (decide_eq_true hc16) ?_
          refine Rl.no rfl rfl (decide_eq_true hc16) ?_
          refine Rl.op (OpY.pick_t (t := (decide ((x13.High : Int) < x13.Low))) (v := (Value.bool true)) rfl (decide_eq_true hc16) rfl ?_)
          refine Rl.op (OpY.move (v := (Value.bool true)) rfl ?_)
          refine Rl.no rfl rfl rfl ?_
          refine Rl.no rfl rfl rfl ?_
          refine Rl.no rfl rfl rfl ?_
          refine Rl.op (OpY.pick_t (t := true) (v := (Value.bool true)) rfl rfl rfl ?_)
          refine Rl.op (OpY.move (v := (Value.bool true)) rfl ?_)
          refine Rl.no rfl rfl rfl ?_
          refine Rl.no rfl rfl rfl ?_
          refine Rl.no rfl rfl rfl ?_
          refine Rl.no rfl rfl rfl ?_
          refine Rl.op (OpY.pick_t (t := true) (v := (Value.bool true)) rfl rfl rfl ?_)
          refine Rl.nil ?_
          have hp11 := hL14.pick [1, 0] rfl rfl rfl
          have hL16 : Go.X.Loc [] [] w w14 [some b1, some b13] [Cont.cells [d_v, d_v1], Cont.cells [(Value.int .u8 x13.Low), (Value.int .u8 x13.High), (Value.int .i64 x13.To)]] := hp11.1
          have K16 := ks w hp11.2
          obtain rfl := Option.some.inj h
          refine Swp.pop_back ?_
          exact ⟨true, _, rfl, (upds_sym ⟨rfl, rfl, rfl, rfl, rfl, rfl, trivial⟩), hL16, K16, trivial⟩
         ·
          replace h := ite_f hc16 h
          refine Rl.yes rfl rfl (decide_eq_false hc16) (OpY.fieldAddr (q := 1) Tryd.underlying63 rfl ti5 rfl rfl rfl ?_)
          refine Rl.yes rfl rfl (decide_eq_false hc16) (OpY.ldBox1 (v := (Value.int .u8 x13.High)) Tryd.underlying5 rfl rfl (hL14.at 0 rfl rfl) rfl ?_)
          refine Rl.yes rfl rfl (decide_eq_false hc16) (OpY.gtr (x := x13.High) (y := 126) ((x13.High : Int) > 126) rfl rfl Iff.rfl ?_)
          refine Rl.op (OpY.pick_f (t := (decide ((x13.High : Int) < x13.Low))) (v := (Value.bool (decide ((x13.High : Int) > 126)))) rfl (decide_eq_false hc16) rfl ?_)
          refine Rl.op (OpY.move (v := (Value.bool (decide ((x13.High : Int) > 126)))) rfl ?_)
          by_cases hc17 : (x13.High : Int) > 126
          ·
           replace h := ite_t hc17 h
           refine Rl.no rfl rfl (decide_eq_true hc17) ?_
           refine Rl.no rfl rfl (decide_eq_true hc17) ?_
           refine Rl.no rfl rfl (decide_eq_true hc17) ?_
           refine Rl.op (OpY.pick_t (t := (decide ((x13.High : Int) > 126))) (v := (Value.bool true)) rfl (decide_eq_true hc17) rfl ?_)
           refine Rl.op (OpY.move (v := (Value.bool true)) rfl ?_)
           refine Rl.no rfl rfl rfl ?_
           refine Rl.no rfl rfl rfl ?_
           refine Rl.no rfl rfl rfl ?_
           refine Rl.no rfl rfl rfl ?_
           refine Rl.op (OpY.pick_t (t := true) (v := (Value.bool true)) rfl rfl rfl ?_)
           refine Rl.nil ?_
           have hp12 := hL14.pick [1, 0] rfl rfl rfl
           have hL17 : Go.X.Loc [] [] w w14 [some b1, some b13] [Cont.cells [d_v, d_v1], Cont.cells [(Value.int .u8 x13.Low), (Value.int .u8 x13.High), (Value.int .i64 x13.To)]] := hp12.1
           have K17 := ks w hp12.2
           obtain rfl := Option.some.inj h
           refine Swp.pop_back ?_
           exact ⟨true, _, rfl, (upds_sym ⟨rfl, rfl, rfl, rfl, rfl, rfl, trivial⟩), hL17, K17, trivial⟩
          ·
           replace h := ite_f hc17 h
           refine Rl.yes rfl rfl (decide_eq_false hc17) (OpY.fieldAddr (q := 2) Tryd.underlying63 rfl ti3 rfl rfl rfl ?_)
           refine Rl.yes rfl rfl (decide_eq_false hc17) (OpY.ldBox1 (v := (Value.int .i64 x13.To)) Tryd.underlying3 rfl rfl (hL14.at 0 rfl rfl) rfl ?_)
           refine Rl.yes rfl rfl (decide_eq_false hc17) (OpY.lss (x := x13.To) (y := 0) ((x13.To : Int) < 0) rfl rfl Iff.rfl ?_)
           refine Rl.op (OpY.pick_f (t := (decide ((x13.High : Int) > 126))) (v := (Value.bool (decide ((x13.To : Int) < 0)))) rfl (decide_eq_false hc17) rfl ?_)
           refine Rl.op (OpY.move (v := (Value.bool (decide ((x13.To : Int) < 0)))) rfl ?_)
           by_cases hc18 : (x13.To : Int) < 0
           ·
            replace h := ite_t hc18 h
            refine Rl.no rfl rfl (decide_eq_true hc18) ?_
            refine Rl.no rfl rfl (decide_eq_true hc18) ?_
            refine Rl.no rfl rfl (decide_eq_true hc18) ?_
            refine Rl.no rfl rfl (decide_eq_true hc18) ?_
            refine Rl.op (OpY.pick_t (t := (decide ((x13.To : Int) < 0))) (v := (Value.bool true)) rfl (decide_eq_true hc18) rfl ?_)
            refine Rl.nil ?_
            have hp13 := hL14.pick [1, 0] rfl rfl rfl
            have hL18 : Go.X.Loc [] [] w w14 [some b1, some b13] [Cont.cells [d_v, d_v1], Cont.cells [(Value.int .u8 x13.Low), (Value.int .u8 x13.High), (Value.int .i64 x13.To)]] := hp13.1
            have K18 := ks w hp13.2
            obtain rfl := Option.some.inj h
            refine Swp.pop_back ?_
            exact ⟨true, _, rfl, (upds_sym ⟨rfl, rfl, rfl, rfl, rfl, rfl, trivial⟩), hL18, K18, trivial⟩
           ·
            replace h := ite_f hc18 h
            refine Rl.yes rfl rfl (decide_eq_false hc18) (OpY.fieldAddr (q := 2) Tryd.underlying63 rfl ti3 rfl rfl rfl ?_)
            refine Rl.yes rfl rfl (decide_eq_false hc18) (OpY.ldBox1 (v := (Value.int .i64 x13.To)) Tryd.underlying3 rfl rfl (hL14.at 0 rfl rfl) rfl ?_)
            refine Rl.yes rfl rfl (decide_eq_false hc18) (OpY.move (v := (Value.int .i64 (List.length d.Accept : Int))) rfl ?_)
            refine Rl.yes rfl rfl (decide_eq_false hc18) (OpY.geq (x := x13.To) (y := (List.length d.Accept : Int)) ((x13.To : Int) ≥ (List.length d.Accept : Int)) rfl rfl Iff.rfl ?_)
            refine Rl.op (OpY.pick_f (t := (decide ((x13.To : Int) < 0))) (v := (Value.bool (decide ((x13.To : Int) ≥ (List.length d.Accept : Int))))) rfl (decide_eq_false hc18) rfl ?_)
            refine Rl.nil ?_
            have hp14 := hL14.pick [1, 0] rfl rfl rfl
            have hL19 : Go.X.Loc [] [] w w14 [some b1, some b13] [Cont.cells [d_v, d_v1], Cont.cells [(Value.int .u8 x13.Low), (Value.int .u8 x13.High), (Value.int .i64 x13.To)]] := hp14.1
            have K19 := ks w hp14.2
            obtain rfl := Option.some.inj h
            refine Swp.pop_back ?_
            exact ⟨(decide ((x13.To : Int) ≥ (List.length d.Accept : Int))), _, rfl, (upds_sym ⟨rfl, rfl, rfl, rfl, rfl, rfl, trivial⟩), hL19, K19, trivial⟩
       ·
        rintro _ w15 ⟨x14, u, rfl, rfl, hL20, K20, -⟩
        replace h := g13
        try dsimp only at h
        refine Swp.cond_b x14 rfl (fun hc19 => ?_) (fun hc19 => ?_)
        ·
         replace h := ite_t hc19 h
         refine Swp.seq (Swp.region rfl (Rl.op (OpY.assign (v := (Value.bool false)) rfl ?_)))
         refine Rl.nil (Swp.ret ?_)
         obtain rfl := Option.some.inj h
         obtain rfl := hd11 _ rfl
         replace h := g12
         try dsimp only at h
         obtain rfl := Option.some.inj h
         obtain rfl := hd10 _ rfl
         replace h := g11
         try dsimp only at h
         obtain rfl := Option.some.inj h
         refine ⟨[(Value.bool false)], ⟨rfl, trivial⟩, ⟨_, rfl, hL20.done, ?_⟩⟩
         exact ⟨rfl, trivial⟩
        ·
         replace h := ite_f hc19 h
         refine Swp.skip (Swp.region rfl (Rl.op (OpY.fieldAddr (q := 1) Tryd.underlying63 rfl ti5 rfl rfl rfl ?_)))
         refine Rl.op (OpY.ldBox1 (v := (Value.int .u8 x13.High)) Tryd.underlying5 rfl rfl (hL20.at 1 rfl rfl) rfl ?_)
         refine Rl.op (OpY.convInt (x := x13.High) (z := (iw x13.High)) Tryd.underlying5 Tryd.underlying3 rfl rfl ?_)
         refine Rl.op (OpY.assign (v := (Value.int .i64 (iw x13.High))) rfl ?_)
         refine Rl.nil (Swp.pop_blk (Swp.region rfl (Rl.op (OpY.move (v := (Value.int .i64 k10)) rfl ?_))))
         refine Rl.op (OpY.add (x := k10) (y := 1) (z := (iw (k10 + 1))) rfl rfl rfl ?_)
         refine Rl.op (OpY.assign (v := (Value.int .i64 (iw (k10 + 1)))) rfl ?_)
         refine Rl.nil ?_
         have hp15 := hL20.pick [0] rfl rfl rfl
         have hL21 : Go.X.Loc [] [] w w15 [some b1] [Cont.cells [d_v, d_v1]] := hp15.1
         have K21 := ks w hp15.2
         obtain rfl := Option.some.inj h
         refine Swp.pop_back ⟨((iw x13.High), (iw (k10 + 1))), rfl, ?_⟩
         exact ⟨_, (upds_sym ⟨rfl, rfl, rfl, rfl, rfl, trivial⟩), hL21, (Keep.trans (Keep.trans (Keep.trans (Keep.trans K12 K13) K14) K20) K21), trivial⟩
      ·
       replace h := ite_f hc14 h
       refine Swp.exit rfl ?_
       obtain rfl := Option.some.inj h
       obtain rfl := hd11 _ rfl
       replace h := g12
       try dsimp only at h
       skip
       refine Swp.pop_back ?_
       exact ⟨_, rfl, (upds_sym ⟨rfl, rfl, rfl, trivial⟩), hL12, K12, trivial⟩
     ·
      rintro _ w16 ⟨u, rfl, rfl, hL22, K22, -⟩
      replace h := g12
      try dsimp only at h
      refine Swp.pop_blk (Swp.region rfl (Rl.op (OpY.move (v := (Value.int .i64 i10)) rfl ?_)))
      refine Rl.op (OpY.add (x := i10) (y := 1) (z := (iw (i10 + 1))) rfl rfl rfl ?_)
      refine Rl.op (OpY.assign (v := (Value.int .i64 (iw (i10 + 1)))) rfl ?_)
      refine Rl.nil ?_
      obtain rfl := Option.some.inj h
      refine Swp.pop_back ⟨(iw (i10 + 1)), rfl, ?_⟩
      exact ⟨_, (upds_sym ⟨rfl, rfl, rfl, trivial⟩), hL22, (Keep.trans K11 K22), trivial⟩
    ·
     replace h := ite_f hc13 h
     refine Swp.exit rfl ?_
     have hp16 := hL11.pick [] rfl rfl rfl
     have hL23 : Go.X.Loc [] [] w w11 [] [] := hp16.1
     have K23 := ks w hp16.2
     obtain rfl := Option.some.inj h
     obtain rfl := hd10 _ rfl
     replace h := g11
     try dsimp only at h
     skip
     refine Swp.pop_back ?_
     exact ⟨_, rfl, (upds_sym trivial), hL23, (Keep.trans K11 K23), trivial⟩
   ·
    rintro _ w17 ⟨u, rfl, rfl, hL24, K24, -⟩
    replace h := g11
    try dsimp only at h
    refine Swp.seq (Swp.region rfl (Rl.op (OpY.assign (v := (Value.bool true)) rfl ?_)))
    refine Rl.nil (Swp.ret ?_)
    obtain rfl := Option.some.inj h
    refine ⟨[(Value.bool true)], ⟨rfl, trivial⟩, ⟨_, rfl, hL24.done, ?_⟩⟩
    exact ⟨rfl, trivial⟩
theorem rStep_w (N : Nat) (d : ADfa) (state : Int) (c : Int) (d_v : Value) (d_v1 : Value) (w : World) (S : Nat → Prop) (d_h : Rs rBool (Hv w.heap.size S [] w) d_v d.Accept) (d_h1 : Rs (rSl rAEdge) (Hv w.heap.size S [] w) d_v1 d.Edges) (r : Int) (h : rStep N d state c = some r) :
  Calls Tryd.prog 52 #[(Value.agg #[d_v, d_v1]), (Value.int .i64 state), (Value.int .u8 c)] w (Ret w (fun v w' => (Value.int .i64 r) = v ∧ True)) := by
 unfold rStep at h
 have hL : Go.X.Loc [] [] w w [] [] := Go.X.Loc.begin0 w
 refine calls_of (l := [(Value.agg #[d_v, d_v1]), (Value.int .i64 state), (Value.int .u8 c)]) (rl := [.tmp 6]) (n := 41) Tryd.func52 rfl rfl rfl (Nat.le_of_ble_eq_true rfl) ?_
 refine Swp.seq (Swp.region rfl (Rl.op (OpY.box (cs := [d_v, d_v1]) rfl rfl hL ?_)))
 intro b1 w2 hL3 hS5
 have K4 := ks w hS5
 refine Rl.op (OpY.assign (v := (Value.int .i64 0)) rfl ?_)
 refine Rl.nil (Swp.seq (Swp.seq (Swp.region rfl (Rl.op (OpY.move (v := (Value.int .i64 state)) rfl ?_)))))
 refine Rl.op (OpY.lss (x := state) (y := 0) ((state : Int) < 0) rfl rfl Iff.rfl ?_)
 refine Rl.nil ?_
 refine Swp.cond_d ((state : Int) < 0) rfl (fun hc6 => ?_) (fun hc6 => ?_)
 ·
  replace h := ite_t hc6 h
  refine Swp.seq (Swp.region rfl (Rl.op (OpY.assign (v := (Value.int .i64 (-1))) rfl ?_)))
  refine Rl.nil (Swp.ret ?_)
  obtain rfl := Option.some.inj h
  refine ⟨[(Value.int .i64 (-1))], ⟨rfl, trivial⟩, ⟨_, rfl, hL3.done, ?_⟩⟩
  exact ⟨rfl, trivial⟩
 ·
  replace h := ite_f hc6 h
  refine Swp.skip (Swp.seq (Swp.seq (Swp.region rfl (Rl.op (OpY.assign (v := (Value.int .i64 0)) rfl ?_)))))
  refine Rl.nil ?_
  obtain ⟨s10, hl10, g10⟩ := bind_some h
  refine Swp.join (fun e w' => ∃  (u : Env), (Sum.inl ()) = s10 ∧ e = upds [] u ∧ Go.X.Loc [] [] w w' [] [] ∧ Keep w.heap.size [some b1] w2 [] w' ∧ True) ?_ ?_
  ·
   refine Swp.block ?_
   refine Swp.loopM hl10 (fun (ss : Int) (e : Env) (w' : World) => match ss with | k10 => ∃ (u : Env), e = upds [(1, (Value.int .i64 state)), (2, (Value.int .u8 c)), (3, (Value.pointer (some ⟨b1, 0, none⟩))), (7, (Value.int .i64 k10))] u ∧ Go.X.Loc [] [] w w' [some b1] [Cont.cells [d_v, d_v1]] ∧ Keep w.heap.size [some b1] w2 [some b1] w' ∧ True) ⟨_, (upds_sym ⟨rfl, rfl, rfl, rfl, trivial⟩), hL3, Keep.refl, trivial⟩ ?_
   rintro k10 oo _ w10 ⟨u, rfl, hL10, K10, -⟩ h hd10
   rw [rStep_b1] at h
   refine Swp.seq (Swp.seq (Swp.region rfl (Rl.op (OpY.move (v := (Value.int .i64 k10)) rfl ?_))))
   refine Rl.op (OpY.fieldAddr (q := 1) Tryd.underlying25 rfl ti23 rfl rfl rfl ?_)
   refine Rl.op (OpY.ldBox1 (v := d_v1) Tryd.underlying23 rfl rfl (hL10.at 0 rfl rfl) rfl ?_)
   refine Rl.op (OpY.move (v := (Value.int .i64 state)) rfl ?_)
   obtain ⟨x10, q10, h⟩ := bind_some h
   obtain ⟨n10, q11, q12⟩ := idx_some q10
   have f10 := ((d_h1.mono (K4 S)).mono (K10 S))
   obtain ⟨b10, o10, c10, vs10, q13, q14, f11, q15⟩ := Rs.get f10 q12
   obtain ⟨v10, rfl, k11⟩ := q15
   refine Rl.op (OpY.ixRoD (r := (rSl rAEdge)) (v := d_v1) (n := n10) (m := (o10 + n10 * (rSl rAEdge).sz)) Tryd.underlying23 ti39 rfl q13 rfl q11 q12 rfl ?_)
   refine Rl.op (OpY.ldRo1 (v := v10) Tryd.underlying39 rfl rfl vw_view f11 ?_)
   refine Rl.op (OpY.lenRo (v := v10) Tryd.underlying39 rfl k11 ?_)
   refine Rl.op (OpY.lss (x := k10) (y := (List.length x10 : Int)) ((k10 : Int) < (List.length x10 : Int)) rfl rfl Iff.rfl ?_)
   refine Rl.nil ?_
   refine Swp.cond_d ((k10 : Int) < (List.length x10 : Int)) rfl (fun hc10 => ?_) (fun hc10 => ?_)
   ·
    replace h := ite_t hc10 h
    refine Swp.skip (Swp.seq (Swp.block (Swp.seq (Swp.region rfl (Rl.op (OpY.fieldAddr (q := 1) Tryd.underlying25 rfl ti23 rfl rfl rfl ?_))))))
    refine Rl.op (OpY.ldBox1 (v := d_v1) Tryd.underlying23 rfl rfl (hL10.at 0 rfl rfl) rfl ?_)
    refine Rl.op (OpY.move (v := (Value.int .i64 state)) rfl ?_)
    obtain ⟨x11, q16, h⟩ := bind_some h
    obtain ⟨n11, q17, q18⟩ := idx_some q16
    obtain ⟨b11, o11, c11, vs11, q19, q20, f12, q21⟩ := Rs.get f10 q18
    obtain ⟨v11, rfl, k12⟩ := q21
    refine Rl.op (OpY.ixRoD (r := (rSl rAEdge)) (v := d_v1) (n := n11) (m := (o11 + n11 * (rSl rAEdge).sz)) Tryd.underlying23 ti39 rfl q19 rfl q17 q18 rfl ?_)
    refine Rl.op (OpY.ldRo1 (v := v11) Tryd.underlying39 rfl rfl vw_view f12 ?_)
    refine Rl.op (OpY.move (v := (Value.int .i64 k10)) rfl ?_)
    obtain ⟨x12, q22, h⟩ := bind_some h
    obtain ⟨n12, q23, q24⟩ := idx_some q22
    obtain ⟨b12, o12, c12, vs12, q25, q26, f13, q27⟩ := Rs.get k12 q24
    obtain ⟨rfl, -⟩ := rAEdge_open q27
    refine Rl.op (OpY.ixRoD (r := rAEdge) (v := v11) (n := n12) (m := (o12 + n12 * rAEdge.sz)) Tryd.underlying39 ti63 rfl q25 rfl q23 q24 rfl ?_)
    refine Rl.op (OpY.ldRoA (vs := [(Value.int .u8 x12.Low), (Value.int .u8 x12.High), (Value.int .i64 x12.To)]) Tryd.underlying63 rfl ti63 rfl rfl vw_view f13 ?_)
    refine Rl.op (OpY.alloc (cs := [(Value.int .u8 0), (Value.int .u8 0), (Value.int .i64 0)]) ti63 rfl hL10 ?_)
    intro b13 w11 hL11 hS10
    have K11 := ks w hS10
    refine Rl.op0 (OpY.store (vs := [(Value.int .u8 x12.Low), (Value.int .u8 x12.High), (Value.int .i64 x12.To)]) ti63 rfl rfl rfl rfl (ones_cons rfl (ones_cons rfl (ones_cons rfl ones_nil))) hL11 0 rfl rfl (Nat.le_of_ble_eq_true rfl) ?_)
    intro w12 (hL12 : Go.X.Loc [] [] w w12 [some b13, some b1] [Cont.cells [(Value.int .u8 x12.Low), (Value.int .u8 x12.High), (Value.int .i64 x12.To)], Cont.cells [d_v, d_v1]]) hS11
    have K12 := ks w hS11
    refine Rl.nil (Swp.seq ?_)
    obtain ⟨s11, h, g11⟩ := bind_some h
    refine Swp.join (fun e w' => ∃ (x13 : Bool) (u : Env), x13 = s11 ∧ e = upds [(1, (Value.int .i64 state)), (2, (Value.int .u8 c)), (3, (Value.pointer (some ⟨b1, 0, none⟩))), (7, (Value.int .i64 k10)), (8, (Value.pointer (some ⟨b13, 0, none⟩))), (38, (Value.bool x13))] u ∧ Go.X.Loc [] [] w w' [some b1, some b13] [Cont.cells [d_v, d_v1], Cont.cells [(Value.int .u8 x12.Low), (Value.int .u8 x12.High), (Value.int .i64 x12.To)]] ∧ Keep w.heap.size [some b13, some b1] w12 [some b1, some b13] w' ∧ True) ?_ ?_
    ·
     refine Swp.region rfl (Rl.op (OpY.fieldAddr (q := 0) Tryd.underlying63 rfl ti5 rfl rfl rfl ?_))
     refine Rl.op (OpY.ldBox1 (v := (Value.int .u8 x12.Low)) Tryd.underlying5 rfl rfl (hL12.at 0 rfl rfl) rfl ?_)
     refine Rl.op (OpY.move (v := (Value.int .u8 c)) rfl ?_)
     refine Rl.op (OpY.leq (x := x12.Low) (y := c) ((x12.Low : Int) ≤ c) rfl rfl Iff.rfl ?_)
     refine Rl.op (OpY.move (v := (Value.bool (decide ((x12.Low : Int) ≤ c)))) rfl ?_)
     by_cases hc11 : (x12.Low : Int) ≤ c
     ·
      replace h := ite_t hc11 h
      refine Rl.yes rfl rfl (decide_eq_true hc11) (OpY.move (v := (Value.int .u8 c)) rfl ?_)
      refine Rl.yes rfl rfl (decide_eq_true hc11) (OpY.fieldAddr (q := 1) Tryd.underlying63 rfl ti5 rfl rfl rfl ?_)
      refine Rl.yes rfl rfl (decide_eq_true hc11) (OpY.ldBox1 (v := (Value.int .u8 x12.High)) Tryd.underlying5 rfl rfl (hL12.at 0 rfl rfl) rfl ?_)
      refine Rl.yes rfl rfl (decide_eq_true hc11) (OpY.leq (x := c) (y := x12.High) ((c : Int) ≤ x12.High) rfl rfl Iff.rfl ?_)
      refine Rl.op (OpY.pick_t (t := (decide ((x12.Low : Int) ≤ c))) (v := (Value.bool (decide ((c : Int) ≤ x12.High)))) rfl (decide_eq_true hc11) rfl ?_)
      refine Rl.nil ?_
      have hp10 := hL12.pick [1, 0] rfl rfl rfl
      have hL13 : Go.X.Loc [] [] w w12 [some b1, some b13] [Cont.cells [d_v, d_v1], Cont.cells [(Value.int .u8 x12.Low), (Value.int .u8 x12.High), (Value.int .i64 x12.To)]] := hp10.1
      have K13 := ks w hp10.2
      obtain rfl := Option.some.inj h
      refine Swp.pop_back ?_
      exact ⟨(decide ((c : Int) ≤ x12.High)), _, rfl, (upds_sym ⟨rfl, rfl, rfl, rfl, rfl, rfl, trivial⟩), hL13, K13, trivial⟩
     ·
      replace h := ite_f hc11 h
      refine Rl.no rfl rfl (decide_eq_false hc11) ?_
      refine Rl.no rfl rfl (decide_eq_false hc11) ?_
      refine Rl.no rfl rfl (decide_eq_false hc11) ?_
      refine Rl.no rfl rfl (decide_eq_false hc11) ?_
      refine Rl.op (OpY.pick_f (t := (decide ((x12.Low : Int) ≤ c))) (v := (Value.bool false)) rfl (decide_eq_false hc11) rfl ?_)
      refine Rl.nil ?_
      have hp11 := hL12.pick [1, 0] rfl rfl rfl
      have hL14 : Go.X.Loc [] [] w w12 [some b1, some b13] [Cont.cells [d_v, d_v1], Cont.cells [(Value.int .u8 x12.Low), (Value.int .u8 x12.High), (Value.int .i64 x12.To)]] := hp11.1
      have K14 := ks w hp11.2
      obtain rfl := Option.some.inj h
      refine Swp.pop_back ?_
      exact ⟨false, _, rfl, (upds_sym ⟨rfl, rfl, rfl, rfl, rfl, rfl, trivial⟩), hL14, K14, trivial⟩
    ·
     rintro _ w13 ⟨x13, u, rfl, rfl, hL15, K15, -⟩
     replace h := g11
     try dsimp only at h
     refine Swp.cond_b x13 rfl (fun hc12 => ?_) (fun hc12 => ?_)
     ·
      replace h := ite_t hc12 h
      refine Swp.seq (Swp.region rfl (Rl.op (OpY.fieldAddr (q := 2) Tryd.underlying63 rfl ti3 rfl rfl rfl ?_)))
      refine Rl.op (OpY.ldBox1 (v := (Value.int .i64 x12.To)) Tryd.underlying3 rfl rfl (hL15.at 1 rfl rfl) rfl ?_)
      refine Rl.op (OpY.assign (v := (Value.int .i64 x12.To)) rfl ?_)
      refine Rl.nil (Swp.ret ?_)
      obtain rfl := Option.some.inj h
      obtain rfl := hd10 _ rfl
      replace h := g10
      try dsimp only at h
      obtain rfl := Option.some.inj h
      refine ⟨[(Value.int .i64 x12.To)], ⟨rfl, trivial⟩, ⟨_, rfl, hL15.done, ?_⟩⟩
      exact ⟨rfl, trivial⟩
     ·
      replace h := ite_f hc12 h
      refine Swp.skip (Swp.pop_blk (Swp.region rfl (Rl.op (OpY.move (v := (Value.int .i64 k10)) rfl ?_))))
      refine Rl.op (OpY.add (x := k10) (y := 1) (z := (iw (k10 + 1))) rfl rfl rfl ?_)
      refine Rl.op (OpY.assign (v := (Value.int .i64 (iw (k10 + 1)))) rfl ?_)
      refine Rl.nil ?_
      have hp12 := hL15.pick [0] rfl rfl rfl
      have hL16 : Go.X.Loc [] [] w w13 [some b1] [Cont.cells [d_v, d_v1]] := hp12.1
      have K16 := ks w hp12.2
      obtain rfl := Option.some.inj h
      refine Swp.pop_back ⟨(iw (k10 + 1)), rfl, ?_⟩
      exact ⟨_, (upds_sym ⟨rfl, rfl, rfl, rfl, trivial⟩), hL16, (Keep.trans (Keep.trans (Keep.trans (Keep.trans K10 K11) K12) K15) K16), trivial⟩
   ·
    replace h := ite_f hc10 h
    refine Swp.exit rfl ?_
    have hp13 := hL10.pick [] rfl rfl rfl
    have hL17 : Go.X.Loc [] [] w w10 [] [] := hp13.1
    have K17 := ks w hp13.2
    obtain rfl := Option.some.inj h
    obtain rfl := hd10 _ rfl
    replace h := g10
    try dsimp only at h
    skip
    refine Swp.pop_back ?_
    exact ⟨_, rfl, (upds_sym trivial), hL17, (Keep.trans K10 K17), trivial⟩
  ·
   rintro _ w14 ⟨u, rfl, rfl, hL18, K18, -⟩
   replace h := g10
   try dsimp only at h
   refine Swp.seq (Swp.region rfl (Rl.op (OpY.assign (v := (Value.int .i64 (-1))) rfl ?_)))
   refine Rl.nil (Swp.ret ?_)
   obtain rfl := Option.some.inj h
   refine ⟨[(Value.int .i64 (-1))], ⟨rfl, trivial⟩, ⟨_, rfl, hL18.done, ?_⟩⟩
   exact ⟨rfl, trivial⟩
theorem rFinal_w (N : Nat) (d : ADfa) (state : Int) (d_v : Value) (d_v1 : Value) (w : World) (S : Nat → Prop) (d_h : Rs rBool (Hv w.heap.size S [] w) d_v d.Accept) (d_h1 : Rs (rSl rAEdge) (Hv w.heap.size S [] w) d_v1 d.Edges) (r : Bool) (h : rFinal N d state = some r) :
  Calls Tryd.prog 41 #[(Value.agg #[d_v, d_v1]), (Value.int .i64 state)] w (Ret w (fun v w' => (Value.bool r) = v ∧ True)) := by
 unfold rFinal at h
 have hL : Go.X.Loc [] [] w w [] [] := Go.X.Loc.begin0 w
 refine calls_of (l := [(Value.agg #[d_v, d_v1]), (Value.int .i64 state)]) (rl := [.tmp 4]) (n := 14) Tryd.func41 rfl rfl rfl (Nat.le_of_ble_eq_true rfl) ?_
 refine Swp.seq (Swp.region rfl (Rl.op (OpY.box (cs := [d_v, d_v1]) rfl rfl hL ?_)))
 intro b1 w2 hL3 hS5
 have K4 := ks w hS5
 refine Rl.op (OpY.assign (v := (Value.bool false)) rfl ?_)
 refine Rl.nil (Swp.seq (Swp.region rfl (Rl.op (OpY.move (v := (Value.int .i64 state)) rfl ?_))))
 refine Rl.op (OpY.geq (x := state) (y := 0) ((state : Int) ≥ 0) rfl rfl Iff.rfl ?_)
 refine Rl.op (OpY.move (v := (Value.bool (decide ((state : Int) ≥ 0)))) rfl ?_)
 by_cases hc6 : (state : Int) ≥ 0
 ·
  replace h := ite_t hc6 h
  refine Rl.yes rfl rfl (decide_eq_true hc6) (OpY.fieldAddr (q := 0) Tryd.underlying25 rfl ti22 rfl rfl rfl ?_)
  refine Rl.yes rfl rfl (decide_eq_true hc6) (OpY.ldBox1 (v := d_v) Tryd.underlying22 rfl rfl (hL3.at 0 rfl rfl) rfl ?_)
  refine Rl.yes rfl rfl (decide_eq_true hc6) (OpY.move (v := (Value.int .i64 state)) rfl ?_)
  obtain ⟨x7, q8, h⟩ := bind_some h
  obtain ⟨n9, q10, q11⟩ := idx_some q8
  have f10 := (d_h.mono (K4 S))
  obtain ⟨b10, o10, c10, vs10, q12, q13, f11, q14⟩ := Rs.get f10 q11
  obtain rfl := q14
  refine Rl.yes rfl rfl (decide_eq_true hc6) (OpY.ixRoD (r := rBool) (v := d_v) (n := n9) (m := (o10 + n9 * rBool.sz)) Tryd.underlying22 ti4 rfl q12 rfl q10 q11 rfl ?_)
  refine Rl.yes rfl rfl (decide_eq_true hc6) (OpY.ldRo1 (v := (Value.bool x7)) Tryd.underlying4 rfl rfl vw_view f11 ?_)
  refine Rl.op (OpY.pick_t (t := (decide ((state : Int) ≥ 0))) (v := (Value.bool x7)) rfl (decide_eq_true hc6) rfl ?_)
  refine Rl.op (OpY.assign (v := (Value.bool x7)) rfl ?_)
  refine Rl.nil (Swp.ret ?_)
  obtain rfl := Option.some.inj h
  refine ⟨[(Value.bool x7)], ⟨rfl, trivial⟩, ⟨_, rfl, hL3.done, ?_⟩⟩
  exact ⟨rfl, trivial⟩
 ·
  replace h := ite_f hc6 h
  refine Rl.no rfl rfl (decide_eq_false hc6) ?_
  refine Rl.no rfl rfl (decide_eq_false hc6) ?_
  refine Rl.no rfl rfl (decide_eq_false hc6) ?_
  refine Rl.no rfl rfl (decide_eq_false hc6) ?_
  refine Rl.no rfl rfl (decide_eq_false hc6) ?_
  refine Rl.op (OpY.pick_f (t := (decide ((state : Int) ≥ 0))) (v := (Value.bool false)) rfl (decide_eq_false hc6) rfl ?_)
  refine Rl.op (OpY.assign (v := (Value.bool false)) rfl ?_)
  refine Rl.nil (Swp.ret ?_)
  obtain rfl := Option.some.inj h
  refine ⟨[(Value.bool false)], ⟨rfl, trivial⟩, ⟨_, rfl, hL3.done, ?_⟩⟩
  exact ⟨rfl, trivial⟩
theorem rPlace_w (N : Nat) (l : (List APair2)) (p : APair2) (l_v : Value) (w : World) (S : Nat → Prop) (l_h : Rs rAPair2 (Hv w.heap.size S [] w) l_v l) (r : Int) (h : rPlace N l p = some r) :
  Calls Tryd.prog 51 #[l_v, (Value.agg #[(Value.int .i64 p.A), (Value.int .i64 p.B)])] w (Ret w (fun v w' => (Value.int .i64 r) = v ∧ True)) := by
 unfold rPlace at h
 have hL : Go.X.Loc [] [] w w [] [] := Go.X.Loc.begin0 w
 refine calls_of (l := [l_v, (Value.agg #[(Value.int .i64 p.A), (Value.int .i64 p.B)])]) (rl := [.tmp 4]) (n := 21) Tryd.func51 rfl rfl rfl (Nat.le_of_ble_eq_true rfl) ?_
 refine Swp.seq (Swp.region rfl (Rl.op (OpY.box (cs := [(Value.int .i64 p.A), (Value.int .i64 p.B)]) rfl rfl hL ?_)))
 intro b1 w2 hL3 hS5
 have K4 := ks w hS5
 refine Rl.op (OpY.assign (v := (Value.int .i64 0)) rfl ?_)
 refine Rl.nil (Swp.seq (Swp.seq (Swp.region rfl (Rl.op (OpY.assign (v := (Value.int .i64 0)) rfl ?_)))))
 refine Rl.nil ?_
 obtain ⟨s10, hl10, g10⟩ := bind_some h
 refine Swp.join (fun e w' => ∃  (u : Env), (Sum.inl ()) = s10 ∧ e = upds [(0, l_v)] u ∧ Go.X.Loc [] [] w w' [] [] ∧ Keep w.heap.size [some b1] w2 [] w' ∧ True) ?_ ?_
 ·
  refine Swp.block ?_
  refine Swp.loopM hl10 (fun (ss : Int) (e : Env) (w' : World) => match ss with | i10 => ∃ (u : Env), e = upds [(0, l_v), (3, (Value.pointer (some ⟨b1, 0, none⟩))), (5, (Value.int .i64 i10))] u ∧ Go.X.Loc [] [] w w' [some b1] [Cont.cells [(Value.int .i64 p.A), (Value.int .i64 p.B)]] ∧ Keep w.heap.size [some b1] w2 [some b1] w' ∧ True) ⟨_, (upds_sym ⟨rfl, rfl, rfl, trivial⟩), hL3, Keep.refl, trivial⟩ ?_
  rintro i10 oo _ w10 ⟨u, rfl, hL10, K10, -⟩ h hd10
  rw [rPlace_b1] at h
  refine Swp.seq (Swp.seq (Swp.region rfl (Rl.op (OpY.move (v := (Value.int .i64 i10)) rfl ?_))))
  refine Rl.op (OpY.move (v := l_v) rfl ?_)
  have f10 := ((l_h.mono (K4 S)).mono (K10 S))
  refine Rl.op (OpY.lenRo (v := l_v) Tryd.underlying85 rfl f10 ?_)
  refine Rl.op (OpY.lss (x := i10) (y := (List.length l : Int)) ((i10 : Int) < (List.length l : Int)) rfl rfl Iff.rfl ?_)
  refine Rl.nil ?_
  refine Swp.cond_d ((i10 : Int) < (List.length l : Int)) rfl (fun hc10 => ?_) (fun hc10 => ?_)
  ·
   replace h := ite_t hc10 h
   refine Swp.skip (Swp.seq (Swp.block (Swp.seq ?_)))
   obtain ⟨x10, q10, h⟩ := bind_some h
   obtain ⟨n10, q11, q12⟩ := idx_some q10
   obtain ⟨b10, o10, c10, vs10, q13, q14, f11, q15⟩ := Rs.get f10 q12
   obtain ⟨rfl, -⟩ := rAPair2_open q15
   refine Swp.drawL 5 [] [] (fun W1 => [.det l_v, .det (Value.int .i64 i10), .det (Value.pointer (some ⟨b10, (o10 + n10 * rAPair2.sz), none⟩)), .det (Value.agg #[(Value.int .i64 x10.A), (Value.int .i64 x10.B)]), .det (Value.agg #[(Value.int .i64 p.A), (Value.int .i64 p.B)])]) mixed rfl rfl rfl (fun _ => rfl) (fun _ => rfl) ?_ ?_
   ·
    intro W1 _
    exact trivial
   ·
    intro w11 hE10
    have hL11 := hL10.ext hE10
    have K11 := ke hL10 hE10
    refine DrH.de (fun _ _ => GOp.op (OpY.move rfl (er rfl))) ?_
    refine DrH.de (fun _ _ => GOp.op (OpY.move rfl (er rfl))) ?_
    refine DrH.de (fun _ _ => GOp.op (OpY.ixRoD (r := rAPair2) (v := l_v) (n := n10) (m := (o10 + n10 * rAPair2.sz)) Tryd.underlying85 ti88 rfl q13 rfl q11 q12 rfl (er rfl))) ?_
    refine DrH.de (fun _ hE14 => GOp.op (OpY.ldRoA (vs := [(Value.int .i64 x10.A), (Value.int .i64 x10.B)]) Tryd.underlying88 rfl ti88 rfl rfl vw_view (At.mono ((ke hL11 hE14) S) (At.mono (K11 S) f11)) (er rfl))) ?_
    refine DrH.de (fun _ hE15 => GOp.op (OpY.ldBoxA (vs := [(Value.int .i64 p.A), (Value.int .i64 p.B)]) Tryd.underlying88 rfl ti88 rfl ((hL11.ext hE15).at 0 rfl rfl) rfl rfl (er rfl))) ?_
    refine DrH.fin0 ?_
    rintro w17 Z19 hE16 hZ15 ⟨-⟩ ap10
    have hB10 : ∀ b, some b ∈ ([] : List (Option Nat)) → w11.heap.size ≤ b ∧ ¬ Z19 b := by
     intro b hb; cases hb
    have hL13 := hL11.ext hE16
    have K13 := ke hL11 hE16
    refine Rl.op (OpY.eql2 eq2_88 rfl rfl ?_)
    refine Rl.nil ?_
    refine Swp.cond_d ((x10.A : Int) = p.A ∧ (x10.B : Int) = p.B) rfl (fun hc11 => ?_) (fun hc11 => ?_)
    ·
     replace h := ite_t hc11 h
     refine Swp.seq (Swp.region rfl (Rl.op (OpY.move (v := (Value.int .i64 i10)) rfl ?_)))
     refine Rl.op (OpY.assign (v := (Value.int .i64 i10)) rfl ?_)
     refine Rl.nil (Swp.ret ?_)
     obtain rfl := Option.some.inj h
     obtain rfl := hd10 _ rfl
     replace h := g10
     try dsimp only at h
     obtain rfl := Option.some.inj h
     refine ⟨[(Value.int .i64 i10)], ⟨rfl, trivial⟩, ⟨_, rfl, hL13.done, ?_⟩⟩
     exact ⟨rfl, trivial⟩
    ·
     replace h := ite_f hc11 h
     refine Swp.skip (Swp.pop_blk (Swp.region rfl (Rl.op (OpY.move (v := (Value.int .i64 i10)) rfl ?_))))
     refine Rl.op (OpY.add (x := i10) (y := 1) (z := (iw (i10 + 1))) rfl rfl rfl ?_)
     refine Rl.op (OpY.assign (v := (Value.int .i64 (iw (i10 + 1)))) rfl ?_)
     refine Rl.nil ?_
     obtain rfl := Option.some.inj h
     refine Swp.pop_back ⟨(iw (i10 + 1)), rfl, ?_⟩
     exact ⟨_, (upds_sym ⟨rfl, rfl, rfl, trivial⟩), hL13, (Keep.trans (Keep.trans K10 K11) K13), trivial⟩
  ·
   replace h := ite_f hc10 h
   refine Swp.exit rfl ?_
   have hp10 := hL10.pick [] rfl rfl rfl
   have hL14 : Go.X.Loc [] [] w w10 [] [] := hp10.1
   have K14 := ks w hp10.2
   obtain rfl := Option.some.inj h
   obtain rfl := hd10 _ rfl
   replace h := g10
   try dsimp only at h
   skip
   refine Swp.pop_back ?_
   exact ⟨_, rfl, (upds_sym ⟨rfl, trivial⟩), hL14, (Keep.trans K10 K14), trivial⟩
 ·
  rintro _ w18 ⟨u, rfl, rfl, hL15, K15, -⟩
  replace h := g10
  try dsimp only at h
  refine Swp.seq (Swp.region rfl (Rl.op (OpY.move (v := l_v) rfl ?_)))
  have f12 := ((l_h.mono (K4 S)).mono (K15 S))
  refine Rl.op (OpY.lenRo (v := l_v) Tryd.underlying85 rfl f12 ?_)
  refine Rl.op (OpY.assign (v := (Value.int .i64 (List.length l : Int))) rfl ?_)
  refine Rl.nil (Swp.ret ?_)
  obtain rfl := Option.some.inj h
  refine ⟨[(Value.int .i64 (List.length l : Int))], ⟨rfl, trivial⟩, ⟨_, rfl, hL15.done, ?_⟩⟩
  exact ⟨rfl, trivial⟩
theorem rPairs_w (N : Nat) (a : ADfa) (b : ADfa) (a_v : Value) (a_v1 : Value) (b_v : Value) (b_v1 : Value) (w : World) (S : Nat → Prop) (a_h : Rs rBool (Hv w.heap.size S [] w) a_v a.Accept) (a_h1 : Rs (rSl rAEdge) (Hv w.heap.size S [] w) a_v1 a.Edges) (b_h : Rs rBool (Hv w.heap.size S [] w) b_v b.Accept) (b_h1 : Rs (rSl rAEdge) (Hv w.heap.size S [] w) b_v1 b.Edges) (r : (List APair2)) (h : rPairs N a b = some r) :
  Calls Tryd.prog 50 #[(Value.agg #[a_v, a_v1]), (Value.agg #[b_v, b_v1])] w (Ret w (fun v w' => ∃ (ob0 : Option Nat) (cap0 : Nat) (cs0 : List Value) (sp0 : List Value), (osv ob0 0 (List.length r) cap0) = v ∧ NewOwn w w' [ob0] [Cont.cells ([] ++ (cs0 ++ sp0))] ∧ Els rAPair2 (Hv w.heap.size None [ob0] w') cs0 r ∧ (cs0 ++ sp0).length = cap0 * rAPair2.sz ∧ True)) := by
 unfold rPairs at h
 have hL : Go.X.Loc [] [] w w [] [] := Go.X.Loc.begin0 w
 refine calls_of (l := [(Value.agg #[a_v, a_v1]), (Value.agg #[b_v, b_v1])]) (rl := [.tmp 4]) (n := 49) Tryd.func50 rfl rfl rfl (Nat.le_of_ble_eq_true rfl) ?_
 refine Swp.seq (Swp.region rfl (Rl.op (OpY.box (cs := [a_v, a_v1]) rfl rfl hL ?_)))
 intro b1 w2 hL3 hS5
 have K4 := ks w hS5
 refine Rl.op (OpY.box (cs := [b_v, b_v1]) rfl rfl hL3 ?_)
 intro b6 w7 hL8 hS10
 have K9 := ks w hS10
 refine Rl.op (OpY.assign (v := (Value.slice none 0 0)) rfl ?_)
 refine Rl.nil (Swp.seq (Swp.region rfl (Rl.op (OpY.build (zc := [(Value.int .i64 0), (Value.int .i64 0)]) (cs := [(Value.int .i64 0), (Value.int .i64 0)]) (is := [0, 1]) (vs := [(Value.int .i64 0), (Value.int .i64 0)]) (css := [[(Value.int .i64 0)], [(Value.int .i64 0)]]) pl88 ti88 rfl rfl rfl ⟨rfl, rfl, trivial⟩ rfl ?_))))
 have hE10 : Els rAPair2 (Hv w.heap.size None [some b6, some b1] w7) [(Value.int .i64 0), (Value.int .i64 0)] [(APair2.mk 0 0)] := (Els.cons (a := [(Value.int .i64 0), (Value.int .i64 0)]) (rAPair2_close ⟨rfl, trivial⟩) Els.nil)
 refine Rl.op (OpY.litRow (r := rAPair2) (vs := [(Value.agg #[(Value.int .i64 0), (Value.int .i64 0)])]) (css := [[(Value.int .i64 0), (Value.int .i64 0)]]) (xs := [(APair2.mk 0 0)]) Tryd.underlying85 ti88 (Nat.le_of_ble_eq_true rfl) rfl rfl ⟨rfl, rfl, trivial⟩ (Nat.le_of_ble_eq_true rfl) hE10 rfl hL8 ?_)
 intro b10 w10 hc10 hL10 hS11
 have K10 := ks w hS11
 refine Rl.op (OpY.assign (v := (osv (some b10) 0 1 1)) rfl ?_)
 refine Rl.nil (Swp.seq (Swp.seq (Swp.region rfl (Rl.op (OpY.assign (v := (Value.int .i64 0)) rfl ?_)))))
 refine Rl.nil ?_
 obtain ⟨s10, hl10, g10⟩ := bind_some h
 refine Swp.join (fun e w' => ∃ (l10 : (List APair2)) (ob10 : Option Nat) (cap10 : Nat) (sp10 : List Value) (cs10 : List Value) (ln10 : Nat) (u : Env), l10 = s10 ∧ e = upds [(5, (osv ob10 0 ln10 cap10))] u ∧ Go.X.Loc [] [] w w' [ob10] [Cont.cells ([] ++ (cs10 ++ sp10))] ∧ Keep w.heap.size [some b10, some b6, some b1] w10 [ob10] w' ∧ Els rAPair2 (Hv w.heap.size None [ob10] w') cs10 l10 ∧ ln10 = List.length l10 ∧ (cs10 ++ sp10).length = cap10 * rAPair2.sz ∧ True) ?_ ?_
 ·
  refine Swp.block ?_
  have hp10 := hL10.pick [2, 1, 0] rfl rfl rfl
  have hL11 : Go.X.Loc [] [] w w10 [some b1, some b6, some b10] [Cont.cells [a_v, a_v1], Cont.cells [b_v, b_v1], Cont.cells ([] ++ ([(Value.int .i64 0), (Value.int .i64 0)] ++ []))] := hp10.1
  have K11 := ks w hp10.2
  have f10 := ((hE10.mono (K10 None)).mono (K11 None))
  refine Swp.loopM hl10 (fun (ss : ((List APair2) × Int)) (e : Env) (w' : World) => match ss with | (l11, i10) => ∃ (ob11 : Option Nat) (cap11 : Nat) (sp11 : List Value) (cs11 : List Value) (ln11 : Nat) (u : Env), e = upds [(2, (Value.pointer (some ⟨b1, 0, none⟩))), (3, (Value.pointer (some ⟨b6, 0, none⟩))), (5, (osv ob11 0 ln11 cap11)), (6, (Value.int .i64 i10))] u ∧ Go.X.Loc [] [] w w' [some b1, some b6, ob11] [Cont.cells [a_v, a_v1], Cont.cells [b_v, b_v1], Cont.cells ([] ++ (cs11 ++ sp11))] ∧ Keep w.heap.size [some b10, some b6, some b1] w10 [some b1, some b6, ob11] w' ∧ Els rAPair2 (Hv w.heap.size None [some b1, some b6, ob11] w') cs11 l11 ∧ ln11 = List.length l11 ∧ (cs11 ++ sp11).length = cap11 * rAPair2.sz ∧ True) ⟨some b10, 1, [], [(Value.int .i64 0), (Value.int .i64 0)], 1, _, (upds_sym ⟨rfl, rfl, rfl, rfl, trivial⟩), hL11, K11, f10, rfl, hc10, trivial⟩ ?_
  rintro ⟨l11, i10⟩ oo _ w11 ⟨ob11, cap11, sp11, cs11, ln11, u, rfl, hL12, K12, hE11, rfl, hc11, -⟩ h hd10
  rw [rPairs_b1] at h
  refine Swp.seq (Swp.seq (Swp.region rfl (Rl.op (OpY.move (v := (Value.int .i64 i10)) rfl ?_))))
  refine Rl.op (OpY.move (v := (osv ob11 0 (List.length l11) cap11)) rfl ?_)
  refine Rl.op (OpY.lenRow (pre := []) (r := rAPair2) (xs := l11) Tryd.underlying85 rfl (hL12.at 2 rfl rfl) hE11 rfl rfl ?_)
  refine Rl.op (OpY.lss (x := i10) (y := (List.length l11 : Int)) ((i10 : Int) < (List.length l11 : Int)) rfl rfl Iff.rfl ?_)
  refine Rl.nil ?_
  refine Swp.cond_d ((i10 : Int) < (List.length l11 : Int)) rfl (fun hc12 => ?_) (fun hc12 => ?_)
  ·
   replace h := ite_t hc12 h
   refine Swp.skip (Swp.seq (Swp.block (Swp.seq (Swp.region rfl (Rl.op (OpY.assign (v := (Value.int .u8 32)) rfl ?_))))))
   refine Rl.nil ?_
   obtain ⟨s11, hl11, g11⟩ := bind_some h
   refine Swp.join (fun e w' => ∃ (l12 : (List APair2)) (ob12 : Option Nat) (cap12 : Nat) (sp12 : List Value) (cs12 : List Value) (ln12 : Nat) (u : Env), l12 = s11 ∧ e = upds [(2, (Value.pointer (some ⟨b1, 0, none⟩))), (3, (Value.pointer (some ⟨b6, 0, none⟩))), (5, (osv ob12 0 ln12 cap12)), (6, (Value.int .i64 i10))] u ∧ Go.X.Loc [] [] w w' [some b1, some b6, ob12] [Cont.cells [a_v, a_v1], Cont.cells [b_v, b_v1], Cont.cells ([] ++ (cs12 ++ sp12))] ∧ Keep w.heap.size [some b1, some b6, ob11] w11 [some b1, some b6, ob12] w' ∧ Els rAPair2 (Hv w.heap.size None [some b1, some b6, ob12] w') cs12 l12 ∧ ln12 = List.length l12 ∧ (cs12 ++ sp12).length = cap12 * rAPair2.sz ∧ True) ?_ ?_
   ·
    refine Swp.block ?_
    refine Swp.loopM hl11 (fun (ss : ((List APair2) × Int)) (e : Env) (w' : World) => match ss with | (l13, c10) => ∃ (ob13 : Option Nat) (cap13 : Nat) (sp13 : List Value) (cs13 : List Value) (ln13 : Nat) (u : Env), e = upds [(2, (Value.pointer (some ⟨b1, 0, none⟩))), (3, (Value.pointer (some ⟨b6, 0, none⟩))), (5, (osv ob13 0 ln13 cap13)), (6, (Value.int .i64 i10)), (7, (Value.int .u8 c10))] u ∧ Go.X.Loc [] [] w w' [some b1, some b6, ob13] [Cont.cells [a_v, a_v1], Cont.cells [b_v, b_v1], Cont.cells ([] ++ (cs13 ++ sp13))] ∧ Keep w.heap.size [some b1, some b6, ob11] w11 [some b1, some b6, ob13] w' ∧ Els rAPair2 (Hv w.heap.size None [some b1, some b6, ob13] w') cs13 l13 ∧ ln13 = List.length l13 ∧ (cs13 ++ sp13).length = cap13 * rAPair2.sz ∧ True) ⟨ob11, cap11, sp11, cs11, (List.length l11), _, (upds_sym ⟨rfl, rfl, rfl, rfl, rfl, trivial⟩), hL12, Keep.refl, hE11, rfl, hc11, trivial⟩ ?_
    rintro ⟨l13, c10⟩ oo _ w12 ⟨ob13, cap13, sp13, cs13, ln13, u, rfl, hL13, K13, hE12, rfl, hc13, -⟩ h hd11
    rw [rPairs_b2] at h
    refine Swp.seq (Swp.seq (Swp.region rfl (Rl.op (OpY.move (v := (Value.int .u8 c10)) rfl ?_))))
    refine Rl.op (OpY.lss (x := c10) (y := 127) ((c10 : Int) < 127) rfl rfl Iff.rfl ?_)
    refine Rl.nil ?_
    refine Swp.cond_d ((c10 : Int) < 127) rfl (fun hc14 => ?_) (fun hc14 => ?_)
    ·
     replace h := ite_t hc14 h
     refine Swp.skip (Swp.seq (Swp.block (Swp.seq ?_)))
     obtain ⟨x10, q10, h⟩ := bind_some h
     obtain ⟨n10, q11, q12⟩ := idx_some q10
     have q13 := (List.getElem?_eq_some_iff.1 q12).1
     obtain ⟨b11, hb10⟩ := hL13.row_some 2 rfl rfl (row_pos (pre := []) hE12 q12 (Nat.lt_of_sub_eq_succ rfl))
     obtain ⟨vs10, q14, q15, q16⟩ := row_elem (pre := []) (sp := sp13) hE12 q12
     obtain ⟨rfl, -⟩ := rAPair2_open q15
     have q17 := elem_part (us := [(Value.int .i64 x10.A)]) (q := 0) q16 rfl
     obtain ⟨r10, q18, h⟩ := bind_some h
     obtain ⟨x11, q19, h⟩ := bind_some h
     obtain ⟨n11, q20, q21⟩ := idx_some q19
     have q22 := (List.getElem?_eq_some_iff.1 q21).1
     obtain ⟨vs11, q23, q24, q25⟩ := row_elem (pre := []) (sp := sp13) hE12 q21
     obtain ⟨rfl, -⟩ := rAPair2_open q24
     have q26 := elem_part (us := [(Value.int .i64 x11.B)]) (q := 1) q25 rfl
     obtain ⟨r11, q27, h⟩ := bind_some h
     refine Swp.drawL 18 [] [] (fun W1 => [.det (Value.agg #[a_v, a_v1]), .det (osv ob13 0 (List.length l13) cap13), .det (Value.int .i64 i10), .det (Value.pointer (some ⟨b11, (0 + n10 * rAPair2.sz), none⟩)), .det (Value.pointer (some ⟨b11, ((0 + n10 * rAPair2.sz) + 0), none⟩)), .det (Value.int .i64 x10.A), .det (Value.int .u8 c10), .det (Value.int .i64 r10), .det (Value.agg #[b_v, b_v1]), .det (osv ob13 0 (List.length l13) cap13), .det (Value.int .i64 i10), .det (Value.pointer (some ⟨b11, (0 + n11 * rAPair2.sz), none⟩)), .det (Value.pointer (some ⟨b11, ((0 + n11 * rAPair2.sz) + 1), none⟩)), .det (Value.int .i64 x11.B), .det (Value.int .u8 c10), .det (Value.int .i64 r11), .det (Value.agg #[(Value.int .i64 r10), (Value.int .i64 r11)]), .rel (fun v Z w' => ∃ b12, (Value.pointer (some ⟨b12, 0, none⟩)) = v ∧ OwnC w' (some b12) (Cont.cells [(Value.int .i64 0), (Value.int .i64 0)]) ∧ True) footV]) mixed rfl rfl rfl (fun _ => rfl) (fun _ => rfl) ?_ ?_
     ·
      intro W1 _
      exact ⟨fun v Z Z' w w' hΦ hz _ _ hs => by obtain ⟨b12, rfl, hO10, -⟩ := hΦ; exact ⟨b12, rfl, (hO10.stay (fun b hb => by cases hb; exact List.mem_cons_self) hs), trivial⟩, trivial⟩
     ·
      intro w13 hE13
      have hL14 := hL13.ext hE13
      have K14 := ke hL13 hE13
      refine DrH.de (fun _ hE14 => GOp.op (OpY.ldBoxA (vs := [a_v, a_v1]) Tryd.underlying25 rfl ti25 rfl ((hL14.ext hE14).at 0 rfl rfl) rfl rfl (er rfl))) ?_
      refine DrH.de (fun _ _ => GOp.op (OpY.move rfl (er rfl))) ?_
      refine DrH.de (fun _ _ => GOp.op (OpY.move rfl (er rfl))) ?_
      refine DrH.de (fun _ _ => GOp.op (OpY.ixRowD (r := rAPair2) (b := b11) (o := 0) (n := n10) (m := (List.length l13)) (xs := l13) (q := (0 + n10 * rAPair2.sz)) Tryd.underlying85 ti88 (osv_some hb10) rfl rfl q11 q13 rfl (er rfl))) ?_
      refine DrH.de (fun _ _ => GOp.op (OpY.fieldAddr Tryd.underlying88 rfl ti3 rfl rfl rfl (er rfl))) ?_
      refine DrH.de (fun _ hE19 => GOp.op (OpY.ldElem1 Tryd.underlying3 rfl rfl (own_some hb10 ((hL14.ext hE19).at 2 rfl rfl)) q17 (er rfl))) ?_
      refine DrH.de (fun _ _ => GOp.op (OpY.move rfl (er rfl))) ?_
      refine DrH.det ?_ ?_
      ·
       rintro w21 Z21 hE21 hZ17 ⟨-⟩
       have K15 := ke hL14 hE21
       refine GOp.op (OpY.call en52 rfl rfl (rStep_w N a x10.A c10 a_v a_v1 _ Any ((((((((a_h.mono (K4 S)).mono (K9 S)).mono (K10 S)).mono (K12 S)).mono (K13 S)).mono (K14 S)).mono (K15 S)).mono vw_any) ((((((((a_h1.mono (K4 S)).mono (K9 S)).mono (K10 S)).mono (K12 S)).mono (K13 S)).mono (K14 S)).mono (K15 S)).mono vw_any) r10 q18) ?_)
       rintro _ w22 hE22 ⟨rfl, -⟩
       exact ⟨hE22, rfl⟩
      refine DrH.de (fun _ hE23 => GOp.op (OpY.ldBoxA (vs := [b_v, b_v1]) Tryd.underlying25 rfl ti25 rfl ((hL14.ext hE23).at 1 rfl rfl) rfl rfl (er rfl))) ?_
      refine DrH.de (fun _ _ => GOp.op (OpY.move rfl (er rfl))) ?_
      refine DrH.de (fun _ _ => GOp.op (OpY.move rfl (er rfl))) ?_
      refine DrH.de (fun _ _ => GOp.op (OpY.ixRowD (r := rAPair2) (b := b11) (o := 0) (n := n11) (m := (List.length l13)) (xs := l13) (q := (0 + n11 * rAPair2.sz)) Tryd.underlying85 ti88 (osv_some hb10) rfl rfl q20 q22 rfl (er rfl))) ?_
      refine DrH.de (fun _ _ => GOp.op (OpY.fieldAddr Tryd.underlying88 rfl ti3 rfl rfl rfl (er rfl))) ?_
      refine DrH.de (fun _ hE28 => GOp.op (OpY.ldElem1 Tryd.underlying3 rfl rfl (own_some hb10 ((hL14.ext hE28).at 2 rfl rfl)) q26 (er rfl))) ?_
      refine DrH.de (fun _ _ => GOp.op (OpY.move rfl (er rfl))) ?_
      refine DrH.det ?_ ?_
      ·
       rintro w30 Z29 hE30 hZ25 ⟨-⟩
       have K16 := ke hL14 hE30
       refine GOp.op (OpY.call en52 rfl rfl (rStep_w N b x11.B c10 b_v b_v1 _ Any ((((((((b_h.mono (K4 S)).mono (K9 S)).mono (K10 S)).mono (K12 S)).mono (K13 S)).mono (K14 S)).mono (K16 S)).mono vw_any) ((((((((b_h1.mono (K4 S)).mono (K9 S)).mono (K10 S)).mono (K12 S)).mono (K13 S)).mono (K14 S)).mono (K16 S)).mono vw_any) r11 q27) ?_)
       rintro _ w31 hE31 ⟨rfl, -⟩
       exact ⟨hE31, rfl⟩
      refine DrH.de (fun _ _ => GOp.op (OpY.build (zc := [(Value.int .i64 0), (Value.int .i64 0)]) (cs := [(Value.int .i64 r10), (Value.int .i64 r11)]) (is := [0, 1]) (vs := [(Value.int .i64 r10), (Value.int .i64 r11)]) (css := [[(Value.int .i64 r10)], [(Value.int .i64 r11)]]) pl88 ti88 rfl rfl rfl ⟨rfl, rfl, trivial⟩ rfl (er rfl))) ?_
      refine DrH.rel ?_ ?_
      ·
       rintro w33 Z31 hE33 hZ27 ⟨-⟩
       refine GOp.op (OpY.alloc (cs := [(Value.int .i64 0), (Value.int .i64 0)]) ti88 rfl (Go.X.Loc.begin0 w33) ?_)
       intro b12 w34 hL19 hS12
       have hN10 : NewOwn w33 w34 [some b12] [Cont.cells [(Value.int .i64 0), (Value.int .i64 0)]] := hL19.newOwn [0] rfl rfl rfl
       exact Made.ext hL19.done hZ27 hN10 (fun _ h => h) ⟨b12, rfl, hN10.2.2.1, trivial⟩
      intro z10
      refine DrH.fin0 ?_
      rintro w35 Z32 hE34 hZ28 ⟨⟨⟨b12, rfl, hO10, -⟩, hB10⟩, -⟩ ap10
      have hB11 : ∀ b, some b ∈ ([some b12] : List (Option Nat)) → w13.heap.size ≤ b ∧ ¬ Z32 b := by
       intro b hb
       rcases List.mem_cons.1 hb with hb' | hb
       ·
        have := hB10 b (by rw [hb']; exact List.mem_cons_self); exact ⟨this.1, this.2.2⟩
       cases hb
      have hN11 : NewOwn w13 w35 [some b12] [Cont.cells [(Value.int .i64 0), (Value.int .i64 0)]] := (NewOwn.cons NewOwn.nil hO10 (fun b hb => (hB11 b (by rw [← hb]; simp)).1) (fun b _ hb => by cases hb))
      have hp11 := hL14.adoptL hE34 hN11
      have hL20 := hp11.1
      have K17 := ks w hp11.2
      refine Rl.op0 (OpY.store (vs := [(Value.int .i64 r10), (Value.int .i64 r11)]) ti88 rfl rfl rfl rfl (ones_cons rfl (ones_cons rfl ones_nil)) hL20 0 rfl rfl (Nat.le_of_ble_eq_true rfl) ?_)
      intro w36 (hL21 : Go.X.Loc [] [] w w36 [some b12, some b1, some b6, ob13] [Cont.cells [(Value.int .i64 r10), (Value.int .i64 r11)], Cont.cells [a_v, a_v1], Cont.cells [b_v, b_v1], Cont.cells ([] ++ (cs13 ++ sp13))]) hS13
      have K18 := ks w hS13
      refine Rl.nil (Swp.seq (Swp.region rfl (Rl.op (OpY.move (v := (osv ob13 0 (List.length l13) cap13)) rfl ?_))))
      refine Rl.op (OpY.ldBoxA (vs := [(Value.int .i64 r10), (Value.int .i64 r11)]) Tryd.underlying88 rfl ti88 rfl (hL21.at 0 rfl rfl) rfl rfl ?_)
      obtain ⟨r12, q28, h⟩ := bind_some h
      have f11 := (((hE12.mono (K14 None)).mono (K17 None)).mono (K18 None))
      refine Rl.op (OpY.call en51 rfl rfl (rPlace_w N l13 (APair2.mk r10 r11) (osv ob13 0 (List.length l13) cap13) _ Any (own_row_any (pre := []) (o := 0) (n := (List.length l13)) (cap := cap13) (hL21.at 3 rfl rfl) f11 vw_any rfl rfl rfl hc13) r12 q28) ?_)
      rintro _ w37 hE35 ⟨rfl, -⟩
      have hL22 := hL21.ext hE35
      have K19 := ke hL21 hE35
      refine Rl.op (OpY.move (v := (osv ob13 0 (List.length l13) cap13)) rfl ?_)
      have f12 := (f11.mono (K19 None))
      refine Rl.op (OpY.lenRow (pre := []) (r := rAPair2) (xs := l13) Tryd.underlying85 rfl (hL22.at 3 rfl rfl) f12 rfl rfl ?_)
      refine Rl.op (OpY.eql (x := r12) (y := (List.length l13 : Int)) ((r12 : Int) = (List.length l13 : Int)) rfl rfl Iff.rfl ?_)
      refine Rl.nil ?_
      refine Swp.cond_d ((r12 : Int) = (List.length l13 : Int)) rfl (fun hc15 => ?_) (fun hc15 => ?_)
      ·
       replace h := ite_t hc15 h
       refine Swp.region rfl (Rl.op (OpY.move (v := (osv ob13 0 (List.length l13) cap13)) rfl ?_))
       refine Rl.op (OpY.ldBoxA (vs := [(Value.int .i64 r10), (Value.int .i64 r11)]) Tryd.underlying88 rfl ti88 rfl (hL22.at 0 rfl rfl) rfl rfl ?_)
       have hE36 : Els rAPair2 (Hv w.heap.size None [some b12, some b1, some b6, ob13] w37) [(Value.int .i64 r10), (Value.int .i64 r11)] [(APair2.mk r10 r11)] := (Els.cons (a := [(Value.int .i64 r10), (Value.int .i64 r11)]) (rAPair2_close ⟨rfl, trivial⟩) Els.nil)
       refine Rl.op (OpY.litRow (r := rAPair2) (vs := [(Value.agg #[(Value.int .i64 r10), (Value.int .i64 r11)])]) (css := [[(Value.int .i64 r10), (Value.int .i64 r11)]]) (xs := [(APair2.mk r10 r11)]) Tryd.underlying85 ti88 (Nat.le_of_ble_eq_true rfl) rfl rfl ⟨rfl, rfl, trivial⟩ (Nat.le_of_ble_eq_true rfl) hE36 rfl hL22 ?_)
       intro b13 w38 hc16 hL23 hS14
       have K20 := ks w hS14
       obtain ⟨x12, q29, h⟩ := bind_some h
       obtain ⟨q30, q31, q32⟩ := apnd_some q29
       have f13 := (hE36.mono (K20 None))
       have f14 := (f12.mono (K20 None))
       refine Rl.op (OpY.apRowX (r := rAPair2) (H := (Hv w.heap.size None [some b13, some b12, some b1, some b6, ob13] w38)) (cs := cs13) (sp := sp13) (xs := l13) (ys := [(APair2.mk r10 r11)]) (Y := x12) (n := (List.length l13)) (cap := cap13) (i := 4) Tryd.underlying85 ti88 rfl rfl rfl rfl hL23 rfl rfl f14 rfl hc13 (Src.row (pre := []) (o := 0) (n := 1) (cap := 1) (hL23.at 0 rfl rfl) f13 rfl rfl rfl) (Els.anyH (fun _ _ _ _ h => h) f13) q30 q31 q32 ?_)
       intro ob14 cap14 sp14 cs14 w39 hE37 hc17 (hL24 : Go.X.Loc [] [] w w39 [some b13, some b12, some b1, some b6, ob14] [Cont.cells ([] ++ ([(Value.int .i64 r10), (Value.int .i64 r11)] ++ [])), Cont.cells [(Value.int .i64 r10), (Value.int .i64 r11)], Cont.cells [a_v, a_v1], Cont.cells [b_v, b_v1], Cont.cells ([] ++ (cs14 ++ sp14))]) hS15
       have K21 := ks w hS15
       refine Rl.op (OpY.assign (v := (osv ob14 0 (List.length x12) cap14)) rfl ?_)
       refine Rl.nil (Swp.pop_blk (Swp.region rfl (Rl.op (OpY.move (v := (Value.int .u8 c10)) rfl ?_))))
       refine Rl.op (OpY.add (x := c10) (y := 1) (z := (uw8 (c10 + 1))) rfl rfl rfl ?_)
       refine Rl.op (OpY.assign (v := (Value.int .u8 (uw8 (c10 + 1)))) rfl ?_)
       refine Rl.nil ?_
       have hp12 := hL24.pick [2, 3, 4] rfl rfl rfl
       have hL25 : Go.X.Loc [] [] w w39 [some b1, some b6, ob14] [Cont.cells [a_v, a_v1], Cont.cells [b_v, b_v1], Cont.cells ([] ++ (cs14 ++ sp14))] := hp12.1
       have K22 := ks w hp12.2
       have f15 := ((hE37.mono (K21 None)).mono (K22 None))
       obtain rfl := Option.some.inj h
       refine Swp.pop_back ⟨(x12, (uw8 (c10 + 1))), rfl, ?_⟩
       exact ⟨ob14, cap14, sp14, cs14, (List.length x12), _, (upds_sym ⟨rfl, rfl, rfl, rfl, rfl, trivial⟩), hL25, (Keep.trans (Keep.trans (Keep.trans (Keep.trans (Keep.trans (Keep.trans (Keep.trans K13 K14) K17) K18) K19) K20) K21) K22), f15, rfl, hc17, trivial⟩
      ·
       replace h := ite_f hc15 h
       refine Swp.skip (Swp.pop_blk (Swp.region rfl (Rl.op (OpY.move (v := (Value.int .u8 c10)) rfl ?_))))
       refine Rl.op (OpY.add (x := c10) (y := 1) (z := (uw8 (c10 + 1))) rfl rfl rfl ?_)
       refine Rl.op (OpY.assign (v := (Value.int .u8 (uw8 (c10 + 1)))) rfl ?_)
       refine Rl.nil ?_
       have hp13 := hL22.pick [1, 2, 3] rfl rfl rfl
       have hL26 : Go.X.Loc [] [] w w37 [some b1, some b6, ob13] [Cont.cells [a_v, a_v1], Cont.cells [b_v, b_v1], Cont.cells ([] ++ (cs13 ++ sp13))] := hp13.1
       have K23 := ks w hp13.2
       have f16 := (f12.mono (K23 None))
       obtain rfl := Option.some.inj h
       refine Swp.pop_back ⟨(l13, (uw8 (c10 + 1))), rfl, ?_⟩
       exact ⟨ob13, cap13, sp13, cs13, (List.length l13), _, (upds_sym ⟨rfl, rfl, rfl, rfl, rfl, trivial⟩), hL26, (Keep.trans (Keep.trans (Keep.trans (Keep.trans (Keep.trans K13 K14) K17) K18) K19) K23), f16, rfl, hc13, trivial⟩
    ·
     replace h := ite_f hc14 h
     refine Swp.exit rfl ?_
     obtain rfl := Option.some.inj h
     obtain rfl := hd11 _ rfl
     replace h := g11
     try dsimp only at h
     skip
     refine Swp.pop_back ?_
     exact ⟨l13, ob13, cap13, sp13, cs13, (List.length l13), _, rfl, (upds_sym ⟨rfl, rfl, rfl, rfl, trivial⟩), hL13, K13, hE12, rfl, hc13, trivial⟩
   ·
    rintro _ w40 ⟨l12, ob12, cap12, sp12, cs12, ln12, u, rfl, rfl, hL27, K24, hE38, rfl, hc18, -⟩
    replace h := g11
    try dsimp only at h
    refine Swp.pop_blk (Swp.region rfl (Rl.op (OpY.move (v := (Value.int .i64 i10)) rfl ?_)))
    refine Rl.op (OpY.add (x := i10) (y := 1) (z := (iw (i10 + 1))) rfl rfl rfl ?_)
    refine Rl.op (OpY.assign (v := (Value.int .i64 (iw (i10 + 1)))) rfl ?_)
    refine Rl.nil ?_
    obtain rfl := Option.some.inj h
    refine Swp.pop_back ⟨(l12, (iw (i10 + 1))), rfl, ?_⟩
    exact ⟨ob12, cap12, sp12, cs12, (List.length l12), _, (upds_sym ⟨rfl, rfl, rfl, rfl, trivial⟩), hL27, (Keep.trans K12 K24), hE38, rfl, hc18, trivial⟩
  ·
   replace h := ite_f hc12 h
   refine Swp.exit rfl ?_
   have hp14 := hL12.pick [2] rfl rfl rfl
   have hL28 : Go.X.Loc [] [] w w11 [ob11] [Cont.cells ([] ++ (cs11 ++ sp11))] := hp14.1
   have K25 := ks w hp14.2
   have f17 := (hE11.mono (K25 None))
   obtain rfl := Option.some.inj h
   obtain rfl := hd10 _ rfl
   replace h := g10
   try dsimp only at h
   skip
   refine Swp.pop_back ?_
   exact ⟨l11, ob11, cap11, sp11, cs11, (List.length l11), _, rfl, (upds_sym ⟨rfl, trivial⟩), hL28, (Keep.trans K12 K25), f17, rfl, hc11, trivial⟩
 ·
  rintro _ w41 ⟨l10, ob10, cap10, sp10, cs10, ln10, u, rfl, rfl, hL29, K26, hE39, rfl, hc19, -⟩
  replace h := g10
  try dsimp only at h
  refine Swp.seq (Swp.region rfl (Rl.op (OpY.move (v := (osv ob10 0 (List.length l10) cap10)) rfl ?_)))
  refine Rl.op (OpY.assign (v := (osv ob10 0 (List.length l10) cap10)) rfl ?_)
  refine Rl.nil (Swp.ret ?_)
  obtain rfl := Option.some.inj h
  refine ⟨[(osv ob10 0 (List.length l10) cap10)], ⟨rfl, trivial⟩, ⟨_, rfl, hL29.done, ?_⟩⟩
  exact ⟨ob10, cap10, cs10, sp10, rfl, (hL29.newOwn [0] rfl rfl rfl), (hE39.mono (Hv.pick [0] rfl)), hc19, trivial⟩
theorem rEquivalent_w (N : Nat) (a : ADfa) (b : ADfa) (a_v : Value) (a_v1 : Value) (b_v : Value) (b_v1 : Value) (w : World) (S : Nat → Prop) (a_h : Rs rBool (Hv w.heap.size S [] w) a_v a.Accept) (a_h1 : Rs (rSl rAEdge) (Hv w.heap.size S [] w) a_v1 a.Edges) (b_h : Rs rBool (Hv w.heap.size S [] w) b_v b.Accept) (b_h1 : Rs (rSl rAEdge) (Hv w.heap.size S [] w) b_v1 b.Edges) (r : Bool) (h : rEquivalent N a b = some r) :
  Calls Tryd.prog 25 #[(Value.agg #[a_v, a_v1]), (Value.agg #[b_v, b_v1])] w (Ret w (fun v w' => (Value.bool r) = v ∧ True)) := by
 unfold rEquivalent at h
 have hL : Go.X.Loc [] [] w w [] [] := Go.X.Loc.begin0 w
 refine calls_of (l := [(Value.agg #[a_v, a_v1]), (Value.agg #[b_v, b_v1])]) (rl := [.tmp 4]) (n := 31) Tryd.func25 rfl rfl rfl (Nat.le_of_ble_eq_true rfl) ?_
 refine Swp.seq (Swp.region rfl (Rl.op (OpY.box (cs := [a_v, a_v1]) rfl rfl hL ?_)))
 intro b1 w2 hL3 hS5
 have K4 := ks w hS5
 refine Rl.op (OpY.box (cs := [b_v, b_v1]) rfl rfl hL3 ?_)
 intro b6 w7 hL8 hS10
 have K9 := ks w hS10
 refine Rl.op (OpY.assign (v := (Value.bool false)) rfl ?_)
 refine Rl.nil (Swp.seq (Swp.region rfl (Rl.op (OpY.ldBoxA (vs := [a_v, a_v1]) Tryd.underlying25 rfl ti25 rfl (hL8.at 1 rfl rfl) rfl rfl ?_))))
 refine Rl.op (OpY.ldBoxA (vs := [b_v, b_v1]) Tryd.underlying25 rfl ti25 rfl (hL8.at 0 rfl rfl) rfl rfl ?_)
 obtain ⟨r10, q10, h⟩ := bind_some h
 have f10 := ((a_h.mono (K4 S)).mono (K9 S))
 have f11 := ((a_h1.mono (K4 S)).mono (K9 S))
 have f12 := ((b_h.mono (K4 S)).mono (K9 S))
 have f13 := ((b_h1.mono (K4 S)).mono (K9 S))
 refine Rl.op (OpY.call en50 rfl rfl (rPairs_w N a b a_v a_v1 b_v b_v1 _ Any (f10.mono vw_any) (f11.mono vw_any) (f12.mono vw_any) (f13.mono vw_any) r10 q10) ?_)
 rintro _ w10 hE10 ⟨ob10, cap10, cs10, sp10, rfl, hN10, hE11, hc10, -⟩
 replace hE11 := hE11.mono (Hv.freshO (S := None) hL8 [ob10])
 have hp10 := hL8.adoptL hE10 hN10
 have hL10 := hp10.1
 have K10 := ks w hp10.2
 refine Rl.op (OpY.assign (v := (osv ob10 0 (List.length r10) cap10)) rfl ?_)
 refine Rl.nil (Swp.seq (Swp.seq (Swp.region rfl (Rl.op (OpY.assign (v := (Value.int .i64 0)) rfl ?_)))))
 refine Rl.nil ?_
 obtain ⟨s10, hl10, g10⟩ := bind_some h
 refine Swp.join (fun e w' => ∃  (u : Env), (Sum.inl ()) = s10 ∧ e = upds [] u ∧ Go.X.Loc [] [] w w' [] [] ∧ Keep w.heap.size [ob10, some b6, some b1] w10 [] w' ∧ True) ?_ ?_
 ·
  refine Swp.block ?_
  have hp11 := hL10.pick [2, 1, 0] rfl rfl rfl
  have hL11 : Go.X.Loc [] [] w w10 [some b1, some b6, ob10] [Cont.cells [a_v, a_v1], Cont.cells [b_v, b_v1], Cont.cells ([] ++ (cs10 ++ sp10))] := hp11.1
  have K11 := ks w hp11.2
  refine Swp.loopM hl10 (fun (ss : Int) (e : Env) (w' : World) => match ss with | i10 => ∃ (u : Env), e = upds [(2, (Value.pointer (some ⟨b1, 0, none⟩))), (3, (Value.pointer (some ⟨b6, 0, none⟩))), (5, (osv ob10 0 (List.length r10) cap10)), (6, (Value.int .i64 i10))] u ∧ Go.X.Loc [] [] w w' [some b1, some b6, ob10] [Cont.cells [a_v, a_v1], Cont.cells [b_v, b_v1], Cont.cells ([] ++ (cs10 ++ sp10))] ∧ Keep w.heap.size [ob10, some b6, some b1] w10 [some b1, some b6, ob10] w' ∧ True) ⟨_, (upds_sym ⟨rfl, rfl, rfl, rfl, trivial⟩), hL11, K11, trivial⟩ ?_
  rintro i10 oo _ w11 ⟨u, rfl, hL12, K12, -⟩ h hd10
  rw [rEquivalent_b1] at h
  refine Swp.seq (Swp.seq (Swp.region rfl (Rl.op (OpY.move (v := (Value.int .i64 i10)) rfl ?_))))
  refine Rl.op (OpY.move (v := (osv ob10 0 (List.length r10) cap10)) rfl ?_)
  have f14 := (hE11.mono (K12 None))
  refine Rl.op (OpY.lenRow (pre := []) (r := rAPair2) (xs := r10) Tryd.underlying85 rfl (hL12.at 2 rfl rfl) f14 rfl rfl ?_)
  refine Rl.op (OpY.lss (x := i10) (y := (List.length r10 : Int)) ((i10 : Int) < (List.length r10 : Int)) rfl rfl Iff.rfl ?_)
  refine Rl.nil ?_
  refine Swp.cond_d ((i10 : Int) < (List.length r10 : Int)) rfl (fun hc11 => ?_) (fun hc11 => ?_)
  ·
   replace h := ite_t hc11 h
   refine Swp.skip (Swp.seq (Swp.block (Swp.seq ?_)))
   obtain ⟨x10, q11, h⟩ := bind_some h
   obtain ⟨n10, q12, q13⟩ := idx_some q11
   have q14 := (List.getElem?_eq_some_iff.1 q13).1
   obtain ⟨b10, hb10⟩ := hL12.row_some 2 rfl rfl (row_pos (pre := []) f14 q13 (Nat.lt_of_sub_eq_succ rfl))
   obtain ⟨vs10, q15, q16, q17⟩ := row_elem (pre := []) (sp := sp10) f14 q13
   obtain ⟨rfl, -⟩ := rAPair2_open q16
   have q18 := elem_part (us := [(Value.int .i64 x10.A)]) (q := 0) q17 rfl
   obtain ⟨r11, q19, h⟩ := bind_some h
   obtain ⟨x11, q20, h⟩ := bind_some h
   obtain ⟨n11, q21, q22⟩ := idx_some q20
   have q23 := (List.getElem?_eq_some_iff.1 q22).1
   obtain ⟨vs11, q24, q25, q26⟩ := row_elem (pre := []) (sp := sp10) f14 q22
   obtain ⟨rfl, -⟩ := rAPair2_open q25
   have q27 := elem_part (us := [(Value.int .i64 x11.B)]) (q := 1) q26 rfl
   refine Swp.drawL 13 [] [] (fun W1 => [.det (Value.agg #[a_v, a_v1]), .det (osv ob10 0 (List.length r10) cap10), .det (Value.int .i64 i10), .det (Value.pointer (some ⟨b10, (0 + n10 * rAPair2.sz), none⟩)), .det (Value.pointer (some ⟨b10, ((0 + n10 * rAPair2.sz) + 0), none⟩)), .det (Value.int .i64 x10.A), .det (Value.bool r11), .det (Value.agg #[b_v, b_v1]), .det (osv ob10 0 (List.length r10) cap10), .det (Value.int .i64 i10), .det (Value.pointer (some ⟨b10, (0 + n11 * rAPair2.sz), none⟩)), .det (Value.pointer (some ⟨b10, ((0 + n11 * rAPair2.sz) + 1), none⟩)), .det (Value.int .i64 x11.B)]) mixed rfl rfl rfl (fun _ => rfl) (fun _ => rfl) ?_ ?_
   ·
    intro W1 _
    exact trivial
   ·
    intro w12 hE12
    have hL13 := hL12.ext hE12
    have K13 := ke hL12 hE12
    refine DrH.de (fun _ hE13 => GOp.op (OpY.ldBoxA (vs := [a_v, a_v1]) Tryd.underlying25 rfl ti25 rfl ((hL13.ext hE13).at 0 rfl rfl) rfl rfl (er rfl))) ?_
    refine DrH.de (fun _ _ => GOp.op (OpY.move rfl (er rfl))) ?_
    refine DrH.de (fun _ _ => GOp.op (OpY.move rfl (er rfl))) ?_
    refine DrH.de (fun _ _ => GOp.op (OpY.ixRowD (r := rAPair2) (b := b10) (o := 0) (n := n10) (m := (List.length r10)) (xs := r10) (q := (0 + n10 * rAPair2.sz)) Tryd.underlying85 ti88 (osv_some hb10) rfl rfl q12 q14 rfl (er rfl))) ?_
    refine DrH.de (fun _ _ => GOp.op (OpY.fieldAddr Tryd.underlying88 rfl ti3 rfl rfl rfl (er rfl))) ?_
    refine DrH.de (fun _ hE18 => GOp.op (OpY.ldElem1 Tryd.underlying3 rfl rfl (own_some hb10 ((hL13.ext hE18).at 2 rfl rfl)) q18 (er rfl))) ?_
    refine DrH.det ?_ ?_
    ·
     rintro w19 Z20 hE19 hZ16 ⟨-⟩
     have K14 := ke hL13 hE19
     refine GOp.op (OpY.call en41 rfl rfl (rFinal_w N a x10.A a_v a_v1 _ Any (((((f10.mono (K10 S)).mono (K12 S)).mono (K13 S)).mono (K14 S)).mono vw_any) (((((f11.mono (K10 S)).mono (K12 S)).mono (K13 S)).mono (K14 S)).mono vw_any) r11 q19) ?_)
     rintro _ w20 hE20 ⟨rfl, -⟩
     exact ⟨hE20, rfl⟩
    refine DrH.de (fun _ hE21 => GOp.op (OpY.ldBoxA (vs := [b_v, b_v1]) Tryd.underlying25 rfl ti25 rfl ((hL13.ext hE21).at 1 rfl rfl) rfl rfl (er rfl))) ?_
    refine DrH.de (fun _ _ => GOp.op (OpY.move rfl (er rfl))) ?_
    refine DrH.de (fun _ _ => GOp.op (OpY.move rfl (er rfl))) ?_
    refine DrH.de (fun _ _ => GOp.op (OpY.ixRowD (r := rAPair2) (b := b10) (o := 0) (n := n11) (m := (List.length r10)) (xs := r10) (q := (0 + n11 * rAPair2.sz)) Tryd.underlying85 ti88 (osv_some hb10) rfl rfl q21 q23 rfl (er rfl))) ?_
    refine DrH.de (fun _ _ => GOp.op (OpY.fieldAddr Tryd.underlying88 rfl ti3 rfl rfl rfl (er rfl))) ?_
    refine DrH.de (fun _ hE26 => GOp.op (OpY.ldElem1 Tryd.underlying3 rfl rfl (own_some hb10 ((hL13.ext hE26).at 2 rfl rfl)) q27 (er rfl))) ?_
    refine DrH.fin0 ?_
    rintro w27 Z27 hE27 hZ23 ⟨-⟩ ap10
    have hB10 : ∀ b, some b ∈ ([] : List (Option Nat)) → w12.heap.size ≤ b ∧ ¬ Z27 b := by
     intro b hb; cases hb
    have hL18 := hL13.ext hE27
    have K15 := ke hL13 hE27
    obtain ⟨r12, q28, h⟩ := bind_some h
    have f15 := ((((f12.mono (K10 S)).mono (K12 S)).mono (K13 S)).mono (K15 S))
    have f16 := ((((f13.mono (K10 S)).mono (K12 S)).mono (K13 S)).mono (K15 S))
    refine Rl.op (OpY.call en41 rfl rfl (rFinal_w N b x11.B b_v b_v1 _ Any (f15.mono vw_any) (f16.mono vw_any) r12 q28) ?_)
    rintro _ w28 hE28 ⟨rfl, -⟩
    have hL19 := hL18.ext hE28
    have K16 := ke hL18 hE28
    refine Rl.op (OpY.neqBool (x := r11) (y := r12) Tryd.underlying4 rfl rfl ?_)
    refine Rl.nil ?_
    refine Swp.cond_b (!(r11 == r12)) rfl (fun hc12 => ?_) (fun hc12 => ?_)
    ·
     replace h := ite_t hc12 h
     refine Swp.seq (Swp.region rfl (Rl.op (OpY.assign (v := (Value.bool false)) rfl ?_)))
     refine Rl.nil (Swp.ret ?_)
     obtain rfl := Option.some.inj h
     obtain rfl := hd10 _ rfl
     replace h := g10
     try dsimp only at h
     obtain rfl := Option.some.inj h
     refine ⟨[(Value.bool false)], ⟨rfl, trivial⟩, ⟨_, rfl, hL19.done, ?_⟩⟩
     exact ⟨rfl, trivial⟩
    ·
     replace h := ite_f hc12 h
     refine Swp.skip (Swp.pop_blk (Swp.region rfl (Rl.op (OpY.move (v := (Value.int .i64 i10)) rfl ?_))))
     refine Rl.op (OpY.add (x := i10) (y := 1) (z := (iw (i10 + 1))) rfl rfl rfl ?_)
     refine Rl.op (OpY.assign (v := (Value.int .i64 (iw (i10 + 1)))) rfl ?_)
     refine Rl.nil ?_
     obtain rfl := Option.some.inj h
     refine Swp.pop_back ⟨(iw (i10 + 1)), rfl, ?_⟩
     exact ⟨_, (upds_sym ⟨rfl, rfl, rfl, rfl, trivial⟩), hL19, (Keep.trans (Keep.trans (Keep.trans K12 K13) K15) K16), trivial⟩
  ·
   replace h := ite_f hc11 h
   refine Swp.exit rfl ?_
   have hp12 := hL12.pick [] rfl rfl rfl
   have hL20 : Go.X.Loc [] [] w w11 [] [] := hp12.1
   have K17 := ks w hp12.2
   obtain rfl := Option.some.inj h
   obtain rfl := hd10 _ rfl
   replace h := g10
   try dsimp only at h
   skip
   refine Swp.pop_back ?_
   exact ⟨_, rfl, (upds_sym trivial), hL20, (Keep.trans K12 K17), trivial⟩
 ·
  rintro _ w29 ⟨u, rfl, rfl, hL21, K18, -⟩
  replace h := g10
  try dsimp only at h
  refine Swp.seq (Swp.region rfl (Rl.op (OpY.assign (v := (Value.bool true)) rfl ?_)))
  refine Rl.nil (Swp.ret ?_)
  obtain rfl := Option.some.inj h
  refine ⟨[(Value.bool true)], ⟨rfl, trivial⟩, ⟨_, rfl, hL21.done, ?_⟩⟩
  exact ⟨rfl, trivial⟩
theorem rCan_w (N : Nat) (d : ADfa) (state : Int) (length : Int) (d_v : Value) (d_v1 : Value) (w : World) (S : Nat → Prop) (d_h : Rs rBool (Hv w.heap.size S [] w) d_v d.Accept) (d_h1 : Rs (rSl rAEdge) (Hv w.heap.size S [] w) d_v1 d.Edges) (r : Bool) (h : rCan N d state length = some r) :
  Calls Tryd.prog 34 #[(Value.agg #[d_v, d_v1]), (Value.int .i64 state), (Value.int .i64 length)] w (Ret w (fun v w' => (Value.bool r) = v ∧ True)) := by
 unfold rCan at h
 have hL : Go.X.Loc [] [] w w [] [] := Go.X.Loc.begin0 w
 refine calls_of (l := [(Value.agg #[d_v, d_v1]), (Value.int .i64 state), (Value.int .i64 length)]) (rl := [.tmp 6]) (n := 78) Tryd.func34 rfl rfl rfl (Nat.le_of_ble_eq_true rfl) ?_
 refine Swp.seq (Swp.region rfl (Rl.op (OpY.box (cs := [d_v, d_v1]) rfl rfl hL ?_)))
 intro b1 w2 hL3 hS5
 have K4 := ks w hS5
 refine Rl.op (OpY.assign (v := (Value.bool false)) rfl ?_)
 refine Rl.nil (Swp.seq (Swp.region rfl (Rl.op (OpY.fieldAddr (q := 0) Tryd.underlying25 rfl ti22 rfl rfl rfl ?_))))
 refine Rl.op (OpY.ldBox1 (v := d_v) Tryd.underlying22 rfl rfl (hL3.at 0 rfl rfl) rfl ?_)
 have f6 := (d_h.mono (K4 S))
 refine Rl.op (OpY.lenRo (v := d_v) Tryd.underlying22 rfl f6 ?_)
 obtain ⟨x8, q9, h⟩ := bind_some h
 obtain ⟨m7, q10, q11, q12, q13⟩ := mk1_some q9
 refine Rl.op (OpY.mkRowX (r := rBool) (H := (Hv w.heap.size None [some b1] w2)) (zc := [(Value.bool false)]) (x := false) Tryd.underlying22 ti4 rfl rfl rfl rfl q10 q11 q12 q13 hL3 ?_)
 intro b10 w10 cs10 hE10 hc10 hL10 hS10
 have K10 := ks w hS10
 refine Rl.op (OpY.assign (v := (osv (some b10) 0 (List.length x8) m7)) rfl ?_)
 refine Rl.nil (Swp.seq (Swp.region rfl (Rl.op (OpY.move (v := (osv (some b10) 0 (List.length x8) m7)) rfl ?_))))
 refine Rl.op (OpY.move (v := (Value.int .i64 state)) rfl ?_)
 obtain ⟨x10, q14, h⟩ := bind_some h
 obtain ⟨n10, q15, q16⟩ := idx_some q14
 have q17 := (List.getElem?_eq_some_iff.1 q16).1
 refine Rl.op (OpY.ixRowD (r := rBool) (b := b10) (o := 0) (n := n10) (m := (List.length x8)) (xs := x8) (q := (0 + n10 * rBool.sz)) Tryd.underlying22 ti4 rfl rfl rfl q15 q17 rfl ?_)
 obtain ⟨x11, q18, h⟩ := bind_some h
 obtain ⟨n11, q19, q20, q21⟩ := upd1_some q18
 obtain rfl := Int.ofNat_inj.1 (q15.symm.trans q19)
 have f10 := (hE10.mono (K10 None))
 refine Rl.op0 (OpY.stRowX (pre := []) (r := rBool) (vs := [(Value.bool true)]) (a := true) ti4 rfl rfl rfl rfl hL10 0 rfl rfl f10 q17 rfl q21 ?_)
 have hl10 : (List.length x8) = List.length x11 := by rw [q21, List.length_set]
 intro w11 cs11 (hL11 : Go.X.Loc [] [] w w11 [some b10, some b1] [Cont.cells ([] ++ (cs11 ++ [])), Cont.cells [d_v, d_v1]]) hS11 hE11 q22
 have hc11 : (cs11 ++ []).length = m7 * rBool.sz := by have := hc10; rw [List.length_append] at this ⊢; rw [q22]; exact this
 have K11 := ks w hS11
 refine Rl.nil (Swp.seq ?_)
 obtain ⟨s10, hl11, g10⟩ := bind_some h
 refine Swp.join (fun e w' => ∃ (x12 : (List Bool)) (ob10 : Option Nat) (cap10 : Nat) (cs12 : List Value) (ln10 : Nat) (u : Env), x12 = s10 ∧ e = upds [(3, (Value.pointer (some ⟨b1, 0, none⟩))), (7, (osv ob10 0 ln10 cap10))] u ∧ Go.X.Loc [] [] w w' [some b1, ob10] [Cont.cells [d_v, d_v1], Cont.cells ([] ++ (cs12 ++ []))] ∧ Keep w.heap.size [some b10, some b1] w11 [some b1, ob10] w' ∧ Els rBool (Hv w.heap.size None [some b1, ob10] w') cs12 x12 ∧ ln10 = List.length x12 ∧ (cs12 ++ []).length = cap10 * rBool.sz ∧ True) ?_ ?_
 ·
  refine Swp.block ?_
  have hp10 := hL11.pick [1, 0] rfl rfl rfl
  have hL12 : Go.X.Loc [] [] w w11 [some b1, some b10] [Cont.cells [d_v, d_v1], Cont.cells ([] ++ (cs11 ++ []))] := hp10.1
  have K12 := ks w hp10.2
  have f11 := ((hE11.mono (K11 None)).mono (K12 None))
  refine Swp.loopM hl11 (fun (ss : (Int × (List Bool))) (e : Env) (w' : World) => match ss with | (length10, x13) => ∃ (ob11 : Option Nat) (cap11 : Nat) (cs13 : List Value) (ln11 : Nat) (u : Env), e = upds [(2, (Value.int .i64 length10)), (3, (Value.pointer (some ⟨b1, 0, none⟩))), (7, (osv ob11 0 ln11 cap11))] u ∧ Go.X.Loc [] [] w w' [some b1, ob11] [Cont.cells [d_v, d_v1], Cont.cells ([] ++ (cs13 ++ []))] ∧ Keep w.heap.size [some b10, some b1] w11 [some b1, ob11] w' ∧ Els rBool (Hv w.heap.size None [some b1, ob11] w') cs13 x13 ∧ ln11 = List.length x13 ∧ (cs13 ++ []).length = cap11 * rBool.sz ∧ True) ⟨some b10, m7, cs11, (List.length x8), _, (upds_sym ⟨rfl, rfl, rfl, trivial⟩), hL12, K12, f11, hl10, hc11, trivial⟩ ?_
  rintro ⟨length10, x13⟩ oo _ w12 ⟨ob11, cap11, cs13, ln11, u, rfl, hL13, K13, hE12, rfl, hc12, -⟩ h hd10
  rw [rCan_b1] at h
  refine Swp.seq (Swp.seq (Swp.region rfl (Rl.op (OpY.move (v := (Value.int .i64 length10)) rfl ?_))))
  refine Rl.op (OpY.gtr (x := length10) (y := 0) ((length10 : Int) > 0) rfl rfl Iff.rfl ?_)
  refine Rl.nil ?_
  refine Swp.cond_d ((length10 : Int) > 0) rfl (fun hc13 => ?_) (fun hc13 => ?_)
  ·
   replace h := ite_t hc13 h
   refine Swp.skip (Swp.seq (Swp.block (Swp.seq (Swp.region rfl (Rl.op (OpY.fieldAddr (q := 0) Tryd.underlying25 rfl ti22 rfl rfl rfl ?_))))))
   refine Rl.op (OpY.ldBox1 (v := d_v) Tryd.underlying22 rfl rfl (hL13.at 0 rfl rfl) rfl ?_)
   have f12 := (((f6.mono (K10 S)).mono (K11 S)).mono (K13 S))
   refine Rl.op (OpY.lenRo (v := d_v) Tryd.underlying22 rfl f12 ?_)
   obtain ⟨x14, q23, h⟩ := bind_some h
   obtain ⟨m10, q24, q25, q26, q27⟩ := mk1_some q23
   refine Rl.op (OpY.mkRowX (r := rBool) (H := (Hv w.heap.size None [some b1, ob11] w12)) (zc := [(Value.bool false)]) (x := false) Tryd.underlying22 ti4 rfl rfl rfl rfl q24 q25 q26 q27 hL13 ?_)
   intro b11 w13 cs14 hE13 hc14 hL14 hS12
   have K14 := ks w hS12
   refine Rl.op (OpY.assign (v := (osv (some b11) 0 (List.length x14) m10)) rfl ?_)
   refine Rl.nil (Swp.seq (Swp.seq (Swp.region rfl (Rl.op (OpY.assign (v := (Value.int .i64 0)) rfl ?_)))))
   refine Rl.nil ?_
   obtain ⟨s11, hl12, g11⟩ := bind_some h
   refine Swp.join (fun e w' => ∃ (next10 : (List Bool)) (cs15 : List Value) (u : Env), next10 = s11 ∧ e = upds [(2, (Value.int .i64 length10)), (3, (Value.pointer (some ⟨b1, 0, none⟩))), (8, (osv (some b11) 0 (List.length x14) m10))] u ∧ Go.X.Loc [] [] w w' [some b1, some b11] [Cont.cells [d_v, d_v1], Cont.cells ([] ++ (cs15 ++ []))] ∧ Keep w.heap.size [some b11, some b1, ob11] w13 [some b1, some b11] w' ∧ Els rBool (Hv w.heap.size None [some b1, some b11] w') cs15 next10 ∧ (List.length x14) = List.length next10 ∧ (cs15 ++ []).length = m10 * rBool.sz ∧ True) ?_ ?_
   ·
    refine Swp.block ?_
    have hp11 := hL14.pick [1, 2, 0] rfl rfl rfl
    have hL15 : Go.X.Loc [] [] w w13 [some b1, ob11, some b11] [Cont.cells [d_v, d_v1], Cont.cells ([] ++ (cs13 ++ [])), Cont.cells ([] ++ (cs14 ++ []))] := hp11.1
    have K15 := ks w hp11.2
    have f13 := ((hE13.mono (K14 None)).mono (K15 None))
    refine Swp.loopM hl12 (fun (ss : ((List Bool) × Int)) (e : Env) (w' : World) => match ss with | (next11, i10) => ∃ (cs16 : List Value) (u : Env), e = upds [(2, (Value.int .i64 length10)), (3, (Value.pointer (some ⟨b1, 0, none⟩))), (7, (osv ob11 0 (List.length x13) cap11)), (8, (osv (some b11) 0 (List.length x14) m10)), (9, (Value.int .i64 i10))] u ∧ Go.X.Loc [] [] w w' [some b1, ob11, some b11] [Cont.cells [d_v, d_v1], Cont.cells ([] ++ (cs13 ++ [])), Cont.cells ([] ++ (cs16 ++ []))] ∧ Keep w.heap.size [some b11, some b1, ob11] w13 [some b1, ob11, some b11] w' ∧ Els rBool (Hv w.heap.size None [some b1, ob11, some b11] w') cs16 next11 ∧ (List.length x14) = List.length next11 ∧ (cs16 ++ []).length = m10 * rBool.sz ∧ True) ⟨cs14, _, (upds_sym ⟨rfl, rfl, rfl, rfl, rfl, trivial⟩), hL15, K15, f13, rfl, hc14, trivial⟩ ?_
    rintro ⟨next11, i10⟩ oo _ w14 ⟨cs16, u, rfl, hL16, K16, hE14, hl13, hc15, -⟩ h hd11
    rw [rCan_b2] at h
    refine Swp.seq (Swp.seq (Swp.region rfl (Rl.op (OpY.move (v := (Value.int .i64 i10)) rfl ?_))))
    refine Rl.op (OpY.move (v := (osv ob11 0 (List.length x13) cap11)) rfl ?_)
    have f14 := ((hE12.mono (K14 None)).mono (K16 None))
    refine Rl.op (OpY.lenRow (pre := []) (r := rBool) (xs := x13) Tryd.underlying22 rfl (hL16.at 1 rfl rfl) f14 rfl rfl ?_)
    refine Rl.op (OpY.lss (x := i10) (y := (List.length x13 : Int)) ((i10 : Int) < (List.length x13 : Int)) rfl rfl Iff.rfl ?_)
    refine Rl.nil ?_
    refine Swp.cond_d ((i10 : Int) < (List.length x13 : Int)) rfl (fun hc16 => ?_) (fun hc16 => ?_)
    ·
     replace h := ite_t hc16 h
     refine Swp.skip (Swp.seq (Swp.block (Swp.seq (Swp.region rfl (Rl.op (OpY.assign (v := (Value.int .i64 0)) rfl ?_))))))
     refine Rl.nil ?_
     obtain ⟨s12, hl14, g12⟩ := bind_some h
     refine Swp.join (fun e w' => ∃ (next12 : (List Bool)) (cs17 : List Value) (u : Env), next12 = s12 ∧ e = upds [(2, (Value.int .i64 length10)), (3, (Value.pointer (some ⟨b1, 0, none⟩))), (7, (osv ob11 0 (List.length x13) cap11)), (8, (osv (some b11) 0 (List.length x14) m10)), (9, (Value.int .i64 i10))] u ∧ Go.X.Loc [] [] w w' [some b1, ob11, some b11] [Cont.cells [d_v, d_v1], Cont.cells ([] ++ (cs13 ++ [])), Cont.cells ([] ++ (cs17 ++ []))] ∧ Keep w.heap.size [some b1, ob11, some b11] w14 [some b1, ob11, some b11] w' ∧ Els rBool (Hv w.heap.size None [some b1, ob11, some b11] w') cs17 next12 ∧ (List.length x14) = List.length next12 ∧ (cs17 ++ []).length = m10 * rBool.sz ∧ True) ?_ ?_
     ·
      refine Swp.block ?_
      refine Swp.loopM hl14 (fun (ss : ((List Bool) × Int)) (e : Env) (w' : World) => match ss with | (next13, k10) => ∃ (cs18 : List Value) (u : Env), e = upds [(2, (Value.int .i64 length10)), (3, (Value.pointer (some ⟨b1, 0, none⟩))), (7, (osv ob11 0 (List.length x13) cap11)), (8, (osv (some b11) 0 (List.length x14) m10)), (9, (Value.int .i64 i10)), (10, (Value.int .i64 k10))] u ∧ Go.X.Loc [] [] w w' [some b1, ob11, some b11] [Cont.cells [d_v, d_v1], Cont.cells ([] ++ (cs13 ++ [])), Cont.cells ([] ++ (cs18 ++ []))] ∧ Keep w.heap.size [some b1, ob11, some b11] w14 [some b1, ob11, some b11] w' ∧ Els rBool (Hv w.heap.size None [some b1, ob11, some b11] w') cs18 next13 ∧ (List.length x14) = List.length next13 ∧ (cs18 ++ []).length = m10 * rBool.sz ∧ True) ⟨cs16, _, (upds_sym ⟨rfl, rfl, rfl, rfl, rfl, rfl, trivial⟩), hL16, Keep.refl, hE14, hl13, hc15, trivial⟩ ?_
      rintro ⟨next13, k10⟩ oo _ w15 ⟨cs18, u, rfl, hL17, K17, hE15, hl15, hc17, -⟩ h hd12
      rw [rCan_b3] at h
      refine Swp.seq (Swp.seq ?_)
      obtain ⟨s13, h, g13⟩ := bind_some h
      refine Swp.join (fun e w' => ∃ (x15 : Bool) (u : Env), x15 = s13 ∧ e = upds [(2, (Value.int .i64 length10)), (3, (Value.pointer (some ⟨b1, 0, none⟩))), (7, (osv ob11 0 (List.length x13) cap11)), (8, (osv (some b11) 0 (List.length x14) m10)), (9, (Value.int .i64 i10)), (10, (Value.int .i64 k10)), (46, (Value.bool x15))] u ∧ Go.X.Loc [] [] w w' [some b1, ob11, some b11] [Cont.cells [d_v, d_v1], Cont.cells ([] ++ (cs13 ++ [])), Cont.cells ([] ++ (cs18 ++ []))] ∧ Keep w.heap.size [some b1, ob11, some b11] w15 [some b1, ob11, some b11] w' ∧ True) ?_ ?_
      ·
       refine Swp.region rfl (Rl.op (OpY.move (v := (osv ob11 0 (List.length x13) cap11)) rfl ?_))
       refine Rl.op (OpY.move (v := (Value.int .i64 i10)) rfl ?_)
       obtain ⟨x16, q28, h⟩ := bind_some h
       obtain ⟨n12, q29, q30⟩ := idx_some q28
       have q31 := (List.getElem?_eq_some_iff.1 q30).1
       have f15 := (f14.mono (K17 None))
       obtain ⟨b12, hb10⟩ := hL17.row_some 1 rfl rfl (row_pos (pre := []) f15 q30 (Nat.lt_of_sub_eq_succ rfl))
       refine Rl.op (OpY.ixRowD (r := rBool) (b := b12) (o := 0) (n := n12) (m := (List.length x13)) (xs := x13) (q := (0 + n12 * rBool.sz)) Tryd.underlying22 ti4 (osv_some hb10) rfl rfl q29 q31 rfl ?_)
       obtain ⟨vs10, q32, q33, q34⟩ := row_elem (pre := []) (sp := []) f15 q30
       obtain rfl := q33
       refine Rl.op (OpY.ldElem1 (v := (Value.bool x16)) Tryd.underlying4 rfl rfl (own_some hb10 (hL17.at 1 rfl rfl)) q34 ?_)
       refine Rl.op (OpY.move (v := (Value.bool x16)) rfl ?_)
       by_cases hc18 : x16 = true
       ·
        replace h := ite_t hc18 h
        refine Rl.yes rfl rfl hc18 (OpY.move (v := (Value.int .i64 k10)) rfl ?_)
        refine Rl.yes rfl rfl hc18 (OpY.fieldAddr (q := 1) Tryd.underlying25 rfl ti23 rfl rfl rfl ?_)
        refine Rl.yes rfl rfl hc18 (OpY.ldBox1 (v := d_v1) Tryd.underlying23 rfl rfl (hL17.at 0 rfl rfl) rfl ?_)
        refine Rl.yes rfl rfl hc18 (OpY.move (v := (Value.int .i64 i10)) rfl ?_)
        obtain ⟨x17, q35, h⟩ := bind_some h
        obtain ⟨n13, q36, q37⟩ := idx_some q35
        have f16 := (((((((d_h1.mono (K4 S)).mono (K10 S)).mono (K11 S)).mono (K13 S)).mono (K14 S)).mono (K16 S)).mono (K17 S))
        obtain ⟨b13, o10, c10, vs11, q38, q39, f17, q40⟩ := Rs.get f16 q37
        obtain ⟨v10, rfl, k11⟩ := q40
        refine Rl.yes rfl rfl hc18 (OpY.ixRoD (r := (rSl rAEdge)) (v := d_v1) (n := n13) (m := (o10 + n13 * (rSl rAEdge).sz)) Tryd.underlying23 ti39 rfl q38 rfl q36 q37 rfl ?_)
        refine Rl.yes rfl rfl hc18 (OpY.ldRo1 (v := v10) Tryd.underlying39 rfl rfl vw_view f17 ?_)
        refine Rl.yes rfl rfl hc18 (OpY.lenRo (v := v10) Tryd.underlying39 rfl k11 ?_)
        refine Rl.yes rfl rfl hc18 (OpY.lss (x := k10) (y := (List.length x17 : Int)) ((k10 : Int) < (List.length x17 : Int)) rfl rfl Iff.rfl ?_)
        refine Rl.op (OpY.pick_t (t := x16) (v := (Value.bool (decide ((k10 : Int) < (List.length x17 : Int))))) rfl hc18 rfl ?_)
        refine Rl.nil ?_
        obtain rfl := Option.some.inj h
        refine Swp.pop_back ?_
        exact ⟨(decide ((k10 : Int) < (List.length x17 : Int))), _, rfl, (upds_sym ⟨rfl, rfl, rfl, rfl, rfl, rfl, rfl, trivial⟩), hL17, Keep.refl, trivial⟩
       ·
        replace h := ite_f hc18 h
        refine Rl.no rfl rfl (eq_false_of_ne_true hc18) ?_
        refine Rl.no rfl rfl (eq_false_of_ne_true hc18) ?_
        refine Rl.no rfl rfl (eq_false_of_ne_true hc18) ?_
        refine Rl.no rfl rfl (eq_false_of_ne_true hc18) ?_
        refine Rl.no rfl rfl (eq_false_of_ne_true hc18) ?_
        refine Rl.no rfl rfl (eq_false_of_ne_true hc18) ?_
        refine Rl.no rfl rfl (eq_false_of_ne_true hc18) ?_
        refine Rl.no rfl rfl (eq_false_of_ne_true hc18) ?_
        refine Rl.op (OpY.pick_f (t := x16) (v := (Value.bool false)) rfl (eq_false_of_ne_true hc18) rfl ?_)
        refine Rl.nil ?_
        obtain rfl := Option.some.inj h
        refine Swp.pop_back ?_
        exact ⟨false, _, rfl, (upds_sym ⟨rfl, rfl, rfl, rfl, rfl, rfl, rfl, trivial⟩), hL17, Keep.refl, trivial⟩
      ·
       rintro _ w16 ⟨x15, u, rfl, rfl, hL18, K18, -⟩
       replace h := g13
       try dsimp only at h
       refine Swp.cond_b x15 rfl (fun hc19 => ?_) (fun hc19 => ?_)
       ·
        replace h := ite_t hc19 h
        refine Swp.skip (Swp.seq (Swp.block (Swp.region rfl (Rl.op (OpY.move (v := (osv (some b11) 0 (List.length x14) m10)) rfl ?_)))))
        refine Rl.op (OpY.fieldAddr (q := 1) Tryd.underlying25 rfl ti23 rfl rfl rfl ?_)
        refine Rl.op (OpY.ldBox1 (v := d_v1) Tryd.underlying23 rfl rfl (hL18.at 0 rfl rfl) rfl ?_)
        refine Rl.op (OpY.move (v := (Value.int .i64 i10)) rfl ?_)
        obtain ⟨x18, q41, h⟩ := bind_some h
        obtain ⟨n14, q42, q43⟩ := idx_some q41
        have f18 := ((((((((d_h1.mono (K4 S)).mono (K10 S)).mono (K11 S)).mono (K13 S)).mono (K14 S)).mono (K16 S)).mono (K17 S)).mono (K18 S))
        obtain ⟨b14, o11, c11, vs12, q44, q45, f19, q46⟩ := Rs.get f18 q43
        obtain ⟨v11, rfl, k12⟩ := q46
        refine Rl.op (OpY.ixRoD (r := (rSl rAEdge)) (v := d_v1) (n := n14) (m := (o11 + n14 * (rSl rAEdge).sz)) Tryd.underlying23 ti39 rfl q44 rfl q42 q43 rfl ?_)
        refine Rl.op (OpY.ldRo1 (v := v11) Tryd.underlying39 rfl rfl vw_view f19 ?_)
        refine Rl.op (OpY.move (v := (Value.int .i64 k10)) rfl ?_)
        obtain ⟨x19, q47, h⟩ := bind_some h
        obtain ⟨n15, q48, q49⟩ := idx_some q47
        obtain ⟨b15, o12, c12, vs13, q50, q51, f20, q52⟩ := Rs.get k12 q49
        obtain ⟨rfl, -⟩ := rAEdge_open q52
        refine Rl.op (OpY.ixRoD (r := rAEdge) (v := v11) (n := n15) (m := (o12 + n15 * rAEdge.sz)) Tryd.underlying39 ti63 rfl q50 rfl q48 q49 rfl ?_)
        have f21 := (f20.part (us := [(Value.int .i64 x19.To)]) 2 rfl)
        refine Rl.op (OpY.fieldAddr (q := (o12 + n15 * rAEdge.sz) + 2) Tryd.underlying63 rfl ti3 rfl rfl rfl ?_)
        refine Rl.op (OpY.ldRo1 (v := (Value.int .i64 x19.To)) Tryd.underlying3 rfl rfl vw_view f21 ?_)
        obtain ⟨x20, q53, h⟩ := bind_some h
        obtain ⟨n16, q54, q55⟩ := idx_some q53
        have q56 := (List.getElem?_eq_some_iff.1 q55).1
        refine Rl.op (OpY.ixRowD (r := rBool) (b := b11) (o := 0) (n := n16) (m := (List.length x14)) (xs := next13) (q := (0 + n16 * rBool.sz)) Tryd.underlying22 ti4 rfl hl15 rfl q54 q56 rfl ?_)
        obtain ⟨x21, q57, h⟩ := bind_some h
        obtain ⟨n17, q58, q59, q60⟩ := upd1_some q57
        obtain rfl := Int.ofNat_inj.1 (q54.symm.trans q58)
        have f22 := (hE15.mono (K18 None))
        refine Rl.op0 (OpY.stRowX (pre := []) (r := rBool) (vs := [(Value.bool true)]) (a := true) ti4 rfl rfl rfl rfl hL18 2 rfl rfl f22 q56 rfl q60 ?_)
        have hl16 : (List.length x14) = List.length x21 := by rw [q60, List.length_set]; exact hl15
        intro w17 cs19 (hL19 : Go.X.Loc [] [] w w17 [some b1, ob11, some b11] [Cont.cells [d_v, d_v1], Cont.cells ([] ++ (cs13 ++ [])), Cont.cells ([] ++ (cs19 ++ []))]) hS13 hE16 q61
        have hc20 : (cs19 ++ []).length = m10 * rBool.sz := by have := hc17; rw [List.length_append] at this ⊢; rw [q61]; exact this
        have K19 := ks w hS13
        refine Rl.nil (Swp.pop_blk (Swp.region rfl (Rl.op (OpY.move (v := (Value.int .i64 k10)) rfl ?_))))
        refine Rl.op (OpY.add (x := k10) (y := 1) (z := (iw (k10 + 1))) rfl rfl rfl ?_)
        refine Rl.op (OpY.assign (v := (Value.int .i64 (iw (k10 + 1)))) rfl ?_)
        refine Rl.nil ?_
        have f23 := (hE16.mono (K19 None))
        obtain rfl := Option.some.inj h
        refine Swp.pop_back ⟨(x21, (iw (k10 + 1))), rfl, ?_⟩
        exact ⟨cs19, _, (upds_sym ⟨rfl, rfl, rfl, rfl, rfl, rfl, trivial⟩), hL19, (Keep.trans (Keep.trans K17 K18) K19), f23, hl16, hc20, trivial⟩
       ·
        replace h := ite_f hc19 h
        refine Swp.exit rfl ?_
        have f24 := (hE15.mono (K18 None))
        obtain rfl := Option.some.inj h
        obtain rfl := hd12 _ rfl
        replace h := g12
        try dsimp only at h
        skip
        refine Swp.pop_back ?_
        exact ⟨next13, cs18, _, rfl, (upds_sym ⟨rfl, rfl, rfl, rfl, rfl, trivial⟩), hL18, (Keep.trans K17 K18), f24, hl15, hc17, trivial⟩
     ·
      rintro _ w18 ⟨next12, cs17, u, rfl, rfl, hL20, K20, hE17, hl17, hc21, -⟩
      replace h := g12
      try dsimp only at h
      refine Swp.pop_blk (Swp.region rfl (Rl.op (OpY.move (v := (Value.int .i64 i10)) rfl ?_)))
      refine Rl.op (OpY.add (x := i10) (y := 1) (z := (iw (i10 + 1))) rfl rfl rfl ?_)
      refine Rl.op (OpY.assign (v := (Value.int .i64 (iw (i10 + 1)))) rfl ?_)
      refine Rl.nil ?_
      obtain rfl := Option.some.inj h
      refine Swp.pop_back ⟨(next12, (iw (i10 + 1))), rfl, ?_⟩
      exact ⟨cs17, _, (upds_sym ⟨rfl, rfl, rfl, rfl, rfl, trivial⟩), hL20, (Keep.trans K16 K20), hE17, hl17, hc21, trivial⟩
    ·
     replace h := ite_f hc16 h
     refine Swp.exit rfl ?_
     have hp12 := hL16.pick [0, 2] rfl rfl rfl
     have hL21 : Go.X.Loc [] [] w w14 [some b1, some b11] [Cont.cells [d_v, d_v1], Cont.cells ([] ++ (cs16 ++ []))] := hp12.1
     have K21 := ks w hp12.2
     have f25 := (hE14.mono (K21 None))
     obtain rfl := Option.some.inj h
     obtain rfl := hd11 _ rfl
     replace h := g11
     try dsimp only at h
     skip
     refine Swp.pop_back ?_
     exact ⟨next11, cs16, _, rfl, (upds_sym ⟨rfl, rfl, rfl, trivial⟩), hL21, (Keep.trans K16 K21), f25, hl13, hc15, trivial⟩
   ·
    rintro _ w19 ⟨next10, cs15, u, rfl, rfl, hL22, K22, hE18, hl18, hc22, -⟩
    replace h := g11
    try dsimp only at h
    refine Swp.region rfl (Rl.op (OpY.move (v := (osv (some b11) 0 (List.length x14) m10)) rfl ?_))
    refine Rl.op (OpY.assign (v := (osv (some b11) 0 (List.length x14) m10)) rfl ?_)
    refine Rl.nil (Swp.pop_blk (Swp.region rfl (Rl.op (OpY.move (v := (Value.int .i64 length10)) rfl ?_))))
    refine Rl.op (OpY.sub (x := length10) (y := 1) (z := (iw (length10 - 1))) rfl rfl rfl ?_)
    refine Rl.op (OpY.assign (v := (Value.int .i64 (iw (length10 - 1)))) rfl ?_)
    refine Rl.nil ?_
    obtain rfl := Option.some.inj h
    refine Swp.pop_back ⟨((iw (length10 - 1)), next10), rfl, ?_⟩
    exact ⟨some b11, m10, cs15, (List.length x14), _, (upds_sym ⟨rfl, rfl, rfl, trivial⟩), hL22, (Keep.trans (Keep.trans K13 K14) K22), hE18, hl18, hc22, trivial⟩
  ·
   replace h := ite_f hc13 h
   refine Swp.exit rfl ?_
   obtain rfl := Option.some.inj h
   obtain rfl := hd10 _ rfl
   replace h := g10
   try dsimp only at h
   skip
   refine Swp.pop_back ?_
   exact ⟨x13, ob11, cap11, cs13, (List.length x13), _, rfl, (upds_sym ⟨rfl, rfl, trivial⟩), hL13, K13, hE12, rfl, hc12, trivial⟩
 ·
  rintro _ w20 ⟨x12, ob10, cap10, cs12, ln10, u, rfl, rfl, hL23, K23, hE19, rfl, hc23, -⟩
  replace h := g10
  try dsimp only at h
  refine Swp.seq (Swp.seq (Swp.region rfl (Rl.op (OpY.assign (v := (Value.int .i64 0)) rfl ?_))))
  refine Rl.nil ?_
  obtain ⟨s14, hl19, g14⟩ := bind_some h
  refine Swp.join (fun e w' => ∃  (u : Env), (Sum.inl ()) = s14 ∧ e = upds [] u ∧ Go.X.Loc [] [] w w' [] [] ∧ Keep w.heap.size [some b1, ob10] w20 [] w' ∧ True) ?_ ?_
  ·
   refine Swp.block ?_
   refine Swp.loopM hl19 (fun (ss : Int) (e : Env) (w' : World) => match ss with | i11 => ∃ (u : Env), e = upds [(3, (Value.pointer (some ⟨b1, 0, none⟩))), (7, (osv ob10 0 (List.length x12) cap10)), (11, (Value.int .i64 i11))] u ∧ Go.X.Loc [] [] w w' [some b1, ob10] [Cont.cells [d_v, d_v1], Cont.cells ([] ++ (cs12 ++ []))] ∧ Keep w.heap.size [some b1, ob10] w20 [some b1, ob10] w' ∧ True) ⟨_, (upds_sym ⟨rfl, rfl, rfl, trivial⟩), hL23, Keep.refl, trivial⟩ ?_
   rintro i11 oo _ w21 ⟨u, rfl, hL24, K24, -⟩ h hd13
   rw [rCan_b4] at h
   refine Swp.seq (Swp.seq (Swp.region rfl (Rl.op (OpY.move (v := (Value.int .i64 i11)) rfl ?_))))
   refine Rl.op (OpY.move (v := (osv ob10 0 (List.length x12) cap10)) rfl ?_)
   have f26 := (hE19.mono (K24 None))
   refine Rl.op (OpY.lenRow (pre := []) (r := rBool) (xs := x12) Tryd.underlying22 rfl (hL24.at 1 rfl rfl) f26 rfl rfl ?_)
   refine Rl.op (OpY.lss (x := i11) (y := (List.length x12 : Int)) ((i11 : Int) < (List.length x12 : Int)) rfl rfl Iff.rfl ?_)
   refine Rl.nil ?_
   refine Swp.cond_d ((i11 : Int) < (List.length x12 : Int)) rfl (fun hc24 => ?_) (fun hc24 => ?_)
   ·
    replace h := ite_t hc24 h
    refine Swp.skip (Swp.seq (Swp.block (Swp.seq ?_)))
    obtain ⟨s15, h, g15⟩ := bind_some h
    refine Swp.join (fun e w' => ∃ (x22 : Bool) (u : Env), x22 = s15 ∧ e = upds [(3, (Value.pointer (some ⟨b1, 0, none⟩))), (7, (osv ob10 0 (List.length x12) cap10)), (11, (Value.int .i64 i11)), (77, (Value.bool x22))] u ∧ Go.X.Loc [] [] w w' [some b1, ob10] [Cont.cells [d_v, d_v1], Cont.cells ([] ++ (cs12 ++ []))] ∧ Keep w.heap.size [some b1, ob10] w21 [some b1, ob10] w' ∧ True) ?_ ?_
    ·
     refine Swp.region rfl (Rl.op (OpY.move (v := (osv ob10 0 (List.length x12) cap10)) rfl ?_))
     refine Rl.op (OpY.move (v := (Value.int .i64 i11)) rfl ?_)
     obtain ⟨x23, q62, h⟩ := bind_some h
     obtain ⟨n18, q63, q64⟩ := idx_some q62
     have q65 := (List.getElem?_eq_some_iff.1 q64).1
     obtain ⟨b16, hb11⟩ := hL24.row_some 1 rfl rfl (row_pos (pre := []) f26 q64 (Nat.lt_of_sub_eq_succ rfl))
     refine Rl.op (OpY.ixRowD (r := rBool) (b := b16) (o := 0) (n := n18) (m := (List.length x12)) (xs := x12) (q := (0 + n18 * rBool.sz)) Tryd.underlying22 ti4 (osv_some hb11) rfl rfl q63 q65 rfl ?_)
     obtain ⟨vs14, q66, q67, q68⟩ := row_elem (pre := []) (sp := []) f26 q64
     obtain rfl := q67
     refine Rl.op (OpY.ldElem1 (v := (Value.bool x23)) Tryd.underlying4 rfl rfl (own_some hb11 (hL24.at 1 rfl rfl)) q68 ?_)
     refine Rl.op (OpY.move (v := (Value.bool x23)) rfl ?_)
     by_cases hc25 : x23 = true
     ·
      replace h := ite_t hc25 h
      refine Rl.yes rfl rfl hc25 (OpY.fieldAddr (q := 0) Tryd.underlying25 rfl ti22 rfl rfl rfl ?_)
      refine Rl.yes rfl rfl hc25 (OpY.ldBox1 (v := d_v) Tryd.underlying22 rfl rfl (hL24.at 0 rfl rfl) rfl ?_)
      refine Rl.yes rfl rfl hc25 (OpY.move (v := (Value.int .i64 i11)) rfl ?_)
      obtain ⟨x24, q69, h⟩ := bind_some h
      obtain ⟨n19, q70, q71⟩ := idx_some q69
      have f27 := ((((f6.mono (K10 S)).mono (K11 S)).mono (K23 S)).mono (K24 S))
      obtain ⟨b17, o13, c13, vs15, q72, q73, f28, q74⟩ := Rs.get f27 q71
      obtain rfl := q74
      refine Rl.yes rfl rfl hc25 (OpY.ixRoD (r := rBool) (v := d_v) (n := n19) (m := (o13 + n19 * rBool.sz)) Tryd.underlying22 ti4 rfl q72 rfl q70 q71 rfl ?_)
      refine Rl.yes rfl rfl hc25 (OpY.ldRo1 (v := (Value.bool x24)) Tryd.underlying4 rfl rfl vw_view f28 ?_)
      refine Rl.op (OpY.pick_t (t := x23) (v := (Value.bool x24)) rfl hc25 rfl ?_)
      refine Rl.nil ?_
      obtain rfl := Option.some.inj h
      refine Swp.pop_back ?_
      exact ⟨x24, _, rfl, (upds_sym ⟨rfl, rfl, rfl, rfl, trivial⟩), hL24, Keep.refl, trivial⟩
     ·
      replace h := ite_f hc25 h
      refine Rl.no rfl rfl (eq_false_of_ne_true hc25) ?_
      refine Rl.no rfl rfl (eq_false_of_ne_true hc25) ?_
      refine Rl.no rfl rfl (eq_false_of_ne_true hc25) ?_
      refine Rl.no rfl rfl (eq_false_of_ne_true hc25) ?_
      refine Rl.no rfl rfl (eq_false_of_ne_true hc25) ?_
      refine Rl.op (OpY.pick_f (t := x23) (v := (Value.bool false)) rfl (eq_false_of_ne_true hc25) rfl ?_)
      refine Rl.nil ?_
      obtain rfl := Option.some.inj h
      refine Swp.pop_back ?_
      exact ⟨false, _, rfl, (upds_sym ⟨rfl, rfl, rfl, rfl, trivial⟩), hL24, Keep.refl, trivial⟩
    ·
     rintro _ w22 ⟨x22, u, rfl, rfl, hL25, K25, -⟩
     replace h := g15
     try dsimp only at h
     refine Swp.cond_b x22 rfl (fun hc26 => ?_) (fun hc26 => ?_)
     ·
      replace h := ite_t hc26 h
      refine Swp.seq (Swp.region rfl (Rl.op (OpY.assign (v := (Value.bool true)) rfl ?_)))
      refine Rl.nil (Swp.ret ?_)
      obtain rfl := Option.some.inj h
      obtain rfl := hd13 _ rfl
      replace h := g14
      try dsimp only at h
      obtain rfl := Option.some.inj h
      refine ⟨[(Value.bool true)], ⟨rfl, trivial⟩, ⟨_, rfl, hL25.done, ?_⟩⟩
      exact ⟨rfl, trivial⟩
     ·
      replace h := ite_f hc26 h
      refine Swp.skip (Swp.pop_blk (Swp.region rfl (Rl.op (OpY.move (v := (Value.int .i64 i11)) rfl ?_))))
      refine Rl.op (OpY.add (x := i11) (y := 1) (z := (iw (i11 + 1))) rfl rfl rfl ?_)
      refine Rl.op (OpY.assign (v := (Value.int .i64 (iw (i11 + 1)))) rfl ?_)
      refine Rl.nil ?_
      obtain rfl := Option.some.inj h
      refine Swp.pop_back ⟨(iw (i11 + 1)), rfl, ?_⟩
      exact ⟨_, (upds_sym ⟨rfl, rfl, rfl, trivial⟩), hL25, (Keep.trans K24 K25), trivial⟩
   ·
    replace h := ite_f hc24 h
    refine Swp.exit rfl ?_
    have hp13 := hL24.pick [] rfl rfl rfl
    have hL26 : Go.X.Loc [] [] w w21 [] [] := hp13.1
    have K26 := ks w hp13.2
    obtain rfl := Option.some.inj h
    obtain rfl := hd13 _ rfl
    replace h := g14
    try dsimp only at h
    skip
    refine Swp.pop_back ?_
    exact ⟨_, rfl, (upds_sym trivial), hL26, (Keep.trans K24 K26), trivial⟩
  ·
   rintro _ w23 ⟨u, rfl, rfl, hL27, K27, -⟩
   replace h := g14
   try dsimp only at h
   refine Swp.seq (Swp.region rfl (Rl.op (OpY.assign (v := (Value.bool false)) rfl ?_)))
   refine Rl.nil (Swp.ret ?_)
   obtain rfl := Option.some.inj h
   refine ⟨[(Value.bool false)], ⟨rfl, trivial⟩, ⟨_, rfl, hL27.done, ?_⟩⟩
   exact ⟨rfl, trivial⟩
theorem rFrom_w (N : Nat) (d : ADfa) (state : Int) (d_v : Value) (d_v1 : Value) (w : World) (S : Nat → Prop) (d_h : Rs rBool (Hv w.heap.size S [] w) d_v d.Accept) (d_h1 : Rs (rSl rAEdge) (Hv w.heap.size S [] w) d_v1 d.Edges) (r : ADfa) (h : rFrom N d state = some r) :
  Calls Tryd.prog 49 #[(Value.agg #[d_v, d_v1]), (Value.int .i64 state)] w (Ret w (fun v w' => ∃ (v0_0 : Value) (v0_1 : Value), (Value.agg #[v0_0, v0_1]) = v ∧ Rs rBool (Hv w.heap.size None [] w') v0_0 r.Accept ∧ Rs (rSl rAEdge) (Hv w.heap.size None [] w') v0_1 r.Edges ∧ True)) := by
 unfold rFrom at h
 have hL : Go.X.Loc [] [] w w [] [] := Go.X.Loc.begin0 w
 refine calls_of (l := [(Value.agg #[d_v, d_v1]), (Value.int .i64 state)]) (rl := [.cell 4 25]) (n := 98) Tryd.func49 rfl rfl rfl (Nat.le_of_ble_eq_true rfl) ?_
 refine Swp.seq (Swp.region rfl (Rl.op (OpY.box (cs := [d_v, d_v1]) rfl rfl hL ?_)))
 intro b1 w2 hL3 hS5
 have K4 := ks w hS5
 refine Rl.op (OpY.alloc (cs := [(Value.slice none 0 0), (Value.slice none 0 0)]) ti25 rfl hL3 ?_)
 intro b6 w7 hL8 hS10
 have K9 := ks w hS10
 refine Rl.nil (Swp.seq (Swp.region rfl (Rl.op (OpY.litRow0 Tryd.underlying22 ti4 hL8 ?_))))
 intro b10 w10 hL10 hS11
 have hE10 : Els rBool (Hv w.heap.size None [some b6, some b1] w7) [] [] := Els.nil
 have K10 := ks w hS11
 refine Rl.op (OpY.fieldAddr (q := 0) Tryd.underlying25 rfl ti22 rfl rfl rfl ?_)
 refine Rl.op (OpY.ldBox1 (v := d_v) Tryd.underlying22 rfl rfl (hL10.at 2 rfl rfl) rfl ?_)
 obtain ⟨x10, q10, h⟩ := bind_some h
 obtain ⟨q11, q12, q13⟩ := apnd_some q10
 have f10 := (((d_h.mono (K4 S)).mono (K9 S)).mono (K10 S))
 obtain ⟨ds10, q14, q15⟩ := Rs.src f10
 have f11 := (hE10.mono (K10 None))
 refine Rl.op (OpY.apRowX (r := rBool) (H := (Hv w.heap.size None [some b10, some b6, some b1] w10)) (cs := []) (sp := []) (xs := ([] : (List Bool))) (ys := d.Accept) (Y := x10) (n := (List.length ([] : (List Bool)))) (cap := 0) (i := 0) Tryd.underlying22 ti4 rfl rfl rfl rfl hL10 rfl rfl f11 rfl (show ([] ++ [] : List Value).length = 0 * rBool.sz by simp) q14 (Els.anyH (fun _ _ _ _ h => h) q15) q11 q12 q13 ?_)
 intro ob10 cap10 sp10 cs10 w11 hE11 hc10 (hL11 : Go.X.Loc [] [] w w11 [ob10, some b6, some b1] [Cont.cells ([] ++ (cs10 ++ sp10)), Cont.cells [(Value.slice none 0 0), (Value.slice none 0 0)], Cont.cells [d_v, d_v1]]) hS12
 have K11 := ks w hS12
 refine Rl.op (OpY.build (zc := [(Value.slice none 0 0), (Value.slice none 0 0)]) (cs := [(osv ob10 0 (List.length x10) cap10), (Value.slice none 0 0)]) (is := [0]) (vs := [(osv ob10 0 (List.length x10) cap10)]) (css := [[(osv ob10 0 (List.length x10) cap10)]]) pl25 ti25 rfl rfl rfl ⟨(one_cells (osv_one ob10 0 (List.length x10) cap10)), trivial⟩ rfl ?_)
 refine Rl.op (OpY.alloc (cs := [(Value.slice none 0 0), (Value.slice none 0 0)]) ti25 rfl hL11 ?_)
 intro b11 w12 hL12 hS13
 have K12 := ks w hS13
 refine Rl.op0 (OpY.store (vs := [(osv ob10 0 (List.length x10) cap10), (Value.slice none 0 0)]) ti25 rfl rfl rfl rfl (ones_cons (osv_one ob10 0 (List.length x10) cap10) (ones_cons rfl ones_nil)) hL12 0 rfl rfl (Nat.le_of_ble_eq_true rfl) ?_)
 intro w13 (hL13 : Go.X.Loc [] [] w w13 [some b11, ob10, some b6, some b1] [Cont.cells [(osv ob10 0 (List.length x10) cap10), (Value.slice none 0 0)], Cont.cells ([] ++ (cs10 ++ sp10)), Cont.cells [(Value.slice none 0 0), (Value.slice none 0 0)], Cont.cells [d_v, d_v1]]) hS14
 have K13 := ks w hS14
 refine Rl.nil (Swp.seq (Swp.region rfl (Rl.op (OpY.litRow0 Tryd.underlying78 ti3 hL13 ?_))))
 intro b12 w14 hL14 hS15
 have hE12 : Els (rInt .i64) (Hv w.heap.size None [some b11, ob10, some b6, some b1] w13) [] [] := Els.nil
 have K14 := ks w hS15
 refine Rl.op (OpY.assign (v := (osv (some b12) 0 (List.length ([] : (List Int))) 0)) rfl ?_)
 refine Rl.nil (Swp.seq (Swp.seq (Swp.region rfl (Rl.op (OpY.assign (v := (Value.int .i64 0)) rfl ?_)))))
 refine Rl.nil ?_
 obtain ⟨s10, hl10, g10⟩ := bind_some h
 refine Swp.join (fun e w' => ∃ (swap10 : (List Int)) (ob11 : Option Nat) (cap11 : Nat) (sp11 : List Value) (cs11 : List Value) (ln10 : Nat) (u : Env), swap10 = s10 ∧ e = upds [(1, (Value.int .i64 state)), (2, (Value.pointer (some ⟨b1, 0, none⟩))), (4, (Value.pointer (some ⟨b6, 0, none⟩))), (5, (Value.pointer (some ⟨b11, 0, none⟩))), (6, (osv ob11 0 ln10 cap11))] u ∧ Go.X.Loc [] [] w w' [some b1, some b6, some b11, ob10, ob11] [Cont.cells [d_v, d_v1], Cont.cells [(Value.slice none 0 0), (Value.slice none 0 0)], Cont.cells [(osv ob10 0 (List.length x10) cap10), (Value.slice none 0 0)], Cont.cells ([] ++ (cs10 ++ sp10)), Cont.cells ([] ++ (cs11 ++ sp11))] ∧ Keep w.heap.size [some b12, some b11, ob10, some b6, some b1] w14 [some b1, some b6, some b11, ob10, ob11] w' ∧ Els (rInt .i64) (Hv w.heap.size None [some b1, some b6, some b11, ob10, ob11] w') cs11 swap10 ∧ ln10 = List.length swap10 ∧ (cs11 ++ sp11).length = cap11 * (rInt .i64).sz ∧ True) ?_ ?_
 ·
  refine Swp.block ?_
  have hp10 := hL14.pick [4, 3, 1, 2, 0] rfl rfl rfl
  have hL15 : Go.X.Loc [] [] w w14 [some b1, some b6, some b11, ob10, some b12] [Cont.cells [d_v, d_v1], Cont.cells [(Value.slice none 0 0), (Value.slice none 0 0)], Cont.cells [(osv ob10 0 (List.length x10) cap10), (Value.slice none 0 0)], Cont.cells ([] ++ (cs10 ++ sp10)), Cont.cells ([] ++ ([] ++ []))] := hp10.1
  have K15 := ks w hp10.2
  have f12 := ((hE12.mono (K14 None)).mono (K15 None))
  refine Swp.loopM hl10 (fun (ss : ((List Int) × Int)) (e : Env) (w' : World) => match ss with | (swap11, i10) => ∃ (ob12 : Option Nat) (cap12 : Nat) (sp12 : List Value) (cs12 : List Value) (ln11 : Nat) (u : Env), e = upds [(1, (Value.int .i64 state)), (2, (Value.pointer (some ⟨b1, 0, none⟩))), (4, (Value.pointer (some ⟨b6, 0, none⟩))), (5, (Value.pointer (some ⟨b11, 0, none⟩))), (6, (osv ob12 0 ln11 cap12)), (7, (Value.int .i64 i10))] u ∧ Go.X.Loc [] [] w w' [some b1, some b6, some b11, ob10, ob12] [Cont.cells [d_v, d_v1], Cont.cells [(Value.slice none 0 0), (Value.slice none 0 0)], Cont.cells [(osv ob10 0 (List.length x10) cap10), (Value.slice none 0 0)], Cont.cells ([] ++ (cs10 ++ sp10)), Cont.cells ([] ++ (cs12 ++ sp12))] ∧ Keep w.heap.size [some b12, some b11, ob10, some b6, some b1] w14 [some b1, some b6, some b11, ob10, ob12] w' ∧ Els (rInt .i64) (Hv w.heap.size None [some b1, some b6, some b11, ob10, ob12] w') cs12 swap11 ∧ ln11 = List.length swap11 ∧ (cs12 ++ sp12).length = cap12 * (rInt .i64).sz ∧ True) ⟨some b12, 0, [], [], (List.length ([] : (List Int))), _, (upds_sym ⟨rfl, rfl, rfl, rfl, rfl, rfl, trivial⟩), hL15, K15, f12, rfl, (show ([] ++ [] : List Value).length = 0 * (rInt .i64).sz by simp), trivial⟩ ?_
  rintro ⟨swap11, i10⟩ oo _ w15 ⟨ob12, cap12, sp12, cs12, ln11, u, rfl, hL16, K16, hE13, rfl, hc11, -⟩ h hd10
  rw [rFrom_b1] at h
  refine Swp.seq (Swp.seq (Swp.region rfl (Rl.op (OpY.move (v := (Value.int .i64 i10)) rfl ?_))))
  refine Rl.op (OpY.fieldAddr (q := 0) Tryd.underlying25 rfl ti22 rfl rfl rfl ?_)
  refine Rl.op (OpY.ldBox1 (v := d_v) Tryd.underlying22 rfl rfl (hL16.at 0 rfl rfl) rfl ?_)
  have f13 := (((((f10.mono (K11 S)).mono (K12 S)).mono (K13 S)).mono (K14 S)).mono (K16 S))
  refine Rl.op (OpY.lenRo (v := d_v) Tryd.underlying22 rfl f13 ?_)
  refine Rl.op (OpY.lss (x := i10) (y := (List.length d.Accept : Int)) ((i10 : Int) < (List.length d.Accept : Int)) rfl rfl Iff.rfl ?_)
  refine Rl.nil ?_
  refine Swp.cond_d ((i10 : Int) < (List.length d.Accept : Int)) rfl (fun hc12 => ?_) (fun hc12 => ?_)
  ·
   replace h := ite_t hc12 h
   refine Swp.skip (Swp.seq (Swp.block (Swp.region rfl (Rl.op (OpY.move (v := (osv ob12 0 (List.length swap11) cap12)) rfl ?_)))))
   refine Rl.op (OpY.move (v := (Value.int .i64 i10)) rfl ?_)
   have hE14 : Els (rInt .i64) (Hv w.heap.size None [some b1, some b6, some b11, ob10, ob12] w15) [(Value.int .i64 i10)] [i10] := (Els.cons (a := [(Value.int .i64 i10)]) rfl Els.nil)
   refine Rl.op (OpY.litRow (r := (rInt .i64)) (vs := [(Value.int .i64 i10)]) (css := [[(Value.int .i64 i10)]]) (xs := [i10]) Tryd.underlying78 ti3 (Nat.le_of_ble_eq_true rfl) rfl rfl ⟨rfl, rfl, trivial⟩ (Nat.le_of_ble_eq_true rfl) hE14 rfl hL16 ?_)
   intro b13 w16 hc13 hL17 hS16
   have K17 := ks w hS16
   obtain ⟨x11, q16, h⟩ := bind_some h
   obtain ⟨q17, q18, q19⟩ := apnd_some q16
   have f14 := (hE14.mono (K17 None))
   have f15 := (hE13.mono (K17 None))
   refine Rl.op (OpY.apRowX (r := (rInt .i64)) (H := (Hv w.heap.size None [some b13, some b1, some b6, some b11, ob10, ob12] w16)) (cs := cs12) (sp := sp12) (xs := swap11) (ys := [i10]) (Y := x11) (n := (List.length swap11)) (cap := cap12) (i := 5) Tryd.underlying78 ti3 rfl rfl rfl rfl hL17 rfl rfl f15 rfl hc11 (Src.row (pre := []) (o := 0) (n := 1) (cap := 1) (hL17.at 0 rfl rfl) f14 rfl rfl rfl) (Els.anyH (fun _ _ _ _ h => h) f14) q17 q18 q19 ?_)
   intro ob13 cap13 sp13 cs13 w17 hE15 hc14 (hL18 : Go.X.Loc [] [] w w17 [some b13, some b1, some b6, some b11, ob10, ob13] [Cont.cells ([] ++ ([(Value.int .i64 i10)] ++ [])), Cont.cells [d_v, d_v1], Cont.cells [(Value.slice none 0 0), (Value.slice none 0 0)], Cont.cells [(osv ob10 0 (List.length x10) cap10), (Value.slice none 0 0)], Cont.cells ([] ++ (cs10 ++ sp10)), Cont.cells ([] ++ (cs13 ++ sp13))]) hS17
   have K18 := ks w hS17
   refine Rl.op (OpY.assign (v := (osv ob13 0 (List.length x11) cap13)) rfl ?_)
   refine Rl.nil (Swp.pop_blk (Swp.region rfl (Rl.op (OpY.move (v := (Value.int .i64 i10)) rfl ?_))))
   refine Rl.op (OpY.add (x := i10) (y := 1) (z := (iw (i10 + 1))) rfl rfl rfl ?_)
   refine Rl.op (OpY.assign (v := (Value.int .i64 (iw (i10 + 1)))) rfl ?_)
   refine Rl.nil ?_
   have hp11 := hL18.pick [1, 2, 3, 4, 5] rfl rfl rfl
   have hL19 : Go.X.Loc [] [] w w17 [some b1, some b6, some b11, ob10, ob13] [Cont.cells [d_v, d_v1], Cont.cells [(Value.slice none 0 0), (Value.slice none 0 0)], Cont.cells [(osv ob10 0 (List.length x10) cap10), (Value.slice none 0 0)], Cont.cells ([] ++ (cs10 ++ sp10)), Cont.cells ([] ++ (cs13 ++ sp13))] := hp11.1
   have K19 := ks w hp11.2
   have f16 := ((hE15.mono (K18 None)).mono (K19 None))
   obtain rfl := Option.some.inj h
   refine Swp.pop_back ⟨(x11, (iw (i10 + 1))), rfl, ?_⟩
   exact ⟨ob13, cap13, sp13, cs13, (List.length x11), _, (upds_sym ⟨rfl, rfl, rfl, rfl, rfl, rfl, trivial⟩), hL19, (Keep.trans (Keep.trans (Keep.trans K16 K17) K18) K19), f16, rfl, hc14, trivial⟩
  ·
   replace h := ite_f hc12 h
   refine Swp.exit rfl ?_
   obtain rfl := Option.some.inj h
   obtain rfl := hd10 _ rfl
   replace h := g10
   try dsimp only at h
   skip
   refine Swp.pop_back ?_
   exact ⟨swap11, ob12, cap12, sp12, cs12, (List.length swap11), _, rfl, (upds_sym ⟨rfl, rfl, rfl, rfl, rfl, trivial⟩), hL16, K16, hE13, rfl, hc11, trivial⟩
 ·
  rintro _ w18 ⟨swap10, ob11, cap11, sp11, cs11, ln10, u, rfl, rfl, hL20, K20, hE16, rfl, hc15, -⟩
  replace h := g10
  try dsimp only at h
  refine Swp.seq (Swp.region rfl (Rl.op (OpY.move (v := (osv ob11 0 (List.length swap10) cap11)) rfl ?_)))
  refine Rl.op (OpY.move (v := (osv ob11 0 (List.length swap10) cap11)) rfl ?_)
  refine Rl.op (OpY.move (v := (Value.int .i64 state)) rfl ?_)
  refine Rl.op (OpY.move (v := (Value.int .i64 state)) rfl ?_)
  obtain ⟨x12, q20, h⟩ := bind_some h
  obtain ⟨n10, q21, q22⟩ := idx_some q20
  have q23 := (List.getElem?_eq_some_iff.1 q22).1
  obtain ⟨b14, hb10⟩ := hL20.row_some 4 rfl rfl (row_pos (pre := []) hE16 q22 (Nat.lt_of_sub_eq_succ rfl))
  refine Rl.op (OpY.ixRowD (r := (rInt .i64)) (b := b14) (o := 0) (n := n10) (m := (List.length swap10)) (xs := swap10) (q := (0 + n10 * (rInt .i64).sz)) Tryd.underlying78 ti3 (osv_some hb10) rfl rfl q21 q23 rfl ?_)
  obtain ⟨x13, q24, h⟩ := bind_some h
  obtain ⟨n11, q25, q26, q27⟩ := upd1_some q24
  obtain rfl := Int.ofNat_inj.1 (q21.symm.trans q25)
  refine Rl.op0 (OpY.stRowX (pre := []) (r := (rInt .i64)) (vs := [(Value.int .i64 state)]) (a := state) ti3 rfl rfl rfl rfl hL20 4 (congrArg some hb10) rfl hE16 q23 rfl q27 ?_)
  have hl11 : (List.length swap10) = List.length x13 := by rw [q27, List.length_set]
  intro w19 cs14 (hL21 : Go.X.Loc [] [] w w19 [some b1, some b6, some b11, ob10, ob11] [Cont.cells [d_v, d_v1], Cont.cells [(Value.slice none 0 0), (Value.slice none 0 0)], Cont.cells [(osv ob10 0 (List.length x10) cap10), (Value.slice none 0 0)], Cont.cells ([] ++ (cs10 ++ sp10)), Cont.cells ([] ++ (cs14 ++ sp11))]) hS18 hE17 q28
  have K21 := ks w hS18
  obtain ⟨x14, q29, h⟩ := bind_some h
  obtain ⟨n12, q30, q31⟩ := idx_some q29
  have q32 := (List.getElem?_eq_some_iff.1 q31).1
  refine Rl.op (OpY.ixRowD (r := (rInt .i64)) (b := b14) (o := 0) (n := n12) (m := (List.length swap10)) (xs := x13) (q := (0 + n12 * (rInt .i64).sz)) Tryd.underlying78 ti3 (osv_some hb10) hl11 rfl q30 q32 rfl ?_)
  obtain ⟨x15, q33, h⟩ := bind_some h
  obtain ⟨n13, q34, q35, q36⟩ := upd1_some q33
  obtain rfl := Int.ofNat_inj.1 (q30.symm.trans q34)
  have f17 := (hE17.mono (K21 None))
  refine Rl.op0 (OpY.stRowX (pre := []) (r := (rInt .i64)) (vs := [(Value.int .i64 0)]) (a := 0) ti3 rfl rfl rfl rfl hL21 4 (congrArg some hb10) rfl f17 q32 rfl q36 ?_)
  have hl12 : (List.length swap10) = List.length x15 := by rw [q36, List.length_set]; exact hl11
  intro w20 cs15 (hL22 : Go.X.Loc [] [] w w20 [some b1, some b6, some b11, ob10, ob11] [Cont.cells [d_v, d_v1], Cont.cells [(Value.slice none 0 0), (Value.slice none 0 0)], Cont.cells [(osv ob10 0 (List.length x10) cap10), (Value.slice none 0 0)], Cont.cells ([] ++ (cs10 ++ sp10)), Cont.cells ([] ++ (cs15 ++ sp11))]) hS19 hE18 q37
  have K22 := ks w hS19
  refine Rl.nil (Swp.seq (Swp.seq (Swp.region rfl (Rl.op (OpY.assign (v := (Value.int .i64 0)) rfl ?_)))))
  refine Rl.nil ?_
  obtain ⟨s11, hl13, g11⟩ := bind_some h
  refine Swp.join (fun e w' => ∃ (accept10 : (List Bool)) (edges10 : (List (List AEdge))) (cs16 : List Value) (ob14 : Option Nat) (cap14 : Nat) (sp14 : List Value) (cs17 : List Value) (ln12 : Nat) (u : Env), (accept10, edges10) = s11 ∧ e = upds [(4, (Value.pointer (some ⟨b6, 0, none⟩))), (5, (Value.pointer (some ⟨b11, 0, none⟩)))] u ∧ Go.X.Loc [] [] w w' [some b6, some b11, ob10, ob14] [Cont.cells [(Value.slice none 0 0), (Value.slice none 0 0)], Cont.cells [(osv ob10 0 (List.length x10) cap10), (osv ob14 0 ln12 cap14)], Cont.cells ([] ++ (cs16 ++ sp10)), Cont.cells ([] ++ (cs17 ++ sp14))] ∧ Keep w.heap.size [some b1, some b6, some b11, ob10, ob11] w20 [some b6, some b11, ob10, ob14] w' ∧ Els rBool (Hv w.heap.size None [some b6, some b11, ob10, ob14] w') cs16 accept10 ∧ (List.length x10) = List.length accept10 ∧ (cs16 ++ sp10).length = cap10 * rBool.sz ∧ Els (rSl rAEdge) (Hv w.heap.size None [some b6, some b11, ob10, ob14] w') cs17 edges10 ∧ ln12 = List.length edges10 ∧ (cs17 ++ sp14).length = cap14 * (rSl rAEdge).sz ∧ True) ?_ ?_
  ·
   refine Swp.block ?_
   have hp12 := hL22.addNil
   have hL23 : Go.X.Loc [] [] w w20 [none, some b1, some b6, some b11, ob10, ob11] [Cont.cells ([] ++ ([] ++ [])), Cont.cells [d_v, d_v1], Cont.cells [(Value.slice none 0 0), (Value.slice none 0 0)], Cont.cells [(osv ob10 0 (List.length x10) cap10), (Value.slice none 0 0)], Cont.cells ([] ++ (cs10 ++ sp10)), Cont.cells ([] ++ (cs15 ++ sp11))] := hp12.1
   have K23 := ks w hp12.2
   have hp13 := hL23.pick [1, 2, 3, 4, 0, 5] rfl rfl rfl
   have hL24 : Go.X.Loc [] [] w w20 [some b1, some b6, some b11, ob10, none, ob11] [Cont.cells [d_v, d_v1], Cont.cells [(Value.slice none 0 0), (Value.slice none 0 0)], Cont.cells [(osv ob10 0 (List.length x10) cap10), (osv none 0 (List.length ([] : (List (List AEdge)))) 0)], Cont.cells ([] ++ (cs10 ++ sp10)), Cont.cells ([] ++ ([] ++ [])), Cont.cells ([] ++ (cs15 ++ sp11))] := hp13.1
   have K24 := ks w hp13.2
   have f18 := (((((((((hE11.mono (K11 None)).mono (K12 None)).mono (K13 None)).mono (K14 None)).mono (K20 None)).mono (K21 None)).mono (K22 None)).mono (K23 None)).mono (K24 None))
   have f19 := ((Els.nil (r := (rSl rAEdge))).mono (K24 None))
   refine Swp.loopM hl13 (fun (ss : ((List Bool) × (List (List AEdge)) × Int)) (e : Env) (w' : World) => match ss with | (accept11, edges11, i11) => ∃ (cs18 : List Value) (ob15 : Option Nat) (cap15 : Nat) (sp15 : List Value) (cs19 : List Value) (ln13 : Nat) (u : Env), e = upds [(2, (Value.pointer (some ⟨b1, 0, none⟩))), (4, (Value.pointer (some ⟨b6, 0, none⟩))), (5, (Value.pointer (some ⟨b11, 0, none⟩))), (6, (osv ob11 0 (List.length swap10) cap11)), (8, (Value.int .i64 i11))] u ∧ Go.X.Loc [] [] w w' [some b1, some b6, some b11, ob10, ob15, ob11] [Cont.cells [d_v, d_v1], Cont.cells [(Value.slice none 0 0), (Value.slice none 0 0)], Cont.cells [(osv ob10 0 (List.length x10) cap10), (osv ob15 0 ln13 cap15)], Cont.cells ([] ++ (cs18 ++ sp10)), Cont.cells ([] ++ (cs19 ++ sp15)), Cont.cells ([] ++ (cs15 ++ sp11))] ∧ Keep w.heap.size [some b1, some b6, some b11, ob10, ob11] w20 [some b1, some b6, some b11, ob10, ob15, ob11] w' ∧ Els rBool (Hv w.heap.size None [some b1, some b6, some b11, ob10, ob15, ob11] w') cs18 accept11 ∧ (List.length x10) = List.length accept11 ∧ (cs18 ++ sp10).length = cap10 * rBool.sz ∧ Els (rSl rAEdge) (Hv w.heap.size None [some b1, some b6, some b11, ob10, ob15, ob11] w') cs19 edges11 ∧ ln13 = List.length edges11 ∧ (cs19 ++ sp15).length = cap15 * (rSl rAEdge).sz ∧ True) ⟨cs10, none, 0, [], [], (List.length ([] : (List (List AEdge)))), _, (upds_sym ⟨rfl, rfl, rfl, rfl, rfl, trivial⟩), hL24, (Keep.trans K23 K24), f18, rfl, hc10, f19, rfl, (show ([] ++ [] : List Value).length = 0 * (rSl rAEdge).sz by simp), trivial⟩ ?_
   rintro ⟨accept11, edges11, i11⟩ oo _ w21 ⟨cs18, ob15, cap15, sp15, cs19, ln13, u, rfl, hL25, K25, hE19, hl14, hc16, hE20, rfl, hc17, -⟩ h hd11
   rw [rFrom_b2] at h
   refine Swp.seq (Swp.seq (Swp.region rfl (Rl.op (OpY.move (v := (Value.int .i64 i11)) rfl ?_))))
   refine Rl.op (OpY.fieldAddr (q := 1) Tryd.underlying25 rfl ti23 rfl rfl rfl ?_)
   refine Rl.op (OpY.ldBox1 (v := d_v1) Tryd.underlying23 rfl rfl (hL25.at 0 rfl rfl) rfl ?_)
   have f20 := (((((((((((d_h1.mono (K4 S)).mono (K9 S)).mono (K10 S)).mono (K11 S)).mono (K12 S)).mono (K13 S)).mono (K14 S)).mono (K20 S)).mono (K21 S)).mono (K22 S)).mono (K25 S))
   refine Rl.op (OpY.lenRo (v := d_v1) Tryd.underlying23 rfl f20 ?_)
   refine Rl.op (OpY.lss (x := i11) (y := (List.length d.Edges : Int)) ((i11 : Int) < (List.length d.Edges : Int)) rfl rfl Iff.rfl ?_)
   refine Rl.nil ?_
   refine Swp.cond_d ((i11 : Int) < (List.length d.Edges : Int)) rfl (fun hc18 => ?_) (fun hc18 => ?_)
   ·
    replace h := ite_t hc18 h
    refine Swp.skip (Swp.seq (Swp.block (Swp.seq ?_)))
    obtain ⟨x16, q38, h⟩ := bind_some h
    obtain ⟨n14, q39, q40⟩ := idx_some q38
    have q41 := (List.getElem?_eq_some_iff.1 q40).1
    have f21 := ((hE18.mono (K22 None)).mono (K25 None))
    obtain ⟨b15, hb11⟩ := hL25.row_some 5 rfl rfl (row_pos (pre := []) f21 q40 (Nat.lt_of_sub_eq_succ rfl))
    obtain ⟨vs10, q42, q43, q44⟩ := row_elem (pre := []) (sp := sp11) f21 q40
    obtain rfl := q43
    obtain ⟨x17, q45, h⟩ := bind_some h
    obtain ⟨n15, q46, q47⟩ := idx_some q45
    have f22 := ((((((((f10.mono (K11 S)).mono (K12 S)).mono (K13 S)).mono (K14 S)).mono (K20 S)).mono (K21 S)).mono (K22 S)).mono (K25 S))
    obtain ⟨b16, o10, c10, vs11, q48, q49, f23, q50⟩ := Rs.get f22 q47
    obtain rfl := q50
    refine Swp.drawL 11 [] [] (fun W1 => [.det (Value.pointer (some ⟨b11, 0, none⟩)), .det (osv ob10 0 (List.length x10) cap10), .det (Value.int .i64 i11), .det (Value.pointer (some ⟨b1, 0, none⟩)), .det d_v, .det (osv ob11 0 (List.length swap10) cap11), .det (Value.int .i64 i11), .det (Value.pointer (some ⟨b15, (0 + n14 * (rInt .i64).sz), none⟩)), .det (Value.int .i64 x16), .det (Value.pointer (some ⟨b16, (o10 + n15 * rBool.sz), none⟩)), .det (Value.bool x17)]) mixed rfl rfl rfl (fun _ => rfl) (fun _ => rfl) ?_ ?_
    ·
     intro W1 _
     exact trivial
    ·
     intro w22 hE21
     have hL26 := hL25.ext hE21
     have K26 := ke hL25 hE21
     refine DrH.de (fun _ _ => GOp.op (OpY.fieldAddr Tryd.underlying25 rfl ti22 rfl rfl rfl (er rfl))) ?_
     refine DrH.de (fun _ hE23 => GOp.op (OpY.ldBox1 Tryd.underlying22 rfl rfl ((hL26.ext hE23).at 2 rfl rfl) rfl (er rfl))) ?_
     refine DrH.de (fun _ _ => GOp.op (OpY.move rfl (er rfl))) ?_
     refine DrH.de (fun _ _ => GOp.op (OpY.fieldAddr Tryd.underlying25 rfl ti22 rfl rfl rfl (er rfl))) ?_
     refine DrH.de (fun _ hE26 => GOp.op (OpY.ldBox1 Tryd.underlying22 rfl rfl ((hL26.ext hE26).at 0 rfl rfl) rfl (er rfl))) ?_
     refine DrH.de (fun _ _ => GOp.op (OpY.move rfl (er rfl))) ?_
     refine DrH.de (fun _ _ => GOp.op (OpY.move rfl (er rfl))) ?_
     refine DrH.de (fun _ _ => GOp.op (OpY.ixRowD (r := (rInt .i64)) (b := b15) (o := 0) (n := n14) (m := (List.length swap10)) (xs := x15) (q := (0 + n14 * (rInt .i64).sz)) Tryd.underlying78 ti3 (osv_some hb11) hl12 rfl q39 q41 rfl (er rfl))) ?_
     refine DrH.de (fun _ hE30 => GOp.op (OpY.ldElem1 Tryd.underlying3 rfl rfl (own_some hb11 ((hL26.ext hE30).at 5 rfl rfl)) q44 (er rfl))) ?_
     refine DrH.de (fun _ _ => GOp.op (OpY.ixRoD (r := rBool) (v := d_v) (n := n15) (m := (o10 + n15 * rBool.sz)) Tryd.underlying22 ti4 rfl q48 rfl q46 q47 rfl (er rfl))) ?_
     refine DrH.de (fun _ hE32 => GOp.op (OpY.ldRo1 Tryd.underlying4 rfl rfl vw_view (At.mono ((ke hL26 hE32) S) (At.mono (K26 S) f23)) (er rfl))) ?_
     refine DrH.fin0 ?_
     rintro w34 Z25 hE33 hZ21 ⟨-⟩ ap10
     have hB10 : ∀ b, some b ∈ ([] : List (Option Nat)) → w22.heap.size ≤ b ∧ ¬ Z25 b := by
      intro b hb; cases hb
     have hL30 := hL26.ext hE33
     have K28 := ke hL26 hE33
     obtain ⟨x18, q51, h⟩ := bind_some h
     obtain ⟨n16, q52, q53⟩ := idx_some q51
     have q54 := (List.getElem?_eq_some_iff.1 q53).1
     have f24 := ((hE19.mono (K26 None)).mono (K28 None))
     obtain ⟨b17, hb12⟩ := hL30.row_some 3 rfl rfl (row_pos (pre := []) f24 q53 (Nat.lt_of_sub_eq_succ rfl))
     refine Rl.op (OpY.ixRowD (r := rBool) (b := b17) (o := 0) (n := n16) (m := (List.length x10)) (xs := accept11) (q := (0 + n16 * rBool.sz)) Tryd.underlying22 ti4 (osv_some hb12) hl14 rfl q52 q54 rfl ?_)
     obtain ⟨x19, q55, h⟩ := bind_some h
     obtain ⟨n17, q56, q57, q58⟩ := upd1_some q55
     obtain rfl := Int.ofNat_inj.1 (q52.symm.trans q56)
     refine Rl.op0 (OpY.stRowX (pre := []) (r := rBool) (vs := [(Value.bool x17)]) (a := x17) ti4 rfl rfl rfl rfl hL30 3 (congrArg some hb12) rfl f24 q54 rfl q58 ?_)
     have hl15 : (List.length x10) = List.length x19 := by rw [q58, List.length_set]; exact hl14
     intro w35 cs20 (hL31 : Go.X.Loc [] [] w w35 [some b1, some b6, some b11, ob10, ob15, ob11] [Cont.cells [d_v, d_v1], Cont.cells [(Value.slice none 0 0), (Value.slice none 0 0)], Cont.cells [(osv ob10 0 (List.length x10) cap10), (osv ob15 0 (List.length edges11) cap15)], Cont.cells ([] ++ (cs20 ++ sp10)), Cont.cells ([] ++ (cs19 ++ sp15)), Cont.cells ([] ++ (cs15 ++ sp11))]) hS20 hE34 q59
     have hc19 : (cs20 ++ sp10).length = cap10 * rBool.sz := by have := hc16; rw [List.length_append] at this ⊢; rw [q59]; exact this
     have K29 := ks w hS20
     refine Rl.nil (Swp.seq (Swp.region rfl (Rl.op (OpY.assign (v := (Value.slice none 0 0)) rfl ?_))))
     refine Rl.nil (Swp.seq (Swp.seq (Swp.region rfl (Rl.op (OpY.assign (v := (Value.int .i64 0)) rfl ?_)))))
     refine Rl.nil ?_
     obtain ⟨s12, hl16, g12⟩ := bind_some h
     refine Swp.join (fun e w' => ∃ (l10 : (List AEdge)) (ob16 : Option Nat) (cap16 : Nat) (sp16 : List Value) (cs21 : List Value) (ln14 : Nat) (u : Env), l10 = s12 ∧ e = upds [(2, (Value.pointer (some ⟨b1, 0, none⟩))), (4, (Value.pointer (some ⟨b6, 0, none⟩))), (5, (Value.pointer (some ⟨b11, 0, none⟩))), (6, (osv ob11 0 (List.length swap10) cap11)), (8, (Value.int .i64 i11)), (9, (osv ob16 0 ln14 cap16))] u ∧ Go.X.Loc [] [] w w' [some b1, some b6, some b11, ob10, ob15, ob11, ob16] [Cont.cells [d_v, d_v1], Cont.cells [(Value.slice none 0 0), (Value.slice none 0 0)], Cont.cells [(osv ob10 0 (List.length x10) cap10), (osv ob15 0 (List.length edges11) cap15)], Cont.cells ([] ++ (cs20 ++ sp10)), Cont.cells ([] ++ (cs19 ++ sp15)), Cont.cells ([] ++ (cs15 ++ sp11)), Cont.cells ([] ++ (cs21 ++ sp16))] ∧ Keep w.heap.size [some b1, some b6, some b11, ob10, ob15, ob11] w35 [some b1, some b6, some b11, ob10, ob15, ob11, ob16] w' ∧ Els rAEdge (Hv w.heap.size None [some b1, some b6, some b11, ob10, ob15, ob11, ob16] w') cs21 l10 ∧ ln14 = List.length l10 ∧ (cs21 ++ sp16).length = cap16 * rAEdge.sz ∧ True) ?_ ?_
     ·
      refine Swp.block ?_
      have hp14 := hL31.addNil
      have hL32 : Go.X.Loc [] [] w w35 [none, some b1, some b6, some b11, ob10, ob15, ob11] [Cont.cells ([] ++ ([] ++ [])), Cont.cells [d_v, d_v1], Cont.cells [(Value.slice none 0 0), (Value.slice none 0 0)], Cont.cells [(osv ob10 0 (List.length x10) cap10), (osv ob15 0 (List.length edges11) cap15)], Cont.cells ([] ++ (cs20 ++ sp10)), Cont.cells ([] ++ (cs19 ++ sp15)), Cont.cells ([] ++ (cs15 ++ sp11))] := hp14.1
      have K30 := ks w hp14.2
      have hp15 := hL32.pick [1, 2, 3, 4, 5, 6, 0] rfl rfl rfl
      have hL33 : Go.X.Loc [] [] w w35 [some b1, some b6, some b11, ob10, ob15, ob11, none] [Cont.cells [d_v, d_v1], Cont.cells [(Value.slice none 0 0), (Value.slice none 0 0)], Cont.cells [(osv ob10 0 (List.length x10) cap10), (osv ob15 0 (List.length edges11) cap15)], Cont.cells ([] ++ (cs20 ++ sp10)), Cont.cells ([] ++ (cs19 ++ sp15)), Cont.cells ([] ++ (cs15 ++ sp11)), Cont.cells ([] ++ ([] ++ []))] := hp15.1
      have K31 := ks w hp15.2
      have f25 := ((Els.nil (r := rAEdge)).mono (K31 None))
      refine Swp.loopM hl16 (fun (ss : ((List AEdge) × Int)) (e : Env) (w' : World) => match ss with | (l11, k10) => ∃ (ob17 : Option Nat) (cap17 : Nat) (sp17 : List Value) (cs22 : List Value) (ln15 : Nat) (u : Env), e = upds [(2, (Value.pointer (some ⟨b1, 0, none⟩))), (4, (Value.pointer (some ⟨b6, 0, none⟩))), (5, (Value.pointer (some ⟨b11, 0, none⟩))), (6, (osv ob11 0 (List.length swap10) cap11)), (8, (Value.int .i64 i11)), (9, (osv ob17 0 ln15 cap17)), (10, (Value.int .i64 k10))] u ∧ Go.X.Loc [] [] w w' [some b1, some b6, some b11, ob10, ob15, ob11, ob17] [Cont.cells [d_v, d_v1], Cont.cells [(Value.slice none 0 0), (Value.slice none 0 0)], Cont.cells [(osv ob10 0 (List.length x10) cap10), (osv ob15 0 (List.length edges11) cap15)], Cont.cells ([] ++ (cs20 ++ sp10)), Cont.cells ([] ++ (cs19 ++ sp15)), Cont.cells ([] ++ (cs15 ++ sp11)), Cont.cells ([] ++ (cs22 ++ sp17))] ∧ Keep w.heap.size [some b1, some b6, some b11, ob10, ob15, ob11] w35 [some b1, some b6, some b11, ob10, ob15, ob11, ob17] w' ∧ Els rAEdge (Hv w.heap.size None [some b1, some b6, some b11, ob10, ob15, ob11, ob17] w') cs22 l11 ∧ ln15 = List.length l11 ∧ (cs22 ++ sp17).length = cap17 * rAEdge.sz ∧ True) ⟨none, 0, [], [], (List.length ([] : (List AEdge))), _, (upds_sym ⟨rfl, rfl, rfl, rfl, rfl, rfl, rfl, trivial⟩), hL33, (Keep.trans K30 K31), f25, rfl, (show ([] ++ [] : List Value).length = 0 * rAEdge.sz by simp), trivial⟩ ?_
      rintro ⟨l11, k10⟩ oo _ w36 ⟨ob17, cap17, sp17, cs22, ln15, u, rfl, hL34, K32, hE35, rfl, hc20, -⟩ h hd12
      rw [rFrom_b3] at h
      refine Swp.seq (Swp.seq ?_)
      obtain ⟨x20, q60, h⟩ := bind_some h
      obtain ⟨n18, q61, q62⟩ := idx_some q60
      have q63 := (List.getElem?_eq_some_iff.1 q62).1
      have f26 := ((((f21.mono (K26 None)).mono (K28 None)).mono (K29 None)).mono (K32 None))
      obtain ⟨b18, hb13⟩ := hL34.row_some 5 rfl rfl (row_pos (pre := []) f26 q62 (Nat.lt_of_sub_eq_succ rfl))
      obtain ⟨vs12, q64, q65, q66⟩ := row_elem (pre := []) (sp := sp11) f26 q62
      obtain rfl := q65
      obtain ⟨x21, q67, h⟩ := bind_some h
      obtain ⟨n19, q68, q69⟩ := idx_some q67
      have f27 := ((((f20.mono (K26 S)).mono (K28 S)).mono (K29 S)).mono (K32 S))
      obtain ⟨b19, o11, c11, vs13, q70, q71, f28, q72⟩ := Rs.get f27 q69
      obtain ⟨v10, rfl, k11⟩ := q72
      refine Swp.drawL 10 [] [] (fun W1 => [.det (Value.int .i64 k10), .det (Value.pointer (some ⟨b1, 1, none⟩)), .det d_v1, .det (osv ob11 0 (List.length swap10) cap11), .det (Value.int .i64 i11), .det (Value.pointer (some ⟨b18, (0 + n18 * (rInt .i64).sz), none⟩)), .det (Value.int .i64 x20), .det (Value.pointer (some ⟨b19, (o11 + n19 * (rSl rAEdge).sz), none⟩)), .det v10, .det (Value.int .i64 (List.length x21 : Int))]) mixed rfl rfl rfl (fun _ => rfl) (fun _ => rfl) ?_ ?_
      ·
       intro W1 _
       exact trivial
      ·
       intro w37 hE36
       have hL35 := hL34.ext hE36
       have K33 := ke hL34 hE36
       refine DrH.de (fun _ _ => GOp.op (OpY.move rfl (er rfl))) ?_
       refine DrH.de (fun _ _ => GOp.op (OpY.fieldAddr Tryd.underlying25 rfl ti23 rfl rfl rfl (er rfl))) ?_
       refine DrH.de (fun _ hE39 => GOp.op (OpY.ldBox1 Tryd.underlying23 rfl rfl ((hL35.ext hE39).at 0 rfl rfl) rfl (er rfl))) ?_
       refine DrH.de (fun _ _ => GOp.op (OpY.move rfl (er rfl))) ?_
       refine DrH.de (fun _ _ => GOp.op (OpY.move rfl (er rfl))) ?_
       refine DrH.de (fun _ _ => GOp.op (OpY.ixRowD (r := (rInt .i64)) (b := b18) (o := 0) (n := n18) (m := (List.length swap10)) (xs := x15) (q := (0 + n18 * (rInt .i64).sz)) Tryd.underlying78 ti3 (osv_some hb13) hl12 rfl q61 q63 rfl (er rfl))) ?_
       refine DrH.de (fun _ hE43 => GOp.op (OpY.ldElem1 Tryd.underlying3 rfl rfl (own_some hb13 ((hL35.ext hE43).at 5 rfl rfl)) q66 (er rfl))) ?_
       refine DrH.de (fun _ _ => GOp.op (OpY.ixRoD (r := (rSl rAEdge)) (v := d_v1) (n := n19) (m := (o11 + n19 * (rSl rAEdge).sz)) Tryd.underlying23 ti39 rfl q70 rfl q68 q69 rfl (er rfl))) ?_
       refine DrH.de (fun _ hE45 => GOp.op (OpY.ldRo1 Tryd.underlying39 rfl rfl vw_view (At.mono ((ke hL35 hE45) S) (At.mono (K33 S) f28)) (er rfl))) ?_
       refine DrH.de (fun _ hE46 => GOp.op (OpY.lenRo (v := v10) Tryd.underlying39 rfl ((k11.mono (K33 S)).mono ((ke hL35 hE46) S)) (er rfl))) ?_
       refine DrH.fin0 ?_
       rintro w48 Z36 hE47 hZ32 ⟨-⟩ ap11
       have hB11 : ∀ b, some b ∈ ([] : List (Option Nat)) → w37.heap.size ≤ b ∧ ¬ Z36 b := by
        intro b hb; cases hb
       have hL38 := hL35.ext hE47
       have K36 := ke hL35 hE47
       refine Rl.op (OpY.lss (x := k10) (y := (List.length x21 : Int)) ((k10 : Int) < (List.length x21 : Int)) rfl rfl Iff.rfl ?_)
       refine Rl.nil ?_
       refine Swp.cond_d ((k10 : Int) < (List.length x21 : Int)) rfl (fun hc21 => ?_) (fun hc21 => ?_)
       ·
        replace h := ite_t hc21 h
        refine Swp.skip (Swp.seq (Swp.block (Swp.seq ?_)))
        obtain ⟨x22, q73, h⟩ := bind_some h
        obtain ⟨n20, q74, q75⟩ := idx_some q73
        have q76 := (List.getElem?_eq_some_iff.1 q75).1
        have f29 := ((f26.mono (K33 None)).mono (K36 None))
        obtain ⟨vs14, q77, q78, q79⟩ := row_elem (pre := []) (sp := sp11) f29 q75
        obtain rfl := q78
        obtain ⟨x23, q80, h⟩ := bind_some h
        obtain ⟨n21, q81, q82⟩ := idx_some q80
        have f30 := ((f27.mono (K33 S)).mono (K36 S))
        obtain ⟨b20, o12, c12, vs15, q83, q84, f31, q85⟩ := Rs.get f30 q82
        obtain ⟨v11, rfl, k12⟩ := q85
        obtain ⟨x24, q86, h⟩ := bind_some h
        obtain ⟨n22, q87, q88⟩ := idx_some q86
        obtain ⟨b21, o13, c13, vs16, q89, q90, f32, q91⟩ := Rs.get k12 q88
        obtain ⟨rfl, -⟩ := rAEdge_open q91
        refine Swp.drawL 12 [] [] (fun W1 => [.det (Value.pointer (some ⟨b1, 1, none⟩)), .det d_v1, .det (osv ob11 0 (List.length swap10) cap11), .det (Value.int .i64 i11), .det (Value.pointer (some ⟨b18, (0 + n20 * (rInt .i64).sz), none⟩)), .det (Value.int .i64 x22), .det (Value.pointer (some ⟨b20, (o12 + n21 * (rSl rAEdge).sz), none⟩)), .det v11, .det (Value.int .i64 k10), .det (Value.pointer (some ⟨b21, (o13 + n22 * rAEdge.sz), none⟩)), .det (Value.agg #[(Value.int .u8 x24.Low), (Value.int .u8 x24.High), (Value.int .i64 x24.To)]), .rel (fun v Z w' => ∃ b22, (Value.pointer (some ⟨b22, 0, none⟩)) = v ∧ OwnC w' (some b22) (Cont.cells [(Value.int .u8 0), (Value.int .u8 0), (Value.int .i64 0)]) ∧ True) footV]) mixed rfl rfl rfl (fun _ => rfl) (fun _ => rfl) ?_ ?_
        ·
         intro W1 _
         exact ⟨fun v Z Z' w w' hΦ hz _ _ hs => by obtain ⟨b22, rfl, hO10, -⟩ := hΦ; exact ⟨b22, rfl, (hO10.stay (fun b hb => by cases hb; exact List.mem_cons_self) hs), trivial⟩, trivial⟩
        ·
         intro w49 hE48
         have hL39 := hL38.ext hE48
         have K37 := ke hL38 hE48
         refine DrH.de (fun _ _ => GOp.op (OpY.fieldAddr Tryd.underlying25 rfl ti23 rfl rfl rfl (er rfl))) ?_
         refine DrH.de (fun _ hE50 => GOp.op (OpY.ldBox1 Tryd.underlying23 rfl rfl ((hL39.ext hE50).at 0 rfl rfl) rfl (er rfl))) ?_
         refine DrH.de (fun _ _ => GOp.op (OpY.move rfl (er rfl))) ?_
         refine DrH.de (fun _ _ => GOp.op (OpY.move rfl (er rfl))) ?_
         refine DrH.de (fun _ _ => GOp.op (OpY.ixRowD (r := (rInt .i64)) (b := b18) (o := 0) (n := n20) (m := (List.length swap10)) (xs := x15) (q := (0 + n20 * (rInt .i64).sz)) Tryd.underlying78 ti3 (osv_some hb13) hl12 rfl q74 q76 rfl (er rfl))) ?_
         refine DrH.de (fun _ hE54 => GOp.op (OpY.ldElem1 Tryd.underlying3 rfl rfl (own_some hb13 ((hL39.ext hE54).at 5 rfl rfl)) q79 (er rfl))) ?_
         refine DrH.de (fun _ _ => GOp.op (OpY.ixRoD (r := (rSl rAEdge)) (v := d_v1) (n := n21) (m := (o12 + n21 * (rSl rAEdge).sz)) Tryd.underlying23 ti39 rfl q83 rfl q81 q82 rfl (er rfl))) ?_
         refine DrH.de (fun _ hE56 => GOp.op (OpY.ldRo1 Tryd.underlying39 rfl rfl vw_view (At.mono ((ke hL39 hE56) S) (At.mono (K37 S) f31)) (er rfl))) ?_
         refine DrH.de (fun _ _ => GOp.op (OpY.move rfl (er rfl))) ?_
         refine DrH.de (fun _ _ => GOp.op (OpY.ixRoD (r := rAEdge) (v := v11) (n := n22) (m := (o13 + n22 * rAEdge.sz)) Tryd.underlying39 ti63 rfl q89 rfl q87 q88 rfl (er rfl))) ?_
         refine DrH.de (fun _ hE59 => GOp.op (OpY.ldRoA (vs := [(Value.int .u8 x24.Low), (Value.int .u8 x24.High), (Value.int .i64 x24.To)]) Tryd.underlying63 rfl ti63 rfl rfl vw_view (At.mono ((ke hL39 hE59) S) (At.mono (K37 S) f32)) (er rfl))) ?_
         refine DrH.rel ?_ ?_
         ·
          rintro w61 Z48 hE60 hZ44 ⟨-⟩
          refine GOp.op (OpY.alloc (cs := [(Value.int .u8 0), (Value.int .u8 0), (Value.int .i64 0)]) ti63 rfl (Go.X.Loc.begin0 w61) ?_)
          intro b22 w62 hL42 hS21
          have hN10 : NewOwn w61 w62 [some b22] [Cont.cells [(Value.int .u8 0), (Value.int .u8 0), (Value.int .i64 0)]] := hL42.newOwn [0] rfl rfl rfl
          exact Made.ext hL42.done hZ44 hN10 (fun _ h => h) ⟨b22, rfl, hN10.2.2.1, trivial⟩
         intro z10
         refine DrH.fin0 ?_
         rintro w63 Z49 hE61 hZ45 ⟨⟨⟨b22, rfl, hO10, -⟩, hB12⟩, -⟩ ap12
         have hB13 : ∀ b, some b ∈ ([some b22] : List (Option Nat)) → w49.heap.size ≤ b ∧ ¬ Z49 b := by
          intro b hb
          rcases List.mem_cons.1 hb with hb' | hb
          ·
           have := hB12 b (by rw [hb']; exact List.mem_cons_self); exact ⟨this.1, this.2.2⟩
          cases hb
         have hN11 : NewOwn w49 w63 [some b22] [Cont.cells [(Value.int .u8 0), (Value.int .u8 0), (Value.int .i64 0)]] := (NewOwn.cons NewOwn.nil hO10 (fun b hb => (hB13 b (by rw [← hb]; simp)).1) (fun b _ hb => by cases hb))
         have hp16 := hL39.adoptL hE61 hN11
         have hL43 := hp16.1
         have K40 := ks w hp16.2
         refine Rl.op0 (OpY.store (vs := [(Value.int .u8 x24.Low), (Value.int .u8 x24.High), (Value.int .i64 x24.To)]) ti63 rfl rfl rfl rfl (ones_cons rfl (ones_cons rfl (ones_cons rfl ones_nil))) hL43 0 rfl rfl (Nat.le_of_ble_eq_true rfl) ?_)
         intro w64 (hL44 : Go.X.Loc [] [] w w64 [some b22, some b1, some b6, some b11, ob10, ob15, ob11, ob17] [Cont.cells [(Value.int .u8 x24.Low), (Value.int .u8 x24.High), (Value.int .i64 x24.To)], Cont.cells [d_v, d_v1], Cont.cells [(Value.slice none 0 0), (Value.slice none 0 0)], Cont.cells [(osv ob10 0 (List.length x10) cap10), (osv ob15 0 (List.length edges11) cap15)], Cont.cells ([] ++ (cs20 ++ sp10)), Cont.cells ([] ++ (cs19 ++ sp15)), Cont.cells ([] ++ (cs15 ++ sp11)), Cont.cells ([] ++ (cs22 ++ sp17))]) hS22
         have K41 := ks w hS22
         refine Rl.nil ?_
         obtain ⟨x25, q92, h⟩ := bind_some h
         obtain ⟨n23, q93, q94⟩ := idx_some q92
         have q95 := (List.getElem?_eq_some_iff.1 q94).1
         have f33 := (((f29.mono (K37 None)).mono (K40 None)).mono (K41 None))
         obtain ⟨vs17, q96, q97, q98⟩ := row_elem (pre := []) (sp := sp11) f33 q94
         obtain rfl := q97
         refine Swp.drawL 12 [] [] (fun W1 => [.det (osv ob17 0 (List.length l11) cap17), .det (Value.pointer (some ⟨b22, 0, none⟩)), .det (Value.int .u8 x24.Low), .det (Value.pointer (some ⟨b22, 1, none⟩)), .det (Value.int .u8 x24.High), .det (osv ob11 0 (List.length swap10) cap11), .det (Value.pointer (some ⟨b22, 2, none⟩)), .det (Value.int .i64 x24.To), .det (Value.pointer (some ⟨b18, (0 + n23 * (rInt .i64).sz), none⟩)), .det (Value.int .i64 x25), .det (Value.agg #[(Value.int .u8 x24.Low), (Value.int .u8 x24.High), (Value.int .i64 x25)]), .rel (fun v Z w' => ∃ b23 cs23, (osv (some b23) 0 1 1) = v ∧ OwnC w' (some b23) (Cont.cells ([] ++ (cs23 ++ []))) ∧ Els rAEdge (Zv W1 w.heap.size None [some b22, some b1, some b6, some b11, ob10, ob15, ob11, ob17] Z w') cs23 [(AEdge.mk x24.Low x24.High x25)] ∧ (cs23 ++ [] : List Value).length = 1 * rAEdge.sz ∧ True) footV]) mixed rfl rfl rfl (fun _ => rfl) (fun _ => rfl) ?_ ?_
         ·
          intro W1 _
          exact ⟨fun v Z Z' w w' hΦ hz _ _ hs => by obtain ⟨b23, cs23, rfl, hO11, hE62, hc22, -⟩ := hΦ; exact ⟨b23, cs23, rfl, (hO11.stay (fun b hb => by cases hb; exact List.mem_cons_self) hs), (hE62.mono (Zv.stay hz hs)), hc22, trivial⟩, trivial⟩
         ·
          intro w65 hE63
          have hL45 := hL44.ext hE63
          have K42 := ke hL44 hE63
          refine DrH.de (fun _ _ => GOp.op (OpY.move rfl (er rfl))) ?_
          refine DrH.de (fun _ _ => GOp.op (OpY.fieldAddr Tryd.underlying63 rfl ti5 rfl rfl rfl (er rfl))) ?_
          refine DrH.de (fun _ hE66 => GOp.op (OpY.ldBox1 Tryd.underlying5 rfl rfl ((hL45.ext hE66).at 0 rfl rfl) rfl (er rfl))) ?_
          refine DrH.de (fun _ _ => GOp.op (OpY.fieldAddr Tryd.underlying63 rfl ti5 rfl rfl rfl (er rfl))) ?_
          refine DrH.de (fun _ hE68 => GOp.op (OpY.ldBox1 Tryd.underlying5 rfl rfl ((hL45.ext hE68).at 0 rfl rfl) rfl (er rfl))) ?_
          refine DrH.de (fun _ _ => GOp.op (OpY.move rfl (er rfl))) ?_
          refine DrH.de (fun _ _ => GOp.op (OpY.fieldAddr Tryd.underlying63 rfl ti3 rfl rfl rfl (er rfl))) ?_
          refine DrH.de (fun _ hE71 => GOp.op (OpY.ldBox1 Tryd.underlying3 rfl rfl ((hL45.ext hE71).at 0 rfl rfl) rfl (er rfl))) ?_
          refine DrH.de (fun _ _ => GOp.op (OpY.ixRowD (r := (rInt .i64)) (b := b18) (o := 0) (n := n23) (m := (List.length swap10)) (xs := x15) (q := (0 + n23 * (rInt .i64).sz)) Tryd.underlying78 ti3 (osv_some hb13) hl12 rfl q93 q95 rfl (er rfl))) ?_
          refine DrH.de (fun _ hE73 => GOp.op (OpY.ldElem1 Tryd.underlying3 rfl rfl (own_some hb13 ((hL45.ext hE73).at 6 rfl rfl)) q98 (er rfl))) ?_
          refine DrH.de (fun _ _ => GOp.op (OpY.build (zc := [(Value.int .u8 0), (Value.int .u8 0), (Value.int .i64 0)]) (cs := [(Value.int .u8 x24.Low), (Value.int .u8 x24.High), (Value.int .i64 x25)]) (is := [0, 1, 2]) (vs := [(Value.int .u8 x24.Low), (Value.int .u8 x24.High), (Value.int .i64 x25)]) (css := [[(Value.int .u8 x24.Low)], [(Value.int .u8 x24.High)], [(Value.int .i64 x25)]]) pl63 ti63 rfl rfl rfl ⟨rfl, rfl, rfl, trivial⟩ rfl (er rfl))) ?_
          refine DrH.rel ?_ ?_
          ·
           rintro w77 Z61 hE75 hZ57 ⟨-⟩
           have hE76 : Els rAEdge (Zv w65 w.heap.size None [some b22, some b1, some b6, some b11, ob10, ob15, ob11, ob17] Z61 w77) [(Value.int .u8 x24.Low), (Value.int .u8 x24.High), (Value.int .i64 x25)] [(AEdge.mk x24.Low x24.High x25)] := (Els.cons (a := [(Value.int .u8 x24.Low), (Value.int .u8 x24.High), (Value.int .i64 x25)]) (rAEdge_close ⟨rfl, trivial⟩) Els.nil)
           refine GOp.op (OpY.litRow (r := rAEdge) (vs := [(Value.agg #[(Value.int .u8 x24.Low), (Value.int .u8 x24.High), (Value.int .i64 x25)])]) (css := [[(Value.int .u8 x24.Low), (Value.int .u8 x24.High), (Value.int .i64 x25)]]) (xs := [(AEdge.mk x24.Low x24.High x25)]) Tryd.underlying39 ti63 (Nat.le_of_ble_eq_true rfl) rfl rfl ⟨rfl, rfl, trivial⟩ (Nat.le_of_ble_eq_true rfl) hE76 rfl (Go.X.Loc.begin0 w77) ?_)
           intro b23 w78 hc23 hL50 hS23
           have hN12 : NewOwn w77 w78 [some b23] [Cont.cells ([] ++ ([(Value.int .u8 x24.Low), (Value.int .u8 x24.High), (Value.int .i64 x25)] ++ []))] := hL50.newOwn [0] rfl rfl rfl
           exact Made.ext hL50.done hZ57 hN12 (fun _ h => h) ⟨b23, [(Value.int .u8 x24.Low), (Value.int .u8 x24.High), (Value.int .i64 x25)], rfl, hN12.2.2.1, (hE76.mono (Zv.grow hL50.done)), hc23, trivial⟩
          intro z10
          refine DrH.fin0 ?_
          rintro w79 Z62 hE77 hZ58 ⟨⟨⟨b23, cs23, rfl, hO11, hE62, hc22, -⟩, hB12⟩, -⟩ ap13
          have hB14 : ∀ b, some b ∈ ([some b23] : List (Option Nat)) → w65.heap.size ≤ b ∧ ¬ Z62 b := by
           intro b hb
           rcases List.mem_cons.1 hb with hb' | hb
           ·
            have := hB12 b (by rw [hb']; exact List.mem_cons_self); exact ⟨this.1, this.2.2⟩
           cases hb
          replace hE62 := hE62.mono (Zv.fin hL45 hZ58 hB14)
          have hN13 : NewOwn w65 w79 [some b23] [Cont.cells ([] ++ (cs23 ++ []))] := (NewOwn.cons NewOwn.nil hO11 (fun b hb => (hB14 b (by rw [← hb]; simp)).1) (fun b _ hb => by cases hb))
          have hp17 := hL45.adoptL hE77 hN13
          have hL51 := hp17.1
          have K43 := ks w hp17.2
          obtain ⟨x26, q99, h⟩ := bind_some h
          obtain ⟨q100, q101, q102⟩ := apnd_some q99
          have f34 := (((((((hE35.mono (K33 None)).mono (K36 None)).mono (K37 None)).mono (K40 None)).mono (K41 None)).mono (K42 None)).mono (K43 None))
          refine Rl.op (OpY.apRowX (r := rAEdge) (H := (Hv w.heap.size None [some b23, some b22, some b1, some b6, some b11, ob10, ob15, ob11, ob17] w79)) (cs := cs22) (sp := sp17) (xs := l11) (ys := [(AEdge.mk x24.Low x24.High x25)]) (Y := x26) (n := (List.length l11)) (cap := cap17) (i := 8) Tryd.underlying39 ti63 rfl rfl rfl rfl hL51 rfl rfl f34 rfl hc20 (Src.row (pre := []) (o := 0) (n := 1) (cap := 1) (hL51.at 0 rfl rfl) hE62 rfl rfl rfl) (Els.anyH (fun _ _ _ _ h => h) hE62) q100 q101 q102 ?_)
          intro ob18 cap18 sp18 cs24 w80 hE78 hc24 (hL52 : Go.X.Loc [] [] w w80 [some b23, some b22, some b1, some b6, some b11, ob10, ob15, ob11, ob18] [Cont.cells ([] ++ (cs23 ++ [])), Cont.cells [(Value.int .u8 x24.Low), (Value.int .u8 x24.High), (Value.int .i64 x24.To)], Cont.cells [d_v, d_v1], Cont.cells [(Value.slice none 0 0), (Value.slice none 0 0)], Cont.cells [(osv ob10 0 (List.length x10) cap10), (osv ob15 0 (List.length edges11) cap15)], Cont.cells ([] ++ (cs20 ++ sp10)), Cont.cells ([] ++ (cs19 ++ sp15)), Cont.cells ([] ++ (cs15 ++ sp11)), Cont.cells ([] ++ (cs24 ++ sp18))]) hS24
          have K44 := ks w hS24
          refine Rl.op (OpY.assign (v := (osv ob18 0 (List.length x26) cap18)) rfl ?_)
          refine Rl.nil (Swp.pop_blk (Swp.region rfl (Rl.op (OpY.move (v := (Value.int .i64 k10)) rfl ?_))))
          refine Rl.op (OpY.add (x := k10) (y := 1) (z := (iw (k10 + 1))) rfl rfl rfl ?_)
          refine Rl.op (OpY.assign (v := (Value.int .i64 (iw (k10 + 1)))) rfl ?_)
          refine Rl.nil ?_
          have hp18 := hL52.pick [2, 3, 4, 5, 6, 7, 8] rfl rfl rfl
          have hL53 : Go.X.Loc [] [] w w80 [some b1, some b6, some b11, ob10, ob15, ob11, ob18] [Cont.cells [d_v, d_v1], Cont.cells [(Value.slice none 0 0), (Value.slice none 0 0)], Cont.cells [(osv ob10 0 (List.length x10) cap10), (osv ob15 0 (List.length edges11) cap15)], Cont.cells ([] ++ (cs20 ++ sp10)), Cont.cells ([] ++ (cs19 ++ sp15)), Cont.cells ([] ++ (cs15 ++ sp11)), Cont.cells ([] ++ (cs24 ++ sp18))] := hp18.1
          have K45 := ks w hp18.2
          have f35 := ((hE78.mono (K44 None)).mono (K45 None))
          obtain rfl := Option.some.inj h
          refine Swp.pop_back ⟨(x26, (iw (k10 + 1))), rfl, ?_⟩
          exact ⟨ob18, cap18, sp18, cs24, (List.length x26), _, (upds_sym ⟨rfl, rfl, rfl, rfl, rfl, rfl, rfl, trivial⟩), hL53, (Keep.trans (Keep.trans (Keep.trans (Keep.trans (Keep.trans (Keep.trans (Keep.trans (Keep.trans (Keep.trans K32 K33) K36) K37) K40) K41) K42) K43) K44) K45), f35, rfl, hc24, trivial⟩
       ·
        replace h := ite_f hc21 h
        refine Swp.exit rfl ?_
        have f36 := ((hE35.mono (K33 None)).mono (K36 None))
        obtain rfl := Option.some.inj h
        obtain rfl := hd12 _ rfl
        replace h := g12
        try dsimp only at h
        skip
        refine Swp.pop_back ?_
        exact ⟨l11, ob17, cap17, sp17, cs22, (List.length l11), _, rfl, (upds_sym ⟨rfl, rfl, rfl, rfl, rfl, rfl, trivial⟩), hL38, (Keep.trans (Keep.trans K32 K33) K36), f36, rfl, hc20, trivial⟩
     ·
      rintro _ w81 ⟨l10, ob16, cap16, sp16, cs21, ln14, u, rfl, rfl, hL54, K46, hE79, rfl, hc25, -⟩
      replace h := g12
      try dsimp only at h
      refine Swp.region rfl (Rl.op (OpY.fieldAddr (q := 1) Tryd.underlying25 rfl ti23 rfl rfl rfl ?_))
      refine Rl.op (OpY.ldBox1 (v := (osv ob15 0 (List.length edges11) cap15)) Tryd.underlying23 rfl rfl (hL54.at 2 rfl rfl) rfl ?_)
      refine Rl.op (OpY.move (v := (osv ob16 0 (List.length l10) cap16)) rfl ?_)
      have f37 := hL54.freezeRow 6 rfl rfl hE79 rfl rfl rfl hc25
      have hp19 := hL54.pick [0, 1, 2, 3, 4, 5] rfl rfl rfl
      have hL55 : Go.X.Loc [] [] w w81 [some b1, some b6, some b11, ob10, ob15, ob11] [Cont.cells [d_v, d_v1], Cont.cells [(Value.slice none 0 0), (Value.slice none 0 0)], Cont.cells [(osv ob10 0 (List.length x10) cap10), (osv ob15 0 (List.length edges11) cap15)], Cont.cells ([] ++ (cs20 ++ sp10)), Cont.cells ([] ++ (cs19 ++ sp15)), Cont.cells ([] ++ (cs15 ++ sp11))] := hp19.1
      have K47 := ks w hp19.2
      have hE80 : Els (rSl rAEdge) (Hv w.heap.size None [some b1, some b6, some b11, ob10, ob15, ob11] w81) [(osv ob16 0 (List.length l10) cap16)] [l10] := (Els.cons (a := [(osv ob16 0 (List.length l10) cap16)]) ⟨_, rfl, f37⟩ Els.nil)
      refine Rl.op (OpY.litRow (r := (rSl rAEdge)) (vs := [(osv ob16 0 (List.length l10) cap16)]) (css := [[(osv ob16 0 (List.length l10) cap16)]]) (xs := [l10]) Tryd.underlying23 ti39 (Nat.le_of_ble_eq_true rfl) rfl rfl ⟨(one_cells f37.one), rfl, trivial⟩ (Nat.le_of_ble_eq_true rfl) hE80 rfl hL55 ?_)
      intro b24 w82 hc26 hL56 hS25
      have K48 := ks w hS25
      obtain ⟨x27, q103, h⟩ := bind_some h
      obtain ⟨q104, q105, q106⟩ := apnd_some q103
      have f38 := (hE80.mono (K48 None))
      have f39 := ((((((hE20.mono (K26 None)).mono (K28 None)).mono (K29 None)).mono (K46 None)).mono (K47 None)).mono (K48 None))
      refine Rl.op (OpY.apRowX (r := (rSl rAEdge)) (H := (Hv w.heap.size None [some b24, some b1, some b6, some b11, ob10, ob15, ob11] w82)) (cs := cs19) (sp := sp15) (xs := edges11) (ys := [l10]) (Y := x27) (n := (List.length edges11)) (cap := cap15) (i := 5) Tryd.underlying23 ti39 rfl rfl rfl rfl hL56 rfl rfl f39 rfl hc17 (Src.row (pre := []) (o := 0) (n := 1) (cap := 1) (hL56.at 0 rfl rfl) f38 rfl rfl rfl) f38 q104 q105 q106 ?_)
      intro ob19 cap19 sp19 cs25 w83 hE81 hc27 (hL57 : Go.X.Loc [] [] w w83 [some b24, some b1, some b6, some b11, ob10, ob19, ob11] [Cont.cells ([] ++ ([(osv ob16 0 (List.length l10) cap16)] ++ [])), Cont.cells [d_v, d_v1], Cont.cells [(Value.slice none 0 0), (Value.slice none 0 0)], Cont.cells [(osv ob10 0 (List.length x10) cap10), (osv ob15 0 (List.length edges11) cap15)], Cont.cells ([] ++ (cs20 ++ sp10)), Cont.cells ([] ++ (cs25 ++ sp19)), Cont.cells ([] ++ (cs15 ++ sp11))]) hS26
      have K49 := ks w hS26
      refine Rl.op (OpY.fieldAddr (q := 1) Tryd.underlying25 rfl ti23 rfl rfl rfl ?_)
      refine Rl.op0 (OpY.store (vs := [(osv ob19 0 (List.length x27) cap19)]) ti23 rfl rfl (one_cells (osv_one ob19 0 (List.length x27) cap19)) rfl (ones_cons (osv_one ob19 0 (List.length x27) cap19) ones_nil) hL57 3 rfl rfl (Nat.le_of_ble_eq_true rfl) ?_)
      intro w84 (hL58 : Go.X.Loc [] [] w w84 [some b24, some b1, some b6, some b11, ob10, ob19, ob11] [Cont.cells ([] ++ ([(osv ob16 0 (List.length l10) cap16)] ++ [])), Cont.cells [d_v, d_v1], Cont.cells [(Value.slice none 0 0), (Value.slice none 0 0)], Cont.cells [(osv ob10 0 (List.length x10) cap10), (osv ob19 0 (List.length x27) cap19)], Cont.cells ([] ++ (cs20 ++ sp10)), Cont.cells ([] ++ (cs25 ++ sp19)), Cont.cells ([] ++ (cs15 ++ sp11))]) hS27
      have K50 := ks w hS27
      refine Rl.nil (Swp.pop_blk (Swp.region rfl (Rl.op (OpY.move (v := (Value.int .i64 i11)) rfl ?_))))
      refine Rl.op (OpY.add (x := i11) (y := 1) (z := (iw (i11 + 1))) rfl rfl rfl ?_)
      refine Rl.op (OpY.assign (v := (Value.int .i64 (iw (i11 + 1)))) rfl ?_)
      refine Rl.nil ?_
      have hp20 := hL58.pick [1, 2, 3, 4, 5, 6] rfl rfl rfl
      have hL59 : Go.X.Loc [] [] w w84 [some b1, some b6, some b11, ob10, ob19, ob11] [Cont.cells [d_v, d_v1], Cont.cells [(Value.slice none 0 0), (Value.slice none 0 0)], Cont.cells [(osv ob10 0 (List.length x10) cap10), (osv ob19 0 (List.length x27) cap19)], Cont.cells ([] ++ (cs20 ++ sp10)), Cont.cells ([] ++ (cs25 ++ sp19)), Cont.cells ([] ++ (cs15 ++ sp11))] := hp20.1
      have K51 := ks w hp20.2
      have f40 := (((((((hE34.mono (K29 None)).mono (K46 None)).mono (K47 None)).mono (K48 None)).mono (K49 None)).mono (K50 None)).mono (K51 None))
      have f41 := (((hE81.mono (K49 None)).mono (K50 None)).mono (K51 None))
      obtain rfl := Option.some.inj h
      refine Swp.pop_back ⟨(x19, x27, (iw (i11 + 1))), rfl, ?_⟩
      exact ⟨cs20, ob19, cap19, sp19, cs25, (List.length x27), _, (upds_sym ⟨rfl, rfl, rfl, rfl, rfl, trivial⟩), hL59, (Keep.trans (Keep.trans (Keep.trans (Keep.trans (Keep.trans (Keep.trans (Keep.trans (Keep.trans (Keep.trans K25 K26) K28) K29) K46) K47) K48) K49) K50) K51), f40, hl15, hc19, f41, rfl, hc27, trivial⟩
   ·
    replace h := ite_f hc18 h
    refine Swp.exit rfl ?_
    have hp21 := hL25.pick [1, 2, 3, 4] rfl rfl rfl
    have hL60 : Go.X.Loc [] [] w w21 [some b6, some b11, ob10, ob15] [Cont.cells [(Value.slice none 0 0), (Value.slice none 0 0)], Cont.cells [(osv ob10 0 (List.length x10) cap10), (osv ob15 0 (List.length edges11) cap15)], Cont.cells ([] ++ (cs18 ++ sp10)), Cont.cells ([] ++ (cs19 ++ sp15))] := hp21.1
    have K52 := ks w hp21.2
    have f42 := (hE19.mono (K52 None))
    have f43 := (hE20.mono (K52 None))
    obtain rfl := Option.some.inj h
    obtain rfl := hd11 _ rfl
    replace h := g11
    try dsimp only at h
    skip
    refine Swp.pop_back ?_
    exact ⟨accept11, edges11, cs18, ob15, cap15, sp15, cs19, (List.length edges11), _, rfl, (upds_sym ⟨rfl, rfl, trivial⟩), hL60, (Keep.trans K25 K52), f42, hl14, hc16, f43, rfl, hc17, trivial⟩
  ·
   rintro _ w85 ⟨accept10, edges10, cs16, ob14, cap14, sp14, cs17, ln12, u, rfl, rfl, hL61, K53, hE82, hl17, hc28, hE83, rfl, hc29, -⟩
   replace h := g11
   try dsimp only at h
   refine Swp.seq (Swp.region rfl (Rl.op (OpY.ldBoxA (vs := [(osv ob10 0 (List.length x10) cap10), (osv ob14 0 (List.length edges10) cap14)]) Tryd.underlying25 rfl ti25 rfl (hL61.at 1 rfl rfl) rfl rfl ?_)))
   refine Rl.op0 (OpY.store (vs := [(osv ob10 0 (List.length x10) cap10), (osv ob14 0 (List.length edges10) cap14)]) ti25 rfl rfl rfl rfl (ones_cons (osv_one _ _ _ _) (ones_cons (osv_one _ _ _ _) ones_nil)) hL61 0 rfl rfl (Nat.le_of_ble_eq_true rfl) ?_)
   intro w86 (hL62 : Go.X.Loc [] [] w w86 [some b6, some b11, ob10, ob14] [Cont.cells [(osv ob10 0 (List.length x10) cap10), (osv ob14 0 (List.length edges10) cap14)], Cont.cells [(osv ob10 0 (List.length x10) cap10), (osv ob14 0 (List.length edges10) cap14)], Cont.cells ([] ++ (cs16 ++ sp10)), Cont.cells ([] ++ (cs17 ++ sp14))]) hS28
   have K54 := ks w hS28
   refine Rl.nil ?_
   have f44 := (hE82.mono (K54 None))
   have f45 := hL62.freezeRow 2 rfl rfl f44 rfl rfl hl17 hc28
   have hp22 := hL62.pick [0, 1, 3] rfl rfl rfl
   have hL63 : Go.X.Loc [] [] w w86 [some b6, some b11, ob14] [Cont.cells [(osv ob10 0 (List.length x10) cap10), (osv ob14 0 (List.length edges10) cap14)], Cont.cells [(osv ob10 0 (List.length x10) cap10), (osv ob14 0 (List.length edges10) cap14)], Cont.cells ([] ++ (cs17 ++ sp14))] := hp22.1
   have K55 := ks w hp22.2
   have f46 := ((hE83.mono (K54 None)).mono (K55 None))
   have f47 := hL63.freezeRow 2 rfl rfl f46 rfl rfl rfl hc29
   have hp23 := hL63.pick [0, 1] rfl rfl rfl
   have hL64 : Go.X.Loc [] [] w w86 [some b6, some b11] [Cont.cells [(osv ob10 0 (List.length x10) cap10), (osv ob14 0 (List.length edges10) cap14)], Cont.cells [(osv ob10 0 (List.length x10) cap10), (osv ob14 0 (List.length edges10) cap14)]] := hp23.1
   have K56 := ks w hp23.2
   refine Swp.ret ?_
   obtain rfl := Option.some.inj h
   refine ⟨[(Value.agg #[(osv ob10 0 (List.length x10) cap10), (osv ob14 0 (List.length edges10) cap14)])], ⟨⟨⟨b6, 0, none⟩, rfl, res_boxA Tryd.underlying25 rfl ti25 (hL64.at 0 rfl rfl) rfl⟩, trivial⟩, ⟨_, rfl, hL64.done, ?_⟩⟩
   have f48 := (f45.mono (K56 None))
   exact ⟨(osv ob10 0 (List.length x10) cap10), (osv ob14 0 (List.length edges10) cap14), rfl, (f48.mono Hv.out), (f47.mono Hv.out), trivial⟩
theorem rReached_w (N : Nat) (d : ADfa) (state : Int) (d_v : Value) (d_v1 : Value) (w : World) (S : Nat → Prop) (d_h : Rs rBool (Hv w.heap.size S [] w) d_v d.Accept) (d_h1 : Rs (rSl rAEdge) (Hv w.heap.size S [] w) d_v1 d.Edges) (r : Bool) (h : rReached N d state = some r) :
  Calls Tryd.prog 47 #[(Value.agg #[d_v, d_v1]), (Value.int .i64 state)] w (Ret w (fun v w' => (Value.bool r) = v ∧ True)) := by
 unfold rReached at h
 have hL : Go.X.Loc [] [] w w [] [] := Go.X.Loc.begin0 w
 refine calls_of (l := [(Value.agg #[d_v, d_v1]), (Value.int .i64 state)]) (rl := [.tmp 4]) (n := 27) Tryd.func47 rfl rfl rfl (Nat.le_of_ble_eq_true rfl) ?_
 refine Swp.seq (Swp.region rfl (Rl.op (OpY.box (cs := [d_v, d_v1]) rfl rfl hL ?_)))
 intro b1 w2 hL3 hS5
 have K4 := ks w hS5
 refine Rl.op (OpY.assign (v := (Value.bool false)) rfl ?_)
 refine Rl.nil (Swp.seq (Swp.seq (Swp.region rfl (Rl.op (OpY.assign (v := (Value.int .i64 0)) rfl ?_)))))
 refine Rl.nil ?_
 obtain ⟨s10, hl10, g10⟩ := bind_some h
 refine Swp.join (fun e w' => ∃  (u : Env), (Sum.inl ()) = s10 ∧ e = upds [] u ∧ Go.X.Loc [] [] w w' [] [] ∧ Keep w.heap.size [some b1] w2 [] w' ∧ True) ?_ ?_
 ·
  refine Swp.block ?_
  refine Swp.loopM hl10 (fun (ss : Int) (e : Env) (w' : World) => match ss with | n10 => ∃ (u : Env), e = upds [(1, (Value.int .i64 state)), (2, (Value.pointer (some ⟨b1, 0, none⟩))), (5, (Value.int .i64 n10))] u ∧ Go.X.Loc [] [] w w' [some b1] [Cont.cells [d_v, d_v1]] ∧ Keep w.heap.size [some b1] w2 [some b1] w' ∧ True) ⟨_, (upds_sym ⟨rfl, rfl, rfl, trivial⟩), hL3, Keep.refl, trivial⟩ ?_
  rintro n10 oo _ w10 ⟨u, rfl, hL10, K10, -⟩ h hd10
  rw [rReached_b1] at h
  refine Swp.seq (Swp.seq (Swp.region rfl (Rl.op (OpY.move (v := (Value.int .i64 n10)) rfl ?_))))
  refine Rl.op (OpY.fieldAddr (q := 0) Tryd.underlying25 rfl ti22 rfl rfl rfl ?_)
  refine Rl.op (OpY.ldBox1 (v := d_v) Tryd.underlying22 rfl rfl (hL10.at 0 rfl rfl) rfl ?_)
  have f10 := ((d_h.mono (K4 S)).mono (K10 S))
  refine Rl.op (OpY.lenRo (v := d_v) Tryd.underlying22 rfl f10 ?_)
  refine Rl.op (OpY.lss (x := n10) (y := (List.length d.Accept : Int)) ((n10 : Int) < (List.length d.Accept : Int)) rfl rfl Iff.rfl ?_)
  refine Rl.nil ?_
  refine Swp.cond_d ((n10 : Int) < (List.length d.Accept : Int)) rfl (fun hc10 => ?_) (fun hc10 => ?_)
  ·
   replace h := ite_t hc10 h
   refine Swp.skip (Swp.seq (Swp.block (Swp.seq (Swp.region rfl (Rl.op (OpY.ldBoxA (vs := [d_v, d_v1]) Tryd.underlying25 rfl ti25 rfl (hL10.at 0 rfl rfl) rfl rfl ?_))))))
   refine Rl.op (OpY.alloc (cs := [(Value.slice none 0 0), (Value.slice none 0 0)]) ti25 rfl hL10 ?_)
   intro b10 w11 hL11 hS10
   have K11 := ks w hS10
   have f11 := (((d_h1.mono (K4 S)).mono (K10 S)).mono (K11 S))
   have f12 := (f10.mono (K11 S))
   refine Rl.op0 (OpY.store (vs := [d_v, d_v1]) ti25 rfl rfl rfl rfl (ones_cons f12.one (ones_cons f11.one ones_nil)) hL11 0 rfl rfl (Nat.le_of_ble_eq_true rfl) ?_)
   intro w12 (hL12 : Go.X.Loc [] [] w w12 [some b10, some b1] [Cont.cells [d_v, d_v1], Cont.cells [d_v, d_v1]]) hS11
   have K12 := ks w hS11
   refine Rl.nil (Swp.seq (Swp.region rfl (Rl.op (OpY.fieldAddr (q := 0) Tryd.underlying25 rfl ti22 rfl rfl rfl ?_))))
   refine Rl.op (OpY.ldBox1 (v := d_v) Tryd.underlying22 rfl rfl (hL12.at 1 rfl rfl) rfl ?_)
   have f13 := (f12.mono (K12 S))
   refine Rl.op (OpY.lenRo (v := d_v) Tryd.underlying22 rfl f13 ?_)
   obtain ⟨x10, q10, h⟩ := bind_some h
   obtain ⟨m10, q11, q12, q13, q14⟩ := mk1_some q10
   refine Rl.op (OpY.mkRowX (r := rBool) (H := (Hv w.heap.size None [some b10, some b1] w12)) (zc := [(Value.bool false)]) (x := false) Tryd.underlying22 ti4 rfl rfl rfl rfl q11 q12 q13 q14 hL12 ?_)
   intro b11 w13 cs10 hE10 hc11 hL13 hS12
   have K13 := ks w hS12
   refine Rl.op (OpY.fieldAddr (q := 0) Tryd.underlying25 rfl ti22 rfl rfl rfl ?_)
   refine Rl.op0 (OpY.store (vs := [(osv (some b11) 0 (List.length x10) m10)]) ti22 rfl rfl (one_cells (osv_one (some b11) 0 (List.length x10) m10)) rfl (ones_cons (osv_one (some b11) 0 (List.length x10) m10) ones_nil) hL13 1 rfl rfl (Nat.le_of_ble_eq_true rfl) ?_)
   intro w14 (hL14 : Go.X.Loc [] [] w w14 [some b11, some b10, some b1] [Cont.cells ([] ++ (cs10 ++ [])), Cont.cells [(osv (some b11) 0 (List.length x10) m10), d_v1], Cont.cells [d_v, d_v1]]) hS13
   have K14 := ks w hS13
   refine Rl.nil (Swp.seq (Swp.region rfl (Rl.op (OpY.fieldAddr (q := 0) Tryd.underlying25 rfl ti22 rfl rfl rfl ?_))))
   refine Rl.op (OpY.ldBox1 (v := (osv (some b11) 0 (List.length x10) m10)) Tryd.underlying22 rfl rfl (hL14.at 1 rfl rfl) rfl ?_)
   refine Rl.op (OpY.move (v := (Value.int .i64 state)) rfl ?_)
   obtain ⟨x11, q15, h⟩ := bind_some h
   obtain ⟨n11, q16, q17⟩ := idx_some q15
   have q18 := (List.getElem?_eq_some_iff.1 q17).1
   refine Rl.op (OpY.ixRowD (r := rBool) (b := b11) (o := 0) (n := n11) (m := (List.length x10)) (xs := x10) (q := (0 + n11 * rBool.sz)) Tryd.underlying22 ti4 rfl rfl rfl q16 q18 rfl ?_)
   obtain ⟨x12, q19, h⟩ := bind_some h
   obtain ⟨n12, q20, q21, q22⟩ := upd1_some q19
   obtain rfl := Int.ofNat_inj.1 (q16.symm.trans q20)
   have f14 := ((hE10.mono (K13 None)).mono (K14 None))
   refine Rl.op0 (OpY.stRowX (pre := []) (r := rBool) (vs := [(Value.bool true)]) (a := true) ti4 rfl rfl rfl rfl hL14 0 rfl rfl f14 q18 rfl q22 ?_)
   have hl11 : (List.length x10) = List.length x12 := by rw [q22, List.length_set]
   intro w15 cs11 (hL15 : Go.X.Loc [] [] w w15 [some b11, some b10, some b1] [Cont.cells ([] ++ (cs11 ++ [])), Cont.cells [(osv (some b11) 0 (List.length x10) m10), d_v1], Cont.cells [d_v, d_v1]]) hS14 hE11 q23
   have hc12 : (cs11 ++ []).length = m10 * rBool.sz := by have := hc11; rw [List.length_append] at this ⊢; rw [q23]; exact this
   have K15 := ks w hS14
   refine Rl.nil (Swp.seq (Swp.region rfl (Rl.op (OpY.ldBoxA (vs := [(osv (some b11) 0 (List.length x10) m10), d_v1]) Tryd.underlying25 rfl ti25 rfl (hL15.at 1 rfl rfl) rfl rfl ?_))))
   refine Rl.op (OpY.move (v := (Value.int .i64 n10)) rfl ?_)
   obtain ⟨r10, q24, h⟩ := bind_some h
   have f15 := (hE11.mono (K15 None))
   have f16 := ((((f11.mono (K12 S)).mono (K13 S)).mono (K14 S)).mono (K15 S))
   refine Rl.op (OpY.call en34 rfl rfl (rCan_w N (ADfa.mk x12 d.Edges) 0 n10 (osv (some b11) 0 (List.length x10) m10) d_v1 _ Any (own_row_any (pre := []) (o := 0) (n := (List.length x10)) (cap := m10) (hL15.at 0 rfl rfl) f15 vw_any rfl rfl hl11 hc12) (f16.mono vw_any) r10 q24) ?_)
   rintro _ w16 hE12 ⟨rfl, -⟩
   have hL16 := hL15.ext hE12
   have K16 := ke hL15 hE12
   refine Rl.nil ?_
   refine Swp.cond_b r10 rfl (fun hc13 => ?_) (fun hc13 => ?_)
   ·
    replace h := ite_t hc13 h
    refine Swp.seq (Swp.region rfl (Rl.op (OpY.assign (v := (Value.bool true)) rfl ?_)))
    refine Rl.nil (Swp.ret ?_)
    obtain rfl := Option.some.inj h
    obtain rfl := hd10 _ rfl
    replace h := g10
    try dsimp only at h
    obtain rfl := Option.some.inj h
    refine ⟨[(Value.bool true)], ⟨rfl, trivial⟩, ⟨_, rfl, hL16.done, ?_⟩⟩
    exact ⟨rfl, trivial⟩
   ·
    replace h := ite_f hc13 h
    refine Swp.skip (Swp.pop_blk (Swp.region rfl (Rl.op (OpY.move (v := (Value.int .i64 n10)) rfl ?_))))
    refine Rl.op (OpY.add (x := n10) (y := 1) (z := (iw (n10 + 1))) rfl rfl rfl ?_)
    refine Rl.op (OpY.assign (v := (Value.int .i64 (iw (n10 + 1)))) rfl ?_)
    refine Rl.nil ?_
    have hp10 := hL16.pick [2] rfl rfl rfl
    have hL17 : Go.X.Loc [] [] w w16 [some b1] [Cont.cells [d_v, d_v1]] := hp10.1
    have K17 := ks w hp10.2
    obtain rfl := Option.some.inj h
    refine Swp.pop_back ⟨(iw (n10 + 1)), rfl, ?_⟩
    exact ⟨_, (upds_sym ⟨rfl, rfl, rfl, trivial⟩), hL17, (Keep.trans (Keep.trans (Keep.trans (Keep.trans (Keep.trans (Keep.trans (Keep.trans K10 K11) K12) K13) K14) K15) K16) K17), trivial⟩
  ·
   replace h := ite_f hc10 h
   refine Swp.exit rfl ?_
   have hp11 := hL10.pick [] rfl rfl rfl
   have hL18 : Go.X.Loc [] [] w w10 [] [] := hp11.1
   have K18 := ks w hp11.2
   obtain rfl := Option.some.inj h
   obtain rfl := hd10 _ rfl
   replace h := g10
   try dsimp only at h
   skip
   refine Swp.pop_back ?_
   exact ⟨_, rfl, (upds_sym trivial), hL18, (Keep.trans K10 K18), trivial⟩
 ·
  rintro _ w17 ⟨u, rfl, rfl, hL19, K19, -⟩
  replace h := g10
  try dsimp only at h
  refine Swp.seq (Swp.region rfl (Rl.op (OpY.assign (v := (Value.bool false)) rfl ?_)))
  refine Rl.nil (Swp.ret ?_)
  obtain rfl := Option.some.inj h
  refine ⟨[(Value.bool false)], ⟨rfl, trivial⟩, ⟨_, rfl, hL19.done, ?_⟩⟩
  exact ⟨rfl, trivial⟩
theorem rAlive_w (N : Nat) (d : ADfa) (state : Int) (d_v : Value) (d_v1 : Value) (w : World) (S : Nat → Prop) (d_h : Rs rBool (Hv w.heap.size S [] w) d_v d.Accept) (d_h1 : Rs (rSl rAEdge) (Hv w.heap.size S [] w) d_v1 d.Edges) (r : Bool) (h : rAlive N d state = some r) :
  Calls Tryd.prog 48 #[(Value.agg #[d_v, d_v1]), (Value.int .i64 state)] w (Ret w (fun v w' => (Value.bool r) = v ∧ True)) := by
 unfold rAlive at h
 have hL : Go.X.Loc [] [] w w [] [] := Go.X.Loc.begin0 w
 refine calls_of (l := [(Value.agg #[d_v, d_v1]), (Value.int .i64 state)]) (rl := [.tmp 4]) (n := 17) Tryd.func48 rfl rfl rfl (Nat.le_of_ble_eq_true rfl) ?_
 refine Swp.seq (Swp.region rfl (Rl.op (OpY.box (cs := [d_v, d_v1]) rfl rfl hL ?_)))
 intro b1 w2 hL3 hS5
 have K4 := ks w hS5
 refine Rl.op (OpY.assign (v := (Value.bool false)) rfl ?_)
 refine Rl.nil (Swp.seq (Swp.seq (Swp.region rfl (Rl.op (OpY.assign (v := (Value.int .i64 0)) rfl ?_)))))
 refine Rl.nil ?_
 obtain ⟨s10, hl10, g10⟩ := bind_some h
 refine Swp.join (fun e w' => ∃  (u : Env), (Sum.inl ()) = s10 ∧ e = upds [] u ∧ Go.X.Loc [] [] w w' [] [] ∧ Keep w.heap.size [some b1] w2 [] w' ∧ True) ?_ ?_
 ·
  refine Swp.block ?_
  refine Swp.loopM hl10 (fun (ss : Int) (e : Env) (w' : World) => match ss with | n10 => ∃ (u : Env), e = upds [(1, (Value.int .i64 state)), (2, (Value.pointer (some ⟨b1, 0, none⟩))), (5, (Value.int .i64 n10))] u ∧ Go.X.Loc [] [] w w' [some b1] [Cont.cells [d_v, d_v1]] ∧ Keep w.heap.size [some b1] w2 [some b1] w' ∧ True) ⟨_, (upds_sym ⟨rfl, rfl, rfl, trivial⟩), hL3, Keep.refl, trivial⟩ ?_
  rintro n10 oo _ w10 ⟨u, rfl, hL10, K10, -⟩ h hd10
  rw [rAlive_b1] at h
  refine Swp.seq (Swp.seq (Swp.region rfl (Rl.op (OpY.move (v := (Value.int .i64 n10)) rfl ?_))))
  refine Rl.op (OpY.fieldAddr (q := 0) Tryd.underlying25 rfl ti22 rfl rfl rfl ?_)
  refine Rl.op (OpY.ldBox1 (v := d_v) Tryd.underlying22 rfl rfl (hL10.at 0 rfl rfl) rfl ?_)
  have f10 := ((d_h.mono (K4 S)).mono (K10 S))
  refine Rl.op (OpY.lenRo (v := d_v) Tryd.underlying22 rfl f10 ?_)
  refine Rl.op (OpY.lss (x := n10) (y := (List.length d.Accept : Int)) ((n10 : Int) < (List.length d.Accept : Int)) rfl rfl Iff.rfl ?_)
  refine Rl.nil ?_
  refine Swp.cond_d ((n10 : Int) < (List.length d.Accept : Int)) rfl (fun hc10 => ?_) (fun hc10 => ?_)
  ·
   replace h := ite_t hc10 h
   refine Swp.skip (Swp.seq (Swp.block (Swp.seq (Swp.region rfl (Rl.op (OpY.ldBoxA (vs := [d_v, d_v1]) Tryd.underlying25 rfl ti25 rfl (hL10.at 0 rfl rfl) rfl rfl ?_))))))
   refine Rl.op (OpY.move (v := (Value.int .i64 state)) rfl ?_)
   refine Rl.op (OpY.move (v := (Value.int .i64 n10)) rfl ?_)
   obtain ⟨r10, q10, h⟩ := bind_some h
   have f11 := ((d_h1.mono (K4 S)).mono (K10 S))
   refine Rl.op (OpY.call en34 rfl rfl (rCan_w N d state n10 d_v d_v1 _ Any (f10.mono vw_any) (f11.mono vw_any) r10 q10) ?_)
   rintro _ w11 hE10 ⟨rfl, -⟩
   have hL11 := hL10.ext hE10
   have K11 := ke hL10 hE10
   refine Rl.nil ?_
   refine Swp.cond_b r10 rfl (fun hc11 => ?_) (fun hc11 => ?_)
   ·
    replace h := ite_t hc11 h
    refine Swp.seq (Swp.region rfl (Rl.op (OpY.assign (v := (Value.bool true)) rfl ?_)))
    refine Rl.nil (Swp.ret ?_)
    obtain rfl := Option.some.inj h
    obtain rfl := hd10 _ rfl
    replace h := g10
    try dsimp only at h
    obtain rfl := Option.some.inj h
    refine ⟨[(Value.bool true)], ⟨rfl, trivial⟩, ⟨_, rfl, hL11.done, ?_⟩⟩
    exact ⟨rfl, trivial⟩
   ·
    replace h := ite_f hc11 h
    refine Swp.skip (Swp.pop_blk (Swp.region rfl (Rl.op (OpY.move (v := (Value.int .i64 n10)) rfl ?_))))
    refine Rl.op (OpY.add (x := n10) (y := 1) (z := (iw (n10 + 1))) rfl rfl rfl ?_)
    refine Rl.op (OpY.assign (v := (Value.int .i64 (iw (n10 + 1)))) rfl ?_)
    refine Rl.nil ?_
    obtain rfl := Option.some.inj h
    refine Swp.pop_back ⟨(iw (n10 + 1)), rfl, ?_⟩
    exact ⟨_, (upds_sym ⟨rfl, rfl, rfl, trivial⟩), hL11, (Keep.trans K10 K11), trivial⟩
  ·
   replace h := ite_f hc10 h
   refine Swp.exit rfl ?_
   have hp10 := hL10.pick [] rfl rfl rfl
   have hL12 : Go.X.Loc [] [] w w10 [] [] := hp10.1
   have K12 := ks w hp10.2
   obtain rfl := Option.some.inj h
   obtain rfl := hd10 _ rfl
   replace h := g10
   try dsimp only at h
   skip
   refine Swp.pop_back ?_
   exact ⟨_, rfl, (upds_sym trivial), hL12, (Keep.trans K10 K12), trivial⟩
 ·
  rintro _ w12 ⟨u, rfl, rfl, hL13, K13, -⟩
  replace h := g10
  try dsimp only at h
  refine Swp.seq (Swp.region rfl (Rl.op (OpY.assign (v := (Value.bool false)) rfl ?_)))
  refine Rl.nil (Swp.ret ?_)
  obtain rfl := Option.some.inj h
  refine ⟨[(Value.bool false)], ⟨rfl, trivial⟩, ⟨_, rfl, hL13.done, ?_⟩⟩
  exact ⟨rfl, trivial⟩
theorem rLeast_w (N : Nat) (d : ADfa) (d_v : Value) (d_v1 : Value) (w : World) (S : Nat → Prop) (d_h : Rs rBool (Hv w.heap.size S [] w) d_v d.Accept) (d_h1 : Rs (rSl rAEdge) (Hv w.heap.size S [] w) d_v1 d.Edges) (r : Int) (h : rLeast N d = some r) :
  Calls Tryd.prog 23 #[(Value.agg #[d_v, d_v1])] w (Ret w (fun v w' => (Value.int .i64 r) = v ∧ True)) := by
 unfold rLeast at h
 have hL : Go.X.Loc [] [] w w [] [] := Go.X.Loc.begin0 w
 refine calls_of (l := [(Value.agg #[d_v, d_v1])]) (rl := [.tmp 2]) (n := 52) Tryd.func23 rfl rfl rfl (Nat.le_of_ble_eq_true rfl) ?_
 refine Swp.seq (Swp.region rfl (Rl.op (OpY.box (cs := [d_v, d_v1]) rfl rfl hL ?_)))
 intro b1 w2 hL3 hS5
 have K4 := ks w hS5
 refine Rl.op (OpY.assign (v := (Value.int .i64 0)) rfl ?_)
 refine Rl.nil (Swp.seq (Swp.region rfl (Rl.op (OpY.assign (v := (Value.slice none 0 0)) rfl ?_))))
 refine Rl.nil (Swp.seq (Swp.seq (Swp.region rfl (Rl.op (OpY.assign (v := (Value.int .i64 0)) rfl ?_)))))
 refine Rl.nil ?_
 obtain ⟨s10, hl10, g10⟩ := bind_some h
 refine Swp.join (fun e w' => ∃ (l10 : (List Int)) (ob10 : Option Nat) (cap10 : Nat) (sp10 : List Value) (cs10 : List Value) (ln10 : Nat) (u : Env), l10 = s10 ∧ e = upds [(3, (osv ob10 0 ln10 cap10))] u ∧ Go.X.Loc [] [] w w' [ob10] [Cont.cells ([] ++ (cs10 ++ sp10))] ∧ Keep w.heap.size [some b1] w2 [ob10] w' ∧ Els (rInt .i64) (Hv w.heap.size None [ob10] w') cs10 l10 ∧ ln10 = List.length l10 ∧ (cs10 ++ sp10).length = cap10 * (rInt .i64).sz ∧ True) ?_ ?_
 ·
  refine Swp.block ?_
  have hp10 := hL3.addNil
  have hL10 : Go.X.Loc [] [] w w2 [none, some b1] [Cont.cells ([] ++ ([] ++ [])), Cont.cells [d_v, d_v1]] := hp10.1
  have K10 := ks w hp10.2
  have hp11 := hL10.pick [1, 0] rfl rfl rfl
  have hL11 : Go.X.Loc [] [] w w2 [some b1, none] [Cont.cells [d_v, d_v1], Cont.cells ([] ++ ([] ++ []))] := hp11.1
  have K11 := ks w hp11.2
  have f10 := ((Els.nil (r := (rInt .i64))).mono (K11 None))
  refine Swp.loopM hl10 (fun (ss : ((List Int) × Int)) (e : Env) (w' : World) => match ss with | (l11, i10) => ∃ (ob11 : Option Nat) (cap11 : Nat) (sp11 : List Value) (cs11 : List Value) (ln11 : Nat) (u : Env), e = upds [(1, (Value.pointer (some ⟨b1, 0, none⟩))), (3, (osv ob11 0 ln11 cap11)), (4, (Value.int .i64 i10))] u ∧ Go.X.Loc [] [] w w' [some b1, ob11] [Cont.cells [d_v, d_v1], Cont.cells ([] ++ (cs11 ++ sp11))] ∧ Keep w.heap.size [some b1] w2 [some b1, ob11] w' ∧ Els (rInt .i64) (Hv w.heap.size None [some b1, ob11] w') cs11 l11 ∧ ln11 = List.length l11 ∧ (cs11 ++ sp11).length = cap11 * (rInt .i64).sz ∧ True) ⟨none, 0, [], [], (List.length ([] : (List Int))), _, (upds_sym ⟨rfl, rfl, rfl, trivial⟩), hL11, (Keep.trans K10 K11), f10, rfl, (show ([] ++ [] : List Value).length = 0 * (rInt .i64).sz by simp), trivial⟩ ?_
  rintro ⟨l11, i10⟩ oo _ w10 ⟨ob11, cap11, sp11, cs11, ln11, u, rfl, hL12, K12, hE10, rfl, hc10, -⟩ h hd10
  rw [rLeast_b1] at h
  refine Swp.seq (Swp.seq (Swp.region rfl (Rl.op (OpY.move (v := (Value.int .i64 i10)) rfl ?_))))
  refine Rl.op (OpY.fieldAddr (q := 0) Tryd.underlying25 rfl ti22 rfl rfl rfl ?_)
  refine Rl.op (OpY.ldBox1 (v := d_v) Tryd.underlying22 rfl rfl (hL12.at 0 rfl rfl) rfl ?_)
  have f11 := ((d_h.mono (K4 S)).mono (K12 S))
  refine Rl.op (OpY.lenRo (v := d_v) Tryd.underlying22 rfl f11 ?_)
  refine Rl.op (OpY.lss (x := i10) (y := (List.length d.Accept : Int)) ((i10 : Int) < (List.length d.Accept : Int)) rfl rfl Iff.rfl ?_)
  refine Rl.nil ?_
  refine Swp.cond_d ((i10 : Int) < (List.length d.Accept : Int)) rfl (fun hc11 => ?_) (fun hc11 => ?_)
  ·
   replace h := ite_t hc11 h
   refine Swp.skip (Swp.seq (Swp.block (Swp.seq (Swp.seq ?_))))
   obtain ⟨s11, h, g11⟩ := bind_some h
   refine Swp.join (fun e w' => ∃ (x10 : Bool) (u : Env), x10 = s11 ∧ e = upds [(1, (Value.pointer (some ⟨b1, 0, none⟩))), (3, (osv ob11 0 (List.length l11) cap11)), (4, (Value.int .i64 i10)), (23, (Value.bool x10))] u ∧ Go.X.Loc [] [] w w' [some b1, ob11] [Cont.cells [d_v, d_v1], Cont.cells ([] ++ (cs11 ++ sp11))] ∧ Keep w.heap.size [some b1, ob11] w10 [some b1, ob11] w' ∧ True) ?_ ?_
   ·
    refine Swp.region rfl (Rl.op (OpY.ldBoxA (vs := [d_v, d_v1]) Tryd.underlying25 rfl ti25 rfl (hL12.at 0 rfl rfl) rfl rfl ?_))
    refine Rl.op (OpY.move (v := (Value.int .i64 i10)) rfl ?_)
    obtain ⟨r10, q10, h⟩ := bind_some h
    have f12 := ((d_h1.mono (K4 S)).mono (K12 S))
    refine Rl.op (OpY.call en47 rfl rfl (rReached_w N d i10 d_v d_v1 _ Any (f11.mono vw_any) (f12.mono vw_any) r10 q10) ?_)
    rintro _ w11 hE11 ⟨rfl, -⟩
    have hL13 := hL12.ext hE11
    have K13 := ke hL12 hE11
    refine Rl.op (OpY.not (x := r10) rfl ?_)
    refine Rl.op (OpY.move (v := (Value.bool (!r10))) rfl ?_)
    by_cases hc12 : (!r10) = true
    ·
     replace h := ite_t hc12 h
     refine Rl.no rfl rfl hc12 ?_
     refine Rl.no rfl rfl hc12 ?_
     refine Rl.no rfl rfl hc12 ?_
     refine Rl.no rfl rfl hc12 ?_
     refine Rl.op (OpY.pick_t (t := (!r10)) (v := (Value.bool true)) rfl hc12 rfl ?_)
     refine Rl.nil ?_
     obtain rfl := Option.some.inj h
     refine Swp.pop_back ?_
     exact ⟨true, _, rfl, (upds_sym ⟨rfl, rfl, rfl, rfl, trivial⟩), hL13, K13, trivial⟩
    ·
     replace h := ite_f hc12 h
     refine Rl.yes rfl rfl (eq_false_of_ne_true hc12) (OpY.ldBoxA (vs := [d_v, d_v1]) Tryd.underlying25 rfl ti25 rfl (hL13.at 0 rfl rfl) rfl rfl ?_)
     refine Rl.yes rfl rfl (eq_false_of_ne_true hc12) (OpY.move (v := (Value.int .i64 i10)) rfl ?_)
     obtain ⟨r11, q11, h⟩ := bind_some h
     have f13 := (f11.mono (K13 S))
     have f14 := (f12.mono (K13 S))
     refine Rl.yes rfl rfl (eq_false_of_ne_true hc12) (OpY.call en48 rfl rfl (rAlive_w N d i10 d_v d_v1 _ Any (f13.mono vw_any) (f14.mono vw_any) r11 q11) ?_)
     rintro _ w12 hE12 ⟨rfl, -⟩
     have hL14 := hL13.ext hE12
     have K14 := ke hL13 hE12
     refine Rl.yes rfl rfl (eq_false_of_ne_true hc12) (OpY.not (x := r11) rfl ?_)
     refine Rl.op (OpY.pick_f (t := (!r10)) (v := (Value.bool (!r11))) rfl (eq_false_of_ne_true hc12) rfl ?_)
     refine Rl.nil ?_
     obtain rfl := Option.some.inj h
     refine Swp.pop_back ?_
     exact ⟨(!r11), _, rfl, (upds_sym ⟨rfl, rfl, rfl, rfl, trivial⟩), hL14, (Keep.trans K13 K14), trivial⟩
   ·
    rintro _ w13 ⟨x10, u, rfl, rfl, hL15, K15, -⟩
    replace h := g11
    try dsimp only at h
    refine Swp.cond_b x10 rfl (fun hc13 => ?_) (fun hc13 => ?_)
    ·
     replace h := ite_t hc13 h
     refine Swp.exit rfl (Swp.region rfl (Rl.op (OpY.move (v := (Value.int .i64 i10)) rfl ?_)))
     refine Rl.op (OpY.add (x := i10) (y := 1) (z := (iw (i10 + 1))) rfl rfl rfl ?_)
     refine Rl.op (OpY.assign (v := (Value.int .i64 (iw (i10 + 1)))) rfl ?_)
     refine Rl.nil ?_
     have f15 := (hE10.mono (K15 None))
     obtain rfl := Option.some.inj h
     refine Swp.pop_back ⟨(l11, (iw (i10 + 1))), rfl, ?_⟩
     exact ⟨ob11, cap11, sp11, cs11, (List.length l11), _, (upds_sym ⟨rfl, rfl, rfl, trivial⟩), hL15, (Keep.trans K12 K15), f15, rfl, hc10, trivial⟩
    ·
     replace h := ite_f hc13 h
     refine Swp.skip (Swp.seq (Swp.region rfl (Rl.op (OpY.assign (v := (Value.bool false)) rfl ?_))))
     refine Rl.nil (Swp.seq (Swp.seq (Swp.region rfl (Rl.op (OpY.assign (v := (Value.int .i64 0)) rfl ?_)))))
     refine Rl.nil ?_
     obtain ⟨s12, hl11, g12⟩ := bind_some h
     refine Swp.join (fun e w' => ∃ (known10 : Bool) (u : Env), known10 = s12 ∧ e = upds [(1, (Value.pointer (some ⟨b1, 0, none⟩))), (3, (osv ob11 0 (List.length l11) cap11)), (4, (Value.int .i64 i10)), (5, (Value.bool known10))] u ∧ Go.X.Loc [] [] w w' [some b1, ob11] [Cont.cells [d_v, d_v1], Cont.cells ([] ++ (cs11 ++ sp11))] ∧ Keep w.heap.size [some b1, ob11] w13 [some b1, ob11] w' ∧ True) ?_ ?_
     ·
      refine Swp.block ?_
      refine Swp.loopM hl11 (fun (ss : (Bool × Int)) (e : Env) (w' : World) => match ss with | (known11, k10) => ∃ (u : Env), e = upds [(1, (Value.pointer (some ⟨b1, 0, none⟩))), (3, (osv ob11 0 (List.length l11) cap11)), (4, (Value.int .i64 i10)), (5, (Value.bool known11)), (6, (Value.int .i64 k10))] u ∧ Go.X.Loc [] [] w w' [some b1, ob11] [Cont.cells [d_v, d_v1], Cont.cells ([] ++ (cs11 ++ sp11))] ∧ Keep w.heap.size [some b1, ob11] w13 [some b1, ob11] w' ∧ True) ⟨_, (upds_sym ⟨rfl, rfl, rfl, rfl, rfl, trivial⟩), hL15, Keep.refl, trivial⟩ ?_
      rintro ⟨known11, k10⟩ oo _ w14 ⟨u, rfl, hL16, K16, -⟩ h hd11
      rw [rLeast_b2] at h
      refine Swp.seq (Swp.seq (Swp.region rfl (Rl.op (OpY.move (v := (Value.int .i64 k10)) rfl ?_))))
      refine Rl.op (OpY.move (v := (osv ob11 0 (List.length l11) cap11)) rfl ?_)
      have f16 := ((hE10.mono (K15 None)).mono (K16 None))
      refine Rl.op (OpY.lenRow (pre := []) (r := (rInt .i64)) (xs := l11) Tryd.underlying78 rfl (hL16.at 1 rfl rfl) f16 rfl rfl ?_)
      refine Rl.op (OpY.lss (x := k10) (y := (List.length l11 : Int)) ((k10 : Int) < (List.length l11 : Int)) rfl rfl Iff.rfl ?_)
      refine Rl.nil ?_
      refine Swp.cond_d ((k10 : Int) < (List.length l11 : Int)) rfl (fun hc14 => ?_) (fun hc14 => ?_)
      ·
       replace h := ite_t hc14 h
       refine Swp.skip (Swp.seq (Swp.block ?_))
       by_cases hc15 : known11 = true
       ·
        replace h := ite_t hc15 h
        refine Swp.drawL 10 [] [] (fun W1 => [.det (Value.bool known11), .det (Value.bool known11), .det undef, .det undef, .det undef, .det undef, .det undef, .det undef, .det undef, .det undef]) mixed rfl rfl rfl (fun _ => rfl) (fun _ => rfl) ?_ ?_
        ·
         intro W1 _
         exact trivial
        ·
         intro w15 hE13
         have hL17 := hL16.ext hE13
         have K17 := ke hL16 hE13
         refine DrH.de (fun _ _ => GOp.op (OpY.move rfl (er rfl))) ?_
         refine DrH.de (fun _ _ => GOp.op (OpY.move rfl (er rfl))) ?_
         refine DrH.de (fun _ _ => GOp.no rfl rfl hc15 (er rfl)) ?_
         refine DrH.de (fun _ _ => GOp.no rfl rfl hc15 (er rfl)) ?_
         refine DrH.de (fun _ _ => GOp.no rfl rfl hc15 (er rfl)) ?_
         refine DrH.de (fun _ _ => GOp.no rfl rfl hc15 (er rfl)) ?_
         refine DrH.de (fun _ _ => GOp.no rfl rfl hc15 (er rfl)) ?_
         refine DrH.de (fun _ _ => GOp.no rfl rfl hc15 (er rfl)) ?_
         refine DrH.de (fun _ _ => GOp.no rfl rfl hc15 (er rfl)) ?_
         refine DrH.de (fun _ _ => GOp.no rfl rfl hc15 (er rfl)) ?_
         refine DrH.fin0 ?_
         rintro w26 Z24 hE24 hZ20 ⟨-⟩ ap10
         have hB10 : ∀ b, some b ∈ ([] : List (Option Nat)) → w15.heap.size ≤ b ∧ ¬ Z24 b := by
          intro b hb; cases hb
         have hL18 := hL17.ext hE24
         have K18 := ke hL17 hE24
         refine Rl.no rfl rfl hc15 ?_
         refine Rl.no rfl rfl hc15 ?_
         refine Rl.op (OpY.pick_t (t := known11) (v := (Value.bool true)) rfl hc15 rfl ?_)
         refine Rl.op (OpY.assign (v := (Value.bool true)) rfl ?_)
         refine Rl.nil (Swp.pop_blk (Swp.region rfl (Rl.op (OpY.move (v := (Value.int .i64 k10)) rfl ?_))))
         refine Rl.op (OpY.add (x := k10) (y := 1) (z := (iw (k10 + 1))) rfl rfl rfl ?_)
         refine Rl.op (OpY.assign (v := (Value.int .i64 (iw (k10 + 1)))) rfl ?_)
         refine Rl.nil ?_
         obtain rfl := Option.some.inj h
         refine Swp.pop_back ⟨(true, (iw (k10 + 1))), rfl, ?_⟩
         exact ⟨_, (upds_sym ⟨rfl, rfl, rfl, rfl, rfl, trivial⟩), hL18, (Keep.trans (Keep.trans K16 K17) K18), trivial⟩
       ·
        replace h := ite_f hc15 h
        obtain ⟨r12, q12, h⟩ := bind_some h
        obtain ⟨x11, q13, h⟩ := bind_some h
        obtain ⟨n10, q14, q15⟩ := idx_some q13
        have q16 := (List.getElem?_eq_some_iff.1 q15).1
        obtain ⟨b10, hb10⟩ := hL16.row_some 1 rfl rfl (row_pos (pre := []) f16 q15 (Nat.lt_of_sub_eq_succ rfl))
        obtain ⟨vs10, q17, q18, q19⟩ := row_elem (pre := []) (sp := sp11) f16 q15
        obtain rfl := q18
        refine Swp.drawL 10 [] [] (fun W1 => [.det (Value.bool known11), .det (Value.bool known11), .det (Value.agg #[d_v, d_v1]), .det (Value.int .i64 i10), .rel (fun v Z w' => ∃ v10 v11, (Value.agg #[v10, v11]) = v ∧ Rs rBool (Zv W1 w.heap.size None [some b1, ob11] Z w') v10 r12.Accept ∧ Rs (rSl rAEdge) (Zv W1 w.heap.size None [some b1, ob11] Z w') v11 r12.Edges ∧ True) (fun _ => []), .det (Value.agg #[d_v, d_v1]), .det (osv ob11 0 (List.length l11) cap11), .det (Value.int .i64 k10), .det (Value.pointer (some ⟨b10, (0 + n10 * (rInt .i64).sz), none⟩)), .det (Value.int .i64 x11)]) mixed rfl rfl rfl (fun _ => rfl) (fun _ => rfl) ?_ ?_
        ·
         intro W1 _
         exact ⟨fun v Z Z' w w' hΦ hz _ _ hs => by obtain ⟨v10, v11, rfl, k11, k12, -⟩ := hΦ; exact ⟨v10, v11, rfl, (k11.mono (Zv.stay hz hs)), (k12.mono (Zv.stay hz hs)), trivial⟩, trivial⟩
        ·
         intro w27 hE25
         have hL19 := hL16.ext hE25
         have K19 := ke hL16 hE25
         refine DrH.de (fun _ _ => GOp.op (OpY.move rfl (er rfl))) ?_
         refine DrH.de (fun _ _ => GOp.op (OpY.move rfl (er rfl))) ?_
         refine DrH.de (fun _ hE28 => GOp.yes rfl rfl (eq_false_of_ne_true hc15) (OpY.ldBoxA (vs := [d_v, d_v1]) Tryd.underlying25 rfl ti25 rfl ((hL19.ext hE28).at 0 rfl rfl) rfl rfl (er rfl))) ?_
         refine DrH.de (fun _ _ => GOp.yes rfl rfl (eq_false_of_ne_true hc15) (OpY.move rfl (er rfl))) ?_
         refine DrH.rel ?_ ?_
         ·
          rintro w32 Z29 hE30 hZ25 ⟨-⟩
          have K20 := ke hL19 hE30
          refine GOp.yes rfl rfl (eq_false_of_ne_true hc15) (OpY.call en49 rfl rfl (rFrom_w N d i10 d_v d_v1 _ Any (((((f11.mono (K15 S)).mono (K16 S)).mono (K19 S)).mono (K20 S)).mono vw_any) (((((((d_h1.mono (K4 S)).mono (K12 S)).mono (K15 S)).mono (K16 S)).mono (K19 S)).mono (K20 S)).mono vw_any) r12 q12) ?_)
          rintro _ w33 hE31 ⟨v10, v11, rfl, k11, k12, -⟩
          exact Made.ext hE31 hZ25 NewOwn.nil (fun _ h => h) ⟨v10, v11, rfl, (k11.mono Zv.made), (k12.mono Zv.made), trivial⟩
         intro z4
         refine DrH.de (fun _ hE32 => GOp.yes rfl rfl (eq_false_of_ne_true hc15) (OpY.ldBoxA (vs := [d_v, d_v1]) Tryd.underlying25 rfl ti25 rfl ((hL19.ext hE32).at 0 rfl rfl) rfl rfl (er rfl))) ?_
         refine DrH.de (fun _ _ => GOp.yes rfl rfl (eq_false_of_ne_true hc15) (OpY.move rfl (er rfl))) ?_
         refine DrH.de (fun _ _ => GOp.yes rfl rfl (eq_false_of_ne_true hc15) (OpY.move rfl (er rfl))) ?_
         refine DrH.de (fun _ _ => GOp.yes rfl rfl (eq_false_of_ne_true hc15) (OpY.ixRowD (r := (rInt .i64)) (b := b10) (o := 0) (n := n10) (m := (List.length l11)) (xs := l11) (q := (0 + n10 * (rInt .i64).sz)) Tryd.underlying78 ti3 (osv_some hb10) rfl rfl q14 q16 rfl (er rfl))) ?_
         refine DrH.de (fun _ hE36 => GOp.yes rfl rfl (eq_false_of_ne_true hc15) (OpY.ldElem1 Tryd.underlying3 rfl rfl (own_some hb10 ((hL19.ext hE36).at 1 rfl rfl)) q19 (er rfl))) ?_
         refine DrH.fin0 ?_
         rintro w39 Z35 hE37 hZ31 ⟨⟨⟨v10, v11, rfl, k11, k12, -⟩, hB4⟩, -⟩ ap11
         have hB11 : ∀ b, some b ∈ ([] : List (Option Nat)) → w27.heap.size ≤ b ∧ ¬ Z35 b := by
          intro b hb; cases hb
         replace k11 := k11.mono (Zv.fin hL19 hZ31 hB11)
         replace k12 := k12.mono (Zv.fin hL19 hZ31 hB11)
         have hL23 := hL19.ext hE37
         have K21 := ke hL19 hE37
         obtain ⟨r13, q20, h⟩ := bind_some h
         have f17 := ((((f11.mono (K15 S)).mono (K16 S)).mono (K19 S)).mono (K21 S))
         have f18 := ((((((d_h1.mono (K4 S)).mono (K12 S)).mono (K15 S)).mono (K16 S)).mono (K19 S)).mono (K21 S))
         refine Rl.yes rfl rfl (eq_false_of_ne_true hc15) (OpY.call en49 rfl rfl (rFrom_w N d x11 d_v d_v1 _ Any (f17.mono vw_any) (f18.mono vw_any) r13 q20) ?_)
         rintro _ w40 hE38 ⟨v12, v13, rfl, k13, k14, -⟩
         replace k13 := k13.mono (Hv.freshO (S := None) hL23 [])
         replace k14 := k14.mono (Hv.freshO (S := None) hL23 [])
         have hL24 := hL23.ext hE38
         have K22 := ke hL23 hE38
         obtain ⟨r14, q21, h⟩ := bind_some h
         have f19 := (k11.mono (K22 None))
         have f20 := (k12.mono (K22 None))
         refine Rl.yes rfl rfl (eq_false_of_ne_true hc15) (OpY.call en25 rfl rfl (rEquivalent_w N r12 r13 v10 v11 v12 v13 _ Any (f19.mono vw_any) (f20.mono vw_any) (k13.mono vw_any) (k14.mono vw_any) r14 q21) ?_)
         rintro _ w41 hE39 ⟨rfl, -⟩
         have hL25 := hL24.ext hE39
         have K23 := ke hL24 hE39
         refine Rl.op (OpY.pick_f (t := known11) (v := (Value.bool r14)) rfl (eq_false_of_ne_true hc15) rfl ?_)
         refine Rl.op (OpY.assign (v := (Value.bool r14)) rfl ?_)
         refine Rl.nil (Swp.pop_blk (Swp.region rfl (Rl.op (OpY.move (v := (Value.int .i64 k10)) rfl ?_))))
         refine Rl.op (OpY.add (x := k10) (y := 1) (z := (iw (k10 + 1))) rfl rfl rfl ?_)
         refine Rl.op (OpY.assign (v := (Value.int .i64 (iw (k10 + 1)))) rfl ?_)
         refine Rl.nil ?_
         obtain rfl := Option.some.inj h
         refine Swp.pop_back ⟨(r14, (iw (k10 + 1))), rfl, ?_⟩
         exact ⟨_, (upds_sym ⟨rfl, rfl, rfl, rfl, rfl, trivial⟩), hL25, (Keep.trans (Keep.trans (Keep.trans (Keep.trans K16 K19) K21) K22) K23), trivial⟩
      ·
       replace h := ite_f hc14 h
       refine Swp.exit rfl ?_
       obtain rfl := Option.some.inj h
       obtain rfl := hd11 _ rfl
       replace h := g12
       try dsimp only at h
       skip
       refine Swp.pop_back ?_
       exact ⟨known11, _, rfl, (upds_sym ⟨rfl, rfl, rfl, rfl, trivial⟩), hL16, K16, trivial⟩
     ·
      rintro _ w42 ⟨known10, u, rfl, rfl, hL26, K24, -⟩
      replace h := g12
      try dsimp only at h
      refine Swp.seq (Swp.region rfl (Rl.op (OpY.move (v := (Value.bool known10)) rfl ?_)))
      refine Rl.op (OpY.not (x := known10) rfl ?_)
      refine Rl.nil ?_
      refine Swp.cond_b (!known10) rfl (fun hc16 => ?_) (fun hc16 => ?_)
      ·
       replace h := ite_t hc16 h
       refine Swp.region rfl (Rl.op (OpY.move (v := (osv ob11 0 (List.length l11) cap11)) rfl ?_))
       refine Rl.op (OpY.move (v := (Value.int .i64 i10)) rfl ?_)
       have hE40 : Els (rInt .i64) (Hv w.heap.size None [some b1, ob11] w42) [(Value.int .i64 i10)] [i10] := (Els.cons (a := [(Value.int .i64 i10)]) rfl Els.nil)
       refine Rl.op (OpY.litRow (r := (rInt .i64)) (vs := [(Value.int .i64 i10)]) (css := [[(Value.int .i64 i10)]]) (xs := [i10]) Tryd.underlying78 ti3 (Nat.le_of_ble_eq_true rfl) rfl rfl ⟨rfl, rfl, trivial⟩ (Nat.le_of_ble_eq_true rfl) hE40 rfl hL26 ?_)
       intro b11 w43 hc17 hL27 hS10
       have K25 := ks w hS10
       obtain ⟨x12, q22, h⟩ := bind_some h
       obtain ⟨q23, q24, q25⟩ := apnd_some q22
       have f21 := (hE40.mono (K25 None))
       have f22 := (((hE10.mono (K15 None)).mono (K24 None)).mono (K25 None))
       refine Rl.op (OpY.apRowX (r := (rInt .i64)) (H := (Hv w.heap.size None [some b11, some b1, ob11] w43)) (cs := cs11) (sp := sp11) (xs := l11) (ys := [i10]) (Y := x12) (n := (List.length l11)) (cap := cap11) (i := 2) Tryd.underlying78 ti3 rfl rfl rfl rfl hL27 rfl rfl f22 rfl hc10 (Src.row (pre := []) (o := 0) (n := 1) (cap := 1) (hL27.at 0 rfl rfl) f21 rfl rfl rfl) (Els.anyH (fun _ _ _ _ h => h) f21) q23 q24 q25 ?_)
       intro ob12 cap12 sp12 cs12 w44 hE41 hc18 (hL28 : Go.X.Loc [] [] w w44 [some b11, some b1, ob12] [Cont.cells ([] ++ ([(Value.int .i64 i10)] ++ [])), Cont.cells [d_v, d_v1], Cont.cells ([] ++ (cs12 ++ sp12))]) hS11
       have K26 := ks w hS11
       refine Rl.op (OpY.assign (v := (osv ob12 0 (List.length x12) cap12)) rfl ?_)
       refine Rl.nil (Swp.pop_blk (Swp.region rfl (Rl.op (OpY.move (v := (Value.int .i64 i10)) rfl ?_))))
       refine Rl.op (OpY.add (x := i10) (y := 1) (z := (iw (i10 + 1))) rfl rfl rfl ?_)
       refine Rl.op (OpY.assign (v := (Value.int .i64 (iw (i10 + 1)))) rfl ?_)
       refine Rl.nil ?_
       have hp12 := hL28.pick [1, 2] rfl rfl rfl
       have hL29 : Go.X.Loc [] [] w w44 [some b1, ob12] [Cont.cells [d_v, d_v1], Cont.cells ([] ++ (cs12 ++ sp12))] := hp12.1
       have K27 := ks w hp12.2
       have f23 := ((hE41.mono (K26 None)).mono (K27 None))
       obtain rfl := Option.some.inj h
       refine Swp.pop_back ⟨(x12, (iw (i10 + 1))), rfl, ?_⟩
       exact ⟨ob12, cap12, sp12, cs12, (List.length x12), _, (upds_sym ⟨rfl, rfl, rfl, trivial⟩), hL29, (Keep.trans (Keep.trans (Keep.trans (Keep.trans (Keep.trans K12 K15) K24) K25) K26) K27), f23, rfl, hc18, trivial⟩
      ·
       replace h := ite_f hc16 h
       refine Swp.skip (Swp.pop_blk (Swp.region rfl (Rl.op (OpY.move (v := (Value.int .i64 i10)) rfl ?_))))
       refine Rl.op (OpY.add (x := i10) (y := 1) (z := (iw (i10 + 1))) rfl rfl rfl ?_)
       refine Rl.op (OpY.assign (v := (Value.int .i64 (iw (i10 + 1)))) rfl ?_)
       refine Rl.nil ?_
       have f24 := ((hE10.mono (K15 None)).mono (K24 None))
       obtain rfl := Option.some.inj h
       refine Swp.pop_back ⟨(l11, (iw (i10 + 1))), rfl, ?_⟩
       exact ⟨ob11, cap11, sp11, cs11, (List.length l11), _, (upds_sym ⟨rfl, rfl, rfl, trivial⟩), hL26, (Keep.trans (Keep.trans K12 K15) K24), f24, rfl, hc10, trivial⟩
  ·
   replace h := ite_f hc11 h
   refine Swp.exit rfl ?_
   have hp13 := hL12.pick [1] rfl rfl rfl
   have hL30 : Go.X.Loc [] [] w w10 [ob11] [Cont.cells ([] ++ (cs11 ++ sp11))] := hp13.1
   have K28 := ks w hp13.2
   have f25 := (hE10.mono (K28 None))
   obtain rfl := Option.some.inj h
   obtain rfl := hd10 _ rfl
   replace h := g10
   try dsimp only at h
   skip
   refine Swp.pop_back ?_
   exact ⟨l11, ob11, cap11, sp11, cs11, (List.length l11), _, rfl, (upds_sym ⟨rfl, trivial⟩), hL30, (Keep.trans K12 K28), f25, rfl, hc10, trivial⟩
 ·
  rintro _ w45 ⟨l10, ob10, cap10, sp10, cs10, ln10, u, rfl, rfl, hL31, K29, hE42, rfl, hc19, -⟩
  replace h := g10
  try dsimp only at h
  refine Swp.seq (Swp.region rfl (Rl.op (OpY.move (v := (osv ob10 0 (List.length l10) cap10)) rfl ?_)))
  refine Rl.op (OpY.lenRow (pre := []) (r := (rInt .i64)) (xs := l10) Tryd.underlying78 rfl (hL31.at 0 rfl rfl) hE42 rfl rfl ?_)
  refine Rl.op (OpY.max (x := 1) (y := (List.length l10 : Int)) rfl rfl ?_)
  refine Rl.op (OpY.assign (v := (Value.int .i64 (imax 1 (List.length l10 : Int)))) rfl ?_)
  refine Rl.nil (Swp.ret ?_)
  obtain rfl := Option.some.inj h
  refine ⟨[(Value.int .i64 (imax 1 (List.length l10 : Int)))], ⟨rfl, trivial⟩, ⟨_, rfl, hL31.done, ?_⟩⟩
  exact ⟨rfl, trivial⟩
theorem rFew_w (N : Nat) (d : ADfa) (d_v : Value) (d_v1 : Value) (w : World) (S : Nat → Prop) (d_h : Rs rBool (Hv w.heap.size S [] w) d_v d.Accept) (d_h1 : Rs (rSl rAEdge) (Hv w.heap.size S [] w) d_v1 d.Edges) (r : Bool) (h : rFew N d = some r) :
  Calls Tryd.prog 12 #[(Value.agg #[d_v, d_v1])] w (Ret w (fun v w' => (Value.bool r) = v ∧ True)) := by
 unfold rFew at h
 have hL : Go.X.Loc [] [] w w [] [] := Go.X.Loc.begin0 w
 refine calls_of (l := [(Value.agg #[d_v, d_v1])]) (rl := [.tmp 2]) (n := 11) Tryd.func12 rfl rfl rfl (Nat.le_of_ble_eq_true rfl) ?_
 refine Swp.seq (Swp.region rfl (Rl.op (OpY.box (cs := [d_v, d_v1]) rfl rfl hL ?_)))
 intro b1 w2 hL3 hS5
 have K4 := ks w hS5
 refine Rl.op (OpY.assign (v := (Value.bool false)) rfl ?_)
 refine Rl.nil (Swp.seq (Swp.region rfl (Rl.op (OpY.fieldAddr (q := 0) Tryd.underlying25 rfl ti22 rfl rfl rfl ?_))))
 refine Rl.op (OpY.ldBox1 (v := d_v) Tryd.underlying22 rfl rfl (hL3.at 0 rfl rfl) rfl ?_)
 have f6 := (d_h.mono (K4 S))
 refine Rl.op (OpY.lenRo (v := d_v) Tryd.underlying22 rfl f6 ?_)
 refine Rl.op (OpY.leq (x := (List.length d.Accept : Int)) (y := 8) (((List.length d.Accept : Int) : Int) ≤ 8) rfl rfl Iff.rfl ?_)
 refine Rl.op (OpY.move (v := (Value.bool (decide (((List.length d.Accept : Int) : Int) ≤ 8)))) rfl ?_)
 by_cases hc7 : ((List.length d.Accept : Int) : Int) ≤ 8
 ·
  replace h := ite_t hc7 h
  refine Rl.yes rfl rfl (decide_eq_true hc7) (OpY.ldBoxA (vs := [d_v, d_v1]) Tryd.underlying25 rfl ti25 rfl (hL3.at 0 rfl rfl) rfl rfl ?_)
  obtain ⟨r8, q9, h⟩ := bind_some h
  have f10 := (d_h1.mono (K4 S))
  refine Rl.yes rfl rfl (decide_eq_true hc7) (OpY.call en18 rfl rfl (rValid_w N d d_v d_v1 _ Any (f6.mono vw_any) (f10.mono vw_any) r8 q9) ?_)
  rintro _ w10 hE10 ⟨rfl, -⟩
  have hL10 := hL3.ext hE10
  refine Rl.op (OpY.pick_t (t := (decide (((List.length d.Accept : Int) : Int) ≤ 8))) (v := (Value.bool r8)) rfl (decide_eq_true hc7) rfl ?_)
  refine Rl.op (OpY.assign (v := (Value.bool r8)) rfl ?_)
  refine Rl.nil (Swp.ret ?_)
  obtain rfl := Option.some.inj h
  refine ⟨[(Value.bool r8)], ⟨rfl, trivial⟩, ⟨_, rfl, hL10.done, ?_⟩⟩
  exact ⟨rfl, trivial⟩
 ·
  replace h := ite_f hc7 h
  refine Rl.no rfl rfl (decide_eq_false hc7) ?_
  refine Rl.no rfl rfl (decide_eq_false hc7) ?_
  refine Rl.op (OpY.pick_f (t := (decide (((List.length d.Accept : Int) : Int) ≤ 8))) (v := (Value.bool false)) rfl (decide_eq_false hc7) rfl ?_)
  refine Rl.op (OpY.assign (v := (Value.bool false)) rfl ?_)
  refine Rl.nil (Swp.ret ?_)
  obtain rfl := Option.some.inj h
  refine ⟨[(Value.bool false)], ⟨rfl, trivial⟩, ⟨_, rfl, hL3.done, ?_⟩⟩
  exact ⟨rfl, trivial⟩
end Go.Proofs.YtckhldmpcddjmaaDoor.WR

/- A walk, written by a program of mine (wip/tool); the kernel checks it. -/
import Derived.Test.YtpfbdhfpojbmlaaDoorProg
import Derived.Test.YtpfbdhfpojbmlaaDoorZ18
import Derived.Test.YtpfbdhfpojbmlaaDoorP06
set_option maxRecDepth 100000
set_option maxHeartbeats 40000000
set_option linter.unusedVariables false
set_option linter.unusedSimpArgs false
namespace Go.Proofs.YtpfbdhfpojbmlaaDoor.W06
open Go Go.RowKit Go.X Go.D Go.Proofs.YtpfbdhfpojbmlaaDoor.WF
theorem mixed : Tryd.prog.follows .mixedOrders = true := by kernel_rfl
theorem en11 : Go.X.Enters Tryd.prog 11 := ⟨Tryd.f11, Tryd.func11, by kernel_rfl, by kernel_rfl⟩
theorem ti39 : TI Tryd.prog 39 3 3 (Value.agg #[(Value.int .u8 0), (Value.int .u8 0), (Value.int .u8 0)]) := TI.mk (by kernel_rfl)
theorem ti5 : TI Tryd.prog 5 1 1 (Value.int .u8 0) := TI.mk (by kernel_rfl)
theorem en12 : Go.X.Enters Tryd.prog 12 := ⟨Tryd.f12, Tryd.func12, by kernel_rfl, by kernel_rfl⟩
theorem lawLinear_w (N : Nat) (l : (List Arr3Int)) (l_v : Value) (w : World) (S : Nat → Prop) (hG : G w) (l_h : Rs rArr3Int (Hv w.heap.size S [] w) l_v l) (r : Bool) (h : lawLinear N l = some r) :
  Calls Tryd.prog 9 #[l_v] w (Ret w (fun v w' => (Value.bool r) = v ∧ True)) := by
 unfold lawLinear at h
 have hL : Go.X.Loc [] [] w w [] [] := Go.X.Loc.begin0 w
 refine calls_of (l := [l_v]) (rl := [.tmp 2]) (n := 61) Tryd.func9 rfl rfl rfl (Nat.le_of_ble_eq_true rfl) ?_
 refine Swp.seq (Swp.region rfl (Rl.op (OpY.assign (v := (Value.bool false)) rfl ?_)))
 refine Rl.nil (Swp.seq (Swp.seq ?_))
 obtain ⟨s10, h, g10⟩ := bind_some h
 refine Swp.join (fun e w' => ∃ (x10 : Bool) (u : Env), x10 = s10 ∧ e = upds [(0, l_v), (15, (Value.bool x10))] u ∧ Go.X.Loc [] [] w w' [] [] ∧ Keep w.heap.size [] w [] w' ∧ True) ?_ ?_
 ·
  refine Swp.region rfl ?_
  obtain ⟨r10, q10, h⟩ := bind_some h
  refine Rl.op (OpY.call en11 rfl rfl (awake6_w N _ Any (hG.ext hL.done) r10 q10) ?_)
  rintro _ w10 hE10 ⟨rfl, -⟩
  have hL10 := hL.ext hE10
  have K10 := ke hL hE10
  refine Rl.op (OpY.not (x := r10) rfl ?_)
  refine Rl.op (OpY.move (v := (Value.bool (!r10))) rfl ?_)
  by_cases hc10 : (!r10) = true
  ·
   replace h := ite_t hc10 h
   refine Rl.no rfl rfl hc10 ?_
   refine Rl.no rfl rfl hc10 ?_
   refine Rl.no rfl rfl hc10 ?_
   refine Rl.op (OpY.pick_t (t := (!r10)) (v := (Value.bool true)) rfl hc10 rfl ?_)
   refine Rl.nil ?_
   obtain rfl := Option.some.inj h
   refine Swp.pop_back ?_
   exact ⟨true, _, rfl, (upds_sym ⟨rfl, rfl, trivial⟩), hL10, K10, trivial⟩
  ·
   replace h := ite_f hc10 h
   refine Rl.yes rfl rfl (eq_false_of_ne_true hc10) (OpY.move (v := l_v) rfl ?_)
   have f10 := (l_h.mono (K10 S))
   refine Rl.yes rfl rfl (eq_false_of_ne_true hc10) (OpY.lenRo (v := l_v) Tryd.underlying38 rfl f10 ?_)
   refine Rl.yes rfl rfl (eq_false_of_ne_true hc10) (OpY.gtr (x := (List.length l : Int)) (y := 300) (((List.length l : Int) : Int) > 300) rfl rfl Iff.rfl ?_)
   refine Rl.op (OpY.pick_f (t := (!r10)) (v := (Value.bool (decide (((List.length l : Int) : Int) > 300)))) rfl (eq_false_of_ne_true hc10) rfl ?_)
   refine Rl.nil ?_
   obtain rfl := Option.some.inj h
   refine Swp.pop_back ?_
   exact ⟨(decide (((List.length l : Int) : Int) > 300)), _, rfl, (upds_sym ⟨rfl, rfl, trivial⟩), hL10, K10, trivial⟩
 ·
  rintro _ w11 ⟨x10, u, rfl, rfl, hL11, K11, -⟩
  replace h := g10
  try dsimp only at h
  refine Swp.cond_b x10 rfl (fun hc11 => ?_) (fun hc11 => ?_)
  ·
   replace h := ite_t hc11 h
   refine Swp.seq (Swp.region rfl ?_)
   obtain ⟨r11, q11, h⟩ := bind_some h
   refine Rl.op (OpY.call en11 rfl rfl (awake6_w N _ Any (hG.ext hL11.done) r11 q11) ?_)
   rintro _ w12 hE11 ⟨rfl, -⟩
   have hL12 := hL11.ext hE11
   refine Rl.op (OpY.assign (v := (Value.bool r11)) rfl ?_)
   refine Rl.nil (Swp.ret ?_)
   obtain rfl := Option.some.inj h
   refine ⟨[(Value.bool r11)], ⟨rfl, trivial⟩, ⟨_, rfl, hL12.done, ?_⟩⟩
   exact ⟨rfl, trivial⟩
  ·
   replace h := ite_f hc11 h
   refine Swp.skip (Swp.seq (Swp.region rfl (Rl.op (OpY.assign (v := (Value.slice none 0 0)) rfl ?_))))
   refine Rl.op (OpY.assign (v := (Value.slice none 0 0)) rfl ?_)
   refine Rl.op (OpY.assign (v := (Value.slice none 0 0)) rfl ?_)
   refine Rl.op (OpY.assign (v := (Value.slice none 0 0)) rfl ?_)
   refine Rl.nil (Swp.seq (Swp.seq (Swp.region rfl (Rl.op (OpY.move (v := l_v) rfl ?_)))))
   have f11 := (l_h.mono (K11 S))
   refine Rl.op (OpY.lenRo (v := l_v) Tryd.underlying38 rfl f11 ?_)
   refine Rl.op (OpY.move (v := (Value.int .i64 0)) rfl ?_)
   refine Rl.nil ?_
   obtain ⟨s11, hl10, g11⟩ := bind_some h
   refine Swp.join (fun e w' => ∃ (a10 : (List Int)) (b10 : (List Int)) (c10 : (List Int)) (d10 : (List Int)) (ob10 : Option Nat) (cap10 : Nat) (sp10 : List Value) (cs10 : List Value) (ln10 : Nat) (ob11 : Option Nat) (cap11 : Nat) (sp11 : List Value) (cs11 : List Value) (ln11 : Nat) (ob12 : Option Nat) (cap12 : Nat) (sp12 : List Value) (cs12 : List Value) (ln12 : Nat) (ob13 : Option Nat) (cap13 : Nat) (sp13 : List Value) (cs13 : List Value) (ln13 : Nat) (u : Env), (a10, b10, c10, d10) = s11 ∧ e = upds [(3, (osv ob10 0 ln10 cap10)), (4, (osv ob11 0 ln11 cap11)), (5, (osv ob12 0 ln12 cap12)), (6, (osv ob13 0 ln13 cap13))] u ∧ Go.X.Loc [] [] w w' [ob10, ob11, ob12, ob13] [Cont.cells ([] ++ (cs10 ++ sp10)), Cont.cells ([] ++ (cs11 ++ sp11)), Cont.cells ([] ++ (cs12 ++ sp12)), Cont.cells ([] ++ (cs13 ++ sp13))] ∧ Keep w.heap.size [] w11 [ob10, ob11, ob12, ob13] w' ∧ Els (rInt .u8) (Hv w.heap.size None [ob10, ob11, ob12, ob13] w') cs10 a10 ∧ ln10 = List.length a10 ∧ (cs10 ++ sp10).length = cap10 * (rInt .u8).sz ∧ Els (rInt .u8) (Hv w.heap.size None [ob10, ob11, ob12, ob13] w') cs11 b10 ∧ ln11 = List.length b10 ∧ (cs11 ++ sp11).length = cap11 * (rInt .u8).sz ∧ Els (rInt .u8) (Hv w.heap.size None [ob10, ob11, ob12, ob13] w') cs12 c10 ∧ ln12 = List.length c10 ∧ (cs12 ++ sp12).length = cap12 * (rInt .u8).sz ∧ Els (rInt .u8) (Hv w.heap.size None [ob10, ob11, ob12, ob13] w') cs13 d10 ∧ ln13 = List.length d10 ∧ (cs13 ++ sp13).length = cap13 * (rInt .u8).sz ∧ True) ?_ ?_
   ·
    refine Swp.block ?_
    have hp10 := hL11.addNil
    have hL13 : Go.X.Loc [] [] w w11 [none] [Cont.cells ([] ++ ([] ++ []))] := hp10.1
    have K12 := ks w hp10.2
    have hp11 := hL13.addNil
    have hL14 : Go.X.Loc [] [] w w11 [none, none] [Cont.cells ([] ++ ([] ++ [])), Cont.cells ([] ++ ([] ++ []))] := hp11.1
    have K13 := ks w hp11.2
    have hp12 := hL14.addNil
    have hL15 : Go.X.Loc [] [] w w11 [none, none, none] [Cont.cells ([] ++ ([] ++ [])), Cont.cells ([] ++ ([] ++ [])), Cont.cells ([] ++ ([] ++ []))] := hp12.1
    have K14 := ks w hp12.2
    have hp13 := hL15.addNil
    have hL16 : Go.X.Loc [] [] w w11 [none, none, none, none] [Cont.cells ([] ++ ([] ++ [])), Cont.cells ([] ++ ([] ++ [])), Cont.cells ([] ++ ([] ++ [])), Cont.cells ([] ++ ([] ++ []))] := hp13.1
    have K15 := ks w hp13.2
    have hp14 := hL16.pick [3, 2, 1, 0] rfl rfl rfl
    have hL17 : Go.X.Loc [] [] w w11 [none, none, none, none] [Cont.cells ([] ++ ([] ++ [])), Cont.cells ([] ++ ([] ++ [])), Cont.cells ([] ++ ([] ++ [])), Cont.cells ([] ++ ([] ++ []))] := hp14.1
    have K16 := ks w hp14.2
    have f12 := (((((Els.nil (r := (rInt .u8))).mono (K13 None)).mono (K14 None)).mono (K15 None)).mono (K16 None))
    have f13 := ((((Els.nil (r := (rInt .u8))).mono (K14 None)).mono (K15 None)).mono (K16 None))
    have f14 := (((Els.nil (r := (rInt .u8))).mono (K15 None)).mono (K16 None))
    have f15 := ((Els.nil (r := (rInt .u8))).mono (K16 None))
    refine Swp.loopM hl10 (fun (ss : ((List Int) × (List Int) × (List Int) × (List Int) × Int)) (e : Env) (w' : World) => match ss with | (a11, b11, c11, d11, x11) => ∃ (ob14 : Option Nat) (cap14 : Nat) (sp14 : List Value) (cs14 : List Value) (ln14 : Nat) (ob15 : Option Nat) (cap15 : Nat) (sp15 : List Value) (cs15 : List Value) (ln15 : Nat) (ob16 : Option Nat) (cap16 : Nat) (sp16 : List Value) (cs16 : List Value) (ln16 : Nat) (ob17 : Option Nat) (cap17 : Nat) (sp17 : List Value) (cs17 : List Value) (ln17 : Nat) (u : Env), e = upds [(3, (osv ob14 0 ln14 cap14)), (4, (osv ob15 0 ln15 cap15)), (5, (osv ob16 0 ln16 cap16)), (6, (osv ob17 0 ln17 cap17)), (17, l_v), (18, (Value.int .i64 (List.length l : Int))), (19, (Value.int .i64 x11))] u ∧ Go.X.Loc [] [] w w' [ob14, ob15, ob16, ob17] [Cont.cells ([] ++ (cs14 ++ sp14)), Cont.cells ([] ++ (cs15 ++ sp15)), Cont.cells ([] ++ (cs16 ++ sp16)), Cont.cells ([] ++ (cs17 ++ sp17))] ∧ Keep w.heap.size [] w11 [ob14, ob15, ob16, ob17] w' ∧ Els (rInt .u8) (Hv w.heap.size None [ob14, ob15, ob16, ob17] w') cs14 a11 ∧ ln14 = List.length a11 ∧ (cs14 ++ sp14).length = cap14 * (rInt .u8).sz ∧ Els (rInt .u8) (Hv w.heap.size None [ob14, ob15, ob16, ob17] w') cs15 b11 ∧ ln15 = List.length b11 ∧ (cs15 ++ sp15).length = cap15 * (rInt .u8).sz ∧ Els (rInt .u8) (Hv w.heap.size None [ob14, ob15, ob16, ob17] w') cs16 c11 ∧ ln16 = List.length c11 ∧ (cs16 ++ sp16).length = cap16 * (rInt .u8).sz ∧ Els (rInt .u8) (Hv w.heap.size None [ob14, ob15, ob16, ob17] w') cs17 d11 ∧ ln17 = List.length d11 ∧ (cs17 ++ sp17).length = cap17 * (rInt .u8).sz ∧ True) ⟨none, 0, [], [], (List.length ([] : (List Int))), none, 0, [], [], (List.length ([] : (List Int))), none, 0, [], [], (List.length ([] : (List Int))), none, 0, [], [], (List.length ([] : (List Int))), _, (upds_sym ⟨rfl, rfl, rfl, rfl, rfl, rfl, rfl, trivial⟩), hL17, (Keep.trans (Keep.trans (Keep.trans (Keep.trans K12 K13) K14) K15) K16), f12, rfl, (show ([] ++ [] : List Value).length = 0 * (rInt .u8).sz by simp), f13, rfl, (show ([] ++ [] : List Value).length = 0 * (rInt .u8).sz by simp), f14, rfl, (show ([] ++ [] : List Value).length = 0 * (rInt .u8).sz by simp), f15, rfl, (show ([] ++ [] : List Value).length = 0 * (rInt .u8).sz by simp), trivial⟩ ?_
    rintro ⟨a11, b11, c11, d11, x11⟩ oo _ w13 ⟨ob14, cap14, sp14, cs14, ln14, ob15, cap15, sp15, cs15, ln15, ob16, cap16, sp16, cs16, ln16, ob17, cap17, sp17, cs17, ln17, u, rfl, hL18, K17, hE12, rfl, hc12, hE13, rfl, hc13, hE14, rfl, hc14, hE15, rfl, hc15, -⟩ h hd10
    rw [lawLinear_b1] at h
    refine Swp.seq (Swp.region rfl (Rl.op (OpY.lss (x := x11) (y := (List.length l : Int)) ((x11 : Int) < (List.length l : Int)) rfl rfl Iff.rfl ?_)))
    refine Rl.nil (Swp.seq ?_)
    refine Swp.cond_d ((x11 : Int) < (List.length l : Int)) rfl (fun hc16 => ?_) (fun hc16 => ?_)
    ·
     replace h := ite_t hc16 h
     refine Swp.skip (Swp.seq (Swp.block (Swp.seq (Swp.region rfl ?_))))
     obtain ⟨x12, q12, h⟩ := bind_some h
     obtain ⟨n10, q13, q14⟩ := idx_some q12
     have f16 := (f11.mono (K17 S))
     obtain ⟨b12, o10, c12, vs10, q15, q16, f17, q17⟩ := Rs.get f16 q14
     obtain ⟨rfl, -⟩ := rArr3Int_open q17
     refine Rl.op (OpY.ixRoD (r := rArr3Int) (v := l_v) (n := n10) (m := (o10 + n10 * rArr3Int.sz)) Tryd.underlying38 ti39 rfl q15 rfl q13 q14 rfl ?_)
     refine Rl.op (OpY.ldRoA (vs := [(Value.int .u8 x12.e0), (Value.int .u8 x12.e1), (Value.int .u8 x12.e2)]) Tryd.underlying39 rfl ti39 rfl rfl vw_view f17 ?_)
     refine Rl.op (OpY.alloc (cs := [(Value.int .u8 0), (Value.int .u8 0), (Value.int .u8 0)]) ti39 rfl hL18 ?_)
     intro b13 w14 hL19 hS10
     have K18 := ks w hS10
     refine Rl.op0 (OpY.store (vs := [(Value.int .u8 x12.e0), (Value.int .u8 x12.e1), (Value.int .u8 x12.e2)]) ti39 rfl rfl rfl rfl (ones_cons rfl (ones_cons rfl (ones_cons rfl ones_nil))) hL19 0 rfl rfl (Nat.le_of_ble_eq_true rfl) ?_)
     intro w15 (hL20 : Go.X.Loc [] [] w w15 [some b13, ob14, ob15, ob16, ob17] [Cont.cells [(Value.int .u8 x12.e0), (Value.int .u8 x12.e1), (Value.int .u8 x12.e2)], Cont.cells ([] ++ (cs14 ++ sp14)), Cont.cells ([] ++ (cs15 ++ sp15)), Cont.cells ([] ++ (cs16 ++ sp16)), Cont.cells ([] ++ (cs17 ++ sp17))]) hS11
     have K19 := ks w hS11
     refine Rl.nil ?_
     refine Swp.drawF (O := [some b13, ob14, ob15, ob16, ob17]) [4, 9, 14, 25, 26, 27, 28, 29] [0, 1, 2, 5, 6, 7, 10, 11, 12, 15, 16, 17, 18, 19, 20, 21, 22, 23] [(3, 26), (8, 31), (13, 36), (24, 47)] [(23, (osv ob14 0 (List.length a11) cap14)), (24, (Value.pointer (some ⟨b13, 0, none⟩))), (25, (Value.int .u8 x12.e0)), (28, (osv ob15 0 (List.length b11) cap15)), (29, (Value.pointer (some ⟨b13, 1, none⟩))), (30, (Value.int .u8 x12.e1)), (33, (osv ob16 0 (List.length c11) cap16)), (34, (Value.pointer (some ⟨b13, 2, none⟩))), (35, (Value.int .u8 x12.e2)), (38, (osv ob17 0 (List.length d11) cap17)), (39, (Value.pointer (some ⟨b13, 0, none⟩))), (40, (Value.int .u8 x12.e0)), (41, (Value.pointer (some ⟨b13, 1, none⟩))), (42, (Value.int .u8 x12.e1)), (43, (Value.int .u8 (bxor .u8 x12.e0 x12.e1))), (44, (Value.pointer (some ⟨b13, 2, none⟩))), (45, (Value.int .u8 x12.e2)), (46, (Value.int .u8 (bxor .u8 (bxor .u8 x12.e0 x12.e1) x12.e2)))] (fun f v O w' => Rs (rInt .u8) (Hv w.heap.size None O w') v (bif Nat.beq f 3 then [x12.e0] else (bif Nat.beq f 8 then [x12.e1] else (bif Nat.beq f 13 then [x12.e2] else (bif Nat.beq f 24 then [(bxor .u8 (bxor .u8 x12.e0 x12.e1) x12.e2)] else []))))) w.heap.size mixed rfl rfl rfl rfl (fun b hb => hL20.own.lt b hb) hL20.size (fun _ _ _ _ _ _ h hs => h.mono (Hv.step hs)) (FloatP.cons rfl (fun w1 O1 hs hO => GOp.op (OpY.litInts (ys := [x12.e0]) Tryd.underlying22 ti5 rfl rfl (by decide) (by decide) hs hO)) (FloatP.cons rfl (fun w1 O1 hs hO => GOp.op (OpY.litInts (ys := [x12.e1]) Tryd.underlying22 ti5 rfl rfl (by decide) (by decide) hs hO)) (FloatP.cons rfl (fun w1 O1 hs hO => GOp.op (OpY.litInts (ys := [x12.e2]) Tryd.underlying22 ti5 rfl rfl (by decide) (by decide) hs hO)) (FloatP.cons rfl (fun w1 O1 hs hO => GOp.op (OpY.litInts (ys := [(bxor .u8 (bxor .u8 x12.e0 x12.e1) x12.e2)]) Tryd.underlying22 ti5 rfl rfl (by decide) (by decide) hs hO)) FloatP.nil)))) ?_
     intro w16 hE16
     have hL21 := hL20.ext hE16
     have K20 := ke hL20 hE16
     refine ⟨?_, ?_⟩
     ·
      intro w17 hE17
      have hL22 := hL21.ext hE17
      refine LateP.cons (i := 0) rfl rfl (GOp.op (OpY.move (v := (osv ob14 0 (List.length a11) cap14)) rfl ⟨rfl, rfl⟩)) ?_
      refine LateP.cons (i := 1) rfl rfl (GOp.op (OpY.indexAddr_arr (i := 0) (q := 0) Tryd.underlying39 ti5 rfl rfl (by decide) rfl ⟨rfl, rfl⟩)) ?_
      refine LateP.cons (i := 2) rfl rfl (GOp.op (OpY.ldBox1 (v := (Value.int .u8 x12.e0)) Tryd.underlying5 rfl rfl (hL22.at 0 rfl rfl) rfl ⟨rfl, rfl⟩)) ?_
      refine LateP.cons (i := 5) rfl rfl (GOp.op (OpY.move (v := (osv ob15 0 (List.length b11) cap15)) rfl ⟨rfl, rfl⟩)) ?_
      refine LateP.cons (i := 6) rfl rfl (GOp.op (OpY.indexAddr_arr (i := 1) (q := 1) Tryd.underlying39 ti5 rfl rfl (by decide) rfl ⟨rfl, rfl⟩)) ?_
      refine LateP.cons (i := 7) rfl rfl (GOp.op (OpY.ldBox1 (v := (Value.int .u8 x12.e1)) Tryd.underlying5 rfl rfl (hL22.at 0 rfl rfl) rfl ⟨rfl, rfl⟩)) ?_
      refine LateP.cons (i := 10) rfl rfl (GOp.op (OpY.move (v := (osv ob16 0 (List.length c11) cap16)) rfl ⟨rfl, rfl⟩)) ?_
      refine LateP.cons (i := 11) rfl rfl (GOp.op (OpY.indexAddr_arr (i := 2) (q := 2) Tryd.underlying39 ti5 rfl rfl (by decide) rfl ⟨rfl, rfl⟩)) ?_
      refine LateP.cons (i := 12) rfl rfl (GOp.op (OpY.ldBox1 (v := (Value.int .u8 x12.e2)) Tryd.underlying5 rfl rfl (hL22.at 0 rfl rfl) rfl ⟨rfl, rfl⟩)) ?_
      refine LateP.cons (i := 15) rfl rfl (GOp.op (OpY.move (v := (osv ob17 0 (List.length d11) cap17)) rfl ⟨rfl, rfl⟩)) ?_
      refine LateP.cons (i := 16) rfl rfl (GOp.op (OpY.indexAddr_arr (i := 0) (q := 0) Tryd.underlying39 ti5 rfl rfl (by decide) rfl ⟨rfl, rfl⟩)) ?_
      refine LateP.cons (i := 17) rfl rfl (GOp.op (OpY.ldBox1 (v := (Value.int .u8 x12.e0)) Tryd.underlying5 rfl rfl (hL22.at 0 rfl rfl) rfl ⟨rfl, rfl⟩)) ?_
      refine LateP.cons (i := 18) rfl rfl (GOp.op (OpY.indexAddr_arr (i := 1) (q := 1) Tryd.underlying39 ti5 rfl rfl (by decide) rfl ⟨rfl, rfl⟩)) ?_
      refine LateP.cons (i := 19) rfl rfl (GOp.op (OpY.ldBox1 (v := (Value.int .u8 x12.e1)) Tryd.underlying5 rfl rfl (hL22.at 0 rfl rfl) rfl ⟨rfl, rfl⟩)) ?_
      refine LateP.cons (i := 20) rfl rfl (GOp.op (OpY.ixor (x := x12.e0) (y := x12.e1) rfl rfl ⟨rfl, rfl⟩)) ?_
      refine LateP.cons (i := 21) rfl rfl (GOp.op (OpY.indexAddr_arr (i := 2) (q := 2) Tryd.underlying39 ti5 rfl rfl (by decide) rfl ⟨rfl, rfl⟩)) ?_
      refine LateP.cons (i := 22) rfl rfl (GOp.op (OpY.ldBox1 (v := (Value.int .u8 x12.e2)) Tryd.underlying5 rfl rfl (hL22.at 0 rfl rfl) rfl ⟨rfl, rfl⟩)) ?_
      refine LateP.cons (i := 23) rfl rfl (GOp.op (OpY.ixor (x := (bxor .u8 x12.e0 x12.e1)) (y := x12.e2) rfl rfl ⟨rfl, rfl⟩)) ?_
      exact LateP.nil
     refine RlF.op rfl ?_
     intro w18 V10 hE18 hp15
     have hL23 := hL21.ext hE18
     have K21 := ke hL21 hE18
     have f18 : Rs (rInt .u8) (Hv w.heap.size None [some b13, ob14, ob15, ob16, ob17] w18) (V10 3) [x12.e0] := hp15 (3, 26) (by decide) rfl
     obtain ⟨x13, q18, h⟩ := bind_some h
     obtain ⟨q19, q20, q21⟩ := apnd_some q18
     obtain ⟨ds10, q22, q23⟩ := Rs.src f18
     have f19 := ((((hE12.mono (K18 None)).mono (K19 None)).mono (K20 None)).mono (K21 None))
     refine OpY.apRowX (r := (rInt .u8)) (H := (Hv w.heap.size None [some b13, ob14, ob15, ob16, ob17] w18)) (cs := cs14) (sp := sp14) (xs := a11) (ys := [x12.e0]) (Y := x13) (n := (List.length a11)) (cap := cap14) (i := 1) Tryd.underlying22 ti5 rfl rfl rfl rfl hL23 rfl rfl f19 rfl hc12 q22 (Els.anyH (fun _ _ _ _ h => h) q23) q19 q20 q21 ?_
     intro ob18 cap18 sp18 cs18 w19 hE19 hc17 (hL24 : Go.X.Loc [] [] w w19 [some b13, ob18, ob15, ob16, ob17] [Cont.cells [(Value.int .u8 x12.e0), (Value.int .u8 x12.e1), (Value.int .u8 x12.e2)], Cont.cells ([] ++ (cs18 ++ sp18)), Cont.cells ([] ++ (cs15 ++ sp15)), Cont.cells ([] ++ (cs16 ++ sp16)), Cont.cells ([] ++ (cs17 ++ sp17))]) hS12
     have K22 := ks w hS12
     refine ⟨_, hS12, (fun b hb => hL24.own.lt b hb), hL24.size, ?_⟩
     refine ⟨?_, ?_⟩
     ·
      intro w20 hE20
      have hL25 := hL24.ext hE20
      refine LateP.cons (i := 1) rfl rfl (GOp.op (OpY.indexAddr_arr (i := 0) (q := 0) Tryd.underlying39 ti5 rfl rfl (by decide) rfl ⟨rfl, rfl⟩)) ?_
      refine LateP.cons (i := 2) rfl rfl (GOp.op (OpY.ldBox1 (v := (Value.int .u8 x12.e0)) Tryd.underlying5 rfl rfl (hL25.at 0 rfl rfl) rfl ⟨rfl, rfl⟩)) ?_
      refine LateP.cons (i := 5) rfl rfl (GOp.op (OpY.move (v := (osv ob15 0 (List.length b11) cap15)) rfl ⟨rfl, rfl⟩)) ?_
      refine LateP.cons (i := 6) rfl rfl (GOp.op (OpY.indexAddr_arr (i := 1) (q := 1) Tryd.underlying39 ti5 rfl rfl (by decide) rfl ⟨rfl, rfl⟩)) ?_
      refine LateP.cons (i := 7) rfl rfl (GOp.op (OpY.ldBox1 (v := (Value.int .u8 x12.e1)) Tryd.underlying5 rfl rfl (hL25.at 0 rfl rfl) rfl ⟨rfl, rfl⟩)) ?_
      refine LateP.cons (i := 10) rfl rfl (GOp.op (OpY.move (v := (osv ob16 0 (List.length c11) cap16)) rfl ⟨rfl, rfl⟩)) ?_
      refine LateP.cons (i := 11) rfl rfl (GOp.op (OpY.indexAddr_arr (i := 2) (q := 2) Tryd.underlying39 ti5 rfl rfl (by decide) rfl ⟨rfl, rfl⟩)) ?_
      refine LateP.cons (i := 12) rfl rfl (GOp.op (OpY.ldBox1 (v := (Value.int .u8 x12.e2)) Tryd.underlying5 rfl rfl (hL25.at 0 rfl rfl) rfl ⟨rfl, rfl⟩)) ?_
      refine LateP.cons (i := 15) rfl rfl (GOp.op (OpY.move (v := (osv ob17 0 (List.length d11) cap17)) rfl ⟨rfl, rfl⟩)) ?_
      refine LateP.cons (i := 16) rfl rfl (GOp.op (OpY.indexAddr_arr (i := 0) (q := 0) Tryd.underlying39 ti5 rfl rfl (by decide) rfl ⟨rfl, rfl⟩)) ?_
      refine LateP.cons (i := 17) rfl rfl (GOp.op (OpY.ldBox1 (v := (Value.int .u8 x12.e0)) Tryd.underlying5 rfl rfl (hL25.at 0 rfl rfl) rfl ⟨rfl, rfl⟩)) ?_
      refine LateP.cons (i := 18) rfl rfl (GOp.op (OpY.indexAddr_arr (i := 1) (q := 1) Tryd.underlying39 ti5 rfl rfl (by decide) rfl ⟨rfl, rfl⟩)) ?_
      refine LateP.cons (i := 19) rfl rfl (GOp.op (OpY.ldBox1 (v := (Value.int .u8 x12.e1)) Tryd.underlying5 rfl rfl (hL25.at 0 rfl rfl) rfl ⟨rfl, rfl⟩)) ?_
      refine LateP.cons (i := 20) rfl rfl (GOp.op (OpY.ixor (x := x12.e0) (y := x12.e1) rfl rfl ⟨rfl, rfl⟩)) ?_
      refine LateP.cons (i := 21) rfl rfl (GOp.op (OpY.indexAddr_arr (i := 2) (q := 2) Tryd.underlying39 ti5 rfl rfl (by decide) rfl ⟨rfl, rfl⟩)) ?_
      refine LateP.cons (i := 22) rfl rfl (GOp.op (OpY.ldBox1 (v := (Value.int .u8 x12.e2)) Tryd.underlying5 rfl rfl (hL25.at 0 rfl rfl) rfl ⟨rfl, rfl⟩)) ?_
      refine LateP.cons (i := 23) rfl rfl (GOp.op (OpY.ixor (x := (bxor .u8 x12.e0 x12.e1)) (y := x12.e2) rfl rfl ⟨rfl, rfl⟩)) ?_
      exact LateP.nil
     refine RlF.op rfl ?_
     intro w21 V11 hE21 hp16
     have hL26 := hL24.ext hE21
     have K23 := ke hL24 hE21
     have f20 : Rs (rInt .u8) (Hv w.heap.size None [some b13, ob18, ob15, ob16, ob17] w21) (V11 8) [x12.e1] := hp16 (8, 31) (by decide) rfl
     obtain ⟨x14, q24, h⟩ := bind_some h
     obtain ⟨q25, q26, q27⟩ := apnd_some q24
     obtain ⟨ds11, q28, q29⟩ := Rs.src f20
     have f21 := ((((((hE13.mono (K18 None)).mono (K19 None)).mono (K20 None)).mono (K21 None)).mono (K22 None)).mono (K23 None))
     refine OpY.apRowX (r := (rInt .u8)) (H := (Hv w.heap.size None [some b13, ob18, ob15, ob16, ob17] w21)) (cs := cs15) (sp := sp15) (xs := b11) (ys := [x12.e1]) (Y := x14) (n := (List.length b11)) (cap := cap15) (i := 2) Tryd.underlying22 ti5 rfl rfl rfl rfl hL26 rfl rfl f21 rfl hc13 q28 (Els.anyH (fun _ _ _ _ h => h) q29) q25 q26 q27 ?_
     intro ob19 cap19 sp19 cs19 w22 hE22 hc18 (hL27 : Go.X.Loc [] [] w w22 [some b13, ob18, ob19, ob16, ob17] [Cont.cells [(Value.int .u8 x12.e0), (Value.int .u8 x12.e1), (Value.int .u8 x12.e2)], Cont.cells ([] ++ (cs18 ++ sp18)), Cont.cells ([] ++ (cs19 ++ sp19)), Cont.cells ([] ++ (cs16 ++ sp16)), Cont.cells ([] ++ (cs17 ++ sp17))]) hS13
     have K24 := ks w hS13
     refine ⟨_, hS13, (fun b hb => hL27.own.lt b hb), hL27.size, ?_⟩
     refine ⟨?_, ?_⟩
     ·
      intro w23 hE23
      have hL28 := hL27.ext hE23
      refine LateP.cons (i := 1) rfl rfl (GOp.op (OpY.indexAddr_arr (i := 0) (q := 0) Tryd.underlying39 ti5 rfl rfl (by decide) rfl ⟨rfl, rfl⟩)) ?_
      refine LateP.cons (i := 2) rfl rfl (GOp.op (OpY.ldBox1 (v := (Value.int .u8 x12.e0)) Tryd.underlying5 rfl rfl (hL28.at 0 rfl rfl) rfl ⟨rfl, rfl⟩)) ?_
      refine LateP.cons (i := 6) rfl rfl (GOp.op (OpY.indexAddr_arr (i := 1) (q := 1) Tryd.underlying39 ti5 rfl rfl (by decide) rfl ⟨rfl, rfl⟩)) ?_
      refine LateP.cons (i := 7) rfl rfl (GOp.op (OpY.ldBox1 (v := (Value.int .u8 x12.e1)) Tryd.underlying5 rfl rfl (hL28.at 0 rfl rfl) rfl ⟨rfl, rfl⟩)) ?_
      refine LateP.cons (i := 10) rfl rfl (GOp.op (OpY.move (v := (osv ob16 0 (List.length c11) cap16)) rfl ⟨rfl, rfl⟩)) ?_
      refine LateP.cons (i := 11) rfl rfl (GOp.op (OpY.indexAddr_arr (i := 2) (q := 2) Tryd.underlying39 ti5 rfl rfl (by decide) rfl ⟨rfl, rfl⟩)) ?_
      refine LateP.cons (i := 12) rfl rfl (GOp.op (OpY.ldBox1 (v := (Value.int .u8 x12.e2)) Tryd.underlying5 rfl rfl (hL28.at 0 rfl rfl) rfl ⟨rfl, rfl⟩)) ?_
      refine LateP.cons (i := 15) rfl rfl (GOp.op (OpY.move (v := (osv ob17 0 (List.length d11) cap17)) rfl ⟨rfl, rfl⟩)) ?_
      refine LateP.cons (i := 16) rfl rfl (GOp.op (OpY.indexAddr_arr (i := 0) (q := 0) Tryd.underlying39 ti5 rfl rfl (by decide) rfl ⟨rfl, rfl⟩)) ?_
      refine LateP.cons (i := 17) rfl rfl (GOp.op (OpY.ldBox1 (v := (Value.int .u8 x12.e0)) Tryd.underlying5 rfl rfl (hL28.at 0 rfl rfl) rfl ⟨rfl, rfl⟩)) ?_
      refine LateP.cons (i := 18) rfl rfl (GOp.op (OpY.indexAddr_arr (i := 1) (q := 1) Tryd.underlying39 ti5 rfl rfl (by decide) rfl ⟨rfl, rfl⟩)) ?_
      refine LateP.cons (i := 19) rfl rfl (GOp.op (OpY.ldBox1 (v := (Value.int .u8 x12.e1)) Tryd.underlying5 rfl rfl (hL28.at 0 rfl rfl) rfl ⟨rfl, rfl⟩)) ?_
      refine LateP.cons (i := 20) rfl rfl (GOp.op (OpY.ixor (x := x12.e0) (y := x12.e1) rfl rfl ⟨rfl, rfl⟩)) ?_
      refine LateP.cons (i := 21) rfl rfl (GOp.op (OpY.indexAddr_arr (i := 2) (q := 2) Tryd.underlying39 ti5 rfl rfl (by decide) rfl ⟨rfl, rfl⟩)) ?_
      refine LateP.cons (i := 22) rfl rfl (GOp.op (OpY.ldBox1 (v := (Value.int .u8 x12.e2)) Tryd.underlying5 rfl rfl (hL28.at 0 rfl rfl) rfl ⟨rfl, rfl⟩)) ?_
      refine LateP.cons (i := 23) rfl rfl (GOp.op (OpY.ixor (x := (bxor .u8 x12.e0 x12.e1)) (y := x12.e2) rfl rfl ⟨rfl, rfl⟩)) ?_
      exact LateP.nil
     refine RlF.op rfl ?_
     intro w24 V12 hE24 hp17
     have hL29 := hL27.ext hE24
     have K25 := ke hL27 hE24
     have f22 : Rs (rInt .u8) (Hv w.heap.size None [some b13, ob18, ob19, ob16, ob17] w24) (V12 13) [x12.e2] := hp17 (13, 36) (by decide) rfl
     obtain ⟨x15, q30, h⟩ := bind_some h
     obtain ⟨q31, q32, q33⟩ := apnd_some q30
     obtain ⟨ds12, q34, q35⟩ := Rs.src f22
     have f23 := ((((((((hE14.mono (K18 None)).mono (K19 None)).mono (K20 None)).mono (K21 None)).mono (K22 None)).mono (K23 None)).mono (K24 None)).mono (K25 None))
     refine OpY.apRowX (r := (rInt .u8)) (H := (Hv w.heap.size None [some b13, ob18, ob19, ob16, ob17] w24)) (cs := cs16) (sp := sp16) (xs := c11) (ys := [x12.e2]) (Y := x15) (n := (List.length c11)) (cap := cap16) (i := 3) Tryd.underlying22 ti5 rfl rfl rfl rfl hL29 rfl rfl f23 rfl hc14 q34 (Els.anyH (fun _ _ _ _ h => h) q35) q31 q32 q33 ?_
     intro ob20 cap20 sp20 cs20 w25 hE25 hc19 (hL30 : Go.X.Loc [] [] w w25 [some b13, ob18, ob19, ob20, ob17] [Cont.cells [(Value.int .u8 x12.e0), (Value.int .u8 x12.e1), (Value.int .u8 x12.e2)], Cont.cells ([] ++ (cs18 ++ sp18)), Cont.cells ([] ++ (cs19 ++ sp19)), Cont.cells ([] ++ (cs20 ++ sp20)), Cont.cells ([] ++ (cs17 ++ sp17))]) hS14
     have K26 := ks w hS14
     refine ⟨_, hS14, (fun b hb => hL30.own.lt b hb), hL30.size, ?_⟩
     refine ⟨?_, ?_⟩
     ·
      intro w26 hE26
      have hL31 := hL30.ext hE26
      refine LateP.cons (i := 1) rfl rfl (GOp.op (OpY.indexAddr_arr (i := 0) (q := 0) Tryd.underlying39 ti5 rfl rfl (by decide) rfl ⟨rfl, rfl⟩)) ?_
      refine LateP.cons (i := 2) rfl rfl (GOp.op (OpY.ldBox1 (v := (Value.int .u8 x12.e0)) Tryd.underlying5 rfl rfl (hL31.at 0 rfl rfl) rfl ⟨rfl, rfl⟩)) ?_
      refine LateP.cons (i := 6) rfl rfl (GOp.op (OpY.indexAddr_arr (i := 1) (q := 1) Tryd.underlying39 ti5 rfl rfl (by decide) rfl ⟨rfl, rfl⟩)) ?_
      refine LateP.cons (i := 7) rfl rfl (GOp.op (OpY.ldBox1 (v := (Value.int .u8 x12.e1)) Tryd.underlying5 rfl rfl (hL31.at 0 rfl rfl) rfl ⟨rfl, rfl⟩)) ?_
      refine LateP.cons (i := 11) rfl rfl (GOp.op (OpY.indexAddr_arr (i := 2) (q := 2) Tryd.underlying39 ti5 rfl rfl (by decide) rfl ⟨rfl, rfl⟩)) ?_
      refine LateP.cons (i := 12) rfl rfl (GOp.op (OpY.ldBox1 (v := (Value.int .u8 x12.e2)) Tryd.underlying5 rfl rfl (hL31.at 0 rfl rfl) rfl ⟨rfl, rfl⟩)) ?_
      refine LateP.cons (i := 15) rfl rfl (GOp.op (OpY.move (v := (osv ob17 0 (List.length d11) cap17)) rfl ⟨rfl, rfl⟩)) ?_
      refine LateP.cons (i := 16) rfl rfl (GOp.op (OpY.indexAddr_arr (i := 0) (q := 0) Tryd.underlying39 ti5 rfl rfl (by decide) rfl ⟨rfl, rfl⟩)) ?_
      refine LateP.cons (i := 17) rfl rfl (GOp.op (OpY.ldBox1 (v := (Value.int .u8 x12.e0)) Tryd.underlying5 rfl rfl (hL31.at 0 rfl rfl) rfl ⟨rfl, rfl⟩)) ?_
      refine LateP.cons (i := 18) rfl rfl (GOp.op (OpY.indexAddr_arr (i := 1) (q := 1) Tryd.underlying39 ti5 rfl rfl (by decide) rfl ⟨rfl, rfl⟩)) ?_
      refine LateP.cons (i := 19) rfl rfl (GOp.op (OpY.ldBox1 (v := (Value.int .u8 x12.e1)) Tryd.underlying5 rfl rfl (hL31.at 0 rfl rfl) rfl ⟨rfl, rfl⟩)) ?_
      refine LateP.cons (i := 20) rfl rfl (GOp.op (OpY.ixor (x := x12.e0) (y := x12.e1) rfl rfl ⟨rfl, rfl⟩)) ?_
      refine LateP.cons (i := 21) rfl rfl (GOp.op (OpY.indexAddr_arr (i := 2) (q := 2) Tryd.underlying39 ti5 rfl rfl (by decide) rfl ⟨rfl, rfl⟩)) ?_
      refine LateP.cons (i := 22) rfl rfl (GOp.op (OpY.ldBox1 (v := (Value.int .u8 x12.e2)) Tryd.underlying5 rfl rfl (hL31.at 0 rfl rfl) rfl ⟨rfl, rfl⟩)) ?_
      refine LateP.cons (i := 23) rfl rfl (GOp.op (OpY.ixor (x := (bxor .u8 x12.e0 x12.e1)) (y := x12.e2) rfl rfl ⟨rfl, rfl⟩)) ?_
      exact LateP.nil
     refine RlF.op rfl ?_
     intro w27 V13 hE27 hp18
     have hL32 := hL30.ext hE27
     have K27 := ke hL30 hE27
     have f24 : Rs (rInt .u8) (Hv w.heap.size None [some b13, ob18, ob19, ob20, ob17] w27) (V13 24) [(bxor .u8 (bxor .u8 x12.e0 x12.e1) x12.e2)] := hp18 (24, 47) (by decide) rfl
     obtain ⟨x16, q36, h⟩ := bind_some h
     obtain ⟨q37, q38, q39⟩ := apnd_some q36
     obtain ⟨ds13, q40, q41⟩ := Rs.src f24
     have f25 := ((((((((((hE15.mono (K18 None)).mono (K19 None)).mono (K20 None)).mono (K21 None)).mono (K22 None)).mono (K23 None)).mono (K24 None)).mono (K25 None)).mono (K26 None)).mono (K27 None))
     refine OpY.apRowX (r := (rInt .u8)) (H := (Hv w.heap.size None [some b13, ob18, ob19, ob20, ob17] w27)) (cs := cs17) (sp := sp17) (xs := d11) (ys := [(bxor .u8 (bxor .u8 x12.e0 x12.e1) x12.e2)]) (Y := x16) (n := (List.length d11)) (cap := cap17) (i := 4) Tryd.underlying22 ti5 rfl rfl rfl rfl hL32 rfl rfl f25 rfl hc15 q40 (Els.anyH (fun _ _ _ _ h => h) q41) q37 q38 q39 ?_
     intro ob21 cap21 sp21 cs21 w28 hE28 hc20 (hL33 : Go.X.Loc [] [] w w28 [some b13, ob18, ob19, ob20, ob21] [Cont.cells [(Value.int .u8 x12.e0), (Value.int .u8 x12.e1), (Value.int .u8 x12.e2)], Cont.cells ([] ++ (cs18 ++ sp18)), Cont.cells ([] ++ (cs19 ++ sp19)), Cont.cells ([] ++ (cs20 ++ sp20)), Cont.cells ([] ++ (cs21 ++ sp21))]) hS15
     have K28 := ks w hS15
     refine ⟨_, hS15, (fun b hb => hL33.own.lt b hb), hL33.size, ?_⟩
     refine ⟨?_, ?_⟩
     ·
      intro w29 hE29
      have hL34 := hL33.ext hE29
      refine LateP.cons (i := 1) rfl rfl (GOp.op (OpY.indexAddr_arr (i := 0) (q := 0) Tryd.underlying39 ti5 rfl rfl (by decide) rfl ⟨rfl, rfl⟩)) ?_
      refine LateP.cons (i := 2) rfl rfl (GOp.op (OpY.ldBox1 (v := (Value.int .u8 x12.e0)) Tryd.underlying5 rfl rfl (hL34.at 0 rfl rfl) rfl ⟨rfl, rfl⟩)) ?_
      refine LateP.cons (i := 6) rfl rfl (GOp.op (OpY.indexAddr_arr (i := 1) (q := 1) Tryd.underlying39 ti5 rfl rfl (by decide) rfl ⟨rfl, rfl⟩)) ?_
      refine LateP.cons (i := 7) rfl rfl (GOp.op (OpY.ldBox1 (v := (Value.int .u8 x12.e1)) Tryd.underlying5 rfl rfl (hL34.at 0 rfl rfl) rfl ⟨rfl, rfl⟩)) ?_
      refine LateP.cons (i := 11) rfl rfl (GOp.op (OpY.indexAddr_arr (i := 2) (q := 2) Tryd.underlying39 ti5 rfl rfl (by decide) rfl ⟨rfl, rfl⟩)) ?_
      refine LateP.cons (i := 12) rfl rfl (GOp.op (OpY.ldBox1 (v := (Value.int .u8 x12.e2)) Tryd.underlying5 rfl rfl (hL34.at 0 rfl rfl) rfl ⟨rfl, rfl⟩)) ?_
      refine LateP.cons (i := 16) rfl rfl (GOp.op (OpY.indexAddr_arr (i := 0) (q := 0) Tryd.underlying39 ti5 rfl rfl (by decide) rfl ⟨rfl, rfl⟩)) ?_
      refine LateP.cons (i := 17) rfl rfl (GOp.op (OpY.ldBox1 (v := (Value.int .u8 x12.e0)) Tryd.underlying5 rfl rfl (hL34.at 0 rfl rfl) rfl ⟨rfl, rfl⟩)) ?_
      refine LateP.cons (i := 18) rfl rfl (GOp.op (OpY.indexAddr_arr (i := 1) (q := 1) Tryd.underlying39 ti5 rfl rfl (by decide) rfl ⟨rfl, rfl⟩)) ?_
      refine LateP.cons (i := 19) rfl rfl (GOp.op (OpY.ldBox1 (v := (Value.int .u8 x12.e1)) Tryd.underlying5 rfl rfl (hL34.at 0 rfl rfl) rfl ⟨rfl, rfl⟩)) ?_
      refine LateP.cons (i := 20) rfl rfl (GOp.op (OpY.ixor (x := x12.e0) (y := x12.e1) rfl rfl ⟨rfl, rfl⟩)) ?_
      refine LateP.cons (i := 21) rfl rfl (GOp.op (OpY.indexAddr_arr (i := 2) (q := 2) Tryd.underlying39 ti5 rfl rfl (by decide) rfl ⟨rfl, rfl⟩)) ?_
      refine LateP.cons (i := 22) rfl rfl (GOp.op (OpY.ldBox1 (v := (Value.int .u8 x12.e2)) Tryd.underlying5 rfl rfl (hL34.at 0 rfl rfl) rfl ⟨rfl, rfl⟩)) ?_
      refine LateP.cons (i := 23) rfl rfl (GOp.op (OpY.ixor (x := (bxor .u8 x12.e0 x12.e1)) (y := x12.e2) rfl rfl ⟨rfl, rfl⟩)) ?_
      exact LateP.nil
     refine RlF.op rfl ?_
     intro w30 V14 hE30 hp19
     have hL35 := hL33.ext hE30
     have K29 := ke hL33 hE30
     refine OpY.assign (v := (osv ob18 0 (List.length x13) cap18)) rfl ?_
     refine ⟨_, (Step.ext (Ext.refl _)), (fun b hb => hL35.own.lt b hb), hL35.size, ?_⟩
     refine ⟨?_, ?_⟩
     ·
      intro w31 hE31
      have hL36 := hL35.ext hE31
      refine LateP.cons (i := 6) rfl rfl (GOp.op (OpY.indexAddr_arr (i := 1) (q := 1) Tryd.underlying39 ti5 rfl rfl (by decide) rfl ⟨rfl, rfl⟩)) ?_
      refine LateP.cons (i := 7) rfl rfl (GOp.op (OpY.ldBox1 (v := (Value.int .u8 x12.e1)) Tryd.underlying5 rfl rfl (hL36.at 0 rfl rfl) rfl ⟨rfl, rfl⟩)) ?_
      refine LateP.cons (i := 11) rfl rfl (GOp.op (OpY.indexAddr_arr (i := 2) (q := 2) Tryd.underlying39 ti5 rfl rfl (by decide) rfl ⟨rfl, rfl⟩)) ?_
      refine LateP.cons (i := 12) rfl rfl (GOp.op (OpY.ldBox1 (v := (Value.int .u8 x12.e2)) Tryd.underlying5 rfl rfl (hL36.at 0 rfl rfl) rfl ⟨rfl, rfl⟩)) ?_
      refine LateP.cons (i := 16) rfl rfl (GOp.op (OpY.indexAddr_arr (i := 0) (q := 0) Tryd.underlying39 ti5 rfl rfl (by decide) rfl ⟨rfl, rfl⟩)) ?_
      refine LateP.cons (i := 17) rfl rfl (GOp.op (OpY.ldBox1 (v := (Value.int .u8 x12.e0)) Tryd.underlying5 rfl rfl (hL36.at 0 rfl rfl) rfl ⟨rfl, rfl⟩)) ?_
      refine LateP.cons (i := 18) rfl rfl (GOp.op (OpY.indexAddr_arr (i := 1) (q := 1) Tryd.underlying39 ti5 rfl rfl (by decide) rfl ⟨rfl, rfl⟩)) ?_
      refine LateP.cons (i := 19) rfl rfl (GOp.op (OpY.ldBox1 (v := (Value.int .u8 x12.e1)) Tryd.underlying5 rfl rfl (hL36.at 0 rfl rfl) rfl ⟨rfl, rfl⟩)) ?_
      refine LateP.cons (i := 20) rfl rfl (GOp.op (OpY.ixor (x := x12.e0) (y := x12.e1) rfl rfl ⟨rfl, rfl⟩)) ?_
      refine LateP.cons (i := 21) rfl rfl (GOp.op (OpY.indexAddr_arr (i := 2) (q := 2) Tryd.underlying39 ti5 rfl rfl (by decide) rfl ⟨rfl, rfl⟩)) ?_
      refine LateP.cons (i := 22) rfl rfl (GOp.op (OpY.ldBox1 (v := (Value.int .u8 x12.e2)) Tryd.underlying5 rfl rfl (hL36.at 0 rfl rfl) rfl ⟨rfl, rfl⟩)) ?_
      refine LateP.cons (i := 23) rfl rfl (GOp.op (OpY.ixor (x := (bxor .u8 x12.e0 x12.e1)) (y := x12.e2) rfl rfl ⟨rfl, rfl⟩)) ?_
      exact LateP.nil
     refine RlF.op rfl ?_
     intro w32 V15 hE32 hp20
     have hL37 := hL35.ext hE32
     have K30 := ke hL35 hE32
     refine OpY.assign (v := (osv ob19 0 (List.length x14) cap19)) rfl ?_
     refine ⟨_, (Step.ext (Ext.refl _)), (fun b hb => hL37.own.lt b hb), hL37.size, ?_⟩
     refine ⟨?_, ?_⟩
     ·
      intro w33 hE33
      have hL38 := hL37.ext hE33
      refine LateP.cons (i := 11) rfl rfl (GOp.op (OpY.indexAddr_arr (i := 2) (q := 2) Tryd.underlying39 ti5 rfl rfl (by decide) rfl ⟨rfl, rfl⟩)) ?_
      refine LateP.cons (i := 12) rfl rfl (GOp.op (OpY.ldBox1 (v := (Value.int .u8 x12.e2)) Tryd.underlying5 rfl rfl (hL38.at 0 rfl rfl) rfl ⟨rfl, rfl⟩)) ?_
      refine LateP.cons (i := 16) rfl rfl (GOp.op (OpY.indexAddr_arr (i := 0) (q := 0) Tryd.underlying39 ti5 rfl rfl (by decide) rfl ⟨rfl, rfl⟩)) ?_
      refine LateP.cons (i := 17) rfl rfl (GOp.op (OpY.ldBox1 (v := (Value.int .u8 x12.e0)) Tryd.underlying5 rfl rfl (hL38.at 0 rfl rfl) rfl ⟨rfl, rfl⟩)) ?_
      refine LateP.cons (i := 18) rfl rfl (GOp.op (OpY.indexAddr_arr (i := 1) (q := 1) Tryd.underlying39 ti5 rfl rfl (by decide) rfl ⟨rfl, rfl⟩)) ?_
      refine LateP.cons (i := 19) rfl rfl (GOp.op (OpY.ldBox1 (v := (Value.int .u8 x12.e1)) Tryd.underlying5 rfl rfl (hL38.at 0 rfl rfl) rfl ⟨rfl, rfl⟩)) ?_
      refine LateP.cons (i := 20) rfl rfl (GOp.op (OpY.ixor (x := x12.e0) (y := x12.e1) rfl rfl ⟨rfl, rfl⟩)) ?_
      refine LateP.cons (i := 21) rfl rfl (GOp.op (OpY.indexAddr_arr (i := 2) (q := 2) Tryd.underlying39 ti5 rfl rfl (by decide) rfl ⟨rfl, rfl⟩)) ?_
      refine LateP.cons (i := 22) rfl rfl (GOp.op (OpY.ldBox1 (v := (Value.int .u8 x12.e2)) Tryd.underlying5 rfl rfl (hL38.at 0 rfl rfl) rfl ⟨rfl, rfl⟩)) ?_
      refine LateP.cons (i := 23) rfl rfl (GOp.op (OpY.ixor (x := (bxor .u8 x12.e0 x12.e1)) (y := x12.e2) rfl rfl ⟨rfl, rfl⟩)) ?_
      exact LateP.nil
     refine RlF.op rfl ?_
     intro w34 V16 hE34 hp21
     have hL39 := hL37.ext hE34
     have K31 := ke hL37 hE34
     refine OpY.assign (v := (osv ob20 0 (List.length x15) cap20)) rfl ?_
     refine ⟨_, (Step.ext (Ext.refl _)), (fun b hb => hL39.own.lt b hb), hL39.size, ?_⟩
     refine ⟨?_, ?_⟩
     ·
      intro w35 hE35
      have hL40 := hL39.ext hE35
      refine LateP.cons (i := 16) rfl rfl (GOp.op (OpY.indexAddr_arr (i := 0) (q := 0) Tryd.underlying39 ti5 rfl rfl (by decide) rfl ⟨rfl, rfl⟩)) ?_
      refine LateP.cons (i := 17) rfl rfl (GOp.op (OpY.ldBox1 (v := (Value.int .u8 x12.e0)) Tryd.underlying5 rfl rfl (hL40.at 0 rfl rfl) rfl ⟨rfl, rfl⟩)) ?_
      refine LateP.cons (i := 18) rfl rfl (GOp.op (OpY.indexAddr_arr (i := 1) (q := 1) Tryd.underlying39 ti5 rfl rfl (by decide) rfl ⟨rfl, rfl⟩)) ?_
      refine LateP.cons (i := 19) rfl rfl (GOp.op (OpY.ldBox1 (v := (Value.int .u8 x12.e1)) Tryd.underlying5 rfl rfl (hL40.at 0 rfl rfl) rfl ⟨rfl, rfl⟩)) ?_
      refine LateP.cons (i := 20) rfl rfl (GOp.op (OpY.ixor (x := x12.e0) (y := x12.e1) rfl rfl ⟨rfl, rfl⟩)) ?_
      refine LateP.cons (i := 21) rfl rfl (GOp.op (OpY.indexAddr_arr (i := 2) (q := 2) Tryd.underlying39 ti5 rfl rfl (by decide) rfl ⟨rfl, rfl⟩)) ?_
      refine LateP.cons (i := 22) rfl rfl (GOp.op (OpY.ldBox1 (v := (Value.int .u8 x12.e2)) Tryd.underlying5 rfl rfl (hL40.at 0 rfl rfl) rfl ⟨rfl, rfl⟩)) ?_
      refine LateP.cons (i := 23) rfl rfl (GOp.op (OpY.ixor (x := (bxor .u8 x12.e0 x12.e1)) (y := x12.e2) rfl rfl ⟨rfl, rfl⟩)) ?_
      exact LateP.nil
     refine RlF.op rfl ?_
     intro w36 V17 hE36 hp22
     have hL41 := hL39.ext hE36
     have K32 := ke hL39 hE36
     refine OpY.assign (v := (osv ob21 0 (List.length x16) cap21)) rfl ?_
     refine ⟨_, (Step.ext (Ext.refl _)), (fun b hb => hL41.own.lt b hb), hL41.size, ?_⟩
     refine ⟨?_, ?_⟩
     ·
      intro w37 hE37
      exact LateP.nil
     intro w38 V18 hE38
     have hL42 := hL41.ext hE38
     have K33 := ke hL41 hE38
     refine Swp.pop_blk (Swp.region rfl (Rl.op (OpY.add (x := x11) (y := 1) (z := (iw (x11 + 1))) rfl rfl rfl ?_)))
     refine Rl.op (OpY.move (v := (Value.int .i64 (iw (x11 + 1)))) rfl ?_)
     refine Rl.nil ?_
     have hp23 := hL42.pick [1, 2, 3, 4] rfl rfl rfl
     have hL43 : Go.X.Loc [] [] w w38 [ob18, ob19, ob20, ob21] [Cont.cells ([] ++ (cs18 ++ sp18)), Cont.cells ([] ++ (cs19 ++ sp19)), Cont.cells ([] ++ (cs20 ++ sp20)), Cont.cells ([] ++ (cs21 ++ sp21))] := hp23.1
     have K34 := ks w hp23.2
     have f26 := (((((((((((((hE19.mono (K22 None)).mono (K23 None)).mono (K24 None)).mono (K25 None)).mono (K26 None)).mono (K27 None)).mono (K28 None)).mono (K29 None)).mono (K30 None)).mono (K31 None)).mono (K32 None)).mono (K33 None)).mono (K34 None))
     have f27 := (((((((((((hE22.mono (K24 None)).mono (K25 None)).mono (K26 None)).mono (K27 None)).mono (K28 None)).mono (K29 None)).mono (K30 None)).mono (K31 None)).mono (K32 None)).mono (K33 None)).mono (K34 None))
     have f28 := (((((((((hE25.mono (K26 None)).mono (K27 None)).mono (K28 None)).mono (K29 None)).mono (K30 None)).mono (K31 None)).mono (K32 None)).mono (K33 None)).mono (K34 None))
     have f29 := (((((((hE28.mono (K28 None)).mono (K29 None)).mono (K30 None)).mono (K31 None)).mono (K32 None)).mono (K33 None)).mono (K34 None))
     obtain rfl := Option.some.inj h
     refine Swp.pop_back ⟨(x13, x14, x15, x16, (iw (x11 + 1))), rfl, ?_⟩
     exact ⟨ob18, cap18, sp18, cs18, (List.length x13), ob19, cap19, sp19, cs19, (List.length x14), ob20, cap20, sp20, cs20, (List.length x15), ob21, cap21, sp21, cs21, (List.length x16), _, (upds_sym ⟨rfl, rfl, rfl, rfl, rfl, rfl, rfl, trivial⟩), hL43, (Keep.trans (Keep.trans (Keep.trans (Keep.trans (Keep.trans (Keep.trans (Keep.trans (Keep.trans (Keep.trans (Keep.trans (Keep.trans (Keep.trans (Keep.trans (Keep.trans (Keep.trans (Keep.trans (Keep.trans K17 K18) K19) K20) K21) K22) K23) K24) K25) K26) K27) K28) K29) K30) K31) K32) K33) K34), f26, rfl, hc17, f27, rfl, hc18, f28, rfl, hc19, f29, rfl, hc20, trivial⟩
    ·
     replace h := ite_f hc16 h
     refine Swp.exit rfl ?_
     obtain rfl := Option.some.inj h
     obtain rfl := hd10 _ rfl
     replace h := g11
     try dsimp only at h
     skip
     refine Swp.pop_back ?_
     exact ⟨a11, b11, c11, d11, ob14, cap14, sp14, cs14, (List.length a11), ob15, cap15, sp15, cs15, (List.length b11), ob16, cap16, sp16, cs16, (List.length c11), ob17, cap17, sp17, cs17, (List.length d11), _, rfl, (upds_sym ⟨rfl, rfl, rfl, rfl, trivial⟩), hL18, K17, hE12, rfl, hc12, hE13, rfl, hc13, hE14, rfl, hc14, hE15, rfl, hc15, trivial⟩
   ·
    rintro _ w39 ⟨a10, b10, c10, d10, ob10, cap10, sp10, cs10, ln10, ob11, cap11, sp11, cs11, ln11, ob12, cap12, sp12, cs12, ln12, ob13, cap13, sp13, cs13, ln13, u, rfl, rfl, hL44, K35, hE39, rfl, hc21, hE40, rfl, hc22, hE41, rfl, hc23, hE42, rfl, hc24, -⟩
    replace h := g11
    try dsimp only at h
    refine Swp.seq (Swp.region rfl (Rl.op (OpY.move (v := (osv ob13 0 (List.length d10) cap13)) rfl ?_)))
    obtain ⟨r12, q42, h⟩ := bind_some h
    refine Rl.op (OpY.call en12 rfl rfl (ckSum_w N d10 (osv ob13 0 (List.length d10) cap13) _ Any (own_row_any (pre := []) (o := 0) (n := (List.length d10)) (cap := cap13) (hL44.at 3 rfl rfl) hE42 vw_any rfl rfl rfl hc24) r12 q42) ?_)
    rintro _ w40 hE43 ⟨rfl, -⟩
    have hL45 := hL44.ext hE43
    have K36 := ke hL44 hE43
    refine Rl.op (OpY.move (v := (osv ob10 0 (List.length a10) cap10)) rfl ?_)
    obtain ⟨r13, q43, h⟩ := bind_some h
    have f30 := (hE39.mono (K36 None))
    refine Rl.op (OpY.call en12 rfl rfl (ckSum_w N a10 (osv ob10 0 (List.length a10) cap10) _ Any (own_row_any (pre := []) (o := 0) (n := (List.length a10)) (cap := cap10) (hL45.at 0 rfl rfl) f30 vw_any rfl rfl rfl hc21) r13 q43) ?_)
    rintro _ w41 hE44 ⟨rfl, -⟩
    have hL46 := hL45.ext hE44
    have K37 := ke hL45 hE44
    refine Rl.op (OpY.move (v := (osv ob11 0 (List.length b10) cap11)) rfl ?_)
    obtain ⟨r14, q44, h⟩ := bind_some h
    have f31 := ((hE40.mono (K36 None)).mono (K37 None))
    refine Rl.op (OpY.call en12 rfl rfl (ckSum_w N b10 (osv ob11 0 (List.length b10) cap11) _ Any (own_row_any (pre := []) (o := 0) (n := (List.length b10)) (cap := cap11) (hL46.at 1 rfl rfl) f31 vw_any rfl rfl rfl hc22) r14 q44) ?_)
    rintro _ w42 hE45 ⟨rfl, -⟩
    have hL47 := hL46.ext hE45
    have K38 := ke hL46 hE45
    refine Rl.op (OpY.ixor (x := r13) (y := r14) rfl rfl ?_)
    refine Rl.op (OpY.move (v := (osv ob12 0 (List.length c10) cap12)) rfl ?_)
    obtain ⟨r15, q45, h⟩ := bind_some h
    have f32 := (((hE41.mono (K36 None)).mono (K37 None)).mono (K38 None))
    refine Rl.op (OpY.call en12 rfl rfl (ckSum_w N c10 (osv ob12 0 (List.length c10) cap12) _ Any (own_row_any (pre := []) (o := 0) (n := (List.length c10)) (cap := cap12) (hL47.at 2 rfl rfl) f32 vw_any rfl rfl rfl hc23) r15 q45) ?_)
    rintro _ w43 hE46 ⟨rfl, -⟩
    have hL48 := hL47.ext hE46
    refine Rl.op (OpY.ixor (x := (bxor .u64 r13 r14)) (y := r15) rfl rfl ?_)
    refine Rl.op (OpY.eql (x := r12) (y := (bxor .u64 (bxor .u64 r13 r14) r15)) ((r12 : Int) = (bxor .u64 (bxor .u64 r13 r14) r15)) rfl rfl Iff.rfl ?_)
    refine Rl.op (OpY.assign (v := (Value.bool (decide ((r12 : Int) = (bxor .u64 (bxor .u64 r13 r14) r15))))) rfl ?_)
    refine Rl.nil (Swp.ret ?_)
    obtain rfl := Option.some.inj h
    refine ⟨[(Value.bool (decide ((r12 : Int) = (bxor .u64 (bxor .u64 r13 r14) r15))))], ⟨rfl, trivial⟩, ⟨_, rfl, hL48.done, ?_⟩⟩
    exact ⟨rfl, trivial⟩
end Go.Proofs.YtpfbdhfpojbmlaaDoor.W06

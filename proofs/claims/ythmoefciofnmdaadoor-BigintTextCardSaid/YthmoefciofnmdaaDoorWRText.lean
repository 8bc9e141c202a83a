/- Walks, written by a program of mine (wip/tool); the kernel checks them. -/
import Derived.Test.YthmoefciofnmdaaDoorProg
import Derived.Test.YthmoefciofnmdaaDoorZ7
import Derived.Test.YthmoefciofnmdaaDoorF2
import Derived.Test.YthmoefciofnmdaaDoorZ12
import Derived.Test.YthmoefciofnmdaaDoorPR
import Derived.Test.YthmoefciofnmdaaDoorWAText
set_option maxRecDepth 100000
set_option maxHeartbeats 40000000
set_option linter.unusedVariables false
set_option linter.unusedSimpArgs false
namespace Go.Proofs.YthmoefciofnmdaaDoor.WR
open Go Go.RowKit Go.X Go.D Go.Proofs.YthmoefciofnmdaaDoor.WF Go.Proofs.YthmoefciofnmdaaDoor.WA
theorem ti3 : TI Tryd.prog 3 1 8 (Value.int .i64 0) := TI.mk (by kernel_rfl)
theorem ti22 : TI Tryd.prog 22 1 24 (Value.slice none 0 0) := TI.mk (by kernel_rfl)
theorem en63 : Go.X.Enters Tryd.prog 63 := ⟨Tryd.f63, Tryd.func63, by kernel_rfl, by kernel_rfl⟩
theorem ti4 : TI Tryd.prog 4 1 1 (Value.bool false) := TI.mk (by kernel_rfl)
theorem en51 : Go.X.Enters Tryd.prog 51 := ⟨Tryd.f51, Tryd.func51, by kernel_rfl, by kernel_rfl⟩
theorem en52 : Go.X.Enters Tryd.prog 52 := ⟨Tryd.f52, Tryd.func52, by kernel_rfl, by kernel_rfl⟩
theorem en66 : Go.X.Enters Tryd.prog 66 := ⟨Tryd.f66, Tryd.func66, by kernel_rfl, by kernel_rfl⟩
theorem en61 : Go.X.Enters Tryd.prog 61 := ⟨Tryd.f61, Tryd.func61, by kernel_rfl, by kernel_rfl⟩
theorem en67 : Go.X.Enters Tryd.prog 67 := ⟨Tryd.f67, Tryd.func67, by kernel_rfl, by kernel_rfl⟩
theorem en62 : Go.X.Enters Tryd.prog 62 := ⟨Tryd.f62, Tryd.func62, by kernel_rfl, by kernel_rfl⟩
theorem en50 : Go.X.Enters Tryd.prog 50 := ⟨Tryd.f50, Tryd.func50, by kernel_rfl, by kernel_rfl⟩
theorem ti5 : TI Tryd.prog 5 1 1 (Value.int .u8 0) := TI.mk (by kernel_rfl)
theorem en22 : Go.X.Enters Tryd.prog 22 := ⟨Tryd.f22, Tryd.func22, by kernel_rfl, by kernel_rfl⟩
theorem rtrim_w (N : Nat) (l : (List Int)) (l_v : Value) (w : World) (S : Nat → Prop) (l_h : Rs (rInt .i64) (Hv w.heap.size S [] w) l_v l) (r : (List Int)) (h : rtrim N l = some r) :
  Calls Tryd.prog 63 #[l_v] w (Ret w (fun v w' => ∃ (v0_0 : Value), v0_0 = v ∧ Rs (rInt .i64) (Hv w.heap.size S [] w') v0_0 r ∧ True)) := by
 unfold rtrim at h
 have hL : Go.X.Loc [] [] w w [] [] := Go.X.Loc.begin0 w
 refine calls_of (l := [l_v]) (rl := [.tmp 2]) (n := 21) Tryd.func63 rfl rfl rfl (Nat.le_of_ble_eq_true rfl) ?_
 refine Swp.seq (Swp.region rfl (Rl.op (OpY.assign (v := (Value.slice none 0 0)) rfl ?_)))
 refine Rl.nil (Swp.seq ?_)
 obtain ⟨s10, hl10, g10⟩ := bind_some h
 refine Swp.join (fun e w' => ∃ (l10 : (List Int)) (v10 : Value) (u : Env), l10 = s10 ∧ e = upds [(0, v10)] u ∧ Go.X.Loc [] [] w w' [] [] ∧ Keep w.heap.size [] w [] w' ∧ Rs (rInt .i64) (Hv w.heap.size S [] w') v10 l10 ∧ True) ?_ ?_
 ·
  refine Swp.block ?_
  refine Swp.loopM hl10 (fun (ss : (List Int)) (e : Env) (w' : World) => match ss with | l11 => ∃ (v11 : Value) (u : Env), e = upds [(0, v11)] u ∧ Go.X.Loc [] [] w w' [] [] ∧ Keep w.heap.size [] w [] w' ∧ Rs (rInt .i64) (Hv w.heap.size S [] w') v11 l11 ∧ True) ⟨l_v, _, (upds_sym ⟨rfl, trivial⟩), hL, Keep.refl, l_h, trivial⟩ ?_
  rintro l11 oo _ w10 ⟨v11, u, rfl, hL10, K10, k10, -⟩ h hd10
  rw [rtrim_b1] at h
  refine Swp.seq (Swp.seq ?_)
  obtain ⟨s11, h, g11⟩ := bind_some h
  refine Swp.join (fun e w' => ∃ (x10 : Bool) (u : Env), x10 = s11 ∧ e = upds [(0, v11), (14, (Value.bool x10))] u ∧ Go.X.Loc [] [] w w' [] [] ∧ Keep w.heap.size [] w10 [] w' ∧ True) ?_ ?_
  ·
   refine Swp.region rfl (Rl.op (OpY.move (v := v11) rfl ?_))
   refine Rl.op (OpY.lenRo (v := v11) Tryd.underlying52 rfl k10 ?_)
   refine Rl.op (OpY.gtr (x := (List.length l11 : Int)) (y := 0) (((List.length l11 : Int) : Int) > 0) rfl rfl Iff.rfl ?_)
   refine Rl.op (OpY.move (v := (Value.bool (decide (((List.length l11 : Int) : Int) > 0)))) rfl ?_)
   by_cases hc10 : ((List.length l11 : Int) : Int) > 0
   ·
    replace h := ite_t hc10 h
    refine Rl.yes rfl rfl (decide_eq_true hc10) (OpY.move (v := v11) rfl ?_)
    refine Rl.yes rfl rfl (decide_eq_true hc10) (OpY.move (v := v11) rfl ?_)
    refine Rl.yes rfl rfl (decide_eq_true hc10) (OpY.lenRo (v := v11) Tryd.underlying52 rfl k10 ?_)
    refine Rl.yes rfl rfl (decide_eq_true hc10) (OpY.sub (x := (List.length l11 : Int)) (y := 1) (z := (iw ((List.length l11 : Int) - 1))) rfl rfl rfl ?_)
    obtain ⟨x11, q10, h⟩ := bind_some h
    obtain ⟨n10, q11, q12⟩ := idx_some q10
    obtain ⟨b10, o10, c10, vs10, q13, q14, f10, q15⟩ := Rs.get k10 q12
    obtain rfl := q15
    refine Rl.yes rfl rfl (decide_eq_true hc10) (OpY.ixRoD (r := (rInt .i64)) (v := v11) (n := n10) (m := (o10 + n10 * (rInt .i64).sz)) Tryd.underlying52 ti3 rfl q13 rfl q11 q12 rfl ?_)
    refine Rl.yes rfl rfl (decide_eq_true hc10) (OpY.ldRo1 (v := (Value.int .i64 x11)) Tryd.underlying3 rfl rfl vw_view f10 ?_)
    refine Rl.yes rfl rfl (decide_eq_true hc10) (OpY.eql (x := x11) (y := 0) ((x11 : Int) = 0) rfl rfl Iff.rfl ?_)
    refine Rl.op (OpY.pick_t (t := (decide (((List.length l11 : Int) : Int) > 0))) (v := (Value.bool (decide ((x11 : Int) = 0)))) rfl (decide_eq_true hc10) rfl ?_)
    refine Rl.nil ?_
    obtain rfl := Option.some.inj h
    refine Swp.pop_back ?_
    exact ⟨(decide ((x11 : Int) = 0)), _, rfl, (upds_sym ⟨rfl, rfl, trivial⟩), hL10, Keep.refl, trivial⟩
   ·
    replace h := ite_f hc10 h
    refine Rl.no rfl rfl (decide_eq_false hc10) ?_
    refine Rl.no rfl rfl (decide_eq_false hc10) ?_
    refine Rl.no rfl rfl (decide_eq_false hc10) ?_
    refine Rl.no rfl rfl (decide_eq_false hc10) ?_
    refine Rl.no rfl rfl (decide_eq_false hc10) ?_
    refine Rl.no rfl rfl (decide_eq_false hc10) ?_
    refine Rl.no rfl rfl (decide_eq_false hc10) ?_
    refine Rl.op (OpY.pick_f (t := (decide (((List.length l11 : Int) : Int) > 0))) (v := (Value.bool false)) rfl (decide_eq_false hc10) rfl ?_)
    refine Rl.nil ?_
    obtain rfl := Option.some.inj h
    refine Swp.pop_back ?_
    exact ⟨false, _, rfl, (upds_sym ⟨rfl, rfl, trivial⟩), hL10, Keep.refl, trivial⟩
  ·
   rintro _ w11 ⟨x10, u, rfl, rfl, hL11, K11, -⟩
   replace h := g11
   try dsimp only at h
   refine Swp.cond_b x10 rfl (fun hc11 => ?_) (fun hc11 => ?_)
   ·
    replace h := ite_t hc11 h
    refine Swp.skip (Swp.block (Swp.region rfl (Rl.op (OpY.move (v := v11) rfl ?_))))
    refine Rl.op (OpY.move (v := v11) rfl ?_)
    have f11 := (k10.mono (K11 S))
    refine Rl.op (OpY.lenRo (v := v11) Tryd.underlying52 rfl f11 ?_)
    refine Rl.op (OpY.sub (x := (List.length l11 : Int)) (y := 1) (z := (iw ((List.length l11 : Int) - 1))) rfl rfl rfl ?_)
    obtain ⟨x12, q16, h⟩ := bind_some h
    obtain ⟨m10, n11, q17, q18, q19, q20, q21⟩ := cut_some q16
    refine Rl.op (OpY.cutRoX (l := m10) (h' := n11) Tryd.underlying52 ti3 rfl f11 (.inl ⟨rfl, by omega⟩) (.inr ⟨_, _, rfl, by rw [← q18]; rfl⟩) q19 q20 q21 ?_)
    intro v12 k11
    refine Rl.op (OpY.assign (v := v12) rfl ?_)
    refine Rl.nil (Swp.pop_blk ?_)
    obtain rfl := Option.some.inj h
    refine Swp.pop_back ⟨x12, rfl, ?_⟩
    exact ⟨v12, _, (upds_sym ⟨rfl, trivial⟩), hL11, (Keep.trans K10 K11), k11, trivial⟩
   ·
    replace h := ite_f hc11 h
    refine Swp.exit rfl ?_
    have f12 := (k10.mono (K11 S))
    obtain rfl := Option.some.inj h
    obtain rfl := hd10 _ rfl
    replace h := g10
    try dsimp only at h
    skip
    refine Swp.pop_back ?_
    exact ⟨l11, v11, _, rfl, (upds_sym ⟨rfl, trivial⟩), hL11, (Keep.trans K10 K11), f12, trivial⟩
 ·
  rintro _ w12 ⟨l10, v10, u, rfl, rfl, hL12, K12, k12, -⟩
  replace h := g10
  try dsimp only at h
  refine Swp.seq (Swp.region rfl (Rl.op (OpY.move (v := v10) rfl ?_)))
  refine Rl.op (OpY.assign (v := v10) rfl ?_)
  refine Rl.nil (Swp.ret ?_)
  obtain rfl := Option.some.inj h
  refine ⟨[v10], ⟨rfl, trivial⟩, ⟨_, rfl, hL12.done, ?_⟩⟩
  exact ⟨v10, rfl, (k12.mono Hv.out), trivial⟩
theorem halves_w (N : Nat) (x : Big) (x_v : Value) (w : World) (S : Nat → Prop) (x_h : Rs (rInt .u32) (Hv w.heap.size S [] w) x_v x.Digits) (r : (List Int)) (h : halves N x = some r) :
  Calls Tryd.prog 51 #[(Value.agg #[(Value.bool x.Negative), x_v])] w (Ret w (fun v w' => ∃ (v0_0 : Value), v0_0 = v ∧ Rs (rInt .i64) (Hv w.heap.size None [] w') v0_0 r ∧ True)) := by
 unfold halves at h
 have hL : Go.X.Loc [] [] w w [] [] := Go.X.Loc.begin0 w
 refine calls_of (l := [(Value.agg #[(Value.bool x.Negative), x_v])]) (rl := [.tmp 2]) (n := 32) Tryd.func51 rfl rfl rfl (Nat.le_of_ble_eq_true rfl) ?_
 refine Swp.seq (Swp.region rfl (Rl.op (OpY.box (cs := [(Value.bool x.Negative), x_v]) rfl rfl hL ?_)))
 intro b1 w2 hL3 hS5
 have K4 := ks w hS5
 refine Rl.op (OpY.assign (v := (Value.slice none 0 0)) rfl ?_)
 refine Rl.nil (Swp.seq (Swp.region rfl (Rl.op (OpY.litRow0 Tryd.underlying52 ti3 hL3 ?_))))
 intro b6 w10 hL10 hS10
 have hE10 : Els (rInt .i64) (Hv w.heap.size None [some b1] w2) [] [] := Els.nil
 have K10 := ks w hS10
 refine Rl.op (OpY.assign (v := (osv (some b6) 0 (List.length ([] : (List Int))) 0)) rfl ?_)
 refine Rl.nil (Swp.seq (Swp.seq (Swp.region rfl (Rl.op (OpY.assign (v := (Value.int .i64 0)) rfl ?_)))))
 refine Rl.nil ?_
 obtain ⟨s10, hl10, g10⟩ := bind_some h
 refine Swp.join (fun e w' => ∃ (l10 : (List Int)) (ob10 : Option Nat) (cap10 : Nat) (sp10 : List Value) (cs10 : List Value) (ln10 : Nat) (u : Env), l10 = s10 ∧ e = upds [(3, (osv ob10 0 ln10 cap10))] u ∧ Go.X.Loc [] [] w w' [ob10] [Cont.cells ([] ++ (cs10 ++ sp10))] ∧ Keep w.heap.size [some b6, some b1] w10 [ob10] w' ∧ Els (rInt .i64) (Hv w.heap.size None [ob10] w') cs10 l10 ∧ ln10 = List.length l10 ∧ (cs10 ++ sp10).length = cap10 * (rInt .i64).sz ∧ True) ?_ ?_
 ·
  refine Swp.block ?_
  have hp10 := hL10.pick [1, 0] rfl rfl rfl
  have hL11 : Go.X.Loc [] [] w w10 [some b1, some b6] [Cont.cells [(Value.bool x.Negative), x_v], Cont.cells ([] ++ ([] ++ []))] := hp10.1
  have K11 := ks w hp10.2
  have f10 := ((hE10.mono (K10 None)).mono (K11 None))
  refine Swp.loopM hl10 (fun (ss : ((List Int) × Int)) (e : Env) (w' : World) => match ss with | (l11, i10) => ∃ (ob11 : Option Nat) (cap11 : Nat) (sp11 : List Value) (cs11 : List Value) (ln11 : Nat) (u : Env), e = upds [(1, (Value.pointer (some ⟨b1, 0, none⟩))), (3, (osv ob11 0 ln11 cap11)), (4, (Value.int .i64 i10))] u ∧ Go.X.Loc [] [] w w' [some b1, ob11] [Cont.cells [(Value.bool x.Negative), x_v], Cont.cells ([] ++ (cs11 ++ sp11))] ∧ Keep w.heap.size [some b6, some b1] w10 [some b1, ob11] w' ∧ Els (rInt .i64) (Hv w.heap.size None [some b1, ob11] w') cs11 l11 ∧ ln11 = List.length l11 ∧ (cs11 ++ sp11).length = cap11 * (rInt .i64).sz ∧ True) ⟨some b6, 0, [], [], (List.length ([] : (List Int))), _, (upds_sym ⟨rfl, rfl, rfl, trivial⟩), hL11, K11, f10, rfl, (show ([] ++ [] : List Value).length = 0 * (rInt .i64).sz by simp), trivial⟩ ?_
  rintro ⟨l11, i10⟩ oo _ w11 ⟨ob11, cap11, sp11, cs11, ln11, u, rfl, hL12, K12, hE11, rfl, hc10, -⟩ h hd10
  rw [halves_b1] at h
  refine Swp.seq (Swp.seq (Swp.region rfl (Rl.op (OpY.move (v := (Value.int .i64 i10)) rfl ?_))))
  refine Rl.op (OpY.fieldAddr (q := 1) Tryd.underlying24 rfl ti22 rfl rfl rfl ?_)
  refine Rl.op (OpY.ldBox1 (v := x_v) Tryd.underlying22 rfl rfl (hL12.at 0 rfl rfl) rfl ?_)
  have f11 := (((x_h.mono (K4 S)).mono (K10 S)).mono (K12 S))
  refine Rl.op (OpY.lenRo (v := x_v) Tryd.underlying22 rfl f11 ?_)
  refine Rl.op (OpY.lss (x := i10) (y := (List.length x.Digits : Int)) ((i10 : Int) < (List.length x.Digits : Int)) rfl rfl Iff.rfl ?_)
  refine Rl.nil ?_
  refine Swp.cond_d ((i10 : Int) < (List.length x.Digits : Int)) rfl (fun hc11 => ?_) (fun hc11 => ?_)
  ·
   replace h := ite_t hc11 h
   refine Swp.skip (Swp.seq (Swp.block ?_))
   obtain ⟨x10, q10, h⟩ := bind_some h
   obtain ⟨n10, q11, q12⟩ := idx_some q10
   obtain ⟨b10, o10, c10, vs10, q13, q14, f12, q15⟩ := Rs.get f11 q12
   obtain rfl := q15
   obtain ⟨x11, q16, h⟩ := bind_some h
   obtain ⟨n11, q17, q18⟩ := idx_some q16
   obtain ⟨b11, o11, c11, vs11, q19, q20, f13, q21⟩ := Rs.get f11 q18
   obtain rfl := q21
   refine Swp.drawL 16 [] [] (fun W1 => [.det (osv ob11 0 (List.length l11) cap11), .det (Value.pointer (some ⟨b1, 1, none⟩)), .det x_v, .det (Value.int .i64 i10), .det (Value.pointer (some ⟨b10, (o10 + n10 * (rInt .u32).sz), none⟩)), .det (Value.int .u32 x10), .det (Value.int .u32 (Int.tmod x10 65536)), .det (Value.int .i64 (iw (Int.tmod x10 65536))), .det (Value.pointer (some ⟨b1, 1, none⟩)), .det x_v, .det (Value.int .i64 i10), .det (Value.pointer (some ⟨b11, (o11 + n11 * (rInt .u32).sz), none⟩)), .det (Value.int .u32 x11), .det (Value.int .u32 (uw32 (Int.tdiv x11 65536))), .det (Value.int .i64 (iw (uw32 (Int.tdiv x11 65536)))), .rel (fun v Z w' => ∃ b12 cs12, (osv (some b12) 0 2 2) = v ∧ OwnC w' (some b12) (Cont.cells ([] ++ (cs12 ++ []))) ∧ Els (rInt .i64) (Zv W1 w.heap.size None [some b1, ob11] Z w') cs12 [(iw (Int.tmod x10 65536)), (iw (uw32 (Int.tdiv x11 65536)))] ∧ (cs12 ++ [] : List Value).length = 2 * (rInt .i64).sz ∧ True) footV]) mixed rfl rfl rfl (fun _ => rfl) (fun _ => rfl) ?_ ?_
   ·
    intro W1 _
    exact ⟨fun v Z Z' w w' hΦ hz _ _ hs => by obtain ⟨b12, cs12, rfl, hO10, hE12, hc12, -⟩ := hΦ; exact ⟨b12, cs12, rfl, (hO10.stay (fun b hb => by cases hb; exact List.mem_cons_self) hs), (hE12.mono (Zv.stay hz hs)), hc12, trivial⟩, trivial⟩
   ·
    intro w12 hE13
    have hL13 := hL12.ext hE13
    have K13 := ke hL12 hE13
    refine DrH.de (fun _ _ => GOp.op (OpY.move rfl (er rfl))) ?_
    refine DrH.de (fun _ _ => GOp.op (OpY.fieldAddr Tryd.underlying24 rfl ti22 rfl rfl rfl (er rfl))) ?_
    refine DrH.de (fun _ hE16 => GOp.op (OpY.ldBox1 Tryd.underlying22 rfl rfl ((hL13.ext hE16).at 0 rfl rfl) rfl (er rfl))) ?_
    refine DrH.de (fun _ _ => GOp.op (OpY.move rfl (er rfl))) ?_
    refine DrH.de (fun _ _ => GOp.op (OpY.ixRoD (r := (rInt .u32)) (v := x_v) (n := n10) (m := (o10 + n10 * (rInt .u32).sz)) Tryd.underlying22 ti47 rfl q13 rfl q11 q12 rfl (er rfl))) ?_
    refine DrH.de (fun _ hE19 => GOp.op (OpY.ldRo1 Tryd.underlying47 rfl rfl vw_view (At.mono ((ke hL13 hE19) S) (At.mono (K13 S) f12)) (er rfl))) ?_
    refine DrH.de (fun _ _ => GOp.op (OpY.remI (x := x10) (y := 65536) rfl rfl (by decide) (er rfl))) ?_
    refine DrH.de (fun _ _ => GOp.op (OpY.convInt Tryd.underlying47 Tryd.underlying3 rfl rfl (er rfl))) ?_
    refine DrH.de (fun _ _ => GOp.op (OpY.fieldAddr Tryd.underlying24 rfl ti22 rfl rfl rfl (er rfl))) ?_
    refine DrH.de (fun _ hE23 => GOp.op (OpY.ldBox1 Tryd.underlying22 rfl rfl ((hL13.ext hE23).at 0 rfl rfl) rfl (er rfl))) ?_
    refine DrH.de (fun _ _ => GOp.op (OpY.move rfl (er rfl))) ?_
    refine DrH.de (fun _ _ => GOp.op (OpY.ixRoD (r := (rInt .u32)) (v := x_v) (n := n11) (m := (o11 + n11 * (rInt .u32).sz)) Tryd.underlying22 ti47 rfl q19 rfl q17 q18 rfl (er rfl))) ?_
    refine DrH.de (fun _ hE26 => GOp.op (OpY.ldRo1 Tryd.underlying47 rfl rfl vw_view (At.mono ((ke hL13 hE26) S) (At.mono (K13 S) f13)) (er rfl))) ?_
    refine DrH.de (fun _ _ => GOp.op (OpY.quoI (x := x11) (y := 65536) (z := (uw32 (Int.tdiv x11 65536))) rfl rfl (by decide) rfl (er rfl))) ?_
    refine DrH.de (fun _ _ => GOp.op (OpY.convInt Tryd.underlying47 Tryd.underlying3 rfl rfl (er rfl))) ?_
    refine DrH.rel ?_ ?_
    ·
     rintro w28 Z29 hE29 hZ25 ⟨-⟩
     have hE30 : Els (rInt .i64) (Zv w12 w.heap.size None [some b1, ob11] Z29 w28) [(Value.int .i64 (iw (Int.tmod x10 65536))), (Value.int .i64 (iw (uw32 (Int.tdiv x11 65536))))] [(iw (Int.tmod x10 65536)), (iw (uw32 (Int.tdiv x11 65536)))] := (Els.cons (a := [(Value.int .i64 (iw (Int.tmod x10 65536)))]) rfl (Els.cons (a := [(Value.int .i64 (iw (uw32 (Int.tdiv x11 65536))))]) rfl Els.nil))
     refine GOp.op (OpY.litRow (r := (rInt .i64)) (vs := [(Value.int .i64 (iw (Int.tmod x10 65536))), (Value.int .i64 (iw (uw32 (Int.tdiv x11 65536))))]) (css := [[(Value.int .i64 (iw (Int.tmod x10 65536)))], [(Value.int .i64 (iw (uw32 (Int.tdiv x11 65536))))]]) (xs := [(iw (Int.tmod x10 65536)), (iw (uw32 (Int.tdiv x11 65536)))]) Tryd.underlying52 ti3 (Nat.le_of_ble_eq_true rfl) rfl rfl ⟨rfl, rfl, ⟨rfl, rfl, trivial⟩⟩ (Nat.le_of_ble_eq_true rfl) hE30 rfl (Go.X.Loc.begin0 w28) ?_)
     intro b12 w29 hc13 hL16 hS11
     have hN10 : NewOwn w28 w29 [some b12] [Cont.cells ([] ++ ([(Value.int .i64 (iw (Int.tmod x10 65536))), (Value.int .i64 (iw (uw32 (Int.tdiv x11 65536))))] ++ []))] := hL16.newOwn [0] rfl rfl rfl
     exact Made.ext hL16.done hZ25 hN10 (fun _ h => h) ⟨b12, [(Value.int .i64 (iw (Int.tmod x10 65536))), (Value.int .i64 (iw (uw32 (Int.tdiv x11 65536))))], rfl, hN10.2.2.1, (hE30.mono (Zv.grow hL16.done)), hc13, trivial⟩
    intro z10
    refine DrH.fin0 ?_
    rintro w30 Z30 hE31 hZ26 ⟨⟨⟨b12, cs12, rfl, hO10, hE12, hc12, -⟩, hB10⟩, -⟩ ap10
    have hB11 : ∀ b, some b ∈ ([some b12] : List (Option Nat)) → w12.heap.size ≤ b ∧ ¬ Z30 b := by
     intro b hb
     rcases List.mem_cons.1 hb with hb' | hb
     ·
      have := hB10 b (by rw [hb']; exact List.mem_cons_self); exact ⟨this.1, this.2.2⟩
     cases hb
    replace hE12 := hE12.mono (Zv.fin hL13 hZ26 hB11)
    have hN11 : NewOwn w12 w30 [some b12] [Cont.cells ([] ++ (cs12 ++ []))] := (NewOwn.cons NewOwn.nil hO10 (fun b hb => (hB11 b (by rw [← hb]; simp)).1) (fun b _ hb => by cases hb))
    have hp11 := hL13.adoptL hE31 hN11
    have hL17 := hp11.1
    have K16 := ks w hp11.2
    obtain ⟨x12, q22, h⟩ := bind_some h
    obtain ⟨q23, q24, q25⟩ := apnd_some q22
    have f14 := ((hE11.mono (K13 None)).mono (K16 None))
    refine Rl.op (OpY.apRowX (r := (rInt .i64)) (H := (Hv w.heap.size None [some b12, some b1, ob11] w30)) (cs := cs11) (sp := sp11) (xs := l11) (ys := [(iw (Int.tmod x10 65536)), (iw (uw32 (Int.tdiv x11 65536)))]) (Y := x12) (n := (List.length l11)) (cap := cap11) (i := 2) Tryd.underlying52 ti3 rfl rfl rfl rfl hL17 rfl rfl f14 rfl hc10 (Src.row (pre := []) (o := 0) (n := 2) (cap := 2) (hL17.at 0 rfl rfl) hE12 rfl rfl rfl) (Els.anyH (fun _ _ _ _ h => h) hE12) q23 q24 q25 ?_)
    intro ob12 cap12 sp12 cs13 w31 hE32 hc14 (hL18 : Go.X.Loc [] [] w w31 [some b12, some b1, ob12] [Cont.cells ([] ++ (cs12 ++ [])), Cont.cells [(Value.bool x.Negative), x_v], Cont.cells ([] ++ (cs13 ++ sp12))]) hS12
    have K17 := ks w hS12
    refine Rl.op (OpY.assign (v := (osv ob12 0 (List.length x12) cap12)) rfl ?_)
    refine Rl.nil (Swp.pop_blk (Swp.region rfl (Rl.op (OpY.move (v := (Value.int .i64 i10)) rfl ?_))))
    refine Rl.op (OpY.add (x := i10) (y := 1) (z := (iw (i10 + 1))) rfl rfl rfl ?_)
    refine Rl.op (OpY.assign (v := (Value.int .i64 (iw (i10 + 1)))) rfl ?_)
    refine Rl.nil ?_
    have hp12 := hL18.pick [1, 2] rfl rfl rfl
    have hL19 : Go.X.Loc [] [] w w31 [some b1, ob12] [Cont.cells [(Value.bool x.Negative), x_v], Cont.cells ([] ++ (cs13 ++ sp12))] := hp12.1
    have K18 := ks w hp12.2
    have f15 := ((hE32.mono (K17 None)).mono (K18 None))
    obtain rfl := Option.some.inj h
    refine Swp.pop_back ⟨(x12, (iw (i10 + 1))), rfl, ?_⟩
    exact ⟨ob12, cap12, sp12, cs13, (List.length x12), _, (upds_sym ⟨rfl, rfl, rfl, trivial⟩), hL19, (Keep.trans (Keep.trans (Keep.trans (Keep.trans K12 K13) K16) K17) K18), f15, rfl, hc14, trivial⟩
  ·
   replace h := ite_f hc11 h
   refine Swp.exit rfl ?_
   have hp13 := hL12.pick [1] rfl rfl rfl
   have hL20 : Go.X.Loc [] [] w w11 [ob11] [Cont.cells ([] ++ (cs11 ++ sp11))] := hp13.1
   have K19 := ks w hp13.2
   have f16 := (hE11.mono (K19 None))
   obtain rfl := Option.some.inj h
   obtain rfl := hd10 _ rfl
   replace h := g10
   try dsimp only at h
   skip
   refine Swp.pop_back ?_
   exact ⟨l11, ob11, cap11, sp11, cs11, (List.length l11), _, rfl, (upds_sym ⟨rfl, trivial⟩), hL20, (Keep.trans K12 K19), f16, rfl, hc10, trivial⟩
 ·
  rintro _ w32 ⟨l10, ob10, cap10, sp10, cs10, ln10, u, rfl, rfl, hL21, K20, hE33, rfl, hc15, -⟩
  replace h := g10
  try dsimp only at h
  refine Swp.seq (Swp.region rfl (Rl.op (OpY.move (v := (osv ob10 0 (List.length l10) cap10)) rfl ?_)))
  have f17 := hL21.freezeRow 0 rfl rfl hE33 rfl rfl rfl hc15
  have hp14 := hL21.pick [] rfl rfl rfl
  have hL22 : Go.X.Loc [] [] w w32 [] [] := hp14.1
  obtain ⟨r10, q26, h⟩ := bind_some h
  refine Rl.op (OpY.call en63 rfl rfl (rtrim_w N l10 (osv ob10 0 (List.length l10) cap10) _ _ (f17.mono Hv.enter) r10 q26) ?_)
  rintro _ w33 hE34 ⟨v10, rfl, k10, -⟩
  replace k10 := k10.mono (Hv.aliasO (S := None) hL22 [])
  have hL23 := hL22.ext hE34
  refine Rl.op (OpY.assign (v := v10) rfl ?_)
  refine Rl.nil (Swp.ret ?_)
  obtain rfl := Option.some.inj h
  refine ⟨[v10], ⟨rfl, trivial⟩, ⟨_, rfl, hL23.done, ?_⟩⟩
  exact ⟨v10, rfl, (k10.mono Hv.out), trivial⟩
theorem rbig_w (N : Nat) (negative : Bool) (l : (List Int)) (l_v : Value) (w : World) (S : Nat → Prop) (l_h : Rs (rInt .i64) (Hv w.heap.size S [] w) l_v l) (r : Big) (h : rbig N negative l = some r) :
  Calls Tryd.prog 52 #[(Value.bool negative), l_v] w (Ret w (fun v w' => ∃ (v0_0 : Value), (Value.agg #[(Value.bool r.Negative), v0_0]) = v ∧ Rs (rInt .u32) (Hv w.heap.size None [] w') v0_0 r.Digits ∧ True)) := by
 unfold rbig at h
 have hL : Go.X.Loc [] [] w w [] [] := Go.X.Loc.begin0 w
 refine calls_of (l := [(Value.bool negative), l_v]) (rl := [.cell 4 24]) (n := 49) Tryd.func52 rfl rfl rfl (Nat.le_of_ble_eq_true rfl) ?_
 refine Swp.seq (Swp.region rfl (Rl.op (OpY.alloc (cs := [(Value.bool false), (Value.slice none 0 0)]) ti24 rfl hL ?_)))
 intro b1 w2 hL3 hS5
 have K4 := ks w hS5
 refine Rl.nil (Swp.seq (Swp.region rfl (Rl.op (OpY.move (v := l_v) rfl ?_))))
 obtain ⟨r6, q7, h⟩ := bind_some h
 have f10 := (l_h.mono (K4 S))
 refine Rl.op (OpY.call en63 rfl rfl (rtrim_w N l l_v _ _ (f10.mono Hv.enter) r6 q7) ?_)
 rintro _ w10 hE10 ⟨v8, rfl, k9, -⟩
 replace k9 := k9.mono (Hv.aliasO (S := S) hL3 [])
 have hL10 := hL3.ext hE10
 refine Rl.op (OpY.assign (v := v8) rfl ?_)
 refine Rl.nil (Swp.seq ?_)
 obtain ⟨s10, h, g10⟩ := bind_some h
 refine Swp.join (fun e w' => ∃ (negative10 : Bool) (b10 : Nat) (u : Env), negative10 = s10 ∧ e = upds [(1, v8), (4, (Value.pointer (some ⟨b1, 0, none⟩))), (5, (Value.pointer (some ⟨b10, 0, none⟩)))] u ∧ Go.X.Loc [] [] w w' [some b1, some b10] [Cont.cells [(Value.bool false), (Value.slice none 0 0)], Cont.cells [(Value.bool negative10), (Value.slice none 0 0)]] ∧ Keep w.heap.size [some b1] w10 [some b1, some b10] w' ∧ True) ?_ ?_
 ·
  refine Swp.region rfl (Rl.op (OpY.move (v := (Value.bool negative)) rfl ?_))
  refine Rl.op (OpY.move (v := (Value.bool negative)) rfl ?_)
  by_cases hc10 : negative = true
  ·
   replace h := ite_t hc10 h
   refine Rl.yes rfl rfl hc10 (OpY.move (v := v8) rfl ?_)
   refine Rl.yes rfl rfl hc10 (OpY.lenRo (v := v8) Tryd.underlying52 rfl k9 ?_)
   refine Rl.yes rfl rfl hc10 (OpY.gtr (x := (List.length r6 : Int)) (y := 0) (((List.length r6 : Int) : Int) > 0) rfl rfl Iff.rfl ?_)
   refine Rl.op (OpY.pick_t (t := negative) (v := (Value.bool (decide (((List.length r6 : Int) : Int) > 0)))) rfl hc10 rfl ?_)
   refine Rl.op (OpY.build (zc := [(Value.bool false), (Value.slice none 0 0)]) (cs := [(Value.bool (decide (((List.length r6 : Int) : Int) > 0))), (Value.slice none 0 0)]) (is := [0]) (vs := [(Value.bool (decide (((List.length r6 : Int) : Int) > 0)))]) (css := [[(Value.bool (decide (((List.length r6 : Int) : Int) > 0)))]]) pl24 ti24 rfl rfl rfl ⟨rfl, trivial⟩ rfl ?_)
   refine Rl.op (OpY.alloc (cs := [(Value.bool false), (Value.slice none 0 0)]) ti24 rfl hL10 ?_)
   intro b11 w11 hL11 hS10
   have K10 := ks w hS10
   refine Rl.op0 (OpY.store (vs := [(Value.bool (decide (((List.length r6 : Int) : Int) > 0))), (Value.slice none 0 0)]) ti24 rfl rfl rfl rfl (ones_cons rfl (ones_cons rfl ones_nil)) hL11 0 rfl rfl (Nat.le_of_ble_eq_true rfl) ?_)
   intro w12 (hL12 : Go.X.Loc [] [] w w12 [some b11, some b1] [Cont.cells [(Value.bool (decide (((List.length r6 : Int) : Int) > 0))), (Value.slice none 0 0)], Cont.cells [(Value.bool false), (Value.slice none 0 0)]]) hS11
   have K11 := ks w hS11
   refine Rl.nil ?_
   have hp10 := hL12.pick [1, 0] rfl rfl rfl
   have hL13 : Go.X.Loc [] [] w w12 [some b1, some b11] [Cont.cells [(Value.bool false), (Value.slice none 0 0)], Cont.cells [(Value.bool (decide (((List.length r6 : Int) : Int) > 0))), (Value.slice none 0 0)]] := hp10.1
   have K12 := ks w hp10.2
   obtain rfl := Option.some.inj h
   refine Swp.pop_back ?_
   exact ⟨(decide (((List.length r6 : Int) : Int) > 0)), b11, _, rfl, (upds_sym ⟨rfl, rfl, rfl, trivial⟩), hL13, (Keep.trans (Keep.trans K10 K11) K12), trivial⟩
  ·
   replace h := ite_f hc10 h
   refine Rl.no rfl rfl (eq_false_of_ne_true hc10) ?_
   refine Rl.no rfl rfl (eq_false_of_ne_true hc10) ?_
   refine Rl.no rfl rfl (eq_false_of_ne_true hc10) ?_
   refine Rl.op (OpY.pick_f (t := negative) (v := (Value.bool false)) rfl (eq_false_of_ne_true hc10) rfl ?_)
   refine Rl.op (OpY.build (zc := [(Value.bool false), (Value.slice none 0 0)]) (cs := [(Value.bool false), (Value.slice none 0 0)]) (is := [0]) (vs := [(Value.bool false)]) (css := [[(Value.bool false)]]) pl24 ti24 rfl rfl rfl ⟨rfl, trivial⟩ rfl ?_)
   refine Rl.op (OpY.alloc (cs := [(Value.bool false), (Value.slice none 0 0)]) ti24 rfl hL10 ?_)
   intro b12 w13 hL14 hS12
   have K13 := ks w hS12
   refine Rl.op0 (OpY.store (vs := [(Value.bool false), (Value.slice none 0 0)]) ti24 rfl rfl rfl rfl (ones_cons rfl (ones_cons rfl ones_nil)) hL14 0 rfl rfl (Nat.le_of_ble_eq_true rfl) ?_)
   intro w14 (hL15 : Go.X.Loc [] [] w w14 [some b12, some b1] [Cont.cells [(Value.bool false), (Value.slice none 0 0)], Cont.cells [(Value.bool false), (Value.slice none 0 0)]]) hS13
   have K14 := ks w hS13
   refine Rl.nil ?_
   have hp11 := hL15.pick [1, 0] rfl rfl rfl
   have hL16 : Go.X.Loc [] [] w w14 [some b1, some b12] [Cont.cells [(Value.bool false), (Value.slice none 0 0)], Cont.cells [(Value.bool false), (Value.slice none 0 0)]] := hp11.1
   have K15 := ks w hp11.2
   obtain rfl := Option.some.inj h
   refine Swp.pop_back ?_
   exact ⟨false, b12, _, rfl, (upds_sym ⟨rfl, rfl, rfl, trivial⟩), hL16, (Keep.trans (Keep.trans K13 K14) K15), trivial⟩
 ·
  rintro _ w15 ⟨negative10, b10, u, rfl, rfl, hL17, K16, -⟩
  replace h := g10
  try dsimp only at h
  refine Swp.seq (Swp.seq (Swp.region rfl (Rl.op (OpY.assign (v := (Value.int .i64 0)) rfl ?_))))
  refine Rl.nil ?_
  obtain ⟨s11, hl10, g11⟩ := bind_some h
  refine Swp.join (fun e w' => ∃ (digits10 : (List Int)) (ob10 : Option Nat) (cap10 : Nat) (sp10 : List Value) (cs10 : List Value) (ln10 : Nat) (u : Env), digits10 = s11 ∧ e = upds [(4, (Value.pointer (some ⟨b1, 0, none⟩))), (5, (Value.pointer (some ⟨b10, 0, none⟩)))] u ∧ Go.X.Loc [] [] w w' [some b1, some b10, ob10] [Cont.cells [(Value.bool false), (Value.slice none 0 0)], Cont.cells [(Value.bool negative10), (osv ob10 0 ln10 cap10)], Cont.cells ([] ++ (cs10 ++ sp10))] ∧ Keep w.heap.size [some b1, some b10] w15 [some b1, some b10, ob10] w' ∧ Els (rInt .u32) (Hv w.heap.size None [some b1, some b10, ob10] w') cs10 digits10 ∧ ln10 = List.length digits10 ∧ (cs10 ++ sp10).length = cap10 * (rInt .u32).sz ∧ True) ?_ ?_
  ·
   refine Swp.block ?_
   have hp12 := hL17.addNil
   have hL18 : Go.X.Loc [] [] w w15 [none, some b1, some b10] [Cont.cells ([] ++ ([] ++ [])), Cont.cells [(Value.bool false), (Value.slice none 0 0)], Cont.cells [(Value.bool negative10), (Value.slice none 0 0)]] := hp12.1
   have K17 := ks w hp12.2
   have hp13 := hL18.pick [1, 2, 0] rfl rfl rfl
   have hL19 : Go.X.Loc [] [] w w15 [some b1, some b10, none] [Cont.cells [(Value.bool false), (Value.slice none 0 0)], Cont.cells [(Value.bool negative10), (osv none 0 (List.length ([] : (List Int))) 0)], Cont.cells ([] ++ ([] ++ []))] := hp13.1
   have K18 := ks w hp13.2
   have f11 := ((Els.nil (r := (rInt .u32))).mono (K18 None))
   refine Swp.loopM hl10 (fun (ss : ((List Int) × Int)) (e : Env) (w' : World) => match ss with | (digits11, i10) => ∃ (ob11 : Option Nat) (cap11 : Nat) (sp11 : List Value) (cs11 : List Value) (ln11 : Nat) (u : Env), e = upds [(1, v8), (4, (Value.pointer (some ⟨b1, 0, none⟩))), (5, (Value.pointer (some ⟨b10, 0, none⟩))), (6, (Value.int .i64 i10))] u ∧ Go.X.Loc [] [] w w' [some b1, some b10, ob11] [Cont.cells [(Value.bool false), (Value.slice none 0 0)], Cont.cells [(Value.bool negative10), (osv ob11 0 ln11 cap11)], Cont.cells ([] ++ (cs11 ++ sp11))] ∧ Keep w.heap.size [some b1, some b10] w15 [some b1, some b10, ob11] w' ∧ Els (rInt .u32) (Hv w.heap.size None [some b1, some b10, ob11] w') cs11 digits11 ∧ ln11 = List.length digits11 ∧ (cs11 ++ sp11).length = cap11 * (rInt .u32).sz ∧ True) ⟨none, 0, [], [], (List.length ([] : (List Int))), _, (upds_sym ⟨rfl, rfl, rfl, rfl, trivial⟩), hL19, (Keep.trans K17 K18), f11, rfl, (show ([] ++ [] : List Value).length = 0 * (rInt .u32).sz by simp), trivial⟩ ?_
   rintro ⟨digits11, i10⟩ oo _ w16 ⟨ob11, cap11, sp11, cs11, ln11, u, rfl, hL20, K19, hE11, rfl, hc11, -⟩ h hd10
   rw [rbig_b1] at h
   refine Swp.seq (Swp.seq (Swp.region rfl (Rl.op (OpY.move (v := (Value.int .i64 i10)) rfl ?_))))
   refine Rl.op (OpY.move (v := v8) rfl ?_)
   have f12 := ((k9.mono (K16 S)).mono (K19 S))
   refine Rl.op (OpY.lenRo (v := v8) Tryd.underlying52 rfl f12 ?_)
   refine Rl.op (OpY.lss (x := i10) (y := (List.length r6 : Int)) ((i10 : Int) < (List.length r6 : Int)) rfl rfl Iff.rfl ?_)
   refine Rl.nil ?_
   refine Swp.cond_d ((i10 : Int) < (List.length r6 : Int)) rfl (fun hc12 => ?_) (fun hc12 => ?_)
   ·
    replace h := ite_t hc12 h
    refine Swp.skip (Swp.seq (Swp.block (Swp.seq (Swp.region rfl (Rl.op (OpY.move (v := v8) rfl ?_))))))
    refine Rl.op (OpY.move (v := (Value.int .i64 i10)) rfl ?_)
    obtain ⟨x10, q10, h⟩ := bind_some h
    obtain ⟨n10, q11, q12⟩ := idx_some q10
    obtain ⟨b13, o10, c10, vs10, q13, q14, f13, q15⟩ := Rs.get f12 q12
    obtain rfl := q15
    refine Rl.op (OpY.ixRoD (r := (rInt .i64)) (v := v8) (n := n10) (m := (o10 + n10 * (rInt .i64).sz)) Tryd.underlying52 ti3 rfl q13 rfl q11 q12 rfl ?_)
    refine Rl.op (OpY.ldRo1 (v := (Value.int .i64 x10)) Tryd.underlying3 rfl rfl vw_view f13 ?_)
    refine Rl.op (OpY.convInt (x := x10) (z := (uw32 x10)) Tryd.underlying3 Tryd.underlying47 rfl rfl ?_)
    refine Rl.op (OpY.assign (v := (Value.int .u32 (uw32 x10))) rfl ?_)
    refine Rl.nil (Swp.seq (Swp.seq (Swp.region rfl (Rl.op (OpY.move (v := (Value.int .i64 i10)) rfl ?_)))))
    refine Rl.op (OpY.add (x := i10) (y := 1) (z := (iw (i10 + 1))) rfl rfl rfl ?_)
    refine Rl.op (OpY.move (v := v8) rfl ?_)
    refine Rl.op (OpY.lenRo (v := v8) Tryd.underlying52 rfl f12 ?_)
    refine Rl.op (OpY.lss (x := (iw (i10 + 1))) (y := (List.length r6 : Int)) (((iw (i10 + 1)) : Int) < (List.length r6 : Int)) rfl rfl Iff.rfl ?_)
    refine Rl.nil ?_
    obtain ⟨s12, h, g12⟩ := bind_some h
    refine Swp.join (fun e w' => ∃ (d10 : Int) (u : Env), d10 = s12 ∧ e = upds [(1, v8), (4, (Value.pointer (some ⟨b1, 0, none⟩))), (5, (Value.pointer (some ⟨b10, 0, none⟩))), (6, (Value.int .i64 i10)), (7, (Value.int .u32 d10))] u ∧ Go.X.Loc [] [] w w' [some b1, some b10, ob11] [Cont.cells [(Value.bool false), (Value.slice none 0 0)], Cont.cells [(Value.bool negative10), (osv ob11 0 (List.length digits11) cap11)], Cont.cells ([] ++ (cs11 ++ sp11))] ∧ Keep w.heap.size [some b1, some b10, ob11] w16 [some b1, some b10, ob11] w' ∧ True) ?_ ?_
    ·
     refine Swp.cond_d (((iw (i10 + 1)) : Int) < (List.length r6 : Int)) rfl (fun hc13 => ?_) (fun hc13 => ?_)
     ·
      replace h := ite_t hc13 h
      refine Swp.region rfl (Rl.op (OpY.move (v := (Value.int .u32 (uw32 x10))) rfl ?_))
      refine Rl.op (OpY.move (v := v8) rfl ?_)
      refine Rl.op (OpY.move (v := (Value.int .i64 i10)) rfl ?_)
      refine Rl.op (OpY.add (x := i10) (y := 1) (z := (iw (i10 + 1))) rfl rfl rfl ?_)
      obtain ⟨x11, q16, h⟩ := bind_some h
      obtain ⟨n11, q17, q18⟩ := idx_some q16
      obtain ⟨b14, o11, c11, vs11, q19, q20, f14, q21⟩ := Rs.get f12 q18
      obtain rfl := q21
      refine Rl.op (OpY.ixRoD (r := (rInt .i64)) (v := v8) (n := n11) (m := (o11 + n11 * (rInt .i64).sz)) Tryd.underlying52 ti3 rfl q19 rfl q17 q18 rfl ?_)
      refine Rl.op (OpY.ldRo1 (v := (Value.int .i64 x11)) Tryd.underlying3 rfl rfl vw_view f14 ?_)
      refine Rl.op (OpY.convInt (x := x11) (z := (uw32 x11)) Tryd.underlying3 Tryd.underlying47 rfl rfl ?_)
      refine Rl.op (OpY.mul (x := 65536) (y := (uw32 x11)) (z := (uw32 (65536 * (uw32 x11)))) rfl rfl rfl ?_)
      refine Rl.op (OpY.add (x := (uw32 x10)) (y := (uw32 (65536 * (uw32 x11)))) (z := (uw32 ((uw32 x10) + (uw32 (65536 * (uw32 x11)))))) rfl rfl rfl ?_)
      refine Rl.op (OpY.assign (v := (Value.int .u32 (uw32 ((uw32 x10) + (uw32 (65536 * (uw32 x11))))))) rfl ?_)
      refine Rl.nil ?_
      obtain rfl := Option.some.inj h
      refine Swp.pop_back ?_
      exact ⟨(uw32 ((uw32 x10) + (uw32 (65536 * (uw32 x11))))), _, rfl, (upds_sym ⟨rfl, rfl, rfl, rfl, rfl, trivial⟩), hL20, Keep.refl, trivial⟩
     ·
      replace h := ite_f hc13 h
      refine Swp.skip ?_
      obtain rfl := Option.some.inj h
      refine Swp.pop_back ?_
      exact ⟨(uw32 x10), _, rfl, (upds_sym ⟨rfl, rfl, rfl, rfl, rfl, trivial⟩), hL20, Keep.refl, trivial⟩
    ·
     rintro _ w17 ⟨d10, u, rfl, rfl, hL21, K20, -⟩
     replace h := g12
     try dsimp only at h
     refine Swp.region rfl (Rl.op (OpY.fieldAddr (q := 1) Tryd.underlying24 rfl ti22 rfl rfl rfl ?_))
     refine Rl.op (OpY.ldBox1 (v := (osv ob11 0 (List.length digits11) cap11)) Tryd.underlying22 rfl rfl (hL21.at 1 rfl rfl) rfl ?_)
     refine Rl.op (OpY.move (v := (Value.int .u32 d10)) rfl ?_)
     have hE12 : Els (rInt .u32) (Hv w.heap.size None [some b1, some b10, ob11] w17) [(Value.int .u32 d10)] [d10] := (Els.cons (a := [(Value.int .u32 d10)]) rfl Els.nil)
     refine Rl.op (OpY.litRow (r := (rInt .u32)) (vs := [(Value.int .u32 d10)]) (css := [[(Value.int .u32 d10)]]) (xs := [d10]) Tryd.underlying22 ti47 (Nat.le_of_ble_eq_true rfl) rfl rfl ⟨rfl, rfl, trivial⟩ (Nat.le_of_ble_eq_true rfl) hE12 rfl hL21 ?_)
     intro b15 w18 hc14 hL22 hS14
     have K21 := ks w hS14
     obtain ⟨x12, q22, h⟩ := bind_some h
     obtain ⟨q23, q24, q25⟩ := apnd_some q22
     have f15 := (hE12.mono (K21 None))
     have f16 := ((hE11.mono (K20 None)).mono (K21 None))
     refine Rl.op (OpY.apRowX (r := (rInt .u32)) (H := (Hv w.heap.size None [some b15, some b1, some b10, ob11] w18)) (cs := cs11) (sp := sp11) (xs := digits11) (ys := [d10]) (Y := x12) (n := (List.length digits11)) (cap := cap11) (i := 3) Tryd.underlying22 ti47 rfl rfl rfl rfl hL22 rfl rfl f16 rfl hc11 (Src.row (pre := []) (o := 0) (n := 1) (cap := 1) (hL22.at 0 rfl rfl) f15 rfl rfl rfl) (Els.anyH (fun _ _ _ _ h => h) f15) q23 q24 q25 ?_)
     intro ob12 cap12 sp12 cs12 w19 hE13 hc15 (hL23 : Go.X.Loc [] [] w w19 [some b15, some b1, some b10, ob12] [Cont.cells ([] ++ ([(Value.int .u32 d10)] ++ [])), Cont.cells [(Value.bool false), (Value.slice none 0 0)], Cont.cells [(Value.bool negative10), (osv ob11 0 (List.length digits11) cap11)], Cont.cells ([] ++ (cs12 ++ sp12))]) hS15
     have K22 := ks w hS15
     refine Rl.op (OpY.fieldAddr (q := 1) Tryd.underlying24 rfl ti22 rfl rfl rfl ?_)
     refine Rl.op0 (OpY.store (vs := [(osv ob12 0 (List.length x12) cap12)]) ti22 rfl rfl (one_cells (osv_one ob12 0 (List.length x12) cap12)) rfl (ones_cons (osv_one ob12 0 (List.length x12) cap12) ones_nil) hL23 2 rfl rfl (Nat.le_of_ble_eq_true rfl) ?_)
     intro w20 (hL24 : Go.X.Loc [] [] w w20 [some b15, some b1, some b10, ob12] [Cont.cells ([] ++ ([(Value.int .u32 d10)] ++ [])), Cont.cells [(Value.bool false), (Value.slice none 0 0)], Cont.cells [(Value.bool negative10), (osv ob12 0 (List.length x12) cap12)], Cont.cells ([] ++ (cs12 ++ sp12))]) hS16
     have K23 := ks w hS16
     refine Rl.nil (Swp.pop_blk (Swp.region rfl (Rl.op (OpY.move (v := (Value.int .i64 i10)) rfl ?_))))
     refine Rl.op (OpY.add (x := i10) (y := 2) (z := (iw (i10 + 2))) rfl rfl rfl ?_)
     refine Rl.op (OpY.assign (v := (Value.int .i64 (iw (i10 + 2)))) rfl ?_)
     refine Rl.nil ?_
     have hp14 := hL24.pick [1, 2, 3] rfl rfl rfl
     have hL25 : Go.X.Loc [] [] w w20 [some b1, some b10, ob12] [Cont.cells [(Value.bool false), (Value.slice none 0 0)], Cont.cells [(Value.bool negative10), (osv ob12 0 (List.length x12) cap12)], Cont.cells ([] ++ (cs12 ++ sp12))] := hp14.1
     have K24 := ks w hp14.2
     have f17 := (((hE13.mono (K22 None)).mono (K23 None)).mono (K24 None))
     obtain rfl := Option.some.inj h
     refine Swp.pop_back ⟨(x12, (iw (i10 + 2))), rfl, ?_⟩
     exact ⟨ob12, cap12, sp12, cs12, (List.length x12), _, (upds_sym ⟨rfl, rfl, rfl, rfl, trivial⟩), hL25, (Keep.trans (Keep.trans (Keep.trans (Keep.trans (Keep.trans K19 K20) K21) K22) K23) K24), f17, rfl, hc15, trivial⟩
   ·
    replace h := ite_f hc12 h
    refine Swp.exit rfl ?_
    obtain rfl := Option.some.inj h
    obtain rfl := hd10 _ rfl
    replace h := g11
    try dsimp only at h
    skip
    refine Swp.pop_back ?_
    exact ⟨digits11, ob11, cap11, sp11, cs11, (List.length digits11), _, rfl, (upds_sym ⟨rfl, rfl, trivial⟩), hL20, K19, hE11, rfl, hc11, trivial⟩
  ·
   rintro _ w21 ⟨digits10, ob10, cap10, sp10, cs10, ln10, u, rfl, rfl, hL26, K25, hE14, rfl, hc16, -⟩
   replace h := g11
   try dsimp only at h
   refine Swp.seq (Swp.region rfl (Rl.op (OpY.ldBoxA (vs := [(Value.bool negative10), (osv ob10 0 (List.length digits10) cap10)]) Tryd.underlying24 rfl ti24 rfl (hL26.at 1 rfl rfl) rfl rfl ?_)))
   refine Rl.op0 (OpY.store (vs := [(Value.bool negative10), (osv ob10 0 (List.length digits10) cap10)]) ti24 rfl rfl rfl rfl (ones_cons rfl (ones_cons (osv_one _ _ _ _) ones_nil)) hL26 0 rfl rfl (Nat.le_of_ble_eq_true rfl) ?_)
   intro w22 (hL27 : Go.X.Loc [] [] w w22 [some b1, some b10, ob10] [Cont.cells [(Value.bool negative10), (osv ob10 0 (List.length digits10) cap10)], Cont.cells [(Value.bool negative10), (osv ob10 0 (List.length digits10) cap10)], Cont.cells ([] ++ (cs10 ++ sp10))]) hS17
   have K26 := ks w hS17
   refine Rl.nil ?_
   have f18 := (hE14.mono (K26 None))
   have f19 := hL27.freezeRow 2 rfl rfl f18 rfl rfl rfl hc16
   have hp15 := hL27.pick [0, 1] rfl rfl rfl
   have hL28 : Go.X.Loc [] [] w w22 [some b1, some b10] [Cont.cells [(Value.bool negative10), (osv ob10 0 (List.length digits10) cap10)], Cont.cells [(Value.bool negative10), (osv ob10 0 (List.length digits10) cap10)]] := hp15.1
   refine Swp.ret ?_
   obtain rfl := Option.some.inj h
   refine ⟨[(Value.agg #[(Value.bool negative10), (osv ob10 0 (List.length digits10) cap10)])], ⟨⟨⟨b1, 0, none⟩, rfl, res_boxA Tryd.underlying24 rfl ti24 (hL28.at 0 rfl rfl) rfl⟩, trivial⟩, ⟨_, rfl, hL28.done, ?_⟩⟩
   exact ⟨(osv ob10 0 (List.length digits10) cap10), rfl, (f19.mono Hv.out), trivial⟩
theorem rNormal_w (N : Nat) (x : Big) (x_v : Value) (w : World) (S : Nat → Prop) (x_h : Rs (rInt .u32) (Hv w.heap.size S [] w) x_v x.Digits) (r : Big) (h : rNormal N x = some r) :
  Calls Tryd.prog 23 #[(Value.agg #[(Value.bool x.Negative), x_v])] w (Ret w (fun v w' => ∃ (v0_0 : Value), (Value.agg #[(Value.bool r.Negative), v0_0]) = v ∧ Rs (rInt .u32) (Hv w.heap.size None [] w') v0_0 r.Digits ∧ True)) := by
 unfold rNormal at h
 have hL : Go.X.Loc [] [] w w [] [] := Go.X.Loc.begin0 w
 refine calls_of (l := [(Value.agg #[(Value.bool x.Negative), x_v])]) (rl := [.cell 2 24]) (n := 8) Tryd.func23 rfl rfl rfl (Nat.le_of_ble_eq_true rfl) ?_
 refine Swp.seq (Swp.region rfl (Rl.op (OpY.box (cs := [(Value.bool x.Negative), x_v]) rfl rfl hL ?_)))
 intro b1 w2 hL3 hS5
 have K4 := ks w hS5
 refine Rl.op (OpY.alloc (cs := [(Value.bool false), (Value.slice none 0 0)]) ti24 rfl hL3 ?_)
 intro b6 w7 hL8 hS10
 have K9 := ks w hS10
 refine Rl.nil (Swp.seq ?_)
 obtain ⟨r10, q10, h⟩ := bind_some h
 refine Swp.drawL 4 [] [] (fun W1 => [.det (Value.pointer (some ⟨b1, 0, none⟩)), .det (Value.bool x.Negative), .det (Value.agg #[(Value.bool x.Negative), x_v]), .rel (fun v Z w' => ∃ v10, v10 = v ∧ Rs (rInt .i64) (Zv W1 w.heap.size None [some b6, some b1] Z w') v10 r10 ∧ True) (fun _ => [])]) mixed rfl rfl rfl (fun _ => rfl) (fun _ => rfl) ?_ ?_
 ·
  intro W1 _
  exact ⟨fun v Z Z' w w' hΦ hz _ _ hs => by obtain ⟨v10, rfl, k10, -⟩ := hΦ; exact ⟨v10, rfl, (k10.mono (Zv.stay hz hs)), trivial⟩, trivial⟩
 ·
  intro w10 hE10
  have hL10 := hL8.ext hE10
  have K10 := ke hL8 hE10
  refine DrH.de (fun _ _ => GOp.op (OpY.fieldAddr Tryd.underlying24 rfl ti4 rfl rfl rfl (er rfl))) ?_
  refine DrH.de (fun _ hE12 => GOp.op (OpY.ldBox1 Tryd.underlying4 rfl rfl ((hL10.ext hE12).at 1 rfl rfl) rfl (er rfl))) ?_
  refine DrH.de (fun _ hE13 => GOp.op (OpY.ldBoxA (vs := [(Value.bool x.Negative), x_v]) Tryd.underlying24 rfl ti24 rfl ((hL10.ext hE13).at 1 rfl rfl) rfl rfl (er rfl))) ?_
  refine DrH.rel ?_ ?_
  ·
   rintro w14 Z17 hE14 hZ13 ⟨-⟩
   have K11 := ke hL10 hE14
   refine GOp.op (OpY.call en51 rfl rfl (halves_w N x x_v _ Any (((((x_h.mono (K4 S)).mono (K9 S)).mono (K10 S)).mono (K11 S)).mono vw_any) r10 q10) ?_)
   rintro _ w15 hE15 ⟨v10, rfl, k10, -⟩
   exact Made.ext hE15 hZ13 NewOwn.nil (fun _ h => h) ⟨v10, rfl, (k10.mono Zv.made), trivial⟩
  intro z3
  refine DrH.fin0 ?_
  rintro w16 Z18 hE16 hZ14 ⟨⟨⟨v10, rfl, k10, -⟩, hB3⟩, -⟩ ap10
  have hB10 : ∀ b, some b ∈ ([] : List (Option Nat)) → w10.heap.size ≤ b ∧ ¬ Z18 b := by
   intro b hb; cases hb
  replace k10 := k10.mono (Zv.fin hL10 hZ14 hB10)
  have hL13 := hL10.ext hE16
  obtain ⟨r11, q11, h⟩ := bind_some h
  refine Rl.op (OpY.call en52 rfl rfl (rbig_w N x.Negative r10 v10 _ Any (k10.mono vw_any) r11 q11) ?_)
  rintro _ w17 hE17 ⟨v11, rfl, k11, -⟩
  replace k11 := k11.mono (Hv.freshO (S := None) hL13 [])
  have hL14 := hL13.ext hE17
  refine Rl.op0 (OpY.store (vs := [(Value.bool r11.Negative), v11]) ti24 rfl rfl rfl rfl (ones_cons rfl (ones_cons k11.one ones_nil)) hL14 0 rfl rfl (Nat.le_of_ble_eq_true rfl) ?_)
  intro w18 (hL15 : Go.X.Loc [] [] w w18 [some b6, some b1] [Cont.cells [(Value.bool r11.Negative), v11], Cont.cells [(Value.bool x.Negative), x_v]]) hS11
  have K12 := ks w hS11
  refine Rl.nil (Swp.ret ?_)
  obtain rfl := Option.some.inj h
  refine ⟨[(Value.agg #[(Value.bool r11.Negative), v11])], ⟨⟨⟨b6, 0, none⟩, rfl, res_boxA Tryd.underlying24 rfl ti24 (hL15.at 0 rfl rfl) rfl⟩, trivial⟩, ⟨_, rfl, hL15.done, ?_⟩⟩
  have f10 := (k11.mono (K12 None))
  exact ⟨v11, rfl, (f10.mono Hv.out), trivial⟩
theorem rorder_w (N : Nat) (a : (List Int)) (b : (List Int)) (a_v : Value) (b_v : Value) (w : World) (S : Nat → Prop) (a_h : Rs (rInt .i64) (Hv w.heap.size S [] w) a_v a) (b_h : Rs (rInt .i64) (Hv w.heap.size S [] w) b_v b) (r : Int) (h : rorder N a b = some r) :
  Calls Tryd.prog 66 #[a_v, b_v] w (Ret w (fun v w' => (Value.int .i64 r) = v ∧ True)) := by
 unfold rorder at h
 have hL : Go.X.Loc [] [] w w [] [] := Go.X.Loc.begin0 w
 refine calls_of (l := [a_v, b_v]) (rl := [.tmp 4]) (n := 41) Tryd.func66 rfl rfl rfl (Nat.le_of_ble_eq_true rfl) ?_
 refine Swp.seq (Swp.region rfl (Rl.op (OpY.assign (v := (Value.int .i64 0)) rfl ?_)))
 refine Rl.nil (Swp.seq (Swp.seq (Swp.region rfl (Rl.op (OpY.move (v := a_v) rfl ?_)))))
 refine Rl.op (OpY.lenRo (v := a_v) Tryd.underlying52 rfl a_h ?_)
 refine Rl.op (OpY.move (v := b_v) rfl ?_)
 refine Rl.op (OpY.lenRo (v := b_v) Tryd.underlying52 rfl b_h ?_)
 refine Rl.op (OpY.neq (x := (List.length a : Int)) (y := (List.length b : Int)) (((List.length a : Int) : Int) ≠ (List.length b : Int)) rfl rfl Iff.rfl ?_)
 refine Rl.nil ?_
 refine Swp.cond_d (((List.length a : Int) : Int) ≠ (List.length b : Int)) rfl (fun hc1 => ?_) (fun hc1 => ?_)
 ·
  replace h := ite_t hc1 h
  refine Swp.seq (Swp.seq (Swp.region rfl (Rl.op (OpY.move (v := a_v) rfl ?_))))
  refine Rl.op (OpY.lenRo (v := a_v) Tryd.underlying52 rfl a_h ?_)
  refine Rl.op (OpY.move (v := b_v) rfl ?_)
  refine Rl.op (OpY.lenRo (v := b_v) Tryd.underlying52 rfl b_h ?_)
  refine Rl.op (OpY.lss (x := (List.length a : Int)) (y := (List.length b : Int)) (((List.length a : Int) : Int) < (List.length b : Int)) rfl rfl Iff.rfl ?_)
  refine Rl.nil ?_
  refine Swp.cond_d (((List.length a : Int) : Int) < (List.length b : Int)) rfl (fun hc2 => ?_) (fun hc2 => ?_)
  ·
   replace h := ite_t hc2 h
   refine Swp.seq (Swp.region rfl (Rl.op (OpY.assign (v := (Value.int .i64 (-1))) rfl ?_)))
   refine Rl.nil (Swp.ret ?_)
   obtain rfl := Option.some.inj h
   refine ⟨[(Value.int .i64 (-1))], ⟨rfl, trivial⟩, ⟨_, rfl, hL.done, ?_⟩⟩
   exact ⟨rfl, trivial⟩
  ·
   replace h := ite_f hc2 h
   refine Swp.skip (Swp.seq (Swp.region rfl (Rl.op (OpY.assign (v := (Value.int .i64 1)) rfl ?_))))
   refine Rl.nil (Swp.ret ?_)
   obtain rfl := Option.some.inj h
   refine ⟨[(Value.int .i64 1)], ⟨rfl, trivial⟩, ⟨_, rfl, hL.done, ?_⟩⟩
   exact ⟨rfl, trivial⟩
 ·
  replace h := ite_f hc1 h
  refine Swp.skip (Swp.seq (Swp.seq (Swp.region rfl (Rl.op (OpY.move (v := a_v) rfl ?_)))))
  refine Rl.op (OpY.lenRo (v := a_v) Tryd.underlying52 rfl a_h ?_)
  refine Rl.op (OpY.sub (x := (List.length a : Int)) (y := 1) (z := (iw ((List.length a : Int) - 1))) rfl rfl rfl ?_)
  refine Rl.op (OpY.assign (v := (Value.int .i64 (iw ((List.length a : Int) - 1)))) rfl ?_)
  refine Rl.nil ?_
  obtain ⟨s10, hl10, g10⟩ := bind_some h
  refine Swp.join (fun e w' => ∃  (u : Env), (Sum.inl ()) = s10 ∧ e = upds [] u ∧ Go.X.Loc [] [] w w' [] [] ∧ Keep w.heap.size [] w [] w' ∧ True) ?_ ?_
  ·
   refine Swp.block ?_
   refine Swp.loopM hl10 (fun (ss : Int) (e : Env) (w' : World) => match ss with | i10 => ∃ (u : Env), e = upds [(0, a_v), (1, b_v), (5, (Value.int .i64 i10))] u ∧ Go.X.Loc [] [] w w' [] [] ∧ Keep w.heap.size [] w [] w' ∧ True) ⟨_, (upds_sym ⟨rfl, rfl, rfl, trivial⟩), hL, Keep.refl, trivial⟩ ?_
   rintro i10 oo _ w10 ⟨u, rfl, hL10, K10, -⟩ h hd10
   rw [rorder_b1] at h
   refine Swp.seq (Swp.seq (Swp.region rfl (Rl.op (OpY.move (v := (Value.int .i64 i10)) rfl ?_))))
   refine Rl.op (OpY.geq (x := i10) (y := 0) ((i10 : Int) ≥ 0) rfl rfl Iff.rfl ?_)
   refine Rl.nil ?_
   refine Swp.cond_d ((i10 : Int) ≥ 0) rfl (fun hc10 => ?_) (fun hc10 => ?_)
   ·
    replace h := ite_t hc10 h
    refine Swp.skip (Swp.seq (Swp.block (Swp.seq (Swp.seq ?_))))
    obtain ⟨x10, q10, h⟩ := bind_some h
    obtain ⟨n10, q11, q12⟩ := idx_some q10
    have f10 := (a_h.mono (K10 S))
    obtain ⟨b10, o10, c10, vs10, q13, q14, f11, q15⟩ := Rs.get f10 q12
    obtain rfl := q15
    obtain ⟨x11, q16, h⟩ := bind_some h
    obtain ⟨n11, q17, q18⟩ := idx_some q16
    have f12 := (b_h.mono (K10 S))
    obtain ⟨b11, o11, c11, vs11, q19, q20, f13, q21⟩ := Rs.get f12 q18
    obtain rfl := q21
    refine Swp.drawL 8 [] [] (fun W1 => [.det a_v, .det (Value.int .i64 i10), .det (Value.pointer (some ⟨b10, (o10 + n10 * (rInt .i64).sz), none⟩)), .det (Value.int .i64 x10), .det b_v, .det (Value.int .i64 i10), .det (Value.pointer (some ⟨b11, (o11 + n11 * (rInt .i64).sz), none⟩)), .det (Value.int .i64 x11)]) mixed rfl rfl rfl (fun _ => rfl) (fun _ => rfl) ?_ ?_
    ·
     intro W1 _
     exact trivial
    ·
     intro w11 hE10
     have hL11 := hL10.ext hE10
     have K11 := ke hL10 hE10
     refine DrH.de (fun _ _ => GOp.op (OpY.move rfl (er rfl))) ?_
     refine DrH.de (fun _ _ => GOp.op (OpY.move rfl (er rfl))) ?_
     refine DrH.de (fun _ _ => GOp.op (OpY.ixRoD (r := (rInt .i64)) (v := a_v) (n := n10) (m := (o10 + n10 * (rInt .i64).sz)) Tryd.underlying52 ti3 rfl q13 rfl q11 q12 rfl (er rfl))) ?_
     refine DrH.de (fun _ hE14 => GOp.op (OpY.ldRo1 Tryd.underlying3 rfl rfl vw_view (At.mono ((ke hL11 hE14) S) (At.mono (K11 S) f11)) (er rfl))) ?_
     refine DrH.de (fun _ _ => GOp.op (OpY.move rfl (er rfl))) ?_
     refine DrH.de (fun _ _ => GOp.op (OpY.move rfl (er rfl))) ?_
     refine DrH.de (fun _ _ => GOp.op (OpY.ixRoD (r := (rInt .i64)) (v := b_v) (n := n11) (m := (o11 + n11 * (rInt .i64).sz)) Tryd.underlying52 ti3 rfl q19 rfl q17 q18 rfl (er rfl))) ?_
     refine DrH.de (fun _ hE18 => GOp.op (OpY.ldRo1 Tryd.underlying3 rfl rfl vw_view (At.mono ((ke hL11 hE18) S) (At.mono (K11 S) f13)) (er rfl))) ?_
     refine DrH.fin0 ?_
     rintro w20 Z22 hE19 hZ18 ⟨-⟩ ap10
     have hB10 : ∀ b, some b ∈ ([] : List (Option Nat)) → w11.heap.size ≤ b ∧ ¬ Z22 b := by
      intro b hb; cases hb
     have hL12 := hL11.ext hE19
     have K14 := ke hL11 hE19
     refine Rl.op (OpY.lss (x := x10) (y := x11) ((x10 : Int) < x11) rfl rfl Iff.rfl ?_)
     refine Rl.nil ?_
     refine Swp.cond_d ((x10 : Int) < x11) rfl (fun hc11 => ?_) (fun hc11 => ?_)
     ·
      replace h := ite_t hc11 h
      refine Swp.seq (Swp.region rfl (Rl.op (OpY.assign (v := (Value.int .i64 (-1))) rfl ?_)))
      refine Rl.nil (Swp.ret ?_)
      obtain rfl := Option.some.inj h
      obtain rfl := hd10 _ rfl
      replace h := g10
      try dsimp only at h
      obtain rfl := Option.some.inj h
      refine ⟨[(Value.int .i64 (-1))], ⟨rfl, trivial⟩, ⟨_, rfl, hL12.done, ?_⟩⟩
      exact ⟨rfl, trivial⟩
     ·
      replace h := ite_f hc11 h
      refine Swp.skip (Swp.seq ?_)
      obtain ⟨x12, q22, h⟩ := bind_some h
      obtain ⟨n12, q23, q24⟩ := idx_some q22
      have f14 := ((f10.mono (K11 S)).mono (K14 S))
      obtain ⟨b12, o12, c12, vs12, q25, q26, f15, q27⟩ := Rs.get f14 q24
      obtain rfl := q27
      obtain ⟨x13, q28, h⟩ := bind_some h
      obtain ⟨n13, q29, q30⟩ := idx_some q28
      have f16 := ((f12.mono (K11 S)).mono (K14 S))
      obtain ⟨b13, o13, c13, vs13, q31, q32, f17, q33⟩ := Rs.get f16 q30
      obtain rfl := q33
      refine Swp.drawL 8 [] [] (fun W1 => [.det a_v, .det (Value.int .i64 i10), .det (Value.pointer (some ⟨b12, (o12 + n12 * (rInt .i64).sz), none⟩)), .det (Value.int .i64 x12), .det b_v, .det (Value.int .i64 i10), .det (Value.pointer (some ⟨b13, (o13 + n13 * (rInt .i64).sz), none⟩)), .det (Value.int .i64 x13)]) mixed rfl rfl rfl (fun _ => rfl) (fun _ => rfl) ?_ ?_
      ·
       intro W1 _
       exact trivial
      ·
       intro w21 hE20
       have hL13 := hL12.ext hE20
       have K15 := ke hL12 hE20
       refine DrH.de (fun _ _ => GOp.op (OpY.move rfl (er rfl))) ?_
       refine DrH.de (fun _ _ => GOp.op (OpY.move rfl (er rfl))) ?_
       refine DrH.de (fun _ _ => GOp.op (OpY.ixRoD (r := (rInt .i64)) (v := a_v) (n := n12) (m := (o12 + n12 * (rInt .i64).sz)) Tryd.underlying52 ti3 rfl q25 rfl q23 q24 rfl (er rfl))) ?_
       refine DrH.de (fun _ hE24 => GOp.op (OpY.ldRo1 Tryd.underlying3 rfl rfl vw_view (At.mono ((ke hL13 hE24) S) (At.mono (K15 S) f15)) (er rfl))) ?_
       refine DrH.de (fun _ _ => GOp.op (OpY.move rfl (er rfl))) ?_
       refine DrH.de (fun _ _ => GOp.op (OpY.move rfl (er rfl))) ?_
       refine DrH.de (fun _ _ => GOp.op (OpY.ixRoD (r := (rInt .i64)) (v := b_v) (n := n13) (m := (o13 + n13 * (rInt .i64).sz)) Tryd.underlying52 ti3 rfl q31 rfl q29 q30 rfl (er rfl))) ?_
       refine DrH.de (fun _ hE28 => GOp.op (OpY.ldRo1 Tryd.underlying3 rfl rfl vw_view (At.mono ((ke hL13 hE28) S) (At.mono (K15 S) f17)) (er rfl))) ?_
       refine DrH.fin0 ?_
       rintro w30 Z31 hE29 hZ27 ⟨-⟩ ap11
       have hB11 : ∀ b, some b ∈ ([] : List (Option Nat)) → w21.heap.size ≤ b ∧ ¬ Z31 b := by
        intro b hb; cases hb
       have hL14 := hL13.ext hE29
       have K18 := ke hL13 hE29
       refine Rl.op (OpY.gtr (x := x12) (y := x13) ((x12 : Int) > x13) rfl rfl Iff.rfl ?_)
       refine Rl.nil ?_
       refine Swp.cond_d ((x12 : Int) > x13) rfl (fun hc12 => ?_) (fun hc12 => ?_)
       ·
        replace h := ite_t hc12 h
        refine Swp.seq (Swp.region rfl (Rl.op (OpY.assign (v := (Value.int .i64 1)) rfl ?_)))
        refine Rl.nil (Swp.ret ?_)
        obtain rfl := Option.some.inj h
        obtain rfl := hd10 _ rfl
        replace h := g10
        try dsimp only at h
        obtain rfl := Option.some.inj h
        refine ⟨[(Value.int .i64 1)], ⟨rfl, trivial⟩, ⟨_, rfl, hL14.done, ?_⟩⟩
        exact ⟨rfl, trivial⟩
       ·
        replace h := ite_f hc12 h
        refine Swp.skip (Swp.pop_blk (Swp.region rfl (Rl.op (OpY.move (v := (Value.int .i64 i10)) rfl ?_))))
        refine Rl.op (OpY.sub (x := i10) (y := 1) (z := (iw (i10 - 1))) rfl rfl rfl ?_)
        refine Rl.op (OpY.assign (v := (Value.int .i64 (iw (i10 - 1)))) rfl ?_)
        refine Rl.nil ?_
        obtain rfl := Option.some.inj h
        refine Swp.pop_back ⟨(iw (i10 - 1)), rfl, ?_⟩
        exact ⟨_, (upds_sym ⟨rfl, rfl, rfl, trivial⟩), hL14, (Keep.trans (Keep.trans (Keep.trans (Keep.trans K10 K11) K14) K15) K18), trivial⟩
   ·
    replace h := ite_f hc10 h
    refine Swp.exit rfl ?_
    obtain rfl := Option.some.inj h
    obtain rfl := hd10 _ rfl
    replace h := g10
    try dsimp only at h
    skip
    refine Swp.pop_back ?_
    exact ⟨_, rfl, (upds_sym trivial), hL10, K10, trivial⟩
  ·
   rintro _ w31 ⟨u, rfl, rfl, hL15, K19, -⟩
   replace h := g10
   try dsimp only at h
   refine Swp.seq (Swp.region rfl (Rl.op (OpY.assign (v := (Value.int .i64 0)) rfl ?_)))
   refine Rl.nil (Swp.ret ?_)
   obtain rfl := Option.some.inj h
   refine ⟨[(Value.int .i64 0)], ⟨rfl, trivial⟩, ⟨_, rfl, hL15.done, ?_⟩⟩
   exact ⟨rfl, trivial⟩
theorem rplus_w (N : Nat) (a : (List Int)) (b : (List Int)) (a_v : Value) (b_v : Value) (w : World) (S : Nat → Prop) (a_h : Rs (rInt .i64) (Hv w.heap.size S [] w) a_v a) (b_h : Rs (rInt .i64) (Hv w.heap.size S [] w) b_v b) (r : (List Int)) (h : rplus N a b = some r) :
  Calls Tryd.prog 61 #[a_v, b_v] w (Ret w (fun v w' => ∃ (v0_0 : Value), v0_0 = v ∧ Rs (rInt .i64) (Hv w.heap.size None [] w') v0_0 r ∧ True)) := by
 unfold rplus at h
 have hL : Go.X.Loc [] [] w w [] [] := Go.X.Loc.begin0 w
 refine calls_of (l := [a_v, b_v]) (rl := [.tmp 4]) (n := 54) Tryd.func61 rfl rfl rfl (Nat.le_of_ble_eq_true rfl) ?_
 refine Swp.seq (Swp.region rfl (Rl.op (OpY.assign (v := (Value.slice none 0 0)) rfl ?_)))
 refine Rl.nil (Swp.seq (Swp.region rfl (Rl.op (OpY.litRow0 Tryd.underlying52 ti3 hL ?_))))
 intro b1 w5 hL6 hS8
 have hE9 : Els (rInt .i64) (Hv w.heap.size None [] w) [] [] := Els.nil
 have K7 := ks w hS8
 refine Rl.op (OpY.assign (v := (osv (some b1) 0 (List.length ([] : (List Int))) 0)) rfl ?_)
 refine Rl.nil (Swp.seq (Swp.region rfl (Rl.op (OpY.assign (v := (Value.int .i64 0)) rfl ?_))))
 refine Rl.nil (Swp.seq (Swp.seq (Swp.region rfl (Rl.op (OpY.assign (v := (Value.int .i64 0)) rfl ?_)))))
 refine Rl.nil ?_
 obtain ⟨s10, hl10, g10⟩ := bind_some h
 refine Swp.join (fun e w' => ∃ (out10 : (List Int)) (ob10 : Option Nat) (cap10 : Nat) (sp10 : List Value) (cs10 : List Value) (ln10 : Nat) (u : Env), out10 = s10 ∧ e = upds [(5, (osv ob10 0 ln10 cap10))] u ∧ Go.X.Loc [] [] w w' [ob10] [Cont.cells ([] ++ (cs10 ++ sp10))] ∧ Keep w.heap.size [some b1] w5 [ob10] w' ∧ Els (rInt .i64) (Hv w.heap.size None [ob10] w') cs10 out10 ∧ ln10 = List.length out10 ∧ (cs10 ++ sp10).length = cap10 * (rInt .i64).sz ∧ True) ?_ ?_
 ·
  refine Swp.block ?_
  have f10 := (hE9.mono (K7 None))
  refine Swp.loopM hl10 (fun (ss : ((List Int) × Int × Int)) (e : Env) (w' : World) => match ss with | (out11, carry10, i10) => ∃ (ob11 : Option Nat) (cap11 : Nat) (sp11 : List Value) (cs11 : List Value) (ln11 : Nat) (u : Env), e = upds [(0, a_v), (1, b_v), (5, (osv ob11 0 ln11 cap11)), (6, (Value.int .i64 carry10)), (7, (Value.int .i64 i10))] u ∧ Go.X.Loc [] [] w w' [ob11] [Cont.cells ([] ++ (cs11 ++ sp11))] ∧ Keep w.heap.size [some b1] w5 [ob11] w' ∧ Els (rInt .i64) (Hv w.heap.size None [ob11] w') cs11 out11 ∧ ln11 = List.length out11 ∧ (cs11 ++ sp11).length = cap11 * (rInt .i64).sz ∧ True) ⟨some b1, 0, [], [], (List.length ([] : (List Int))), _, (upds_sym ⟨rfl, rfl, rfl, rfl, rfl, trivial⟩), hL6, Keep.refl, f10, rfl, (show ([] ++ [] : List Value).length = 0 * (rInt .i64).sz by simp), trivial⟩ ?_
  rintro ⟨out11, carry10, i10⟩ oo _ w10 ⟨ob11, cap11, sp11, cs11, ln11, u, rfl, hL10, K10, hE10, rfl, hc10, -⟩ h hd10
  rw [rplus_b1] at h
  refine Swp.seq (Swp.seq ?_)
  obtain ⟨s11, h, g11⟩ := bind_some h
  refine Swp.join (fun e w' => ∃ (x10 : Bool) (u : Env), x10 = s11 ∧ e = upds [(0, a_v), (1, b_v), (5, (osv ob11 0 (List.length out11) cap11)), (6, (Value.int .i64 carry10)), (7, (Value.int .i64 i10)), (22, (Value.bool x10))] u ∧ Go.X.Loc [] [] w w' [ob11] [Cont.cells ([] ++ (cs11 ++ sp11))] ∧ Keep w.heap.size [ob11] w10 [ob11] w' ∧ True) ?_ ?_
  ·
   refine Swp.region rfl (Rl.op (OpY.move (v := (Value.int .i64 i10)) rfl ?_))
   refine Rl.op (OpY.move (v := a_v) rfl ?_)
   have f11 := ((a_h.mono (K7 S)).mono (K10 S))
   refine Rl.op (OpY.lenRo (v := a_v) Tryd.underlying52 rfl f11 ?_)
   refine Rl.op (OpY.lss (x := i10) (y := (List.length a : Int)) ((i10 : Int) < (List.length a : Int)) rfl rfl Iff.rfl ?_)
   refine Rl.op (OpY.move (v := (Value.bool (decide ((i10 : Int) < (List.length a : Int))))) rfl ?_)
   by_cases hc11 : (i10 : Int) < (List.length a : Int)
   ·
    replace h := ite_t hc11 h
    refine Rl.no rfl rfl (decide_eq_true hc11) ?_
    refine Rl.no rfl rfl (decide_eq_true hc11) ?_
    refine Rl.no rfl rfl (decide_eq_true hc11) ?_
    refine Rl.no rfl rfl (decide_eq_true hc11) ?_
    refine Rl.op (OpY.pick_t (t := (decide ((i10 : Int) < (List.length a : Int)))) (v := (Value.bool true)) rfl (decide_eq_true hc11) rfl ?_)
    refine Rl.op (OpY.move (v := (Value.bool true)) rfl ?_)
    refine Rl.no rfl rfl rfl ?_
    refine Rl.no rfl rfl rfl ?_
    refine Rl.op (OpY.pick_t (t := true) (v := (Value.bool true)) rfl rfl rfl ?_)
    refine Rl.nil ?_
    obtain rfl := Option.some.inj h
    refine Swp.pop_back ?_
    exact ⟨true, _, rfl, (upds_sym ⟨rfl, rfl, rfl, rfl, rfl, rfl, trivial⟩), hL10, Keep.refl, trivial⟩
   ·
    replace h := ite_f hc11 h
    refine Rl.yes rfl rfl (decide_eq_false hc11) (OpY.move (v := (Value.int .i64 i10)) rfl ?_)
    refine Rl.yes rfl rfl (decide_eq_false hc11) (OpY.move (v := b_v) rfl ?_)
    have f12 := ((b_h.mono (K7 S)).mono (K10 S))
    refine Rl.yes rfl rfl (decide_eq_false hc11) (OpY.lenRo (v := b_v) Tryd.underlying52 rfl f12 ?_)
    refine Rl.yes rfl rfl (decide_eq_false hc11) (OpY.lss (x := i10) (y := (List.length b : Int)) ((i10 : Int) < (List.length b : Int)) rfl rfl Iff.rfl ?_)
    refine Rl.op (OpY.pick_f (t := (decide ((i10 : Int) < (List.length a : Int)))) (v := (Value.bool (decide ((i10 : Int) < (List.length b : Int))))) rfl (decide_eq_false hc11) rfl ?_)
    refine Rl.op (OpY.move (v := (Value.bool (decide ((i10 : Int) < (List.length b : Int))))) rfl ?_)
    by_cases hc12 : (i10 : Int) < (List.length b : Int)
    ·
     replace h := ite_t hc12 h
     refine Rl.no rfl rfl (decide_eq_true hc12) ?_
     refine Rl.no rfl rfl (decide_eq_true hc12) ?_
     refine Rl.op (OpY.pick_t (t := (decide ((i10 : Int) < (List.length b : Int)))) (v := (Value.bool true)) rfl (decide_eq_true hc12) rfl ?_)
     refine Rl.nil ?_
     obtain rfl := Option.some.inj h
     refine Swp.pop_back ?_
     exact ⟨true, _, rfl, (upds_sym ⟨rfl, rfl, rfl, rfl, rfl, rfl, trivial⟩), hL10, Keep.refl, trivial⟩
    ·
     replace h := ite_f hc12 h
     refine Rl.yes rfl rfl (decide_eq_false hc12) (OpY.move (v := (Value.int .i64 carry10)) rfl ?_)
     refine Rl.yes rfl rfl (decide_eq_false hc12) (OpY.gtr (x := carry10) (y := 0) ((carry10 : Int) > 0) rfl rfl Iff.rfl ?_)
     refine Rl.op (OpY.pick_f (t := (decide ((i10 : Int) < (List.length b : Int)))) (v := (Value.bool (decide ((carry10 : Int) > 0)))) rfl (decide_eq_false hc12) rfl ?_)
     refine Rl.nil ?_
     obtain rfl := Option.some.inj h
     refine Swp.pop_back ?_
     exact ⟨(decide ((carry10 : Int) > 0)), _, rfl, (upds_sym ⟨rfl, rfl, rfl, rfl, rfl, rfl, trivial⟩), hL10, Keep.refl, trivial⟩
  ·
   rintro _ w11 ⟨x10, u, rfl, rfl, hL11, K11, -⟩
   replace h := g11
   try dsimp only at h
   refine Swp.cond_b x10 rfl (fun hc13 => ?_) (fun hc13 => ?_)
   ·
    replace h := ite_t hc13 h
    refine Swp.skip (Swp.seq (Swp.block (Swp.seq (Swp.seq (Swp.region rfl (Rl.op (OpY.move (v := (Value.int .i64 i10)) rfl ?_)))))))
    refine Rl.op (OpY.move (v := a_v) rfl ?_)
    have f13 := (((a_h.mono (K7 S)).mono (K10 S)).mono (K11 S))
    refine Rl.op (OpY.lenRo (v := a_v) Tryd.underlying52 rfl f13 ?_)
    refine Rl.op (OpY.lss (x := i10) (y := (List.length a : Int)) ((i10 : Int) < (List.length a : Int)) rfl rfl Iff.rfl ?_)
    refine Rl.nil ?_
    obtain ⟨s12, h, g12⟩ := bind_some h
    refine Swp.join (fun e w' => ∃ (carry11 : Int) (u : Env), carry11 = s12 ∧ e = upds [(0, a_v), (1, b_v), (5, (osv ob11 0 (List.length out11) cap11)), (6, (Value.int .i64 carry11)), (7, (Value.int .i64 i10))] u ∧ Go.X.Loc [] [] w w' [ob11] [Cont.cells ([] ++ (cs11 ++ sp11))] ∧ Keep w.heap.size [ob11] w11 [ob11] w' ∧ True) ?_ ?_
    ·
     refine Swp.cond_d ((i10 : Int) < (List.length a : Int)) rfl (fun hc14 => ?_) (fun hc14 => ?_)
     ·
      replace h := ite_t hc14 h
      refine Swp.region rfl (Rl.op (OpY.move (v := (Value.int .i64 carry10)) rfl ?_))
      refine Rl.op (OpY.move (v := a_v) rfl ?_)
      refine Rl.op (OpY.move (v := (Value.int .i64 i10)) rfl ?_)
      obtain ⟨x11, q10, h⟩ := bind_some h
      obtain ⟨n10, q11, q12⟩ := idx_some q10
      obtain ⟨b10, o10, c10, vs10, q13, q14, f14, q15⟩ := Rs.get f13 q12
      obtain rfl := q15
      refine Rl.op (OpY.ixRoD (r := (rInt .i64)) (v := a_v) (n := n10) (m := (o10 + n10 * (rInt .i64).sz)) Tryd.underlying52 ti3 rfl q13 rfl q11 q12 rfl ?_)
      refine Rl.op (OpY.ldRo1 (v := (Value.int .i64 x11)) Tryd.underlying3 rfl rfl vw_view f14 ?_)
      refine Rl.op (OpY.add (x := carry10) (y := x11) (z := (iw (carry10 + x11))) rfl rfl rfl ?_)
      refine Rl.op (OpY.assign (v := (Value.int .i64 (iw (carry10 + x11)))) rfl ?_)
      refine Rl.nil ?_
      obtain rfl := Option.some.inj h
      refine Swp.pop_back ?_
      exact ⟨(iw (carry10 + x11)), _, rfl, (upds_sym ⟨rfl, rfl, rfl, rfl, rfl, trivial⟩), hL11, Keep.refl, trivial⟩
     ·
      replace h := ite_f hc14 h
      refine Swp.skip ?_
      obtain rfl := Option.some.inj h
      refine Swp.pop_back ?_
      exact ⟨carry10, _, rfl, (upds_sym ⟨rfl, rfl, rfl, rfl, rfl, trivial⟩), hL11, Keep.refl, trivial⟩
    ·
     rintro _ w12 ⟨carry11, u, rfl, rfl, hL12, K12, -⟩
     replace h := g12
     try dsimp only at h
     refine Swp.seq (Swp.seq (Swp.region rfl (Rl.op (OpY.move (v := (Value.int .i64 i10)) rfl ?_))))
     refine Rl.op (OpY.move (v := b_v) rfl ?_)
     have f15 := ((((b_h.mono (K7 S)).mono (K10 S)).mono (K11 S)).mono (K12 S))
     refine Rl.op (OpY.lenRo (v := b_v) Tryd.underlying52 rfl f15 ?_)
     refine Rl.op (OpY.lss (x := i10) (y := (List.length b : Int)) ((i10 : Int) < (List.length b : Int)) rfl rfl Iff.rfl ?_)
     refine Rl.nil ?_
     obtain ⟨s13, h, g13⟩ := bind_some h
     refine Swp.join (fun e w' => ∃ (carry12 : Int) (u : Env), carry12 = s13 ∧ e = upds [(0, a_v), (1, b_v), (5, (osv ob11 0 (List.length out11) cap11)), (6, (Value.int .i64 carry12)), (7, (Value.int .i64 i10))] u ∧ Go.X.Loc [] [] w w' [ob11] [Cont.cells ([] ++ (cs11 ++ sp11))] ∧ Keep w.heap.size [ob11] w12 [ob11] w' ∧ True) ?_ ?_
     ·
      refine Swp.cond_d ((i10 : Int) < (List.length b : Int)) rfl (fun hc15 => ?_) (fun hc15 => ?_)
      ·
       replace h := ite_t hc15 h
       refine Swp.region rfl (Rl.op (OpY.move (v := (Value.int .i64 carry11)) rfl ?_))
       refine Rl.op (OpY.move (v := b_v) rfl ?_)
       refine Rl.op (OpY.move (v := (Value.int .i64 i10)) rfl ?_)
       obtain ⟨x12, q16, h⟩ := bind_some h
       obtain ⟨n11, q17, q18⟩ := idx_some q16
       obtain ⟨b11, o11, c11, vs11, q19, q20, f16, q21⟩ := Rs.get f15 q18
       obtain rfl := q21
       refine Rl.op (OpY.ixRoD (r := (rInt .i64)) (v := b_v) (n := n11) (m := (o11 + n11 * (rInt .i64).sz)) Tryd.underlying52 ti3 rfl q19 rfl q17 q18 rfl ?_)
       refine Rl.op (OpY.ldRo1 (v := (Value.int .i64 x12)) Tryd.underlying3 rfl rfl vw_view f16 ?_)
       refine Rl.op (OpY.add (x := carry11) (y := x12) (z := (iw (carry11 + x12))) rfl rfl rfl ?_)
       refine Rl.op (OpY.assign (v := (Value.int .i64 (iw (carry11 + x12)))) rfl ?_)
       refine Rl.nil ?_
       obtain rfl := Option.some.inj h
       refine Swp.pop_back ?_
       exact ⟨(iw (carry11 + x12)), _, rfl, (upds_sym ⟨rfl, rfl, rfl, rfl, rfl, trivial⟩), hL12, Keep.refl, trivial⟩
      ·
       replace h := ite_f hc15 h
       refine Swp.skip ?_
       obtain rfl := Option.some.inj h
       refine Swp.pop_back ?_
       exact ⟨carry11, _, rfl, (upds_sym ⟨rfl, rfl, rfl, rfl, rfl, trivial⟩), hL12, Keep.refl, trivial⟩
     ·
      rintro _ w13 ⟨carry12, u, rfl, rfl, hL13, K13, -⟩
      replace h := g13
      try dsimp only at h
      refine Swp.seq (Swp.region rfl (Rl.op (OpY.move (v := (osv ob11 0 (List.length out11) cap11)) rfl ?_)))
      refine Rl.op (OpY.move (v := (Value.int .i64 carry12)) rfl ?_)
      refine Rl.op (OpY.remI (x := carry12) (y := 65536) rfl rfl (by decide) ?_)
      have hE11 : Els (rInt .i64) (Hv w.heap.size None [ob11] w13) [(Value.int .i64 (Int.tmod carry12 65536))] [(Int.tmod carry12 65536)] := (Els.cons (a := [(Value.int .i64 (Int.tmod carry12 65536))]) rfl Els.nil)
      refine Rl.op (OpY.litRow (r := (rInt .i64)) (vs := [(Value.int .i64 (Int.tmod carry12 65536))]) (css := [[(Value.int .i64 (Int.tmod carry12 65536))]]) (xs := [(Int.tmod carry12 65536)]) Tryd.underlying52 ti3 (Nat.le_of_ble_eq_true rfl) rfl rfl ⟨rfl, rfl, trivial⟩ (Nat.le_of_ble_eq_true rfl) hE11 rfl hL13 ?_)
      intro b12 w14 hc16 hL14 hS10
      have K14 := ks w hS10
      obtain ⟨x13, q22, h⟩ := bind_some h
      obtain ⟨q23, q24, q25⟩ := apnd_some q22
      have f17 := (hE11.mono (K14 None))
      have f18 := ((((hE10.mono (K11 None)).mono (K12 None)).mono (K13 None)).mono (K14 None))
      refine Rl.op (OpY.apRowX (r := (rInt .i64)) (H := (Hv w.heap.size None [some b12, ob11] w14)) (cs := cs11) (sp := sp11) (xs := out11) (ys := [(Int.tmod carry12 65536)]) (Y := x13) (n := (List.length out11)) (cap := cap11) (i := 1) Tryd.underlying52 ti3 rfl rfl rfl rfl hL14 rfl rfl f18 rfl hc10 (Src.row (pre := []) (o := 0) (n := 1) (cap := 1) (hL14.at 0 rfl rfl) f17 rfl rfl rfl) (Els.anyH (fun _ _ _ _ h => h) f17) q23 q24 q25 ?_)
      intro ob12 cap12 sp12 cs12 w15 hE12 hc17 (hL15 : Go.X.Loc [] [] w w15 [some b12, ob12] [Cont.cells ([] ++ ([(Value.int .i64 (Int.tmod carry12 65536))] ++ [])), Cont.cells ([] ++ (cs12 ++ sp12))]) hS11
      have K15 := ks w hS11
      refine Rl.op (OpY.assign (v := (osv ob12 0 (List.length x13) cap12)) rfl ?_)
      refine Rl.nil (Swp.region rfl (Rl.op (OpY.move (v := (Value.int .i64 carry12)) rfl ?_)))
      refine Rl.op (OpY.quoI (x := carry12) (y := 65536) (z := (iw (Int.tdiv carry12 65536))) rfl rfl (by decide) rfl ?_)
      refine Rl.op (OpY.assign (v := (Value.int .i64 (iw (Int.tdiv carry12 65536)))) rfl ?_)
      refine Rl.nil (Swp.pop_blk (Swp.region rfl (Rl.op (OpY.move (v := (Value.int .i64 i10)) rfl ?_))))
      refine Rl.op (OpY.add (x := i10) (y := 1) (z := (iw (i10 + 1))) rfl rfl rfl ?_)
      refine Rl.op (OpY.assign (v := (Value.int .i64 (iw (i10 + 1)))) rfl ?_)
      refine Rl.nil ?_
      have hp10 := hL15.pick [1] rfl rfl rfl
      have hL16 : Go.X.Loc [] [] w w15 [ob12] [Cont.cells ([] ++ (cs12 ++ sp12))] := hp10.1
      have K16 := ks w hp10.2
      have f19 := ((hE12.mono (K15 None)).mono (K16 None))
      obtain rfl := Option.some.inj h
      refine Swp.pop_back ⟨(x13, (iw (Int.tdiv carry12 65536)), (iw (i10 + 1))), rfl, ?_⟩
      exact ⟨ob12, cap12, sp12, cs12, (List.length x13), _, (upds_sym ⟨rfl, rfl, rfl, rfl, rfl, trivial⟩), hL16, (Keep.trans (Keep.trans (Keep.trans (Keep.trans (Keep.trans (Keep.trans K10 K11) K12) K13) K14) K15) K16), f19, rfl, hc17, trivial⟩
   ·
    replace h := ite_f hc13 h
    refine Swp.exit rfl ?_
    have f20 := (hE10.mono (K11 None))
    obtain rfl := Option.some.inj h
    obtain rfl := hd10 _ rfl
    replace h := g10
    try dsimp only at h
    skip
    refine Swp.pop_back ?_
    exact ⟨out11, ob11, cap11, sp11, cs11, (List.length out11), _, rfl, (upds_sym ⟨rfl, trivial⟩), hL11, (Keep.trans K10 K11), f20, rfl, hc10, trivial⟩
 ·
  rintro _ w16 ⟨out10, ob10, cap10, sp10, cs10, ln10, u, rfl, rfl, hL17, K17, hE13, rfl, hc18, -⟩
  replace h := g10
  try dsimp only at h
  refine Swp.seq (Swp.region rfl (Rl.op (OpY.move (v := (osv ob10 0 (List.length out10) cap10)) rfl ?_)))
  have f21 := hL17.freezeRow 0 rfl rfl hE13 rfl rfl rfl hc18
  have hp11 := hL17.pick [] rfl rfl rfl
  have hL18 : Go.X.Loc [] [] w w16 [] [] := hp11.1
  obtain ⟨r10, q26, h⟩ := bind_some h
  refine Rl.op (OpY.call en63 rfl rfl (rtrim_w N out10 (osv ob10 0 (List.length out10) cap10) _ _ (f21.mono Hv.enter) r10 q26) ?_)
  rintro _ w17 hE14 ⟨v10, rfl, k10, -⟩
  replace k10 := k10.mono (Hv.aliasO (S := None) hL18 [])
  have hL19 := hL18.ext hE14
  refine Rl.op (OpY.assign (v := v10) rfl ?_)
  refine Rl.nil (Swp.ret ?_)
  obtain rfl := Option.some.inj h
  refine ⟨[v10], ⟨rfl, trivial⟩, ⟨_, rfl, hL19.done, ?_⟩⟩
  exact ⟨v10, rfl, (k10.mono Hv.out), trivial⟩
theorem rminus_w (N : Nat) (a : (List Int)) (b : (List Int)) (a_v : Value) (b_v : Value) (w : World) (S : Nat → Prop) (a_h : Rs (rInt .i64) (Hv w.heap.size S [] w) a_v a) (b_h : Rs (rInt .i64) (Hv w.heap.size S [] w) b_v b) (r : (List Int)) (h : rminus N a b = some r) :
  Calls Tryd.prog 67 #[a_v, b_v] w (Ret w (fun v w' => ∃ (v0_0 : Value), v0_0 = v ∧ Rs (rInt .i64) (Hv w.heap.size None [] w') v0_0 r ∧ True)) := by
 unfold rminus at h
 have hL : Go.X.Loc [] [] w w [] [] := Go.X.Loc.begin0 w
 refine calls_of (l := [a_v, b_v]) (rl := [.tmp 4]) (n := 42) Tryd.func67 rfl rfl rfl (Nat.le_of_ble_eq_true rfl) ?_
 refine Swp.seq (Swp.region rfl (Rl.op (OpY.assign (v := (Value.slice none 0 0)) rfl ?_)))
 refine Rl.nil (Swp.seq (Swp.region rfl (Rl.op (OpY.litRow0 Tryd.underlying52 ti3 hL ?_))))
 intro b1 w5 hL6 hS8
 have hE9 : Els (rInt .i64) (Hv w.heap.size None [] w) [] [] := Els.nil
 have K7 := ks w hS8
 refine Rl.op (OpY.assign (v := (osv (some b1) 0 (List.length ([] : (List Int))) 0)) rfl ?_)
 refine Rl.nil (Swp.seq (Swp.region rfl (Rl.op (OpY.assign (v := (Value.int .i64 0)) rfl ?_))))
 refine Rl.nil (Swp.seq (Swp.seq (Swp.region rfl (Rl.op (OpY.assign (v := (Value.int .i64 0)) rfl ?_)))))
 refine Rl.nil ?_
 obtain ⟨s10, hl10, g10⟩ := bind_some h
 refine Swp.join (fun e w' => ∃ (out10 : (List Int)) (ob10 : Option Nat) (cap10 : Nat) (sp10 : List Value) (cs10 : List Value) (ln10 : Nat) (u : Env), out10 = s10 ∧ e = upds [(5, (osv ob10 0 ln10 cap10))] u ∧ Go.X.Loc [] [] w w' [ob10] [Cont.cells ([] ++ (cs10 ++ sp10))] ∧ Keep w.heap.size [some b1] w5 [ob10] w' ∧ Els (rInt .i64) (Hv w.heap.size None [ob10] w') cs10 out10 ∧ ln10 = List.length out10 ∧ (cs10 ++ sp10).length = cap10 * (rInt .i64).sz ∧ True) ?_ ?_
 ·
  refine Swp.block ?_
  have f10 := (hE9.mono (K7 None))
  refine Swp.loopM hl10 (fun (ss : ((List Int) × Int × Int)) (e : Env) (w' : World) => match ss with | (out11, borrow10, i10) => ∃ (ob11 : Option Nat) (cap11 : Nat) (sp11 : List Value) (cs11 : List Value) (ln11 : Nat) (u : Env), e = upds [(0, a_v), (1, b_v), (5, (osv ob11 0 ln11 cap11)), (6, (Value.int .i64 borrow10)), (7, (Value.int .i64 i10))] u ∧ Go.X.Loc [] [] w w' [ob11] [Cont.cells ([] ++ (cs11 ++ sp11))] ∧ Keep w.heap.size [some b1] w5 [ob11] w' ∧ Els (rInt .i64) (Hv w.heap.size None [ob11] w') cs11 out11 ∧ ln11 = List.length out11 ∧ (cs11 ++ sp11).length = cap11 * (rInt .i64).sz ∧ True) ⟨some b1, 0, [], [], (List.length ([] : (List Int))), _, (upds_sym ⟨rfl, rfl, rfl, rfl, rfl, trivial⟩), hL6, Keep.refl, f10, rfl, (show ([] ++ [] : List Value).length = 0 * (rInt .i64).sz by simp), trivial⟩ ?_
  rintro ⟨out11, borrow10, i10⟩ oo _ w10 ⟨ob11, cap11, sp11, cs11, ln11, u, rfl, hL10, K10, hE10, rfl, hc10, -⟩ h hd10
  rw [rminus_b1] at h
  refine Swp.seq (Swp.seq (Swp.region rfl (Rl.op (OpY.move (v := (Value.int .i64 i10)) rfl ?_))))
  refine Rl.op (OpY.move (v := a_v) rfl ?_)
  have f11 := ((a_h.mono (K7 S)).mono (K10 S))
  refine Rl.op (OpY.lenRo (v := a_v) Tryd.underlying52 rfl f11 ?_)
  refine Rl.op (OpY.lss (x := i10) (y := (List.length a : Int)) ((i10 : Int) < (List.length a : Int)) rfl rfl Iff.rfl ?_)
  refine Rl.nil ?_
  refine Swp.cond_d ((i10 : Int) < (List.length a : Int)) rfl (fun hc11 => ?_) (fun hc11 => ?_)
  ·
   replace h := ite_t hc11 h
   refine Swp.skip (Swp.seq (Swp.block (Swp.seq (Swp.region rfl (Rl.op (OpY.move (v := a_v) rfl ?_))))))
   refine Rl.op (OpY.move (v := (Value.int .i64 i10)) rfl ?_)
   obtain ⟨x10, q10, h⟩ := bind_some h
   obtain ⟨n10, q11, q12⟩ := idx_some q10
   obtain ⟨b10, o10, c10, vs10, q13, q14, f12, q15⟩ := Rs.get f11 q12
   obtain rfl := q15
   refine Rl.op (OpY.ixRoD (r := (rInt .i64)) (v := a_v) (n := n10) (m := (o10 + n10 * (rInt .i64).sz)) Tryd.underlying52 ti3 rfl q13 rfl q11 q12 rfl ?_)
   refine Rl.op (OpY.ldRo1 (v := (Value.int .i64 x10)) Tryd.underlying3 rfl rfl vw_view f12 ?_)
   refine Rl.op (OpY.move (v := (Value.int .i64 borrow10)) rfl ?_)
   refine Rl.op (OpY.sub (x := x10) (y := borrow10) (z := (iw (x10 - borrow10))) rfl rfl rfl ?_)
   refine Rl.op (OpY.assign (v := (Value.int .i64 (iw (x10 - borrow10)))) rfl ?_)
   refine Rl.nil (Swp.seq (Swp.seq (Swp.region rfl (Rl.op (OpY.move (v := (Value.int .i64 i10)) rfl ?_)))))
   refine Rl.op (OpY.move (v := b_v) rfl ?_)
   have f13 := ((b_h.mono (K7 S)).mono (K10 S))
   refine Rl.op (OpY.lenRo (v := b_v) Tryd.underlying52 rfl f13 ?_)
   refine Rl.op (OpY.lss (x := i10) (y := (List.length b : Int)) ((i10 : Int) < (List.length b : Int)) rfl rfl Iff.rfl ?_)
   refine Rl.nil ?_
   obtain ⟨s11, h, g11⟩ := bind_some h
   refine Swp.join (fun e w' => ∃ (n11 : Int) (u : Env), n11 = s11 ∧ e = upds [(0, a_v), (1, b_v), (5, (osv ob11 0 (List.length out11) cap11)), (7, (Value.int .i64 i10)), (8, (Value.int .i64 n11))] u ∧ Go.X.Loc [] [] w w' [ob11] [Cont.cells ([] ++ (cs11 ++ sp11))] ∧ Keep w.heap.size [ob11] w10 [ob11] w' ∧ True) ?_ ?_
   ·
    refine Swp.cond_d ((i10 : Int) < (List.length b : Int)) rfl (fun hc12 => ?_) (fun hc12 => ?_)
    ·
     replace h := ite_t hc12 h
     refine Swp.region rfl (Rl.op (OpY.move (v := (Value.int .i64 (iw (x10 - borrow10)))) rfl ?_))
     refine Rl.op (OpY.move (v := b_v) rfl ?_)
     refine Rl.op (OpY.move (v := (Value.int .i64 i10)) rfl ?_)
     obtain ⟨x11, q16, h⟩ := bind_some h
     obtain ⟨n12, q17, q18⟩ := idx_some q16
     obtain ⟨b11, o11, c11, vs11, q19, q20, f14, q21⟩ := Rs.get f13 q18
     obtain rfl := q21
     refine Rl.op (OpY.ixRoD (r := (rInt .i64)) (v := b_v) (n := n12) (m := (o11 + n12 * (rInt .i64).sz)) Tryd.underlying52 ti3 rfl q19 rfl q17 q18 rfl ?_)
     refine Rl.op (OpY.ldRo1 (v := (Value.int .i64 x11)) Tryd.underlying3 rfl rfl vw_view f14 ?_)
     refine Rl.op (OpY.sub (x := (iw (x10 - borrow10))) (y := x11) (z := (iw ((iw (x10 - borrow10)) - x11))) rfl rfl rfl ?_)
     refine Rl.op (OpY.assign (v := (Value.int .i64 (iw ((iw (x10 - borrow10)) - x11)))) rfl ?_)
     refine Rl.nil ?_
     obtain rfl := Option.some.inj h
     refine Swp.pop_back ?_
     exact ⟨(iw ((iw (x10 - borrow10)) - x11)), _, rfl, (upds_sym ⟨rfl, rfl, rfl, rfl, rfl, trivial⟩), hL10, Keep.refl, trivial⟩
    ·
     replace h := ite_f hc12 h
     refine Swp.skip ?_
     obtain rfl := Option.some.inj h
     refine Swp.pop_back ?_
     exact ⟨(iw (x10 - borrow10)), _, rfl, (upds_sym ⟨rfl, rfl, rfl, rfl, rfl, trivial⟩), hL10, Keep.refl, trivial⟩
   ·
    rintro _ w11 ⟨n11, u, rfl, rfl, hL11, K11, -⟩
    replace h := g11
    try dsimp only at h
    refine Swp.seq (Swp.region rfl (Rl.op (OpY.assign (v := (Value.int .i64 0)) rfl ?_)))
    refine Rl.nil (Swp.seq (Swp.seq (Swp.region rfl (Rl.op (OpY.move (v := (Value.int .i64 n11)) rfl ?_)))))
    refine Rl.op (OpY.lss (x := n11) (y := 0) ((n11 : Int) < 0) rfl rfl Iff.rfl ?_)
    refine Rl.nil ?_
    obtain ⟨s12, h, g12⟩ := bind_some h
    refine Swp.join (fun e w' => ∃ (borrow11 : Int) (n13 : Int) (u : Env), (borrow11, n13) = s12 ∧ e = upds [(0, a_v), (1, b_v), (5, (osv ob11 0 (List.length out11) cap11)), (6, (Value.int .i64 borrow11)), (7, (Value.int .i64 i10)), (8, (Value.int .i64 n13))] u ∧ Go.X.Loc [] [] w w' [ob11] [Cont.cells ([] ++ (cs11 ++ sp11))] ∧ Keep w.heap.size [ob11] w11 [ob11] w' ∧ True) ?_ ?_
    ·
     refine Swp.cond_d ((n11 : Int) < 0) rfl (fun hc13 => ?_) (fun hc13 => ?_)
     ·
      replace h := ite_t hc13 h
      refine Swp.seq (Swp.region rfl (Rl.op (OpY.move (v := (Value.int .i64 n11)) rfl ?_)))
      refine Rl.op (OpY.add (x := n11) (y := 65536) (z := (iw (n11 + 65536))) rfl rfl rfl ?_)
      refine Rl.op (OpY.assign (v := (Value.int .i64 (iw (n11 + 65536)))) rfl ?_)
      refine Rl.nil (Swp.region rfl (Rl.op (OpY.assign (v := (Value.int .i64 1)) rfl ?_)))
      refine Rl.nil ?_
      obtain rfl := Option.some.inj h
      refine Swp.pop_back ?_
      exact ⟨1, (iw (n11 + 65536)), _, rfl, (upds_sym ⟨rfl, rfl, rfl, rfl, rfl, rfl, trivial⟩), hL11, Keep.refl, trivial⟩
     ·
      replace h := ite_f hc13 h
      refine Swp.skip ?_
      obtain rfl := Option.some.inj h
      refine Swp.pop_back ?_
      exact ⟨0, n11, _, rfl, (upds_sym ⟨rfl, rfl, rfl, rfl, rfl, rfl, trivial⟩), hL11, Keep.refl, trivial⟩
    ·
     rintro _ w12 ⟨borrow11, n13, u, rfl, rfl, hL12, K12, -⟩
     replace h := g12
     try dsimp only at h
     refine Swp.region rfl (Rl.op (OpY.move (v := (osv ob11 0 (List.length out11) cap11)) rfl ?_))
     refine Rl.op (OpY.move (v := (Value.int .i64 n13)) rfl ?_)
     have hE11 : Els (rInt .i64) (Hv w.heap.size None [ob11] w12) [(Value.int .i64 n13)] [n13] := (Els.cons (a := [(Value.int .i64 n13)]) rfl Els.nil)
     refine Rl.op (OpY.litRow (r := (rInt .i64)) (vs := [(Value.int .i64 n13)]) (css := [[(Value.int .i64 n13)]]) (xs := [n13]) Tryd.underlying52 ti3 (Nat.le_of_ble_eq_true rfl) rfl rfl ⟨rfl, rfl, trivial⟩ (Nat.le_of_ble_eq_true rfl) hE11 rfl hL12 ?_)
     intro b12 w13 hc14 hL13 hS10
     have K13 := ks w hS10
     obtain ⟨x12, q22, h⟩ := bind_some h
     obtain ⟨q23, q24, q25⟩ := apnd_some q22
     have f15 := (hE11.mono (K13 None))
     have f16 := (((hE10.mono (K11 None)).mono (K12 None)).mono (K13 None))
     refine Rl.op (OpY.apRowX (r := (rInt .i64)) (H := (Hv w.heap.size None [some b12, ob11] w13)) (cs := cs11) (sp := sp11) (xs := out11) (ys := [n13]) (Y := x12) (n := (List.length out11)) (cap := cap11) (i := 1) Tryd.underlying52 ti3 rfl rfl rfl rfl hL13 rfl rfl f16 rfl hc10 (Src.row (pre := []) (o := 0) (n := 1) (cap := 1) (hL13.at 0 rfl rfl) f15 rfl rfl rfl) (Els.anyH (fun _ _ _ _ h => h) f15) q23 q24 q25 ?_)
     intro ob12 cap12 sp12 cs12 w14 hE12 hc15 (hL14 : Go.X.Loc [] [] w w14 [some b12, ob12] [Cont.cells ([] ++ ([(Value.int .i64 n13)] ++ [])), Cont.cells ([] ++ (cs12 ++ sp12))]) hS11
     have K14 := ks w hS11
     refine Rl.op (OpY.assign (v := (osv ob12 0 (List.length x12) cap12)) rfl ?_)
     refine Rl.nil (Swp.pop_blk (Swp.region rfl (Rl.op (OpY.move (v := (Value.int .i64 i10)) rfl ?_))))
     refine Rl.op (OpY.add (x := i10) (y := 1) (z := (iw (i10 + 1))) rfl rfl rfl ?_)
     refine Rl.op (OpY.assign (v := (Value.int .i64 (iw (i10 + 1)))) rfl ?_)
     refine Rl.nil ?_
     have hp10 := hL14.pick [1] rfl rfl rfl
     have hL15 : Go.X.Loc [] [] w w14 [ob12] [Cont.cells ([] ++ (cs12 ++ sp12))] := hp10.1
     have K15 := ks w hp10.2
     have f17 := ((hE12.mono (K14 None)).mono (K15 None))
     obtain rfl := Option.some.inj h
     refine Swp.pop_back ⟨(x12, borrow11, (iw (i10 + 1))), rfl, ?_⟩
     exact ⟨ob12, cap12, sp12, cs12, (List.length x12), _, (upds_sym ⟨rfl, rfl, rfl, rfl, rfl, trivial⟩), hL15, (Keep.trans (Keep.trans (Keep.trans (Keep.trans (Keep.trans K10 K11) K12) K13) K14) K15), f17, rfl, hc15, trivial⟩
  ·
   replace h := ite_f hc11 h
   refine Swp.exit rfl ?_
   obtain rfl := Option.some.inj h
   obtain rfl := hd10 _ rfl
   replace h := g10
   try dsimp only at h
   skip
   refine Swp.pop_back ?_
   exact ⟨out11, ob11, cap11, sp11, cs11, (List.length out11), _, rfl, (upds_sym ⟨rfl, trivial⟩), hL10, K10, hE10, rfl, hc10, trivial⟩
 ·
  rintro _ w15 ⟨out10, ob10, cap10, sp10, cs10, ln10, u, rfl, rfl, hL16, K16, hE13, rfl, hc16, -⟩
  replace h := g10
  try dsimp only at h
  refine Swp.seq (Swp.region rfl (Rl.op (OpY.move (v := (osv ob10 0 (List.length out10) cap10)) rfl ?_)))
  have f18 := hL16.freezeRow 0 rfl rfl hE13 rfl rfl rfl hc16
  have hp11 := hL16.pick [] rfl rfl rfl
  have hL17 : Go.X.Loc [] [] w w15 [] [] := hp11.1
  obtain ⟨r10, q26, h⟩ := bind_some h
  refine Rl.op (OpY.call en63 rfl rfl (rtrim_w N out10 (osv ob10 0 (List.length out10) cap10) _ _ (f18.mono Hv.enter) r10 q26) ?_)
  rintro _ w16 hE14 ⟨v10, rfl, k10, -⟩
  replace k10 := k10.mono (Hv.aliasO (S := None) hL17 [])
  have hL18 := hL17.ext hE14
  refine Rl.op (OpY.assign (v := v10) rfl ?_)
  refine Rl.nil (Swp.ret ?_)
  obtain rfl := Option.some.inj h
  refine ⟨[v10], ⟨rfl, trivial⟩, ⟨_, rfl, hL18.done, ?_⟩⟩
  exact ⟨v10, rfl, (k10.mono Hv.out), trivial⟩
theorem rtimes_w (N : Nat) (a : (List Int)) (d : Int) (a_v : Value) (w : World) (S : Nat → Prop) (a_h : Rs (rInt .i64) (Hv w.heap.size S [] w) a_v a) (r : (List Int)) (h : rtimes N a d = some r) :
  Calls Tryd.prog 62 #[a_v, (Value.int .i64 d)] w (Ret w (fun v w' => ∃ (v0_0 : Value), v0_0 = v ∧ Rs (rInt .i64) (Hv w.heap.size None [] w') v0_0 r ∧ True)) := by
 unfold rtimes at h
 have hL : Go.X.Loc [] [] w w [] [] := Go.X.Loc.begin0 w
 refine calls_of (l := [a_v, (Value.int .i64 d)]) (rl := [.tmp 4]) (n := 40) Tryd.func62 rfl rfl rfl (Nat.le_of_ble_eq_true rfl) ?_
 refine Swp.seq (Swp.region rfl (Rl.op (OpY.assign (v := (Value.slice none 0 0)) rfl ?_)))
 refine Rl.nil (Swp.seq (Swp.region rfl (Rl.op (OpY.litRow0 Tryd.underlying52 ti3 hL ?_))))
 intro b1 w5 hL6 hS8
 have hE9 : Els (rInt .i64) (Hv w.heap.size None [] w) [] [] := Els.nil
 have K7 := ks w hS8
 refine Rl.op (OpY.assign (v := (osv (some b1) 0 (List.length ([] : (List Int))) 0)) rfl ?_)
 refine Rl.nil (Swp.seq (Swp.region rfl (Rl.op (OpY.assign (v := (Value.int .i64 0)) rfl ?_))))
 refine Rl.nil (Swp.seq (Swp.seq (Swp.region rfl (Rl.op (OpY.assign (v := (Value.int .i64 0)) rfl ?_)))))
 refine Rl.nil ?_
 obtain ⟨s10, hl10, g10⟩ := bind_some h
 refine Swp.join (fun e w' => ∃ (out10 : (List Int)) (ob10 : Option Nat) (cap10 : Nat) (sp10 : List Value) (cs10 : List Value) (ln10 : Nat) (u : Env), out10 = s10 ∧ e = upds [(5, (osv ob10 0 ln10 cap10))] u ∧ Go.X.Loc [] [] w w' [ob10] [Cont.cells ([] ++ (cs10 ++ sp10))] ∧ Keep w.heap.size [some b1] w5 [ob10] w' ∧ Els (rInt .i64) (Hv w.heap.size None [ob10] w') cs10 out10 ∧ ln10 = List.length out10 ∧ (cs10 ++ sp10).length = cap10 * (rInt .i64).sz ∧ True) ?_ ?_
 ·
  refine Swp.block ?_
  have f10 := (hE9.mono (K7 None))
  refine Swp.loopM hl10 (fun (ss : ((List Int) × Int × Int)) (e : Env) (w' : World) => match ss with | (out11, carry10, i10) => ∃ (ob11 : Option Nat) (cap11 : Nat) (sp11 : List Value) (cs11 : List Value) (ln11 : Nat) (u : Env), e = upds [(0, a_v), (1, (Value.int .i64 d)), (5, (osv ob11 0 ln11 cap11)), (6, (Value.int .i64 carry10)), (7, (Value.int .i64 i10))] u ∧ Go.X.Loc [] [] w w' [ob11] [Cont.cells ([] ++ (cs11 ++ sp11))] ∧ Keep w.heap.size [some b1] w5 [ob11] w' ∧ Els (rInt .i64) (Hv w.heap.size None [ob11] w') cs11 out11 ∧ ln11 = List.length out11 ∧ (cs11 ++ sp11).length = cap11 * (rInt .i64).sz ∧ True) ⟨some b1, 0, [], [], (List.length ([] : (List Int))), _, (upds_sym ⟨rfl, rfl, rfl, rfl, rfl, trivial⟩), hL6, Keep.refl, f10, rfl, (show ([] ++ [] : List Value).length = 0 * (rInt .i64).sz by simp), trivial⟩ ?_
  rintro ⟨out11, carry10, i10⟩ oo _ w10 ⟨ob11, cap11, sp11, cs11, ln11, u, rfl, hL10, K10, hE10, rfl, hc10, -⟩ h hd10
  rw [rtimes_b1] at h
  refine Swp.seq (Swp.seq ?_)
  obtain ⟨s11, h, g11⟩ := bind_some h
  refine Swp.join (fun e w' => ∃ (x10 : Bool) (u : Env), x10 = s11 ∧ e = upds [(0, a_v), (1, (Value.int .i64 d)), (5, (osv ob11 0 (List.length out11) cap11)), (6, (Value.int .i64 carry10)), (7, (Value.int .i64 i10)), (16, (Value.bool x10))] u ∧ Go.X.Loc [] [] w w' [ob11] [Cont.cells ([] ++ (cs11 ++ sp11))] ∧ Keep w.heap.size [ob11] w10 [ob11] w' ∧ True) ?_ ?_
  ·
   refine Swp.region rfl (Rl.op (OpY.move (v := (Value.int .i64 i10)) rfl ?_))
   refine Rl.op (OpY.move (v := a_v) rfl ?_)
   have f11 := ((a_h.mono (K7 S)).mono (K10 S))
   refine Rl.op (OpY.lenRo (v := a_v) Tryd.underlying52 rfl f11 ?_)
   refine Rl.op (OpY.lss (x := i10) (y := (List.length a : Int)) ((i10 : Int) < (List.length a : Int)) rfl rfl Iff.rfl ?_)
   refine Rl.op (OpY.move (v := (Value.bool (decide ((i10 : Int) < (List.length a : Int))))) rfl ?_)
   by_cases hc11 : (i10 : Int) < (List.length a : Int)
   ·
    replace h := ite_t hc11 h
    refine Rl.no rfl rfl (decide_eq_true hc11) ?_
    refine Rl.no rfl rfl (decide_eq_true hc11) ?_
    refine Rl.op (OpY.pick_t (t := (decide ((i10 : Int) < (List.length a : Int)))) (v := (Value.bool true)) rfl (decide_eq_true hc11) rfl ?_)
    refine Rl.nil ?_
    obtain rfl := Option.some.inj h
    refine Swp.pop_back ?_
    exact ⟨true, _, rfl, (upds_sym ⟨rfl, rfl, rfl, rfl, rfl, rfl, trivial⟩), hL10, Keep.refl, trivial⟩
   ·
    replace h := ite_f hc11 h
    refine Rl.yes rfl rfl (decide_eq_false hc11) (OpY.move (v := (Value.int .i64 carry10)) rfl ?_)
    refine Rl.yes rfl rfl (decide_eq_false hc11) (OpY.gtr (x := carry10) (y := 0) ((carry10 : Int) > 0) rfl rfl Iff.rfl ?_)
    refine Rl.op (OpY.pick_f (t := (decide ((i10 : Int) < (List.length a : Int)))) (v := (Value.bool (decide ((carry10 : Int) > 0)))) rfl (decide_eq_false hc11) rfl ?_)
    refine Rl.nil ?_
    obtain rfl := Option.some.inj h
    refine Swp.pop_back ?_
    exact ⟨(decide ((carry10 : Int) > 0)), _, rfl, (upds_sym ⟨rfl, rfl, rfl, rfl, rfl, rfl, trivial⟩), hL10, Keep.refl, trivial⟩
  ·
   rintro _ w11 ⟨x10, u, rfl, rfl, hL11, K11, -⟩
   replace h := g11
   try dsimp only at h
   refine Swp.cond_b x10 rfl (fun hc12 => ?_) (fun hc12 => ?_)
   ·
    replace h := ite_t hc12 h
    refine Swp.skip (Swp.seq (Swp.block (Swp.seq (Swp.seq (Swp.region rfl (Rl.op (OpY.move (v := (Value.int .i64 i10)) rfl ?_)))))))
    refine Rl.op (OpY.move (v := a_v) rfl ?_)
    have f12 := (((a_h.mono (K7 S)).mono (K10 S)).mono (K11 S))
    refine Rl.op (OpY.lenRo (v := a_v) Tryd.underlying52 rfl f12 ?_)
    refine Rl.op (OpY.lss (x := i10) (y := (List.length a : Int)) ((i10 : Int) < (List.length a : Int)) rfl rfl Iff.rfl ?_)
    refine Rl.nil ?_
    obtain ⟨s12, h, g12⟩ := bind_some h
    refine Swp.join (fun e w' => ∃ (carry11 : Int) (u : Env), carry11 = s12 ∧ e = upds [(0, a_v), (1, (Value.int .i64 d)), (5, (osv ob11 0 (List.length out11) cap11)), (6, (Value.int .i64 carry11)), (7, (Value.int .i64 i10))] u ∧ Go.X.Loc [] [] w w' [ob11] [Cont.cells ([] ++ (cs11 ++ sp11))] ∧ Keep w.heap.size [ob11] w11 [ob11] w' ∧ True) ?_ ?_
    ·
     refine Swp.cond_d ((i10 : Int) < (List.length a : Int)) rfl (fun hc13 => ?_) (fun hc13 => ?_)
     ·
      replace h := ite_t hc13 h
      refine Swp.region rfl (Rl.op (OpY.move (v := (Value.int .i64 carry10)) rfl ?_))
      refine Rl.op (OpY.move (v := a_v) rfl ?_)
      refine Rl.op (OpY.move (v := (Value.int .i64 i10)) rfl ?_)
      obtain ⟨x11, q10, h⟩ := bind_some h
      obtain ⟨n10, q11, q12⟩ := idx_some q10
      obtain ⟨b10, o10, c10, vs10, q13, q14, f13, q15⟩ := Rs.get f12 q12
      obtain rfl := q15
      refine Rl.op (OpY.ixRoD (r := (rInt .i64)) (v := a_v) (n := n10) (m := (o10 + n10 * (rInt .i64).sz)) Tryd.underlying52 ti3 rfl q13 rfl q11 q12 rfl ?_)
      refine Rl.op (OpY.ldRo1 (v := (Value.int .i64 x11)) Tryd.underlying3 rfl rfl vw_view f13 ?_)
      refine Rl.op (OpY.move (v := (Value.int .i64 d)) rfl ?_)
      refine Rl.op (OpY.mul (x := x11) (y := d) (z := (iw (x11 * d))) rfl rfl rfl ?_)
      refine Rl.op (OpY.add (x := carry10) (y := (iw (x11 * d))) (z := (iw (carry10 + (iw (x11 * d))))) rfl rfl rfl ?_)
      refine Rl.op (OpY.assign (v := (Value.int .i64 (iw (carry10 + (iw (x11 * d)))))) rfl ?_)
      refine Rl.nil ?_
      obtain rfl := Option.some.inj h
      refine Swp.pop_back ?_
      exact ⟨(iw (carry10 + (iw (x11 * d)))), _, rfl, (upds_sym ⟨rfl, rfl, rfl, rfl, rfl, trivial⟩), hL11, Keep.refl, trivial⟩
     ·
      replace h := ite_f hc13 h
      refine Swp.skip ?_
      obtain rfl := Option.some.inj h
      refine Swp.pop_back ?_
      exact ⟨carry10, _, rfl, (upds_sym ⟨rfl, rfl, rfl, rfl, rfl, trivial⟩), hL11, Keep.refl, trivial⟩
    ·
     rintro _ w12 ⟨carry11, u, rfl, rfl, hL12, K12, -⟩
     replace h := g12
     try dsimp only at h
     refine Swp.seq (Swp.region rfl (Rl.op (OpY.move (v := (osv ob11 0 (List.length out11) cap11)) rfl ?_)))
     refine Rl.op (OpY.move (v := (Value.int .i64 carry11)) rfl ?_)
     refine Rl.op (OpY.remI (x := carry11) (y := 65536) rfl rfl (by decide) ?_)
     have hE11 : Els (rInt .i64) (Hv w.heap.size None [ob11] w12) [(Value.int .i64 (Int.tmod carry11 65536))] [(Int.tmod carry11 65536)] := (Els.cons (a := [(Value.int .i64 (Int.tmod carry11 65536))]) rfl Els.nil)
     refine Rl.op (OpY.litRow (r := (rInt .i64)) (vs := [(Value.int .i64 (Int.tmod carry11 65536))]) (css := [[(Value.int .i64 (Int.tmod carry11 65536))]]) (xs := [(Int.tmod carry11 65536)]) Tryd.underlying52 ti3 (Nat.le_of_ble_eq_true rfl) rfl rfl ⟨rfl, rfl, trivial⟩ (Nat.le_of_ble_eq_true rfl) hE11 rfl hL12 ?_)
     intro b11 w13 hc14 hL13 hS10
     have K13 := ks w hS10
     obtain ⟨x12, q16, h⟩ := bind_some h
     obtain ⟨q17, q18, q19⟩ := apnd_some q16
     have f14 := (hE11.mono (K13 None))
     have f15 := (((hE10.mono (K11 None)).mono (K12 None)).mono (K13 None))
     refine Rl.op (OpY.apRowX (r := (rInt .i64)) (H := (Hv w.heap.size None [some b11, ob11] w13)) (cs := cs11) (sp := sp11) (xs := out11) (ys := [(Int.tmod carry11 65536)]) (Y := x12) (n := (List.length out11)) (cap := cap11) (i := 1) Tryd.underlying52 ti3 rfl rfl rfl rfl hL13 rfl rfl f15 rfl hc10 (Src.row (pre := []) (o := 0) (n := 1) (cap := 1) (hL13.at 0 rfl rfl) f14 rfl rfl rfl) (Els.anyH (fun _ _ _ _ h => h) f14) q17 q18 q19 ?_)
     intro ob12 cap12 sp12 cs12 w14 hE12 hc15 (hL14 : Go.X.Loc [] [] w w14 [some b11, ob12] [Cont.cells ([] ++ ([(Value.int .i64 (Int.tmod carry11 65536))] ++ [])), Cont.cells ([] ++ (cs12 ++ sp12))]) hS11
     have K14 := ks w hS11
     refine Rl.op (OpY.assign (v := (osv ob12 0 (List.length x12) cap12)) rfl ?_)
     refine Rl.nil (Swp.region rfl (Rl.op (OpY.move (v := (Value.int .i64 carry11)) rfl ?_)))
     refine Rl.op (OpY.quoI (x := carry11) (y := 65536) (z := (iw (Int.tdiv carry11 65536))) rfl rfl (by decide) rfl ?_)
     refine Rl.op (OpY.assign (v := (Value.int .i64 (iw (Int.tdiv carry11 65536)))) rfl ?_)
     refine Rl.nil (Swp.pop_blk (Swp.region rfl (Rl.op (OpY.move (v := (Value.int .i64 i10)) rfl ?_))))
     refine Rl.op (OpY.add (x := i10) (y := 1) (z := (iw (i10 + 1))) rfl rfl rfl ?_)
     refine Rl.op (OpY.assign (v := (Value.int .i64 (iw (i10 + 1)))) rfl ?_)
     refine Rl.nil ?_
     have hp10 := hL14.pick [1] rfl rfl rfl
     have hL15 : Go.X.Loc [] [] w w14 [ob12] [Cont.cells ([] ++ (cs12 ++ sp12))] := hp10.1
     have K15 := ks w hp10.2
     have f16 := ((hE12.mono (K14 None)).mono (K15 None))
     obtain rfl := Option.some.inj h
     refine Swp.pop_back ⟨(x12, (iw (Int.tdiv carry11 65536)), (iw (i10 + 1))), rfl, ?_⟩
     exact ⟨ob12, cap12, sp12, cs12, (List.length x12), _, (upds_sym ⟨rfl, rfl, rfl, rfl, rfl, trivial⟩), hL15, (Keep.trans (Keep.trans (Keep.trans (Keep.trans (Keep.trans K10 K11) K12) K13) K14) K15), f16, rfl, hc15, trivial⟩
   ·
    replace h := ite_f hc12 h
    refine Swp.exit rfl ?_
    have f17 := (hE10.mono (K11 None))
    obtain rfl := Option.some.inj h
    obtain rfl := hd10 _ rfl
    replace h := g10
    try dsimp only at h
    skip
    refine Swp.pop_back ?_
    exact ⟨out11, ob11, cap11, sp11, cs11, (List.length out11), _, rfl, (upds_sym ⟨rfl, trivial⟩), hL11, (Keep.trans K10 K11), f17, rfl, hc10, trivial⟩
 ·
  rintro _ w15 ⟨out10, ob10, cap10, sp10, cs10, ln10, u, rfl, rfl, hL16, K16, hE13, rfl, hc16, -⟩
  replace h := g10
  try dsimp only at h
  refine Swp.seq (Swp.region rfl (Rl.op (OpY.move (v := (osv ob10 0 (List.length out10) cap10)) rfl ?_)))
  have f18 := hL16.freezeRow 0 rfl rfl hE13 rfl rfl rfl hc16
  have hp11 := hL16.pick [] rfl rfl rfl
  have hL17 : Go.X.Loc [] [] w w15 [] [] := hp11.1
  obtain ⟨r10, q20, h⟩ := bind_some h
  refine Rl.op (OpY.call en63 rfl rfl (rtrim_w N out10 (osv ob10 0 (List.length out10) cap10) _ _ (f18.mono Hv.enter) r10 q20) ?_)
  rintro _ w16 hE14 ⟨v10, rfl, k10, -⟩
  replace k10 := k10.mono (Hv.aliasO (S := None) hL17 [])
  have hL18 := hL17.ext hE14
  refine Rl.op (OpY.assign (v := v10) rfl ?_)
  refine Rl.nil (Swp.ret ?_)
  obtain rfl := Option.some.inj h
  refine ⟨[v10], ⟨rfl, trivial⟩, ⟨_, rfl, hL18.done, ?_⟩⟩
  exact ⟨v10, rfl, (k10.mono Hv.out), trivial⟩
theorem rsplit_w (N : Nat) (a : (List Int)) (b : (List Int)) (a_v : Value) (b_v : Value) (w : World) (S : Nat → Prop) (a_h : Rs (rInt .i64) (Hv w.heap.size S [] w) a_v a) (b_h : Rs (rInt .i64) (Hv w.heap.size S [] w) b_v b) (r : ((List Int) × (List Int))) (h : rsplit N a b = some r) :
  Calls Tryd.prog 50 #[a_v, b_v] w (Ret w (fun v w' => ∃ (v0_0 : Value) (v1_0 : Value), .tuple #[v0_0, v1_0] = v ∧ Rs (rInt .i64) (Hv w.heap.size None [] w') v0_0 r.1 ∧ Rs (rInt .i64) (Hv w.heap.size None [] w') v1_0 r.2 ∧ True)) := by
 unfold rsplit at h
 have hL : Go.X.Loc [] [] w w [] [] := Go.X.Loc.begin0 w
 refine calls_of (l := [a_v, b_v]) (rl := [.tmp 4, .tmp 5]) (n := 56) Tryd.func50 rfl rfl rfl (Nat.le_of_ble_eq_true rfl) ?_
 refine Swp.seq (Swp.region rfl (Rl.op (OpY.assign (v := (Value.slice none 0 0)) rfl ?_)))
 refine Rl.op (OpY.assign (v := (Value.slice none 0 0)) rfl ?_)
 refine Rl.nil (Swp.seq (Swp.region rfl (Rl.op (OpY.move (v := a_v) rfl ?_))))
 refine Rl.op (OpY.lenRo (v := a_v) Tryd.underlying52 rfl a_h ?_)
 obtain ⟨x2, q3, h⟩ := bind_some h
 obtain ⟨m1, q4, q5, q6, q7⟩ := mk1_some q3
 refine Rl.op (OpY.mkRowX (r := (rInt .i64)) (H := (Hv w.heap.size None [] w)) (zc := [(Value.int .i64 0)]) (x := 0) Tryd.underlying52 ti3 rfl rfl rfl rfl q4 q5 q6 q7 hL ?_)
 intro b8 w10 cs9 hE10 hc10 hL10 hS10
 have K10 := ks w hS10
 refine Rl.op (OpY.litRow0 Tryd.underlying52 ti3 hL10 ?_)
 intro b10 w11 hL11 hS11
 have hE11 : Els (rInt .i64) (Hv w.heap.size None [some b8] w10) [] [] := Els.nil
 have K11 := ks w hS11
 refine Rl.op (OpY.assign (v := (osv (some b8) 0 (List.length x2) m1)) rfl ?_)
 refine Rl.op (OpY.assign (v := (osv (some b10) 0 (List.length ([] : (List Int))) 0)) rfl ?_)
 refine Rl.nil (Swp.seq (Swp.seq (Swp.region rfl (Rl.op (OpY.move (v := a_v) rfl ?_)))))
 have f10 := ((a_h.mono (K10 S)).mono (K11 S))
 refine Rl.op (OpY.lenRo (v := a_v) Tryd.underlying52 rfl f10 ?_)
 refine Rl.op (OpY.sub (x := (List.length a : Int)) (y := 1) (z := (iw ((List.length a : Int) - 1))) rfl rfl rfl ?_)
 refine Rl.op (OpY.assign (v := (Value.int .i64 (iw ((List.length a : Int) - 1)))) rfl ?_)
 refine Rl.nil ?_
 obtain ⟨s10, hl10, g10⟩ := bind_some h
 refine Swp.join (fun e w' => ∃ (q10 : (List Int)) (x10 : (List Int)) (cs10 : List Value) (v10 : Value) (u : Env), (q10, x10) = s10 ∧ e = upds [(6, (osv (some b8) 0 (List.length x2) m1)), (7, v10)] u ∧ Go.X.Loc [] [] w w' [some b8] [Cont.cells ([] ++ (cs10 ++ []))] ∧ Keep w.heap.size [some b10, some b8] w11 [some b8] w' ∧ Els (rInt .i64) (Hv w.heap.size None [some b8] w') cs10 q10 ∧ (List.length x2) = List.length q10 ∧ (cs10 ++ []).length = m1 * (rInt .i64).sz ∧ Rs (rInt .i64) (Hv w.heap.size None [some b8] w') v10 x10 ∧ True) ?_ ?_
 ·
  refine Swp.block ?_
  have f11 := (hE11.mono (K11 None))
  have f12 := hL11.freezeRow 0 rfl rfl f11 rfl rfl rfl (show ([] ++ [] : List Value).length = 0 * (rInt .i64).sz by simp)
  have hp10 := hL11.pick [1] rfl rfl rfl
  have hL12 : Go.X.Loc [] [] w w11 [some b8] [Cont.cells ([] ++ (cs9 ++ []))] := hp10.1
  have K12 := ks w hp10.2
  have f13 := (((hE10.mono (K10 None)).mono (K11 None)).mono (K12 None))
  refine Swp.loopM hl10 (fun (ss : ((List Int) × (List Int) × Int)) (e : Env) (w' : World) => match ss with | (q11, x11, i10) => ∃ (cs11 : List Value) (v11 : Value) (u : Env), e = upds [(0, a_v), (1, b_v), (6, (osv (some b8) 0 (List.length x2) m1)), (7, v11), (8, (Value.int .i64 i10))] u ∧ Go.X.Loc [] [] w w' [some b8] [Cont.cells ([] ++ (cs11 ++ []))] ∧ Keep w.heap.size [some b10, some b8] w11 [some b8] w' ∧ Els (rInt .i64) (Hv w.heap.size None [some b8] w') cs11 q11 ∧ (List.length x2) = List.length q11 ∧ (cs11 ++ []).length = m1 * (rInt .i64).sz ∧ Rs (rInt .i64) (Hv w.heap.size None [some b8] w') v11 x11 ∧ True) ⟨cs9, (osv (some b10) 0 (List.length ([] : (List Int))) 0), _, (upds_sym ⟨rfl, rfl, rfl, rfl, rfl, trivial⟩), hL12, K12, f13, rfl, hc10, f12, trivial⟩ ?_
  rintro ⟨q11, x11, i10⟩ oo _ w12 ⟨cs11, v11, u, rfl, hL13, K13, hE12, hl11, hc11, k10, -⟩ h hd10
  rw [rsplit_b1] at h
  refine Swp.seq (Swp.seq (Swp.region rfl (Rl.op (OpY.move (v := (Value.int .i64 i10)) rfl ?_))))
  refine Rl.op (OpY.geq (x := i10) (y := 0) ((i10 : Int) ≥ 0) rfl rfl Iff.rfl ?_)
  refine Rl.nil ?_
  refine Swp.cond_d ((i10 : Int) ≥ 0) rfl (fun hc12 => ?_) (fun hc12 => ?_)
  ·
   replace h := ite_t hc12 h
   refine Swp.skip (Swp.seq (Swp.block (Swp.seq (Swp.region rfl (Rl.op (OpY.assign (v := (Value.int .i64 32768)) rfl ?_))))))
   refine Rl.nil ?_
   obtain ⟨s11, hl12, g11⟩ := bind_some h
   refine Swp.join (fun e w' => ∃ (q12 : (List Int)) (x12 : (List Int)) (cs12 : List Value) (v12 : Value) (u : Env), (q12, x12) = s11 ∧ e = upds [(0, a_v), (1, b_v), (6, (osv (some b8) 0 (List.length x2) m1)), (7, v12), (8, (Value.int .i64 i10))] u ∧ Go.X.Loc [] [] w w' [some b8] [Cont.cells ([] ++ (cs12 ++ []))] ∧ Keep w.heap.size [some b8] w12 [some b8] w' ∧ Els (rInt .i64) (Hv w.heap.size None [some b8] w') cs12 q12 ∧ (List.length x2) = List.length q12 ∧ (cs12 ++ []).length = m1 * (rInt .i64).sz ∧ Rs (rInt .i64) (Hv w.heap.size None [some b8] w') v12 x12 ∧ True) ?_ ?_
   ·
    refine Swp.block ?_
    refine Swp.loopM hl12 (fun (ss : ((List Int) × (List Int) × Int)) (e : Env) (w' : World) => match ss with | (q13, x13, bit10) => ∃ (cs13 : List Value) (v13 : Value) (u : Env), e = upds [(0, a_v), (1, b_v), (6, (osv (some b8) 0 (List.length x2) m1)), (7, v13), (8, (Value.int .i64 i10)), (9, (Value.int .i64 bit10))] u ∧ Go.X.Loc [] [] w w' [some b8] [Cont.cells ([] ++ (cs13 ++ []))] ∧ Keep w.heap.size [some b8] w12 [some b8] w' ∧ Els (rInt .i64) (Hv w.heap.size None [some b8] w') cs13 q13 ∧ (List.length x2) = List.length q13 ∧ (cs13 ++ []).length = m1 * (rInt .i64).sz ∧ Rs (rInt .i64) (Hv w.heap.size None [some b8] w') v13 x13 ∧ True) ⟨cs11, v11, _, (upds_sym ⟨rfl, rfl, rfl, rfl, rfl, rfl, trivial⟩), hL13, Keep.refl, hE12, hl11, hc11, k10, trivial⟩ ?_
    rintro ⟨q13, x13, bit10⟩ oo _ w13 ⟨cs13, v13, u, rfl, hL14, K14, hE13, hl13, hc13, k11, -⟩ h hd11
    rw [rsplit_b2] at h
    refine Swp.seq (Swp.seq (Swp.region rfl (Rl.op (OpY.move (v := (Value.int .i64 bit10)) rfl ?_))))
    refine Rl.op (OpY.gtr (x := bit10) (y := 0) ((bit10 : Int) > 0) rfl rfl Iff.rfl ?_)
    refine Rl.nil ?_
    refine Swp.cond_d ((bit10 : Int) > 0) rfl (fun hc14 => ?_) (fun hc14 => ?_)
    ·
     replace h := ite_t hc14 h
     refine Swp.skip (Swp.seq (Swp.block (Swp.seq (Swp.region rfl (Rl.op (OpY.move (v := v13) rfl ?_))))))
     refine Rl.op (OpY.move (v := v13) rfl ?_)
     obtain ⟨r10, q14, h⟩ := bind_some h
     refine Rl.op (OpY.call en61 rfl rfl (rplus_w N x13 x13 v13 v13 _ Any (k11.mono vw_any) (k11.mono vw_any) r10 q14) ?_)
     rintro _ w14 hE14 ⟨v14, rfl, k12, -⟩
     replace k12 := k12.mono (Hv.freshO (S := None) hL14 [])
     have hL15 := hL14.ext hE14
     have K15 := ke hL14 hE14
     refine Rl.op (OpY.assign (v := v14) rfl ?_)
     refine Rl.nil (Swp.seq (Swp.seq (Swp.region rfl (Rl.op (OpY.move (v := a_v) rfl ?_)))))
     refine Rl.op (OpY.move (v := (Value.int .i64 i10)) rfl ?_)
     obtain ⟨x14, q15, h⟩ := bind_some h
     obtain ⟨n10, q16, q17⟩ := idx_some q15
     have f14 := (((f10.mono (K13 S)).mono (K14 S)).mono (K15 S))
     obtain ⟨b11, o10, c10, vs10, q18, q19, f15, q20⟩ := Rs.get f14 q17
     obtain rfl := q20
     refine Rl.op (OpY.ixRoD (r := (rInt .i64)) (v := a_v) (n := n10) (m := (o10 + n10 * (rInt .i64).sz)) Tryd.underlying52 ti3 rfl q18 rfl q16 q17 rfl ?_)
     refine Rl.op (OpY.ldRo1 (v := (Value.int .i64 x14)) Tryd.underlying3 rfl rfl vw_view f15 ?_)
     refine Rl.op (OpY.move (v := (Value.int .i64 bit10)) rfl ?_)
     obtain ⟨x15, q21, h⟩ := bind_some h
     obtain ⟨q22, q23⟩ := sdiv_some q21
     refine Rl.op (OpY.quoI (x := x14) (y := bit10) (z := x15) rfl rfl q22 q23 ?_)
     refine Rl.op (OpY.remI (x := x15) (y := 2) rfl rfl (by decide) ?_)
     refine Rl.op (OpY.eql (x := (Int.tmod x15 2)) (y := 1) (((Int.tmod x15 2) : Int) = 1) rfl rfl Iff.rfl ?_)
     refine Rl.nil ?_
     obtain ⟨s12, h, g12⟩ := bind_some h
     refine Swp.join (fun e w' => ∃ (x16 : (List Int)) (v15 : Value) (u : Env), x16 = s12 ∧ e = upds [(0, a_v), (1, b_v), (6, (osv (some b8) 0 (List.length x2) m1)), (7, v15), (8, (Value.int .i64 i10)), (9, (Value.int .i64 bit10))] u ∧ Go.X.Loc [] [] w w' [some b8] [Cont.cells ([] ++ (cs13 ++ []))] ∧ Keep w.heap.size [some b8] w14 [some b8] w' ∧ Rs (rInt .i64) (Hv w.heap.size None [some b8] w') v15 x16 ∧ True) ?_ ?_
     ·
      refine Swp.cond_d (((Int.tmod x15 2) : Int) = 1) rfl (fun hc15 => ?_) (fun hc15 => ?_)
      ·
       replace h := ite_t hc15 h
       refine Swp.region rfl (Rl.op (OpY.move (v := v14) rfl ?_))
       have hE15 : Els (rInt .i64) (Hv w.heap.size None [some b8] w14) [(Value.int .i64 1)] [1] := (Els.cons (a := [(Value.int .i64 1)]) rfl Els.nil)
       refine Rl.op (OpY.litRow (r := (rInt .i64)) (vs := [(Value.int .i64 1)]) (css := [[(Value.int .i64 1)]]) (xs := [1]) Tryd.underlying52 ti3 (Nat.le_of_ble_eq_true rfl) rfl rfl ⟨rfl, rfl, trivial⟩ (Nat.le_of_ble_eq_true rfl) hE15 rfl hL15 ?_)
       intro b12 w15 hc16 hL16 hS12
       have K16 := ks w hS12
       obtain ⟨r11, q24, h⟩ := bind_some h
       have f16 := (k12.mono (K16 None))
       have f17 := (hE15.mono (K16 None))
       refine Rl.op (OpY.call en61 rfl rfl (rplus_w N r10 [1] v14 (osv (some b12) 0 1 1) _ Any (f16.mono vw_any) (own_row_any (pre := []) (o := 0) (n := 1) (cap := 1) (hL16.at 0 rfl rfl) f17 vw_any rfl rfl rfl hc16) r11 q24) ?_)
       rintro _ w16 hE16 ⟨v16, rfl, k13, -⟩
       replace k13 := k13.mono (Hv.freshO (S := None) hL16 [])
       have hL17 := hL16.ext hE16
       have K17 := ke hL16 hE16
       refine Rl.op (OpY.assign (v := v16) rfl ?_)
       refine Rl.nil ?_
       have hp11 := hL17.pick [1] rfl rfl rfl
       have hL18 : Go.X.Loc [] [] w w16 [some b8] [Cont.cells ([] ++ (cs13 ++ []))] := hp11.1
       have K18 := ks w hp11.2
       have f18 := (k13.mono (K18 None))
       obtain rfl := Option.some.inj h
       refine Swp.pop_back ?_
       exact ⟨r11, v16, _, rfl, (upds_sym ⟨rfl, rfl, rfl, rfl, rfl, rfl, trivial⟩), hL18, (Keep.trans (Keep.trans K16 K17) K18), f18, trivial⟩
      ·
       replace h := ite_f hc15 h
       refine Swp.skip ?_
       obtain rfl := Option.some.inj h
       refine Swp.pop_back ?_
       exact ⟨r10, v14, _, rfl, (upds_sym ⟨rfl, rfl, rfl, rfl, rfl, rfl, trivial⟩), hL15, Keep.refl, k12, trivial⟩
     ·
      rintro _ w17 ⟨x16, v15, u, rfl, rfl, hL19, K19, k14, -⟩
      replace h := g12
      try dsimp only at h
      refine Swp.seq (Swp.region rfl (Rl.op (OpY.move (v := v15) rfl ?_)))
      refine Rl.op (OpY.move (v := b_v) rfl ?_)
      obtain ⟨r12, q25, h⟩ := bind_some h
      have f19 := ((((((b_h.mono (K10 S)).mono (K11 S)).mono (K13 S)).mono (K14 S)).mono (K15 S)).mono (K19 S))
      refine Rl.op (OpY.call en66 rfl rfl (rorder_w N x16 b v15 b_v _ Any (k14.mono vw_any) (f19.mono vw_any) r12 q25) ?_)
      rintro _ w18 hE17 ⟨rfl, -⟩
      have hL20 := hL19.ext hE17
      have K20 := ke hL19 hE17
      refine Rl.op (OpY.geq (x := r12) (y := 0) ((r12 : Int) ≥ 0) rfl rfl Iff.rfl ?_)
      refine Rl.nil ?_
      refine Swp.cond_d ((r12 : Int) ≥ 0) rfl (fun hc17 => ?_) (fun hc17 => ?_)
      ·
       replace h := ite_t hc17 h
       refine Swp.seq (Swp.region rfl (Rl.op (OpY.move (v := v15) rfl ?_)))
       refine Rl.op (OpY.move (v := b_v) rfl ?_)
       obtain ⟨r13, q26, h⟩ := bind_some h
       have f20 := (k14.mono (K20 None))
       have f21 := (f19.mono (K20 S))
       refine Rl.op (OpY.call en67 rfl rfl (rminus_w N x16 b v15 b_v _ Any (f20.mono vw_any) (f21.mono vw_any) r13 q26) ?_)
       rintro _ w19 hE18 ⟨v17, rfl, k15, -⟩
       replace k15 := k15.mono (Hv.freshO (S := None) hL20 [])
       have hL21 := hL20.ext hE18
       have K21 := ke hL20 hE18
       refine Rl.op (OpY.assign (v := v17) rfl ?_)
       refine Rl.nil (Swp.region rfl (Rl.op (OpY.move (v := (osv (some b8) 0 (List.length x2) m1)) rfl ?_)))
       refine Rl.op (OpY.move (v := (Value.int .i64 i10)) rfl ?_)
       obtain ⟨x17, q27, h⟩ := bind_some h
       obtain ⟨n11, q28, q29⟩ := idx_some q27
       have q30 := (List.getElem?_eq_some_iff.1 q29).1
       refine Rl.op (OpY.ixRowD (r := (rInt .i64)) (b := b8) (o := 0) (n := n11) (m := (List.length x2)) (xs := q13) (q := (0 + n11 * (rInt .i64).sz)) Tryd.underlying52 ti3 rfl hl13 rfl q28 q30 rfl ?_)
       have f22 := ((((hE13.mono (K15 None)).mono (K19 None)).mono (K20 None)).mono (K21 None))
       obtain ⟨vs11, q31, q32, q33⟩ := row_elem (pre := []) (sp := []) f22 q29
       obtain rfl := q32
       refine Rl.op (OpY.ldElem1 (v := (Value.int .i64 x17)) Tryd.underlying3 rfl rfl (hL21.at 0 rfl rfl) q33 ?_)
       refine Rl.op (OpY.move (v := (Value.int .i64 bit10)) rfl ?_)
       refine Rl.op (OpY.add (x := x17) (y := bit10) (z := (iw (x17 + bit10))) rfl rfl rfl ?_)
       obtain ⟨x18, q34, h⟩ := bind_some h
       obtain ⟨n12, q35, q36⟩ := idx_some q34
       have q37 := (List.getElem?_eq_some_iff.1 q36).1
       refine Rl.op (OpY.ixRowD (r := (rInt .i64)) (b := b8) (o := 0) (n := n12) (m := (List.length x2)) (xs := q13) (q := (0 + n12 * (rInt .i64).sz)) Tryd.underlying52 ti3 rfl hl13 rfl q35 q37 rfl ?_)
       obtain ⟨x19, q38, h⟩ := bind_some h
       obtain ⟨n13, q39, q40, q41⟩ := upd1_some q38
       obtain rfl := Int.ofNat_inj.1 (q35.symm.trans q39)
       refine Rl.op0 (OpY.stRowX (pre := []) (r := (rInt .i64)) (vs := [(Value.int .i64 (iw (x17 + bit10)))]) (a := (iw (x17 + bit10))) ti3 rfl rfl rfl rfl hL21 0 rfl rfl f22 q37 rfl q41 ?_)
       have hl14 : (List.length x2) = List.length x19 := by rw [q41, List.length_set]; exact hl13
       intro w20 cs14 (hL22 : Go.X.Loc [] [] w w20 [some b8] [Cont.cells ([] ++ (cs14 ++ []))]) hS13 hE19 q42
       have hc18 : (cs14 ++ []).length = m1 * (rInt .i64).sz := by have := hc13; rw [List.length_append] at this ⊢; rw [q42]; exact this
       have K22 := ks w hS13
       refine Rl.nil (Swp.pop_blk (Swp.region rfl (Rl.op (OpY.move (v := (Value.int .i64 bit10)) rfl ?_))))
       refine Rl.op (OpY.quoI (x := bit10) (y := 2) (z := (iw (Int.tdiv bit10 2))) rfl rfl (by decide) rfl ?_)
       refine Rl.op (OpY.assign (v := (Value.int .i64 (iw (Int.tdiv bit10 2)))) rfl ?_)
       refine Rl.nil ?_
       have f23 := (hE19.mono (K22 None))
       have f24 := (k15.mono (K22 None))
       obtain rfl := Option.some.inj h
       refine Swp.pop_back ⟨(x19, r13, (iw (Int.tdiv bit10 2))), rfl, ?_⟩
       exact ⟨cs14, v17, _, (upds_sym ⟨rfl, rfl, rfl, rfl, rfl, rfl, trivial⟩), hL22, (Keep.trans (Keep.trans (Keep.trans (Keep.trans (Keep.trans K14 K15) K19) K20) K21) K22), f23, hl14, hc18, f24, trivial⟩
      ·
       replace h := ite_f hc17 h
       refine Swp.skip (Swp.pop_blk (Swp.region rfl (Rl.op (OpY.move (v := (Value.int .i64 bit10)) rfl ?_))))
       refine Rl.op (OpY.quoI (x := bit10) (y := 2) (z := (iw (Int.tdiv bit10 2))) rfl rfl (by decide) rfl ?_)
       refine Rl.op (OpY.assign (v := (Value.int .i64 (iw (Int.tdiv bit10 2)))) rfl ?_)
       refine Rl.nil ?_
       have f25 := (((hE13.mono (K15 None)).mono (K19 None)).mono (K20 None))
       have f26 := (k14.mono (K20 None))
       obtain rfl := Option.some.inj h
       refine Swp.pop_back ⟨(q13, x16, (iw (Int.tdiv bit10 2))), rfl, ?_⟩
       exact ⟨cs13, v15, _, (upds_sym ⟨rfl, rfl, rfl, rfl, rfl, rfl, trivial⟩), hL20, (Keep.trans (Keep.trans (Keep.trans K14 K15) K19) K20), f25, hl13, hc13, f26, trivial⟩
    ·
     replace h := ite_f hc14 h
     refine Swp.exit rfl ?_
     obtain rfl := Option.some.inj h
     obtain rfl := hd11 _ rfl
     replace h := g11
     try dsimp only at h
     skip
     refine Swp.pop_back ?_
     exact ⟨q13, x13, cs13, v13, _, rfl, (upds_sym ⟨rfl, rfl, rfl, rfl, rfl, trivial⟩), hL14, K14, hE13, hl13, hc13, k11, trivial⟩
   ·
    rintro _ w21 ⟨q12, x12, cs12, v12, u, rfl, rfl, hL23, K23, hE20, hl15, hc19, k16, -⟩
    replace h := g11
    try dsimp only at h
    refine Swp.pop_blk (Swp.region rfl (Rl.op (OpY.move (v := (Value.int .i64 i10)) rfl ?_)))
    refine Rl.op (OpY.sub (x := i10) (y := 1) (z := (iw (i10 - 1))) rfl rfl rfl ?_)
    refine Rl.op (OpY.assign (v := (Value.int .i64 (iw (i10 - 1)))) rfl ?_)
    refine Rl.nil ?_
    obtain rfl := Option.some.inj h
    refine Swp.pop_back ⟨(q12, x12, (iw (i10 - 1))), rfl, ?_⟩
    exact ⟨cs12, v12, _, (upds_sym ⟨rfl, rfl, rfl, rfl, rfl, trivial⟩), hL23, (Keep.trans K13 K23), hE20, hl15, hc19, k16, trivial⟩
  ·
   replace h := ite_f hc12 h
   refine Swp.exit rfl ?_
   obtain rfl := Option.some.inj h
   obtain rfl := hd10 _ rfl
   replace h := g10
   try dsimp only at h
   skip
   refine Swp.pop_back ?_
   exact ⟨q11, x11, cs11, v11, _, rfl, (upds_sym ⟨rfl, rfl, trivial⟩), hL13, K13, hE12, hl11, hc11, k10, trivial⟩
 ·
  rintro _ w22 ⟨q10, x10, cs10, v10, u, rfl, rfl, hL24, K24, hE21, hl16, hc20, k17, -⟩
  replace h := g10
  try dsimp only at h
  refine Swp.seq (Swp.region rfl (Rl.op (OpY.move (v := (osv (some b8) 0 (List.length x2) m1)) rfl ?_)))
  have f27 := hL24.freezeRow 0 rfl rfl hE21 rfl rfl hl16 hc20
  have hp12 := hL24.pick [] rfl rfl rfl
  have hL25 : Go.X.Loc [] [] w w22 [] [] := hp12.1
  have K25 := ks w hp12.2
  obtain ⟨r14, q43, h⟩ := bind_some h
  refine Rl.op (OpY.call en63 rfl rfl (rtrim_w N q10 (osv (some b8) 0 (List.length x2) m1) _ _ (f27.mono Hv.enter) r14 q43) ?_)
  rintro _ w23 hE22 ⟨v18, rfl, k18, -⟩
  replace k18 := k18.mono (Hv.aliasO (S := None) hL25 [])
  have hL26 := hL25.ext hE22
  have K26 := ke hL25 hE22
  refine Rl.op (OpY.move (v := v10) rfl ?_)
  refine Rl.op (OpY.assign (v := v18) rfl ?_)
  refine Rl.op (OpY.assign (v := v10) rfl ?_)
  refine Rl.nil (Swp.ret ?_)
  obtain rfl := Option.some.inj h
  refine ⟨[v18, v10], ⟨rfl, rfl, trivial⟩, ⟨_, rfl, hL26.done, ?_⟩⟩
  have f28 := ((k17.mono (K25 None)).mono (K26 None))
  exact ⟨v18, v10, rfl, (k18.mono Hv.out), (f28.mono Hv.out), trivial⟩
theorem rText_w (N : Nat) (x : Big) (x_v : Value) (w : World) (S : Nat → Prop) (x_h : Rs (rInt .u32) (Hv w.heap.size S [] w) x_v x.Digits) (r : (List UInt8)) (h : rText N x = some r) :
  Calls Tryd.prog 22 #[(Value.agg #[(Value.bool x.Negative), x_v])] w (Ret w (fun v w' => (Value.string (s8 r)) = v ∧ True)) := by
 unfold rText at h
 have hL : Go.X.Loc [] [] w w [] [] := Go.X.Loc.begin0 w
 refine calls_of (l := [(Value.agg #[(Value.bool x.Negative), x_v])]) (rl := [.tmp 2]) (n := 40) Tryd.func22 rfl rfl rfl (Nat.le_of_ble_eq_true rfl) ?_
 refine Swp.seq (Swp.region rfl (Rl.op (OpY.box (cs := [(Value.bool x.Negative), x_v]) rfl rfl hL ?_)))
 intro b1 w2 hL3 hS5
 have K4 := ks w hS5
 refine Rl.op (OpY.assign (v := (Value.string (s8 ([] : List UInt8)))) rfl ?_)
 refine Rl.nil (Swp.seq (Swp.region rfl (Rl.op (OpY.ldBoxA (vs := [(Value.bool x.Negative), x_v]) Tryd.underlying24 rfl ti24 rfl (hL3.at 0 rfl rfl) rfl rfl ?_))))
 obtain ⟨r6, q7, h⟩ := bind_some h
 have f10 := (x_h.mono (K4 S))
 refine Rl.op (OpY.call en51 rfl rfl (halves_w N x x_v _ Any (f10.mono vw_any) r6 q7) ?_)
 rintro _ w10 hE10 ⟨v8, rfl, k9, -⟩
 replace k9 := k9.mono (Hv.freshO (S := None) hL3 [])
 have hL10 := hL3.ext hE10
 refine Rl.op (OpY.assign (v := v8) rfl ?_)
 refine Rl.nil (Swp.seq (Swp.region rfl (Rl.op (OpY.assign (v := (Value.string (s8 ([] : List UInt8)))) rfl ?_))))
 refine Rl.nil (Swp.seq ?_)
 obtain ⟨s10, hl10, g10⟩ := bind_some h
 refine Swp.join (fun e w' => ∃ (s11 : (List UInt8)) (u : Env), s11 = s10 ∧ e = upds [(1, (Value.pointer (some ⟨b1, 0, none⟩))), (4, (Value.string (s8 s11)))] u ∧ Go.X.Loc [] [] w w' [some b1] [Cont.cells [(Value.bool x.Negative), x_v]] ∧ Keep w.heap.size [some b1] w10 [some b1] w' ∧ True) ?_ ?_
 ·
  refine Swp.block ?_
  refine Swp.loopM hl10 (fun (ss : ((List Int) × (List UInt8))) (e : Env) (w' : World) => match ss with | (l10, s12) => ∃ (v10 : Value) (u : Env), e = upds [(1, (Value.pointer (some ⟨b1, 0, none⟩))), (3, v10), (4, (Value.string (s8 s12)))] u ∧ Go.X.Loc [] [] w w' [some b1] [Cont.cells [(Value.bool x.Negative), x_v]] ∧ Keep w.heap.size [some b1] w10 [some b1] w' ∧ Rs (rInt .i64) (Hv w.heap.size None [some b1] w') v10 l10 ∧ True) ⟨v8, _, (upds_sym ⟨rfl, rfl, rfl, trivial⟩), hL10, Keep.refl, k9, trivial⟩ ?_
  rintro ⟨l10, s12⟩ oo _ w11 ⟨v10, u, rfl, hL11, K10, k10, -⟩ h hd10
  rw [rText_b1] at h
  refine Swp.seq (Swp.seq (Swp.region rfl (Rl.op (OpY.move (v := v10) rfl ?_))))
  refine Rl.op (OpY.lenRo (v := v10) Tryd.underlying52 rfl k10 ?_)
  refine Rl.op (OpY.gtr (x := (List.length l10 : Int)) (y := 0) (((List.length l10 : Int) : Int) > 0) rfl rfl Iff.rfl ?_)
  refine Rl.nil ?_
  refine Swp.cond_d (((List.length l10 : Int) : Int) > 0) rfl (fun hc10 => ?_) (fun hc10 => ?_)
  ·
   replace h := ite_t hc10 h
   refine Swp.skip (Swp.block (Swp.seq (Swp.region rfl (Rl.op (OpY.move (v := v10) rfl ?_)))))
   have hE11 : Els (rInt .i64) (Hv w.heap.size None [some b1] w11) [(Value.int .i64 10)] [10] := (Els.cons (a := [(Value.int .i64 10)]) rfl Els.nil)
   refine Rl.op (OpY.litRow (r := (rInt .i64)) (vs := [(Value.int .i64 10)]) (css := [[(Value.int .i64 10)]]) (xs := [10]) Tryd.underlying52 ti3 (Nat.le_of_ble_eq_true rfl) rfl rfl ⟨rfl, rfl, trivial⟩ (Nat.le_of_ble_eq_true rfl) hE11 rfl hL11 ?_)
   intro b10 w12 hc11 hL12 hS10
   have K11 := ks w hS10
   obtain ⟨r10, q10, h⟩ := bind_some h
   have f11 := (k10.mono (K11 None))
   have f12 := (hE11.mono (K11 None))
   refine Rl.op (OpY.call en50 rfl rfl (rsplit_w N l10 [10] v10 (osv (some b10) 0 1 1) _ Any (f11.mono vw_any) (own_row_any (pre := []) (o := 0) (n := 1) (cap := 1) (hL12.at 0 rfl rfl) f12 vw_any rfl rfl rfl hc11) r10 q10) ?_)
   rintro _ w13 hE12 ⟨v11, v12, rfl, k11, k12, -⟩
   replace k11 := k11.mono (Hv.freshO (S := None) hL12 [])
   replace k12 := k12.mono (Hv.freshO (S := None) hL12 [])
   have hL13 := hL12.ext hE12
   have K12 := ke hL12 hE12
   refine Rl.op (OpY.move (v := (Value.tuple #[v11, v12])) rfl ?_)
   refine Rl.op (OpY.extract (vs := [v11, v12]) (v := v11) rfl rfl ?_)
   refine Rl.op (OpY.extract (vs := [v11, v12]) (v := v12) rfl rfl ?_)
   refine Rl.op (OpY.assign (v := v11) rfl ?_)
   refine Rl.op (OpY.assign (v := v12) rfl ?_)
   refine Rl.nil (Swp.seq (Swp.region rfl (Rl.op (OpY.assign (v := (Value.int .i64 0)) rfl ?_))))
   refine Rl.nil (Swp.seq (Swp.seq (Swp.region rfl (Rl.op (OpY.move (v := v12) rfl ?_)))))
   refine Rl.op (OpY.lenRo (v := v12) Tryd.underlying52 rfl k12 ?_)
   refine Rl.op (OpY.gtr (x := (List.length r10.2 : Int)) (y := 0) (((List.length r10.2 : Int) : Int) > 0) rfl rfl Iff.rfl ?_)
   refine Rl.nil ?_
   obtain ⟨s13, h, g11⟩ := bind_some h
   refine Swp.join (fun e w' => ∃ (d10 : Int) (u : Env), d10 = s13 ∧ e = upds [(1, (Value.pointer (some ⟨b1, 0, none⟩))), (4, (Value.string (s8 s12))), (5, v11), (7, (Value.int .i64 d10))] u ∧ Go.X.Loc [] [] w w' [some b1] [Cont.cells [(Value.bool x.Negative), x_v]] ∧ Keep w.heap.size [some b10, some b1] w13 [some b1] w' ∧ True) ?_ ?_
   ·
    refine Swp.cond_d (((List.length r10.2 : Int) : Int) > 0) rfl (fun hc12 => ?_) (fun hc12 => ?_)
    ·
     replace h := ite_t hc12 h
     refine Swp.region rfl (Rl.op (OpY.move (v := v12) rfl ?_))
     obtain ⟨x10, q11, h⟩ := bind_some h
     obtain ⟨n10, q12, q13⟩ := idx_some q11
     obtain ⟨b11, o10, c10, vs10, q14, q15, f13, q16⟩ := Rs.get k12 q13
     obtain rfl := q16
     refine Rl.op (OpY.ixRoD (r := (rInt .i64)) (v := v12) (n := n10) (m := (o10 + n10 * (rInt .i64).sz)) Tryd.underlying52 ti3 rfl q14 rfl q12 q13 rfl ?_)
     refine Rl.op (OpY.ldRo1 (v := (Value.int .i64 x10)) Tryd.underlying3 rfl rfl vw_view f13 ?_)
     refine Rl.op (OpY.assign (v := (Value.int .i64 x10)) rfl ?_)
     refine Rl.nil ?_
     have hp10 := hL13.pick [1] rfl rfl rfl
     have hL14 : Go.X.Loc [] [] w w13 [some b1] [Cont.cells [(Value.bool x.Negative), x_v]] := hp10.1
     have K13 := ks w hp10.2
     obtain rfl := Option.some.inj h
     refine Swp.pop_back ?_
     exact ⟨x10, _, rfl, (upds_sym ⟨rfl, rfl, rfl, rfl, trivial⟩), hL14, K13, trivial⟩
    ·
     replace h := ite_f hc12 h
     refine Swp.skip ?_
     have hp11 := hL13.pick [1] rfl rfl rfl
     have hL15 : Go.X.Loc [] [] w w13 [some b1] [Cont.cells [(Value.bool x.Negative), x_v]] := hp11.1
     have K14 := ks w hp11.2
     obtain rfl := Option.some.inj h
     refine Swp.pop_back ?_
     exact ⟨0, _, rfl, (upds_sym ⟨rfl, rfl, rfl, rfl, trivial⟩), hL15, K14, trivial⟩
   ·
    rintro _ w14 ⟨d10, u, rfl, rfl, hL16, K15, -⟩
    replace h := g11
    try dsimp only at h
    refine Swp.seq (Swp.region rfl (Rl.op (OpY.move (v := (Value.int .i64 d10)) rfl ?_)))
    refine Rl.op (OpY.add (x := 48) (y := d10) (z := (iw (48 + d10))) rfl rfl rfl ?_)
    refine Rl.op (OpY.convInt (x := (iw (48 + d10))) (z := (uw8 (iw (48 + d10)))) Tryd.underlying3 Tryd.underlying5 rfl rfl ?_)
    have hE13 : Els (rInt .u8) (Hv w.heap.size None [some b1] w14) [(Value.int .u8 (uw8 (iw (48 + d10))))] [(uw8 (iw (48 + d10)))] := (Els.cons (a := [(Value.int .u8 (uw8 (iw (48 + d10))))]) rfl Els.nil)
    refine Rl.op (OpY.litRow (r := (rInt .u8)) (vs := [(Value.int .u8 (uw8 (iw (48 + d10))))]) (css := [[(Value.int .u8 (uw8 (iw (48 + d10))))]]) (xs := [(uw8 (iw (48 + d10)))]) Tryd.underlying70 ti5 (Nat.le_of_ble_eq_true rfl) rfl rfl ⟨rfl, rfl, trivial⟩ (Nat.le_of_ble_eq_true rfl) hE13 rfl hL16 ?_)
    intro b12 w15 hc13 hL17 hS11
    have K16 := ks w hS11
    have f14 := (hE13.mono (K16 None))
    refine Rl.op (OpY.strRow (pre := []) (cs := [(Value.int .u8 (uw8 (iw (48 + d10))))]) (sp := []) (xs := [(uw8 (iw (48 + d10)))]) Tryd.underlying70 Tryd.underlying9 Tryd.underlying5 rfl (hL17.at 0 rfl rfl) f14 rfl ?_)
    refine Rl.op (OpY.move (v := (Value.string (s8 s12))) rfl ?_)
    obtain ⟨u10, q17, h⟩ := bind_some h
    have q18 := chk_some q17
    refine Rl.op (OpY.sAdd (x := (bstr [(uw8 (iw (48 + d10)))])) (y := s12) rfl rfl q18 ?_)
    refine Rl.op (OpY.assign (v := (Value.string (s8 ((bstr [(uw8 (iw (48 + d10)))]) ++ s12)))) rfl ?_)
    refine Rl.nil (Swp.region rfl (Rl.op (OpY.move (v := v11) rfl ?_)))
    refine Rl.op (OpY.assign (v := v11) rfl ?_)
    refine Rl.nil (Swp.pop_blk ?_)
    have hp12 := hL17.pick [1] rfl rfl rfl
    have hL18 : Go.X.Loc [] [] w w15 [some b1] [Cont.cells [(Value.bool x.Negative), x_v]] := hp12.1
    have K17 := ks w hp12.2
    have f15 := (((k11.mono (K15 None)).mono (K16 None)).mono (K17 None))
    obtain rfl := Option.some.inj h
    refine Swp.pop_back ⟨(r10.1, ((bstr [(uw8 (iw (48 + d10)))]) ++ s12)), rfl, ?_⟩
    exact ⟨v11, _, (upds_sym ⟨rfl, rfl, rfl, trivial⟩), hL18, (Keep.trans (Keep.trans (Keep.trans (Keep.trans (Keep.trans K10 K11) K12) K15) K16) K17), f15, trivial⟩
  ·
   replace h := ite_f hc10 h
   refine Swp.exit rfl ?_
   obtain rfl := Option.some.inj h
   obtain rfl := hd10 _ rfl
   replace h := g10
   try dsimp only at h
   skip
   refine Swp.pop_back ?_
   exact ⟨s12, _, rfl, (upds_sym ⟨rfl, rfl, trivial⟩), hL11, K10, trivial⟩
 ·
  rintro _ w16 ⟨s11, u, rfl, rfl, hL19, K18, -⟩
  replace h := g10
  try dsimp only at h
  refine Swp.seq (Swp.seq (Swp.region rfl (Rl.op (OpY.move (v := (Value.string (s8 s11))) rfl ?_))))
  refine Rl.op (OpY.sEql (x := s11) (y := ([] : List UInt8)) rfl rfl ?_)
  refine Rl.nil ?_
  refine Swp.cond_d (s11 = ([] : List UInt8)) rfl (fun hc14 => ?_) (fun hc14 => ?_)
  ·
   replace h := ite_t hc14 h
   refine Swp.seq (Swp.region rfl (Rl.op (OpY.assign (v := (Value.string (s8 ([48] : List UInt8)))) rfl ?_)))
   refine Rl.nil (Swp.ret ?_)
   obtain rfl := Option.some.inj h
   refine ⟨[(Value.string (s8 ([48] : List UInt8)))], ⟨rfl, trivial⟩, ⟨_, rfl, hL19.done, ?_⟩⟩
   exact ⟨rfl, trivial⟩
  ·
   replace h := ite_f hc14 h
   refine Swp.skip (Swp.seq (Swp.seq (Swp.region rfl (Rl.op (OpY.fieldAddr (q := 0) Tryd.underlying24 rfl ti4 rfl rfl rfl ?_)))))
   refine Rl.op (OpY.ldBox1 (v := (Value.bool x.Negative)) Tryd.underlying4 rfl rfl (hL19.at 0 rfl rfl) rfl ?_)
   refine Rl.nil ?_
   refine Swp.cond_b x.Negative rfl (fun hc15 => ?_) (fun hc15 => ?_)
   ·
    replace h := ite_t hc15 h
    refine Swp.seq (Swp.region rfl (Rl.op (OpY.move (v := (Value.string (s8 s11))) rfl ?_)))
    obtain ⟨u11, q19, h⟩ := bind_some h
    have q20 := chk_some q19
    refine Rl.op (OpY.sAdd (x := ([45] : List UInt8)) (y := s11) rfl rfl q20 ?_)
    refine Rl.op (OpY.assign (v := (Value.string (s8 (([45] : List UInt8) ++ s11)))) rfl ?_)
    refine Rl.nil (Swp.ret ?_)
    obtain rfl := Option.some.inj h
    refine ⟨[(Value.string (s8 (([45] : List UInt8) ++ s11)))], ⟨rfl, trivial⟩, ⟨_, rfl, hL19.done, ?_⟩⟩
    exact ⟨rfl, trivial⟩
   ·
    replace h := ite_f hc15 h
    refine Swp.skip (Swp.seq (Swp.region rfl (Rl.op (OpY.move (v := (Value.string (s8 s11))) rfl ?_))))
    refine Rl.op (OpY.assign (v := (Value.string (s8 s11))) rfl ?_)
    refine Rl.nil (Swp.ret ?_)
    obtain rfl := Option.some.inj h
    refine ⟨[(Value.string (s8 s11))], ⟨rfl, trivial⟩, ⟨_, rfl, hL19.done, ?_⟩⟩
    exact ⟨rfl, trivial⟩
theorem rParse_w (N : Nat) (s : (List UInt8))  (w : World) (S : Nat → Prop)  (r : (Big × Int)) (h : rParse N s = some r) :
  Calls Tryd.prog 21 #[(Value.string (s8 s))] w (Ret w (fun v w' => ∃ (v0_0 : Value), .tuple #[(Value.agg #[(Value.bool r.1.Negative), v0_0]), (Value.int .i64 r.2)] = v ∧ Rs (rInt .u32) (Hv w.heap.size None [] w') v0_0 r.1.Digits ∧ True)) := by
 unfold rParse at h
 have hL : Go.X.Loc [] [] w w [] [] := Go.X.Loc.begin0 w
 refine calls_of (l := [(Value.string (s8 s))]) (rl := [.cell 2 24, .tmp 3]) (n := 58) Tryd.func21 rfl rfl rfl (Nat.le_of_ble_eq_true rfl) ?_
 refine Swp.seq (Swp.region rfl (Rl.op (OpY.alloc (cs := [(Value.bool false), (Value.slice none 0 0)]) ti24 rfl hL ?_)))
 intro b1 w2 hL3 hS5
 refine Rl.op (OpY.assign (v := (Value.int .i64 0)) rfl ?_)
 refine Rl.nil (Swp.seq ?_)
 obtain ⟨s10, h, g10⟩ := bind_some h
 refine Swp.join (fun e w' => ∃ (negative10 : Bool) (u : Env), negative10 = s10 ∧ e = upds [(0, (Value.string (s8 s))), (2, (Value.pointer (some ⟨b1, 0, none⟩))), (4, (Value.bool negative10))] u ∧ Go.X.Loc [] [] w w' [some b1] [Cont.cells [(Value.bool false), (Value.slice none 0 0)]] ∧ Keep w.heap.size [some b1] w2 [some b1] w' ∧ True) ?_ ?_
 ·
  refine Swp.region rfl (Rl.op (OpY.move (v := (Value.string (s8 s))) rfl ?_))
  refine Rl.op (OpY.lenStr Tryd.underlying9 rfl ?_)
  refine Rl.op (OpY.gtr (x := (List.length s : Int)) (y := 0) (((List.length s : Int) : Int) > 0) rfl rfl Iff.rfl ?_)
  refine Rl.op (OpY.move (v := (Value.bool (decide (((List.length s : Int) : Int) > 0)))) rfl ?_)
  by_cases hc10 : ((List.length s : Int) : Int) > 0
  ·
   replace h := ite_t hc10 h
   refine Rl.yes rfl rfl (decide_eq_true hc10) (OpY.move (v := (Value.string (s8 s))) rfl ?_)
   obtain ⟨x10, q10, h⟩ := bind_some h
   obtain ⟨n10, q11, q12⟩ := idx_some q10
   refine Rl.yes rfl rfl (decide_eq_true hc10) (OpY.sIndex (xs := s) (i := 0) (n := n10) (a := x10) Tryd.underlying9 rfl rfl q11 q12 ?_)
   refine Rl.yes rfl rfl (decide_eq_true hc10) (OpY.eql (x := (UInt8.toNat x10 : Int)) (y := 45) (((UInt8.toNat x10 : Int) : Int) = 45) rfl rfl Iff.rfl ?_)
   refine Rl.op (OpY.pick_t (t := (decide (((List.length s : Int) : Int) > 0))) (v := (Value.bool (decide (((UInt8.toNat x10 : Int) : Int) = 45)))) rfl (decide_eq_true hc10) rfl ?_)
   refine Rl.op (OpY.assign (v := (Value.bool (decide (((UInt8.toNat x10 : Int) : Int) = 45)))) rfl ?_)
   refine Rl.nil ?_
   obtain rfl := Option.some.inj h
   refine Swp.pop_back ?_
   exact ⟨(decide (((UInt8.toNat x10 : Int) : Int) = 45)), _, rfl, (upds_sym ⟨rfl, rfl, rfl, trivial⟩), hL3, Keep.refl, trivial⟩
  ·
   replace h := ite_f hc10 h
   refine Rl.no rfl rfl (decide_eq_false hc10) ?_
   refine Rl.no rfl rfl (decide_eq_false hc10) ?_
   refine Rl.no rfl rfl (decide_eq_false hc10) ?_
   refine Rl.op (OpY.pick_f (t := (decide (((List.length s : Int) : Int) > 0))) (v := (Value.bool false)) rfl (decide_eq_false hc10) rfl ?_)
   refine Rl.op (OpY.assign (v := (Value.bool false)) rfl ?_)
   refine Rl.nil ?_
   obtain rfl := Option.some.inj h
   refine Swp.pop_back ?_
   exact ⟨false, _, rfl, (upds_sym ⟨rfl, rfl, rfl, trivial⟩), hL3, Keep.refl, trivial⟩
 ·
  rintro _ w10 ⟨negative10, u, rfl, rfl, hL10, K10, -⟩
  replace h := g10
  try dsimp only at h
  refine Swp.seq (Swp.region rfl (Rl.op (OpY.litRow0 Tryd.underlying52 ti3 hL10 ?_)))
  intro b10 w11 hL11 hS10
  have hE10 : Els (rInt .i64) (Hv w.heap.size None [some b1] w10) [] [] := Els.nil
  have K11 := ks w hS10
  refine Rl.op (OpY.assign (v := (osv (some b10) 0 (List.length ([] : (List Int))) 0)) rfl ?_)
  refine Rl.nil (Swp.seq (Swp.seq (Swp.region rfl (Rl.op (OpY.assign (v := (Value.int .i64 0)) rfl ?_)))))
  refine Rl.nil ?_
  obtain ⟨s11, hl10, g11⟩ := bind_some h
  refine Swp.join (fun e w' => ∃ (l10 : (List Int)) (v10 : Value) (u : Env), (Sum.inl l10) = s11 ∧ e = upds [(0, (Value.string (s8 s))), (2, (Value.pointer (some ⟨b1, 0, none⟩))), (4, (Value.bool negative10)), (5, v10)] u ∧ Go.X.Loc [] [] w w' [some b1] [Cont.cells [(Value.bool false), (Value.slice none 0 0)]] ∧ Keep w.heap.size [some b10, some b1] w11 [some b1] w' ∧ Rs (rInt .i64) (Hv w.heap.size None [some b1] w') v10 l10 ∧ True) ?_ ?_
  ·
   refine Swp.block ?_
   have f10 := (hE10.mono (K11 None))
   have f11 := hL11.freezeRow 0 rfl rfl f10 rfl rfl rfl (show ([] ++ [] : List Value).length = 0 * (rInt .i64).sz by simp)
   have hp10 := hL11.pick [1] rfl rfl rfl
   have hL12 : Go.X.Loc [] [] w w11 [some b1] [Cont.cells [(Value.bool false), (Value.slice none 0 0)]] := hp10.1
   have K12 := ks w hp10.2
   refine Swp.loopM hl10 (fun (ss : ((List Int) × Int)) (e : Env) (w' : World) => match ss with | (l11, i10) => ∃ (v11 : Value) (u : Env), e = upds [(0, (Value.string (s8 s))), (2, (Value.pointer (some ⟨b1, 0, none⟩))), (4, (Value.bool negative10)), (5, v11), (6, (Value.int .i64 i10))] u ∧ Go.X.Loc [] [] w w' [some b1] [Cont.cells [(Value.bool false), (Value.slice none 0 0)]] ∧ Keep w.heap.size [some b10, some b1] w11 [some b1] w' ∧ Rs (rInt .i64) (Hv w.heap.size None [some b1] w') v11 l11 ∧ True) ⟨(osv (some b10) 0 (List.length ([] : (List Int))) 0), _, (upds_sym ⟨rfl, rfl, rfl, rfl, rfl, trivial⟩), hL12, K12, f11, trivial⟩ ?_
   rintro ⟨l11, i10⟩ oo _ w12 ⟨v11, u, rfl, hL13, K13, k10, -⟩ h hd10
   rw [rParse_b1] at h
   refine Swp.seq (Swp.seq (Swp.region rfl (Rl.op (OpY.move (v := (Value.int .i64 i10)) rfl ?_))))
   refine Rl.op (OpY.move (v := (Value.string (s8 s))) rfl ?_)
   refine Rl.op (OpY.lenStr Tryd.underlying9 rfl ?_)
   refine Rl.op (OpY.lss (x := i10) (y := (List.length s : Int)) ((i10 : Int) < (List.length s : Int)) rfl rfl Iff.rfl ?_)
   refine Rl.nil ?_
   refine Swp.cond_d ((i10 : Int) < (List.length s : Int)) rfl (fun hc11 => ?_) (fun hc11 => ?_)
   ·
    replace h := ite_t hc11 h
    refine Swp.skip (Swp.seq (Swp.block (Swp.seq (Swp.seq ?_))))
    obtain ⟨s12, h, g12⟩ := bind_some h
    refine Swp.join (fun e w' => ∃ (x11 : Bool) (u : Env), x11 = s12 ∧ e = upds [(0, (Value.string (s8 s))), (2, (Value.pointer (some ⟨b1, 0, none⟩))), (4, (Value.bool negative10)), (5, v11), (6, (Value.int .i64 i10)), (27, (Value.bool x11))] u ∧ Go.X.Loc [] [] w w' [some b1] [Cont.cells [(Value.bool false), (Value.slice none 0 0)]] ∧ Keep w.heap.size [some b1] w12 [some b1] w' ∧ True) ?_ ?_
    ·
     refine Swp.region rfl (Rl.op (OpY.move (v := (Value.int .i64 i10)) rfl ?_))
     refine Rl.op (OpY.eql (x := i10) (y := 0) ((i10 : Int) = 0) rfl rfl Iff.rfl ?_)
     refine Rl.op (OpY.move (v := (Value.bool (decide ((i10 : Int) = 0)))) rfl ?_)
     by_cases hc12 : (i10 : Int) = 0
     ·
      replace h := ite_t hc12 h
      refine Rl.yes rfl rfl (decide_eq_true hc12) (OpY.move (v := (Value.bool negative10)) rfl ?_)
      refine Rl.op (OpY.pick_t (t := (decide ((i10 : Int) = 0))) (v := (Value.bool negative10)) rfl (decide_eq_true hc12) rfl ?_)
      refine Rl.nil ?_
      obtain rfl := Option.some.inj h
      refine Swp.pop_back ?_
      exact ⟨negative10, _, rfl, (upds_sym ⟨rfl, rfl, rfl, rfl, rfl, rfl, trivial⟩), hL13, Keep.refl, trivial⟩
     ·
      replace h := ite_f hc12 h
      refine Rl.no rfl rfl (decide_eq_false hc12) ?_
      refine Rl.op (OpY.pick_f (t := (decide ((i10 : Int) = 0))) (v := (Value.bool false)) rfl (decide_eq_false hc12) rfl ?_)
      refine Rl.nil ?_
      obtain rfl := Option.some.inj h
      refine Swp.pop_back ?_
      exact ⟨false, _, rfl, (upds_sym ⟨rfl, rfl, rfl, rfl, rfl, rfl, trivial⟩), hL13, Keep.refl, trivial⟩
    ·
     rintro _ w13 ⟨x11, u, rfl, rfl, hL14, K14, -⟩
     replace h := g12
     try dsimp only at h
     refine Swp.cond_b x11 rfl (fun hc13 => ?_) (fun hc13 => ?_)
     ·
      replace h := ite_t hc13 h
      refine Swp.exit rfl (Swp.region rfl (Rl.op (OpY.move (v := (Value.int .i64 i10)) rfl ?_)))
      refine Rl.op (OpY.add (x := i10) (y := 1) (z := (iw (i10 + 1))) rfl rfl rfl ?_)
      refine Rl.op (OpY.assign (v := (Value.int .i64 (iw (i10 + 1)))) rfl ?_)
      refine Rl.nil ?_
      have f12 := (k10.mono (K14 None))
      obtain rfl := Option.some.inj h
      refine Swp.pop_back ⟨(l11, (iw (i10 + 1))), rfl, ?_⟩
      exact ⟨v11, _, (upds_sym ⟨rfl, rfl, rfl, rfl, rfl, trivial⟩), hL14, (Keep.trans K13 K14), f12, trivial⟩
     ·
      replace h := ite_f hc13 h
      refine Swp.skip (Swp.seq (Swp.seq ?_))
      obtain ⟨s13, h, g13⟩ := bind_some h
      refine Swp.join (fun e w' => ∃ (x12 : Bool) (u : Env), x12 = s13 ∧ e = upds [(0, (Value.string (s8 s))), (2, (Value.pointer (some ⟨b1, 0, none⟩))), (4, (Value.bool negative10)), (5, v11), (6, (Value.int .i64 i10)), (37, (Value.bool x12))] u ∧ Go.X.Loc [] [] w w' [some b1] [Cont.cells [(Value.bool false), (Value.slice none 0 0)]] ∧ Keep w.heap.size [some b1] w13 [some b1] w' ∧ True) ?_ ?_
      ·
       refine Swp.region rfl (Rl.op (OpY.move (v := (Value.string (s8 s))) rfl ?_))
       refine Rl.op (OpY.move (v := (Value.int .i64 i10)) rfl ?_)
       obtain ⟨x13, q13, h⟩ := bind_some h
       obtain ⟨n11, q14, q15⟩ := idx_some q13
       refine Rl.op (OpY.sIndex (xs := s) (i := i10) (n := n11) (a := x13) Tryd.underlying9 rfl rfl q14 q15 ?_)
       refine Rl.op (OpY.lss (x := (UInt8.toNat x13 : Int)) (y := 48) (((UInt8.toNat x13 : Int) : Int) < 48) rfl rfl Iff.rfl ?_)
       refine Rl.op (OpY.move (v := (Value.bool (decide (((UInt8.toNat x13 : Int) : Int) < 48)))) rfl ?_)
       by_cases hc14 : ((UInt8.toNat x13 : Int) : Int) < 48
       ·
        replace h := ite_t hc14 h
        refine Rl.no rfl rfl (decide_eq_true hc14) ?_
        refine Rl.no rfl rfl (decide_eq_true hc14) ?_
        refine Rl.no rfl rfl (decide_eq_true hc14) ?_
        refine Rl.no rfl rfl (decide_eq_true hc14) ?_
        refine Rl.op (OpY.pick_t (t := (decide (((UInt8.toNat x13 : Int) : Int) < 48))) (v := (Value.bool true)) rfl (decide_eq_true hc14) rfl ?_)
        refine Rl.nil ?_
        obtain rfl := Option.some.inj h
        refine Swp.pop_back ?_
        exact ⟨true, _, rfl, (upds_sym ⟨rfl, rfl, rfl, rfl, rfl, rfl, trivial⟩), hL14, Keep.refl, trivial⟩
       ·
        replace h := ite_f hc14 h
        refine Rl.yes rfl rfl (decide_eq_false hc14) (OpY.move (v := (Value.string (s8 s))) rfl ?_)
        refine Rl.yes rfl rfl (decide_eq_false hc14) (OpY.move (v := (Value.int .i64 i10)) rfl ?_)
        obtain ⟨x14, q16, h⟩ := bind_some h
        obtain ⟨n12, q17, q18⟩ := idx_some q16
        refine Rl.yes rfl rfl (decide_eq_false hc14) (OpY.sIndex (xs := s) (i := i10) (n := n12) (a := x14) Tryd.underlying9 rfl rfl q17 q18 ?_)
        refine Rl.yes rfl rfl (decide_eq_false hc14) (OpY.gtr (x := (UInt8.toNat x14 : Int)) (y := 57) (((UInt8.toNat x14 : Int) : Int) > 57) rfl rfl Iff.rfl ?_)
        refine Rl.op (OpY.pick_f (t := (decide (((UInt8.toNat x13 : Int) : Int) < 48))) (v := (Value.bool (decide (((UInt8.toNat x14 : Int) : Int) > 57)))) rfl (decide_eq_false hc14) rfl ?_)
        refine Rl.nil ?_
        obtain rfl := Option.some.inj h
        refine Swp.pop_back ?_
        exact ⟨(decide (((UInt8.toNat x14 : Int) : Int) > 57)), _, rfl, (upds_sym ⟨rfl, rfl, rfl, rfl, rfl, rfl, trivial⟩), hL14, Keep.refl, trivial⟩
      ·
       rintro _ w14 ⟨x12, u, rfl, rfl, hL15, K15, -⟩
       replace h := g13
       try dsimp only at h
       refine Swp.cond_b x12 rfl (fun hc15 => ?_) (fun hc15 => ?_)
       ·
        replace h := ite_t hc15 h
        refine Swp.seq (Swp.region rfl (Rl.op (OpY.build (zc := [(Value.bool false), (Value.slice none 0 0)]) (cs := [(Value.bool false), (Value.slice none 0 0)]) (is := []) (vs := []) (css := []) pl24 ti24 rfl rfl rfl trivial rfl ?_)))
        refine Rl.op0 (OpY.store (vs := [(Value.bool false), (Value.slice none 0 0)]) ti24 rfl rfl rfl rfl (ones_cons rfl (ones_cons rfl ones_nil)) hL15 0 rfl rfl (Nat.le_of_ble_eq_true rfl) ?_)
        intro w15 (hL16 : Go.X.Loc [] [] w w15 [some b1] [Cont.cells [(Value.bool false), (Value.slice none 0 0)]]) hS11
        refine Rl.op (OpY.assign (v := (Value.int .i64 2)) rfl ?_)
        refine Rl.nil (Swp.ret ?_)
        obtain rfl := Option.some.inj h
        obtain rfl := hd10 _ rfl
        replace h := g11
        try dsimp only at h
        obtain rfl := Option.some.inj h
        refine ⟨[(Value.agg #[(Value.bool false), (Value.slice none 0 0)]), (Value.int .i64 2)], ⟨⟨⟨b1, 0, none⟩, rfl, res_boxA Tryd.underlying24 rfl ti24 (hL16.at 0 rfl rfl) rfl⟩, ⟨rfl, trivial⟩⟩, ⟨_, rfl, hL16.done, ?_⟩⟩
        exact ⟨(Value.slice none 0 0), rfl, Rs.nil, trivial⟩
       ·
        replace h := ite_f hc15 h
        refine Swp.skip ?_
        obtain ⟨r10, q19, h⟩ := bind_some h
        obtain ⟨x15, q20, h⟩ := bind_some h
        obtain ⟨n13, q21, q22⟩ := idx_some q20
        refine Swp.drawL 8 [] [] (fun W1 => [.det v11, .rel (fun v Z w' => ∃ v12, v12 = v ∧ Rs (rInt .i64) (Zv W1 w.heap.size None [some b1] Z w') v12 r10 ∧ True) (fun _ => []), .det (Value.string (s8 s)), .det (Value.int .i64 i10), .det (Value.int .u8 (UInt8.toNat x15 : Int)), .det (Value.int .i64 (iw (UInt8.toNat x15 : Int))), .det (Value.int .i64 (iw ((iw (UInt8.toNat x15 : Int)) - 48))), .rel (fun v Z w' => ∃ b11 cs10, (osv (some b11) 0 1 1) = v ∧ OwnC w' (some b11) (Cont.cells ([] ++ (cs10 ++ []))) ∧ Els (rInt .i64) (Zv W1 w.heap.size None [some b1] Z w') cs10 [(iw ((iw (UInt8.toNat x15 : Int)) - 48))] ∧ (cs10 ++ [] : List Value).length = 1 * (rInt .i64).sz ∧ True) footV]) mixed rfl rfl rfl (fun _ => rfl) (fun _ => rfl) ?_ ?_
        ·
         intro W1 _
         exact ⟨fun v Z Z' w w' hΦ hz _ _ hs => by obtain ⟨v12, rfl, k11, -⟩ := hΦ; exact ⟨v12, rfl, (k11.mono (Zv.stay hz hs)), trivial⟩, ⟨fun v Z Z' w w' hΦ hz _ _ hs => by obtain ⟨b11, cs10, rfl, hO10, hE11, hc16, -⟩ := hΦ; exact ⟨b11, cs10, rfl, (hO10.stay (fun b hb => by cases hb; exact List.mem_cons_self) hs), (hE11.mono (Zv.stay hz hs)), hc16, trivial⟩, trivial⟩⟩
        ·
         intro w16 hE12
         have hL17 := hL15.ext hE12
         have K16 := ke hL15 hE12
         refine DrH.de (fun _ _ => GOp.op (OpY.move rfl (er rfl))) ?_
         refine DrH.rel ?_ ?_
         ·
          rintro w18 Z15 hE14 hZ11 ⟨-⟩
          have K17 := ke hL17 hE14
          refine GOp.op (OpY.call en62 rfl rfl (rtimes_w N l11 10 v11 _ Any (((((k10.mono (K14 None)).mono (K15 None)).mono (K16 None)).mono (K17 None)).mono vw_any) r10 q19) ?_)
          rintro _ w19 hE15 ⟨v12, rfl, k11, -⟩
          exact Made.ext hE15 hZ11 NewOwn.nil (fun _ h => h) ⟨v12, rfl, (k11.mono Zv.made), trivial⟩
         intro z1
         refine DrH.de (fun _ _ => GOp.op (OpY.move rfl (er rfl))) ?_
         refine DrH.de (fun _ _ => GOp.op (OpY.move rfl (er rfl))) ?_
         refine DrH.de (fun _ _ => GOp.op (OpY.sIndex (xs := s) (i := i10) (n := n13) (a := x15) Tryd.underlying9 rfl rfl q21 q22 (er rfl))) ?_
         refine DrH.de (fun _ _ => GOp.op (OpY.convInt Tryd.underlying5 Tryd.underlying3 rfl rfl (er rfl))) ?_
         refine DrH.de (fun _ _ => GOp.op (OpY.sub rfl rfl rfl (er rfl))) ?_
         refine DrH.rel ?_ ?_
         ·
          rintro w25 Z21 hE21 hZ17 ⟨-, -⟩
          have hE22 : Els (rInt .i64) (Zv w16 w.heap.size None [some b1] Z21 w25) [(Value.int .i64 (iw ((iw (UInt8.toNat x15 : Int)) - 48)))] [(iw ((iw (UInt8.toNat x15 : Int)) - 48))] := (Els.cons (a := [(Value.int .i64 (iw ((iw (UInt8.toNat x15 : Int)) - 48)))]) rfl Els.nil)
          refine GOp.op (OpY.litRow (r := (rInt .i64)) (vs := [(Value.int .i64 (iw ((iw (UInt8.toNat x15 : Int)) - 48)))]) (css := [[(Value.int .i64 (iw ((iw (UInt8.toNat x15 : Int)) - 48)))]]) (xs := [(iw ((iw (UInt8.toNat x15 : Int)) - 48))]) Tryd.underlying52 ti3 (Nat.le_of_ble_eq_true rfl) rfl rfl ⟨rfl, rfl, trivial⟩ (Nat.le_of_ble_eq_true rfl) hE22 rfl (Go.X.Loc.begin0 w25) ?_)
          intro b11 w26 hc17 hL18 hS12
          have hN10 : NewOwn w25 w26 [some b11] [Cont.cells ([] ++ ([(Value.int .i64 (iw ((iw (UInt8.toNat x15 : Int)) - 48)))] ++ []))] := hL18.newOwn [0] rfl rfl rfl
          exact Made.ext hL18.done hZ17 hN10 (fun _ h => h) ⟨b11, [(Value.int .i64 (iw ((iw (UInt8.toNat x15 : Int)) - 48)))], rfl, hN10.2.2.1, (hE22.mono (Zv.grow hL18.done)), hc17, trivial⟩
         intro z7
         refine DrH.fin0 ?_
         rintro w27 Z22 hE23 hZ18 ⟨⟨⟨b11, cs10, rfl, hO10, hE11, hc16, -⟩, hB7⟩, ⟨⟨v12, rfl, k11, -⟩, hB1⟩, -⟩ ap10
         have hB10 : ∀ b, some b ∈ ([some b11] : List (Option Nat)) → w16.heap.size ≤ b ∧ ¬ Z22 b := by
          intro b hb
          rcases List.mem_cons.1 hb with hb' | hb
          ·
           have := hB7 b (by rw [hb']; exact List.mem_cons_self); exact ⟨this.1, this.2.2⟩
          cases hb
         replace hE11 := hE11.mono (Zv.fin hL17 hZ18 hB10)
         replace k11 := k11.mono (Zv.fin hL17 hZ18 hB10)
         have hN11 : NewOwn w16 w27 [some b11] [Cont.cells ([] ++ (cs10 ++ []))] := (NewOwn.cons NewOwn.nil hO10 (fun b hb => (hB10 b (by rw [← hb]; simp)).1) (fun b _ hb => by cases hb))
         have hp11 := hL17.adoptL hE23 hN11
         have hL19 := hp11.1
         have K18 := ks w hp11.2
         have f13 := hL19.freezeRow 0 rfl rfl hE11 rfl rfl rfl hc16
         have hp12 := hL19.pick [1] rfl rfl rfl
         have hL20 : Go.X.Loc [] [] w w27 [some b1] [Cont.cells [(Value.bool false), (Value.slice none 0 0)]] := hp12.1
         have K19 := ks w hp12.2
         obtain ⟨r11, q23, h⟩ := bind_some h
         refine Rl.op (OpY.call en63 rfl rfl (rtrim_w N [(iw ((iw (UInt8.toNat x15 : Int)) - 48))] (osv (some b11) 0 1 1) _ _ (f13.mono Hv.enter) r11 q23) ?_)
         rintro _ w28 hE24 ⟨v13, rfl, k12, -⟩
         replace k12 := k12.mono (Hv.aliasO (S := None) hL20 [])
         have hL21 := hL20.ext hE24
         have K20 := ke hL20 hE24
         obtain ⟨r12, q24, h⟩ := bind_some h
         have f14 := ((k11.mono (K19 None)).mono (K20 None))
         refine Rl.op (OpY.call en61 rfl rfl (rplus_w N r10 r11 v12 v13 _ Any (f14.mono vw_any) (k12.mono vw_any) r12 q24) ?_)
         rintro _ w29 hE25 ⟨v14, rfl, k13, -⟩
         replace k13 := k13.mono (Hv.freshO (S := None) hL21 [])
         have hL22 := hL21.ext hE25
         have K21 := ke hL21 hE25
         refine Rl.op (OpY.assign (v := v14) rfl ?_)
         refine Rl.nil (Swp.pop_blk (Swp.region rfl (Rl.op (OpY.move (v := (Value.int .i64 i10)) rfl ?_))))
         refine Rl.op (OpY.add (x := i10) (y := 1) (z := (iw (i10 + 1))) rfl rfl rfl ?_)
         refine Rl.op (OpY.assign (v := (Value.int .i64 (iw (i10 + 1)))) rfl ?_)
         refine Rl.nil ?_
         obtain rfl := Option.some.inj h
         refine Swp.pop_back ⟨(r12, (iw (i10 + 1))), rfl, ?_⟩
         exact ⟨v14, _, (upds_sym ⟨rfl, rfl, rfl, rfl, rfl, trivial⟩), hL22, (Keep.trans (Keep.trans (Keep.trans (Keep.trans (Keep.trans (Keep.trans (Keep.trans K13 K14) K15) K16) K18) K19) K20) K21), k13, trivial⟩
   ·
    replace h := ite_f hc11 h
    refine Swp.exit rfl ?_
    obtain rfl := Option.some.inj h
    obtain rfl := hd10 _ rfl
    replace h := g11
    try dsimp only at h
    skip
    refine Swp.pop_back ?_
    exact ⟨l11, v11, _, rfl, (upds_sym ⟨rfl, rfl, rfl, rfl, trivial⟩), hL13, K13, k10, trivial⟩
  ·
   rintro _ w30 ⟨l10, v10, u, rfl, rfl, hL23, K22, k14, -⟩
   replace h := g11
   try dsimp only at h
   refine Swp.seq (Swp.region rfl (Rl.op (OpY.move (v := (Value.bool negative10)) rfl ?_)))
   refine Rl.op (OpY.move (v := v10) rfl ?_)
   obtain ⟨r13, q25, h⟩ := bind_some h
   refine Rl.op (OpY.call en52 rfl rfl (rbig_w N negative10 l10 v10 _ Any (k14.mono vw_any) r13 q25) ?_)
   rintro _ w31 hE26 ⟨v15, rfl, k15, -⟩
   replace k15 := k15.mono (Hv.freshO (S := None) hL23 [])
   have hL24 := hL23.ext hE26
   refine Rl.op (OpY.alloc (cs := [(Value.bool false), (Value.slice none 0 0)]) ti24 rfl hL24 ?_)
   intro b12 w32 hL25 hS13
   have K23 := ks w hS13
   have f15 := (k15.mono (K23 None))
   refine Rl.op0 (OpY.store (vs := [(Value.bool r13.Negative), v15]) ti24 rfl rfl rfl rfl (ones_cons rfl (ones_cons f15.one ones_nil)) hL25 0 rfl rfl (Nat.le_of_ble_eq_true rfl) ?_)
   intro w33 (hL26 : Go.X.Loc [] [] w w33 [some b12, some b1] [Cont.cells [(Value.bool r13.Negative), v15], Cont.cells [(Value.bool false), (Value.slice none 0 0)]]) hS14
   have K24 := ks w hS14
   refine Rl.nil (Swp.seq (Swp.seq (Swp.region rfl (Rl.op (OpY.ldBoxA (vs := [(Value.bool r13.Negative), v15]) Tryd.underlying24 rfl ti24 rfl (hL26.at 0 rfl rfl) rfl rfl ?_)))))
   obtain ⟨r14, q26, h⟩ := bind_some h
   have f16 := (f15.mono (K24 None))
   refine Rl.op (OpY.call en22 rfl rfl (rText_w N r13 v15 _ Any (f16.mono vw_any) r14 q26) ?_)
   rintro _ w34 hE27 ⟨rfl, -⟩
   have hL27 := hL26.ext hE27
   have K25 := ke hL26 hE27
   refine Rl.op (OpY.move (v := (Value.string (s8 s))) rfl ?_)
   refine Rl.op (OpY.sNeq (x := r14) (y := s) rfl rfl ?_)
   refine Rl.nil ?_
   refine Swp.cond_d (¬ r14 = s) rfl (fun hc18 => ?_) (fun hc18 => ?_)
   ·
    replace h := ite_t hc18 h
    refine Swp.seq (Swp.region rfl (Rl.op (OpY.build (zc := [(Value.bool false), (Value.slice none 0 0)]) (cs := [(Value.bool false), (Value.slice none 0 0)]) (is := []) (vs := []) (css := []) pl24 ti24 rfl rfl rfl trivial rfl ?_)))
    refine Rl.op0 (OpY.store (vs := [(Value.bool false), (Value.slice none 0 0)]) ti24 rfl rfl rfl rfl (ones_cons rfl (ones_cons rfl ones_nil)) hL27 1 rfl rfl (Nat.le_of_ble_eq_true rfl) ?_)
    intro w35 (hL28 : Go.X.Loc [] [] w w35 [some b12, some b1] [Cont.cells [(Value.bool r13.Negative), v15], Cont.cells [(Value.bool false), (Value.slice none 0 0)]]) hS15
    refine Rl.op (OpY.assign (v := (Value.int .i64 2)) rfl ?_)
    refine Rl.nil (Swp.ret ?_)
    obtain rfl := Option.some.inj h
    refine ⟨[(Value.agg #[(Value.bool false), (Value.slice none 0 0)]), (Value.int .i64 2)], ⟨⟨⟨b1, 0, none⟩, rfl, res_boxA Tryd.underlying24 rfl ti24 (hL28.at 1 rfl rfl) rfl⟩, ⟨rfl, trivial⟩⟩, ⟨_, rfl, hL28.done, ?_⟩⟩
    exact ⟨(Value.slice none 0 0), rfl, Rs.nil, trivial⟩
   ·
    replace h := ite_f hc18 h
    refine Swp.skip (Swp.seq (Swp.region rfl (Rl.op (OpY.ldBoxA (vs := [(Value.bool r13.Negative), v15]) Tryd.underlying24 rfl ti24 rfl (hL27.at 0 rfl rfl) rfl rfl ?_))))
    have f17 := (f16.mono (K25 None))
    refine Rl.op0 (OpY.store (vs := [(Value.bool r13.Negative), v15]) ti24 rfl rfl rfl rfl (ones_cons rfl (ones_cons f17.one ones_nil)) hL27 1 rfl rfl (Nat.le_of_ble_eq_true rfl) ?_)
    intro w36 (hL29 : Go.X.Loc [] [] w w36 [some b12, some b1] [Cont.cells [(Value.bool r13.Negative), v15], Cont.cells [(Value.bool r13.Negative), v15]]) hS16
    have K26 := ks w hS16
    refine Rl.op (OpY.assign (v := (Value.int .i64 0)) rfl ?_)
    refine Rl.nil (Swp.ret ?_)
    obtain rfl := Option.some.inj h
    refine ⟨[(Value.agg #[(Value.bool r13.Negative), v15]), (Value.int .i64 0)], ⟨⟨⟨b1, 0, none⟩, rfl, res_boxA Tryd.underlying24 rfl ti24 (hL29.at 1 rfl rfl) rfl⟩, ⟨rfl, trivial⟩⟩, ⟨_, rfl, hL29.done, ?_⟩⟩
    have f18 := (f17.mono (K26 None))
    exact ⟨v15, rfl, (f18.mono Hv.out), trivial⟩
theorem rSame_w (N : Nat) (a : Big) (b : Big) (a_v : Value) (b_v : Value) (w : World) (S : Nat → Prop) (a_h : Rs (rInt .u32) (Hv w.heap.size S [] w) a_v a.Digits) (b_h : Rs (rInt .u32) (Hv w.heap.size S [] w) b_v b.Digits) (r : Bool) (h : rSame N a b = some r) :
  Calls Tryd.prog 18 #[(Value.agg #[(Value.bool a.Negative), a_v]), (Value.agg #[(Value.bool b.Negative), b_v])] w (Ret w (fun v w' => (Value.bool r) = v ∧ True)) := by
 unfold rSame at h
 have hL : Go.X.Loc [] [] w w [] [] := Go.X.Loc.begin0 w
 refine calls_of (l := [(Value.agg #[(Value.bool a.Negative), a_v]), (Value.agg #[(Value.bool b.Negative), b_v])]) (rl := [.tmp 4]) (n := 38) Tryd.func18 rfl rfl rfl (Nat.le_of_ble_eq_true rfl) ?_
 refine Swp.seq (Swp.region rfl (Rl.op (OpY.box (cs := [(Value.bool a.Negative), a_v]) rfl rfl hL ?_)))
 intro b1 w2 hL3 hS5
 have K4 := ks w hS5
 refine Rl.op (OpY.box (cs := [(Value.bool b.Negative), b_v]) rfl rfl hL3 ?_)
 intro b6 w7 hL8 hS10
 have K9 := ks w hS10
 refine Rl.op (OpY.assign (v := (Value.bool false)) rfl ?_)
 refine Rl.nil (Swp.seq (Swp.seq ?_))
 obtain ⟨s10, h, g10⟩ := bind_some h
 refine Swp.join (fun e w' => ∃ (x10 : Bool) (u : Env), x10 = s10 ∧ e = upds [(2, (Value.pointer (some ⟨b1, 0, none⟩))), (3, (Value.pointer (some ⟨b6, 0, none⟩))), (19, (Value.bool x10))] u ∧ Go.X.Loc [] [] w w' [some b1, some b6] [Cont.cells [(Value.bool a.Negative), a_v], Cont.cells [(Value.bool b.Negative), b_v]] ∧ Keep w.heap.size [some b6, some b1] w7 [some b1, some b6] w' ∧ True) ?_ ?_
 ·
  refine Swp.region rfl (Rl.op (OpY.fieldAddr (q := 0) Tryd.underlying24 rfl ti4 rfl rfl rfl ?_))
  refine Rl.op (OpY.ldBox1 (v := (Value.bool a.Negative)) Tryd.underlying4 rfl rfl (hL8.at 1 rfl rfl) rfl ?_)
  refine Rl.op (OpY.fieldAddr (q := 0) Tryd.underlying24 rfl ti4 rfl rfl rfl ?_)
  refine Rl.op (OpY.ldBox1 (v := (Value.bool b.Negative)) Tryd.underlying4 rfl rfl (hL8.at 0 rfl rfl) rfl ?_)
  refine Rl.op (OpY.neqBool (x := a.Negative) (y := b.Negative) Tryd.underlying4 rfl rfl ?_)
  refine Rl.op (OpY.move (v := (Value.bool (!(a.Negative == b.Negative)))) rfl ?_)
  by_cases hc10 : (!(a.Negative == b.Negative)) = true
  ·
   replace h := ite_t hc10 h
   refine Rl.no rfl rfl hc10 ?_
   refine Rl.no rfl rfl hc10 ?_
   refine Rl.no rfl rfl hc10 ?_
   refine Rl.no rfl rfl hc10 ?_
   refine Rl.no rfl rfl hc10 ?_
   refine Rl.no rfl rfl hc10 ?_
   refine Rl.no rfl rfl hc10 ?_
   refine Rl.op (OpY.pick_t (t := (!(a.Negative == b.Negative))) (v := (Value.bool true)) rfl hc10 rfl ?_)
   refine Rl.nil ?_
   have hp10 := hL8.pick [1, 0] rfl rfl rfl
   have hL10 : Go.X.Loc [] [] w w7 [some b1, some b6] [Cont.cells [(Value.bool a.Negative), a_v], Cont.cells [(Value.bool b.Negative), b_v]] := hp10.1
   have K10 := ks w hp10.2
   obtain rfl := Option.some.inj h
   refine Swp.pop_back ?_
   exact ⟨true, _, rfl, (upds_sym ⟨rfl, rfl, rfl, trivial⟩), hL10, K10, trivial⟩
  ·
   replace h := ite_f hc10 h
   refine Rl.yes rfl rfl (eq_false_of_ne_true hc10) (OpY.fieldAddr (q := 1) Tryd.underlying24 rfl ti22 rfl rfl rfl ?_)
   refine Rl.yes rfl rfl (eq_false_of_ne_true hc10) (OpY.ldBox1 (v := a_v) Tryd.underlying22 rfl rfl (hL8.at 1 rfl rfl) rfl ?_)
   have f10 := ((a_h.mono (K4 S)).mono (K9 S))
   refine Rl.yes rfl rfl (eq_false_of_ne_true hc10) (OpY.lenRo (v := a_v) Tryd.underlying22 rfl f10 ?_)
   refine Rl.yes rfl rfl (eq_false_of_ne_true hc10) (OpY.fieldAddr (q := 1) Tryd.underlying24 rfl ti22 rfl rfl rfl ?_)
   refine Rl.yes rfl rfl (eq_false_of_ne_true hc10) (OpY.ldBox1 (v := b_v) Tryd.underlying22 rfl rfl (hL8.at 0 rfl rfl) rfl ?_)
   have f11 := ((b_h.mono (K4 S)).mono (K9 S))
   refine Rl.yes rfl rfl (eq_false_of_ne_true hc10) (OpY.lenRo (v := b_v) Tryd.underlying22 rfl f11 ?_)
   refine Rl.yes rfl rfl (eq_false_of_ne_true hc10) (OpY.neq (x := (List.length a.Digits : Int)) (y := (List.length b.Digits : Int)) (((List.length a.Digits : Int) : Int) ≠ (List.length b.Digits : Int)) rfl rfl Iff.rfl ?_)
   refine Rl.op (OpY.pick_f (t := (!(a.Negative == b.Negative))) (v := (Value.bool (decide (((List.length a.Digits : Int) : Int) ≠ (List.length b.Digits : Int))))) rfl (eq_false_of_ne_true hc10) rfl ?_)
   refine Rl.nil ?_
   have hp11 := hL8.pick [1, 0] rfl rfl rfl
   have hL11 : Go.X.Loc [] [] w w7 [some b1, some b6] [Cont.cells [(Value.bool a.Negative), a_v], Cont.cells [(Value.bool b.Negative), b_v]] := hp11.1
   have K11 := ks w hp11.2
   obtain rfl := Option.some.inj h
   refine Swp.pop_back ?_
   exact ⟨(decide (((List.length a.Digits : Int) : Int) ≠ (List.length b.Digits : Int))), _, rfl, (upds_sym ⟨rfl, rfl, rfl, trivial⟩), hL11, K11, trivial⟩
 ·
  rintro _ w10 ⟨x10, u, rfl, rfl, hL12, K12, -⟩
  replace h := g10
  try dsimp only at h
  refine Swp.cond_b x10 rfl (fun hc11 => ?_) (fun hc11 => ?_)
  ·
   replace h := ite_t hc11 h
   refine Swp.seq (Swp.region rfl (Rl.op (OpY.assign (v := (Value.bool false)) rfl ?_)))
   refine Rl.nil (Swp.ret ?_)
   obtain rfl := Option.some.inj h
   refine ⟨[(Value.bool false)], ⟨rfl, trivial⟩, ⟨_, rfl, hL12.done, ?_⟩⟩
   exact ⟨rfl, trivial⟩
  ·
   replace h := ite_f hc11 h
   refine Swp.skip (Swp.seq (Swp.seq (Swp.region rfl (Rl.op (OpY.assign (v := (Value.int .i64 0)) rfl ?_)))))
   refine Rl.nil ?_
   obtain ⟨s11, hl10, g11⟩ := bind_some h
   refine Swp.join (fun e w' => ∃  (u : Env), (Sum.inl ()) = s11 ∧ e = upds [] u ∧ Go.X.Loc [] [] w w' [] [] ∧ Keep w.heap.size [some b1, some b6] w10 [] w' ∧ True) ?_ ?_
   ·
    refine Swp.block ?_
    refine Swp.loopM hl10 (fun (ss : Int) (e : Env) (w' : World) => match ss with | i10 => ∃ (u : Env), e = upds [(2, (Value.pointer (some ⟨b1, 0, none⟩))), (3, (Value.pointer (some ⟨b6, 0, none⟩))), (5, (Value.int .i64 i10))] u ∧ Go.X.Loc [] [] w w' [some b1, some b6] [Cont.cells [(Value.bool a.Negative), a_v], Cont.cells [(Value.bool b.Negative), b_v]] ∧ Keep w.heap.size [some b1, some b6] w10 [some b1, some b6] w' ∧ True) ⟨_, (upds_sym ⟨rfl, rfl, rfl, trivial⟩), hL12, Keep.refl, trivial⟩ ?_
    rintro i10 oo _ w11 ⟨u, rfl, hL13, K13, -⟩ h hd10
    rw [rSame_b1] at h
    refine Swp.seq (Swp.seq (Swp.region rfl (Rl.op (OpY.move (v := (Value.int .i64 i10)) rfl ?_))))
    refine Rl.op (OpY.fieldAddr (q := 1) Tryd.underlying24 rfl ti22 rfl rfl rfl ?_)
    refine Rl.op (OpY.ldBox1 (v := a_v) Tryd.underlying22 rfl rfl (hL13.at 0 rfl rfl) rfl ?_)
    have f12 := ((((a_h.mono (K4 S)).mono (K9 S)).mono (K12 S)).mono (K13 S))
    refine Rl.op (OpY.lenRo (v := a_v) Tryd.underlying22 rfl f12 ?_)
    refine Rl.op (OpY.lss (x := i10) (y := (List.length a.Digits : Int)) ((i10 : Int) < (List.length a.Digits : Int)) rfl rfl Iff.rfl ?_)
    refine Rl.nil ?_
    refine Swp.cond_d ((i10 : Int) < (List.length a.Digits : Int)) rfl (fun hc12 => ?_) (fun hc12 => ?_)
    ·
     replace h := ite_t hc12 h
     refine Swp.skip (Swp.seq (Swp.block (Swp.seq ?_)))
     obtain ⟨x11, q10, h⟩ := bind_some h
     obtain ⟨n10, q11, q12⟩ := idx_some q10
     obtain ⟨b10, o10, c10, vs10, q13, q14, f13, q15⟩ := Rs.get f12 q12
     obtain rfl := q15
     obtain ⟨x12, q16, h⟩ := bind_some h
     obtain ⟨n11, q17, q18⟩ := idx_some q16
     have f14 := ((((b_h.mono (K4 S)).mono (K9 S)).mono (K12 S)).mono (K13 S))
     obtain ⟨b11, o11, c11, vs11, q19, q20, f15, q21⟩ := Rs.get f14 q18
     obtain rfl := q21
     refine Swp.drawL 10 [] [] (fun W1 => [.det (Value.pointer (some ⟨b1, 1, none⟩)), .det a_v, .det (Value.int .i64 i10), .det (Value.pointer (some ⟨b10, (o10 + n10 * (rInt .u32).sz), none⟩)), .det (Value.int .u32 x11), .det (Value.pointer (some ⟨b6, 1, none⟩)), .det b_v, .det (Value.int .i64 i10), .det (Value.pointer (some ⟨b11, (o11 + n11 * (rInt .u32).sz), none⟩)), .det (Value.int .u32 x12)]) mixed rfl rfl rfl (fun _ => rfl) (fun _ => rfl) ?_ ?_
     ·
      intro W1 _
      exact trivial
     ·
      intro w12 hE10
      have hL14 := hL13.ext hE10
      have K14 := ke hL13 hE10
      refine DrH.de (fun _ _ => GOp.op (OpY.fieldAddr Tryd.underlying24 rfl ti22 rfl rfl rfl (er rfl))) ?_
      refine DrH.de (fun _ hE12 => GOp.op (OpY.ldBox1 Tryd.underlying22 rfl rfl ((hL14.ext hE12).at 0 rfl rfl) rfl (er rfl))) ?_
      refine DrH.de (fun _ _ => GOp.op (OpY.move rfl (er rfl))) ?_
      refine DrH.de (fun _ _ => GOp.op (OpY.ixRoD (r := (rInt .u32)) (v := a_v) (n := n10) (m := (o10 + n10 * (rInt .u32).sz)) Tryd.underlying22 ti47 rfl q13 rfl q11 q12 rfl (er rfl))) ?_
      refine DrH.de (fun _ hE15 => GOp.op (OpY.ldRo1 Tryd.underlying47 rfl rfl vw_view (At.mono ((ke hL14 hE15) S) (At.mono (K14 S) f13)) (er rfl))) ?_
      refine DrH.de (fun _ _ => GOp.op (OpY.fieldAddr Tryd.underlying24 rfl ti22 rfl rfl rfl (er rfl))) ?_
      refine DrH.de (fun _ hE17 => GOp.op (OpY.ldBox1 Tryd.underlying22 rfl rfl ((hL14.ext hE17).at 1 rfl rfl) rfl (er rfl))) ?_
      refine DrH.de (fun _ _ => GOp.op (OpY.move rfl (er rfl))) ?_
      refine DrH.de (fun _ _ => GOp.op (OpY.ixRoD (r := (rInt .u32)) (v := b_v) (n := n11) (m := (o11 + n11 * (rInt .u32).sz)) Tryd.underlying22 ti47 rfl q19 rfl q17 q18 rfl (er rfl))) ?_
      refine DrH.de (fun _ hE20 => GOp.op (OpY.ldRo1 Tryd.underlying47 rfl rfl vw_view (At.mono ((ke hL14 hE20) S) (At.mono (K14 S) f15)) (er rfl))) ?_
      refine DrH.fin0 ?_
      rintro w23 Z24 hE21 hZ20 ⟨-⟩ ap10
      have hB10 : ∀ b, some b ∈ ([] : List (Option Nat)) → w12.heap.size ≤ b ∧ ¬ Z24 b := by
       intro b hb; cases hb
      have hL17 := hL14.ext hE21
      have K17 := ke hL14 hE21
      refine Rl.op (OpY.neq (x := x11) (y := x12) ((x11 : Int) ≠ x12) rfl rfl Iff.rfl ?_)
      refine Rl.nil ?_
      refine Swp.cond_d ((x11 : Int) ≠ x12) rfl (fun hc13 => ?_) (fun hc13 => ?_)
      ·
       replace h := ite_t hc13 h
       refine Swp.seq (Swp.region rfl (Rl.op (OpY.assign (v := (Value.bool false)) rfl ?_)))
       refine Rl.nil (Swp.ret ?_)
       obtain rfl := Option.some.inj h
       obtain rfl := hd10 _ rfl
       replace h := g11
       try dsimp only at h
       obtain rfl := Option.some.inj h
       refine ⟨[(Value.bool false)], ⟨rfl, trivial⟩, ⟨_, rfl, hL17.done, ?_⟩⟩
       exact ⟨rfl, trivial⟩
      ·
       replace h := ite_f hc13 h
       refine Swp.skip (Swp.pop_blk (Swp.region rfl (Rl.op (OpY.move (v := (Value.int .i64 i10)) rfl ?_))))
       refine Rl.op (OpY.add (x := i10) (y := 1) (z := (iw (i10 + 1))) rfl rfl rfl ?_)
       refine Rl.op (OpY.assign (v := (Value.int .i64 (iw (i10 + 1)))) rfl ?_)
       refine Rl.nil ?_
       obtain rfl := Option.some.inj h
       refine Swp.pop_back ⟨(iw (i10 + 1)), rfl, ?_⟩
       exact ⟨_, (upds_sym ⟨rfl, rfl, rfl, trivial⟩), hL17, (Keep.trans (Keep.trans K13 K14) K17), trivial⟩
    ·
     replace h := ite_f hc12 h
     refine Swp.exit rfl ?_
     have hp12 := hL13.pick [] rfl rfl rfl
     have hL18 : Go.X.Loc [] [] w w11 [] [] := hp12.1
     have K18 := ks w hp12.2
     obtain rfl := Option.some.inj h
     obtain rfl := hd10 _ rfl
     replace h := g11
     try dsimp only at h
     skip
     refine Swp.pop_back ?_
     exact ⟨_, rfl, (upds_sym trivial), hL18, (Keep.trans K13 K18), trivial⟩
   ·
    rintro _ w24 ⟨u, rfl, rfl, hL19, K19, -⟩
    replace h := g11
    try dsimp only at h
    refine Swp.seq (Swp.region rfl (Rl.op (OpY.assign (v := (Value.bool true)) rfl ?_)))
    refine Rl.nil (Swp.ret ?_)
    obtain rfl := Option.some.inj h
    refine ⟨[(Value.bool true)], ⟨rfl, trivial⟩, ⟨_, rfl, hL19.done, ?_⟩⟩
    exact ⟨rfl, trivial⟩
theorem rCopy_w (N : Nat) (x : Big) (x_v : Value) (w : World) (S : Nat → Prop) (x_h : Rs (rInt .u32) (Hv w.heap.size S [] w) x_v x.Digits) (r : Big) (h : rCopy N x = some r) :
  Calls Tryd.prog 49 #[(Value.agg #[(Value.bool x.Negative), x_v])] w (Ret w (fun v w' => ∃ (v0_0 : Value), (Value.agg #[(Value.bool r.Negative), v0_0]) = v ∧ Rs (rInt .u32) (Hv w.heap.size None [] w') v0_0 r.Digits ∧ True)) := by
 unfold rCopy at h
 have hL : Go.X.Loc [] [] w w [] [] := Go.X.Loc.begin0 w
 refine calls_of (l := [(Value.agg #[(Value.bool x.Negative), x_v])]) (rl := [.cell 2 24]) (n := 10) Tryd.func49 rfl rfl rfl (Nat.le_of_ble_eq_true rfl) ?_
 refine Swp.seq (Swp.region rfl (Rl.op (OpY.box (cs := [(Value.bool x.Negative), x_v]) rfl rfl hL ?_)))
 intro b1 w2 hL3 hS5
 have K4 := ks w hS5
 refine Rl.op (OpY.alloc (cs := [(Value.bool false), (Value.slice none 0 0)]) ti24 rfl hL3 ?_)
 intro b6 w7 hL8 hS10
 have K9 := ks w hS10
 refine Rl.nil (Swp.seq ?_)
 obtain ⟨x10, q10, h⟩ := bind_some h
 obtain ⟨q11, q12, q13⟩ := apnd_some q10
 refine Swp.drawL 6 [[], [], [], [], [], [2]] [] (fun W1 => [.det (Value.pointer (some ⟨b1, 0, none⟩)), .det (Value.bool x.Negative), .rel (fun v Z w' => ∃ b10, (osv (some b10) 0 (List.length ([] : (List Int))) 0) = v ∧ OwnC w' (some b10) (Cont.cells ([] ++ ([] ++ []))) ∧ Els (rInt .u32) (Zv W1 w.heap.size None [some b6, some b1] Z w') [] ([] : (List Int)) ∧ ([] ++ [] : List Value).length = 0 * (rInt .u32).sz ∧ True) footV, .det (Value.pointer (some ⟨b1, 1, none⟩)), .det x_v, .rel (fun v Z w' => ∃ ob10 cap10 cs10 sp10, (osv ob10 0 (List.length x10) cap10) = v ∧ OwnC w' ob10 (Cont.cells ([] ++ (cs10 ++ sp10))) ∧ Els (rInt .u32) (Zv W1 w.heap.size None [some b6, some b1] Z w') cs10 x10 ∧ (cs10 ++ sp10 : List Value).length = cap10 * (rInt .u32).sz ∧ True) footV]) mixed rfl rfl rfl (fun _ => rfl) (fun _ => rfl) ?_ ?_
 ·
  intro W1 _
  exact ⟨fun v Z Z' w w' hΦ hz _ _ hs => by obtain ⟨b10, rfl, hO10, hE10, hc10, -⟩ := hΦ; exact ⟨b10, rfl, (hO10.stay (fun b hb => by cases hb; exact List.mem_cons_self) hs), (hE10.mono (Zv.stay hz hs)), hc10, trivial⟩, ⟨fun v Z Z' w w' hΦ hz _ _ hs => by obtain ⟨ob10, cap10, cs10, sp10, rfl, hO11, hE11, hc11, -⟩ := hΦ; exact ⟨ob10, cap10, cs10, sp10, rfl, (hO11.stay (fun b hb => (footV_osv (ob := ob10) (o := 0) (n := (List.length x10)) (cap := cap10)).2 (by rw [hb]; exact List.mem_cons_self)) hs), (hE11.mono (Zv.stay hz hs)), hc11, trivial⟩, trivial⟩⟩
 ·
  intro w10 hE12
  have hL10 := hL8.ext hE12
  have K10 := ke hL8 hE12
  refine DrH.de (fun _ _ => GOp.op (OpY.fieldAddr Tryd.underlying24 rfl ti4 rfl rfl rfl (er rfl))) ?_
  refine DrH.de (fun _ hE14 => GOp.op (OpY.ldBox1 Tryd.underlying4 rfl rfl ((hL10.ext hE14).at 1 rfl rfl) rfl (er rfl))) ?_
  refine DrH.rel ?_ ?_
  ·
   rintro w13 Z16 hE15 hZ12 ⟨-⟩
   refine GOp.op (OpY.litRow0 Tryd.underlying22 ti47 (Go.X.Loc.begin0 w13) ?_)
   intro b10 w14 hL12 hS11
   have hN10 : NewOwn w13 w14 [some b10] [Cont.cells ([] ++ ([] ++ []))] := hL12.newOwn [0] rfl rfl rfl
   exact Made.ext hL12.done hZ12 hN10 (fun _ h => h) ⟨b10, rfl, hN10.2.2.1, Els.nil, (by simp), trivial⟩
  intro z2
  refine DrH.de (fun _ _ => GOp.op (OpY.fieldAddr Tryd.underlying24 rfl ti22 rfl rfl rfl (er rfl))) ?_
  refine DrH.de (fun _ hE17 => GOp.op (OpY.ldBox1 Tryd.underlying22 rfl rfl ((hL10.ext hE17).at 1 rfl rfl) rfl (er rfl))) ?_
  refine DrH.rel ?_ ?_
  ·
   rintro w17 Z19 hE18 hZ15 ⟨⟨⟨b10, rfl, hO10, hE10, hc10, -⟩, hB2⟩, -⟩
   obtain ⟨ds10, q14, q15⟩ := Rs.src ((((x_h.mono (K4 S)).mono (K9 S)).mono (K10 S)).mono (Zv.old (Z := Z19) hE18))
   refine GOp.op (OpY.apRowX (r := (rInt .u32)) (H := (Zv w10 w.heap.size None [some b6, some b1] Z19 w17)) (cs := []) (sp := []) (xs := ([] : (List Int))) (ys := x.Digits) (Y := x10) (n := (List.length ([] : (List Int)))) (cap := 0) (i := 0) Tryd.underlying22 ti47 rfl rfl rfl rfl (Go.X.Loc.begin1 hO10) rfl rfl hE10 rfl hc10 q14 (Els.anyH (fun _ _ _ _ h => h) q15) q11 q12 q13 ?_)
   intro ob10 cap10 sp10 cs10 w18 hE11 hc11 (hL14 : Go.X.Loc [some b10] [] w17 w18 [ob10] [Cont.cells ([] ++ (cs10 ++ sp10))]) hS12
   exact Made.use hZ15 (fun b hb => hB2 b ((footV_osv (o := 0) (n := (List.length ([] : (List Int)))) (cap := 0)).2 hb)) hL14 (fun b hb => List.mem_append_left _ ((footV_osv (o := 0) (n := (List.length ([] : (List Int)))) (cap := 0)).2 (by rw [← hb]; exact List.mem_cons_self))) (fun b hb => footV_osv.1 hb) ⟨ob10, cap10, cs10, sp10, rfl, hL14.own.1, (hE11.mono (Zv.use (fun b hb => hB2 b ((footV_osv (o := 0) (n := (List.length ([] : (List Int)))) (cap := 0)).2 hb)) hL14)), hc11, trivial⟩
  intro z5
  refine DrH.fin0 ?_
  rintro w19 Z20 hE19 hZ16 ⟨⟨⟨ob10, cap10, cs10, sp10, rfl, hO11, hE11, hc11, -⟩, hB5⟩, -, -⟩ ap10
  have hB10 : ∀ b, some b ∈ ([ob10] : List (Option Nat)) → w10.heap.size ≤ b ∧ ¬ Z20 b := by
   intro b hb
   rcases List.mem_cons.1 hb with hb' | hb
   ·
    have := hB5 b ((footV_osv (ob := ob10) (o := 0) (n := (List.length x10)) (cap := cap10)).2 (by rw [hb']; exact List.mem_cons_self)); exact ⟨this.1, this.2.2⟩
   cases hb
  replace hE11 := hE11.mono (Zv.fin hL10 hZ16 hB10)
  have hN11 : NewOwn w10 w19 [ob10] [Cont.cells ([] ++ (cs10 ++ sp10))] := (NewOwn.cons NewOwn.nil hO11 (fun b hb => (hB10 b (by rw [← hb]; simp)).1) (fun b _ hb => by cases hb))
  have hp10 := hL10.adoptL hE19 hN11
  have hL15 := hp10.1
  refine Rl.op (OpY.build (zc := [(Value.bool false), (Value.slice none 0 0)]) (cs := [(Value.bool x.Negative), (osv ob10 0 (List.length x10) cap10)]) (is := [0, 1]) (vs := [(Value.bool x.Negative), (osv ob10 0 (List.length x10) cap10)]) (css := [[(Value.bool x.Negative)], [(osv ob10 0 (List.length x10) cap10)]]) pl24 ti24 rfl rfl rfl ⟨rfl, ⟨(one_cells (osv_one _ _ _ _)), trivial⟩⟩ rfl ?_)
  refine Rl.op0 (OpY.store (vs := [(Value.bool x.Negative), (osv ob10 0 (List.length x10) cap10)]) ti24 rfl rfl rfl rfl (ones_cons rfl (ones_cons (osv_one _ _ _ _) ones_nil)) hL15 1 rfl rfl (Nat.le_of_ble_eq_true rfl) ?_)
  intro w20 (hL16 : Go.X.Loc [] [] w w20 [ob10, some b6, some b1] [Cont.cells ([] ++ (cs10 ++ sp10)), Cont.cells [(Value.bool x.Negative), (osv ob10 0 (List.length x10) cap10)], Cont.cells [(Value.bool x.Negative), x_v]]) hS13
  have K11 := ks w hS13
  refine Rl.nil ?_
  have f10 := (hE11.mono (K11 None))
  have f11 := hL16.freezeRow 0 rfl rfl f10 rfl rfl rfl hc11
  have hp11 := hL16.pick [1, 2] rfl rfl rfl
  have hL17 : Go.X.Loc [] [] w w20 [some b6, some b1] [Cont.cells [(Value.bool x.Negative), (osv ob10 0 (List.length x10) cap10)], Cont.cells [(Value.bool x.Negative), x_v]] := hp11.1
  refine Swp.ret ?_
  obtain rfl := Option.some.inj h
  refine ⟨[(Value.agg #[(Value.bool x.Negative), (osv ob10 0 (List.length x10) cap10)])], ⟨⟨⟨b6, 0, none⟩, rfl, res_boxA Tryd.underlying24 rfl ti24 (hL17.at 0 rfl rfl) rfl⟩, trivial⟩, ⟨_, rfl, hL17.done, ?_⟩⟩
  exact ⟨(osv ob10 0 (List.length x10) cap10), rfl, (f11.mono Hv.out), trivial⟩
theorem rSmallB_w (N : Nat) (x : Big) (x_v : Value) (w : World) (S : Nat → Prop) (x_h : Rs (rInt .u32) (Hv w.heap.size S [] w) x_v x.Digits) (r : Bool) (h : rSmallB N x = some r) :
  Calls Tryd.prog 44 #[(Value.agg #[(Value.bool x.Negative), x_v])] w (Ret w (fun v w' => (Value.bool r) = v ∧ True)) := by
 unfold rSmallB at h
 have hL : Go.X.Loc [] [] w w [] [] := Go.X.Loc.begin0 w
 refine calls_of (l := [(Value.agg #[(Value.bool x.Negative), x_v])]) (rl := [.tmp 2]) (n := 7) Tryd.func44 rfl rfl rfl (Nat.le_of_ble_eq_true rfl) ?_
 refine Swp.seq (Swp.region rfl (Rl.op (OpY.box (cs := [(Value.bool x.Negative), x_v]) rfl rfl hL ?_)))
 intro b1 w2 hL3 hS5
 have K4 := ks w hS5
 refine Rl.op (OpY.assign (v := (Value.bool false)) rfl ?_)
 refine Rl.nil (Swp.seq (Swp.region rfl (Rl.op (OpY.fieldAddr (q := 1) Tryd.underlying24 rfl ti22 rfl rfl rfl ?_))))
 refine Rl.op (OpY.ldBox1 (v := x_v) Tryd.underlying22 rfl rfl (hL3.at 0 rfl rfl) rfl ?_)
 have f6 := (x_h.mono (K4 S))
 refine Rl.op (OpY.lenRo (v := x_v) Tryd.underlying22 rfl f6 ?_)
 refine Rl.op (OpY.leq (x := (List.length x.Digits : Int)) (y := 8) (((List.length x.Digits : Int) : Int) ≤ 8) rfl rfl Iff.rfl ?_)
 refine Rl.op (OpY.assign (v := (Value.bool (decide (((List.length x.Digits : Int) : Int) ≤ 8)))) rfl ?_)
 refine Rl.nil (Swp.ret ?_)
 obtain rfl := Option.some.inj h
 refine ⟨[(Value.bool (decide (((List.length x.Digits : Int) : Int) ≤ 8)))], ⟨rfl, trivial⟩, ⟨_, rfl, hL3.done, ?_⟩⟩
 exact ⟨rfl, trivial⟩
end Go.Proofs.YthmoefciofnmdaaDoor.WR

/- Walks, written by a program of mine (wip/tool); the kernel checks them. -/
import Derived.Test.YthmoefciofnmdaaDoorProg
import Derived.Test.YthmoefciofnmdaaDoorZ7
import Derived.Test.YthmoefciofnmdaaDoorF2
import Derived.Test.YthmoefciofnmdaaDoorZ12
import Derived.Test.YthmoefciofnmdaaDoorZ15
import Derived.Test.YthmoefciofnmdaaDoorPR
import Derived.Test.YthmoefciofnmdaaDoorWAMemory
set_option maxRecDepth 100000
set_option maxHeartbeats 40000000
set_option linter.unusedVariables false
set_option linter.unusedSimpArgs false
namespace Go.Proofs.YthmoefciofnmdaaDoor.WR
open Go Go.RowKit Go.X Go.D Go.Proofs.YthmoefciofnmdaaDoor.WF Go.Proofs.YthmoefciofnmdaaDoor.WA
theorem ti22 : TI Tryd.prog 22 1 24 (Value.slice none 0 0) := TI.mk (by kernel_rfl)
theorem ti4 : TI Tryd.prog 4 1 1 (Value.bool false) := TI.mk (by kernel_rfl)
theorem rSame_w (N : Nat) (a : Big) (b : Big) (a_v : Value) (b_v : Value) (w : World) (S : Nat → Prop) (a_h : Rs (rInt .u32) (Hv w.heap.size S [] w) a_v a.Digits) (b_h : Rs (rInt .u32) (Hv w.heap.size S [] w) b_v b.Digits) (r : Bool) (h : rSame N a b = some r) :
  Calls Tryd.prog 18 #[(Value.agg #[(Value.bool a.Negative), a_v]), (Value.agg #[(Value.bool b.Negative), b_v])] w (Ret w (fun v w' => (Value.bool r) = v ∧ True)) := by
 unfold rSame at h
 have hL : Go.X.Loc [] [] w w [] [] := Go.X.Loc.begin0 w
 refine calls_of (l := [(Value.agg #[(Value.bool a.Negative), a_v]), (Value.agg #[(Value.bool b.Negative), b_v])]) (rl := [.tmp 4]) (n := 38) Tryd.func18 rfl rfl rfl (Nat.le_of_ble_eq_true rfl) ?_
 refine Swp.seq (Swp.region rfl (Rl.op (OpY.box (cs := [(Value.bool a.Negative), a_v]) rfl rfl hL ?_)))
 intro b1 w2 hL3 hS5
 have K4 := ks w hS5
 refine Rl.op (OpY.box (cs := [(Value.bool b.Negative), b_v]) rfl rfl hL3 ?_)
 intro b6 w7 hL8 hS10
 have K9 := ks w hS10
 refine Rl.op (OpY.assign (v := (Value.bool false)) rfl ?_)
 refine Rl.nil (Swp.seq (Swp.seq ?_))
 obtain ⟨s10, h, g10⟩ := bind_some h
 refine Swp.join (fun e w' => ∃ (x10 : Bool) (u : Env), x10 = s10 ∧ e = upds [(2, (Value.pointer (some ⟨b1, 0, none⟩))), (3, (Value.pointer (some ⟨b6, 0, none⟩))), (19, (Value.bool x10))] u ∧ Go.X.Loc [] [] w w' [some b1, some b6] [Cont.cells [(Value.bool a.Negative), a_v], Cont.cells [(Value.bool b.Negative), b_v]] ∧ Keep w.heap.size [some b6, some b1] w7 [some b1, some b6] w' ∧ True) ?_ ?_
 ·
  refine Swp.region rfl (Rl.op (OpY.fieldAddr (q := 0) Tryd.underlying24 rfl ti4 rfl rfl rfl ?_))
  refine Rl.op (OpY.ldBox1 (v := (Value.bool a.Negative)) Tryd.underlying4 rfl rfl (hL8.at 1 rfl rfl) rfl ?_)
  refine Rl.op (OpY.fieldAddr (q := 0) Tryd.underlying24 rfl ti4 rfl rfl rfl ?_)
  refine Rl.op (OpY.ldBox1 (v := (Value.bool b.Negative)) Tryd.underlying4 rfl rfl (hL8.at 0 rfl rfl) rfl ?_)
  refine Rl.op (OpY.neqBool (x := a.Negative) (y := b.Negative) Tryd.underlying4 rfl rfl ?_)
  refine Rl.op (OpY.move (v := (Value.bool (!(a.Negative == b.Negative)))) rfl ?_)
  by_cases hc10 : (!(a.Negative == b.Negative)) = true
  ·
   replace h := ite_t hc10 h
   refine Rl.no rfl rfl hc10 ?_
   refine Rl.no rfl rfl hc10 ?_
   refine Rl.no rfl rfl hc10 ?_
   refine Rl.no rfl rfl hc10 ?_
   refine Rl.no rfl rfl hc10 ?_
   refine Rl.no rfl rfl hc10 ?_
   refine Rl.no rfl rfl hc10 ?_
   refine Rl.op (OpY.pick_t (t := (!(a.Negative == b.Negative))) (v := (Value.bool true)) rfl hc10 rfl ?_)
   refine Rl.nil ?_
   have hp10 := hL8.pick [1, 0] rfl rfl rfl
   have hL10 : Go.X.Loc [] [] w w7 [some b1, some b6] [Cont.cells [(Value.bool a.Negative), a_v], Cont.cells [(Value.bool b.Negative), b_v]] := hp10.1
   have K10 := ks w hp10.2
   obtain rfl := Option.some.inj h
   refine Swp.pop_back ?_
   exact ⟨true, _, rfl, (upds_sym ⟨rfl, rfl, rfl, trivial⟩), hL10, K10, trivial⟩
  ·
   replace h := ite_f hc10 h
   refine Rl.yes rfl rfl (eq_false_of_ne_true hc10) (OpY.fieldAddr (q := 1) Tryd.underlying24 rfl ti22 rfl rfl rfl ?_)
   refine Rl.yes rfl rfl (eq_false_of_ne_true hc10) (OpY.ldBox1 (v := a_v) Tryd.underlying22 rfl rfl (hL8.at 1 rfl rfl) rfl ?_)
   have f10 := ((a_h.mono (K4 S)).mono (K9 S))
   refine Rl.yes rfl rfl (eq_false_of_ne_true hc10) (OpY.lenRo (v := a_v) Tryd.underlying22 rfl f10 ?_)
   refine Rl.yes rfl rfl (eq_false_of_ne_true hc10) (OpY.fieldAddr (q := 1) Tryd.underlying24 rfl ti22 rfl rfl rfl ?_)
   refine Rl.yes rfl rfl (eq_false_of_ne_true hc10) (OpY.ldBox1 (v := b_v) Tryd.underlying22 rfl rfl (hL8.at 0 rfl rfl) rfl ?_)
   have f11 := ((b_h.mono (K4 S)).mono (K9 S))
   refine Rl.yes rfl rfl (eq_false_of_ne_true hc10) (OpY.lenRo (v := b_v) Tryd.underlying22 rfl f11 ?_)
   refine Rl.yes rfl rfl (eq_false_of_ne_true hc10) (OpY.neq (x := (List.length a.Digits : Int)) (y := (List.length b.Digits : Int)) (((List.length a.Digits : Int) : Int) ≠ (List.length b.Digits : Int)) rfl rfl Iff.rfl ?_)
   refine Rl.op (OpY.pick_f (t := (!(a.Negative == b.Negative))) (v := (Value.bool (decide (((List.length a.Digits : Int) : Int) ≠ (List.length b.Digits : Int))))) rfl (eq_false_of_ne_true hc10) rfl ?_)
   refine Rl.nil ?_
   have hp11 := hL8.pick [1, 0] rfl rfl rfl
   have hL11 : Go.X.Loc [] [] w w7 [some b1, some b6] [Cont.cells [(Value.bool a.Negative), a_v], Cont.cells [(Value.bool b.Negative), b_v]] := hp11.1
   have K11 := ks w hp11.2
   obtain rfl := Option.some.inj h
   refine Swp.pop_back ?_
   exact ⟨(decide (((List.length a.Digits : Int) : Int) ≠ (List.length b.Digits : Int))), _, rfl, (upds_sym ⟨rfl, rfl, rfl, trivial⟩), hL11, K11, trivial⟩
 ·
  rintro _ w10 ⟨x10, u, rfl, rfl, hL12, K12, -⟩
  replace h := g10
  try dsimp only at h
  refine Swp.cond_b x10 rfl (fun hc11 => ?_) (fun hc11 => ?_)
  ·
   replace h := ite_t hc11 h
   refine Swp.seq (Swp.region rfl (Rl.op (OpY.assign (v := (Value.bool false)) rfl ?_)))
   refine Rl.nil (Swp.ret ?_)
   obtain rfl := Option.some.inj h
   refine ⟨[(Value.bool false)], ⟨rfl, trivial⟩, ⟨_, rfl, hL12.done, ?_⟩⟩
   exact ⟨rfl, trivial⟩
  ·
   replace h := ite_f hc11 h
   refine Swp.skip (Swp.seq (Swp.seq (Swp.region rfl (Rl.op (OpY.assign (v := (Value.int .i64 0)) rfl ?_)))))
   refine Rl.nil ?_
   obtain ⟨s11, hl10, g11⟩ := bind_some h
   refine Swp.join (fun e w' => ∃  (u : Env), (Sum.inl ()) = s11 ∧ e = upds [] u ∧ Go.X.Loc [] [] w w' [] [] ∧ Keep w.heap.size [some b1, some b6] w10 [] w' ∧ True) ?_ ?_
   ·
    refine Swp.block ?_
    refine Swp.loopM hl10 (fun (ss : Int) (e : Env) (w' : World) => match ss with | i10 => ∃ (u : Env), e = upds [(2, (Value.pointer (some ⟨b1, 0, none⟩))), (3, (Value.pointer (some ⟨b6, 0, none⟩))), (5, (Value.int .i64 i10))] u ∧ Go.X.Loc [] [] w w' [some b1, some b6] [Cont.cells [(Value.bool a.Negative), a_v], Cont.cells [(Value.bool b.Negative), b_v]] ∧ Keep w.heap.size [some b1, some b6] w10 [some b1, some b6] w' ∧ True) ⟨_, (upds_sym ⟨rfl, rfl, rfl, trivial⟩), hL12, Keep.refl, trivial⟩ ?_
    rintro i10 oo _ w11 ⟨u, rfl, hL13, K13, -⟩ h hd10
    rw [rSame_b1] at h
    refine Swp.seq (Swp.seq (Swp.region rfl (Rl.op (OpY.move (v := (Value.int .i64 i10)) rfl ?_))))
    refine Rl.op (OpY.fieldAddr (q := 1) Tryd.underlying24 rfl ti22 rfl rfl rfl ?_)
    refine Rl.op (OpY.ldBox1 (v := a_v) Tryd.underlying22 rfl rfl (hL13.at 0 rfl rfl) rfl ?_)
    have f12 := ((((a_h.mono (K4 S)).mono (K9 S)).mono (K12 S)).mono (K13 S))
    refine Rl.op (OpY.lenRo (v := a_v) Tryd.underlying22 rfl f12 ?_)
    refine Rl.op (OpY.lss (x := i10) (y := (List.length a.Digits : Int)) ((i10 : Int) < (List.length a.Digits : Int)) rfl rfl Iff.rfl ?_)
    refine Rl.nil ?_
    refine Swp.cond_d ((i10 : Int) < (List.length a.Digits : Int)) rfl (fun hc12 => ?_) (fun hc12 => ?_)
    ·
     replace h := ite_t hc12 h
     refine Swp.skip (Swp.seq (Swp.block (Swp.seq ?_)))
     obtain ⟨x11, q10, h⟩ := bind_some h
     obtain ⟨n10, q11, q12⟩ := idx_some q10
     obtain ⟨b10, o10, c10, vs10, q13, q14, f13, q15⟩ := Rs.get f12 q12
     obtain rfl := q15
     obtain ⟨x12, q16, h⟩ := bind_some h
     obtain ⟨n11, q17, q18⟩ := idx_some q16
     have f14 := ((((b_h.mono (K4 S)).mono (K9 S)).mono (K12 S)).mono (K13 S))
     obtain ⟨b11, o11, c11, vs11, q19, q20, f15, q21⟩ := Rs.get f14 q18
     obtain rfl := q21
     refine Swp.drawL 10 [] [] (fun W1 => [.det (Value.pointer (some ⟨b1, 1, none⟩)), .det a_v, .det (Value.int .i64 i10), .det (Value.pointer (some ⟨b10, (o10 + n10 * (rInt .u32).sz), none⟩)), .det (Value.int .u32 x11), .det (Value.pointer (some ⟨b6, 1, none⟩)), .det b_v, .det (Value.int .i64 i10), .det (Value.pointer (some ⟨b11, (o11 + n11 * (rInt .u32).sz), none⟩)), .det (Value.int .u32 x12)]) mixed rfl rfl rfl (fun _ => rfl) (fun _ => rfl) ?_ ?_
     ·
      intro W1 _
      exact trivial
     ·
      intro w12 hE10
      have hL14 := hL13.ext hE10
      have K14 := ke hL13 hE10
      refine DrH.de (fun _ _ => GOp.op (OpY.fieldAddr Tryd.underlying24 rfl ti22 rfl rfl rfl (er rfl))) ?_
      refine DrH.de (fun _ hE12 => GOp.op (OpY.ldBox1 Tryd.underlying22 rfl rfl ((hL14.ext hE12).at 0 rfl rfl) rfl (er rfl))) ?_
      refine DrH.de (fun _ _ => GOp.op (OpY.move rfl (er rfl))) ?_
      refine DrH.de (fun _ _ => GOp.op (OpY.ixRoD (r := (rInt .u32)) (v := a_v) (n := n10) (m := (o10 + n10 * (rInt .u32).sz)) Tryd.underlying22 ti47 rfl q13 rfl q11 q12 rfl (er rfl))) ?_
      refine DrH.de (fun _ hE15 => GOp.op (OpY.ldRo1 Tryd.underlying47 rfl rfl vw_view (At.mono ((ke hL14 hE15) S) (At.mono (K14 S) f13)) (er rfl))) ?_
      refine DrH.de (fun _ _ => GOp.op (OpY.fieldAddr Tryd.underlying24 rfl ti22 rfl rfl rfl (er rfl))) ?_
      refine DrH.de (fun _ hE17 => GOp.op (OpY.ldBox1 Tryd.underlying22 rfl rfl ((hL14.ext hE17).at 1 rfl rfl) rfl (er rfl))) ?_
      refine DrH.de (fun _ _ => GOp.op (OpY.move rfl (er rfl))) ?_
      refine DrH.de (fun _ _ => GOp.op (OpY.ixRoD (r := (rInt .u32)) (v := b_v) (n := n11) (m := (o11 + n11 * (rInt .u32).sz)) Tryd.underlying22 ti47 rfl q19 rfl q17 q18 rfl (er rfl))) ?_
      refine DrH.de (fun _ hE20 => GOp.op (OpY.ldRo1 Tryd.underlying47 rfl rfl vw_view (At.mono ((ke hL14 hE20) S) (At.mono (K14 S) f15)) (er rfl))) ?_
      refine DrH.fin0 ?_
      rintro w23 Z24 hE21 hZ20 ⟨-⟩ ap10
      have hB10 : ∀ b, some b ∈ ([] : List (Option Nat)) → w12.heap.size ≤ b ∧ ¬ Z24 b := by
       intro b hb; cases hb
      have hL17 := hL14.ext hE21
      have K17 := ke hL14 hE21
      refine Rl.op (OpY.neq (x := x11) (y := x12) ((x11 : Int) ≠ x12) rfl rfl Iff.rfl ?_)
      refine Rl.nil ?_
      refine Swp.cond_d ((x11 : Int) ≠ x12) rfl (fun hc13 => ?_) (fun hc13 => ?_)
      ·
       replace h := ite_t hc13 h
       refine Swp.seq (Swp.region rfl (Rl.op (OpY.assign (v := (Value.bool false)) rfl ?_)))
       refine Rl.nil (Swp.ret ?_)
       obtain rfl := Option.some.inj h
       obtain rfl := hd10 _ rfl
       replace h := g11
       try dsimp only at h
       obtain rfl := Option.some.inj h
       refine ⟨[(Value.bool false)], ⟨rfl, trivial⟩, ⟨_, rfl, hL17.done, ?_⟩⟩
       exact ⟨rfl, trivial⟩
      ·
       replace h := ite_f hc13 h
       refine Swp.skip (Swp.pop_blk (Swp.region rfl (Rl.op (OpY.move (v := (Value.int .i64 i10)) rfl ?_))))
       refine Rl.op (OpY.add (x := i10) (y := 1) (z := (iw (i10 + 1))) rfl rfl rfl ?_)
       refine Rl.op (OpY.assign (v := (Value.int .i64 (iw (i10 + 1)))) rfl ?_)
       refine Rl.nil ?_
       obtain rfl := Option.some.inj h
       refine Swp.pop_back ⟨(iw (i10 + 1)), rfl, ?_⟩
       exact ⟨_, (upds_sym ⟨rfl, rfl, rfl, trivial⟩), hL17, (Keep.trans (Keep.trans K13 K14) K17), trivial⟩
    ·
     replace h := ite_f hc12 h
     refine Swp.exit rfl ?_
     have hp12 := hL13.pick [] rfl rfl rfl
     have hL18 : Go.X.Loc [] [] w w11 [] [] := hp12.1
     have K18 := ks w hp12.2
     obtain rfl := Option.some.inj h
     obtain rfl := hd10 _ rfl
     replace h := g11
     try dsimp only at h
     skip
     refine Swp.pop_back ?_
     exact ⟨_, rfl, (upds_sym trivial), hL18, (Keep.trans K13 K18), trivial⟩
   ·
    rintro _ w24 ⟨u, rfl, rfl, hL19, K19, -⟩
    replace h := g11
    try dsimp only at h
    refine Swp.seq (Swp.region rfl (Rl.op (OpY.assign (v := (Value.bool true)) rfl ?_)))
    refine Rl.nil (Swp.ret ?_)
    obtain rfl := Option.some.inj h
    refine ⟨[(Value.bool true)], ⟨rfl, trivial⟩, ⟨_, rfl, hL19.done, ?_⟩⟩
    exact ⟨rfl, trivial⟩
theorem rCopy_w (N : Nat) (x : Big) (x_v : Value) (w : World) (S : Nat → Prop) (x_h : Rs (rInt .u32) (Hv w.heap.size S [] w) x_v x.Digits) (r : Big) (h : rCopy N x = some r) :
  Calls Tryd.prog 49 #[(Value.agg #[(Value.bool x.Negative), x_v])] w (Ret w (fun v w' => ∃ (v0_0 : Value), (Value.agg #[(Value.bool r.Negative), v0_0]) = v ∧ Rs (rInt .u32) (Hv w.heap.size None [] w') v0_0 r.Digits ∧ True)) := by
 unfold rCopy at h
 have hL : Go.X.Loc [] [] w w [] [] := Go.X.Loc.begin0 w
 refine calls_of (l := [(Value.agg #[(Value.bool x.Negative), x_v])]) (rl := [.cell 2 24]) (n := 10) Tryd.func49 rfl rfl rfl (Nat.le_of_ble_eq_true rfl) ?_
 refine Swp.seq (Swp.region rfl (Rl.op (OpY.box (cs := [(Value.bool x.Negative), x_v]) rfl rfl hL ?_)))
 intro b1 w2 hL3 hS5
 have K4 := ks w hS5
 refine Rl.op (OpY.alloc (cs := [(Value.bool false), (Value.slice none 0 0)]) ti24 rfl hL3 ?_)
 intro b6 w7 hL8 hS10
 have K9 := ks w hS10
 refine Rl.nil (Swp.seq ?_)
 obtain ⟨x10, q10, h⟩ := bind_some h
 obtain ⟨q11, q12, q13⟩ := apnd_some q10
 refine Swp.drawL 6 [[], [], [], [], [], [2]] [] (fun W1 => [.det (Value.pointer (some ⟨b1, 0, none⟩)), .det (Value.bool x.Negative), .rel (fun v Z w' => ∃ b10, (osv (some b10) 0 (List.length ([] : (List Int))) 0) = v ∧ OwnC w' (some b10) (Cont.cells ([] ++ ([] ++ []))) ∧ Els (rInt .u32) (Zv W1 w.heap.size None [some b6, some b1] Z w') [] ([] : (List Int)) ∧ ([] ++ [] : List Value).length = 0 * (rInt .u32).sz ∧ True) footV, .det (Value.pointer (some ⟨b1, 1, none⟩)), .det x_v, .rel (fun v Z w' => ∃ ob10 cap10 cs10 sp10, (osv ob10 0 (List.length x10) cap10) = v ∧ OwnC w' ob10 (Cont.cells ([] ++ (cs10 ++ sp10))) ∧ Els (rInt .u32) (Zv W1 w.heap.size None [some b6, some b1] Z w') cs10 x10 ∧ (cs10 ++ sp10 : List Value).length = cap10 * (rInt .u32).sz ∧ True) footV]) mixed rfl rfl rfl (fun _ => rfl) (fun _ => rfl) ?_ ?_
 ·
  intro W1 _
  exact ⟨fun v Z Z' w w' hΦ hz _ _ hs => by obtain ⟨b10, rfl, hO10, hE10, hc10, -⟩ := hΦ; exact ⟨b10, rfl, (hO10.stay (fun b hb => by cases hb; exact List.mem_cons_self) hs), (hE10.mono (Zv.stay hz hs)), hc10, trivial⟩, ⟨fun v Z Z' w w' hΦ hz _ _ hs => by obtain ⟨ob10, cap10, cs10, sp10, rfl, hO11, hE11, hc11, -⟩ := hΦ; exact ⟨ob10, cap10, cs10, sp10, rfl, (hO11.stay (fun b hb => (footV_osv (ob := ob10) (o := 0) (n := (List.length x10)) (cap := cap10)).2 (by rw [hb]; exact List.mem_cons_self)) hs), (hE11.mono (Zv.stay hz hs)), hc11, trivial⟩, trivial⟩⟩
 ·
  intro w10 hE12
  have hL10 := hL8.ext hE12
  have K10 := ke hL8 hE12
  refine DrH.de (fun _ _ => GOp.op (OpY.fieldAddr Tryd.underlying24 rfl ti4 rfl rfl rfl (er rfl))) ?_
  refine DrH.de (fun _ hE14 => GOp.op (OpY.ldBox1 Tryd.underlying4 rfl rfl ((hL10.ext hE14).at 1 rfl rfl) rfl (er rfl))) ?_
  refine DrH.rel ?_ ?_
  ·
   rintro w13 Z16 hE15 hZ12 ⟨-⟩
   refine GOp.op (OpY.litRow0 Tryd.underlying22 ti47 (Go.X.Loc.begin0 w13) ?_)
   intro b10 w14 hL12 hS11
   have hN10 : NewOwn w13 w14 [some b10] [Cont.cells ([] ++ ([] ++ []))] := hL12.newOwn [0] rfl rfl rfl
   exact Made.ext hL12.done hZ12 hN10 (fun _ h => h) ⟨b10, rfl, hN10.2.2.1, Els.nil, (by simp), trivial⟩
  intro z2
  refine DrH.de (fun _ _ => GOp.op (OpY.fieldAddr Tryd.underlying24 rfl ti22 rfl rfl rfl (er rfl))) ?_
  refine DrH.de (fun _ hE17 => GOp.op (OpY.ldBox1 Tryd.underlying22 rfl rfl ((hL10.ext hE17).at 1 rfl rfl) rfl (er rfl))) ?_
  refine DrH.rel ?_ ?_
  ·
   rintro w17 Z19 hE18 hZ15 ⟨⟨⟨b10, rfl, hO10, hE10, hc10, -⟩, hB2⟩, -⟩
   obtain ⟨ds10, q14, q15⟩ := Rs.src ((((x_h.mono (K4 S)).mono (K9 S)).mono (K10 S)).mono (Zv.old (Z := Z19) hE18))
   refine GOp.op (OpY.apRowX (r := (rInt .u32)) (H := (Zv w10 w.heap.size None [some b6, some b1] Z19 w17)) (cs := []) (sp := []) (xs := ([] : (List Int))) (ys := x.Digits) (Y := x10) (n := (List.length ([] : (List Int)))) (cap := 0) (i := 0) Tryd.underlying22 ti47 rfl rfl rfl rfl (Go.X.Loc.begin1 hO10) rfl rfl hE10 rfl hc10 q14 (Els.anyH (fun _ _ _ _ h => h) q15) q11 q12 q13 ?_)
   intro ob10 cap10 sp10 cs10 w18 hE11 hc11 (hL14 : Go.X.Loc [some b10] [] w17 w18 [ob10] [Cont.cells ([] ++ (cs10 ++ sp10))]) hS12
   exact Made.use hZ15 (fun b hb => hB2 b ((footV_osv (o := 0) (n := (List.length ([] : (List Int)))) (cap := 0)).2 hb)) hL14 (fun b hb => List.mem_append_left _ ((footV_osv (o := 0) (n := (List.length ([] : (List Int)))) (cap := 0)).2 (by rw [← hb]; exact List.mem_cons_self))) (fun b hb => footV_osv.1 hb) ⟨ob10, cap10, cs10, sp10, rfl, hL14.own.1, (hE11.mono (Zv.use (fun b hb => hB2 b ((footV_osv (o := 0) (n := (List.length ([] : (List Int)))) (cap := 0)).2 hb)) hL14)), hc11, trivial⟩
  intro z5
  refine DrH.fin0 ?_
  rintro w19 Z20 hE19 hZ16 ⟨⟨⟨ob10, cap10, cs10, sp10, rfl, hO11, hE11, hc11, -⟩, hB5⟩, -, -⟩ ap10
  have hB10 : ∀ b, some b ∈ ([ob10] : List (Option Nat)) → w10.heap.size ≤ b ∧ ¬ Z20 b := by
   intro b hb
   rcases List.mem_cons.1 hb with hb' | hb
   ·
    have := hB5 b ((footV_osv (ob := ob10) (o := 0) (n := (List.length x10)) (cap := cap10)).2 (by rw [hb']; exact List.mem_cons_self)); exact ⟨this.1, this.2.2⟩
   cases hb
  replace hE11 := hE11.mono (Zv.fin hL10 hZ16 hB10)
  have hN11 : NewOwn w10 w19 [ob10] [Cont.cells ([] ++ (cs10 ++ sp10))] := (NewOwn.cons NewOwn.nil hO11 (fun b hb => (hB10 b (by rw [← hb]; simp)).1) (fun b _ hb => by cases hb))
  have hp10 := hL10.adoptL hE19 hN11
  have hL15 := hp10.1
  refine Rl.op (OpY.build (zc := [(Value.bool false), (Value.slice none 0 0)]) (cs := [(Value.bool x.Negative), (osv ob10 0 (List.length x10) cap10)]) (is := [0, 1]) (vs := [(Value.bool x.Negative), (osv ob10 0 (List.length x10) cap10)]) (css := [[(Value.bool x.Negative)], [(osv ob10 0 (List.length x10) cap10)]]) pl24 ti24 rfl rfl rfl ⟨rfl, ⟨(one_cells (osv_one _ _ _ _)), trivial⟩⟩ rfl ?_)
  refine Rl.op0 (OpY.store (vs := [(Value.bool x.Negative), (osv ob10 0 (List.length x10) cap10)]) ti24 rfl rfl rfl rfl (ones_cons rfl (ones_cons (osv_one _ _ _ _) ones_nil)) hL15 1 rfl rfl (Nat.le_of_ble_eq_true rfl) ?_)
  intro w20 (hL16 : Go.X.Loc [] [] w w20 [ob10, some b6, some b1] [Cont.cells ([] ++ (cs10 ++ sp10)), Cont.cells [(Value.bool x.Negative), (osv ob10 0 (List.length x10) cap10)], Cont.cells [(Value.bool x.Negative), x_v]]) hS13
  have K11 := ks w hS13
  refine Rl.nil ?_
  have f10 := (hE11.mono (K11 None))
  have f11 := hL16.freezeRow 0 rfl rfl f10 rfl rfl rfl hc11
  have hp11 := hL16.pick [1, 2] rfl rfl rfl
  have hL17 : Go.X.Loc [] [] w w20 [some b6, some b1] [Cont.cells [(Value.bool x.Negative), (osv ob10 0 (List.length x10) cap10)], Cont.cells [(Value.bool x.Negative), x_v]] := hp11.1
  refine Swp.ret ?_
  obtain rfl := Option.some.inj h
  refine ⟨[(Value.agg #[(Value.bool x.Negative), (osv ob10 0 (List.length x10) cap10)])], ⟨⟨⟨b6, 0, none⟩, rfl, res_boxA Tryd.underlying24 rfl ti24 (hL17.at 0 rfl rfl) rfl⟩, trivial⟩, ⟨_, rfl, hL17.done, ?_⟩⟩
  exact ⟨(osv ob10 0 (List.length x10) cap10), rfl, (f11.mono Hv.out), trivial⟩
theorem rSmallB_w (N : Nat) (x : Big) (x_v : Value) (w : World) (S : Nat → Prop) (x_h : Rs (rInt .u32) (Hv w.heap.size S [] w) x_v x.Digits) (r : Bool) (h : rSmallB N x = some r) :
  Calls Tryd.prog 44 #[(Value.agg #[(Value.bool x.Negative), x_v])] w (Ret w (fun v w' => (Value.bool r) = v ∧ True)) := by
 unfold rSmallB at h
 have hL : Go.X.Loc [] [] w w [] [] := Go.X.Loc.begin0 w
 refine calls_of (l := [(Value.agg #[(Value.bool x.Negative), x_v])]) (rl := [.tmp 2]) (n := 7) Tryd.func44 rfl rfl rfl (Nat.le_of_ble_eq_true rfl) ?_
 refine Swp.seq (Swp.region rfl (Rl.op (OpY.box (cs := [(Value.bool x.Negative), x_v]) rfl rfl hL ?_)))
 intro b1 w2 hL3 hS5
 have K4 := ks w hS5
 refine Rl.op (OpY.assign (v := (Value.bool false)) rfl ?_)
 refine Rl.nil (Swp.seq (Swp.region rfl (Rl.op (OpY.fieldAddr (q := 1) Tryd.underlying24 rfl ti22 rfl rfl rfl ?_))))
 refine Rl.op (OpY.ldBox1 (v := x_v) Tryd.underlying22 rfl rfl (hL3.at 0 rfl rfl) rfl ?_)
 have f6 := (x_h.mono (K4 S))
 refine Rl.op (OpY.lenRo (v := x_v) Tryd.underlying22 rfl f6 ?_)
 refine Rl.op (OpY.leq (x := (List.length x.Digits : Int)) (y := 8) (((List.length x.Digits : Int) : Int) ≤ 8) rfl rfl Iff.rfl ?_)
 refine Rl.op (OpY.assign (v := (Value.bool (decide (((List.length x.Digits : Int) : Int) ≤ 8)))) rfl ?_)
 refine Rl.nil (Swp.ret ?_)
 obtain rfl := Option.some.inj h
 refine ⟨[(Value.bool (decide (((List.length x.Digits : Int) : Int) ≤ 8)))], ⟨rfl, trivial⟩, ⟨_, rfl, hL3.done, ?_⟩⟩
 exact ⟨rfl, trivial⟩
end Go.Proofs.YthmoefciofnmdaaDoor.WR

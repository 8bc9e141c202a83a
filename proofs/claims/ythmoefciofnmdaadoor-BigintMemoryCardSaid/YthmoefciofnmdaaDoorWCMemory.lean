/- Walks, written by a program of mine (wip/tool); the kernel checks them. -/
import Derived.Test.YthmoefciofnmdaaDoorProg
import Derived.Test.YthmoefciofnmdaaDoorZ7
import Derived.Test.YthmoefciofnmdaaDoorF2
import Derived.Test.YthmoefciofnmdaaDoorZ12
import Derived.Test.YthmoefciofnmdaaDoorZ15
import Derived.Test.YthmoefciofnmdaaDoorPC
import Derived.Test.YthmoefciofnmdaaDoorWAMemory
import Derived.Test.YthmoefciofnmdaaDoorWRMemory
import Derived.Test.YthmoefciofnmdaaDoorWBMemory
set_option maxRecDepth 100000
set_option maxHeartbeats 40000000
set_option linter.unusedVariables false
set_option linter.unusedSimpArgs false
namespace Go.Proofs.YthmoefciofnmdaaDoor.WC
open Go Go.RowKit Go.X Go.D Go.Proofs.YthmoefciofnmdaaDoor.WF Go.Proofs.YthmoefciofnmdaaDoor.WA Go.Proofs.YthmoefciofnmdaaDoor.WR Go.Proofs.YthmoefciofnmdaaDoor.WB
theorem bnormalO_w (N : Nat) (negative : Bool) (d : (List Int)) (d_v : Value) (w : World) (S : Nat → Prop) (d_h : Rs (rInt .u32) (Hv w.heap.size S [] w) d_v d) (r : Big) (h : bnormalO N negative d = some r) :
  Calls Tryd.prog 48 #[(Value.bool negative), d_v] w (Ret w (fun v w' => ∃ (ob0_0 : Option Nat) (cap0_0 : Nat) (cs0_0 : List Value) (sp0_0 : List Value), (Value.agg #[(Value.bool r.Negative), (osv ob0_0 0 (List.length r.Digits) cap0_0)]) = v ∧ NewOwn w w' [ob0_0] [.cells ([] ++ (cs0_0 ++ sp0_0))] ∧ Els (rInt .u32) (Hv w.heap.size None [ob0_0] w') cs0_0 r.Digits ∧ (cs0_0 ++ sp0_0).length = cap0_0 * (rInt .u32).sz ∧ True)) := by
 unfold bnormalO at h
 have hL : Go.X.Loc [] [] w w [] [] := Go.X.Loc.begin0 w
 refine calls_of (l := [(Value.bool negative), d_v]) (rl := [.cell 4 24]) (n := 14) Tryd.func48 rfl rfl rfl (Nat.le_of_ble_eq_true rfl) ?_
 refine Swp.seq (Swp.region rfl (Rl.op (OpY.alloc (cs := [(Value.bool false), (Value.slice none 0 0)]) ti24 rfl hL ?_)))
 intro b1 w2 hL3 hS5
 have K4 := ks w hS5
 refine Rl.nil (Swp.seq (Swp.region rfl (Rl.op (OpY.move (v := d_v) rfl ?_))))
 obtain ⟨r6, q7, h⟩ := bind_some h
 have f10 := (d_h.mono (K4 S))
 refine Rl.op (OpY.call en54 rfl rfl (btrim_w N d d_v _ Any (f10.mono vw_any) r6 q7) ?_)
 rintro _ w10 hE10 ⟨ob8, cap9, cs10, sp10, rfl, hN10, hE11, hc10, -⟩
 replace hE11 := hE11.mono (Hv.freshO (S := None) hL3 [ob8])
 have hp10 := hL3.adoptL hE10 hN10
 have hL10 := hp10.1
 refine Rl.op (OpY.assign (v := (osv ob8 0 (List.length r6) cap9)) rfl ?_)
 refine Rl.nil (Swp.seq (Swp.seq (Swp.region rfl (Rl.op (OpY.move (v := (osv ob8 0 (List.length r6) cap9)) rfl ?_)))))
 refine Rl.op (OpY.lenRow (pre := []) (r := (rInt .u32)) (xs := r6) Tryd.underlying22 rfl (hL10.at 0 rfl rfl) hE11 rfl rfl ?_)
 refine Rl.op (OpY.eql (x := (List.length r6 : Int)) (y := 0) (((List.length r6 : Int) : Int) = 0) rfl rfl Iff.rfl ?_)
 refine Rl.nil ?_
 refine Swp.cond_d (((List.length r6 : Int) : Int) = 0) rfl (fun hc11 => ?_) (fun hc11 => ?_)
 ·
  replace h := ite_t hc11 h
  refine Swp.seq (Swp.region rfl (Rl.op (OpY.build (zc := [(Value.bool false), (Value.slice none 0 0)]) (cs := [(Value.bool false), (Value.slice none 0 0)]) (is := []) (vs := []) (css := []) pl24 ti24 rfl rfl rfl trivial rfl ?_)))
  refine Rl.op0 (OpY.store (vs := [(Value.bool false), (Value.slice none 0 0)]) ti24 rfl rfl rfl rfl (ones_cons rfl (ones_cons rfl ones_nil)) hL10 1 rfl rfl (Nat.le_of_ble_eq_true rfl) ?_)
  intro w11 (hL11 : Go.X.Loc [] [] w w11 [ob8, some b1] [Cont.cells ([] ++ (cs10 ++ sp10)), Cont.cells [(Value.bool false), (Value.slice none 0 0)]]) hS10
  refine Rl.nil ?_
  have hp11 := hL11.addNil
  have hL12 : Go.X.Loc [] [] w w11 [none, ob8, some b1] [Cont.cells ([] ++ ([] ++ [])), Cont.cells ([] ++ (cs10 ++ sp10)), Cont.cells [(Value.bool false), (Value.slice none 0 0)]] := hp11.1
  have hE12 : Els (rInt .u32) (Hv w.heap.size None [none, ob8, some b1] w11) [] [] := Els.nil
  refine Swp.ret ?_
  obtain rfl := Option.some.inj h
  refine ⟨[(Value.agg #[(Value.bool false), (osv none 0 (List.length ([] : (List Int))) 0)])], ⟨⟨⟨b1, 0, none⟩, rfl, res_boxA Tryd.underlying24 rfl ti24 (hL12.at 2 rfl rfl) rfl⟩, trivial⟩, ⟨_, rfl, hL12.done, ?_⟩⟩
  exact ⟨none, 0, [], [], rfl, (hL12.newOwn [0] rfl rfl rfl), (hE12.mono (Hv.pick [0] rfl)), (show ([] ++ [] : List Value).length = 0 * (rInt .u32).sz by simp), trivial⟩
 ·
  replace h := ite_f hc11 h
  refine Swp.skip (Swp.seq (Swp.region rfl (Rl.op (OpY.move (v := (Value.bool negative)) rfl ?_))))
  refine Rl.op (OpY.move (v := (osv ob8 0 (List.length r6) cap9)) rfl ?_)
  refine Rl.op (OpY.build (zc := [(Value.bool false), (Value.slice none 0 0)]) (cs := [(Value.bool negative), (osv ob8 0 (List.length r6) cap9)]) (is := [0, 1]) (vs := [(Value.bool negative), (osv ob8 0 (List.length r6) cap9)]) (css := [[(Value.bool negative)], [(osv ob8 0 (List.length r6) cap9)]]) pl24 ti24 rfl rfl rfl ⟨rfl, ⟨(one_cells (osv_one _ _ _ _)), trivial⟩⟩ rfl ?_)
  refine Rl.op0 (OpY.store (vs := [(Value.bool negative), (osv ob8 0 (List.length r6) cap9)]) ti24 rfl rfl rfl rfl (ones_cons rfl (ones_cons (osv_one _ _ _ _) ones_nil)) hL10 1 rfl rfl (Nat.le_of_ble_eq_true rfl) ?_)
  intro w12 (hL13 : Go.X.Loc [] [] w w12 [ob8, some b1] [Cont.cells ([] ++ (cs10 ++ sp10)), Cont.cells [(Value.bool negative), (osv ob8 0 (List.length r6) cap9)]]) hS11
  have K10 := ks w hS11
  refine Rl.nil (Swp.ret ?_)
  obtain rfl := Option.some.inj h
  refine ⟨[(Value.agg #[(Value.bool negative), (osv ob8 0 (List.length r6) cap9)])], ⟨⟨⟨b1, 0, none⟩, rfl, res_boxA Tryd.underlying24 rfl ti24 (hL13.at 1 rfl rfl) rfl⟩, trivial⟩, ⟨_, rfl, hL13.done, ?_⟩⟩
  have f11 := (hE11.mono (K10 None))
  exact ⟨ob8, cap9, cs10, sp10, rfl, (hL13.newOwn [0] rfl rfl rfl), (f11.mono (Hv.pick [0] rfl)), hc10, trivial⟩
theorem bNormalO_w (N : Nat) (x : Big) (x_v : Value) (w : World) (S : Nat → Prop) (x_h : Rs (rInt .u32) (Hv w.heap.size S [] w) x_v x.Digits) (r : Big) (h : bNormalO N x = some r) :
  Calls Tryd.prog 39 #[(Value.agg #[(Value.bool x.Negative), x_v])] w (Ret w (fun v w' => ∃ (ob0_0 : Option Nat) (cap0_0 : Nat) (cs0_0 : List Value) (sp0_0 : List Value), (Value.agg #[(Value.bool r.Negative), (osv ob0_0 0 (List.length r.Digits) cap0_0)]) = v ∧ NewOwn w w' [ob0_0] [.cells ([] ++ (cs0_0 ++ sp0_0))] ∧ Els (rInt .u32) (Hv w.heap.size None [ob0_0] w') cs0_0 r.Digits ∧ (cs0_0 ++ sp0_0).length = cap0_0 * (rInt .u32).sz ∧ True)) := by
 unfold bNormalO at h
 have hL : Go.X.Loc [] [] w w [] [] := Go.X.Loc.begin0 w
 refine calls_of (l := [(Value.agg #[(Value.bool x.Negative), x_v])]) (rl := [.cell 2 24]) (n := 8) Tryd.func39 rfl rfl rfl (Nat.le_of_ble_eq_true rfl) ?_
 refine Swp.seq (Swp.region rfl (Rl.op (OpY.box (cs := [(Value.bool x.Negative), x_v]) rfl rfl hL ?_)))
 intro b1 w2 hL3 hS5
 have K4 := ks w hS5
 refine Rl.op (OpY.alloc (cs := [(Value.bool false), (Value.slice none 0 0)]) ti24 rfl hL3 ?_)
 intro b6 w7 hL8 hS10
 have K9 := ks w hS10
 refine Rl.nil (Swp.seq (Swp.region rfl (Rl.op (OpY.fieldAddr (q := 0) Tryd.underlying24 rfl ti4 rfl rfl rfl ?_))))
 refine Rl.op (OpY.ldBox1 (v := (Value.bool x.Negative)) Tryd.underlying4 rfl rfl (hL8.at 1 rfl rfl) rfl ?_)
 refine Rl.op (OpY.fieldAddr (q := 1) Tryd.underlying24 rfl ti22 rfl rfl rfl ?_)
 refine Rl.op (OpY.ldBox1 (v := x_v) Tryd.underlying22 rfl rfl (hL8.at 1 rfl rfl) rfl ?_)
 obtain ⟨r10, q10, h⟩ := bind_some h
 have f10 := ((x_h.mono (K4 S)).mono (K9 S))
 refine Rl.op (OpY.call en48 rfl rfl (bnormalO_w N x.Negative x.Digits x_v _ Any (f10.mono vw_any) r10 q10) ?_)
 rintro _ w10 hE10 ⟨ob10, cap10, cs10, sp10, rfl, hN10, hE11, hc10, -⟩
 replace hE11 := hE11.mono (Hv.freshO (S := None) hL8 [ob10])
 have hp10 := hL8.adoptL hE10 hN10
 have hL10 := hp10.1
 refine Rl.op0 (OpY.store (vs := [(Value.bool r10.Negative), (osv ob10 0 (List.length r10.Digits) cap10)]) ti24 rfl rfl rfl rfl (ones_cons rfl (ones_cons (osv_one _ _ _ _) ones_nil)) hL10 1 rfl rfl (Nat.le_of_ble_eq_true rfl) ?_)
 intro w11 (hL11 : Go.X.Loc [] [] w w11 [ob10, some b6, some b1] [Cont.cells ([] ++ (cs10 ++ sp10)), Cont.cells [(Value.bool r10.Negative), (osv ob10 0 (List.length r10.Digits) cap10)], Cont.cells [(Value.bool x.Negative), x_v]]) hS11
 have K10 := ks w hS11
 refine Rl.nil (Swp.ret ?_)
 obtain rfl := Option.some.inj h
 refine ⟨[(Value.agg #[(Value.bool r10.Negative), (osv ob10 0 (List.length r10.Digits) cap10)])], ⟨⟨⟨b6, 0, none⟩, rfl, res_boxA Tryd.underlying24 rfl ti24 (hL11.at 1 rfl rfl) rfl⟩, trivial⟩, ⟨_, rfl, hL11.done, ?_⟩⟩
 have f11 := (hE11.mono (K10 None))
 exact ⟨ob10, cap10, cs10, sp10, rfl, (hL11.newOwn [0] rfl rfl rfl), (f11.mono (Hv.pick [0] rfl)), hc10, trivial⟩
theorem bNegO_w (N : Nat) (x : Big) (x_v : Value) (w : World) (S : Nat → Prop) (x_h : Rs (rInt .u32) (Hv w.heap.size S [] w) x_v x.Digits) (r : Big) (h : bNegO N x = some r) :
  Calls Tryd.prog 41 #[(Value.agg #[(Value.bool x.Negative), x_v])] w (Ret w (fun v w' => ∃ (ob0_0 : Option Nat) (cap0_0 : Nat) (cs0_0 : List Value) (sp0_0 : List Value), (Value.agg #[(Value.bool r.Negative), (osv ob0_0 0 (List.length r.Digits) cap0_0)]) = v ∧ NewOwn w w' [ob0_0] [.cells ([] ++ (cs0_0 ++ sp0_0))] ∧ Els (rInt .u32) (Hv w.heap.size None [ob0_0] w') cs0_0 r.Digits ∧ (cs0_0 ++ sp0_0).length = cap0_0 * (rInt .u32).sz ∧ True)) := by
 unfold bNegO at h
 have hL : Go.X.Loc [] [] w w [] [] := Go.X.Loc.begin0 w
 refine calls_of (l := [(Value.agg #[(Value.bool x.Negative), x_v])]) (rl := [.cell 2 24]) (n := 9) Tryd.func41 rfl rfl rfl (Nat.le_of_ble_eq_true rfl) ?_
 refine Swp.seq (Swp.region rfl (Rl.op (OpY.box (cs := [(Value.bool x.Negative), x_v]) rfl rfl hL ?_)))
 intro b1 w2 hL3 hS5
 have K4 := ks w hS5
 refine Rl.op (OpY.alloc (cs := [(Value.bool false), (Value.slice none 0 0)]) ti24 rfl hL3 ?_)
 intro b6 w7 hL8 hS10
 have K9 := ks w hS10
 refine Rl.nil (Swp.seq (Swp.region rfl (Rl.op (OpY.fieldAddr (q := 0) Tryd.underlying24 rfl ti4 rfl rfl rfl ?_))))
 refine Rl.op (OpY.ldBox1 (v := (Value.bool x.Negative)) Tryd.underlying4 rfl rfl (hL8.at 1 rfl rfl) rfl ?_)
 refine Rl.op (OpY.not (x := x.Negative) rfl ?_)
 refine Rl.op (OpY.fieldAddr (q := 1) Tryd.underlying24 rfl ti22 rfl rfl rfl ?_)
 refine Rl.op (OpY.ldBox1 (v := x_v) Tryd.underlying22 rfl rfl (hL8.at 1 rfl rfl) rfl ?_)
 obtain ⟨r10, q10, h⟩ := bind_some h
 have f10 := ((x_h.mono (K4 S)).mono (K9 S))
 refine Rl.op (OpY.call en48 rfl rfl (bnormalO_w N (!x.Negative) x.Digits x_v _ Any (f10.mono vw_any) r10 q10) ?_)
 rintro _ w10 hE10 ⟨ob10, cap10, cs10, sp10, rfl, hN10, hE11, hc10, -⟩
 replace hE11 := hE11.mono (Hv.freshO (S := None) hL8 [ob10])
 have hp10 := hL8.adoptL hE10 hN10
 have hL10 := hp10.1
 refine Rl.op0 (OpY.store (vs := [(Value.bool r10.Negative), (osv ob10 0 (List.length r10.Digits) cap10)]) ti24 rfl rfl rfl rfl (ones_cons rfl (ones_cons (osv_one _ _ _ _) ones_nil)) hL10 1 rfl rfl (Nat.le_of_ble_eq_true rfl) ?_)
 intro w11 (hL11 : Go.X.Loc [] [] w w11 [ob10, some b6, some b1] [Cont.cells ([] ++ (cs10 ++ sp10)), Cont.cells [(Value.bool r10.Negative), (osv ob10 0 (List.length r10.Digits) cap10)], Cont.cells [(Value.bool x.Negative), x_v]]) hS11
 have K10 := ks w hS11
 refine Rl.nil (Swp.ret ?_)
 obtain rfl := Option.some.inj h
 refine ⟨[(Value.agg #[(Value.bool r10.Negative), (osv ob10 0 (List.length r10.Digits) cap10)])], ⟨⟨⟨b6, 0, none⟩, rfl, res_boxA Tryd.underlying24 rfl ti24 (hL11.at 1 rfl rfl) rfl⟩, trivial⟩, ⟨_, rfl, hL11.done, ?_⟩⟩
 have f11 := (hE11.mono (K10 None))
 exact ⟨ob10, cap10, cs10, sp10, rfl, (hL11.newOwn [0] rfl rfl rfl), (f11.mono (Hv.pick [0] rfl)), hc10, trivial⟩
theorem bAddO_w (N : Nat) (a : Big) (b : Big) (a_v : Value) (b_v : Value) (w : World) (S : Nat → Prop) (a_h : Rs (rInt .u32) (Hv w.heap.size S [] w) a_v a.Digits) (b_h : Rs (rInt .u32) (Hv w.heap.size S [] w) b_v b.Digits) (r : Big) (h : bAddO N a b = some r) :
  Calls Tryd.prog 29 #[(Value.agg #[(Value.bool a.Negative), a_v]), (Value.agg #[(Value.bool b.Negative), b_v])] w (Ret w (fun v w' => ∃ (ob0_0 : Option Nat) (cap0_0 : Nat) (cs0_0 : List Value) (sp0_0 : List Value), (Value.agg #[(Value.bool r.Negative), (osv ob0_0 0 (List.length r.Digits) cap0_0)]) = v ∧ NewOwn w w' [ob0_0] [.cells ([] ++ (cs0_0 ++ sp0_0))] ∧ Els (rInt .u32) (Hv w.heap.size None [ob0_0] w') cs0_0 r.Digits ∧ (cs0_0 ++ sp0_0).length = cap0_0 * (rInt .u32).sz ∧ True)) := by
 unfold bAddO at h
 have hL : Go.X.Loc [] [] w w [] [] := Go.X.Loc.begin0 w
 refine calls_of (l := [(Value.agg #[(Value.bool a.Negative), a_v]), (Value.agg #[(Value.bool b.Negative), b_v])]) (rl := [.cell 4 24]) (n := 44) Tryd.func29 rfl rfl rfl (Nat.le_of_ble_eq_true rfl) ?_
 refine Swp.seq (Swp.region rfl (Rl.op (OpY.box (cs := [(Value.bool a.Negative), a_v]) rfl rfl hL ?_)))
 intro b1 w2 hL3 hS5
 have K4 := ks w hS5
 refine Rl.op (OpY.box (cs := [(Value.bool b.Negative), b_v]) rfl rfl hL3 ?_)
 intro b6 w7 hL8 hS10
 have K9 := ks w hS10
 refine Rl.op (OpY.alloc (cs := [(Value.bool false), (Value.slice none 0 0)]) ti24 rfl hL8 ?_)
 intro b10 w10 hL10 hS11
 have K10 := ks w hS11
 refine Rl.nil (Swp.seq ?_)
 obtain ⟨r10, q10, h⟩ := bind_some h
 refine Swp.drawL 3 [] [] (fun W1 => [.det (Value.agg #[(Value.bool a.Negative), a_v]), .rel (fun v Z w' => ∃ v10, (Value.agg #[(Value.bool r10.Negative), v10]) = v ∧ Rs (rInt .u32) (Zv W1 w.heap.size None [some b10, some b6, some b1] Z w') v10 r10.Digits ∧ True) (fun _ => []), .det (Value.agg #[(Value.bool b.Negative), b_v])]) mixed rfl rfl rfl (fun _ => rfl) (fun _ => rfl) ?_ ?_
 ·
  intro W1 _
  exact ⟨fun v Z Z' w w' hΦ hz _ _ hs => by obtain ⟨v10, rfl, k10, -⟩ := hΦ; exact ⟨v10, rfl, (k10.mono (Zv.stay hz hs)), trivial⟩, trivial⟩
 ·
  intro w11 hE10
  have hL11 := hL10.ext hE10
  have K11 := ke hL10 hE10
  refine DrH.de (fun _ hE11 => GOp.op (OpY.ldBoxA (vs := [(Value.bool a.Negative), a_v]) Tryd.underlying24 rfl ti24 rfl ((hL11.ext hE11).at 2 rfl rfl) rfl rfl (er rfl))) ?_
  refine DrH.rel ?_ ?_
  ·
   rintro w13 Z15 hE12 hZ11 ⟨-⟩
   have K12 := ke hL11 hE12
   refine GOp.op (OpY.call en39 rfl rfl (bNormal_w N a a_v _ Any ((((((a_h.mono (K4 S)).mono (K9 S)).mono (K10 S)).mono (K11 S)).mono (K12 S)).mono vw_any) r10 q10) ?_)
   rintro _ w14 hE13 ⟨v10, rfl, k10, -⟩
   exact Made.ext hE13 hZ11 NewOwn.nil (fun _ h => h) ⟨v10, rfl, (k10.mono Zv.made), trivial⟩
  intro z1
  refine DrH.de (fun _ hE14 => GOp.op (OpY.ldBoxA (vs := [(Value.bool b.Negative), b_v]) Tryd.underlying24 rfl ti24 rfl ((hL11.ext hE14).at 1 rfl rfl) rfl rfl (er rfl))) ?_
  refine DrH.fin0 ?_
  rintro w16 Z17 hE15 hZ13 ⟨⟨⟨v10, rfl, k10, -⟩, hB1⟩, -⟩ ap10
  have hB10 : ∀ b, some b ∈ ([] : List (Option Nat)) → w11.heap.size ≤ b ∧ ¬ Z17 b := by
   intro b hb; cases hb
  replace k10 := k10.mono (Zv.fin hL11 hZ13 hB10)
  have hL14 := hL11.ext hE15
  have K13 := ke hL11 hE15
  obtain ⟨r11, q11, h⟩ := bind_some h
  have f10 := (((((b_h.mono (K4 S)).mono (K9 S)).mono (K10 S)).mono (K11 S)).mono (K13 S))
  refine Rl.op (OpY.call en39 rfl rfl (bNormal_w N b b_v _ Any (f10.mono vw_any) r11 q11) ?_)
  rintro _ w17 hE16 ⟨v11, rfl, k11, -⟩
  replace k11 := k11.mono (Hv.freshO (S := None) hL14 [])
  have hL15 := hL14.ext hE16
  have K14 := ke hL14 hE16
  have f11 := (k10.mono (K14 None))
  refine Rl.op0 (OpY.store (vs := [(Value.bool r10.Negative), v10]) ti24 rfl rfl rfl rfl (ones_cons rfl (ones_cons f11.one ones_nil)) hL15 2 rfl rfl (Nat.le_of_ble_eq_true rfl) ?_)
  intro w18 (hL16 : Go.X.Loc [] [] w w18 [some b10, some b6, some b1] [Cont.cells [(Value.bool false), (Value.slice none 0 0)], Cont.cells [(Value.bool b.Negative), b_v], Cont.cells [(Value.bool r10.Negative), v10]]) hS12
  have K15 := ks w hS12
  have f12 := (k11.mono (K15 None))
  refine Rl.op0 (OpY.store (vs := [(Value.bool r11.Negative), v11]) ti24 rfl rfl rfl rfl (ones_cons rfl (ones_cons f12.one ones_nil)) hL16 1 rfl rfl (Nat.le_of_ble_eq_true rfl) ?_)
  intro w19 (hL17 : Go.X.Loc [] [] w w19 [some b10, some b6, some b1] [Cont.cells [(Value.bool false), (Value.slice none 0 0)], Cont.cells [(Value.bool r11.Negative), v11], Cont.cells [(Value.bool r10.Negative), v10]]) hS13
  have K16 := ks w hS13
  refine Rl.nil (Swp.seq (Swp.seq (Swp.region rfl (Rl.op (OpY.fieldAddr (q := 0) Tryd.underlying24 rfl ti4 rfl rfl rfl ?_)))))
  refine Rl.op (OpY.ldBox1 (v := (Value.bool r10.Negative)) Tryd.underlying4 rfl rfl (hL17.at 2 rfl rfl) rfl ?_)
  refine Rl.op (OpY.fieldAddr (q := 0) Tryd.underlying24 rfl ti4 rfl rfl rfl ?_)
  refine Rl.op (OpY.ldBox1 (v := (Value.bool r11.Negative)) Tryd.underlying4 rfl rfl (hL17.at 1 rfl rfl) rfl ?_)
  refine Rl.op (OpY.eqlBool (x := r10.Negative) (y := r11.Negative) Tryd.underlying4 rfl rfl ?_)
  refine Rl.nil ?_
  refine Swp.cond_b (r10.Negative == r11.Negative) rfl (fun hc10 => ?_) (fun hc10 => ?_)
  ·
   replace h := ite_t hc10 h
   refine Swp.seq ?_
   refine Swp.drawP [6, 7, 8] [0, 1, 2, 3, 4, 5] [(14, (Value.pointer (some ⟨b1, 0, none⟩))), (15, (Value.bool r10.Negative)), (16, (Value.pointer (some ⟨b1, 1, none⟩))), (17, v10), (18, (Value.pointer (some ⟨b6, 1, none⟩))), (19, v11)] mixed rfl rfl rfl rfl ?_
   intro w20 hE17
   have hL18 := hL17.ext hE17
   have K17 := ke hL17 hE17
   refine ⟨?_, ?_⟩
   ·
    refine LateP.cons (i := 0) rfl rfl (GOp.op (OpY.fieldAddr (q := 0) Tryd.underlying24 rfl ti4 rfl rfl rfl ⟨rfl, rfl⟩)) ?_
    refine LateP.cons (i := 1) rfl rfl (GOp.op (OpY.ldBox1 (v := (Value.bool r10.Negative)) Tryd.underlying4 rfl rfl (hL18.at 2 rfl rfl) rfl ⟨rfl, rfl⟩)) ?_
    refine LateP.cons (i := 2) rfl rfl (GOp.op (OpY.fieldAddr (q := 1) Tryd.underlying24 rfl ti22 rfl rfl rfl ⟨rfl, rfl⟩)) ?_
    refine LateP.cons (i := 3) rfl rfl (GOp.op (OpY.ldBox1 (v := v10) Tryd.underlying22 rfl rfl (hL18.at 2 rfl rfl) rfl ⟨rfl, rfl⟩)) ?_
    refine LateP.cons (i := 4) rfl rfl (GOp.op (OpY.fieldAddr (q := 1) Tryd.underlying24 rfl ti22 rfl rfl rfl ⟨rfl, rfl⟩)) ?_
    refine LateP.cons (i := 5) rfl rfl (GOp.op (OpY.ldBox1 (v := v11) Tryd.underlying22 rfl rfl (hL18.at 1 rfl rfl) rfl ⟨rfl, rfl⟩)) ?_
    exact LateP.nil
   obtain ⟨r12, q12, h⟩ := bind_some h
   have f13 := (((f11.mono (K15 None)).mono (K16 None)).mono (K17 None))
   have f14 := ((f12.mono (K16 None)).mono (K17 None))
   refine RlL.op (OpY.call en46 rfl rfl (bplus_w N r10.Digits r11.Digits v10 v11 _ Any (f13.mono vw_any) (f14.mono vw_any) r12 q12) ?_)
   rintro _ w21 hE18 ⟨ob10, cap10, cs10, sp10, rfl, hN10, hE19, hc11, -⟩
   replace hE19 := hE19.mono (Hv.freshO (S := None) hL18 [ob10])
   have hp10 := hL18.adoptL hE18 hN10
   have hL19 := hp10.1
   refine ⟨?_, ?_⟩
   ·
    refine LateP.cons (i := 0) rfl rfl (GOp.op (OpY.fieldAddr (q := 0) Tryd.underlying24 rfl ti4 rfl rfl rfl ⟨rfl, rfl⟩)) ?_
    refine LateP.cons (i := 1) rfl rfl (GOp.op (OpY.ldBox1 (v := (Value.bool r10.Negative)) Tryd.underlying4 rfl rfl (hL19.at 3 rfl rfl) rfl ⟨rfl, rfl⟩)) ?_
    refine LateP.cons (i := 2) rfl rfl (GOp.op (OpY.fieldAddr (q := 1) Tryd.underlying24 rfl ti22 rfl rfl rfl ⟨rfl, rfl⟩)) ?_
    refine LateP.cons (i := 4) rfl rfl (GOp.op (OpY.fieldAddr (q := 1) Tryd.underlying24 rfl ti22 rfl rfl rfl ⟨rfl, rfl⟩)) ?_
    exact LateP.nil
   obtain ⟨r13, q13, h⟩ := bind_some h
   refine RlL.op (OpY.call en48 rfl rfl (bnormalO_w N r10.Negative r12 (osv ob10 0 (List.length r12) cap10) _ Any (own_row_any (pre := []) (o := 0) (n := (List.length r12)) (cap := cap10) (hL19.at 0 rfl rfl) hE19 vw_any rfl rfl rfl hc11) r13 q13) ?_)
   rintro _ w22 hE20 ⟨ob11, cap11, cs11, sp11, rfl, hN11, hE21, hc12, -⟩
   replace hE21 := hE21.mono (Hv.freshO (S := None) hL19 [ob11])
   have hp11 := hL19.adoptL hE20 hN11
   have hL20 := hp11.1
   refine ⟨?_, ?_⟩
   ·
    refine LateP.cons (i := 0) rfl rfl (GOp.op (OpY.fieldAddr (q := 0) Tryd.underlying24 rfl ti4 rfl rfl rfl ⟨rfl, rfl⟩)) ?_
    refine LateP.cons (i := 2) rfl rfl (GOp.op (OpY.fieldAddr (q := 1) Tryd.underlying24 rfl ti22 rfl rfl rfl ⟨rfl, rfl⟩)) ?_
    refine LateP.cons (i := 4) rfl rfl (GOp.op (OpY.fieldAddr (q := 1) Tryd.underlying24 rfl ti22 rfl rfl rfl ⟨rfl, rfl⟩)) ?_
    exact LateP.nil
   refine RlL.op0 (OpY.store (vs := [(Value.bool r13.Negative), (osv ob11 0 (List.length r13.Digits) cap11)]) ti24 rfl rfl rfl rfl (ones_cons rfl (ones_cons (osv_one _ _ _ _) ones_nil)) hL20 2 rfl rfl (Nat.le_of_ble_eq_true rfl) ?_)
   intro w23 (hL21 : Go.X.Loc [] [] w w23 [ob11, ob10, some b10, some b6, some b1] [Cont.cells ([] ++ (cs11 ++ sp11)), Cont.cells ([] ++ (cs10 ++ sp10)), Cont.cells [(Value.bool r13.Negative), (osv ob11 0 (List.length r13.Digits) cap11)], Cont.cells [(Value.bool r11.Negative), v11], Cont.cells [(Value.bool r10.Negative), v10]]) hS14
   have K18 := ks w hS14
   refine ⟨?_, ?_⟩
   ·
    exact LateP.nil
   refine RlL.fin ?_
   refine Swp.ret ?_
   obtain rfl := Option.some.inj h
   refine ⟨[(Value.agg #[(Value.bool r13.Negative), (osv ob11 0 (List.length r13.Digits) cap11)])], ⟨⟨⟨b10, 0, none⟩, rfl, res_boxA Tryd.underlying24 rfl ti24 (hL21.at 2 rfl rfl) rfl⟩, trivial⟩, ⟨_, rfl, hL21.done, ?_⟩⟩
   have f15 := (hE21.mono (K18 None))
   exact ⟨ob11, cap11, cs11, sp11, rfl, (hL21.newOwn [0] rfl rfl rfl), (f15.mono (Hv.pick [0] rfl)), hc12, trivial⟩
  ·
   replace h := ite_f hc10 h
   refine Swp.skip (Swp.seq (Swp.seq (Swp.region rfl (Rl.op (OpY.fieldAddr (q := 1) Tryd.underlying24 rfl ti22 rfl rfl rfl ?_)))))
   refine Rl.op (OpY.ldBox1 (v := v10) Tryd.underlying22 rfl rfl (hL17.at 2 rfl rfl) rfl ?_)
   refine Rl.op (OpY.fieldAddr (q := 1) Tryd.underlying24 rfl ti22 rfl rfl rfl ?_)
   refine Rl.op (OpY.ldBox1 (v := v11) Tryd.underlying22 rfl rfl (hL17.at 1 rfl rfl) rfl ?_)
   obtain ⟨r14, q14, h⟩ := bind_some h
   have f16 := ((f11.mono (K15 None)).mono (K16 None))
   have f17 := (f12.mono (K16 None))
   refine Rl.op (OpY.call en64 rfl rfl (bcompare_w N r10.Digits r11.Digits v10 v11 _ Any (f16.mono vw_any) (f17.mono vw_any) r14 q14) ?_)
   rintro _ w24 hE22 ⟨rfl, -⟩
   have hL22 := hL17.ext hE22
   have K19 := ke hL17 hE22
   refine Rl.op (OpY.lss (x := r14) (y := 0) ((r14 : Int) < 0) rfl rfl Iff.rfl ?_)
   refine Rl.nil ?_
   refine Swp.cond_d ((r14 : Int) < 0) rfl (fun hc13 => ?_) (fun hc13 => ?_)
   ·
    replace h := ite_t hc13 h
    refine Swp.seq ?_
    refine Swp.drawP [6, 7, 8] [0, 1, 2, 3, 4, 5] [(28, (Value.pointer (some ⟨b6, 0, none⟩))), (29, (Value.bool r11.Negative)), (30, (Value.pointer (some ⟨b6, 1, none⟩))), (31, v11), (32, (Value.pointer (some ⟨b1, 1, none⟩))), (33, v10)] mixed rfl rfl rfl rfl ?_
    intro w25 hE23
    have hL23 := hL22.ext hE23
    have K20 := ke hL22 hE23
    refine ⟨?_, ?_⟩
    ·
     refine LateP.cons (i := 0) rfl rfl (GOp.op (OpY.fieldAddr (q := 0) Tryd.underlying24 rfl ti4 rfl rfl rfl ⟨rfl, rfl⟩)) ?_
     refine LateP.cons (i := 1) rfl rfl (GOp.op (OpY.ldBox1 (v := (Value.bool r11.Negative)) Tryd.underlying4 rfl rfl (hL23.at 1 rfl rfl) rfl ⟨rfl, rfl⟩)) ?_
     refine LateP.cons (i := 2) rfl rfl (GOp.op (OpY.fieldAddr (q := 1) Tryd.underlying24 rfl ti22 rfl rfl rfl ⟨rfl, rfl⟩)) ?_
     refine LateP.cons (i := 3) rfl rfl (GOp.op (OpY.ldBox1 (v := v11) Tryd.underlying22 rfl rfl (hL23.at 1 rfl rfl) rfl ⟨rfl, rfl⟩)) ?_
     refine LateP.cons (i := 4) rfl rfl (GOp.op (OpY.fieldAddr (q := 1) Tryd.underlying24 rfl ti22 rfl rfl rfl ⟨rfl, rfl⟩)) ?_
     refine LateP.cons (i := 5) rfl rfl (GOp.op (OpY.ldBox1 (v := v10) Tryd.underlying22 rfl rfl (hL23.at 2 rfl rfl) rfl ⟨rfl, rfl⟩)) ?_
     exact LateP.nil
    obtain ⟨r15, q15, h⟩ := bind_some h
    have f18 := ((f17.mono (K19 None)).mono (K20 None))
    have f19 := ((f16.mono (K19 None)).mono (K20 None))
    refine RlL.op (OpY.call en47 rfl rfl (bminus_w N r11.Digits r10.Digits v11 v10 _ Any (f18.mono vw_any) (f19.mono vw_any) r15 q15) ?_)
    rintro _ w26 hE24 ⟨ob12, cap12, cs12, sp12, rfl, hN12, hE25, hc14, -⟩
    replace hE25 := hE25.mono (Hv.freshO (S := None) hL23 [ob12])
    have hp12 := hL23.adoptL hE24 hN12
    have hL24 := hp12.1
    refine ⟨?_, ?_⟩
    ·
     refine LateP.cons (i := 0) rfl rfl (GOp.op (OpY.fieldAddr (q := 0) Tryd.underlying24 rfl ti4 rfl rfl rfl ⟨rfl, rfl⟩)) ?_
     refine LateP.cons (i := 1) rfl rfl (GOp.op (OpY.ldBox1 (v := (Value.bool r11.Negative)) Tryd.underlying4 rfl rfl (hL24.at 2 rfl rfl) rfl ⟨rfl, rfl⟩)) ?_
     refine LateP.cons (i := 2) rfl rfl (GOp.op (OpY.fieldAddr (q := 1) Tryd.underlying24 rfl ti22 rfl rfl rfl ⟨rfl, rfl⟩)) ?_
     refine LateP.cons (i := 4) rfl rfl (GOp.op (OpY.fieldAddr (q := 1) Tryd.underlying24 rfl ti22 rfl rfl rfl ⟨rfl, rfl⟩)) ?_
     exact LateP.nil
    obtain ⟨r16, q16, h⟩ := bind_some h
    refine RlL.op (OpY.call en48 rfl rfl (bnormalO_w N r11.Negative r15 (osv ob12 0 (List.length r15) cap12) _ Any (own_row_any (pre := []) (o := 0) (n := (List.length r15)) (cap := cap12) (hL24.at 0 rfl rfl) hE25 vw_any rfl rfl rfl hc14) r16 q16) ?_)
    rintro _ w27 hE26 ⟨ob13, cap13, cs13, sp13, rfl, hN13, hE27, hc15, -⟩
    replace hE27 := hE27.mono (Hv.freshO (S := None) hL24 [ob13])
    have hp13 := hL24.adoptL hE26 hN13
    have hL25 := hp13.1
    refine ⟨?_, ?_⟩
    ·
     refine LateP.cons (i := 0) rfl rfl (GOp.op (OpY.fieldAddr (q := 0) Tryd.underlying24 rfl ti4 rfl rfl rfl ⟨rfl, rfl⟩)) ?_
     refine LateP.cons (i := 2) rfl rfl (GOp.op (OpY.fieldAddr (q := 1) Tryd.underlying24 rfl ti22 rfl rfl rfl ⟨rfl, rfl⟩)) ?_
     refine LateP.cons (i := 4) rfl rfl (GOp.op (OpY.fieldAddr (q := 1) Tryd.underlying24 rfl ti22 rfl rfl rfl ⟨rfl, rfl⟩)) ?_
     exact LateP.nil
    refine RlL.op0 (OpY.store (vs := [(Value.bool r16.Negative), (osv ob13 0 (List.length r16.Digits) cap13)]) ti24 rfl rfl rfl rfl (ones_cons rfl (ones_cons (osv_one ob13 0 (List.length r16.Digits) cap13) ones_nil)) hL25 2 rfl rfl (Nat.le_of_ble_eq_true rfl) ?_)
    intro w28 (hL26 : Go.X.Loc [] [] w w28 [ob13, ob12, some b10, some b6, some b1] [Cont.cells ([] ++ (cs13 ++ sp13)), Cont.cells ([] ++ (cs12 ++ sp12)), Cont.cells [(Value.bool r16.Negative), (osv ob13 0 (List.length r16.Digits) cap13)], Cont.cells [(Value.bool r11.Negative), v11], Cont.cells [(Value.bool r10.Negative), v10]]) hS15
    have K21 := ks w hS15
    refine ⟨?_, ?_⟩
    ·
     exact LateP.nil
    refine RlL.fin ?_
    refine Swp.ret ?_
    obtain rfl := Option.some.inj h
    refine ⟨[(Value.agg #[(Value.bool r16.Negative), (osv ob13 0 (List.length r16.Digits) cap13)])], ⟨⟨⟨b10, 0, none⟩, rfl, res_boxA Tryd.underlying24 rfl ti24 (hL26.at 2 rfl rfl) rfl⟩, trivial⟩, ⟨_, rfl, hL26.done, ?_⟩⟩
    have f20 := (hE27.mono (K21 None))
    exact ⟨ob13, cap13, cs13, sp13, rfl, (hL26.newOwn [0] rfl rfl rfl), (f20.mono (Hv.pick [0] rfl)), hc15, trivial⟩
   ·
    replace h := ite_f hc13 h
    refine Swp.skip (Swp.seq ?_)
    refine Swp.drawP [6, 7, 8] [0, 1, 2, 3, 4, 5] [(36, (Value.pointer (some ⟨b1, 0, none⟩))), (37, (Value.bool r10.Negative)), (38, (Value.pointer (some ⟨b1, 1, none⟩))), (39, v10), (40, (Value.pointer (some ⟨b6, 1, none⟩))), (41, v11)] mixed rfl rfl rfl rfl ?_
    intro w29 hE28
    have hL27 := hL22.ext hE28
    have K22 := ke hL22 hE28
    refine ⟨?_, ?_⟩
    ·
     refine LateP.cons (i := 0) rfl rfl (GOp.op (OpY.fieldAddr (q := 0) Tryd.underlying24 rfl ti4 rfl rfl rfl ⟨rfl, rfl⟩)) ?_
     refine LateP.cons (i := 1) rfl rfl (GOp.op (OpY.ldBox1 (v := (Value.bool r10.Negative)) Tryd.underlying4 rfl rfl (hL27.at 2 rfl rfl) rfl ⟨rfl, rfl⟩)) ?_
     refine LateP.cons (i := 2) rfl rfl (GOp.op (OpY.fieldAddr (q := 1) Tryd.underlying24 rfl ti22 rfl rfl rfl ⟨rfl, rfl⟩)) ?_
     refine LateP.cons (i := 3) rfl rfl (GOp.op (OpY.ldBox1 (v := v10) Tryd.underlying22 rfl rfl (hL27.at 2 rfl rfl) rfl ⟨rfl, rfl⟩)) ?_
     refine LateP.cons (i := 4) rfl rfl (GOp.op (OpY.fieldAddr (q := 1) Tryd.underlying24 rfl ti22 rfl rfl rfl ⟨rfl, rfl⟩)) ?_
     refine LateP.cons (i := 5) rfl rfl (GOp.op (OpY.ldBox1 (v := v11) Tryd.underlying22 rfl rfl (hL27.at 1 rfl rfl) rfl ⟨rfl, rfl⟩)) ?_
     exact LateP.nil
    obtain ⟨r17, q17, h⟩ := bind_some h
    have f21 := ((f16.mono (K19 None)).mono (K22 None))
    have f22 := ((f17.mono (K19 None)).mono (K22 None))
    refine RlL.op (OpY.call en47 rfl rfl (bminus_w N r10.Digits r11.Digits v10 v11 _ Any (f21.mono vw_any) (f22.mono vw_any) r17 q17) ?_)
    rintro _ w30 hE29 ⟨ob14, cap14, cs14, sp14, rfl, hN14, hE30, hc16, -⟩
    replace hE30 := hE30.mono (Hv.freshO (S := None) hL27 [ob14])
    have hp14 := hL27.adoptL hE29 hN14
    have hL28 := hp14.1
    refine ⟨?_, ?_⟩
    ·
     refine LateP.cons (i := 0) rfl rfl (GOp.op (OpY.fieldAddr (q := 0) Tryd.underlying24 rfl ti4 rfl rfl rfl ⟨rfl, rfl⟩)) ?_
     refine LateP.cons (i := 1) rfl rfl (GOp.op (OpY.ldBox1 (v := (Value.bool r10.Negative)) Tryd.underlying4 rfl rfl (hL28.at 3 rfl rfl) rfl ⟨rfl, rfl⟩)) ?_
     refine LateP.cons (i := 2) rfl rfl (GOp.op (OpY.fieldAddr (q := 1) Tryd.underlying24 rfl ti22 rfl rfl rfl ⟨rfl, rfl⟩)) ?_
     refine LateP.cons (i := 4) rfl rfl (GOp.op (OpY.fieldAddr (q := 1) Tryd.underlying24 rfl ti22 rfl rfl rfl ⟨rfl, rfl⟩)) ?_
     exact LateP.nil
    obtain ⟨r18, q18, h⟩ := bind_some h
    refine RlL.op (OpY.call en48 rfl rfl (bnormalO_w N r10.Negative r17 (osv ob14 0 (List.length r17) cap14) _ Any (own_row_any (pre := []) (o := 0) (n := (List.length r17)) (cap := cap14) (hL28.at 0 rfl rfl) hE30 vw_any rfl rfl rfl hc16) r18 q18) ?_)
    rintro _ w31 hE31 ⟨ob15, cap15, cs15, sp15, rfl, hN15, hE32, hc17, -⟩
    replace hE32 := hE32.mono (Hv.freshO (S := None) hL28 [ob15])
    have hp15 := hL28.adoptL hE31 hN15
    have hL29 := hp15.1
    refine ⟨?_, ?_⟩
    ·
     refine LateP.cons (i := 0) rfl rfl (GOp.op (OpY.fieldAddr (q := 0) Tryd.underlying24 rfl ti4 rfl rfl rfl ⟨rfl, rfl⟩)) ?_
     refine LateP.cons (i := 2) rfl rfl (GOp.op (OpY.fieldAddr (q := 1) Tryd.underlying24 rfl ti22 rfl rfl rfl ⟨rfl, rfl⟩)) ?_
     refine LateP.cons (i := 4) rfl rfl (GOp.op (OpY.fieldAddr (q := 1) Tryd.underlying24 rfl ti22 rfl rfl rfl ⟨rfl, rfl⟩)) ?_
     exact LateP.nil
    refine RlL.op0 (OpY.store (vs := [(Value.bool r18.Negative), (osv ob15 0 (List.length r18.Digits) cap15)]) ti24 rfl rfl rfl rfl (ones_cons rfl (ones_cons (osv_one ob15 0 (List.length r18.Digits) cap15) ones_nil)) hL29 2 rfl rfl (Nat.le_of_ble_eq_true rfl) ?_)
    intro w32 (hL30 : Go.X.Loc [] [] w w32 [ob15, ob14, some b10, some b6, some b1] [Cont.cells ([] ++ (cs15 ++ sp15)), Cont.cells ([] ++ (cs14 ++ sp14)), Cont.cells [(Value.bool r18.Negative), (osv ob15 0 (List.length r18.Digits) cap15)], Cont.cells [(Value.bool r11.Negative), v11], Cont.cells [(Value.bool r10.Negative), v10]]) hS16
    have K23 := ks w hS16
    refine ⟨?_, ?_⟩
    ·
     exact LateP.nil
    refine RlL.fin ?_
    refine Swp.ret ?_
    obtain rfl := Option.some.inj h
    refine ⟨[(Value.agg #[(Value.bool r18.Negative), (osv ob15 0 (List.length r18.Digits) cap15)])], ⟨⟨⟨b10, 0, none⟩, rfl, res_boxA Tryd.underlying24 rfl ti24 (hL30.at 2 rfl rfl) rfl⟩, trivial⟩, ⟨_, rfl, hL30.done, ?_⟩⟩
    have f23 := (hE32.mono (K23 None))
    exact ⟨ob15, cap15, cs15, sp15, rfl, (hL30.newOwn [0] rfl rfl rfl), (f23.mono (Hv.pick [0] rfl)), hc17, trivial⟩
theorem bSubO_w (N : Nat) (a : Big) (b : Big) (a_v : Value) (b_v : Value) (w : World) (S : Nat → Prop) (a_h : Rs (rInt .u32) (Hv w.heap.size S [] w) a_v a.Digits) (b_h : Rs (rInt .u32) (Hv w.heap.size S [] w) b_v b.Digits) (r : Big) (h : bSubO N a b = some r) :
  Calls Tryd.prog 34 #[(Value.agg #[(Value.bool a.Negative), a_v]), (Value.agg #[(Value.bool b.Negative), b_v])] w (Ret w (fun v w' => ∃ (ob0_0 : Option Nat) (cap0_0 : Nat) (cs0_0 : List Value) (sp0_0 : List Value), (Value.agg #[(Value.bool r.Negative), (osv ob0_0 0 (List.length r.Digits) cap0_0)]) = v ∧ NewOwn w w' [ob0_0] [.cells ([] ++ (cs0_0 ++ sp0_0))] ∧ Els (rInt .u32) (Hv w.heap.size None [ob0_0] w') cs0_0 r.Digits ∧ (cs0_0 ++ sp0_0).length = cap0_0 * (rInt .u32).sz ∧ True)) := by
 unfold bSubO at h
 have hL : Go.X.Loc [] [] w w [] [] := Go.X.Loc.begin0 w
 refine calls_of (l := [(Value.agg #[(Value.bool a.Negative), a_v]), (Value.agg #[(Value.bool b.Negative), b_v])]) (rl := [.cell 4 24]) (n := 9) Tryd.func34 rfl rfl rfl (Nat.le_of_ble_eq_true rfl) ?_
 refine Swp.seq (Swp.region rfl (Rl.op (OpY.box (cs := [(Value.bool a.Negative), a_v]) rfl rfl hL ?_)))
 intro b1 w2 hL3 hS5
 have K4 := ks w hS5
 refine Rl.op (OpY.box (cs := [(Value.bool b.Negative), b_v]) rfl rfl hL3 ?_)
 intro b6 w7 hL8 hS10
 have K9 := ks w hS10
 refine Rl.op (OpY.alloc (cs := [(Value.bool false), (Value.slice none 0 0)]) ti24 rfl hL8 ?_)
 intro b10 w10 hL10 hS11
 have K10 := ks w hS11
 refine Rl.nil (Swp.seq ?_)
 refine Swp.drawP [2, 3, 4] [0, 1] [(5, (Value.agg #[(Value.bool a.Negative), a_v])), (6, (Value.agg #[(Value.bool b.Negative), b_v]))] mixed rfl rfl rfl rfl ?_
 intro w11 hE10
 have hL11 := hL10.ext hE10
 have K11 := ke hL10 hE10
 refine ⟨?_, ?_⟩
 ·
  refine LateP.cons (i := 0) rfl rfl (GOp.op (OpY.ldBoxA (vs := [(Value.bool a.Negative), a_v]) Tryd.underlying24 rfl ti24 rfl (hL11.at 2 rfl rfl) rfl rfl ⟨rfl, rfl⟩)) ?_
  refine LateP.cons (i := 1) rfl rfl (GOp.op (OpY.ldBoxA (vs := [(Value.bool b.Negative), b_v]) Tryd.underlying24 rfl ti24 rfl (hL11.at 1 rfl rfl) rfl rfl ⟨rfl, rfl⟩)) ?_
  exact LateP.nil
 obtain ⟨r10, q10, h⟩ := bind_some h
 have f10 := ((((b_h.mono (K4 S)).mono (K9 S)).mono (K10 S)).mono (K11 S))
 refine RlL.op (OpY.call en41 rfl rfl (bNeg_w N b b_v _ Any (f10.mono vw_any) r10 q10) ?_)
 rintro _ w12 hE11 ⟨v10, rfl, k10, -⟩
 replace k10 := k10.mono (Hv.freshO (S := None) hL11 [])
 have hL12 := hL11.ext hE11
 have K12 := ke hL11 hE11
 refine ⟨?_, ?_⟩
 ·
  refine LateP.cons (i := 0) rfl rfl (GOp.op (OpY.ldBoxA (vs := [(Value.bool a.Negative), a_v]) Tryd.underlying24 rfl ti24 rfl (hL12.at 2 rfl rfl) rfl rfl ⟨rfl, rfl⟩)) ?_
  exact LateP.nil
 obtain ⟨r11, q11, h⟩ := bind_some h
 have f11 := (((((a_h.mono (K4 S)).mono (K9 S)).mono (K10 S)).mono (K11 S)).mono (K12 S))
 refine RlL.op (OpY.call en29 rfl rfl (bAddO_w N a r10 a_v v10 _ Any (f11.mono vw_any) (k10.mono vw_any) r11 q11) ?_)
 rintro _ w13 hE12 ⟨ob10, cap10, cs10, sp10, rfl, hN10, hE13, hc10, -⟩
 replace hE13 := hE13.mono (Hv.freshO (S := None) hL12 [ob10])
 have hp10 := hL12.adoptL hE12 hN10
 have hL13 := hp10.1
 refine ⟨?_, ?_⟩
 ·
  exact LateP.nil
 refine RlL.op0 (OpY.store (vs := [(Value.bool r11.Negative), (osv ob10 0 (List.length r11.Digits) cap10)]) ti24 rfl rfl rfl rfl (ones_cons rfl (ones_cons (osv_one _ _ _ _) ones_nil)) hL13 1 rfl rfl (Nat.le_of_ble_eq_true rfl) ?_)
 intro w14 (hL14 : Go.X.Loc [] [] w w14 [ob10, some b10, some b6, some b1] [Cont.cells ([] ++ (cs10 ++ sp10)), Cont.cells [(Value.bool r11.Negative), (osv ob10 0 (List.length r11.Digits) cap10)], Cont.cells [(Value.bool b.Negative), b_v], Cont.cells [(Value.bool a.Negative), a_v]]) hS12
 have K13 := ks w hS12
 refine ⟨?_, ?_⟩
 ·
  exact LateP.nil
 refine RlL.fin ?_
 refine Swp.ret ?_
 obtain rfl := Option.some.inj h
 refine ⟨[(Value.agg #[(Value.bool r11.Negative), (osv ob10 0 (List.length r11.Digits) cap10)])], ⟨⟨⟨b10, 0, none⟩, rfl, res_boxA Tryd.underlying24 rfl ti24 (hL14.at 1 rfl rfl) rfl⟩, trivial⟩, ⟨_, rfl, hL14.done, ?_⟩⟩
 have f12 := (hE13.mono (K13 None))
 exact ⟨ob10, cap10, cs10, sp10, rfl, (hL14.newOwn [0] rfl rfl rfl), (f12.mono (Hv.pick [0] rfl)), hc10, trivial⟩
theorem bMulO_w (N : Nat) (a : Big) (b : Big) (a_v : Value) (b_v : Value) (w : World) (S : Nat → Prop) (a_h : Rs (rInt .u32) (Hv w.heap.size S [] w) a_v a.Digits) (b_h : Rs (rInt .u32) (Hv w.heap.size S [] w) b_v b.Digits) (r : Big) (h : bMulO N a b = some r) :
  Calls Tryd.prog 24 #[(Value.agg #[(Value.bool a.Negative), a_v]), (Value.agg #[(Value.bool b.Negative), b_v])] w (Ret w (fun v w' => ∃ (ob0_0 : Option Nat) (cap0_0 : Nat) (cs0_0 : List Value) (sp0_0 : List Value), (Value.agg #[(Value.bool r.Negative), (osv ob0_0 0 (List.length r.Digits) cap0_0)]) = v ∧ NewOwn w w' [ob0_0] [.cells ([] ++ (cs0_0 ++ sp0_0))] ∧ Els (rInt .u32) (Hv w.heap.size None [ob0_0] w') cs0_0 r.Digits ∧ (cs0_0 ++ sp0_0).length = cap0_0 * (rInt .u32).sz ∧ True)) := by
 unfold bMulO at h
 have hL : Go.X.Loc [] [] w w [] [] := Go.X.Loc.begin0 w
 refine calls_of (l := [(Value.agg #[(Value.bool a.Negative), a_v]), (Value.agg #[(Value.bool b.Negative), b_v])]) (rl := [.cell 4 24]) (n := 16) Tryd.func24 rfl rfl rfl (Nat.le_of_ble_eq_true rfl) ?_
 refine Swp.seq (Swp.region rfl (Rl.op (OpY.box (cs := [(Value.bool a.Negative), a_v]) rfl rfl hL ?_)))
 intro b1 w2 hL3 hS5
 have K4 := ks w hS5
 refine Rl.op (OpY.box (cs := [(Value.bool b.Negative), b_v]) rfl rfl hL3 ?_)
 intro b6 w7 hL8 hS10
 have K9 := ks w hS10
 refine Rl.op (OpY.alloc (cs := [(Value.bool false), (Value.slice none 0 0)]) ti24 rfl hL8 ?_)
 intro b10 w10 hL10 hS11
 have K10 := ks w hS11
 refine Rl.nil (Swp.seq ?_)
 refine Swp.drawP [9, 10, 11] [0, 1, 2, 3, 4, 5, 6, 7, 8] [(5, (Value.pointer (some ⟨b1, 0, none⟩))), (6, (Value.bool a.Negative)), (7, (Value.pointer (some ⟨b6, 0, none⟩))), (8, (Value.bool b.Negative)), (9, (Value.bool (!(a.Negative == b.Negative)))), (10, (Value.pointer (some ⟨b1, 1, none⟩))), (11, a_v), (12, (Value.pointer (some ⟨b6, 1, none⟩))), (13, b_v)] mixed rfl rfl rfl rfl ?_
 intro w11 hE10
 have hL11 := hL10.ext hE10
 have K11 := ke hL10 hE10
 refine ⟨?_, ?_⟩
 ·
  refine LateP.cons (i := 0) rfl rfl (GOp.op (OpY.fieldAddr (q := 0) Tryd.underlying24 rfl ti4 rfl rfl rfl ⟨rfl, rfl⟩)) ?_
  refine LateP.cons (i := 1) rfl rfl (GOp.op (OpY.ldBox1 (v := (Value.bool a.Negative)) Tryd.underlying4 rfl rfl (hL11.at 2 rfl rfl) rfl ⟨rfl, rfl⟩)) ?_
  refine LateP.cons (i := 2) rfl rfl (GOp.op (OpY.fieldAddr (q := 0) Tryd.underlying24 rfl ti4 rfl rfl rfl ⟨rfl, rfl⟩)) ?_
  refine LateP.cons (i := 3) rfl rfl (GOp.op (OpY.ldBox1 (v := (Value.bool b.Negative)) Tryd.underlying4 rfl rfl (hL11.at 1 rfl rfl) rfl ⟨rfl, rfl⟩)) ?_
  refine LateP.cons (i := 4) rfl rfl (GOp.op (OpY.neqBool (x := a.Negative) (y := b.Negative) Tryd.underlying4 rfl rfl ⟨rfl, rfl⟩)) ?_
  refine LateP.cons (i := 5) rfl rfl (GOp.op (OpY.fieldAddr (q := 1) Tryd.underlying24 rfl ti22 rfl rfl rfl ⟨rfl, rfl⟩)) ?_
  refine LateP.cons (i := 6) rfl rfl (GOp.op (OpY.ldBox1 (v := a_v) Tryd.underlying22 rfl rfl (hL11.at 2 rfl rfl) rfl ⟨rfl, rfl⟩)) ?_
  refine LateP.cons (i := 7) rfl rfl (GOp.op (OpY.fieldAddr (q := 1) Tryd.underlying24 rfl ti22 rfl rfl rfl ⟨rfl, rfl⟩)) ?_
  refine LateP.cons (i := 8) rfl rfl (GOp.op (OpY.ldBox1 (v := b_v) Tryd.underlying22 rfl rfl (hL11.at 1 rfl rfl) rfl ⟨rfl, rfl⟩)) ?_
  exact LateP.nil
 obtain ⟨r10, q10, h⟩ := bind_some h
 have f10 := ((((a_h.mono (K4 S)).mono (K9 S)).mono (K10 S)).mono (K11 S))
 have f11 := ((((b_h.mono (K4 S)).mono (K9 S)).mono (K10 S)).mono (K11 S))
 refine RlL.op (OpY.call en60 rfl rfl (btimes_w N a.Digits b.Digits a_v b_v _ Any (f10.mono vw_any) (f11.mono vw_any) r10 q10) ?_)
 rintro _ w12 hE11 ⟨ob10, cap10, cs10, sp10, rfl, hN10, hE12, hc10, -⟩
 replace hE12 := hE12.mono (Hv.freshO (S := None) hL11 [ob10])
 have hp10 := hL11.adoptL hE11 hN10
 have hL12 := hp10.1
 refine ⟨?_, ?_⟩
 ·
  refine LateP.cons (i := 0) rfl rfl (GOp.op (OpY.fieldAddr (q := 0) Tryd.underlying24 rfl ti4 rfl rfl rfl ⟨rfl, rfl⟩)) ?_
  refine LateP.cons (i := 1) rfl rfl (GOp.op (OpY.ldBox1 (v := (Value.bool a.Negative)) Tryd.underlying4 rfl rfl (hL12.at 3 rfl rfl) rfl ⟨rfl, rfl⟩)) ?_
  refine LateP.cons (i := 2) rfl rfl (GOp.op (OpY.fieldAddr (q := 0) Tryd.underlying24 rfl ti4 rfl rfl rfl ⟨rfl, rfl⟩)) ?_
  refine LateP.cons (i := 3) rfl rfl (GOp.op (OpY.ldBox1 (v := (Value.bool b.Negative)) Tryd.underlying4 rfl rfl (hL12.at 2 rfl rfl) rfl ⟨rfl, rfl⟩)) ?_
  refine LateP.cons (i := 4) rfl rfl (GOp.op (OpY.neqBool (x := a.Negative) (y := b.Negative) Tryd.underlying4 rfl rfl ⟨rfl, rfl⟩)) ?_
  refine LateP.cons (i := 5) rfl rfl (GOp.op (OpY.fieldAddr (q := 1) Tryd.underlying24 rfl ti22 rfl rfl rfl ⟨rfl, rfl⟩)) ?_
  refine LateP.cons (i := 7) rfl rfl (GOp.op (OpY.fieldAddr (q := 1) Tryd.underlying24 rfl ti22 rfl rfl rfl ⟨rfl, rfl⟩)) ?_
  exact LateP.nil
 obtain ⟨r11, q11, h⟩ := bind_some h
 refine RlL.op (OpY.call en48 rfl rfl (bnormalO_w N (!(a.Negative == b.Negative)) r10 (osv ob10 0 (List.length r10) cap10) _ Any (own_row_any (pre := []) (o := 0) (n := (List.length r10)) (cap := cap10) (hL12.at 0 rfl rfl) hE12 vw_any rfl rfl rfl hc10) r11 q11) ?_)
 rintro _ w13 hE13 ⟨ob11, cap11, cs11, sp11, rfl, hN11, hE14, hc11, -⟩
 replace hE14 := hE14.mono (Hv.freshO (S := None) hL12 [ob11])
 have hp11 := hL12.adoptL hE13 hN11
 have hL13 := hp11.1
 refine ⟨?_, ?_⟩
 ·
  refine LateP.cons (i := 0) rfl rfl (GOp.op (OpY.fieldAddr (q := 0) Tryd.underlying24 rfl ti4 rfl rfl rfl ⟨rfl, rfl⟩)) ?_
  refine LateP.cons (i := 1) rfl rfl (GOp.op (OpY.ldBox1 (v := (Value.bool a.Negative)) Tryd.underlying4 rfl rfl (hL13.at 4 rfl rfl) rfl ⟨rfl, rfl⟩)) ?_
  refine LateP.cons (i := 2) rfl rfl (GOp.op (OpY.fieldAddr (q := 0) Tryd.underlying24 rfl ti4 rfl rfl rfl ⟨rfl, rfl⟩)) ?_
  refine LateP.cons (i := 3) rfl rfl (GOp.op (OpY.ldBox1 (v := (Value.bool b.Negative)) Tryd.underlying4 rfl rfl (hL13.at 3 rfl rfl) rfl ⟨rfl, rfl⟩)) ?_
  refine LateP.cons (i := 5) rfl rfl (GOp.op (OpY.fieldAddr (q := 1) Tryd.underlying24 rfl ti22 rfl rfl rfl ⟨rfl, rfl⟩)) ?_
  refine LateP.cons (i := 7) rfl rfl (GOp.op (OpY.fieldAddr (q := 1) Tryd.underlying24 rfl ti22 rfl rfl rfl ⟨rfl, rfl⟩)) ?_
  exact LateP.nil
 refine RlL.op0 (OpY.store (vs := [(Value.bool r11.Negative), (osv ob11 0 (List.length r11.Digits) cap11)]) ti24 rfl rfl rfl rfl (ones_cons rfl (ones_cons (osv_one _ _ _ _) ones_nil)) hL13 2 rfl rfl (Nat.le_of_ble_eq_true rfl) ?_)
 intro w14 (hL14 : Go.X.Loc [] [] w w14 [ob11, ob10, some b10, some b6, some b1] [Cont.cells ([] ++ (cs11 ++ sp11)), Cont.cells ([] ++ (cs10 ++ sp10)), Cont.cells [(Value.bool r11.Negative), (osv ob11 0 (List.length r11.Digits) cap11)], Cont.cells [(Value.bool b.Negative), b_v], Cont.cells [(Value.bool a.Negative), a_v]]) hS12
 have K12 := ks w hS12
 refine ⟨?_, ?_⟩
 ·
  exact LateP.nil
 refine RlL.fin ?_
 refine Swp.ret ?_
 obtain rfl := Option.some.inj h
 refine ⟨[(Value.agg #[(Value.bool r11.Negative), (osv ob11 0 (List.length r11.Digits) cap11)])], ⟨⟨⟨b10, 0, none⟩, rfl, res_boxA Tryd.underlying24 rfl ti24 (hL14.at 2 rfl rfl) rfl⟩, trivial⟩, ⟨_, rfl, hL14.done, ?_⟩⟩
 have f12 := (hE14.mono (K12 None))
 exact ⟨ob11, cap11, cs11, sp11, rfl, (hL14.newOwn [0] rfl rfl rfl), (f12.mono (Hv.pick [0] rfl)), hc11, trivial⟩
theorem bDivFloorO_w (N : Nat) (a : Big) (b : Big) (a_v : Value) (b_v : Value) (w : World) (S : Nat → Prop) (a_h : Rs (rInt .u32) (Hv w.heap.size S [] w) a_v a.Digits) (b_h : Rs (rInt .u32) (Hv w.heap.size S [] w) b_v b.Digits) (r : (Big × Big × Bool)) (h : bDivFloorO N a b = some r) :
  Calls Tryd.prog 15 #[(Value.agg #[(Value.bool a.Negative), a_v]), (Value.agg #[(Value.bool b.Negative), b_v])] w (Ret w (fun v w' => ∃ (ob0_0 : Option Nat) (cap0_0 : Nat) (cs0_0 : List Value) (sp0_0 : List Value) (ob1_0 : Option Nat) (cap1_0 : Nat) (cs1_0 : List Value) (sp1_0 : List Value), .tuple #[(Value.agg #[(Value.bool r.1.Negative), (osv ob0_0 0 (List.length r.1.Digits) cap0_0)]), (Value.agg #[(Value.bool r.2.1.Negative), (osv ob1_0 0 (List.length r.2.1.Digits) cap1_0)]), (Value.bool r.2.2)] = v ∧ NewOwn w w' [ob0_0, ob1_0] [.cells ([] ++ (cs0_0 ++ sp0_0)), .cells ([] ++ (cs1_0 ++ sp1_0))] ∧ Els (rInt .u32) (Hv w.heap.size None [ob0_0, ob1_0] w') cs0_0 r.1.Digits ∧ (cs0_0 ++ sp0_0).length = cap0_0 * (rInt .u32).sz ∧ Els (rInt .u32) (Hv w.heap.size None [ob0_0, ob1_0] w') cs1_0 r.2.1.Digits ∧ (cs1_0 ++ sp1_0).length = cap1_0 * (rInt .u32).sz ∧ True)) := by
 unfold bDivFloorO at h
 have hL : Go.X.Loc [] [] w w [] [] := Go.X.Loc.begin0 w
 refine calls_of (l := [(Value.agg #[(Value.bool a.Negative), a_v]), (Value.agg #[(Value.bool b.Negative), b_v])]) (rl := [.cell 4 24, .cell 5 24, .tmp 6]) (n := 54) Tryd.func15 rfl rfl rfl (Nat.le_of_ble_eq_true rfl) ?_
 refine Swp.seq (Swp.region rfl (Rl.op (OpY.box (cs := [(Value.bool a.Negative), a_v]) rfl rfl hL ?_)))
 intro b1 w2 hL3 hS5
 have K4 := ks w hS5
 refine Rl.op (OpY.box (cs := [(Value.bool b.Negative), b_v]) rfl rfl hL3 ?_)
 intro b6 w7 hL8 hS10
 have K9 := ks w hS10
 refine Rl.op (OpY.alloc (cs := [(Value.bool false), (Value.slice none 0 0)]) ti24 rfl hL8 ?_)
 intro b10 w10 hL10 hS11
 have K10 := ks w hS11
 refine Rl.op (OpY.alloc (cs := [(Value.bool false), (Value.slice none 0 0)]) ti24 rfl hL10 ?_)
 intro b11 w11 hL11 hS12
 have K11 := ks w hS12
 refine Rl.op (OpY.assign (v := (Value.bool false)) rfl ?_)
 refine Rl.nil (Swp.seq ?_)
 obtain ⟨r10, q10, h⟩ := bind_some h
 refine Swp.drawL 3 [] [] (fun W1 => [.det (Value.agg #[(Value.bool a.Negative), a_v]), .rel (fun v Z w' => ∃ v10, (Value.agg #[(Value.bool r10.Negative), v10]) = v ∧ Rs (rInt .u32) (Zv W1 w.heap.size None [some b11, some b10, some b6, some b1] Z w') v10 r10.Digits ∧ True) (fun _ => []), .det (Value.agg #[(Value.bool b.Negative), b_v])]) mixed rfl rfl rfl (fun _ => rfl) (fun _ => rfl) ?_ ?_
 ·
  intro W1 _
  exact ⟨fun v Z Z' w w' hΦ hz _ _ hs => by obtain ⟨v10, rfl, k10, -⟩ := hΦ; exact ⟨v10, rfl, (k10.mono (Zv.stay hz hs)), trivial⟩, trivial⟩
 ·
  intro w12 hE10
  have hL12 := hL11.ext hE10
  have K12 := ke hL11 hE10
  refine DrH.de (fun _ hE11 => GOp.op (OpY.ldBoxA (vs := [(Value.bool a.Negative), a_v]) Tryd.underlying24 rfl ti24 rfl ((hL12.ext hE11).at 3 rfl rfl) rfl rfl (er rfl))) ?_
  refine DrH.rel ?_ ?_
  ·
   rintro w14 Z15 hE12 hZ11 ⟨-⟩
   have K13 := ke hL12 hE12
   refine GOp.op (OpY.call en39 rfl rfl (bNormal_w N a a_v _ Any (((((((a_h.mono (K4 S)).mono (K9 S)).mono (K10 S)).mono (K11 S)).mono (K12 S)).mono (K13 S)).mono vw_any) r10 q10) ?_)
   rintro _ w15 hE13 ⟨v10, rfl, k10, -⟩
   exact Made.ext hE13 hZ11 NewOwn.nil (fun _ h => h) ⟨v10, rfl, (k10.mono Zv.made), trivial⟩
  intro z1
  refine DrH.de (fun _ hE14 => GOp.op (OpY.ldBoxA (vs := [(Value.bool b.Negative), b_v]) Tryd.underlying24 rfl ti24 rfl ((hL12.ext hE14).at 2 rfl rfl) rfl rfl (er rfl))) ?_
  refine DrH.fin0 ?_
  rintro w17 Z17 hE15 hZ13 ⟨⟨⟨v10, rfl, k10, -⟩, hB1⟩, -⟩ ap10
  have hB10 : ∀ b, some b ∈ ([] : List (Option Nat)) → w12.heap.size ≤ b ∧ ¬ Z17 b := by
   intro b hb; cases hb
  replace k10 := k10.mono (Zv.fin hL12 hZ13 hB10)
  have hL15 := hL12.ext hE15
  have K14 := ke hL12 hE15
  obtain ⟨r11, q11, h⟩ := bind_some h
  have f10 := ((((((b_h.mono (K4 S)).mono (K9 S)).mono (K10 S)).mono (K11 S)).mono (K12 S)).mono (K14 S))
  refine Rl.op (OpY.call en39 rfl rfl (bNormal_w N b b_v _ Any (f10.mono vw_any) r11 q11) ?_)
  rintro _ w18 hE16 ⟨v11, rfl, k11, -⟩
  replace k11 := k11.mono (Hv.freshO (S := None) hL15 [])
  have hL16 := hL15.ext hE16
  have K15 := ke hL15 hE16
  have f11 := (k10.mono (K15 None))
  refine Rl.op0 (OpY.store (vs := [(Value.bool r10.Negative), v10]) ti24 rfl rfl rfl rfl (ones_cons rfl (ones_cons f11.one ones_nil)) hL16 3 rfl rfl (Nat.le_of_ble_eq_true rfl) ?_)
  intro w19 (hL17 : Go.X.Loc [] [] w w19 [some b11, some b10, some b6, some b1] [Cont.cells [(Value.bool false), (Value.slice none 0 0)], Cont.cells [(Value.bool false), (Value.slice none 0 0)], Cont.cells [(Value.bool b.Negative), b_v], Cont.cells [(Value.bool r10.Negative), v10]]) hS13
  have K16 := ks w hS13
  have f12 := (k11.mono (K16 None))
  refine Rl.op0 (OpY.store (vs := [(Value.bool r11.Negative), v11]) ti24 rfl rfl rfl rfl (ones_cons rfl (ones_cons f12.one ones_nil)) hL17 2 rfl rfl (Nat.le_of_ble_eq_true rfl) ?_)
  intro w20 (hL18 : Go.X.Loc [] [] w w20 [some b11, some b10, some b6, some b1] [Cont.cells [(Value.bool false), (Value.slice none 0 0)], Cont.cells [(Value.bool false), (Value.slice none 0 0)], Cont.cells [(Value.bool r11.Negative), v11], Cont.cells [(Value.bool r10.Negative), v10]]) hS14
  have K17 := ks w hS14
  refine Rl.nil (Swp.seq (Swp.seq (Swp.region rfl (Rl.op (OpY.fieldAddr (q := 1) Tryd.underlying24 rfl ti22 rfl rfl rfl ?_)))))
  refine Rl.op (OpY.ldBox1 (v := v11) Tryd.underlying22 rfl rfl (hL18.at 2 rfl rfl) rfl ?_)
  have f13 := (f12.mono (K17 None))
  refine Rl.op (OpY.lenRo (v := v11) Tryd.underlying22 rfl f13 ?_)
  refine Rl.op (OpY.eql (x := (List.length r11.Digits : Int)) (y := 0) (((List.length r11.Digits : Int) : Int) = 0) rfl rfl Iff.rfl ?_)
  refine Rl.nil ?_
  refine Swp.cond_d (((List.length r11.Digits : Int) : Int) = 0) rfl (fun hc10 => ?_) (fun hc10 => ?_)
  ·
   replace h := ite_t hc10 h
   refine Swp.seq (Swp.region rfl (Rl.op (OpY.build (zc := [(Value.bool false), (Value.slice none 0 0)]) (cs := [(Value.bool false), (Value.slice none 0 0)]) (is := []) (vs := []) (css := []) pl24 ti24 rfl rfl rfl trivial rfl ?_)))
   refine Rl.op (OpY.build (zc := [(Value.bool false), (Value.slice none 0 0)]) (cs := [(Value.bool false), (Value.slice none 0 0)]) (is := []) (vs := []) (css := []) pl24 ti24 rfl rfl rfl trivial rfl ?_)
   refine Rl.op0 (OpY.store (vs := [(Value.bool false), (Value.slice none 0 0)]) ti24 rfl rfl rfl rfl (ones_cons rfl (ones_cons rfl ones_nil)) hL18 1 rfl rfl (Nat.le_of_ble_eq_true rfl) ?_)
   intro w21 (hL19 : Go.X.Loc [] [] w w21 [some b11, some b10, some b6, some b1] [Cont.cells [(Value.bool false), (Value.slice none 0 0)], Cont.cells [(Value.bool false), (Value.slice none 0 0)], Cont.cells [(Value.bool r11.Negative), v11], Cont.cells [(Value.bool r10.Negative), v10]]) hS15
   refine Rl.op0 (OpY.store (vs := [(Value.bool false), (Value.slice none 0 0)]) ti24 rfl rfl rfl rfl (ones_cons rfl (ones_cons rfl ones_nil)) hL19 0 rfl rfl (Nat.le_of_ble_eq_true rfl) ?_)
   intro w22 (hL20 : Go.X.Loc [] [] w w22 [some b11, some b10, some b6, some b1] [Cont.cells [(Value.bool false), (Value.slice none 0 0)], Cont.cells [(Value.bool false), (Value.slice none 0 0)], Cont.cells [(Value.bool r11.Negative), v11], Cont.cells [(Value.bool r10.Negative), v10]]) hS16
   refine Rl.op (OpY.assign (v := (Value.bool false)) rfl ?_)
   refine Rl.nil ?_
   have hp10 := hL20.addNil
   have hL21 : Go.X.Loc [] [] w w22 [none, some b11, some b10, some b6, some b1] [Cont.cells ([] ++ ([] ++ [])), Cont.cells [(Value.bool false), (Value.slice none 0 0)], Cont.cells [(Value.bool false), (Value.slice none 0 0)], Cont.cells [(Value.bool r11.Negative), v11], Cont.cells [(Value.bool r10.Negative), v10]] := hp10.1
   have hE17 : Els (rInt .u32) (Hv w.heap.size None [none, some b11, some b10, some b6, some b1] w22) [] [] := Els.nil
   have hp11 := hL21.addNil
   have hL22 : Go.X.Loc [] [] w w22 [none, none, some b11, some b10, some b6, some b1] [Cont.cells ([] ++ ([] ++ [])), Cont.cells ([] ++ ([] ++ [])), Cont.cells [(Value.bool false), (Value.slice none 0 0)], Cont.cells [(Value.bool false), (osv none 0 (List.length ([] : (List Int))) 0)], Cont.cells [(Value.bool r11.Negative), v11], Cont.cells [(Value.bool r10.Negative), v10]] := hp11.1
   have K18 := ks w hp11.2
   have hE18 : Els (rInt .u32) (Hv w.heap.size None [none, none, some b11, some b10, some b6, some b1] w22) [] [] := Els.nil
   refine Swp.ret ?_
   obtain rfl := Option.some.inj h
   refine ⟨[(Value.agg #[(Value.bool false), (osv none 0 (List.length ([] : (List Int))) 0)]), (Value.agg #[(Value.bool false), (osv none 0 (List.length ([] : (List Int))) 0)]), (Value.bool false)], ⟨⟨⟨b10, 0, none⟩, rfl, res_boxA Tryd.underlying24 rfl ti24 (hL22.at 3 rfl rfl) rfl⟩, ⟨⟨⟨b11, 0, none⟩, rfl, res_boxA Tryd.underlying24 rfl ti24 (hL22.at 2 rfl rfl) rfl⟩, ⟨rfl, trivial⟩⟩⟩, ⟨_, rfl, hL22.done, ?_⟩⟩
   have f14 := (hE17.mono (K18 None))
   exact ⟨none, 0, [], [], none, 0, [], [], rfl, (hL22.newOwn [1, 0] rfl rfl rfl), (f14.mono (Hv.pick [1, 0] rfl)), (show ([] ++ [] : List Value).length = 0 * (rInt .u32).sz by simp), (hE18.mono (Hv.pick [1, 0] rfl)), (show ([] ++ [] : List Value).length = 0 * (rInt .u32).sz by simp), trivial⟩
  ·
   replace h := ite_f hc10 h
   refine Swp.skip (Swp.seq (Swp.region rfl (Rl.op (OpY.fieldAddr (q := 1) Tryd.underlying24 rfl ti22 rfl rfl rfl ?_))))
   refine Rl.op (OpY.ldBox1 (v := v10) Tryd.underlying22 rfl rfl (hL18.at 3 rfl rfl) rfl ?_)
   refine Rl.op (OpY.fieldAddr (q := 1) Tryd.underlying24 rfl ti22 rfl rfl rfl ?_)
   refine Rl.op (OpY.ldBox1 (v := v11) Tryd.underlying22 rfl rfl (hL18.at 2 rfl rfl) rfl ?_)
   obtain ⟨r12, q12, h⟩ := bind_some h
   have f15 := ((f11.mono (K16 None)).mono (K17 None))
   refine Rl.op (OpY.call en45 rfl rfl (bdivide_w N r10.Digits r11.Digits v10 v11 _ Any (f15.mono vw_any) (f13.mono vw_any) r12 q12) ?_)
   rintro _ w23 hE19 ⟨ob10, cap10, cs10, sp10, ob11, cap11, cs11, sp11, rfl, hN10, hE20, hc11, hE21, hc12, -⟩
   replace hE20 := hE20.mono (Hv.freshO (S := None) hL18 [ob10, ob11])
   replace hE21 := hE21.mono (Hv.freshO (S := None) hL18 [ob10, ob11])
   have hp12 := hL18.adoptL hE19 hN10
   have hL23 := hp12.1
   have K19 := ks w hp12.2
   refine Rl.op (OpY.move (v := (Value.tuple #[(osv ob10 0 (List.length r12.1) cap10), (osv ob11 0 (List.length r12.2) cap11)])) rfl ?_)
   refine Rl.op (OpY.extract (vs := [(osv ob10 0 (List.length r12.1) cap10), (osv ob11 0 (List.length r12.2) cap11)]) (v := (osv ob10 0 (List.length r12.1) cap10)) rfl rfl ?_)
   refine Rl.op (OpY.extract (vs := [(osv ob10 0 (List.length r12.1) cap10), (osv ob11 0 (List.length r12.2) cap11)]) (v := (osv ob11 0 (List.length r12.2) cap11)) rfl rfl ?_)
   refine Rl.op (OpY.assign (v := (osv ob10 0 (List.length r12.1) cap10)) rfl ?_)
   refine Rl.op (OpY.assign (v := (osv ob11 0 (List.length r12.2) cap11)) rfl ?_)
   refine Rl.nil (Swp.seq (Swp.seq (Swp.region rfl (Rl.op (OpY.fieldAddr (q := 0) Tryd.underlying24 rfl ti4 rfl rfl rfl ?_)))))
   refine Rl.op (OpY.ldBox1 (v := (Value.bool r10.Negative)) Tryd.underlying4 rfl rfl (hL23.at 5 rfl rfl) rfl ?_)
   refine Rl.op (OpY.fieldAddr (q := 0) Tryd.underlying24 rfl ti4 rfl rfl rfl ?_)
   refine Rl.op (OpY.ldBox1 (v := (Value.bool r11.Negative)) Tryd.underlying4 rfl rfl (hL23.at 4 rfl rfl) rfl ?_)
   refine Rl.op (OpY.neqBool (x := r10.Negative) (y := r11.Negative) Tryd.underlying4 rfl rfl ?_)
   refine Rl.nil ?_
   refine Swp.cond_b (!(r10.Negative == r11.Negative)) rfl (fun hc13 => ?_) (fun hc13 => ?_)
   ·
    replace h := ite_t hc13 h
    refine Swp.seq (Swp.seq (Swp.region rfl (Rl.op (OpY.move (v := (osv ob11 0 (List.length r12.2) cap11)) rfl ?_))))
    refine Rl.op (OpY.lenRow (pre := []) (r := (rInt .u32)) (xs := r12.2) Tryd.underlying22 rfl (hL23.at 1 rfl rfl) hE21 rfl rfl ?_)
    refine Rl.op (OpY.gtr (x := (List.length r12.2 : Int)) (y := 0) (((List.length r12.2 : Int) : Int) > 0) rfl rfl Iff.rfl ?_)
    refine Rl.nil ?_
    obtain ⟨s10, h, g10⟩ := bind_some h
    refine Swp.join (fun e w' => ∃ (q13 : (List Int)) (x10 : (List Int)) (ob12 : Option Nat) (cap12 : Nat) (sp12 : List Value) (cs12 : List Value) (ln10 : Nat) (ob13 : Option Nat) (cap13 : Nat) (sp13 : List Value) (cs13 : List Value) (ln11 : Nat) (u : Env), (q13, x10) = s10 ∧ e = upds [(3, (Value.pointer (some ⟨b6, 0, none⟩))), (4, (Value.pointer (some ⟨b10, 0, none⟩))), (5, (Value.pointer (some ⟨b11, 0, none⟩))), (7, (osv ob12 0 ln10 cap12)), (8, (osv ob13 0 ln11 cap13))] u ∧ Go.X.Loc [] [] w w' [some b6, some b10, some b11, ob12, ob13] [Cont.cells [(Value.bool r11.Negative), v11], Cont.cells [(Value.bool false), (Value.slice none 0 0)], Cont.cells [(Value.bool false), (Value.slice none 0 0)], Cont.cells ([] ++ (cs12 ++ sp12)), Cont.cells ([] ++ (cs13 ++ sp13))] ∧ Keep w.heap.size [ob10, ob11, some b11, some b10, some b6, some b1] w23 [some b6, some b10, some b11, ob12, ob13] w' ∧ Els (rInt .u32) (Hv w.heap.size None [some b6, some b10, some b11, ob12, ob13] w') cs12 q13 ∧ ln10 = List.length q13 ∧ (cs12 ++ sp12).length = cap12 * (rInt .u32).sz ∧ Els (rInt .u32) (Hv w.heap.size None [some b6, some b10, some b11, ob12, ob13] w') cs13 x10 ∧ ln11 = List.length x10 ∧ (cs13 ++ sp13).length = cap13 * (rInt .u32).sz ∧ True) ?_ ?_
    ·
     refine Swp.cond_d (((List.length r12.2 : Int) : Int) > 0) rfl (fun hc14 => ?_) (fun hc14 => ?_)
     ·
      replace h := ite_t hc14 h
      refine Swp.seq (Swp.region rfl (Rl.op (OpY.move (v := (osv ob10 0 (List.length r12.1) cap10)) rfl ?_)))
      have hE22 : Els (rInt .u32) (Hv w.heap.size None [ob10, ob11, some b11, some b10, some b6, some b1] w23) [(Value.int .u32 1)] [1] := (Els.cons (a := [(Value.int .u32 1)]) rfl Els.nil)
      refine Rl.op (OpY.litRow (r := (rInt .u32)) (vs := [(Value.int .u32 1)]) (css := [[(Value.int .u32 1)]]) (xs := [1]) Tryd.underlying22 ti47 (Nat.le_of_ble_eq_true rfl) rfl rfl ⟨rfl, rfl, trivial⟩ (Nat.le_of_ble_eq_true rfl) hE22 rfl hL23 ?_)
      intro b12 w24 hc15 hL24 hS17
      have K20 := ks w hS17
      obtain ⟨r13, q14, h⟩ := bind_some h
      have f16 := (hE20.mono (K20 None))
      have f17 := (hE22.mono (K20 None))
      refine Rl.op (OpY.call en46 rfl rfl (bplus_w N r12.1 [1] (osv ob10 0 (List.length r12.1) cap10) (osv (some b12) 0 1 1) _ Any (own_row_any (pre := []) (o := 0) (n := (List.length r12.1)) (cap := cap10) (hL24.at 1 rfl rfl) f16 vw_any rfl rfl rfl hc11) (own_row_any (pre := []) (o := 0) (n := 1) (cap := 1) (hL24.at 0 rfl rfl) f17 vw_any rfl rfl rfl hc15) r13 q14) ?_)
      rintro _ w25 hE23 ⟨ob14, cap14, cs14, sp14, rfl, hN11, hE24, hc16, -⟩
      replace hE24 := hE24.mono (Hv.freshO (S := None) hL24 [ob14])
      have hp13 := hL24.adoptL hE23 hN11
      have hL25 := hp13.1
      have K21 := ks w hp13.2
      refine Rl.op (OpY.assign (v := (osv ob14 0 (List.length r13) cap14)) rfl ?_)
      refine Rl.nil (Swp.region rfl (Rl.op (OpY.fieldAddr (q := 1) Tryd.underlying24 rfl ti22 rfl rfl rfl ?_)))
      refine Rl.op (OpY.ldBox1 (v := v11) Tryd.underlying22 rfl rfl (hL25.at 6 rfl rfl) rfl ?_)
      refine Rl.op (OpY.move (v := (osv ob11 0 (List.length r12.2) cap11)) rfl ?_)
      obtain ⟨r14, q15, h⟩ := bind_some h
      have f18 := (((f13.mono (K19 None)).mono (K20 None)).mono (K21 None))
      have f19 := ((hE21.mono (K20 None)).mono (K21 None))
      refine Rl.op (OpY.call en47 rfl rfl (bminus_w N r11.Digits r12.2 v11 (osv ob11 0 (List.length r12.2) cap11) _ Any (f18.mono vw_any) (own_row_any (pre := []) (o := 0) (n := (List.length r12.2)) (cap := cap11) (hL25.at 3 rfl rfl) f19 vw_any rfl rfl rfl hc12) r14 q15) ?_)
      rintro _ w26 hE25 ⟨ob15, cap15, cs15, sp15, rfl, hN12, hE26, hc17, -⟩
      replace hE26 := hE26.mono (Hv.freshO (S := None) hL25 [ob15])
      have hp14 := hL25.adoptL hE25 hN12
      have hL26 := hp14.1
      have K22 := ks w hp14.2
      refine Rl.op (OpY.assign (v := (osv ob15 0 (List.length r14) cap15)) rfl ?_)
      refine Rl.nil ?_
      have hp15 := hL26.pick [7, 6, 5, 1, 0] rfl rfl rfl
      have hL27 : Go.X.Loc [] [] w w26 [some b6, some b10, some b11, ob14, ob15] [Cont.cells [(Value.bool r11.Negative), v11], Cont.cells [(Value.bool false), (Value.slice none 0 0)], Cont.cells [(Value.bool false), (Value.slice none 0 0)], Cont.cells ([] ++ (cs14 ++ sp14)), Cont.cells ([] ++ (cs15 ++ sp15))] := hp15.1
      have K23 := ks w hp15.2
      have f20 := ((hE24.mono (K22 None)).mono (K23 None))
      have f21 := (hE26.mono (K23 None))
      obtain rfl := Option.some.inj h
      refine Swp.pop_back ?_
      exact ⟨r13, r14, ob14, cap14, sp14, cs14, (List.length r13), ob15, cap15, sp15, cs15, (List.length r14), _, rfl, (upds_sym ⟨rfl, rfl, rfl, rfl, rfl, trivial⟩), hL27, (Keep.trans (Keep.trans (Keep.trans K20 K21) K22) K23), f20, rfl, hc16, f21, rfl, hc17, trivial⟩
     ·
      replace h := ite_f hc14 h
      refine Swp.skip ?_
      have hp16 := hL23.pick [4, 3, 2, 0, 1] rfl rfl rfl
      have hL28 : Go.X.Loc [] [] w w23 [some b6, some b10, some b11, ob10, ob11] [Cont.cells [(Value.bool r11.Negative), v11], Cont.cells [(Value.bool false), (Value.slice none 0 0)], Cont.cells [(Value.bool false), (Value.slice none 0 0)], Cont.cells ([] ++ (cs10 ++ sp10)), Cont.cells ([] ++ (cs11 ++ sp11))] := hp16.1
      have K24 := ks w hp16.2
      have f22 := (hE20.mono (K24 None))
      have f23 := (hE21.mono (K24 None))
      obtain rfl := Option.some.inj h
      refine Swp.pop_back ?_
      exact ⟨r12.1, r12.2, ob10, cap10, sp10, cs10, (List.length r12.1), ob11, cap11, sp11, cs11, (List.length r12.2), _, rfl, (upds_sym ⟨rfl, rfl, rfl, rfl, rfl, trivial⟩), hL28, K24, f22, rfl, hc11, f23, rfl, hc12, trivial⟩
    ·
     rintro _ w27 ⟨q13, x10, ob12, cap12, sp12, cs12, ln10, ob13, cap13, sp13, cs13, ln11, u, rfl, rfl, hL29, K25, hE27, rfl, hc18, hE28, rfl, hc19, -⟩
     replace h := g10
     try dsimp only at h
     refine Swp.seq ?_
     refine Swp.drawP [1, 5, 6, 7] [0, 2, 3, 4, 8] [(42, (osv ob12 0 (List.length q13) cap12)), (44, (Value.pointer (some ⟨b6, 0, none⟩))), (45, (Value.bool r11.Negative)), (46, (osv ob13 0 (List.length x10) cap13)), (6, (Value.bool true))] mixed rfl rfl rfl rfl ?_
     intro w28 hE29
     have hL30 := hL29.ext hE29
     have K26 := ke hL29 hE29
     refine ⟨?_, ?_⟩
     ·
      refine LateP.cons (i := 0) rfl rfl (GOp.op (OpY.move (v := (osv ob12 0 (List.length q13) cap12)) rfl ⟨rfl, rfl⟩)) ?_
      refine LateP.cons (i := 2) rfl rfl (GOp.op (OpY.fieldAddr (q := 0) Tryd.underlying24 rfl ti4 rfl rfl rfl ⟨rfl, rfl⟩)) ?_
      refine LateP.cons (i := 3) rfl rfl (GOp.op (OpY.ldBox1 (v := (Value.bool r11.Negative)) Tryd.underlying4 rfl rfl (hL30.at 0 rfl rfl) rfl ⟨rfl, rfl⟩)) ?_
      refine LateP.cons (i := 4) rfl rfl (GOp.op (OpY.move (v := (osv ob13 0 (List.length x10) cap13)) rfl ⟨rfl, rfl⟩)) ?_
      refine LateP.cons (i := 8) rfl rfl (GOp.op (OpY.assign (v := (Value.bool true)) rfl ⟨rfl, rfl⟩)) ?_
      exact LateP.nil
     obtain ⟨r15, q16, h⟩ := bind_some h
     have f24 := (hE27.mono (K26 None))
     refine RlL.op (OpY.call en48 rfl rfl (bnormalO_w N true q13 (osv ob12 0 (List.length q13) cap12) _ Any (own_row_any (pre := []) (o := 0) (n := (List.length q13)) (cap := cap12) (hL30.at 3 rfl rfl) f24 vw_any rfl rfl rfl hc18) r15 q16) ?_)
     rintro _ w29 hE30 ⟨ob16, cap16, cs16, sp16, rfl, hN13, hE31, hc20, -⟩
     replace hE31 := hE31.mono (Hv.freshO (S := None) hL30 [ob16])
     have hp17 := hL30.adoptL hE30 hN13
     have hL31 := hp17.1
     have K27 := ks w hp17.2
     refine ⟨?_, ?_⟩
     ·
      refine LateP.cons (i := 2) rfl rfl (GOp.op (OpY.fieldAddr (q := 0) Tryd.underlying24 rfl ti4 rfl rfl rfl ⟨rfl, rfl⟩)) ?_
      refine LateP.cons (i := 3) rfl rfl (GOp.op (OpY.ldBox1 (v := (Value.bool r11.Negative)) Tryd.underlying4 rfl rfl (hL31.at 1 rfl rfl) rfl ⟨rfl, rfl⟩)) ?_
      refine LateP.cons (i := 4) rfl rfl (GOp.op (OpY.move (v := (osv ob13 0 (List.length x10) cap13)) rfl ⟨rfl, rfl⟩)) ?_
      refine LateP.cons (i := 8) rfl rfl (GOp.op (OpY.assign (v := (Value.bool true)) rfl ⟨rfl, rfl⟩)) ?_
      exact LateP.nil
     obtain ⟨r16, q17, h⟩ := bind_some h
     have f25 := ((hE28.mono (K26 None)).mono (K27 None))
     refine RlL.op (OpY.call en48 rfl rfl (bnormalO_w N r11.Negative x10 (osv ob13 0 (List.length x10) cap13) _ Any (own_row_any (pre := []) (o := 0) (n := (List.length x10)) (cap := cap13) (hL31.at 5 rfl rfl) f25 vw_any rfl rfl rfl hc19) r16 q17) ?_)
     rintro _ w30 hE32 ⟨ob17, cap17, cs17, sp17, rfl, hN14, hE33, hc21, -⟩
     replace hE33 := hE33.mono (Hv.freshO (S := None) hL31 [ob17])
     have hp18 := hL31.adoptL hE32 hN14
     have hL32 := hp18.1
     have K28 := ks w hp18.2
     refine ⟨?_, ?_⟩
     ·
      refine LateP.cons (i := 2) rfl rfl (GOp.op (OpY.fieldAddr (q := 0) Tryd.underlying24 rfl ti4 rfl rfl rfl ⟨rfl, rfl⟩)) ?_
      refine LateP.cons (i := 8) rfl rfl (GOp.op (OpY.assign (v := (Value.bool true)) rfl ⟨rfl, rfl⟩)) ?_
      exact LateP.nil
     refine RlL.op0 (OpY.store (vs := [(Value.bool r15.Negative), (osv ob16 0 (List.length r15.Digits) cap16)]) ti24 rfl rfl rfl rfl (ones_cons rfl (ones_cons (osv_one ob16 0 (List.length r15.Digits) cap16) ones_nil)) hL32 3 rfl rfl (Nat.le_of_ble_eq_true rfl) ?_)
     intro w31 (hL33 : Go.X.Loc [] [] w w31 [ob17, ob16, some b6, some b10, some b11, ob12, ob13] [Cont.cells ([] ++ (cs17 ++ sp17)), Cont.cells ([] ++ (cs16 ++ sp16)), Cont.cells [(Value.bool r11.Negative), v11], Cont.cells [(Value.bool r15.Negative), (osv ob16 0 (List.length r15.Digits) cap16)], Cont.cells [(Value.bool false), (Value.slice none 0 0)], Cont.cells ([] ++ (cs12 ++ sp12)), Cont.cells ([] ++ (cs13 ++ sp13))]) hS18
     have K29 := ks w hS18
     refine ⟨?_, ?_⟩
     ·
      refine LateP.cons (i := 2) rfl rfl (GOp.op (OpY.fieldAddr (q := 0) Tryd.underlying24 rfl ti4 rfl rfl rfl ⟨rfl, rfl⟩)) ?_
      refine LateP.cons (i := 8) rfl rfl (GOp.op (OpY.assign (v := (Value.bool true)) rfl ⟨rfl, rfl⟩)) ?_
      exact LateP.nil
     refine RlL.op0 (OpY.store (vs := [(Value.bool r16.Negative), (osv ob17 0 (List.length r16.Digits) cap17)]) ti24 rfl rfl rfl rfl (ones_cons rfl (ones_cons (osv_one ob17 0 (List.length r16.Digits) cap17) ones_nil)) hL33 4 rfl rfl (Nat.le_of_ble_eq_true rfl) ?_)
     intro w32 (hL34 : Go.X.Loc [] [] w w32 [ob17, ob16, some b6, some b10, some b11, ob12, ob13] [Cont.cells ([] ++ (cs17 ++ sp17)), Cont.cells ([] ++ (cs16 ++ sp16)), Cont.cells [(Value.bool r11.Negative), v11], Cont.cells [(Value.bool r15.Negative), (osv ob16 0 (List.length r15.Digits) cap16)], Cont.cells [(Value.bool r16.Negative), (osv ob17 0 (List.length r16.Digits) cap17)], Cont.cells ([] ++ (cs12 ++ sp12)), Cont.cells ([] ++ (cs13 ++ sp13))]) hS19
     have K30 := ks w hS19
     refine ⟨?_, ?_⟩
     ·
      refine LateP.cons (i := 8) rfl rfl (GOp.op (OpY.assign (v := (Value.bool true)) rfl ⟨rfl, rfl⟩)) ?_
      exact LateP.nil
     refine RlL.fin ?_
     refine Swp.ret ?_
     obtain rfl := Option.some.inj h
     refine ⟨[(Value.agg #[(Value.bool r15.Negative), (osv ob16 0 (List.length r15.Digits) cap16)]), (Value.agg #[(Value.bool r16.Negative), (osv ob17 0 (List.length r16.Digits) cap17)]), (Value.bool true)], ⟨⟨⟨b10, 0, none⟩, rfl, res_boxA Tryd.underlying24 rfl ti24 (hL34.at 3 rfl rfl) rfl⟩, ⟨⟨⟨b11, 0, none⟩, rfl, res_boxA Tryd.underlying24 rfl ti24 (hL34.at 4 rfl rfl) rfl⟩, ⟨rfl, trivial⟩⟩⟩, ⟨_, rfl, hL34.done, ?_⟩⟩
     have f26 := (((hE31.mono (K28 None)).mono (K29 None)).mono (K30 None))
     have f27 := ((hE33.mono (K29 None)).mono (K30 None))
     exact ⟨ob16, cap16, cs16, sp16, ob17, cap17, cs17, sp17, rfl, (hL34.newOwn [1, 0] rfl rfl rfl), (f26.mono (Hv.pick [1, 0] rfl)), hc20, (f27.mono (Hv.pick [1, 0] rfl)), hc21, trivial⟩
   ·
    replace h := ite_f hc13 h
    refine Swp.skip (Swp.seq ?_)
    refine Swp.drawP [1, 5, 6, 7] [0, 2, 3, 4, 8] [(48, (osv ob10 0 (List.length r12.1) cap10)), (50, (Value.pointer (some ⟨b6, 0, none⟩))), (51, (Value.bool r11.Negative)), (52, (osv ob11 0 (List.length r12.2) cap11)), (6, (Value.bool true))] mixed rfl rfl rfl rfl ?_
    intro w33 hE34
    have hL35 := hL23.ext hE34
    have K31 := ke hL23 hE34
    refine ⟨?_, ?_⟩
    ·
     refine LateP.cons (i := 0) rfl rfl (GOp.op (OpY.move (v := (osv ob10 0 (List.length r12.1) cap10)) rfl ⟨rfl, rfl⟩)) ?_
     refine LateP.cons (i := 2) rfl rfl (GOp.op (OpY.fieldAddr (q := 0) Tryd.underlying24 rfl ti4 rfl rfl rfl ⟨rfl, rfl⟩)) ?_
     refine LateP.cons (i := 3) rfl rfl (GOp.op (OpY.ldBox1 (v := (Value.bool r11.Negative)) Tryd.underlying4 rfl rfl (hL35.at 4 rfl rfl) rfl ⟨rfl, rfl⟩)) ?_
     refine LateP.cons (i := 4) rfl rfl (GOp.op (OpY.move (v := (osv ob11 0 (List.length r12.2) cap11)) rfl ⟨rfl, rfl⟩)) ?_
     refine LateP.cons (i := 8) rfl rfl (GOp.op (OpY.assign (v := (Value.bool true)) rfl ⟨rfl, rfl⟩)) ?_
     exact LateP.nil
    obtain ⟨r17, q18, h⟩ := bind_some h
    have f28 := (hE20.mono (K31 None))
    refine RlL.op (OpY.call en48 rfl rfl (bnormalO_w N false r12.1 (osv ob10 0 (List.length r12.1) cap10) _ Any (own_row_any (pre := []) (o := 0) (n := (List.length r12.1)) (cap := cap10) (hL35.at 0 rfl rfl) f28 vw_any rfl rfl rfl hc11) r17 q18) ?_)
    rintro _ w34 hE35 ⟨ob18, cap18, cs18, sp18, rfl, hN15, hE36, hc22, -⟩
    replace hE36 := hE36.mono (Hv.freshO (S := None) hL35 [ob18])
    have hp19 := hL35.adoptL hE35 hN15
    have hL36 := hp19.1
    have K32 := ks w hp19.2
    refine ⟨?_, ?_⟩
    ·
     refine LateP.cons (i := 2) rfl rfl (GOp.op (OpY.fieldAddr (q := 0) Tryd.underlying24 rfl ti4 rfl rfl rfl ⟨rfl, rfl⟩)) ?_
     refine LateP.cons (i := 3) rfl rfl (GOp.op (OpY.ldBox1 (v := (Value.bool r11.Negative)) Tryd.underlying4 rfl rfl (hL36.at 5 rfl rfl) rfl ⟨rfl, rfl⟩)) ?_
     refine LateP.cons (i := 4) rfl rfl (GOp.op (OpY.move (v := (osv ob11 0 (List.length r12.2) cap11)) rfl ⟨rfl, rfl⟩)) ?_
     refine LateP.cons (i := 8) rfl rfl (GOp.op (OpY.assign (v := (Value.bool true)) rfl ⟨rfl, rfl⟩)) ?_
     exact LateP.nil
    obtain ⟨r18, q19, h⟩ := bind_some h
    have f29 := ((hE21.mono (K31 None)).mono (K32 None))
    refine RlL.op (OpY.call en48 rfl rfl (bnormalO_w N r11.Negative r12.2 (osv ob11 0 (List.length r12.2) cap11) _ Any (own_row_any (pre := []) (o := 0) (n := (List.length r12.2)) (cap := cap11) (hL36.at 2 rfl rfl) f29 vw_any rfl rfl rfl hc12) r18 q19) ?_)
    rintro _ w35 hE37 ⟨ob19, cap19, cs19, sp19, rfl, hN16, hE38, hc23, -⟩
    replace hE38 := hE38.mono (Hv.freshO (S := None) hL36 [ob19])
    have hp20 := hL36.adoptL hE37 hN16
    have hL37 := hp20.1
    have K33 := ks w hp20.2
    refine ⟨?_, ?_⟩
    ·
     refine LateP.cons (i := 2) rfl rfl (GOp.op (OpY.fieldAddr (q := 0) Tryd.underlying24 rfl ti4 rfl rfl rfl ⟨rfl, rfl⟩)) ?_
     refine LateP.cons (i := 8) rfl rfl (GOp.op (OpY.assign (v := (Value.bool true)) rfl ⟨rfl, rfl⟩)) ?_
     exact LateP.nil
    refine RlL.op0 (OpY.store (vs := [(Value.bool r17.Negative), (osv ob18 0 (List.length r17.Digits) cap18)]) ti24 rfl rfl rfl rfl (ones_cons rfl (ones_cons (osv_one ob18 0 (List.length r17.Digits) cap18) ones_nil)) hL37 5 rfl rfl (Nat.le_of_ble_eq_true rfl) ?_)
    intro w36 (hL38 : Go.X.Loc [] [] w w36 [ob19, ob18, ob10, ob11, some b11, some b10, some b6, some b1] [Cont.cells ([] ++ (cs19 ++ sp19)), Cont.cells ([] ++ (cs18 ++ sp18)), Cont.cells ([] ++ (cs10 ++ sp10)), Cont.cells ([] ++ (cs11 ++ sp11)), Cont.cells [(Value.bool false), (Value.slice none 0 0)], Cont.cells [(Value.bool r17.Negative), (osv ob18 0 (List.length r17.Digits) cap18)], Cont.cells [(Value.bool r11.Negative), v11], Cont.cells [(Value.bool r10.Negative), v10]]) hS20
    have K34 := ks w hS20
    refine ⟨?_, ?_⟩
    ·
     refine LateP.cons (i := 2) rfl rfl (GOp.op (OpY.fieldAddr (q := 0) Tryd.underlying24 rfl ti4 rfl rfl rfl ⟨rfl, rfl⟩)) ?_
     refine LateP.cons (i := 8) rfl rfl (GOp.op (OpY.assign (v := (Value.bool true)) rfl ⟨rfl, rfl⟩)) ?_
     exact LateP.nil
    refine RlL.op0 (OpY.store (vs := [(Value.bool r18.Negative), (osv ob19 0 (List.length r18.Digits) cap19)]) ti24 rfl rfl rfl rfl (ones_cons rfl (ones_cons (osv_one ob19 0 (List.length r18.Digits) cap19) ones_nil)) hL38 4 rfl rfl (Nat.le_of_ble_eq_true rfl) ?_)
    intro w37 (hL39 : Go.X.Loc [] [] w w37 [ob19, ob18, ob10, ob11, some b11, some b10, some b6, some b1] [Cont.cells ([] ++ (cs19 ++ sp19)), Cont.cells ([] ++ (cs18 ++ sp18)), Cont.cells ([] ++ (cs10 ++ sp10)), Cont.cells ([] ++ (cs11 ++ sp11)), Cont.cells [(Value.bool r18.Negative), (osv ob19 0 (List.length r18.Digits) cap19)], Cont.cells [(Value.bool r17.Negative), (osv ob18 0 (List.length r17.Digits) cap18)], Cont.cells [(Value.bool r11.Negative), v11], Cont.cells [(Value.bool r10.Negative), v10]]) hS21
    have K35 := ks w hS21
    refine ⟨?_, ?_⟩
    ·
     refine LateP.cons (i := 8) rfl rfl (GOp.op (OpY.assign (v := (Value.bool true)) rfl ⟨rfl, rfl⟩)) ?_
     exact LateP.nil
    refine RlL.fin ?_
    refine Swp.ret ?_
    obtain rfl := Option.some.inj h
    refine ⟨[(Value.agg #[(Value.bool r17.Negative), (osv ob18 0 (List.length r17.Digits) cap18)]), (Value.agg #[(Value.bool r18.Negative), (osv ob19 0 (List.length r18.Digits) cap19)]), (Value.bool true)], ⟨⟨⟨b10, 0, none⟩, rfl, res_boxA Tryd.underlying24 rfl ti24 (hL39.at 5 rfl rfl) rfl⟩, ⟨⟨⟨b11, 0, none⟩, rfl, res_boxA Tryd.underlying24 rfl ti24 (hL39.at 4 rfl rfl) rfl⟩, ⟨rfl, trivial⟩⟩⟩, ⟨_, rfl, hL39.done, ?_⟩⟩
    have f30 := (((hE36.mono (K33 None)).mono (K34 None)).mono (K35 None))
    have f31 := ((hE38.mono (K34 None)).mono (K35 None))
    exact ⟨ob18, cap18, cs18, sp18, ob19, cap19, cs19, sp19, rfl, (hL39.newOwn [1, 0] rfl rfl rfl), (f30.mono (Hv.pick [1, 0] rfl)), hc22, (f31.mono (Hv.pick [1, 0] rfl)), hc23, trivial⟩
theorem bGCDO_w (N : Nat) (a : Big) (b : Big) (a_v : Value) (b_v : Value) (w : World) (S : Nat → Prop) (a_h : Rs (rInt .u32) (Hv w.heap.size S [] w) a_v a.Digits) (b_h : Rs (rInt .u32) (Hv w.heap.size S [] w) b_v b.Digits) (r : Big) (h : bGCDO N a b = some r) :
  Calls Tryd.prog 26 #[(Value.agg #[(Value.bool a.Negative), a_v]), (Value.agg #[(Value.bool b.Negative), b_v])] w (Ret w (fun v w' => ∃ (ob0_0 : Option Nat) (cap0_0 : Nat) (cs0_0 : List Value) (sp0_0 : List Value), (Value.agg #[(Value.bool r.Negative), (osv ob0_0 0 (List.length r.Digits) cap0_0)]) = v ∧ NewOwn w w' [ob0_0] [.cells ([] ++ (cs0_0 ++ sp0_0))] ∧ Els (rInt .u32) (Hv w.heap.size None [ob0_0] w') cs0_0 r.Digits ∧ (cs0_0 ++ sp0_0).length = cap0_0 * (rInt .u32).sz ∧ True)) := by
 unfold bGCDO at h
 have hL : Go.X.Loc [] [] w w [] [] := Go.X.Loc.begin0 w
 refine calls_of (l := [(Value.agg #[(Value.bool a.Negative), a_v]), (Value.agg #[(Value.bool b.Negative), b_v])]) (rl := [.cell 4 24]) (n := 28) Tryd.func26 rfl rfl rfl (Nat.le_of_ble_eq_true rfl) ?_
 refine Swp.seq (Swp.region rfl (Rl.op (OpY.box (cs := [(Value.bool a.Negative), a_v]) rfl rfl hL ?_)))
 intro b1 w2 hL3 hS5
 have K4 := ks w hS5
 refine Rl.op (OpY.box (cs := [(Value.bool b.Negative), b_v]) rfl rfl hL3 ?_)
 intro b6 w7 hL8 hS10
 have K9 := ks w hS10
 refine Rl.op (OpY.alloc (cs := [(Value.bool false), (Value.slice none 0 0)]) ti24 rfl hL8 ?_)
 intro b10 w10 hL10 hS11
 have K10 := ks w hS11
 refine Rl.nil (Swp.seq ?_)
 obtain ⟨r10, q10, h⟩ := bind_some h
 refine Swp.drawL 5 [] [] (fun W1 => [.det (Value.pointer (some ⟨b1, 1, none⟩)), .det a_v, .rel (fun v Z w' => ∃ ob10 cap10 cs10 sp10, (osv ob10 0 (List.length r10) cap10) = v ∧ OwnC w' ob10 (Cont.cells ([] ++ (cs10 ++ sp10))) ∧ Els (rInt .u32) (Zv W1 w.heap.size None [some b10, some b6, some b1] Z w') cs10 r10 ∧ (cs10 ++ sp10 : List Value).length = cap10 * (rInt .u32).sz ∧ True) footV, .det (Value.pointer (some ⟨b6, 1, none⟩)), .det b_v]) mixed rfl rfl rfl (fun _ => rfl) (fun _ => rfl) ?_ ?_
 ·
  intro W1 _
  exact ⟨fun v Z Z' w w' hΦ hz _ _ hs => by obtain ⟨ob10, cap10, cs10, sp10, rfl, hO10, hE10, hc10, -⟩ := hΦ; exact ⟨ob10, cap10, cs10, sp10, rfl, (hO10.stay (fun b hb => (footV_osv (ob := ob10) (o := 0) (n := (List.length r10)) (cap := cap10)).2 (by rw [hb]; exact List.mem_cons_self)) hs), (hE10.mono (Zv.stay hz hs)), hc10, trivial⟩, trivial⟩
 ·
  intro w11 hE11
  have hL11 := hL10.ext hE11
  have K11 := ke hL10 hE11
  refine DrH.de (fun _ _ => GOp.op (OpY.fieldAddr Tryd.underlying24 rfl ti22 rfl rfl rfl (er rfl))) ?_
  refine DrH.de (fun _ hE13 => GOp.op (OpY.ldBox1 Tryd.underlying22 rfl rfl ((hL11.ext hE13).at 2 rfl rfl) rfl (er rfl))) ?_
  refine DrH.rel ?_ ?_
  ·
   rintro w14 Z16 hE14 hZ12 ⟨-⟩
   have K12 := ke hL11 hE14
   refine GOp.op (OpY.call en54 rfl rfl (btrim_w N a.Digits a_v _ Any ((((((a_h.mono (K4 S)).mono (K9 S)).mono (K10 S)).mono (K11 S)).mono (K12 S)).mono vw_any) r10 q10) ?_)
   rintro _ w15 hE15 ⟨ob10, cap10, cs10, sp10, rfl, hN10, hE10, hc10, -⟩
   exact Made.ext hE15 hZ12 hN10 (fun b hb => footV_osv.1 hb) ⟨ob10, cap10, cs10, sp10, rfl, hN10.2.2.1, (hE10.mono Zv.made), hc10, trivial⟩
  intro z2
  refine DrH.de (fun _ _ => GOp.op (OpY.fieldAddr Tryd.underlying24 rfl ti22 rfl rfl rfl (er rfl))) ?_
  refine DrH.de (fun _ hE17 => GOp.op (OpY.ldBox1 Tryd.underlying22 rfl rfl ((hL11.ext hE17).at 1 rfl rfl) rfl (er rfl))) ?_
  refine DrH.fin0 ?_
  rintro w18 Z19 hE18 hZ15 ⟨⟨⟨ob10, cap10, cs10, sp10, rfl, hO10, hE10, hc10, -⟩, hB2⟩, -⟩ ap10
  have hB10 : ∀ b, some b ∈ ([ob10] : List (Option Nat)) → w11.heap.size ≤ b ∧ ¬ Z19 b := by
   intro b hb
   rcases List.mem_cons.1 hb with hb' | hb
   ·
    have := hB2 b ((footV_osv (ob := ob10) (o := 0) (n := (List.length r10)) (cap := cap10)).2 (by rw [hb']; exact List.mem_cons_self)); exact ⟨this.1, this.2.2⟩
   cases hb
  replace hE10 := hE10.mono (Zv.fin hL11 hZ15 hB10)
  have hN11 : NewOwn w11 w18 [ob10] [Cont.cells ([] ++ (cs10 ++ sp10))] := (NewOwn.cons NewOwn.nil hO10 (fun b hb => (hB10 b (by rw [← hb]; simp)).1) (fun b _ hb => by cases hb))
  have hp10 := hL11.adoptL hE18 hN11
  have hL14 := hp10.1
  have K13 := ks w hp10.2
  obtain ⟨r11, q11, h⟩ := bind_some h
  have f10 := (((((b_h.mono (K4 S)).mono (K9 S)).mono (K10 S)).mono (K11 S)).mono (K13 S))
  refine Rl.op (OpY.call en54 rfl rfl (btrim_w N b.Digits b_v _ Any (f10.mono vw_any) r11 q11) ?_)
  rintro _ w19 hE19 ⟨ob11, cap11, cs11, sp11, rfl, hN12, hE20, hc11, -⟩
  replace hE20 := hE20.mono (Hv.freshO (S := None) hL14 [ob11])
  have hp11 := hL14.adoptL hE19 hN12
  have hL15 := hp11.1
  have K14 := ks w hp11.2
  refine Rl.op (OpY.assign (v := (osv ob10 0 (List.length r10) cap10)) rfl ?_)
  refine Rl.op (OpY.assign (v := (osv ob11 0 (List.length r11) cap11)) rfl ?_)
  refine Rl.nil (Swp.seq ?_)
  obtain ⟨s10, hl10, g10⟩ := bind_some h
  refine Swp.join (fun e w' => ∃ (x10 : (List Int)) (ob12 : Option Nat) (cap12 : Nat) (sp12 : List Value) (cs12 : List Value) (ln10 : Nat) (u : Env), x10 = s10 ∧ e = upds [(4, (Value.pointer (some ⟨b10, 0, none⟩))), (5, (osv ob12 0 ln10 cap12))] u ∧ Go.X.Loc [] [] w w' [some b10, ob12] [Cont.cells [(Value.bool false), (Value.slice none 0 0)], Cont.cells ([] ++ (cs12 ++ sp12))] ∧ Keep w.heap.size [ob11, ob10, some b10, some b6, some b1] w19 [some b10, ob12] w' ∧ Els (rInt .u32) (Hv w.heap.size None [some b10, ob12] w') cs12 x10 ∧ ln10 = List.length x10 ∧ (cs12 ++ sp12).length = cap12 * (rInt .u32).sz ∧ True) ?_ ?_
  ·
   refine Swp.block ?_
   have hp12 := hL15.pick [2, 1, 0] rfl rfl rfl
   have hL16 : Go.X.Loc [] [] w w19 [some b10, ob10, ob11] [Cont.cells [(Value.bool false), (Value.slice none 0 0)], Cont.cells ([] ++ (cs10 ++ sp10)), Cont.cells ([] ++ (cs11 ++ sp11))] := hp12.1
   have K15 := ks w hp12.2
   have f11 := ((hE10.mono (K14 None)).mono (K15 None))
   have f12 := (hE20.mono (K15 None))
   refine Swp.loopM hl10 (fun (ss : ((List Int) × (List Int))) (e : Env) (w' : World) => match ss with | (x11, y10) => ∃ (ob13 : Option Nat) (cap13 : Nat) (sp13 : List Value) (cs13 : List Value) (ln11 : Nat) (ob14 : Option Nat) (cap14 : Nat) (sp14 : List Value) (cs14 : List Value) (ln12 : Nat) (u : Env), e = upds [(4, (Value.pointer (some ⟨b10, 0, none⟩))), (5, (osv ob13 0 ln11 cap13)), (6, (osv ob14 0 ln12 cap14))] u ∧ Go.X.Loc [] [] w w' [some b10, ob13, ob14] [Cont.cells [(Value.bool false), (Value.slice none 0 0)], Cont.cells ([] ++ (cs13 ++ sp13)), Cont.cells ([] ++ (cs14 ++ sp14))] ∧ Keep w.heap.size [ob11, ob10, some b10, some b6, some b1] w19 [some b10, ob13, ob14] w' ∧ Els (rInt .u32) (Hv w.heap.size None [some b10, ob13, ob14] w') cs13 x11 ∧ ln11 = List.length x11 ∧ (cs13 ++ sp13).length = cap13 * (rInt .u32).sz ∧ Els (rInt .u32) (Hv w.heap.size None [some b10, ob13, ob14] w') cs14 y10 ∧ ln12 = List.length y10 ∧ (cs14 ++ sp14).length = cap14 * (rInt .u32).sz ∧ True) ⟨ob10, cap10, sp10, cs10, (List.length r10), ob11, cap11, sp11, cs11, (List.length r11), _, (upds_sym ⟨rfl, rfl, rfl, trivial⟩), hL16, K15, f11, rfl, hc10, f12, rfl, hc11, trivial⟩ ?_
   rintro ⟨x11, y10⟩ oo _ w20 ⟨ob13, cap13, sp13, cs13, ln11, ob14, cap14, sp14, cs14, ln12, u, rfl, hL17, K16, hE21, rfl, hc12, hE22, rfl, hc13, -⟩ h hd10
   rw [bGCDO_b1] at h
   refine Swp.seq (Swp.seq (Swp.region rfl (Rl.op (OpY.move (v := (osv ob14 0 (List.length y10) cap14)) rfl ?_))))
   refine Rl.op (OpY.lenRow (pre := []) (r := (rInt .u32)) (xs := y10) Tryd.underlying22 rfl (hL17.at 2 rfl rfl) hE22 rfl rfl ?_)
   refine Rl.op (OpY.gtr (x := (List.length y10 : Int)) (y := 0) (((List.length y10 : Int) : Int) > 0) rfl rfl Iff.rfl ?_)
   refine Rl.nil ?_
   refine Swp.cond_d (((List.length y10 : Int) : Int) > 0) rfl (fun hc14 => ?_) (fun hc14 => ?_)
   ·
    replace h := ite_t hc14 h
    refine Swp.skip (Swp.block (Swp.seq (Swp.region rfl (Rl.op (OpY.move (v := (osv ob13 0 (List.length x11) cap13)) rfl ?_)))))
    refine Rl.op (OpY.move (v := (osv ob14 0 (List.length y10) cap14)) rfl ?_)
    obtain ⟨r12, q12, h⟩ := bind_some h
    refine Rl.op (OpY.call en45 rfl rfl (bdivide_w N x11 y10 (osv ob13 0 (List.length x11) cap13) (osv ob14 0 (List.length y10) cap14) _ Any (own_row_any (pre := []) (o := 0) (n := (List.length x11)) (cap := cap13) (hL17.at 1 rfl rfl) hE21 vw_any rfl rfl rfl hc12) (own_row_any (pre := []) (o := 0) (n := (List.length y10)) (cap := cap14) (hL17.at 2 rfl rfl) hE22 vw_any rfl rfl rfl hc13) r12 q12) ?_)
    rintro _ w21 hE23 ⟨ob15, cap15, cs15, sp15, ob16, cap16, cs16, sp16, rfl, hN13, hE24, hc15, hE25, hc16, -⟩
    replace hE24 := hE24.mono (Hv.freshO (S := None) hL17 [ob15, ob16])
    replace hE25 := hE25.mono (Hv.freshO (S := None) hL17 [ob15, ob16])
    have hp13 := hL17.adoptL hE23 hN13
    have hL18 := hp13.1
    have K17 := ks w hp13.2
    refine Rl.op (OpY.move (v := (Value.tuple #[(osv ob15 0 (List.length r12.1) cap15), (osv ob16 0 (List.length r12.2) cap16)])) rfl ?_)
    refine Rl.op (OpY.extract (vs := [(osv ob15 0 (List.length r12.1) cap15), (osv ob16 0 (List.length r12.2) cap16)]) (v := (osv ob15 0 (List.length r12.1) cap15)) rfl rfl ?_)
    refine Rl.op (OpY.extract (vs := [(osv ob15 0 (List.length r12.1) cap15), (osv ob16 0 (List.length r12.2) cap16)]) (v := (osv ob16 0 (List.length r12.2) cap16)) rfl rfl ?_)
    refine Rl.op (OpY.assign (v := (osv ob15 0 (List.length r12.1) cap15)) rfl ?_)
    refine Rl.op (OpY.assign (v := (osv ob16 0 (List.length r12.2) cap16)) rfl ?_)
    refine Rl.nil (Swp.region rfl (Rl.op (OpY.move (v := (osv ob14 0 (List.length y10) cap14)) rfl ?_)))
    refine Rl.op (OpY.move (v := (osv ob16 0 (List.length r12.2) cap16)) rfl ?_)
    refine Rl.op (OpY.assign (v := (osv ob14 0 (List.length y10) cap14)) rfl ?_)
    refine Rl.op (OpY.assign (v := (osv ob16 0 (List.length r12.2) cap16)) rfl ?_)
    refine Rl.nil (Swp.pop_blk ?_)
    have hp14 := hL18.pick [2, 4, 1] rfl rfl rfl
    have hL19 : Go.X.Loc [] [] w w21 [some b10, ob14, ob16] [Cont.cells [(Value.bool false), (Value.slice none 0 0)], Cont.cells ([] ++ (cs14 ++ sp14)), Cont.cells ([] ++ (cs16 ++ sp16))] := hp14.1
    have K18 := ks w hp14.2
    have f13 := ((hE22.mono (K17 None)).mono (K18 None))
    have f14 := (hE25.mono (K18 None))
    obtain rfl := Option.some.inj h
    refine Swp.pop_back ⟨(y10, r12.2), rfl, ?_⟩
    exact ⟨ob14, cap14, sp14, cs14, (List.length y10), ob16, cap16, sp16, cs16, (List.length r12.2), _, (upds_sym ⟨rfl, rfl, rfl, trivial⟩), hL19, (Keep.trans (Keep.trans K16 K17) K18), f13, rfl, hc13, f14, rfl, hc16, trivial⟩
   ·
    replace h := ite_f hc14 h
    refine Swp.exit rfl ?_
    have hp15 := hL17.pick [0, 1] rfl rfl rfl
    have hL20 : Go.X.Loc [] [] w w20 [some b10, ob13] [Cont.cells [(Value.bool false), (Value.slice none 0 0)], Cont.cells ([] ++ (cs13 ++ sp13))] := hp15.1
    have K19 := ks w hp15.2
    have f15 := (hE21.mono (K19 None))
    obtain rfl := Option.some.inj h
    obtain rfl := hd10 _ rfl
    replace h := g10
    try dsimp only at h
    skip
    refine Swp.pop_back ?_
    exact ⟨x11, ob13, cap13, sp13, cs13, (List.length x11), _, rfl, (upds_sym ⟨rfl, rfl, trivial⟩), hL20, (Keep.trans K16 K19), f15, rfl, hc12, trivial⟩
  ·
   rintro _ w22 ⟨x10, ob12, cap12, sp12, cs12, ln10, u, rfl, rfl, hL21, K20, hE26, rfl, hc17, -⟩
   replace h := g10
   try dsimp only at h
   refine Swp.seq (Swp.region rfl (Rl.op (OpY.move (v := (osv ob12 0 (List.length x10) cap12)) rfl ?_)))
   obtain ⟨r13, q13, h⟩ := bind_some h
   refine Rl.op (OpY.call en48 rfl rfl (bnormalO_w N false x10 (osv ob12 0 (List.length x10) cap12) _ Any (own_row_any (pre := []) (o := 0) (n := (List.length x10)) (cap := cap12) (hL21.at 1 rfl rfl) hE26 vw_any rfl rfl rfl hc17) r13 q13) ?_)
   rintro _ w23 hE27 ⟨ob17, cap17, cs17, sp17, rfl, hN14, hE28, hc18, -⟩
   replace hE28 := hE28.mono (Hv.freshO (S := None) hL21 [ob17])
   have hp16 := hL21.adoptL hE27 hN14
   have hL22 := hp16.1
   refine Rl.op0 (OpY.store (vs := [(Value.bool r13.Negative), (osv ob17 0 (List.length r13.Digits) cap17)]) ti24 rfl rfl rfl rfl (ones_cons rfl (ones_cons (osv_one _ _ _ _) ones_nil)) hL22 1 rfl rfl (Nat.le_of_ble_eq_true rfl) ?_)
   intro w24 (hL23 : Go.X.Loc [] [] w w24 [ob17, some b10, ob12] [Cont.cells ([] ++ (cs17 ++ sp17)), Cont.cells [(Value.bool r13.Negative), (osv ob17 0 (List.length r13.Digits) cap17)], Cont.cells ([] ++ (cs12 ++ sp12))]) hS12
   have K21 := ks w hS12
   refine Rl.nil (Swp.ret ?_)
   obtain rfl := Option.some.inj h
   refine ⟨[(Value.agg #[(Value.bool r13.Negative), (osv ob17 0 (List.length r13.Digits) cap17)])], ⟨⟨⟨b10, 0, none⟩, rfl, res_boxA Tryd.underlying24 rfl ti24 (hL23.at 1 rfl rfl) rfl⟩, trivial⟩, ⟨_, rfl, hL23.done, ?_⟩⟩
   have f16 := (hE28.mono (K21 None))
   exact ⟨ob17, cap17, cs17, sp17, rfl, (hL23.newOwn [0] rfl rfl rfl), (f16.mono (Hv.pick [0] rfl)), hc18, trivial⟩
end Go.Proofs.YthmoefciofnmdaaDoor.WC

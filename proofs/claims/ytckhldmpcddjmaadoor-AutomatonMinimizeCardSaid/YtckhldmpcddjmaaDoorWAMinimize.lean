/- Walks, written by a program of mine (wip/tool); the kernel checks them. -/
import Derived.Test.YtckhldmpcddjmaaDoorWAMinimizex0
set_option maxRecDepth 100000
set_option maxHeartbeats 40000000
set_option linter.unusedVariables false
set_option linter.unusedSimpArgs false
namespace Go.Proofs.YtckhldmpcddjmaaDoor.WA
open Go Go.RowKit Go.X Go.D Go.Proofs.YtckhldmpcddjmaaDoor.WF 
theorem aMinimize_w (N : Nat) (d : ADfa) (d_v : Value) (d_v1 : Value) (w : World) (S : Nat → Prop) (hG : G w) (d_h : Rs rBool (Hv w.heap.size S [] w) d_v d.Accept) (d_h1 : Rs (rSl rAEdge) (Hv w.heap.size S [] w) d_v1 d.Edges) (r : (ADfa × Int)) (h : aMinimize N d = some r) :
  Calls Tryd.prog 22 #[(Value.agg #[d_v, d_v1])] w (Ret w (fun v w' => ∃ (v0_0 : Value) (v0_1 : Value), .tuple #[(Value.agg #[v0_0, v0_1]), (Value.int .i64 r.2)] = v ∧ Rs rBool (Hv w.heap.size None [] w') v0_0 r.1.Accept ∧ Rs (rSl rAEdge) (Hv w.heap.size None [] w') v0_1 r.1.Edges ∧ True)) := by
 unfold aMinimize at h
 have hL : Go.X.Loc [] [] w w [] [] := Go.X.Loc.begin0 w
 refine calls_of (l := [(Value.agg #[d_v, d_v1])]) (rl := [.cell 2 32, .tmp 3]) (n := 130) Tryd.func22 rfl rfl rfl (Nat.le_of_ble_eq_true rfl) ?_
 refine Swp.seq (Swp.region rfl (Rl.op (OpY.box (cs := [d_v, d_v1]) rfl rfl hL ?_)))
 intro b1 w2 hL3 hS5
 have K4 := ks w hS5
 refine Rl.op (OpY.alloc (cs := [(Value.slice none 0 0), (Value.slice none 0 0)]) ti32 rfl hL3 ?_)
 intro b6 w7 hL8 hS10
 have K9 := ks w hS10
 refine Rl.op (OpY.assign (v := (Value.int .i64 0)) rfl ?_)
 refine Rl.nil (Swp.seq (Swp.region rfl ?_))
 obtain ⟨r10, q10, h⟩ := bind_some h
 have f10 := ((d_h.mono (K4 S)).mono (K9 S))
 have f11 := ((d_h1.mono (K4 S)).mono (K9 S))
 refine Rl.op (OpY.call en43 rfl rfl (aUseful_w N d b1 d_v d_v1 _ Any (own_any (hL8.at 1 rfl rfl)) (f10.mono vw_any) (f11.mono vw_any) r10 q10) ?_)
 rintro _ w10 hE10 ⟨ob10, cap10, cs10, sp10, rfl, hN10, hE11, hc10, -⟩
 replace hE11 := hE11.mono (Hv.freshO (S := None) hL8 [ob10])
 have hp10 := hL8.adoptL hE10 hN10
 have hL10 := hp10.1
 have K10 := ks w hp10.2
 refine Rl.op (OpY.assign (v := (osv ob10 0 (List.length r10) cap10)) rfl ?_)
 refine Rl.nil (Swp.seq (Swp.seq (Swp.region rfl (Rl.op (OpY.move (v := (osv ob10 0 (List.length r10) cap10)) rfl ?_)))))
 obtain ⟨x10, q11, h⟩ := bind_some h
 obtain ⟨n10, q12, q13⟩ := idx_some q11
 have q14 := (List.getElem?_eq_some_iff.1 q13).1
 obtain ⟨b10, hb10⟩ := hL10.row_some 0 rfl rfl (row_pos (pre := []) hE11 q13 (Nat.lt_of_sub_eq_succ rfl))
 refine Rl.op (OpY.ixRowD (r := rBool) (b := b10) (o := 0) (n := n10) (m := (List.length r10)) (xs := r10) (q := (0 + n10 * rBool.sz)) Tryd.underlying22 ti4 (osv_some hb10) rfl rfl q12 q14 rfl ?_)
 obtain ⟨vs10, q15, q16, q17⟩ := row_elem (pre := []) (sp := sp10) hE11 q13
 obtain rfl := q16
 refine Rl.op (OpY.ldElem1 (v := (Value.bool x10)) Tryd.underlying4 rfl rfl (own_some hb10 (hL10.at 0 rfl rfl)) q17 ?_)
 refine Rl.op (OpY.not (x := x10) rfl ?_)
 refine Rl.nil ?_
 refine Swp.cond_b (!x10) rfl (fun hc11 => ?_) (fun hc11 => ?_)
 ·
  replace h := ite_t hc11 h
  refine Swp.seq (Swp.region rfl ?_)
  have hE12 : Els rBool (Hv w.heap.size None [ob10, some b6, some b1] w10) [(Value.bool false)] [false] := (Els.cons (a := [(Value.bool false)]) rfl Els.nil)
  refine Rl.op (OpY.litRow (r := rBool) (vs := [(Value.bool false)]) (css := [[(Value.bool false)]]) (xs := [false]) Tryd.underlying22 ti4 (Nat.le_of_ble_eq_true rfl) rfl rfl ⟨rfl, rfl, trivial⟩ (Nat.le_of_ble_eq_true rfl) hE12 rfl hL10 ?_)
  intro b11 w11 hc12 hL11 hS11
  have K11 := ks w hS11
  have hE13 : Els (rSl rAEdge) (Hv w.heap.size None [some b11, ob10, some b6, some b1] w11) [(Value.slice none 0 0)] [[]] := (Els.cons (a := [(Value.slice none 0 0)]) ⟨_, rfl, Rs.nil⟩ Els.nil)
  refine Rl.op (OpY.litRow (r := (rSl rAEdge)) (vs := [(Value.slice none 0 0)]) (css := [[(Value.slice none 0 0)]]) (xs := [[]]) Tryd.underlying30 ti58 (Nat.le_of_ble_eq_true rfl) rfl rfl ⟨rfl, rfl, trivial⟩ (Nat.le_of_ble_eq_true rfl) hE13 rfl hL11 ?_)
  intro b12 w12 hc13 hL12 hS12
  have K12 := ks w hS12
  refine Rl.op (OpY.build (zc := [(Value.slice none 0 0), (Value.slice none 0 0)]) (cs := [(osv (some b11) 0 1 1), (osv (some b12) 0 1 1)]) (is := [0, 1]) (vs := [(osv (some b11) 0 1 1), (osv (some b12) 0 1 1)]) (css := [[(osv (some b11) 0 1 1)], [(osv (some b12) 0 1 1)]]) pl32 ti32 rfl rfl rfl ⟨(one_cells (osv_one _ _ _ _)), ⟨(one_cells (osv_one _ _ _ _)), trivial⟩⟩ rfl ?_)
  refine Rl.op0 (OpY.store (vs := [(osv (some b11) 0 1 1), (osv (some b12) 0 1 1)]) ti32 rfl rfl rfl rfl (ones_cons (osv_one _ _ _ _) (ones_cons (osv_one _ _ _ _) ones_nil)) hL12 3 rfl rfl (Nat.le_of_ble_eq_true rfl) ?_)
  intro w13 (hL13 : Go.X.Loc [] [] w w13 [some b12, some b11, ob10, some b6, some b1] [Cont.cells ([] ++ ([(Value.slice none 0 0)] ++ [])), Cont.cells ([] ++ ([(Value.bool false)] ++ [])), Cont.cells ([] ++ (cs10 ++ sp10)), Cont.cells [(osv (some b11) 0 1 1), (osv (some b12) 0 1 1)], Cont.cells [d_v, d_v1]]) hS13
  have K13 := ks w hS13
  refine Rl.op (OpY.assign (v := (Value.int .i64 0)) rfl ?_)
  refine Rl.nil ?_
  have f12 := (((hE12.mono (K11 None)).mono (K12 None)).mono (K13 None))
  have f13 := hL13.freezeRow 1 rfl rfl f12 rfl rfl rfl hc12
  have hp11 := hL13.pick [0, 2, 3, 4] rfl rfl rfl
  have hL14 : Go.X.Loc [] [] w w13 [some b12, ob10, some b6, some b1] [Cont.cells ([] ++ ([(Value.slice none 0 0)] ++ [])), Cont.cells ([] ++ (cs10 ++ sp10)), Cont.cells [(osv (some b11) 0 1 1), (osv (some b12) 0 1 1)], Cont.cells [d_v, d_v1]] := hp11.1
  have K14 := ks w hp11.2
  have f14 := (((hE13.mono (K12 None)).mono (K13 None)).mono (K14 None))
  have f15 := hL14.freezeRow 0 rfl rfl f14 rfl rfl rfl hc13
  have hp12 := hL14.pick [1, 2, 3] rfl rfl rfl
  have hL15 : Go.X.Loc [] [] w w13 [ob10, some b6, some b1] [Cont.cells ([] ++ (cs10 ++ sp10)), Cont.cells [(osv (some b11) 0 1 1), (osv (some b12) 0 1 1)], Cont.cells [d_v, d_v1]] := hp12.1
  have K15 := ks w hp12.2
  refine Swp.ret ?_
  obtain rfl := Option.some.inj h
  refine ⟨[(Value.agg #[(osv (some b11) 0 1 1), (osv (some b12) 0 1 1)]), (Value.int .i64 0)], ⟨⟨⟨b6, 0, none⟩, rfl, res_boxA Tryd.underlying32 rfl ti32 (hL15.at 1 rfl rfl) rfl⟩, ⟨rfl, trivial⟩⟩, ⟨_, rfl, hL15.done, ?_⟩⟩
  have f16 := (f13.mono (K15 None))
  exact ⟨(osv (some b11) 0 1 1), (osv (some b12) 0 1 1), rfl, (f16.mono Hv.out), (f15.mono Hv.out), trivial⟩
 ·
  replace h := ite_f hc11 h
  refine Swp.skip (Swp.seq (Swp.region rfl (Rl.op (OpY.move (v := (osv ob10 0 (List.length r10) cap10)) rfl ?_))))
  obtain ⟨r11, q18, h⟩ := bind_some h
  have f17 := (f10.mono (K10 S))
  have f18 := (f11.mono (K10 S))
  refine Rl.op (OpY.call en44 rfl rfl (aPartition_w N d r10 b1 d_v d_v1 (osv ob10 0 (List.length r10) cap10) _ Any (hG.ext hL10.done) (own_any (hL10.at 2 rfl rfl)) (f17.mono vw_any) (f18.mono vw_any) (own_row_any (pre := []) (o := 0) (n := (List.length r10)) (cap := cap10) (hL10.at 0 rfl rfl) hE11 vw_any rfl rfl rfl hc10) r11 q18) ?_)
  rintro _ w14 hE14 ⟨ob11, cap11, cs11, sp11, rfl, hN11, hE15, hc14, -⟩
  replace hE15 := hE15.mono (Hv.freshO (S := None) hL10 [ob11])
  have hp13 := hL10.adoptL hE14 hN11
  have hL16 := hp13.1
  have K16 := ks w hp13.2
  refine Rl.op (OpY.assign (v := (osv ob11 0 (List.length r11) cap11)) rfl ?_)
  refine Rl.nil (Swp.seq (Swp.region rfl (Rl.op (OpY.alloc (cs := [(Value.slice none 0 0), (Value.slice none 0 0)]) ti32 rfl hL16 ?_))))
  intro b13 w15 hL17 hS14
  have K17 := ks w hS14
  refine Rl.nil (Swp.seq (Swp.region rfl (Rl.op (OpY.makeMap (kf := (fun x : Int => Value.int .i64 x)) (vf := (fun x : Int => Value.int .i64 x)) hL17 ?_))))
  intro b14 w16 hL18 hS15
  have K18 := ks w hS15
  refine Rl.op (OpY.move (v := (osv ob11 0 (List.length r11) cap11)) rfl ?_)
  obtain ⟨x11, q19, h⟩ := bind_some h
  obtain ⟨n11, q20, q21⟩ := idx_some q19
  have q22 := (List.getElem?_eq_some_iff.1 q21).1
  have f19 := ((hE15.mono (K17 None)).mono (K18 None))
  obtain ⟨b15, hb11⟩ := hL18.row_some 2 rfl rfl (row_pos (pre := []) f19 q21 (Nat.lt_of_sub_eq_succ rfl))
  refine Rl.op (OpY.ixRowD (r := (rInt .i64)) (b := b15) (o := 0) (n := n11) (m := (List.length r11)) (xs := r11) (q := (0 + n11 * (rInt .i64).sz)) Tryd.underlying78 ti3 (osv_some hb11) rfl rfl q20 q22 rfl ?_)
  obtain ⟨vs11, q23, q24, q25⟩ := row_elem (pre := []) (sp := sp11) f19 q21
  obtain rfl := q24
  refine Rl.op (OpY.ldElem1 (v := (Value.int .i64 x11)) Tryd.underlying3 rfl rfl (own_some hb11 (hL18.at 2 rfl rfl)) q25 ?_)
  refine Rl.op0 (OpY.mapIns (kf := (fun x : Int => Value.int .i64 x)) (vf := (fun x : Int => Value.int .i64 x)) (m := ([] : (List (Int × Int)))) (x := x11) (y := 0) mky_3 Tryd.underlying80 rfl rfl rfl hL18 0 rfl rfl ?_)
  intro w17 (hL19 : Go.X.Loc [] [] w w17 [some b14, some b13, ob11, ob10, some b6, some b1] [(mcont (fun x : Int => Value.int .i64 x) (fun x : Int => Value.int .i64 x) (mput ([] : (List (Int × Int))) x11 0)), Cont.cells [(Value.slice none 0 0), (Value.slice none 0 0)], Cont.cells ([] ++ (cs11 ++ sp11)), Cont.cells ([] ++ (cs10 ++ sp10)), Cont.cells [(Value.slice none 0 0), (Value.slice none 0 0)], Cont.cells [d_v, d_v1]]) hS16
  have K19 := ks w hS16
  refine Rl.op (OpY.move (v := (Value.map (some b14))) rfl ?_)
  refine Rl.op (OpY.assign (v := (Value.map (some b14))) rfl ?_)
  refine Rl.nil (Swp.seq (Swp.region rfl ?_))
  have hE16 : Els (rInt .i64) (Hv w.heap.size None [some b14, some b13, ob11, ob10, some b6, some b1] w17) [(Value.int .i64 0)] [0] := (Els.cons (a := [(Value.int .i64 0)]) rfl Els.nil)
  refine Rl.op (OpY.litRow (r := (rInt .i64)) (vs := [(Value.int .i64 0)]) (css := [[(Value.int .i64 0)]]) (xs := [0]) Tryd.underlying78 ti3 (Nat.le_of_ble_eq_true rfl) rfl rfl ⟨rfl, rfl, trivial⟩ (Nat.le_of_ble_eq_true rfl) hE16 rfl hL19 ?_)
  intro b16 w18 hc15 hL20 hS17
  have K20 := ks w hS17
  refine Rl.op (OpY.assign (v := (osv (some b16) 0 1 1)) rfl ?_)
  refine Rl.nil (Swp.seq (Swp.seq (Swp.region rfl (Rl.op (OpY.assign (v := (Value.int .i64 0)) rfl ?_)))))
  refine Rl.nil ?_
  obtain ⟨s10, hl10, g10⟩ := bind_some h
  refine Swp.join (fun e w' => ∃ (accept10 : (List Bool)) (edges10 : (List (List AEdge))) (ob12 : Option Nat) (cap12 : Nat) (sp12 : List Value) (cs12 : List Value) (ln10 : Nat) (ob13 : Option Nat) (cap13 : Nat) (sp13 : List Value) (cs13 : List Value) (ln11 : Nat) (u : Env), (accept10, edges10) = s10 ∧ e = upds [(2, (Value.pointer (some ⟨b6, 0, none⟩))), (6, (Value.pointer (some ⟨b13, 0, none⟩)))] u ∧ Go.X.Loc [] [] w w' [some b6, some b13, ob12, ob13] [Cont.cells [(Value.slice none 0 0), (Value.slice none 0 0)], Cont.cells [(osv ob12 0 ln10 cap12), (osv ob13 0 ln11 cap13)], Cont.cells ([] ++ (cs12 ++ sp12)), Cont.cells ([] ++ (cs13 ++ sp13))] ∧ Keep w.heap.size [some b16, some b14, some b13, ob11, ob10, some b6, some b1] w18 [some b6, some b13, ob12, ob13] w' ∧ Els rBool (Hv w.heap.size None [some b6, some b13, ob12, ob13] w') cs12 accept10 ∧ ln10 = List.length accept10 ∧ (cs12 ++ sp12).length = cap12 * rBool.sz ∧ Els (rSl rAEdge) (Hv w.heap.size None [some b6, some b13, ob12, ob13] w') cs13 edges10 ∧ ln11 = List.length edges10 ∧ (cs13 ++ sp13).length = cap13 * (rSl rAEdge).sz ∧ True) ?_ ?_
  ·
   refine Swp.block ?_
   have hp14 := hL20.addNil
   have hL21 : Go.X.Loc [] [] w w18 [none, some b16, some b14, some b13, ob11, ob10, some b6, some b1] [Cont.cells ([] ++ ([] ++ [])), Cont.cells ([] ++ ([(Value.int .i64 0)] ++ [])), (mcont (fun x : Int => Value.int .i64 x) (fun x : Int => Value.int .i64 x) (mput ([] : (List (Int × Int))) x11 0)), Cont.cells [(Value.slice none 0 0), (Value.slice none 0 0)], Cont.cells ([] ++ (cs11 ++ sp11)), Cont.cells ([] ++ (cs10 ++ sp10)), Cont.cells [(Value.slice none 0 0), (Value.slice none 0 0)], Cont.cells [d_v, d_v1]] := hp14.1
   have K21 := ks w hp14.2
   have hp15 := hL21.addNil
   have hL22 : Go.X.Loc [] [] w w18 [none, none, some b16, some b14, some b13, ob11, ob10, some b6, some b1] [Cont.cells ([] ++ ([] ++ [])), Cont.cells ([] ++ ([] ++ [])), Cont.cells ([] ++ ([(Value.int .i64 0)] ++ [])), (mcont (fun x : Int => Value.int .i64 x) (fun x : Int => Value.int .i64 x) (mput ([] : (List (Int × Int))) x11 0)), Cont.cells [(Value.slice none 0 0), (Value.slice none 0 0)], Cont.cells ([] ++ (cs11 ++ sp11)), Cont.cells ([] ++ (cs10 ++ sp10)), Cont.cells [(Value.slice none 0 0), (Value.slice none 0 0)], Cont.cells [d_v, d_v1]] := hp15.1
   have K22 := ks w hp15.2
   have hp16 := hL22.pick [8, 7, 5, 4, 1, 0, 3, 2] rfl rfl rfl
   have hL23 : Go.X.Loc [] [] w w18 [some b1, some b6, ob11, some b13, none, none, some b14, some b16] [Cont.cells [d_v, d_v1], Cont.cells [(Value.slice none 0 0), (Value.slice none 0 0)], Cont.cells ([] ++ (cs11 ++ sp11)), Cont.cells [(osv none 0 (List.length ([] : (List Bool))) 0), (osv none 0 (List.length ([] : (List (List AEdge)))) 0)], Cont.cells ([] ++ ([] ++ [])), Cont.cells ([] ++ ([] ++ [])), (mcont (fun x : Int => Value.int .i64 x) (fun x : Int => Value.int .i64 x) (mput ([] : (List (Int × Int))) x11 0)), Cont.cells ([] ++ ([(Value.int .i64 0)] ++ []))] := hp16.1
   have K23 := ks w hp16.2
   have f20 := (((Els.nil (r := rBool)).mono (K22 None)).mono (K23 None))
   have f21 := ((Els.nil (r := (rSl rAEdge))).mono (K23 None))
   have f22 := ((((hE16.mono (K20 None)).mono (K21 None)).mono (K22 None)).mono (K23 None))
   refine Swp.loopM hl10 (fun (ss : ((List Bool) × (List (List AEdge)) × (List (Int × Int)) × (List Int) × Int)) (e : Env) (w' : World) => match ss with | (accept11, edges11, number10, states10, i10) => ∃ (ob14 : Option Nat) (cap14 : Nat) (sp14 : List Value) (cs14 : List Value) (ln12 : Nat) (ob15 : Option Nat) (cap15 : Nat) (sp15 : List Value) (cs15 : List Value) (ln13 : Nat) (ob16 : Option Nat) (cap16 : Nat) (sp16 : List Value) (cs16 : List Value) (ln14 : Nat) (u : Env), e = upds [(1, (Value.pointer (some ⟨b1, 0, none⟩))), (2, (Value.pointer (some ⟨b6, 0, none⟩))), (5, (osv ob11 0 (List.length r11) cap11)), (6, (Value.pointer (some ⟨b13, 0, none⟩))), (7, (Value.map (some b14))), (8, (osv ob16 0 ln14 cap16)), (9, (Value.int .i64 i10))] u ∧ Go.X.Loc [] [] w w' [some b1, some b6, ob11, some b13, ob14, ob15, some b14, ob16] [Cont.cells [d_v, d_v1], Cont.cells [(Value.slice none 0 0), (Value.slice none 0 0)], Cont.cells ([] ++ (cs11 ++ sp11)), Cont.cells [(osv ob14 0 ln12 cap14), (osv ob15 0 ln13 cap15)], Cont.cells ([] ++ (cs14 ++ sp14)), Cont.cells ([] ++ (cs15 ++ sp15)), (mcont (fun x : Int => Value.int .i64 x) (fun x : Int => Value.int .i64 x) number10), Cont.cells ([] ++ (cs16 ++ sp16))] ∧ Keep w.heap.size [some b16, some b14, some b13, ob11, ob10, some b6, some b1] w18 [some b1, some b6, ob11, some b13, ob14, ob15, some b14, ob16] w' ∧ Els rBool (Hv w.heap.size None [some b1, some b6, ob11, some b13, ob14, ob15, some b14, ob16] w') cs14 accept11 ∧ ln12 = List.length accept11 ∧ (cs14 ++ sp14).length = cap14 * rBool.sz ∧ Els (rSl rAEdge) (Hv w.heap.size None [some b1, some b6, ob11, some b13, ob14, ob15, some b14, ob16] w') cs15 edges11 ∧ ln13 = List.length edges11 ∧ (cs15 ++ sp15).length = cap15 * (rSl rAEdge).sz ∧ Els (rInt .i64) (Hv w.heap.size None [some b1, some b6, ob11, some b13, ob14, ob15, some b14, ob16] w') cs16 states10 ∧ ln14 = List.length states10 ∧ (cs16 ++ sp16).length = cap16 * (rInt .i64).sz ∧ True) ⟨none, 0, [], [], (List.length ([] : (List Bool))), none, 0, [], [], (List.length ([] : (List (List AEdge)))), some b16, 1, [], [(Value.int .i64 0)], 1, _, (upds_sym ⟨rfl, rfl, rfl, rfl, rfl, rfl, rfl, trivial⟩), hL23, (Keep.trans (Keep.trans K21 K22) K23), f20, rfl, (show ([] ++ [] : List Value).length = 0 * rBool.sz by simp), f21, rfl, (show ([] ++ [] : List Value).length = 0 * (rSl rAEdge).sz by simp), f22, rfl, hc15, trivial⟩ ?_
   rintro ⟨accept11, edges11, number10, states10, i10⟩ oo _ w19 ⟨ob14, cap14, sp14, cs14, ln12, ob15, cap15, sp15, cs15, ln13, ob16, cap16, sp16, cs16, ln14, u, rfl, hL24, K24, hE17, rfl, hc16, hE18, rfl, hc17, hE19, rfl, hc18, -⟩ h hd10
   rw [aMinimize_b1] at h
   refine Swp.seq (Swp.seq (Swp.region rfl (Rl.op (OpY.move (v := (Value.int .i64 i10)) rfl ?_))))
   refine Rl.op (OpY.move (v := (osv ob16 0 (List.length states10) cap16)) rfl ?_)
   refine Rl.op (OpY.lenRow (pre := []) (r := (rInt .i64)) (xs := states10) Tryd.underlying78 rfl (hL24.at 7 rfl rfl) hE19 rfl rfl ?_)
   refine Rl.op (OpY.lss (x := i10) (y := (List.length states10 : Int)) ((i10 : Int) < (List.length states10 : Int)) rfl rfl Iff.rfl ?_)
   refine Rl.nil ?_
   refine Swp.cond_d ((i10 : Int) < (List.length states10 : Int)) rfl (fun hc19 => ?_) (fun hc19 => ?_)
   ·
    replace h := ite_t hc19 h
    refine Swp.skip (Swp.seq (Swp.block (Swp.seq (Swp.region rfl (Rl.op (OpY.move (v := (osv ob16 0 (List.length states10) cap16)) rfl ?_))))))
    refine Rl.op (OpY.move (v := (Value.int .i64 i10)) rfl ?_)
    obtain ⟨x12, q26, h⟩ := bind_some h
    obtain ⟨n12, q27, q28⟩ := idx_some q26
    have q29 := (List.getElem?_eq_some_iff.1 q28).1
    obtain ⟨b17, hb12⟩ := hL24.row_some 7 rfl rfl (row_pos (pre := []) hE19 q28 (Nat.lt_of_sub_eq_succ rfl))
    refine Rl.op (OpY.ixRowD (r := (rInt .i64)) (b := b17) (o := 0) (n := n12) (m := (List.length states10)) (xs := states10) (q := (0 + n12 * (rInt .i64).sz)) Tryd.underlying78 ti3 (osv_some hb12) rfl rfl q27 q29 rfl ?_)
    obtain ⟨vs12, q30, q31, q32⟩ := row_elem (pre := []) (sp := sp16) hE19 q28
    obtain rfl := q31
    refine Rl.op (OpY.ldElem1 (v := (Value.int .i64 x12)) Tryd.underlying3 rfl rfl (own_some hb12 (hL24.at 7 rfl rfl)) q32 ?_)
    refine Rl.op (OpY.assign (v := (Value.int .i64 x12)) rfl ?_)
    refine Rl.nil (Swp.seq (Swp.region rfl (Rl.op (OpY.fieldAddr (q := 0) Tryd.underlying32 rfl ti22 rfl rfl rfl ?_))))
    refine Rl.op (OpY.ldBox1 (v := d_v) Tryd.underlying22 rfl rfl (hL24.at 0 rfl rfl) rfl ?_)
    refine Rl.op (OpY.move (v := (Value.int .i64 x12)) rfl ?_)
    obtain ⟨x13, q33, h⟩ := bind_some h
    obtain ⟨n13, q34, q35⟩ := idx_some q33
    have f23 := ((((((f17.mono (K16 S)).mono (K17 S)).mono (K18 S)).mono (K19 S)).mono (K20 S)).mono (K24 S))
    obtain ⟨b18, o10, c10, vs13, q36, q37, f24, q38⟩ := Rs.get f23 q35
    obtain rfl := q38
    refine Rl.op (OpY.ixRoD (r := rBool) (v := d_v) (n := n13) (m := (o10 + n13 * rBool.sz)) Tryd.underlying22 ti4 rfl q36 rfl q34 q35 rfl ?_)
    refine Rl.op (OpY.ldRo1 (v := (Value.bool x13)) Tryd.underlying4 rfl rfl vw_view f24 ?_)
    obtain ⟨s11, h, g11⟩ := bind_some h
    refine Rl.op (OpY.callg (T := fun e w' => ∃ (accept12 : (List Bool)) (edgesL10 : (List AEdge)) (x14 : Int) (ob17 : Option Nat) (cap17 : Nat) (sp17 : List Value) (cs17 : List Value) (ln15 : Nat) (ob18 : Option Nat) (cap18 : Nat) (sp18 : List Value) (cs18 : List Value), (accept12, edgesL10, x14) = s11 ∧ e = Ending.returned (Value.int .i64 x14) ∧ Go.X.Loc [] [] w w' [some b1, some b6, ob11, some b13, ob17, ob18, none, some b14, ob16] [Cont.cells [d_v, d_v1], Cont.cells [(Value.slice none 0 0), (Value.slice none 0 0)], Cont.cells ([] ++ (cs11 ++ sp11)), Cont.cells [(osv ob17 0 ln15 cap17), (osv ob18 0 (List.length edges11 + 1) cap18)], Cont.cells ([] ++ (cs17 ++ sp17)), Cont.cells ([] ++ ((cs15 ++ [(osv none 0 (List.length ([] : (List AEdge))) 0)]) ++ sp18)), Cont.cells ([] ++ (cs18 ++ [])), (mcont (fun x : Int => Value.int .i64 x) (fun x : Int => Value.int .i64 x) number10), Cont.cells ([] ++ (cs16 ++ sp16))] ∧ Keep w.heap.size [some b1, some b6, ob11, some b13, ob14, ob15, some b14, ob16] w19 [some b1, some b6, ob11, some b13, ob17, ob18, none, some b14, ob16] w' ∧ Els rBool (Hv w.heap.size None [some b1, some b6, ob11, some b13, ob17, ob18, none, some b14, ob16] w') cs17 accept12 ∧ ln15 = List.length accept12 ∧ (cs17 ++ sp17).length = cap17 * rBool.sz ∧ (List.length cs15 + 1) + List.length sp18 = cap18 * (rSl rAEdge).sz ∧ Els rAEdge (Hv w.heap.size None [some b1, some b6, ob11, some b13, ob17, ob18, none, some b14, ob16] w') cs18 edgesL10 ∧ (List.length ([] : (List AEdge))) = List.length edgesL10 ∧ (cs18 ++ []).length = 0 * rAEdge.sz ∧ True) en45 rfl rfl ?_ ?_)
    ·
     refine calls_of (l := [(Value.pointer (some ⟨b13, 0, none⟩)), (Value.bool x13)]) (rl := [.tmp 4]) (n := 30) Tryd.func45 rfl rfl rfl (Nat.le_of_ble_eq_true rfl) ?_
     refine Swp.seq (Swp.region rfl (Rl.op (OpY.assign (v := (Value.int .i64 0)) rfl ?_)))
     refine Rl.nil (Swp.seq (Swp.region rfl (Rl.op (OpY.move (v := (Value.pointer (some ⟨b13, 0, none⟩))) rfl ?_))))
     refine Rl.op (OpY.move (v := (Value.pointer (some ⟨b13, 0, none⟩))) rfl ?_)
     refine Rl.op (OpY.nilCheck (b := ⟨b13, 0, none⟩) rfl ?_)
     refine Rl.op (OpY.fieldAddr (q := 0) Tryd.underlying32 rfl ti22 rfl rfl rfl ?_)
     refine Rl.op (OpY.ldBox1 (v := (osv ob14 0 (List.length accept11) cap14)) Tryd.underlying22 rfl rfl (hL24.at 3 rfl rfl) rfl ?_)
     refine Rl.op (OpY.move (v := (Value.bool x13)) rfl ?_)
     have hE20 : Els rBool (Hv w.heap.size None [some b1, some b6, ob11, some b13, ob14, ob15, some b14, ob16] w19) [(Value.bool x13)] [x13] := (Els.cons (a := [(Value.bool x13)]) rfl Els.nil)
     refine Rl.op (OpY.litRow (r := rBool) (vs := [(Value.bool x13)]) (css := [[(Value.bool x13)]]) (xs := [x13]) Tryd.underlying22 ti4 (Nat.le_of_ble_eq_true rfl) rfl rfl ⟨rfl, rfl, trivial⟩ (Nat.le_of_ble_eq_true rfl) hE20 rfl hL24 ?_)
     intro b19 w20 hc20 hL25 hS18
     have K25 := ks w hS18
     obtain ⟨x15, q39, h⟩ := bind_some h
     obtain ⟨q40, q41, q42⟩ := apnd_some q39
     have f25 := (hE20.mono (K25 None))
     have f26 := (hE17.mono (K25 None))
     refine Rl.op (OpY.apRowX (r := rBool) (H := (Hv w.heap.size None [some b19, some b1, some b6, ob11, some b13, ob14, ob15, some b14, ob16] w20)) (cs := cs14) (sp := sp14) (xs := accept11) (ys := [x13]) (Y := x15) (n := (List.length accept11)) (cap := cap14) (i := 5) Tryd.underlying22 ti4 rfl rfl rfl rfl hL25 rfl rfl f26 rfl hc16 (Src.row (pre := []) (o := 0) (n := 1) (cap := 1) (hL25.at 0 rfl rfl) f25 rfl rfl rfl) (Els.anyH (fun _ _ _ _ h => h) f25) q40 q41 q42 ?_)
     intro ob19 cap19 sp19 cs19 w21 hE21 hc21 (hL26 : Go.X.Loc [] [] w w21 [some b19, some b1, some b6, ob11, some b13, ob19, ob15, some b14, ob16] [Cont.cells ([] ++ ([(Value.bool x13)] ++ [])), Cont.cells [d_v, d_v1], Cont.cells [(Value.slice none 0 0), (Value.slice none 0 0)], Cont.cells ([] ++ (cs11 ++ sp11)), Cont.cells [(osv ob14 0 (List.length accept11) cap14), (osv ob15 0 (List.length edges11) cap15)], Cont.cells ([] ++ (cs19 ++ sp19)), Cont.cells ([] ++ (cs15 ++ sp15)), (mcont (fun x : Int => Value.int .i64 x) (fun x : Int => Value.int .i64 x) number10), Cont.cells ([] ++ (cs16 ++ sp16))]) hS19
     have K26 := ks w hS19
     refine Rl.op (OpY.nilCheck (b := ⟨b13, 0, none⟩) rfl ?_)
     refine Rl.op (OpY.fieldAddr (q := 0) Tryd.underlying32 rfl ti22 rfl rfl rfl ?_)
     refine Rl.op0 (OpY.store (vs := [(osv ob19 0 (List.length x15) cap19)]) ti22 rfl rfl (one_cells (osv_one ob19 0 (List.length x15) cap19)) rfl (ones_cons (osv_one ob19 0 (List.length x15) cap19) ones_nil) hL26 4 rfl rfl (Nat.le_of_ble_eq_true rfl) ?_)
     intro w22 (hL27 : Go.X.Loc [] [] w w22 [some b19, some b1, some b6, ob11, some b13, ob19, ob15, some b14, ob16] [Cont.cells ([] ++ ([(Value.bool x13)] ++ [])), Cont.cells [d_v, d_v1], Cont.cells [(Value.slice none 0 0), (Value.slice none 0 0)], Cont.cells ([] ++ (cs11 ++ sp11)), Cont.cells [(osv ob19 0 (List.length x15) cap19), (osv ob15 0 (List.length edges11) cap15)], Cont.cells ([] ++ (cs19 ++ sp19)), Cont.cells ([] ++ (cs15 ++ sp15)), (mcont (fun x : Int => Value.int .i64 x) (fun x : Int => Value.int .i64 x) number10), Cont.cells ([] ++ (cs16 ++ sp16))]) hS20
     have K27 := ks w hS20
     refine Rl.nil (Swp.seq (Swp.region rfl (Rl.op (OpY.move (v := (Value.pointer (some ⟨b13, 0, none⟩))) rfl ?_))))
     refine Rl.op (OpY.move (v := (Value.pointer (some ⟨b13, 0, none⟩))) rfl ?_)
     refine Rl.op (OpY.nilCheck (b := ⟨b13, 0, none⟩) rfl ?_)
     refine Rl.op (OpY.fieldAddr (q := 1) Tryd.underlying32 rfl ti30 rfl rfl rfl ?_)
     refine Rl.op (OpY.ldBox1 (v := (osv ob15 0 (List.length edges11) cap15)) Tryd.underlying30 rfl rfl (hL27.at 4 rfl rfl) rfl ?_)
     have hE22 : Els (rSl rAEdge) (Hv w.heap.size None [some b19, some b1, some b6, ob11, some b13, ob19, ob15, some b14, ob16] w22) [(Value.slice none 0 0)] [[]] := (Els.cons (a := [(Value.slice none 0 0)]) ⟨_, rfl, Rs.nil⟩ Els.nil)
     refine Rl.op (OpY.litRow (r := (rSl rAEdge)) (vs := [(Value.slice none 0 0)]) (css := [[(Value.slice none 0 0)]]) (xs := [[]]) Tryd.underlying30 ti58 (Nat.le_of_ble_eq_true rfl) rfl rfl ⟨rfl, rfl, trivial⟩ (Nat.le_of_ble_eq_true rfl) hE22 rfl hL27 ?_)
     intro b20 w23 hc22 hL28 hS21
     have K28 := ks w hS21
     obtain ⟨u10, q43, h⟩ := bind_some h
     have q44 := chk_some q43
     have f27 := (hE22.mono (K28 None))
     have f28 := ((((hE18.mono (K25 None)).mono (K26 None)).mono (K27 None)).mono (K28 None))
     refine Rl.op (OpY.apOpen (r := (rSl rAEdge)) (H := (Hv w.heap.size None [some b20, some b19, some b1, some b6, ob11, some b13, ob19, ob15, some b14, ob16] w23)) (cs := cs15) (sp := sp15) (xs := edges11) (n := (List.length edges11)) (cap := cap15) (i := 7) Tryd.underlying30 ti58 rfl rfl rfl rfl hL28 rfl rfl f28 rfl hc17 (Src.row (pre := []) (o := 0) (n := 1) (cap := 1) (hL28.at 0 rfl rfl) f27 rfl rfl rfl) q44.2 q44.1 ?_)
     intro ob20 cap20 sp20 w24 hc23 (hL29 : Go.X.Loc [] [] w w24 [some b20, some b19, some b1, some b6, ob11, some b13, ob19, ob20, some b14, ob16] [Cont.cells ([] ++ ([(Value.slice none 0 0)] ++ [])), Cont.cells ([] ++ ([(Value.bool x13)] ++ [])), Cont.cells [d_v, d_v1], Cont.cells [(Value.slice none 0 0), (Value.slice none 0 0)], Cont.cells ([] ++ (cs11 ++ sp11)), Cont.cells [(osv ob19 0 (List.length x15) cap19), (osv ob15 0 (List.length edges11) cap15)], Cont.cells ([] ++ (cs19 ++ sp19)), Cont.cells ([] ++ ((cs15 ++ [(Value.slice none 0 0)]) ++ sp20)), (mcont (fun x : Int => Value.int .i64 x) (fun x : Int => Value.int .i64 x) number10), Cont.cells ([] ++ (cs16 ++ sp16))]) hS22
     have K29 := ks w hS22
     have hp17 := hL29.addNil
     have hL30 : Go.X.Loc [] [] w w24 [none, some b20, some b19, some b1, some b6, ob11, some b13, ob19, ob20, some b14, ob16] [Cont.cells ([] ++ ([] ++ [])), Cont.cells ([] ++ ([(Value.slice none 0 0)] ++ [])), Cont.cells ([] ++ ([(Value.bool x13)] ++ [])), Cont.cells [d_v, d_v1], Cont.cells [(Value.slice none 0 0), (Value.slice none 0 0)], Cont.cells ([] ++ (cs11 ++ sp11)), Cont.cells [(osv ob19 0 (List.length x15) cap19), (osv ob15 0 (List.length edges11) cap15)], Cont.cells ([] ++ (cs19 ++ sp19)), Cont.cells ([] ++ ((cs15 ++ [(Value.slice none 0 0)]) ++ sp20)), (mcont (fun x : Int => Value.int .i64 x) (fun x : Int => Value.int .i64 x) number10), Cont.cells ([] ++ (cs16 ++ sp16))] := hp17.1
     have K30 := ks w hp17.2
     have hE23 : Els rAEdge (Hv w.heap.size None [none, some b20, some b19, some b1, some b6, ob11, some b13, ob19, ob20, some b14, ob16] w24) [] [] := Els.nil
     refine Rl.op (OpY.nilCheck (b := ⟨b13, 0, none⟩) rfl ?_)
     refine Rl.op (OpY.fieldAddr (q := 1) Tryd.underlying32 rfl ti30 rfl rfl rfl ?_)
     refine Rl.op0 (OpY.store (vs := [(osv ob20 0 (List.length edges11 + 1) cap20)]) ti30 rfl rfl (one_cells (osv_one ob20 0 (List.length edges11 + 1) cap20)) rfl (ones_cons (osv_one ob20 0 (List.length edges11 + 1) cap20) ones_nil) hL30 6 rfl rfl (Nat.le_of_ble_eq_true rfl) ?_)
     intro w25 (hL31 : Go.X.Loc [] [] w w25 [none, some b20, some b19, some b1, some b6, ob11, some b13, ob19, ob20, some b14, ob16] [Cont.cells ([] ++ ([] ++ [])), Cont.cells ([] ++ ([(Value.slice none 0 0)] ++ [])), Cont.cells ([] ++ ([(Value.bool x13)] ++ [])), Cont.cells [d_v, d_v1], Cont.cells [(Value.slice none 0 0), (Value.slice none 0 0)], Cont.cells ([] ++ (cs11 ++ sp11)), Cont.cells [(osv ob19 0 (List.length x15) cap19), (osv ob20 0 (List.length edges11 + 1) cap20)], Cont.cells ([] ++ (cs19 ++ sp19)), Cont.cells ([] ++ ((cs15 ++ [(Value.slice none 0 0)]) ++ sp20)), (mcont (fun x : Int => Value.int .i64 x) (fun x : Int => Value.int .i64 x) number10), Cont.cells ([] ++ (cs16 ++ sp16))]) hS23
     have K31 := ks w hS23
     refine Rl.nil (Swp.seq (Swp.region rfl (Rl.op (OpY.move (v := (Value.pointer (some ⟨b13, 0, none⟩))) rfl ?_))))
     refine Rl.op (OpY.nilCheck (b := ⟨b13, 0, none⟩) rfl ?_)
     refine Rl.op (OpY.fieldAddr (q := 0) Tryd.underlying32 rfl ti22 rfl rfl rfl ?_)
     refine Rl.op (OpY.ldBox1 (v := (osv ob19 0 (List.length x15) cap19)) Tryd.underlying22 rfl rfl (hL31.at 6 rfl rfl) rfl ?_)
     have f29 := ((((((hE21.mono (K26 None)).mono (K27 None)).mono (K28 None)).mono (K29 None)).mono (K30 None)).mono (K31 None))
     refine Rl.op (OpY.lenRow (pre := []) (r := rBool) (xs := x15) Tryd.underlying22 rfl (hL31.at 7 rfl rfl) f29 rfl rfl ?_)
     refine Rl.op (OpY.sub (x := (List.length x15 : Int)) (y := 1) (z := (iw ((List.length x15 : Int) - 1))) rfl rfl rfl ?_)
     refine Rl.op (OpY.assign (v := (Value.int .i64 (iw ((List.length x15 : Int) - 1)))) rfl ?_)
     refine Rl.nil (Swp.ret ?_)
     refine ⟨[(Value.int .i64 (iw ((List.length x15 : Int) - 1)))], ⟨rfl, trivial⟩, ?_⟩
     have hp18 := hL31.pick [3, 4, 5, 6, 7, 8, 0, 9, 10] rfl rfl rfl
     have hL32 : Go.X.Loc [] [] w w25 [some b1, some b6, ob11, some b13, ob19, ob20, none, some b14, ob16] [Cont.cells [d_v, d_v1], Cont.cells [(Value.slice none 0 0), (Value.slice none 0 0)], Cont.cells ([] ++ (cs11 ++ sp11)), Cont.cells [(osv ob19 0 (List.length x15) cap19), (osv ob20 0 (List.length edges11 + 1) cap20)], Cont.cells ([] ++ (cs19 ++ sp19)), Cont.cells ([] ++ ((cs15 ++ [(Value.slice none 0 0)]) ++ sp20)), Cont.cells ([] ++ ([] ++ [])), (mcont (fun x : Int => Value.int .i64 x) (fun x : Int => Value.int .i64 x) number10), Cont.cells ([] ++ (cs16 ++ sp16))] := hp18.1
     have K32 := ks w hp18.2
     have f30 := (f29.mono (K32 None))
     have f31 := ((hE23.mono (K31 None)).mono (K32 None))
     obtain rfl := Option.some.inj h
     exact ⟨x15, ([] : (List AEdge)), (iw ((List.length x15 : Int) - 1)), ob19, cap19, sp19, cs19, (List.length x15), ob20, cap20, sp20, [], rfl, rfl, hL32, (Keep.trans (Keep.trans (Keep.trans (Keep.trans (Keep.trans (Keep.trans (Keep.trans K25 K26) K27) K28) K29) K30) K31) K32), f30, rfl, hc21, hc23, f31, rfl, (show ([] ++ [] : List Value).length = 0 * rAEdge.sz by simp), trivial⟩
    ·
     rintro _ w26 ⟨accept12, edgesL10, x14, ob17, cap17, sp17, cs17, ln15, ob18, cap18, sp18, cs18, rfl, rfl, hL33, K33, hE24, rfl, hc24, hc25, hE25, hl11, hc26, -⟩
     refine ⟨_, rfl, ?_⟩
     replace h := g11
     try dsimp only at h
     refine Rl.nil (Swp.seq (Swp.region rfl (Rl.op (OpY.assign (v := (Value.int .i64 32)) rfl ?_))))
     refine Rl.nil ?_
     obtain ⟨s12, hl12, g12⟩ := bind_some h
     refine Swp.join (fun e w' => ∃ (edgesL11 : (List AEdge)) (number11 : (List (Int × Int))) (states11 : (List Int)) (ob21 : Option Nat) (cap21 : Nat) (sp21 : List Value) (cs20 : List Value) (ln16 : Nat) (ob22 : Option Nat) (cap22 : Nat) (sp22 : List Value) (cs21 : List Value) (ln17 : Nat) (u : Env), (edgesL11, number11, states11) = s12 ∧ e = upds [(1, (Value.pointer (some ⟨b1, 0, none⟩))), (2, (Value.pointer (some ⟨b6, 0, none⟩))), (5, (osv ob11 0 (List.length r11) cap11)), (6, (Value.pointer (some ⟨b13, 0, none⟩))), (7, (Value.map (some b14))), (8, (osv ob22 0 ln17 cap22)), (9, (Value.int .i64 i10))] u ∧ Go.X.Loc [] [] w w' [some b1, some b6, ob11, some b13, ob17, ob18, ob21, some b14, ob22] [Cont.cells [d_v, d_v1], Cont.cells [(Value.slice none 0 0), (Value.slice none 0 0)], Cont.cells ([] ++ (cs11 ++ sp11)), Cont.cells [(osv ob17 0 (List.length accept12) cap17), (osv ob18 0 (List.length edges11 + 1) cap18)], Cont.cells ([] ++ (cs17 ++ sp17)), Cont.cells ([] ++ ((cs15 ++ [(osv ob21 0 ln16 cap21)]) ++ sp18)), Cont.cells ([] ++ (cs20 ++ sp21)), (mcont (fun x : Int => Value.int .i64 x) (fun x : Int => Value.int .i64 x) number11), Cont.cells ([] ++ (cs21 ++ sp22))] ∧ Keep w.heap.size [some b1, some b6, ob11, some b13, ob17, ob18, none, some b14, ob16] w26 [some b1, some b6, ob11, some b13, ob17, ob18, ob21, some b14, ob22] w' ∧ (List.length cs15 + 1) + List.length sp18 = cap18 * (rSl rAEdge).sz ∧ Els rAEdge (Hv w.heap.size None [some b1, some b6, ob11, some b13, ob17, ob18, ob21, some b14, ob22] w') cs20 edgesL11 ∧ ln16 = List.length edgesL11 ∧ (cs20 ++ sp21).length = cap21 * rAEdge.sz ∧ Els (rInt .i64) (Hv w.heap.size None [some b1, some b6, ob11, some b13, ob17, ob18, ob21, some b14, ob22] w') cs21 states11 ∧ ln17 = List.length states11 ∧ (cs21 ++ sp22).length = cap22 * (rInt .i64).sz ∧ True) ?_ ?_
     ·
      refine Swp.block ?_
      have f32 := (hE19.mono (K33 None))
      refine Swp.loopM hl12 (fun (ss : ((List AEdge) × (List (Int × Int)) × (List Int) × Int)) (e : Env) (w' : World) => match ss with | (edgesL12, number12, states12, x16) => ∃ (ob23 : Option Nat) (cap23 : Nat) (sp23 : List Value) (cs22 : List Value) (ln18 : Nat) (ob24 : Option Nat) (cap24 : Nat) (sp24 : List Value) (cs23 : List Value) (ln19 : Nat) (u : Env), e = upds [(1, (Value.pointer (some ⟨b1, 0, none⟩))), (2, (Value.pointer (some ⟨b6, 0, none⟩))), (5, (osv ob11 0 (List.length r11) cap11)), (6, (Value.pointer (some ⟨b13, 0, none⟩))), (7, (Value.map (some b14))), (8, (osv ob24 0 ln19 cap24)), (9, (Value.int .i64 i10)), (10, (Value.int .i64 x12)), (11, (Value.int .i64 x16))] u ∧ Go.X.Loc [] [] w w' [some b1, some b6, ob11, some b13, ob17, ob18, ob23, some b14, ob24] [Cont.cells [d_v, d_v1], Cont.cells [(Value.slice none 0 0), (Value.slice none 0 0)], Cont.cells ([] ++ (cs11 ++ sp11)), Cont.cells [(osv ob17 0 (List.length accept12) cap17), (osv ob18 0 (List.length edges11 + 1) cap18)], Cont.cells ([] ++ (cs17 ++ sp17)), Cont.cells ([] ++ ((cs15 ++ [(osv ob23 0 ln18 cap23)]) ++ sp18)), Cont.cells ([] ++ (cs22 ++ sp23)), (mcont (fun x : Int => Value.int .i64 x) (fun x : Int => Value.int .i64 x) number12), Cont.cells ([] ++ (cs23 ++ sp24))] ∧ Keep w.heap.size [some b1, some b6, ob11, some b13, ob17, ob18, none, some b14, ob16] w26 [some b1, some b6, ob11, some b13, ob17, ob18, ob23, some b14, ob24] w' ∧ (List.length cs15 + 1) + List.length sp18 = cap18 * (rSl rAEdge).sz ∧ Els rAEdge (Hv w.heap.size None [some b1, some b6, ob11, some b13, ob17, ob18, ob23, some b14, ob24] w') cs22 edgesL12 ∧ ln18 = List.length edgesL12 ∧ (cs22 ++ sp23).length = cap23 * rAEdge.sz ∧ Els (rInt .i64) (Hv w.heap.size None [some b1, some b6, ob11, some b13, ob17, ob18, ob23, some b14, ob24] w') cs23 states12 ∧ ln19 = List.length states12 ∧ (cs23 ++ sp24).length = cap24 * (rInt .i64).sz ∧ True) ⟨none, 0, [], cs18, (List.length ([] : (List AEdge))), ob16, cap16, sp16, cs16, (List.length states10), _, (upds_sym ⟨rfl, rfl, rfl, rfl, rfl, rfl, rfl, rfl, rfl, trivial⟩), hL33, Keep.refl, hc25, hE25, hl11, hc26, f32, rfl, hc18, trivial⟩ ?_
      rintro ⟨edgesL12, number12, states12, x16⟩ oo _ w27 ⟨ob23, cap23, sp23, cs22, ln18, ob24, cap24, sp24, cs23, ln19, u, rfl, hL34, K34, hc27, hE26, rfl, hc28, hE27, rfl, hc29, -⟩ h hd11
      rw [aMinimize_b2] at h
      refine Swp.seq (Swp.seq (Swp.region rfl (Rl.op (OpY.move (v := (Value.int .i64 x16)) rfl ?_))))
      refine Rl.op (OpY.leq (x := x16) (y := 126) ((x16 : Int) ≤ 126) rfl rfl Iff.rfl ?_)
      refine Rl.nil ?_
      refine Swp.cond_d ((x16 : Int) ≤ 126) rfl (fun hc30 => ?_) (fun hc30 => ?_)
      ·
       replace h := ite_t hc30 h
       refine Swp.skip (Swp.seq (Swp.block (Swp.seq (Swp.region rfl (Rl.op (OpY.move (v := (Value.int .i64 x12)) rfl ?_))))))
       refine Rl.op (OpY.move (v := (Value.int .i64 x16)) rfl ?_)
       refine Rl.op (OpY.convInt (x := x16) (z := (uw8 x16)) Tryd.underlying3 Tryd.underlying5 rfl rfl ?_)
       obtain ⟨r12, q45, h⟩ := bind_some h
       have f33 := ((f23.mono (K33 S)).mono (K34 S))
       have f34 := ((((((((f18.mono (K16 S)).mono (K17 S)).mono (K18 S)).mono (K19 S)).mono (K20 S)).mono (K24 S)).mono (K33 S)).mono (K34 S))
       refine Rl.op (OpY.call en39 rfl rfl (aStep_w N d x12 (uw8 x16) b1 d_v d_v1 _ Any (own_any (hL34.at 0 rfl rfl)) (f33.mono vw_any) (f34.mono vw_any) r12 q45) ?_)
       rintro _ w28 hE28 ⟨rfl, -⟩
       have hL35 := hL34.ext hE28
       have K35 := ke hL34 hE28
       refine Rl.op (OpY.assign (v := (Value.int .i64 r12)) rfl ?_)
       refine Rl.nil (Swp.seq (Swp.region rfl (Rl.op (OpY.move (v := (osv ob11 0 (List.length r11) cap11)) rfl ?_))))
       refine Rl.op (OpY.move (v := (Value.int .i64 r12)) rfl ?_)
       obtain ⟨r13, q46, h⟩ := bind_some h
       have f35 := ((((((f19.mono (K19 None)).mono (K20 None)).mono (K24 None)).mono (K33 None)).mono (K34 None)).mono (K35 None))
       refine Rl.op (OpY.call en46 rfl rfl (aClass_w N r11 r12 (osv ob11 0 (List.length r11) cap11) _ Any (own_row_any (pre := []) (o := 0) (n := (List.length r11)) (cap := cap11) (hL35.at 2 rfl rfl) f35 vw_any rfl rfl rfl hc14) r13 q46) ?_)
       rintro _ w29 hE29 ⟨rfl, -⟩
       have hL36 := hL35.ext hE29
       have K36 := ke hL35 hE29
       refine Rl.op (OpY.assign (v := (Value.int .i64 r13)) rfl ?_)
       refine Rl.nil (Swp.seq (Swp.seq (Swp.region rfl (Rl.op (OpY.move (v := (Value.int .i64 r13)) rfl ?_)))))
       refine Rl.op (OpY.eql (x := r13) (y := (-1)) ((r13 : Int) = (-1)) rfl rfl Iff.rfl ?_)
       refine Rl.nil ?_
       refine Swp.cond_d ((r13 : Int) = (-1)) rfl (fun hc31 => ?_) (fun hc31 => ?_)
       ·
        replace h := ite_t hc31 h
        refine Swp.exit rfl (Swp.region rfl (Rl.op (OpY.move (v := (Value.int .i64 x16)) rfl ?_)))
        refine Rl.op (OpY.add (x := x16) (y := 1) (z := (iw (x16 + 1))) rfl rfl rfl ?_)
        refine Rl.op (OpY.assign (v := (Value.int .i64 (iw (x16 + 1)))) rfl ?_)
        refine Rl.nil ?_
        have f36 := ((hE26.mono (K35 None)).mono (K36 None))
        have f37 := ((hE27.mono (K35 None)).mono (K36 None))
        obtain rfl := Option.some.inj h
        refine Swp.pop_back ⟨(edgesL12, number12, states12, (iw (x16 + 1))), rfl, ?_⟩
        exact ⟨ob23, cap23, sp23, cs22, (List.length edgesL12), ob24, cap24, sp24, cs23, (List.length states12), _, (upds_sym ⟨rfl, rfl, rfl, rfl, rfl, rfl, rfl, rfl, rfl, trivial⟩), hL36, (Keep.trans (Keep.trans K34 K35) K36), hc27, f36, rfl, hc28, f37, rfl, hc29, trivial⟩
       ·
        replace h := ite_f hc31 h
        refine Swp.skip (Swp.seq (Swp.region rfl (Rl.op (OpY.move (v := (Value.map (some b14))) rfl ?_))))
        refine Rl.op (OpY.move (v := (Value.int .i64 r13)) rfl ?_)
        refine Rl.op (OpY.look (kf := (fun x : Int => Value.int .i64 x)) (vf := (fun x : Int => Value.int .i64 x)) (m := number12) (x := r13) (z := 0) mky_3 Tryd.underlying80 ti3 rfl (hL36.at 7 rfl rfl) rfl ?_)
        refine Rl.op (OpY.move (v := (Value.tuple #[(Value.int .i64 (mget number12 r13 0).1), (Value.bool (mget number12 r13 0).2)])) rfl ?_)
        refine Rl.op (OpY.extract (vs := [(Value.int .i64 (mget number12 r13 0).1), (Value.bool (mget number12 r13 0).2)]) (v := (Value.int .i64 (mget number12 r13 0).1)) rfl rfl ?_)
        refine Rl.op (OpY.extract (vs := [(Value.int .i64 (mget number12 r13 0).1), (Value.bool (mget number12 r13 0).2)]) (v := (Value.bool (mget number12 r13 0).2)) rfl rfl ?_)
        refine Rl.op (OpY.assign (v := (Value.int .i64 (mget number12 r13 0).1)) rfl ?_)
        refine Rl.op (OpY.assign (v := (Value.bool (mget number12 r13 0).2)) rfl ?_)
        refine Rl.nil (Swp.seq (Swp.seq (Swp.region rfl (Rl.op (OpY.move (v := (Value.bool (mget number12 r13 0).2)) rfl ?_)))))
        refine Rl.op (OpY.not (x := (mget number12 r13 0).2) rfl ?_)
        refine Rl.nil ?_
        obtain ⟨s13, h, g13⟩ := bind_some h
        refine Swp.join (fun e w' => ∃ (number13 : (List (Int × Int))) (states13 : (List Int)) (n14 : Int) (ob25 : Option Nat) (cap25 : Nat) (sp25 : List Value) (cs24 : List Value) (ln20 : Nat) (u : Env), (number13, states13, n14) = s13 ∧ e = upds [(1, (Value.pointer (some ⟨b1, 0, none⟩))), (2, (Value.pointer (some ⟨b6, 0, none⟩))), (5, (osv ob11 0 (List.length r11) cap11)), (6, (Value.pointer (some ⟨b13, 0, none⟩))), (7, (Value.map (some b14))), (8, (osv ob25 0 ln20 cap25)), (9, (Value.int .i64 i10)), (10, (Value.int .i64 x12)), (11, (Value.int .i64 x16)), (14, (Value.int .i64 n14))] u ∧ Go.X.Loc [] [] w w' [some b1, some b6, ob11, some b13, ob17, ob18, ob23, some b14, ob25] [Cont.cells [d_v, d_v1], Cont.cells [(Value.slice none 0 0), (Value.slice none 0 0)], Cont.cells ([] ++ (cs11 ++ sp11)), Cont.cells [(osv ob17 0 (List.length accept12) cap17), (osv ob18 0 (List.length edges11 + 1) cap18)], Cont.cells ([] ++ (cs17 ++ sp17)), Cont.cells ([] ++ ((cs15 ++ [(osv ob23 0 (List.length edgesL12) cap23)]) ++ sp18)), Cont.cells ([] ++ (cs22 ++ sp23)), (mcont (fun x : Int => Value.int .i64 x) (fun x : Int => Value.int .i64 x) number13), Cont.cells ([] ++ (cs24 ++ sp25))] ∧ Keep w.heap.size [some b1, some b6, ob11, some b13, ob17, ob18, ob23, some b14, ob24] w29 [some b1, some b6, ob11, some b13, ob17, ob18, ob23, some b14, ob25] w' ∧ (List.length cs15 + 1) + List.length sp18 = cap18 * (rSl rAEdge).sz ∧ Els (rInt .i64) (Hv w.heap.size None [some b1, some b6, ob11, some b13, ob17, ob18, ob23, some b14, ob25] w') cs24 states13 ∧ ln20 = List.length states13 ∧ (cs24 ++ sp25).length = cap25 * (rInt .i64).sz ∧ True) ?_ ?_
        ·
         refine Swp.cond_b (!(mget number12 r13 0).2) rfl (fun hc32 => ?_) (fun hc32 => ?_)
         ·
          replace h := ite_t hc32 h
          refine Swp.seq (Swp.region rfl (Rl.op (OpY.move (v := (osv ob24 0 (List.length states12) cap24)) rfl ?_)))
          have f38 := ((hE27.mono (K35 None)).mono (K36 None))
          refine Rl.op (OpY.lenRow (pre := []) (r := (rInt .i64)) (xs := states12) Tryd.underlying78 rfl (hL36.at 8 rfl rfl) f38 rfl rfl ?_)
          refine Rl.op (OpY.assign (v := (Value.int .i64 (List.length states12 : Int))) rfl ?_)
          refine Rl.nil (Swp.seq (Swp.region rfl (Rl.op (OpY.move (v := (Value.map (some b14))) rfl ?_))))
          refine Rl.op (OpY.move (v := (Value.int .i64 r13)) rfl ?_)
          refine Rl.op (OpY.move (v := (Value.int .i64 (List.length states12 : Int))) rfl ?_)
          refine Rl.op0 (OpY.mapPut (kf := (fun x : Int => Value.int .i64 x)) (vf := (fun x : Int => Value.int .i64 x)) (m := number12) (x := r13) (y := (List.length states12 : Int)) mky_3 Tryd.underlying80 rfl rfl rfl hL36 7 rfl rfl ?_)
          intro w30 (hL37 : Go.X.Loc [] [] w w30 [some b1, some b6, ob11, some b13, ob17, ob18, ob23, some b14, ob24] [Cont.cells [d_v, d_v1], Cont.cells [(Value.slice none 0 0), (Value.slice none 0 0)], Cont.cells ([] ++ (cs11 ++ sp11)), Cont.cells [(osv ob17 0 (List.length accept12) cap17), (osv ob18 0 (List.length edges11 + 1) cap18)], Cont.cells ([] ++ (cs17 ++ sp17)), Cont.cells ([] ++ ((cs15 ++ [(osv ob23 0 (List.length edgesL12) cap23)]) ++ sp18)), Cont.cells ([] ++ (cs22 ++ sp23)), (mcont (fun x : Int => Value.int .i64 x) (fun x : Int => Value.int .i64 x) (mput number12 r13 (List.length states12 : Int))), Cont.cells ([] ++ (cs23 ++ sp24))]) hS24
          have K37 := ks w hS24
          refine Rl.nil (Swp.region rfl (Rl.op (OpY.move (v := (osv ob24 0 (List.length states12) cap24)) rfl ?_)))
          refine Rl.op (OpY.move (v := (Value.int .i64 r12)) rfl ?_)
          have hE30 : Els (rInt .i64) (Hv w.heap.size None [some b1, some b6, ob11, some b13, ob17, ob18, ob23, some b14, ob24] w30) [(Value.int .i64 r12)] [r12] := (Els.cons (a := [(Value.int .i64 r12)]) rfl Els.nil)
          refine Rl.op (OpY.litRow (r := (rInt .i64)) (vs := [(Value.int .i64 r12)]) (css := [[(Value.int .i64 r12)]]) (xs := [r12]) Tryd.underlying78 ti3 (Nat.le_of_ble_eq_true rfl) rfl rfl ⟨rfl, rfl, trivial⟩ (Nat.le_of_ble_eq_true rfl) hE30 rfl hL37 ?_)
          intro b21 w31 hc33 hL38 hS25
          have K38 := ks w hS25
          obtain ⟨x17, q47, h⟩ := bind_some h
          obtain ⟨q48, q49, q50⟩ := apnd_some q47
          have f39 := (hE30.mono (K38 None))
          have f40 := ((f38.mono (K37 None)).mono (K38 None))
          refine Rl.op (OpY.apRowX (r := (rInt .i64)) (H := (Hv w.heap.size None [some b21, some b1, some b6, ob11, some b13, ob17, ob18, ob23, some b14, ob24] w31)) (cs := cs23) (sp := sp24) (xs := states12) (ys := [r12]) (Y := x17) (n := (List.length states12)) (cap := cap24) (i := 9) Tryd.underlying78 ti3 rfl rfl rfl rfl hL38 rfl rfl f40 rfl hc29 (Src.row (pre := []) (o := 0) (n := 1) (cap := 1) (hL38.at 0 rfl rfl) f39 rfl rfl rfl) (Els.anyH (fun _ _ _ _ h => h) f39) q48 q49 q50 ?_)
          intro ob26 cap26 sp26 cs25 w32 hE31 hc34 (hL39 : Go.X.Loc [] [] w w32 [some b21, some b1, some b6, ob11, some b13, ob17, ob18, ob23, some b14, ob26] [Cont.cells ([] ++ ([(Value.int .i64 r12)] ++ [])), Cont.cells [d_v, d_v1], Cont.cells [(Value.slice none 0 0), (Value.slice none 0 0)], Cont.cells ([] ++ (cs11 ++ sp11)), Cont.cells [(osv ob17 0 (List.length accept12) cap17), (osv ob18 0 (List.length edges11 + 1) cap18)], Cont.cells ([] ++ (cs17 ++ sp17)), Cont.cells ([] ++ ((cs15 ++ [(osv ob23 0 (List.length edgesL12) cap23)]) ++ sp18)), Cont.cells ([] ++ (cs22 ++ sp23)), (mcont (fun x : Int => Value.int .i64 x) (fun x : Int => Value.int .i64 x) (mput number12 r13 (List.length states12 : Int))), Cont.cells ([] ++ (cs25 ++ sp26))]) hS26
          have K39 := ks w hS26
          refine Rl.op (OpY.assign (v := (osv ob26 0 (List.length x17) cap26)) rfl ?_)
          refine Rl.nil ?_
          have hp19 := hL39.pick [1, 2, 3, 4, 5, 6, 7, 8, 9] rfl rfl rfl
          have hL40 : Go.X.Loc [] [] w w32 [some b1, some b6, ob11, some b13, ob17, ob18, ob23, some b14, ob26] [Cont.cells [d_v, d_v1], Cont.cells [(Value.slice none 0 0), (Value.slice none 0 0)], Cont.cells ([] ++ (cs11 ++ sp11)), Cont.cells [(osv ob17 0 (List.length accept12) cap17), (osv ob18 0 (List.length edges11 + 1) cap18)], Cont.cells ([] ++ (cs17 ++ sp17)), Cont.cells ([] ++ ((cs15 ++ [(osv ob23 0 (List.length edgesL12) cap23)]) ++ sp18)), Cont.cells ([] ++ (cs22 ++ sp23)), (mcont (fun x : Int => Value.int .i64 x) (fun x : Int => Value.int .i64 x) (mput number12 r13 (List.length states12 : Int))), Cont.cells ([] ++ (cs25 ++ sp26))] := hp19.1
          have K40 := ks w hp19.2
          have f41 := ((hE31.mono (K39 None)).mono (K40 None))
          obtain rfl := Option.some.inj h
          refine Swp.pop_back ?_
          exact ⟨(mput number12 r13 (List.length states12 : Int)), x17, (List.length states12 : Int), ob26, cap26, sp26, cs25, (List.length x17), _, rfl, (upds_sym ⟨rfl, rfl, rfl, rfl, rfl, rfl, rfl, rfl, rfl, rfl, trivial⟩), hL40, (Keep.trans (Keep.trans (Keep.trans K37 K38) K39) K40), hc27, f41, rfl, hc34, trivial⟩
         ·
          replace h := ite_f hc32 h
          refine Swp.skip ?_
          have f42 := ((hE27.mono (K35 None)).mono (K36 None))
          obtain rfl := Option.some.inj h
          refine Swp.pop_back ?_
          exact ⟨number12, states12, (mget number12 r13 0).1, ob24, cap24, sp24, cs23, (List.length states12), _, rfl, (upds_sym ⟨rfl, rfl, rfl, rfl, rfl, rfl, rfl, rfl, rfl, rfl, trivial⟩), hL36, Keep.refl, hc27, f42, rfl, hc29, trivial⟩
        ·
         rintro _ w33 ⟨number13, states13, n14, ob25, cap25, sp25, cs24, ln20, u, rfl, rfl, hL41, K41, hc35, hE32, rfl, hc36, -⟩
         replace h := g13
         try dsimp only at h
         refine Swp.seq (Swp.region rfl (Rl.op (OpY.fieldAddr (q := 1) Tryd.underlying32 rfl ti30 rfl rfl rfl ?_)))
         refine Rl.op (OpY.ldBox1 (v := (osv ob18 0 (List.length edges11 + 1) cap18)) Tryd.underlying30 rfl rfl (hL41.at 3 rfl rfl) rfl ?_)
         refine Rl.op (OpY.move (v := (Value.int .i64 i10)) rfl ?_)
         obtain ⟨u11, q51, h⟩ := bind_some h
         have q52 := chk_some q51
         obtain ⟨b22, hb13⟩ := hL41.row_some 5 rfl rfl (by simp only [List.nil_append, List.length_append, List.length_cons]; omega)
         refine Rl.op (OpY.ixRowD (r := (rSl rAEdge)) (b := b22) (o := 0) (n := (List.length edges11)) (m := (List.length edges11 + 1)) (xs := edges11 ++ [[]]) (q := (0 + (List.length edges11) * (rSl rAEdge).sz)) Tryd.underlying30 ti58 (osv_some hb13) (by rw [List.length_append]; rfl) rfl q52 (by rw [List.length_append]; exact Nat.lt_succ_self _) rfl ?_)
         have f43 := (((((hE18.mono (K33 None)).mono (K34 None)).mono (K35 None)).mono (K36 None)).mono (K41 None))
         refine Rl.op (OpY.ldElem1 (v := (osv ob23 0 (List.length edgesL12) cap23)) Tryd.underlying58 rfl rfl (own_some hb13 (hL41.at 5 rfl rfl)) (open_elem f43 rfl) ?_)
         refine Rl.op (OpY.assign (v := (osv ob23 0 (List.length edgesL12) cap23)) rfl ?_)
         refine Rl.nil (Swp.seq (Swp.region rfl (Rl.op (OpY.move (v := (osv ob23 0 (List.length edgesL12) cap23)) rfl ?_))))
         have f44 := (((hE26.mono (K35 None)).mono (K36 None)).mono (K41 None))
         refine Rl.op (OpY.lenRow (pre := []) (r := rAEdge) (xs := edgesL12) Tryd.underlying58 rfl (hL41.at 6 rfl rfl) f44 rfl rfl ?_)
         refine Rl.op (OpY.sub (x := (List.length edgesL12 : Int)) (y := 1) (z := (iw ((List.length edgesL12 : Int) - 1))) rfl rfl rfl ?_)
         refine Rl.op (OpY.assign (v := (Value.int .i64 (iw ((List.length edgesL12 : Int) - 1)))) rfl ?_)
         refine Rl.nil (Swp.seq ?_)
         obtain ⟨s14, h, g14⟩ := bind_some h
         refine Swp.join (fun e w' => ∃ (x18 : Bool) (u : Env), x18 = s14 ∧ e = upds [(1, (Value.pointer (some ⟨b1, 0, none⟩))), (2, (Value.pointer (some ⟨b6, 0, none⟩))), (5, (osv ob11 0 (List.length r11) cap11)), (6, (Value.pointer (some ⟨b13, 0, none⟩))), (7, (Value.map (some b14))), (8, (osv ob25 0 (List.length states13) cap25)), (9, (Value.int .i64 i10)), (10, (Value.int .i64 x12)), (11, (Value.int .i64 x16)), (14, (Value.int .i64 n14)), (16, (osv ob23 0 (List.length edgesL12) cap23)), (17, (Value.int .i64 (iw ((List.length edgesL12 : Int) - 1)))), (109, (Value.bool x18))] u ∧ Go.X.Loc [] [] w w' [some b1, some b6, ob11, some b13, ob17, ob18, ob23, some b14, ob25] [Cont.cells [d_v, d_v1], Cont.cells [(Value.slice none 0 0), (Value.slice none 0 0)], Cont.cells ([] ++ (cs11 ++ sp11)), Cont.cells [(osv ob17 0 (List.length accept12) cap17), (osv ob18 0 (List.length edges11 + 1) cap18)], Cont.cells ([] ++ (cs17 ++ sp17)), Cont.cells ([] ++ ((cs15 ++ [(osv ob23 0 (List.length edgesL12) cap23)]) ++ sp18)), Cont.cells ([] ++ (cs22 ++ sp23)), (mcont (fun x : Int => Value.int .i64 x) (fun x : Int => Value.int .i64 x) number13), Cont.cells ([] ++ (cs24 ++ sp25))] ∧ Keep w.heap.size [some b1, some b6, ob11, some b13, ob17, ob18, ob23, some b14, ob25] w33 [some b1, some b6, ob11, some b13, ob17, ob18, ob23, some b14, ob25] w' ∧ (List.length cs15 + 1) + List.length sp18 = cap18 * (rSl rAEdge).sz ∧ True) ?_ ?_
         ·
          refine Swp.region rfl (Rl.op (OpY.move (v := (Value.int .i64 (iw ((List.length edgesL12 : Int) - 1)))) rfl ?_))
          refine Rl.op (OpY.geq (x := (iw ((List.length edgesL12 : Int) - 1))) (y := 0) (((iw ((List.length edgesL12 : Int) - 1)) : Int) ≥ 0) rfl rfl Iff.rfl ?_)
          refine Rl.op (OpY.move (v := (Value.bool (decide (((iw ((List.length edgesL12 : Int) - 1)) : Int) ≥ 0)))) rfl ?_)
          by_cases hc37 : ((iw ((List.length edgesL12 : Int) - 1)) : Int) ≥ 0
          ·
           replace h := ite_t hc37 h
           refine Rl.yes rfl rfl (decide_eq_true hc37) (OpY.move (v := (osv ob23 0 (List.length edgesL12) cap23)) rfl ?_)
           refine Rl.yes rfl rfl (decide_eq_true hc37) (OpY.move (v := (Value.int .i64 (iw ((List.length edgesL12 : Int) - 1)))) rfl ?_)
           obtain ⟨x19, q53, h⟩ := bind_some h
           obtain ⟨n15, q54, q55⟩ := idx_some q53
           have q56 := (List.getElem?_eq_some_iff.1 q55).1
           obtain ⟨b23, hb14⟩ := hL41.row_some 6 rfl rfl (row_pos (pre := []) f44 q55 (Nat.lt_of_sub_eq_succ rfl))
           refine Rl.yes rfl rfl (decide_eq_true hc37) (OpY.ixRowD (r := rAEdge) (b := b23) (o := 0) (n := n15) (m := (List.length edgesL12)) (xs := edgesL12) (q := (0 + n15 * rAEdge.sz)) Tryd.underlying58 ti57 (osv_some hb14) rfl rfl q54 q56 rfl ?_)
           refine Rl.yes rfl rfl (decide_eq_true hc37) (OpY.fieldAddr (q := ((0 + n15 * rAEdge.sz) + 2)) Tryd.underlying57 rfl ti3 rfl rfl rfl ?_)
           obtain ⟨vs14, q57, q58, q59⟩ := row_elem (pre := []) (sp := sp23) f44 q55
           obtain ⟨rfl, -⟩ := rAEdge_open q58
           have q60 := elem_part (us := [(Value.int .i64 x19.To)]) (q := 2) q59 rfl
           refine Rl.yes rfl rfl (decide_eq_true hc37) (OpY.ldElem1 (v := (Value.int .i64 x19.To)) Tryd.underlying3 rfl rfl (own_some hb14 (hL41.at 6 rfl rfl)) q60 ?_)
           refine Rl.yes rfl rfl (decide_eq_true hc37) (OpY.move (v := (Value.int .i64 n14)) rfl ?_)
           refine Rl.yes rfl rfl (decide_eq_true hc37) (OpY.eql (x := x19.To) (y := n14) ((x19.To : Int) = n14) rfl rfl Iff.rfl ?_)
           refine Rl.op (OpY.pick_t (t := (decide (((iw ((List.length edgesL12 : Int) - 1)) : Int) ≥ 0))) (v := (Value.bool (decide ((x19.To : Int) = n14)))) rfl (decide_eq_true hc37) rfl ?_)
           refine Rl.op (OpY.move (v := (Value.bool (decide ((x19.To : Int) = n14)))) rfl ?_)
           by_cases hc38 : (x19.To : Int) = n14
           ·
            replace h := ite_t hc38 h
            refine Rl.yes rfl rfl (decide_eq_true hc38) (OpY.move (v := (osv ob23 0 (List.length edgesL12) cap23)) rfl ?_)
            refine Rl.yes rfl rfl (decide_eq_true hc38) (OpY.move (v := (Value.int .i64 (iw ((List.length edgesL12 : Int) - 1)))) rfl ?_)
            obtain ⟨x20, q61, h⟩ := bind_some h
            obtain ⟨n16, q62, q63⟩ := idx_some q61
            have q64 := (List.getElem?_eq_some_iff.1 q63).1
            refine Rl.yes rfl rfl (decide_eq_true hc38) (OpY.ixRowD (r := rAEdge) (b := b23) (o := 0) (n := n16) (m := (List.length edgesL12)) (xs := edgesL12) (q := (0 + n16 * rAEdge.sz)) Tryd.underlying58 ti57 (osv_some hb14) rfl rfl q62 q64 rfl ?_)
            refine Rl.yes rfl rfl (decide_eq_true hc38) (OpY.fieldAddr (q := ((0 + n16 * rAEdge.sz) + 1)) Tryd.underlying57 rfl ti5 rfl rfl rfl ?_)
            obtain ⟨vs15, q65, q66, q67⟩ := row_elem (pre := []) (sp := sp23) f44 q63
            obtain ⟨rfl, -⟩ := rAEdge_open q66
            have q68 := elem_part (us := [(Value.int .u8 x20.High)]) (q := 1) q67 rfl
            refine Rl.yes rfl rfl (decide_eq_true hc38) (OpY.ldElem1 (v := (Value.int .u8 x20.High)) Tryd.underlying5 rfl rfl (own_some hb14 (hL41.at 6 rfl rfl)) q68 ?_)
            refine Rl.yes rfl rfl (decide_eq_true hc38) (OpY.convInt (x := x20.High) (z := (iw x20.High)) Tryd.underlying5 Tryd.underlying3 rfl rfl ?_)
            refine Rl.yes rfl rfl (decide_eq_true hc38) (OpY.move (v := (Value.int .i64 x16)) rfl ?_)
            refine Rl.yes rfl rfl (decide_eq_true hc38) (OpY.sub (x := x16) (y := 1) (z := (iw (x16 - 1))) rfl rfl rfl ?_)
            refine Rl.yes rfl rfl (decide_eq_true hc38) (OpY.eql (x := (iw x20.High)) (y := (iw (x16 - 1))) (((iw x20.High) : Int) = (iw (x16 - 1))) rfl rfl Iff.rfl ?_)
            refine Rl.op (OpY.pick_t (t := (decide ((x19.To : Int) = n14))) (v := (Value.bool (decide (((iw x20.High) : Int) = (iw (x16 - 1)))))) rfl (decide_eq_true hc38) rfl ?_)
            refine Rl.nil ?_
            obtain rfl := Option.some.inj h
            refine Swp.pop_back ?_
            exact ⟨(decide (((iw x20.High) : Int) = (iw (x16 - 1)))), _, rfl, (upds_sym ⟨rfl, rfl, rfl, rfl, rfl, rfl, rfl, rfl, rfl, rfl, rfl, rfl, rfl, trivial⟩), hL41, Keep.refl, hc35, trivial⟩
           ·
            replace h := ite_f hc38 h
            refine Rl.no rfl rfl (decide_eq_false hc38) ?_
            refine Rl.no rfl rfl (decide_eq_false hc38) ?_
            refine Rl.no rfl rfl (decide_eq_false hc38) ?_
            refine Rl.no rfl rfl (decide_eq_false hc38) ?_
            refine Rl.no rfl rfl (decide_eq_false hc38) ?_
            refine Rl.no rfl rfl (decide_eq_false hc38) ?_
            refine Rl.no rfl rfl (decide_eq_false hc38) ?_
            refine Rl.no rfl rfl (decide_eq_false hc38) ?_
            refine Rl.no rfl rfl (decide_eq_false hc38) ?_
            refine Rl.op (OpY.pick_f (t := (decide ((x19.To : Int) = n14))) (v := (Value.bool false)) rfl (decide_eq_false hc38) rfl ?_)
            refine Rl.nil ?_
            obtain rfl := Option.some.inj h
            refine Swp.pop_back ?_
            exact ⟨false, _, rfl, (upds_sym ⟨rfl, rfl, rfl, rfl, rfl, rfl, rfl, rfl, rfl, rfl, rfl, rfl, rfl, trivial⟩), hL41, Keep.refl, hc35, trivial⟩
          ·
           replace h := ite_f hc37 h
           refine Rl.no rfl rfl (decide_eq_false hc37) ?_
           refine Rl.no rfl rfl (decide_eq_false hc37) ?_
           refine Rl.no rfl rfl (decide_eq_false hc37) ?_
           refine Rl.no rfl rfl (decide_eq_false hc37) ?_
           refine Rl.no rfl rfl (decide_eq_false hc37) ?_
           refine Rl.no rfl rfl (decide_eq_false hc37) ?_
           refine Rl.no rfl rfl (decide_eq_false hc37) ?_
           refine Rl.op (OpY.pick_f (t := (decide (((iw ((List.length edgesL12 : Int) - 1)) : Int) ≥ 0))) (v := (Value.bool false)) rfl (decide_eq_false hc37) rfl ?_)
           refine Rl.op (OpY.move (v := (Value.bool false)) rfl ?_)
           refine Rl.no rfl rfl rfl ?_
           refine Rl.no rfl rfl rfl ?_
           refine Rl.no rfl rfl rfl ?_
           refine Rl.no rfl rfl rfl ?_
           refine Rl.no rfl rfl rfl ?_
           refine Rl.no rfl rfl rfl ?_
           refine Rl.no rfl rfl rfl ?_
           refine Rl.no rfl rfl rfl ?_
           refine Rl.no rfl rfl rfl ?_
           refine Rl.op (OpY.pick_f (t := false) (v := (Value.bool false)) rfl rfl rfl ?_)
           refine Rl.nil ?_
           obtain rfl := Option.some.inj h
           refine Swp.pop_back ?_
           exact ⟨false, _, rfl, (upds_sym ⟨rfl, rfl, rfl, rfl, rfl, rfl, rfl, rfl, rfl, rfl, rfl, rfl, rfl, trivial⟩), hL41, Keep.refl, hc35, trivial⟩
         ·
          rintro _ w34 ⟨x18, u, rfl, rfl, hL42, K42, hc39, -⟩
          replace h := g14
          try dsimp only at h
          refine Swp.cond_b x18 rfl (fun hc40 => ?_) (fun hc40 => ?_)
          ·
           replace h := ite_t hc40 h
           refine Swp.region rfl (Rl.op (OpY.move (v := (osv ob23 0 (List.length edgesL12) cap23)) rfl ?_))
           refine Rl.op (OpY.move (v := (Value.int .i64 (iw ((List.length edgesL12 : Int) - 1)))) rfl ?_)
           refine Rl.op (OpY.move (v := (Value.int .i64 x16)) rfl ?_)
           refine Rl.op (OpY.convInt (x := x16) (z := (uw8 x16)) Tryd.underlying3 Tryd.underlying5 rfl rfl ?_)
           obtain ⟨x21, q69, h⟩ := bind_some h
           obtain ⟨n17, q70, q71⟩ := idx_some q69
           have q72 := (List.getElem?_eq_some_iff.1 q71).1
           have f45 := (f44.mono (K42 None))
           obtain ⟨b24, hb15⟩ := hL42.row_some 6 rfl rfl (row_pos (pre := []) f45 q71 (Nat.lt_of_sub_eq_succ rfl))
           refine Rl.op (OpY.ixRowD (r := rAEdge) (b := b24) (o := 0) (n := n17) (m := (List.length edgesL12)) (xs := edgesL12) (q := (0 + n17 * rAEdge.sz)) Tryd.underlying58 ti57 (osv_some hb15) rfl rfl q70 q72 rfl ?_)
           refine Rl.op (OpY.fieldAddr (q := ((0 + n17 * rAEdge.sz) + 1)) Tryd.underlying57 rfl ti5 rfl rfl rfl ?_)
           obtain ⟨vs16, q73, q74, q75⟩ := row_elem (pre := []) (sp := sp23) f45 q71
           obtain ⟨rfl, -⟩ := rAEdge_open q74
           obtain ⟨x22, q76, h⟩ := bind_some h
           obtain ⟨n18, q77, q78, q79⟩ := upd1_some q76
           obtain rfl := Int.ofNat_inj.1 (q70.symm.trans q77)
           refine Rl.op0 (OpY.stPart (pre := []) (r := rAEdge) (off := 1) (us := [(Value.int .u8 (uw8 x16))]) (vs := [(Value.int .u8 x21.Low), (Value.int .u8 x21.High), (Value.int .i64 x21.To)]) (vs' := [(Value.int .u8 x21.Low), (Value.int .u8 (uw8 x16)), (Value.int .i64 x21.To)]) (a := (AEdge.mk x21.Low (uw8 x16) x21.To)) ti5 rfl rfl rfl rfl (ones_cons rfl ones_nil) q75 (Nat.le_of_ble_eq_true rfl) rfl (rAEdge_close ⟨rfl, trivial⟩) hL42 6 (congrArg some hb15) rfl f45 q72 rfl q79 ?_)
           have hl13 : (List.length edgesL12) = List.length x22 := by rw [q79, List.length_set]
           intro w35 cs26 (hL43 : Go.X.Loc [] [] w w35 [some b1, some b6, ob11, some b13, ob17, ob18, ob23, some b14, ob25] [Cont.cells [d_v, d_v1], Cont.cells [(Value.slice none 0 0), (Value.slice none 0 0)], Cont.cells ([] ++ (cs11 ++ sp11)), Cont.cells [(osv ob17 0 (List.length accept12) cap17), (osv ob18 0 (List.length edges11 + 1) cap18)], Cont.cells ([] ++ (cs17 ++ sp17)), Cont.cells ([] ++ ((cs15 ++ [(osv ob23 0 (List.length edgesL12) cap23)]) ++ sp18)), Cont.cells ([] ++ (cs26 ++ sp23)), (mcont (fun x : Int => Value.int .i64 x) (fun x : Int => Value.int .i64 x) number13), Cont.cells ([] ++ (cs24 ++ sp25))]) hS27 hE33 q80
           have hc41 : (cs26 ++ sp23).length = cap23 * rAEdge.sz := by have := hc28; rw [List.length_append] at this ⊢; rw [q80]; exact this
           have K43 := ks w hS27
           refine Rl.nil (Swp.pop_blk (Swp.region rfl (Rl.op (OpY.move (v := (Value.int .i64 x16)) rfl ?_))))
           refine Rl.op (OpY.add (x := x16) (y := 1) (z := (iw (x16 + 1))) rfl rfl rfl ?_)
           refine Rl.op (OpY.assign (v := (Value.int .i64 (iw (x16 + 1)))) rfl ?_)
           refine Rl.nil ?_
           have f46 := (hE33.mono (K43 None))
           have f47 := ((hE32.mono (K42 None)).mono (K43 None))
           obtain rfl := Option.some.inj h
           refine Swp.pop_back ⟨(x22, number13, states13, (iw (x16 + 1))), rfl, ?_⟩
           exact ⟨ob23, cap23, sp23, cs26, (List.length edgesL12), ob25, cap25, sp25, cs24, (List.length states13), _, (upds_sym ⟨rfl, rfl, rfl, rfl, rfl, rfl, rfl, rfl, rfl, trivial⟩), hL43, (Keep.trans (Keep.trans (Keep.trans (Keep.trans (Keep.trans K34 K35) K36) K41) K42) K43), hc39, f46, hl13, hc41, f47, rfl, hc36, trivial⟩
          ·
           replace h := ite_f hc40 h
           obtain ⟨u12, q81, h⟩ := bind_some h
           have q82 := chk_some q81
           obtain ⟨b25, hb16⟩ := hL42.row_some 5 rfl rfl (by simp only [List.nil_append, List.length_append, List.length_cons]; omega)
           refine Swp.drawP [10, 11, 13] [0, 1, 2, 3, 4, 5, 6, 7, 8, 9, 12] [(116, (Value.pointer (some ⟨b13, 1, none⟩))), (117, (osv ob18 0 (List.length edges11 + 1) cap18)), (118, (Value.int .i64 i10)), (119, (osv ob23 0 (List.length edgesL12) cap23)), (120, (Value.int .i64 x16)), (121, (Value.int .u8 (uw8 x16))), (122, (Value.int .i64 x16)), (123, (Value.int .u8 (uw8 x16))), (124, (Value.int .i64 n14)), (125, (Value.agg #[(Value.int .u8 (uw8 x16)), (Value.int .u8 (uw8 x16)), (Value.int .i64 n14)])), (128, (Value.pointer (some ⟨b25, (0 + (List.length edges11) * (rSl rAEdge).sz), none⟩)))] mixed rfl rfl rfl rfl ?_
           intro w36 hE34
           have hL44 := hL42.ext hE34
           have K44 := ke hL42 hE34
           refine ⟨?_, ?_⟩
           ·
            refine LateP.cons (i := 0) rfl rfl (GOp.op (OpY.fieldAddr (q := 1) Tryd.underlying32 rfl ti30 rfl rfl rfl ⟨rfl, rfl⟩)) ?_
            refine LateP.cons (i := 1) rfl rfl (GOp.op (OpY.ldBox1 (v := (osv ob18 0 (List.length edges11 + 1) cap18)) Tryd.underlying30 rfl rfl (hL44.at 3 rfl rfl) rfl ⟨rfl, rfl⟩)) ?_
            refine LateP.cons (i := 2) rfl rfl (GOp.op (OpY.move (v := (Value.int .i64 i10)) rfl ⟨rfl, rfl⟩)) ?_
            refine LateP.cons (i := 3) rfl rfl (GOp.op (OpY.move (v := (osv ob23 0 (List.length edgesL12) cap23)) rfl ⟨rfl, rfl⟩)) ?_
            refine LateP.cons (i := 4) rfl rfl (GOp.op (OpY.move (v := (Value.int .i64 x16)) rfl ⟨rfl, rfl⟩)) ?_
            refine LateP.cons (i := 5) rfl rfl (GOp.op (OpY.convInt (x := x16) (z := (uw8 x16)) Tryd.underlying3 Tryd.underlying5 rfl rfl ⟨rfl, rfl⟩)) ?_
            refine LateP.cons (i := 6) rfl rfl (GOp.op (OpY.move (v := (Value.int .i64 x16)) rfl ⟨rfl, rfl⟩)) ?_
            refine LateP.cons (i := 7) rfl rfl (GOp.op (OpY.convInt (x := x16) (z := (uw8 x16)) Tryd.underlying3 Tryd.underlying5 rfl rfl ⟨rfl, rfl⟩)) ?_
            refine LateP.cons (i := 8) rfl rfl (GOp.op (OpY.move (v := (Value.int .i64 n14)) rfl ⟨rfl, rfl⟩)) ?_
            refine LateP.cons (i := 9) rfl rfl (GOp.op (OpY.build (zc := [(Value.int .u8 0), (Value.int .u8 0), (Value.int .i64 0)]) (cs := [(Value.int .u8 (uw8 x16)), (Value.int .u8 (uw8 x16)), (Value.int .i64 n14)]) (is := [0, 1, 2]) (vs := [(Value.int .u8 (uw8 x16)), (Value.int .u8 (uw8 x16)), (Value.int .i64 n14)]) (css := [[(Value.int .u8 (uw8 x16))], [(Value.int .u8 (uw8 x16))], [(Value.int .i64 n14)]]) pl57 ti57 rfl rfl rfl ⟨rfl, rfl, rfl, trivial⟩ rfl ⟨rfl, rfl⟩)) ?_
            refine LateP.cons (i := 12) rfl rfl (GOp.op (OpY.ixRowD (r := (rSl rAEdge)) (b := b25) (o := 0) (n := (List.length edges11)) (m := (List.length edges11 + 1)) (xs := edges11 ++ [[]]) (q := (0 + (List.length edges11) * (rSl rAEdge).sz)) Tryd.underlying30 ti58 (osv_some hb16) (by rw [List.length_append]; rfl) rfl q82 (by rw [List.length_append]; exact Nat.lt_succ_self _) rfl ⟨rfl, rfl⟩)) ?_
            exact LateP.nil
           have hE35 : Els rAEdge (Hv w.heap.size None [some b1, some b6, ob11, some b13, ob17, ob18, ob23, some b14, ob25] w36) [(Value.int .u8 (uw8 x16)), (Value.int .u8 (uw8 x16)), (Value.int .i64 n14)] [(AEdge.mk (uw8 x16) (uw8 x16) n14)] := (Els.cons (a := [(Value.int .u8 (uw8 x16)), (Value.int .u8 (uw8 x16)), (Value.int .i64 n14)]) (rAEdge_close ⟨rfl, trivial⟩) Els.nil)
           refine RlL.op (OpY.litRow (r := rAEdge) (vs := [(Value.agg #[(Value.int .u8 (uw8 x16)), (Value.int .u8 (uw8 x16)), (Value.int .i64 n14)])]) (css := [[(Value.int .u8 (uw8 x16)), (Value.int .u8 (uw8 x16)), (Value.int .i64 n14)]]) (xs := [(AEdge.mk (uw8 x16) (uw8 x16) n14)]) Tryd.underlying58 ti57 (Nat.le_of_ble_eq_true rfl) rfl rfl ⟨rfl, rfl, trivial⟩ (Nat.le_of_ble_eq_true rfl) hE35 rfl hL44 ?_)
           intro b26 w37 hc42 hL45 hS28
           have K45 := ks w hS28
           refine ⟨?_, ?_⟩
           ·
            refine LateP.cons (i := 0) rfl rfl (GOp.op (OpY.fieldAddr (q := 1) Tryd.underlying32 rfl ti30 rfl rfl rfl ⟨rfl, rfl⟩)) ?_
            refine LateP.cons (i := 1) rfl rfl (GOp.op (OpY.ldBox1 (v := (osv ob18 0 (List.length edges11 + 1) cap18)) Tryd.underlying30 rfl rfl (hL45.at 4 rfl rfl) rfl ⟨rfl, rfl⟩)) ?_
            refine LateP.cons (i := 2) rfl rfl (GOp.op (OpY.move (v := (Value.int .i64 i10)) rfl ⟨rfl, rfl⟩)) ?_
            refine LateP.cons (i := 3) rfl rfl (GOp.op (OpY.move (v := (osv ob23 0 (List.length edgesL12) cap23)) rfl ⟨rfl, rfl⟩)) ?_
            refine LateP.cons (i := 4) rfl rfl (GOp.op (OpY.move (v := (Value.int .i64 x16)) rfl ⟨rfl, rfl⟩)) ?_
            refine LateP.cons (i := 5) rfl rfl (GOp.op (OpY.convInt (x := x16) (z := (uw8 x16)) Tryd.underlying3 Tryd.underlying5 rfl rfl ⟨rfl, rfl⟩)) ?_
            refine LateP.cons (i := 6) rfl rfl (GOp.op (OpY.move (v := (Value.int .i64 x16)) rfl ⟨rfl, rfl⟩)) ?_
            refine LateP.cons (i := 7) rfl rfl (GOp.op (OpY.convInt (x := x16) (z := (uw8 x16)) Tryd.underlying3 Tryd.underlying5 rfl rfl ⟨rfl, rfl⟩)) ?_
            refine LateP.cons (i := 8) rfl rfl (GOp.op (OpY.move (v := (Value.int .i64 n14)) rfl ⟨rfl, rfl⟩)) ?_
            refine LateP.cons (i := 12) rfl rfl (GOp.op (OpY.ixRowD (r := (rSl rAEdge)) (b := b25) (o := 0) (n := (List.length edges11)) (m := (List.length edges11 + 1)) (xs := edges11 ++ [[]]) (q := (0 + (List.length edges11) * (rSl rAEdge).sz)) Tryd.underlying30 ti58 (osv_some hb16) (by rw [List.length_append]; rfl) rfl q82 (by rw [List.length_append]; exact Nat.lt_succ_self _) rfl ⟨rfl, rfl⟩)) ?_
            exact LateP.nil
           obtain ⟨x23, q83, h⟩ := bind_some h
           obtain ⟨q84, q85, q86⟩ := apnd_some q83
           have f48 := (hE35.mono (K45 None))
           have f49 := (((f44.mono (K42 None)).mono (K44 None)).mono (K45 None))
           refine RlL.op (OpY.apRowX (r := rAEdge) (H := (Hv w.heap.size None [some b26, some b1, some b6, ob11, some b13, ob17, ob18, ob23, some b14, ob25] w37)) (cs := cs22) (sp := sp23) (xs := edgesL12) (ys := [(AEdge.mk (uw8 x16) (uw8 x16) n14)]) (Y := x23) (n := (List.length edgesL12)) (cap := cap23) (i := 7) Tryd.underlying58 ti57 rfl rfl rfl rfl hL45 rfl rfl f49 rfl hc28 (Src.row (pre := []) (o := 0) (n := 1) (cap := 1) (hL45.at 0 rfl rfl) f48 rfl rfl rfl) (Els.anyH (fun _ _ _ _ h => h) f48) q84 q85 q86 ?_)
           intro ob27 cap27 sp27 cs27 w38 hE36 hc43 (hL46 : Go.X.Loc [] [] w w38 [some b26, some b1, some b6, ob11, some b13, ob17, ob18, ob27, some b14, ob25] [Cont.cells ([] ++ ([(Value.int .u8 (uw8 x16)), (Value.int .u8 (uw8 x16)), (Value.int .i64 n14)] ++ [])), Cont.cells [d_v, d_v1], Cont.cells [(Value.slice none 0 0), (Value.slice none 0 0)], Cont.cells ([] ++ (cs11 ++ sp11)), Cont.cells [(osv ob17 0 (List.length accept12) cap17), (osv ob18 0 (List.length edges11 + 1) cap18)], Cont.cells ([] ++ (cs17 ++ sp17)), Cont.cells ([] ++ ((cs15 ++ [(osv ob23 0 (List.length edgesL12) cap23)]) ++ sp18)), Cont.cells ([] ++ (cs27 ++ sp27)), (mcont (fun x : Int => Value.int .i64 x) (fun x : Int => Value.int .i64 x) number13), Cont.cells ([] ++ (cs24 ++ sp25))]) hS29
           have K46 := ks w hS29
           refine ⟨?_, ?_⟩
           ·
            refine LateP.cons (i := 0) rfl rfl (GOp.op (OpY.fieldAddr (q := 1) Tryd.underlying32 rfl ti30 rfl rfl rfl ⟨rfl, rfl⟩)) ?_
            refine LateP.cons (i := 1) rfl rfl (GOp.op (OpY.ldBox1 (v := (osv ob18 0 (List.length edges11 + 1) cap18)) Tryd.underlying30 rfl rfl (hL46.at 4 rfl rfl) rfl ⟨rfl, rfl⟩)) ?_
            refine LateP.cons (i := 2) rfl rfl (GOp.op (OpY.move (v := (Value.int .i64 i10)) rfl ⟨rfl, rfl⟩)) ?_
            refine LateP.cons (i := 4) rfl rfl (GOp.op (OpY.move (v := (Value.int .i64 x16)) rfl ⟨rfl, rfl⟩)) ?_
            refine LateP.cons (i := 5) rfl rfl (GOp.op (OpY.convInt (x := x16) (z := (uw8 x16)) Tryd.underlying3 Tryd.underlying5 rfl rfl ⟨rfl, rfl⟩)) ?_
            refine LateP.cons (i := 6) rfl rfl (GOp.op (OpY.move (v := (Value.int .i64 x16)) rfl ⟨rfl, rfl⟩)) ?_
            refine LateP.cons (i := 7) rfl rfl (GOp.op (OpY.convInt (x := x16) (z := (uw8 x16)) Tryd.underlying3 Tryd.underlying5 rfl rfl ⟨rfl, rfl⟩)) ?_
            refine LateP.cons (i := 8) rfl rfl (GOp.op (OpY.move (v := (Value.int .i64 n14)) rfl ⟨rfl, rfl⟩)) ?_
            refine LateP.cons (i := 12) rfl rfl (GOp.op (OpY.ixRowD (r := (rSl rAEdge)) (b := b25) (o := 0) (n := (List.length edges11)) (m := (List.length edges11 + 1)) (xs := edges11 ++ [[]]) (q := (0 + (List.length edges11) * (rSl rAEdge).sz)) Tryd.underlying30 ti58 (osv_some hb16) (by rw [List.length_append]; rfl) rfl q82 (by rw [List.length_append]; exact Nat.lt_succ_self _) rfl ⟨rfl, rfl⟩)) ?_
            exact LateP.nil
           have f50 := ((((f43.mono (K42 None)).mono (K44 None)).mono (K45 None)).mono (K46 None))
           refine RlL.op0 (OpY.stOpen (i := 6) (r := (rSl rAEdge)) (xs := edges11) (v := (osv ob23 0 (List.length edgesL12) cap23)) ti58 rfl rfl (one_cells (osv_one ob27 0 (List.length x23) cap27)) rfl (osv_one ob27 0 (List.length x23) cap27) hL46 (congrArg some hb16) rfl f50 rfl ?_)
           intro w39 (hL47 : Go.X.Loc [] [] w w39 [some b26, some b1, some b6, ob11, some b13, ob17, ob18, ob27, some b14, ob25] [Cont.cells ([] ++ ([(Value.int .u8 (uw8 x16)), (Value.int .u8 (uw8 x16)), (Value.int .i64 n14)] ++ [])), Cont.cells [d_v, d_v1], Cont.cells [(Value.slice none 0 0), (Value.slice none 0 0)], Cont.cells ([] ++ (cs11 ++ sp11)), Cont.cells [(osv ob17 0 (List.length accept12) cap17), (osv ob18 0 (List.length edges11 + 1) cap18)], Cont.cells ([] ++ (cs17 ++ sp17)), Cont.cells ([] ++ ((cs15 ++ [(osv ob27 0 (List.length x23) cap27)]) ++ sp18)), Cont.cells ([] ++ (cs27 ++ sp27)), (mcont (fun x : Int => Value.int .i64 x) (fun x : Int => Value.int .i64 x) number13), Cont.cells ([] ++ (cs24 ++ sp25))]) hS30
           have K47 := ks w hS30
           refine ⟨?_, ?_⟩
           ·
            exact LateP.nil
           refine RlL.fin ?_
           refine Swp.pop_blk (Swp.region rfl (Rl.op (OpY.move (v := (Value.int .i64 x16)) rfl ?_)))
           refine Rl.op (OpY.add (x := x16) (y := 1) (z := (iw (x16 + 1))) rfl rfl rfl ?_)
           refine Rl.op (OpY.assign (v := (Value.int .i64 (iw (x16 + 1)))) rfl ?_)
           refine Rl.nil ?_
           have hp20 := hL47.pick [1, 2, 3, 4, 5, 6, 7, 8, 9] rfl rfl rfl
           have hL48 : Go.X.Loc [] [] w w39 [some b1, some b6, ob11, some b13, ob17, ob18, ob27, some b14, ob25] [Cont.cells [d_v, d_v1], Cont.cells [(Value.slice none 0 0), (Value.slice none 0 0)], Cont.cells ([] ++ (cs11 ++ sp11)), Cont.cells [(osv ob17 0 (List.length accept12) cap17), (osv ob18 0 (List.length edges11 + 1) cap18)], Cont.cells ([] ++ (cs17 ++ sp17)), Cont.cells ([] ++ ((cs15 ++ [(osv ob27 0 (List.length x23) cap27)]) ++ sp18)), Cont.cells ([] ++ (cs27 ++ sp27)), (mcont (fun x : Int => Value.int .i64 x) (fun x : Int => Value.int .i64 x) number13), Cont.cells ([] ++ (cs24 ++ sp25))] := hp20.1
           have K48 := ks w hp20.2
           have f51 := (((hE36.mono (K46 None)).mono (K47 None)).mono (K48 None))
           have f52 := ((((((hE32.mono (K42 None)).mono (K44 None)).mono (K45 None)).mono (K46 None)).mono (K47 None)).mono (K48 None))
           obtain rfl := Option.some.inj h
           refine Swp.pop_back ⟨(x23, number13, states13, (iw (x16 + 1))), rfl, ?_⟩
           exact ⟨ob27, cap27, sp27, cs27, (List.length x23), ob25, cap25, sp25, cs24, (List.length states13), _, (upds_sym ⟨rfl, rfl, rfl, rfl, rfl, rfl, rfl, rfl, rfl, trivial⟩), hL48, (Keep.trans (Keep.trans (Keep.trans (Keep.trans (Keep.trans (Keep.trans (Keep.trans (Keep.trans (Keep.trans K34 K35) K36) K41) K42) K44) K45) K46) K47) K48), hc39, f51, rfl, hc43, f52, rfl, hc36, trivial⟩
      ·
       replace h := ite_f hc30 h
       refine Swp.exit rfl ?_
       obtain rfl := Option.some.inj h
       obtain rfl := hd11 _ rfl
       replace h := g12
       try dsimp only at h
       skip
       refine Swp.pop_back ?_
       exact ⟨edgesL12, number12, states12, ob23, cap23, sp23, cs22, (List.length edgesL12), ob24, cap24, sp24, cs23, (List.length states12), _, rfl, (upds_sym ⟨rfl, rfl, rfl, rfl, rfl, rfl, rfl, trivial⟩), hL34, K34, hc27, hE26, rfl, hc28, hE27, rfl, hc29, trivial⟩
     ·
      rintro _ w40 ⟨edgesL11, number11, states11, ob21, cap21, sp21, cs20, ln16, ob22, cap22, sp22, cs21, ln17, u, rfl, rfl, hL49, K49, hc44, hE37, rfl, hc45, hE38, rfl, hc46, -⟩
      replace h := g12
      try dsimp only at h
      refine Swp.pop_blk (Swp.region rfl (Rl.op (OpY.move (v := (Value.int .i64 i10)) rfl ?_)))
      refine Rl.op (OpY.add (x := i10) (y := 1) (z := (iw (i10 + 1))) rfl rfl rfl ?_)
      refine Rl.op (OpY.assign (v := (Value.int .i64 (iw (i10 + 1)))) rfl ?_)
      refine Rl.nil ?_
      have f53 := hL49.freezeRow 6 rfl rfl hE37 rfl rfl rfl hc45
      have hp21 := hL49.pick [0, 1, 2, 3, 4, 5, 7, 8] rfl rfl rfl
      have hL50 : Go.X.Loc [] [] w w40 [some b1, some b6, ob11, some b13, ob17, ob18, some b14, ob22] [Cont.cells [d_v, d_v1], Cont.cells [(Value.slice none 0 0), (Value.slice none 0 0)], Cont.cells ([] ++ (cs11 ++ sp11)), Cont.cells [(osv ob17 0 (List.length accept12) cap17), (osv ob18 0 (List.length edges11 + 1) cap18)], Cont.cells ([] ++ (cs17 ++ sp17)), Cont.cells ([] ++ ((cs15 ++ [(osv ob21 0 (List.length edgesL11) cap21)]) ++ sp18)), (mcont (fun x : Int => Value.int .i64 x) (fun x : Int => Value.int .i64 x) number11), Cont.cells ([] ++ (cs21 ++ sp22))] := hp21.1
      have K50 := ks w hp21.2
      have f54 := (((hE18.mono (K33 None)).mono (K49 None)).mono (K50 None))
      have hE39 : Els (rSl rAEdge) (Hv w.heap.size None [some b1, some b6, ob11, some b13, ob17, ob18, some b14, ob22] w40) (cs15 ++ [(osv ob21 0 (List.length edgesL11) cap21)]) (edges11 ++ [edgesL11]) := f54.append (Els.one (a := [(osv ob21 0 (List.length edgesL11) cap21)]) ⟨_, rfl, f53⟩)
      have hc47 : ((cs15 ++ [(osv ob21 0 (List.length edgesL11) cap21)]) ++ sp18).length = cap18 * (rSl rAEdge).sz := by rw [List.length_append, List.length_append]; exact hc44
      have hl14 : List.length edges11 + 1 = List.length (edges11 ++ [edgesL11]) := by rw [List.length_append]; rfl
      have f55 := ((hE24.mono (K49 None)).mono (K50 None))
      have f56 := (hE38.mono (K50 None))
      obtain rfl := Option.some.inj h
      refine Swp.pop_back ⟨(accept12, (edges11 ++ [edgesL11]), number11, states11, (iw (i10 + 1))), rfl, ?_⟩
      exact ⟨ob17, cap17, sp17, cs17, (List.length accept12), ob18, cap18, sp18, (cs15 ++ [(osv ob21 0 (List.length edgesL11) cap21)]), (List.length edges11 + 1), ob22, cap22, sp22, cs21, (List.length states11), _, (upds_sym ⟨rfl, rfl, rfl, rfl, rfl, rfl, rfl, trivial⟩), hL50, (Keep.trans (Keep.trans (Keep.trans K24 K33) K49) K50), f55, rfl, hc24, hE39, hl14, hc47, f56, rfl, hc46, trivial⟩
   ·
    replace h := ite_f hc19 h
    refine Swp.exit rfl ?_
    have hp22 := hL24.pick [1, 3, 4, 5] rfl rfl rfl
    have hL51 : Go.X.Loc [] [] w w19 [some b6, some b13, ob14, ob15] [Cont.cells [(Value.slice none 0 0), (Value.slice none 0 0)], Cont.cells [(osv ob14 0 (List.length accept11) cap14), (osv ob15 0 (List.length edges11) cap15)], Cont.cells ([] ++ (cs14 ++ sp14)), Cont.cells ([] ++ (cs15 ++ sp15))] := hp22.1
    have K51 := ks w hp22.2
    have f57 := (hE17.mono (K51 None))
    have f58 := (hE18.mono (K51 None))
    obtain rfl := Option.some.inj h
    obtain rfl := hd10 _ rfl
    replace h := g10
    try dsimp only at h
    skip
    refine Swp.pop_back ?_
    exact ⟨accept11, edges11, ob14, cap14, sp14, cs14, (List.length accept11), ob15, cap15, sp15, cs15, (List.length edges11), _, rfl, (upds_sym ⟨rfl, rfl, trivial⟩), hL51, (Keep.trans K24 K51), f57, rfl, hc16, f58, rfl, hc17, trivial⟩
  ·
   rintro _ w41 ⟨accept10, edges10, ob12, cap12, sp12, cs12, ln10, ob13, cap13, sp13, cs13, ln11, u, rfl, rfl, hL52, K52, hE40, rfl, hc48, hE41, rfl, hc49, -⟩
   replace h := g10
   try dsimp only at h
   refine Swp.seq (Swp.region rfl (Rl.op (OpY.ldBoxA (vs := [(osv ob12 0 (List.length accept10) cap12), (osv ob13 0 (List.length edges10) cap13)]) Tryd.underlying32 rfl ti32 rfl (hL52.at 1 rfl rfl) rfl rfl ?_)))
   refine Rl.op0 (OpY.store (vs := [(osv ob12 0 (List.length accept10) cap12), (osv ob13 0 (List.length edges10) cap13)]) ti32 rfl rfl rfl rfl (ones_cons (osv_one _ _ _ _) (ones_cons (osv_one _ _ _ _) ones_nil)) hL52 0 rfl rfl (Nat.le_of_ble_eq_true rfl) ?_)
   intro w42 (hL53 : Go.X.Loc [] [] w w42 [some b6, some b13, ob12, ob13] [Cont.cells [(osv ob12 0 (List.length accept10) cap12), (osv ob13 0 (List.length edges10) cap13)], Cont.cells [(osv ob12 0 (List.length accept10) cap12), (osv ob13 0 (List.length edges10) cap13)], Cont.cells ([] ++ (cs12 ++ sp12)), Cont.cells ([] ++ (cs13 ++ sp13))]) hS31
   have K53 := ks w hS31
   refine Rl.op (OpY.assign (v := (Value.int .i64 0)) rfl ?_)
   refine Rl.nil ?_
   have f59 := (hE40.mono (K53 None))
   have f60 := hL53.freezeRow 2 rfl rfl f59 rfl rfl rfl hc48
   have hp23 := hL53.pick [0, 1, 3] rfl rfl rfl
   have hL54 : Go.X.Loc [] [] w w42 [some b6, some b13, ob13] [Cont.cells [(osv ob12 0 (List.length accept10) cap12), (osv ob13 0 (List.length edges10) cap13)], Cont.cells [(osv ob12 0 (List.length accept10) cap12), (osv ob13 0 (List.length edges10) cap13)], Cont.cells ([] ++ (cs13 ++ sp13))] := hp23.1
   have K54 := ks w hp23.2
   have f61 := ((hE41.mono (K53 None)).mono (K54 None))
   have f62 := hL54.freezeRow 2 rfl rfl f61 rfl rfl rfl hc49
   have hp24 := hL54.pick [0, 1] rfl rfl rfl
   have hL55 : Go.X.Loc [] [] w w42 [some b6, some b13] [Cont.cells [(osv ob12 0 (List.length accept10) cap12), (osv ob13 0 (List.length edges10) cap13)], Cont.cells [(osv ob12 0 (List.length accept10) cap12), (osv ob13 0 (List.length edges10) cap13)]] := hp24.1
   have K55 := ks w hp24.2
   refine Swp.ret ?_
   obtain rfl := Option.some.inj h
   refine ⟨[(Value.agg #[(osv ob12 0 (List.length accept10) cap12), (osv ob13 0 (List.length edges10) cap13)]), (Value.int .i64 0)], ⟨⟨⟨b6, 0, none⟩, rfl, res_boxA Tryd.underlying32 rfl ti32 (hL55.at 0 rfl rfl) rfl⟩, ⟨rfl, trivial⟩⟩, ⟨_, rfl, hL55.done, ?_⟩⟩
   have f63 := (f60.mono (K55 None))
   exact ⟨(osv ob12 0 (List.length accept10) cap12), (osv ob13 0 (List.length edges10) cap13), rfl, (f63.mono Hv.out), (f62.mono Hv.out), trivial⟩
theorem aFind_w (N : Nat) : ∀ (f : AFinder) (state : Int) (text : (List Int)) (left : Int) (f_b : Nat) (f_v1 : Value) (f_v2 : Value) (f_v3 : Value) (f_words_ob : Option Nat) (f_words_cap : Nat) (f_words_cs : List Value) (f_words_sp : List Value) (text_ob : Option Nat) (text_cap : Nat) (text_cs : List Value) (text_sp : List Value) (X : List (Option Nat)) (w : World) (S : Nat → Prop) (hL : Go.X.Loc X [] w w [some f_b, f_words_ob, text_ob] [Cont.cells [f_v1, f_v2, f_v3, (Value.int .i64 f.most), (osv f_words_ob 0 (List.length f.words) f_words_cap)], Cont.cells ([] ++ (f_words_cs ++ f_words_sp)), Cont.cells ([] ++ (text_cs ++ text_sp))]) (f_h1 : Rs rBool (Hv w.heap.size S [some f_b, f_words_ob, text_ob] w) f_v1 f.d.Accept) (f_h2 : Rs (rSl rAEdge) (Hv w.heap.size S [some f_b, f_words_ob, text_ob] w) f_v2 f.d.Edges) (f_h3 : Rs (rSl rBool) (Hv w.heap.size S [some f_b, f_words_ob, text_ob] w) f_v3 f.can) (f_words_hE : Els rStr (Hv w.heap.size S [some f_b, f_words_ob, text_ob] w) f_words_cs f.words) (f_words_hc : (f_words_cs ++ f_words_sp).length = f_words_cap * rStr.sz) (text_hE : Els (rInt .u8) (Hv w.heap.size S [some f_b, f_words_ob, text_ob] w) text_cs text) (text_hc : (text_cs ++ text_sp).length = text_cap * (rInt .u8).sz) (r : (List (List UInt8))) (h : aFind N f state text left = some r), Calls Tryd.prog 38 #[(Value.pointer (some ⟨f_b, 0, none⟩)), (Value.int .i64 state), (osv text_ob 0 (List.length text) text_cap), (Value.int .i64 left)] w (fun e w' => ∃ (o0words_ob : Option Nat) (o0words_cap : Nat) (o0words_cs : List Value) (o0words_sp : List Value) (o2_cs : List Value) (o2_sp : List Value), e = Ending.returned (Value.tuple #[]) ∧ Go.X.Loc X [] w w' [some f_b, o0words_ob, text_ob] [Cont.cells [f_v1, f_v2, f_v3, (Value.int .i64 f.most), (osv o0words_ob 0 (List.length r) o0words_cap)], Cont.cells ([] ++ (o0words_cs ++ o0words_sp)), Cont.cells ([] ++ (o2_cs ++ o2_sp))] ∧ Keep w.heap.size [some f_b, f_words_ob, text_ob] w [some f_b, o0words_ob, text_ob] w' ∧ Els rStr (Hv w.heap.size S [some f_b, o0words_ob, text_ob] w') o0words_cs r ∧ (o0words_cs ++ o0words_sp).length = o0words_cap * rStr.sz ∧ Els (rInt .u8) (Hv w.heap.size S [some f_b, o0words_ob, text_ob] w') o2_cs text ∧ (o2_cs ++ o2_sp).length = text_cap * (rInt .u8).sz ∧ True) := by
 induction N with
 | zero => intro f state text left f_b f_v1 f_v2 f_v3 f_words_ob f_words_cap f_words_cs f_words_sp text_ob text_cap text_cs text_sp X w S hL f_h1 f_h2 f_h3 f_words_hE f_words_hc text_hE text_hc r h; cases (show (none : Option (List (List UInt8))) = some r from h)
 | succ N ih =>
  intro f state text left f_b f_v1 f_v2 f_v3 f_words_ob f_words_cap f_words_cs f_words_sp text_ob text_cap text_cs text_sp X w S hL f_h1 f_h2 f_h3 f_words_hE f_words_hc text_hE text_hc r h
  replace h : aFind_step N (aFind N) f state text left = some r := h
  unfold aFind_step at h
  refine calls_of (l := [(Value.pointer (some ⟨f_b, 0, none⟩)), (Value.int .i64 state), (osv text_ob 0 (List.length text) text_cap), (Value.int .i64 left)]) (rl := []) (n := 82) Tryd.func38 rfl rfl rfl (Nat.le_of_ble_eq_true rfl) ?_
  refine Swp.seq (Swp.seq ?_)
  obtain ⟨s10, h, g10⟩ := bind_some h
  refine Swp.join (fun e w' => ∃ (x10 : Bool) (cs10 : List Value) (sp10 : List Value) (u : Env), x10 = s10 ∧ e = upds [(0, (Value.pointer (some ⟨f_b, 0, none⟩))), (1, (Value.int .i64 state)), (2, (osv text_ob 0 (List.length text) text_cap)), (3, (Value.int .i64 left)), (33, (Value.bool x10))] u ∧ Go.X.Loc X [] w w' [some f_b, f_words_ob, text_ob] [Cont.cells [f_v1, f_v2, f_v3, (Value.int .i64 f.most), (osv f_words_ob 0 (List.length f.words) f_words_cap)], Cont.cells ([] ++ (f_words_cs ++ f_words_sp)), Cont.cells ([] ++ (cs10 ++ sp10))] ∧ Keep w.heap.size [some f_b, f_words_ob, text_ob] w [some f_b, f_words_ob, text_ob] w' ∧ Els (rInt .u8) (Hv w.heap.size S [some f_b, f_words_ob, text_ob] w') cs10 text ∧ (cs10 ++ sp10).length = text_cap * (rInt .u8).sz ∧ True) ?_ ?_
  ·
   by_cases hc10 : ((List.length f.words : Int) : Int) ≥ f.most
   ·
    replace h := ite_t hc10 h
    refine Swp.drawL 19 [] [] (fun W1 => [.det (Value.pointer (some ⟨f_b, 0, none⟩)), .det (Value.pointer (some ⟨f_b, 0, none⟩)), .det (Value.pointer (some ⟨f_b, 4, none⟩)), .det (osv f_words_ob 0 (List.length f.words) f_words_cap), .det (Value.int .i64 (List.length f.words : Int)), .det (Value.pointer (some ⟨f_b, 0, none⟩)), .det (Value.pointer (some ⟨f_b, 0, none⟩)), .det (Value.pointer (some ⟨f_b, 3, none⟩)), .det (Value.int .i64 f.most), .det (Value.bool (decide (((List.length f.words : Int) : Int) ≥ f.most))), .det (Value.bool (decide (((List.length f.words : Int) : Int) ≥ f.most))), .det undef, .det undef, .det undef, .det undef, .det undef, .det undef, .det undef, .det undef]) mixed rfl rfl rfl (fun _ => rfl) (fun _ => rfl) ?_ ?_
    ·
     intro W1 _
     exact trivial
    ·
     intro w10 hE10
     have hL10 := hL.ext hE10
     have K10 := ke hL hE10
     refine DrH.de (fun _ _ => GOp.op (OpY.move rfl (er rfl))) ?_
     refine DrH.de (fun _ _ => GOp.op (OpY.nilCheck (b := ⟨f_b, 0, none⟩) rfl (er rfl))) ?_
     refine DrH.de (fun _ _ => GOp.op (OpY.fieldAddr Tryd.underlying69 rfl ti35 rfl rfl rfl (er rfl))) ?_
     refine DrH.de (fun _ hE14 => GOp.op (OpY.ldBox1 Tryd.underlying35 rfl rfl ((hL10.ext hE14).at 0 rfl rfl) rfl (er rfl))) ?_
     refine DrH.de (fun _ hE15 => GOp.op (OpY.lenRow (pre := []) (r := rStr) (xs := f.words) Tryd.underlying35 rfl ((hL10.ext hE15).at 1 rfl rfl) ((f_words_hE.mono (K10 S)).mono ((ke hL10 hE15) S)) rfl rfl (er rfl))) ?_
     refine DrH.de (fun _ _ => GOp.op (OpY.move rfl (er rfl))) ?_
     refine DrH.de (fun _ _ => GOp.op (OpY.nilCheck (b := ⟨f_b, 0, none⟩) rfl (er rfl))) ?_
     refine DrH.de (fun _ _ => GOp.op (OpY.fieldAddr Tryd.underlying69 rfl ti3 rfl rfl rfl (er rfl))) ?_
     refine DrH.de (fun _ hE19 => GOp.op (OpY.ldBox1 Tryd.underlying3 rfl rfl ((hL10.ext hE19).at 0 rfl rfl) rfl (er rfl))) ?_
     refine DrH.de (fun _ _ => GOp.op (OpY.geq (((List.length f.words : Int) : Int) ≥ f.most) rfl rfl Iff.rfl (er rfl))) ?_
     refine DrH.de (fun _ _ => GOp.op (OpY.move rfl (er rfl))) ?_
     refine DrH.de (fun _ _ => GOp.no rfl rfl (decide_eq_true hc10) (er rfl)) ?_
     refine DrH.de (fun _ _ => GOp.no rfl rfl (decide_eq_true hc10) (er rfl)) ?_
     refine DrH.de (fun _ _ => GOp.no rfl rfl (decide_eq_true hc10) (er rfl)) ?_
     refine DrH.de (fun _ _ => GOp.no rfl rfl (decide_eq_true hc10) (er rfl)) ?_
     refine DrH.de (fun _ _ => GOp.no rfl rfl (decide_eq_true hc10) (er rfl)) ?_
     refine DrH.de (fun _ _ => GOp.no rfl rfl (decide_eq_true hc10) (er rfl)) ?_
     refine DrH.de (fun _ _ => GOp.no rfl rfl (decide_eq_true hc10) (er rfl)) ?_
     refine DrH.de (fun _ _ => GOp.no rfl rfl (decide_eq_true hc10) (er rfl)) ?_
     refine DrH.fin0 ?_
     rintro w30 Z33 hE30 hZ29 ⟨-⟩ ap10
     have hB10 : ∀ b, some b ∈ ([] : List (Option Nat)) → w10.heap.size ≤ b ∧ ¬ Z33 b := by
      intro b hb; cases hb
     have hL14 := hL10.ext hE30
     have K12 := ke hL10 hE30
     refine Rl.no rfl rfl (decide_eq_true hc10) ?_
     refine Rl.no rfl rfl (decide_eq_true hc10) ?_
     refine Rl.no rfl rfl (decide_eq_true hc10) ?_
     refine Rl.op (OpY.pick_t (t := (decide (((List.length f.words : Int) : Int) ≥ f.most))) (v := (Value.bool true)) rfl (decide_eq_true hc10) rfl ?_)
     refine Rl.nil ?_
     have f10 := ((text_hE.mono (K10 S)).mono (K12 S))
     obtain rfl := Option.some.inj h
     refine Swp.pop_back ?_
     exact ⟨true, text_cs, text_sp, _, rfl, (upds_sym ⟨rfl, rfl, rfl, rfl, rfl, trivial⟩), hL14, (Keep.trans K10 K12), f10, text_hc, trivial⟩
   ·
    replace h := ite_f hc10 h
    obtain ⟨x11, q10, h⟩ := bind_some h
    obtain ⟨n10, q11, q12⟩ := idx_some q10
    obtain ⟨b10, o10, c10, vs10, q13, q14, f11, q15⟩ := Rs.get f_h3 q12
    obtain ⟨v10, rfl, k10⟩ := q15
    refine Swp.drawL 19 [] [] (fun W1 => [.det (Value.pointer (some ⟨f_b, 0, none⟩)), .det (Value.pointer (some ⟨f_b, 0, none⟩)), .det (Value.pointer (some ⟨f_b, 4, none⟩)), .det (osv f_words_ob 0 (List.length f.words) f_words_cap), .det (Value.int .i64 (List.length f.words : Int)), .det (Value.pointer (some ⟨f_b, 0, none⟩)), .det (Value.pointer (some ⟨f_b, 0, none⟩)), .det (Value.pointer (some ⟨f_b, 3, none⟩)), .det (Value.int .i64 f.most), .det (Value.bool (decide (((List.length f.words : Int) : Int) ≥ f.most))), .det (Value.bool (decide (((List.length f.words : Int) : Int) ≥ f.most))), .det (Value.pointer (some ⟨f_b, 0, none⟩)), .det (Value.pointer (some ⟨f_b, 0, none⟩)), .det (Value.pointer (some ⟨f_b, 2, none⟩)), .det f_v3, .det (Value.int .i64 left), .det (Value.pointer (some ⟨b10, (o10 + n10 * (rSl rBool).sz), none⟩)), .det v10, .det (Value.int .i64 state)]) mixed rfl rfl rfl (fun _ => rfl) (fun _ => rfl) ?_ ?_
    ·
     intro W1 _
     exact trivial
    ·
     intro w31 hE31
     have hL15 := hL.ext hE31
     have K13 := ke hL hE31
     refine DrH.de (fun _ _ => GOp.op (OpY.move rfl (er rfl))) ?_
     refine DrH.de (fun _ _ => GOp.op (OpY.nilCheck (b := ⟨f_b, 0, none⟩) rfl (er rfl))) ?_
     refine DrH.de (fun _ _ => GOp.op (OpY.fieldAddr Tryd.underlying69 rfl ti35 rfl rfl rfl (er rfl))) ?_
     refine DrH.de (fun _ hE35 => GOp.op (OpY.ldBox1 Tryd.underlying35 rfl rfl ((hL15.ext hE35).at 0 rfl rfl) rfl (er rfl))) ?_
     refine DrH.de (fun _ hE36 => GOp.op (OpY.lenRow (pre := []) (r := rStr) (xs := f.words) Tryd.underlying35 rfl ((hL15.ext hE36).at 1 rfl rfl) ((f_words_hE.mono (K13 S)).mono ((ke hL15 hE36) S)) rfl rfl (er rfl))) ?_
     refine DrH.de (fun _ _ => GOp.op (OpY.move rfl (er rfl))) ?_
     refine DrH.de (fun _ _ => GOp.op (OpY.nilCheck (b := ⟨f_b, 0, none⟩) rfl (er rfl))) ?_
     refine DrH.de (fun _ _ => GOp.op (OpY.fieldAddr Tryd.underlying69 rfl ti3 rfl rfl rfl (er rfl))) ?_
     refine DrH.de (fun _ hE40 => GOp.op (OpY.ldBox1 Tryd.underlying3 rfl rfl ((hL15.ext hE40).at 0 rfl rfl) rfl (er rfl))) ?_
     refine DrH.de (fun _ _ => GOp.op (OpY.geq (((List.length f.words : Int) : Int) ≥ f.most) rfl rfl Iff.rfl (er rfl))) ?_
     refine DrH.de (fun _ _ => GOp.op (OpY.move rfl (er rfl))) ?_
     refine DrH.de (fun _ _ => GOp.yes rfl rfl (decide_eq_false hc10) (OpY.move rfl (er rfl))) ?_
     refine DrH.de (fun _ _ => GOp.yes rfl rfl (decide_eq_false hc10) (OpY.nilCheck (b := ⟨f_b, 0, none⟩) rfl (er rfl))) ?_
     refine DrH.de (fun _ _ => GOp.yes rfl rfl (decide_eq_false hc10) (OpY.fieldAddr Tryd.underlying69 rfl ti67 rfl rfl rfl (er rfl))) ?_
     refine DrH.de (fun _ hE46 => GOp.yes rfl rfl (decide_eq_false hc10) (OpY.ldBox1 Tryd.underlying67 rfl rfl ((hL15.ext hE46).at 0 rfl rfl) rfl (er rfl))) ?_
     refine DrH.de (fun _ _ => GOp.yes rfl rfl (decide_eq_false hc10) (OpY.move rfl (er rfl))) ?_
     refine DrH.de (fun _ _ => GOp.yes rfl rfl (decide_eq_false hc10) (OpY.ixRoD (r := (rSl rBool)) (v := f_v3) (n := n10) (m := (o10 + n10 * (rSl rBool).sz)) Tryd.underlying67 ti22 rfl q13 rfl q11 q12 rfl (er rfl))) ?_
     refine DrH.de (fun _ hE49 => GOp.yes rfl rfl (decide_eq_false hc10) (OpY.ldRo1 Tryd.underlying22 rfl rfl vw_view (At.mono ((ke hL15 hE49) S) (At.mono (K13 S) f11)) (er rfl))) ?_
     refine DrH.de (fun _ _ => GOp.yes rfl rfl (decide_eq_false hc10) (OpY.move rfl (er rfl))) ?_
     refine DrH.fin0 ?_
     rintro w51 Z53 hE51 hZ49 ⟨-⟩ ap11
     have hB11 : ∀ b, some b ∈ ([] : List (Option Nat)) → w31.heap.size ≤ b ∧ ¬ Z53 b := by
      intro b hb; cases hb
     have hL20 := hL15.ext hE51
     have K16 := ke hL15 hE51
     obtain ⟨x12, q16, h⟩ := bind_some h
     obtain ⟨n11, q17, q18⟩ := idx_some q16
     have f12 := ((k10.mono (K13 S)).mono (K16 S))
     obtain ⟨b11, o11, c11, vs11, q19, q20, f13, q21⟩ := Rs.get f12 q18
     obtain rfl := q21
     refine Rl.yes rfl rfl (decide_eq_false hc10) (OpY.ixRoD (r := rBool) (v := v10) (n := n11) (m := (o11 + n11 * rBool.sz)) Tryd.underlying22 ti4 rfl q19 rfl q17 q18 rfl ?_)
     refine Rl.yes rfl rfl (decide_eq_false hc10) (OpY.ldRo1 (v := (Value.bool x12)) Tryd.underlying4 rfl rfl vw_view f13 ?_)
     refine Rl.yes rfl rfl (decide_eq_false hc10) (OpY.not (x := x12) rfl ?_)
     refine Rl.op (OpY.pick_f (t := (decide (((List.length f.words : Int) : Int) ≥ f.most))) (v := (Value.bool (!x12))) rfl (decide_eq_false hc10) rfl ?_)
     refine Rl.nil ?_
     have f14 := ((text_hE.mono (K13 S)).mono (K16 S))
     obtain rfl := Option.some.inj h
     refine Swp.pop_back ?_
     exact ⟨(!x12), text_cs, text_sp, _, rfl, (upds_sym ⟨rfl, rfl, rfl, rfl, rfl, trivial⟩), hL20, (Keep.trans K13 K16), f14, text_hc, trivial⟩
  ·
   rintro _ w52 ⟨x10, cs10, sp10, u, rfl, rfl, hL21, K17, hE52, hc11, -⟩
   replace h := g10
   try dsimp only at h
   refine Swp.cond_b x10 rfl (fun hc12 => ?_) (fun hc12 => ?_)
   ·
    replace h := ite_t hc12 h
    refine Swp.ret ?_
    obtain rfl := Option.some.inj h
    refine ⟨[], trivial, ?_⟩
    have f15 := (f_words_hE.mono (K17 S))
    exact ⟨f_words_ob, f_words_cap, f_words_cs, f_words_sp, cs10, sp10, rfl, hL21, K17, f15, f_words_hc, hE52, hc11, trivial⟩
   ·
    replace h := ite_f hc12 h
    refine Swp.skip (Swp.seq (Swp.seq (Swp.region rfl (Rl.op (OpY.move (v := (Value.int .i64 left)) rfl ?_)))))
    refine Rl.op (OpY.eql (x := left) (y := 0) ((left : Int) = 0) rfl rfl Iff.rfl ?_)
    refine Rl.nil ?_
    refine Swp.cond_d ((left : Int) = 0) rfl (fun hc13 => ?_) (fun hc13 => ?_)
    ·
     replace h := ite_t hc13 h
     refine Swp.seq ?_
     refine Swp.drawP [7, 8, 11] [0, 1, 2, 3, 4, 5, 6, 9, 10] [(36, (Value.pointer (some ⟨f_b, 0, none⟩))), (37, (Value.pointer (some ⟨f_b, 0, none⟩))), (38, (Value.pointer (some ⟨f_b, 0, none⟩))), (39, (Value.pointer (some ⟨f_b, 4, none⟩))), (40, (osv f_words_ob 0 (List.length f.words) f_words_cap)), (41, (osv text_ob 0 (List.length text) text_cap)), (42, (Value.string (s8 (bstr text)))), (45, (Value.pointer (some ⟨f_b, 0, none⟩))), (46, (Value.pointer (some ⟨f_b, 4, none⟩)))] mixed rfl rfl rfl rfl ?_
     intro w53 hE53
     have hL22 := hL21.ext hE53
     have K18 := ke hL21 hE53
     refine ⟨?_, ?_⟩
     ·
      refine LateP.cons (i := 0) rfl rfl (GOp.op (OpY.move (v := (Value.pointer (some ⟨f_b, 0, none⟩))) rfl ⟨rfl, rfl⟩)) ?_
      refine LateP.cons (i := 1) rfl rfl (GOp.op (OpY.move (v := (Value.pointer (some ⟨f_b, 0, none⟩))) rfl ⟨rfl, rfl⟩)) ?_
      refine LateP.cons (i := 2) rfl rfl (GOp.op (OpY.nilCheck (b := ⟨f_b, 0, none⟩) rfl ⟨rfl, rfl⟩)) ?_
      refine LateP.cons (i := 3) rfl rfl (GOp.op (OpY.fieldAddr (q := 4) Tryd.underlying69 rfl ti35 rfl rfl rfl ⟨rfl, rfl⟩)) ?_
      refine LateP.cons (i := 4) rfl rfl (GOp.op (OpY.ldBox1 (v := (osv f_words_ob 0 (List.length f.words) f_words_cap)) Tryd.underlying35 rfl rfl (hL22.at 0 rfl rfl) rfl ⟨rfl, rfl⟩)) ?_
      refine LateP.cons (i := 5) rfl rfl (GOp.op (OpY.move (v := (osv text_ob 0 (List.length text) text_cap)) rfl ⟨rfl, rfl⟩)) ?_
      refine LateP.cons (i := 6) rfl rfl (GOp.op (OpY.strRow (pre := []) (cs := cs10) (sp := sp10) (xs := text) Tryd.underlying62 Tryd.underlying9 Tryd.underlying5 rfl (hL22.at 2 rfl rfl) (hE52.mono (K18 S)) rfl ⟨rfl, rfl⟩)) ?_
      refine LateP.cons (i := 9) rfl rfl (GOp.op (OpY.nilCheck (b := ⟨f_b, 0, none⟩) rfl ⟨rfl, rfl⟩)) ?_
      refine LateP.cons (i := 10) rfl rfl (GOp.op (OpY.fieldAddr (q := 4) Tryd.underlying69 rfl ti35 rfl rfl rfl ⟨rfl, rfl⟩)) ?_
      exact LateP.nil
     have hE54 : Els rStr (Hv w.heap.size None [some f_b, f_words_ob, text_ob] w53) [(Value.string (s8 (bstr text)))] [(bstr text)] := (Els.cons (a := [(Value.string (s8 (bstr text)))]) rfl Els.nil)
     refine RlL.op (OpY.litRow (r := rStr) (vs := [(Value.string (s8 (bstr text)))]) (css := [[(Value.string (s8 (bstr text)))]]) (xs := [(bstr text)]) Tryd.underlying35 ti9 (Nat.le_of_ble_eq_true rfl) rfl rfl ⟨rfl, rfl, trivial⟩ (Nat.le_of_ble_eq_true rfl) hE54 rfl hL22 ?_)
     intro b12 w54 hc14 hL23 hS10
     have K19 := ks w hS10
     refine ⟨?_, ?_⟩
     ·
      refine LateP.cons (i := 0) rfl rfl (GOp.op (OpY.move (v := (Value.pointer (some ⟨f_b, 0, none⟩))) rfl ⟨rfl, rfl⟩)) ?_
      refine LateP.cons (i := 1) rfl rfl (GOp.op (OpY.move (v := (Value.pointer (some ⟨f_b, 0, none⟩))) rfl ⟨rfl, rfl⟩)) ?_
      refine LateP.cons (i := 2) rfl rfl (GOp.op (OpY.nilCheck (b := ⟨f_b, 0, none⟩) rfl ⟨rfl, rfl⟩)) ?_
      refine LateP.cons (i := 3) rfl rfl (GOp.op (OpY.fieldAddr (q := 4) Tryd.underlying69 rfl ti35 rfl rfl rfl ⟨rfl, rfl⟩)) ?_
      refine LateP.cons (i := 4) rfl rfl (GOp.op (OpY.ldBox1 (v := (osv f_words_ob 0 (List.length f.words) f_words_cap)) Tryd.underlying35 rfl rfl (hL23.at 1 rfl rfl) rfl ⟨rfl, rfl⟩)) ?_
      refine LateP.cons (i := 5) rfl rfl (GOp.op (OpY.move (v := (osv text_ob 0 (List.length text) text_cap)) rfl ⟨rfl, rfl⟩)) ?_
      refine LateP.cons (i := 9) rfl rfl (GOp.op (OpY.nilCheck (b := ⟨f_b, 0, none⟩) rfl ⟨rfl, rfl⟩)) ?_
      refine LateP.cons (i := 10) rfl rfl (GOp.op (OpY.fieldAddr (q := 4) Tryd.underlying69 rfl ti35 rfl rfl rfl ⟨rfl, rfl⟩)) ?_
      exact LateP.nil
     obtain ⟨x13, q22, h⟩ := bind_some h
     obtain ⟨q23, q24, q25⟩ := apnd_some q22
     have f16 := (hE54.mono (K19 None))
     have f17 := (((f_words_hE.mono (K17 S)).mono (K18 S)).mono (K19 S))
     refine RlL.op (OpY.apRowX (r := rStr) (H := (Hv w.heap.size S [some b12, some f_b, f_words_ob, text_ob] w54)) (cs := f_words_cs) (sp := f_words_sp) (xs := f.words) (ys := [(bstr text)]) (Y := x13) (n := (List.length f.words)) (cap := f_words_cap) (i := 2) Tryd.underlying35 ti9 rfl rfl rfl rfl hL23 rfl rfl f17 rfl f_words_hc (Src.row (pre := []) (o := 0) (n := 1) (cap := 1) (hL23.at 0 rfl rfl) f16 rfl rfl rfl) (Els.anyH (fun _ _ _ _ h => h) f16) q23 q24 q25 ?_)
     intro ob10 cap10 sp11 cs11 w55 hE55 hc15 (hL24 : Go.X.Loc X [] w w55 [some b12, some f_b, ob10, text_ob] [Cont.cells ([] ++ ([(Value.string (s8 (bstr text)))] ++ [])), Cont.cells [f_v1, f_v2, f_v3, (Value.int .i64 f.most), (osv f_words_ob 0 (List.length f.words) f_words_cap)], Cont.cells ([] ++ (cs11 ++ sp11)), Cont.cells ([] ++ (cs10 ++ sp10))]) hS11
     have K20 := ks w hS11
     refine ⟨?_, ?_⟩
     ·
      refine LateP.cons (i := 0) rfl rfl (GOp.op (OpY.move (v := (Value.pointer (some ⟨f_b, 0, none⟩))) rfl ⟨rfl, rfl⟩)) ?_
      refine LateP.cons (i := 1) rfl rfl (GOp.op (OpY.move (v := (Value.pointer (some ⟨f_b, 0, none⟩))) rfl ⟨rfl, rfl⟩)) ?_
      refine LateP.cons (i := 2) rfl rfl (GOp.op (OpY.nilCheck (b := ⟨f_b, 0, none⟩) rfl ⟨rfl, rfl⟩)) ?_
      refine LateP.cons (i := 3) rfl rfl (GOp.op (OpY.fieldAddr (q := 4) Tryd.underlying69 rfl ti35 rfl rfl rfl ⟨rfl, rfl⟩)) ?_
      refine LateP.cons (i := 5) rfl rfl (GOp.op (OpY.move (v := (osv text_ob 0 (List.length text) text_cap)) rfl ⟨rfl, rfl⟩)) ?_
      refine LateP.cons (i := 9) rfl rfl (GOp.op (OpY.nilCheck (b := ⟨f_b, 0, none⟩) rfl ⟨rfl, rfl⟩)) ?_
      refine LateP.cons (i := 10) rfl rfl (GOp.op (OpY.fieldAddr (q := 4) Tryd.underlying69 rfl ti35 rfl rfl rfl ⟨rfl, rfl⟩)) ?_
      exact LateP.nil
     refine RlL.op0 (OpY.store (vs := [(osv ob10 0 (List.length x13) cap10)]) ti35 rfl rfl (one_cells (osv_one ob10 0 (List.length x13) cap10)) rfl (ones_cons (osv_one ob10 0 (List.length x13) cap10) ones_nil) hL24 1 rfl rfl (Nat.le_of_ble_eq_true rfl) ?_)
     intro w56 (hL25 : Go.X.Loc X [] w w56 [some b12, some f_b, ob10, text_ob] [Cont.cells ([] ++ ([(Value.string (s8 (bstr text)))] ++ [])), Cont.cells [f_v1, f_v2, f_v3, (Value.int .i64 f.most), (osv ob10 0 (List.length x13) cap10)], Cont.cells ([] ++ (cs11 ++ sp11)), Cont.cells ([] ++ (cs10 ++ sp10))]) hS12
     have K21 := ks w hS12
     refine ⟨?_, ?_⟩
     ·
      refine LateP.cons (i := 9) rfl rfl (GOp.op (OpY.nilCheck (b := ⟨f_b, 0, none⟩) rfl ⟨rfl, rfl⟩)) ?_
      exact LateP.nil
     refine RlL.fin ?_
     have hp10 := hL25.pick [1, 2, 3] rfl rfl rfl
     have hL26 : Go.X.Loc X [] w w56 [some f_b, ob10, text_ob] [Cont.cells [f_v1, f_v2, f_v3, (Value.int .i64 f.most), (osv ob10 0 (List.length x13) cap10)], Cont.cells ([] ++ (cs11 ++ sp11)), Cont.cells ([] ++ (cs10 ++ sp10))] := hp10.1
     have K22 := ks w hp10.2
     refine Swp.ret ?_
     obtain rfl := Option.some.inj h
     refine ⟨[], trivial, ?_⟩
     have f18 := (((hE55.mono (K20 S)).mono (K21 S)).mono (K22 S))
     have f19 := (((((hE52.mono (K18 S)).mono (K19 S)).mono (K20 S)).mono (K21 S)).mono (K22 S))
     exact ⟨ob10, cap10, cs11, sp11, cs10, sp10, rfl, hL26, (Keep.trans (Keep.trans (Keep.trans (Keep.trans (Keep.trans K17 K18) K19) K20) K21) K22), f18, hc15, f19, hc11, trivial⟩
    ·
     replace h := ite_f hc13 h
     refine Swp.skip (Swp.seq (Swp.region rfl (Rl.op (OpY.move (v := (Value.pointer (some ⟨f_b, 0, none⟩))) rfl ?_))))
     refine Rl.op (OpY.nilCheck (b := ⟨f_b, 0, none⟩) rfl ?_)
     refine Rl.op (OpY.fieldAddr (q := 0) Tryd.underlying69 rfl ti32 rfl rfl rfl ?_)
     refine Rl.op (OpY.fieldAddr (q := 1) Tryd.underlying32 rfl ti30 rfl rfl rfl ?_)
     refine Rl.op (OpY.ldBox1 (v := f_v2) Tryd.underlying30 rfl rfl (hL21.at 0 rfl rfl) rfl ?_)
     refine Rl.op (OpY.move (v := (Value.int .i64 state)) rfl ?_)
     obtain ⟨x14, q26, h⟩ := bind_some h
     obtain ⟨n12, q27, q28⟩ := idx_some q26
     have f20 := (f_h2.mono (K17 S))
     obtain ⟨b13, o12, c12, vs12, q29, q30, f21, q31⟩ := Rs.get f20 q28
     obtain ⟨v11, rfl, k11⟩ := q31
     refine Rl.op (OpY.ixRoD (r := (rSl rAEdge)) (v := f_v2) (n := n12) (m := (o12 + n12 * (rSl rAEdge).sz)) Tryd.underlying30 ti58 rfl q29 rfl q27 q28 rfl ?_)
     refine Rl.op (OpY.ldRo1 (v := v11) Tryd.underlying58 rfl rfl vw_view f21 ?_)
     refine Rl.op (OpY.lenRo (v := v11) Tryd.underlying58 rfl k11 ?_)
     refine Rl.op (OpY.move (v := (Value.int .i64 0)) rfl ?_)
     refine Rl.nil ?_
     obtain ⟨s11, hl10, g11⟩ := bind_some h
     refine Swp.join (fun e w' => ∃ (words10 : (List (List UInt8))) (ob11 : Option Nat) (cap11 : Nat) (sp12 : List Value) (cs12 : List Value) (ln10 : Nat) (cs13 : List Value) (sp13 : List Value) (u : Env), words10 = s11 ∧ e = upds [(0, (Value.pointer (some ⟨f_b, 0, none⟩))), (2, (osv text_ob 0 (List.length text) text_cap))] u ∧ Go.X.Loc X [] w w' [some f_b, ob11, text_ob] [Cont.cells [f_v1, f_v2, f_v3, (Value.int .i64 f.most), (osv ob11 0 ln10 cap11)], Cont.cells ([] ++ (cs12 ++ sp12)), Cont.cells ([] ++ (cs13 ++ sp13))] ∧ Keep w.heap.size [some f_b, f_words_ob, text_ob] w52 [some f_b, ob11, text_ob] w' ∧ Els rStr (Hv w.heap.size S [some f_b, ob11, text_ob] w') cs12 words10 ∧ ln10 = List.length words10 ∧ (cs12 ++ sp12).length = cap11 * rStr.sz ∧ Els (rInt .u8) (Hv w.heap.size S [some f_b, ob11, text_ob] w') cs13 text ∧ (cs13 ++ sp13).length = text_cap * (rInt .u8).sz ∧ True) ?_ ?_
     ·
      refine Swp.block ?_
      have f22 := (f_words_hE.mono (K17 S))
      refine Swp.loopM hl10 (fun (ss : ((List (List UInt8)) × Int)) (e : Env) (w' : World) => match ss with | (words11, x15) => ∃ (ob12 : Option Nat) (cap12 : Nat) (sp14 : List Value) (cs14 : List Value) (ln11 : Nat) (cs15 : List Value) (sp15 : List Value) (u : Env), e = upds [(0, (Value.pointer (some ⟨f_b, 0, none⟩))), (2, (osv text_ob 0 (List.length text) text_cap)), (3, (Value.int .i64 left)), (54, v11), (55, (Value.int .i64 (List.length x14 : Int))), (56, (Value.int .i64 x15))] u ∧ Go.X.Loc X [] w w' [some f_b, ob12, text_ob] [Cont.cells [f_v1, f_v2, f_v3, (Value.int .i64 f.most), (osv ob12 0 ln11 cap12)], Cont.cells ([] ++ (cs14 ++ sp14)), Cont.cells ([] ++ (cs15 ++ sp15))] ∧ Keep w.heap.size [some f_b, f_words_ob, text_ob] w52 [some f_b, ob12, text_ob] w' ∧ Els rStr (Hv w.heap.size S [some f_b, ob12, text_ob] w') cs14 words11 ∧ ln11 = List.length words11 ∧ (cs14 ++ sp14).length = cap12 * rStr.sz ∧ Els (rInt .u8) (Hv w.heap.size S [some f_b, ob12, text_ob] w') cs15 text ∧ (cs15 ++ sp15).length = text_cap * (rInt .u8).sz ∧ True) ⟨f_words_ob, f_words_cap, f_words_sp, f_words_cs, (List.length f.words), cs10, sp10, _, (upds_sym ⟨rfl, rfl, rfl, rfl, rfl, rfl, trivial⟩), hL21, Keep.refl, f22, rfl, f_words_hc, hE52, hc11, trivial⟩ ?_
      rintro ⟨words11, x15⟩ oo _ w57 ⟨ob12, cap12, sp14, cs14, ln11, cs15, sp15, u, rfl, hL27, K23, hE56, rfl, hc16, hE57, hc17, -⟩ h hd10
      rw [aFind_b1] at h
      refine Swp.seq (Swp.region rfl (Rl.op (OpY.lss (x := x15) (y := (List.length x14 : Int)) ((x15 : Int) < (List.length x14 : Int)) rfl rfl Iff.rfl ?_)))
      refine Rl.nil (Swp.seq ?_)
      refine Swp.cond_d ((x15 : Int) < (List.length x14 : Int)) rfl (fun hc18 => ?_) (fun hc18 => ?_)
      ·
       replace h := ite_t hc18 h
       refine Swp.skip (Swp.seq (Swp.block (Swp.seq (Swp.region rfl ?_))))
       obtain ⟨x16, q32, h⟩ := bind_some h
       obtain ⟨n13, q33, q34⟩ := idx_some q32
       have f23 := (k11.mono (K23 S))
       obtain ⟨b14, o13, c13, vs13, q35, q36, f24, q37⟩ := Rs.get f23 q34
       obtain ⟨rfl, -⟩ := rAEdge_open q37
       refine Rl.op (OpY.ixRoD (r := rAEdge) (v := v11) (n := n13) (m := (o13 + n13 * rAEdge.sz)) Tryd.underlying58 ti57 rfl q35 rfl q33 q34 rfl ?_)
       refine Rl.op (OpY.ldRoA (vs := [(Value.int .u8 x16.Low), (Value.int .u8 x16.High), (Value.int .i64 x16.To)]) Tryd.underlying57 rfl ti57 rfl rfl vw_view f24 ?_)
       refine Rl.op (OpY.alloc (cs := [(Value.int .u8 0), (Value.int .u8 0), (Value.int .i64 0)]) ti57 rfl hL27 ?_)
       intro b15 w58 hL28 hS13
       have K24 := ks w hS13
       refine Rl.op0 (OpY.store (vs := [(Value.int .u8 x16.Low), (Value.int .u8 x16.High), (Value.int .i64 x16.To)]) ti57 rfl rfl rfl rfl (ones_cons rfl (ones_cons rfl (ones_cons rfl ones_nil))) hL28 0 rfl rfl (Nat.le_of_ble_eq_true rfl) ?_)
       intro w59 (hL29 : Go.X.Loc X [] w w59 [some b15, some f_b, ob12, text_ob] [Cont.cells [(Value.int .u8 x16.Low), (Value.int .u8 x16.High), (Value.int .i64 x16.To)], Cont.cells [f_v1, f_v2, f_v3, (Value.int .i64 f.most), (osv ob12 0 (List.length words11) cap12)], Cont.cells ([] ++ (cs14 ++ sp14)), Cont.cells ([] ++ (cs15 ++ sp15))]) hS14
       have K25 := ks w hS14
       refine Rl.nil (Swp.seq (Swp.region rfl (Rl.op (OpY.fieldAddr (q := 0) Tryd.underlying57 rfl ti5 rfl rfl rfl ?_))))
       refine Rl.op (OpY.ldBox1 (v := (Value.int .u8 x16.Low)) Tryd.underlying5 rfl rfl (hL29.at 0 rfl rfl) rfl ?_)
       refine Rl.op (OpY.convInt (x := x16.Low) (z := (iw x16.Low)) Tryd.underlying5 Tryd.underlying3 rfl rfl ?_)
       refine Rl.op (OpY.assign (v := (Value.int .i64 (iw x16.Low))) rfl ?_)
       refine Rl.nil ?_
       obtain ⟨s12, hl11, g12⟩ := bind_some h
       refine Swp.join (fun e w' => ∃ (words12 : (List (List UInt8))) (ob13 : Option Nat) (cap13 : Nat) (sp16 : List Value) (cs16 : List Value) (ln12 : Nat) (cs17 : List Value) (sp17 : List Value) (u : Env), words12 = s12 ∧ e = upds [(0, (Value.pointer (some ⟨f_b, 0, none⟩))), (2, (osv text_ob 0 (List.length text) text_cap)), (3, (Value.int .i64 left)), (54, v11), (55, (Value.int .i64 (List.length x14 : Int))), (56, (Value.int .i64 x15))] u ∧ Go.X.Loc X [] w w' [some f_b, ob13, text_ob] [Cont.cells [f_v1, f_v2, f_v3, (Value.int .i64 f.most), (osv ob13 0 ln12 cap13)], Cont.cells ([] ++ (cs16 ++ sp16)), Cont.cells ([] ++ (cs17 ++ sp17))] ∧ Keep w.heap.size [some b15, some f_b, ob12, text_ob] w59 [some f_b, ob13, text_ob] w' ∧ Els rStr (Hv w.heap.size S [some f_b, ob13, text_ob] w') cs16 words12 ∧ ln12 = List.length words12 ∧ (cs16 ++ sp16).length = cap13 * rStr.sz ∧ Els (rInt .u8) (Hv w.heap.size S [some f_b, ob13, text_ob] w') cs17 text ∧ (cs17 ++ sp17).length = text_cap * (rInt .u8).sz ∧ True) ?_ ?_
       ·
        refine Swp.block ?_
        have hp11 := hL29.pick [1, 2, 3, 0] rfl rfl rfl
        have hL30 : Go.X.Loc X [] w w59 [some f_b, ob12, text_ob, some b15] [Cont.cells [f_v1, f_v2, f_v3, (Value.int .i64 f.most), (osv ob12 0 (List.length words11) cap12)], Cont.cells ([] ++ (cs14 ++ sp14)), Cont.cells ([] ++ (cs15 ++ sp15)), Cont.cells [(Value.int .u8 x16.Low), (Value.int .u8 x16.High), (Value.int .i64 x16.To)]] := hp11.1
        have K26 := ks w hp11.2
        have f25 := (((hE56.mono (K24 S)).mono (K25 S)).mono (K26 S))
        have f26 := (((hE57.mono (K24 S)).mono (K25 S)).mono (K26 S))
        refine Swp.loopM hl11 (fun (ss : ((List (List UInt8)) × Int)) (e : Env) (w' : World) => match ss with | (words13, c14) => ∃ (ob14 : Option Nat) (cap14 : Nat) (sp18 : List Value) (cs18 : List Value) (ln13 : Nat) (cs19 : List Value) (sp19 : List Value) (u : Env), e = upds [(0, (Value.pointer (some ⟨f_b, 0, none⟩))), (2, (osv text_ob 0 (List.length text) text_cap)), (3, (Value.int .i64 left)), (9, (Value.pointer (some ⟨b15, 0, none⟩))), (10, (Value.int .i64 c14)), (54, v11), (55, (Value.int .i64 (List.length x14 : Int))), (56, (Value.int .i64 x15))] u ∧ Go.X.Loc X [] w w' [some f_b, ob14, text_ob, some b15] [Cont.cells [f_v1, f_v2, f_v3, (Value.int .i64 f.most), (osv ob14 0 ln13 cap14)], Cont.cells ([] ++ (cs18 ++ sp18)), Cont.cells ([] ++ (cs19 ++ sp19)), Cont.cells [(Value.int .u8 x16.Low), (Value.int .u8 x16.High), (Value.int .i64 x16.To)]] ∧ Keep w.heap.size [some b15, some f_b, ob12, text_ob] w59 [some f_b, ob14, text_ob, some b15] w' ∧ Els rStr (Hv w.heap.size S [some f_b, ob14, text_ob, some b15] w') cs18 words13 ∧ ln13 = List.length words13 ∧ (cs18 ++ sp18).length = cap14 * rStr.sz ∧ Els (rInt .u8) (Hv w.heap.size S [some f_b, ob14, text_ob, some b15] w') cs19 text ∧ (cs19 ++ sp19).length = text_cap * (rInt .u8).sz ∧ True) ⟨ob12, cap12, sp14, cs14, (List.length words11), cs15, sp15, _, (upds_sym ⟨rfl, rfl, rfl, rfl, rfl, rfl, rfl, rfl, trivial⟩), hL30, K26, f25, rfl, hc16, f26, hc17, trivial⟩ ?_
        rintro ⟨words13, c14⟩ oo _ w60 ⟨ob14, cap14, sp18, cs18, ln13, cs19, sp19, u, rfl, hL31, K27, hE58, rfl, hc19, hE59, hc20, -⟩ h hd11
        rw [aFind_b2] at h
        refine Swp.seq (Swp.seq (Swp.region rfl (Rl.op (OpY.move (v := (Value.int .i64 c14)) rfl ?_))))
        refine Rl.op (OpY.fieldAddr (q := 1) Tryd.underlying57 rfl ti5 rfl rfl rfl ?_)
        refine Rl.op (OpY.ldBox1 (v := (Value.int .u8 x16.High)) Tryd.underlying5 rfl rfl (hL31.at 3 rfl rfl) rfl ?_)
        refine Rl.op (OpY.convInt (x := x16.High) (z := (iw x16.High)) Tryd.underlying5 Tryd.underlying3 rfl rfl ?_)
        refine Rl.op (OpY.leq (x := c14) (y := (iw x16.High)) ((c14 : Int) ≤ (iw x16.High)) rfl rfl Iff.rfl ?_)
        refine Rl.nil ?_
        refine Swp.cond_d ((c14 : Int) ≤ (iw x16.High)) rfl (fun hc21 => ?_) (fun hc21 => ?_)
        ·
         replace h := ite_t hc21 h
         refine Swp.skip (Swp.seq (Swp.block ?_))
         refine Swp.drawP [6, 7, 10] [0, 1, 2, 3, 4, 5, 8, 9] [(70, (Value.pointer (some ⟨f_b, 0, none⟩))), (71, (Value.pointer (some ⟨b15, 2, none⟩))), (72, (Value.int .i64 x16.To)), (73, (osv text_ob 0 (List.length text) text_cap)), (74, (Value.int .i64 c14)), (75, (Value.int .u8 (uw8 c14))), (78, (Value.int .i64 left)), (79, (Value.int .i64 (iw (left - 1))))] mixed rfl rfl rfl rfl ?_
         intro w61 hE60
         have hL32 := hL31.ext hE60
         have K28 := ke hL31 hE60
         refine ⟨?_, ?_⟩
         ·
          refine LateP.cons (i := 0) rfl rfl (GOp.op (OpY.move (v := (Value.pointer (some ⟨f_b, 0, none⟩))) rfl ⟨rfl, rfl⟩)) ?_
          refine LateP.cons (i := 1) rfl rfl (GOp.op (OpY.fieldAddr (q := 2) Tryd.underlying57 rfl ti3 rfl rfl rfl ⟨rfl, rfl⟩)) ?_
          refine LateP.cons (i := 2) rfl rfl (GOp.op (OpY.ldBox1 (v := (Value.int .i64 x16.To)) Tryd.underlying3 rfl rfl (hL32.at 3 rfl rfl) rfl ⟨rfl, rfl⟩)) ?_
          refine LateP.cons (i := 3) rfl rfl (GOp.op (OpY.move (v := (osv text_ob 0 (List.length text) text_cap)) rfl ⟨rfl, rfl⟩)) ?_
          refine LateP.cons (i := 4) rfl rfl (GOp.op (OpY.move (v := (Value.int .i64 c14)) rfl ⟨rfl, rfl⟩)) ?_
          refine LateP.cons (i := 5) rfl rfl (GOp.op (OpY.convInt (x := c14) (z := (uw8 c14)) Tryd.underlying3 Tryd.underlying5 rfl rfl ⟨rfl, rfl⟩)) ?_
          refine LateP.cons (i := 8) rfl rfl (GOp.op (OpY.move (v := (Value.int .i64 left)) rfl ⟨rfl, rfl⟩)) ?_
          refine LateP.cons (i := 9) rfl rfl (GOp.op (OpY.sub (x := left) (y := 1) (z := (iw (left - 1))) rfl rfl rfl ⟨rfl, rfl⟩)) ?_
          exact LateP.nil
         have hE61 : Els (rInt .u8) (Hv w.heap.size None [some f_b, ob14, text_ob, some b15] w61) [(Value.int .u8 (uw8 c14))] [(uw8 c14)] := (Els.cons (a := [(Value.int .u8 (uw8 c14))]) rfl Els.nil)
         refine RlL.op (OpY.litRow (r := (rInt .u8)) (vs := [(Value.int .u8 (uw8 c14))]) (css := [[(Value.int .u8 (uw8 c14))]]) (xs := [(uw8 c14)]) Tryd.underlying62 ti5 (Nat.le_of_ble_eq_true rfl) rfl rfl ⟨rfl, rfl, trivial⟩ (Nat.le_of_ble_eq_true rfl) hE61 rfl hL32 ?_)
         intro b16 w62 hc22 hL33 hS15
         have K29 := ks w hS15
         refine ⟨?_, ?_⟩
         ·
          refine LateP.cons (i := 0) rfl rfl (GOp.op (OpY.move (v := (Value.pointer (some ⟨f_b, 0, none⟩))) rfl ⟨rfl, rfl⟩)) ?_
          refine LateP.cons (i := 1) rfl rfl (GOp.op (OpY.fieldAddr (q := 2) Tryd.underlying57 rfl ti3 rfl rfl rfl ⟨rfl, rfl⟩)) ?_
          refine LateP.cons (i := 2) rfl rfl (GOp.op (OpY.ldBox1 (v := (Value.int .i64 x16.To)) Tryd.underlying3 rfl rfl (hL33.at 4 rfl rfl) rfl ⟨rfl, rfl⟩)) ?_
          refine LateP.cons (i := 3) rfl rfl (GOp.op (OpY.move (v := (osv text_ob 0 (List.length text) text_cap)) rfl ⟨rfl, rfl⟩)) ?_
          refine LateP.cons (i := 4) rfl rfl (GOp.op (OpY.move (v := (Value.int .i64 c14)) rfl ⟨rfl, rfl⟩)) ?_
          refine LateP.cons (i := 8) rfl rfl (GOp.op (OpY.move (v := (Value.int .i64 left)) rfl ⟨rfl, rfl⟩)) ?_
          refine LateP.cons (i := 9) rfl rfl (GOp.op (OpY.sub (x := left) (y := 1) (z := (iw (left - 1))) rfl rfl rfl ⟨rfl, rfl⟩)) ?_
          exact LateP.nil
         obtain ⟨x17, q38, h⟩ := bind_some h
         obtain ⟨q39, q40, q41⟩ := apnd_some q38
         by_cases hr10 : (List.length text) + 1 ≤ text_cap
         ·
          have f27 := (hE61.mono (K29 None))
          have f28 := ((hE59.mono (K28 S)).mono (K29 S))
          refine RlL.op (OpY.apRoom (r := (rInt .u8)) (H := (Hv w.heap.size S [some b16, some f_b, ob14, text_ob, some b15] w62)) (cs := cs19) (sp := sp19) (xs := text) (ys := [(uw8 c14)]) (Y := x17) (n := (List.length text)) (cap := text_cap) (i := 3) Tryd.underlying62 ti5 rfl rfl rfl hL33 rfl rfl f28 rfl hc20 (Src.row (pre := []) (o := 0) (n := 1) (cap := 1) (hL33.at 0 rfl rfl) f27 rfl rfl rfl) (Els.anyH (fun _ _ _ _ h => h) f27) (Nat.le_of_ble_eq_true rfl) hr10 q41 ?_)
          intro sp20 cs20 w63 hE62 hc23 (hL34 : Go.X.Loc X [] w w63 [some b16, some f_b, ob14, text_ob, some b15] [Cont.cells ([] ++ ([(Value.int .u8 (uw8 c14))] ++ [])), Cont.cells [f_v1, f_v2, f_v3, (Value.int .i64 f.most), (osv ob14 0 (List.length words13) cap14)], Cont.cells ([] ++ (cs18 ++ sp18)), Cont.cells ([] ++ (cs20 ++ sp20)), Cont.cells [(Value.int .u8 x16.Low), (Value.int .u8 x16.High), (Value.int .i64 x16.To)]]) hS16
          have K30 := ks w hS16
          refine ⟨?_, ?_⟩
          ·
           refine LateP.cons (i := 0) rfl rfl (GOp.op (OpY.move (v := (Value.pointer (some ⟨f_b, 0, none⟩))) rfl ⟨rfl, rfl⟩)) ?_
           refine LateP.cons (i := 1) rfl rfl (GOp.op (OpY.fieldAddr (q := 2) Tryd.underlying57 rfl ti3 rfl rfl rfl ⟨rfl, rfl⟩)) ?_
           refine LateP.cons (i := 2) rfl rfl (GOp.op (OpY.ldBox1 (v := (Value.int .i64 x16.To)) Tryd.underlying3 rfl rfl (hL34.at 4 rfl rfl) rfl ⟨rfl, rfl⟩)) ?_
           refine LateP.cons (i := 4) rfl rfl (GOp.op (OpY.move (v := (Value.int .i64 c14)) rfl ⟨rfl, rfl⟩)) ?_
           refine LateP.cons (i := 8) rfl rfl (GOp.op (OpY.move (v := (Value.int .i64 left)) rfl ⟨rfl, rfl⟩)) ?_
           refine LateP.cons (i := 9) rfl rfl (GOp.op (OpY.sub (x := left) (y := 1) (z := (iw (left - 1))) rfl rfl rfl ⟨rfl, rfl⟩)) ?_
           exact LateP.nil
          obtain ⟨r10, q42, h⟩ := bind_some h
          have hL35 := hL34.lendW [1, 2, 3] rfl rfl rfl
          have f29 := ((((((((f_h1.mono (K17 S)).mono (K23 S)).mono (K24 S)).mono (K25 S)).mono (K27 S)).mono (K28 S)).mono (K29 S)).mono (K30 S))
          have f30 := (((((((f20.mono (K23 S)).mono (K24 S)).mono (K25 S)).mono (K27 S)).mono (K28 S)).mono (K29 S)).mono (K30 S))
          have f31 := ((((((((f_h3.mono (K17 S)).mono (K23 S)).mono (K24 S)).mono (K25 S)).mono (K27 S)).mono (K28 S)).mono (K29 S)).mono (K30 S))
          have f32 := (((hE58.mono (K28 S)).mono (K29 S)).mono (K30 S))
          have f33 := (hE62.mono (K30 S))
          refine RlL.op (OpY.callg en38 rfl rfl (ih (AFinder.mk (ADfa.mk f.d.Accept f.d.Edges) f.can f.most words13) x16.To x17 (iw (left - 1)) f_b f_v1 f_v2 f_v3 ob14 cap14 cs18 sp18 text_ob text_cap cs20 sp20 [some f_b, ob14, text_ob] _ Any hL35 (f29.mono (Hv.lendW [1, 2, 3] rfl)) (f30.mono (Hv.lendW [1, 2, 3] rfl)) (f31.mono (Hv.lendW [1, 2, 3] rfl)) (f32.mono (Hv.lendW [1, 2, 3] rfl)) hc19 (f33.mono (Hv.lendW [1, 2, 3] rfl)) hc23 r10 q42) ?_)
          rintro _ w64 ⟨ob15, cap15, cs21, sp21, cs22, sp22, rfl, hL36, K31, hE63, hc24, hE64, hc25, -⟩
          refine ⟨_, rfl, ?_⟩
          have hp12 := hL34.backW [1, 2, 3] [0, 4] rfl rfl rfl rfl hL36
          have hL37 : Go.X.Loc X [] w w64 [some f_b, ob15, text_ob, some b16, some b15] [Cont.cells [f_v1, f_v2, f_v3, (Value.int .i64 f.most), (osv ob15 0 (List.length r10) cap15)], Cont.cells ([] ++ (cs21 ++ sp21)), Cont.cells ([] ++ (cs22 ++ sp22)), Cont.cells ([] ++ ([(Value.int .u8 (uw8 c14))] ++ [])), Cont.cells [(Value.int .u8 x16.Low), (Value.int .u8 x16.High), (Value.int .i64 x16.To)]] := hp12.1
          have K32 := ks w hp12.2
          have hE65 : Els rStr (Hv w.heap.size S [some f_b, ob15, text_ob, some b16, some b15] w64) cs21 r10 := Els.anyH (fun _ _ _ _ h => h) hE63
          have hE66 : Els (rInt .u8) (Hv w.heap.size S [some f_b, ob15, text_ob, some b16, some b15] w64) cs22 x17 := Els.anyH (fun _ _ _ _ h => h) hE64
          refine ⟨?_, ?_⟩
          ·
           refine LateP.cons (i := 1) rfl rfl (GOp.op (OpY.fieldAddr (q := 2) Tryd.underlying57 rfl ti3 rfl rfl rfl ⟨rfl, rfl⟩)) ?_
           refine LateP.cons (i := 4) rfl rfl (GOp.op (OpY.move (v := (Value.int .i64 c14)) rfl ⟨rfl, rfl⟩)) ?_
           refine LateP.cons (i := 8) rfl rfl (GOp.op (OpY.move (v := (Value.int .i64 left)) rfl ⟨rfl, rfl⟩)) ?_
           exact LateP.nil
          refine RlL.fin ?_
          refine Swp.pop_blk (Swp.region rfl (Rl.op (OpY.move (v := (Value.int .i64 c14)) rfl ?_)))
          refine Rl.op (OpY.add (x := c14) (y := 1) (z := (iw (c14 + 1))) rfl rfl rfl ?_)
          refine Rl.op (OpY.assign (v := (Value.int .i64 (iw (c14 + 1)))) rfl ?_)
          refine Rl.nil ?_
          obtain ⟨cs23, sp23, rfl, hE67⟩ := Els.shrink (show Els (rInt .u8) _ _ (_ ++ _) by rw [← q41]; exact hE66)
          have q43 : cs23 ++ (sp23 ++ sp22) = (cs23 ++ sp23) ++ sp22 := (List.append_assoc _ _ _).symm
          have hc26 : (cs23 ++ (sp23 ++ sp22)).length = text_cap * (rInt .u8).sz := by rw [q43]; exact hc25
          have hL38 : Go.X.Loc X [] w w64 [some f_b, ob15, text_ob, some b16, some b15] [Cont.cells [f_v1, f_v2, f_v3, (Value.int .i64 f.most), (osv ob15 0 (List.length r10) cap15)], Cont.cells ([] ++ (cs21 ++ sp21)), Cont.cells ([] ++ (cs23 ++ (sp23 ++ sp22))), Cont.cells ([] ++ ([(Value.int .u8 (uw8 c14))] ++ [])), Cont.cells [(Value.int .u8 x16.Low), (Value.int .u8 x16.High), (Value.int .i64 x16.To)]] := by rw [q43]; exact hL37
          have hp13 := hL38.pick [0, 1, 2, 4] rfl rfl rfl
          have hL39 : Go.X.Loc X [] w w64 [some f_b, ob15, text_ob, some b15] [Cont.cells [f_v1, f_v2, f_v3, (Value.int .i64 f.most), (osv ob15 0 (List.length r10) cap15)], Cont.cells ([] ++ (cs21 ++ sp21)), Cont.cells ([] ++ (cs23 ++ (sp23 ++ sp22))), Cont.cells [(Value.int .u8 x16.Low), (Value.int .u8 x16.High), (Value.int .i64 x16.To)]] := hp13.1
          have K33 := ks w hp13.2
          have f34 := (hE65.mono (K33 S))
          have f35 := (hE67.mono (K33 S))
          obtain rfl := Option.some.inj h
          refine Swp.pop_back ⟨(r10, (iw (c14 + 1))), rfl, ?_⟩
          exact ⟨ob15, cap15, sp21, cs21, (List.length r10), cs23, (sp23 ++ sp22), _, (upds_sym ⟨rfl, rfl, rfl, rfl, rfl, rfl, rfl, rfl, trivial⟩), hL39, (Keep.trans (Keep.trans (Keep.trans (Keep.trans (Keep.trans K27 K28) K29) K30) K32) K33), f34, rfl, hc24, f35, hc26, trivial⟩
         ·
          have f27 := (hE61.mono (K29 None))
          have f36 := ((hE59.mono (K28 S)).mono (K29 S))
          refine RlL.op (OpY.apNew (r := (rInt .u8)) (H := (Hv w.heap.size S [some b16, some f_b, ob14, text_ob, some b15] w62)) (cs := cs19) (sp := sp19) (xs := text) (ys := [(uw8 c14)]) (Y := x17) (n := (List.length text)) (cap := text_cap) (i := 3) Tryd.underlying62 ti5 rfl rfl rfl rfl hL33 rfl rfl f36 rfl hc20 (Src.row (pre := []) (o := 0) (n := 1) (cap := 1) (hL33.at 0 rfl rfl) f27 rfl rfl rfl) (Els.anyH (fun _ _ _ _ h => h) f27) (Nat.le_of_ble_eq_true rfl) hr10 q39 q40 q41 ?_)
          intro b17 cap16 sp24 cs24 w65 hE68 hc27 (hL40 : Go.X.Loc X [] w w65 [some b17, some b16, some f_b, ob14, text_ob, some b15] [Cont.cells ([] ++ (cs24 ++ sp24)), Cont.cells ([] ++ ([(Value.int .u8 (uw8 c14))] ++ [])), Cont.cells [f_v1, f_v2, f_v3, (Value.int .i64 f.most), (osv ob14 0 (List.length words13) cap14)], Cont.cells ([] ++ (cs18 ++ sp18)), Cont.cells ([] ++ (cs19 ++ sp19)), Cont.cells [(Value.int .u8 x16.Low), (Value.int .u8 x16.High), (Value.int .i64 x16.To)]]) hS17
          have K34 := ks w hS17
          refine ⟨?_, ?_⟩
          ·
           refine LateP.cons (i := 0) rfl rfl (GOp.op (OpY.move (v := (Value.pointer (some ⟨f_b, 0, none⟩))) rfl ⟨rfl, rfl⟩)) ?_
           refine LateP.cons (i := 1) rfl rfl (GOp.op (OpY.fieldAddr (q := 2) Tryd.underlying57 rfl ti3 rfl rfl rfl ⟨rfl, rfl⟩)) ?_
           refine LateP.cons (i := 2) rfl rfl (GOp.op (OpY.ldBox1 (v := (Value.int .i64 x16.To)) Tryd.underlying3 rfl rfl (hL40.at 5 rfl rfl) rfl ⟨rfl, rfl⟩)) ?_
           refine LateP.cons (i := 4) rfl rfl (GOp.op (OpY.move (v := (Value.int .i64 c14)) rfl ⟨rfl, rfl⟩)) ?_
           refine LateP.cons (i := 8) rfl rfl (GOp.op (OpY.move (v := (Value.int .i64 left)) rfl ⟨rfl, rfl⟩)) ?_
           refine LateP.cons (i := 9) rfl rfl (GOp.op (OpY.sub (x := left) (y := 1) (z := (iw (left - 1))) rfl rfl rfl ⟨rfl, rfl⟩)) ?_
           exact LateP.nil
          obtain ⟨r10, q42, h⟩ := bind_some h
          have hL35 := hL40.lendW [2, 3, 0] rfl rfl rfl
          have f29 := ((((((((f_h1.mono (K17 S)).mono (K23 S)).mono (K24 S)).mono (K25 S)).mono (K27 S)).mono (K28 S)).mono (K29 S)).mono (K34 S))
          have f30 := (((((((f20.mono (K23 S)).mono (K24 S)).mono (K25 S)).mono (K27 S)).mono (K28 S)).mono (K29 S)).mono (K34 S))
          have f31 := ((((((((f_h3.mono (K17 S)).mono (K23 S)).mono (K24 S)).mono (K25 S)).mono (K27 S)).mono (K28 S)).mono (K29 S)).mono (K34 S))
          have f32 := (((hE58.mono (K28 S)).mono (K29 S)).mono (K34 S))
          have f33 := (hE68.mono (K34 S))
          refine RlL.op (OpY.callg en38 rfl rfl (ih (AFinder.mk (ADfa.mk f.d.Accept f.d.Edges) f.can f.most words13) x16.To x17 (iw (left - 1)) f_b f_v1 f_v2 f_v3 ob14 cap14 cs18 sp18 (some b17) cap16 cs24 sp24 [some f_b, ob14, some b17] _ Any hL35 (f29.mono (Hv.lendW [2, 3, 0] rfl)) (f30.mono (Hv.lendW [2, 3, 0] rfl)) (f31.mono (Hv.lendW [2, 3, 0] rfl)) (f32.mono (Hv.lendW [2, 3, 0] rfl)) hc19 (f33.mono (Hv.lendW [2, 3, 0] rfl)) hc27 r10 q42) ?_)
          rintro _ w64 ⟨ob15, cap15, cs21, sp21, cs22, sp22, rfl, hL36, K31, hE63, hc24, hE64, hc25, -⟩
          refine ⟨_, rfl, ?_⟩
          have hp12 := hL40.backW [2, 3, 0] [1, 4, 5] rfl rfl rfl rfl hL36
          have hL37 : Go.X.Loc X [] w w64 [some f_b, ob15, some b17, some b16, text_ob, some b15] [Cont.cells [f_v1, f_v2, f_v3, (Value.int .i64 f.most), (osv ob15 0 (List.length r10) cap15)], Cont.cells ([] ++ (cs21 ++ sp21)), Cont.cells ([] ++ (cs22 ++ sp22)), Cont.cells ([] ++ ([(Value.int .u8 (uw8 c14))] ++ [])), Cont.cells ([] ++ (cs19 ++ sp19)), Cont.cells [(Value.int .u8 x16.Low), (Value.int .u8 x16.High), (Value.int .i64 x16.To)]] := hp12.1
          have K32 := ks w hp12.2
          have hE65 : Els rStr (Hv w.heap.size S [some f_b, ob15, some b17, some b16, text_ob, some b15] w64) cs21 r10 := Els.anyH (fun _ _ _ _ h => h) hE63
          have hE66 : Els (rInt .u8) (Hv w.heap.size S [some f_b, ob15, some b17, some b16, text_ob, some b15] w64) cs22 x17 := Els.anyH (fun _ _ _ _ h => h) hE64
          refine ⟨?_, ?_⟩
          ·
           refine LateP.cons (i := 1) rfl rfl (GOp.op (OpY.fieldAddr (q := 2) Tryd.underlying57 rfl ti3 rfl rfl rfl ⟨rfl, rfl⟩)) ?_
           refine LateP.cons (i := 4) rfl rfl (GOp.op (OpY.move (v := (Value.int .i64 c14)) rfl ⟨rfl, rfl⟩)) ?_
           refine LateP.cons (i := 8) rfl rfl (GOp.op (OpY.move (v := (Value.int .i64 left)) rfl ⟨rfl, rfl⟩)) ?_
           exact LateP.nil
          refine RlL.fin ?_
          refine Swp.pop_blk (Swp.region rfl (Rl.op (OpY.move (v := (Value.int .i64 c14)) rfl ?_)))
          refine Rl.op (OpY.add (x := c14) (y := 1) (z := (iw (c14 + 1))) rfl rfl rfl ?_)
          refine Rl.op (OpY.assign (v := (Value.int .i64 (iw (c14 + 1)))) rfl ?_)
          refine Rl.nil ?_
          have hp14 := hL37.pick [0, 1, 4, 5] rfl rfl rfl
          have hL41 : Go.X.Loc X [] w w64 [some f_b, ob15, text_ob, some b15] [Cont.cells [f_v1, f_v2, f_v3, (Value.int .i64 f.most), (osv ob15 0 (List.length r10) cap15)], Cont.cells ([] ++ (cs21 ++ sp21)), Cont.cells ([] ++ (cs19 ++ sp19)), Cont.cells [(Value.int .u8 x16.Low), (Value.int .u8 x16.High), (Value.int .i64 x16.To)]] := hp14.1
          have K35 := ks w hp14.2
          have f37 := (hE65.mono (K35 S))
          have f38 := (((f36.mono (K34 S)).mono (K32 S)).mono (K35 S))
          obtain rfl := Option.some.inj h
          refine Swp.pop_back ⟨(r10, (iw (c14 + 1))), rfl, ?_⟩
          exact ⟨ob15, cap15, sp21, cs21, (List.length r10), cs19, sp19, _, (upds_sym ⟨rfl, rfl, rfl, rfl, rfl, rfl, rfl, rfl, trivial⟩), hL41, (Keep.trans (Keep.trans (Keep.trans (Keep.trans (Keep.trans K27 K28) K29) K34) K32) K35), f37, rfl, hc24, f38, hc20, trivial⟩
        ·
         replace h := ite_f hc21 h
         refine Swp.exit rfl ?_
         have hp15 := hL31.pick [0, 1, 2] rfl rfl rfl
         have hL42 : Go.X.Loc X [] w w60 [some f_b, ob14, text_ob] [Cont.cells [f_v1, f_v2, f_v3, (Value.int .i64 f.most), (osv ob14 0 (List.length words13) cap14)], Cont.cells ([] ++ (cs18 ++ sp18)), Cont.cells ([] ++ (cs19 ++ sp19))] := hp15.1
         have K36 := ks w hp15.2
         have f39 := (hE58.mono (K36 S))
         have f40 := (hE59.mono (K36 S))
         obtain rfl := Option.some.inj h
         obtain rfl := hd11 _ rfl
         replace h := g12
         try dsimp only at h
         skip
         refine Swp.pop_back ?_
         exact ⟨words13, ob14, cap14, sp18, cs18, (List.length words13), cs19, sp19, _, rfl, (upds_sym ⟨rfl, rfl, rfl, rfl, rfl, rfl, trivial⟩), hL42, (Keep.trans K27 K36), f39, rfl, hc19, f40, hc20, trivial⟩
       ·
        rintro _ w66 ⟨words12, ob13, cap13, sp16, cs16, ln12, cs17, sp17, u, rfl, rfl, hL43, K37, hE69, rfl, hc28, hE70, hc29, -⟩
        replace h := g12
        try dsimp only at h
        refine Swp.pop_blk (Swp.region rfl (Rl.op (OpY.add (x := x15) (y := 1) (z := (iw (x15 + 1))) rfl rfl rfl ?_)))
        refine Rl.op (OpY.move (v := (Value.int .i64 (iw (x15 + 1)))) rfl ?_)
        refine Rl.nil ?_
        obtain rfl := Option.some.inj h
        refine Swp.pop_back ⟨(words12, (iw (x15 + 1))), rfl, ?_⟩
        exact ⟨ob13, cap13, sp16, cs16, (List.length words12), cs17, sp17, _, (upds_sym ⟨rfl, rfl, rfl, rfl, rfl, rfl, trivial⟩), hL43, (Keep.trans (Keep.trans (Keep.trans K23 K24) K25) K37), hE69, rfl, hc28, hE70, hc29, trivial⟩
      ·
       replace h := ite_f hc18 h
       refine Swp.exit rfl ?_
       obtain rfl := Option.some.inj h
       obtain rfl := hd10 _ rfl
       replace h := g11
       try dsimp only at h
       skip
       refine Swp.pop_back ?_
       exact ⟨words11, ob12, cap12, sp14, cs14, (List.length words11), cs15, sp15, _, rfl, (upds_sym ⟨rfl, rfl, trivial⟩), hL27, K23, hE56, rfl, hc16, hE57, hc17, trivial⟩
     ·
      rintro _ w67 ⟨words10, ob11, cap11, sp12, cs12, ln10, cs13, sp13, u, rfl, rfl, hL44, K38, hE71, rfl, hc30, hE72, hc31, -⟩
      replace h := g11
      try dsimp only at h
      refine Swp.nil ?_
      obtain rfl := Option.some.inj h
      refine ⟨[], trivial, ?_⟩
      exact ⟨ob11, cap11, cs12, sp12, cs13, sp13, rfl, hL44, (Keep.trans K17 K38), hE71, hc30, hE72, hc31, trivial⟩
theorem aWords1_w (N : Nat) (pa : AEdge) (ca : AFinder) (cb : Int) (ca_b : Nat) (ca_p : Nat) (ca_v : Value) (ca_v1 : Value) (ca_v2 : Value) (ca_v3 : Value) (cb_b : Nat) (w : World) (S : Nat → Prop) (ca_at : At (Hv w.heap.size S [] w) ca_b 0 [(Value.pointer (some ⟨ca_p, 0, none⟩))]) (ca_pt : At (Hv w.heap.size S [] w) ca_p 0 [ca_v, ca_v1, ca_v2, (Value.int .i64 ca.most), ca_v3]) (ca_h : Rs rBool (Hv w.heap.size S [] w) ca_v ca.d.Accept) (ca_h1 : Rs (rSl rAEdge) (Hv w.heap.size S [] w) ca_v1 ca.d.Edges) (ca_h2 : Rs (rSl rBool) (Hv w.heap.size S [] w) ca_v2 ca.can) (ca_h3 : Rs rStr (Hv w.heap.size S [] w) ca_v3 ca.words) (cb_at : At (Hv w.heap.size S [] w) cb_b 0 [(Value.int .i64 cb)]) (r : Bool) (h : aWords1 N pa ca cb = some r) :
  Calls Tryd.prog 37 #[(Value.agg #[(Value.int .u8 pa.Low), (Value.int .u8 pa.High), (Value.int .i64 pa.To)]), (Value.pointer (some ⟨ca_b, 0, none⟩)), (Value.pointer (some ⟨cb_b, 0, none⟩))] w (Ret w (fun v w' => (Value.bool r) = v ∧ True)) := by
 unfold aWords1 at h
 have hL : Go.X.Loc [] [] w w [] [] := Go.X.Loc.begin0 w
 refine calls_of (l := [(Value.agg #[(Value.int .u8 pa.Low), (Value.int .u8 pa.High), (Value.int .i64 pa.To)]), (Value.pointer (some ⟨ca_b, 0, none⟩)), (Value.pointer (some ⟨cb_b, 0, none⟩))]) (rl := [.tmp 4]) (n := 16) Tryd.func37 rfl rfl rfl (Nat.le_of_ble_eq_true rfl) ?_
 refine Swp.seq (Swp.region rfl (Rl.op (OpY.box (cs := [(Value.int .u8 pa.Low), (Value.int .u8 pa.High), (Value.int .i64 pa.To)]) rfl rfl hL ?_)))
 intro b1 w2 hL3 hS5
 have K4 := ks w hS5
 refine Rl.op (OpY.assign (v := (Value.bool false)) rfl ?_)
 refine Rl.nil (Swp.seq ?_)
 have f7 := (At.mono (K4 S) ca_pt)
 have f6 := (f7.part (us := [ca_v2]) 2 rfl)
 obtain ⟨x8, q9, h⟩ := bind_some h
 obtain ⟨n10, q10, q11⟩ := idx_some q9
 have f10 := (ca_h2.mono (K4 S))
 obtain ⟨b10, o10, c10, vs10, q12, q13, f11, q14⟩ := Rs.get f10 q11
 obtain ⟨v10, rfl, k10⟩ := q14
 refine Swp.drawL 9 [] [] (fun W1 => [.det (Value.pointer (some ⟨ca_p, 0, none⟩)), .det (Value.pointer (some ⟨ca_p, 0, none⟩)), .det (Value.pointer (some ⟨ca_p, 0 + 2, none⟩)), .det ca_v2, .det (Value.int .i64 cb), .det (Value.pointer (some ⟨b10, (o10 + n10 * (rSl rBool).sz), none⟩)), .det v10, .det (Value.pointer (some ⟨b1, 2, none⟩)), .det (Value.int .i64 pa.To)]) mixed rfl rfl rfl (fun _ => rfl) (fun _ => rfl) ?_ ?_
 ·
  intro W1 _
  exact trivial
 ·
  intro w10 hE10
  have hL10 := hL3.ext hE10
  have K10 := ke hL3 hE10
  refine DrH.de (fun _ hE11 => GOp.op (OpY.ldRo1 Tryd.underlying66 rfl rfl vw_view (At.mono ((ke hL10 hE11) S) (At.mono (K10 S) (At.mono (K4 S) ca_at))) (er rfl))) ?_
  refine DrH.de (fun _ _ => GOp.op (OpY.nilCheck (b := ⟨ca_p, 0, none⟩) rfl (er rfl))) ?_
  refine DrH.de (fun _ _ => GOp.op (OpY.fieldAddr Tryd.underlying69 rfl ti67 rfl rfl rfl (er rfl))) ?_
  refine DrH.de (fun _ hE14 => GOp.op (OpY.ldRo1 Tryd.underlying67 rfl rfl vw_view (At.mono ((ke hL10 hE14) S) (At.mono (K10 S) f6)) (er rfl))) ?_
  refine DrH.de (fun _ hE15 => GOp.op (OpY.ldRo1 Tryd.underlying3 rfl rfl vw_view (At.mono ((ke hL10 hE15) S) (At.mono (K10 S) (At.mono (K4 S) cb_at))) (er rfl))) ?_
  refine DrH.de (fun _ _ => GOp.op (OpY.ixRoD (r := (rSl rBool)) (v := ca_v2) (n := n10) (m := (o10 + n10 * (rSl rBool).sz)) Tryd.underlying67 ti22 rfl q12 rfl q10 q11 rfl (er rfl))) ?_
  refine DrH.de (fun _ hE17 => GOp.op (OpY.ldRo1 Tryd.underlying22 rfl rfl vw_view (At.mono ((ke hL10 hE17) S) (At.mono (K10 S) f11)) (er rfl))) ?_
  refine DrH.de (fun _ _ => GOp.op (OpY.fieldAddr Tryd.underlying57 rfl ti3 rfl rfl rfl (er rfl))) ?_
  refine DrH.de (fun _ hE19 => GOp.op (OpY.ldBox1 Tryd.underlying3 rfl rfl ((hL10.ext hE19).at 0 rfl rfl) rfl (er rfl))) ?_
  refine DrH.fin0 ?_
  rintro w20 Z23 hE20 hZ19 ⟨-⟩ ap10
  have hB10 : ∀ b, some b ∈ ([] : List (Option Nat)) → w10.heap.size ≤ b ∧ ¬ Z23 b := by
   intro b hb; cases hb
  have hL12 := hL10.ext hE20
  have K15 := ke hL10 hE20
  obtain ⟨x10, q15, h⟩ := bind_some h
  obtain ⟨n11, q16, q17⟩ := idx_some q15
  have f12 := ((k10.mono (K10 S)).mono (K15 S))
  obtain ⟨b11, o11, c11, vs11, q18, q19, f13, q20⟩ := Rs.get f12 q17
  obtain rfl := q20
  refine Rl.op (OpY.ixRoD (r := rBool) (v := v10) (n := n11) (m := (o11 + n11 * rBool.sz)) Tryd.underlying22 ti4 rfl q18 rfl q16 q17 rfl ?_)
  refine Rl.op (OpY.ldRo1 (v := (Value.bool x10)) Tryd.underlying4 rfl rfl vw_view f13 ?_)
  refine Rl.op (OpY.assign (v := (Value.bool x10)) rfl ?_)
  refine Rl.nil (Swp.ret ?_)
  obtain rfl := Option.some.inj h
  refine ⟨[(Value.bool x10)], ⟨rfl, trivial⟩, ⟨_, rfl, hL12.done, ?_⟩⟩
  exact ⟨rfl, trivial⟩
theorem aWords_w (N : Nat) (d : ADfa) (length : Int) (most : Int) (d_v : Value) (d_v1 : Value) (w : World) (S : Nat → Prop) (d_h : Rs rBool (Hv w.heap.size S [] w) d_v d.Accept) (d_h1 : Rs (rSl rAEdge) (Hv w.heap.size S [] w) d_v1 d.Edges) (r : (List (List UInt8))) (h : aWords N d length most = some r) :
  Calls Tryd.prog 16 #[(Value.agg #[d_v, d_v1]), (Value.int .i64 length), (Value.int .i64 most)] w (Ret w (fun v w' => ∃ (ob0 : Option Nat) (cap0 : Nat) (cs0 : List Value) (sp0 : List Value), (osv ob0 0 (List.length r) cap0) = v ∧ NewOwn w w' [ob0] [Cont.cells ([] ++ (cs0 ++ sp0))] ∧ Els rStr (Hv w.heap.size None [ob0] w') cs0 r ∧ (cs0 ++ sp0).length = cap0 * rStr.sz ∧ True)) := by
 unfold aWords at h
 have hL : Go.X.Loc [] [] w w [] [] := Go.X.Loc.begin0 w
 refine calls_of (l := [(Value.agg #[d_v, d_v1]), (Value.int .i64 length), (Value.int .i64 most)]) (rl := [.tmp 6]) (n := 66) Tryd.func16 rfl rfl rfl (Nat.le_of_ble_eq_true rfl) ?_
 refine Swp.seq (Swp.region rfl (Rl.op (OpY.box (cs := [d_v, d_v1]) rfl rfl hL ?_)))
 intro b1 w2 hL3 hS5
 have K4 := ks w hS5
 refine Rl.op (OpY.assign (v := (Value.slice none 0 0)) rfl ?_)
 refine Rl.nil (Swp.seq (Swp.seq ?_))
 obtain ⟨s9, h, g10⟩ := bind_some h
 refine Swp.join (fun e w' => ∃ (x8 : Bool) (u : Env), x8 = s9 ∧ e = upds [(1, (Value.int .i64 length)), (2, (Value.int .i64 most)), (3, (Value.pointer (some ⟨b1, 0, none⟩))), (16, (Value.bool x8))] u ∧ Go.X.Loc [] [] w w' [some b1] [Cont.cells [d_v, d_v1]] ∧ Keep w.heap.size [some b1] w2 [some b1] w' ∧ True) ?_ ?_
 ·
  refine Swp.region rfl (Rl.op (OpY.move (v := (Value.int .i64 length)) rfl ?_))
  refine Rl.op (OpY.lss (x := length) (y := 0) ((length : Int) < 0) rfl rfl Iff.rfl ?_)
  refine Rl.op (OpY.move (v := (Value.bool (decide ((length : Int) < 0)))) rfl ?_)
  by_cases hc10 : (length : Int) < 0
  ·
   replace h := ite_t hc10 h
   refine Rl.no rfl rfl (decide_eq_true hc10) ?_
   refine Rl.no rfl rfl (decide_eq_true hc10) ?_
   refine Rl.op (OpY.pick_t (t := (decide ((length : Int) < 0))) (v := (Value.bool true)) rfl (decide_eq_true hc10) rfl ?_)
   refine Rl.nil ?_
   obtain rfl := Option.some.inj h
   refine Swp.pop_back ?_
   exact ⟨true, _, rfl, (upds_sym ⟨rfl, rfl, rfl, rfl, trivial⟩), hL3, Keep.refl, trivial⟩
  ·
   replace h := ite_f hc10 h
   refine Rl.yes rfl rfl (decide_eq_false hc10) (OpY.move (v := (Value.int .i64 most)) rfl ?_)
   refine Rl.yes rfl rfl (decide_eq_false hc10) (OpY.lss (x := most) (y := 0) ((most : Int) < 0) rfl rfl Iff.rfl ?_)
   refine Rl.op (OpY.pick_f (t := (decide ((length : Int) < 0))) (v := (Value.bool (decide ((most : Int) < 0)))) rfl (decide_eq_false hc10) rfl ?_)
   refine Rl.nil ?_
   obtain rfl := Option.some.inj h
   refine Swp.pop_back ?_
   exact ⟨(decide ((most : Int) < 0)), _, rfl, (upds_sym ⟨rfl, rfl, rfl, rfl, trivial⟩), hL3, Keep.refl, trivial⟩
 ·
  rintro _ w10 ⟨x8, u, rfl, rfl, hL10, K10, -⟩
  replace h := g10
  try dsimp only at h
  refine Swp.cond_b x8 rfl (fun hc11 => ?_) (fun hc11 => ?_)
  ·
   replace h := ite_t hc11 h
   refine Swp.seq (Swp.region rfl (Rl.op (OpY.assign (v := (Value.slice none 0 0)) rfl ?_)))
   refine Rl.nil ?_
   have hp10 := hL10.addNil
   have hL11 : Go.X.Loc [] [] w w10 [none, some b1] [Cont.cells ([] ++ ([] ++ [])), Cont.cells [d_v, d_v1]] := hp10.1
   have hE10 : Els rStr (Hv w.heap.size None [none, some b1] w10) [] [] := Els.nil
   refine Swp.ret ?_
   obtain rfl := Option.some.inj h
   refine ⟨[(osv none 0 (List.length ([] : (List (List UInt8)))) 0)], ⟨rfl, trivial⟩, ⟨_, rfl, hL11.done, ?_⟩⟩
   exact ⟨none, 0, [], [], rfl, (hL11.newOwn [0] rfl rfl rfl), (hE10.mono (Hv.pick [0] rfl)), (show ([] ++ [] : List Value).length = 0 * rStr.sz by simp), trivial⟩
  ·
   replace h := ite_f hc11 h
   refine Swp.skip (Swp.seq (Swp.region rfl (Rl.op (OpY.ldBoxA (vs := [d_v, d_v1]) Tryd.underlying32 rfl ti32 rfl (hL10.at 0 rfl rfl) rfl rfl ?_))))
   refine Rl.op (OpY.fieldAddr (q := 0) Tryd.underlying32 rfl ti22 rfl rfl rfl ?_)
   refine Rl.op (OpY.ldBox1 (v := d_v) Tryd.underlying22 rfl rfl (hL10.at 0 rfl rfl) rfl ?_)
   have f10 := ((d_h.mono (K4 S)).mono (K10 S))
   have hE11 : Els (rSl rBool) (Hv w.heap.size S [some b1] w10) [d_v] [d.Accept] := (Els.cons (a := [d_v]) ⟨_, rfl, f10⟩ Els.nil)
   refine Rl.op (OpY.litRow (r := (rSl rBool)) (vs := [d_v]) (css := [[d_v]]) (xs := [d.Accept]) Tryd.underlying67 ti22 (Nat.le_of_ble_eq_true rfl) rfl rfl ⟨(one_cells f10.one), rfl, trivial⟩ (Nat.le_of_ble_eq_true rfl) hE11 rfl hL10 ?_)
   intro b10 w11 hc12 hL12 hS10
   have K11 := ks w hS10
   refine Rl.op (OpY.move (v := (Value.int .i64 most)) rfl ?_)
   refine Rl.op (OpY.build (zc := [(Value.slice none 0 0), (Value.slice none 0 0), (Value.slice none 0 0), (Value.int .i64 0), (Value.slice none 0 0)]) (cs := [d_v, d_v1, (osv (some b10) 0 1 1), (Value.int .i64 most), (Value.slice none 0 0)]) (is := [0, 1, 2]) (vs := [(Value.agg #[d_v, d_v1]), (osv (some b10) 0 1 1), (Value.int .i64 most)]) (css := [[d_v, d_v1], [(osv (some b10) 0 1 1)], [(Value.int .i64 most)]]) pl69 ti69 rfl rfl rfl ⟨rfl, ⟨(one_cells (osv_one (some b10) 0 1 1)), ⟨rfl, trivial⟩⟩⟩ rfl ?_)
   refine Rl.op (OpY.box (cs := [d_v, d_v1, (osv (some b10) 0 1 1), (Value.int .i64 most), (Value.slice none 0 0)]) rfl rfl hL12 ?_)
   intro b11 w12 hL13 hS11
   have K12 := ks w hS11
   refine Rl.op (OpY.alloc (cs := [(Value.pointer none)]) ti66 rfl hL13 ?_)
   intro b12 w13 hL14 hS12
   have K13 := ks w hS12
   refine Rl.op0 (OpY.store (vs := [(Value.pointer (some ⟨b11, 0, none⟩))]) ti66 rfl rfl rfl rfl (ones_cons rfl ones_nil) hL14 0 rfl rfl (Nat.le_of_ble_eq_true rfl) ?_)
   intro w14 (hL15 : Go.X.Loc [] [] w w14 [some b12, some b11, some b10, some b1] [Cont.cells [(Value.pointer (some ⟨b11, 0, none⟩))], Cont.cells [d_v, d_v1, (osv (some b10) 0 1 1), (Value.int .i64 most), (Value.slice none 0 0)], Cont.cells ([] ++ ([d_v] ++ [])), Cont.cells [d_v, d_v1]]) hS13
   have K14 := ks w hS13
   refine Rl.nil (Swp.seq (Swp.seq (Swp.region rfl (Rl.op (OpY.move (v := (Value.int .i64 length)) rfl ?_)))))
   refine Rl.op (OpY.move (v := (Value.int .i64 0)) rfl ?_)
   refine Rl.nil ?_
   obtain ⟨s10, hl10, g11⟩ := bind_some h
   refine Swp.join (fun e w' => ∃ (can10 : (List (List Bool))) (ob10 : Option Nat) (cap10 : Nat) (sp10 : List Value) (cs10 : List Value) (ln10 : Nat) (u : Env), can10 = s10 ∧ e = upds [(1, (Value.int .i64 length)), (7, (Value.pointer (some ⟨b12, 0, none⟩)))] u ∧ Go.X.Loc [] [] w w' [some b12, some b11, ob10] [Cont.cells [(Value.pointer (some ⟨b11, 0, none⟩))], Cont.cells [d_v, d_v1, (osv ob10 0 ln10 cap10), (Value.int .i64 most), (Value.slice none 0 0)], Cont.cells ([] ++ (cs10 ++ sp10))] ∧ Keep w.heap.size [some b12, some b11, some b10, some b1] w14 [some b12, some b11, ob10] w' ∧ Els (rSl rBool) (Hv w.heap.size S [some b12, some b11, ob10] w') cs10 can10 ∧ ln10 = List.length can10 ∧ (cs10 ++ sp10).length = cap10 * (rSl rBool).sz ∧ True) ?_ ?_
   ·
    refine Swp.block ?_
    have hp11 := hL15.pick [3, 0, 1, 2] rfl rfl rfl
    have hL16 : Go.X.Loc [] [] w w14 [some b1, some b12, some b11, some b10] [Cont.cells [d_v, d_v1], Cont.cells [(Value.pointer (some ⟨b11, 0, none⟩))], Cont.cells [d_v, d_v1, (osv (some b10) 0 1 1), (Value.int .i64 most), (Value.slice none 0 0)], Cont.cells ([] ++ ([d_v] ++ []))] := hp11.1
    have K15 := ks w hp11.2
    have f11 := (((((hE11.mono (K11 S)).mono (K12 S)).mono (K13 S)).mono (K14 S)).mono (K15 S))
    refine Swp.loopM hl10 (fun (ss : ((List (List Bool)) × Int)) (e : Env) (w' : World) => match ss with | (can11, x10) => ∃ (ob11 : Option Nat) (cap11 : Nat) (sp11 : List Value) (cs11 : List Value) (ln11 : Nat) (u : Env), e = upds [(1, (Value.int .i64 length)), (3, (Value.pointer (some ⟨b1, 0, none⟩))), (7, (Value.pointer (some ⟨b12, 0, none⟩))), (24, (Value.int .i64 length)), (25, (Value.int .i64 x10))] u ∧ Go.X.Loc [] [] w w' [some b1, some b12, some b11, ob11] [Cont.cells [d_v, d_v1], Cont.cells [(Value.pointer (some ⟨b11, 0, none⟩))], Cont.cells [d_v, d_v1, (osv ob11 0 ln11 cap11), (Value.int .i64 most), (Value.slice none 0 0)], Cont.cells ([] ++ (cs11 ++ sp11))] ∧ Keep w.heap.size [some b12, some b11, some b10, some b1] w14 [some b1, some b12, some b11, ob11] w' ∧ Els (rSl rBool) (Hv w.heap.size S [some b1, some b12, some b11, ob11] w') cs11 can11 ∧ ln11 = List.length can11 ∧ (cs11 ++ sp11).length = cap11 * (rSl rBool).sz ∧ True) ⟨some b10, 1, [], [d_v], 1, _, (upds_sym ⟨rfl, rfl, rfl, rfl, rfl, trivial⟩), hL16, K15, f11, rfl, hc12, trivial⟩ ?_
    rintro ⟨can11, x10⟩ oo _ w15 ⟨ob11, cap11, sp11, cs11, ln11, u, rfl, hL17, K16, hE12, rfl, hc13, -⟩ h hd10
    rw [aWords_b1] at h
    refine Swp.seq (Swp.region rfl (Rl.op (OpY.lss (x := x10) (y := length) ((x10 : Int) < length) rfl rfl Iff.rfl ?_)))
    refine Rl.nil (Swp.seq ?_)
    refine Swp.cond_d ((x10 : Int) < length) rfl (fun hc14 => ?_) (fun hc14 => ?_)
    ·
     replace h := ite_t hc14 h
     refine Swp.skip (Swp.seq (Swp.block (Swp.seq (Swp.region rfl (Rl.op (OpY.move (v := (Value.int .i64 x10)) rfl ?_))))))
     refine Rl.op (OpY.alloc (cs := [(Value.int .i64 0)]) ti3 rfl hL17 ?_)
     intro b13 w16 hL18 hS14
     have K17 := ks w hS14
     refine Rl.op0 (OpY.store (vs := [(Value.int .i64 x10)]) ti3 rfl rfl rfl rfl (ones_cons rfl ones_nil) hL18 0 rfl rfl (Nat.le_of_ble_eq_true rfl) ?_)
     intro w17 (hL19 : Go.X.Loc [] [] w w17 [some b13, some b1, some b12, some b11, ob11] [Cont.cells [(Value.int .i64 x10)], Cont.cells [d_v, d_v1], Cont.cells [(Value.pointer (some ⟨b11, 0, none⟩))], Cont.cells [d_v, d_v1, (osv ob11 0 (List.length can11) cap11), (Value.int .i64 most), (Value.slice none 0 0)], Cont.cells ([] ++ (cs11 ++ sp11))]) hS15
     have K18 := ks w hS15
     refine Rl.nil (Swp.seq (Swp.region rfl (Rl.op (OpY.fieldAddr (q := 0) Tryd.underlying32 rfl ti22 rfl rfl rfl ?_))))
     refine Rl.op (OpY.ldBox1 (v := d_v) Tryd.underlying22 rfl rfl (hL19.at 1 rfl rfl) rfl ?_)
     have f12 := (((((((f10.mono (K11 S)).mono (K12 S)).mono (K13 S)).mono (K14 S)).mono (K16 S)).mono (K17 S)).mono (K18 S))
     refine Rl.op (OpY.lenRo (v := d_v) Tryd.underlying22 rfl f12 ?_)
     obtain ⟨x11, q10, h⟩ := bind_some h
     obtain ⟨m10, q11, q12, q13, q14⟩ := mk1_some q10
     refine Rl.op (OpY.mkRowX (r := rBool) (H := (Hv w.heap.size None [some b13, some b1, some b12, some b11, ob11] w17)) (zc := [(Value.bool false)]) (x := false) Tryd.underlying22 ti4 rfl rfl rfl rfl q11 q12 q13 q14 hL19 ?_)
     intro b14 w18 cs12 hE13 hc15 hL20 hS16
     have K19 := ks w hS16
     refine Rl.op (OpY.assign (v := (osv (some b14) 0 (List.length x11) m10)) rfl ?_)
     refine Rl.nil (Swp.seq (Swp.seq (Swp.region rfl (Rl.op (OpY.move (v := (osv (some b14) 0 (List.length x11) m10)) rfl ?_)))))
     have f13 := (hE13.mono (K19 None))
     refine Rl.op (OpY.lenRow (pre := []) (r := rBool) (xs := x11) Tryd.underlying22 rfl (hL20.at 0 rfl rfl) f13 rfl rfl ?_)
     refine Rl.op (OpY.move (v := (Value.int .i64 0)) rfl ?_)
     refine Rl.nil ?_
     obtain ⟨s11, hl11, g12⟩ := bind_some h
     refine Swp.join (fun e w' => ∃ (l10 : (List Bool)) (cs13 : List Value) (u : Env), l10 = s11 ∧ e = upds [(1, (Value.int .i64 length)), (3, (Value.pointer (some ⟨b1, 0, none⟩))), (7, (Value.pointer (some ⟨b12, 0, none⟩))), (9, (osv (some b14) 0 (List.length x11) m10)), (24, (Value.int .i64 length)), (25, (Value.int .i64 x10))] u ∧ Go.X.Loc [] [] w w' [some b1, some b12, some b11, ob11, some b14] [Cont.cells [d_v, d_v1], Cont.cells [(Value.pointer (some ⟨b11, 0, none⟩))], Cont.cells [d_v, d_v1, (osv ob11 0 (List.length can11) cap11), (Value.int .i64 most), (Value.slice none 0 0)], Cont.cells ([] ++ (cs11 ++ sp11)), Cont.cells ([] ++ (cs13 ++ []))] ∧ Keep w.heap.size [some b14, some b13, some b1, some b12, some b11, ob11] w18 [some b1, some b12, some b11, ob11, some b14] w' ∧ Els rBool (Hv w.heap.size None [some b1, some b12, some b11, ob11, some b14] w') cs13 l10 ∧ (List.length x11) = List.length l10 ∧ (cs13 ++ []).length = m10 * rBool.sz ∧ True) ?_ ?_
     ·
      refine Swp.block ?_
      have hp12 := hL20.pick [2, 3, 4, 5, 1, 0] rfl rfl rfl
      have hL21 : Go.X.Loc [] [] w w18 [some b1, some b12, some b11, ob11, some b13, some b14] [Cont.cells [d_v, d_v1], Cont.cells [(Value.pointer (some ⟨b11, 0, none⟩))], Cont.cells [d_v, d_v1, (osv ob11 0 (List.length can11) cap11), (Value.int .i64 most), (Value.slice none 0 0)], Cont.cells ([] ++ (cs11 ++ sp11)), Cont.cells [(Value.int .i64 x10)], Cont.cells ([] ++ (cs12 ++ []))] := hp12.1
      have K20 := ks w hp12.2
      have f14 := (f13.mono (K20 None))
      refine Swp.loopM hl11 (fun (ss : ((List Bool) × Int)) (e : Env) (w' : World) => match ss with | (l11, x12) => ∃ (cs14 : List Value) (u : Env), e = upds [(1, (Value.int .i64 length)), (3, (Value.pointer (some ⟨b1, 0, none⟩))), (7, (Value.pointer (some ⟨b12, 0, none⟩))), (8, (Value.pointer (some ⟨b13, 0, none⟩))), (9, (osv (some b14) 0 (List.length x11) m10)), (24, (Value.int .i64 length)), (25, (Value.int .i64 x10)), (33, (Value.int .i64 (List.length x11 : Int))), (34, (Value.int .i64 x12))] u ∧ Go.X.Loc [] [] w w' [some b1, some b12, some b11, ob11, some b13, some b14] [Cont.cells [d_v, d_v1], Cont.cells [(Value.pointer (some ⟨b11, 0, none⟩))], Cont.cells [d_v, d_v1, (osv ob11 0 (List.length can11) cap11), (Value.int .i64 most), (Value.slice none 0 0)], Cont.cells ([] ++ (cs11 ++ sp11)), Cont.cells [(Value.int .i64 x10)], Cont.cells ([] ++ (cs14 ++ []))] ∧ Keep w.heap.size [some b14, some b13, some b1, some b12, some b11, ob11] w18 [some b1, some b12, some b11, ob11, some b13, some b14] w' ∧ Els rBool (Hv w.heap.size None [some b1, some b12, some b11, ob11, some b13, some b14] w') cs14 l11 ∧ (List.length x11) = List.length l11 ∧ (cs14 ++ []).length = m10 * rBool.sz ∧ True) ⟨cs12, _, (upds_sym ⟨rfl, rfl, rfl, rfl, rfl, rfl, rfl, rfl, rfl, trivial⟩), hL21, K20, f14, rfl, hc15, trivial⟩ ?_
      rintro ⟨l11, x12⟩ oo _ w19 ⟨cs14, u, rfl, hL22, K21, hE14, hl12, hc16, -⟩ h hd11
      rw [aWords_b2] at h
      refine Swp.seq (Swp.region rfl (Rl.op (OpY.lss (x := x12) (y := (List.length x11 : Int)) ((x12 : Int) < (List.length x11 : Int)) rfl rfl Iff.rfl ?_)))
      refine Rl.nil (Swp.seq ?_)
      refine Swp.cond_d ((x12 : Int) < (List.length x11 : Int)) rfl (fun hc17 => ?_) (fun hc17 => ?_)
      ·
       replace h := ite_t hc17 h
       refine Swp.skip (Swp.seq (Swp.block (Swp.seq (Swp.region rfl (Rl.op (OpY.move (v := (Value.int .i64 x12)) rfl ?_))))))
       refine Rl.op (OpY.assign (v := (Value.int .i64 x12)) rfl ?_)
       refine Rl.nil (Swp.region rfl (Rl.op (OpY.move (v := (osv (some b14) 0 (List.length x11) m10)) rfl ?_)))
       refine Rl.op (OpY.move (v := (Value.int .i64 x12)) rfl ?_)
       refine Rl.op (OpY.fieldAddr (q := 1) Tryd.underlying32 rfl ti30 rfl rfl rfl ?_)
       refine Rl.op (OpY.ldBox1 (v := d_v1) Tryd.underlying30 rfl rfl (hL22.at 0 rfl rfl) rfl ?_)
       refine Rl.op (OpY.move (v := (Value.int .i64 x12)) rfl ?_)
       obtain ⟨x13, q15, h⟩ := bind_some h
       obtain ⟨n10, q16, q17⟩ := idx_some q15
       have f15 := (((((((((((d_h1.mono (K4 S)).mono (K10 S)).mono (K11 S)).mono (K12 S)).mono (K13 S)).mono (K14 S)).mono (K16 S)).mono (K17 S)).mono (K18 S)).mono (K19 S)).mono (K21 S))
       obtain ⟨b15, o10, c10, vs10, q18, q19, f16, q20⟩ := Rs.get f15 q17
       obtain ⟨v10, rfl, k10⟩ := q20
       refine Rl.op (OpY.ixRoD (r := (rSl rAEdge)) (v := d_v1) (n := n10) (m := (o10 + n10 * (rSl rAEdge).sz)) Tryd.underlying30 ti58 rfl q18 rfl q16 q17 rfl ?_)
       refine Rl.op (OpY.ldRo1 (v := v10) Tryd.underlying58 rfl rfl vw_view f16 ?_)
       refine Rl.op (OpY.makeFunc (vs := [(Value.pointer (some ⟨b12, 0, none⟩)), (Value.pointer (some ⟨b13, 0, none⟩))]) rfl ?_)
       obtain ⟨r10, q21, h⟩ := bind_some h
       have f17 := ((f12.mono (K19 S)).mono (K21 S))
       have f18 := ((((hE12.mono (K17 S)).mono (K18 S)).mono (K19 S)).mono (K21 S))
       refine Rl.op (OpY.call en36 rfl rfl (containsEdge_w N x13 (fun y10 => aWords1 N y10 (AFinder.mk d can11 most []) x10) v10 (Value.func (.func 37) #[] #[(Value.pointer (some ⟨b12, 0, none⟩)), (Value.pointer (some ⟨b13, 0, none⟩))]) _ Any (k10.mono vw_any) (fun w9 hE9 y11 z9 hz9 => ⟨37, [(Value.pointer (some ⟨b12, 0, none⟩)), (Value.pointer (some ⟨b13, 0, none⟩))], rfl, en37, (aWords1_w N y11 (AFinder.mk d can11 most []) x10 b12 b11 d_v d_v1 (osv ob11 0 (List.length can11) cap11) (Value.slice none 0 0) b13 _ Any (own_any ((hL22.at 1 rfl rfl).ext hE9)) (own_any ((hL22.at 2 rfl rfl).ext hE9)) ((f17.mono vw_any).mono (any_ext hE9)) ((f15.mono vw_any).mono (any_ext hE9)) ((own_row_any (pre := []) (o := 0) (n := (List.length can11)) (cap := cap11) (hL22.at 3 rfl rfl) f18 vw_any rfl rfl rfl hc13).mono (any_ext hE9)) Rs.nil (own_any ((hL22.at 4 rfl rfl).ext hE9)) z9 hz9)⟩) r10 q21) ?_)
       rintro _ w20 hE15 ⟨rfl, -⟩
       have hL23 := hL22.ext hE15
       have K22 := ke hL22 hE15
       obtain ⟨x14, q22, h⟩ := bind_some h
       obtain ⟨n11, q23, q24⟩ := idx_some q22
       have q25 := (List.getElem?_eq_some_iff.1 q24).1
       refine Rl.op (OpY.ixRowD (r := rBool) (b := b14) (o := 0) (n := n11) (m := (List.length x11)) (xs := l11) (q := (0 + n11 * rBool.sz)) Tryd.underlying22 ti4 rfl hl12 rfl q23 q25 rfl ?_)
       obtain ⟨x15, q26, h⟩ := bind_some h
       obtain ⟨n12, q27, q28, q29⟩ := upd1_some q26
       obtain rfl := Int.ofNat_inj.1 (q23.symm.trans q27)
       have f19 := (hE14.mono (K22 None))
       refine Rl.op0 (OpY.stRowX (pre := []) (r := rBool) (vs := [(Value.bool r10)]) (a := r10) ti4 rfl rfl rfl rfl hL23 5 rfl rfl f19 q25 rfl q29 ?_)
       have hl13 : (List.length x11) = List.length x15 := by rw [q29, List.length_set]; exact hl12
       intro w21 cs15 (hL24 : Go.X.Loc [] [] w w21 [some b1, some b12, some b11, ob11, some b13, some b14] [Cont.cells [d_v, d_v1], Cont.cells [(Value.pointer (some ⟨b11, 0, none⟩))], Cont.cells [d_v, d_v1, (osv ob11 0 (List.length can11) cap11), (Value.int .i64 most), (Value.slice none 0 0)], Cont.cells ([] ++ (cs11 ++ sp11)), Cont.cells [(Value.int .i64 x10)], Cont.cells ([] ++ (cs15 ++ []))]) hS17 hE16 q30
       have hc18 : (cs15 ++ []).length = m10 * rBool.sz := by have := hc16; rw [List.length_append] at this ⊢; rw [q30]; exact this
       have K23 := ks w hS17
       refine Rl.nil (Swp.pop_blk (Swp.region rfl (Rl.op (OpY.add (x := x12) (y := 1) (z := (iw (x12 + 1))) rfl rfl rfl ?_))))
       refine Rl.op (OpY.move (v := (Value.int .i64 (iw (x12 + 1)))) rfl ?_)
       refine Rl.nil ?_
       have f20 := (hE16.mono (K23 None))
       obtain rfl := Option.some.inj h
       refine Swp.pop_back ⟨(x15, (iw (x12 + 1))), rfl, ?_⟩
       exact ⟨cs15, _, (upds_sym ⟨rfl, rfl, rfl, rfl, rfl, rfl, rfl, rfl, rfl, trivial⟩), hL24, (Keep.trans (Keep.trans K21 K22) K23), f20, hl13, hc18, trivial⟩
      ·
       replace h := ite_f hc17 h
       refine Swp.exit rfl ?_
       have hp13 := hL22.pick [0, 1, 2, 3, 5] rfl rfl rfl
       have hL25 : Go.X.Loc [] [] w w19 [some b1, some b12, some b11, ob11, some b14] [Cont.cells [d_v, d_v1], Cont.cells [(Value.pointer (some ⟨b11, 0, none⟩))], Cont.cells [d_v, d_v1, (osv ob11 0 (List.length can11) cap11), (Value.int .i64 most), (Value.slice none 0 0)], Cont.cells ([] ++ (cs11 ++ sp11)), Cont.cells ([] ++ (cs14 ++ []))] := hp13.1
       have K24 := ks w hp13.2
       have f21 := (hE14.mono (K24 None))
       obtain rfl := Option.some.inj h
       obtain rfl := hd11 _ rfl
       replace h := g12
       try dsimp only at h
       skip
       refine Swp.pop_back ?_
       exact ⟨l11, cs14, _, rfl, (upds_sym ⟨rfl, rfl, rfl, rfl, rfl, rfl, trivial⟩), hL25, (Keep.trans K21 K24), f21, hl12, hc16, trivial⟩
     ·
      rintro _ w22 ⟨l10, cs13, u, rfl, rfl, hL26, K25, hE17, hl14, hc19, -⟩
      replace h := g12
      try dsimp only at h
      refine Swp.drawP [6, 7, 10] [0, 1, 2, 3, 4, 5, 8, 9] [(48, (Value.pointer (some ⟨b11, 0, none⟩))), (49, (Value.pointer (some ⟨b11, 0, none⟩))), (50, (Value.pointer (some ⟨b11, 0, none⟩))), (51, (Value.pointer (some ⟨b11, 2, none⟩))), (52, (osv ob11 0 (List.length can11) cap11)), (53, (osv (some b14) 0 (List.length x11) m10)), (56, (Value.pointer (some ⟨b11, 0, none⟩))), (57, (Value.pointer (some ⟨b11, 2, none⟩)))] mixed rfl rfl rfl rfl ?_
      intro w23 hE18
      have hL27 := hL26.ext hE18
      have K26 := ke hL26 hE18
      refine ⟨?_, ?_⟩
      ·
       refine LateP.cons (i := 0) rfl rfl (GOp.op (OpY.ldBox1 (v := (Value.pointer (some ⟨b11, 0, none⟩))) Tryd.underlying66 rfl rfl (hL27.at 1 rfl rfl) rfl ⟨rfl, rfl⟩)) ?_
       refine LateP.cons (i := 1) rfl rfl (GOp.op (OpY.ldBox1 (v := (Value.pointer (some ⟨b11, 0, none⟩))) Tryd.underlying66 rfl rfl (hL27.at 1 rfl rfl) rfl ⟨rfl, rfl⟩)) ?_
       refine LateP.cons (i := 2) rfl rfl (GOp.op (OpY.nilCheck (b := ⟨b11, 0, none⟩) rfl ⟨rfl, rfl⟩)) ?_
       refine LateP.cons (i := 3) rfl rfl (GOp.op (OpY.fieldAddr (q := 2) Tryd.underlying69 rfl ti67 rfl rfl rfl ⟨rfl, rfl⟩)) ?_
       refine LateP.cons (i := 4) rfl rfl (GOp.op (OpY.ldBox1 (v := (osv ob11 0 (List.length can11) cap11)) Tryd.underlying67 rfl rfl (hL27.at 2 rfl rfl) rfl ⟨rfl, rfl⟩)) ?_
       refine LateP.cons (i := 5) rfl rfl (GOp.op (OpY.move (v := (osv (some b14) 0 (List.length x11) m10)) rfl ⟨rfl, rfl⟩)) ?_
       refine LateP.cons (i := 8) rfl rfl (GOp.op (OpY.nilCheck (b := ⟨b11, 0, none⟩) rfl ⟨rfl, rfl⟩)) ?_
       refine LateP.cons (i := 9) rfl rfl (GOp.op (OpY.fieldAddr (q := 2) Tryd.underlying69 rfl ti67 rfl rfl rfl ⟨rfl, rfl⟩)) ?_
       exact LateP.nil
      have f22 := (hE17.mono (K26 None))
      have f23 := hL27.freezeRow 4 rfl rfl f22 rfl rfl hl14 hc19
      have hp14 := hL27.pick [0, 1, 2, 3] rfl rfl rfl
      have hL28 : Go.X.Loc [] [] w w23 [some b1, some b12, some b11, ob11] [Cont.cells [d_v, d_v1], Cont.cells [(Value.pointer (some ⟨b11, 0, none⟩))], Cont.cells [d_v, d_v1, (osv ob11 0 (List.length can11) cap11), (Value.int .i64 most), (Value.slice none 0 0)], Cont.cells ([] ++ (cs11 ++ sp11))] := hp14.1
      have K27 := ks w hp14.2
      have hE19 : Els (rSl rBool) (Hv w.heap.size None [some b1, some b12, some b11, ob11] w23) [(osv (some b14) 0 (List.length x11) m10)] [l10] := (Els.cons (a := [(osv (some b14) 0 (List.length x11) m10)]) ⟨_, rfl, f23⟩ Els.nil)
      refine RlL.op (OpY.litRow (r := (rSl rBool)) (vs := [(osv (some b14) 0 (List.length x11) m10)]) (css := [[(osv (some b14) 0 (List.length x11) m10)]]) (xs := [l10]) Tryd.underlying67 ti22 (Nat.le_of_ble_eq_true rfl) rfl rfl ⟨(one_cells f23.one), rfl, trivial⟩ (Nat.le_of_ble_eq_true rfl) hE19 rfl hL28 ?_)
      intro b16 w24 hc20 hL29 hS18
      have K28 := ks w hS18
      refine ⟨?_, ?_⟩
      ·
       refine LateP.cons (i := 0) rfl rfl (GOp.op (OpY.ldBox1 (v := (Value.pointer (some ⟨b11, 0, none⟩))) Tryd.underlying66 rfl rfl (hL29.at 2 rfl rfl) rfl ⟨rfl, rfl⟩)) ?_
       refine LateP.cons (i := 1) rfl rfl (GOp.op (OpY.ldBox1 (v := (Value.pointer (some ⟨b11, 0, none⟩))) Tryd.underlying66 rfl rfl (hL29.at 2 rfl rfl) rfl ⟨rfl, rfl⟩)) ?_
       refine LateP.cons (i := 2) rfl rfl (GOp.op (OpY.nilCheck (b := ⟨b11, 0, none⟩) rfl ⟨rfl, rfl⟩)) ?_
       refine LateP.cons (i := 3) rfl rfl (GOp.op (OpY.fieldAddr (q := 2) Tryd.underlying69 rfl ti67 rfl rfl rfl ⟨rfl, rfl⟩)) ?_
       refine LateP.cons (i := 4) rfl rfl (GOp.op (OpY.ldBox1 (v := (osv ob11 0 (List.length can11) cap11)) Tryd.underlying67 rfl rfl (hL29.at 3 rfl rfl) rfl ⟨rfl, rfl⟩)) ?_
       refine LateP.cons (i := 8) rfl rfl (GOp.op (OpY.nilCheck (b := ⟨b11, 0, none⟩) rfl ⟨rfl, rfl⟩)) ?_
       refine LateP.cons (i := 9) rfl rfl (GOp.op (OpY.fieldAddr (q := 2) Tryd.underlying69 rfl ti67 rfl rfl rfl ⟨rfl, rfl⟩)) ?_
       exact LateP.nil
      obtain ⟨x16, q31, h⟩ := bind_some h
      obtain ⟨q32, q33, q34⟩ := apnd_some q31
      have f24 := (hE19.mono (K28 None))
      have f25 := (((((((hE12.mono (K17 S)).mono (K18 S)).mono (K19 S)).mono (K25 S)).mono (K26 S)).mono (K27 S)).mono (K28 S))
      refine RlL.op (OpY.apRowX (r := (rSl rBool)) (H := (Hv w.heap.size S [some b16, some b1, some b12, some b11, ob11] w24)) (cs := cs11) (sp := sp11) (xs := can11) (ys := [l10]) (Y := x16) (n := (List.length can11)) (cap := cap11) (i := 4) Tryd.underlying67 ti22 rfl rfl rfl rfl hL29 rfl rfl f25 rfl hc13 (Src.row (pre := []) (o := 0) (n := 1) (cap := 1) (hL29.at 0 rfl rfl) f24 rfl rfl rfl) (f24.mono Hv.none) q32 q33 q34 ?_)
      intro ob12 cap12 sp12 cs16 w25 hE20 hc21 (hL30 : Go.X.Loc [] [] w w25 [some b16, some b1, some b12, some b11, ob12] [Cont.cells ([] ++ ([(osv (some b14) 0 (List.length x11) m10)] ++ [])), Cont.cells [d_v, d_v1], Cont.cells [(Value.pointer (some ⟨b11, 0, none⟩))], Cont.cells [d_v, d_v1, (osv ob11 0 (List.length can11) cap11), (Value.int .i64 most), (Value.slice none 0 0)], Cont.cells ([] ++ (cs16 ++ sp12))]) hS19
      have K29 := ks w hS19
      refine ⟨?_, ?_⟩
      ·
       refine LateP.cons (i := 0) rfl rfl (GOp.op (OpY.ldBox1 (v := (Value.pointer (some ⟨b11, 0, none⟩))) Tryd.underlying66 rfl rfl (hL30.at 2 rfl rfl) rfl ⟨rfl, rfl⟩)) ?_
       refine LateP.cons (i := 1) rfl rfl (GOp.op (OpY.ldBox1 (v := (Value.pointer (some ⟨b11, 0, none⟩))) Tryd.underlying66 rfl rfl (hL30.at 2 rfl rfl) rfl ⟨rfl, rfl⟩)) ?_
       refine LateP.cons (i := 2) rfl rfl (GOp.op (OpY.nilCheck (b := ⟨b11, 0, none⟩) rfl ⟨rfl, rfl⟩)) ?_
       refine LateP.cons (i := 3) rfl rfl (GOp.op (OpY.fieldAddr (q := 2) Tryd.underlying69 rfl ti67 rfl rfl rfl ⟨rfl, rfl⟩)) ?_
       refine LateP.cons (i := 8) rfl rfl (GOp.op (OpY.nilCheck (b := ⟨b11, 0, none⟩) rfl ⟨rfl, rfl⟩)) ?_
       refine LateP.cons (i := 9) rfl rfl (GOp.op (OpY.fieldAddr (q := 2) Tryd.underlying69 rfl ti67 rfl rfl rfl ⟨rfl, rfl⟩)) ?_
       exact LateP.nil
      refine RlL.op0 (OpY.store (vs := [(osv ob12 0 (List.length x16) cap12)]) ti67 rfl rfl (one_cells (osv_one ob12 0 (List.length x16) cap12)) rfl (ones_cons (osv_one ob12 0 (List.length x16) cap12) ones_nil) hL30 3 rfl rfl (Nat.le_of_ble_eq_true rfl) ?_)
      intro w26 (hL31 : Go.X.Loc [] [] w w26 [some b16, some b1, some b12, some b11, ob12] [Cont.cells ([] ++ ([(osv (some b14) 0 (List.length x11) m10)] ++ [])), Cont.cells [d_v, d_v1], Cont.cells [(Value.pointer (some ⟨b11, 0, none⟩))], Cont.cells [d_v, d_v1, (osv ob12 0 (List.length x16) cap12), (Value.int .i64 most), (Value.slice none 0 0)], Cont.cells ([] ++ (cs16 ++ sp12))]) hS20
      have K30 := ks w hS20
      refine ⟨?_, ?_⟩
      ·
       refine LateP.cons (i := 8) rfl rfl (GOp.op (OpY.nilCheck (b := ⟨b11, 0, none⟩) rfl ⟨rfl, rfl⟩)) ?_
       exact LateP.nil
      refine RlL.fin ?_
      refine Swp.pop_blk (Swp.region rfl (Rl.op (OpY.add (x := x10) (y := 1) (z := (iw (x10 + 1))) rfl rfl rfl ?_)))
      refine Rl.op (OpY.move (v := (Value.int .i64 (iw (x10 + 1)))) rfl ?_)
      refine Rl.nil ?_
      have hp15 := hL31.pick [1, 2, 3, 4] rfl rfl rfl
      have hL32 : Go.X.Loc [] [] w w26 [some b1, some b12, some b11, ob12] [Cont.cells [d_v, d_v1], Cont.cells [(Value.pointer (some ⟨b11, 0, none⟩))], Cont.cells [d_v, d_v1, (osv ob12 0 (List.length x16) cap12), (Value.int .i64 most), (Value.slice none 0 0)], Cont.cells ([] ++ (cs16 ++ sp12))] := hp15.1
      have K31 := ks w hp15.2
      have f26 := (((hE20.mono (K29 S)).mono (K30 S)).mono (K31 S))
      obtain rfl := Option.some.inj h
      refine Swp.pop_back ⟨(x16, (iw (x10 + 1))), rfl, ?_⟩
      exact ⟨ob12, cap12, sp12, cs16, (List.length x16), _, (upds_sym ⟨rfl, rfl, rfl, rfl, rfl, trivial⟩), hL32, (Keep.trans (Keep.trans (Keep.trans (Keep.trans (Keep.trans (Keep.trans (Keep.trans (Keep.trans (Keep.trans (Keep.trans K16 K17) K18) K19) K25) K26) K27) K28) K29) K30) K31), f26, rfl, hc21, trivial⟩
    ·
     replace h := ite_f hc14 h
     refine Swp.exit rfl ?_
     have hp16 := hL17.pick [1, 2, 3] rfl rfl rfl
     have hL33 : Go.X.Loc [] [] w w15 [some b12, some b11, ob11] [Cont.cells [(Value.pointer (some ⟨b11, 0, none⟩))], Cont.cells [d_v, d_v1, (osv ob11 0 (List.length can11) cap11), (Value.int .i64 most), (Value.slice none 0 0)], Cont.cells ([] ++ (cs11 ++ sp11))] := hp16.1
     have K32 := ks w hp16.2
     have f27 := (hE12.mono (K32 S))
     obtain rfl := Option.some.inj h
     obtain rfl := hd10 _ rfl
     replace h := g11
     try dsimp only at h
     skip
     refine Swp.pop_back ?_
     exact ⟨can11, ob11, cap11, sp11, cs11, (List.length can11), _, rfl, (upds_sym ⟨rfl, rfl, trivial⟩), hL33, (Keep.trans K16 K32), f27, rfl, hc13, trivial⟩
   ·
    rintro _ w27 ⟨can10, ob10, cap10, sp10, cs10, ln10, u, rfl, rfl, hL34, K33, hE21, rfl, hc22, -⟩
    replace h := g11
    try dsimp only at h
    refine Swp.seq (Swp.region rfl (Rl.op (OpY.ldBox1 (v := (Value.pointer (some ⟨b11, 0, none⟩))) Tryd.underlying66 rfl rfl (hL34.at 0 rfl rfl) rfl ?_)))
    refine Rl.op (OpY.move (v := (Value.int .i64 length)) rfl ?_)
    have hp17 := hL34.addNil
    have hL35 : Go.X.Loc [] [] w w27 [none, some b12, some b11, ob10] [Cont.cells ([] ++ ([] ++ [])), Cont.cells [(Value.pointer (some ⟨b11, 0, none⟩))], Cont.cells [d_v, d_v1, (osv ob10 0 (List.length can10) cap10), (Value.int .i64 most), (Value.slice none 0 0)], Cont.cells ([] ++ (cs10 ++ sp10))] := hp17.1
    have K34 := ks w hp17.2
    have hE22 : Els rStr (Hv w.heap.size None [none, some b12, some b11, ob10] w27) [] [] := Els.nil
    have f28 := (hE21.mono (K34 S))
    have f29 := hL35.freezeRow 3 rfl rfl f28 rfl rfl rfl hc22
    have hp18 := hL35.pick [0, 1, 2] rfl rfl rfl
    have hL36 : Go.X.Loc [] [] w w27 [none, some b12, some b11] [Cont.cells ([] ++ ([] ++ [])), Cont.cells [(Value.pointer (some ⟨b11, 0, none⟩))], Cont.cells [d_v, d_v1, (osv ob10 0 (List.length can10) cap10), (Value.int .i64 most), (osv none 0 (List.length ([] : (List (List UInt8)))) 0)]] := hp18.1
    have K35 := ks w hp18.2
    have hp19 := hL36.addNil
    have hL37 : Go.X.Loc [] [] w w27 [none, none, some b12, some b11] [Cont.cells ([] ++ ([] ++ [])), Cont.cells ([] ++ ([] ++ [])), Cont.cells [(Value.pointer (some ⟨b11, 0, none⟩))], Cont.cells [d_v, d_v1, (osv ob10 0 (List.length can10) cap10), (Value.int .i64 most), (osv none 0 (List.length ([] : (List (List UInt8)))) 0)]] := hp19.1
    have K36 := ks w hp19.2
    have hE23 : Els (rInt .u8) (Hv w.heap.size None [none, none, some b12, some b11] w27) [] [] := Els.nil
    obtain ⟨r11, q35, h⟩ := bind_some h
    have hL38 := hL37.lendW [3, 1, 0] rfl rfl rfl
    have f30 := ((((((((f10.mono (K11 S)).mono (K12 S)).mono (K13 S)).mono (K14 S)).mono (K33 S)).mono (K34 S)).mono (K35 S)).mono (K36 S))
    have f31 := ((((((((((d_h1.mono (K4 S)).mono (K10 S)).mono (K11 S)).mono (K12 S)).mono (K13 S)).mono (K14 S)).mono (K33 S)).mono (K34 S)).mono (K35 S)).mono (K36 S))
    have f32 := (f29.mono (K36 S))
    have f33 := ((hE22.mono (K35 None)).mono (K36 None))
    refine Rl.op (OpY.callg en38 rfl rfl (aFind_w N (AFinder.mk (ADfa.mk d.Accept d.Edges) can10 most ([] : (List (List UInt8)))) 0 ([] : (List Int)) length b11 d_v d_v1 (osv ob10 0 (List.length can10) cap10) none 0 [] [] none 0 [] [] [some b11, none, none] _ Any hL38 (f30.mono (Hv.lendW [3, 1, 0] rfl)) (f31.mono (Hv.lendW [3, 1, 0] rfl)) (f32.mono (Hv.lendW [3, 1, 0] rfl)) (f33.mono (Hv.lendW [3, 1, 0] rfl)) (show ([] ++ [] : List Value).length = 0 * rStr.sz by simp) (hE23.mono (Hv.lendW [3, 1, 0] rfl)) (show ([] ++ [] : List Value).length = 0 * (rInt .u8).sz by simp) r11 q35) ?_)
    rintro _ w28 ⟨ob13, cap13, cs17, sp13, cs18, sp14, rfl, hL39, K37, hE24, hc23, hE25, hc24, -⟩
    refine ⟨_, rfl, ?_⟩
    have hp20 := hL37.backW [3, 1, 0] [2] rfl rfl rfl rfl hL39
    have hL40 : Go.X.Loc [] [] w w28 [some b11, ob13, none, some b12] [Cont.cells [d_v, d_v1, (osv ob10 0 (List.length can10) cap10), (Value.int .i64 most), (osv ob13 0 (List.length r11) cap13)], Cont.cells ([] ++ (cs17 ++ sp13)), Cont.cells ([] ++ (cs18 ++ sp14)), Cont.cells [(Value.pointer (some ⟨b11, 0, none⟩))]] := hp20.1
    have hE26 : Els rStr (Hv w.heap.size None [some b11, ob13, none, some b12] w28) cs17 r11 := Els.anyH (fun _ _ _ _ h => h) hE24
    refine Rl.nil (Swp.seq (Swp.region rfl (Rl.op (OpY.ldBox1 (v := (Value.pointer (some ⟨b11, 0, none⟩))) Tryd.underlying66 rfl rfl (hL40.at 3 rfl rfl) rfl ?_))))
    refine Rl.op (OpY.nilCheck (b := ⟨b11, 0, none⟩) rfl ?_)
    refine Rl.op (OpY.fieldAddr (q := 4) Tryd.underlying69 rfl ti35 rfl rfl rfl ?_)
    refine Rl.op (OpY.ldBox1 (v := (osv ob13 0 (List.length r11) cap13)) Tryd.underlying35 rfl rfl (hL40.at 0 rfl rfl) rfl ?_)
    refine Rl.op (OpY.assign (v := (osv ob13 0 (List.length r11) cap13)) rfl ?_)
    refine Rl.nil (Swp.ret ?_)
    obtain rfl := Option.some.inj h
    refine ⟨[(osv ob13 0 (List.length r11) cap13)], ⟨rfl, trivial⟩, ⟨_, rfl, hL40.done, ?_⟩⟩
    exact ⟨ob13, cap13, cs17, sp13, rfl, (hL40.newOwn [1] rfl rfl rfl), (hE26.mono (Hv.pick [1] rfl)), hc23, trivial⟩
end Go.Proofs.YtckhldmpcddjmaaDoor.WA

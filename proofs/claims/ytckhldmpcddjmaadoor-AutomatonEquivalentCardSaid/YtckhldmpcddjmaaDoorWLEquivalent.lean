/- Walks, written by a program of mine (wip/tool); the kernel checks them. -/
import Derived.Test.YtckhldmpcddjmaaDoorProg
import Derived.Test.YtckhldmpcddjmaaDoorZ14
import Derived.Test.YtckhldmpcddjmaaDoorF20
import Derived.Test.YtckhldmpcddjmaaDoorA20
import Derived.Test.YtckhldmpcddjmaaDoorPL
import Derived.Test.YtckhldmpcddjmaaDoorWAEquivalent
import Derived.Test.YtckhldmpcddjmaaDoorWREquivalent
set_option maxRecDepth 100000
set_option maxHeartbeats 40000000
set_option linter.unusedVariables false
set_option linter.unusedSimpArgs false
namespace Go.Proofs.YtckhldmpcddjmaaDoor.WL
open Go Go.RowKit Go.X Go.D Go.Proofs.YtckhldmpcddjmaaDoor.WF Go.Proofs.YtckhldmpcddjmaaDoor.WA Go.Proofs.YtckhldmpcddjmaaDoor.WR
theorem en33 : Go.X.Enters Tryd.prog 33 := ⟨Tryd.f33, Tryd.func33, by kernel_rfl, by kernel_rfl⟩
theorem en13 : Go.X.Enters Tryd.prog 13 := ⟨Tryd.f13, Tryd.func13, by kernel_rfl, by kernel_rfl⟩
theorem en16 : Go.X.Enters Tryd.prog 16 := ⟨Tryd.f16, Tryd.func16, by kernel_rfl, by kernel_rfl⟩
theorem en22 : Go.X.Enters Tryd.prog 22 := ⟨Tryd.f22, Tryd.func22, by kernel_rfl, by kernel_rfl⟩
theorem en20 : Go.X.Enters Tryd.prog 20 := ⟨Tryd.f20, Tryd.func20, by kernel_rfl, by kernel_rfl⟩
theorem en11 : Go.X.Enters Tryd.prog 11 := ⟨Tryd.f11, Tryd.func11, by kernel_rfl, by kernel_rfl⟩
theorem en14 : Go.X.Enters Tryd.prog 14 := ⟨Tryd.f14, Tryd.func14, by kernel_rfl, by kernel_rfl⟩
theorem en12 : Go.X.Enters Tryd.prog 12 := ⟨Tryd.f12, Tryd.func12, by kernel_rfl, by kernel_rfl⟩
theorem en26 : Go.X.Enters Tryd.prog 26 := ⟨Tryd.f26, Tryd.func26, by kernel_rfl, by kernel_rfl⟩
theorem lown_w (N : Nat) (d : ADfa) (d_v : Value) (d_v1 : Value) (w : World) (S : Nat → Prop) (d_h : Rs rBool (Hv w.heap.size S [] w) d_v d.Accept) (d_h1 : Rs (rSl rAEdge) (Hv w.heap.size S [] w) d_v1 d.Edges) (r : ADfa) (h : lown N d = some r) :
  Calls Tryd.prog 14 #[(Value.agg #[d_v, d_v1])] w (Ret w (fun v w' => ∃ (v0_0 : Value) (v0_1 : Value), (Value.agg #[v0_0, v0_1]) = v ∧ Rs rBool (Hv w.heap.size None [] w') v0_0 r.Accept ∧ Rs (rSl rAEdge) (Hv w.heap.size None [] w') v0_1 r.Edges ∧ True)) := by
 unfold lown at h
 have hL : Go.X.Loc [] [] w w [] [] := Go.X.Loc.begin0 w
 refine calls_of (l := [(Value.agg #[d_v, d_v1])]) (rl := [.cell 2 32]) (n := 46) Tryd.func14 rfl rfl rfl (Nat.le_of_ble_eq_true rfl) ?_
 refine Swp.seq (Swp.region rfl (Rl.op (OpY.box (cs := [d_v, d_v1]) rfl rfl hL ?_)))
 intro b1 w2 hL3 hS5
 have K4 := ks w hS5
 refine Rl.op (OpY.alloc (cs := [(Value.slice none 0 0), (Value.slice none 0 0)]) ti32 rfl hL3 ?_)
 intro b6 w7 hL8 hS10
 have K9 := ks w hS10
 refine Rl.nil (Swp.seq (Swp.region rfl (Rl.op (OpY.litRow0 Tryd.underlying22 ti4 hL8 ?_))))
 intro b10 w10 hL10 hS11
 have hE10 : Els rBool (Hv w.heap.size None [some b6, some b1] w7) [] [] := Els.nil
 have K10 := ks w hS11
 refine Rl.op (OpY.fieldAddr (q := 0) Tryd.underlying25 rfl ti22 rfl rfl rfl ?_)
 refine Rl.op (OpY.ldBox1 (v := d_v) Tryd.underlying22 rfl rfl (hL10.at 2 rfl rfl) rfl ?_)
 obtain ⟨x10, q10, h⟩ := bind_some h
 obtain ⟨q11, q12, q13⟩ := apnd_some q10
 have f10 := (((d_h.mono (K4 S)).mono (K9 S)).mono (K10 S))
 obtain ⟨ds10, q14, q15⟩ := Rs.src f10
 have f11 := (hE10.mono (K10 None))
 refine Rl.op (OpY.apRowX (r := rBool) (H := (Hv w.heap.size None [some b10, some b6, some b1] w10)) (cs := []) (sp := []) (xs := ([] : (List Bool))) (ys := d.Accept) (Y := x10) (n := (List.length ([] : (List Bool)))) (cap := 0) (i := 0) Tryd.underlying22 ti4 rfl rfl rfl rfl hL10 rfl rfl f11 rfl (show ([] ++ [] : List Value).length = 0 * rBool.sz by simp) q14 (Els.anyH (fun _ _ _ _ h => h) q15) q11 q12 q13 ?_)
 intro ob10 cap10 sp10 cs10 w11 hE11 hc10 (hL11 : Go.X.Loc [] [] w w11 [ob10, some b6, some b1] [Cont.cells ([] ++ (cs10 ++ sp10)), Cont.cells [(Value.slice none 0 0), (Value.slice none 0 0)], Cont.cells [d_v, d_v1]]) hS12
 have K11 := ks w hS12
 refine Rl.op (OpY.build (zc := [(Value.slice none 0 0), (Value.slice none 0 0)]) (cs := [(osv ob10 0 (List.length x10) cap10), (Value.slice none 0 0)]) (is := [0]) (vs := [(osv ob10 0 (List.length x10) cap10)]) (css := [[(osv ob10 0 (List.length x10) cap10)]]) pl32 ti32 rfl rfl rfl ⟨(one_cells (osv_one ob10 0 (List.length x10) cap10)), trivial⟩ rfl ?_)
 refine Rl.op (OpY.alloc (cs := [(Value.slice none 0 0), (Value.slice none 0 0)]) ti32 rfl hL11 ?_)
 intro b11 w12 hL12 hS13
 have K12 := ks w hS13
 refine Rl.op0 (OpY.store (vs := [(osv ob10 0 (List.length x10) cap10), (Value.slice none 0 0)]) ti32 rfl rfl rfl rfl (ones_cons (osv_one ob10 0 (List.length x10) cap10) (ones_cons rfl ones_nil)) hL12 0 rfl rfl (Nat.le_of_ble_eq_true rfl) ?_)
 intro w13 (hL13 : Go.X.Loc [] [] w w13 [some b11, ob10, some b6, some b1] [Cont.cells [(osv ob10 0 (List.length x10) cap10), (Value.slice none 0 0)], Cont.cells ([] ++ (cs10 ++ sp10)), Cont.cells [(Value.slice none 0 0), (Value.slice none 0 0)], Cont.cells [d_v, d_v1]]) hS14
 have K13 := ks w hS14
 refine Rl.nil (Swp.seq (Swp.seq (Swp.region rfl (Rl.op (OpY.fieldAddr (q := 1) Tryd.underlying25 rfl ti23 rfl rfl rfl ?_)))))
 refine Rl.op (OpY.ldBox1 (v := d_v1) Tryd.underlying23 rfl rfl (hL13.at 3 rfl rfl) rfl ?_)
 have f12 := ((((((d_h1.mono (K4 S)).mono (K9 S)).mono (K10 S)).mono (K11 S)).mono (K12 S)).mono (K13 S))
 refine Rl.op (OpY.lenRo (v := d_v1) Tryd.underlying23 rfl f12 ?_)
 refine Rl.op (OpY.move (v := (Value.int .i64 0)) rfl ?_)
 refine Rl.nil ?_
 obtain ⟨s10, hl10, g10⟩ := bind_some h
 refine Swp.join (fun e w' => ∃ (edges10 : (List (List AEdge))) (ob11 : Option Nat) (cap11 : Nat) (sp11 : List Value) (cs11 : List Value) (ln10 : Nat) (u : Env), edges10 = s10 ∧ e = upds [(2, (Value.pointer (some ⟨b6, 0, none⟩))), (3, (Value.pointer (some ⟨b11, 0, none⟩)))] u ∧ Go.X.Loc [] [] w w' [some b6, some b11, ob10, ob11] [Cont.cells [(Value.slice none 0 0), (Value.slice none 0 0)], Cont.cells [(osv ob10 0 (List.length x10) cap10), (osv ob11 0 ln10 cap11)], Cont.cells ([] ++ (cs10 ++ sp10)), Cont.cells ([] ++ (cs11 ++ sp11))] ∧ Keep w.heap.size [some b11, ob10, some b6, some b1] w13 [some b6, some b11, ob10, ob11] w' ∧ Els (rSl rAEdge) (Hv w.heap.size None [some b6, some b11, ob10, ob11] w') cs11 edges10 ∧ ln10 = List.length edges10 ∧ (cs11 ++ sp11).length = cap11 * (rSl rAEdge).sz ∧ True) ?_ ?_
 ·
  refine Swp.block ?_
  have hp10 := hL13.addNil
  have hL14 : Go.X.Loc [] [] w w13 [none, some b11, ob10, some b6, some b1] [Cont.cells ([] ++ ([] ++ [])), Cont.cells [(osv ob10 0 (List.length x10) cap10), (Value.slice none 0 0)], Cont.cells ([] ++ (cs10 ++ sp10)), Cont.cells [(Value.slice none 0 0), (Value.slice none 0 0)], Cont.cells [d_v, d_v1]] := hp10.1
  have K14 := ks w hp10.2
  have hp11 := hL14.pick [3, 1, 2, 0] rfl rfl rfl
  have hL15 : Go.X.Loc [] [] w w13 [some b6, some b11, ob10, none] [Cont.cells [(Value.slice none 0 0), (Value.slice none 0 0)], Cont.cells [(osv ob10 0 (List.length x10) cap10), (osv none 0 (List.length ([] : (List (List AEdge)))) 0)], Cont.cells ([] ++ (cs10 ++ sp10)), Cont.cells ([] ++ ([] ++ []))] := hp11.1
  have K15 := ks w hp11.2
  have f13 := ((Els.nil (r := (rSl rAEdge))).mono (K15 None))
  refine Swp.loopM hl10 (fun (ss : ((List (List AEdge)) × Int)) (e : Env) (w' : World) => match ss with | (edges11, x11) => ∃ (ob12 : Option Nat) (cap12 : Nat) (sp12 : List Value) (cs12 : List Value) (ln11 : Nat) (u : Env), e = upds [(2, (Value.pointer (some ⟨b6, 0, none⟩))), (3, (Value.pointer (some ⟨b11, 0, none⟩))), (15, d_v1), (16, (Value.int .i64 (List.length d.Edges : Int))), (17, (Value.int .i64 x11))] u ∧ Go.X.Loc [] [] w w' [some b6, some b11, ob10, ob12] [Cont.cells [(Value.slice none 0 0), (Value.slice none 0 0)], Cont.cells [(osv ob10 0 (List.length x10) cap10), (osv ob12 0 ln11 cap12)], Cont.cells ([] ++ (cs10 ++ sp10)), Cont.cells ([] ++ (cs12 ++ sp12))] ∧ Keep w.heap.size [some b11, ob10, some b6, some b1] w13 [some b6, some b11, ob10, ob12] w' ∧ Els (rSl rAEdge) (Hv w.heap.size None [some b6, some b11, ob10, ob12] w') cs12 edges11 ∧ ln11 = List.length edges11 ∧ (cs12 ++ sp12).length = cap12 * (rSl rAEdge).sz ∧ True) ⟨none, 0, [], [], (List.length ([] : (List (List AEdge)))), _, (upds_sym ⟨rfl, rfl, rfl, rfl, rfl, trivial⟩), hL15, (Keep.trans K14 K15), f13, rfl, (show ([] ++ [] : List Value).length = 0 * (rSl rAEdge).sz by simp), trivial⟩ ?_
  rintro ⟨edges11, x11⟩ oo _ w14 ⟨ob12, cap12, sp12, cs12, ln11, u, rfl, hL16, K16, hE12, rfl, hc11, -⟩ h hd10
  rw [lown_b1] at h
  refine Swp.seq (Swp.region rfl (Rl.op (OpY.lss (x := x11) (y := (List.length d.Edges : Int)) ((x11 : Int) < (List.length d.Edges : Int)) rfl rfl Iff.rfl ?_)))
  refine Rl.nil (Swp.seq ?_)
  refine Swp.cond_d ((x11 : Int) < (List.length d.Edges : Int)) rfl (fun hc12 => ?_) (fun hc12 => ?_)
  ·
   replace h := ite_t hc12 h
   refine Swp.skip (Swp.seq (Swp.block (Swp.seq (Swp.region rfl ?_))))
   obtain ⟨x12, q16, h⟩ := bind_some h
   obtain ⟨n10, q17, q18⟩ := idx_some q16
   have f14 := (f12.mono (K16 S))
   obtain ⟨b12, o10, c10, vs10, q19, q20, f15, q21⟩ := Rs.get f14 q18
   obtain ⟨v10, rfl, k10⟩ := q21
   refine Rl.op (OpY.ixRoD (r := (rSl rAEdge)) (v := d_v1) (n := n10) (m := (o10 + n10 * (rSl rAEdge).sz)) Tryd.underlying23 ti39 rfl q19 rfl q17 q18 rfl ?_)
   refine Rl.op (OpY.ldRo1 (v := v10) Tryd.underlying39 rfl rfl vw_view f15 ?_)
   refine Rl.op (OpY.assign (v := v10) rfl ?_)
   refine Rl.nil (Swp.seq (Swp.region rfl (Rl.op (OpY.assign (v := (Value.slice none 0 0)) rfl ?_))))
   refine Rl.nil (Swp.seq (Swp.seq (Swp.region rfl (Rl.op (OpY.move (v := v10) rfl ?_)))))
   refine Rl.op (OpY.lenRo (v := v10) Tryd.underlying39 rfl k10 ?_)
   refine Rl.op (OpY.move (v := (Value.int .i64 0)) rfl ?_)
   refine Rl.nil ?_
   obtain ⟨s11, hl11, g11⟩ := bind_some h
   refine Swp.join (fun e w' => ∃ (m10 : (List AEdge)) (ob13 : Option Nat) (cap13 : Nat) (sp13 : List Value) (cs13 : List Value) (ln12 : Nat) (u : Env), m10 = s11 ∧ e = upds [(2, (Value.pointer (some ⟨b6, 0, none⟩))), (3, (Value.pointer (some ⟨b11, 0, none⟩))), (6, (osv ob13 0 ln12 cap13)), (15, d_v1), (16, (Value.int .i64 (List.length d.Edges : Int))), (17, (Value.int .i64 x11))] u ∧ Go.X.Loc [] [] w w' [some b6, some b11, ob10, ob12, ob13] [Cont.cells [(Value.slice none 0 0), (Value.slice none 0 0)], Cont.cells [(osv ob10 0 (List.length x10) cap10), (osv ob12 0 (List.length edges11) cap12)], Cont.cells ([] ++ (cs10 ++ sp10)), Cont.cells ([] ++ (cs12 ++ sp12)), Cont.cells ([] ++ (cs13 ++ sp13))] ∧ Keep w.heap.size [some b6, some b11, ob10, ob12] w14 [some b6, some b11, ob10, ob12, ob13] w' ∧ Els rAEdge (Hv w.heap.size None [some b6, some b11, ob10, ob12, ob13] w') cs13 m10 ∧ ln12 = List.length m10 ∧ (cs13 ++ sp13).length = cap13 * rAEdge.sz ∧ True) ?_ ?_
   ·
    refine Swp.block ?_
    have hp12 := hL16.addNil
    have hL17 : Go.X.Loc [] [] w w14 [none, some b6, some b11, ob10, ob12] [Cont.cells ([] ++ ([] ++ [])), Cont.cells [(Value.slice none 0 0), (Value.slice none 0 0)], Cont.cells [(osv ob10 0 (List.length x10) cap10), (osv ob12 0 (List.length edges11) cap12)], Cont.cells ([] ++ (cs10 ++ sp10)), Cont.cells ([] ++ (cs12 ++ sp12))] := hp12.1
    have K17 := ks w hp12.2
    have hp13 := hL17.pick [1, 2, 3, 4, 0] rfl rfl rfl
    have hL18 : Go.X.Loc [] [] w w14 [some b6, some b11, ob10, ob12, none] [Cont.cells [(Value.slice none 0 0), (Value.slice none 0 0)], Cont.cells [(osv ob10 0 (List.length x10) cap10), (osv ob12 0 (List.length edges11) cap12)], Cont.cells ([] ++ (cs10 ++ sp10)), Cont.cells ([] ++ (cs12 ++ sp12)), Cont.cells ([] ++ ([] ++ []))] := hp13.1
    have K18 := ks w hp13.2
    have f16 := ((Els.nil (r := rAEdge)).mono (K18 None))
    refine Swp.loopM hl11 (fun (ss : ((List AEdge) × Int)) (e : Env) (w' : World) => match ss with | (m11, x13) => ∃ (ob14 : Option Nat) (cap14 : Nat) (sp14 : List Value) (cs14 : List Value) (ln13 : Nat) (u : Env), e = upds [(2, (Value.pointer (some ⟨b6, 0, none⟩))), (3, (Value.pointer (some ⟨b11, 0, none⟩))), (6, (osv ob14 0 ln13 cap14)), (15, d_v1), (16, (Value.int .i64 (List.length d.Edges : Int))), (17, (Value.int .i64 x11)), (21, v10), (22, (Value.int .i64 (List.length x12 : Int))), (23, (Value.int .i64 x13))] u ∧ Go.X.Loc [] [] w w' [some b6, some b11, ob10, ob12, ob14] [Cont.cells [(Value.slice none 0 0), (Value.slice none 0 0)], Cont.cells [(osv ob10 0 (List.length x10) cap10), (osv ob12 0 (List.length edges11) cap12)], Cont.cells ([] ++ (cs10 ++ sp10)), Cont.cells ([] ++ (cs12 ++ sp12)), Cont.cells ([] ++ (cs14 ++ sp14))] ∧ Keep w.heap.size [some b6, some b11, ob10, ob12] w14 [some b6, some b11, ob10, ob12, ob14] w' ∧ Els rAEdge (Hv w.heap.size None [some b6, some b11, ob10, ob12, ob14] w') cs14 m11 ∧ ln13 = List.length m11 ∧ (cs14 ++ sp14).length = cap14 * rAEdge.sz ∧ True) ⟨none, 0, [], [], (List.length ([] : (List AEdge))), _, (upds_sym ⟨rfl, rfl, rfl, rfl, rfl, rfl, rfl, rfl, rfl, trivial⟩), hL18, (Keep.trans K17 K18), f16, rfl, (show ([] ++ [] : List Value).length = 0 * rAEdge.sz by simp), trivial⟩ ?_
    rintro ⟨m11, x13⟩ oo _ w15 ⟨ob14, cap14, sp14, cs14, ln13, u, rfl, hL19, K19, hE13, rfl, hc13, -⟩ h hd11
    rw [lown_b2] at h
    refine Swp.seq (Swp.region rfl (Rl.op (OpY.lss (x := x13) (y := (List.length x12 : Int)) ((x13 : Int) < (List.length x12 : Int)) rfl rfl Iff.rfl ?_)))
    refine Rl.nil (Swp.seq ?_)
    refine Swp.cond_d ((x13 : Int) < (List.length x12 : Int)) rfl (fun hc14 => ?_) (fun hc14 => ?_)
    ·
     replace h := ite_t hc14 h
     refine Swp.skip (Swp.seq (Swp.block (Swp.seq (Swp.region rfl ?_))))
     obtain ⟨x14, q22, h⟩ := bind_some h
     obtain ⟨n11, q23, q24⟩ := idx_some q22
     have f17 := (k10.mono (K19 S))
     obtain ⟨b13, o11, c11, vs11, q25, q26, f18, q27⟩ := Rs.get f17 q24
     obtain ⟨rfl, -⟩ := rAEdge_open q27
     refine Rl.op (OpY.ixRoD (r := rAEdge) (v := v10) (n := n11) (m := (o11 + n11 * rAEdge.sz)) Tryd.underlying39 ti63 rfl q25 rfl q23 q24 rfl ?_)
     refine Rl.op (OpY.ldRoA (vs := [(Value.int .u8 x14.Low), (Value.int .u8 x14.High), (Value.int .i64 x14.To)]) Tryd.underlying63 rfl ti63 rfl rfl vw_view f18 ?_)
     refine Rl.op (OpY.alloc (cs := [(Value.int .u8 0), (Value.int .u8 0), (Value.int .i64 0)]) ti63 rfl hL19 ?_)
     intro b14 w16 hL20 hS15
     have K20 := ks w hS15
     refine Rl.op0 (OpY.store (vs := [(Value.int .u8 x14.Low), (Value.int .u8 x14.High), (Value.int .i64 x14.To)]) ti63 rfl rfl rfl rfl (ones_cons rfl (ones_cons rfl (ones_cons rfl ones_nil))) hL20 0 rfl rfl (Nat.le_of_ble_eq_true rfl) ?_)
     intro w17 (hL21 : Go.X.Loc [] [] w w17 [some b14, some b6, some b11, ob10, ob12, ob14] [Cont.cells [(Value.int .u8 x14.Low), (Value.int .u8 x14.High), (Value.int .i64 x14.To)], Cont.cells [(Value.slice none 0 0), (Value.slice none 0 0)], Cont.cells [(osv ob10 0 (List.length x10) cap10), (osv ob12 0 (List.length edges11) cap12)], Cont.cells ([] ++ (cs10 ++ sp10)), Cont.cells ([] ++ (cs12 ++ sp12)), Cont.cells ([] ++ (cs14 ++ sp14))]) hS16
     have K21 := ks w hS16
     refine Rl.nil (Swp.region rfl (Rl.op (OpY.move (v := (osv ob14 0 (List.length m11) cap14)) rfl ?_)))
     refine Rl.op (OpY.fieldAddr (q := 0) Tryd.underlying63 rfl ti5 rfl rfl rfl ?_)
     refine Rl.op (OpY.ldBox1 (v := (Value.int .u8 x14.Low)) Tryd.underlying5 rfl rfl (hL21.at 0 rfl rfl) rfl ?_)
     refine Rl.op (OpY.fieldAddr (q := 1) Tryd.underlying63 rfl ti5 rfl rfl rfl ?_)
     refine Rl.op (OpY.ldBox1 (v := (Value.int .u8 x14.High)) Tryd.underlying5 rfl rfl (hL21.at 0 rfl rfl) rfl ?_)
     refine Rl.op (OpY.fieldAddr (q := 2) Tryd.underlying63 rfl ti3 rfl rfl rfl ?_)
     refine Rl.op (OpY.ldBox1 (v := (Value.int .i64 x14.To)) Tryd.underlying3 rfl rfl (hL21.at 0 rfl rfl) rfl ?_)
     refine Rl.op (OpY.build (zc := [(Value.int .u8 0), (Value.int .u8 0), (Value.int .i64 0)]) (cs := [(Value.int .u8 x14.Low), (Value.int .u8 x14.High), (Value.int .i64 x14.To)]) (is := [0, 1, 2]) (vs := [(Value.int .u8 x14.Low), (Value.int .u8 x14.High), (Value.int .i64 x14.To)]) (css := [[(Value.int .u8 x14.Low)], [(Value.int .u8 x14.High)], [(Value.int .i64 x14.To)]]) pl57 ti57 rfl rfl rfl ⟨rfl, rfl, rfl, trivial⟩ rfl ?_)
     have hE14 : Els rAEdge (Hv w.heap.size None [some b14, some b6, some b11, ob10, ob12, ob14] w17) [(Value.int .u8 x14.Low), (Value.int .u8 x14.High), (Value.int .i64 x14.To)] [(AEdge.mk x14.Low x14.High x14.To)] := (Els.cons (a := [(Value.int .u8 x14.Low), (Value.int .u8 x14.High), (Value.int .i64 x14.To)]) (rAEdge_close ⟨rfl, trivial⟩) Els.nil)
     refine Rl.op (OpY.litRow (r := rAEdge) (vs := [(Value.agg #[(Value.int .u8 x14.Low), (Value.int .u8 x14.High), (Value.int .i64 x14.To)])]) (css := [[(Value.int .u8 x14.Low), (Value.int .u8 x14.High), (Value.int .i64 x14.To)]]) (xs := [(AEdge.mk x14.Low x14.High x14.To)]) Tryd.underlying58 ti57 (Nat.le_of_ble_eq_true rfl) rfl rfl ⟨rfl, rfl, trivial⟩ (Nat.le_of_ble_eq_true rfl) hE14 rfl hL21 ?_)
     intro b15 w18 hc15 hL22 hS17
     have K22 := ks w hS17
     obtain ⟨x15, q28, h⟩ := bind_some h
     obtain ⟨q29, q30, q31⟩ := apnd_some q28
     have f19 := (hE14.mono (K22 None))
     have f20 := (((hE13.mono (K20 None)).mono (K21 None)).mono (K22 None))
     refine Rl.op (OpY.apRowX (r := rAEdge) (H := (Hv w.heap.size None [some b15, some b14, some b6, some b11, ob10, ob12, ob14] w18)) (cs := cs14) (sp := sp14) (xs := m11) (ys := [(AEdge.mk x14.Low x14.High x14.To)]) (Y := x15) (n := (List.length m11)) (cap := cap14) (i := 6) Tryd.underlying58 ti57 rfl rfl rfl rfl hL22 rfl rfl f20 rfl hc13 (Src.row (pre := []) (o := 0) (n := 1) (cap := 1) (hL22.at 0 rfl rfl) f19 rfl rfl rfl) (Els.anyH (fun _ _ _ _ h => h) f19) q29 q30 q31 ?_)
     intro ob15 cap15 sp15 cs15 w19 hE15 hc16 (hL23 : Go.X.Loc [] [] w w19 [some b15, some b14, some b6, some b11, ob10, ob12, ob15] [Cont.cells ([] ++ ([(Value.int .u8 x14.Low), (Value.int .u8 x14.High), (Value.int .i64 x14.To)] ++ [])), Cont.cells [(Value.int .u8 x14.Low), (Value.int .u8 x14.High), (Value.int .i64 x14.To)], Cont.cells [(Value.slice none 0 0), (Value.slice none 0 0)], Cont.cells [(osv ob10 0 (List.length x10) cap10), (osv ob12 0 (List.length edges11) cap12)], Cont.cells ([] ++ (cs10 ++ sp10)), Cont.cells ([] ++ (cs12 ++ sp12)), Cont.cells ([] ++ (cs15 ++ sp15))]) hS18
     have K23 := ks w hS18
     refine Rl.op (OpY.assign (v := (osv ob15 0 (List.length x15) cap15)) rfl ?_)
     refine Rl.nil (Swp.pop_blk (Swp.region rfl (Rl.op (OpY.add (x := x13) (y := 1) (z := (iw (x13 + 1))) rfl rfl rfl ?_))))
     refine Rl.op (OpY.move (v := (Value.int .i64 (iw (x13 + 1)))) rfl ?_)
     refine Rl.nil ?_
     have hp14 := hL23.pick [2, 3, 4, 5, 6] rfl rfl rfl
     have hL24 : Go.X.Loc [] [] w w19 [some b6, some b11, ob10, ob12, ob15] [Cont.cells [(Value.slice none 0 0), (Value.slice none 0 0)], Cont.cells [(osv ob10 0 (List.length x10) cap10), (osv ob12 0 (List.length edges11) cap12)], Cont.cells ([] ++ (cs10 ++ sp10)), Cont.cells ([] ++ (cs12 ++ sp12)), Cont.cells ([] ++ (cs15 ++ sp15))] := hp14.1
     have K24 := ks w hp14.2
     have f21 := ((hE15.mono (K23 None)).mono (K24 None))
     obtain rfl := Option.some.inj h
     refine Swp.pop_back ⟨(x15, (iw (x13 + 1))), rfl, ?_⟩
     exact ⟨ob15, cap15, sp15, cs15, (List.length x15), _, (upds_sym ⟨rfl, rfl, rfl, rfl, rfl, rfl, rfl, rfl, rfl, trivial⟩), hL24, (Keep.trans (Keep.trans (Keep.trans (Keep.trans (Keep.trans K19 K20) K21) K22) K23) K24), f21, rfl, hc16, trivial⟩
    ·
     replace h := ite_f hc14 h
     refine Swp.exit rfl ?_
     obtain rfl := Option.some.inj h
     obtain rfl := hd11 _ rfl
     replace h := g11
     try dsimp only at h
     skip
     refine Swp.pop_back ?_
     exact ⟨m11, ob14, cap14, sp14, cs14, (List.length m11), _, rfl, (upds_sym ⟨rfl, rfl, rfl, rfl, rfl, rfl, trivial⟩), hL19, K19, hE13, rfl, hc13, trivial⟩
   ·
    rintro _ w20 ⟨m10, ob13, cap13, sp13, cs13, ln12, u, rfl, rfl, hL25, K25, hE16, rfl, hc17, -⟩
    replace h := g11
    try dsimp only at h
    refine Swp.region rfl (Rl.op (OpY.fieldAddr (q := 1) Tryd.underlying32 rfl ti30 rfl rfl rfl ?_))
    refine Rl.op (OpY.ldBox1 (v := (osv ob12 0 (List.length edges11) cap12)) Tryd.underlying30 rfl rfl (hL25.at 1 rfl rfl) rfl ?_)
    refine Rl.op (OpY.move (v := (osv ob13 0 (List.length m10) cap13)) rfl ?_)
    have f22 := hL25.freezeRow 4 rfl rfl hE16 rfl rfl rfl hc17
    have hp15 := hL25.pick [0, 1, 2, 3] rfl rfl rfl
    have hL26 : Go.X.Loc [] [] w w20 [some b6, some b11, ob10, ob12] [Cont.cells [(Value.slice none 0 0), (Value.slice none 0 0)], Cont.cells [(osv ob10 0 (List.length x10) cap10), (osv ob12 0 (List.length edges11) cap12)], Cont.cells ([] ++ (cs10 ++ sp10)), Cont.cells ([] ++ (cs12 ++ sp12))] := hp15.1
    have K26 := ks w hp15.2
    have hE17 : Els (rSl rAEdge) (Hv w.heap.size None [some b6, some b11, ob10, ob12] w20) [(osv ob13 0 (List.length m10) cap13)] [m10] := (Els.cons (a := [(osv ob13 0 (List.length m10) cap13)]) ⟨_, rfl, f22⟩ Els.nil)
    refine Rl.op (OpY.litRow (r := (rSl rAEdge)) (vs := [(osv ob13 0 (List.length m10) cap13)]) (css := [[(osv ob13 0 (List.length m10) cap13)]]) (xs := [m10]) Tryd.underlying30 ti58 (Nat.le_of_ble_eq_true rfl) rfl rfl ⟨(one_cells f22.one), rfl, trivial⟩ (Nat.le_of_ble_eq_true rfl) hE17 rfl hL26 ?_)
    intro b16 w21 hc18 hL27 hS19
    have K27 := ks w hS19
    obtain ⟨x16, q32, h⟩ := bind_some h
    obtain ⟨q33, q34, q35⟩ := apnd_some q32
    have f23 := (hE17.mono (K27 None))
    have f24 := (((hE12.mono (K25 None)).mono (K26 None)).mono (K27 None))
    refine Rl.op (OpY.apRowX (r := (rSl rAEdge)) (H := (Hv w.heap.size None [some b16, some b6, some b11, ob10, ob12] w21)) (cs := cs12) (sp := sp12) (xs := edges11) (ys := [m10]) (Y := x16) (n := (List.length edges11)) (cap := cap12) (i := 4) Tryd.underlying30 ti58 rfl rfl rfl rfl hL27 rfl rfl f24 rfl hc11 (Src.row (pre := []) (o := 0) (n := 1) (cap := 1) (hL27.at 0 rfl rfl) f23 rfl rfl rfl) f23 q33 q34 q35 ?_)
    intro ob16 cap16 sp16 cs16 w22 hE18 hc19 (hL28 : Go.X.Loc [] [] w w22 [some b16, some b6, some b11, ob10, ob16] [Cont.cells ([] ++ ([(osv ob13 0 (List.length m10) cap13)] ++ [])), Cont.cells [(Value.slice none 0 0), (Value.slice none 0 0)], Cont.cells [(osv ob10 0 (List.length x10) cap10), (osv ob12 0 (List.length edges11) cap12)], Cont.cells ([] ++ (cs10 ++ sp10)), Cont.cells ([] ++ (cs16 ++ sp16))]) hS20
    have K28 := ks w hS20
    refine Rl.op (OpY.fieldAddr (q := 1) Tryd.underlying32 rfl ti30 rfl rfl rfl ?_)
    refine Rl.op0 (OpY.store (vs := [(osv ob16 0 (List.length x16) cap16)]) ti30 rfl rfl (one_cells (osv_one ob16 0 (List.length x16) cap16)) rfl (ones_cons (osv_one ob16 0 (List.length x16) cap16) ones_nil) hL28 2 rfl rfl (Nat.le_of_ble_eq_true rfl) ?_)
    intro w23 (hL29 : Go.X.Loc [] [] w w23 [some b16, some b6, some b11, ob10, ob16] [Cont.cells ([] ++ ([(osv ob13 0 (List.length m10) cap13)] ++ [])), Cont.cells [(Value.slice none 0 0), (Value.slice none 0 0)], Cont.cells [(osv ob10 0 (List.length x10) cap10), (osv ob16 0 (List.length x16) cap16)], Cont.cells ([] ++ (cs10 ++ sp10)), Cont.cells ([] ++ (cs16 ++ sp16))]) hS21
    have K29 := ks w hS21
    refine Rl.nil (Swp.pop_blk (Swp.region rfl (Rl.op (OpY.add (x := x11) (y := 1) (z := (iw (x11 + 1))) rfl rfl rfl ?_))))
    refine Rl.op (OpY.move (v := (Value.int .i64 (iw (x11 + 1)))) rfl ?_)
    refine Rl.nil ?_
    have hp16 := hL29.pick [1, 2, 3, 4] rfl rfl rfl
    have hL30 : Go.X.Loc [] [] w w23 [some b6, some b11, ob10, ob16] [Cont.cells [(Value.slice none 0 0), (Value.slice none 0 0)], Cont.cells [(osv ob10 0 (List.length x10) cap10), (osv ob16 0 (List.length x16) cap16)], Cont.cells ([] ++ (cs10 ++ sp10)), Cont.cells ([] ++ (cs16 ++ sp16))] := hp16.1
    have K30 := ks w hp16.2
    have f25 := (((hE18.mono (K28 None)).mono (K29 None)).mono (K30 None))
    obtain rfl := Option.some.inj h
    refine Swp.pop_back ⟨(x16, (iw (x11 + 1))), rfl, ?_⟩
    exact ⟨ob16, cap16, sp16, cs16, (List.length x16), _, (upds_sym ⟨rfl, rfl, rfl, rfl, rfl, trivial⟩), hL30, (Keep.trans (Keep.trans (Keep.trans (Keep.trans (Keep.trans (Keep.trans K16 K25) K26) K27) K28) K29) K30), f25, rfl, hc19, trivial⟩
  ·
   replace h := ite_f hc12 h
   refine Swp.exit rfl ?_
   obtain rfl := Option.some.inj h
   obtain rfl := hd10 _ rfl
   replace h := g10
   try dsimp only at h
   skip
   refine Swp.pop_back ?_
   exact ⟨edges11, ob12, cap12, sp12, cs12, (List.length edges11), _, rfl, (upds_sym ⟨rfl, rfl, trivial⟩), hL16, K16, hE12, rfl, hc11, trivial⟩
 ·
  rintro _ w24 ⟨edges10, ob11, cap11, sp11, cs11, ln10, u, rfl, rfl, hL31, K31, hE19, rfl, hc20, -⟩
  replace h := g10
  try dsimp only at h
  refine Swp.seq (Swp.region rfl (Rl.op (OpY.ldBoxA (vs := [(osv ob10 0 (List.length x10) cap10), (osv ob11 0 (List.length edges10) cap11)]) Tryd.underlying32 rfl ti32 rfl (hL31.at 1 rfl rfl) rfl rfl ?_)))
  refine Rl.op0 (OpY.store (vs := [(osv ob10 0 (List.length x10) cap10), (osv ob11 0 (List.length edges10) cap11)]) ti32 rfl rfl rfl rfl (ones_cons (osv_one _ _ _ _) (ones_cons (osv_one _ _ _ _) ones_nil)) hL31 0 rfl rfl (Nat.le_of_ble_eq_true rfl) ?_)
  intro w25 (hL32 : Go.X.Loc [] [] w w25 [some b6, some b11, ob10, ob11] [Cont.cells [(osv ob10 0 (List.length x10) cap10), (osv ob11 0 (List.length edges10) cap11)], Cont.cells [(osv ob10 0 (List.length x10) cap10), (osv ob11 0 (List.length edges10) cap11)], Cont.cells ([] ++ (cs10 ++ sp10)), Cont.cells ([] ++ (cs11 ++ sp11))]) hS22
  have K32 := ks w hS22
  refine Rl.nil ?_
  have f26 := (((((hE11.mono (K11 None)).mono (K12 None)).mono (K13 None)).mono (K31 None)).mono (K32 None))
  have f27 := hL32.freezeRow 2 rfl rfl f26 rfl rfl rfl hc10
  have hp17 := hL32.pick [0, 1, 3] rfl rfl rfl
  have hL33 : Go.X.Loc [] [] w w25 [some b6, some b11, ob11] [Cont.cells [(osv ob10 0 (List.length x10) cap10), (osv ob11 0 (List.length edges10) cap11)], Cont.cells [(osv ob10 0 (List.length x10) cap10), (osv ob11 0 (List.length edges10) cap11)], Cont.cells ([] ++ (cs11 ++ sp11))] := hp17.1
  have K33 := ks w hp17.2
  have f28 := ((hE19.mono (K32 None)).mono (K33 None))
  have f29 := hL33.freezeRow 2 rfl rfl f28 rfl rfl rfl hc20
  have hp18 := hL33.pick [0, 1] rfl rfl rfl
  have hL34 : Go.X.Loc [] [] w w25 [some b6, some b11] [Cont.cells [(osv ob10 0 (List.length x10) cap10), (osv ob11 0 (List.length edges10) cap11)], Cont.cells [(osv ob10 0 (List.length x10) cap10), (osv ob11 0 (List.length edges10) cap11)]] := hp18.1
  have K34 := ks w hp18.2
  refine Swp.ret ?_
  obtain rfl := Option.some.inj h
  refine ⟨[(Value.agg #[(osv ob10 0 (List.length x10) cap10), (osv ob11 0 (List.length edges10) cap11)])], ⟨⟨⟨b6, 0, none⟩, rfl, res_boxA Tryd.underlying32 rfl ti32 (hL34.at 0 rfl rfl) rfl⟩, trivial⟩, ⟨_, rfl, hL34.done, ?_⟩⟩
  have f30 := (f27.mono (K34 None))
  exact ⟨(osv ob10 0 (List.length x10) cap10), (osv ob11 0 (List.length edges10) cap11), rfl, (f30.mono Hv.out), (f29.mono Hv.out), trivial⟩
theorem lexample_w (N : Nat)   (w : World) (S : Nat → Prop)  (r : ADfa) (h : lexample N  = some r) :
  Calls Tryd.prog 33 #[] w (Ret w (fun v w' => ∃ (v0_0 : Value) (v0_1 : Value), (Value.agg #[v0_0, v0_1]) = v ∧ Rs rBool (Hv w.heap.size None [] w') v0_0 r.Accept ∧ Rs (rSl rAEdge) (Hv w.heap.size None [] w') v0_1 r.Edges ∧ True)) := by
 unfold lexample at h
 have hL : Go.X.Loc [] [] w w [] [] := Go.X.Loc.begin0 w
 refine calls_of (l := []) (rl := [.cell 0 32]) (n := 8) Tryd.func33 rfl rfl rfl (Nat.le_of_ble_eq_true rfl) ?_
 refine Swp.seq (Swp.region rfl (Rl.op (OpY.alloc (cs := [(Value.slice none 0 0), (Value.slice none 0 0)]) ti32 rfl hL ?_)))
 intro b1 w2 hL3 hS5
 refine Rl.nil (Swp.seq (Swp.region rfl ?_))
 have hE7 : Els rBool (Hv w.heap.size None [some b1] w2) [(Value.bool false), (Value.bool false), (Value.bool true)] [false, false, true] := (Els.cons (a := [(Value.bool false)]) rfl (Els.cons (a := [(Value.bool false)]) rfl (Els.cons (a := [(Value.bool true)]) rfl Els.nil)))
 refine Rl.op (OpY.litRow (r := rBool) (vs := [(Value.bool false), (Value.bool false), (Value.bool true)]) (css := [[(Value.bool false)], [(Value.bool false)], [(Value.bool true)]]) (xs := [false, false, true]) Tryd.underlying22 ti4 (Nat.le_of_ble_eq_true rfl) rfl rfl ⟨rfl, rfl, ⟨rfl, rfl, ⟨rfl, rfl, trivial⟩⟩⟩ (Nat.le_of_ble_eq_true rfl) hE7 rfl hL3 ?_)
 intro b6 w10 hc8 hL10 hS10
 have K10 := ks w hS10
 refine Rl.op (OpY.build (zc := [(Value.int .u8 0), (Value.int .u8 0), (Value.int .i64 0)]) (cs := [(Value.int .u8 97), (Value.int .u8 99), (Value.int .i64 1)]) (is := [0, 1, 2]) (vs := [(Value.int .u8 97), (Value.int .u8 99), (Value.int .i64 1)]) (css := [[(Value.int .u8 97)], [(Value.int .u8 99)], [(Value.int .i64 1)]]) pl57 ti57 rfl rfl rfl ⟨rfl, rfl, rfl, trivial⟩ rfl ?_)
 have hE10 : Els rAEdge (Hv w.heap.size None [some b6, some b1] w10) [(Value.int .u8 97), (Value.int .u8 99), (Value.int .i64 1)] [(AEdge.mk 97 99 1)] := (Els.cons (a := [(Value.int .u8 97), (Value.int .u8 99), (Value.int .i64 1)]) (rAEdge_close ⟨rfl, trivial⟩) Els.nil)
 refine Rl.op (OpY.litRow (r := rAEdge) (vs := [(Value.agg #[(Value.int .u8 97), (Value.int .u8 99), (Value.int .i64 1)])]) (css := [[(Value.int .u8 97), (Value.int .u8 99), (Value.int .i64 1)]]) (xs := [(AEdge.mk 97 99 1)]) Tryd.underlying58 ti57 (Nat.le_of_ble_eq_true rfl) rfl rfl ⟨rfl, rfl, trivial⟩ (Nat.le_of_ble_eq_true rfl) hE10 rfl hL10 ?_)
 intro b10 w11 hc10 hL11 hS11
 have K11 := ks w hS11
 refine Rl.op (OpY.build (zc := [(Value.int .u8 0), (Value.int .u8 0), (Value.int .i64 0)]) (cs := [(Value.int .u8 100), (Value.int .u8 100), (Value.int .i64 2)]) (is := [0, 1, 2]) (vs := [(Value.int .u8 100), (Value.int .u8 100), (Value.int .i64 2)]) (css := [[(Value.int .u8 100)], [(Value.int .u8 100)], [(Value.int .i64 2)]]) pl57 ti57 rfl rfl rfl ⟨rfl, rfl, rfl, trivial⟩ rfl ?_)
 have hE11 : Els rAEdge (Hv w.heap.size None [some b10, some b6, some b1] w11) [(Value.int .u8 100), (Value.int .u8 100), (Value.int .i64 2)] [(AEdge.mk 100 100 2)] := (Els.cons (a := [(Value.int .u8 100), (Value.int .u8 100), (Value.int .i64 2)]) (rAEdge_close ⟨rfl, trivial⟩) Els.nil)
 refine Rl.op (OpY.litRow (r := rAEdge) (vs := [(Value.agg #[(Value.int .u8 100), (Value.int .u8 100), (Value.int .i64 2)])]) (css := [[(Value.int .u8 100), (Value.int .u8 100), (Value.int .i64 2)]]) (xs := [(AEdge.mk 100 100 2)]) Tryd.underlying58 ti57 (Nat.le_of_ble_eq_true rfl) rfl rfl ⟨rfl, rfl, trivial⟩ (Nat.le_of_ble_eq_true rfl) hE11 rfl hL11 ?_)
 intro b11 w12 hc11 hL12 hS12
 have K12 := ks w hS12
 have f10 := ((hE10.mono (K11 None)).mono (K12 None))
 have f11 := hL12.freezeRow 1 rfl rfl f10 rfl rfl rfl hc10
 have hp10 := hL12.pick [0, 2, 3] rfl rfl rfl
 have hL13 : Go.X.Loc [] [] w w12 [some b11, some b6, some b1] [Cont.cells ([] ++ ([(Value.int .u8 100), (Value.int .u8 100), (Value.int .i64 2)] ++ [])), Cont.cells ([] ++ ([(Value.bool false), (Value.bool false), (Value.bool true)] ++ [])), Cont.cells [(Value.slice none 0 0), (Value.slice none 0 0)]] := hp10.1
 have K13 := ks w hp10.2
 have f12 := ((hE11.mono (K12 None)).mono (K13 None))
 have f13 := hL13.freezeRow 0 rfl rfl f12 rfl rfl rfl hc11
 have hp11 := hL13.pick [1, 2] rfl rfl rfl
 have hL14 : Go.X.Loc [] [] w w12 [some b6, some b1] [Cont.cells ([] ++ ([(Value.bool false), (Value.bool false), (Value.bool true)] ++ [])), Cont.cells [(Value.slice none 0 0), (Value.slice none 0 0)]] := hp11.1
 have K14 := ks w hp11.2
 have f14 := (f11.mono (K14 None))
 have hE12 : Els (rSl rAEdge) (Hv w.heap.size None [some b6, some b1] w12) [(osv (some b10) 0 1 1), (osv (some b11) 0 1 1), (Value.slice none 0 0)] [[(AEdge.mk 97 99 1)], [(AEdge.mk 100 100 2)], []] := (Els.cons (a := [(osv (some b10) 0 1 1)]) ⟨_, rfl, f14⟩ (Els.cons (a := [(osv (some b11) 0 1 1)]) ⟨_, rfl, f13⟩ (Els.cons (a := [(Value.slice none 0 0)]) ⟨_, rfl, Rs.nil⟩ Els.nil)))
 refine Rl.op (OpY.litRow (r := (rSl rAEdge)) (vs := [(osv (some b10) 0 1 1), (osv (some b11) 0 1 1), (Value.slice none 0 0)]) (css := [[(osv (some b10) 0 1 1)], [(osv (some b11) 0 1 1)], [(Value.slice none 0 0)]]) (xs := [[(AEdge.mk 97 99 1)], [(AEdge.mk 100 100 2)], []]) Tryd.underlying30 ti58 (Nat.le_of_ble_eq_true rfl) rfl rfl ⟨(one_cells f14.one), rfl, ⟨(one_cells f13.one), rfl, ⟨rfl, rfl, trivial⟩⟩⟩ (Nat.le_of_ble_eq_true rfl) hE12 rfl hL14 ?_)
 intro b12 w13 hc12 hL15 hS13
 have K15 := ks w hS13
 refine Rl.op (OpY.build (zc := [(Value.slice none 0 0), (Value.slice none 0 0)]) (cs := [(osv (some b6) 0 3 3), (osv (some b12) 0 3 3)]) (is := [0, 1]) (vs := [(osv (some b6) 0 3 3), (osv (some b12) 0 3 3)]) (css := [[(osv (some b6) 0 3 3)], [(osv (some b12) 0 3 3)]]) pl32 ti32 rfl rfl rfl ⟨(one_cells (osv_one _ _ _ _)), ⟨(one_cells (osv_one _ _ _ _)), trivial⟩⟩ rfl ?_)
 refine Rl.op0 (OpY.store (vs := [(osv (some b6) 0 3 3), (osv (some b12) 0 3 3)]) ti32 rfl rfl rfl rfl (ones_cons (osv_one _ _ _ _) (ones_cons (osv_one _ _ _ _) ones_nil)) hL15 2 rfl rfl (Nat.le_of_ble_eq_true rfl) ?_)
 intro w14 (hL16 : Go.X.Loc [] [] w w14 [some b12, some b6, some b1] [Cont.cells ([] ++ ([(osv (some b10) 0 1 1), (osv (some b11) 0 1 1), (Value.slice none 0 0)] ++ [])), Cont.cells ([] ++ ([(Value.bool false), (Value.bool false), (Value.bool true)] ++ [])), Cont.cells [(osv (some b6) 0 3 3), (osv (some b12) 0 3 3)]]) hS14
 have K16 := ks w hS14
 refine Rl.nil ?_
 have f15 := (((((((hE7.mono (K10 None)).mono (K11 None)).mono (K12 None)).mono (K13 None)).mono (K14 None)).mono (K15 None)).mono (K16 None))
 have f16 := hL16.freezeRow 1 rfl rfl f15 rfl rfl rfl hc8
 have hp12 := hL16.pick [0, 2] rfl rfl rfl
 have hL17 : Go.X.Loc [] [] w w14 [some b12, some b1] [Cont.cells ([] ++ ([(osv (some b10) 0 1 1), (osv (some b11) 0 1 1), (Value.slice none 0 0)] ++ [])), Cont.cells [(osv (some b6) 0 3 3), (osv (some b12) 0 3 3)]] := hp12.1
 have K17 := ks w hp12.2
 have f17 := (((hE12.mono (K15 None)).mono (K16 None)).mono (K17 None))
 have f18 := hL17.freezeRow 0 rfl rfl f17 rfl rfl rfl hc12
 have hp13 := hL17.pick [1] rfl rfl rfl
 have hL18 : Go.X.Loc [] [] w w14 [some b1] [Cont.cells [(osv (some b6) 0 3 3), (osv (some b12) 0 3 3)]] := hp13.1
 have K18 := ks w hp13.2
 refine Swp.ret ?_
 obtain rfl := Option.some.inj h
 refine ⟨[(Value.agg #[(osv (some b6) 0 3 3), (osv (some b12) 0 3 3)])], ⟨⟨⟨b1, 0, none⟩, rfl, res_boxA Tryd.underlying32 rfl ti32 (hL18.at 0 rfl rfl) rfl⟩, trivial⟩, ⟨_, rfl, hL18.done, ?_⟩⟩
 have f19 := (f16.mono (K18 None))
 exact ⟨(osv (some b6) 0 3 3), (osv (some b12) 0 3 3), rfl, (f19.mono Hv.out), (f18.mono Hv.out), trivial⟩
theorem awake_w0 (N : Nat)   (w : World) (S : Nat → Prop) (hG : G w)  (r : Bool) (h : awake N  = some r) (hr : r = true) :
  Calls Tryd.prog 11 #[] w (Ret w (fun v w' => (Value.bool r) = v ∧ True)) := by
 unfold awake at h
 have hL : Go.X.Loc [] [] w w [] [] := Go.X.Loc.begin0 w
 refine calls_of (l := []) (rl := [.tmp 0]) (n := 79) Tryd.func11 rfl rfl rfl (Nat.le_of_ble_eq_true rfl) ?_
 refine Swp.seq (Swp.region rfl (Rl.op (OpY.assign (v := (Value.bool false)) rfl ?_)))
 refine Rl.nil (Swp.seq (Swp.region rfl ?_))
 obtain ⟨r1, q2, h⟩ := bind_some h
 refine Rl.op (OpY.call en33 rfl rfl (lexample_w N _ Any r1 q2) ?_)
 rintro _ w8 hE10 ⟨v3, v5, rfl, k4, k6, -⟩
 replace k4 := k4.mono (Hv.freshO (S := None) hL [])
 replace k6 := k6.mono (Hv.freshO (S := None) hL [])
 have hL9 := hL.ext hE10
 refine Rl.op (OpY.alloc (cs := [(Value.slice none 0 0), (Value.slice none 0 0)]) ti32 rfl hL9 ?_)
 intro b10 w10 hL10 hS10
 have K10 := ks w hS10
 have f10 := (k6.mono (K10 None))
 have f11 := (k4.mono (K10 None))
 refine Rl.op0 (OpY.store (vs := [v3, v5]) ti32 rfl rfl rfl rfl (ones_cons f11.one (ones_cons f10.one ones_nil)) hL10 0 rfl rfl (Nat.le_of_ble_eq_true rfl) ?_)
 intro w11 (hL11 : Go.X.Loc [] [] w w11 [some b10] [Cont.cells [v3, v5]]) hS11
 have K11 := ks w hS11
 refine Rl.nil (Swp.seq (Swp.region rfl (Rl.op (OpY.ldBoxA (vs := [v3, v5]) Tryd.underlying32 rfl ti32 rfl (hL11.at 0 rfl rfl) rfl rfl ?_))))
 obtain ⟨r10, q10, h⟩ := bind_some h
 have f12 := (f11.mono (K11 None))
 have f13 := (f10.mono (K11 None))
 refine Rl.op (OpY.call en13 rfl rfl (aShortest_w N r1 v3 v5 _ Any (f12.mono vw_any) (f13.mono vw_any) r10 q10) ?_)
 rintro _ w12 hE11 ⟨rfl, -⟩
 have hL12 := hL11.ext hE11
 have K12 := ke hL11 hE11
 refine Rl.op (OpY.move (v := (Value.tuple #[(Value.string (s8 r10.1)), (Value.bool r10.2)])) rfl ?_)
 refine Rl.op (OpY.extract (vs := [(Value.string (s8 r10.1)), (Value.bool r10.2)]) (v := (Value.string (s8 r10.1))) rfl rfl ?_)
 refine Rl.op (OpY.extract (vs := [(Value.string (s8 r10.1)), (Value.bool r10.2)]) (v := (Value.bool r10.2)) rfl rfl ?_)
 refine Rl.op (OpY.assign (v := (Value.string (s8 r10.1))) rfl ?_)
 refine Rl.op (OpY.assign (v := (Value.bool r10.2)) rfl ?_)
 refine Rl.nil (Swp.seq (Swp.region rfl (Rl.op (OpY.ldBoxA (vs := [v3, v5]) Tryd.underlying32 rfl ti32 rfl (hL12.at 0 rfl rfl) rfl rfl ?_))))
 obtain ⟨r11, q11, h⟩ := bind_some h
 have f14 := (f12.mono (K12 None))
 have f15 := (f13.mono (K12 None))
 refine Rl.op (OpY.call en16 rfl rfl (aWords_w N r1 2 2 v3 v5 _ Any (f14.mono vw_any) (f15.mono vw_any) r11 q11) ?_)
 rintro _ w13 hE12 ⟨ob10, cap10, cs10, sp10, rfl, hN10, hE13, hc10, -⟩
 replace hE13 := hE13.mono (Hv.freshO (S := None) hL12 [ob10])
 have hp10 := hL12.adoptL hE12 hN10
 have hL13 := hp10.1
 have K13 := ks w hp10.2
 refine Rl.op (OpY.assign (v := (osv ob10 0 (List.length r11) cap10)) rfl ?_)
 refine Rl.nil (Swp.seq (Swp.region rfl ?_))
 have hE14 : Els rBool (Hv w.heap.size None [ob10, some b10] w13) [(Value.bool false), (Value.bool false)] [false, false] := (Els.cons (a := [(Value.bool false)]) rfl (Els.cons (a := [(Value.bool false)]) rfl Els.nil))
 refine Rl.op (OpY.litRow (r := rBool) (vs := [(Value.bool false), (Value.bool false)]) (css := [[(Value.bool false)], [(Value.bool false)]]) (xs := [false, false]) Tryd.underlying22 ti4 (Nat.le_of_ble_eq_true rfl) rfl rfl ⟨rfl, rfl, ⟨rfl, rfl, trivial⟩⟩ (Nat.le_of_ble_eq_true rfl) hE14 rfl hL13 ?_)
 intro b11 w14 hc11 hL14 hS12
 have K14 := ks w hS12
 refine Rl.op (OpY.build (zc := [(Value.int .u8 0), (Value.int .u8 0), (Value.int .i64 0)]) (cs := [(Value.int .u8 97), (Value.int .u8 122), (Value.int .i64 1)]) (is := [0, 1, 2]) (vs := [(Value.int .u8 97), (Value.int .u8 122), (Value.int .i64 1)]) (css := [[(Value.int .u8 97)], [(Value.int .u8 122)], [(Value.int .i64 1)]]) pl57 ti57 rfl rfl rfl ⟨rfl, rfl, rfl, trivial⟩ rfl ?_)
 have hE15 : Els rAEdge (Hv w.heap.size None [some b11, ob10, some b10] w14) [(Value.int .u8 97), (Value.int .u8 122), (Value.int .i64 1)] [(AEdge.mk 97 122 1)] := (Els.cons (a := [(Value.int .u8 97), (Value.int .u8 122), (Value.int .i64 1)]) (rAEdge_close ⟨rfl, trivial⟩) Els.nil)
 refine Rl.op (OpY.litRow (r := rAEdge) (vs := [(Value.agg #[(Value.int .u8 97), (Value.int .u8 122), (Value.int .i64 1)])]) (css := [[(Value.int .u8 97), (Value.int .u8 122), (Value.int .i64 1)]]) (xs := [(AEdge.mk 97 122 1)]) Tryd.underlying58 ti57 (Nat.le_of_ble_eq_true rfl) rfl rfl ⟨rfl, rfl, trivial⟩ (Nat.le_of_ble_eq_true rfl) hE15 rfl hL14 ?_)
 intro b12 w15 hc12 hL15 hS13
 have K15 := ks w hS13
 have f16 := (hE15.mono (K15 None))
 have f17 := hL15.freezeRow 0 rfl rfl f16 rfl rfl rfl hc12
 have hp11 := hL15.pick [1, 2, 3] rfl rfl rfl
 have hL16 : Go.X.Loc [] [] w w15 [some b11, ob10, some b10] [Cont.cells ([] ++ ([(Value.bool false), (Value.bool false)] ++ [])), Cont.cells ([] ++ (cs10 ++ sp10)), Cont.cells [v3, v5]] := hp11.1
 have K16 := ks w hp11.2
 have hE16 : Els (rSl rAEdge) (Hv w.heap.size None [some b11, ob10, some b10] w15) [(osv (some b12) 0 1 1), (Value.slice none 0 0)] [[(AEdge.mk 97 122 1)], []] := (Els.cons (a := [(osv (some b12) 0 1 1)]) ⟨_, rfl, f17⟩ (Els.cons (a := [(Value.slice none 0 0)]) ⟨_, rfl, Rs.nil⟩ Els.nil))
 refine Rl.op (OpY.litRow (r := (rSl rAEdge)) (vs := [(osv (some b12) 0 1 1), (Value.slice none 0 0)]) (css := [[(osv (some b12) 0 1 1)], [(Value.slice none 0 0)]]) (xs := [[(AEdge.mk 97 122 1)], []]) Tryd.underlying30 ti58 (Nat.le_of_ble_eq_true rfl) rfl rfl ⟨(one_cells f17.one), rfl, ⟨rfl, rfl, trivial⟩⟩ (Nat.le_of_ble_eq_true rfl) hE16 rfl hL16 ?_)
 intro b13 w16 hc13 hL17 hS14
 have K17 := ks w hS14
 refine Rl.op (OpY.build (zc := [(Value.slice none 0 0), (Value.slice none 0 0)]) (cs := [(osv (some b11) 0 2 2), (osv (some b13) 0 2 2)]) (is := [0, 1]) (vs := [(osv (some b11) 0 2 2), (osv (some b13) 0 2 2)]) (css := [[(osv (some b11) 0 2 2)], [(osv (some b13) 0 2 2)]]) pl32 ti32 rfl rfl rfl ⟨(one_cells (osv_one (some b11) 0 2 2)), ⟨(one_cells (osv_one (some b13) 0 2 2)), trivial⟩⟩ rfl ?_)
 obtain ⟨r12, q12, h⟩ := bind_some h
 have f18 := ((((hE14.mono (K14 None)).mono (K15 None)).mono (K16 None)).mono (K17 None))
 have f19 := (hE16.mono (K17 None))
 refine Rl.op (OpY.call en22 rfl rfl (aMinimize_w N (ADfa.mk [false, false] [[(AEdge.mk 97 122 1)], []]) (osv (some b11) 0 2 2) (osv (some b13) 0 2 2) _ Any (hG.ext hL17.done) (own_row_any (pre := []) (o := 0) (n := 2) (cap := 2) (hL17.at 1 rfl rfl) f18 vw_any rfl rfl rfl hc11) (own_row_any (pre := []) (o := 0) (n := 2) (cap := 2) (hL17.at 0 rfl rfl) f19 vw_any rfl rfl rfl hc13) r12 q12) ?_)
 rintro _ w17 hE17 ⟨v10, v11, rfl, k10, k11, -⟩
 replace k10 := k10.mono (Hv.freshO (S := None) hL17 [])
 replace k11 := k11.mono (Hv.freshO (S := None) hL17 [])
 have hL18 := hL17.ext hE17
 have K18 := ke hL17 hE17
 refine Rl.op (OpY.move (v := (Value.tuple #[(Value.agg #[v10, v11]), (Value.int .i64 r12.2)])) rfl ?_)
 refine Rl.op (OpY.extract (vs := [(Value.agg #[v10, v11]), (Value.int .i64 r12.2)]) (v := (Value.agg #[v10, v11])) rfl rfl ?_)
 refine Rl.op (OpY.extract (vs := [(Value.agg #[v10, v11]), (Value.int .i64 r12.2)]) (v := (Value.int .i64 r12.2)) rfl rfl ?_)
 refine Rl.op (OpY.alloc (cs := [(Value.slice none 0 0), (Value.slice none 0 0)]) ti32 rfl hL18 ?_)
 intro b14 w18 hL19 hS15
 have K19 := ks w hS15
 have f20 := (k11.mono (K19 None))
 have f21 := (k10.mono (K19 None))
 refine Rl.op0 (OpY.store (vs := [v10, v11]) ti32 rfl rfl rfl rfl (ones_cons f21.one (ones_cons f20.one ones_nil)) hL19 0 rfl rfl (Nat.le_of_ble_eq_true rfl) ?_)
 intro w19 (hL20 : Go.X.Loc [] [] w w19 [some b14, some b13, some b11, ob10, some b10] [Cont.cells [v10, v11], Cont.cells ([] ++ ([(osv (some b12) 0 1 1), (Value.slice none 0 0)] ++ [])), Cont.cells ([] ++ ([(Value.bool false), (Value.bool false)] ++ [])), Cont.cells ([] ++ (cs10 ++ sp10)), Cont.cells [v3, v5]]) hS16
 have K20 := ks w hS16
 refine Rl.op (OpY.assign (v := (Value.int .i64 r12.2)) rfl ?_)
 refine Rl.nil (Swp.seq (Swp.region rfl (Rl.op (OpY.move (v := (Value.string (s8 r10.1))) rfl ?_))))
 refine Rl.op (OpY.sEql (x := r10.1) (y := ([97, 100] : List UInt8)) rfl rfl ?_)
 refine Rl.op (OpY.move (v := (Value.bool (decide (r10.1 = ([97, 100] : List UInt8))))) rfl ?_)
 by_cases hc14 : r10.1 = ([97, 100] : List UInt8)
 ·
  replace h := ite_t hc14 h
  refine Rl.yes rfl rfl (decide_eq_true hc14) (OpY.move (v := (Value.bool r10.2)) rfl ?_)
  refine Rl.op (OpY.pick_t (t := (decide (r10.1 = ([97, 100] : List UInt8)))) (v := (Value.bool r10.2)) rfl (decide_eq_true hc14) rfl ?_)
  refine Rl.op (OpY.move (v := (Value.bool r10.2)) rfl ?_)
  by_cases hc15 : r10.2 = true
  ·
   replace h := ite_t hc15 h
   refine Rl.yes rfl rfl hc15 (OpY.move (v := (osv ob10 0 (List.length r11) cap10)) rfl ?_)
   have f22 := (((((((hE13.mono (K14 None)).mono (K15 None)).mono (K16 None)).mono (K17 None)).mono (K18 None)).mono (K19 None)).mono (K20 None))
   refine Rl.yes rfl rfl hc15 (OpY.lenRow (pre := []) (r := rStr) (xs := r11) Tryd.underlying35 rfl (hL20.at 3 rfl rfl) f22 rfl rfl ?_)
   refine Rl.yes rfl rfl hc15 (OpY.eql (x := (List.length r11 : Int)) (y := 2) (((List.length r11 : Int) : Int) = 2) rfl rfl Iff.rfl ?_)
   refine Rl.op (OpY.pick_t (t := r10.2) (v := (Value.bool (decide (((List.length r11 : Int) : Int) = 2)))) rfl hc15 rfl ?_)
   refine Rl.op (OpY.move (v := (Value.bool (decide (((List.length r11 : Int) : Int) = 2)))) rfl ?_)
   by_cases hc16 : ((List.length r11 : Int) : Int) = 2
   ·
    replace h := ite_t hc16 h
    refine Rl.yes rfl rfl (decide_eq_true hc16) (OpY.move (v := (osv ob10 0 (List.length r11) cap10)) rfl ?_)
    obtain ⟨x10, q13, h⟩ := bind_some h
    obtain ⟨n10, q14, q15⟩ := idx_some q13
    have q16 := (List.getElem?_eq_some_iff.1 q15).1
    obtain ⟨b15, hb10⟩ := hL20.row_some 3 rfl rfl (row_pos (pre := []) f22 q15 (Nat.lt_of_sub_eq_succ rfl))
    refine Rl.yes rfl rfl (decide_eq_true hc16) (OpY.ixRowD (r := rStr) (b := b15) (o := 0) (n := n10) (m := (List.length r11)) (xs := r11) (q := (0 + n10 * rStr.sz)) Tryd.underlying35 ti9 (osv_some hb10) rfl rfl q14 q16 rfl ?_)
    obtain ⟨vs10, q17, q18, q19⟩ := row_elem (pre := []) (sp := sp10) f22 q15
    obtain rfl := q18
    refine Rl.yes rfl rfl (decide_eq_true hc16) (OpY.ldElem1 (v := (Value.string (s8 x10))) Tryd.underlying9 rfl rfl (own_some hb10 (hL20.at 3 rfl rfl)) q19 ?_)
    refine Rl.yes rfl rfl (decide_eq_true hc16) (OpY.sEql (x := x10) (y := ([97, 100] : List UInt8)) rfl rfl ?_)
    refine Rl.op (OpY.pick_t (t := (decide (((List.length r11 : Int) : Int) = 2))) (v := (Value.bool (decide (x10 = ([97, 100] : List UInt8))))) rfl (decide_eq_true hc16) rfl ?_)
    refine Rl.op (OpY.move (v := (Value.bool (decide (x10 = ([97, 100] : List UInt8))))) rfl ?_)
    by_cases hc17 : x10 = ([97, 100] : List UInt8)
    ·
     replace h := ite_t hc17 h
     refine Rl.yes rfl rfl (decide_eq_true hc17) (OpY.move (v := (osv ob10 0 (List.length r11) cap10)) rfl ?_)
     obtain ⟨x11, q20, h⟩ := bind_some h
     obtain ⟨n11, q21, q22⟩ := idx_some q20
     have q23 := (List.getElem?_eq_some_iff.1 q22).1
     refine Rl.yes rfl rfl (decide_eq_true hc17) (OpY.ixRowD (r := rStr) (b := b15) (o := 0) (n := n11) (m := (List.length r11)) (xs := r11) (q := (0 + n11 * rStr.sz)) Tryd.underlying35 ti9 (osv_some hb10) rfl rfl q21 q23 rfl ?_)
     obtain ⟨vs11, q24, q25, q26⟩ := row_elem (pre := []) (sp := sp10) f22 q22
     obtain rfl := q25
     refine Rl.yes rfl rfl (decide_eq_true hc17) (OpY.ldElem1 (v := (Value.string (s8 x11))) Tryd.underlying9 rfl rfl (own_some hb10 (hL20.at 3 rfl rfl)) q26 ?_)
     refine Rl.yes rfl rfl (decide_eq_true hc17) (OpY.sEql (x := x11) (y := ([98, 100] : List UInt8)) rfl rfl ?_)
     refine Rl.op (OpY.pick_t (t := (decide (x10 = ([97, 100] : List UInt8)))) (v := (Value.bool (decide (x11 = ([98, 100] : List UInt8))))) rfl (decide_eq_true hc17) rfl ?_)
     refine Rl.op (OpY.move (v := (Value.bool (decide (x11 = ([98, 100] : List UInt8))))) rfl ?_)
     by_cases hc18 : x11 = ([98, 100] : List UInt8)
     ·
      replace h := ite_t hc18 h
      refine Rl.yes rfl rfl (decide_eq_true hc18) (OpY.move (v := (Value.int .i64 r12.2)) rfl ?_)
      refine Rl.yes rfl rfl (decide_eq_true hc18) (OpY.eql (x := r12.2) (y := 0) ((r12.2 : Int) = 0) rfl rfl Iff.rfl ?_)
      refine Rl.op (OpY.pick_t (t := (decide (x11 = ([98, 100] : List UInt8)))) (v := (Value.bool (decide ((r12.2 : Int) = 0)))) rfl (decide_eq_true hc18) rfl ?_)
      refine Rl.op (OpY.move (v := (Value.bool (decide ((r12.2 : Int) = 0)))) rfl ?_)
      by_cases hc19 : (r12.2 : Int) = 0
      ·
       replace h := ite_t hc19 h
       refine Rl.yes rfl rfl (decide_eq_true hc19) (OpY.fieldAddr (q := 0) Tryd.underlying32 rfl ti22 rfl rfl rfl ?_)
       refine Rl.yes rfl rfl (decide_eq_true hc19) (OpY.ldBox1 (v := v10) Tryd.underlying22 rfl rfl (hL20.at 0 rfl rfl) rfl ?_)
       have f23 := (f21.mono (K20 None))
       refine Rl.yes rfl rfl (decide_eq_true hc19) (OpY.lenRo (v := v10) Tryd.underlying22 rfl f23 ?_)
       refine Rl.yes rfl rfl (decide_eq_true hc19) (OpY.eql (x := (List.length r12.1.Accept : Int)) (y := 1) (((List.length r12.1.Accept : Int) : Int) = 1) rfl rfl Iff.rfl ?_)
       refine Rl.op (OpY.pick_t (t := (decide ((r12.2 : Int) = 0))) (v := (Value.bool (decide (((List.length r12.1.Accept : Int) : Int) = 1)))) rfl (decide_eq_true hc19) rfl ?_)
       refine Rl.op (OpY.move (v := (Value.bool (decide (((List.length r12.1.Accept : Int) : Int) = 1)))) rfl ?_)
       by_cases hc20 : ((List.length r12.1.Accept : Int) : Int) = 1
       ·
        replace h := ite_t hc20 h
        refine Rl.yes rfl rfl (decide_eq_true hc20) (OpY.fieldAddr (q := 1) Tryd.underlying32 rfl ti30 rfl rfl rfl ?_)
        refine Rl.yes rfl rfl (decide_eq_true hc20) (OpY.ldBox1 (v := v11) Tryd.underlying30 rfl rfl (hL20.at 0 rfl rfl) rfl ?_)
        have f24 := (f20.mono (K20 None))
        refine Rl.yes rfl rfl (decide_eq_true hc20) (OpY.lenRo (v := v11) Tryd.underlying30 rfl f24 ?_)
        refine Rl.yes rfl rfl (decide_eq_true hc20) (OpY.eql (x := (List.length r12.1.Edges : Int)) (y := 1) (((List.length r12.1.Edges : Int) : Int) = 1) rfl rfl Iff.rfl ?_)
        refine Rl.op (OpY.pick_t (t := (decide (((List.length r12.1.Accept : Int) : Int) = 1))) (v := (Value.bool (decide (((List.length r12.1.Edges : Int) : Int) = 1)))) rfl (decide_eq_true hc20) rfl ?_)
        refine Rl.op (OpY.move (v := (Value.bool (decide (((List.length r12.1.Edges : Int) : Int) = 1)))) rfl ?_)
        by_cases hc21 : ((List.length r12.1.Edges : Int) : Int) = 1
        ·
         replace h := ite_t hc21 h
         refine Rl.yes rfl rfl (decide_eq_true hc21) (OpY.fieldAddr (q := 1) Tryd.underlying32 rfl ti30 rfl rfl rfl ?_)
         refine Rl.yes rfl rfl (decide_eq_true hc21) (OpY.ldBox1 (v := v11) Tryd.underlying30 rfl rfl (hL20.at 0 rfl rfl) rfl ?_)
         obtain ⟨x12, q27, h⟩ := bind_some h
         obtain ⟨n12, q28, q29⟩ := idx_some q27
         obtain ⟨b16, o10, c10, vs12, q30, q31, f25, q32⟩ := Rs.get f24 q29
         obtain ⟨v12, rfl, k12⟩ := q32
         refine Rl.yes rfl rfl (decide_eq_true hc21) (OpY.ixRoD (r := (rSl rAEdge)) (v := v11) (n := n12) (m := (o10 + n12 * (rSl rAEdge).sz)) Tryd.underlying30 ti58 rfl q30 rfl q28 q29 rfl ?_)
         refine Rl.yes rfl rfl (decide_eq_true hc21) (OpY.ldRo1 (v := v12) Tryd.underlying58 rfl rfl vw_view f25 ?_)
         refine Rl.yes rfl rfl (decide_eq_true hc21) (OpY.lenRo (v := v12) Tryd.underlying58 rfl k12 ?_)
         refine Rl.yes rfl rfl (decide_eq_true hc21) (OpY.eql (x := (List.length x12 : Int)) (y := 0) (((List.length x12 : Int) : Int) = 0) rfl rfl Iff.rfl ?_)
         refine Rl.op (OpY.pick_t (t := (decide (((List.length r12.1.Edges : Int) : Int) = 1))) (v := (Value.bool (decide (((List.length x12 : Int) : Int) = 0)))) rfl (decide_eq_true hc21) rfl ?_)
         refine Rl.op (OpY.move (v := (Value.bool (decide (((List.length x12 : Int) : Int) = 0)))) rfl ?_)
         by_cases hc22 : ((List.length x12 : Int) : Int) = 0
         ·
          replace h := ite_t hc22 h
          refine Rl.yes rfl rfl (decide_eq_true hc22) (OpY.ldBoxA (vs := [v3, v5]) Tryd.underlying32 rfl ti32 rfl (hL20.at 4 rfl rfl) rfl rfl ?_)
          obtain ⟨r13, q33, h⟩ := bind_some h
          have f26 := ((((((((f14.mono (K13 None)).mono (K14 None)).mono (K15 None)).mono (K16 None)).mono (K17 None)).mono (K18 None)).mono (K19 None)).mono (K20 None))
          have f27 := ((((((((f15.mono (K13 None)).mono (K14 None)).mono (K15 None)).mono (K16 None)).mono (K17 None)).mono (K18 None)).mono (K19 None)).mono (K20 None))
          refine Rl.yes rfl rfl (decide_eq_true hc22) (OpY.call en20 rfl rfl (aAccepts_w N r1 ([99, 100] : List UInt8) v3 v5 _ Any (f26.mono vw_any) (f27.mono vw_any) r13 q33) ?_)
          rintro _ w20 hE18 ⟨rfl, -⟩
          have hL21 := hL20.ext hE18
          have K21 := ke hL20 hE18
          refine Rl.op (OpY.pick_t (t := (decide (((List.length x12 : Int) : Int) = 0))) (v := (Value.bool r13)) rfl (decide_eq_true hc22) rfl ?_)
          refine Rl.op (OpY.move (v := (Value.bool r13)) rfl ?_)
          by_cases hc23 : r13 = true
          ·
           replace h := ite_t hc23 h
           refine Rl.yes rfl rfl hc23 (OpY.ldBoxA (vs := [v3, v5]) Tryd.underlying32 rfl ti32 rfl (hL21.at 4 rfl rfl) rfl rfl ?_)
           obtain ⟨r14, q34, h⟩ := bind_some h
           have f28 := (f26.mono (K21 None))
           have f29 := (f27.mono (K21 None))
           refine Rl.yes rfl rfl hc23 (OpY.call en20 rfl rfl (aAccepts_w N r1 ([100, 100] : List UInt8) v3 v5 _ Any (f28.mono vw_any) (f29.mono vw_any) r14 q34) ?_)
           rintro _ w21 hE19 ⟨rfl, -⟩
           have hL22 := hL21.ext hE19
           refine Rl.yes rfl rfl hc23 (OpY.not (x := r14) rfl ?_)
           refine Rl.op (OpY.pick_t (t := r13) (v := (Value.bool (!r14))) rfl hc23 rfl ?_)
           refine Rl.op (OpY.assign (v := (Value.bool (!r14))) rfl ?_)
           refine Rl.nil (Swp.ret ?_)
           obtain rfl := Option.some.inj h
           refine ⟨[(Value.bool (!r14))], ⟨rfl, trivial⟩, ⟨_, rfl, hL22.done, ?_⟩⟩
           exact ⟨rfl, trivial⟩
          ·
           exact absurd ((Option.some.inj (ite_f hc23 h)).trans hr) Bool.false_ne_true
         ·
          exact absurd ((Option.some.inj (ite_f hc22 h)).trans hr) Bool.false_ne_true
        ·
         exact absurd ((Option.some.inj (ite_f hc21 h)).trans hr) Bool.false_ne_true
       ·
        exact absurd ((Option.some.inj (ite_f hc20 h)).trans hr) Bool.false_ne_true
      ·
       exact absurd ((Option.some.inj (ite_f hc19 h)).trans hr) Bool.false_ne_true
     ·
      exact absurd ((Option.some.inj (ite_f hc18 h)).trans hr) Bool.false_ne_true
    ·
     exact absurd ((Option.some.inj (ite_f hc17 h)).trans hr) Bool.false_ne_true
   ·
    exact absurd ((Option.some.inj (ite_f hc16 h)).trans hr) Bool.false_ne_true
  ·
   exact absurd ((Option.some.inj (ite_f hc15 h)).trans hr) Bool.false_ne_true
 ·
  exact absurd ((Option.some.inj (ite_f hc14 h)).trans hr) Bool.false_ne_true
theorem awake_w (N : Nat) (w : World) (S : Nat → Prop) (hG : G w) (r : Bool) (h : awake N = some r) :
  Calls Tryd.prog 11 #[] w (Ret w (fun v w' => (Value.bool r) = v ∧ True)) := awake_w0 N w S hG r h (awake_true h)
theorem lawEquivalent_w (N : Nat) (a : ADfa) (b : ADfa) (a_v : Value) (a_v1 : Value) (b_v : Value) (b_v1 : Value) (w : World) (S : Nat → Prop) (hG : G w) (a_h : Rs rBool (Hv w.heap.size S [] w) a_v a.Accept) (a_h1 : Rs (rSl rAEdge) (Hv w.heap.size S [] w) a_v1 a.Edges) (b_h : Rs rBool (Hv w.heap.size S [] w) b_v b.Accept) (b_h1 : Rs (rSl rAEdge) (Hv w.heap.size S [] w) b_v1 b.Edges) (r : Bool) (h : lawEquivalent N a b = some r) :
  Calls Tryd.prog 6 #[(Value.agg #[a_v, a_v1]), (Value.agg #[b_v, b_v1])] w (Ret w (fun v w' => (Value.bool r) = v ∧ True)) := by
 unfold lawEquivalent at h
 have hL : Go.X.Loc [] [] w w [] [] := Go.X.Loc.begin0 w
 refine calls_of (l := [(Value.agg #[a_v, a_v1]), (Value.agg #[b_v, b_v1])]) (rl := [.tmp 4]) (n := 107) Tryd.func6 rfl rfl rfl (Nat.le_of_ble_eq_true rfl) ?_
 refine Swp.seq (Swp.region rfl (Rl.op (OpY.box (cs := [a_v, a_v1]) rfl rfl hL ?_)))
 intro b1 w2 hL3 hS5
 have K4 := ks w hS5
 refine Rl.op (OpY.box (cs := [b_v, b_v1]) rfl rfl hL3 ?_)
 intro b6 w7 hL8 hS10
 have K9 := ks w hS10
 refine Rl.op (OpY.assign (v := (Value.bool false)) rfl ?_)
 refine Rl.nil (Swp.seq (Swp.seq ?_))
 obtain ⟨s10, h, g10⟩ := bind_some h
 refine Swp.join (fun e w' => ∃ (x10 : Bool) (u : Env), x10 = s10 ∧ e = upds [(2, (Value.pointer (some ⟨b1, 0, none⟩))), (3, (Value.pointer (some ⟨b6, 0, none⟩))), (25, (Value.bool x10))] u ∧ Go.X.Loc [] [] w w' [some b1, some b6] [Cont.cells [a_v, a_v1], Cont.cells [b_v, b_v1]] ∧ Keep w.heap.size [some b6, some b1] w7 [some b1, some b6] w' ∧ True) ?_ ?_
 ·
  refine Swp.region rfl ?_
  obtain ⟨r10, q10, h⟩ := bind_some h
  refine Rl.op (OpY.call en11 rfl rfl (awake_w N _ Any (hG.ext hL8.done) r10 q10) ?_)
  rintro _ w10 hE10 ⟨rfl, -⟩
  have hL10 := hL8.ext hE10
  have K10 := ke hL8 hE10
  refine Rl.op (OpY.not (x := r10) rfl ?_)
  refine Rl.op (OpY.move (v := (Value.bool (!r10))) rfl ?_)
  by_cases hc10 : (!r10) = true
  ·
   replace h := ite_t hc10 h
   refine Rl.no rfl rfl hc10 ?_
   refine Rl.no rfl rfl hc10 ?_
   refine Rl.no rfl rfl hc10 ?_
   refine Rl.op (OpY.pick_t (t := (!r10)) (v := (Value.bool true)) rfl hc10 rfl ?_)
   refine Rl.op (OpY.move (v := (Value.bool true)) rfl ?_)
   refine Rl.no rfl rfl rfl ?_
   refine Rl.no rfl rfl rfl ?_
   refine Rl.no rfl rfl rfl ?_
   refine Rl.op (OpY.pick_t (t := true) (v := (Value.bool true)) rfl rfl rfl ?_)
   refine Rl.nil ?_
   have hp10 := hL10.pick [1, 0] rfl rfl rfl
   have hL11 : Go.X.Loc [] [] w w10 [some b1, some b6] [Cont.cells [a_v, a_v1], Cont.cells [b_v, b_v1]] := hp10.1
   have K11 := ks w hp10.2
   obtain rfl := Option.some.inj h
   refine Swp.pop_back ?_
   exact ⟨true, _, rfl, (upds_sym ⟨rfl, rfl, rfl, trivial⟩), hL11, (Keep.trans K10 K11), trivial⟩
  ·
   replace h := ite_f hc10 h
   refine Rl.yes rfl rfl (eq_false_of_ne_true hc10) (OpY.ldBoxA (vs := [a_v, a_v1]) Tryd.underlying25 rfl ti25 rfl (hL10.at 1 rfl rfl) rfl rfl ?_)
   obtain ⟨r11, q11, h⟩ := bind_some h
   have f10 := (((a_h.mono (K4 S)).mono (K9 S)).mono (K10 S))
   have f11 := (((a_h1.mono (K4 S)).mono (K9 S)).mono (K10 S))
   refine Rl.yes rfl rfl (eq_false_of_ne_true hc10) (OpY.call en12 rfl rfl (rFew_w N a a_v a_v1 _ Any (f10.mono vw_any) (f11.mono vw_any) r11 q11) ?_)
   rintro _ w11 hE11 ⟨rfl, -⟩
   have hL12 := hL10.ext hE11
   have K12 := ke hL10 hE11
   refine Rl.yes rfl rfl (eq_false_of_ne_true hc10) (OpY.not (x := r11) rfl ?_)
   refine Rl.op (OpY.pick_f (t := (!r10)) (v := (Value.bool (!r11))) rfl (eq_false_of_ne_true hc10) rfl ?_)
   refine Rl.op (OpY.move (v := (Value.bool (!r11))) rfl ?_)
   by_cases hc11 : (!r11) = true
   ·
    replace h := ite_t hc11 h
    refine Rl.no rfl rfl hc11 ?_
    refine Rl.no rfl rfl hc11 ?_
    refine Rl.no rfl rfl hc11 ?_
    refine Rl.op (OpY.pick_t (t := (!r11)) (v := (Value.bool true)) rfl hc11 rfl ?_)
    refine Rl.nil ?_
    have hp11 := hL12.pick [1, 0] rfl rfl rfl
    have hL13 : Go.X.Loc [] [] w w11 [some b1, some b6] [Cont.cells [a_v, a_v1], Cont.cells [b_v, b_v1]] := hp11.1
    have K13 := ks w hp11.2
    obtain rfl := Option.some.inj h
    refine Swp.pop_back ?_
    exact ⟨true, _, rfl, (upds_sym ⟨rfl, rfl, rfl, trivial⟩), hL13, (Keep.trans (Keep.trans K10 K12) K13), trivial⟩
   ·
    replace h := ite_f hc11 h
    refine Rl.yes rfl rfl (eq_false_of_ne_true hc11) (OpY.ldBoxA (vs := [b_v, b_v1]) Tryd.underlying25 rfl ti25 rfl (hL12.at 0 rfl rfl) rfl rfl ?_)
    obtain ⟨r12, q12, h⟩ := bind_some h
    have f12 := ((((b_h.mono (K4 S)).mono (K9 S)).mono (K10 S)).mono (K12 S))
    have f13 := ((((b_h1.mono (K4 S)).mono (K9 S)).mono (K10 S)).mono (K12 S))
    refine Rl.yes rfl rfl (eq_false_of_ne_true hc11) (OpY.call en12 rfl rfl (rFew_w N b b_v b_v1 _ Any (f12.mono vw_any) (f13.mono vw_any) r12 q12) ?_)
    rintro _ w12 hE12 ⟨rfl, -⟩
    have hL14 := hL12.ext hE12
    have K14 := ke hL12 hE12
    refine Rl.yes rfl rfl (eq_false_of_ne_true hc11) (OpY.not (x := r12) rfl ?_)
    refine Rl.op (OpY.pick_f (t := (!r11)) (v := (Value.bool (!r12))) rfl (eq_false_of_ne_true hc11) rfl ?_)
    refine Rl.nil ?_
    have hp12 := hL14.pick [1, 0] rfl rfl rfl
    have hL15 : Go.X.Loc [] [] w w12 [some b1, some b6] [Cont.cells [a_v, a_v1], Cont.cells [b_v, b_v1]] := hp12.1
    have K15 := ks w hp12.2
    obtain rfl := Option.some.inj h
    refine Swp.pop_back ?_
    exact ⟨(!r12), _, rfl, (upds_sym ⟨rfl, rfl, rfl, trivial⟩), hL15, (Keep.trans (Keep.trans (Keep.trans K10 K12) K14) K15), trivial⟩
 ·
  rintro _ w13 ⟨x10, u, rfl, rfl, hL16, K16, -⟩
  replace h := g10
  try dsimp only at h
  refine Swp.cond_b x10 rfl (fun hc12 => ?_) (fun hc12 => ?_)
  ·
   replace h := ite_t hc12 h
   refine Swp.seq (Swp.region rfl ?_)
   obtain ⟨r13, q13, h⟩ := bind_some h
   refine Rl.op (OpY.call en11 rfl rfl (awake_w N _ Any (hG.ext hL16.done) r13 q13) ?_)
   rintro _ w14 hE13 ⟨rfl, -⟩
   have hL17 := hL16.ext hE13
   refine Rl.op (OpY.assign (v := (Value.bool r13)) rfl ?_)
   refine Rl.nil (Swp.ret ?_)
   obtain rfl := Option.some.inj h
   refine ⟨[(Value.bool r13)], ⟨rfl, trivial⟩, ⟨_, rfl, hL17.done, ?_⟩⟩
   exact ⟨rfl, trivial⟩
  ·
   replace h := ite_f hc12 h
   refine Swp.skip (Swp.seq (Swp.region rfl (Rl.op (OpY.ldBoxA (vs := [a_v, a_v1]) Tryd.underlying25 rfl ti25 rfl (hL16.at 0 rfl rfl) rfl rfl ?_))))
   refine Rl.op (OpY.ldBoxA (vs := [b_v, b_v1]) Tryd.underlying25 rfl ti25 rfl (hL16.at 1 rfl rfl) rfl rfl ?_)
   obtain ⟨r14, q14, h⟩ := bind_some h
   have f14 := (((a_h.mono (K4 S)).mono (K9 S)).mono (K16 S))
   have f15 := (((a_h1.mono (K4 S)).mono (K9 S)).mono (K16 S))
   have f16 := (((b_h.mono (K4 S)).mono (K9 S)).mono (K16 S))
   have f17 := (((b_h1.mono (K4 S)).mono (K9 S)).mono (K16 S))
   refine Rl.op (OpY.call en25 rfl rfl (rEquivalent_w N a b a_v a_v1 b_v b_v1 _ Any (f14.mono vw_any) (f15.mono vw_any) (f16.mono vw_any) (f17.mono vw_any) r14 q14) ?_)
   rintro _ w15 hE14 ⟨rfl, -⟩
   have hL18 := hL16.ext hE14
   have K17 := ke hL16 hE14
   refine Rl.op (OpY.assign (v := (Value.bool r14)) rfl ?_)
   refine Rl.nil (Swp.seq (Swp.seq ?_))
   as_aux_lemma =>
    obtain ⟨s11, h, g11⟩ := bind_some h
    refine Swp.join (fun e w' => ∃ (x11 : Bool) (u : Env), x11 = s11 ∧ e = upds [(2, (Value.pointer (some ⟨b1, 0, none⟩))), (3, (Value.pointer (some ⟨b6, 0, none⟩))), (5, (Value.bool r14)), (53, (Value.bool x11))] u ∧ Go.X.Loc [] [] w w' [some b1, some b6] [Cont.cells [a_v, a_v1], Cont.cells [b_v, b_v1]] ∧ Keep w.heap.size [some b1, some b6] w15 [some b1, some b6] w' ∧ True) ?_ ?_
    ·
     obtain ⟨r15, q15, h⟩ := bind_some h
     obtain ⟨r16, q16, h⟩ := bind_some h
     obtain ⟨r17, q17, h⟩ := bind_some h
     by_cases hc13 : (!(r17 == r14)) = true
     ·
      replace h := ite_t hc13 h
      refine Swp.drawL 20 [] [] (fun W1 => [.det (Value.agg #[a_v, a_v1]), .rel (fun v Z w' => ∃ v10 v11, (Value.agg #[v10, v11]) = v ∧ Rs rBool (Zv W1 w.heap.size None [some b1, some b6] Z w') v10 r15.Accept ∧ Rs (rSl rAEdge) (Zv W1 w.heap.size None [some b1, some b6] Z w') v11 r15.Edges ∧ True) (fun _ => []), .det (Value.agg #[b_v, b_v1]), .rel (fun v Z w' => ∃ v12 v13, (Value.agg #[v12, v13]) = v ∧ Rs rBool (Zv W1 w.heap.size None [some b1, some b6] Z w') v12 r16.Accept ∧ Rs (rSl rAEdge) (Zv W1 w.heap.size None [some b1, some b6] Z w') v13 r16.Edges ∧ True) (fun _ => []), .det (Value.bool r17), .det (Value.bool r14), .det (Value.bool (!(r17 == r14))), .det (Value.bool (!(r17 == r14))), .det undef, .det undef, .det undef, .det undef, .det undef, .det undef, .det undef, .det (Value.bool true), .det (Value.bool true), .det undef, .det undef, .det undef]) mixed rfl rfl rfl (fun _ => rfl) (fun _ => rfl) ?_ ?_
      ·
       intro W1 _
       exact ⟨fun v Z Z' w w' hΦ hz _ _ hs => by obtain ⟨v10, v11, rfl, k10, k11, -⟩ := hΦ; exact ⟨v10, v11, rfl, (k10.mono (Zv.stay hz hs)), (k11.mono (Zv.stay hz hs)), trivial⟩, ⟨fun v Z Z' w w' hΦ hz _ _ hs => by obtain ⟨v12, v13, rfl, k12, k13, -⟩ := hΦ; exact ⟨v12, v13, rfl, (k12.mono (Zv.stay hz hs)), (k13.mono (Zv.stay hz hs)), trivial⟩, trivial⟩⟩
      ·
       intro w16 hE15
       have hL19 := hL18.ext hE15
       have K18 := ke hL18 hE15
       refine DrH.de (fun _ hE16 => GOp.op (OpY.ldBoxA (vs := [a_v, a_v1]) Tryd.underlying25 rfl ti25 rfl ((hL19.ext hE16).at 0 rfl rfl) rfl rfl (er rfl))) ?_
       refine DrH.rel ?_ ?_
       ·
        rintro w18 Z15 hE17 hZ11 ⟨-⟩
        have K19 := ke hL19 hE17
        refine GOp.op (OpY.call en14 rfl rfl (lown_w N a a_v a_v1 _ Any ((((f14.mono (K17 S)).mono (K18 S)).mono (K19 S)).mono vw_any) ((((f15.mono (K17 S)).mono (K18 S)).mono (K19 S)).mono vw_any) r15 q15) ?_)
        rintro _ w19 hE18 ⟨v10, v11, rfl, k10, k11, -⟩
        exact Made.ext hE18 hZ11 NewOwn.nil (fun _ h => h) ⟨v10, v11, rfl, (k10.mono Zv.made), (k11.mono Zv.made), trivial⟩
       intro z1
       refine DrH.de (fun _ hE19 => GOp.op (OpY.ldBoxA (vs := [b_v, b_v1]) Tryd.underlying25 rfl ti25 rfl ((hL19.ext hE19).at 1 rfl rfl) rfl rfl (er rfl))) ?_
       refine DrH.rel ?_ ?_
       ·
        rintro w21 Z17 hE20 hZ13 ⟨⟨⟨v10, v11, rfl, k10, k11, -⟩, hB1⟩, -⟩
        have K20 := ke hL19 hE20
        refine GOp.op (OpY.call en14 rfl rfl (lown_w N b b_v b_v1 _ Any ((((f16.mono (K17 S)).mono (K18 S)).mono (K20 S)).mono vw_any) ((((f17.mono (K17 S)).mono (K18 S)).mono (K20 S)).mono vw_any) r16 q16) ?_)
        rintro _ w22 hE21 ⟨v12, v13, rfl, k12, k13, -⟩
        exact Made.ext hE21 hZ13 NewOwn.nil (fun _ h => h) ⟨v12, v13, rfl, (k12.mono Zv.made), (k13.mono Zv.made), trivial⟩
       intro z3
       refine DrH.det ?_ ?_
       ·
        rintro w23 Z18 hE22 hZ14 ⟨⟨⟨v12, v13, rfl, k12, k13, -⟩, hB3⟩, ⟨⟨v10, v11, rfl, k10, k11, -⟩, hB1⟩, -⟩
        refine GOp.op (OpY.call en26 rfl rfl (aEquivalent_w N r15 r16 v10 v11 v12 v13 _ Any (k10.mono vw_any) (k11.mono vw_any) (k12.mono vw_any) (k13.mono vw_any) r17 q17) ?_)
        rintro _ w24 hE23 ⟨rfl, -⟩
        exact ⟨hE23, rfl⟩
       refine DrH.de (fun _ _ => GOp.op (OpY.move rfl (er rfl))) ?_
       refine DrH.de (fun _ _ => GOp.op (OpY.neqBool Tryd.underlying4 rfl rfl (er rfl))) ?_
       refine DrH.de (fun _ _ => GOp.op (OpY.move rfl (er rfl))) ?_
       refine DrH.de (fun _ _ => GOp.no rfl rfl hc13 (er rfl)) ?_
       refine DrH.de (fun _ _ => GOp.no rfl rfl hc13 (er rfl)) ?_
       refine DrH.de (fun _ _ => GOp.no rfl rfl hc13 (er rfl)) ?_
       refine DrH.de (fun _ _ => GOp.no rfl rfl hc13 (er rfl)) ?_
       refine DrH.de (fun _ _ => GOp.no rfl rfl hc13 (er rfl)) ?_
       refine DrH.de (fun _ _ => GOp.no rfl rfl hc13 (er rfl)) ?_
       refine DrH.de (fun _ _ => GOp.no rfl rfl hc13 (er rfl)) ?_
       refine DrH.de (fun _ _ => GOp.op (OpY.pick_t rfl hc13 rfl (er rfl))) ?_
       refine DrH.de (fun _ _ => GOp.op (OpY.move rfl (er rfl))) ?_
       refine DrH.de (fun _ _ => GOp.no rfl rfl rfl (er rfl)) ?_
       refine DrH.de (fun _ _ => GOp.no rfl rfl rfl (er rfl)) ?_
       refine DrH.de (fun _ _ => GOp.no rfl rfl rfl (er rfl)) ?_
       refine DrH.fin0 ?_
       rintro w40 Z34 hE39 hZ30 ⟨⟨⟨v12, v13, rfl, k12, k13, -⟩, hB3⟩, ⟨⟨v10, v11, rfl, k10, k11, -⟩, hB1⟩, -⟩ ap10
       as_aux_lemma =>
        have hB10 : ∀ b, some b ∈ ([] : List (Option Nat)) → w16.heap.size ≤ b ∧ ¬ Z34 b := by
         intro b hb; cases hb
        replace k12 := k12.mono (Zv.fin hL19 hZ30 hB10)
        replace k13 := k13.mono (Zv.fin hL19 hZ30 hB10)
        replace k10 := k10.mono (Zv.fin hL19 hZ30 hB10)
        replace k11 := k11.mono (Zv.fin hL19 hZ30 hB10)
        have hL22 := hL19.ext hE39
        have K21 := ke hL19 hE39
        refine Rl.no rfl rfl rfl ?_
        refine Rl.no rfl rfl rfl ?_
        refine Rl.no rfl rfl rfl ?_
        refine Rl.op (OpY.pick_t (t := true) (v := (Value.bool true)) rfl rfl rfl ?_)
        refine Rl.nil ?_
        obtain rfl := Option.some.inj h
        refine Swp.pop_back ?_
        exact ⟨true, _, rfl, (upds_sym ⟨rfl, rfl, rfl, rfl, trivial⟩), hL22, (Keep.trans K18 K21), trivial⟩
     ·
      replace h := ite_f hc13 h
      obtain ⟨r18, q18, h⟩ := bind_some h
      obtain ⟨r19, q19, h⟩ := bind_some h
      obtain ⟨r20, q20, h⟩ := bind_some h
      by_cases hc14 : (!(r20 == r14)) = true
      ·
       replace h := ite_t hc14 h
       refine Swp.drawL 20 [] [] (fun W1 => [.det (Value.agg #[a_v, a_v1]), .rel (fun v Z w' => ∃ v10 v11, (Value.agg #[v10, v11]) = v ∧ Rs rBool (Zv W1 w.heap.size None [some b1, some b6] Z w') v10 r15.Accept ∧ Rs (rSl rAEdge) (Zv W1 w.heap.size None [some b1, some b6] Z w') v11 r15.Edges ∧ True) (fun _ => []), .det (Value.agg #[b_v, b_v1]), .rel (fun v Z w' => ∃ v12 v13, (Value.agg #[v12, v13]) = v ∧ Rs rBool (Zv W1 w.heap.size None [some b1, some b6] Z w') v12 r16.Accept ∧ Rs (rSl rAEdge) (Zv W1 w.heap.size None [some b1, some b6] Z w') v13 r16.Edges ∧ True) (fun _ => []), .det (Value.bool r17), .det (Value.bool r14), .det (Value.bool (!(r17 == r14))), .det (Value.bool (!(r17 == r14))), .det (Value.agg #[b_v, b_v1]), .rel (fun v Z w' => ∃ v14 v15, (Value.agg #[v14, v15]) = v ∧ Rs rBool (Zv W1 w.heap.size None [some b1, some b6] Z w') v14 r18.Accept ∧ Rs (rSl rAEdge) (Zv W1 w.heap.size None [some b1, some b6] Z w') v15 r18.Edges ∧ True) (fun _ => []), .det (Value.agg #[a_v, a_v1]), .rel (fun v Z w' => ∃ v16 v17, (Value.agg #[v16, v17]) = v ∧ Rs rBool (Zv W1 w.heap.size None [some b1, some b6] Z w') v16 r19.Accept ∧ Rs (rSl rAEdge) (Zv W1 w.heap.size None [some b1, some b6] Z w') v17 r19.Edges ∧ True) (fun _ => []), .det (Value.bool r20), .det (Value.bool r14), .det (Value.bool (!(r20 == r14))), .det (Value.bool (!(r20 == r14))), .det (Value.bool (!(r20 == r14))), .det undef, .det undef, .det undef]) mixed rfl rfl rfl (fun _ => rfl) (fun _ => rfl) ?_ ?_
       ·
        intro W1 _
        exact ⟨fun v Z Z' w w' hΦ hz _ _ hs => by obtain ⟨v10, v11, rfl, k10, k11, -⟩ := hΦ; exact ⟨v10, v11, rfl, (k10.mono (Zv.stay hz hs)), (k11.mono (Zv.stay hz hs)), trivial⟩, ⟨fun v Z Z' w w' hΦ hz _ _ hs => by obtain ⟨v12, v13, rfl, k12, k13, -⟩ := hΦ; exact ⟨v12, v13, rfl, (k12.mono (Zv.stay hz hs)), (k13.mono (Zv.stay hz hs)), trivial⟩, ⟨fun v Z Z' w w' hΦ hz _ _ hs => by obtain ⟨v14, v15, rfl, k14, k15, -⟩ := hΦ; exact ⟨v14, v15, rfl, (k14.mono (Zv.stay hz hs)), (k15.mono (Zv.stay hz hs)), trivial⟩, ⟨fun v Z Z' w w' hΦ hz _ _ hs => by obtain ⟨v16, v17, rfl, k16, k17, -⟩ := hΦ; exact ⟨v16, v17, rfl, (k16.mono (Zv.stay hz hs)), (k17.mono (Zv.stay hz hs)), trivial⟩, trivial⟩⟩⟩⟩
       ·
        intro w41 hE40
        have hL23 := hL18.ext hE40
        have K22 := ke hL18 hE40
        refine DrH.de (fun _ hE41 => GOp.op (OpY.ldBoxA (vs := [a_v, a_v1]) Tryd.underlying25 rfl ti25 rfl ((hL23.ext hE41).at 0 rfl rfl) rfl rfl (er rfl))) ?_
        refine DrH.rel ?_ ?_
        ·
         rintro w43 Z36 hE42 hZ32 ⟨-⟩
         have K23 := ke hL23 hE42
         refine GOp.op (OpY.call en14 rfl rfl (lown_w N a a_v a_v1 _ Any ((((f14.mono (K17 S)).mono (K22 S)).mono (K23 S)).mono vw_any) ((((f15.mono (K17 S)).mono (K22 S)).mono (K23 S)).mono vw_any) r15 q15) ?_)
         rintro _ w44 hE43 ⟨v10, v11, rfl, k10, k11, -⟩
         exact Made.ext hE43 hZ32 NewOwn.nil (fun _ h => h) ⟨v10, v11, rfl, (k10.mono Zv.made), (k11.mono Zv.made), trivial⟩
        intro z1
        refine DrH.de (fun _ hE44 => GOp.op (OpY.ldBoxA (vs := [b_v, b_v1]) Tryd.underlying25 rfl ti25 rfl ((hL23.ext hE44).at 1 rfl rfl) rfl rfl (er rfl))) ?_
        refine DrH.rel ?_ ?_
        ·
         rintro w46 Z38 hE45 hZ34 ⟨⟨⟨v10, v11, rfl, k10, k11, -⟩, hB1⟩, -⟩
         have K24 := ke hL23 hE45
         refine GOp.op (OpY.call en14 rfl rfl (lown_w N b b_v b_v1 _ Any ((((f16.mono (K17 S)).mono (K22 S)).mono (K24 S)).mono vw_any) ((((f17.mono (K17 S)).mono (K22 S)).mono (K24 S)).mono vw_any) r16 q16) ?_)
         rintro _ w47 hE46 ⟨v12, v13, rfl, k12, k13, -⟩
         exact Made.ext hE46 hZ34 NewOwn.nil (fun _ h => h) ⟨v12, v13, rfl, (k12.mono Zv.made), (k13.mono Zv.made), trivial⟩
        intro z3
        refine DrH.det ?_ ?_
        ·
         rintro w48 Z39 hE47 hZ35 ⟨⟨⟨v12, v13, rfl, k12, k13, -⟩, hB3⟩, ⟨⟨v10, v11, rfl, k10, k11, -⟩, hB1⟩, -⟩
         refine GOp.op (OpY.call en26 rfl rfl (aEquivalent_w N r15 r16 v10 v11 v12 v13 _ Any (k10.mono vw_any) (k11.mono vw_any) (k12.mono vw_any) (k13.mono vw_any) r17 q17) ?_)
         rintro _ w49 hE48 ⟨rfl, -⟩
         exact ⟨hE48, rfl⟩
        refine DrH.de (fun _ _ => GOp.op (OpY.move rfl (er rfl))) ?_
        refine DrH.de (fun _ _ => GOp.op (OpY.neqBool Tryd.underlying4 rfl rfl (er rfl))) ?_
        refine DrH.de (fun _ _ => GOp.op (OpY.move rfl (er rfl))) ?_
        refine DrH.de (fun _ hE52 => GOp.yes rfl rfl (eq_false_of_ne_true hc13) (OpY.ldBoxA (vs := [b_v, b_v1]) Tryd.underlying25 rfl ti25 rfl ((hL23.ext hE52).at 1 rfl rfl) rfl rfl (er rfl))) ?_
        refine DrH.rel ?_ ?_
        ·
         rintro w54 Z44 hE53 hZ40 ⟨-, -, -⟩
         have K25 := ke hL23 hE53
         refine GOp.yes rfl rfl (eq_false_of_ne_true hc13) (OpY.call en14 rfl rfl (lown_w N b b_v b_v1 _ Any ((((f16.mono (K17 S)).mono (K22 S)).mono (K25 S)).mono vw_any) ((((f17.mono (K17 S)).mono (K22 S)).mono (K25 S)).mono vw_any) r18 q18) ?_)
         rintro _ w55 hE54 ⟨v14, v15, rfl, k14, k15, -⟩
         exact Made.ext hE54 hZ40 NewOwn.nil (fun _ h => h) ⟨v14, v15, rfl, (k14.mono Zv.made), (k15.mono Zv.made), trivial⟩
        intro z9
        refine DrH.de (fun _ hE55 => GOp.yes rfl rfl (eq_false_of_ne_true hc13) (OpY.ldBoxA (vs := [a_v, a_v1]) Tryd.underlying25 rfl ti25 rfl ((hL23.ext hE55).at 0 rfl rfl) rfl rfl (er rfl))) ?_
        refine DrH.rel ?_ ?_
        ·
         rintro w57 Z46 hE56 hZ42 ⟨⟨⟨v14, v15, rfl, k14, k15, -⟩, hB9⟩, -, -, -⟩
         have K26 := ke hL23 hE56
         refine GOp.yes rfl rfl (eq_false_of_ne_true hc13) (OpY.call en14 rfl rfl (lown_w N a a_v a_v1 _ Any ((((f14.mono (K17 S)).mono (K22 S)).mono (K26 S)).mono vw_any) ((((f15.mono (K17 S)).mono (K22 S)).mono (K26 S)).mono vw_any) r19 q19) ?_)
         rintro _ w58 hE57 ⟨v16, v17, rfl, k16, k17, -⟩
         exact Made.ext hE57 hZ42 NewOwn.nil (fun _ h => h) ⟨v16, v17, rfl, (k16.mono Zv.made), (k17.mono Zv.made), trivial⟩
        intro z10
        refine DrH.det ?_ ?_
        ·
         rintro w59 Z47 hE58 hZ43 ⟨⟨⟨v16, v17, rfl, k16, k17, -⟩, hB11⟩, ⟨⟨v14, v15, rfl, k14, k15, -⟩, hB9⟩, -, -, -⟩
         refine GOp.yes rfl rfl (eq_false_of_ne_true hc13) (OpY.call en26 rfl rfl (aEquivalent_w N r18 r19 v14 v15 v16 v17 _ Any (k14.mono vw_any) (k15.mono vw_any) (k16.mono vw_any) (k17.mono vw_any) r20 q20) ?_)
         rintro _ w60 hE59 ⟨rfl, -⟩
         exact ⟨hE59, rfl⟩
        refine DrH.de (fun _ _ => GOp.yes rfl rfl (eq_false_of_ne_true hc13) (OpY.move rfl (er rfl))) ?_
        refine DrH.de (fun _ _ => GOp.yes rfl rfl (eq_false_of_ne_true hc13) (OpY.neqBool Tryd.underlying4 rfl rfl (er rfl))) ?_
        refine DrH.de (fun _ _ => GOp.op (OpY.pick_f rfl (eq_false_of_ne_true hc13) rfl (er rfl))) ?_
        refine DrH.de (fun _ _ => GOp.op (OpY.move rfl (er rfl))) ?_
        refine DrH.de (fun _ _ => GOp.no rfl rfl hc14 (er rfl)) ?_
        refine DrH.de (fun _ _ => GOp.no rfl rfl hc14 (er rfl)) ?_
        refine DrH.de (fun _ _ => GOp.no rfl rfl hc14 (er rfl)) ?_
        refine DrH.fin0 ?_
        rintro w68 Z55 hE67 hZ51 ⟨⟨⟨v16, v17, rfl, k16, k17, -⟩, hB11⟩, ⟨⟨v14, v15, rfl, k14, k15, -⟩, hB9⟩, ⟨⟨v12, v13, rfl, k12, k13, -⟩, hB3⟩, ⟨⟨v10, v11, rfl, k10, k11, -⟩, hB1⟩, -⟩ ap11
        as_aux_lemma =>
         have hB12 : ∀ b, some b ∈ ([] : List (Option Nat)) → w41.heap.size ≤ b ∧ ¬ Z55 b := by
          intro b hb; cases hb
         replace k16 := k16.mono (Zv.fin hL23 hZ51 hB12)
         replace k17 := k17.mono (Zv.fin hL23 hZ51 hB12)
         replace k14 := k14.mono (Zv.fin hL23 hZ51 hB12)
         replace k15 := k15.mono (Zv.fin hL23 hZ51 hB12)
         replace k12 := k12.mono (Zv.fin hL23 hZ51 hB12)
         replace k13 := k13.mono (Zv.fin hL23 hZ51 hB12)
         replace k10 := k10.mono (Zv.fin hL23 hZ51 hB12)
         replace k11 := k11.mono (Zv.fin hL23 hZ51 hB12)
         have hL28 := hL23.ext hE67
         have K27 := ke hL23 hE67
         refine Rl.no rfl rfl hc14 ?_
         refine Rl.no rfl rfl hc14 ?_
         refine Rl.no rfl rfl hc14 ?_
         refine Rl.op (OpY.pick_t (t := (!(r20 == r14))) (v := (Value.bool true)) rfl hc14 rfl ?_)
         refine Rl.nil ?_
         obtain rfl := Option.some.inj h
         refine Swp.pop_back ?_
         exact ⟨true, _, rfl, (upds_sym ⟨rfl, rfl, rfl, rfl, trivial⟩), hL28, (Keep.trans K22 K27), trivial⟩
      ·
       replace h := ite_f hc14 h
       obtain ⟨r21, q21, h⟩ := bind_some h
       refine Swp.drawL 20 [] [] (fun W1 => [.det (Value.agg #[a_v, a_v1]), .rel (fun v Z w' => ∃ v10 v11, (Value.agg #[v10, v11]) = v ∧ Rs rBool (Zv W1 w.heap.size None [some b1, some b6] Z w') v10 r15.Accept ∧ Rs (rSl rAEdge) (Zv W1 w.heap.size None [some b1, some b6] Z w') v11 r15.Edges ∧ True) (fun _ => []), .det (Value.agg #[b_v, b_v1]), .rel (fun v Z w' => ∃ v12 v13, (Value.agg #[v12, v13]) = v ∧ Rs rBool (Zv W1 w.heap.size None [some b1, some b6] Z w') v12 r16.Accept ∧ Rs (rSl rAEdge) (Zv W1 w.heap.size None [some b1, some b6] Z w') v13 r16.Edges ∧ True) (fun _ => []), .det (Value.bool r17), .det (Value.bool r14), .det (Value.bool (!(r17 == r14))), .det (Value.bool (!(r17 == r14))), .det (Value.agg #[b_v, b_v1]), .rel (fun v Z w' => ∃ v14 v15, (Value.agg #[v14, v15]) = v ∧ Rs rBool (Zv W1 w.heap.size None [some b1, some b6] Z w') v14 r18.Accept ∧ Rs (rSl rAEdge) (Zv W1 w.heap.size None [some b1, some b6] Z w') v15 r18.Edges ∧ True) (fun _ => []), .det (Value.agg #[a_v, a_v1]), .rel (fun v Z w' => ∃ v16 v17, (Value.agg #[v16, v17]) = v ∧ Rs rBool (Zv W1 w.heap.size None [some b1, some b6] Z w') v16 r19.Accept ∧ Rs (rSl rAEdge) (Zv W1 w.heap.size None [some b1, some b6] Z w') v17 r19.Edges ∧ True) (fun _ => []), .det (Value.bool r20), .det (Value.bool r14), .det (Value.bool (!(r20 == r14))), .det (Value.bool (!(r20 == r14))), .det (Value.bool (!(r20 == r14))), .det (Value.agg #[a_v, a_v1]), .rel (fun v Z w' => ∃ v18 v19, (Value.agg #[v18, v19]) = v ∧ Rs rBool (Zv W1 w.heap.size None [some b1, some b6] Z w') v18 r21.Accept ∧ Rs (rSl rAEdge) (Zv W1 w.heap.size None [some b1, some b6] Z w') v19 r21.Edges ∧ True) (fun _ => []), .det (Value.agg #[a_v, a_v1])]) mixed rfl rfl rfl (fun _ => rfl) (fun _ => rfl) ?_ ?_
       ·
        intro W1 _
        exact ⟨fun v Z Z' w w' hΦ hz _ _ hs => by obtain ⟨v10, v11, rfl, k10, k11, -⟩ := hΦ; exact ⟨v10, v11, rfl, (k10.mono (Zv.stay hz hs)), (k11.mono (Zv.stay hz hs)), trivial⟩, ⟨fun v Z Z' w w' hΦ hz _ _ hs => by obtain ⟨v12, v13, rfl, k12, k13, -⟩ := hΦ; exact ⟨v12, v13, rfl, (k12.mono (Zv.stay hz hs)), (k13.mono (Zv.stay hz hs)), trivial⟩, ⟨fun v Z Z' w w' hΦ hz _ _ hs => by obtain ⟨v14, v15, rfl, k14, k15, -⟩ := hΦ; exact ⟨v14, v15, rfl, (k14.mono (Zv.stay hz hs)), (k15.mono (Zv.stay hz hs)), trivial⟩, ⟨fun v Z Z' w w' hΦ hz _ _ hs => by obtain ⟨v16, v17, rfl, k16, k17, -⟩ := hΦ; exact ⟨v16, v17, rfl, (k16.mono (Zv.stay hz hs)), (k17.mono (Zv.stay hz hs)), trivial⟩, ⟨fun v Z Z' w w' hΦ hz _ _ hs => by obtain ⟨v18, v19, rfl, k18, k19, -⟩ := hΦ; exact ⟨v18, v19, rfl, (k18.mono (Zv.stay hz hs)), (k19.mono (Zv.stay hz hs)), trivial⟩, trivial⟩⟩⟩⟩⟩
       ·
        intro w69 hE68
        have hL29 := hL18.ext hE68
        have K28 := ke hL18 hE68
        refine DrH.de (fun _ hE69 => GOp.op (OpY.ldBoxA (vs := [a_v, a_v1]) Tryd.underlying25 rfl ti25 rfl ((hL29.ext hE69).at 0 rfl rfl) rfl rfl (er rfl))) ?_
        refine DrH.rel ?_ ?_
        ·
         rintro w71 Z57 hE70 hZ53 ⟨-⟩
         have K29 := ke hL29 hE70
         refine GOp.op (OpY.call en14 rfl rfl (lown_w N a a_v a_v1 _ Any ((((f14.mono (K17 S)).mono (K28 S)).mono (K29 S)).mono vw_any) ((((f15.mono (K17 S)).mono (K28 S)).mono (K29 S)).mono vw_any) r15 q15) ?_)
         rintro _ w72 hE71 ⟨v10, v11, rfl, k10, k11, -⟩
         exact Made.ext hE71 hZ53 NewOwn.nil (fun _ h => h) ⟨v10, v11, rfl, (k10.mono Zv.made), (k11.mono Zv.made), trivial⟩
        intro z1
        refine DrH.de (fun _ hE72 => GOp.op (OpY.ldBoxA (vs := [b_v, b_v1]) Tryd.underlying25 rfl ti25 rfl ((hL29.ext hE72).at 1 rfl rfl) rfl rfl (er rfl))) ?_
        refine DrH.rel ?_ ?_
        ·
         rintro w74 Z59 hE73 hZ55 ⟨⟨⟨v10, v11, rfl, k10, k11, -⟩, hB1⟩, -⟩
         have K30 := ke hL29 hE73
         refine GOp.op (OpY.call en14 rfl rfl (lown_w N b b_v b_v1 _ Any ((((f16.mono (K17 S)).mono (K28 S)).mono (K30 S)).mono vw_any) ((((f17.mono (K17 S)).mono (K28 S)).mono (K30 S)).mono vw_any) r16 q16) ?_)
         rintro _ w75 hE74 ⟨v12, v13, rfl, k12, k13, -⟩
         exact Made.ext hE74 hZ55 NewOwn.nil (fun _ h => h) ⟨v12, v13, rfl, (k12.mono Zv.made), (k13.mono Zv.made), trivial⟩
        intro z3
        refine DrH.det ?_ ?_
        ·
         rintro w76 Z60 hE75 hZ56 ⟨⟨⟨v12, v13, rfl, k12, k13, -⟩, hB3⟩, ⟨⟨v10, v11, rfl, k10, k11, -⟩, hB1⟩, -⟩
         refine GOp.op (OpY.call en26 rfl rfl (aEquivalent_w N r15 r16 v10 v11 v12 v13 _ Any (k10.mono vw_any) (k11.mono vw_any) (k12.mono vw_any) (k13.mono vw_any) r17 q17) ?_)
         rintro _ w77 hE76 ⟨rfl, -⟩
         exact ⟨hE76, rfl⟩
        refine DrH.de (fun _ _ => GOp.op (OpY.move rfl (er rfl))) ?_
        refine DrH.de (fun _ _ => GOp.op (OpY.neqBool Tryd.underlying4 rfl rfl (er rfl))) ?_
        refine DrH.de (fun _ _ => GOp.op (OpY.move rfl (er rfl))) ?_
        refine DrH.de (fun _ hE80 => GOp.yes rfl rfl (eq_false_of_ne_true hc13) (OpY.ldBoxA (vs := [b_v, b_v1]) Tryd.underlying25 rfl ti25 rfl ((hL29.ext hE80).at 1 rfl rfl) rfl rfl (er rfl))) ?_
        refine DrH.rel ?_ ?_
        ·
         rintro w82 Z65 hE81 hZ61 ⟨-, -, -⟩
         have K31 := ke hL29 hE81
         refine GOp.yes rfl rfl (eq_false_of_ne_true hc13) (OpY.call en14 rfl rfl (lown_w N b b_v b_v1 _ Any ((((f16.mono (K17 S)).mono (K28 S)).mono (K31 S)).mono vw_any) ((((f17.mono (K17 S)).mono (K28 S)).mono (K31 S)).mono vw_any) r18 q18) ?_)
         rintro _ w83 hE82 ⟨v14, v15, rfl, k14, k15, -⟩
         exact Made.ext hE82 hZ61 NewOwn.nil (fun _ h => h) ⟨v14, v15, rfl, (k14.mono Zv.made), (k15.mono Zv.made), trivial⟩
        intro z9
        refine DrH.de (fun _ hE83 => GOp.yes rfl rfl (eq_false_of_ne_true hc13) (OpY.ldBoxA (vs := [a_v, a_v1]) Tryd.underlying25 rfl ti25 rfl ((hL29.ext hE83).at 0 rfl rfl) rfl rfl (er rfl))) ?_
        refine DrH.rel ?_ ?_
        ·
         rintro w85 Z67 hE84 hZ63 ⟨⟨⟨v14, v15, rfl, k14, k15, -⟩, hB9⟩, -, -, -⟩
         have K32 := ke hL29 hE84
         refine GOp.yes rfl rfl (eq_false_of_ne_true hc13) (OpY.call en14 rfl rfl (lown_w N a a_v a_v1 _ Any ((((f14.mono (K17 S)).mono (K28 S)).mono (K32 S)).mono vw_any) ((((f15.mono (K17 S)).mono (K28 S)).mono (K32 S)).mono vw_any) r19 q19) ?_)
         rintro _ w86 hE85 ⟨v16, v17, rfl, k16, k17, -⟩
         exact Made.ext hE85 hZ63 NewOwn.nil (fun _ h => h) ⟨v16, v17, rfl, (k16.mono Zv.made), (k17.mono Zv.made), trivial⟩
        intro z10
        refine DrH.det ?_ ?_
        ·
         rintro w87 Z68 hE86 hZ64 ⟨⟨⟨v16, v17, rfl, k16, k17, -⟩, hB11⟩, ⟨⟨v14, v15, rfl, k14, k15, -⟩, hB9⟩, -, -, -⟩
         refine GOp.yes rfl rfl (eq_false_of_ne_true hc13) (OpY.call en26 rfl rfl (aEquivalent_w N r18 r19 v14 v15 v16 v17 _ Any (k14.mono vw_any) (k15.mono vw_any) (k16.mono vw_any) (k17.mono vw_any) r20 q20) ?_)
         rintro _ w88 hE87 ⟨rfl, -⟩
         exact ⟨hE87, rfl⟩
        refine DrH.de (fun _ _ => GOp.yes rfl rfl (eq_false_of_ne_true hc13) (OpY.move rfl (er rfl))) ?_
        refine DrH.de (fun _ _ => GOp.yes rfl rfl (eq_false_of_ne_true hc13) (OpY.neqBool Tryd.underlying4 rfl rfl (er rfl))) ?_
        refine DrH.de (fun _ _ => GOp.op (OpY.pick_f rfl (eq_false_of_ne_true hc13) rfl (er rfl))) ?_
        refine DrH.de (fun _ _ => GOp.op (OpY.move rfl (er rfl))) ?_
        refine DrH.de (fun _ hE92 => GOp.yes rfl rfl (eq_false_of_ne_true hc14) (OpY.ldBoxA (vs := [a_v, a_v1]) Tryd.underlying25 rfl ti25 rfl ((hL29.ext hE92).at 0 rfl rfl) rfl rfl (er rfl))) ?_
        refine DrH.rel ?_ ?_
        ·
         rintro w94 Z74 hE93 hZ70 ⟨-, -, -, -, -⟩
         have K33 := ke hL29 hE93
         refine GOp.yes rfl rfl (eq_false_of_ne_true hc14) (OpY.call en14 rfl rfl (lown_w N a a_v a_v1 _ Any ((((f14.mono (K17 S)).mono (K28 S)).mono (K33 S)).mono vw_any) ((((f15.mono (K17 S)).mono (K28 S)).mono (K33 S)).mono vw_any) r21 q21) ?_)
         rintro _ w95 hE94 ⟨v18, v19, rfl, k18, k19, -⟩
         exact Made.ext hE94 hZ70 NewOwn.nil (fun _ h => h) ⟨v18, v19, rfl, (k18.mono Zv.made), (k19.mono Zv.made), trivial⟩
        intro z11
        refine DrH.de (fun _ hE95 => GOp.yes rfl rfl (eq_false_of_ne_true hc14) (OpY.ldBoxA (vs := [a_v, a_v1]) Tryd.underlying25 rfl ti25 rfl ((hL29.ext hE95).at 0 rfl rfl) rfl rfl (er rfl))) ?_
        refine DrH.fin0 ?_
        rintro w97 Z76 hE96 hZ72 ⟨⟨⟨v18, v19, rfl, k18, k19, -⟩, hB13⟩, ⟨⟨v16, v17, rfl, k16, k17, -⟩, hB11⟩, ⟨⟨v14, v15, rfl, k14, k15, -⟩, hB9⟩, ⟨⟨v12, v13, rfl, k12, k13, -⟩, hB3⟩, ⟨⟨v10, v11, rfl, k10, k11, -⟩, hB1⟩, -⟩ ap12
        as_aux_lemma =>
         have hB14 : ∀ b, some b ∈ ([] : List (Option Nat)) → w69.heap.size ≤ b ∧ ¬ Z76 b := by
          intro b hb; cases hb
         replace k18 := k18.mono (Zv.fin hL29 hZ72 hB14)
         replace k19 := k19.mono (Zv.fin hL29 hZ72 hB14)
         replace k16 := k16.mono (Zv.fin hL29 hZ72 hB14)
         replace k17 := k17.mono (Zv.fin hL29 hZ72 hB14)
         replace k14 := k14.mono (Zv.fin hL29 hZ72 hB14)
         replace k15 := k15.mono (Zv.fin hL29 hZ72 hB14)
         replace k12 := k12.mono (Zv.fin hL29 hZ72 hB14)
         replace k13 := k13.mono (Zv.fin hL29 hZ72 hB14)
         replace k10 := k10.mono (Zv.fin hL29 hZ72 hB14)
         replace k11 := k11.mono (Zv.fin hL29 hZ72 hB14)
         have hL36 := hL29.ext hE96
         have K34 := ke hL29 hE96
         obtain ⟨r22, q22, h⟩ := bind_some h
         as_aux_lemma =>
          have f18 := (((f14.mono (K17 S)).mono (K28 S)).mono (K34 S))
          have f19 := (((f15.mono (K17 S)).mono (K28 S)).mono (K34 S))
          refine Rl.yes rfl rfl (eq_false_of_ne_true hc14) (OpY.call en14 rfl rfl (lown_w N a a_v a_v1 _ Any (f18.mono vw_any) (f19.mono vw_any) r22 q22) ?_)
          rintro _ w98 hE97 ⟨v20, v21, rfl, k20, k21, -⟩
          replace k20 := k20.mono (Hv.freshO (S := None) hL36 [])
          replace k21 := k21.mono (Hv.freshO (S := None) hL36 [])
          have hL37 := hL36.ext hE97
          have K35 := ke hL36 hE97
          obtain ⟨r23, q23, h⟩ := bind_some h
          have f20 := (k18.mono (K35 None))
          have f21 := (k19.mono (K35 None))
          refine Rl.yes rfl rfl (eq_false_of_ne_true hc14) (OpY.call en26 rfl rfl (aEquivalent_w N r21 r22 v18 v19 v20 v21 _ Any (f20.mono vw_any) (f21.mono vw_any) (k20.mono vw_any) (k21.mono vw_any) r23 q23) ?_)
          rintro _ w99 hE98 ⟨rfl, -⟩
          have hL38 := hL37.ext hE98
          have K36 := ke hL37 hE98
          refine Rl.yes rfl rfl (eq_false_of_ne_true hc14) (OpY.not (x := r23) rfl ?_)
          refine Rl.op (OpY.pick_f (t := (!(r20 == r14))) (v := (Value.bool (!r23))) rfl (eq_false_of_ne_true hc14) rfl ?_)
          refine Rl.nil ?_
          obtain rfl := Option.some.inj h
          refine Swp.pop_back ?_
          exact ⟨(!r23), _, rfl, (upds_sym ⟨rfl, rfl, rfl, rfl, trivial⟩), hL38, (Keep.trans (Keep.trans (Keep.trans K28 K34) K35) K36), trivial⟩
    ·
     rintro _ w100 ⟨x11, u, rfl, rfl, hL39, K37, -⟩
     replace h := g11
     try dsimp only at h
     refine Swp.cond_b x11 rfl (fun hc15 => ?_) (fun hc15 => ?_)
     ·
      replace h := ite_t hc15 h
      refine Swp.seq (Swp.region rfl (Rl.op (OpY.assign (v := (Value.bool false)) rfl ?_)))
      refine Rl.nil (Swp.ret ?_)
      obtain rfl := Option.some.inj h
      refine ⟨[(Value.bool false)], ⟨rfl, trivial⟩, ⟨_, rfl, hL39.done, ?_⟩⟩
      exact ⟨rfl, trivial⟩
     ·
      replace h := ite_f hc15 h
      refine Swp.skip (Swp.seq (Swp.region rfl (Rl.op (OpY.ldBoxA (vs := [a_v, a_v1]) Tryd.underlying25 rfl ti25 rfl (hL39.at 0 rfl rfl) rfl rfl ?_))))
      obtain ⟨r24, q24, h⟩ := bind_some h
      have f22 := ((f14.mono (K17 S)).mono (K37 S))
      have f23 := ((f15.mono (K17 S)).mono (K37 S))
      refine Rl.op (OpY.call en14 rfl rfl (lown_w N a a_v a_v1 _ Any (f22.mono vw_any) (f23.mono vw_any) r24 q24) ?_)
      rintro _ w101 hE99 ⟨v22, v23, rfl, k22, k23, -⟩
      replace k22 := k22.mono (Hv.freshO (S := None) hL39 [])
      replace k23 := k23.mono (Hv.freshO (S := None) hL39 [])
      have hL40 := hL39.ext hE99
      have K38 := ke hL39 hE99
      obtain ⟨r25, q25, h⟩ := bind_some h
      refine Rl.op (OpY.call en13 rfl rfl (aShortest_w N r24 v22 v23 _ Any (k22.mono vw_any) (k23.mono vw_any) r25 q25) ?_)
      rintro _ w102 hE100 ⟨rfl, -⟩
      as_aux_lemma =>
       have hL41 := hL40.ext hE100
       have K39 := ke hL40 hE100
       refine Rl.op (OpY.move (v := (Value.tuple #[(Value.string (s8 r25.1)), (Value.bool r25.2)])) rfl ?_)
       refine Rl.op (OpY.extract (vs := [(Value.string (s8 r25.1)), (Value.bool r25.2)]) (v := (Value.string (s8 r25.1))) rfl rfl ?_)
       refine Rl.op (OpY.extract (vs := [(Value.string (s8 r25.1)), (Value.bool r25.2)]) (v := (Value.bool r25.2)) rfl rfl ?_)
       refine Rl.op (OpY.assign (v := (Value.string (s8 r25.1))) rfl ?_)
       refine Rl.op (OpY.assign (v := (Value.bool r25.2)) rfl ?_)
       refine Rl.nil (Swp.seq (Swp.region rfl (Rl.op (OpY.ldBoxA (vs := [b_v, b_v1]) Tryd.underlying25 rfl ti25 rfl (hL41.at 1 rfl rfl) rfl rfl ?_))))
       obtain ⟨r26, q26, h⟩ := bind_some h
       have f24 := ((((f16.mono (K17 S)).mono (K37 S)).mono (K38 S)).mono (K39 S))
       have f25 := ((((f17.mono (K17 S)).mono (K37 S)).mono (K38 S)).mono (K39 S))
       refine Rl.op (OpY.call en14 rfl rfl (lown_w N b b_v b_v1 _ Any (f24.mono vw_any) (f25.mono vw_any) r26 q26) ?_)
       rintro _ w103 hE101 ⟨v24, v25, rfl, k24, k25, -⟩
       replace k24 := k24.mono (Hv.freshO (S := None) hL41 [])
       replace k25 := k25.mono (Hv.freshO (S := None) hL41 [])
       as_aux_lemma =>
        have hL42 := hL41.ext hE101
        have K40 := ke hL41 hE101
        obtain ⟨r27, q27, h⟩ := bind_some h
        refine Rl.op (OpY.call en13 rfl rfl (aShortest_w N r26 v24 v25 _ Any (k24.mono vw_any) (k25.mono vw_any) r27 q27) ?_)
        rintro _ w104 hE102 ⟨rfl, -⟩
        have hL43 := hL42.ext hE102
        have K41 := ke hL42 hE102
        refine Rl.op (OpY.move (v := (Value.tuple #[(Value.string (s8 r27.1)), (Value.bool r27.2)])) rfl ?_)
        refine Rl.op (OpY.extract (vs := [(Value.string (s8 r27.1)), (Value.bool r27.2)]) (v := (Value.string (s8 r27.1))) rfl rfl ?_)
        refine Rl.op (OpY.extract (vs := [(Value.string (s8 r27.1)), (Value.bool r27.2)]) (v := (Value.bool r27.2)) rfl rfl ?_)
        refine Rl.op (OpY.assign (v := (Value.string (s8 r27.1))) rfl ?_)
        refine Rl.op (OpY.assign (v := (Value.bool r27.2)) rfl ?_)
        refine Rl.nil (Swp.seq (Swp.region rfl (Rl.op (OpY.ldBoxA (vs := [a_v, a_v1]) Tryd.underlying25 rfl ti25 rfl (hL43.at 0 rfl rfl) rfl rfl ?_))))
        obtain ⟨r28, q28, h⟩ := bind_some h
        as_aux_lemma =>
         have f26 := ((((f22.mono (K38 S)).mono (K39 S)).mono (K40 S)).mono (K41 S))
         have f27 := ((((f23.mono (K38 S)).mono (K39 S)).mono (K40 S)).mono (K41 S))
         refine Rl.op (OpY.call en14 rfl rfl (lown_w N a a_v a_v1 _ Any (f26.mono vw_any) (f27.mono vw_any) r28 q28) ?_)
         rintro _ w105 hE103 ⟨v26, v27, rfl, k26, k27, -⟩
         replace k26 := k26.mono (Hv.freshO (S := None) hL43 [])
         replace k27 := k27.mono (Hv.freshO (S := None) hL43 [])
         have hL44 := hL43.ext hE103
         have K42 := ke hL43 hE103
         obtain ⟨r29, q29, h⟩ := bind_some h
         refine Rl.op (OpY.call en22 rfl rfl (aMinimize_w N r28 v26 v27 _ Any (hG.ext hL44.done) (k26.mono vw_any) (k27.mono vw_any) r29 q29) ?_)
         rintro _ w106 hE104 ⟨v28, v29, rfl, k28, k29, -⟩
         replace k28 := k28.mono (Hv.freshO (S := None) hL44 [])
         replace k29 := k29.mono (Hv.freshO (S := None) hL44 [])
         have hL45 := hL44.ext hE104
         as_aux_lemma =>
          have K43 := ke hL44 hE104
          refine Rl.op (OpY.move (v := (Value.tuple #[(Value.agg #[v28, v29]), (Value.int .i64 r29.2)])) rfl ?_)
          refine Rl.op (OpY.extract (vs := [(Value.agg #[v28, v29]), (Value.int .i64 r29.2)]) (v := (Value.agg #[v28, v29])) rfl rfl ?_)
          refine Rl.op (OpY.extract (vs := [(Value.agg #[v28, v29]), (Value.int .i64 r29.2)]) (v := (Value.int .i64 r29.2)) rfl rfl ?_)
          refine Rl.op (OpY.alloc (cs := [(Value.slice none 0 0), (Value.slice none 0 0)]) ti32 rfl hL45 ?_)
          intro b10 w107 hL46 hS11
          have K44 := ks w hS11
          have f28 := (k29.mono (K44 None))
          have f29 := (k28.mono (K44 None))
          refine Rl.op0 (OpY.store (vs := [v28, v29]) ti32 rfl rfl rfl rfl (ones_cons f29.one (ones_cons f28.one ones_nil)) hL46 0 rfl rfl (Nat.le_of_ble_eq_true rfl) ?_)
          intro w108 (hL47 : Go.X.Loc [] [] w w108 [some b10, some b1, some b6] [Cont.cells [v28, v29], Cont.cells [a_v, a_v1], Cont.cells [b_v, b_v1]]) hS12
          have K45 := ks w hS12
          refine Rl.op (OpY.assign (v := (Value.int .i64 r29.2)) rfl ?_)
          refine Rl.nil (Swp.seq (Swp.region rfl (Rl.op (OpY.ldBoxA (vs := [b_v, b_v1]) Tryd.underlying25 rfl ti25 rfl (hL47.at 2 rfl rfl) rfl rfl ?_))))
          as_aux_lemma =>
           obtain ⟨r30, q30, h⟩ := bind_some h
           have f30 := ((((((f24.mono (K40 S)).mono (K41 S)).mono (K42 S)).mono (K43 S)).mono (K44 S)).mono (K45 S))
           have f31 := ((((((f25.mono (K40 S)).mono (K41 S)).mono (K42 S)).mono (K43 S)).mono (K44 S)).mono (K45 S))
           refine Rl.op (OpY.call en14 rfl rfl (lown_w N b b_v b_v1 _ Any (f30.mono vw_any) (f31.mono vw_any) r30 q30) ?_)
           rintro _ w109 hE105 ⟨v30, v31, rfl, k30, k31, -⟩
           replace k30 := k30.mono (Hv.freshO (S := None) hL47 [])
           replace k31 := k31.mono (Hv.freshO (S := None) hL47 [])
           have hL48 := hL47.ext hE105
           have K46 := ke hL47 hE105
           obtain ⟨r31, q31, h⟩ := bind_some h
           refine Rl.op (OpY.call en22 rfl rfl (aMinimize_w N r30 v30 v31 _ Any (hG.ext hL48.done) (k30.mono vw_any) (k31.mono vw_any) r31 q31) ?_)
           rintro _ w110 hE106 ⟨v32, v33, rfl, k32, k33, -⟩
           replace k32 := k32.mono (Hv.freshO (S := None) hL48 [])
           replace k33 := k33.mono (Hv.freshO (S := None) hL48 [])
           as_aux_lemma =>
            have hL49 := hL48.ext hE106
            have K47 := ke hL48 hE106
            refine Rl.op (OpY.move (v := (Value.tuple #[(Value.agg #[v32, v33]), (Value.int .i64 r31.2)])) rfl ?_)
            refine Rl.op (OpY.extract (vs := [(Value.agg #[v32, v33]), (Value.int .i64 r31.2)]) (v := (Value.agg #[v32, v33])) rfl rfl ?_)
            refine Rl.op (OpY.extract (vs := [(Value.agg #[v32, v33]), (Value.int .i64 r31.2)]) (v := (Value.int .i64 r31.2)) rfl rfl ?_)
            refine Rl.op (OpY.alloc (cs := [(Value.slice none 0 0), (Value.slice none 0 0)]) ti32 rfl hL49 ?_)
            intro b11 w111 hL50 hS13
            have K48 := ks w hS13
            have f32 := (k33.mono (K48 None))
            have f33 := (k32.mono (K48 None))
            refine Rl.op0 (OpY.store (vs := [v32, v33]) ti32 rfl rfl rfl rfl (ones_cons f33.one (ones_cons f32.one ones_nil)) hL50 0 rfl rfl (Nat.le_of_ble_eq_true rfl) ?_)
            intro w112 (hL51 : Go.X.Loc [] [] w w112 [some b11, some b10, some b1, some b6] [Cont.cells [v32, v33], Cont.cells [v28, v29], Cont.cells [a_v, a_v1], Cont.cells [b_v, b_v1]]) hS14
            have K49 := ks w hS14
            refine Rl.op (OpY.assign (v := (Value.int .i64 r31.2)) rfl ?_)
            as_aux_lemma =>
             refine Rl.nil (Swp.seq (Swp.region rfl (Rl.op (OpY.move (v := (Value.int .i64 r29.2)) rfl ?_))))
             refine Rl.op (OpY.eql (x := r29.2) (y := 0) ((r29.2 : Int) = 0) rfl rfl Iff.rfl ?_)
             refine Rl.op (OpY.move (v := (Value.bool (decide ((r29.2 : Int) = 0)))) rfl ?_)
             by_cases hc16 : (r29.2 : Int) = 0
             ·
              replace h := ite_t hc16 h
              refine Rl.yes rfl rfl (decide_eq_true hc16) (OpY.move (v := (Value.int .i64 r31.2)) rfl ?_)
              refine Rl.yes rfl rfl (decide_eq_true hc16) (OpY.eql (x := r31.2) (y := 0) ((r31.2 : Int) = 0) rfl rfl Iff.rfl ?_)
              refine Rl.op (OpY.pick_t (t := (decide ((r29.2 : Int) = 0))) (v := (Value.bool (decide ((r31.2 : Int) = 0)))) rfl (decide_eq_true hc16) rfl ?_)
              refine Rl.op (OpY.move (v := (Value.bool (decide ((r31.2 : Int) = 0)))) rfl ?_)
              by_cases hc17 : (r31.2 : Int) = 0
              ·
               replace h := ite_t hc17 h
               refine Rl.yes rfl rfl (decide_eq_true hc17) (OpY.move (v := (Value.bool r14)) rfl ?_)
               refine Rl.yes rfl rfl (decide_eq_true hc17) (OpY.not (x := r14) rfl ?_)
               refine Rl.yes rfl rfl (decide_eq_true hc17) (OpY.move (v := (Value.bool (!r14))) rfl ?_)
               by_cases hc18 : (!r14) = true
               ·
                replace h := ite_t hc18 h
                refine Rl.no rfl rfl hc18 ?_
                refine Rl.no rfl rfl hc18 ?_
                refine Rl.no rfl rfl hc18 ?_
                refine Rl.no rfl rfl hc18 ?_
                refine Rl.no_undef rfl rfl ?_
                refine Rl.no_undef rfl rfl ?_
                refine Rl.no_undef rfl rfl ?_
                refine Rl.no rfl rfl hc18 ?_
                refine Rl.no rfl rfl hc18 ?_
                refine Rl.no_undef rfl rfl ?_
                refine Rl.no_undef rfl rfl ?_
                refine Rl.no_undef rfl rfl ?_
                refine Rl.no_undef rfl rfl ?_
                refine Rl.no_undef rfl rfl ?_
                refine Rl.no_undef rfl rfl ?_
                refine Rl.no_undef rfl rfl ?_
                refine Rl.no rfl rfl hc18 ?_
                refine Rl.yes rfl rfl (decide_eq_true hc17) (OpY.pick_t (t := (!r14)) (v := (Value.bool true)) rfl hc18 rfl ?_)
                refine Rl.op (OpY.pick_t (t := (decide ((r31.2 : Int) = 0))) (v := (Value.bool true)) rfl (decide_eq_true hc17) rfl ?_)
                refine Rl.op (OpY.assign (v := (Value.bool true)) rfl ?_)
                refine Rl.nil (Swp.ret ?_)
                obtain rfl := Option.some.inj h
                refine ⟨[(Value.bool true)], ⟨rfl, trivial⟩, ⟨_, rfl, hL51.done, ?_⟩⟩
                exact ⟨rfl, trivial⟩
               ·
                replace h := ite_f hc18 h
                refine Rl.yes rfl rfl (eq_false_of_ne_true hc18) (OpY.move (v := (Value.string (s8 r25.1))) rfl ?_)
                refine Rl.yes rfl rfl (eq_false_of_ne_true hc18) (OpY.move (v := (Value.string (s8 r27.1))) rfl ?_)
                refine Rl.yes rfl rfl (eq_false_of_ne_true hc18) (OpY.sEql (x := r25.1) (y := r27.1) rfl rfl ?_)
                refine Rl.yes rfl rfl (eq_false_of_ne_true hc18) (OpY.move (v := (Value.bool (decide (r25.1 = r27.1)))) rfl ?_)
                by_cases hc19 : r25.1 = r27.1
                ·
                 replace h := ite_t hc19 h
                 refine Rl.yes rfl rfl (decide_eq_true hc19) (OpY.move (v := (Value.bool r25.2)) rfl ?_)
                 refine Rl.yes rfl rfl (decide_eq_true hc19) (OpY.move (v := (Value.bool r27.2)) rfl ?_)
                 refine Rl.yes rfl rfl (decide_eq_true hc19) (OpY.eqlBool (x := r25.2) (y := r27.2) Tryd.underlying4 rfl rfl ?_)
                 refine Rl.yes rfl rfl (eq_false_of_ne_true hc18) (OpY.pick_t (t := (decide (r25.1 = r27.1))) (v := (Value.bool (r25.2 == r27.2))) rfl (decide_eq_true hc19) rfl ?_)
                 refine Rl.yes rfl rfl (eq_false_of_ne_true hc18) (OpY.move (v := (Value.bool (r25.2 == r27.2))) rfl ?_)
                 by_cases hc20 : (r25.2 == r27.2) = true
                 ·
                  replace h := ite_t hc20 h
                  refine Rl.yes rfl rfl hc20 (OpY.fieldAddr (q := 0) Tryd.underlying32 rfl ti22 rfl rfl rfl ?_)
                  refine Rl.yes rfl rfl hc20 (OpY.ldBox1 (v := v28) Tryd.underlying22 rfl rfl (hL51.at 1 rfl rfl) rfl ?_)
                  have f34 := (((((f29.mono (K45 None)).mono (K46 None)).mono (K47 None)).mono (K48 None)).mono (K49 None))
                  refine Rl.yes rfl rfl hc20 (OpY.lenRo (v := v28) Tryd.underlying22 rfl f34 ?_)
                  refine Rl.yes rfl rfl hc20 (OpY.fieldAddr (q := 0) Tryd.underlying32 rfl ti22 rfl rfl rfl ?_)
                  refine Rl.yes rfl rfl hc20 (OpY.ldBox1 (v := v32) Tryd.underlying22 rfl rfl (hL51.at 0 rfl rfl) rfl ?_)
                  have f35 := (f33.mono (K49 None))
                  refine Rl.yes rfl rfl hc20 (OpY.lenRo (v := v32) Tryd.underlying22 rfl f35 ?_)
                  refine Rl.yes rfl rfl hc20 (OpY.eql (x := (List.length r29.1.Accept : Int)) (y := (List.length r31.1.Accept : Int)) (((List.length r29.1.Accept : Int) : Int) = (List.length r31.1.Accept : Int)) rfl rfl Iff.rfl ?_)
                  refine Rl.yes rfl rfl (eq_false_of_ne_true hc18) (OpY.pick_t (t := (r25.2 == r27.2)) (v := (Value.bool (decide (((List.length r29.1.Accept : Int) : Int) = (List.length r31.1.Accept : Int))))) rfl hc20 rfl ?_)
                  refine Rl.yes rfl rfl (decide_eq_true hc17) (OpY.pick_f (t := (!r14)) (v := (Value.bool (decide (((List.length r29.1.Accept : Int) : Int) = (List.length r31.1.Accept : Int))))) rfl (eq_false_of_ne_true hc18) rfl ?_)
                  refine Rl.op (OpY.pick_t (t := (decide ((r31.2 : Int) = 0))) (v := (Value.bool (decide (((List.length r29.1.Accept : Int) : Int) = (List.length r31.1.Accept : Int))))) rfl (decide_eq_true hc17) rfl ?_)
                  refine Rl.op (OpY.assign (v := (Value.bool (decide (((List.length r29.1.Accept : Int) : Int) = (List.length r31.1.Accept : Int))))) rfl ?_)
                  refine Rl.nil (Swp.ret ?_)
                  obtain rfl := Option.some.inj h
                  refine ⟨[(Value.bool (decide (((List.length r29.1.Accept : Int) : Int) = (List.length r31.1.Accept : Int))))], ⟨rfl, trivial⟩, ⟨_, rfl, hL51.done, ?_⟩⟩
                  exact ⟨rfl, trivial⟩
                 ·
                  replace h := ite_f hc20 h
                  refine Rl.no rfl rfl (eq_false_of_ne_true hc20) ?_
                  refine Rl.no rfl rfl (eq_false_of_ne_true hc20) ?_
                  refine Rl.no rfl rfl (eq_false_of_ne_true hc20) ?_
                  refine Rl.no rfl rfl (eq_false_of_ne_true hc20) ?_
                  refine Rl.no rfl rfl (eq_false_of_ne_true hc20) ?_
                  refine Rl.no rfl rfl (eq_false_of_ne_true hc20) ?_
                  refine Rl.no rfl rfl (eq_false_of_ne_true hc20) ?_
                  refine Rl.yes rfl rfl (eq_false_of_ne_true hc18) (OpY.pick_f (t := (r25.2 == r27.2)) (v := (Value.bool false)) rfl (eq_false_of_ne_true hc20) rfl ?_)
                  refine Rl.yes rfl rfl (decide_eq_true hc17) (OpY.pick_f (t := (!r14)) (v := (Value.bool false)) rfl (eq_false_of_ne_true hc18) rfl ?_)
                  refine Rl.op (OpY.pick_t (t := (decide ((r31.2 : Int) = 0))) (v := (Value.bool false)) rfl (decide_eq_true hc17) rfl ?_)
                  refine Rl.op (OpY.assign (v := (Value.bool false)) rfl ?_)
                  refine Rl.nil (Swp.ret ?_)
                  obtain rfl := Option.some.inj h
                  refine ⟨[(Value.bool false)], ⟨rfl, trivial⟩, ⟨_, rfl, hL51.done, ?_⟩⟩
                  exact ⟨rfl, trivial⟩
                ·
                 replace h := ite_f hc19 h
                 refine Rl.no rfl rfl (decide_eq_false hc19) ?_
                 refine Rl.no rfl rfl (decide_eq_false hc19) ?_
                 refine Rl.no rfl rfl (decide_eq_false hc19) ?_
                 refine Rl.yes rfl rfl (eq_false_of_ne_true hc18) (OpY.pick_f (t := (decide (r25.1 = r27.1))) (v := (Value.bool false)) rfl (decide_eq_false hc19) rfl ?_)
                 refine Rl.yes rfl rfl (eq_false_of_ne_true hc18) (OpY.move (v := (Value.bool false)) rfl ?_)
                 refine Rl.no rfl rfl rfl ?_
                 refine Rl.no rfl rfl rfl ?_
                 refine Rl.no rfl rfl rfl ?_
                 refine Rl.no rfl rfl rfl ?_
                 refine Rl.no rfl rfl rfl ?_
                 refine Rl.no rfl rfl rfl ?_
                 refine Rl.no rfl rfl rfl ?_
                 refine Rl.yes rfl rfl (eq_false_of_ne_true hc18) (OpY.pick_f (t := false) (v := (Value.bool false)) rfl rfl rfl ?_)
                 refine Rl.yes rfl rfl (decide_eq_true hc17) (OpY.pick_f (t := (!r14)) (v := (Value.bool false)) rfl (eq_false_of_ne_true hc18) rfl ?_)
                 refine Rl.op (OpY.pick_t (t := (decide ((r31.2 : Int) = 0))) (v := (Value.bool false)) rfl (decide_eq_true hc17) rfl ?_)
                 refine Rl.op (OpY.assign (v := (Value.bool false)) rfl ?_)
                 refine Rl.nil (Swp.ret ?_)
                 obtain rfl := Option.some.inj h
                 refine ⟨[(Value.bool false)], ⟨rfl, trivial⟩, ⟨_, rfl, hL51.done, ?_⟩⟩
                 exact ⟨rfl, trivial⟩
              ·
               replace h := ite_f hc17 h
               refine Rl.no rfl rfl (decide_eq_false hc17) ?_
               refine Rl.no rfl rfl (decide_eq_false hc17) ?_
               refine Rl.no rfl rfl (decide_eq_false hc17) ?_
               refine Rl.no_undef rfl rfl ?_
               refine Rl.no_undef rfl rfl ?_
               refine Rl.no_undef rfl rfl ?_
               refine Rl.no_undef rfl rfl ?_
               refine Rl.no_undef rfl rfl ?_
               refine Rl.no_undef rfl rfl ?_
               refine Rl.no_undef rfl rfl ?_
               refine Rl.no_undef rfl rfl ?_
               refine Rl.no_undef rfl rfl ?_
               refine Rl.no_undef rfl rfl ?_
               as_aux_lemma =>
                refine Rl.no_undef rfl rfl ?_
                refine Rl.no_undef rfl rfl ?_
                refine Rl.no_undef rfl rfl ?_
                refine Rl.no_undef rfl rfl ?_
                refine Rl.no_undef rfl rfl ?_
                refine Rl.no_undef rfl rfl ?_
                refine Rl.no_undef rfl rfl ?_
                refine Rl.no rfl rfl (decide_eq_false hc17) ?_
                refine Rl.op (OpY.pick_f (t := (decide ((r31.2 : Int) = 0))) (v := (Value.bool false)) rfl (decide_eq_false hc17) rfl ?_)
                refine Rl.op (OpY.assign (v := (Value.bool false)) rfl ?_)
                refine Rl.nil (Swp.ret ?_)
                obtain rfl := Option.some.inj h
                refine ⟨[(Value.bool false)], ⟨rfl, trivial⟩, ⟨_, rfl, hL51.done, ?_⟩⟩
                exact ⟨rfl, trivial⟩
             ·
              replace h := ite_f hc16 h
              refine Rl.no rfl rfl (decide_eq_false hc16) ?_
              refine Rl.no rfl rfl (decide_eq_false hc16) ?_
              refine Rl.op (OpY.pick_f (t := (decide ((r29.2 : Int) = 0))) (v := (Value.bool false)) rfl (decide_eq_false hc16) rfl ?_)
              refine Rl.op (OpY.move (v := (Value.bool false)) rfl ?_)
              refine Rl.no rfl rfl rfl ?_
              refine Rl.no rfl rfl rfl ?_
              refine Rl.no rfl rfl rfl ?_
              refine Rl.no_undef rfl rfl ?_
              refine Rl.no_undef rfl rfl ?_
              refine Rl.no_undef rfl rfl ?_
              refine Rl.no_undef rfl rfl ?_
              refine Rl.no_undef rfl rfl ?_
              refine Rl.no_undef rfl rfl ?_
              as_aux_lemma =>
               refine Rl.no_undef rfl rfl ?_
               refine Rl.no_undef rfl rfl ?_
               refine Rl.no_undef rfl rfl ?_
               refine Rl.no_undef rfl rfl ?_
               refine Rl.no_undef rfl rfl ?_
               refine Rl.no_undef rfl rfl ?_
               refine Rl.no_undef rfl rfl ?_
               refine Rl.no_undef rfl rfl ?_
               refine Rl.no_undef rfl rfl ?_
               refine Rl.no_undef rfl rfl ?_
               refine Rl.no_undef rfl rfl ?_
               refine Rl.no rfl rfl rfl ?_
               refine Rl.op (OpY.pick_f (t := false) (v := (Value.bool false)) rfl rfl rfl ?_)
               refine Rl.op (OpY.assign (v := (Value.bool false)) rfl ?_)
               refine Rl.nil (Swp.ret ?_)
               obtain rfl := Option.some.inj h
               refine ⟨[(Value.bool false)], ⟨rfl, trivial⟩, ⟨_, rfl, hL51.done, ?_⟩⟩
               exact ⟨rfl, trivial⟩
end Go.Proofs.YtckhldmpcddjmaaDoor.WL

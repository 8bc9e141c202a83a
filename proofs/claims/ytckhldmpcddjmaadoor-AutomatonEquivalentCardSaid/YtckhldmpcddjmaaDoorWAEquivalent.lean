/- Walks, written by a program of mine (wip/tool); the kernel checks them. -/
import Derived.Test.YtckhldmpcddjmaaDoorWAEquivalentx0
set_option maxRecDepth 100000
set_option maxHeartbeats 40000000
set_option linter.unusedVariables false
set_option linter.unusedSimpArgs false
namespace Go.Proofs.YtckhldmpcddjmaaDoor.WA
open Go Go.RowKit Go.X Go.D Go.Proofs.YtckhldmpcddjmaaDoor.WF 
theorem aEquivalent_w (N : Nat) (a : ADfa) (b : ADfa) (a_v : Value) (a_v1 : Value) (b_v : Value) (b_v1 : Value) (w : World) (S : Nat → Prop) (a_h : Rs rBool (Hv w.heap.size S [] w) a_v a.Accept) (a_h1 : Rs (rSl rAEdge) (Hv w.heap.size S [] w) a_v1 a.Edges) (b_h : Rs rBool (Hv w.heap.size S [] w) b_v b.Accept) (b_h1 : Rs (rSl rAEdge) (Hv w.heap.size S [] w) b_v1 b.Edges) (r : Bool) (h : aEquivalent N a b = some r) :
  Calls Tryd.prog 26 #[(Value.agg #[a_v, a_v1]), (Value.agg #[b_v, b_v1])] w (Ret w (fun v w' => (Value.bool r) = v ∧ True)) := by
 unfold aEquivalent at h
 have hL : Go.X.Loc [] [] w w [] [] := Go.X.Loc.begin0 w
 refine calls_of (l := [(Value.agg #[a_v, a_v1]), (Value.agg #[b_v, b_v1])]) (rl := [.tmp 4]) (n := 55) Tryd.func26 rfl rfl rfl (Nat.le_of_ble_eq_true rfl) ?_
 refine Swp.seq (Swp.region rfl (Rl.op (OpY.box (cs := [a_v, a_v1]) rfl rfl hL ?_)))
 intro b1 w2 hL3 hS5
 have K4 := ks w hS5
 refine Rl.op (OpY.box (cs := [b_v, b_v1]) rfl rfl hL3 ?_)
 intro b6 w7 hL8 hS10
 have K9 := ks w hS10
 refine Rl.op (OpY.assign (v := (Value.bool false)) rfl ?_)
 refine Rl.nil (Swp.seq (Swp.region rfl (Rl.op (OpY.makeMap (kf := (fun x : APair => Value.agg #[Value.int .i64 x.a, Value.int .i64 x.b])) (vf := (fun x : Bool => Value.bool x)) hL8 ?_))))
 intro b10 w10 hL10 hS11
 have K10 := ks w hS11
 refine Rl.op (OpY.build (zc := [(Value.int .i64 0), (Value.int .i64 0)]) (cs := [(Value.int .i64 0), (Value.int .i64 0)]) (is := []) (vs := []) (css := []) pl90 ti90 rfl rfl rfl trivial rfl ?_)
 refine Rl.op0 (OpY.mapIns (kf := (fun x : APair => Value.agg #[Value.int .i64 x.a, Value.int .i64 x.b])) (vf := (fun x : Bool => Value.bool x)) (m := ([] : (List (APair × Bool)))) (x := (APair.mk 0 0)) (y := true) mky_90 Tryd.underlying91 rfl rfl rfl hL10 0 rfl rfl ?_)
 intro w11 (hL11 : Go.X.Loc [] [] w w11 [some b10, some b6, some b1] [(mcont (fun x : APair => Value.agg #[Value.int .i64 x.a, Value.int .i64 x.b]) (fun x : Bool => Value.bool x) (mput ([] : (List (APair × Bool))) (APair.mk 0 0) true)), Cont.cells [b_v, b_v1], Cont.cells [a_v, a_v1]]) hS12
 have K11 := ks w hS12
 refine Rl.op (OpY.move (v := (Value.map (some b10))) rfl ?_)
 refine Rl.op (OpY.assign (v := (Value.map (some b10))) rfl ?_)
 refine Rl.nil (Swp.seq (Swp.seq (Swp.region rfl (Rl.op (OpY.build (zc := [(Value.int .i64 0), (Value.int .i64 0)]) (cs := [(Value.int .i64 0), (Value.int .i64 0)]) (is := []) (vs := []) (css := []) pl90 ti90 rfl rfl rfl trivial rfl ?_)))))
 have hE10 : Els rAPair (Hv w.heap.size None [some b10, some b6, some b1] w11) [(Value.int .i64 0), (Value.int .i64 0)] [(APair.mk 0 0)] := (Els.cons (a := [(Value.int .i64 0), (Value.int .i64 0)]) (rAPair_close ⟨rfl, trivial⟩) Els.nil)
 refine Rl.op (OpY.litRow (r := rAPair) (vs := [(Value.agg #[(Value.int .i64 0), (Value.int .i64 0)])]) (css := [[(Value.int .i64 0), (Value.int .i64 0)]]) (xs := [(APair.mk 0 0)]) Tryd.underlying92 ti90 (Nat.le_of_ble_eq_true rfl) rfl rfl ⟨rfl, rfl, trivial⟩ (Nat.le_of_ble_eq_true rfl) hE10 rfl hL11 ?_)
 intro b11 w12 hc10 hL12 hS13
 have K12 := ks w hS13
 refine Rl.op (OpY.assign (v := (osv (some b11) 0 1 1)) rfl ?_)
 refine Rl.nil ?_
 obtain ⟨s10, hl10, g10⟩ := bind_some h
 refine Swp.join (fun e w' => ∃  (u : Env), (Sum.inl ()) = s10 ∧ e = upds [] u ∧ Go.X.Loc [] [] w w' [] [] ∧ Keep w.heap.size [some b11, some b10, some b6, some b1] w12 [] w' ∧ True) ?_ ?_
 ·
  refine Swp.block ?_
  have hp10 := hL12.pick [3, 2, 1, 0] rfl rfl rfl
  have hL13 : Go.X.Loc [] [] w w12 [some b1, some b6, some b10, some b11] [Cont.cells [a_v, a_v1], Cont.cells [b_v, b_v1], (mcont (fun x : APair => Value.agg #[Value.int .i64 x.a, Value.int .i64 x.b]) (fun x : Bool => Value.bool x) (mput ([] : (List (APair × Bool))) (APair.mk 0 0) true)), Cont.cells ([] ++ ([(Value.int .i64 0), (Value.int .i64 0)] ++ []))] := hp10.1
  have K13 := ks w hp10.2
  have f10 := ((hE10.mono (K12 None)).mono (K13 None))
  refine Swp.loopM hl10 (fun (ss : ((List (APair × Bool)) × (List APair))) (e : Env) (w' : World) => match ss with | (seen10, queue10) => ∃ (ob10 : Option Nat) (cap10 : Nat) (sp10 : List Value) (cs10 : List Value) (pre10 : List Value) (v10 : Value) (ln10 : Nat) (u : Env), e = upds [(2, (Value.pointer (some ⟨b1, 0, none⟩))), (3, (Value.pointer (some ⟨b6, 0, none⟩))), (5, (Value.map (some b10))), (6, v10)] u ∧ Go.X.Loc [] [] w w' [some b1, some b6, some b10, ob10] [Cont.cells [a_v, a_v1], Cont.cells [b_v, b_v1], (mcont (fun x : APair => Value.agg #[Value.int .i64 x.a, Value.int .i64 x.b]) (fun x : Bool => Value.bool x) seen10), Cont.cells (pre10 ++ (cs10 ++ sp10))] ∧ Keep w.heap.size [some b11, some b10, some b6, some b1] w12 [some b1, some b6, some b10, ob10] w' ∧ Els rAPair (Hv w.heap.size None [some b1, some b6, some b10, ob10] w') cs10 queue10 ∧ ln10 = List.length queue10 ∧ (cs10 ++ sp10).length = cap10 * rAPair.sz ∧ Fv v10 ob10 (List.length pre10) (List.length queue10) cap10 ∧ True) ⟨some b11, 1, [], [(Value.int .i64 0), (Value.int .i64 0)], [], (osv (some b11) 0 1 1), 1, _, (upds_sym ⟨rfl, rfl, rfl, rfl, trivial⟩), hL13, K13, f10, rfl, hc10, Fv.of, trivial⟩ ?_
  rintro ⟨seen10, queue10⟩ oo _ w13 ⟨ob10, cap10, sp10, cs10, pre10, v10, ln10, u, rfl, hL14, K14, hE11, rfl, hc11, hv10, -⟩ h hd10
  rw [aEquivalent_b1] at h
  refine Swp.seq (Swp.seq (Swp.region rfl (Rl.op (OpY.move (v := v10) rfl ?_))))
  refine Rl.op (OpY.lenQ (pre := pre10) (r := rAPair) (xs := queue10) Tryd.underlying92 rfl hv10 (hL14.at 3 rfl rfl) hE11 rfl rfl ?_)
  refine Rl.op (OpY.gtr (x := (List.length queue10 : Int)) (y := 0) (((List.length queue10 : Int) : Int) > 0) rfl rfl Iff.rfl ?_)
  refine Rl.nil ?_
  refine Swp.cond_d (((List.length queue10 : Int) : Int) > 0) rfl (fun hc12 => ?_) (fun hc12 => ?_)
  ·
   replace h := ite_t hc12 h
   refine Swp.skip (Swp.seq ?_)
   obtain ⟨s11, h, g11⟩ := bind_some h
   refine Swp.join (fun e w' => ∃ (seen11 : (List (APair × Bool))) (queue11 : (List APair)) (ob11 : Option Nat) (cap11 : Nat) (sp11 : List Value) (cs11 : List Value) (pre11 : List Value) (v11 : Value) (ln11 : Nat) (u : Env), (Sum.inl (seen11, queue11)) = s11 ∧ e = upds [(2, (Value.pointer (some ⟨b1, 0, none⟩))), (3, (Value.pointer (some ⟨b6, 0, none⟩))), (5, (Value.map (some b10))), (6, v11)] u ∧ Go.X.Loc [] [] w w' [some b1, some b6, some b10, ob11] [Cont.cells [a_v, a_v1], Cont.cells [b_v, b_v1], (mcont (fun x : APair => Value.agg #[Value.int .i64 x.a, Value.int .i64 x.b]) (fun x : Bool => Value.bool x) seen11), Cont.cells (pre11 ++ (cs11 ++ sp11))] ∧ Keep w.heap.size [some b1, some b6, some b10, ob10] w13 [some b1, some b6, some b10, ob11] w' ∧ Els rAPair (Hv w.heap.size None [some b1, some b6, some b10, ob11] w') cs11 queue11 ∧ ln11 = List.length queue11 ∧ (cs11 ++ sp11).length = cap11 * rAPair.sz ∧ Fv v11 ob11 (List.length pre11) (List.length queue11) cap11 ∧ True) ?_ ?_
   ·
    refine Swp.block (Swp.seq (Swp.region rfl (Rl.op (OpY.move (v := v10) rfl ?_))))
    obtain ⟨x10, q10, h⟩ := bind_some h
    obtain ⟨n10, q11, q12⟩ := idx_some q10
    have q13 := (List.getElem?_eq_some_iff.1 q12).1
    obtain ⟨b12, hb10⟩ := hL14.row_some 3 rfl rfl (row_pos (pre := pre10) hE11 q12 (Nat.lt_of_sub_eq_succ rfl))
    refine Rl.op (OpY.ixQ (r := rAPair) (b := b12) (n := n10) (m := (List.length queue10)) (xs := queue10) (q := (List.length pre10 + n10 * rAPair.sz)) Tryd.underlying92 ti90 rfl hv10 hb10 rfl rfl q11 q13 rfl ?_)
    obtain ⟨vs10, q14, q15, q16⟩ := row_elem (pre := pre10) (sp := sp10) hE11 q12
    obtain ⟨rfl, -⟩ := rAPair_open q15
    refine Rl.op (OpY.ldBoxA (vs := [(Value.int .i64 x10.a), (Value.int .i64 x10.b)]) Tryd.underlying90 rfl ti90 rfl (own_some hb10 (hL14.at 3 rfl rfl)) rfl q16 ?_)
    refine Rl.op (OpY.alloc (cs := [(Value.int .i64 0), (Value.int .i64 0)]) ti90 rfl hL14 ?_)
    intro b13 w14 hL15 hS14
    have K15 := ks w hS14
    refine Rl.op0 (OpY.store (vs := [(Value.int .i64 x10.a), (Value.int .i64 x10.b)]) ti90 rfl rfl rfl rfl (ones_cons rfl (ones_cons rfl ones_nil)) hL15 0 rfl rfl (Nat.le_of_ble_eq_true rfl) ?_)
    intro w15 (hL16 : Go.X.Loc [] [] w w15 [some b13, some b1, some b6, some b10, ob10] [Cont.cells [(Value.int .i64 x10.a), (Value.int .i64 x10.b)], Cont.cells [a_v, a_v1], Cont.cells [b_v, b_v1], (mcont (fun x : APair => Value.agg #[Value.int .i64 x.a, Value.int .i64 x.b]) (fun x : Bool => Value.bool x) seen10), Cont.cells (pre10 ++ (cs10 ++ sp10))]) hS15
    have K16 := ks w hS15
    refine Rl.nil (Swp.seq (Swp.seq ?_))
    obtain ⟨r10, q17, h⟩ := bind_some h
    refine Swp.drawL 5 [] [] (fun W1 => [.det (Value.pointer (some ⟨b13, 0, none⟩)), .det (Value.int .i64 x10.a), .det (Value.bool r10), .det (Value.pointer (some ⟨b13, 1, none⟩)), .det (Value.int .i64 x10.b)]) mixed rfl rfl rfl (fun _ => rfl) (fun _ => rfl) ?_ ?_
    ·
     intro W1 _
     exact trivial
    ·
     intro w16 hE12
     have hL17 := hL16.ext hE12
     have K17 := ke hL16 hE12
     refine DrH.de (fun _ _ => GOp.op (OpY.fieldAddr Tryd.underlying90 rfl ti3 rfl rfl rfl (er rfl))) ?_
     refine DrH.de (fun _ hE14 => GOp.op (OpY.ldBox1 Tryd.underlying3 rfl rfl ((hL17.ext hE14).at 0 rfl rfl) rfl (er rfl))) ?_
     refine DrH.det ?_ ?_
     ·
      rintro w19 Z16 hE15 hZ12 ⟨-⟩
      have hL19 := hL17.ext hE15
      have K18 := ke hL17 hE15
      refine GOp.op (OpY.call en40 rfl rfl (aFinal_w N a x10.a b1 a_v a_v1 _ Any (own_any (hL19.at 1 rfl rfl)) (((((((((((a_h.mono (K4 S)).mono (K9 S)).mono (K10 S)).mono (K11 S)).mono (K12 S)).mono (K14 S)).mono (K15 S)).mono (K16 S)).mono (K17 S)).mono (K18 S)).mono vw_any) (((((((((((a_h1.mono (K4 S)).mono (K9 S)).mono (K10 S)).mono (K11 S)).mono (K12 S)).mono (K14 S)).mono (K15 S)).mono (K16 S)).mono (K17 S)).mono (K18 S)).mono vw_any) r10 q17) ?_)
      rintro _ w20 hE16 ⟨rfl, -⟩
      exact ⟨hE16, rfl⟩
     refine DrH.de (fun _ _ => GOp.op (OpY.fieldAddr Tryd.underlying90 rfl ti3 rfl rfl rfl (er rfl))) ?_
     refine DrH.de (fun _ hE18 => GOp.op (OpY.ldBox1 Tryd.underlying3 rfl rfl ((hL17.ext hE18).at 0 rfl rfl) rfl (er rfl))) ?_
     refine DrH.fin0 ?_
     rintro w23 Z19 hE19 hZ15 ⟨-⟩ ap10
     have hB10 : ∀ b, some b ∈ ([] : List (Option Nat)) → w16.heap.size ≤ b ∧ ¬ Z19 b := by
      intro b hb; cases hb
     have hL21 := hL17.ext hE19
     have K19 := ke hL17 hE19
     obtain ⟨r11, q18, h⟩ := bind_some h
     have f11 := ((((((((((b_h.mono (K4 S)).mono (K9 S)).mono (K10 S)).mono (K11 S)).mono (K12 S)).mono (K14 S)).mono (K15 S)).mono (K16 S)).mono (K17 S)).mono (K19 S))
     have f12 := ((((((((((b_h1.mono (K4 S)).mono (K9 S)).mono (K10 S)).mono (K11 S)).mono (K12 S)).mono (K14 S)).mono (K15 S)).mono (K16 S)).mono (K17 S)).mono (K19 S))
     refine Rl.op (OpY.call en40 rfl rfl (aFinal_w N b x10.b b6 b_v b_v1 _ Any (own_any (hL21.at 2 rfl rfl)) (f11.mono vw_any) (f12.mono vw_any) r11 q18) ?_)
     rintro _ w24 hE20 ⟨rfl, -⟩
     have hL22 := hL21.ext hE20
     have K20 := ke hL21 hE20
     refine Rl.op (OpY.neqBool (x := r10) (y := r11) Tryd.underlying4 rfl rfl ?_)
     refine Rl.nil ?_
     refine Swp.cond_b (!(r10 == r11)) rfl (fun hc13 => ?_) (fun hc13 => ?_)
     ·
      replace h := ite_t hc13 h
      refine Swp.seq (Swp.region rfl (Rl.op (OpY.assign (v := (Value.bool false)) rfl ?_)))
      refine Rl.nil (Swp.ret ?_)
      obtain rfl := Option.some.inj h
      replace h := g11
      try dsimp only at h
      obtain rfl := Option.some.inj h
      obtain rfl := hd10 _ rfl
      replace h := g10
      try dsimp only at h
      obtain rfl := Option.some.inj h
      refine ⟨[(Value.bool false)], ⟨rfl, trivial⟩, ⟨_, rfl, hL22.done, ?_⟩⟩
      exact ⟨rfl, trivial⟩
     ·
      replace h := ite_f hc13 h
      refine Swp.skip (Swp.seq (Swp.region rfl (Rl.op (OpY.assign (v := (Value.int .i64 32)) rfl ?_))))
      refine Rl.nil ?_
      obtain ⟨s12, hl11, g12⟩ := bind_some h
      refine Swp.join (fun e w' => ∃ (seen12 : (List (APair × Bool))) (queue12 : (List APair)) (ob12 : Option Nat) (cap12 : Nat) (sp12 : List Value) (cs12 : List Value) (pre12 : List Value) (v12 : Value) (ln12 : Nat) (u : Env), (seen12, queue12) = s12 ∧ e = upds [(2, (Value.pointer (some ⟨b1, 0, none⟩))), (3, (Value.pointer (some ⟨b6, 0, none⟩))), (5, (Value.map (some b10))), (6, v12)] u ∧ Go.X.Loc [] [] w w' [some b1, some b6, some b10, ob12] [Cont.cells [a_v, a_v1], Cont.cells [b_v, b_v1], (mcont (fun x : APair => Value.agg #[Value.int .i64 x.a, Value.int .i64 x.b]) (fun x : Bool => Value.bool x) seen12), Cont.cells (pre12 ++ (cs12 ++ sp12))] ∧ Keep w.heap.size [some b13, some b1, some b6, some b10, ob10] w24 [some b1, some b6, some b10, ob12] w' ∧ Els rAPair (Hv w.heap.size None [some b1, some b6, some b10, ob12] w') cs12 queue12 ∧ ln12 = List.length queue12 ∧ (cs12 ++ sp12).length = cap12 * rAPair.sz ∧ Fv v12 ob12 (List.length pre12) (List.length queue12) cap12 ∧ True) ?_ ?_
      ·
       refine Swp.block ?_
       have hp11 := hL22.pick [1, 2, 3, 4, 0] rfl rfl rfl
       have hL23 : Go.X.Loc [] [] w w24 [some b1, some b6, some b10, ob10, some b13] [Cont.cells [a_v, a_v1], Cont.cells [b_v, b_v1], (mcont (fun x : APair => Value.agg #[Value.int .i64 x.a, Value.int .i64 x.b]) (fun x : Bool => Value.bool x) seen10), Cont.cells (pre10 ++ (cs10 ++ sp10)), Cont.cells [(Value.int .i64 x10.a), (Value.int .i64 x10.b)]] := hp11.1
       have K21 := ks w hp11.2
       have f13 := ((((((hE11.mono (K15 None)).mono (K16 None)).mono (K17 None)).mono (K19 None)).mono (K20 None)).mono (K21 None))
       refine Swp.loopM hl11 (fun (ss : ((List (APair × Bool)) × (List APair) × Int)) (e : Env) (w' : World) => match ss with | (seen13, queue13, c10) => ∃ (ob13 : Option Nat) (cap13 : Nat) (sp13 : List Value) (cs13 : List Value) (pre13 : List Value) (v13 : Value) (ln13 : Nat) (u : Env), e = upds [(2, (Value.pointer (some ⟨b1, 0, none⟩))), (3, (Value.pointer (some ⟨b6, 0, none⟩))), (5, (Value.map (some b10))), (6, v13), (7, (Value.pointer (some ⟨b13, 0, none⟩))), (8, (Value.int .i64 c10))] u ∧ Go.X.Loc [] [] w w' [some b1, some b6, some b10, ob13, some b13] [Cont.cells [a_v, a_v1], Cont.cells [b_v, b_v1], (mcont (fun x : APair => Value.agg #[Value.int .i64 x.a, Value.int .i64 x.b]) (fun x : Bool => Value.bool x) seen13), Cont.cells (pre13 ++ (cs13 ++ sp13)), Cont.cells [(Value.int .i64 x10.a), (Value.int .i64 x10.b)]] ∧ Keep w.heap.size [some b13, some b1, some b6, some b10, ob10] w24 [some b1, some b6, some b10, ob13, some b13] w' ∧ Els rAPair (Hv w.heap.size None [some b1, some b6, some b10, ob13, some b13] w') cs13 queue13 ∧ ln13 = List.length queue13 ∧ (cs13 ++ sp13).length = cap13 * rAPair.sz ∧ Fv v13 ob13 (List.length pre13) (List.length queue13) cap13 ∧ True) ⟨ob10, cap10, sp10, cs10, pre10, v10, (List.length queue10), _, (upds_sym ⟨rfl, rfl, rfl, rfl, rfl, rfl, trivial⟩), hL23, K21, f13, rfl, hc11, hv10, trivial⟩ ?_
       rintro ⟨seen13, queue13, c10⟩ oo _ w25 ⟨ob13, cap13, sp13, cs13, pre13, v13, ln13, u, rfl, hL24, K22, hE21, rfl, hc14, hv11, -⟩ h hd11
       rw [aEquivalent_b2] at h
       refine Swp.seq (Swp.seq (Swp.region rfl (Rl.op (OpY.move (v := (Value.int .i64 c10)) rfl ?_))))
       refine Rl.op (OpY.leq (x := c10) (y := 126) ((c10 : Int) ≤ 126) rfl rfl Iff.rfl ?_)
       refine Rl.nil ?_
       refine Swp.cond_d ((c10 : Int) ≤ 126) rfl (fun hc15 => ?_) (fun hc15 => ?_)
       ·
        replace h := ite_t hc15 h
        refine Swp.skip (Swp.seq (Swp.block (Swp.seq ?_)))
        obtain ⟨r12, q19, h⟩ := bind_some h
        obtain ⟨r13, q20, h⟩ := bind_some h
        refine Swp.drawL 12 [] [] (fun W1 => [.det (Value.pointer (some ⟨b13, 0, none⟩)), .det (Value.int .i64 x10.a), .det (Value.int .i64 c10), .det (Value.int .u8 (uw8 c10)), .det (Value.int .i64 r12), .det (Value.pointer (some ⟨b13, 1, none⟩)), .det (Value.int .i64 x10.b), .det (Value.int .i64 c10), .det (Value.int .u8 (uw8 c10)), .det (Value.int .i64 r13), .det (Value.agg #[(Value.int .i64 r12), (Value.int .i64 r13)]), .rel (fun v Z w' => ∃ b14, (Value.pointer (some ⟨b14, 0, none⟩)) = v ∧ OwnC w' (some b14) (Cont.cells [(Value.int .i64 0), (Value.int .i64 0)]) ∧ True) footV]) mixed rfl rfl rfl (fun _ => rfl) (fun _ => rfl) ?_ ?_
        ·
         intro W1 _
         exact ⟨fun v Z Z' w w' hΦ hz _ _ hs => by obtain ⟨b14, rfl, hO10, -⟩ := hΦ; exact ⟨b14, rfl, (hO10.stay (fun b hb => by cases hb; exact List.mem_cons_self) hs), trivial⟩, trivial⟩
        ·
         intro w26 hE22
         have hL25 := hL24.ext hE22
         have K23 := ke hL24 hE22
         refine DrH.de (fun _ _ => GOp.op (OpY.fieldAddr Tryd.underlying90 rfl ti3 rfl rfl rfl (er rfl))) ?_
         refine DrH.de (fun _ hE24 => GOp.op (OpY.ldBox1 Tryd.underlying3 rfl rfl ((hL25.ext hE24).at 4 rfl rfl) rfl (er rfl))) ?_
         refine DrH.de (fun _ _ => GOp.op (OpY.move rfl (er rfl))) ?_
         refine DrH.de (fun _ _ => GOp.op (OpY.convInt Tryd.underlying3 Tryd.underlying5 rfl rfl (er rfl))) ?_
         refine DrH.det ?_ ?_
         ·
          rintro w31 Z24 hE27 hZ20 ⟨-⟩
          have hL27 := hL25.ext hE27
          have K24 := ke hL25 hE27
          refine GOp.op (OpY.call en39 rfl rfl (aStep_w N a x10.a (uw8 c10) b1 a_v a_v1 _ Any (own_any (hL27.at 0 rfl rfl)) (((((((((((((((a_h.mono (K4 S)).mono (K9 S)).mono (K10 S)).mono (K11 S)).mono (K12 S)).mono (K14 S)).mono (K15 S)).mono (K16 S)).mono (K17 S)).mono (K19 S)).mono (K20 S)).mono (K22 S)).mono (K23 S)).mono (K24 S)).mono vw_any) (((((((((((((((a_h1.mono (K4 S)).mono (K9 S)).mono (K10 S)).mono (K11 S)).mono (K12 S)).mono (K14 S)).mono (K15 S)).mono (K16 S)).mono (K17 S)).mono (K19 S)).mono (K20 S)).mono (K22 S)).mono (K23 S)).mono (K24 S)).mono vw_any) r12 q19) ?_)
          rintro _ w32 hE28 ⟨rfl, -⟩
          exact ⟨hE28, rfl⟩
         refine DrH.de (fun _ _ => GOp.op (OpY.fieldAddr Tryd.underlying90 rfl ti3 rfl rfl rfl (er rfl))) ?_
         refine DrH.de (fun _ hE30 => GOp.op (OpY.ldBox1 Tryd.underlying3 rfl rfl ((hL25.ext hE30).at 4 rfl rfl) rfl (er rfl))) ?_
         refine DrH.de (fun _ _ => GOp.op (OpY.move rfl (er rfl))) ?_
         refine DrH.de (fun _ _ => GOp.op (OpY.convInt Tryd.underlying3 Tryd.underlying5 rfl rfl (er rfl))) ?_
         refine DrH.det ?_ ?_
         ·
          rintro w37 Z29 hE33 hZ25 ⟨-⟩
          have hL29 := hL25.ext hE33
          have K25 := ke hL25 hE33
          refine GOp.op (OpY.call en39 rfl rfl (aStep_w N b x10.b (uw8 c10) b6 b_v b_v1 _ Any (own_any (hL29.at 1 rfl rfl)) (((((f11.mono (K20 S)).mono (K22 S)).mono (K23 S)).mono (K25 S)).mono vw_any) (((((f12.mono (K20 S)).mono (K22 S)).mono (K23 S)).mono (K25 S)).mono vw_any) r13 q20) ?_)
          rintro _ w38 hE34 ⟨rfl, -⟩
          exact ⟨hE34, rfl⟩
         refine DrH.de (fun _ _ => GOp.op (OpY.build (zc := [(Value.int .i64 0), (Value.int .i64 0)]) (cs := [(Value.int .i64 r12), (Value.int .i64 r13)]) (is := [0, 1]) (vs := [(Value.int .i64 r12), (Value.int .i64 r13)]) (css := [[(Value.int .i64 r12)], [(Value.int .i64 r13)]]) pl90 ti90 rfl rfl rfl ⟨rfl, rfl, trivial⟩ rfl (er rfl))) ?_
         refine DrH.rel ?_ ?_
         ·
          rintro w40 Z31 hE36 hZ27 ⟨-⟩
          refine GOp.op (OpY.alloc (cs := [(Value.int .i64 0), (Value.int .i64 0)]) ti90 rfl (Go.X.Loc.begin0 w40) ?_)
          intro b14 w41 hL30 hS16
          have hN10 : NewOwn w40 w41 [some b14] [Cont.cells [(Value.int .i64 0), (Value.int .i64 0)]] := hL30.newOwn [0] rfl rfl rfl
          exact Made.ext hL30.done hZ27 hN10 (fun _ h => h) ⟨b14, rfl, hN10.2.2.1, trivial⟩
         intro z10
         refine DrH.fin0 ?_
         rintro w42 Z32 hE37 hZ28 ⟨⟨⟨b14, rfl, hO10, -⟩, hB11⟩, -⟩ ap11
         have hB12 : ∀ b, some b ∈ ([some b14] : List (Option Nat)) → w26.heap.size ≤ b ∧ ¬ Z32 b := by
          intro b hb
          rcases List.mem_cons.1 hb with hb' | hb
          ·
           have := hB11 b (by rw [hb']; exact List.mem_cons_self); exact ⟨this.1, this.2.2⟩
          cases hb
         have hN11 : NewOwn w26 w42 [some b14] [Cont.cells [(Value.int .i64 0), (Value.int .i64 0)]] := (NewOwn.cons NewOwn.nil hO10 (fun b hb => (hB12 b (by rw [← hb]; simp)).1) (fun b _ hb => by cases hb))
         have hp12 := hL25.adoptL hE37 hN11
         have hL31 := hp12.1
         have K26 := ks w hp12.2
         refine Rl.op0 (OpY.store (vs := [(Value.int .i64 r12), (Value.int .i64 r13)]) ti90 rfl rfl rfl rfl (ones_cons rfl (ones_cons rfl ones_nil)) hL31 0 rfl rfl (Nat.le_of_ble_eq_true rfl) ?_)
         intro w43 (hL32 : Go.X.Loc [] [] w w43 [some b14, some b1, some b6, some b10, ob13, some b13] [Cont.cells [(Value.int .i64 r12), (Value.int .i64 r13)], Cont.cells [a_v, a_v1], Cont.cells [b_v, b_v1], (mcont (fun x : APair => Value.agg #[Value.int .i64 x.a, Value.int .i64 x.b]) (fun x : Bool => Value.bool x) seen13), Cont.cells (pre13 ++ (cs13 ++ sp13)), Cont.cells [(Value.int .i64 x10.a), (Value.int .i64 x10.b)]]) hS17
         have K27 := ks w hS17
         refine Rl.nil (Swp.seq (Swp.region rfl (Rl.op (OpY.move (v := (Value.map (some b10))) rfl ?_))))
         refine Rl.op (OpY.ldBoxA (vs := [(Value.int .i64 r12), (Value.int .i64 r13)]) Tryd.underlying90 rfl ti90 rfl (hL32.at 0 rfl rfl) rfl rfl ?_)
         refine Rl.op (OpY.look0 (kf := (fun x : APair => Value.agg #[Value.int .i64 x.a, Value.int .i64 x.b])) (vf := (fun x : Bool => Value.bool x)) (m := seen13) (x := (APair.mk r12 r13)) (z := false) mky_90 Tryd.underlying91 ti4 rfl (hL32.at 3 rfl rfl) rfl ?_)
         refine Rl.op (OpY.not (x := (mget seen13 (APair.mk r12 r13) false).1) rfl ?_)
         refine Rl.nil ?_
         refine Swp.cond_b (!(mget seen13 (APair.mk r12 r13) false).1) rfl (fun hc16 => ?_) (fun hc16 => ?_)
         ·
          replace h := ite_t hc16 h
          refine Swp.seq (Swp.region rfl (Rl.op (OpY.move (v := (Value.map (some b10))) rfl ?_)))
          refine Rl.op (OpY.ldBoxA (vs := [(Value.int .i64 r12), (Value.int .i64 r13)]) Tryd.underlying90 rfl ti90 rfl (hL32.at 0 rfl rfl) rfl rfl ?_)
          refine Rl.op0 (OpY.mapPut (kf := (fun x : APair => Value.agg #[Value.int .i64 x.a, Value.int .i64 x.b])) (vf := (fun x : Bool => Value.bool x)) (m := seen13) (x := (APair.mk r12 r13)) (y := true) mky_90 Tryd.underlying91 rfl rfl rfl hL32 3 rfl rfl ?_)
          intro w44 (hL33 : Go.X.Loc [] [] w w44 [some b14, some b1, some b6, some b10, ob13, some b13] [Cont.cells [(Value.int .i64 r12), (Value.int .i64 r13)], Cont.cells [a_v, a_v1], Cont.cells [b_v, b_v1], (mcont (fun x : APair => Value.agg #[Value.int .i64 x.a, Value.int .i64 x.b]) (fun x : Bool => Value.bool x) (mput seen13 (APair.mk r12 r13) true)), Cont.cells (pre13 ++ (cs13 ++ sp13)), Cont.cells [(Value.int .i64 x10.a), (Value.int .i64 x10.b)]]) hS18
          have K28 := ks w hS18
          refine Rl.nil (Swp.region rfl (Rl.op (OpY.move (v := v13) rfl ?_)))
          refine Rl.op (OpY.ldBoxA (vs := [(Value.int .i64 r12), (Value.int .i64 r13)]) Tryd.underlying90 rfl ti90 rfl (hL33.at 0 rfl rfl) rfl rfl ?_)
          have hE38 : Els rAPair (Hv w.heap.size None [some b14, some b1, some b6, some b10, ob13, some b13] w44) [(Value.int .i64 r12), (Value.int .i64 r13)] [(APair.mk r12 r13)] := (Els.cons (a := [(Value.int .i64 r12), (Value.int .i64 r13)]) (rAPair_close ⟨rfl, trivial⟩) Els.nil)
          refine Rl.op (OpY.litRow (r := rAPair) (vs := [(Value.agg #[(Value.int .i64 r12), (Value.int .i64 r13)])]) (css := [[(Value.int .i64 r12), (Value.int .i64 r13)]]) (xs := [(APair.mk r12 r13)]) Tryd.underlying92 ti90 (Nat.le_of_ble_eq_true rfl) rfl rfl ⟨rfl, rfl, trivial⟩ (Nat.le_of_ble_eq_true rfl) hE38 rfl hL33 ?_)
          intro b15 w45 hc17 hL34 hS19
          have K29 := ks w hS19
          obtain ⟨x11, q21, h⟩ := bind_some h
          obtain ⟨q22, q23, q24⟩ := apnd_some q21
          have f14 := (hE38.mono (K29 None))
          have f15 := (((((hE21.mono (K23 None)).mono (K26 None)).mono (K27 None)).mono (K28 None)).mono (K29 None))
          refine Rl.op (OpY.apQ (r := rAPair) (H := (Hv w.heap.size None [some b15, some b14, some b1, some b6, some b10, ob13, some b13] w45)) (pre := pre13) (cs := cs13) (sp := sp13) (xs := queue13) (ys := [(APair.mk r12 r13)]) (Y := x11) (n := (List.length queue13)) (cap := cap13) (i := 5) Tryd.underlying92 ti90 rfl rfl rfl hv11 rfl hL34 rfl rfl f15 rfl hc14 (Src.row (pre := []) (o := 0) (n := 1) (cap := 1) (hL34.at 0 rfl rfl) f14 rfl rfl rfl) (Els.anyH (fun _ _ _ _ h => h) f14) (Nat.le_of_ble_eq_true rfl) q22 q23 q24 ?_)
          intro v14 ob14 pre14 cap14 sp14 cs14 w46 hv12 hE39 hc18 (hL35 : Go.X.Loc [] [] w w46 [some b15, some b14, some b1, some b6, some b10, ob14, some b13] [Cont.cells ([] ++ ([(Value.int .i64 r12), (Value.int .i64 r13)] ++ [])), Cont.cells [(Value.int .i64 r12), (Value.int .i64 r13)], Cont.cells [a_v, a_v1], Cont.cells [b_v, b_v1], (mcont (fun x : APair => Value.agg #[Value.int .i64 x.a, Value.int .i64 x.b]) (fun x : Bool => Value.bool x) (mput seen13 (APair.mk r12 r13) true)), Cont.cells (pre14 ++ (cs14 ++ sp14)), Cont.cells [(Value.int .i64 x10.a), (Value.int .i64 x10.b)]]) hS20
          have K30 := ks w hS20
          refine Rl.op (OpY.assign (v := v14) rfl ?_)
          refine Rl.nil (Swp.pop_blk (Swp.region rfl (Rl.op (OpY.move (v := (Value.int .i64 c10)) rfl ?_))))
          refine Rl.op (OpY.add (x := c10) (y := 1) (z := (iw (c10 + 1))) rfl rfl rfl ?_)
          refine Rl.op (OpY.assign (v := (Value.int .i64 (iw (c10 + 1)))) rfl ?_)
          refine Rl.nil ?_
          have hp13 := hL35.pick [2, 3, 4, 5, 6] rfl rfl rfl
          have hL36 : Go.X.Loc [] [] w w46 [some b1, some b6, some b10, ob14, some b13] [Cont.cells [a_v, a_v1], Cont.cells [b_v, b_v1], (mcont (fun x : APair => Value.agg #[Value.int .i64 x.a, Value.int .i64 x.b]) (fun x : Bool => Value.bool x) (mput seen13 (APair.mk r12 r13) true)), Cont.cells (pre14 ++ (cs14 ++ sp14)), Cont.cells [(Value.int .i64 x10.a), (Value.int .i64 x10.b)]] := hp13.1
          have K31 := ks w hp13.2
          have f16 := ((hE39.mono (K30 None)).mono (K31 None))
          obtain rfl := Option.some.inj h
          refine Swp.pop_back ⟨((mput seen13 (APair.mk r12 r13) true), x11, (iw (c10 + 1))), rfl, ?_⟩
          exact ⟨ob14, cap14, sp14, cs14, pre14, v14, (List.length x11), _, (upds_sym ⟨rfl, rfl, rfl, rfl, rfl, rfl, trivial⟩), hL36, (Keep.trans (Keep.trans (Keep.trans (Keep.trans (Keep.trans (Keep.trans (Keep.trans K22 K23) K26) K27) K28) K29) K30) K31), f16, rfl, hc18, hv12, trivial⟩
         ·
          replace h := ite_f hc16 h
          refine Swp.skip (Swp.pop_blk (Swp.region rfl (Rl.op (OpY.move (v := (Value.int .i64 c10)) rfl ?_))))
          refine Rl.op (OpY.add (x := c10) (y := 1) (z := (iw (c10 + 1))) rfl rfl rfl ?_)
          refine Rl.op (OpY.assign (v := (Value.int .i64 (iw (c10 + 1)))) rfl ?_)
          refine Rl.nil ?_
          have hp14 := hL32.pick [1, 2, 3, 4, 5] rfl rfl rfl
          have hL37 : Go.X.Loc [] [] w w43 [some b1, some b6, some b10, ob13, some b13] [Cont.cells [a_v, a_v1], Cont.cells [b_v, b_v1], (mcont (fun x : APair => Value.agg #[Value.int .i64 x.a, Value.int .i64 x.b]) (fun x : Bool => Value.bool x) seen13), Cont.cells (pre13 ++ (cs13 ++ sp13)), Cont.cells [(Value.int .i64 x10.a), (Value.int .i64 x10.b)]] := hp14.1
          have K32 := ks w hp14.2
          have f17 := ((((hE21.mono (K23 None)).mono (K26 None)).mono (K27 None)).mono (K32 None))
          obtain rfl := Option.some.inj h
          refine Swp.pop_back ⟨(seen13, queue13, (iw (c10 + 1))), rfl, ?_⟩
          exact ⟨ob13, cap13, sp13, cs13, pre13, v13, (List.length queue13), _, (upds_sym ⟨rfl, rfl, rfl, rfl, rfl, rfl, trivial⟩), hL37, (Keep.trans (Keep.trans (Keep.trans (Keep.trans K22 K23) K26) K27) K32), f17, rfl, hc14, hv11, trivial⟩
       ·
        replace h := ite_f hc15 h
        refine Swp.exit rfl ?_
        have hp15 := hL24.pick [0, 1, 2, 3] rfl rfl rfl
        have hL38 : Go.X.Loc [] [] w w25 [some b1, some b6, some b10, ob13] [Cont.cells [a_v, a_v1], Cont.cells [b_v, b_v1], (mcont (fun x : APair => Value.agg #[Value.int .i64 x.a, Value.int .i64 x.b]) (fun x : Bool => Value.bool x) seen13), Cont.cells (pre13 ++ (cs13 ++ sp13))] := hp15.1
        have K33 := ks w hp15.2
        have f18 := (hE21.mono (K33 None))
        obtain rfl := Option.some.inj h
        obtain rfl := hd11 _ rfl
        replace h := g12
        try dsimp only at h
        skip
        refine Swp.pop_back ?_
        exact ⟨seen13, queue13, ob13, cap13, sp13, cs13, pre13, v13, (List.length queue13), _, rfl, (upds_sym ⟨rfl, rfl, rfl, rfl, trivial⟩), hL38, (Keep.trans K22 K33), f18, rfl, hc14, hv11, trivial⟩
      ·
       rintro _ w47 ⟨seen12, queue12, ob12, cap12, sp12, cs12, pre12, v12, ln12, u, rfl, rfl, hL39, K34, hE40, rfl, hc19, hv13, -⟩
       replace h := g12
       try dsimp only at h
       refine Swp.pop_blk ?_
       obtain rfl := Option.some.inj h
       refine Swp.pop_back ?_
       exact ⟨seen12, queue12, ob12, cap12, sp12, cs12, pre12, v12, (List.length queue12), _, rfl, (upds_sym ⟨rfl, rfl, rfl, rfl, trivial⟩), hL39, (Keep.trans (Keep.trans (Keep.trans (Keep.trans (Keep.trans K15 K16) K17) K19) K20) K34), hE40, rfl, hc19, hv13, trivial⟩
   ·
    rintro _ w48 ⟨seen11, queue11, ob11, cap11, sp11, cs11, pre11, v11, ln11, u, rfl, rfl, hL40, K35, hE41, rfl, hc20, hv14, -⟩
    replace h := g11
    try dsimp only at h
    refine Swp.region rfl (Rl.op (OpY.move (v := v11) rfl ?_))
    obtain ⟨x12, q25, h⟩ := bind_some h
    obtain ⟨n11, q26, q27, q28⟩ := drp_some q25
    refine Rl.op (OpY.cutQ (r := rAPair) (l := n11) (pre := pre11) (cs := cs11) (sp := sp11) (xs := queue11) (cap := cap11) Tryd.underlying92 ti90 rfl rfl hv14 (hL40.at 3 rfl rfl) hE41 rfl hc20 rfl q26 q27 q28 ?_)
    intro v15 pre15 cs15 q29 hv15 hE42 hc21
    have hL41 : Go.X.Loc [] [] w w48 [some b1, some b6, some b10, ob11] [Cont.cells [a_v, a_v1], Cont.cells [b_v, b_v1], (mcont (fun x : APair => Value.agg #[Value.int .i64 x.a, Value.int .i64 x.b]) (fun x : Bool => Value.bool x) seen11), Cont.cells (pre15 ++ (cs15 ++ sp11))] := by rw [q29]; exact hL40
    refine Rl.op (OpY.assign (v := v15) rfl ?_)
    refine Rl.nil ?_
    obtain rfl := Option.some.inj h
    refine Swp.pop_back ⟨(seen11, x12), rfl, ?_⟩
    exact ⟨ob11, (cap11 - n11), sp11, cs15, pre15, v15, (List.length x12), _, (upds_sym ⟨rfl, rfl, rfl, rfl, trivial⟩), hL41, (Keep.trans K14 K35), hE42, rfl, hc21, hv15, trivial⟩
  ·
   replace h := ite_f hc12 h
   refine Swp.exit rfl ?_
   have hp16 := hL14.pick [] rfl rfl rfl
   have hL42 : Go.X.Loc [] [] w w13 [] [] := hp16.1
   have K36 := ks w hp16.2
   obtain rfl := Option.some.inj h
   obtain rfl := hd10 _ rfl
   replace h := g10
   try dsimp only at h
   skip
   refine Swp.pop_back ?_
   exact ⟨_, rfl, (upds_sym trivial), hL42, (Keep.trans K14 K36), trivial⟩
 ·
  rintro _ w49 ⟨u, rfl, rfl, hL43, K37, -⟩
  replace h := g10
  try dsimp only at h
  refine Swp.seq (Swp.region rfl (Rl.op (OpY.assign (v := (Value.bool true)) rfl ?_)))
  refine Rl.nil (Swp.ret ?_)
  obtain rfl := Option.some.inj h
  refine ⟨[(Value.bool true)], ⟨rfl, trivial⟩, ⟨_, rfl, hL43.done, ?_⟩⟩
  exact ⟨rfl, trivial⟩
theorem aFind_w (N : Nat) : ∀ (f : AFinder) (state : Int) (text : (List Int)) (left : Int) (f_b : Nat) (f_v1 : Value) (f_v2 : Value) (f_v3 : Value) (f_words_ob : Option Nat) (f_words_cap : Nat) (f_words_cs : List Value) (f_words_sp : List Value) (text_ob : Option Nat) (text_cap : Nat) (text_cs : List Value) (text_sp : List Value) (X : List (Option Nat)) (w : World) (S : Nat → Prop) (hL : Go.X.Loc X [] w w [some f_b, f_words_ob, text_ob] [Cont.cells [f_v1, f_v2, f_v3, (Value.int .i64 f.most), (osv f_words_ob 0 (List.length f.words) f_words_cap)], Cont.cells ([] ++ (f_words_cs ++ f_words_sp)), Cont.cells ([] ++ (text_cs ++ text_sp))]) (f_h1 : Rs rBool (Hv w.heap.size S [some f_b, f_words_ob, text_ob] w) f_v1 f.d.Accept) (f_h2 : Rs (rSl rAEdge) (Hv w.heap.size S [some f_b, f_words_ob, text_ob] w) f_v2 f.d.Edges) (f_h3 : Rs (rSl rBool) (Hv w.heap.size S [some f_b, f_words_ob, text_ob] w) f_v3 f.can) (f_words_hE : Els rStr (Hv w.heap.size S [some f_b, f_words_ob, text_ob] w) f_words_cs f.words) (f_words_hc : (f_words_cs ++ f_words_sp).length = f_words_cap * rStr.sz) (text_hE : Els (rInt .u8) (Hv w.heap.size S [some f_b, f_words_ob, text_ob] w) text_cs text) (text_hc : (text_cs ++ text_sp).length = text_cap * (rInt .u8).sz) (r : (List (List UInt8))) (h : aFind N f state text left = some r), Calls Tryd.prog 38 #[(Value.pointer (some ⟨f_b, 0, none⟩)), (Value.int .i64 state), (osv text_ob 0 (List.length text) text_cap), (Value.int .i64 left)] w (fun e w' => ∃ (o0words_ob : Option Nat) (o0words_cap : Nat) (o0words_cs : List Value) (o0words_sp : List Value) (o2_cs : List Value) (o2_sp : List Value), e = Ending.returned (Value.tuple #[]) ∧ Go.X.Loc X [] w w' [some f_b, o0words_ob, text_ob] [Cont.cells [f_v1, f_v2, f_v3, (Value.int .i64 f.most), (osv o0words_ob 0 (List.length r) o0words_cap)], Cont.cells ([] ++ (o0words_cs ++ o0words_sp)), Cont.cells ([] ++ (o2_cs ++ o2_sp))] ∧ Keep w.heap.size [some f_b, f_words_ob, text_ob] w [some f_b, o0words_ob, text_ob] w' ∧ Els rStr (Hv w.heap.size S [some f_b, o0words_ob, text_ob] w') o0words_cs r ∧ (o0words_cs ++ o0words_sp).length = o0words_cap * rStr.sz ∧ Els (rInt .u8) (Hv w.heap.size S [some f_b, o0words_ob, text_ob] w') o2_cs text ∧ (o2_cs ++ o2_sp).length = text_cap * (rInt .u8).sz ∧ True) := by
 induction N with
 | zero => intro f state text left f_b f_v1 f_v2 f_v3 f_words_ob f_words_cap f_words_cs f_words_sp text_ob text_cap text_cs text_sp X w S hL f_h1 f_h2 f_h3 f_words_hE f_words_hc text_hE text_hc r h; cases (show (none : Option (List (List UInt8))) = some r from h)
 | succ N ih =>
  intro f state text left f_b f_v1 f_v2 f_v3 f_words_ob f_words_cap f_words_cs f_words_sp text_ob text_cap text_cs text_sp X w S hL f_h1 f_h2 f_h3 f_words_hE f_words_hc text_hE text_hc r h
  replace h : aFind_step N (aFind N) f state text left = some r := h
  unfold aFind_step at h
  refine calls_of (l := [(Value.pointer (some ⟨f_b, 0, none⟩)), (Value.int .i64 state), (osv text_ob 0 (List.length text) text_cap), (Value.int .i64 left)]) (rl := []) (n := 82) Tryd.func38 rfl rfl rfl (Nat.le_of_ble_eq_true rfl) ?_
  refine Swp.seq (Swp.seq ?_)
  obtain ⟨s10, h, g10⟩ := bind_some h
  refine Swp.join (fun e w' => ∃ (x10 : Bool) (cs10 : List Value) (sp10 : List Value) (u : Env), x10 = s10 ∧ e = upds [(0, (Value.pointer (some ⟨f_b, 0, none⟩))), (1, (Value.int .i64 state)), (2, (osv text_ob 0 (List.length text) text_cap)), (3, (Value.int .i64 left)), (33, (Value.bool x10))] u ∧ Go.X.Loc X [] w w' [some f_b, f_words_ob, text_ob] [Cont.cells [f_v1, f_v2, f_v3, (Value.int .i64 f.most), (osv f_words_ob 0 (List.length f.words) f_words_cap)], Cont.cells ([] ++ (f_words_cs ++ f_words_sp)), Cont.cells ([] ++ (cs10 ++ sp10))] ∧ Keep w.heap.size [some f_b, f_words_ob, text_ob] w [some f_b, f_words_ob, text_ob] w' ∧ Els (rInt .u8) (Hv w.heap.size S [some f_b, f_words_ob, text_ob] w') cs10 text ∧ (cs10 ++ sp10).length = text_cap * (rInt .u8).sz ∧ True) ?_ ?_
  ·
   by_cases hc10 : ((List.length f.words : Int) : Int) ≥ f.most
   ·
    replace h := ite_t hc10 h
    refine Swp.drawL 19 [] [] (fun W1 => [.det (Value.pointer (some ⟨f_b, 0, none⟩)), .det (Value.pointer (some ⟨f_b, 0, none⟩)), .det (Value.pointer (some ⟨f_b, 4, none⟩)), .det (osv f_words_ob 0 (List.length f.words) f_words_cap), .det (Value.int .i64 (List.length f.words : Int)), .det (Value.pointer (some ⟨f_b, 0, none⟩)), .det (Value.pointer (some ⟨f_b, 0, none⟩)), .det (Value.pointer (some ⟨f_b, 3, none⟩)), .det (Value.int .i64 f.most), .det (Value.bool (decide (((List.length f.words : Int) : Int) ≥ f.most))), .det (Value.bool (decide (((List.length f.words : Int) : Int) ≥ f.most))), .det undef, .det undef, .det undef, .det undef, .det undef, .det undef, .det undef, .det undef]) mixed rfl rfl rfl (fun _ => rfl) (fun _ => rfl) ?_ ?_
    ·
     intro W1 _
     exact trivial
    ·
     intro w10 hE10
     have hL10 := hL.ext hE10
     have K10 := ke hL hE10
     refine DrH.de (fun _ _ => GOp.op (OpY.move rfl (er rfl))) ?_
     refine DrH.de (fun _ _ => GOp.op (OpY.nilCheck (b := ⟨f_b, 0, none⟩) rfl (er rfl))) ?_
     refine DrH.de (fun _ _ => GOp.op (OpY.fieldAddr Tryd.underlying69 rfl ti35 rfl rfl rfl (er rfl))) ?_
     refine DrH.de (fun _ hE14 => GOp.op (OpY.ldBox1 Tryd.underlying35 rfl rfl ((hL10.ext hE14).at 0 rfl rfl) rfl (er rfl))) ?_
     refine DrH.de (fun _ hE15 => GOp.op (OpY.lenRow (pre := []) (r := rStr) (xs := f.words) Tryd.underlying35 rfl ((hL10.ext hE15).at 1 rfl rfl) ((f_words_hE.mono (K10 S)).mono ((ke hL10 hE15) S)) rfl rfl (er rfl))) ?_
     refine DrH.de (fun _ _ => GOp.op (OpY.move rfl (er rfl))) ?_
     refine DrH.de (fun _ _ => GOp.op (OpY.nilCheck (b := ⟨f_b, 0, none⟩) rfl (er rfl))) ?_
     refine DrH.de (fun _ _ => GOp.op (OpY.fieldAddr Tryd.underlying69 rfl ti3 rfl rfl rfl (er rfl))) ?_
     refine DrH.de (fun _ hE19 => GOp.op (OpY.ldBox1 Tryd.underlying3 rfl rfl ((hL10.ext hE19).at 0 rfl rfl) rfl (er rfl))) ?_
     refine DrH.de (fun _ _ => GOp.op (OpY.geq (((List.length f.words : Int) : Int) ≥ f.most) rfl rfl Iff.rfl (er rfl))) ?_
     refine DrH.de (fun _ _ => GOp.op (OpY.move rfl (er rfl))) ?_
     refine DrH.de (fun _ _ => GOp.no rfl rfl (decide_eq_true hc10) (er rfl)) ?_
     refine DrH.de (fun _ _ => GOp.no rfl rfl (decide_eq_true hc10) (er rfl)) ?_
     refine DrH.de (fun _ _ => GOp.no rfl rfl (decide_eq_true hc10) (er rfl)) ?_
     refine DrH.de (fun _ _ => GOp.no rfl rfl (decide_eq_true hc10) (er rfl)) ?_
     refine DrH.de (fun _ _ => GOp.no rfl rfl (decide_eq_true hc10) (er rfl)) ?_
     refine DrH.de (fun _ _ => GOp.no rfl rfl (decide_eq_true hc10) (er rfl)) ?_
     refine DrH.de (fun _ _ => GOp.no rfl rfl (decide_eq_true hc10) (er rfl)) ?_
     refine DrH.de (fun _ _ => GOp.no rfl rfl (decide_eq_true hc10) (er rfl)) ?_
     refine DrH.fin0 ?_
     rintro w30 Z33 hE30 hZ29 ⟨-⟩ ap10
     have hB10 : ∀ b, some b ∈ ([] : List (Option Nat)) → w10.heap.size ≤ b ∧ ¬ Z33 b := by
      intro b hb; cases hb
     have hL14 := hL10.ext hE30
     have K12 := ke hL10 hE30
     refine Rl.no rfl rfl (decide_eq_true hc10) ?_
     refine Rl.no rfl rfl (decide_eq_true hc10) ?_
     refine Rl.no rfl rfl (decide_eq_true hc10) ?_
     refine Rl.op (OpY.pick_t (t := (decide (((List.length f.words : Int) : Int) ≥ f.most))) (v := (Value.bool true)) rfl (decide_eq_true hc10) rfl ?_)
     refine Rl.nil ?_
     have f10 := ((text_hE.mono (K10 S)).mono (K12 S))
     obtain rfl := Option.some.inj h
     refine Swp.pop_back ?_
     exact ⟨true, text_cs, text_sp, _, rfl, (upds_sym ⟨rfl, rfl, rfl, rfl, rfl, trivial⟩), hL14, (Keep.trans K10 K12), f10, text_hc, trivial⟩
   ·
    replace h := ite_f hc10 h
    obtain ⟨x11, q10, h⟩ := bind_some h
    obtain ⟨n10, q11, q12⟩ := idx_some q10
    obtain ⟨b10, o10, c10, vs10, q13, q14, f11, q15⟩ := Rs.get f_h3 q12
    obtain ⟨v10, rfl, k10⟩ := q15
    refine Swp.drawL 19 [] [] (fun W1 => [.det (Value.pointer (some ⟨f_b, 0, none⟩)), .det (Value.pointer (some ⟨f_b, 0, none⟩)), .det (Value.pointer (some ⟨f_b, 4, none⟩)), .det (osv f_words_ob 0 (List.length f.words) f_words_cap), .det (Value.int .i64 (List.length f.words : Int)), .det (Value.pointer (some ⟨f_b, 0, none⟩)), .det (Value.pointer (some ⟨f_b, 0, none⟩)), .det (Value.pointer (some ⟨f_b, 3, none⟩)), .det (Value.int .i64 f.most), .det (Value.bool (decide (((List.length f.words : Int) : Int) ≥ f.most))), .det (Value.bool (decide (((List.length f.words : Int) : Int) ≥ f.most))), .det (Value.pointer (some ⟨f_b, 0, none⟩)), .det (Value.pointer (some ⟨f_b, 0, none⟩)), .det (Value.pointer (some ⟨f_b, 2, none⟩)), .det f_v3, .det (Value.int .i64 left), .det (Value.pointer (some ⟨b10, (o10 + n10 * (rSl rBool).sz), none⟩)), .det v10, .det (Value.int .i64 state)]) mixed rfl rfl rfl (fun _ => rfl) (fun _ => rfl) ?_ ?_
    ·
     intro W1 _
     exact trivial
    ·
     intro w31 hE31
     have hL15 := hL.ext hE31
     have K13 := ke hL hE31
     refine DrH.de (fun _ _ => GOp.op (OpY.move rfl (er rfl))) ?_
     refine DrH.de (fun _ _ => GOp.op (OpY.nilCheck (b := ⟨f_b, 0, none⟩) rfl (er rfl))) ?_
     refine DrH.de (fun _ _ => GOp.op (OpY.fieldAddr Tryd.underlying69 rfl ti35 rfl rfl rfl (er rfl))) ?_
     refine DrH.de (fun _ hE35 => GOp.op (OpY.ldBox1 Tryd.underlying35 rfl rfl ((hL15.ext hE35).at 0 rfl rfl) rfl (er rfl))) ?_
     refine DrH.de (fun _ hE36 => GOp.op (OpY.lenRow (pre := []) (r := rStr) (xs := f.words) Tryd.underlying35 rfl ((hL15.ext hE36).at 1 rfl rfl) ((f_words_hE.mono (K13 S)).mono ((ke hL15 hE36) S)) rfl rfl (er rfl))) ?_
     refine DrH.de (fun _ _ => GOp.op (OpY.move rfl (er rfl))) ?_
     refine DrH.de (fun _ _ => GOp.op (OpY.nilCheck (b := ⟨f_b, 0, none⟩) rfl (er rfl))) ?_
     refine DrH.de (fun _ _ => GOp.op (OpY.fieldAddr Tryd.underlying69 rfl ti3 rfl rfl rfl (er rfl))) ?_
     refine DrH.de (fun _ hE40 => GOp.op (OpY.ldBox1 Tryd.underlying3 rfl rfl ((hL15.ext hE40).at 0 rfl rfl) rfl (er rfl))) ?_
     refine DrH.de (fun _ _ => GOp.op (OpY.geq (((List.length f.words : Int) : Int) ≥ f.most) rfl rfl Iff.rfl (er rfl))) ?_
     refine DrH.de (fun _ _ => GOp.op (OpY.move rfl (er rfl))) ?_
     refine DrH.de (fun _ _ => GOp.yes rfl rfl (decide_eq_false hc10) (OpY.move rfl (er rfl))) ?_
     refine DrH.de (fun _ _ => GOp.yes rfl rfl (decide_eq_false hc10) (OpY.nilCheck (b := ⟨f_b, 0, none⟩) rfl (er rfl))) ?_
     refine DrH.de (fun _ _ => GOp.yes rfl rfl (decide_eq_false hc10) (OpY.fieldAddr Tryd.underlying69 rfl ti67 rfl rfl rfl (er rfl))) ?_
     refine DrH.de (fun _ hE46 => GOp.yes rfl rfl (decide_eq_false hc10) (OpY.ldBox1 Tryd.underlying67 rfl rfl ((hL15.ext hE46).at 0 rfl rfl) rfl (er rfl))) ?_
     refine DrH.de (fun _ _ => GOp.yes rfl rfl (decide_eq_false hc10) (OpY.move rfl (er rfl))) ?_
     refine DrH.de (fun _ _ => GOp.yes rfl rfl (decide_eq_false hc10) (OpY.ixRoD (r := (rSl rBool)) (v := f_v3) (n := n10) (m := (o10 + n10 * (rSl rBool).sz)) Tryd.underlying67 ti22 rfl q13 rfl q11 q12 rfl (er rfl))) ?_
     refine DrH.de (fun _ hE49 => GOp.yes rfl rfl (decide_eq_false hc10) (OpY.ldRo1 Tryd.underlying22 rfl rfl vw_view (At.mono ((ke hL15 hE49) S) (At.mono (K13 S) f11)) (er rfl))) ?_
     refine DrH.de (fun _ _ => GOp.yes rfl rfl (decide_eq_false hc10) (OpY.move rfl (er rfl))) ?_
     refine DrH.fin0 ?_
     rintro w51 Z53 hE51 hZ49 ⟨-⟩ ap11
     have hB11 : ∀ b, some b ∈ ([] : List (Option Nat)) → w31.heap.size ≤ b ∧ ¬ Z53 b := by
      intro b hb; cases hb
     have hL20 := hL15.ext hE51
     have K16 := ke hL15 hE51
     obtain ⟨x12, q16, h⟩ := bind_some h
     obtain ⟨n11, q17, q18⟩ := idx_some q16
     have f12 := ((k10.mono (K13 S)).mono (K16 S))
     obtain ⟨b11, o11, c11, vs11, q19, q20, f13, q21⟩ := Rs.get f12 q18
     obtain rfl := q21
     refine Rl.yes rfl rfl (decide_eq_false hc10) (OpY.ixRoD (r := rBool) (v := v10) (n := n11) (m := (o11 + n11 * rBool.sz)) Tryd.underlying22 ti4 rfl q19 rfl q17 q18 rfl ?_)
     refine Rl.yes rfl rfl (decide_eq_false hc10) (OpY.ldRo1 (v := (Value.bool x12)) Tryd.underlying4 rfl rfl vw_view f13 ?_)
     refine Rl.yes rfl rfl (decide_eq_false hc10) (OpY.not (x := x12) rfl ?_)
     refine Rl.op (OpY.pick_f (t := (decide (((List.length f.words : Int) : Int) ≥ f.most))) (v := (Value.bool (!x12))) rfl (decide_eq_false hc10) rfl ?_)
     refine Rl.nil ?_
     have f14 := ((text_hE.mono (K13 S)).mono (K16 S))
     obtain rfl := Option.some.inj h
     refine Swp.pop_back ?_
     exact ⟨(!x12), text_cs, text_sp, _, rfl, (upds_sym ⟨rfl, rfl, rfl, rfl, rfl, trivial⟩), hL20, (Keep.trans K13 K16), f14, text_hc, trivial⟩
  ·
   rintro _ w52 ⟨x10, cs10, sp10, u, rfl, rfl, hL21, K17, hE52, hc11, -⟩
   replace h := g10
   try dsimp only at h
   refine Swp.cond_b x10 rfl (fun hc12 => ?_) (fun hc12 => ?_)
   ·
    replace h := ite_t hc12 h
    refine Swp.ret ?_
    obtain rfl := Option.some.inj h
    refine ⟨[], trivial, ?_⟩
    have f15 := (f_words_hE.mono (K17 S))
    exact ⟨f_words_ob, f_words_cap, f_words_cs, f_words_sp, cs10, sp10, rfl, hL21, K17, f15, f_words_hc, hE52, hc11, trivial⟩
   ·
    replace h := ite_f hc12 h
    refine Swp.skip (Swp.seq (Swp.seq (Swp.region rfl (Rl.op (OpY.move (v := (Value.int .i64 left)) rfl ?_)))))
    refine Rl.op (OpY.eql (x := left) (y := 0) ((left : Int) = 0) rfl rfl Iff.rfl ?_)
    refine Rl.nil ?_
    refine Swp.cond_d ((left : Int) = 0) rfl (fun hc13 => ?_) (fun hc13 => ?_)
    ·
     replace h := ite_t hc13 h
     refine Swp.seq ?_
     refine Swp.drawP [7, 8, 11] [0, 1, 2, 3, 4, 5, 6, 9, 10] [(36, (Value.pointer (some ⟨f_b, 0, none⟩))), (37, (Value.pointer (some ⟨f_b, 0, none⟩))), (38, (Value.pointer (some ⟨f_b, 0, none⟩))), (39, (Value.pointer (some ⟨f_b, 4, none⟩))), (40, (osv f_words_ob 0 (List.length f.words) f_words_cap)), (41, (osv text_ob 0 (List.length text) text_cap)), (42, (Value.string (s8 (bstr text)))), (45, (Value.pointer (some ⟨f_b, 0, none⟩))), (46, (Value.pointer (some ⟨f_b, 4, none⟩)))] mixed rfl rfl rfl rfl ?_
     intro w53 hE53
     have hL22 := hL21.ext hE53
     have K18 := ke hL21 hE53
     refine ⟨?_, ?_⟩
     ·
      refine LateP.cons (i := 0) rfl rfl (GOp.op (OpY.move (v := (Value.pointer (some ⟨f_b, 0, none⟩))) rfl ⟨rfl, rfl⟩)) ?_
      refine LateP.cons (i := 1) rfl rfl (GOp.op (OpY.move (v := (Value.pointer (some ⟨f_b, 0, none⟩))) rfl ⟨rfl, rfl⟩)) ?_
      refine LateP.cons (i := 2) rfl rfl (GOp.op (OpY.nilCheck (b := ⟨f_b, 0, none⟩) rfl ⟨rfl, rfl⟩)) ?_
      refine LateP.cons (i := 3) rfl rfl (GOp.op (OpY.fieldAddr (q := 4) Tryd.underlying69 rfl ti35 rfl rfl rfl ⟨rfl, rfl⟩)) ?_
      refine LateP.cons (i := 4) rfl rfl (GOp.op (OpY.ldBox1 (v := (osv f_words_ob 0 (List.length f.words) f_words_cap)) Tryd.underlying35 rfl rfl (hL22.at 0 rfl rfl) rfl ⟨rfl, rfl⟩)) ?_
      refine LateP.cons (i := 5) rfl rfl (GOp.op (OpY.move (v := (osv text_ob 0 (List.length text) text_cap)) rfl ⟨rfl, rfl⟩)) ?_
      refine LateP.cons (i := 6) rfl rfl (GOp.op (OpY.strRow (pre := []) (cs := cs10) (sp := sp10) (xs := text) Tryd.underlying62 Tryd.underlying9 Tryd.underlying5 rfl (hL22.at 2 rfl rfl) (hE52.mono (K18 S)) rfl ⟨rfl, rfl⟩)) ?_
      refine LateP.cons (i := 9) rfl rfl (GOp.op (OpY.nilCheck (b := ⟨f_b, 0, none⟩) rfl ⟨rfl, rfl⟩)) ?_
      refine LateP.cons (i := 10) rfl rfl (GOp.op (OpY.fieldAddr (q := 4) Tryd.underlying69 rfl ti35 rfl rfl rfl ⟨rfl, rfl⟩)) ?_
      exact LateP.nil
     have hE54 : Els rStr (Hv w.heap.size None [some f_b, f_words_ob, text_ob] w53) [(Value.string (s8 (bstr text)))] [(bstr text)] := (Els.cons (a := [(Value.string (s8 (bstr text)))]) rfl Els.nil)
     refine RlL.op (OpY.litRow (r := rStr) (vs := [(Value.string (s8 (bstr text)))]) (css := [[(Value.string (s8 (bstr text)))]]) (xs := [(bstr text)]) Tryd.underlying35 ti9 (Nat.le_of_ble_eq_true rfl) rfl rfl ⟨rfl, rfl, trivial⟩ (Nat.le_of_ble_eq_true rfl) hE54 rfl hL22 ?_)
     intro b12 w54 hc14 hL23 hS10
     have K19 := ks w hS10
     refine ⟨?_, ?_⟩
     ·
      refine LateP.cons (i := 0) rfl rfl (GOp.op (OpY.move (v := (Value.pointer (some ⟨f_b, 0, none⟩))) rfl ⟨rfl, rfl⟩)) ?_
      refine LateP.cons (i := 1) rfl rfl (GOp.op (OpY.move (v := (Value.pointer (some ⟨f_b, 0, none⟩))) rfl ⟨rfl, rfl⟩)) ?_
      refine LateP.cons (i := 2) rfl rfl (GOp.op (OpY.nilCheck (b := ⟨f_b, 0, none⟩) rfl ⟨rfl, rfl⟩)) ?_
      refine LateP.cons (i := 3) rfl rfl (GOp.op (OpY.fieldAddr (q := 4) Tryd.underlying69 rfl ti35 rfl rfl rfl ⟨rfl, rfl⟩)) ?_
      refine LateP.cons (i := 4) rfl rfl (GOp.op (OpY.ldBox1 (v := (osv f_words_ob 0 (List.length f.words) f_words_cap)) Tryd.underlying35 rfl rfl (hL23.at 1 rfl rfl) rfl ⟨rfl, rfl⟩)) ?_
      refine LateP.cons (i := 5) rfl rfl (GOp.op (OpY.move (v := (osv text_ob 0 (List.length text) text_cap)) rfl ⟨rfl, rfl⟩)) ?_
      refine LateP.cons (i := 9) rfl rfl (GOp.op (OpY.nilCheck (b := ⟨f_b, 0, none⟩) rfl ⟨rfl, rfl⟩)) ?_
      refine LateP.cons (i := 10) rfl rfl (GOp.op (OpY.fieldAddr (q := 4) Tryd.underlying69 rfl ti35 rfl rfl rfl ⟨rfl, rfl⟩)) ?_
      exact LateP.nil
     obtain ⟨x13, q22, h⟩ := bind_some h
     obtain ⟨q23, q24, q25⟩ := apnd_some q22
     have f16 := (hE54.mono (K19 None))
     have f17 := (((f_words_hE.mono (K17 S)).mono (K18 S)).mono (K19 S))
     refine RlL.op (OpY.apRowX (r := rStr) (H := (Hv w.heap.size S [some b12, some f_b, f_words_ob, text_ob] w54)) (cs := f_words_cs) (sp := f_words_sp) (xs := f.words) (ys := [(bstr text)]) (Y := x13) (n := (List.length f.words)) (cap := f_words_cap) (i := 2) Tryd.underlying35 ti9 rfl rfl rfl rfl hL23 rfl rfl f17 rfl f_words_hc (Src.row (pre := []) (o := 0) (n := 1) (cap := 1) (hL23.at 0 rfl rfl) f16 rfl rfl rfl) (Els.anyH (fun _ _ _ _ h => h) f16) q23 q24 q25 ?_)
     intro ob10 cap10 sp11 cs11 w55 hE55 hc15 (hL24 : Go.X.Loc X [] w w55 [some b12, some f_b, ob10, text_ob] [Cont.cells ([] ++ ([(Value.string (s8 (bstr text)))] ++ [])), Cont.cells [f_v1, f_v2, f_v3, (Value.int .i64 f.most), (osv f_words_ob 0 (List.length f.words) f_words_cap)], Cont.cells ([] ++ (cs11 ++ sp11)), Cont.cells ([] ++ (cs10 ++ sp10))]) hS11
     have K20 := ks w hS11
     refine ⟨?_, ?_⟩
     ·
      refine LateP.cons (i := 0) rfl rfl (GOp.op (OpY.move (v := (Value.pointer (some ⟨f_b, 0, none⟩))) rfl ⟨rfl, rfl⟩)) ?_
      refine LateP.cons (i := 1) rfl rfl (GOp.op (OpY.move (v := (Value.pointer (some ⟨f_b, 0, none⟩))) rfl ⟨rfl, rfl⟩)) ?_
      refine LateP.cons (i := 2) rfl rfl (GOp.op (OpY.nilCheck (b := ⟨f_b, 0, none⟩) rfl ⟨rfl, rfl⟩)) ?_
      refine LateP.cons (i := 3) rfl rfl (GOp.op (OpY.fieldAddr (q := 4) Tryd.underlying69 rfl ti35 rfl rfl rfl ⟨rfl, rfl⟩)) ?_
      refine LateP.cons (i := 5) rfl rfl (GOp.op (OpY.move (v := (osv text_ob 0 (List.length text) text_cap)) rfl ⟨rfl, rfl⟩)) ?_
      refine LateP.cons (i := 9) rfl rfl (GOp.op (OpY.nilCheck (b := ⟨f_b, 0, none⟩) rfl ⟨rfl, rfl⟩)) ?_
      refine LateP.cons (i := 10) rfl rfl (GOp.op (OpY.fieldAddr (q := 4) Tryd.underlying69 rfl ti35 rfl rfl rfl ⟨rfl, rfl⟩)) ?_
      exact LateP.nil
     refine RlL.op0 (OpY.store (vs := [(osv ob10 0 (List.length x13) cap10)]) ti35 rfl rfl (one_cells (osv_one ob10 0 (List.length x13) cap10)) rfl (ones_cons (osv_one ob10 0 (List.length x13) cap10) ones_nil) hL24 1 rfl rfl (Nat.le_of_ble_eq_true rfl) ?_)
     intro w56 (hL25 : Go.X.Loc X [] w w56 [some b12, some f_b, ob10, text_ob] [Cont.cells ([] ++ ([(Value.string (s8 (bstr text)))] ++ [])), Cont.cells [f_v1, f_v2, f_v3, (Value.int .i64 f.most), (osv ob10 0 (List.length x13) cap10)], Cont.cells ([] ++ (cs11 ++ sp11)), Cont.cells ([] ++ (cs10 ++ sp10))]) hS12
     have K21 := ks w hS12
     refine ⟨?_, ?_⟩
     ·
      refine LateP.cons (i := 9) rfl rfl (GOp.op (OpY.nilCheck (b := ⟨f_b, 0, none⟩) rfl ⟨rfl, rfl⟩)) ?_
      exact LateP.nil
     refine RlL.fin ?_
     have hp10 := hL25.pick [1, 2, 3] rfl rfl rfl
     have hL26 : Go.X.Loc X [] w w56 [some f_b, ob10, text_ob] [Cont.cells [f_v1, f_v2, f_v3, (Value.int .i64 f.most), (osv ob10 0 (List.length x13) cap10)], Cont.cells ([] ++ (cs11 ++ sp11)), Cont.cells ([] ++ (cs10 ++ sp10))] := hp10.1
     have K22 := ks w hp10.2
     refine Swp.ret ?_
     obtain rfl := Option.some.inj h
     refine ⟨[], trivial, ?_⟩
     have f18 := (((hE55.mono (K20 S)).mono (K21 S)).mono (K22 S))
     have f19 := (((((hE52.mono (K18 S)).mono (K19 S)).mono (K20 S)).mono (K21 S)).mono (K22 S))
     exact ⟨ob10, cap10, cs11, sp11, cs10, sp10, rfl, hL26, (Keep.trans (Keep.trans (Keep.trans (Keep.trans (Keep.trans K17 K18) K19) K20) K21) K22), f18, hc15, f19, hc11, trivial⟩
    ·
     replace h := ite_f hc13 h
     refine Swp.skip (Swp.seq (Swp.region rfl (Rl.op (OpY.move (v := (Value.pointer (some ⟨f_b, 0, none⟩))) rfl ?_))))
     refine Rl.op (OpY.nilCheck (b := ⟨f_b, 0, none⟩) rfl ?_)
     refine Rl.op (OpY.fieldAddr (q := 0) Tryd.underlying69 rfl ti32 rfl rfl rfl ?_)
     refine Rl.op (OpY.fieldAddr (q := 1) Tryd.underlying32 rfl ti30 rfl rfl rfl ?_)
     refine Rl.op (OpY.ldBox1 (v := f_v2) Tryd.underlying30 rfl rfl (hL21.at 0 rfl rfl) rfl ?_)
     refine Rl.op (OpY.move (v := (Value.int .i64 state)) rfl ?_)
     obtain ⟨x14, q26, h⟩ := bind_some h
     obtain ⟨n12, q27, q28⟩ := idx_some q26
     have f20 := (f_h2.mono (K17 S))
     obtain ⟨b13, o12, c12, vs12, q29, q30, f21, q31⟩ := Rs.get f20 q28
     obtain ⟨v11, rfl, k11⟩ := q31
     refine Rl.op (OpY.ixRoD (r := (rSl rAEdge)) (v := f_v2) (n := n12) (m := (o12 + n12 * (rSl rAEdge).sz)) Tryd.underlying30 ti58 rfl q29 rfl q27 q28 rfl ?_)
     refine Rl.op (OpY.ldRo1 (v := v11) Tryd.underlying58 rfl rfl vw_view f21 ?_)
     refine Rl.op (OpY.lenRo (v := v11) Tryd.underlying58 rfl k11 ?_)
     refine Rl.op (OpY.move (v := (Value.int .i64 0)) rfl ?_)
     refine Rl.nil ?_
     obtain ⟨s11, hl10, g11⟩ := bind_some h
     refine Swp.join (fun e w' => ∃ (words10 : (List (List UInt8))) (ob11 : Option Nat) (cap11 : Nat) (sp12 : List Value) (cs12 : List Value) (ln10 : Nat) (cs13 : List Value) (sp13 : List Value) (u : Env), words10 = s11 ∧ e = upds [(0, (Value.pointer (some ⟨f_b, 0, none⟩))), (2, (osv text_ob 0 (List.length text) text_cap))] u ∧ Go.X.Loc X [] w w' [some f_b, ob11, text_ob] [Cont.cells [f_v1, f_v2, f_v3, (Value.int .i64 f.most), (osv ob11 0 ln10 cap11)], Cont.cells ([] ++ (cs12 ++ sp12)), Cont.cells ([] ++ (cs13 ++ sp13))] ∧ Keep w.heap.size [some f_b, f_words_ob, text_ob] w52 [some f_b, ob11, text_ob] w' ∧ Els rStr (Hv w.heap.size S [some f_b, ob11, text_ob] w') cs12 words10 ∧ ln10 = List.length words10 ∧ (cs12 ++ sp12).length = cap11 * rStr.sz ∧ Els (rInt .u8) (Hv w.heap.size S [some f_b, ob11, text_ob] w') cs13 text ∧ (cs13 ++ sp13).length = text_cap * (rInt .u8).sz ∧ True) ?_ ?_
     ·
      refine Swp.block ?_
      have f22 := (f_words_hE.mono (K17 S))
      refine Swp.loopM hl10 (fun (ss : ((List (List UInt8)) × Int)) (e : Env) (w' : World) => match ss with | (words11, x15) => ∃ (ob12 : Option Nat) (cap12 : Nat) (sp14 : List Value) (cs14 : List Value) (ln11 : Nat) (cs15 : List Value) (sp15 : List Value) (u : Env), e = upds [(0, (Value.pointer (some ⟨f_b, 0, none⟩))), (2, (osv text_ob 0 (List.length text) text_cap)), (3, (Value.int .i64 left)), (54, v11), (55, (Value.int .i64 (List.length x14 : Int))), (56, (Value.int .i64 x15))] u ∧ Go.X.Loc X [] w w' [some f_b, ob12, text_ob] [Cont.cells [f_v1, f_v2, f_v3, (Value.int .i64 f.most), (osv ob12 0 ln11 cap12)], Cont.cells ([] ++ (cs14 ++ sp14)), Cont.cells ([] ++ (cs15 ++ sp15))] ∧ Keep w.heap.size [some f_b, f_words_ob, text_ob] w52 [some f_b, ob12, text_ob] w' ∧ Els rStr (Hv w.heap.size S [some f_b, ob12, text_ob] w') cs14 words11 ∧ ln11 = List.length words11 ∧ (cs14 ++ sp14).length = cap12 * rStr.sz ∧ Els (rInt .u8) (Hv w.heap.size S [some f_b, ob12, text_ob] w') cs15 text ∧ (cs15 ++ sp15).length = text_cap * (rInt .u8).sz ∧ True) ⟨f_words_ob, f_words_cap, f_words_sp, f_words_cs, (List.length f.words), cs10, sp10, _, (upds_sym ⟨rfl, rfl, rfl, rfl, rfl, rfl, trivial⟩), hL21, Keep.refl, f22, rfl, f_words_hc, hE52, hc11, trivial⟩ ?_
      rintro ⟨words11, x15⟩ oo _ w57 ⟨ob12, cap12, sp14, cs14, ln11, cs15, sp15, u, rfl, hL27, K23, hE56, rfl, hc16, hE57, hc17, -⟩ h hd10
      rw [aFind_b1] at h
      refine Swp.seq (Swp.region rfl (Rl.op (OpY.lss (x := x15) (y := (List.length x14 : Int)) ((x15 : Int) < (List.length x14 : Int)) rfl rfl Iff.rfl ?_)))
      refine Rl.nil (Swp.seq ?_)
      refine Swp.cond_d ((x15 : Int) < (List.length x14 : Int)) rfl (fun hc18 => ?_) (fun hc18 => ?_)
      ·
       replace h := ite_t hc18 h
       refine Swp.skip (Swp.seq (Swp.block (Swp.seq (Swp.region rfl ?_))))
       obtain ⟨x16, q32, h⟩ := bind_some h
       obtain ⟨n13, q33, q34⟩ := idx_some q32
       have f23 := (k11.mono (K23 S))
       obtain ⟨b14, o13, c13, vs13, q35, q36, f24, q37⟩ := Rs.get f23 q34
       obtain ⟨rfl, -⟩ := rAEdge_open q37
       refine Rl.op (OpY.ixRoD (r := rAEdge) (v := v11) (n := n13) (m := (o13 + n13 * rAEdge.sz)) Tryd.underlying58 ti57 rfl q35 rfl q33 q34 rfl ?_)
       refine Rl.op (OpY.ldRoA (vs := [(Value.int .u8 x16.Low), (Value.int .u8 x16.High), (Value.int .i64 x16.To)]) Tryd.underlying57 rfl ti57 rfl rfl vw_view f24 ?_)
       refine Rl.op (OpY.alloc (cs := [(Value.int .u8 0), (Value.int .u8 0), (Value.int .i64 0)]) ti57 rfl hL27 ?_)
       intro b15 w58 hL28 hS13
       have K24 := ks w hS13
       refine Rl.op0 (OpY.store (vs := [(Value.int .u8 x16.Low), (Value.int .u8 x16.High), (Value.int .i64 x16.To)]) ti57 rfl rfl rfl rfl (ones_cons rfl (ones_cons rfl (ones_cons rfl ones_nil))) hL28 0 rfl rfl (Nat.le_of_ble_eq_true rfl) ?_)
       intro w59 (hL29 : Go.X.Loc X [] w w59 [some b15, some f_b, ob12, text_ob] [Cont.cells [(Value.int .u8 x16.Low), (Value.int .u8 x16.High), (Value.int .i64 x16.To)], Cont.cells [f_v1, f_v2, f_v3, (Value.int .i64 f.most), (osv ob12 0 (List.length words11) cap12)], Cont.cells ([] ++ (cs14 ++ sp14)), Cont.cells ([] ++ (cs15 ++ sp15))]) hS14
       have K25 := ks w hS14
       refine Rl.nil (Swp.seq (Swp.region rfl (Rl.op (OpY.fieldAddr (q := 0) Tryd.underlying57 rfl ti5 rfl rfl rfl ?_))))
       refine Rl.op (OpY.ldBox1 (v := (Value.int .u8 x16.Low)) Tryd.underlying5 rfl rfl (hL29.at 0 rfl rfl) rfl ?_)
       refine Rl.op (OpY.convInt (x := x16.Low) (z := (iw x16.Low)) Tryd.underlying5 Tryd.underlying3 rfl rfl ?_)
       refine Rl.op (OpY.assign (v := (Value.int .i64 (iw x16.Low))) rfl ?_)
       refine Rl.nil ?_
       obtain ⟨s12, hl11, g12⟩ := bind_some h
       refine Swp.join (fun e w' => ∃ (words12 : (List (List UInt8))) (ob13 : Option Nat) (cap13 : Nat) (sp16 : List Value) (cs16 : List Value) (ln12 : Nat) (cs17 : List Value) (sp17 : List Value) (u : Env), words12 = s12 ∧ e = upds [(0, (Value.pointer (some ⟨f_b, 0, none⟩))), (2, (osv text_ob 0 (List.length text) text_cap)), (3, (Value.int .i64 left)), (54, v11), (55, (Value.int .i64 (List.length x14 : Int))), (56, (Value.int .i64 x15))] u ∧ Go.X.Loc X [] w w' [some f_b, ob13, text_ob] [Cont.cells [f_v1, f_v2, f_v3, (Value.int .i64 f.most), (osv ob13 0 ln12 cap13)], Cont.cells ([] ++ (cs16 ++ sp16)), Cont.cells ([] ++ (cs17 ++ sp17))] ∧ Keep w.heap.size [some b15, some f_b, ob12, text_ob] w59 [some f_b, ob13, text_ob] w' ∧ Els rStr (Hv w.heap.size S [some f_b, ob13, text_ob] w') cs16 words12 ∧ ln12 = List.length words12 ∧ (cs16 ++ sp16).length = cap13 * rStr.sz ∧ Els (rInt .u8) (Hv w.heap.size S [some f_b, ob13, text_ob] w') cs17 text ∧ (cs17 ++ sp17).length = text_cap * (rInt .u8).sz ∧ True) ?_ ?_
       ·
        refine Swp.block ?_
        have hp11 := hL29.pick [1, 2, 3, 0] rfl rfl rfl
        have hL30 : Go.X.Loc X [] w w59 [some f_b, ob12, text_ob, some b15] [Cont.cells [f_v1, f_v2, f_v3, (Value.int .i64 f.most), (osv ob12 0 (List.length words11) cap12)], Cont.cells ([] ++ (cs14 ++ sp14)), Cont.cells ([] ++ (cs15 ++ sp15)), Cont.cells [(Value.int .u8 x16.Low), (Value.int .u8 x16.High), (Value.int .i64 x16.To)]] := hp11.1
        have K26 := ks w hp11.2
        have f25 := (((hE56.mono (K24 S)).mono (K25 S)).mono (K26 S))
        have f26 := (((hE57.mono (K24 S)).mono (K25 S)).mono (K26 S))
        refine Swp.loopM hl11 (fun (ss : ((List (List UInt8)) × Int)) (e : Env) (w' : World) => match ss with | (words13, c14) => ∃ (ob14 : Option Nat) (cap14 : Nat) (sp18 : List Value) (cs18 : List Value) (ln13 : Nat) (cs19 : List Value) (sp19 : List Value) (u : Env), e = upds [(0, (Value.pointer (some ⟨f_b, 0, none⟩))), (2, (osv text_ob 0 (List.length text) text_cap)), (3, (Value.int .i64 left)), (9, (Value.pointer (some ⟨b15, 0, none⟩))), (10, (Value.int .i64 c14)), (54, v11), (55, (Value.int .i64 (List.length x14 : Int))), (56, (Value.int .i64 x15))] u ∧ Go.X.Loc X [] w w' [some f_b, ob14, text_ob, some b15] [Cont.cells [f_v1, f_v2, f_v3, (Value.int .i64 f.most), (osv ob14 0 ln13 cap14)], Cont.cells ([] ++ (cs18 ++ sp18)), Cont.cells ([] ++ (cs19 ++ sp19)), Cont.cells [(Value.int .u8 x16.Low), (Value.int .u8 x16.High), (Value.int .i64 x16.To)]] ∧ Keep w.heap.size [some b15, some f_b, ob12, text_ob] w59 [some f_b, ob14, text_ob, some b15] w' ∧ Els rStr (Hv w.heap.size S [some f_b, ob14, text_ob, some b15] w') cs18 words13 ∧ ln13 = List.length words13 ∧ (cs18 ++ sp18).length = cap14 * rStr.sz ∧ Els (rInt .u8) (Hv w.heap.size S [some f_b, ob14, text_ob, some b15] w') cs19 text ∧ (cs19 ++ sp19).length = text_cap * (rInt .u8).sz ∧ True) ⟨ob12, cap12, sp14, cs14, (List.length words11), cs15, sp15, _, (upds_sym ⟨rfl, rfl, rfl, rfl, rfl, rfl, rfl, rfl, trivial⟩), hL30, K26, f25, rfl, hc16, f26, hc17, trivial⟩ ?_
        rintro ⟨words13, c14⟩ oo _ w60 ⟨ob14, cap14, sp18, cs18, ln13, cs19, sp19, u, rfl, hL31, K27, hE58, rfl, hc19, hE59, hc20, -⟩ h hd11
        rw [aFind_b2] at h
        refine Swp.seq (Swp.seq (Swp.region rfl (Rl.op (OpY.move (v := (Value.int .i64 c14)) rfl ?_))))
        refine Rl.op (OpY.fieldAddr (q := 1) Tryd.underlying57 rfl ti5 rfl rfl rfl ?_)
        refine Rl.op (OpY.ldBox1 (v := (Value.int .u8 x16.High)) Tryd.underlying5 rfl rfl (hL31.at 3 rfl rfl) rfl ?_)
        refine Rl.op (OpY.convInt (x := x16.High) (z := (iw x16.High)) Tryd.underlying5 Tryd.underlying3 rfl rfl ?_)
        refine Rl.op (OpY.leq (x := c14) (y := (iw x16.High)) ((c14 : Int) ≤ (iw x16.High)) rfl rfl Iff.rfl ?_)
        refine Rl.nil ?_
        refine Swp.cond_d ((c14 : Int) ≤ (iw x16.High)) rfl (fun hc21 => ?_) (fun hc21 => ?_)
        ·
         replace h := ite_t hc21 h
         refine Swp.skip (Swp.seq (Swp.block ?_))
         refine Swp.drawP [6, 7, 10] [0, 1, 2, 3, 4, 5, 8, 9] [(70, (Value.pointer (some ⟨f_b, 0, none⟩))), (71, (Value.pointer (some ⟨b15, 2, none⟩))), (72, (Value.int .i64 x16.To)), (73, (osv text_ob 0 (List.length text) text_cap)), (74, (Value.int .i64 c14)), (75, (Value.int .u8 (uw8 c14))), (78, (Value.int .i64 left)), (79, (Value.int .i64 (iw (left - 1))))] mixed rfl rfl rfl rfl ?_
         intro w61 hE60
         have hL32 := hL31.ext hE60
         have K28 := ke hL31 hE60
         refine ⟨?_, ?_⟩
         ·
          refine LateP.cons (i := 0) rfl rfl (GOp.op (OpY.move (v := (Value.pointer (some ⟨f_b, 0, none⟩))) rfl ⟨rfl, rfl⟩)) ?_
          refine LateP.cons (i := 1) rfl rfl (GOp.op (OpY.fieldAddr (q := 2) Tryd.underlying57 rfl ti3 rfl rfl rfl ⟨rfl, rfl⟩)) ?_
          refine LateP.cons (i := 2) rfl rfl (GOp.op (OpY.ldBox1 (v := (Value.int .i64 x16.To)) Tryd.underlying3 rfl rfl (hL32.at 3 rfl rfl) rfl ⟨rfl, rfl⟩)) ?_
          refine LateP.cons (i := 3) rfl rfl (GOp.op (OpY.move (v := (osv text_ob 0 (List.length text) text_cap)) rfl ⟨rfl, rfl⟩)) ?_
          refine LateP.cons (i := 4) rfl rfl (GOp.op (OpY.move (v := (Value.int .i64 c14)) rfl ⟨rfl, rfl⟩)) ?_
          refine LateP.cons (i := 5) rfl rfl (GOp.op (OpY.convInt (x := c14) (z := (uw8 c14)) Tryd.underlying3 Tryd.underlying5 rfl rfl ⟨rfl, rfl⟩)) ?_
          refine LateP.cons (i := 8) rfl rfl (GOp.op (OpY.move (v := (Value.int .i64 left)) rfl ⟨rfl, rfl⟩)) ?_
          refine LateP.cons (i := 9) rfl rfl (GOp.op (OpY.sub (x := left) (y := 1) (z := (iw (left - 1))) rfl rfl rfl ⟨rfl, rfl⟩)) ?_
          exact LateP.nil
         have hE61 : Els (rInt .u8) (Hv w.heap.size None [some f_b, ob14, text_ob, some b15] w61) [(Value.int .u8 (uw8 c14))] [(uw8 c14)] := (Els.cons (a := [(Value.int .u8 (uw8 c14))]) rfl Els.nil)
         refine RlL.op (OpY.litRow (r := (rInt .u8)) (vs := [(Value.int .u8 (uw8 c14))]) (css := [[(Value.int .u8 (uw8 c14))]]) (xs := [(uw8 c14)]) Tryd.underlying62 ti5 (Nat.le_of_ble_eq_true rfl) rfl rfl ⟨rfl, rfl, trivial⟩ (Nat.le_of_ble_eq_true rfl) hE61 rfl hL32 ?_)
         intro b16 w62 hc22 hL33 hS15
         have K29 := ks w hS15
         refine ⟨?_, ?_⟩
         ·
          refine LateP.cons (i := 0) rfl rfl (GOp.op (OpY.move (v := (Value.pointer (some ⟨f_b, 0, none⟩))) rfl ⟨rfl, rfl⟩)) ?_
          refine LateP.cons (i := 1) rfl rfl (GOp.op (OpY.fieldAddr (q := 2) Tryd.underlying57 rfl ti3 rfl rfl rfl ⟨rfl, rfl⟩)) ?_
          refine LateP.cons (i := 2) rfl rfl (GOp.op (OpY.ldBox1 (v := (Value.int .i64 x16.To)) Tryd.underlying3 rfl rfl (hL33.at 4 rfl rfl) rfl ⟨rfl, rfl⟩)) ?_
          refine LateP.cons (i := 3) rfl rfl (GOp.op (OpY.move (v := (osv text_ob 0 (List.length text) text_cap)) rfl ⟨rfl, rfl⟩)) ?_
          refine LateP.cons (i := 4) rfl rfl (GOp.op (OpY.move (v := (Value.int .i64 c14)) rfl ⟨rfl, rfl⟩)) ?_
          refine LateP.cons (i := 8) rfl rfl (GOp.op (OpY.move (v := (Value.int .i64 left)) rfl ⟨rfl, rfl⟩)) ?_
          refine LateP.cons (i := 9) rfl rfl (GOp.op (OpY.sub (x := left) (y := 1) (z := (iw (left - 1))) rfl rfl rfl ⟨rfl, rfl⟩)) ?_
          exact LateP.nil
         obtain ⟨x17, q38, h⟩ := bind_some h
         obtain ⟨q39, q40, q41⟩ := apnd_some q38
         by_cases hr10 : (List.length text) + 1 ≤ text_cap
         ·
          have f27 := (hE61.mono (K29 None))
          have f28 := ((hE59.mono (K28 S)).mono (K29 S))
          refine RlL.op (OpY.apRoom (r := (rInt .u8)) (H := (Hv w.heap.size S [some b16, some f_b, ob14, text_ob, some b15] w62)) (cs := cs19) (sp := sp19) (xs := text) (ys := [(uw8 c14)]) (Y := x17) (n := (List.length text)) (cap := text_cap) (i := 3) Tryd.underlying62 ti5 rfl rfl rfl hL33 rfl rfl f28 rfl hc20 (Src.row (pre := []) (o := 0) (n := 1) (cap := 1) (hL33.at 0 rfl rfl) f27 rfl rfl rfl) (Els.anyH (fun _ _ _ _ h => h) f27) (Nat.le_of_ble_eq_true rfl) hr10 q41 ?_)
          intro sp20 cs20 w63 hE62 hc23 (hL34 : Go.X.Loc X [] w w63 [some b16, some f_b, ob14, text_ob, some b15] [Cont.cells ([] ++ ([(Value.int .u8 (uw8 c14))] ++ [])), Cont.cells [f_v1, f_v2, f_v3, (Value.int .i64 f.most), (osv ob14 0 (List.length words13) cap14)], Cont.cells ([] ++ (cs18 ++ sp18)), Cont.cells ([] ++ (cs20 ++ sp20)), Cont.cells [(Value.int .u8 x16.Low), (Value.int .u8 x16.High), (Value.int .i64 x16.To)]]) hS16
          have K30 := ks w hS16
          refine ⟨?_, ?_⟩
          ·
           refine LateP.cons (i := 0) rfl rfl (GOp.op (OpY.move (v := (Value.pointer (some ⟨f_b, 0, none⟩))) rfl ⟨rfl, rfl⟩)) ?_
           refine LateP.cons (i := 1) rfl rfl (GOp.op (OpY.fieldAddr (q := 2) Tryd.underlying57 rfl ti3 rfl rfl rfl ⟨rfl, rfl⟩)) ?_
           refine LateP.cons (i := 2) rfl rfl (GOp.op (OpY.ldBox1 (v := (Value.int .i64 x16.To)) Tryd.underlying3 rfl rfl (hL34.at 4 rfl rfl) rfl ⟨rfl, rfl⟩)) ?_
           refine LateP.cons (i := 4) rfl rfl (GOp.op (OpY.move (v := (Value.int .i64 c14)) rfl ⟨rfl, rfl⟩)) ?_
           refine LateP.cons (i := 8) rfl rfl (GOp.op (OpY.move (v := (Value.int .i64 left)) rfl ⟨rfl, rfl⟩)) ?_
           refine LateP.cons (i := 9) rfl rfl (GOp.op (OpY.sub (x := left) (y := 1) (z := (iw (left - 1))) rfl rfl rfl ⟨rfl, rfl⟩)) ?_
           exact LateP.nil
          obtain ⟨r10, q42, h⟩ := bind_some h
          have hL35 := hL34.lendW [1, 2, 3] rfl rfl rfl
          have f29 := ((((((((f_h1.mono (K17 S)).mono (K23 S)).mono (K24 S)).mono (K25 S)).mono (K27 S)).mono (K28 S)).mono (K29 S)).mono (K30 S))
          have f30 := (((((((f20.mono (K23 S)).mono (K24 S)).mono (K25 S)).mono (K27 S)).mono (K28 S)).mono (K29 S)).mono (K30 S))
          have f31 := ((((((((f_h3.mono (K17 S)).mono (K23 S)).mono (K24 S)).mono (K25 S)).mono (K27 S)).mono (K28 S)).mono (K29 S)).mono (K30 S))
          have f32 := (((hE58.mono (K28 S)).mono (K29 S)).mono (K30 S))
          have f33 := (hE62.mono (K30 S))
          refine RlL.op (OpY.callg en38 rfl rfl (ih (AFinder.mk (ADfa.mk f.d.Accept f.d.Edges) f.can f.most words13) x16.To x17 (iw (left - 1)) f_b f_v1 f_v2 f_v3 ob14 cap14 cs18 sp18 text_ob text_cap cs20 sp20 [some f_b, ob14, text_ob] _ Any hL35 (f29.mono (Hv.lendW [1, 2, 3] rfl)) (f30.mono (Hv.lendW [1, 2, 3] rfl)) (f31.mono (Hv.lendW [1, 2, 3] rfl)) (f32.mono (Hv.lendW [1, 2, 3] rfl)) hc19 (f33.mono (Hv.lendW [1, 2, 3] rfl)) hc23 r10 q42) ?_)
          rintro _ w64 ⟨ob15, cap15, cs21, sp21, cs22, sp22, rfl, hL36, K31, hE63, hc24, hE64, hc25, -⟩
          refine ⟨_, rfl, ?_⟩
          have hp12 := hL34.backW [1, 2, 3] [0, 4] rfl rfl rfl rfl hL36
          have hL37 : Go.X.Loc X [] w w64 [some f_b, ob15, text_ob, some b16, some b15] [Cont.cells [f_v1, f_v2, f_v3, (Value.int .i64 f.most), (osv ob15 0 (List.length r10) cap15)], Cont.cells ([] ++ (cs21 ++ sp21)), Cont.cells ([] ++ (cs22 ++ sp22)), Cont.cells ([] ++ ([(Value.int .u8 (uw8 c14))] ++ [])), Cont.cells [(Value.int .u8 x16.Low), (Value.int .u8 x16.High), (Value.int .i64 x16.To)]] := hp12.1
          have K32 := ks w hp12.2
          have hE65 : Els rStr (Hv w.heap.size S [some f_b, ob15, text_ob, some b16, some b15] w64) cs21 r10 := Els.anyH (fun _ _ _ _ h => h) hE63
          have hE66 : Els (rInt .u8) (Hv w.heap.size S [some f_b, ob15, text_ob, some b16, some b15] w64) cs22 x17 := Els.anyH (fun _ _ _ _ h => h) hE64
          refine ⟨?_, ?_⟩
          ·
           refine LateP.cons (i := 1) rfl rfl (GOp.op (OpY.fieldAddr (q := 2) Tryd.underlying57 rfl ti3 rfl rfl rfl ⟨rfl, rfl⟩)) ?_
           refine LateP.cons (i := 4) rfl rfl (GOp.op (OpY.move (v := (Value.int .i64 c14)) rfl ⟨rfl, rfl⟩)) ?_
           refine LateP.cons (i := 8) rfl rfl (GOp.op (OpY.move (v := (Value.int .i64 left)) rfl ⟨rfl, rfl⟩)) ?_
           exact LateP.nil
          refine RlL.fin ?_
          refine Swp.pop_blk (Swp.region rfl (Rl.op (OpY.move (v := (Value.int .i64 c14)) rfl ?_)))
          refine Rl.op (OpY.add (x := c14) (y := 1) (z := (iw (c14 + 1))) rfl rfl rfl ?_)
          refine Rl.op (OpY.assign (v := (Value.int .i64 (iw (c14 + 1)))) rfl ?_)
          refine Rl.nil ?_
          obtain ⟨cs23, sp23, rfl, hE67⟩ := Els.shrink (show Els (rInt .u8) _ _ (_ ++ _) by rw [← q41]; exact hE66)
          have q43 : cs23 ++ (sp23 ++ sp22) = (cs23 ++ sp23) ++ sp22 := (List.append_assoc _ _ _).symm
          have hc26 : (cs23 ++ (sp23 ++ sp22)).length = text_cap * (rInt .u8).sz := by rw [q43]; exact hc25
          have hL38 : Go.X.Loc X [] w w64 [some f_b, ob15, text_ob, some b16, some b15] [Cont.cells [f_v1, f_v2, f_v3, (Value.int .i64 f.most), (osv ob15 0 (List.length r10) cap15)], Cont.cells ([] ++ (cs21 ++ sp21)), Cont.cells ([] ++ (cs23 ++ (sp23 ++ sp22))), Cont.cells ([] ++ ([(Value.int .u8 (uw8 c14))] ++ [])), Cont.cells [(Value.int .u8 x16.Low), (Value.int .u8 x16.High), (Value.int .i64 x16.To)]] := by rw [q43]; exact hL37
          have hp13 := hL38.pick [0, 1, 2, 4] rfl rfl rfl
          have hL39 : Go.X.Loc X [] w w64 [some f_b, ob15, text_ob, some b15] [Cont.cells [f_v1, f_v2, f_v3, (Value.int .i64 f.most), (osv ob15 0 (List.length r10) cap15)], Cont.cells ([] ++ (cs21 ++ sp21)), Cont.cells ([] ++ (cs23 ++ (sp23 ++ sp22))), Cont.cells [(Value.int .u8 x16.Low), (Value.int .u8 x16.High), (Value.int .i64 x16.To)]] := hp13.1
          have K33 := ks w hp13.2
          have f34 := (hE65.mono (K33 S))
          have f35 := (hE67.mono (K33 S))
          obtain rfl := Option.some.inj h
          refine Swp.pop_back ⟨(r10, (iw (c14 + 1))), rfl, ?_⟩
          exact ⟨ob15, cap15, sp21, cs21, (List.length r10), cs23, (sp23 ++ sp22), _, (upds_sym ⟨rfl, rfl, rfl, rfl, rfl, rfl, rfl, rfl, trivial⟩), hL39, (Keep.trans (Keep.trans (Keep.trans (Keep.trans (Keep.trans K27 K28) K29) K30) K32) K33), f34, rfl, hc24, f35, hc26, trivial⟩
         ·
          have f27 := (hE61.mono (K29 None))
          have f36 := ((hE59.mono (K28 S)).mono (K29 S))
          refine RlL.op (OpY.apNew (r := (rInt .u8)) (H := (Hv w.heap.size S [some b16, some f_b, ob14, text_ob, some b15] w62)) (cs := cs19) (sp := sp19) (xs := text) (ys := [(uw8 c14)]) (Y := x17) (n := (List.length text)) (cap := text_cap) (i := 3) Tryd.underlying62 ti5 rfl rfl rfl rfl hL33 rfl rfl f36 rfl hc20 (Src.row (pre := []) (o := 0) (n := 1) (cap := 1) (hL33.at 0 rfl rfl) f27 rfl rfl rfl) (Els.anyH (fun _ _ _ _ h => h) f27) (Nat.le_of_ble_eq_true rfl) hr10 q39 q40 q41 ?_)
          intro b17 cap16 sp24 cs24 w65 hE68 hc27 (hL40 : Go.X.Loc X [] w w65 [some b17, some b16, some f_b, ob14, text_ob, some b15] [Cont.cells ([] ++ (cs24 ++ sp24)), Cont.cells ([] ++ ([(Value.int .u8 (uw8 c14))] ++ [])), Cont.cells [f_v1, f_v2, f_v3, (Value.int .i64 f.most), (osv ob14 0 (List.length words13) cap14)], Cont.cells ([] ++ (cs18 ++ sp18)), Cont.cells ([] ++ (cs19 ++ sp19)), Cont.cells [(Value.int .u8 x16.Low), (Value.int .u8 x16.High), (Value.int .i64 x16.To)]]) hS17
          have K34 := ks w hS17
          refine ⟨?_, ?_⟩
          ·
           refine LateP.cons (i := 0) rfl rfl (GOp.op (OpY.move (v := (Value.pointer (some ⟨f_b, 0, none⟩))) rfl ⟨rfl, rfl⟩)) ?_
           refine LateP.cons (i := 1) rfl rfl (GOp.op (OpY.fieldAddr (q := 2) Tryd.underlying57 rfl ti3 rfl rfl rfl ⟨rfl, rfl⟩)) ?_
           refine LateP.cons (i := 2) rfl rfl (GOp.op (OpY.ldBox1 (v := (Value.int .i64 x16.To)) Tryd.underlying3 rfl rfl (hL40.at 5 rfl rfl) rfl ⟨rfl, rfl⟩)) ?_
           refine LateP.cons (i := 4) rfl rfl (GOp.op (OpY.move (v := (Value.int .i64 c14)) rfl ⟨rfl, rfl⟩)) ?_
           refine LateP.cons (i := 8) rfl rfl (GOp.op (OpY.move (v := (Value.int .i64 left)) rfl ⟨rfl, rfl⟩)) ?_
           refine LateP.cons (i := 9) rfl rfl (GOp.op (OpY.sub (x := left) (y := 1) (z := (iw (left - 1))) rfl rfl rfl ⟨rfl, rfl⟩)) ?_
           exact LateP.nil
          obtain ⟨r10, q42, h⟩ := bind_some h
          have hL35 := hL40.lendW [2, 3, 0] rfl rfl rfl
          have f29 := ((((((((f_h1.mono (K17 S)).mono (K23 S)).mono (K24 S)).mono (K25 S)).mono (K27 S)).mono (K28 S)).mono (K29 S)).mono (K34 S))
          have f30 := (((((((f20.mono (K23 S)).mono (K24 S)).mono (K25 S)).mono (K27 S)).mono (K28 S)).mono (K29 S)).mono (K34 S))
          have f31 := ((((((((f_h3.mono (K17 S)).mono (K23 S)).mono (K24 S)).mono (K25 S)).mono (K27 S)).mono (K28 S)).mono (K29 S)).mono (K34 S))
          have f32 := (((hE58.mono (K28 S)).mono (K29 S)).mono (K34 S))
          have f33 := (hE68.mono (K34 S))
          refine RlL.op (OpY.callg en38 rfl rfl (ih (AFinder.mk (ADfa.mk f.d.Accept f.d.Edges) f.can f.most words13) x16.To x17 (iw (left - 1)) f_b f_v1 f_v2 f_v3 ob14 cap14 cs18 sp18 (some b17) cap16 cs24 sp24 [some f_b, ob14, some b17] _ Any hL35 (f29.mono (Hv.lendW [2, 3, 0] rfl)) (f30.mono (Hv.lendW [2, 3, 0] rfl)) (f31.mono (Hv.lendW [2, 3, 0] rfl)) (f32.mono (Hv.lendW [2, 3, 0] rfl)) hc19 (f33.mono (Hv.lendW [2, 3, 0] rfl)) hc27 r10 q42) ?_)
          rintro _ w64 ⟨ob15, cap15, cs21, sp21, cs22, sp22, rfl, hL36, K31, hE63, hc24, hE64, hc25, -⟩
          refine ⟨_, rfl, ?_⟩
          have hp12 := hL40.backW [2, 3, 0] [1, 4, 5] rfl rfl rfl rfl hL36
          have hL37 : Go.X.Loc X [] w w64 [some f_b, ob15, some b17, some b16, text_ob, some b15] [Cont.cells [f_v1, f_v2, f_v3, (Value.int .i64 f.most), (osv ob15 0 (List.length r10) cap15)], Cont.cells ([] ++ (cs21 ++ sp21)), Cont.cells ([] ++ (cs22 ++ sp22)), Cont.cells ([] ++ ([(Value.int .u8 (uw8 c14))] ++ [])), Cont.cells ([] ++ (cs19 ++ sp19)), Cont.cells [(Value.int .u8 x16.Low), (Value.int .u8 x16.High), (Value.int .i64 x16.To)]] := hp12.1
          have K32 := ks w hp12.2
          have hE65 : Els rStr (Hv w.heap.size S [some f_b, ob15, some b17, some b16, text_ob, some b15] w64) cs21 r10 := Els.anyH (fun _ _ _ _ h => h) hE63
          have hE66 : Els (rInt .u8) (Hv w.heap.size S [some f_b, ob15, some b17, some b16, text_ob, some b15] w64) cs22 x17 := Els.anyH (fun _ _ _ _ h => h) hE64
          refine ⟨?_, ?_⟩
          ·
           refine LateP.cons (i := 1) rfl rfl (GOp.op (OpY.fieldAddr (q := 2) Tryd.underlying57 rfl ti3 rfl rfl rfl ⟨rfl, rfl⟩)) ?_
           refine LateP.cons (i := 4) rfl rfl (GOp.op (OpY.move (v := (Value.int .i64 c14)) rfl ⟨rfl, rfl⟩)) ?_
           refine LateP.cons (i := 8) rfl rfl (GOp.op (OpY.move (v := (Value.int .i64 left)) rfl ⟨rfl, rfl⟩)) ?_
           exact LateP.nil
          refine RlL.fin ?_
          refine Swp.pop_blk (Swp.region rfl (Rl.op (OpY.move (v := (Value.int .i64 c14)) rfl ?_)))
          refine Rl.op (OpY.add (x := c14) (y := 1) (z := (iw (c14 + 1))) rfl rfl rfl ?_)
          refine Rl.op (OpY.assign (v := (Value.int .i64 (iw (c14 + 1)))) rfl ?_)
          refine Rl.nil ?_
          have hp14 := hL37.pick [0, 1, 4, 5] rfl rfl rfl
          have hL41 : Go.X.Loc X [] w w64 [some f_b, ob15, text_ob, some b15] [Cont.cells [f_v1, f_v2, f_v3, (Value.int .i64 f.most), (osv ob15 0 (List.length r10) cap15)], Cont.cells ([] ++ (cs21 ++ sp21)), Cont.cells ([] ++ (cs19 ++ sp19)), Cont.cells [(Value.int .u8 x16.Low), (Value.int .u8 x16.High), (Value.int .i64 x16.To)]] := hp14.1
          have K35 := ks w hp14.2
          have f37 := (hE65.mono (K35 S))
          have f38 := (((f36.mono (K34 S)).mono (K32 S)).mono (K35 S))
          obtain rfl := Option.some.inj h
          refine Swp.pop_back ⟨(r10, (iw (c14 + 1))), rfl, ?_⟩
          exact ⟨ob15, cap15, sp21, cs21, (List.length r10), cs19, sp19, _, (upds_sym ⟨rfl, rfl, rfl, rfl, rfl, rfl, rfl, rfl, trivial⟩), hL41, (Keep.trans (Keep.trans (Keep.trans (Keep.trans (Keep.trans K27 K28) K29) K34) K32) K35), f37, rfl, hc24, f38, hc20, trivial⟩
        ·
         replace h := ite_f hc21 h
         refine Swp.exit rfl ?_
         have hp15 := hL31.pick [0, 1, 2] rfl rfl rfl
         have hL42 : Go.X.Loc X [] w w60 [some f_b, ob14, text_ob] [Cont.cells [f_v1, f_v2, f_v3, (Value.int .i64 f.most), (osv ob14 0 (List.length words13) cap14)], Cont.cells ([] ++ (cs18 ++ sp18)), Cont.cells ([] ++ (cs19 ++ sp19))] := hp15.1
         have K36 := ks w hp15.2
         have f39 := (hE58.mono (K36 S))
         have f40 := (hE59.mono (K36 S))
         obtain rfl := Option.some.inj h
         obtain rfl := hd11 _ rfl
         replace h := g12
         try dsimp only at h
         skip
         refine Swp.pop_back ?_
         exact ⟨words13, ob14, cap14, sp18, cs18, (List.length words13), cs19, sp19, _, rfl, (upds_sym ⟨rfl, rfl, rfl, rfl, rfl, rfl, trivial⟩), hL42, (Keep.trans K27 K36), f39, rfl, hc19, f40, hc20, trivial⟩
       ·
        rintro _ w66 ⟨words12, ob13, cap13, sp16, cs16, ln12, cs17, sp17, u, rfl, rfl, hL43, K37, hE69, rfl, hc28, hE70, hc29, -⟩
        replace h := g12
        try dsimp only at h
        refine Swp.pop_blk (Swp.region rfl (Rl.op (OpY.add (x := x15) (y := 1) (z := (iw (x15 + 1))) rfl rfl rfl ?_)))
        refine Rl.op (OpY.move (v := (Value.int .i64 (iw (x15 + 1)))) rfl ?_)
        refine Rl.nil ?_
        obtain rfl := Option.some.inj h
        refine Swp.pop_back ⟨(words12, (iw (x15 + 1))), rfl, ?_⟩
        exact ⟨ob13, cap13, sp16, cs16, (List.length words12), cs17, sp17, _, (upds_sym ⟨rfl, rfl, rfl, rfl, rfl, rfl, trivial⟩), hL43, (Keep.trans (Keep.trans (Keep.trans K23 K24) K25) K37), hE69, rfl, hc28, hE70, hc29, trivial⟩
      ·
       replace h := ite_f hc18 h
       refine Swp.exit rfl ?_
       obtain rfl := Option.some.inj h
       obtain rfl := hd10 _ rfl
       replace h := g11
       try dsimp only at h
       skip
       refine Swp.pop_back ?_
       exact ⟨words11, ob12, cap12, sp14, cs14, (List.length words11), cs15, sp15, _, rfl, (upds_sym ⟨rfl, rfl, trivial⟩), hL27, K23, hE56, rfl, hc16, hE57, hc17, trivial⟩
     ·
      rintro _ w67 ⟨words10, ob11, cap11, sp12, cs12, ln10, cs13, sp13, u, rfl, rfl, hL44, K38, hE71, rfl, hc30, hE72, hc31, -⟩
      replace h := g11
      try dsimp only at h
      refine Swp.nil ?_
      obtain rfl := Option.some.inj h
      refine ⟨[], trivial, ?_⟩
      exact ⟨ob11, cap11, cs12, sp12, cs13, sp13, rfl, hL44, (Keep.trans K17 K38), hE71, hc30, hE72, hc31, trivial⟩
theorem aWords1_w (N : Nat) (pa : AEdge) (ca : AFinder) (cb : Int) (ca_b : Nat) (ca_p : Nat) (ca_v : Value) (ca_v1 : Value) (ca_v2 : Value) (ca_v3 : Value) (cb_b : Nat) (w : World) (S : Nat → Prop) (ca_at : At (Hv w.heap.size S [] w) ca_b 0 [(Value.pointer (some ⟨ca_p, 0, none⟩))]) (ca_pt : At (Hv w.heap.size S [] w) ca_p 0 [ca_v, ca_v1, ca_v2, (Value.int .i64 ca.most), ca_v3]) (ca_h : Rs rBool (Hv w.heap.size S [] w) ca_v ca.d.Accept) (ca_h1 : Rs (rSl rAEdge) (Hv w.heap.size S [] w) ca_v1 ca.d.Edges) (ca_h2 : Rs (rSl rBool) (Hv w.heap.size S [] w) ca_v2 ca.can) (ca_h3 : Rs rStr (Hv w.heap.size S [] w) ca_v3 ca.words) (cb_at : At (Hv w.heap.size S [] w) cb_b 0 [(Value.int .i64 cb)]) (r : Bool) (h : aWords1 N pa ca cb = some r) :
  Calls Tryd.prog 37 #[(Value.agg #[(Value.int .u8 pa.Low), (Value.int .u8 pa.High), (Value.int .i64 pa.To)]), (Value.pointer (some ⟨ca_b, 0, none⟩)), (Value.pointer (some ⟨cb_b, 0, none⟩))] w (Ret w (fun v w' => (Value.bool r) = v ∧ True)) := by
 unfold aWords1 at h
 have hL : Go.X.Loc [] [] w w [] [] := Go.X.Loc.begin0 w
 refine calls_of (l := [(Value.agg #[(Value.int .u8 pa.Low), (Value.int .u8 pa.High), (Value.int .i64 pa.To)]), (Value.pointer (some ⟨ca_b, 0, none⟩)), (Value.pointer (some ⟨cb_b, 0, none⟩))]) (rl := [.tmp 4]) (n := 16) Tryd.func37 rfl rfl rfl (Nat.le_of_ble_eq_true rfl) ?_
 refine Swp.seq (Swp.region rfl (Rl.op (OpY.box (cs := [(Value.int .u8 pa.Low), (Value.int .u8 pa.High), (Value.int .i64 pa.To)]) rfl rfl hL ?_)))
 intro b1 w2 hL3 hS5
 have K4 := ks w hS5
 refine Rl.op (OpY.assign (v := (Value.bool false)) rfl ?_)
 refine Rl.nil (Swp.seq ?_)
 have f7 := (At.mono (K4 S) ca_pt)
 have f6 := (f7.part (us := [ca_v2]) 2 rfl)
 obtain ⟨x8, q9, h⟩ := bind_some h
 obtain ⟨n10, q10, q11⟩ := idx_some q9
 have f10 := (ca_h2.mono (K4 S))
 obtain ⟨b10, o10, c10, vs10, q12, q13, f11, q14⟩ := Rs.get f10 q11
 obtain ⟨v10, rfl, k10⟩ := q14
 refine Swp.drawL 9 [] [] (fun W1 => [.det (Value.pointer (some ⟨ca_p, 0, none⟩)), .det (Value.pointer (some ⟨ca_p, 0, none⟩)), .det (Value.pointer (some ⟨ca_p, 0 + 2, none⟩)), .det ca_v2, .det (Value.int .i64 cb), .det (Value.pointer (some ⟨b10, (o10 + n10 * (rSl rBool).sz), none⟩)), .det v10, .det (Value.pointer (some ⟨b1, 2, none⟩)), .det (Value.int .i64 pa.To)]) mixed rfl rfl rfl (fun _ => rfl) (fun _ => rfl) ?_ ?_
 ·
  intro W1 _
  exact trivial
 ·
  intro w10 hE10
  have hL10 := hL3.ext hE10
  have K10 := ke hL3 hE10
  refine DrH.de (fun _ hE11 => GOp.op (OpY.ldRo1 Tryd.underlying66 rfl rfl vw_view (At.mono ((ke hL10 hE11) S) (At.mono (K10 S) (At.mono (K4 S) ca_at))) (er rfl))) ?_
  refine DrH.de (fun _ _ => GOp.op (OpY.nilCheck (b := ⟨ca_p, 0, none⟩) rfl (er rfl))) ?_
  refine DrH.de (fun _ _ => GOp.op (OpY.fieldAddr Tryd.underlying69 rfl ti67 rfl rfl rfl (er rfl))) ?_
  refine DrH.de (fun _ hE14 => GOp.op (OpY.ldRo1 Tryd.underlying67 rfl rfl vw_view (At.mono ((ke hL10 hE14) S) (At.mono (K10 S) f6)) (er rfl))) ?_
  refine DrH.de (fun _ hE15 => GOp.op (OpY.ldRo1 Tryd.underlying3 rfl rfl vw_view (At.mono ((ke hL10 hE15) S) (At.mono (K10 S) (At.mono (K4 S) cb_at))) (er rfl))) ?_
  refine DrH.de (fun _ _ => GOp.op (OpY.ixRoD (r := (rSl rBool)) (v := ca_v2) (n := n10) (m := (o10 + n10 * (rSl rBool).sz)) Tryd.underlying67 ti22 rfl q12 rfl q10 q11 rfl (er rfl))) ?_
  refine DrH.de (fun _ hE17 => GOp.op (OpY.ldRo1 Tryd.underlying22 rfl rfl vw_view (At.mono ((ke hL10 hE17) S) (At.mono (K10 S) f11)) (er rfl))) ?_
  refine DrH.de (fun _ _ => GOp.op (OpY.fieldAddr Tryd.underlying57 rfl ti3 rfl rfl rfl (er rfl))) ?_
  refine DrH.de (fun _ hE19 => GOp.op (OpY.ldBox1 Tryd.underlying3 rfl rfl ((hL10.ext hE19).at 0 rfl rfl) rfl (er rfl))) ?_
  refine DrH.fin0 ?_
  rintro w20 Z23 hE20 hZ19 ⟨-⟩ ap10
  have hB10 : ∀ b, some b ∈ ([] : List (Option Nat)) → w10.heap.size ≤ b ∧ ¬ Z23 b := by
   intro b hb; cases hb
  have hL12 := hL10.ext hE20
  have K15 := ke hL10 hE20
  obtain ⟨x10, q15, h⟩ := bind_some h
  obtain ⟨n11, q16, q17⟩ := idx_some q15
  have f12 := ((k10.mono (K10 S)).mono (K15 S))
  obtain ⟨b11, o11, c11, vs11, q18, q19, f13, q20⟩ := Rs.get f12 q17
  obtain rfl := q20
  refine Rl.op (OpY.ixRoD (r := rBool) (v := v10) (n := n11) (m := (o11 + n11 * rBool.sz)) Tryd.underlying22 ti4 rfl q18 rfl q16 q17 rfl ?_)
  refine Rl.op (OpY.ldRo1 (v := (Value.bool x10)) Tryd.underlying4 rfl rfl vw_view f13 ?_)
  refine Rl.op (OpY.assign (v := (Value.bool x10)) rfl ?_)
  refine Rl.nil (Swp.ret ?_)
  obtain rfl := Option.some.inj h
  refine ⟨[(Value.bool x10)], ⟨rfl, trivial⟩, ⟨_, rfl, hL12.done, ?_⟩⟩
  exact ⟨rfl, trivial⟩
theorem aWords_w (N : Nat) (d : ADfa) (length : Int) (most : Int) (d_v : Value) (d_v1 : Value) (w : World) (S : Nat → Prop) (d_h : Rs rBool (Hv w.heap.size S [] w) d_v d.Accept) (d_h1 : Rs (rSl rAEdge) (Hv w.heap.size S [] w) d_v1 d.Edges) (r : (List (List UInt8))) (h : aWords N d length most = some r) :
  Calls Tryd.prog 16 #[(Value.agg #[d_v, d_v1]), (Value.int .i64 length), (Value.int .i64 most)] w (Ret w (fun v w' => ∃ (ob0 : Option Nat) (cap0 : Nat) (cs0 : List Value) (sp0 : List Value), (osv ob0 0 (List.length r) cap0) = v ∧ NewOwn w w' [ob0] [Cont.cells ([] ++ (cs0 ++ sp0))] ∧ Els rStr (Hv w.heap.size None [ob0] w') cs0 r ∧ (cs0 ++ sp0).length = cap0 * rStr.sz ∧ True)) := by
 unfold aWords at h
 have hL : Go.X.Loc [] [] w w [] [] := Go.X.Loc.begin0 w
 refine calls_of (l := [(Value.agg #[d_v, d_v1]), (Value.int .i64 length), (Value.int .i64 most)]) (rl := [.tmp 6]) (n := 66) Tryd.func16 rfl rfl rfl (Nat.le_of_ble_eq_true rfl) ?_
 refine Swp.seq (Swp.region rfl (Rl.op (OpY.box (cs := [d_v, d_v1]) rfl rfl hL ?_)))
 intro b1 w2 hL3 hS5
 have K4 := ks w hS5
 refine Rl.op (OpY.assign (v := (Value.slice none 0 0)) rfl ?_)
 refine Rl.nil (Swp.seq (Swp.seq ?_))
 obtain ⟨s9, h, g10⟩ := bind_some h
 refine Swp.join (fun e w' => ∃ (x8 : Bool) (u : Env), x8 = s9 ∧ e = upds [(1, (Value.int .i64 length)), (2, (Value.int .i64 most)), (3, (Value.pointer (some ⟨b1, 0, none⟩))), (16, (Value.bool x8))] u ∧ Go.X.Loc [] [] w w' [some b1] [Cont.cells [d_v, d_v1]] ∧ Keep w.heap.size [some b1] w2 [some b1] w' ∧ True) ?_ ?_
 ·
  refine Swp.region rfl (Rl.op (OpY.move (v := (Value.int .i64 length)) rfl ?_))
  refine Rl.op (OpY.lss (x := length) (y := 0) ((length : Int) < 0) rfl rfl Iff.rfl ?_)
  refine Rl.op (OpY.move (v := (Value.bool (decide ((length : Int) < 0)))) rfl ?_)
  by_cases hc10 : (length : Int) < 0
  ·
   replace h := ite_t hc10 h
   refine Rl.no rfl rfl (decide_eq_true hc10) ?_
   refine Rl.no rfl rfl (decide_eq_true hc10) ?_
   refine Rl.op (OpY.pick_t (t := (decide ((length : Int) < 0))) (v := (Value.bool true)) rfl (decide_eq_true hc10) rfl ?_)
   refine Rl.nil ?_
   obtain rfl := Option.some.inj h
   refine Swp.pop_back ?_
   exact ⟨true, _, rfl, (upds_sym ⟨rfl, rfl, rfl, rfl, trivial⟩), hL3, Keep.refl, trivial⟩
  ·
   replace h := ite_f hc10 h
   refine Rl.yes rfl rfl (decide_eq_false hc10) (OpY.move (v := (Value.int .i64 most)) rfl ?_)
   refine Rl.yes rfl rfl (decide_eq_false hc10) (OpY.lss (x := most) (y := 0) ((most : Int) < 0) rfl rfl Iff.rfl ?_)
   refine Rl.op (OpY.pick_f (t := (decide ((length : Int) < 0))) (v := (Value.bool (decide ((most : Int) < 0)))) rfl (decide_eq_false hc10) rfl ?_)
   refine Rl.nil ?_
   obtain rfl := Option.some.inj h
   refine Swp.pop_back ?_
   exact ⟨(decide ((most : Int) < 0)), _, rfl, (upds_sym ⟨rfl, rfl, rfl, rfl, trivial⟩), hL3, Keep.refl, trivial⟩
 ·
  rintro _ w10 ⟨x8, u, rfl, rfl, hL10, K10, -⟩
  replace h := g10
  try dsimp only at h
  refine Swp.cond_b x8 rfl (fun hc11 => ?_) (fun hc11 => ?_)
  ·
   replace h := ite_t hc11 h
   refine Swp.seq (Swp.region rfl (Rl.op (OpY.assign (v := (Value.slice none 0 0)) rfl ?_)))
   refine Rl.nil ?_
   have hp10 := hL10.addNil
   have hL11 : Go.X.Loc [] [] w w10 [none, some b1] [Cont.cells ([] ++ ([] ++ [])), Cont.cells [d_v, d_v1]] := hp10.1
   have hE10 : Els rStr (Hv w.heap.size None [none, some b1] w10) [] [] := Els.nil
   refine Swp.ret ?_
   obtain rfl := Option.some.inj h
   refine ⟨[(osv none 0 (List.length ([] : (List (List UInt8)))) 0)], ⟨rfl, trivial⟩, ⟨_, rfl, hL11.done, ?_⟩⟩
   exact ⟨none, 0, [], [], rfl, (hL11.newOwn [0] rfl rfl rfl), (hE10.mono (Hv.pick [0] rfl)), (show ([] ++ [] : List Value).length = 0 * rStr.sz by simp), trivial⟩
  ·
   replace h := ite_f hc11 h
   refine Swp.skip (Swp.seq (Swp.region rfl (Rl.op (OpY.ldBoxA (vs := [d_v, d_v1]) Tryd.underlying32 rfl ti32 rfl (hL10.at 0 rfl rfl) rfl rfl ?_))))
   refine Rl.op (OpY.fieldAddr (q := 0) Tryd.underlying32 rfl ti22 rfl rfl rfl ?_)
   refine Rl.op (OpY.ldBox1 (v := d_v) Tryd.underlying22 rfl rfl (hL10.at 0 rfl rfl) rfl ?_)
   have f10 := ((d_h.mono (K4 S)).mono (K10 S))
   have hE11 : Els (rSl rBool) (Hv w.heap.size S [some b1] w10) [d_v] [d.Accept] := (Els.cons (a := [d_v]) ⟨_, rfl, f10⟩ Els.nil)
   refine Rl.op (OpY.litRow (r := (rSl rBool)) (vs := [d_v]) (css := [[d_v]]) (xs := [d.Accept]) Tryd.underlying67 ti22 (Nat.le_of_ble_eq_true rfl) rfl rfl ⟨(one_cells f10.one), rfl, trivial⟩ (Nat.le_of_ble_eq_true rfl) hE11 rfl hL10 ?_)
   intro b10 w11 hc12 hL12 hS10
   have K11 := ks w hS10
   refine Rl.op (OpY.move (v := (Value.int .i64 most)) rfl ?_)
   refine Rl.op (OpY.build (zc := [(Value.slice none 0 0), (Value.slice none 0 0), (Value.slice none 0 0), (Value.int .i64 0), (Value.slice none 0 0)]) (cs := [d_v, d_v1, (osv (some b10) 0 1 1), (Value.int .i64 most), (Value.slice none 0 0)]) (is := [0, 1, 2]) (vs := [(Value.agg #[d_v, d_v1]), (osv (some b10) 0 1 1), (Value.int .i64 most)]) (css := [[d_v, d_v1], [(osv (some b10) 0 1 1)], [(Value.int .i64 most)]]) pl69 ti69 rfl rfl rfl ⟨rfl, ⟨(one_cells (osv_one (some b10) 0 1 1)), ⟨rfl, trivial⟩⟩⟩ rfl ?_)
   refine Rl.op (OpY.box (cs := [d_v, d_v1, (osv (some b10) 0 1 1), (Value.int .i64 most), (Value.slice none 0 0)]) rfl rfl hL12 ?_)
   intro b11 w12 hL13 hS11
   have K12 := ks w hS11
   refine Rl.op (OpY.alloc (cs := [(Value.pointer none)]) ti66 rfl hL13 ?_)
   intro b12 w13 hL14 hS12
   have K13 := ks w hS12
   refine Rl.op0 (OpY.store (vs := [(Value.pointer (some ⟨b11, 0, none⟩))]) ti66 rfl rfl rfl rfl (ones_cons rfl ones_nil) hL14 0 rfl rfl (Nat.le_of_ble_eq_true rfl) ?_)
   intro w14 (hL15 : Go.X.Loc [] [] w w14 [some b12, some b11, some b10, some b1] [Cont.cells [(Value.pointer (some ⟨b11, 0, none⟩))], Cont.cells [d_v, d_v1, (osv (some b10) 0 1 1), (Value.int .i64 most), (Value.slice none 0 0)], Cont.cells ([] ++ ([d_v] ++ [])), Cont.cells [d_v, d_v1]]) hS13
   have K14 := ks w hS13
   refine Rl.nil (Swp.seq (Swp.seq (Swp.region rfl (Rl.op (OpY.move (v := (Value.int .i64 length)) rfl ?_)))))
   refine Rl.op (OpY.move (v := (Value.int .i64 0)) rfl ?_)
   refine Rl.nil ?_
   obtain ⟨s10, hl10, g11⟩ := bind_some h
   refine Swp.join (fun e w' => ∃ (can10 : (List (List Bool))) (ob10 : Option Nat) (cap10 : Nat) (sp10 : List Value) (cs10 : List Value) (ln10 : Nat) (u : Env), can10 = s10 ∧ e = upds [(1, (Value.int .i64 length)), (7, (Value.pointer (some ⟨b12, 0, none⟩)))] u ∧ Go.X.Loc [] [] w w' [some b12, some b11, ob10] [Cont.cells [(Value.pointer (some ⟨b11, 0, none⟩))], Cont.cells [d_v, d_v1, (osv ob10 0 ln10 cap10), (Value.int .i64 most), (Value.slice none 0 0)], Cont.cells ([] ++ (cs10 ++ sp10))] ∧ Keep w.heap.size [some b12, some b11, some b10, some b1] w14 [some b12, some b11, ob10] w' ∧ Els (rSl rBool) (Hv w.heap.size S [some b12, some b11, ob10] w') cs10 can10 ∧ ln10 = List.length can10 ∧ (cs10 ++ sp10).length = cap10 * (rSl rBool).sz ∧ True) ?_ ?_
   ·
    refine Swp.block ?_
    have hp11 := hL15.pick [3, 0, 1, 2] rfl rfl rfl
    have hL16 : Go.X.Loc [] [] w w14 [some b1, some b12, some b11, some b10] [Cont.cells [d_v, d_v1], Cont.cells [(Value.pointer (some ⟨b11, 0, none⟩))], Cont.cells [d_v, d_v1, (osv (some b10) 0 1 1), (Value.int .i64 most), (Value.slice none 0 0)], Cont.cells ([] ++ ([d_v] ++ []))] := hp11.1
    have K15 := ks w hp11.2
    have f11 := (((((hE11.mono (K11 S)).mono (K12 S)).mono (K13 S)).mono (K14 S)).mono (K15 S))
    refine Swp.loopM hl10 (fun (ss : ((List (List Bool)) × Int)) (e : Env) (w' : World) => match ss with | (can11, x10) => ∃ (ob11 : Option Nat) (cap11 : Nat) (sp11 : List Value) (cs11 : List Value) (ln11 : Nat) (u : Env), e = upds [(1, (Value.int .i64 length)), (3, (Value.pointer (some ⟨b1, 0, none⟩))), (7, (Value.pointer (some ⟨b12, 0, none⟩))), (24, (Value.int .i64 length)), (25, (Value.int .i64 x10))] u ∧ Go.X.Loc [] [] w w' [some b1, some b12, some b11, ob11] [Cont.cells [d_v, d_v1], Cont.cells [(Value.pointer (some ⟨b11, 0, none⟩))], Cont.cells [d_v, d_v1, (osv ob11 0 ln11 cap11), (Value.int .i64 most), (Value.slice none 0 0)], Cont.cells ([] ++ (cs11 ++ sp11))] ∧ Keep w.heap.size [some b12, some b11, some b10, some b1] w14 [some b1, some b12, some b11, ob11] w' ∧ Els (rSl rBool) (Hv w.heap.size S [some b1, some b12, some b11, ob11] w') cs11 can11 ∧ ln11 = List.length can11 ∧ (cs11 ++ sp11).length = cap11 * (rSl rBool).sz ∧ True) ⟨some b10, 1, [], [d_v], 1, _, (upds_sym ⟨rfl, rfl, rfl, rfl, rfl, trivial⟩), hL16, K15, f11, rfl, hc12, trivial⟩ ?_
    rintro ⟨can11, x10⟩ oo _ w15 ⟨ob11, cap11, sp11, cs11, ln11, u, rfl, hL17, K16, hE12, rfl, hc13, -⟩ h hd10
    rw [aWords_b1] at h
    refine Swp.seq (Swp.region rfl (Rl.op (OpY.lss (x := x10) (y := length) ((x10 : Int) < length) rfl rfl Iff.rfl ?_)))
    refine Rl.nil (Swp.seq ?_)
    refine Swp.cond_d ((x10 : Int) < length) rfl (fun hc14 => ?_) (fun hc14 => ?_)
    ·
     replace h := ite_t hc14 h
     refine Swp.skip (Swp.seq (Swp.block (Swp.seq (Swp.region rfl (Rl.op (OpY.move (v := (Value.int .i64 x10)) rfl ?_))))))
     refine Rl.op (OpY.alloc (cs := [(Value.int .i64 0)]) ti3 rfl hL17 ?_)
     intro b13 w16 hL18 hS14
     have K17 := ks w hS14
     refine Rl.op0 (OpY.store (vs := [(Value.int .i64 x10)]) ti3 rfl rfl rfl rfl (ones_cons rfl ones_nil) hL18 0 rfl rfl (Nat.le_of_ble_eq_true rfl) ?_)
     intro w17 (hL19 : Go.X.Loc [] [] w w17 [some b13, some b1, some b12, some b11, ob11] [Cont.cells [(Value.int .i64 x10)], Cont.cells [d_v, d_v1], Cont.cells [(Value.pointer (some ⟨b11, 0, none⟩))], Cont.cells [d_v, d_v1, (osv ob11 0 (List.length can11) cap11), (Value.int .i64 most), (Value.slice none 0 0)], Cont.cells ([] ++ (cs11 ++ sp11))]) hS15
     have K18 := ks w hS15
     refine Rl.nil (Swp.seq (Swp.region rfl (Rl.op (OpY.fieldAddr (q := 0) Tryd.underlying32 rfl ti22 rfl rfl rfl ?_))))
     refine Rl.op (OpY.ldBox1 (v := d_v) Tryd.underlying22 rfl rfl (hL19.at 1 rfl rfl) rfl ?_)
     have f12 := (((((((f10.mono (K11 S)).mono (K12 S)).mono (K13 S)).mono (K14 S)).mono (K16 S)).mono (K17 S)).mono (K18 S))
     refine Rl.op (OpY.lenRo (v := d_v) Tryd.underlying22 rfl f12 ?_)
     obtain ⟨x11, q10, h⟩ := bind_some h
     obtain ⟨m10, q11, q12, q13, q14⟩ := mk1_some q10
     refine Rl.op (OpY.mkRowX (r := rBool) (H := (Hv w.heap.size None [some b13, some b1, some b12, some b11, ob11] w17)) (zc := [(Value.bool false)]) (x := false) Tryd.underlying22 ti4 rfl rfl rfl rfl q11 q12 q13 q14 hL19 ?_)
     intro b14 w18 cs12 hE13 hc15 hL20 hS16
     have K19 := ks w hS16
     refine Rl.op (OpY.assign (v := (osv (some b14) 0 (List.length x11) m10)) rfl ?_)
     refine Rl.nil (Swp.seq (Swp.seq (Swp.region rfl (Rl.op (OpY.move (v := (osv (some b14) 0 (List.length x11) m10)) rfl ?_)))))
     have f13 := (hE13.mono (K19 None))
     refine Rl.op (OpY.lenRow (pre := []) (r := rBool) (xs := x11) Tryd.underlying22 rfl (hL20.at 0 rfl rfl) f13 rfl rfl ?_)
     refine Rl.op (OpY.move (v := (Value.int .i64 0)) rfl ?_)
     refine Rl.nil ?_
     obtain ⟨s11, hl11, g12⟩ := bind_some h
     refine Swp.join (fun e w' => ∃ (l10 : (List Bool)) (cs13 : List Value) (u : Env), l10 = s11 ∧ e = upds [(1, (Value.int .i64 length)), (3, (Value.pointer (some ⟨b1, 0, none⟩))), (7, (Value.pointer (some ⟨b12, 0, none⟩))), (9, (osv (some b14) 0 (List.length x11) m10)), (24, (Value.int .i64 length)), (25, (Value.int .i64 x10))] u ∧ Go.X.Loc [] [] w w' [some b1, some b12, some b11, ob11, some b14] [Cont.cells [d_v, d_v1], Cont.cells [(Value.pointer (some ⟨b11, 0, none⟩))], Cont.cells [d_v, d_v1, (osv ob11 0 (List.length can11) cap11), (Value.int .i64 most), (Value.slice none 0 0)], Cont.cells ([] ++ (cs11 ++ sp11)), Cont.cells ([] ++ (cs13 ++ []))] ∧ Keep w.heap.size [some b14, some b13, some b1, some b12, some b11, ob11] w18 [some b1, some b12, some b11, ob11, some b14] w' ∧ Els rBool (Hv w.heap.size None [some b1, some b12, some b11, ob11, some b14] w') cs13 l10 ∧ (List.length x11) = List.length l10 ∧ (cs13 ++ []).length = m10 * rBool.sz ∧ True) ?_ ?_
     ·
      refine Swp.block ?_
      have hp12 := hL20.pick [2, 3, 4, 5, 1, 0] rfl rfl rfl
      have hL21 : Go.X.Loc [] [] w w18 [some b1, some b12, some b11, ob11, some b13, some b14] [Cont.cells [d_v, d_v1], Cont.cells [(Value.pointer (some ⟨b11, 0, none⟩))], Cont.cells [d_v, d_v1, (osv ob11 0 (List.length can11) cap11), (Value.int .i64 most), (Value.slice none 0 0)], Cont.cells ([] ++ (cs11 ++ sp11)), Cont.cells [(Value.int .i64 x10)], Cont.cells ([] ++ (cs12 ++ []))] := hp12.1
      have K20 := ks w hp12.2
      have f14 := (f13.mono (K20 None))
      refine Swp.loopM hl11 (fun (ss : ((List Bool) × Int)) (e : Env) (w' : World) => match ss with | (l11, x12) => ∃ (cs14 : List Value) (u : Env), e = upds [(1, (Value.int .i64 length)), (3, (Value.pointer (some ⟨b1, 0, none⟩))), (7, (Value.pointer (some ⟨b12, 0, none⟩))), (8, (Value.pointer (some ⟨b13, 0, none⟩))), (9, (osv (some b14) 0 (List.length x11) m10)), (24, (Value.int .i64 length)), (25, (Value.int .i64 x10)), (33, (Value.int .i64 (List.length x11 : Int))), (34, (Value.int .i64 x12))] u ∧ Go.X.Loc [] [] w w' [some b1, some b12, some b11, ob11, some b13, some b14] [Cont.cells [d_v, d_v1], Cont.cells [(Value.pointer (some ⟨b11, 0, none⟩))], Cont.cells [d_v, d_v1, (osv ob11 0 (List.length can11) cap11), (Value.int .i64 most), (Value.slice none 0 0)], Cont.cells ([] ++ (cs11 ++ sp11)), Cont.cells [(Value.int .i64 x10)], Cont.cells ([] ++ (cs14 ++ []))] ∧ Keep w.heap.size [some b14, some b13, some b1, some b12, some b11, ob11] w18 [some b1, some b12, some b11, ob11, some b13, some b14] w' ∧ Els rBool (Hv w.heap.size None [some b1, some b12, some b11, ob11, some b13, some b14] w') cs14 l11 ∧ (List.length x11) = List.length l11 ∧ (cs14 ++ []).length = m10 * rBool.sz ∧ True) ⟨cs12, _, (upds_sym ⟨rfl, rfl, rfl, rfl, rfl, rfl, rfl, rfl, rfl, trivial⟩), hL21, K20, f14, rfl, hc15, trivial⟩ ?_
      rintro ⟨l11, x12⟩ oo _ w19 ⟨cs14, u, rfl, hL22, K21, hE14, hl12, hc16, -⟩ h hd11
      rw [aWords_b2] at h
      refine Swp.seq (Swp.region rfl (Rl.op (OpY.lss (x := x12) (y := (List.length x11 : Int)) ((x12 : Int) < (List.length x11 : Int)) rfl rfl Iff.rfl ?_)))
      refine Rl.nil (Swp.seq ?_)
      refine Swp.cond_d ((x12 : Int) < (List.length x11 : Int)) rfl (fun hc17 => ?_) (fun hc17 => ?_)
      ·
       replace h := ite_t hc17 h
       refine Swp.skip (Swp.seq (Swp.block (Swp.seq (Swp.region rfl (Rl.op (OpY.move (v := (Value.int .i64 x12)) rfl ?_))))))
       refine Rl.op (OpY.assign (v := (Value.int .i64 x12)) rfl ?_)
       refine Rl.nil (Swp.region rfl (Rl.op (OpY.move (v := (osv (some b14) 0 (List.length x11) m10)) rfl ?_)))
       refine Rl.op (OpY.move (v := (Value.int .i64 x12)) rfl ?_)
       refine Rl.op (OpY.fieldAddr (q := 1) Tryd.underlying32 rfl ti30 rfl rfl rfl ?_)
       refine Rl.op (OpY.ldBox1 (v := d_v1) Tryd.underlying30 rfl rfl (hL22.at 0 rfl rfl) rfl ?_)
       refine Rl.op (OpY.move (v := (Value.int .i64 x12)) rfl ?_)
       obtain ⟨x13, q15, h⟩ := bind_some h
       obtain ⟨n10, q16, q17⟩ := idx_some q15
       have f15 := (((((((((((d_h1.mono (K4 S)).mono (K10 S)).mono (K11 S)).mono (K12 S)).mono (K13 S)).mono (K14 S)).mono (K16 S)).mono (K17 S)).mono (K18 S)).mono (K19 S)).mono (K21 S))
       obtain ⟨b15, o10, c10, vs10, q18, q19, f16, q20⟩ := Rs.get f15 q17
       obtain ⟨v10, rfl, k10⟩ := q20
       refine Rl.op (OpY.ixRoD (r := (rSl rAEdge)) (v := d_v1) (n := n10) (m := (o10 + n10 * (rSl rAEdge).sz)) Tryd.underlying30 ti58 rfl q18 rfl q16 q17 rfl ?_)
       refine Rl.op (OpY.ldRo1 (v := v10) Tryd.underlying58 rfl rfl vw_view f16 ?_)
       refine Rl.op (OpY.makeFunc (vs := [(Value.pointer (some ⟨b12, 0, none⟩)), (Value.pointer (some ⟨b13, 0, none⟩))]) rfl ?_)
       obtain ⟨r10, q21, h⟩ := bind_some h
       have f17 := ((f12.mono (K19 S)).mono (K21 S))
       have f18 := ((((hE12.mono (K17 S)).mono (K18 S)).mono (K19 S)).mono (K21 S))
       refine Rl.op (OpY.call en36 rfl rfl (containsEdge_w N x13 (fun y10 => aWords1 N y10 (AFinder.mk d can11 most []) x10) v10 (Value.func (.func 37) #[] #[(Value.pointer (some ⟨b12, 0, none⟩)), (Value.pointer (some ⟨b13, 0, none⟩))]) _ Any (k10.mono vw_any) (fun w9 hE9 y11 z9 hz9 => ⟨37, [(Value.pointer (some ⟨b12, 0, none⟩)), (Value.pointer (some ⟨b13, 0, none⟩))], rfl, en37, (aWords1_w N y11 (AFinder.mk d can11 most []) x10 b12 b11 d_v d_v1 (osv ob11 0 (List.length can11) cap11) (Value.slice none 0 0) b13 _ Any (own_any ((hL22.at 1 rfl rfl).ext hE9)) (own_any ((hL22.at 2 rfl rfl).ext hE9)) ((f17.mono vw_any).mono (any_ext hE9)) ((f15.mono vw_any).mono (any_ext hE9)) ((own_row_any (pre := []) (o := 0) (n := (List.length can11)) (cap := cap11) (hL22.at 3 rfl rfl) f18 vw_any rfl rfl rfl hc13).mono (any_ext hE9)) Rs.nil (own_any ((hL22.at 4 rfl rfl).ext hE9)) z9 hz9)⟩) r10 q21) ?_)
       rintro _ w20 hE15 ⟨rfl, -⟩
       have hL23 := hL22.ext hE15
       have K22 := ke hL22 hE15
       obtain ⟨x14, q22, h⟩ := bind_some h
       obtain ⟨n11, q23, q24⟩ := idx_some q22
       have q25 := (List.getElem?_eq_some_iff.1 q24).1
       refine Rl.op (OpY.ixRowD (r := rBool) (b := b14) (o := 0) (n := n11) (m := (List.length x11)) (xs := l11) (q := (0 + n11 * rBool.sz)) Tryd.underlying22 ti4 rfl hl12 rfl q23 q25 rfl ?_)
       obtain ⟨x15, q26, h⟩ := bind_some h
       obtain ⟨n12, q27, q28, q29⟩ := upd1_some q26
       obtain rfl := Int.ofNat_inj.1 (q23.symm.trans q27)
       have f19 := (hE14.mono (K22 None))
       refine Rl.op0 (OpY.stRowX (pre := []) (r := rBool) (vs := [(Value.bool r10)]) (a := r10) ti4 rfl rfl rfl rfl hL23 5 rfl rfl f19 q25 rfl q29 ?_)
       have hl13 : (List.length x11) = List.length x15 := by rw [q29, List.length_set]; exact hl12
       intro w21 cs15 (hL24 : Go.X.Loc [] [] w w21 [some b1, some b12, some b11, ob11, some b13, some b14] [Cont.cells [d_v, d_v1], Cont.cells [(Value.pointer (some ⟨b11, 0, none⟩))], Cont.cells [d_v, d_v1, (osv ob11 0 (List.length can11) cap11), (Value.int .i64 most), (Value.slice none 0 0)], Cont.cells ([] ++ (cs11 ++ sp11)), Cont.cells [(Value.int .i64 x10)], Cont.cells ([] ++ (cs15 ++ []))]) hS17 hE16 q30
       have hc18 : (cs15 ++ []).length = m10 * rBool.sz := by have := hc16; rw [List.length_append] at this ⊢; rw [q30]; exact this
       have K23 := ks w hS17
       refine Rl.nil (Swp.pop_blk (Swp.region rfl (Rl.op (OpY.add (x := x12) (y := 1) (z := (iw (x12 + 1))) rfl rfl rfl ?_))))
       refine Rl.op (OpY.move (v := (Value.int .i64 (iw (x12 + 1)))) rfl ?_)
       refine Rl.nil ?_
       have f20 := (hE16.mono (K23 None))
       obtain rfl := Option.some.inj h
       refine Swp.pop_back ⟨(x15, (iw (x12 + 1))), rfl, ?_⟩
       exact ⟨cs15, _, (upds_sym ⟨rfl, rfl, rfl, rfl, rfl, rfl, rfl, rfl, rfl, trivial⟩), hL24, (Keep.trans (Keep.trans K21 K22) K23), f20, hl13, hc18, trivial⟩
      ·
       replace h := ite_f hc17 h
       refine Swp.exit rfl ?_
       have hp13 := hL22.pick [0, 1, 2, 3, 5] rfl rfl rfl
       have hL25 : Go.X.Loc [] [] w w19 [some b1, some b12, some b11, ob11, some b14] [Cont.cells [d_v, d_v1], Cont.cells [(Value.pointer (some ⟨b11, 0, none⟩))], Cont.cells [d_v, d_v1, (osv ob11 0 (List.length can11) cap11), (Value.int .i64 most), (Value.slice none 0 0)], Cont.cells ([] ++ (cs11 ++ sp11)), Cont.cells ([] ++ (cs14 ++ []))] := hp13.1
       have K24 := ks w hp13.2
       have f21 := (hE14.mono (K24 None))
       obtain rfl := Option.some.inj h
       obtain rfl := hd11 _ rfl
       replace h := g12
       try dsimp only at h
       skip
       refine Swp.pop_back ?_
       exact ⟨l11, cs14, _, rfl, (upds_sym ⟨rfl, rfl, rfl, rfl, rfl, rfl, trivial⟩), hL25, (Keep.trans K21 K24), f21, hl12, hc16, trivial⟩
     ·
      rintro _ w22 ⟨l10, cs13, u, rfl, rfl, hL26, K25, hE17, hl14, hc19, -⟩
      replace h := g12
      try dsimp only at h
      refine Swp.drawP [6, 7, 10] [0, 1, 2, 3, 4, 5, 8, 9] [(48, (Value.pointer (some ⟨b11, 0, none⟩))), (49, (Value.pointer (some ⟨b11, 0, none⟩))), (50, (Value.pointer (some ⟨b11, 0, none⟩))), (51, (Value.pointer (some ⟨b11, 2, none⟩))), (52, (osv ob11 0 (List.length can11) cap11)), (53, (osv (some b14) 0 (List.length x11) m10)), (56, (Value.pointer (some ⟨b11, 0, none⟩))), (57, (Value.pointer (some ⟨b11, 2, none⟩)))] mixed rfl rfl rfl rfl ?_
      intro w23 hE18
      have hL27 := hL26.ext hE18
      have K26 := ke hL26 hE18
      refine ⟨?_, ?_⟩
      ·
       refine LateP.cons (i := 0) rfl rfl (GOp.op (OpY.ldBox1 (v := (Value.pointer (some ⟨b11, 0, none⟩))) Tryd.underlying66 rfl rfl (hL27.at 1 rfl rfl) rfl ⟨rfl, rfl⟩)) ?_
       refine LateP.cons (i := 1) rfl rfl (GOp.op (OpY.ldBox1 (v := (Value.pointer (some ⟨b11, 0, none⟩))) Tryd.underlying66 rfl rfl (hL27.at 1 rfl rfl) rfl ⟨rfl, rfl⟩)) ?_
       refine LateP.cons (i := 2) rfl rfl (GOp.op (OpY.nilCheck (b := ⟨b11, 0, none⟩) rfl ⟨rfl, rfl⟩)) ?_
       refine LateP.cons (i := 3) rfl rfl (GOp.op (OpY.fieldAddr (q := 2) Tryd.underlying69 rfl ti67 rfl rfl rfl ⟨rfl, rfl⟩)) ?_
       refine LateP.cons (i := 4) rfl rfl (GOp.op (OpY.ldBox1 (v := (osv ob11 0 (List.length can11) cap11)) Tryd.underlying67 rfl rfl (hL27.at 2 rfl rfl) rfl ⟨rfl, rfl⟩)) ?_
       refine LateP.cons (i := 5) rfl rfl (GOp.op (OpY.move (v := (osv (some b14) 0 (List.length x11) m10)) rfl ⟨rfl, rfl⟩)) ?_
       refine LateP.cons (i := 8) rfl rfl (GOp.op (OpY.nilCheck (b := ⟨b11, 0, none⟩) rfl ⟨rfl, rfl⟩)) ?_
       refine LateP.cons (i := 9) rfl rfl (GOp.op (OpY.fieldAddr (q := 2) Tryd.underlying69 rfl ti67 rfl rfl rfl ⟨rfl, rfl⟩)) ?_
       exact LateP.nil
      have f22 := (hE17.mono (K26 None))
      have f23 := hL27.freezeRow 4 rfl rfl f22 rfl rfl hl14 hc19
      have hp14 := hL27.pick [0, 1, 2, 3] rfl rfl rfl
      have hL28 : Go.X.Loc [] [] w w23 [some b1, some b12, some b11, ob11] [Cont.cells [d_v, d_v1], Cont.cells [(Value.pointer (some ⟨b11, 0, none⟩))], Cont.cells [d_v, d_v1, (osv ob11 0 (List.length can11) cap11), (Value.int .i64 most), (Value.slice none 0 0)], Cont.cells ([] ++ (cs11 ++ sp11))] := hp14.1
      have K27 := ks w hp14.2
      have hE19 : Els (rSl rBool) (Hv w.heap.size None [some b1, some b12, some b11, ob11] w23) [(osv (some b14) 0 (List.length x11) m10)] [l10] := (Els.cons (a := [(osv (some b14) 0 (List.length x11) m10)]) ⟨_, rfl, f23⟩ Els.nil)
      refine RlL.op (OpY.litRow (r := (rSl rBool)) (vs := [(osv (some b14) 0 (List.length x11) m10)]) (css := [[(osv (some b14) 0 (List.length x11) m10)]]) (xs := [l10]) Tryd.underlying67 ti22 (Nat.le_of_ble_eq_true rfl) rfl rfl ⟨(one_cells f23.one), rfl, trivial⟩ (Nat.le_of_ble_eq_true rfl) hE19 rfl hL28 ?_)
      intro b16 w24 hc20 hL29 hS18
      have K28 := ks w hS18
      refine ⟨?_, ?_⟩
      ·
       refine LateP.cons (i := 0) rfl rfl (GOp.op (OpY.ldBox1 (v := (Value.pointer (some ⟨b11, 0, none⟩))) Tryd.underlying66 rfl rfl (hL29.at 2 rfl rfl) rfl ⟨rfl, rfl⟩)) ?_
       refine LateP.cons (i := 1) rfl rfl (GOp.op (OpY.ldBox1 (v := (Value.pointer (some ⟨b11, 0, none⟩))) Tryd.underlying66 rfl rfl (hL29.at 2 rfl rfl) rfl ⟨rfl, rfl⟩)) ?_
       refine LateP.cons (i := 2) rfl rfl (GOp.op (OpY.nilCheck (b := ⟨b11, 0, none⟩) rfl ⟨rfl, rfl⟩)) ?_
       refine LateP.cons (i := 3) rfl rfl (GOp.op (OpY.fieldAddr (q := 2) Tryd.underlying69 rfl ti67 rfl rfl rfl ⟨rfl, rfl⟩)) ?_
       refine LateP.cons (i := 4) rfl rfl (GOp.op (OpY.ldBox1 (v := (osv ob11 0 (List.length can11) cap11)) Tryd.underlying67 rfl rfl (hL29.at 3 rfl rfl) rfl ⟨rfl, rfl⟩)) ?_
       refine LateP.cons (i := 8) rfl rfl (GOp.op (OpY.nilCheck (b := ⟨b11, 0, none⟩) rfl ⟨rfl, rfl⟩)) ?_
       refine LateP.cons (i := 9) rfl rfl (GOp.op (OpY.fieldAddr (q := 2) Tryd.underlying69 rfl ti67 rfl rfl rfl ⟨rfl, rfl⟩)) ?_
       exact LateP.nil
      obtain ⟨x16, q31, h⟩ := bind_some h
      obtain ⟨q32, q33, q34⟩ := apnd_some q31
      have f24 := (hE19.mono (K28 None))
      have f25 := (((((((hE12.mono (K17 S)).mono (K18 S)).mono (K19 S)).mono (K25 S)).mono (K26 S)).mono (K27 S)).mono (K28 S))
      refine RlL.op (OpY.apRowX (r := (rSl rBool)) (H := (Hv w.heap.size S [some b16, some b1, some b12, some b11, ob11] w24)) (cs := cs11) (sp := sp11) (xs := can11) (ys := [l10]) (Y := x16) (n := (List.length can11)) (cap := cap11) (i := 4) Tryd.underlying67 ti22 rfl rfl rfl rfl hL29 rfl rfl f25 rfl hc13 (Src.row (pre := []) (o := 0) (n := 1) (cap := 1) (hL29.at 0 rfl rfl) f24 rfl rfl rfl) (f24.mono Hv.none) q32 q33 q34 ?_)
      intro ob12 cap12 sp12 cs16 w25 hE20 hc21 (hL30 : Go.X.Loc [] [] w w25 [some b16, some b1, some b12, some b11, ob12] [Cont.cells ([] ++ ([(osv (some b14) 0 (List.length x11) m10)] ++ [])), Cont.cells [d_v, d_v1], Cont.cells [(Value.pointer (some ⟨b11, 0, none⟩))], Cont.cells [d_v, d_v1, (osv ob11 0 (List.length can11) cap11), (Value.int .i64 most), (Value.slice none 0 0)], Cont.cells ([] ++ (cs16 ++ sp12))]) hS19
      have K29 := ks w hS19
      refine ⟨?_, ?_⟩
      ·
       refine LateP.cons (i := 0) rfl rfl (GOp.op (OpY.ldBox1 (v := (Value.pointer (some ⟨b11, 0, none⟩))) Tryd.underlying66 rfl rfl (hL30.at 2 rfl rfl) rfl ⟨rfl, rfl⟩)) ?_
       refine LateP.cons (i := 1) rfl rfl (GOp.op (OpY.ldBox1 (v := (Value.pointer (some ⟨b11, 0, none⟩))) Tryd.underlying66 rfl rfl (hL30.at 2 rfl rfl) rfl ⟨rfl, rfl⟩)) ?_
       refine LateP.cons (i := 2) rfl rfl (GOp.op (OpY.nilCheck (b := ⟨b11, 0, none⟩) rfl ⟨rfl, rfl⟩)) ?_
       refine LateP.cons (i := 3) rfl rfl (GOp.op (OpY.fieldAddr (q := 2) Tryd.underlying69 rfl ti67 rfl rfl rfl ⟨rfl, rfl⟩)) ?_
       refine LateP.cons (i := 8) rfl rfl (GOp.op (OpY.nilCheck (b := ⟨b11, 0, none⟩) rfl ⟨rfl, rfl⟩)) ?_
       refine LateP.cons (i := 9) rfl rfl (GOp.op (OpY.fieldAddr (q := 2) Tryd.underlying69 rfl ti67 rfl rfl rfl ⟨rfl, rfl⟩)) ?_
       exact LateP.nil
      refine RlL.op0 (OpY.store (vs := [(osv ob12 0 (List.length x16) cap12)]) ti67 rfl rfl (one_cells (osv_one ob12 0 (List.length x16) cap12)) rfl (ones_cons (osv_one ob12 0 (List.length x16) cap12) ones_nil) hL30 3 rfl rfl (Nat.le_of_ble_eq_true rfl) ?_)
      intro w26 (hL31 : Go.X.Loc [] [] w w26 [some b16, some b1, some b12, some b11, ob12] [Cont.cells ([] ++ ([(osv (some b14) 0 (List.length x11) m10)] ++ [])), Cont.cells [d_v, d_v1], Cont.cells [(Value.pointer (some ⟨b11, 0, none⟩))], Cont.cells [d_v, d_v1, (osv ob12 0 (List.length x16) cap12), (Value.int .i64 most), (Value.slice none 0 0)], Cont.cells ([] ++ (cs16 ++ sp12))]) hS20
      have K30 := ks w hS20
      refine ⟨?_, ?_⟩
      ·
       refine LateP.cons (i := 8) rfl rfl (GOp.op (OpY.nilCheck (b := ⟨b11, 0, none⟩) rfl ⟨rfl, rfl⟩)) ?_
       exact LateP.nil
      refine RlL.fin ?_
      refine Swp.pop_blk (Swp.region rfl (Rl.op (OpY.add (x := x10) (y := 1) (z := (iw (x10 + 1))) rfl rfl rfl ?_)))
      refine Rl.op (OpY.move (v := (Value.int .i64 (iw (x10 + 1)))) rfl ?_)
      refine Rl.nil ?_
      have hp15 := hL31.pick [1, 2, 3, 4] rfl rfl rfl
      have hL32 : Go.X.Loc [] [] w w26 [some b1, some b12, some b11, ob12] [Cont.cells [d_v, d_v1], Cont.cells [(Value.pointer (some ⟨b11, 0, none⟩))], Cont.cells [d_v, d_v1, (osv ob12 0 (List.length x16) cap12), (Value.int .i64 most), (Value.slice none 0 0)], Cont.cells ([] ++ (cs16 ++ sp12))] := hp15.1
      have K31 := ks w hp15.2
      have f26 := (((hE20.mono (K29 S)).mono (K30 S)).mono (K31 S))
      obtain rfl := Option.some.inj h
      refine Swp.pop_back ⟨(x16, (iw (x10 + 1))), rfl, ?_⟩
      exact ⟨ob12, cap12, sp12, cs16, (List.length x16), _, (upds_sym ⟨rfl, rfl, rfl, rfl, rfl, trivial⟩), hL32, (Keep.trans (Keep.trans (Keep.trans (Keep.trans (Keep.trans (Keep.trans (Keep.trans (Keep.trans (Keep.trans (Keep.trans K16 K17) K18) K19) K25) K26) K27) K28) K29) K30) K31), f26, rfl, hc21, trivial⟩
    ·
     replace h := ite_f hc14 h
     refine Swp.exit rfl ?_
     have hp16 := hL17.pick [1, 2, 3] rfl rfl rfl
     have hL33 : Go.X.Loc [] [] w w15 [some b12, some b11, ob11] [Cont.cells [(Value.pointer (some ⟨b11, 0, none⟩))], Cont.cells [d_v, d_v1, (osv ob11 0 (List.length can11) cap11), (Value.int .i64 most), (Value.slice none 0 0)], Cont.cells ([] ++ (cs11 ++ sp11))] := hp16.1
     have K32 := ks w hp16.2
     have f27 := (hE12.mono (K32 S))
     obtain rfl := Option.some.inj h
     obtain rfl := hd10 _ rfl
     replace h := g11
     try dsimp only at h
     skip
     refine Swp.pop_back ?_
     exact ⟨can11, ob11, cap11, sp11, cs11, (List.length can11), _, rfl, (upds_sym ⟨rfl, rfl, trivial⟩), hL33, (Keep.trans K16 K32), f27, rfl, hc13, trivial⟩
   ·
    rintro _ w27 ⟨can10, ob10, cap10, sp10, cs10, ln10, u, rfl, rfl, hL34, K33, hE21, rfl, hc22, -⟩
    replace h := g11
    try dsimp only at h
    refine Swp.seq (Swp.region rfl (Rl.op (OpY.ldBox1 (v := (Value.pointer (some ⟨b11, 0, none⟩))) Tryd.underlying66 rfl rfl (hL34.at 0 rfl rfl) rfl ?_)))
    refine Rl.op (OpY.move (v := (Value.int .i64 length)) rfl ?_)
    have hp17 := hL34.addNil
    have hL35 : Go.X.Loc [] [] w w27 [none, some b12, some b11, ob10] [Cont.cells ([] ++ ([] ++ [])), Cont.cells [(Value.pointer (some ⟨b11, 0, none⟩))], Cont.cells [d_v, d_v1, (osv ob10 0 (List.length can10) cap10), (Value.int .i64 most), (Value.slice none 0 0)], Cont.cells ([] ++ (cs10 ++ sp10))] := hp17.1
    have K34 := ks w hp17.2
    have hE22 : Els rStr (Hv w.heap.size None [none, some b12, some b11, ob10] w27) [] [] := Els.nil
    have f28 := (hE21.mono (K34 S))
    have f29 := hL35.freezeRow 3 rfl rfl f28 rfl rfl rfl hc22
    have hp18 := hL35.pick [0, 1, 2] rfl rfl rfl
    have hL36 : Go.X.Loc [] [] w w27 [none, some b12, some b11] [Cont.cells ([] ++ ([] ++ [])), Cont.cells [(Value.pointer (some ⟨b11, 0, none⟩))], Cont.cells [d_v, d_v1, (osv ob10 0 (List.length can10) cap10), (Value.int .i64 most), (osv none 0 (List.length ([] : (List (List UInt8)))) 0)]] := hp18.1
    have K35 := ks w hp18.2
    have hp19 := hL36.addNil
    have hL37 : Go.X.Loc [] [] w w27 [none, none, some b12, some b11] [Cont.cells ([] ++ ([] ++ [])), Cont.cells ([] ++ ([] ++ [])), Cont.cells [(Value.pointer (some ⟨b11, 0, none⟩))], Cont.cells [d_v, d_v1, (osv ob10 0 (List.length can10) cap10), (Value.int .i64 most), (osv none 0 (List.length ([] : (List (List UInt8)))) 0)]] := hp19.1
    have K36 := ks w hp19.2
    have hE23 : Els (rInt .u8) (Hv w.heap.size None [none, none, some b12, some b11] w27) [] [] := Els.nil
    obtain ⟨r11, q35, h⟩ := bind_some h
    have hL38 := hL37.lendW [3, 1, 0] rfl rfl rfl
    have f30 := ((((((((f10.mono (K11 S)).mono (K12 S)).mono (K13 S)).mono (K14 S)).mono (K33 S)).mono (K34 S)).mono (K35 S)).mono (K36 S))
    have f31 := ((((((((((d_h1.mono (K4 S)).mono (K10 S)).mono (K11 S)).mono (K12 S)).mono (K13 S)).mono (K14 S)).mono (K33 S)).mono (K34 S)).mono (K35 S)).mono (K36 S))
    have f32 := (f29.mono (K36 S))
    have f33 := ((hE22.mono (K35 None)).mono (K36 None))
    refine Rl.op (OpY.callg en38 rfl rfl (aFind_w N (AFinder.mk (ADfa.mk d.Accept d.Edges) can10 most ([] : (List (List UInt8)))) 0 ([] : (List Int)) length b11 d_v d_v1 (osv ob10 0 (List.length can10) cap10) none 0 [] [] none 0 [] [] [some b11, none, none] _ Any hL38 (f30.mono (Hv.lendW [3, 1, 0] rfl)) (f31.mono (Hv.lendW [3, 1, 0] rfl)) (f32.mono (Hv.lendW [3, 1, 0] rfl)) (f33.mono (Hv.lendW [3, 1, 0] rfl)) (show ([] ++ [] : List Value).length = 0 * rStr.sz by simp) (hE23.mono (Hv.lendW [3, 1, 0] rfl)) (show ([] ++ [] : List Value).length = 0 * (rInt .u8).sz by simp) r11 q35) ?_)
    rintro _ w28 ⟨ob13, cap13, cs17, sp13, cs18, sp14, rfl, hL39, K37, hE24, hc23, hE25, hc24, -⟩
    refine ⟨_, rfl, ?_⟩
    have hp20 := hL37.backW [3, 1, 0] [2] rfl rfl rfl rfl hL39
    have hL40 : Go.X.Loc [] [] w w28 [some b11, ob13, none, some b12] [Cont.cells [d_v, d_v1, (osv ob10 0 (List.length can10) cap10), (Value.int .i64 most), (osv ob13 0 (List.length r11) cap13)], Cont.cells ([] ++ (cs17 ++ sp13)), Cont.cells ([] ++ (cs18 ++ sp14)), Cont.cells [(Value.pointer (some ⟨b11, 0, none⟩))]] := hp20.1
    have hE26 : Els rStr (Hv w.heap.size None [some b11, ob13, none, some b12] w28) cs17 r11 := Els.anyH (fun _ _ _ _ h => h) hE24
    refine Rl.nil (Swp.seq (Swp.region rfl (Rl.op (OpY.ldBox1 (v := (Value.pointer (some ⟨b11, 0, none⟩))) Tryd.underlying66 rfl rfl (hL40.at 3 rfl rfl) rfl ?_))))
    refine Rl.op (OpY.nilCheck (b := ⟨b11, 0, none⟩) rfl ?_)
    refine Rl.op (OpY.fieldAddr (q := 4) Tryd.underlying69 rfl ti35 rfl rfl rfl ?_)
    refine Rl.op (OpY.ldBox1 (v := (osv ob13 0 (List.length r11) cap13)) Tryd.underlying35 rfl rfl (hL40.at 0 rfl rfl) rfl ?_)
    refine Rl.op (OpY.assign (v := (osv ob13 0 (List.length r11) cap13)) rfl ?_)
    refine Rl.nil (Swp.ret ?_)
    obtain rfl := Option.some.inj h
    refine ⟨[(osv ob13 0 (List.length r11) cap13)], ⟨rfl, trivial⟩, ⟨_, rfl, hL40.done, ?_⟩⟩
    exact ⟨ob13, cap13, cs17, sp13, rfl, (hL40.newOwn [1] rfl rfl rfl), (hE26.mono (Hv.pick [1] rfl)), hc23, trivial⟩
end Go.Proofs.YtckhldmpcddjmaaDoor.WA

/- Walks, written by a program of mine (wip/tool); the kernel checks them. -/
import Derived.Test.YtaakoedphmeenaaWTValidx1
set_option maxRecDepth 100000
set_option maxHeartbeats 40000000
set_option linter.unusedVariables false
set_option linter.unusedSimpArgs false
namespace Go.Proofs.Ytaakoedphmeenaa.WT
open Go Go.RowKit Go.X Go.D Go.Proofs.Ytaakoedphmeenaa.WA Go.Proofs.Ytaakoedphmeenaa.WR
theorem tSolve_w (N : Nat) (p : TProb) (p_v : Value) (p_v1 : Value) (p_v2 : Value) (p_v3 : Value) (p_v4 : Value) (w : World) (S : Nat → Prop) (p_h : Rs rI (vH w S [] w) p_v p.Min) (p_h1 : Rs rI (vH w S [] w) p_v1 p.Max) (p_h2 : Rs rTTest (vH w S [] w) p_v2 p.Tests) (p_h3 : Rs rArr2Int (vH w S [] w) p_v3 p.Same) (p_h4 : Rs rArr2Int (vH w S [] w) p_v4 p.Different) (r : ((List (List UInt8)) × Bool)) (h : tSolve N p = some r) :
  Calls Try.prog 17 #[(zbo #[p_v, p_v1, p_v2, p_v3, p_v4])] w (Ret w (fun v w' => ∃ (ob0 : Option Nat) (cap0 : Nat) (cs0 : List Value) (sp0 : List Value), .tuple #[(osv ob0 0 r.1.length cap0), (zac r.2)] = v ∧ NewOwn w w' [ob0] [zab ([] ++ (cs0 ++ sp0))] ∧ Els rStr (vH w None [ob0] w') cs0 r.1 ∧ (cs0 ++ sp0).length = cap0 * rStr.sz ∧ True)) := by
 unfold tSolve at h
 have hL : vL w w [] [] := Go.X.Loc.begin0 w
 refine calls_of (l := [(zbo #[p_v, p_v1, p_v2, p_v3, p_v4])]) (rl := [.tmp 2, .tmp 3]) (n := 185) Try.func17 rfl rfl rfl (zai rfl) ?_
 refine zan (zaf rfl (zag (zdr (cs := [p_v, p_v1, p_v2, p_v3, p_v4]) rfl rfl hL ?_)))
 intro b1 w2 hL3 hS5
 have K4 := ks w hS5
 refine zag (zal (v := zN) rfl ?_)
 refine zag (zal (v := zF) rfl ?_)
 refine zas (zan (zaf rfl (zag (zcu (vs := [p_v, p_v1, p_v2, p_v3, p_v4]) zbw rfl ti31 rfl (hL3.at 0 rfl rfl) rfl rfl ?_))))
 obtain ⟨r6, q7, h⟩ := zdt h
 have f10 := (p_h.mono (K4 S))
 have f11 := (p_h1.mono (K4 S))
 have f12 := (p_h2.mono (K4 S))
 have f13 := (p_h3.mono (K4 S))
 have f14 := (p_h4.mono (K4 S))
 refine zag (zbz en31 rfl rfl (tgathered_w N p p_v p_v1 p_v2 p_v3 p_v4 _ Any (f10.mono vw_any) (f11.mono vw_any) (f12.mono vw_any) (f13.mono vw_any) (f14.mono vw_any) r6 q7) ?_)
 rintro _ w10 hE10 ⟨ob8, cap9, cs10, sp10, ob10, cap10, cs11, sp11, rfl, hN10, hE11, hc10, hE12, hc11, -⟩
 replace hE11 := hE11.mono (zbs (S := None) hL3 [ob8, ob10])
 replace hE12 := hE12.mono (zbs (S := None) hL3 [ob8, ob10])
 have hp10 := hL3.adoptL hE10 hN10
 have hL10 := hp10.1
 refine zag (zae (v := (Value.tuple #[(osv ob8 0 r6.1.length cap9), (osv ob10 0 r6.2.1.length cap10), (zac r6.2.2)])) rfl ?_)
 refine zag (zcl (vs := [(osv ob8 0 r6.1.length cap9), (osv ob10 0 r6.2.1.length cap10), (zac r6.2.2)]) (v := (osv ob8 0 r6.1.length cap9)) rfl rfl ?_)
 refine zag (zcl (vs := [(osv ob8 0 r6.1.length cap9), (osv ob10 0 r6.2.1.length cap10), (zac r6.2.2)]) (v := (osv ob10 0 r6.2.1.length cap10)) rfl rfl ?_)
 refine zag (zcl (vs := [(osv ob8 0 r6.1.length cap9), (osv ob10 0 r6.2.1.length cap10), (zac r6.2.2)]) (v := (zac r6.2.2)) rfl rfl ?_)
 refine zag (zdh (cs := [zN]) ti52 rfl hL10 ?_)
 intro b10 w11 hL11 hS10
 have K10 := ks w hS10
 refine zde (zcv (vs := [(osv ob8 0 r6.1.length cap9)]) ti52 rfl rfl (zeg (zed ob8 0 r6.1.length cap9)) rfl (zdz (zed ob8 0 r6.1.length cap9) zej) hL11 0 rfl rfl (zai rfl) ?_)
 intro w12 (hL12 : vL w w12 [some b10, ob8, ob10, some b1] [zab [(osv ob8 0 r6.1.length cap9)], zab ([] ++ (cs10 ++ sp10)), zab ([] ++ (cs11 ++ sp11)), zab [p_v, p_v1, p_v2, p_v3, p_v4]]) hS11
 have K11 := ks w hS11
 refine zag (zal (v := (osv ob10 0 r6.2.1.length cap10)) rfl ?_)
 refine zag (zal (v := (zac r6.2.2)) rfl ?_)
 refine zas (zan (zan (zaf rfl (zag (zae (v := (zac r6.2.2)) rfl ?_)))))
 refine zag (zdq (x := r6.2.2) rfl (zas ?_))
 refine zch (!r6.2.2) rfl (fun hc12 => ?_) (fun hc12 => ?_)
 ·
  replace h := ite_t hc12 h
  refine zan (zaf rfl (zag (zal (v := zN) rfl ?_)))
  refine zag (zal (v := zF) rfl (zas ?_))
  have hp11 := hL12.addNil
  have hL13 : vL w w12 [none, some b10, ob8, ob10, some b1] [zab ([] ++ ([] ++ [])), zab [(osv ob8 0 r6.1.length cap9)], zab ([] ++ (cs10 ++ sp10)), zab ([] ++ (cs11 ++ sp11)), zab [p_v, p_v1, p_v2, p_v3, p_v4]] := hp11.1
  have hE13 : Els rStr (vH w None [none, some b10, ob8, ob10, some b1] w12) [] [] := zcq
  refine zbq ?_
  obtain rfl := zad h
  refine ⟨[(osv none 0 (List.length ([] : (List (List UInt8)))) 0), zF], ⟨rfl, rfl, trivial⟩, ⟨_, rfl, hL13.done, ?_⟩⟩
  exact ⟨none, 0, [], [], rfl, (hL13.newOwn [0] rfl rfl rfl), (hE13.mono (zds [0] rfl)), (show ([] ++ [] : List Value).length = 0 * rStr.sz by simp), trivial⟩
 replace h := ite_f hc12 h
 refine zbl (zan (zan (zaf rfl (zag (zav (v := (osv ob8 0 r6.1.length cap9)) zap rfl rfl (hL12.at 0 rfl rfl) rfl ?_)))))
 have f15 := ((hE11.mono (K10 None)).mono (K11 None))
 refine zag (zcj (pre := []) (r := rTClass) (xs := r6.1) zap rfl (hL12.at 1 rfl rfl) f15 rfl rfl ?_)
 refine zag (zae (v := (zI 0)) rfl (zas ?_))
 obtain ⟨s10, hl10, g10⟩ := zdt h
 refine zbu (fun e w' => ∃ (l10 : (List TClass)) (cs12 : List Value) (u : Env), (Sum.inl l10) = s10 ∧ e = upds [(4, (zak (some ⟨b10, 0, none⟩))), (5, (osv ob10 0 r6.2.1.length cap10))] u ∧ vL w w' [some b10, ob8, ob10] [zab [(osv ob8 0 r6.1.length cap9)], zab ([] ++ (cs12 ++ sp10)), zab ([] ++ (cs11 ++ sp11))] ∧ Keep w.heap.size [some b10, ob8, ob10, some b1] w12 [some b10, ob8, ob10] w' ∧ Els rTClass (vH w None [some b10, ob8, ob10] w') cs12 l10 ∧ r6.1.length = List.length l10 ∧ (cs12 ++ sp10).length = cap9 * rTClass.sz ∧ True) ?_ ?_
 ·
  refine zbb ?_
  have hp12 := hL12.pick [0, 1, 2] rfl rfl rfl
  have hL14 : vL w w12 [some b10, ob8, ob10] [zab [(osv ob8 0 r6.1.length cap9)], zab ([] ++ (cs10 ++ sp10)), zab ([] ++ (cs11 ++ sp11))] := hp12.1
  have K12 := ks w hp12.2
  have f16 := (f15.mono (K12 None))
  refine zca hl10 (fun (ss : ((List TClass) × Int)) (e : Env) (w' : World) => match ss with | (l11, x10) => ∃ (cs13 : List Value) (u : Env), e = upds [(4, (zak (some ⟨b10, 0, none⟩))), (5, (osv ob10 0 r6.2.1.length cap10)), (32, (zI (r6.1.length : Int))), (33, (zI x10))] u ∧ vL w w' [some b10, ob8, ob10] [zab [(osv ob8 0 r6.1.length cap9)], zab ([] ++ (cs13 ++ sp10)), zab ([] ++ (cs11 ++ sp11))] ∧ Keep w.heap.size [some b10, ob8, ob10, some b1] w12 [some b10, ob8, ob10] w' ∧ Els rTClass (vH w None [some b10, ob8, ob10] w') cs13 l11 ∧ r6.1.length = List.length l11 ∧ (cs13 ++ sp10).length = cap9 * rTClass.sz ∧ True) ⟨cs10, _, (zdx ⟨rfl, rfl, rfl, rfl, trivial⟩), hL14, K12, f16, rfl, hc10, trivial⟩ ?_
  rintro ⟨l11, x10⟩ oo _ w13 ⟨cs13, u, rfl, hL15, K13, hE14, hl11, hc13, -⟩ h hd10
  rw [tSolve_b1] at h
  refine zan (zaf rfl (zag (zck (x := x10) (y := (r6.1.length : Int)) ((x10 : Int) < (r6.1.length : Int)) rfl rfl zbk ?_)))
  refine zas (zan ?_)
  refine zbm ((x10 : Int) < (r6.1.length : Int)) rfl (fun hc14 => ?_) (fun hc14 => ?_)
  ·
   replace h := ite_t hc14 h
   refine zbl (zan (zbb (zan (zaf rfl (zag (zae (v := (zI x10)) rfl ?_))))))
   refine zag (zal (v := (zI x10)) rfl ?_)
   refine zas (zan ?_)
   obtain ⟨x11, n10, q11, q12, q13, h⟩ := zix h
   obtain ⟨b11, hb10⟩ := hL15.row_some 1 rfl rfl (zem (pre := []) hE14 q12 (Nat.lt_of_sub_eq_succ rfl))
   obtain ⟨vs10, q14, q15, q16⟩ := zee (pre := []) (sp := sp10) hE14 q12
   obtain ⟨v10, v11, v12, rfl, k10, k11, k12, -⟩ := rTClass_open q15
   obtain ⟨x12, n11, q18, q19, q20, h⟩ := zix h
   obtain ⟨vs11, q21, q22, q23⟩ := zee (pre := []) (sp := sp10) hE14 q19
   obtain ⟨v13, v14, v15, rfl, k13, k14, k15, -⟩ := rTClass_open q22
   have q24 := elem_part (us := [v15]) (q := 4) q23 rfl
   obtain ⟨r10, q25, h⟩ := zdt h
   refine zcz 14 [] [] (fun W1 => [.det (osv ob8 0 r6.1.length cap9), .det (zI x10), .det (osv ob8 0 r6.1.length cap9), .det (zI x10), .det (zak (some ⟨b11, (0 + n10 * rTClass.sz), none⟩)), .det (zbo #[(zI x11.low), (zI x11.high), v10, v11, v12]), .det (osv ob8 0 r6.1.length cap9), .det (zI x10), .det (zak (some ⟨b11, (0 + n11 * rTClass.sz), none⟩)), .det (zak (some ⟨b11, ((0 + n11 * rTClass.sz) + 4), none⟩)), .det v15, .det (zI (x12.apart.length : Int)), .det (zI (iw ((x12.apart.length : Int) + 1))), .rel (fun v Z w' => ∃ ob11 cap11 cs14 sp12, (osv ob11 0 r10.length cap11) = v ∧ OwnC w' ob11 (zab ([] ++ (cs14 ++ sp12))) ∧ Els rStr (vZ W1 w None [some b10, ob8, ob10] Z w') cs14 r10 ∧ (cs14 ++ sp12 : List Value).length = cap11 * rStr.sz ∧ True) footV]) mixed rfl rfl rfl (fun _ => rfl) (fun _ => rfl) ?_ ?_
   ·
    intro W1 _
    exact ⟨fun v Z Z' w w' hΦ hz _ _ hs => by obtain ⟨ob11, cap11, cs14, sp12, rfl, hO10, hE15, hc15, -⟩ := hΦ; exact ⟨ob11, cap11, cs14, sp12, rfl, (hO10.stay (fun b hb => (zeb (ob := ob11) (o := 0) (n := r10.length) (cap := cap11)).2 (by rw [hb]; exact zbj)) hs), (hE15.mono (Zv.stay hz hs)), hc15, trivial⟩, trivial⟩
   intro w14 hE16
   obtain ⟨hL16, K14⟩ := zl hL15 hE16
   refine zay (fun _ hE17 => zaq (zav zap rfl rfl ((hL16.ext hE17).at 0 rfl rfl) rfl (er rfl))) ?_
   refine zay (fun _ _ => zaq (zae rfl (er rfl))) ?_
   refine zay (fun _ hE19 => zaq (zav zap rfl rfl ((hL16.ext hE19).at 0 rfl rfl) rfl (er rfl))) ?_
   refine zay (fun _ _ => zaq (zae rfl (er rfl))) ?_
   refine zay (fun _ _ => zaq (zbd (r := rTClass) (b := b11) (o := 0) (n := n10) (m := r6.1.length) (xs := l11) (q := (0 + n10 * rTClass.sz)) zap ti56 (zef hb10) hl11 rfl q11 q13 rfl (er rfl))) ?_
   refine zay (fun _ hE22 => zaq (zcu (vs := [(zI x11.low), (zI x11.high), v10, v11, v12]) zbi rfl ti56 rfl (zel hb10 ((hL16.ext hE22).at 1 rfl rfl)) rfl q16 (er rfl))) ?_
   refine zay (fun _ hE23 => zaq (zav zap rfl rfl ((hL16.ext hE23).at 0 rfl rfl) rfl (er rfl))) ?_
   refine zay (fun _ _ => zaq (zae rfl (er rfl))) ?_
   refine zay (fun _ _ => zaq (zbd (r := rTClass) (b := b11) (o := 0) (n := n11) (m := r6.1.length) (xs := l11) (q := (0 + n11 * rTClass.sz)) zap ti56 (zef hb10) hl11 rfl q18 q20 rfl (er rfl))) ?_
   refine zay (fun _ _ => zaq (zau zbi rfl ti22 rfl rfl rfl (er rfl))) ?_
   refine zay (fun _ hE27 => zaq (zbx zao rfl rfl (zel hb10 ((hL16.ext hE27).at 1 rfl rfl)) q24 (er rfl))) ?_
   refine zay (fun _ hE28 => zaq (zcc (v := v15) zao rfl ((k15.mono (K14 None)).mono ((ke hL16 hE28) None)) (er rfl))) ?_
   refine zay (fun _ _ => zaq (zce rfl rfl rfl (er rfl))) ?_
   refine DrH.rel ?_ ?_
   ·
    rintro w28 Z32 hE30 hZ23 ⟨-⟩
    have K16 := ke hL16 hE30
    refine zaq (zbz en32 rfl rfl (tfirst_w N x11 (iw ((x12.apart.length : Int) + 1)) v10 v11 v12 _ Any (((k10.mono (K14 None)).mono (K16 None)).mono vw_any) (((k11.mono (K14 None)).mono (K16 None)).mono vw_any) (((k12.mono (K14 None)).mono (K16 None)).mono vw_any) r10 q25) ?_)
    rintro _ w29 hE31 ⟨ob11, cap11, cs14, sp12, rfl, hN11, hE15, hc15, -⟩
    exact Made.ext hE31 hZ23 hN11 (fun b hb => footV_osv.1 hb) ⟨ob11, cap11, cs14, sp12, rfl, hN11.2.2.1, (hE15.mono Zv.made), hc15, trivial⟩
   intro z10
   refine zdj ?_
   rintro w30 Z33 hE32 hZ24 ⟨⟨⟨ob11, cap11, cs14, sp12, rfl, hO10, hE15, hc15, -⟩, hB10⟩, -⟩ ap10
   have hB11 : ∀ b, some b ∈ ([ob11] : List (Option Nat)) → w14.heap.size ≤ b ∧ ¬ Z33 b := by
    intro b hb
    rcases List.mem_cons.1 hb with hb' | hb
    ·
     have := hB10 b ((zeb (ob := ob11) (o := 0) (n := r10.length) (cap := cap11)).2 (by rw [hb']; exact zbj)); exact ⟨this.1, this.2.2⟩
    cases hb
   replace hE15 := hE15.mono (Zv.fin hL16 hZ24 hB11)
   have hN12 : NewOwn w14 w30 [ob11] [zab ([] ++ (cs14 ++ sp12))] := (NewOwn.cons NewOwn.nil hO10 (fun b hb => (hB11 b (by rw [← hb]; simp)).1) (fun b _ hb => by cases hb))
   have hp13 := hL16.adoptL hE32 hN12
   have hL22 := hp13.1
   have K17 := ks w hp13.2
   obtain ⟨x13, n12, q27, q28, q29, h⟩ := zix h
   refine zag (zbd (r := rTClass) (b := b11) (o := 0) (n := n12) (m := r6.1.length) (xs := l11) (q := (0 + n12 * rTClass.sz)) zap ti56 (zef hb10) hl11 rfl q27 q29 rfl ?_)
   refine zag (zau (q := ((0 + n12 * rTClass.sz) + 3)) zbi rfl ti27 rfl rfl rfl ?_)
   have f17 := hL22.freezeRow 0 rfl rfl hE15 rfl rfl rfl hc15
   have hp14 := hL22.pick [1, 2, 3] rfl rfl rfl
   have hL23 : vL w w30 [some b10, ob8, ob10] [zab [(osv ob8 0 r6.1.length cap9)], zab ([] ++ (cs13 ++ sp10)), zab ([] ++ (cs11 ++ sp11))] := hp14.1
   have K18 := ks w hp14.2
   have f18 := (((hE14.mono (K14 None)).mono (K17 None)).mono (K18 None))
   obtain ⟨vs12, q30, q31, q32⟩ := zee (pre := []) (sp := sp10) f18 q28
   obtain ⟨v16, v17, v18, rfl, k16, k17, k18, -⟩ := rTClass_open q31
   obtain ⟨x14, n13, q34, q35, q36, h⟩ := zux h
   obtain rfl := zin q27 q34
   refine zde (OpY.stPart (pre := []) (r := rTClass) (off := 3) (us := [(osv ob11 0 r10.length cap11)]) (vs := [(zI x13.low), (zI x13.high), v16, v17, v18]) (vs' := [(zI x13.low), (zI x13.high), v16, (osv ob11 0 r10.length cap11), v18]) (a := (TClass.mk x13.low x13.high x13.tests r10 x13.apart)) ti27 rfl rfl (zeg f17.one) rfl (zdz f17.one zej) q32 (zai rfl) rfl (rTClass_close ⟨v16, (osv ob11 0 r10.length cap11), v18, rfl, k16, f17, k18, trivial⟩) hL23 1 (congrArg some hb10) rfl f18 q29 rfl q36 ?_)
   have hl12 : r6.1.length = List.length x14 := by rw [q36, List.length_set]; exact hl11
   intro w31 cs15 (hL24 : vL w w31 [some b10, ob8, ob10] [zab [(osv ob8 0 r6.1.length cap9)], zab ([] ++ (cs15 ++ sp10)), zab ([] ++ (cs11 ++ sp11))]) hS12 hE33 q37
   have hc16 : (cs15 ++ sp10).length = cap9 * rTClass.sz := zhc hc13 q37
   have K19 := ks w hS12
   refine zas (zan (zaf rfl (zag (zav (v := (osv ob8 0 r6.1.length cap9)) zap rfl rfl (hL24.at 0 rfl rfl) rfl ?_))))
   refine zag (zae (v := (zI x10)) rfl ?_)
   obtain ⟨x15, n14, q39, q40, q41, h⟩ := zix h
   refine zag (zbd (r := rTClass) (b := b11) (o := 0) (n := n14) (m := r6.1.length) (xs := x14) (q := (0 + n14 * rTClass.sz)) zap ti56 (zef hb10) hl12 rfl q39 q41 rfl ?_)
   refine zag (zau (q := ((0 + n14 * rTClass.sz) + 3)) zbi rfl ti27 rfl rfl rfl ?_)
   have f19 := (hE33.mono (K19 None))
   obtain ⟨vs13, q42, q43, q44⟩ := zee (pre := []) (sp := sp10) f19 q40
   obtain ⟨v19, v20, v21, rfl, k19, k20, k21, -⟩ := rTClass_open q43
   have q45 := elem_part (us := [v20]) (q := 3) q44 rfl
   refine zag (zbx (v := v20) zax rfl rfl (zel hb10 (hL24.at 1 rfl rfl)) q45 ?_)
   refine zag (zcc (v := v20) zax rfl k20 ?_)
   refine zag (zdn (x := (x15.words.length : Int)) (y := 0) (((x15.words.length : Int) : Int) = 0) rfl rfl zbk (zas ?_))
   refine zbm (((x15.words.length : Int) : Int) = 0) rfl (fun hc17 => ?_) (fun hc17 => ?_)
   ·
    replace h := ite_t hc17 h
    refine zan (zaf rfl (zag (zal (v := zN) rfl ?_)))
    refine zag (zal (v := zF) rfl (zas ?_))
    have hp15 := hL24.addNil
    have hL25 : vL w w31 [none, some b10, ob8, ob10] [zab ([] ++ ([] ++ [])), zab [(osv ob8 0 r6.1.length cap9)], zab ([] ++ (cs15 ++ sp10)), zab ([] ++ (cs11 ++ sp11))] := hp15.1
    have hE34 : Els rStr (vH w None [none, some b10, ob8, ob10] w31) [] [] := zcq
    refine zbq ?_
    obtain rfl := zad h
    obtain rfl := hd10 _ rfl
    replace h := g10
    try dsimp only at h
    obtain rfl := zad h
    refine ⟨[(osv none 0 (List.length ([] : (List (List UInt8)))) 0), zF], ⟨rfl, rfl, trivial⟩, ⟨_, rfl, hL25.done, ?_⟩⟩
    exact ⟨none, 0, [], [], rfl, (hL25.newOwn [0] rfl rfl rfl), (hE34.mono (zds [0] rfl)), (show ([] ++ [] : List Value).length = 0 * rStr.sz by simp), trivial⟩
   replace h := ite_f hc17 h
   refine zbl (zbh (zaf rfl (zag (zce (x := x10) (y := 1) (z := (iw (x10 + 1))) rfl rfl rfl ?_))))
   refine zag (zae (v := (zI (iw (x10 + 1)))) rfl (zas ?_))
   obtain rfl := zad h
   refine zat ⟨(x14, (iw (x10 + 1))), rfl, ?_⟩
   exact ⟨cs15, _, (zdx ⟨rfl, rfl, rfl, rfl, trivial⟩), hL24, (zam (zam (zam (zam K13 K14) K17) K18) K19), f19, hl12, hc16, trivial⟩
  replace h := ite_f hc14 h
  refine zcf rfl ?_
  obtain rfl := zad h
  obtain rfl := hd10 _ rfl
  replace h := g10
  try dsimp only at h
  refine zat ?_
  exact ⟨l11, cs13, _, rfl, (zdx ⟨rfl, rfl, trivial⟩), hL15, K13, hE14, hl11, hc13, trivial⟩
 rintro _ w32 ⟨l10, cs12, u, rfl, rfl, hL26, K20, hE35, hl13, hc18, -⟩
 replace h := g10
 try dsimp only at h
 refine zan (zaf rfl (zag (zal (v := zN) rfl ?_)))
 refine zas (zan (zaf rfl (zag (zav (v := (osv ob8 0 r6.1.length cap9)) zap rfl rfl (hL26.at 0 rfl rfl) rfl ?_))))
 refine zag (zcj (pre := []) (r := rTClass) (xs := l10) zap rfl (hL26.at 1 rfl rfl) hE35 rfl hl13 ?_)
 obtain ⟨x16, q46, h⟩ := zdt h
 obtain ⟨m10, q47, q48, q49, q50⟩ := mk1_some q46
 refine zag (zdi (r := rI) (H := (vH w None [some b10, ob8, ob10] w32)) (zc := [(zI 0)]) (x := 0) zao ti3 rfl rfl rfl rfl q47 q48 q49 q50 hL26 ?_)
 intro b12 w33 cs16 hE36 hc19 hL27 hS13
 have K21 := ks w hS13
 refine zag (zal (v := (osv (some b12) 0 x16.length m10)) rfl ?_)
 refine zas (zan (zaf rfl (zag (zav (v := (osv ob8 0 r6.1.length cap9)) zap rfl rfl (hL27.at 1 rfl rfl) rfl ?_))))
 have f20 := (hE35.mono (K21 None))
 refine zag (zcj (pre := []) (r := rTClass) (xs := l10) zap rfl (hL27.at 2 rfl rfl) f20 rfl hl13 ?_)
 obtain ⟨x17, q51, h⟩ := zdt h
 obtain ⟨m11, q52, q53, q54, q55⟩ := mk1_some q51
 refine zag (zdi (r := rBool) (H := (vH w None [some b12, some b10, ob8, ob10] w33)) (zc := [zF]) (x := false) zci ti4 rfl rfl rfl rfl q52 q53 q54 q55 hL27 ?_)
 intro b13 w34 cs17 hE37 hc20 hL28 hS14
 have K22 := ks w hS14
 refine zag (zal (v := (osv (some b13) 0 x17.length m11)) rfl ?_)
 refine zas (zan (zan (zaf rfl (zag (zav (v := (osv ob8 0 r6.1.length cap9)) zap rfl rfl (hL28.at 2 rfl rfl) rfl ?_)))))
 have f21 := (f20.mono (K22 None))
 refine zag (zcj (pre := []) (r := rTClass) (xs := l10) zap rfl (hL28.at 3 rfl rfl) f21 rfl hl13 ?_)
 refine zag (zae (v := (zI 0)) rfl (zas ?_))
 obtain ⟨s11, hl14, g11⟩ := zdt h
 refine zbu (fun e w' => ∃ (left10 : (List Int)) (cs18 : List Value) (u : Env), left10 = s11 ∧ e = upds [(4, (zak (some ⟨b10, 0, none⟩))), (5, (osv ob10 0 r6.2.1.length cap10)), (8, zN), (9, (osv (some b12) 0 x16.length m10)), (10, (osv (some b13) 0 x17.length m11))] u ∧ vL w w' [some b10, ob8, ob10, some b12, some b13] [zab [(osv ob8 0 r6.1.length cap9)], zab ([] ++ (cs12 ++ sp10)), zab ([] ++ (cs11 ++ sp11)), zab ([] ++ (cs18 ++ [])), zab ([] ++ (cs17 ++ []))] ∧ Keep w.heap.size [some b13, some b12, some b10, ob8, ob10] w34 [some b10, ob8, ob10, some b12, some b13] w' ∧ Els rI (vH w None [some b10, ob8, ob10, some b12, some b13] w') cs18 left10 ∧ x16.length = List.length left10 ∧ (cs18 ++ []).length = m10 * rI.sz ∧ True) ?_ ?_
 ·
  refine zbb ?_
  have hp16 := hL28.pick [2, 3, 4, 1, 0] rfl rfl rfl
  have hL29 : vL w w34 [some b10, ob8, ob10, some b12, some b13] [zab [(osv ob8 0 r6.1.length cap9)], zab ([] ++ (cs12 ++ sp10)), zab ([] ++ (cs11 ++ sp11)), zab ([] ++ (cs16 ++ [])), zab ([] ++ (cs17 ++ []))] := hp16.1
  have K23 := ks w hp16.2
  have f22 := (((hE36.mono (K21 None)).mono (K22 None)).mono (K23 None))
  refine zca hl14 (fun (ss : ((List Int) × Int)) (e : Env) (w' : World) => match ss with | (left11, x18) => ∃ (cs19 : List Value) (u : Env), e = upds [(4, (zak (some ⟨b10, 0, none⟩))), (5, (osv ob10 0 r6.2.1.length cap10)), (8, zN), (9, (osv (some b12) 0 x16.length m10)), (10, (osv (some b13) 0 x17.length m11)), (67, (zI (l10.length : Int))), (68, (zI x18))] u ∧ vL w w' [some b10, ob8, ob10, some b12, some b13] [zab [(osv ob8 0 r6.1.length cap9)], zab ([] ++ (cs12 ++ sp10)), zab ([] ++ (cs11 ++ sp11)), zab ([] ++ (cs19 ++ [])), zab ([] ++ (cs17 ++ []))] ∧ Keep w.heap.size [some b13, some b12, some b10, ob8, ob10] w34 [some b10, ob8, ob10, some b12, some b13] w' ∧ Els rI (vH w None [some b10, ob8, ob10, some b12, some b13] w') cs19 left11 ∧ x16.length = List.length left11 ∧ (cs19 ++ []).length = m10 * rI.sz ∧ True) ⟨cs16, _, (zdx ⟨rfl, rfl, rfl, rfl, rfl, rfl, rfl, trivial⟩), hL29, K23, f22, rfl, hc19, trivial⟩ ?_
  rintro ⟨left11, x18⟩ oo _ w35 ⟨cs19, u, rfl, hL30, K24, hE38, hl15, hc21, -⟩ h hd11
  rw [tSolve_b2] at h
  refine zan (zaf rfl (zag (zck (x := x18) (y := (l10.length : Int)) ((x18 : Int) < (l10.length : Int)) rfl rfl zbk ?_)))
  refine zas (zan ?_)
  refine zbm ((x18 : Int) < (l10.length : Int)) rfl (fun hc22 => ?_) (fun hc22 => ?_)
  ·
   replace h := ite_t hc22 h
   refine zbl (zan (zbb (zan (zaf rfl (zag (zae (v := (zI x18)) rfl ?_))))))
   refine zag (zal (v := (zI x18)) rfl ?_)
   refine zas (zaf rfl (zag (zae (v := (osv (some b12) 0 x16.length m10)) rfl ?_)))
   refine zag (zae (v := (zI x18)) rfl ?_)
   refine zag (zav (v := (osv ob8 0 r6.1.length cap9)) zap rfl rfl (hL30.at 0 rfl rfl) rfl ?_)
   refine zag (zae (v := (zI x18)) rfl ?_)
   obtain ⟨x19, n15, q57, q58, q59, h⟩ := zix h
   have f23 := (f21.mono (K24 None))
   obtain ⟨b14, hb11⟩ := hL30.row_some 1 rfl rfl (zem (pre := []) f23 q58 (Nat.lt_of_sub_eq_succ rfl))
   refine zag (zbd (r := rTClass) (b := b14) (o := 0) (n := n15) (m := r6.1.length) (xs := l10) (q := (0 + n15 * rTClass.sz)) zap ti56 (zef hb11) hl13 rfl q57 q59 rfl ?_)
   refine zag (zau (q := ((0 + n15 * rTClass.sz) + 4)) zbi rfl ti22 rfl rfl rfl ?_)
   obtain ⟨vs14, q60, q61, q62⟩ := zee (pre := []) (sp := sp10) f23 q58
   obtain ⟨v22, v23, v24, rfl, k22, k23, k24, -⟩ := rTClass_open q61
   have q63 := elem_part (us := [v24]) (q := 4) q62 rfl
   refine zag (zbx (v := v24) zao rfl rfl (zel hb11 (hL30.at 1 rfl rfl)) q63 ?_)
   refine zag (zcc (v := v24) zao rfl k24 ?_)
   obtain ⟨x20, n16, q65, q66, q67, h⟩ := zix h
   refine zag (zbd (r := rI) (b := b12) (o := 0) (n := n16) (m := x16.length) (xs := left11) (q := (0 + n16 * rI.sz)) zao ti3 rfl hl15 rfl q65 q67 rfl ?_)
   obtain ⟨x21, n17, q69, q70, q71, h⟩ := zux h
   obtain rfl := zin q65 q69
   refine zde (zdf (pre := []) (r := rI) (vs := [(zI (x19.apart.length : Int))]) (a := (x19.apart.length : Int)) ti3 rfl rfl rfl rfl hL30 3 rfl rfl hE38 q67 rfl q71 ?_)
   have hl16 : x16.length = List.length x21 := by rw [q71, List.length_set]; exact hl15
   intro w36 cs20 (hL31 : vL w w36 [some b10, ob8, ob10, some b12, some b13] [zab [(osv ob8 0 r6.1.length cap9)], zab ([] ++ (cs12 ++ sp10)), zab ([] ++ (cs11 ++ sp11)), zab ([] ++ (cs20 ++ [])), zab ([] ++ (cs17 ++ []))]) hS15 hE39 q72
   have hc23 : (cs20 ++ []).length = m10 * rI.sz := zhc hc21 q72
   have K25 := ks w hS15
   refine zas (zbh (zaf rfl (zag (zce (x := x18) (y := 1) (z := (iw (x18 + 1))) rfl rfl rfl ?_))))
   refine zag (zae (v := (zI (iw (x18 + 1)))) rfl (zas ?_))
   have f24 := (hE39.mono (K25 None))
   obtain rfl := zad h
   refine zat ⟨(x21, (iw (x18 + 1))), rfl, ?_⟩
   exact ⟨cs20, _, (zdx ⟨rfl, rfl, rfl, rfl, rfl, rfl, rfl, trivial⟩), hL31, (zam K24 K25), f24, hl16, hc23, trivial⟩
  replace h := ite_f hc22 h
  refine zcf rfl ?_
  obtain rfl := zad h
  obtain rfl := hd11 _ rfl
  replace h := g11
  try dsimp only at h
  refine zat ?_
  exact ⟨left11, cs19, _, rfl, (zdx ⟨rfl, rfl, rfl, rfl, rfl, trivial⟩), hL30, K24, hE38, hl15, hc21, trivial⟩
 rintro _ w37 ⟨left10, cs18, u, rfl, rfl, hL32, K26, hE40, hl17, hc24, -⟩
 replace h := g11
 try dsimp only at h
 refine zan (zan (zaf rfl (zag (zal (v := zT) rfl (zas ?_)))))
 obtain ⟨s12, hl18, g12⟩ := zdt h
 refine zbu (fun e w' => ∃ (last10 : (List Int)) (removed10 : (List Bool)) (ob12 : Option Nat) (cap12 : Nat) (sp13 : List Value) (cs21 : List Value) (ln10 : Nat) (cs22 : List Value) (u : Env), (last10, removed10) = s12 ∧ e = upds [(4, (zak (some ⟨b10, 0, none⟩))), (5, (osv ob10 0 r6.2.1.length cap10)), (8, (osv ob12 0 ln10 cap12)), (10, (osv (some b13) 0 x17.length m11))] u ∧ vL w w' [some b10, ob8, ob10, ob12, some b13] [zab [(osv ob8 0 r6.1.length cap9)], zab ([] ++ (cs12 ++ sp10)), zab ([] ++ (cs11 ++ sp11)), zab ([] ++ (cs21 ++ sp13)), zab ([] ++ (cs22 ++ []))] ∧ Keep w.heap.size [some b10, ob8, ob10, some b12, some b13] w37 [some b10, ob8, ob10, ob12, some b13] w' ∧ Els rI (vH w None [some b10, ob8, ob10, ob12, some b13] w') cs21 last10 ∧ ln10 = List.length last10 ∧ (cs21 ++ sp13).length = cap12 * rI.sz ∧ Els rBool (vH w None [some b10, ob8, ob10, ob12, some b13] w') cs22 removed10 ∧ x17.length = List.length removed10 ∧ (cs22 ++ []).length = m11 * rBool.sz ∧ True) ?_ ?_
 ·
  refine zbb ?_
  have hp17 := hL32.addNil
  have hL33 : vL w w37 [none, some b10, ob8, ob10, some b12, some b13] [zab ([] ++ ([] ++ [])), zab [(osv ob8 0 r6.1.length cap9)], zab ([] ++ (cs12 ++ sp10)), zab ([] ++ (cs11 ++ sp11)), zab ([] ++ (cs18 ++ [])), zab ([] ++ (cs17 ++ []))] := hp17.1
  have K27 := ks w hp17.2
  have hp18 := hL33.pick [1, 2, 3, 0, 4, 5] rfl rfl rfl
  have hL34 : vL w w37 [some b10, ob8, ob10, none, some b12, some b13] [zab [(osv ob8 0 r6.1.length cap9)], zab ([] ++ (cs12 ++ sp10)), zab ([] ++ (cs11 ++ sp11)), zab ([] ++ ([] ++ [])), zab ([] ++ (cs18 ++ [])), zab ([] ++ (cs17 ++ []))] := hp18.1
  have K28 := ks w hp18.2
  have f25 := ((zcq (r := rI)).mono (K28 None))
  have f26 := ((hE40.mono (K27 None)).mono (K28 None))
  have f27 := ((((hE37.mono (K22 None)).mono (K26 None)).mono (K27 None)).mono (K28 None))
  refine zca hl18 (fun (ss : ((List Int) × (List Int) × (List Bool) × Bool)) (e : Env) (w' : World) => match ss with | (last11, left12, removed11, changed10) => ∃ (ob13 : Option Nat) (cap13 : Nat) (sp14 : List Value) (cs23 : List Value) (ln11 : Nat) (cs24 : List Value) (cs25 : List Value) (u : Env), e = upds [(4, (zak (some ⟨b10, 0, none⟩))), (5, (osv ob10 0 r6.2.1.length cap10)), (8, (osv ob13 0 ln11 cap13)), (9, (osv (some b12) 0 x16.length m10)), (10, (osv (some b13) 0 x17.length m11)), (12, (zac changed10))] u ∧ vL w w' [some b10, ob8, ob10, ob13, some b12, some b13] [zab [(osv ob8 0 r6.1.length cap9)], zab ([] ++ (cs12 ++ sp10)), zab ([] ++ (cs11 ++ sp11)), zab ([] ++ (cs23 ++ sp14)), zab ([] ++ (cs24 ++ [])), zab ([] ++ (cs25 ++ []))] ∧ Keep w.heap.size [some b10, ob8, ob10, some b12, some b13] w37 [some b10, ob8, ob10, ob13, some b12, some b13] w' ∧ Els rI (vH w None [some b10, ob8, ob10, ob13, some b12, some b13] w') cs23 last11 ∧ ln11 = List.length last11 ∧ (cs23 ++ sp14).length = cap13 * rI.sz ∧ Els rI (vH w None [some b10, ob8, ob10, ob13, some b12, some b13] w') cs24 left12 ∧ x16.length = List.length left12 ∧ (cs24 ++ []).length = m10 * rI.sz ∧ Els rBool (vH w None [some b10, ob8, ob10, ob13, some b12, some b13] w') cs25 removed11 ∧ x17.length = List.length removed11 ∧ (cs25 ++ []).length = m11 * rBool.sz ∧ True) ⟨none, 0, [], [], (List.length ([] : (List Int))), cs18, cs17, _, (zdx ⟨rfl, rfl, rfl, rfl, rfl, rfl, trivial⟩), hL34, (zam K27 K28), f25, rfl, (show ([] ++ [] : List Value).length = 0 * rI.sz by simp), f26, hl17, hc24, f27, rfl, hc20, trivial⟩ ?_
  rintro ⟨last11, left12, removed11, changed10⟩ oo _ w38 ⟨ob13, cap13, sp14, cs23, ln11, cs24, cs25, u, rfl, hL35, K29, hE41, rfl, hc25, hE42, hl19, hc26, hE43, hl20, hc27, -⟩ h hd12
  rw [tSolve_b3] at h
  refine zan (zan (zaf rfl (zag (zae (v := (zac changed10)) rfl (zas ?_)))))
  refine zch changed10 rfl (fun hc28 => ?_) (fun hc28 => ?_)
  ·
   replace h := ite_t hc28 h
   refine zbl (zbb (zan (zaf rfl (zag (zal (v := zF) rfl ?_)))))
   refine zas (zan (zaf rfl (zag (zav (v := (osv ob8 0 r6.1.length cap9)) zap rfl rfl (hL35.at 0 rfl rfl) rfl ?_))))
   have f28 := ((f21.mono (K26 None)).mono (K29 None))
   refine zag (zcj (pre := []) (r := rTClass) (xs := l10) zap rfl (hL35.at 1 rfl rfl) f28 rfl hl13 ?_)
   refine zag (zae (v := (zI 0)) rfl (zas ?_))
   obtain ⟨s13, hl21, g13⟩ := zdt h
   refine zbu (fun e w' => ∃ (last12 : (List Int)) (left13 : (List Int)) (removed12 : (List Bool)) (changed11 : Bool) (ob14 : Option Nat) (cap14 : Nat) (sp15 : List Value) (cs26 : List Value) (ln12 : Nat) (cs27 : List Value) (cs28 : List Value) (u : Env), (last12, left13, removed12, changed11) = s13 ∧ e = upds [(4, (zak (some ⟨b10, 0, none⟩))), (5, (osv ob10 0 r6.2.1.length cap10)), (8, (osv ob14 0 ln12 cap14)), (9, (osv (some b12) 0 x16.length m10)), (10, (osv (some b13) 0 x17.length m11)), (12, (zac changed11))] u ∧ vL w w' [some b10, ob8, ob10, ob14, some b12, some b13] [zab [(osv ob8 0 r6.1.length cap9)], zab ([] ++ (cs12 ++ sp10)), zab ([] ++ (cs11 ++ sp11)), zab ([] ++ (cs26 ++ sp15)), zab ([] ++ (cs27 ++ [])), zab ([] ++ (cs28 ++ []))] ∧ Keep w.heap.size [some b10, ob8, ob10, ob13, some b12, some b13] w38 [some b10, ob8, ob10, ob14, some b12, some b13] w' ∧ Els rI (vH w None [some b10, ob8, ob10, ob14, some b12, some b13] w') cs26 last12 ∧ ln12 = List.length last12 ∧ (cs26 ++ sp15).length = cap14 * rI.sz ∧ Els rI (vH w None [some b10, ob8, ob10, ob14, some b12, some b13] w') cs27 left13 ∧ x16.length = List.length left13 ∧ (cs27 ++ []).length = m10 * rI.sz ∧ Els rBool (vH w None [some b10, ob8, ob10, ob14, some b12, some b13] w') cs28 removed12 ∧ x17.length = List.length removed12 ∧ (cs28 ++ []).length = m11 * rBool.sz ∧ True) ?_ ?_
   ·
    refine zbb ?_
    refine zca hl21 (fun (ss : ((List Int) × (List Int) × (List Bool) × Bool × Int)) (e : Env) (w' : World) => match ss with | (last13, left14, removed13, changed12, x22) => ∃ (ob15 : Option Nat) (cap15 : Nat) (sp16 : List Value) (cs29 : List Value) (ln13 : Nat) (cs30 : List Value) (cs31 : List Value) (u : Env), e = upds [(4, (zak (some ⟨b10, 0, none⟩))), (5, (osv ob10 0 r6.2.1.length cap10)), (8, (osv ob15 0 ln13 cap15)), (9, (osv (some b12) 0 x16.length m10)), (10, (osv (some b13) 0 x17.length m11)), (12, (zac changed12)), (83, (zI (l10.length : Int))), (84, (zI x22))] u ∧ vL w w' [some b10, ob8, ob10, ob15, some b12, some b13] [zab [(osv ob8 0 r6.1.length cap9)], zab ([] ++ (cs12 ++ sp10)), zab ([] ++ (cs11 ++ sp11)), zab ([] ++ (cs29 ++ sp16)), zab ([] ++ (cs30 ++ [])), zab ([] ++ (cs31 ++ []))] ∧ Keep w.heap.size [some b10, ob8, ob10, ob13, some b12, some b13] w38 [some b10, ob8, ob10, ob15, some b12, some b13] w' ∧ Els rI (vH w None [some b10, ob8, ob10, ob15, some b12, some b13] w') cs29 last13 ∧ ln13 = List.length last13 ∧ (cs29 ++ sp16).length = cap15 * rI.sz ∧ Els rI (vH w None [some b10, ob8, ob10, ob15, some b12, some b13] w') cs30 left14 ∧ x16.length = List.length left14 ∧ (cs30 ++ []).length = m10 * rI.sz ∧ Els rBool (vH w None [some b10, ob8, ob10, ob15, some b12, some b13] w') cs31 removed13 ∧ x17.length = List.length removed13 ∧ (cs31 ++ []).length = m11 * rBool.sz ∧ True) ⟨ob13, cap13, sp14, cs23, last11.length, cs24, cs25, _, (zdx ⟨rfl, rfl, rfl, rfl, rfl, rfl, rfl, rfl, trivial⟩), hL35, zbt, hE41, rfl, hc25, hE42, hl19, hc26, hE43, hl20, hc27, trivial⟩ ?_
    rintro ⟨last13, left14, removed13, changed12, x22⟩ oo _ w39 ⟨ob15, cap15, sp16, cs29, ln13, cs30, cs31, u, rfl, hL36, K30, hE44, rfl, hc29, hE45, hl22, hc30, hE46, hl23, hc31, -⟩ h hd13
    rw [tSolve_b4] at h
    refine zan (zaf rfl (zag (zck (x := x22) (y := (l10.length : Int)) ((x22 : Int) < (l10.length : Int)) rfl rfl zbk ?_)))
    refine zas (zan ?_)
    refine zbm ((x22 : Int) < (l10.length : Int)) rfl (fun hc32 => ?_) (fun hc32 => ?_)
    ·
     replace h := ite_t hc32 h
     refine zbl (zan (zbb (zan (zaf rfl (zag (zae (v := (zI x22)) rfl ?_))))))
     refine zag (zal (v := (zI x22)) rfl ?_)
     refine zas (zan ?_)
     obtain ⟨s14, h, g14⟩ := zdt h
     refine zbu (fun e w' => ∃ (x23 : Bool) (u : Env), x23 = s14 ∧ e = upds [(4, (zak (some ⟨b10, 0, none⟩))), (5, (osv ob10 0 r6.2.1.length cap10)), (8, (osv ob15 0 last13.length cap15)), (9, (osv (some b12) 0 x16.length m10)), (10, (osv (some b13) 0 x17.length m11)), (12, (zac changed12)), (13, (zI x22)), (83, (zI (l10.length : Int))), (84, (zI x22)), (104, (zac x23))] u ∧ vL w w' [some b10, ob8, ob10, ob15, some b12, some b13] [zab [(osv ob8 0 r6.1.length cap9)], zab ([] ++ (cs12 ++ sp10)), zab ([] ++ (cs11 ++ sp11)), zab ([] ++ (cs29 ++ sp16)), zab ([] ++ (cs30 ++ [])), zab ([] ++ (cs31 ++ []))] ∧ Keep w.heap.size [some b10, ob8, ob10, ob15, some b12, some b13] w39 [some b10, ob8, ob10, ob15, some b12, some b13] w' ∧ True) ?_ ?_
     ·
      obtain ⟨x24, n18, q74, q75, q76, h⟩ := zix h
      obtain ⟨vs15, q77, q78, q79⟩ := zee (pre := []) (sp := []) hE46 q75
      obtain rfl := q78
      by_cases hc33 : (!x24) = true
      ·
       replace h := ite_t hc33 h
       obtain ⟨x25, n19, q81, q82, q83, h⟩ := zix h
       have f29 := (f28.mono (K30 None))
       obtain ⟨b15, hb12⟩ := hL36.row_some 1 rfl rfl (zem (pre := []) f29 q82 (Nat.lt_of_sub_eq_succ rfl))
       obtain ⟨vs16, q84, q85, q86⟩ := zee (pre := []) (sp := sp10) f29 q82
       obtain ⟨v25, v26, v27, rfl, k25, k26, k27, -⟩ := rTClass_open q85
       have q87 := elem_part (us := [v26]) (q := 3) q86 rfl
       obtain ⟨x26, n20, q89, q90, q91, h⟩ := zix h
       obtain ⟨vs17, q92, q93, q94⟩ := zee (pre := []) (sp := []) hE45 q90
       obtain rfl := q93
       refine zcz 16 [] [] (fun W1 => [.det (osv (some b13) 0 x17.length m11), .det (zI x22), .det (zak (some ⟨b13, (0 + n18 * rBool.sz), none⟩)), .det (zac x24), .det (zac (!x24)), .det (zac (!x24)), .det (osv ob8 0 r6.1.length cap9), .det (zI x22), .det (zak (some ⟨b15, (0 + n19 * rTClass.sz), none⟩)), .det (zak (some ⟨b15, ((0 + n19 * rTClass.sz) + 3), none⟩)), .det v26, .det (zI (x25.words.length : Int)), .det (osv (some b12) 0 x16.length m10), .det (zI x22), .det (zak (some ⟨b12, (0 + n20 * rI.sz), none⟩)), .det (zI x26)]) mixed rfl rfl rfl (fun _ => rfl) (fun _ => rfl) ?_ ?_
       ·
        intro W1 _
        exact trivial
       intro w40 hE47
       obtain ⟨hL37, K31⟩ := zl hL36 hE47
       refine zay (fun _ _ => zaq (zae rfl (er rfl))) ?_
       refine zay (fun _ _ => zaq (zae rfl (er rfl))) ?_
       refine zay (fun _ _ => zaq (zbd (r := rBool) (b := b13) (o := 0) (n := n18) (m := x17.length) (xs := removed13) (q := (0 + n18 * rBool.sz)) zci ti4 rfl hl23 rfl q74 q76 rfl (er rfl))) ?_
       refine zay (fun _ hE51 => zaq (zbx zdm rfl rfl ((hL37.ext hE51).at 5 rfl rfl) q79 (er rfl))) ?_
       refine zay (fun _ _ => zaq (zdq rfl (er rfl))) ?_
       refine zay (fun _ _ => zaq (zae rfl (er rfl))) ?_
       refine zay (fun _ hE54 => zda rfl rfl hc33 (zav zap rfl rfl ((hL37.ext hE54).at 0 rfl rfl) rfl (er rfl))) ?_
       refine zay (fun _ _ => zda rfl rfl hc33 (zae rfl (er rfl))) ?_
       refine zay (fun _ _ => zda rfl rfl hc33 (zbd (r := rTClass) (b := b15) (o := 0) (n := n19) (m := r6.1.length) (xs := l10) (q := (0 + n19 * rTClass.sz)) zap ti56 (zef hb12) hl13 rfl q81 q83 rfl (er rfl))) ?_
       refine zay (fun _ _ => zda rfl rfl hc33 (zau zbi rfl ti27 rfl rfl rfl (er rfl))) ?_
       refine zay (fun _ hE58 => zda rfl rfl hc33 (zbx zax rfl rfl (zel hb12 ((hL37.ext hE58).at 1 rfl rfl)) q87 (er rfl))) ?_
       refine zay (fun _ hE59 => zda rfl rfl hc33 (zcc (v := v26) zax rfl ((k26.mono (K31 None)).mono ((ke hL37 hE59) None)) (er rfl))) ?_
       refine zay (fun _ _ => zda rfl rfl hc33 (zae rfl (er rfl))) ?_
       refine zay (fun _ _ => zda rfl rfl hc33 (zae rfl (er rfl))) ?_
       refine zay (fun _ _ => zda rfl rfl hc33 (zbd (r := rI) (b := b12) (o := 0) (n := n20) (m := x16.length) (xs := left14) (q := (0 + n20 * rI.sz)) zao ti3 rfl hl22 rfl q89 q91 rfl (er rfl))) ?_
       refine zay (fun _ hE63 => zda rfl rfl hc33 (zbx zaw rfl rfl ((hL37.ext hE63).at 4 rfl rfl) q94 (er rfl))) ?_
       refine zdj ?_
       rintro w57 Z50 hE64 hZ41 ⟨-⟩ ap11
       have hB12 := @zhb w40 Z50
       obtain ⟨hL42, K33⟩ := zl hL37 hE64
       refine zaz rfl rfl hc33 (OpY.gtr (x := (x25.words.length : Int)) (y := x26) (((x25.words.length : Int) : Int) > x26) rfl rfl zbk ?_)
       refine zag (zbr (t := (!x24)) (v := (zac (decide (((x25.words.length : Int) : Int) > x26)))) rfl hc33 rfl (zas ?_))
       obtain rfl := zad h
       refine zat ?_
       exact ⟨(decide (((x25.words.length : Int) : Int) > x26)), _, rfl, (zdx ⟨rfl, rfl, rfl, rfl, rfl, rfl, rfl, rfl, rfl, rfl, trivial⟩), hL42, (zam K31 K33), trivial⟩
      replace h := ite_f hc33 h
      refine zcz 16 [] [] (fun W1 => [.det (osv (some b13) 0 x17.length m11), .det (zI x22), .det (zak (some ⟨b13, (0 + n18 * rBool.sz), none⟩)), .det (zac x24), .det (zac (!x24)), .det (zac (!x24)), .det undef, .det undef, .det undef, .det undef, .det undef, .det undef, .det undef, .det undef, .det undef, .det undef]) mixed rfl rfl rfl (fun _ => rfl) (fun _ => rfl) ?_ ?_
      ·
       intro W1 _
       exact trivial
      intro w58 hE65
      obtain ⟨hL43, K34⟩ := zl hL36 hE65
      refine zay (fun _ _ => zaq (zae rfl (er rfl))) ?_
      refine zay (fun _ _ => zaq (zae rfl (er rfl))) ?_
      refine zay (fun _ _ => zaq (zbd (r := rBool) (b := b13) (o := 0) (n := n18) (m := x17.length) (xs := removed13) (q := (0 + n18 * rBool.sz)) zci ti4 rfl hl23 rfl q74 q76 rfl (er rfl))) ?_
      refine zay (fun _ hE69 => zaq (zbx zdm rfl rfl ((hL43.ext hE69).at 5 rfl rfl) q79 (er rfl))) ?_
      refine zay (fun _ _ => zaq (zdq rfl (er rfl))) ?_
      refine zay (fun _ _ => zaq (zae rfl (er rfl))) ?_
      refine zay (fun _ _ => zdl rfl rfl (zdw hc33) (er rfl)) ?_
      refine zay (fun _ _ => zdl rfl rfl (zdw hc33) (er rfl)) ?_
      refine zay (fun _ _ => zdl rfl rfl (zdw hc33) (er rfl)) ?_
      refine zay (fun _ _ => zdl rfl rfl (zdw hc33) (er rfl)) ?_
      refine zay (fun _ _ => zdl rfl rfl (zdw hc33) (er rfl)) ?_
      refine zay (fun _ _ => zdl rfl rfl (zdw hc33) (er rfl)) ?_
      refine zay (fun _ _ => zdl rfl rfl (zdw hc33) (er rfl)) ?_
      refine zay (fun _ _ => zdl rfl rfl (zdw hc33) (er rfl)) ?_
      refine zay (fun _ _ => zdl rfl rfl (zdw hc33) (er rfl)) ?_
      refine zay (fun _ _ => zdl rfl rfl (zdw hc33) (er rfl)) ?_
      refine zdj ?_
      rintro w75 Z67 hE82 hZ58 ⟨-⟩ ap12
      have hB13 := @zhb w58 Z67
      obtain ⟨hL45, K35⟩ := zl hL43 hE82
      refine zbe rfl rfl (zdw hc33) ?_
      refine zag (zbp (t := (!x24)) (v := zF) rfl (zdw hc33) rfl (zas ?_))
      obtain rfl := zad h
      refine zat ?_
      exact ⟨false, _, rfl, (zdx ⟨rfl, rfl, rfl, rfl, rfl, rfl, rfl, rfl, rfl, rfl, trivial⟩), hL45, (zam K34 K35), trivial⟩
     rintro _ w76 ⟨x23, u, rfl, rfl, hL46, K36, -⟩
     replace h := g14
     try dsimp only at h
     refine zch x23 rfl (fun hc34 => ?_) (fun hc34 => ?_)
     ·
      replace h := ite_t hc34 h
      refine zan (zaf rfl (zag (zae (v := (osv (some b13) 0 x17.length m11)) rfl ?_)))
      refine zag (zae (v := (zI x22)) rfl ?_)
      obtain ⟨x27, n21, q96, q97, q98, h⟩ := zix h
      refine zag (zbd (r := rBool) (b := b13) (o := 0) (n := n21) (m := x17.length) (xs := removed13) (q := (0 + n21 * rBool.sz)) zci ti4 rfl hl23 rfl q96 q98 rfl ?_)
      obtain ⟨x28, n22, q100, q101, q102, h⟩ := zux h
      obtain rfl := zin q96 q100
      have f30 := (hE46.mono (K36 None))
      refine zde (zdf (pre := []) (r := rBool) (vs := [zT]) (a := true) ti4 rfl rfl rfl rfl hL46 5 rfl rfl f30 q98 rfl q102 ?_)
      have hl24 : x17.length = List.length x28 := by rw [q102, List.length_set]; exact hl23
      intro w77 cs32 (hL47 : vL w w77 [some b10, ob8, ob10, ob15, some b12, some b13] [zab [(osv ob8 0 r6.1.length cap9)], zab ([] ++ (cs12 ++ sp10)), zab ([] ++ (cs11 ++ sp11)), zab ([] ++ (cs29 ++ sp16)), zab ([] ++ (cs30 ++ [])), zab ([] ++ (cs32 ++ []))]) hS16 hE83 q103
      have hc35 : (cs32 ++ []).length = m11 * rBool.sz := zhc hc31 q103
      have K37 := ks w hS16
      refine zag (zal (v := zT) rfl ?_)
      refine zas (zan (zaf rfl (zag (zae (v := (osv ob15 0 last13.length cap15)) rfl ?_))))
      refine zag (zae (v := (zI x22)) rfl ?_)
      have hE84 : Els rI (vH w None [some b10, ob8, ob10, ob15, some b12, some b13] w77) [(zI x22)] [x22] := (zcp (a := [(zI x22)]) rfl zcq)
      refine zag (zct (r := rI) (vs := [(zI x22)]) (css := [[(zI x22)]]) (xs := [x22]) zao ti3 (zai rfl) rfl rfl ⟨rfl, rfl, trivial⟩ (zai rfl) hE84 rfl hL47 ?_)
      intro b16 w78 hc36 hL48 hS17
      have K38 := ks w hS17
      obtain ⟨x29, q104, h⟩ := zdt h
      obtain ⟨q105, q106, q107⟩ := zek q104
      have f31 := (hE84.mono (K38 None))
      have f32 := (((hE44.mono (K36 None)).mono (K37 None)).mono (K38 None))
      refine zag (zcw (r := rI) (H := (vH w None [some b16, some b10, ob8, ob10, ob15, some b12, some b13] w78)) (cs := cs29) (sp := sp16) (xs := last13) (ys := [x22]) (Y := x29) (n := last13.length) (cap := cap15) (i := 4) zao ti3 rfl rfl rfl rfl hL48 rfl rfl f32 rfl hc29 (Src.row (pre := []) (o := 0) (n := 1) (cap := 1) (hL48.at 0 rfl rfl) f31 rfl rfl rfl) (zcg (fun _ _ _ _ h => h) f31) q105 q106 q107 ?_)
      intro ob16 cap16 sp17 cs33 w79 hE85 hc37 (hL49 : vL w w79 [some b16, some b10, ob8, ob10, ob16, some b12, some b13] [zab ([] ++ ([(zI x22)] ++ [])), zab [(osv ob8 0 r6.1.length cap9)], zab ([] ++ (cs12 ++ sp10)), zab ([] ++ (cs11 ++ sp11)), zab ([] ++ (cs33 ++ sp17)), zab ([] ++ (cs30 ++ [])), zab ([] ++ (cs32 ++ []))]) hS18
      have K39 := ks w hS18
      refine zag (zal (v := (osv ob16 0 x29.length cap16)) rfl ?_)
      refine zas (zan (zaf rfl (zag (zav (v := (osv ob8 0 r6.1.length cap9)) zap rfl rfl (hL49.at 1 rfl rfl) rfl ?_))))
      refine zag (zae (v := (zI x22)) rfl ?_)
      obtain ⟨x30, n23, q109, q110, q111, h⟩ := zix h
      have f33 := (((((f28.mono (K30 None)).mono (K36 None)).mono (K37 None)).mono (K38 None)).mono (K39 None))
      obtain ⟨b17, hb13⟩ := hL49.row_some 2 rfl rfl (zem (pre := []) f33 q110 (Nat.lt_of_sub_eq_succ rfl))
      refine zag (zbd (r := rTClass) (b := b17) (o := 0) (n := n23) (m := r6.1.length) (xs := l10) (q := (0 + n23 * rTClass.sz)) zap ti56 (zef hb13) hl13 rfl q109 q111 rfl ?_)
      refine zag (zau (q := ((0 + n23 * rTClass.sz) + 4)) zbi rfl ti22 rfl rfl rfl ?_)
      obtain ⟨vs18, q112, q113, q114⟩ := zee (pre := []) (sp := sp10) f33 q110
      obtain ⟨v28, v29, v30, rfl, k28, k29, k30, -⟩ := rTClass_open q113
      have q115 := elem_part (us := [v30]) (q := 4) q114 rfl
      refine zag (zbx (v := v30) zao rfl rfl (zel hb13 (hL49.at 2 rfl rfl)) q115 ?_)
      refine zag (zcc (v := v30) zao rfl k30 ?_)
      refine zag (zae (v := (zI 0)) rfl (zas ?_))
      obtain ⟨s15, hl25, g15⟩ := zdt h
      refine zbu (fun e w' => ∃ (left15 : (List Int)) (cs34 : List Value) (u : Env), left15 = s15 ∧ e = upds [(4, (zak (some ⟨b10, 0, none⟩))), (5, (osv ob10 0 r6.2.1.length cap10)), (8, (osv ob16 0 x29.length cap16)), (9, (osv (some b12) 0 x16.length m10)), (10, (osv (some b13) 0 x17.length m11)), (12, zT), (83, (zI (l10.length : Int))), (84, (zI x22))] u ∧ vL w w' [some b10, ob8, ob10, ob16, some b12, some b13] [zab [(osv ob8 0 r6.1.length cap9)], zab ([] ++ (cs12 ++ sp10)), zab ([] ++ (cs11 ++ sp11)), zab ([] ++ (cs33 ++ sp17)), zab ([] ++ (cs34 ++ [])), zab ([] ++ (cs32 ++ []))] ∧ Keep w.heap.size [some b16, some b10, ob8, ob10, ob16, some b12, some b13] w79 [some b10, ob8, ob10, ob16, some b12, some b13] w' ∧ Els rI (vH w None [some b10, ob8, ob10, ob16, some b12, some b13] w') cs34 left15 ∧ x16.length = List.length left15 ∧ (cs34 ++ []).length = m10 * rI.sz ∧ True) ?_ ?_
      ·
       refine zbb ?_
       have hp19 := hL49.pick [1, 2, 3, 4, 5, 6] rfl rfl rfl
       have hL50 : vL w w79 [some b10, ob8, ob10, ob16, some b12, some b13] [zab [(osv ob8 0 r6.1.length cap9)], zab ([] ++ (cs12 ++ sp10)), zab ([] ++ (cs11 ++ sp11)), zab ([] ++ (cs33 ++ sp17)), zab ([] ++ (cs30 ++ [])), zab ([] ++ (cs32 ++ []))] := hp19.1
       have K40 := ks w hp19.2
       have f34 := (((((hE45.mono (K36 None)).mono (K37 None)).mono (K38 None)).mono (K39 None)).mono (K40 None))
       refine zca hl25 (fun (ss : ((List Int) × Int)) (e : Env) (w' : World) => match ss with | (left16, x31) => ∃ (cs35 : List Value) (u : Env), e = upds [(4, (zak (some ⟨b10, 0, none⟩))), (5, (osv ob10 0 r6.2.1.length cap10)), (8, (osv ob16 0 x29.length cap16)), (9, (osv (some b12) 0 x16.length m10)), (10, (osv (some b13) 0 x17.length m11)), (12, zT), (83, (zI (l10.length : Int))), (84, (zI x22)), (116, v30), (117, (zI (x30.apart.length : Int))), (118, (zI x31))] u ∧ vL w w' [some b10, ob8, ob10, ob16, some b12, some b13] [zab [(osv ob8 0 r6.1.length cap9)], zab ([] ++ (cs12 ++ sp10)), zab ([] ++ (cs11 ++ sp11)), zab ([] ++ (cs33 ++ sp17)), zab ([] ++ (cs35 ++ [])), zab ([] ++ (cs32 ++ []))] ∧ Keep w.heap.size [some b16, some b10, ob8, ob10, ob16, some b12, some b13] w79 [some b10, ob8, ob10, ob16, some b12, some b13] w' ∧ Els rI (vH w None [some b10, ob8, ob10, ob16, some b12, some b13] w') cs35 left16 ∧ x16.length = List.length left16 ∧ (cs35 ++ []).length = m10 * rI.sz ∧ True) ⟨cs30, _, (zdx ⟨rfl, rfl, rfl, rfl, rfl, rfl, rfl, rfl, rfl, rfl, rfl, trivial⟩), hL50, K40, f34, hl22, hc30, trivial⟩ ?_
       rintro ⟨left16, x31⟩ oo _ w80 ⟨cs35, u, rfl, hL51, K41, hE86, hl26, hc38, -⟩ h hd14
       rw [tSolve_b5] at h
       refine zan (zaf rfl (zag (zck (x := x31) (y := (x30.apart.length : Int)) ((x31 : Int) < (x30.apart.length : Int)) rfl rfl zbk ?_)))
       refine zas (zan ?_)
       refine zbm ((x31 : Int) < (x30.apart.length : Int)) rfl (fun hc39 => ?_) (fun hc39 => ?_)
       ·
        replace h := ite_t hc39 h
        refine zbl (zan (zbb (zan (zaf rfl ?_))))
        obtain ⟨x32, n24, q117, q118, -, h⟩ := zix h
        have f35 := (k30.mono (K41 None))
        obtain ⟨b18, o10, c10, vs19, q119, q120, f36, q121⟩ := zcy f35 q118
        obtain rfl := q121
        refine zag (zcb (r := rI) (v := v30) (n := n24) (m := (o10 + n24 * rI.sz)) zao ti3 rfl q119 rfl q117 q118 rfl ?_)
        refine zag (zcd (v := (zI x32)) zaw rfl rfl zec f36 ?_)
        refine zag (zal (v := (zI x32)) rfl ?_)
        refine zas (zaf rfl (zag (zae (v := (osv (some b12) 0 x16.length m10)) rfl ?_)))
        refine zag (zae (v := (zI x32)) rfl ?_)
        obtain ⟨x33, n25, q123, q124, q125, h⟩ := zix h
        refine zag (zbd (r := rI) (b := b12) (o := 0) (n := n25) (m := x16.length) (xs := left16) (q := (0 + n25 * rI.sz)) zao ti3 rfl hl26 rfl q123 q125 rfl ?_)
        obtain ⟨vs20, q126, q127, q128⟩ := zee (pre := []) (sp := []) hE86 q124
        obtain rfl := q127
        refine zag (zbx (v := (zI x33)) zaw rfl rfl (hL51.at 4 rfl rfl) q128 ?_)
        refine zag (OpY.sub (x := x33) (y := 1) (z := (iw (x33 - 1))) rfl rfl rfl ?_)
        obtain ⟨x34, n26, q130, q131, q132, h⟩ := zix h
        refine zag (zbd (r := rI) (b := b12) (o := 0) (n := n26) (m := x16.length) (xs := left16) (q := (0 + n26 * rI.sz)) zao ti3 rfl hl26 rfl q130 q132 rfl ?_)
        obtain ⟨x35, n27, q134, q135, q136, h⟩ := zux h
        obtain rfl := zin q130 q134
        refine zde (zdf (pre := []) (r := rI) (vs := [(zI (iw (x33 - 1)))]) (a := (iw (x33 - 1))) ti3 rfl rfl rfl rfl hL51 4 rfl rfl hE86 q132 rfl q136 ?_)
        have hl27 : x16.length = List.length x35 := by rw [q136, List.length_set]; exact hl26
        intro w81 cs36 (hL52 : vL w w81 [some b10, ob8, ob10, ob16, some b12, some b13] [zab [(osv ob8 0 r6.1.length cap9)], zab ([] ++ (cs12 ++ sp10)), zab ([] ++ (cs11 ++ sp11)), zab ([] ++ (cs33 ++ sp17)), zab ([] ++ (cs36 ++ [])), zab ([] ++ (cs32 ++ []))]) hS19 hE87 q137
        have hc40 : (cs36 ++ []).length = m10 * rI.sz := zhc hc38 q137
        have K42 := ks w hS19
        refine zas (zbh (zaf rfl (zag (zce (x := x31) (y := 1) (z := (iw (x31 + 1))) rfl rfl rfl ?_))))
        refine zag (zae (v := (zI (iw (x31 + 1)))) rfl (zas ?_))
        have f37 := (hE87.mono (K42 None))
        obtain rfl := zad h
        refine zat ⟨(x35, (iw (x31 + 1))), rfl, ?_⟩
        exact ⟨cs36, _, (zdx ⟨rfl, rfl, rfl, rfl, rfl, rfl, rfl, rfl, rfl, rfl, rfl, trivial⟩), hL52, (zam K41 K42), f37, hl27, hc40, trivial⟩
       replace h := ite_f hc39 h
       refine zcf rfl ?_
       obtain rfl := zad h
       obtain rfl := hd14 _ rfl
       replace h := g15
       try dsimp only at h
       refine zat ?_
       exact ⟨left16, cs35, _, rfl, (zdx ⟨rfl, rfl, rfl, rfl, rfl, rfl, rfl, rfl, trivial⟩), hL51, K41, hE86, hl26, hc38, trivial⟩
      rintro _ w82 ⟨left15, cs34, u, rfl, rfl, hL53, K43, hE88, hl28, hc41, -⟩
      replace h := g15
      try dsimp only at h
      refine zbh (zaf rfl (zag (zce (x := x22) (y := 1) (z := (iw (x22 + 1))) rfl rfl rfl ?_)))
      refine zag (zae (v := (zI (iw (x22 + 1)))) rfl (zas ?_))
      have f38 := ((hE85.mono (K39 None)).mono (K43 None))
      have f39 := ((((hE83.mono (K37 None)).mono (K38 None)).mono (K39 None)).mono (K43 None))
      obtain rfl := zad h
      refine zat ⟨(x29, left15, x28, true, (iw (x22 + 1))), rfl, ?_⟩
      exact ⟨ob16, cap16, sp17, cs33, x29.length, cs34, cs32, _, (zdx ⟨rfl, rfl, rfl, rfl, rfl, rfl, rfl, rfl, trivial⟩), hL53, (zam (zam (zam (zam (zam K30 K36) K37) K38) K39) K43), f38, rfl, hc37, hE88, hl28, hc41, f39, hl24, hc35, trivial⟩
     replace h := ite_f hc34 h
     refine zbl (zbh (zaf rfl (zag (zce (x := x22) (y := 1) (z := (iw (x22 + 1))) rfl rfl rfl ?_))))
     refine zag (zae (v := (zI (iw (x22 + 1)))) rfl (zas ?_))
     have f40 := (hE44.mono (K36 None))
     have f41 := (hE45.mono (K36 None))
     have f42 := (hE46.mono (K36 None))
     obtain rfl := zad h
     refine zat ⟨(last13, left14, removed13, changed12, (iw (x22 + 1))), rfl, ?_⟩
     exact ⟨ob15, cap15, sp16, cs29, last13.length, cs30, cs31, _, (zdx ⟨rfl, rfl, rfl, rfl, rfl, rfl, rfl, rfl, trivial⟩), hL46, (zam K30 K36), f40, rfl, hc29, f41, hl22, hc30, f42, hl23, hc31, trivial⟩
    replace h := ite_f hc32 h
    refine zcf rfl ?_
    obtain rfl := zad h
    obtain rfl := hd13 _ rfl
    replace h := g13
    try dsimp only at h
    refine zat ?_
    exact ⟨last13, left14, removed13, changed12, ob15, cap15, sp16, cs29, last13.length, cs30, cs31, _, rfl, (zdx ⟨rfl, rfl, rfl, rfl, rfl, rfl, trivial⟩), hL36, K30, hE44, rfl, hc29, hE45, hl22, hc30, hE46, hl23, hc31, trivial⟩
   rintro _ w83 ⟨last12, left13, removed12, changed11, ob14, cap14, sp15, cs26, ln12, cs27, cs28, u, rfl, rfl, hL54, K44, hE89, rfl, hc42, hE90, hl29, hc43, hE91, hl30, hc44, -⟩
   replace h := g13
   try dsimp only at h
   refine zbh ?_
   obtain rfl := zad h
   refine zat ⟨(last12, left13, removed12, changed11), rfl, ?_⟩
   exact ⟨ob14, cap14, sp15, cs26, last12.length, cs27, cs28, _, (zdx ⟨rfl, rfl, rfl, rfl, rfl, rfl, trivial⟩), hL54, (zam K29 K44), hE89, rfl, hc42, hE90, hl29, hc43, hE91, hl30, hc44, trivial⟩
  replace h := ite_f hc28 h
  refine zcf rfl ?_
  have hp20 := hL35.pick [0, 1, 2, 3, 5] rfl rfl rfl
  have hL55 : vL w w38 [some b10, ob8, ob10, ob13, some b13] [zab [(osv ob8 0 r6.1.length cap9)], zab ([] ++ (cs12 ++ sp10)), zab ([] ++ (cs11 ++ sp11)), zab ([] ++ (cs23 ++ sp14)), zab ([] ++ (cs25 ++ []))] := hp20.1
  have K45 := ks w hp20.2
  have f43 := (hE41.mono (K45 None))
  have f44 := (hE43.mono (K45 None))
  obtain rfl := zad h
  obtain rfl := hd12 _ rfl
  replace h := g12
  try dsimp only at h
  refine zat ?_
  exact ⟨last11, removed11, ob13, cap13, sp14, cs23, last11.length, cs25, _, rfl, (zdx ⟨rfl, rfl, rfl, rfl, trivial⟩), hL55, (zam K29 K45), f43, rfl, hc25, f44, hl20, hc27, trivial⟩
 rintro _ w84 ⟨last10, removed10, ob12, cap12, sp13, cs21, ln10, cs22, u, rfl, rfl, hL56, K46, hE92, rfl, hc45, hE93, hl31, hc46, -⟩
 replace h := g12
 try dsimp only at h
 refine zan (zaf rfl (zag (zal (v := zN) rfl ?_)))
 refine zas (zan (zan (zaf rfl (zag (zav (v := (osv ob8 0 r6.1.length cap9)) zap rfl rfl (hL56.at 0 rfl rfl) rfl ?_)))))
 have f45 := ((f21.mono (K26 None)).mono (K46 None))
 refine zag (zcj (pre := []) (r := rTClass) (xs := l10) zap rfl (hL56.at 1 rfl rfl) f45 rfl hl13 ?_)
 refine zag (zae (v := (zI 0)) rfl (zas ?_))
 obtain ⟨s16, hl32, g16⟩ := zdt h
 refine zbu (fun e w' => ∃ (hard10 : (List Int)) (ob17 : Option Nat) (cap17 : Nat) (sp18 : List Value) (cs37 : List Value) (ln14 : Nat) (u : Env), hard10 = s16 ∧ e = upds [(4, (zak (some ⟨b10, 0, none⟩))), (5, (osv ob10 0 r6.2.1.length cap10)), (8, (osv ob12 0 last10.length cap12)), (16, (osv ob17 0 ln14 cap17))] u ∧ vL w w' [some b10, ob8, ob10, ob12, ob17] [zab [(osv ob8 0 r6.1.length cap9)], zab ([] ++ (cs12 ++ sp10)), zab ([] ++ (cs11 ++ sp11)), zab ([] ++ (cs21 ++ sp13)), zab ([] ++ (cs37 ++ sp18))] ∧ Keep w.heap.size [some b10, ob8, ob10, ob12, some b13] w84 [some b10, ob8, ob10, ob12, ob17] w' ∧ Els rI (vH w None [some b10, ob8, ob10, ob12, ob17] w') cs37 hard10 ∧ ln14 = List.length hard10 ∧ (cs37 ++ sp18).length = cap17 * rI.sz ∧ True) ?_ ?_
 ·
  refine zbb ?_
  have hp21 := hL56.addNil
  have hL57 : vL w w84 [none, some b10, ob8, ob10, ob12, some b13] [zab ([] ++ ([] ++ [])), zab [(osv ob8 0 r6.1.length cap9)], zab ([] ++ (cs12 ++ sp10)), zab ([] ++ (cs11 ++ sp11)), zab ([] ++ (cs21 ++ sp13)), zab ([] ++ (cs22 ++ []))] := hp21.1
  have K47 := ks w hp21.2
  have hp22 := hL57.pick [1, 2, 3, 4, 5, 0] rfl rfl rfl
  have hL58 : vL w w84 [some b10, ob8, ob10, ob12, some b13, none] [zab [(osv ob8 0 r6.1.length cap9)], zab ([] ++ (cs12 ++ sp10)), zab ([] ++ (cs11 ++ sp11)), zab ([] ++ (cs21 ++ sp13)), zab ([] ++ (cs22 ++ [])), zab ([] ++ ([] ++ []))] := hp22.1
  have K48 := ks w hp22.2
  have f46 := ((zcq (r := rI)).mono (K48 None))
  refine zca hl32 (fun (ss : ((List Int) × Int)) (e : Env) (w' : World) => match ss with | (hard11, x36) => ∃ (ob18 : Option Nat) (cap18 : Nat) (sp19 : List Value) (cs38 : List Value) (ln15 : Nat) (u : Env), e = upds [(4, (zak (some ⟨b10, 0, none⟩))), (5, (osv ob10 0 r6.2.1.length cap10)), (8, (osv ob12 0 last10.length cap12)), (10, (osv (some b13) 0 x17.length m11)), (16, (osv ob18 0 ln15 cap18)), (131, (zI (l10.length : Int))), (132, (zI x36))] u ∧ vL w w' [some b10, ob8, ob10, ob12, some b13, ob18] [zab [(osv ob8 0 r6.1.length cap9)], zab ([] ++ (cs12 ++ sp10)), zab ([] ++ (cs11 ++ sp11)), zab ([] ++ (cs21 ++ sp13)), zab ([] ++ (cs22 ++ [])), zab ([] ++ (cs38 ++ sp19))] ∧ Keep w.heap.size [some b10, ob8, ob10, ob12, some b13] w84 [some b10, ob8, ob10, ob12, some b13, ob18] w' ∧ Els rI (vH w None [some b10, ob8, ob10, ob12, some b13, ob18] w') cs38 hard11 ∧ ln15 = List.length hard11 ∧ (cs38 ++ sp19).length = cap18 * rI.sz ∧ True) ⟨none, 0, [], [], (List.length ([] : (List Int))), _, (zdx ⟨rfl, rfl, rfl, rfl, rfl, rfl, rfl, trivial⟩), hL58, (zam K47 K48), f46, rfl, (show ([] ++ [] : List Value).length = 0 * rI.sz by simp), trivial⟩ ?_
  rintro ⟨hard11, x36⟩ oo _ w85 ⟨ob18, cap18, sp19, cs38, ln15, u, rfl, hL59, K49, hE94, rfl, hc47, -⟩ h hd15
  rw [tSolve_b6] at h
  refine zan (zaf rfl (zag (zck (x := x36) (y := (l10.length : Int)) ((x36 : Int) < (l10.length : Int)) rfl rfl zbk ?_)))
  refine zas (zan ?_)
  refine zbm ((x36 : Int) < (l10.length : Int)) rfl (fun hc48 => ?_) (fun hc48 => ?_)
  ·
   replace h := ite_t hc48 h
   refine zbl (zan (zbb (zan (zaf rfl (zag (zae (v := (zI x36)) rfl ?_))))))
   refine zag (zal (v := (zI x36)) rfl ?_)
   refine zas (zan (zaf rfl (zag (zae (v := (osv (some b13) 0 x17.length m11)) rfl ?_))))
   refine zag (zae (v := (zI x36)) rfl ?_)
   obtain ⟨x37, n28, q139, q140, q141, h⟩ := zix h
   refine zag (zbd (r := rBool) (b := b13) (o := 0) (n := n28) (m := x17.length) (xs := removed10) (q := (0 + n28 * rBool.sz)) zci ti4 rfl hl31 rfl q139 q141 rfl ?_)
   have f47 := (hE93.mono (K49 None))
   obtain ⟨vs21, q142, q143, q144⟩ := zee (pre := []) (sp := []) f47 q140
   obtain rfl := q143
   refine zag (zbx (v := (zac x37)) zdm rfl rfl (hL59.at 4 rfl rfl) q144 ?_)
   refine zag (zdq (x := x37) rfl (zas ?_))
   refine zch (!x37) rfl (fun hc49 => ?_) (fun hc49 => ?_)
   ·
    replace h := ite_t hc49 h
    refine zaf rfl (zag (zae (v := (osv ob18 0 hard11.length cap18)) rfl ?_))
    refine zag (zae (v := (zI x36)) rfl ?_)
    have hE95 : Els rI (vH w None [some b10, ob8, ob10, ob12, some b13, ob18] w85) [(zI x36)] [x36] := (zcp (a := [(zI x36)]) rfl zcq)
    refine zag (zct (r := rI) (vs := [(zI x36)]) (css := [[(zI x36)]]) (xs := [x36]) zao ti3 (zai rfl) rfl rfl ⟨rfl, rfl, trivial⟩ (zai rfl) hE95 rfl hL59 ?_)
    intro b19 w86 hc50 hL60 hS20
    have K50 := ks w hS20
    obtain ⟨x38, q145, h⟩ := zdt h
    obtain ⟨q146, q147, q148⟩ := zek q145
    have f48 := (hE95.mono (K50 None))
    have f49 := (hE94.mono (K50 None))
    refine zag (zcw (r := rI) (H := (vH w None [some b19, some b10, ob8, ob10, ob12, some b13, ob18] w86)) (cs := cs38) (sp := sp19) (xs := hard11) (ys := [x36]) (Y := x38) (n := hard11.length) (cap := cap18) (i := 6) zao ti3 rfl rfl rfl rfl hL60 rfl rfl f49 rfl hc47 (Src.row (pre := []) (o := 0) (n := 1) (cap := 1) (hL60.at 0 rfl rfl) f48 rfl rfl rfl) (zcg (fun _ _ _ _ h => h) f48) q146 q147 q148 ?_)
    intro ob19 cap19 sp20 cs39 w87 hE96 hc51 (hL61 : vL w w87 [some b19, some b10, ob8, ob10, ob12, some b13, ob19] [zab ([] ++ ([(zI x36)] ++ [])), zab [(osv ob8 0 r6.1.length cap9)], zab ([] ++ (cs12 ++ sp10)), zab ([] ++ (cs11 ++ sp11)), zab ([] ++ (cs21 ++ sp13)), zab ([] ++ (cs22 ++ [])), zab ([] ++ (cs39 ++ sp20))]) hS21
    have K51 := ks w hS21
    refine zag (zal (v := (osv ob19 0 x38.length cap19)) rfl ?_)
    refine zas (zbh (zaf rfl (zag (zce (x := x36) (y := 1) (z := (iw (x36 + 1))) rfl rfl rfl ?_))))
    refine zag (zae (v := (zI (iw (x36 + 1)))) rfl (zas ?_))
    have hp23 := hL61.pick [1, 2, 3, 4, 5, 6] rfl rfl rfl
    have hL62 : vL w w87 [some b10, ob8, ob10, ob12, some b13, ob19] [zab [(osv ob8 0 r6.1.length cap9)], zab ([] ++ (cs12 ++ sp10)), zab ([] ++ (cs11 ++ sp11)), zab ([] ++ (cs21 ++ sp13)), zab ([] ++ (cs22 ++ [])), zab ([] ++ (cs39 ++ sp20))] := hp23.1
    have K52 := ks w hp23.2
    have f50 := ((hE96.mono (K51 None)).mono (K52 None))
    obtain rfl := zad h
    refine zat ⟨(x38, (iw (x36 + 1))), rfl, ?_⟩
    exact ⟨ob19, cap19, sp20, cs39, x38.length, _, (zdx ⟨rfl, rfl, rfl, rfl, rfl, rfl, rfl, trivial⟩), hL62, (zam (zam (zam K49 K50) K51) K52), f50, rfl, hc51, trivial⟩
   replace h := ite_f hc49 h
   refine zbl (zbh (zaf rfl (zag (zce (x := x36) (y := 1) (z := (iw (x36 + 1))) rfl rfl rfl ?_))))
   refine zag (zae (v := (zI (iw (x36 + 1)))) rfl (zas ?_))
   obtain rfl := zad h
   refine zat ⟨(hard11, (iw (x36 + 1))), rfl, ?_⟩
   exact ⟨ob18, cap18, sp19, cs38, hard11.length, _, (zdx ⟨rfl, rfl, rfl, rfl, rfl, rfl, rfl, trivial⟩), hL59, K49, hE94, rfl, hc47, trivial⟩
  replace h := ite_f hc48 h
  refine zcf rfl ?_
  have hp24 := hL59.pick [0, 1, 2, 3, 5] rfl rfl rfl
  have hL63 : vL w w85 [some b10, ob8, ob10, ob12, ob18] [zab [(osv ob8 0 r6.1.length cap9)], zab ([] ++ (cs12 ++ sp10)), zab ([] ++ (cs11 ++ sp11)), zab ([] ++ (cs21 ++ sp13)), zab ([] ++ (cs38 ++ sp19))] := hp24.1
  have K53 := ks w hp24.2
  have f51 := (hE94.mono (K53 None))
  obtain rfl := zad h
  obtain rfl := hd15 _ rfl
  replace h := g16
  try dsimp only at h
  refine zat ?_
  exact ⟨hard11, ob18, cap18, sp19, cs38, hard11.length, _, rfl, (zdx ⟨rfl, rfl, rfl, rfl, trivial⟩), hL63, (zam K49 K53), f51, rfl, hc47, trivial⟩
 rintro _ w88 ⟨hard10, ob17, cap17, sp18, cs37, ln14, u, rfl, rfl, hL64, K54, hE97, rfl, hc52, -⟩
 replace h := g16
 try dsimp only at h
 refine zan (zaf rfl (zag (zae (v := (osv ob17 0 hard10.length cap17)) rfl ?_)))
 refine zag (OpY.makeFunc (vs := [(zak (some ⟨b10, 0, none⟩))]) rfl ?_)
 obtain ⟨r11, q149, h⟩ := zdt h
 have hL65 := hL64.lendW [4] rfl rfl rfl
 have f52 := (f45.mono (K54 None))
 refine zag (zdo en33 rfl rfl (sortStable_w N hard10 (fun y10 y11 => tSolve1 N y10 y11 l10) ob17 cap17 cs37 sp18 (Value.func (.func 34) #[] #[(zak (some ⟨b10, 0, none⟩))]) [ob17] _ Any hL65 (hE97.mono (zcn [4] rfl)) hc52 (fun w9 hE9 y12 y13 z9 hz9 => ⟨34, [(zak (some ⟨b10, 0, none⟩))], rfl, en34, (tSolve1_w N y12 y13 l10 b10 (osv ob8 0 r6.1.length cap9) _ Any (own_any (own_xte hL64 0 [4] rfl rfl rfl rfl hE9)) ((zei (pre := []) (o := 0) (n := r6.1.length) (cap := cap9) hL64 1 [4] rfl rfl rfl rfl f52 (zcn [4] rfl) rfl rfl hl13 hc18).mono (any_xte hE9)) z9 hz9)⟩) r11 q149) ?_)
 rintro _ w89 ⟨cs40, sp21, rfl, hL66, K55, hl33, hE98, hc53, -⟩
 refine ⟨_, rfl, ?_⟩
 have hp25 := hL64.backW [4] [0, 1, 2, 3] rfl rfl rfl rfl hL66
 have hL67 : vL w w89 [ob17, some b10, ob8, ob10, ob12] [zab ([] ++ (cs40 ++ sp21)), zab [(osv ob8 0 r6.1.length cap9)], zab ([] ++ (cs12 ++ sp10)), zab ([] ++ (cs11 ++ sp11)), zab ([] ++ (cs21 ++ sp13))] := (by have h9 := hp25.1; (try rw [← hl33] at h9); exact h9)
 have K56 := ks w hp25.2
 have hE99 : Els rI (vH w None [ob17, some b10, ob8, ob10, ob12] w89) cs40 r11 := zcg (fun _ _ _ _ h => h) hE98
 refine zas (zan (zaf rfl (zag (zae (v := (osv ob12 0 last10.length cap12)) rfl ?_))))
 obtain ⟨r12, q150, h⟩ := zdt h
 have hL68 := hL67.lendW [4] rfl rfl rfl
 have f53 := ((hE92.mono (K54 None)).mono (K56 None))
 refine zag (zdo en35 rfl rfl (revInt_w N last10 ob12 cap12 cs21 sp13 [ob12] _ Any hL68 (f53.mono (zcn [4] rfl)) hc45 r12 q150) ?_)
 rintro _ w90 ⟨cs41, sp22, rfl, hL69, K57, hl34, hE100, hc54, -⟩
 refine ⟨_, rfl, ?_⟩
 have hp26 := hL67.backW [4] [0, 1, 2, 3] rfl rfl rfl rfl hL69
 have hL70 : vL w w90 [ob12, ob17, some b10, ob8, ob10] [zab ([] ++ (cs41 ++ sp22)), zab ([] ++ (cs40 ++ sp21)), zab [(osv ob8 0 r6.1.length cap9)], zab ([] ++ (cs12 ++ sp10)), zab ([] ++ (cs11 ++ sp11))] := (by have h9 := hp26.1; (try rw [← hl34] at h9); exact h9)
 have K58 := ks w hp26.2
 have hE101 : Els rI (vH w None [ob12, ob17, some b10, ob8, ob10] w90) cs41 r12 := zcg (fun _ _ _ _ h => h) hE100
 refine zas (zan ?_)
 obtain ⟨s17, h, g17⟩ := zdt h
 refine zbu (fun e w' => ∃ (chosen10 : (List (List UInt8))) (al10 : Bool) (is10 : Bool) (ob20 : Option Nat) (cap20 : Nat) (sp23 : List Value) (cs42 : List Value) (ln16 : Nat) (u : Env), (chosen10, al10, is10) = s17 ∧ e = upds [(5, (osv ob10 0 r6.2.1.length cap10)), (18, (bif al10 then (osv ob20 0 ln16 cap20) else zar none 0 0)), (19, (zac is10))] u ∧ vL w w' [ob10, ob20] [zab ([] ++ (cs11 ++ sp11)), zab ([] ++ (cs42 ++ sp23))] ∧ Keep w.heap.size [ob12, ob17, some b10, ob8, ob10] w90 [ob10, ob20] w' ∧ Els rStr (vH w None [ob10, ob20] w') cs42 chosen10 ∧ ln16 = List.length chosen10 ∧ (cs42 ++ sp23).length = cap20 * rStr.sz ∧ True) ?_ ?_
 ·
  obtain ⟨x39, q151, h⟩ := zdt h
  obtain ⟨q152, q153, q154⟩ := zek q151
  obtain ⟨x40, q155, h⟩ := zdt h
  obtain ⟨m12, q156, q157, q158, q159⟩ := mk1_some q155
  obtain ⟨x41, q160, h⟩ := zdt h
  obtain ⟨m13, q161, q162, q163, q164⟩ := mk1_some q160
  refine Swp.drawF (O := [ob12, ob17, some b10, ob8, ob10]) [3, 6, 9, 10] [0, 1, 2, 4, 5, 7, 8, 11, 12, 13, 14, 15] [0, 1, 2, 4, 5, 7, 8] [] [(151, (osv ob8 0 r6.1.length cap9)), (152, (osv ob17 0 hard10.length cap17)), (153, (osv ob12 0 last10.length cap12)), (155, (osv ob8 0 r6.1.length cap9)), (156, (zI (l10.length : Int))), (158, (osv ob8 0 r6.1.length cap9)), (159, (zI (l10.length : Int)))] (fun f v O w' => Rs rI (vH w None O w') v []) w.heap.size mixed rfl rfl rfl rfl (fun b hb => hL70.own.lt b hb) hL70.size (fun _ _ _ _ _ _ h hs => h.mono (hs _)) FloatP.nil ?_
  intro w91 hE102
  obtain ⟨hL71, K59⟩ := zl hL70 hE102
  refine ⟨?_, ?_⟩
  ·
   intro w92 hE103
   obtain ⟨hL72, K60⟩ := zl hL71 hE103
   refine zaj (i := 0) rfl rfl (zaq (zav (v := (osv ob8 0 r6.1.length cap9)) zap rfl rfl (hL72.at 2 rfl rfl) rfl zrr)) ?_
   refine zaj (i := 1) rfl rfl (zaq (zae (v := (osv ob17 0 hard10.length cap17)) rfl zrr)) ?_
   refine zaj (i := 2) rfl rfl (zaq (zae (v := (osv ob12 0 last10.length cap12)) rfl zrr)) ?_
   refine zaj (i := 4) rfl rfl (zaq (zav (v := (osv ob8 0 r6.1.length cap9)) zap rfl rfl (hL72.at 2 rfl rfl) rfl zrr)) ?_
   refine zaj (i := 5) rfl rfl (zaq (zcj (pre := []) (r := rTClass) (xs := l10) zap rfl (hL72.at 3 rfl rfl) ((((f52.mono (K56 None)).mono (K58 None)).mono (K59 None)).mono (K60 None)) rfl hl13 zrr)) ?_
   refine zaj (i := 7) rfl rfl (zaq (zav (v := (osv ob8 0 r6.1.length cap9)) zap rfl rfl (hL72.at 2 rfl rfl) rfl zrr)) ?_
   refine zaj (i := 8) rfl rfl (zaq (zcj (pre := []) (r := rTClass) (xs := l10) zap rfl (hL72.at 3 rfl rfl) ((((f52.mono (K56 None)).mono (K58 None)).mono (K59 None)).mono (K60 None)) rfl hl13 zrr)) ?_
   exact zby
  refine zdd (m := 3) [3, 6, 9] rfl rfl (fun q hq => ?_)
  rcases List.mem_cons.1 hq with rfl | hq
  ·
   refine zdk rfl ?_
   intro w93 V10 hE104 hp27
   obtain ⟨hL73, K61⟩ := zl hL71 hE104
   have f54 := ((hE101.mono (K59 None)).mono (K61 None))
   have f55 := (((hE99.mono (K58 None)).mono (K59 None)).mono (K61 None))
   refine zcw (r := rI) (H := (vH w None [ob12, ob17, some b10, ob8, ob10] w93)) (cs := cs40) (sp := sp21) (xs := r11) (ys := r12) (Y := x39) (n := hard10.length) (cap := cap17) (i := 1) zao ti3 rfl rfl rfl rfl hL73 rfl rfl f55 hl33 hc53 (Src.row (pre := []) (o := 0) (n := last10.length) (cap := cap12) (hL73.at 0 rfl rfl) f54 rfl rfl hl34) (zcg (fun _ _ _ _ h => h) f54) q152 q153 q154 ?_
   intro ob21 cap21 sp24 cs43 w94 hE105 hc55 (hL74 : vL w w94 [ob12, ob21, some b10, ob8, ob10] [zab ([] ++ (cs41 ++ sp22)), zab ([] ++ (cs43 ++ sp24)), zab [(osv ob8 0 r6.1.length cap9)], zab ([] ++ (cs12 ++ sp10)), zab ([] ++ (cs11 ++ sp11))]) hS22
   have K62 := ks w hS22
   refine ⟨_, [], [], K62, (fun b hb => hL74.own.lt b hb), hL74.size, rfl, rfl, ?_⟩
   refine ⟨?_, ?_⟩
   ·
    intro w95 hE106
    obtain ⟨hL75, K63⟩ := zl hL74 hE106
    refine zaj (i := 0) rfl rfl (zaq (zav (v := (osv ob8 0 r6.1.length cap9)) zap rfl rfl (hL75.at 2 rfl rfl) rfl zrr)) ?_
    refine zaj (i := 4) rfl rfl (zaq (zav (v := (osv ob8 0 r6.1.length cap9)) zap rfl rfl (hL75.at 2 rfl rfl) rfl zrr)) ?_
    refine zaj (i := 5) rfl rfl (zaq (zcj (pre := []) (r := rTClass) (xs := l10) zap rfl (hL75.at 3 rfl rfl) ((((((f52.mono (K56 None)).mono (K58 None)).mono (K59 None)).mono (K61 None)).mono (K62 None)).mono (K63 None)) rfl hl13 zrr)) ?_
    refine zaj (i := 7) rfl rfl (zaq (zav (v := (osv ob8 0 r6.1.length cap9)) zap rfl rfl (hL75.at 2 rfl rfl) rfl zrr)) ?_
    refine zaj (i := 8) rfl rfl (zaq (zcj (pre := []) (r := rTClass) (xs := l10) zap rfl (hL75.at 3 rfl rfl) ((((((f52.mono (K56 None)).mono (K58 None)).mono (K59 None)).mono (K61 None)).mono (K62 None)).mono (K63 None)) rfl hl13 zrr)) ?_
    exact zby
   refine zdd (m := 2) [6, 9] rfl rfl (fun q hq => ?_)
   rcases List.mem_cons.1 hq with rfl | hq
   ·
    refine zdk rfl ?_
    intro w96 V11 hE107 hp28
    obtain ⟨hL76, K64⟩ := zl hL74 hE107
    refine zdi (r := rStr) (H := (vH w None [ob12, ob21, some b10, ob8, ob10] w96)) (zc := [(zah ⟨#[]⟩)]) (x := []) zax ti9 rfl rfl rfl rfl q156 q157 q158 q159 hL76 ?_
    intro b20 w97 cs44 hE108 hc56 hL77 hS23
    have K65 := ks w hS23
    refine ⟨_, [], [], K65, (fun b hb => hL77.own.lt b hb), hL77.size, rfl, rfl, ?_⟩
    refine ⟨?_, ?_⟩
    ·
     intro w98 hE109
     obtain ⟨hL78, K66⟩ := zl hL77 hE109
     refine zaj (i := 0) rfl rfl (zaq (zav (v := (osv ob8 0 r6.1.length cap9)) zap rfl rfl (hL78.at 3 rfl rfl) rfl zrr)) ?_
     refine zaj (i := 4) rfl rfl (zaq (zav (v := (osv ob8 0 r6.1.length cap9)) zap rfl rfl (hL78.at 3 rfl rfl) rfl zrr)) ?_
     refine zaj (i := 7) rfl rfl (zaq (zav (v := (osv ob8 0 r6.1.length cap9)) zap rfl rfl (hL78.at 3 rfl rfl) rfl zrr)) ?_
     refine zaj (i := 8) rfl rfl (zaq (zcj (pre := []) (r := rTClass) (xs := l10) zap rfl (hL78.at 4 rfl rfl) ((((((((f52.mono (K56 None)).mono (K58 None)).mono (K59 None)).mono (K61 None)).mono (K62 None)).mono (K64 None)).mono (K65 None)).mono (K66 None)) rfl hl13 zrr)) ?_
     exact zby
    refine zdd (m := 1) [9] rfl rfl (fun q hq => ?_)
    obtain rfl := List.mem_singleton.1 hq
    refine zdk rfl ?_
    intro w99 V12 hE110 hp29
    obtain ⟨hL79, K67⟩ := zl hL77 hE110
    refine zdi (r := rBool) (H := (vH w None [some b20, ob12, ob21, some b10, ob8, ob10] w99)) (zc := [zF]) (x := false) zci ti4 rfl rfl rfl rfl q161 q162 q163 q164 hL79 ?_
    intro b21 w100 cs45 hE111 hc57 hL80 hS24
    have K68 := ks w hS24
    refine ⟨_, [], [], K68, (fun b hb => hL80.own.lt b hb), hL80.size, rfl, rfl, ?_⟩
    refine ⟨?_, ?_⟩
    ·
     intro w101 hE112
     obtain ⟨hL81, K69⟩ := zl hL80 hE112
     refine zaj (i := 0) rfl rfl (zaq (zav (v := (osv ob8 0 r6.1.length cap9)) zap rfl rfl (hL81.at 4 rfl rfl) rfl zrr)) ?_
     refine zaj (i := 4) rfl rfl (zaq (zav (v := (osv ob8 0 r6.1.length cap9)) zap rfl rfl (hL81.at 4 rfl rfl) rfl zrr)) ?_
     refine zaj (i := 7) rfl rfl (zaq (zav (v := (osv ob8 0 r6.1.length cap9)) zap rfl rfl (hL81.at 4 rfl rfl) rfl zrr)) ?_
     exact zby
    refine zdd (m := 0) [10] rfl rfl (fun q hq => ?_)
    obtain rfl := List.mem_singleton.1 hq
    refine zdk rfl ?_
    intro w102 V13 hE113 hp30
    obtain ⟨hL82, K70⟩ := zl hL80 hE113
    obtain ⟨r13, q165, h⟩ := zdt h
    have hL83 := hL82.lendW [1, 0] rfl rfl rfl
    have f56 := ((((((((((f52.mono (K56 None)).mono (K58 None)).mono (K59 None)).mono (K61 None)).mono (K62 None)).mono (K64 None)).mono (K65 None)).mono (K67 None)).mono (K68 None)).mono (K70 None))
    have f57 := ((((((hE105.mono (K62 None)).mono (K64 None)).mono (K65 None)).mono (K67 None)).mono (K68 None)).mono (K70 None))
    have f58 := ((((hE108.mono (K65 None)).mono (K67 None)).mono (K68 None)).mono (K70 None))
    have f59 := ((hE111.mono (K68 None)).mono (K70 None))
    refine zdo en36 rfl rfl (tchoose_w N l10 x39 x40 x41 (osv ob8 0 r6.1.length cap9) (osv ob21 0 x39.length cap21) (some b20) m12 cs44 [] (some b21) m13 cs45 [] [some b20, some b21] _ Any hL83 (zei (pre := []) (o := 0) (n := r6.1.length) (cap := cap9) hL82 5 [1, 0] rfl rfl rfl rfl f56 (zcn [1, 0] rfl) rfl rfl hl13 hc18) (zei (pre := []) (o := 0) (n := x39.length) (cap := cap21) hL82 3 [1, 0] rfl rfl rfl rfl f57 (zcn [1, 0] rfl) rfl rfl rfl hc55) (f58.mono (zcn [1, 0] rfl)) hc56 (f59.mono (zcn [1, 0] rfl)) hc57 r13 q165) ?_
    rintro _ w103 ⟨cs46, sp25, cs47, sp26, rfl, hL84, K71, hl35, hE114, hc58, hl36, hE115, hc59, -⟩
    refine ⟨_, rfl, ?_⟩
    have hp31 := hL82.backW [1, 0] [2, 3, 4, 5, 6] rfl rfl rfl rfl hL84
    have hL85 : vL w w103 [some b20, some b21, ob12, ob21, some b10, ob8, ob10] [zab ([] ++ (cs46 ++ sp25)), zab ([] ++ (cs47 ++ sp26)), zab ([] ++ (cs41 ++ sp22)), zab ([] ++ (cs43 ++ sp24)), zab [(osv ob8 0 r6.1.length cap9)], zab ([] ++ (cs12 ++ sp10)), zab ([] ++ (cs11 ++ sp11))] := (by have h9 := hp31.1; (try rw [← hl35] at h9); (try rw [← hl36] at h9); exact h9)
    have K72 := ks w hp31.2
    have hE116 : Els rStr (vH w None [some b20, some b21, ob12, ob21, some b10, ob8, ob10] w103) cs46 r13.2.2.1 := zcg (fun _ _ _ _ h => h) hE114
    have hE117 : Els rBool (vH w None [some b20, some b21, ob12, ob21, some b10, ob8, ob10] w103) cs47 r13.2.2.2 := zcg (fun _ _ _ _ h => h) hE115
    refine ⟨_, [11, 12, 13, 14, 15], [(150, (Value.tuple #[(bif r13.1 then (osv (some b20) 0 x40.length m12) else zar none 0 0), (zac r13.2.1)])), (162, (bif r13.1 then (osv (some b20) 0 x40.length m12) else zar none 0 0)), (163, (zac r13.2.1)), (18, (bif r13.1 then (osv (some b20) 0 x40.length m12) else zar none 0 0)), (19, (zac r13.2.1))], K72, (fun b hb => hL85.own.lt b hb), hL85.size, rfl, rfl, ?_⟩
    refine ⟨?_, ?_⟩
    ·
     intro w104 hE118
     obtain ⟨hL86, K73⟩ := zl hL85 hE118
     refine zaj (i := 4) rfl rfl (zaq (zav (v := (osv ob8 0 r6.1.length cap9)) zap rfl rfl (hL86.at 4 rfl rfl) rfl zrr)) ?_
     refine zaj (i := 7) rfl rfl (zaq (zav (v := (osv ob8 0 r6.1.length cap9)) zap rfl rfl (hL86.at 4 rfl rfl) rfl zrr)) ?_
     refine zaj (i := 11) rfl rfl (zaq (zae (v := (Value.tuple #[(bif r13.1 then (osv (some b20) 0 x40.length m12) else zar none 0 0), (zac r13.2.1)])) rfl zrr)) ?_
     refine zaj (i := 12) rfl rfl (zaq (zcl (vs := [(bif r13.1 then (osv (some b20) 0 x40.length m12) else zar none 0 0), (zac r13.2.1)]) (v := (bif r13.1 then (osv (some b20) 0 x40.length m12) else zar none 0 0)) rfl rfl zrr)) ?_
     refine zaj (i := 13) rfl rfl (zaq (zcl (vs := [(bif r13.1 then (osv (some b20) 0 x40.length m12) else zar none 0 0), (zac r13.2.1)]) (v := (zac r13.2.1)) rfl rfl zrr)) ?_
     refine zaj (i := 14) rfl rfl (zaq (zal (v := (bif r13.1 then (osv (some b20) 0 x40.length m12) else zar none 0 0)) rfl zrr)) ?_
     refine zaj (i := 15) rfl rfl (zaq (zal (v := (zac r13.2.1)) rfl zrr)) ?_
     exact zby
    refine RlF.fin ?_
    intro w105 V14 hE119
    obtain ⟨hL87, K74⟩ := zl hL85 hE119
    have hp32 := hL87.pick [6, 0] rfl rfl rfl
    have hL88 : vL w w105 [ob10, some b20] [zab ([] ++ (cs11 ++ sp11)), zab ([] ++ (cs46 ++ sp25))] := hp32.1
    have K75 := ks w hp32.2
    have f60 := ((hE116.mono (K74 None)).mono (K75 None))
    obtain rfl := zad h
    refine zat ?_
    exact ⟨r13.2.2.1, r13.1, r13.2.1, some b20, m12, sp25, cs46, x40.length, _, rfl, (zdx ⟨rfl, rfl, rfl, trivial⟩), hL88, (zam (zam (zam (zam (zam (zam (zam (zam (zam (zam K59 K61) K62) K64) K65) K67) K68) K70) K72) K74) K75), f60, hl35, hc58, trivial⟩
   obtain rfl := List.mem_singleton.1 hq
   refine zdk rfl ?_
   intro w96 V11 hE107 hp28
   obtain ⟨hL76, K64⟩ := zl hL74 hE107
   refine zdi (r := rBool) (H := (vH w None [ob12, ob21, some b10, ob8, ob10] w96)) (zc := [zF]) (x := false) zci ti4 rfl rfl rfl rfl q161 q162 q163 q164 hL76 ?_
   intro b21 w97 cs45 hE111 hc57 hL77 hS23
   have K65 := ks w hS23
   refine ⟨_, [], [], K65, (fun b hb => hL77.own.lt b hb), hL77.size, rfl, rfl, ?_⟩
   refine ⟨?_, ?_⟩
   ·
    intro w98 hE109
    obtain ⟨hL78, K66⟩ := zl hL77 hE109
    refine zaj (i := 0) rfl rfl (zaq (zav (v := (osv ob8 0 r6.1.length cap9)) zap rfl rfl (hL78.at 3 rfl rfl) rfl zrr)) ?_
    refine zaj (i := 4) rfl rfl (zaq (zav (v := (osv ob8 0 r6.1.length cap9)) zap rfl rfl (hL78.at 3 rfl rfl) rfl zrr)) ?_
    refine zaj (i := 5) rfl rfl (zaq (zcj (pre := []) (r := rTClass) (xs := l10) zap rfl (hL78.at 4 rfl rfl) ((((((((f52.mono (K56 None)).mono (K58 None)).mono (K59 None)).mono (K61 None)).mono (K62 None)).mono (K64 None)).mono (K65 None)).mono (K66 None)) rfl hl13 zrr)) ?_
    refine zaj (i := 7) rfl rfl (zaq (zav (v := (osv ob8 0 r6.1.length cap9)) zap rfl rfl (hL78.at 3 rfl rfl) rfl zrr)) ?_
    exact zby
   refine zdd (m := 1) [6] rfl rfl (fun q hq => ?_)
   obtain rfl := List.mem_singleton.1 hq
   refine zdk rfl ?_
   intro w99 V12 hE110 hp29
   obtain ⟨hL79, K67⟩ := zl hL77 hE110
   refine zdi (r := rStr) (H := (vH w None [some b21, ob12, ob21, some b10, ob8, ob10] w99)) (zc := [(zah ⟨#[]⟩)]) (x := []) zax ti9 rfl rfl rfl rfl q156 q157 q158 q159 hL79 ?_
   intro b20 w100 cs44 hE108 hc56 hL80 hS24
   have K68 := ks w hS24
   refine ⟨_, [], [], K68, (fun b hb => hL80.own.lt b hb), hL80.size, rfl, rfl, ?_⟩
   refine ⟨?_, ?_⟩
   ·
    intro w101 hE112
    obtain ⟨hL81, K69⟩ := zl hL80 hE112
    refine zaj (i := 0) rfl rfl (zaq (zav (v := (osv ob8 0 r6.1.length cap9)) zap rfl rfl (hL81.at 4 rfl rfl) rfl zrr)) ?_
    refine zaj (i := 4) rfl rfl (zaq (zav (v := (osv ob8 0 r6.1.length cap9)) zap rfl rfl (hL81.at 4 rfl rfl) rfl zrr)) ?_
    refine zaj (i := 7) rfl rfl (zaq (zav (v := (osv ob8 0 r6.1.length cap9)) zap rfl rfl (hL81.at 4 rfl rfl) rfl zrr)) ?_
    exact zby
   refine zdd (m := 0) [10] rfl rfl (fun q hq => ?_)
   obtain rfl := List.mem_singleton.1 hq
   refine zdk rfl ?_
   intro w102 V13 hE113 hp30
   obtain ⟨hL82, K70⟩ := zl hL80 hE113
   obtain ⟨r13, q165, h⟩ := zdt h
   have hL83 := hL82.lendW [0, 1] rfl rfl rfl
   have f56 := ((((((((((f52.mono (K56 None)).mono (K58 None)).mono (K59 None)).mono (K61 None)).mono (K62 None)).mono (K64 None)).mono (K65 None)).mono (K67 None)).mono (K68 None)).mono (K70 None))
   have f57 := ((((((hE105.mono (K62 None)).mono (K64 None)).mono (K65 None)).mono (K67 None)).mono (K68 None)).mono (K70 None))
   have f58 := ((hE108.mono (K68 None)).mono (K70 None))
   have f59 := ((((hE111.mono (K65 None)).mono (K67 None)).mono (K68 None)).mono (K70 None))
   refine zdo en36 rfl rfl (tchoose_w N l10 x39 x40 x41 (osv ob8 0 r6.1.length cap9) (osv ob21 0 x39.length cap21) (some b20) m12 cs44 [] (some b21) m13 cs45 [] [some b20, some b21] _ Any hL83 (zei (pre := []) (o := 0) (n := r6.1.length) (cap := cap9) hL82 5 [0, 1] rfl rfl rfl rfl f56 (zcn [0, 1] rfl) rfl rfl hl13 hc18) (zei (pre := []) (o := 0) (n := x39.length) (cap := cap21) hL82 3 [0, 1] rfl rfl rfl rfl f57 (zcn [0, 1] rfl) rfl rfl rfl hc55) (f58.mono (zcn [0, 1] rfl)) hc56 (f59.mono (zcn [0, 1] rfl)) hc57 r13 q165) ?_
   rintro _ w103 ⟨cs46, sp25, cs47, sp26, rfl, hL84, K71, hl35, hE114, hc58, hl36, hE115, hc59, -⟩
   refine ⟨_, rfl, ?_⟩
   have hp31 := hL82.backW [0, 1] [2, 3, 4, 5, 6] rfl rfl rfl rfl hL84
   have hL85 : vL w w103 [some b20, some b21, ob12, ob21, some b10, ob8, ob10] [zab ([] ++ (cs46 ++ sp25)), zab ([] ++ (cs47 ++ sp26)), zab ([] ++ (cs41 ++ sp22)), zab ([] ++ (cs43 ++ sp24)), zab [(osv ob8 0 r6.1.length cap9)], zab ([] ++ (cs12 ++ sp10)), zab ([] ++ (cs11 ++ sp11))] := (by have h9 := hp31.1; (try rw [← hl35] at h9); (try rw [← hl36] at h9); exact h9)
   have K72 := ks w hp31.2
   have hE116 : Els rStr (vH w None [some b20, some b21, ob12, ob21, some b10, ob8, ob10] w103) cs46 r13.2.2.1 := zcg (fun _ _ _ _ h => h) hE114
   have hE117 : Els rBool (vH w None [some b20, some b21, ob12, ob21, some b10, ob8, ob10] w103) cs47 r13.2.2.2 := zcg (fun _ _ _ _ h => h) hE115
   refine ⟨_, [11, 12, 13, 14, 15], [(150, (Value.tuple #[(bif r13.1 then (osv (some b20) 0 x40.length m12) else zar none 0 0), (zac r13.2.1)])), (162, (bif r13.1 then (osv (some b20) 0 x40.length m12) else zar none 0 0)), (163, (zac r13.2.1)), (18, (bif r13.1 then (osv (some b20) 0 x40.length m12) else zar none 0 0)), (19, (zac r13.2.1))], K72, (fun b hb => hL85.own.lt b hb), hL85.size, rfl, rfl, ?_⟩
   refine ⟨?_, ?_⟩
   ·
    intro w104 hE118
    obtain ⟨hL86, K73⟩ := zl hL85 hE118
    refine zaj (i := 4) rfl rfl (zaq (zav (v := (osv ob8 0 r6.1.length cap9)) zap rfl rfl (hL86.at 4 rfl rfl) rfl zrr)) ?_
    refine zaj (i := 7) rfl rfl (zaq (zav (v := (osv ob8 0 r6.1.length cap9)) zap rfl rfl (hL86.at 4 rfl rfl) rfl zrr)) ?_
    refine zaj (i := 11) rfl rfl (zaq (zae (v := (Value.tuple #[(bif r13.1 then (osv (some b20) 0 x40.length m12) else zar none 0 0), (zac r13.2.1)])) rfl zrr)) ?_
    refine zaj (i := 12) rfl rfl (zaq (zcl (vs := [(bif r13.1 then (osv (some b20) 0 x40.length m12) else zar none 0 0), (zac r13.2.1)]) (v := (bif r13.1 then (osv (some b20) 0 x40.length m12) else zar none 0 0)) rfl rfl zrr)) ?_
    refine zaj (i := 13) rfl rfl (zaq (zcl (vs := [(bif r13.1 then (osv (some b20) 0 x40.length m12) else zar none 0 0), (zac r13.2.1)]) (v := (zac r13.2.1)) rfl rfl zrr)) ?_
    refine zaj (i := 14) rfl rfl (zaq (zal (v := (bif r13.1 then (osv (some b20) 0 x40.length m12) else zar none 0 0)) rfl zrr)) ?_
    refine zaj (i := 15) rfl rfl (zaq (zal (v := (zac r13.2.1)) rfl zrr)) ?_
    exact zby
   refine RlF.fin ?_
   intro w105 V14 hE119
   obtain ⟨hL87, K74⟩ := zl hL85 hE119
   have hp32 := hL87.pick [6, 0] rfl rfl rfl
   have hL88 : vL w w105 [ob10, some b20] [zab ([] ++ (cs11 ++ sp11)), zab ([] ++ (cs46 ++ sp25))] := hp32.1
   have K75 := ks w hp32.2
   have f60 := ((hE116.mono (K74 None)).mono (K75 None))
   obtain rfl := zad h
   refine zat ?_
   exact ⟨r13.2.2.1, r13.1, r13.2.1, some b20, m12, sp25, cs46, x40.length, _, rfl, (zdx ⟨rfl, rfl, rfl, trivial⟩), hL88, (zam (zam (zam (zam (zam (zam (zam (zam (zam (zam K59 K61) K62) K64) K65) K67) K68) K70) K72) K74) K75), f60, hl35, hc58, trivial⟩
  rcases List.mem_cons.1 hq with rfl | hq
  ·
   refine zdk rfl ?_
   intro w93 V10 hE104 hp27
   obtain ⟨hL73, K61⟩ := zl hL71 hE104
   refine zdi (r := rStr) (H := (vH w None [ob12, ob17, some b10, ob8, ob10] w93)) (zc := [(zah ⟨#[]⟩)]) (x := []) zax ti9 rfl rfl rfl rfl q156 q157 q158 q159 hL73 ?_
   intro b20 w106 cs44 hE108 hc56 hL89 hS25
   have K76 := ks w hS25
   refine ⟨_, [], [], K76, (fun b hb => hL89.own.lt b hb), hL89.size, rfl, rfl, ?_⟩
   refine ⟨?_, ?_⟩
   ·
    intro w107 hE120
    obtain ⟨hL90, K77⟩ := zl hL89 hE120
    refine zaj (i := 0) rfl rfl (zaq (zav (v := (osv ob8 0 r6.1.length cap9)) zap rfl rfl (hL90.at 3 rfl rfl) rfl zrr)) ?_
    refine zaj (i := 1) rfl rfl (zaq (zae (v := (osv ob17 0 hard10.length cap17)) rfl zrr)) ?_
    refine zaj (i := 2) rfl rfl (zaq (zae (v := (osv ob12 0 last10.length cap12)) rfl zrr)) ?_
    refine zaj (i := 4) rfl rfl (zaq (zav (v := (osv ob8 0 r6.1.length cap9)) zap rfl rfl (hL90.at 3 rfl rfl) rfl zrr)) ?_
    refine zaj (i := 7) rfl rfl (zaq (zav (v := (osv ob8 0 r6.1.length cap9)) zap rfl rfl (hL90.at 3 rfl rfl) rfl zrr)) ?_
    refine zaj (i := 8) rfl rfl (zaq (zcj (pre := []) (r := rTClass) (xs := l10) zap rfl (hL90.at 4 rfl rfl) ((((((f52.mono (K56 None)).mono (K58 None)).mono (K59 None)).mono (K61 None)).mono (K76 None)).mono (K77 None)) rfl hl13 zrr)) ?_
    exact zby
   refine zdd (m := 2) [3, 9] rfl rfl (fun q hq => ?_)
   rcases List.mem_cons.1 hq with rfl | hq
   ·
    refine zdk rfl ?_
    intro w108 V15 hE121 hp33
    obtain ⟨hL91, K78⟩ := zl hL89 hE121
    have f61 := ((((hE101.mono (K59 None)).mono (K61 None)).mono (K76 None)).mono (K78 None))
    have f62 := (((((hE99.mono (K58 None)).mono (K59 None)).mono (K61 None)).mono (K76 None)).mono (K78 None))
    refine zcw (r := rI) (H := (vH w None [some b20, ob12, ob17, some b10, ob8, ob10] w108)) (cs := cs40) (sp := sp21) (xs := r11) (ys := r12) (Y := x39) (n := hard10.length) (cap := cap17) (i := 2) zao ti3 rfl rfl rfl rfl hL91 rfl rfl f62 hl33 hc53 (Src.row (pre := []) (o := 0) (n := last10.length) (cap := cap12) (hL91.at 1 rfl rfl) f61 rfl rfl hl34) (zcg (fun _ _ _ _ h => h) f61) q152 q153 q154 ?_
    intro ob21 cap21 sp24 cs43 w97 hE105 hc55 (hL77 : vL w w97 [some b20, ob12, ob21, some b10, ob8, ob10] [zab ([] ++ (cs44 ++ [])), zab ([] ++ (cs41 ++ sp22)), zab ([] ++ (cs43 ++ sp24)), zab [(osv ob8 0 r6.1.length cap9)], zab ([] ++ (cs12 ++ sp10)), zab ([] ++ (cs11 ++ sp11))]) hS23
    have K65 := ks w hS23
    refine ⟨_, [], [], K65, (fun b hb => hL77.own.lt b hb), hL77.size, rfl, rfl, ?_⟩
    refine ⟨?_, ?_⟩
    ·
     intro w98 hE109
     obtain ⟨hL78, K66⟩ := zl hL77 hE109
     refine zaj (i := 0) rfl rfl (zaq (zav (v := (osv ob8 0 r6.1.length cap9)) zap rfl rfl (hL78.at 3 rfl rfl) rfl zrr)) ?_
     refine zaj (i := 4) rfl rfl (zaq (zav (v := (osv ob8 0 r6.1.length cap9)) zap rfl rfl (hL78.at 3 rfl rfl) rfl zrr)) ?_
     refine zaj (i := 7) rfl rfl (zaq (zav (v := (osv ob8 0 r6.1.length cap9)) zap rfl rfl (hL78.at 3 rfl rfl) rfl zrr)) ?_
     refine zaj (i := 8) rfl rfl (zaq (zcj (pre := []) (r := rTClass) (xs := l10) zap rfl (hL78.at 4 rfl rfl) ((((((((f52.mono (K56 None)).mono (K58 None)).mono (K59 None)).mono (K61 None)).mono (K76 None)).mono (K78 None)).mono (K65 None)).mono (K66 None)) rfl hl13 zrr)) ?_
     exact zby
    refine zdd (m := 1) [9] rfl rfl (fun q hq => ?_)
    obtain rfl := List.mem_singleton.1 hq
    refine zdk rfl ?_
    intro w99 V12 hE110 hp29
    obtain ⟨hL79, K67⟩ := zl hL77 hE110
    refine zdi (r := rBool) (H := (vH w None [some b20, ob12, ob21, some b10, ob8, ob10] w99)) (zc := [zF]) (x := false) zci ti4 rfl rfl rfl rfl q161 q162 q163 q164 hL79 ?_
    intro b21 w100 cs45 hE111 hc57 hL80 hS24
    have K68 := ks w hS24
    refine ⟨_, [], [], K68, (fun b hb => hL80.own.lt b hb), hL80.size, rfl, rfl, ?_⟩
    refine ⟨?_, ?_⟩
    ·
     intro w101 hE112
     obtain ⟨hL81, K69⟩ := zl hL80 hE112
     refine zaj (i := 0) rfl rfl (zaq (zav (v := (osv ob8 0 r6.1.length cap9)) zap rfl rfl (hL81.at 4 rfl rfl) rfl zrr)) ?_
     refine zaj (i := 4) rfl rfl (zaq (zav (v := (osv ob8 0 r6.1.length cap9)) zap rfl rfl (hL81.at 4 rfl rfl) rfl zrr)) ?_
     refine zaj (i := 7) rfl rfl (zaq (zav (v := (osv ob8 0 r6.1.length cap9)) zap rfl rfl (hL81.at 4 rfl rfl) rfl zrr)) ?_
     exact zby
    refine zdd (m := 0) [10] rfl rfl (fun q hq => ?_)
    obtain rfl := List.mem_singleton.1 hq
    refine zdk rfl ?_
    intro w102 V13 hE113 hp30
    obtain ⟨hL82, K70⟩ := zl hL80 hE113
    obtain ⟨r13, q165, h⟩ := zdt h
    have hL83 := hL82.lendW [1, 0] rfl rfl rfl
    have f56 := ((((((((((f52.mono (K56 None)).mono (K58 None)).mono (K59 None)).mono (K61 None)).mono (K76 None)).mono (K78 None)).mono (K65 None)).mono (K67 None)).mono (K68 None)).mono (K70 None))
    have f57 := ((((hE105.mono (K65 None)).mono (K67 None)).mono (K68 None)).mono (K70 None))
    have f58 := ((((((hE108.mono (K76 None)).mono (K78 None)).mono (K65 None)).mono (K67 None)).mono (K68 None)).mono (K70 None))
    have f59 := ((hE111.mono (K68 None)).mono (K70 None))
    refine zdo en36 rfl rfl (tchoose_w N l10 x39 x40 x41 (osv ob8 0 r6.1.length cap9) (osv ob21 0 x39.length cap21) (some b20) m12 cs44 [] (some b21) m13 cs45 [] [some b20, some b21] _ Any hL83 (zei (pre := []) (o := 0) (n := r6.1.length) (cap := cap9) hL82 5 [1, 0] rfl rfl rfl rfl f56 (zcn [1, 0] rfl) rfl rfl hl13 hc18) (zei (pre := []) (o := 0) (n := x39.length) (cap := cap21) hL82 3 [1, 0] rfl rfl rfl rfl f57 (zcn [1, 0] rfl) rfl rfl rfl hc55) (f58.mono (zcn [1, 0] rfl)) hc56 (f59.mono (zcn [1, 0] rfl)) hc57 r13 q165) ?_
    rintro _ w103 ⟨cs46, sp25, cs47, sp26, rfl, hL84, K71, hl35, hE114, hc58, hl36, hE115, hc59, -⟩
    refine ⟨_, rfl, ?_⟩
    have hp31 := hL82.backW [1, 0] [2, 3, 4, 5, 6] rfl rfl rfl rfl hL84
    have hL85 : vL w w103 [some b20, some b21, ob12, ob21, some b10, ob8, ob10] [zab ([] ++ (cs46 ++ sp25)), zab ([] ++ (cs47 ++ sp26)), zab ([] ++ (cs41 ++ sp22)), zab ([] ++ (cs43 ++ sp24)), zab [(osv ob8 0 r6.1.length cap9)], zab ([] ++ (cs12 ++ sp10)), zab ([] ++ (cs11 ++ sp11))] := (by have h9 := hp31.1; (try rw [← hl35] at h9); (try rw [← hl36] at h9); exact h9)
    have K72 := ks w hp31.2
    have hE116 : Els rStr (vH w None [some b20, some b21, ob12, ob21, some b10, ob8, ob10] w103) cs46 r13.2.2.1 := zcg (fun _ _ _ _ h => h) hE114
    have hE117 : Els rBool (vH w None [some b20, some b21, ob12, ob21, some b10, ob8, ob10] w103) cs47 r13.2.2.2 := zcg (fun _ _ _ _ h => h) hE115
    refine ⟨_, [11, 12, 13, 14, 15], [(150, (Value.tuple #[(bif r13.1 then (osv (some b20) 0 x40.length m12) else zar none 0 0), (zac r13.2.1)])), (162, (bif r13.1 then (osv (some b20) 0 x40.length m12) else zar none 0 0)), (163, (zac r13.2.1)), (18, (bif r13.1 then (osv (some b20) 0 x40.length m12) else zar none 0 0)), (19, (zac r13.2.1))], K72, (fun b hb => hL85.own.lt b hb), hL85.size, rfl, rfl, ?_⟩
    refine ⟨?_, ?_⟩
    ·
     intro w104 hE118
     obtain ⟨hL86, K73⟩ := zl hL85 hE118
     refine zaj (i := 4) rfl rfl (zaq (zav (v := (osv ob8 0 r6.1.length cap9)) zap rfl rfl (hL86.at 4 rfl rfl) rfl zrr)) ?_
     refine zaj (i := 7) rfl rfl (zaq (zav (v := (osv ob8 0 r6.1.length cap9)) zap rfl rfl (hL86.at 4 rfl rfl) rfl zrr)) ?_
     refine zaj (i := 11) rfl rfl (zaq (zae (v := (Value.tuple #[(bif r13.1 then (osv (some b20) 0 x40.length m12) else zar none 0 0), (zac r13.2.1)])) rfl zrr)) ?_
     refine zaj (i := 12) rfl rfl (zaq (zcl (vs := [(bif r13.1 then (osv (some b20) 0 x40.length m12) else zar none 0 0), (zac r13.2.1)]) (v := (bif r13.1 then (osv (some b20) 0 x40.length m12) else zar none 0 0)) rfl rfl zrr)) ?_
     refine zaj (i := 13) rfl rfl (zaq (zcl (vs := [(bif r13.1 then (osv (some b20) 0 x40.length m12) else zar none 0 0), (zac r13.2.1)]) (v := (zac r13.2.1)) rfl rfl zrr)) ?_
     refine zaj (i := 14) rfl rfl (zaq (zal (v := (bif r13.1 then (osv (some b20) 0 x40.length m12) else zar none 0 0)) rfl zrr)) ?_
     refine zaj (i := 15) rfl rfl (zaq (zal (v := (zac r13.2.1)) rfl zrr)) ?_
     exact zby
    refine RlF.fin ?_
    intro w105 V14 hE119
    obtain ⟨hL87, K74⟩ := zl hL85 hE119
    have hp32 := hL87.pick [6, 0] rfl rfl rfl
    have hL88 : vL w w105 [ob10, some b20] [zab ([] ++ (cs11 ++ sp11)), zab ([] ++ (cs46 ++ sp25))] := hp32.1
    have K75 := ks w hp32.2
    have f60 := ((hE116.mono (K74 None)).mono (K75 None))
    obtain rfl := zad h
    refine zat ?_
    exact ⟨r13.2.2.1, r13.1, r13.2.1, some b20, m12, sp25, cs46, x40.length, _, rfl, (zdx ⟨rfl, rfl, rfl, trivial⟩), hL88, (zam (zam (zam (zam (zam (zam (zam (zam (zam (zam K59 K61) K76) K78) K65) K67) K68) K70) K72) K74) K75), f60, hl35, hc58, trivial⟩
   obtain rfl := List.mem_singleton.1 hq
   refine zdk rfl ?_
   intro w108 V15 hE121 hp33
   obtain ⟨hL91, K78⟩ := zl hL89 hE121
   refine zdi (r := rBool) (H := (vH w None [some b20, ob12, ob17, some b10, ob8, ob10] w108)) (zc := [zF]) (x := false) zci ti4 rfl rfl rfl rfl q161 q162 q163 q164 hL91 ?_
   intro b21 w109 cs45 hE111 hc57 hL92 hS26
   have K79 := ks w hS26
   refine ⟨_, [], [], K79, (fun b hb => hL92.own.lt b hb), hL92.size, rfl, rfl, ?_⟩
   refine ⟨?_, ?_⟩
   ·
    intro w110 hE122
    obtain ⟨hL93, K80⟩ := zl hL92 hE122
    refine zaj (i := 0) rfl rfl (zaq (zav (v := (osv ob8 0 r6.1.length cap9)) zap rfl rfl (hL93.at 4 rfl rfl) rfl zrr)) ?_
    refine zaj (i := 1) rfl rfl (zaq (zae (v := (osv ob17 0 hard10.length cap17)) rfl zrr)) ?_
    refine zaj (i := 2) rfl rfl (zaq (zae (v := (osv ob12 0 last10.length cap12)) rfl zrr)) ?_
    refine zaj (i := 4) rfl rfl (zaq (zav (v := (osv ob8 0 r6.1.length cap9)) zap rfl rfl (hL93.at 4 rfl rfl) rfl zrr)) ?_
    refine zaj (i := 7) rfl rfl (zaq (zav (v := (osv ob8 0 r6.1.length cap9)) zap rfl rfl (hL93.at 4 rfl rfl) rfl zrr)) ?_
    exact zby
   refine zdd (m := 1) [3] rfl rfl (fun q hq => ?_)
   obtain rfl := List.mem_singleton.1 hq
   refine zdk rfl ?_
   intro w111 V16 hE123 hp34
   obtain ⟨hL94, K81⟩ := zl hL92 hE123
   have f63 := ((((((hE101.mono (K59 None)).mono (K61 None)).mono (K76 None)).mono (K78 None)).mono (K79 None)).mono (K81 None))
   have f64 := (((((((hE99.mono (K58 None)).mono (K59 None)).mono (K61 None)).mono (K76 None)).mono (K78 None)).mono (K79 None)).mono (K81 None))
   refine zcw (r := rI) (H := (vH w None [some b21, some b20, ob12, ob17, some b10, ob8, ob10] w111)) (cs := cs40) (sp := sp21) (xs := r11) (ys := r12) (Y := x39) (n := hard10.length) (cap := cap17) (i := 3) zao ti3 rfl rfl rfl rfl hL94 rfl rfl f64 hl33 hc53 (Src.row (pre := []) (o := 0) (n := last10.length) (cap := cap12) (hL94.at 2 rfl rfl) f63 rfl rfl hl34) (zcg (fun _ _ _ _ h => h) f63) q152 q153 q154 ?_
   intro ob21 cap21 sp24 cs43 w100 hE105 hc55 (hL80 : vL w w100 [some b21, some b20, ob12, ob21, some b10, ob8, ob10] [zab ([] ++ (cs45 ++ [])), zab ([] ++ (cs44 ++ [])), zab ([] ++ (cs41 ++ sp22)), zab ([] ++ (cs43 ++ sp24)), zab [(osv ob8 0 r6.1.length cap9)], zab ([] ++ (cs12 ++ sp10)), zab ([] ++ (cs11 ++ sp11))]) hS24
   have K68 := ks w hS24
   refine ⟨_, [], [], K68, (fun b hb => hL80.own.lt b hb), hL80.size, rfl, rfl, ?_⟩
   refine ⟨?_, ?_⟩
   ·
    intro w101 hE112
    obtain ⟨hL81, K69⟩ := zl hL80 hE112
    refine zaj (i := 0) rfl rfl (zaq (zav (v := (osv ob8 0 r6.1.length cap9)) zap rfl rfl (hL81.at 4 rfl rfl) rfl zrr)) ?_
    refine zaj (i := 4) rfl rfl (zaq (zav (v := (osv ob8 0 r6.1.length cap9)) zap rfl rfl (hL81.at 4 rfl rfl) rfl zrr)) ?_
    refine zaj (i := 7) rfl rfl (zaq (zav (v := (osv ob8 0 r6.1.length cap9)) zap rfl rfl (hL81.at 4 rfl rfl) rfl zrr)) ?_
    exact zby
   refine zdd (m := 0) [10] rfl rfl (fun q hq => ?_)
   obtain rfl := List.mem_singleton.1 hq
   refine zdk rfl ?_
   intro w102 V13 hE113 hp30
   obtain ⟨hL82, K70⟩ := zl hL80 hE113
   obtain ⟨r13, q165, h⟩ := zdt h
   have hL83 := hL82.lendW [1, 0] rfl rfl rfl
   have f56 := ((((((((((f52.mono (K56 None)).mono (K58 None)).mono (K59 None)).mono (K61 None)).mono (K76 None)).mono (K78 None)).mono (K79 None)).mono (K81 None)).mono (K68 None)).mono (K70 None))
   have f57 := ((hE105.mono (K68 None)).mono (K70 None))
   have f58 := ((((((hE108.mono (K76 None)).mono (K78 None)).mono (K79 None)).mono (K81 None)).mono (K68 None)).mono (K70 None))
   have f59 := ((((hE111.mono (K79 None)).mono (K81 None)).mono (K68 None)).mono (K70 None))
   refine zdo en36 rfl rfl (tchoose_w N l10 x39 x40 x41 (osv ob8 0 r6.1.length cap9) (osv ob21 0 x39.length cap21) (some b20) m12 cs44 [] (some b21) m13 cs45 [] [some b20, some b21] _ Any hL83 (zei (pre := []) (o := 0) (n := r6.1.length) (cap := cap9) hL82 5 [1, 0] rfl rfl rfl rfl f56 (zcn [1, 0] rfl) rfl rfl hl13 hc18) (zei (pre := []) (o := 0) (n := x39.length) (cap := cap21) hL82 3 [1, 0] rfl rfl rfl rfl f57 (zcn [1, 0] rfl) rfl rfl rfl hc55) (f58.mono (zcn [1, 0] rfl)) hc56 (f59.mono (zcn [1, 0] rfl)) hc57 r13 q165) ?_
   rintro _ w103 ⟨cs46, sp25, cs47, sp26, rfl, hL84, K71, hl35, hE114, hc58, hl36, hE115, hc59, -⟩
   refine ⟨_, rfl, ?_⟩
   have hp31 := hL82.backW [1, 0] [2, 3, 4, 5, 6] rfl rfl rfl rfl hL84
   have hL85 : vL w w103 [some b20, some b21, ob12, ob21, some b10, ob8, ob10] [zab ([] ++ (cs46 ++ sp25)), zab ([] ++ (cs47 ++ sp26)), zab ([] ++ (cs41 ++ sp22)), zab ([] ++ (cs43 ++ sp24)), zab [(osv ob8 0 r6.1.length cap9)], zab ([] ++ (cs12 ++ sp10)), zab ([] ++ (cs11 ++ sp11))] := (by have h9 := hp31.1; (try rw [← hl35] at h9); (try rw [← hl36] at h9); exact h9)
   have K72 := ks w hp31.2
   have hE116 : Els rStr (vH w None [some b20, some b21, ob12, ob21, some b10, ob8, ob10] w103) cs46 r13.2.2.1 := zcg (fun _ _ _ _ h => h) hE114
   have hE117 : Els rBool (vH w None [some b20, some b21, ob12, ob21, some b10, ob8, ob10] w103) cs47 r13.2.2.2 := zcg (fun _ _ _ _ h => h) hE115
   refine ⟨_, [11, 12, 13, 14, 15], [(150, (Value.tuple #[(bif r13.1 then (osv (some b20) 0 x40.length m12) else zar none 0 0), (zac r13.2.1)])), (162, (bif r13.1 then (osv (some b20) 0 x40.length m12) else zar none 0 0)), (163, (zac r13.2.1)), (18, (bif r13.1 then (osv (some b20) 0 x40.length m12) else zar none 0 0)), (19, (zac r13.2.1))], K72, (fun b hb => hL85.own.lt b hb), hL85.size, rfl, rfl, ?_⟩
   refine ⟨?_, ?_⟩
   ·
    intro w104 hE118
    obtain ⟨hL86, K73⟩ := zl hL85 hE118
    refine zaj (i := 4) rfl rfl (zaq (zav (v := (osv ob8 0 r6.1.length cap9)) zap rfl rfl (hL86.at 4 rfl rfl) rfl zrr)) ?_
    refine zaj (i := 7) rfl rfl (zaq (zav (v := (osv ob8 0 r6.1.length cap9)) zap rfl rfl (hL86.at 4 rfl rfl) rfl zrr)) ?_
    refine zaj (i := 11) rfl rfl (zaq (zae (v := (Value.tuple #[(bif r13.1 then (osv (some b20) 0 x40.length m12) else zar none 0 0), (zac r13.2.1)])) rfl zrr)) ?_
    refine zaj (i := 12) rfl rfl (zaq (zcl (vs := [(bif r13.1 then (osv (some b20) 0 x40.length m12) else zar none 0 0), (zac r13.2.1)]) (v := (bif r13.1 then (osv (some b20) 0 x40.length m12) else zar none 0 0)) rfl rfl zrr)) ?_
    refine zaj (i := 13) rfl rfl (zaq (zcl (vs := [(bif r13.1 then (osv (some b20) 0 x40.length m12) else zar none 0 0), (zac r13.2.1)]) (v := (zac r13.2.1)) rfl rfl zrr)) ?_
    refine zaj (i := 14) rfl rfl (zaq (zal (v := (bif r13.1 then (osv (some b20) 0 x40.length m12) else zar none 0 0)) rfl zrr)) ?_
    refine zaj (i := 15) rfl rfl (zaq (zal (v := (zac r13.2.1)) rfl zrr)) ?_
    exact zby
   refine RlF.fin ?_
   intro w105 V14 hE119
   obtain ⟨hL87, K74⟩ := zl hL85 hE119
   have hp32 := hL87.pick [6, 0] rfl rfl rfl
   have hL88 : vL w w105 [ob10, some b20] [zab ([] ++ (cs11 ++ sp11)), zab ([] ++ (cs46 ++ sp25))] := hp32.1
   have K75 := ks w hp32.2
   have f60 := ((hE116.mono (K74 None)).mono (K75 None))
   obtain rfl := zad h
   refine zat ?_
   exact ⟨r13.2.2.1, r13.1, r13.2.1, some b20, m12, sp25, cs46, x40.length, _, rfl, (zdx ⟨rfl, rfl, rfl, trivial⟩), hL88, (zam (zam (zam (zam (zam (zam (zam (zam (zam (zam K59 K61) K76) K78) K79) K81) K68) K70) K72) K74) K75), f60, hl35, hc58, trivial⟩
  obtain rfl := List.mem_singleton.1 hq
  refine zdk rfl ?_
  intro w93 V10 hE104 hp27
  obtain ⟨hL73, K61⟩ := zl hL71 hE104
  refine zdi (r := rBool) (H := (vH w None [ob12, ob17, some b10, ob8, ob10] w93)) (zc := [zF]) (x := false) zci ti4 rfl rfl rfl rfl q161 q162 q163 q164 hL73 ?_
  intro b21 w106 cs45 hE111 hc57 hL89 hS25
  have K76 := ks w hS25
  refine ⟨_, [], [], K76, (fun b hb => hL89.own.lt b hb), hL89.size, rfl, rfl, ?_⟩
  refine ⟨?_, ?_⟩
  ·
   intro w107 hE120
   obtain ⟨hL90, K77⟩ := zl hL89 hE120
   refine zaj (i := 0) rfl rfl (zaq (zav (v := (osv ob8 0 r6.1.length cap9)) zap rfl rfl (hL90.at 3 rfl rfl) rfl zrr)) ?_
   refine zaj (i := 1) rfl rfl (zaq (zae (v := (osv ob17 0 hard10.length cap17)) rfl zrr)) ?_
   refine zaj (i := 2) rfl rfl (zaq (zae (v := (osv ob12 0 last10.length cap12)) rfl zrr)) ?_
   refine zaj (i := 4) rfl rfl (zaq (zav (v := (osv ob8 0 r6.1.length cap9)) zap rfl rfl (hL90.at 3 rfl rfl) rfl zrr)) ?_
   refine zaj (i := 5) rfl rfl (zaq (zcj (pre := []) (r := rTClass) (xs := l10) zap rfl (hL90.at 4 rfl rfl) ((((((f52.mono (K56 None)).mono (K58 None)).mono (K59 None)).mono (K61 None)).mono (K76 None)).mono (K77 None)) rfl hl13 zrr)) ?_
   refine zaj (i := 7) rfl rfl (zaq (zav (v := (osv ob8 0 r6.1.length cap9)) zap rfl rfl (hL90.at 3 rfl rfl) rfl zrr)) ?_
   exact zby
  refine zdd (m := 2) [3, 6] rfl rfl (fun q hq => ?_)
  rcases List.mem_cons.1 hq with rfl | hq
  ·
   refine zdk rfl ?_
   intro w108 V15 hE121 hp33
   obtain ⟨hL91, K78⟩ := zl hL89 hE121
   have f61 := ((((hE101.mono (K59 None)).mono (K61 None)).mono (K76 None)).mono (K78 None))
   have f62 := (((((hE99.mono (K58 None)).mono (K59 None)).mono (K61 None)).mono (K76 None)).mono (K78 None))
   refine zcw (r := rI) (H := (vH w None [some b21, ob12, ob17, some b10, ob8, ob10] w108)) (cs := cs40) (sp := sp21) (xs := r11) (ys := r12) (Y := x39) (n := hard10.length) (cap := cap17) (i := 2) zao ti3 rfl rfl rfl rfl hL91 rfl rfl f62 hl33 hc53 (Src.row (pre := []) (o := 0) (n := last10.length) (cap := cap12) (hL91.at 1 rfl rfl) f61 rfl rfl hl34) (zcg (fun _ _ _ _ h => h) f61) q152 q153 q154 ?_
   intro ob21 cap21 sp24 cs43 w97 hE105 hc55 (hL77 : vL w w97 [some b21, ob12, ob21, some b10, ob8, ob10] [zab ([] ++ (cs45 ++ [])), zab ([] ++ (cs41 ++ sp22)), zab ([] ++ (cs43 ++ sp24)), zab [(osv ob8 0 r6.1.length cap9)], zab ([] ++ (cs12 ++ sp10)), zab ([] ++ (cs11 ++ sp11))]) hS23
   have K65 := ks w hS23
   refine ⟨_, [], [], K65, (fun b hb => hL77.own.lt b hb), hL77.size, rfl, rfl, ?_⟩
   refine ⟨?_, ?_⟩
   ·
    intro w98 hE109
    obtain ⟨hL78, K66⟩ := zl hL77 hE109
    refine zaj (i := 0) rfl rfl (zaq (zav (v := (osv ob8 0 r6.1.length cap9)) zap rfl rfl (hL78.at 3 rfl rfl) rfl zrr)) ?_
    refine zaj (i := 4) rfl rfl (zaq (zav (v := (osv ob8 0 r6.1.length cap9)) zap rfl rfl (hL78.at 3 rfl rfl) rfl zrr)) ?_
    refine zaj (i := 5) rfl rfl (zaq (zcj (pre := []) (r := rTClass) (xs := l10) zap rfl (hL78.at 4 rfl rfl) ((((((((f52.mono (K56 None)).mono (K58 None)).mono (K59 None)).mono (K61 None)).mono (K76 None)).mono (K78 None)).mono (K65 None)).mono (K66 None)) rfl hl13 zrr)) ?_
    refine zaj (i := 7) rfl rfl (zaq (zav (v := (osv ob8 0 r6.1.length cap9)) zap rfl rfl (hL78.at 3 rfl rfl) rfl zrr)) ?_
    exact zby
   refine zdd (m := 1) [6] rfl rfl (fun q hq => ?_)
   obtain rfl := List.mem_singleton.1 hq
   refine zdk rfl ?_
   intro w99 V12 hE110 hp29
   obtain ⟨hL79, K67⟩ := zl hL77 hE110
   refine zdi (r := rStr) (H := (vH w None [some b21, ob12, ob21, some b10, ob8, ob10] w99)) (zc := [(zah ⟨#[]⟩)]) (x := []) zax ti9 rfl rfl rfl rfl q156 q157 q158 q159 hL79 ?_
   intro b20 w100 cs44 hE108 hc56 hL80 hS24
   have K68 := ks w hS24
   refine ⟨_, [], [], K68, (fun b hb => hL80.own.lt b hb), hL80.size, rfl, rfl, ?_⟩
   refine ⟨?_, ?_⟩
   ·
    intro w101 hE112
    obtain ⟨hL81, K69⟩ := zl hL80 hE112
    refine zaj (i := 0) rfl rfl (zaq (zav (v := (osv ob8 0 r6.1.length cap9)) zap rfl rfl (hL81.at 4 rfl rfl) rfl zrr)) ?_
    refine zaj (i := 4) rfl rfl (zaq (zav (v := (osv ob8 0 r6.1.length cap9)) zap rfl rfl (hL81.at 4 rfl rfl) rfl zrr)) ?_
    refine zaj (i := 7) rfl rfl (zaq (zav (v := (osv ob8 0 r6.1.length cap9)) zap rfl rfl (hL81.at 4 rfl rfl) rfl zrr)) ?_
    exact zby
   refine zdd (m := 0) [10] rfl rfl (fun q hq => ?_)
   obtain rfl := List.mem_singleton.1 hq
   refine zdk rfl ?_
   intro w102 V13 hE113 hp30
   obtain ⟨hL82, K70⟩ := zl hL80 hE113
   obtain ⟨r13, q165, h⟩ := zdt h
   have hL83 := hL82.lendW [0, 1] rfl rfl rfl
   have f56 := ((((((((((f52.mono (K56 None)).mono (K58 None)).mono (K59 None)).mono (K61 None)).mono (K76 None)).mono (K78 None)).mono (K65 None)).mono (K67 None)).mono (K68 None)).mono (K70 None))
   have f57 := ((((hE105.mono (K65 None)).mono (K67 None)).mono (K68 None)).mono (K70 None))
   have f58 := ((hE108.mono (K68 None)).mono (K70 None))
   have f59 := ((((((hE111.mono (K76 None)).mono (K78 None)).mono (K65 None)).mono (K67 None)).mono (K68 None)).mono (K70 None))
   refine zdo en36 rfl rfl (tchoose_w N l10 x39 x40 x41 (osv ob8 0 r6.1.length cap9) (osv ob21 0 x39.length cap21) (some b20) m12 cs44 [] (some b21) m13 cs45 [] [some b20, some b21] _ Any hL83 (zei (pre := []) (o := 0) (n := r6.1.length) (cap := cap9) hL82 5 [0, 1] rfl rfl rfl rfl f56 (zcn [0, 1] rfl) rfl rfl hl13 hc18) (zei (pre := []) (o := 0) (n := x39.length) (cap := cap21) hL82 3 [0, 1] rfl rfl rfl rfl f57 (zcn [0, 1] rfl) rfl rfl rfl hc55) (f58.mono (zcn [0, 1] rfl)) hc56 (f59.mono (zcn [0, 1] rfl)) hc57 r13 q165) ?_
   rintro _ w103 ⟨cs46, sp25, cs47, sp26, rfl, hL84, K71, hl35, hE114, hc58, hl36, hE115, hc59, -⟩
   refine ⟨_, rfl, ?_⟩
   have hp31 := hL82.backW [0, 1] [2, 3, 4, 5, 6] rfl rfl rfl rfl hL84
   have hL85 : vL w w103 [some b20, some b21, ob12, ob21, some b10, ob8, ob10] [zab ([] ++ (cs46 ++ sp25)), zab ([] ++ (cs47 ++ sp26)), zab ([] ++ (cs41 ++ sp22)), zab ([] ++ (cs43 ++ sp24)), zab [(osv ob8 0 r6.1.length cap9)], zab ([] ++ (cs12 ++ sp10)), zab ([] ++ (cs11 ++ sp11))] := (by have h9 := hp31.1; (try rw [← hl35] at h9); (try rw [← hl36] at h9); exact h9)
   have K72 := ks w hp31.2
   have hE116 : Els rStr (vH w None [some b20, some b21, ob12, ob21, some b10, ob8, ob10] w103) cs46 r13.2.2.1 := zcg (fun _ _ _ _ h => h) hE114
   have hE117 : Els rBool (vH w None [some b20, some b21, ob12, ob21, some b10, ob8, ob10] w103) cs47 r13.2.2.2 := zcg (fun _ _ _ _ h => h) hE115
   refine ⟨_, [11, 12, 13, 14, 15], [(150, (Value.tuple #[(bif r13.1 then (osv (some b20) 0 x40.length m12) else zar none 0 0), (zac r13.2.1)])), (162, (bif r13.1 then (osv (some b20) 0 x40.length m12) else zar none 0 0)), (163, (zac r13.2.1)), (18, (bif r13.1 then (osv (some b20) 0 x40.length m12) else zar none 0 0)), (19, (zac r13.2.1))], K72, (fun b hb => hL85.own.lt b hb), hL85.size, rfl, rfl, ?_⟩
   refine ⟨?_, ?_⟩
   ·
    intro w104 hE118
    obtain ⟨hL86, K73⟩ := zl hL85 hE118
    refine zaj (i := 4) rfl rfl (zaq (zav (v := (osv ob8 0 r6.1.length cap9)) zap rfl rfl (hL86.at 4 rfl rfl) rfl zrr)) ?_
    refine zaj (i := 7) rfl rfl (zaq (zav (v := (osv ob8 0 r6.1.length cap9)) zap rfl rfl (hL86.at 4 rfl rfl) rfl zrr)) ?_
    refine zaj (i := 11) rfl rfl (zaq (zae (v := (Value.tuple #[(bif r13.1 then (osv (some b20) 0 x40.length m12) else zar none 0 0), (zac r13.2.1)])) rfl zrr)) ?_
    refine zaj (i := 12) rfl rfl (zaq (zcl (vs := [(bif r13.1 then (osv (some b20) 0 x40.length m12) else zar none 0 0), (zac r13.2.1)]) (v := (bif r13.1 then (osv (some b20) 0 x40.length m12) else zar none 0 0)) rfl rfl zrr)) ?_
    refine zaj (i := 13) rfl rfl (zaq (zcl (vs := [(bif r13.1 then (osv (some b20) 0 x40.length m12) else zar none 0 0), (zac r13.2.1)]) (v := (zac r13.2.1)) rfl rfl zrr)) ?_
    refine zaj (i := 14) rfl rfl (zaq (zal (v := (bif r13.1 then (osv (some b20) 0 x40.length m12) else zar none 0 0)) rfl zrr)) ?_
    refine zaj (i := 15) rfl rfl (zaq (zal (v := (zac r13.2.1)) rfl zrr)) ?_
    exact zby
   refine RlF.fin ?_
   intro w105 V14 hE119
   obtain ⟨hL87, K74⟩ := zl hL85 hE119
   have hp32 := hL87.pick [6, 0] rfl rfl rfl
   have hL88 : vL w w105 [ob10, some b20] [zab ([] ++ (cs11 ++ sp11)), zab ([] ++ (cs46 ++ sp25))] := hp32.1
   have K75 := ks w hp32.2
   have f60 := ((hE116.mono (K74 None)).mono (K75 None))
   obtain rfl := zad h
   refine zat ?_
   exact ⟨r13.2.2.1, r13.1, r13.2.1, some b20, m12, sp25, cs46, x40.length, _, rfl, (zdx ⟨rfl, rfl, rfl, trivial⟩), hL88, (zam (zam (zam (zam (zam (zam (zam (zam (zam (zam K59 K61) K76) K78) K65) K67) K68) K70) K72) K74) K75), f60, hl35, hc58, trivial⟩
  obtain rfl := List.mem_singleton.1 hq
  refine zdk rfl ?_
  intro w108 V15 hE121 hp33
  obtain ⟨hL91, K78⟩ := zl hL89 hE121
  refine zdi (r := rStr) (H := (vH w None [some b21, ob12, ob17, some b10, ob8, ob10] w108)) (zc := [(zah ⟨#[]⟩)]) (x := []) zax ti9 rfl rfl rfl rfl q156 q157 q158 q159 hL91 ?_
  intro b20 w109 cs44 hE108 hc56 hL92 hS26
  have K79 := ks w hS26
  refine ⟨_, [], [], K79, (fun b hb => hL92.own.lt b hb), hL92.size, rfl, rfl, ?_⟩
  refine ⟨?_, ?_⟩
  ·
   intro w110 hE122
   obtain ⟨hL93, K80⟩ := zl hL92 hE122
   refine zaj (i := 0) rfl rfl (zaq (zav (v := (osv ob8 0 r6.1.length cap9)) zap rfl rfl (hL93.at 4 rfl rfl) rfl zrr)) ?_
   refine zaj (i := 1) rfl rfl (zaq (zae (v := (osv ob17 0 hard10.length cap17)) rfl zrr)) ?_
   refine zaj (i := 2) rfl rfl (zaq (zae (v := (osv ob12 0 last10.length cap12)) rfl zrr)) ?_
   refine zaj (i := 4) rfl rfl (zaq (zav (v := (osv ob8 0 r6.1.length cap9)) zap rfl rfl (hL93.at 4 rfl rfl) rfl zrr)) ?_
   refine zaj (i := 7) rfl rfl (zaq (zav (v := (osv ob8 0 r6.1.length cap9)) zap rfl rfl (hL93.at 4 rfl rfl) rfl zrr)) ?_
   exact zby
  refine zdd (m := 1) [3] rfl rfl (fun q hq => ?_)
  obtain rfl := List.mem_singleton.1 hq
  refine zdk rfl ?_
  intro w111 V16 hE123 hp34
  obtain ⟨hL94, K81⟩ := zl hL92 hE123
  have f63 := ((((((hE101.mono (K59 None)).mono (K61 None)).mono (K76 None)).mono (K78 None)).mono (K79 None)).mono (K81 None))
  have f64 := (((((((hE99.mono (K58 None)).mono (K59 None)).mono (K61 None)).mono (K76 None)).mono (K78 None)).mono (K79 None)).mono (K81 None))
  refine zcw (r := rI) (H := (vH w None [some b20, some b21, ob12, ob17, some b10, ob8, ob10] w111)) (cs := cs40) (sp := sp21) (xs := r11) (ys := r12) (Y := x39) (n := hard10.length) (cap := cap17) (i := 3) zao ti3 rfl rfl rfl rfl hL94 rfl rfl f64 hl33 hc53 (Src.row (pre := []) (o := 0) (n := last10.length) (cap := cap12) (hL94.at 2 rfl rfl) f63 rfl rfl hl34) (zcg (fun _ _ _ _ h => h) f63) q152 q153 q154 ?_
  intro ob21 cap21 sp24 cs43 w100 hE105 hc55 (hL80 : vL w w100 [some b20, some b21, ob12, ob21, some b10, ob8, ob10] [zab ([] ++ (cs44 ++ [])), zab ([] ++ (cs45 ++ [])), zab ([] ++ (cs41 ++ sp22)), zab ([] ++ (cs43 ++ sp24)), zab [(osv ob8 0 r6.1.length cap9)], zab ([] ++ (cs12 ++ sp10)), zab ([] ++ (cs11 ++ sp11))]) hS24
  have K68 := ks w hS24
  refine ⟨_, [], [], K68, (fun b hb => hL80.own.lt b hb), hL80.size, rfl, rfl, ?_⟩
  refine ⟨?_, ?_⟩
  ·
   intro w101 hE112
   obtain ⟨hL81, K69⟩ := zl hL80 hE112
   refine zaj (i := 0) rfl rfl (zaq (zav (v := (osv ob8 0 r6.1.length cap9)) zap rfl rfl (hL81.at 4 rfl rfl) rfl zrr)) ?_
   refine zaj (i := 4) rfl rfl (zaq (zav (v := (osv ob8 0 r6.1.length cap9)) zap rfl rfl (hL81.at 4 rfl rfl) rfl zrr)) ?_
   refine zaj (i := 7) rfl rfl (zaq (zav (v := (osv ob8 0 r6.1.length cap9)) zap rfl rfl (hL81.at 4 rfl rfl) rfl zrr)) ?_
   exact zby
  refine zdd (m := 0) [10] rfl rfl (fun q hq => ?_)
  obtain rfl := List.mem_singleton.1 hq
  refine zdk rfl ?_
  intro w102 V13 hE113 hp30
  obtain ⟨hL82, K70⟩ := zl hL80 hE113
  obtain ⟨r13, q165, h⟩ := zdt h
  have hL83 := hL82.lendW [0, 1] rfl rfl rfl
  have f56 := ((((((((((f52.mono (K56 None)).mono (K58 None)).mono (K59 None)).mono (K61 None)).mono (K76 None)).mono (K78 None)).mono (K79 None)).mono (K81 None)).mono (K68 None)).mono (K70 None))
  have f57 := ((hE105.mono (K68 None)).mono (K70 None))
  have f58 := ((((hE108.mono (K79 None)).mono (K81 None)).mono (K68 None)).mono (K70 None))
  have f59 := ((((((hE111.mono (K76 None)).mono (K78 None)).mono (K79 None)).mono (K81 None)).mono (K68 None)).mono (K70 None))
  refine zdo en36 rfl rfl (tchoose_w N l10 x39 x40 x41 (osv ob8 0 r6.1.length cap9) (osv ob21 0 x39.length cap21) (some b20) m12 cs44 [] (some b21) m13 cs45 [] [some b20, some b21] _ Any hL83 (zei (pre := []) (o := 0) (n := r6.1.length) (cap := cap9) hL82 5 [0, 1] rfl rfl rfl rfl f56 (zcn [0, 1] rfl) rfl rfl hl13 hc18) (zei (pre := []) (o := 0) (n := x39.length) (cap := cap21) hL82 3 [0, 1] rfl rfl rfl rfl f57 (zcn [0, 1] rfl) rfl rfl rfl hc55) (f58.mono (zcn [0, 1] rfl)) hc56 (f59.mono (zcn [0, 1] rfl)) hc57 r13 q165) ?_
  rintro _ w103 ⟨cs46, sp25, cs47, sp26, rfl, hL84, K71, hl35, hE114, hc58, hl36, hE115, hc59, -⟩
  refine ⟨_, rfl, ?_⟩
  have hp31 := hL82.backW [0, 1] [2, 3, 4, 5, 6] rfl rfl rfl rfl hL84
  have hL85 : vL w w103 [some b20, some b21, ob12, ob21, some b10, ob8, ob10] [zab ([] ++ (cs46 ++ sp25)), zab ([] ++ (cs47 ++ sp26)), zab ([] ++ (cs41 ++ sp22)), zab ([] ++ (cs43 ++ sp24)), zab [(osv ob8 0 r6.1.length cap9)], zab ([] ++ (cs12 ++ sp10)), zab ([] ++ (cs11 ++ sp11))] := (by have h9 := hp31.1; (try rw [← hl35] at h9); (try rw [← hl36] at h9); exact h9)
  have K72 := ks w hp31.2
  have hE116 : Els rStr (vH w None [some b20, some b21, ob12, ob21, some b10, ob8, ob10] w103) cs46 r13.2.2.1 := zcg (fun _ _ _ _ h => h) hE114
  have hE117 : Els rBool (vH w None [some b20, some b21, ob12, ob21, some b10, ob8, ob10] w103) cs47 r13.2.2.2 := zcg (fun _ _ _ _ h => h) hE115
  refine ⟨_, [11, 12, 13, 14, 15], [(150, (Value.tuple #[(bif r13.1 then (osv (some b20) 0 x40.length m12) else zar none 0 0), (zac r13.2.1)])), (162, (bif r13.1 then (osv (some b20) 0 x40.length m12) else zar none 0 0)), (163, (zac r13.2.1)), (18, (bif r13.1 then (osv (some b20) 0 x40.length m12) else zar none 0 0)), (19, (zac r13.2.1))], K72, (fun b hb => hL85.own.lt b hb), hL85.size, rfl, rfl, ?_⟩
  refine ⟨?_, ?_⟩
  ·
   intro w104 hE118
   obtain ⟨hL86, K73⟩ := zl hL85 hE118
   refine zaj (i := 4) rfl rfl (zaq (zav (v := (osv ob8 0 r6.1.length cap9)) zap rfl rfl (hL86.at 4 rfl rfl) rfl zrr)) ?_
   refine zaj (i := 7) rfl rfl (zaq (zav (v := (osv ob8 0 r6.1.length cap9)) zap rfl rfl (hL86.at 4 rfl rfl) rfl zrr)) ?_
   refine zaj (i := 11) rfl rfl (zaq (zae (v := (Value.tuple #[(bif r13.1 then (osv (some b20) 0 x40.length m12) else zar none 0 0), (zac r13.2.1)])) rfl zrr)) ?_
   refine zaj (i := 12) rfl rfl (zaq (zcl (vs := [(bif r13.1 then (osv (some b20) 0 x40.length m12) else zar none 0 0), (zac r13.2.1)]) (v := (bif r13.1 then (osv (some b20) 0 x40.length m12) else zar none 0 0)) rfl rfl zrr)) ?_
   refine zaj (i := 13) rfl rfl (zaq (zcl (vs := [(bif r13.1 then (osv (some b20) 0 x40.length m12) else zar none 0 0), (zac r13.2.1)]) (v := (zac r13.2.1)) rfl rfl zrr)) ?_
   refine zaj (i := 14) rfl rfl (zaq (zal (v := (bif r13.1 then (osv (some b20) 0 x40.length m12) else zar none 0 0)) rfl zrr)) ?_
   refine zaj (i := 15) rfl rfl (zaq (zal (v := (zac r13.2.1)) rfl zrr)) ?_
   exact zby
  refine RlF.fin ?_
  intro w105 V14 hE119
  obtain ⟨hL87, K74⟩ := zl hL85 hE119
  have hp32 := hL87.pick [6, 0] rfl rfl rfl
  have hL88 : vL w w105 [ob10, some b20] [zab ([] ++ (cs11 ++ sp11)), zab ([] ++ (cs46 ++ sp25))] := hp32.1
  have K75 := ks w hp32.2
  have f60 := ((hE116.mono (K74 None)).mono (K75 None))
  obtain rfl := zad h
  refine zat ?_
  exact ⟨r13.2.2.1, r13.1, r13.2.1, some b20, m12, sp25, cs46, x40.length, _, rfl, (zdx ⟨rfl, rfl, rfl, trivial⟩), hL88, (zam (zam (zam (zam (zam (zam (zam (zam (zam (zam K59 K61) K76) K78) K79) K81) K68) K70) K72) K74) K75), f60, hl35, hc58, trivial⟩
 rintro _ w112 ⟨chosen10, al10, is10, ob20, cap20, sp23, cs42, ln16, u, rfl, rfl, hL95, K82, hE124, rfl, hc60, -⟩
 replace h := g17
 try dsimp only at h
 refine zan (zan (zaf rfl (zag (zae (v := (zac is10)) rfl ?_))))
 refine zag (zdq (x := is10) rfl (zas ?_))
 refine zch (!is10) rfl (fun hc61 => ?_) (fun hc61 => ?_)
 ·
  replace h := ite_t hc61 h
  refine zan (zaf rfl (zag (zal (v := zN) rfl ?_)))
  refine zag (zal (v := zF) rfl (zas ?_))
  have hp35 := hL95.addNil
  have hL96 : vL w w112 [none, ob10, ob20] [zab ([] ++ ([] ++ [])), zab ([] ++ (cs11 ++ sp11)), zab ([] ++ (cs42 ++ sp23))] := hp35.1
  have hE125 : Els rStr (vH w None [none, ob10, ob20] w112) [] [] := zcq
  refine zbq ?_
  obtain rfl := zad h
  refine ⟨[(osv none 0 (List.length ([] : (List (List UInt8)))) 0), zF], ⟨rfl, rfl, trivial⟩, ⟨_, rfl, hL96.done, ?_⟩⟩
  exact ⟨none, 0, [], [], rfl, (hL96.newOwn [0] rfl rfl rfl), (hE125.mono (zds [0] rfl)), (show ([] ++ [] : List Value).length = 0 * rStr.sz by simp), trivial⟩
 replace h := ite_f hc61 h
 refine zbl (zan (zaf rfl (zag (zae (v := (osv ob10 0 r6.2.1.length cap10)) rfl ?_))))
 have f65 := (((((((((((hE12.mono (K10 None)).mono (K11 None)).mono (K20 None)).mono (K21 None)).mono (K22 None)).mono (K26 None)).mono (K46 None)).mono (K54 None)).mono (K56 None)).mono (K58 None)).mono (K82 None))
 refine zag (zcj (pre := []) (r := rI) (xs := r6.2.1) zao rfl (hL95.at 0 rfl rfl) f65 rfl rfl ?_)
 obtain ⟨x42, q166, h⟩ := zdt h
 obtain ⟨m14, q167, q168, q169, q170⟩ := mk1_some q166
 refine zag (zdi (r := rStr) (H := (vH w None [ob10, ob20] w112)) (zc := [(zah ⟨#[]⟩)]) (x := []) zax ti9 rfl rfl rfl rfl q167 q168 q169 q170 hL95 ?_)
 intro b22 w113 cs48 hE126 hc62 hL97 hS27
 have K83 := ks w hS27
 refine zag (zal (v := (osv (some b22) 0 x42.length m14)) rfl ?_)
 refine zas (zan (zan (zaf rfl (zag (zae (v := (osv ob10 0 r6.2.1.length cap10)) rfl ?_)))))
 have f66 := (f65.mono (K83 None))
 refine zag (zcj (pre := []) (r := rI) (xs := r6.2.1) zao rfl (hL97.at 1 rfl rfl) f66 rfl rfl ?_)
 refine zag (zae (v := (zI 0)) rfl (zas ?_))
 obtain ⟨s18, hl37, g18⟩ := zdt h
 refine zbu (fun e w' => ∃ (out10 : (List (List UInt8))) (cs49 : List Value) (u : Env), out10 = s18 ∧ e = upds [(20, (osv (some b22) 0 x42.length m14))] u ∧ vL w w' [some b22] [zab ([] ++ (cs49 ++ []))] ∧ Keep w.heap.size [some b22, ob10, ob20] w113 [some b22] w' ∧ Els rStr (vH w None [some b22] w') cs49 out10 ∧ x42.length = List.length out10 ∧ (cs49 ++ []).length = m14 * rStr.sz ∧ True) ?_ ?_
 ·
  refine zbb ?_
  have hp36 := hL97.pick [2, 0, 1] rfl rfl rfl
  have hL98 : vL w w113 [ob20, some b22, ob10] [zab ([] ++ (cs42 ++ sp23)), zab ([] ++ (cs48 ++ [])), zab ([] ++ (cs11 ++ sp11))] := hp36.1
  have K84 := ks w hp36.2
  have f67 := ((hE126.mono (K83 None)).mono (K84 None))
  refine zca hl37 (fun (ss : (Bool × (List (List UInt8)) × Int)) (e : Env) (w' : World) => match ss with | (al11, out11, x43) => ∃ (cs50 : List Value) (u : Env), e = upds [(18, (bif al11 then (osv ob20 0 chosen10.length cap20) else zar none 0 0)), (20, (osv (some b22) 0 x42.length m14)), (169, (osv ob10 0 r6.2.1.length cap10)), (170, (zI (r6.2.1.length : Int))), (171, (zI x43))] u ∧ vL w w' [ob20, some b22, ob10] [zab ([] ++ (cs42 ++ sp23)), zab ([] ++ (cs50 ++ [])), zab ([] ++ (cs11 ++ sp11))] ∧ Keep w.heap.size [some b22, ob10, ob20] w113 [ob20, some b22, ob10] w' ∧ Els rStr (vH w None [ob20, some b22, ob10] w') cs50 out11 ∧ x42.length = List.length out11 ∧ (cs50 ++ []).length = m14 * rStr.sz ∧ True) ⟨cs48, _, (zdx ⟨rfl, rfl, rfl, rfl, rfl, trivial⟩), hL98, K84, f67, rfl, hc62, trivial⟩ ?_
  rintro ⟨al11, out11, x43⟩ oo _ w114 ⟨cs50, u, rfl, hL99, K85, hE127, hl38, hc63, -⟩ h hd16
  rw [tSolve_b7] at h
  refine zan (zaf rfl (zag (zck (x := x43) (y := (r6.2.1.length : Int)) ((x43 : Int) < (r6.2.1.length : Int)) rfl rfl zbk ?_)))
  refine zas (zan ?_)
  refine zbm ((x43 : Int) < (r6.2.1.length : Int)) rfl (fun hc64 => ?_) (fun hc64 => ?_)
  ·
   replace h := ite_t hc64 h
   refine zbl (zan (zbb (zan (zaf rfl (zag (zae (v := (zI x43)) rfl ?_))))))
   obtain ⟨x44, n29, q172, q173, q174, h⟩ := zix h
   have f68 := (f66.mono (K85 None))
   obtain ⟨b23, hb14⟩ := hL99.row_some 2 rfl rfl (zem (pre := []) f68 q173 (Nat.lt_of_sub_eq_succ rfl))
   refine zag (zbd (r := rI) (b := b23) (o := 0) (n := n29) (m := r6.2.1.length) (xs := r6.2.1) (q := (0 + n29 * rI.sz)) zao ti3 (zef hb14) rfl rfl q172 q174 rfl ?_)
   obtain ⟨vs22, q175, q176, q177⟩ := zee (pre := []) (sp := sp11) f68 q173
   obtain rfl := q176
   refine zag (zbx (v := (zI x44)) zaw rfl rfl (zel hb14 (hL99.at 2 rfl rfl)) q177 ?_)
   refine zag (zal (v := (zI x43)) rfl ?_)
   refine zag (zal (v := (zI x44)) rfl ?_)
   refine zas (zaf rfl (zag (zae (v := (osv (some b22) 0 x42.length m14)) rfl ?_)))
   refine zag (zae (v := (zI x43)) rfl ?_)
   refine zag (zae (v := (bif al11 then (osv ob20 0 chosen10.length cap20) else zar none 0 0)) rfl ?_)
   refine zag (zae (v := (zI x44)) rfl ?_)
   obtain ⟨u10, q178, h⟩ := zdt h
   replace q178 := chk_some q178
   obtain ⟨x45, n30, q180, q181, q182, h⟩ := zix h
   have f69 := ((hE124.mono (K83 None)).mono (K85 None))
   obtain ⟨b24, hb15⟩ := hL99.row_some 0 rfl rfl (zem (pre := []) f69 q181 (Nat.lt_of_sub_eq_succ rfl))
   refine zag (zbd (r := rStr) (b := b24) (o := 0) (n := n30) (m := chosen10.length) (xs := chosen10) (q := (0 + n30 * rStr.sz)) zax ti9 ((bif_t q178).trans (zef hb15)) rfl rfl q180 q182 rfl ?_)
   obtain ⟨vs23, q183, q184, q185⟩ := zee (pre := []) (sp := sp23) f69 q181
   obtain rfl := q184
   refine zag (zbx (v := (zS x45)) zba rfl rfl (zel hb15 (hL99.at 0 rfl rfl)) q185 ?_)
   obtain ⟨x46, n31, q187, q188, q189, h⟩ := zix h
   refine zag (zbd (r := rStr) (b := b22) (o := 0) (n := n31) (m := x42.length) (xs := out11) (q := (0 + n31 * rStr.sz)) zax ti9 rfl hl38 rfl q187 q189 rfl ?_)
   obtain ⟨x47, n32, q191, q192, q193, h⟩ := zux h
   obtain rfl := zin q187 q191
   refine zde (zdf (pre := []) (r := rStr) (vs := [(zS x45)]) (a := x45) ti9 rfl rfl rfl rfl hL99 1 rfl rfl hE127 q189 rfl q193 ?_)
   have hl39 : x42.length = List.length x47 := by rw [q193, List.length_set]; exact hl38
   intro w115 cs51 (hL100 : vL w w115 [ob20, some b22, ob10] [zab ([] ++ (cs42 ++ sp23)), zab ([] ++ (cs51 ++ [])), zab ([] ++ (cs11 ++ sp11))]) hS28 hE128 q194
   have hc65 : (cs51 ++ []).length = m14 * rStr.sz := zhc hc63 q194
   have K86 := ks w hS28
   refine zas (zbh (zaf rfl (zag (zce (x := x43) (y := 1) (z := (iw (x43 + 1))) rfl rfl rfl ?_))))
   refine zag (zae (v := (zI (iw (x43 + 1)))) rfl (zas ?_))
   have f70 := (hE128.mono (K86 None))
   obtain rfl := zad h
   refine zat ⟨(al11, x47, (iw (x43 + 1))), rfl, ?_⟩
   exact ⟨cs51, _, (zdx ⟨rfl, rfl, rfl, rfl, rfl, trivial⟩), hL100, (zam K85 K86), f70, hl39, hc65, trivial⟩
  replace h := ite_f hc64 h
  refine zcf rfl ?_
  have hp37 := hL99.pick [1] rfl rfl rfl
  have hL101 : vL w w114 [some b22] [zab ([] ++ (cs50 ++ []))] := hp37.1
  have K87 := ks w hp37.2
  have f71 := (hE127.mono (K87 None))
  obtain rfl := zad h
  obtain rfl := hd16 _ rfl
  replace h := g18
  try dsimp only at h
  refine zat ?_
  exact ⟨out11, cs50, _, rfl, (zdx zrt), hL101, (zam K85 K87), f71, hl38, hc63, trivial⟩
 rintro _ w116 ⟨out10, cs49, u, rfl, rfl, hL102, K88, hE129, hl40, hc66, -⟩
 replace h := g18
 try dsimp only at h
 refine zan (zaf rfl (zag (zae (v := (osv (some b22) 0 x42.length m14)) rfl ?_)))
 refine zag (zal (v := (osv (some b22) 0 x42.length m14)) rfl ?_)
 refine zag (zal (v := zT) rfl ?_)
 refine zas (zbq ?_)
 obtain rfl := zad h
 refine ⟨[(osv (some b22) 0 x42.length m14), zT], ⟨rfl, rfl, trivial⟩, ⟨_, rfl, hL102.done, ?_⟩⟩
 exact ⟨some b22, m14, cs49, [], (by rw [← hl40]; rfl), (hL102.newOwn [0] rfl rfl rfl), (hE129.mono (zds [0] rfl)), hc66, trivial⟩
end Go.Proofs.Ytaakoedphmeenaa.WT

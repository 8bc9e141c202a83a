/- Walks, written by a program of mine (wip/tool); the kernel checks them. -/
import Derived.Test.YtaakoedphmeenaaWTValidx0
set_option maxRecDepth 100000
set_option maxHeartbeats 40000000
set_option linter.unusedVariables false
set_option linter.unusedSimpArgs false
namespace Go.Proofs.Ytaakoedphmeenaa.WT
open Go Go.RowKit Go.X Go.D Go.Proofs.Ytaakoedphmeenaa.WA Go.Proofs.Ytaakoedphmeenaa.WR
theorem tfirst_w (N : Nat) (c : TClass) (most : Int) (c_v : Value) (c_v1 : Value) (c_v2 : Value) (w : World) (S : Nat → Prop) (c_h : Rs rTTest (vH w S [] w) c_v c.tests) (c_h1 : Rs rStr (vH w S [] w) c_v1 c.words) (c_h2 : Rs rI (vH w S [] w) c_v2 c.apart) (r : (List (List UInt8))) (h : tfirst N c most = some r) :
  Calls Try.prog 32 #[(zbo #[(zI c.low), (zI c.high), c_v, c_v1, c_v2]), (zI most)] w (Ret w (fun v w' => ∃ (ob0 : Option Nat) (cap0 : Nat) (cs0 : List Value) (sp0 : List Value), (zO ob0 r cap0) = v ∧ NewOwn w w' [ob0] [zab ([] ++ (cs0 ++ sp0))] ∧ Els rStr (vH w None [ob0] w') cs0 r ∧ (cs0 ++ sp0).length = cap0 * rStr.sz ∧ True)) := by
 unfold tfirst at h
 have hL : vL w w [] [] := Go.X.Loc.begin0 w
 refine calls_of (l := [(zbo #[(zI c.low), (zI c.high), c_v, c_v1, c_v2]), (zI most)]) (rl := [.tmp 4]) (n := 57) Try.func32 rfl rfl rfl (zai rfl) ?_
 refine zan (zaf rfl (zag (zdr (cs := [(zI c.low), (zI c.high), c_v, c_v1, c_v2]) rfl rfl hL ?_)))
 intro b1 w2 hL3 hS5
 have K4 := ks w hS5
 refine zag (zal (v := zN) rfl ?_)
 refine zas (zan (zaf rfl (zag (zal (v := zN) rfl ?_))))
 refine zas (zan (zan (zaf rfl (zag (zau (q := 0) zbi rfl ti3 rfl rfl rfl ?_)))))
 refine zag (zav (v := (zI c.low)) zaw rfl rfl (hL3.at 0 rfl rfl) rfl ?_)
 refine zag (zal (v := (zI c.low)) rfl (zas ?_))
 obtain ⟨s10, hl10, g10⟩ := zdt h
 refine zbu (fun e w' => ∃ (out10 : (List (List UInt8))) (ob10 : Option Nat) (cap10 : Nat) (sp10 : List Value) (cs10 : List Value) (ln10 : Nat) (u : Env), out10 = s10 ∧ e = upds [(5, (osv ob10 0 ln10 cap10))] u ∧ vL w w' [ob10] [zab ([] ++ (cs10 ++ sp10))] ∧ Keep w.heap.size [some b1] w2 [ob10] w' ∧ Els rStr (vH w None [ob10] w') cs10 out10 ∧ ln10 = List.length out10 ∧ (cs10 ++ sp10).length = cap10 * rStr.sz ∧ True) ?_ ?_
 ·
  refine zbb ?_
  have hp10 := hL3.addNil
  have hL10 : vL w w2 [none, some b1] [zab ([] ++ ([] ++ [])), zab [(zI c.low), (zI c.high), c_v, c_v1, c_v2]] := hp10.1
  have K10 := ks w hp10.2
  have hp11 := hL10.pick [1, 0] rfl rfl rfl
  have hL11 : vL w w2 [some b1, none] [zab [(zI c.low), (zI c.high), c_v, c_v1, c_v2], zab ([] ++ ([] ++ []))] := hp11.1
  have K11 := ks w hp11.2
  have f10 := ((zcq (r := rStr)).mono (K11 None))
  refine zca hl10 (fun (ss : ((List (List UInt8)) × Int)) (e : Env) (w' : World) => match ss with | (out11, n10) => ∃ (ob11 : Option Nat) (cap11 : Nat) (sp11 : List Value) (cs11 : List Value) (ln11 : Nat) (u : Env), e = upds [(1, (zI most)), (2, (zak (some ⟨b1, 0, none⟩))), (5, (osv ob11 0 ln11 cap11)), (6, (zI n10))] u ∧ vL w w' [some b1, ob11] [zab [(zI c.low), (zI c.high), c_v, c_v1, c_v2], zab ([] ++ (cs11 ++ sp11))] ∧ Keep w.heap.size [some b1] w2 [some b1, ob11] w' ∧ Els rStr (vH w None [some b1, ob11] w') cs11 out11 ∧ ln11 = List.length out11 ∧ (cs11 ++ sp11).length = cap11 * rStr.sz ∧ True) ⟨none, 0, [], [], (List.length ([] : (List (List UInt8)))), _, (zdx ⟨rfl, rfl, rfl, rfl, trivial⟩), hL11, (zam K10 K11), f10, rfl, (show ([] ++ [] : List Value).length = 0 * rStr.sz by simp), trivial⟩ ?_
  rintro ⟨out11, n10⟩ oo _ w10 ⟨ob11, cap11, sp11, cs11, ln11, u, rfl, hL12, K12, hE10, rfl, hc10, -⟩ h hd10
  rw [tfirst_b1] at h
  refine zan (zan ?_)
  obtain ⟨s11, h, g11⟩ := zdt h
  refine zbu (fun e w' => ∃ (x10 : Bool) (u : Env), x10 = s11 ∧ e = upds [(1, (zI most)), (2, (zak (some ⟨b1, 0, none⟩))), (5, (zO ob11 out11 cap11)), (6, (zI n10)), (20, (zac x10))] u ∧ vL w w' [some b1, ob11] [zab [(zI c.low), (zI c.high), c_v, c_v1, c_v2], zab ([] ++ (cs11 ++ sp11))] ∧ Keep w.heap.size [some b1, ob11] w10 [some b1, ob11] w' ∧ True) ?_ ?_
  ·
   refine zaf rfl (zag (zae (v := (zI n10)) rfl ?_))
   refine zag (zau (q := 1) zbi rfl ti3 rfl rfl rfl ?_)
   refine zag (zav (v := (zI c.high)) zaw rfl rfl (hL12.at 0 rfl rfl) rfl ?_)
   refine zag (OpY.leq (x := n10) (y := c.high) ((n10 : Int) ≤ c.high) rfl rfl zbk ?_)
   refine zag (zae (v := (zac (decide ((n10 : Int) ≤ c.high)))) rfl ?_)
   by_cases hc11 : (n10 : Int) ≤ c.high
   ·
    replace h := ite_t hc11 h
    refine zaz rfl rfl (zdv hc11) (zae (v := (zO ob11 out11 cap11)) rfl ?_)
    refine zaz rfl rfl (zdv hc11) (zcj (pre := []) (r := rStr) (xs := out11) zax rfl (hL12.at 1 rfl rfl) hE10 rfl rfl ?_)
    refine zaz rfl rfl (zdv hc11) (zae (v := (zI most)) rfl ?_)
    refine zaz rfl rfl (zdv hc11) (zck (x := (out11.length : Int)) (y := most) (((out11.length : Int) : Int) < most) rfl rfl zbk ?_)
    refine zag (zbr (t := (decide ((n10 : Int) ≤ c.high))) (v := (zac (decide (((out11.length : Int) : Int) < most)))) rfl (zdv hc11) rfl (zas ?_))
    obtain rfl := zad h
    refine zat ?_
    exact ⟨(decide (((out11.length : Int) : Int) < most)), _, rfl, (zdx ⟨rfl, rfl, rfl, rfl, rfl, trivial⟩), hL12, zbt, trivial⟩
   replace h := ite_f hc11 h
   refine zbe rfl rfl (zdu hc11) (zbe rfl rfl (zdu hc11) (zbe rfl rfl (zdu hc11) (zbe rfl rfl (zdu hc11) ?_)))
   refine zag (zbp (t := (decide ((n10 : Int) ≤ c.high))) (v := zF) rfl (zdu hc11) rfl (zas ?_))
   obtain rfl := zad h
   refine zat ?_
   exact ⟨false, _, rfl, (zdx ⟨rfl, rfl, rfl, rfl, rfl, trivial⟩), hL12, zbt, trivial⟩
  rintro _ w11 ⟨x10, u, rfl, rfl, hL13, K13, -⟩
  replace h := g11
  try dsimp only at h
  refine zch x10 rfl (fun hc12 => ?_) (fun hc12 => ?_)
  ·
   replace h := ite_t hc12 h
   refine zbl (zan (zbb (zan (zaf rfl (zag (zau (q := 2) zbi rfl ti23 rfl rfl rfl ?_))))))
   refine zag (zav (v := c_v) zbc rfl rfl (hL13.at 0 rfl rfl) rfl ?_)
   obtain ⟨r10, q10, h⟩ := zdt h
   have f11 := (((c_h.mono (K4 S)).mono (K12 S)).mono (K13 S))
   refine zag (zbz en60 rfl rfl (cloneTest_w N c.tests c_v _ Any (f11.mono vw_any) r10 q10) ?_)
   rintro _ w12 hE11 ⟨ob12, cap12, cs12, sp12, rfl, hN10, hE12, hc13, -⟩
   replace hE12 := hE12.mono (zbs (S := None) hL13 [ob12])
   have hp12 := hL13.adoptL hE11 hN10
   have hL14 := hp12.1
   have K14 := ks w hp12.2
   refine zag (zal (v := (zO ob12 r10 cap12)) rfl (zas ?_))
   obtain ⟨s12, hl11, g12⟩ := zdt h
   refine zbu (fun e w' => ∃ (out12 : (List (List UInt8))) (ob13 : Option Nat) (cap13 : Nat) (sp13 : List Value) (cs13 : List Value) (ln12 : Nat) (u : Env), out12 = s12 ∧ e = upds [(1, (zI most)), (2, (zak (some ⟨b1, 0, none⟩))), (5, (osv ob13 0 ln12 cap13)), (6, (zI n10))] u ∧ vL w w' [some b1, ob13] [zab [(zI c.low), (zI c.high), c_v, c_v1, c_v2], zab ([] ++ (cs13 ++ sp13))] ∧ Keep w.heap.size [ob12, some b1, ob11] w12 [some b1, ob13] w' ∧ Els rStr (vH w None [some b1, ob13] w') cs13 out12 ∧ ln12 = List.length out12 ∧ (cs13 ++ sp13).length = cap13 * rStr.sz ∧ True) ?_ ?_
   ·
    refine zbb ?_
    have hp13 := hL14.pick [1, 2, 0] rfl rfl rfl
    have hL15 : vL w w12 [some b1, ob11, ob12] [zab [(zI c.low), (zI c.high), c_v, c_v1, c_v2], zab ([] ++ (cs11 ++ sp11)), zab ([] ++ (cs12 ++ sp12))] := hp13.1
    have K15 := ks w hp13.2
    have f12 := (((hE10.mono (K13 None)).mono (K14 None)).mono (K15 None))
    have f13 := (hE12.mono (K15 None))
    refine zca hl11 (fun (ss : ((List (List UInt8)) × (List TTest))) (e : Env) (w' : World) => match ss with | (out13, tests10) => ∃ (ob14 : Option Nat) (cap14 : Nat) (sp14 : List Value) (cs14 : List Value) (ln13 : Nat) (ob15 : Option Nat) (cap15 : Nat) (sp15 : List Value) (cs15 : List Value) (ln14 : Nat) (u : Env), e = upds [(1, (zI most)), (2, (zak (some ⟨b1, 0, none⟩))), (5, (osv ob14 0 ln13 cap14)), (6, (zI n10)), (7, (osv ob15 0 ln14 cap15))] u ∧ vL w w' [some b1, ob14, ob15] [zab [(zI c.low), (zI c.high), c_v, c_v1, c_v2], zab ([] ++ (cs14 ++ sp14)), zab ([] ++ (cs15 ++ sp15))] ∧ Keep w.heap.size [ob12, some b1, ob11] w12 [some b1, ob14, ob15] w' ∧ Els rStr (vH w None [some b1, ob14, ob15] w') cs14 out13 ∧ ln13 = List.length out13 ∧ (cs14 ++ sp14).length = cap14 * rStr.sz ∧ Els rTTest (vH w None [some b1, ob14, ob15] w') cs15 tests10 ∧ ln14 = List.length tests10 ∧ (cs15 ++ sp15).length = cap15 * rTTest.sz ∧ True) ⟨ob11, cap11, sp11, cs11, out11.length, ob12, cap12, sp12, cs12, r10.length, _, (zdx ⟨rfl, rfl, rfl, rfl, rfl, trivial⟩), hL15, K15, f12, rfl, hc10, f13, rfl, hc13, trivial⟩ ?_
    rintro ⟨out13, tests10⟩ oo _ w13 ⟨ob14, cap14, sp14, cs14, ln13, ob15, cap15, sp15, cs15, ln14, u, rfl, hL16, K16, hE13, rfl, hc14, hE14, rfl, hc15, -⟩ h hd11
    rw [tfirst_b2] at h
    refine zan (zan (zaf rfl (zag (zae (v := (zO ob14 out13 cap14)) rfl ?_))))
    refine zag (zcj (pre := []) (r := rStr) (xs := out13) zax rfl (hL16.at 1 rfl rfl) hE13 rfl rfl ?_)
    refine zag (zae (v := (zI most)) rfl ?_)
    refine zag (zck (x := (out13.length : Int)) (y := most) (((out13.length : Int) : Int) < most) rfl rfl zbk (zas ?_))
    refine zbm (((out13.length : Int) : Int) < most) rfl (fun hc16 => ?_) (fun hc16 => ?_)
    ·
     replace h := ite_t hc16 h
     refine zbl (zbb (zan (zaf rfl (zag (zae (v := (zO ob15 tests10 cap15)) rfl ?_)))))
     refine zag (zae (v := (zI n10)) rfl ?_)
     refine zag (zae (v := (zI most)) rfl ?_)
     refine zag (zae (v := (zO ob14 out13 cap14)) rfl ?_)
     refine zag (zcj (pre := []) (r := rStr) (xs := out13) zax rfl (hL16.at 1 rfl rfl) hE13 rfl rfl ?_)
     refine zag (OpY.sub (x := most) (y := (out13.length : Int)) (z := (iw (most - (out13.length : Int)))) rfl rfl rfl ?_)
     refine zag (OpY.min (x := 100) (y := (iw (most - (out13.length : Int)))) rfl rfl ?_)
     obtain ⟨r11, q11, h⟩ := zdt h
     refine zag (zbz en39 rfl rfl (pWords_w N tests10 n10 (imin 100 (iw (most - (out13.length : Int)))) (zO ob15 tests10 cap15) _ Any (zea (pre := []) (o := 0) (n := tests10.length) (cap := cap15) (hL16.at 2 rfl rfl) hE14 vw_any rfl rfl rfl hc15) r11 q11) ?_)
     rintro _ w14 hE15 ⟨ob16, cap16, cs16, sp16, rfl, hN11, hE16, hc17, -⟩
     replace hE16 := hE16.mono (zbs (S := None) hL16 [ob16])
     have hp14 := hL16.adoptL hE15 hN11
     have hL17 := hp14.1
     have K17 := ks w hp14.2
     refine zag (zal (v := (zO ob16 r11 cap16)) rfl ?_)
     refine zas (zan (zaf rfl (zag (zae (v := (zO ob14 out13 cap14)) rfl ?_))))
     refine zag (zae (v := (zO ob16 r11 cap16)) rfl ?_)
     obtain ⟨x11, q12, h⟩ := zdt h
     obtain ⟨q13, q14, q15⟩ := zek q12
     have f14 := (hE13.mono (K17 None))
     refine zag (zcw (r := rStr) (H := (vH w None [ob16, some b1, ob14, ob15] w14)) (cs := cs14) (sp := sp14) (xs := out13) (ys := r11) (Y := x11) (n := out13.length) (cap := cap14) (i := 2) zax ti9 rfl rfl rfl rfl hL17 rfl rfl f14 rfl hc14 (Src.row (pre := []) (o := 0) (n := r11.length) (cap := cap16) (hL17.at 0 rfl rfl) hE16 rfl rfl rfl) (zcg (fun _ _ _ _ h => h) hE16) q13 q14 q15 ?_)
     intro ob17 cap17 sp17 cs17 w15 hE17 hc18 (hL18 : vL w w15 [ob16, some b1, ob17, ob15] [zab ([] ++ (cs16 ++ sp16)), zab [(zI c.low), (zI c.high), c_v, c_v1, c_v2], zab ([] ++ (cs17 ++ sp17)), zab ([] ++ (cs15 ++ sp15))]) hS10
     have K18 := ks w hS10
     refine zag (zal (v := (zO ob17 x11 cap17)) rfl ?_)
     refine zas (zan (zan (zaf rfl (zag (zae (v := (zO ob16 r11 cap16)) rfl ?_)))))
     have f15 := (hE16.mono (K18 None))
     refine zag (zcj (pre := []) (r := rStr) (xs := r11) zax rfl (hL18.at 0 rfl rfl) f15 rfl rfl ?_)
     refine zag (zck (x := (r11.length : Int)) (y := 100) (((r11.length : Int) : Int) < 100) rfl rfl zbk (zas ?_))
     refine zbm (((r11.length : Int) : Int) < 100) rfl (fun hc19 => ?_) (fun hc19 => ?_)
     ·
      replace h := ite_t hc19 h
      refine zcf rfl ?_
      have hp15 := hL18.pick [1, 2] rfl rfl rfl
      have hL19 : vL w w15 [some b1, ob17] [zab [(zI c.low), (zI c.high), c_v, c_v1, c_v2], zab ([] ++ (cs17 ++ sp17))] := hp15.1
      have K19 := ks w hp15.2
      have f16 := ((hE17.mono (K18 None)).mono (K19 None))
      obtain rfl := zad h
      obtain rfl := hd11 _ rfl
      replace h := g12
      try dsimp only at h
      refine zat ?_
      exact ⟨x11, ob17, cap17, sp17, cs17, x11.length, _, rfl, (zdx ⟨rfl, rfl, rfl, rfl, trivial⟩), hL19, (zam (zam (zam K16 K17) K18) K19), f16, rfl, hc18, trivial⟩
     replace h := ite_f hc19 h
     refine zbl ?_
     obtain ⟨r12, q16, h⟩ := zdt h
     obtain ⟨x12, n11, q18, q19, q20, h⟩ := zix h
     obtain ⟨b10, hb10⟩ := hL18.row_some 0 rfl rfl (zem (pre := []) f15 q19 (Nat.lt_of_sub_eq_succ rfl))
     obtain ⟨vs10, q21, q22, q23⟩ := zee (pre := []) (sp := sp16) f15 q19
     obtain rfl := q22
     refine zcz 11 [] [] (fun W1 => [.det (zak (some ⟨b1, 2, none⟩)), .det c_v, .rel (fun v Z w' => ∃ ob18 cap18 cs18 sp18, (zO ob18 r12 cap18) = v ∧ OwnC w' ob18 (zab ([] ++ (cs18 ++ sp18))) ∧ Els rTTest (vZ W1 w None [ob16, some b1, ob17, ob15] Z w') cs18 r12 ∧ (cs18 ++ sp18 : List Value).length = cap18 * rTTest.sz ∧ True) footV, .det (zO ob16 r11 cap16), .det (zO ob16 r11 cap16), .det (zI (r11.length : Int)), .det (zI (iw ((r11.length : Int) - 1))), .det (zak (some ⟨b10, (0 + n11 * rStr.sz), none⟩)), .det (zS x12), .det (zbo #[(zI 0), (zI 3), zT, (zS x12)]), .rel (fun v Z w' => ∃ b11 cs19, (osv (some b11) 0 1 1) = v ∧ OwnC w' (some b11) (zab ([] ++ (cs19 ++ []))) ∧ Els rTTest (vZ W1 w None [ob16, some b1, ob17, ob15] Z w') cs19 [(TTest.mk 0 3 true x12)] ∧ (cs19 ++ [] : List Value).length = 1 * rTTest.sz ∧ True) footV]) mixed rfl rfl rfl (fun _ => rfl) (fun _ => rfl) ?_ ?_
     ·
      intro W1 _
      exact ⟨fun v Z Z' w w' hΦ hz _ _ hs => by obtain ⟨ob18, cap18, cs18, sp18, rfl, hO10, hE18, hc20, -⟩ := hΦ; exact ⟨ob18, cap18, cs18, sp18, rfl, (hO10.stay (fun b hb => (zeb (ob := ob18) (o := 0) (n := r12.length) (cap := cap18)).2 (by rw [hb]; exact zbj)) hs), (hE18.mono (Zv.stay hz hs)), hc20, trivial⟩, ⟨fun v Z Z' w w' hΦ hz _ _ hs => by obtain ⟨b11, cs19, rfl, hO11, hE19, hc21, -⟩ := hΦ; exact ⟨b11, cs19, rfl, (hO11.stay (fun b hb => by cases hb; exact zbj) hs), (hE19.mono (Zv.stay hz hs)), hc21, trivial⟩, trivial⟩⟩
     intro w16 hE20
     obtain ⟨hL20, K20⟩ := zl hL18 hE20
     refine zay (fun _ _ => zaq (zau zbi rfl ti23 rfl rfl rfl (er rfl))) ?_
     refine zay (fun _ hE22 => zaq (zav zbc rfl rfl ((hL20.ext hE22).at 1 rfl rfl) rfl (er rfl))) ?_
     refine DrH.rel ?_ ?_
     ·
      rintro w19 Z21 hE23 hZ12 ⟨-⟩
      have K21 := ke hL20 hE23
      refine zaq (zbz en60 rfl rfl (cloneTest_w N c.tests c_v _ Any (((((((f11.mono (K14 S)).mono (K16 S)).mono (K17 S)).mono (K18 S)).mono (K20 S)).mono (K21 S)).mono vw_any) r12 q16) ?_)
      rintro _ w20 hE24 ⟨ob18, cap18, cs18, sp18, rfl, hN12, hE18, hc20, -⟩
      exact Made.ext hE24 hZ12 hN12 (fun b hb => footV_osv.1 hb) ⟨ob18, cap18, cs18, sp18, rfl, hN12.2.2.1, (hE18.mono Zv.made), hc20, trivial⟩
     intro z2
     refine zay (fun _ _ => zaq (zae rfl (er rfl))) ?_
     refine zay (fun _ _ => zaq (zae rfl (er rfl))) ?_
     refine zay (fun _ hE27 => zaq (zcj (pre := []) (r := rStr) (xs := r11) zax rfl ((hL20.ext hE27).at 0 rfl rfl) ((f15.mono (K20 None)).mono ((ke hL20 hE27) None)) rfl rfl (er rfl))) ?_
     refine zay (fun _ _ => zaq (OpY.sub rfl rfl rfl (er rfl))) ?_
     refine zay (fun _ _ => zaq (zbd (r := rStr) (b := b10) (o := 0) (n := n11) (m := r11.length) (xs := r11) (q := (0 + n11 * rStr.sz)) zax ti9 (zef hb10) rfl rfl q18 q20 rfl (er rfl))) ?_
     refine zay (fun _ hE30 => zaq (zbx zba rfl rfl (zel hb10 ((hL20.ext hE30).at 0 rfl rfl)) q23 (er rfl))) ?_
     refine zay (fun _ _ => zaq (OpY.build (zc := [(zI 0), (zI 0), zF, (zah ⟨#[]⟩)]) (cs := [(zI 0), (zI 3), zT, (zS x12)]) (is := [1, 2, 3]) (vs := [(zI 3), zT, (zS x12)]) (css := [[(zI 3)], [zT], [(zS x12)]]) pl44 ti44 rfl rfl rfl ⟨rfl, rfl, rfl, trivial⟩ rfl (er rfl))) ?_
     refine DrH.rel ?_ ?_
     ·
      rintro w28 Z29 hE32 hZ20 ⟨-, -⟩
      have hE33 : Els rTTest (vZ w16 w None [ob16, some b1, ob17, ob15] Z29 w28) [(zI 0), (zI 3), zT, (zS x12)] [(TTest.mk 0 3 true x12)] := (zcp (a := [(zI 0), (zI 3), zT, (zS x12)]) (rTTest_close ⟨rfl, trivial⟩) zcq)
      refine zaq (zct (r := rTTest) (vs := [(zbo #[(zI 0), (zI 3), zT, (zS x12)])]) (css := [[(zI 0), (zI 3), zT, (zS x12)]]) (xs := [(TTest.mk 0 3 true x12)]) zbc ti44 (zai rfl) rfl rfl ⟨rfl, rfl, trivial⟩ (zai rfl) hE33 rfl (Go.X.Loc.begin0 w28) ?_)
      intro b11 w29 hc22 hL24 hS11
      have hN13 : NewOwn w28 w29 [some b11] [zab ([] ++ ([(zI 0), (zI 3), zT, (zS x12)] ++ []))] := hL24.newOwn [0] rfl rfl rfl
      exact Made.ext hL24.done hZ20 hN13 (fun _ h => h) ⟨b11, [(zI 0), (zI 3), zT, (zS x12)], rfl, hN13.2.2.1, (hE33.mono (Zv.grow hL24.done)), hc22, trivial⟩
     intro z10
     refine zdj ?_
     rintro w30 Z30 hE34 hZ21 ⟨⟨⟨b11, cs19, rfl, hO11, hE19, hc21, -⟩, hB10⟩, ⟨⟨ob18, cap18, cs18, sp18, rfl, hO10, hE18, hc20, -⟩, hB2⟩, -⟩ ap10
     have hB11 : ∀ b, some b ∈ ([some b11, ob18] : List (Option Nat)) → w16.heap.size ≤ b ∧ ¬ Z30 b := by
      intro b hb
      rcases List.mem_cons.1 hb with hb' | hb
      ·
       have := hB10 b (by rw [hb']; exact zbj); exact ⟨this.1, this.2.2⟩
      rcases List.mem_cons.1 hb with hb' | hb
      ·
       have := hB2 b ((zeb (ob := ob18) (o := 0) (n := r12.length) (cap := cap18)).2 (by rw [hb']; exact zbj)); exact ⟨this.1, this.2.2⟩
      cases hb
     replace hE19 := hE19.mono (Zv.fin hL20 hZ21 hB11)
     replace hE18 := hE18.mono (Zv.fin hL20 hZ21 hB11)
     have hN14 : NewOwn w16 w30 [some b11, ob18] [zab ([] ++ (cs19 ++ [])), zab ([] ++ (cs18 ++ sp18))] := (NewOwn.cons (NewOwn.cons NewOwn.nil hO10 (fun b hb => (hB11 b (by rw [← hb]; simp)).1) (fun b _ hb => by cases hb)) hO11 (fun b hb => (hB11 b (by rw [← hb]; simp)).1) (fun b hb hm => (List.mem_cons.1 hm).elim (fun e => apE (ap10.1) rfl rfl b ((zeb (ob := (some b11)) (o := 0) (n := 1) (cap := 1)).2 hb) ((zeb (ob := ob18) (o := 0) (n := r12.length) (cap := cap18)).2 (by rw [e]; exact zbj))) (fun hm => by cases hm)))
     have hp16 := hL20.adoptL hE34 hN14
     have hL25 := hp16.1
     have K23 := ks w hp16.2
     obtain ⟨x13, q24, h⟩ := zdt h
     obtain ⟨q25, q26, q27⟩ := zek q24
     refine zag (zcw (r := rTTest) (H := (vH w None [some b11, ob18, ob16, some b1, ob17, ob15] w30)) (cs := cs18) (sp := sp18) (xs := r12) (ys := [(TTest.mk 0 3 true x12)]) (Y := x13) (n := r12.length) (cap := cap18) (i := 1) zbc ti44 rfl rfl rfl rfl hL25 rfl rfl hE18 rfl hc20 (Src.row (pre := []) (o := 0) (n := 1) (cap := 1) (hL25.at 0 rfl rfl) hE19 rfl rfl rfl) (zcg (fun _ _ _ _ h => h) hE19) q25 q26 q27 ?_)
     intro ob19 cap19 sp19 cs20 w31 hE35 hc23 (hL26 : vL w w31 [some b11, ob19, ob16, some b1, ob17, ob15] [zab ([] ++ (cs19 ++ [])), zab ([] ++ (cs20 ++ sp19)), zab ([] ++ (cs16 ++ sp16)), zab [(zI c.low), (zI c.high), c_v, c_v1, c_v2], zab ([] ++ (cs17 ++ sp17)), zab ([] ++ (cs15 ++ sp15))]) hS12
     have K24 := ks w hS12
     refine zag (zal (v := (zO ob19 x13 cap19)) rfl ?_)
     refine zas (zbh ?_)
     have hp17 := hL26.pick [3, 4, 1] rfl rfl rfl
     have hL27 : vL w w31 [some b1, ob17, ob19] [zab [(zI c.low), (zI c.high), c_v, c_v1, c_v2], zab ([] ++ (cs17 ++ sp17)), zab ([] ++ (cs20 ++ sp19))] := hp17.1
     have K25 := ks w hp17.2
     have f17 := (((((hE17.mono (K18 None)).mono (K20 None)).mono (K23 None)).mono (K24 None)).mono (K25 None))
     have f18 := ((hE35.mono (K24 None)).mono (K25 None))
     obtain rfl := zad h
     refine zat ⟨(x11, x13), rfl, ?_⟩
     exact ⟨ob17, cap17, sp17, cs17, x11.length, ob19, cap19, sp19, cs20, x13.length, _, (zdx ⟨rfl, rfl, rfl, rfl, rfl, trivial⟩), hL27, (zam (zam (zam (zam (zam (zam K16 K17) K18) K20) K23) K24) K25), f17, rfl, hc18, f18, rfl, hc23, trivial⟩
    replace h := ite_f hc16 h
    refine zcf rfl ?_
    have hp18 := hL16.pick [0, 1] rfl rfl rfl
    have hL28 : vL w w13 [some b1, ob14] [zab [(zI c.low), (zI c.high), c_v, c_v1, c_v2], zab ([] ++ (cs14 ++ sp14))] := hp18.1
    have K26 := ks w hp18.2
    have f19 := (hE13.mono (K26 None))
    obtain rfl := zad h
    obtain rfl := hd11 _ rfl
    replace h := g12
    try dsimp only at h
    refine zat ?_
    exact ⟨out13, ob14, cap14, sp14, cs14, out13.length, _, rfl, (zdx ⟨rfl, rfl, rfl, rfl, trivial⟩), hL28, (zam K16 K26), f19, rfl, hc14, trivial⟩
   rintro _ w32 ⟨out12, ob13, cap13, sp13, cs13, ln12, u, rfl, rfl, hL29, K27, hE36, rfl, hc24, -⟩
   replace h := g12
   try dsimp only at h
   refine zbh (zaf rfl (zag (zae (v := (zI n10)) rfl ?_)))
   refine zag (zce (x := n10) (y := 1) (z := (iw (n10 + 1))) rfl rfl rfl ?_)
   refine zag (zal (v := (zI (iw (n10 + 1)))) rfl (zas ?_))
   obtain rfl := zad h
   refine zat ⟨(out12, (iw (n10 + 1))), rfl, ?_⟩
   exact ⟨ob13, cap13, sp13, cs13, out12.length, _, (zdx ⟨rfl, rfl, rfl, rfl, trivial⟩), hL29, (zam (zam (zam K12 K13) K14) K27), hE36, rfl, hc24, trivial⟩
  replace h := ite_f hc12 h
  refine zcf rfl ?_
  have hp19 := hL13.pick [1] rfl rfl rfl
  have hL30 : vL w w11 [ob11] [zab ([] ++ (cs11 ++ sp11))] := hp19.1
  have K28 := ks w hp19.2
  have f20 := ((hE10.mono (K13 None)).mono (K28 None))
  obtain rfl := zad h
  obtain rfl := hd10 _ rfl
  replace h := g10
  try dsimp only at h
  refine zat ?_
  exact ⟨out11, ob11, cap11, sp11, cs11, out11.length, _, rfl, (zdx zrt), hL30, (zam (zam K12 K13) K28), f20, rfl, hc10, trivial⟩
 rintro _ w33 ⟨out10, ob10, cap10, sp10, cs10, ln10, u, rfl, rfl, hL31, K29, hE37, rfl, hc25, -⟩
 replace h := g10
 try dsimp only at h
 refine zan (zaf rfl (zag (zae (v := (zO ob10 out10 cap10)) rfl ?_)))
 refine zag (zal (v := (zO ob10 out10 cap10)) rfl ?_)
 refine zas (zbq ?_)
 obtain rfl := zad h
 refine ⟨[(zO ob10 out10 cap10)], zrt, ⟨_, rfl, hL31.done, ?_⟩⟩
 exact ⟨ob10, cap10, cs10, sp10, rfl, (hL31.newOwn [0] rfl rfl rfl), (hE37.mono (zds [0] rfl)), hc25, trivial⟩
theorem tLengths_w (N : Nat) (p : TProb) (pb : Int) (p_v : Value) (p_v1 : Value) (p_v2 : Value) (p_v3 : Value) (p_v4 : Value) (w : World) (S : Nat → Prop) (p_h : Rs rI (vH w S [] w) p_v p.Min) (p_h1 : Rs rI (vH w S [] w) p_v1 p.Max) (p_h2 : Rs rTTest (vH w S [] w) p_v2 p.Tests) (p_h3 : Rs rArr2Int (vH w S [] w) p_v3 p.Same) (p_h4 : Rs rArr2Int (vH w S [] w) p_v4 p.Different) (r : (List Int)) (h : tLengths N p pb = some r) :
  Calls Try.prog 19 #[(zbo #[p_v, p_v1, p_v2, p_v3, p_v4]), (zI pb)] w (Ret w (fun v w' => ∃ (ob0 : Option Nat) (cap0 : Nat) (cs0 : List Value) (sp0 : List Value), (zO ob0 r cap0) = v ∧ NewOwn w w' [ob0] [zab ([] ++ (cs0 ++ sp0))] ∧ Els rI (vH w None [ob0] w') cs0 r ∧ (cs0 ++ sp0).length = cap0 * rI.sz ∧ True)) := by
 unfold tLengths at h
 have hL : vL w w [] [] := Go.X.Loc.begin0 w
 refine calls_of (l := [(zbo #[p_v, p_v1, p_v2, p_v3, p_v4]), (zI pb)]) (rl := [.tmp 4]) (n := 52) Try.func19 rfl rfl rfl (zai rfl) ?_
 refine zan (zaf rfl (zag (zdr (cs := [p_v, p_v1, p_v2, p_v3, p_v4]) rfl rfl hL ?_)))
 intro b1 w2 hL3 hS5
 have K4 := ks w hS5
 refine zag (zal (v := zN) rfl ?_)
 refine zas (zan (zan ?_))
 obtain ⟨s10, h, g10⟩ := zdt h
 refine zbu (fun e w' => ∃ (x9 : Bool) (u : Env), x9 = s10 ∧ e = upds [(1, (zI pb)), (2, (zak (some ⟨b1, 0, none⟩))), (19, (zac x9))] u ∧ vL w w' [some b1] [zab [p_v, p_v1, p_v2, p_v3, p_v4]] ∧ Keep w.heap.size [some b1] w2 [some b1] w' ∧ True) ?_ ?_
 ·
  refine zaf rfl (zag (zae (v := (zI pb)) rfl ?_))
  refine zag (zck (x := pb) (y := 0) ((pb : Int) < 0) rfl rfl zbk ?_)
  refine zag (zae (v := (zac (decide ((pb : Int) < 0)))) rfl ?_)
  by_cases hc10 : (pb : Int) < 0
  ·
   replace h := ite_t hc10 h
   refine zbe rfl rfl (zdv hc10) (zbe rfl rfl (zdv hc10) (zbe rfl rfl (zdv hc10) (zbe rfl rfl (zdv hc10) (zbe rfl rfl (zdv hc10) ?_))))
   refine zag (zbr (t := (decide ((pb : Int) < 0))) (v := zT) rfl (zdv hc10) rfl (zas ?_))
   obtain rfl := zad h
   refine zat ?_
   exact ⟨true, _, rfl, (zdx ⟨rfl, rfl, rfl, trivial⟩), hL3, zbt, trivial⟩
  replace h := ite_f hc10 h
  refine zaz rfl rfl (zdu hc10) (zae (v := (zI pb)) rfl ?_)
  refine zaz rfl rfl (zdu hc10) (zau (q := 0) zbw rfl ti22 rfl rfl rfl ?_)
  refine zaz rfl rfl (zdu hc10) (zav (v := p_v) zao rfl rfl (hL3.at 0 rfl rfl) rfl ?_)
  have f10 := (p_h.mono (K4 S))
  refine zaz rfl rfl (zdu hc10) (zcc (v := p_v) zao rfl f10 ?_)
  refine zaz rfl rfl (zdu hc10) (OpY.geq (x := pb) (y := (p.Min.length : Int)) ((pb : Int) ≥ (p.Min.length : Int)) rfl rfl zbk ?_)
  refine zag (zbp (t := (decide ((pb : Int) < 0))) (v := (zac (decide ((pb : Int) ≥ (p.Min.length : Int))))) rfl (zdu hc10) rfl (zas ?_))
  obtain rfl := zad h
  refine zat ?_
  exact ⟨(decide ((pb : Int) ≥ (p.Min.length : Int))), _, rfl, (zdx ⟨rfl, rfl, rfl, trivial⟩), hL3, zbt, trivial⟩
 rintro _ w10 ⟨x9, u, rfl, rfl, hL10, K10, -⟩
 replace h := g10
 try dsimp only at h
 refine zch x9 rfl (fun hc11 => ?_) (fun hc11 => ?_)
 ·
  replace h := ite_t hc11 h
  refine zan (zaf rfl (zag (zal (v := zN) rfl (zas ?_))))
  have hp10 := hL10.addNil
  have hL11 : vL w w10 [none, some b1] [zab ([] ++ ([] ++ [])), zab [p_v, p_v1, p_v2, p_v3, p_v4]] := hp10.1
  have hE10 : Els rI (vH w None [none, some b1] w10) [] [] := zcq
  refine zbq ?_
  obtain rfl := zad h
  refine ⟨[(osv none 0 (List.length ([] : (List Int))) 0)], zrt, ⟨_, rfl, hL11.done, ?_⟩⟩
  exact ⟨none, 0, [], [], rfl, (hL11.newOwn [0] rfl rfl rfl), (hE10.mono (zds [0] rfl)), (show ([] ++ [] : List Value).length = 0 * rI.sz by simp), trivial⟩
 replace h := ite_f hc11 h
 refine zbl (zan (zaf rfl (zag (zcu (vs := [p_v, p_v1, p_v2, p_v3, p_v4]) zbw rfl ti31 rfl (hL10.at 0 rfl rfl) rfl rfl ?_))))
 obtain ⟨r10, q10, h⟩ := zdt h
 have f11 := ((p_h.mono (K4 S)).mono (K10 S))
 have f12 := ((p_h1.mono (K4 S)).mono (K10 S))
 have f13 := ((p_h2.mono (K4 S)).mono (K10 S))
 have f14 := ((p_h3.mono (K4 S)).mono (K10 S))
 have f15 := ((p_h4.mono (K4 S)).mono (K10 S))
 refine zag (zbz en31 rfl rfl (tgathered_w N p p_v p_v1 p_v2 p_v3 p_v4 _ Any (f11.mono vw_any) (f12.mono vw_any) (f13.mono vw_any) (f14.mono vw_any) (f15.mono vw_any) r10 q10) ?_)
 rintro _ w11 hE11 ⟨ob10, cap10, cs10, sp10, ob11, cap11, cs11, sp11, rfl, hN10, hE12, hc12, hE13, hc13, -⟩
 replace hE12 := hE12.mono (zbs (S := None) hL10 [ob10, ob11])
 replace hE13 := hE13.mono (zbs (S := None) hL10 [ob10, ob11])
 have hp11 := hL10.adoptL hE11 hN10
 have hL12 := hp11.1
 refine zag (zae (v := (Value.tuple #[(zO ob10 r10.1 cap10), (zO ob11 r10.2.1 cap11), (zac r10.2.2)])) rfl ?_)
 refine zag (zcl (vs := [(zO ob10 r10.1 cap10), (zO ob11 r10.2.1 cap11), (zac r10.2.2)]) (v := (zO ob10 r10.1 cap10)) rfl rfl ?_)
 refine zag (zcl (vs := [(zO ob10 r10.1 cap10), (zO ob11 r10.2.1 cap11), (zac r10.2.2)]) (v := (zO ob11 r10.2.1 cap11)) rfl rfl ?_)
 refine zag (zcl (vs := [(zO ob10 r10.1 cap10), (zO ob11 r10.2.1 cap11), (zac r10.2.2)]) (v := (zac r10.2.2)) rfl rfl ?_)
 refine zag (zal (v := (zO ob10 r10.1 cap10)) rfl ?_)
 refine zag (zal (v := (zO ob11 r10.2.1 cap11)) rfl ?_)
 refine zag (zal (v := (zac r10.2.2)) rfl ?_)
 refine zas (zan (zaf rfl (zag (zae (v := (zO ob10 r10.1 cap10)) rfl ?_))))
 refine zag (zae (v := (zO ob11 r10.2.1 cap11)) rfl ?_)
 refine zag (zae (v := (zI pb)) rfl ?_)
 obtain ⟨x10, n10, q12, q13, q14, h⟩ := zix h
 obtain ⟨b10, hb10⟩ := hL12.row_some 1 rfl rfl (zem (pre := []) hE13 q13 (Nat.lt_of_sub_eq_succ rfl))
 refine zag (zbd (r := rI) (b := b10) (o := 0) (n := n10) (m := r10.2.1.length) (xs := r10.2.1) (q := (0 + n10 * rI.sz)) zao ti3 (zef hb10) rfl rfl q12 q14 rfl ?_)
 obtain ⟨vs10, q15, q16, q17⟩ := zee (pre := []) (sp := sp11) hE13 q13
 obtain rfl := q16
 refine zag (zbx (v := (zI x10)) zaw rfl rfl (zel hb10 (hL12.at 1 rfl rfl)) q17 ?_)
 obtain ⟨x11, n11, q19, q20, q21, h⟩ := zix h
 obtain ⟨b11, hb11⟩ := hL12.row_some 0 rfl rfl (zem (pre := []) hE12 q20 (Nat.lt_of_sub_eq_succ rfl))
 refine zag (zbd (r := rTClass) (b := b11) (o := 0) (n := n11) (m := r10.1.length) (xs := r10.1) (q := (0 + n11 * rTClass.sz)) zap ti56 (zef hb11) rfl rfl q19 q21 rfl ?_)
 obtain ⟨vs11, q22, q23, q24⟩ := zee (pre := []) (sp := sp10) hE12 q20
 obtain ⟨v10, v11, v12, rfl, k10, k11, k12, -⟩ := rTClass_open q23
 refine zag (zcu (vs := [(zI x11.low), (zI x11.high), v10, v11, v12]) zbi rfl ti56 rfl (zel hb11 (hL12.at 0 rfl rfl)) rfl q24 ?_)
 refine zag (zdh (cs := [(zI 0), (zI 0), zN, zN, zN]) ti56 rfl hL12 ?_)
 intro b12 w12 hL13 hS10
 have K11 := ks w hS10
 have f16 := (k12.mono (K11 None))
 have f17 := (k11.mono (K11 None))
 have f18 := (k10.mono (K11 None))
 refine zde (zcv (vs := [(zI x11.low), (zI x11.high), v10, v11, v12]) ti56 rfl rfl rfl rfl (zdz rfl (zdz rfl (zdz f18.one (zdz f17.one (zdz f16.one zej))))) hL13 0 rfl rfl (zai rfl) ?_)
 intro w13 (hL14 : vL w w13 [some b12, ob10, ob11, some b1] [zab [(zI x11.low), (zI x11.high), v10, v11, v12], zab ([] ++ (cs10 ++ sp10)), zab ([] ++ (cs11 ++ sp11)), zab [p_v, p_v1, p_v2, p_v3, p_v4]]) hS11
 have K12 := ks w hS11
 refine zas (zan (zaf rfl (zag (zal (v := zN) rfl ?_))))
 refine zas (zan (zan (zaf rfl (zag (zau (q := 0) zbi rfl ti3 rfl rfl rfl ?_)))))
 refine zag (zav (v := (zI x11.low)) zaw rfl rfl (hL14.at 0 rfl rfl) rfl ?_)
 refine zag (zal (v := (zI x11.low)) rfl (zas ?_))
 obtain ⟨s11, hl10, g11⟩ := zdt h
 refine zbu (fun e w' => ∃ (out10 : (List Int)) (ob12 : Option Nat) (cap12 : Nat) (sp12 : List Value) (cs12 : List Value) (ln10 : Nat) (u : Env), out10 = s11 ∧ e = upds [(9, (osv ob12 0 ln10 cap12))] u ∧ vL w w' [ob12] [zab ([] ++ (cs12 ++ sp12))] ∧ Keep w.heap.size [some b12, ob10, ob11, some b1] w13 [ob12] w' ∧ Els rI (vH w None [ob12] w') cs12 out10 ∧ ln10 = List.length out10 ∧ (cs12 ++ sp12).length = cap12 * rI.sz ∧ True) ?_ ?_
 ·
  refine zbb ?_
  have hp12 := hL14.addNil
  have hL15 : vL w w13 [none, some b12, ob10, ob11, some b1] [zab ([] ++ ([] ++ [])), zab [(zI x11.low), (zI x11.high), v10, v11, v12], zab ([] ++ (cs10 ++ sp10)), zab ([] ++ (cs11 ++ sp11)), zab [p_v, p_v1, p_v2, p_v3, p_v4]] := hp12.1
  have K13 := ks w hp12.2
  have hp13 := hL15.pick [1, 0] rfl rfl rfl
  have hL16 : vL w w13 [some b12, none] [zab [(zI x11.low), (zI x11.high), v10, v11, v12], zab ([] ++ ([] ++ []))] := hp13.1
  have K14 := ks w hp13.2
  have f19 := ((zcq (r := rI)).mono (K14 None))
  refine zca hl10 (fun (ss : ((List Int) × Int)) (e : Env) (w' : World) => match ss with | (out11, n12) => ∃ (ob13 : Option Nat) (cap13 : Nat) (sp13 : List Value) (cs13 : List Value) (ln11 : Nat) (u : Env), e = upds [(8, (zak (some ⟨b12, 0, none⟩))), (9, (osv ob13 0 ln11 cap13)), (10, (zI n12))] u ∧ vL w w' [some b12, ob13] [zab [(zI x11.low), (zI x11.high), v10, v11, v12], zab ([] ++ (cs13 ++ sp13))] ∧ Keep w.heap.size [some b12, ob10, ob11, some b1] w13 [some b12, ob13] w' ∧ Els rI (vH w None [some b12, ob13] w') cs13 out11 ∧ ln11 = List.length out11 ∧ (cs13 ++ sp13).length = cap13 * rI.sz ∧ True) ⟨none, 0, [], [], (List.length ([] : (List Int))), _, (zdx ⟨rfl, rfl, rfl, trivial⟩), hL16, (zam K13 K14), f19, rfl, (show ([] ++ [] : List Value).length = 0 * rI.sz by simp), trivial⟩ ?_
  rintro ⟨out11, n12⟩ oo _ w14 ⟨ob13, cap13, sp13, cs13, ln11, u, rfl, hL17, K15, hE14, rfl, hc14, -⟩ h hd10
  rw [tLengths_b1] at h
  refine zan (zan (zaf rfl (zag (zae (v := (zI n12)) rfl ?_))))
  refine zag (zau (q := 1) zbi rfl ti3 rfl rfl rfl ?_)
  refine zag (zav (v := (zI x11.high)) zaw rfl rfl (hL17.at 0 rfl rfl) rfl ?_)
  refine zag (OpY.leq (x := n12) (y := x11.high) ((n12 : Int) ≤ x11.high) rfl rfl zbk (zas ?_))
  refine zbm ((n12 : Int) ≤ x11.high) rfl (fun hc15 => ?_) (fun hc15 => ?_)
  ·
   replace h := ite_t hc15 h
   refine zbl (zan (zbb (zan (zaf rfl (zag (zau (q := 2) zbi rfl ti23 rfl rfl rfl ?_))))))
   refine zag (zav (v := v10) zbc rfl rfl (hL17.at 0 rfl rfl) rfl ?_)
   refine zag (zae (v := (zI n12)) rfl ?_)
   obtain ⟨r11, q25, h⟩ := zdt h
   have f20 := ((f18.mono (K12 None)).mono (K15 None))
   refine zag (zbz en39 rfl rfl (pWords_w N x11.tests n12 1 v10 _ Any (f20.mono vw_any) r11 q25) ?_)
   rintro _ w15 hE15 ⟨ob14, cap14, cs14, sp14, rfl, hN11, hE16, hc16, -⟩
   replace hE16 := hE16.mono (zbs (S := None) hL17 [ob14])
   have hp14 := hL17.adoptL hE15 hN11
   have hL18 := hp14.1
   have K16 := ks w hp14.2
   refine zag (zcj (pre := []) (r := rStr) (xs := r11) zax rfl (hL18.at 0 rfl rfl) hE16 rfl rfl ?_)
   refine zag (OpY.gtr (x := (r11.length : Int)) (y := 0) (((r11.length : Int) : Int) > 0) rfl rfl zbk (zas ?_))
   refine zbm (((r11.length : Int) : Int) > 0) rfl (fun hc17 => ?_) (fun hc17 => ?_)
   ·
    replace h := ite_t hc17 h
    refine zaf rfl (zag (zae (v := (zO ob13 out11 cap13)) rfl ?_))
    refine zag (zae (v := (zI n12)) rfl ?_)
    have hE17 : Els rI (vH w None [ob14, some b12, ob13] w15) [(zI n12)] [n12] := (zcp (a := [(zI n12)]) rfl zcq)
    refine zag (zct (r := rI) (vs := [(zI n12)]) (css := [[(zI n12)]]) (xs := [n12]) zao ti3 (zai rfl) rfl rfl ⟨rfl, rfl, trivial⟩ (zai rfl) hE17 rfl hL18 ?_)
    intro b13 w16 hc18 hL19 hS12
    have K17 := ks w hS12
    obtain ⟨x12, q26, h⟩ := zdt h
    obtain ⟨q27, q28, q29⟩ := zek q26
    have f21 := (hE17.mono (K17 None))
    have f22 := ((hE14.mono (K16 None)).mono (K17 None))
    refine zag (zcw (r := rI) (H := (vH w None [some b13, ob14, some b12, ob13] w16)) (cs := cs13) (sp := sp13) (xs := out11) (ys := [n12]) (Y := x12) (n := out11.length) (cap := cap13) (i := 3) zao ti3 rfl rfl rfl rfl hL19 rfl rfl f22 rfl hc14 (Src.row (pre := []) (o := 0) (n := 1) (cap := 1) (hL19.at 0 rfl rfl) f21 rfl rfl rfl) (zcg (fun _ _ _ _ h => h) f21) q27 q28 q29 ?_)
    intro ob15 cap15 sp15 cs15 w17 hE18 hc19 (hL20 : vL w w17 [some b13, ob14, some b12, ob15] [zab ([] ++ ([(zI n12)] ++ [])), zab ([] ++ (cs14 ++ sp14)), zab [(zI x11.low), (zI x11.high), v10, v11, v12], zab ([] ++ (cs15 ++ sp15))]) hS13
    have K18 := ks w hS13
    refine zag (zal (v := (zO ob15 x12 cap15)) rfl ?_)
    refine zas (zbh (zaf rfl (zag (zae (v := (zI n12)) rfl ?_))))
    refine zag (zce (x := n12) (y := 1) (z := (iw (n12 + 1))) rfl rfl rfl ?_)
    refine zag (zal (v := (zI (iw (n12 + 1)))) rfl (zas ?_))
    have hp15 := hL20.pick [2, 3] rfl rfl rfl
    have hL21 : vL w w17 [some b12, ob15] [zab [(zI x11.low), (zI x11.high), v10, v11, v12], zab ([] ++ (cs15 ++ sp15))] := hp15.1
    have K19 := ks w hp15.2
    have f23 := ((hE18.mono (K18 None)).mono (K19 None))
    obtain rfl := zad h
    refine zat ⟨(x12, (iw (n12 + 1))), rfl, ?_⟩
    exact ⟨ob15, cap15, sp15, cs15, x12.length, _, (zdx ⟨rfl, rfl, rfl, trivial⟩), hL21, (zam (zam (zam (zam K15 K16) K17) K18) K19), f23, rfl, hc19, trivial⟩
   replace h := ite_f hc17 h
   refine zbl (zbh (zaf rfl (zag (zae (v := (zI n12)) rfl ?_))))
   refine zag (zce (x := n12) (y := 1) (z := (iw (n12 + 1))) rfl rfl rfl ?_)
   refine zag (zal (v := (zI (iw (n12 + 1)))) rfl (zas ?_))
   have hp16 := hL18.pick [1, 2] rfl rfl rfl
   have hL22 : vL w w15 [some b12, ob13] [zab [(zI x11.low), (zI x11.high), v10, v11, v12], zab ([] ++ (cs13 ++ sp13))] := hp16.1
   have K20 := ks w hp16.2
   have f24 := ((hE14.mono (K16 None)).mono (K20 None))
   obtain rfl := zad h
   refine zat ⟨(out11, (iw (n12 + 1))), rfl, ?_⟩
   exact ⟨ob13, cap13, sp13, cs13, out11.length, _, (zdx ⟨rfl, rfl, rfl, trivial⟩), hL22, (zam (zam K15 K16) K20), f24, rfl, hc14, trivial⟩
  replace h := ite_f hc15 h
  refine zcf rfl ?_
  have hp17 := hL17.pick [1] rfl rfl rfl
  have hL23 : vL w w14 [ob13] [zab ([] ++ (cs13 ++ sp13))] := hp17.1
  have K21 := ks w hp17.2
  have f25 := (hE14.mono (K21 None))
  obtain rfl := zad h
  obtain rfl := hd10 _ rfl
  replace h := g11
  try dsimp only at h
  refine zat ?_
  exact ⟨out11, ob13, cap13, sp13, cs13, out11.length, _, rfl, (zdx zrt), hL23, (zam K15 K21), f25, rfl, hc14, trivial⟩
 rintro _ w18 ⟨out10, ob12, cap12, sp12, cs12, ln10, u, rfl, rfl, hL24, K22, hE19, rfl, hc20, -⟩
 replace h := g11
 try dsimp only at h
 refine zan (zaf rfl (zag (zae (v := (zO ob12 out10 cap12)) rfl ?_)))
 refine zag (zal (v := (zO ob12 out10 cap12)) rfl ?_)
 refine zas (zbq ?_)
 obtain rfl := zad h
 refine ⟨[(zO ob12 out10 cap12)], zrt, ⟨_, rfl, hL24.done, ?_⟩⟩
 exact ⟨ob12, cap12, cs12, sp12, rfl, (hL24.newOwn [0] rfl rfl rfl), (hE19.mono (zds [0] rfl)), hc20, trivial⟩
theorem revInt_w (N : Nat) (s : (List Int)) (s_ob : Option Nat) (s_cap : Nat) (s_cs : List Value) (s_sp : List Value) (X : List (Option Nat)) (w : World) (S : Nat → Prop) (hL : Go.X.Loc X [] w w [s_ob] [zab ([] ++ (s_cs ++ s_sp))]) (s_hE : Els rI (vH w S [s_ob] w) s_cs s) (s_hc : (s_cs ++ s_sp).length = s_cap * rI.sz) (r : (List Int)) (h : revInt N s = some r) :
  Calls Try.prog 35 #[(osv s_ob 0 s.length s_cap)] w (fun e w' => ∃ (o0_cs : List Value) (o0_sp : List Value), e = Ending.returned (Value.tuple #[]) ∧ Go.X.Loc X [] w w' [s_ob] [zab ([] ++ (o0_cs ++ o0_sp))] ∧ Keep w.heap.size [s_ob] w [s_ob] w' ∧ List.length s = List.length r ∧ Els rI (vH w S [s_ob] w') o0_cs r ∧ (o0_cs ++ o0_sp).length = s_cap * rI.sz ∧ True) := by
 unfold revInt at h
 refine calls_of (l := [(osv s_ob 0 s.length s_cap)]) (rl := []) (n := 28) Try.func35 rfl rfl rfl (zai rfl) ?_
 refine zan (zaf rfl (zag (zae (v := (osv s_ob 0 s.length s_cap)) rfl ?_)))
 refine zag (zcj (pre := []) (r := rI) (xs := s) zao rfl (hL.at 0 rfl rfl) s_hE rfl rfl ?_)
 refine zag (OpY.sub (x := (s.length : Int)) (y := 1) (z := (iw ((s.length : Int) - 1))) rfl rfl rfl ?_)
 refine zag (zal (v := (zI 0)) rfl ?_)
 refine zag (zal (v := (zI (iw ((s.length : Int) - 1)))) rfl (zas ?_))
 obtain ⟨s10, hl10, g10⟩ := zdt h
 refine zbu (fun e w' => ∃ (s11 : (List Int)) (cs10 : List Value) (u : Env), s11 = s10 ∧ e = upds [(0, (osv s_ob 0 s.length s_cap))] u ∧ Go.X.Loc X [] w w' [s_ob] [zab ([] ++ (cs10 ++ s_sp))] ∧ Keep w.heap.size [s_ob] w [s_ob] w' ∧ Els rI (vH w S [s_ob] w') cs10 s11 ∧ s.length = List.length s11 ∧ (cs10 ++ s_sp).length = s_cap * rI.sz ∧ True) ?_ ?_
 ·
  refine zbb ?_
  refine zca hl10 (fun (ss : ((List Int) × Int × Int)) (e : Env) (w' : World) => match ss with | (s12, i10, j10) => ∃ (cs11 : List Value) (u : Env), e = upds [(0, (osv s_ob 0 s.length s_cap)), (2, (zI i10)), (3, (zI j10))] u ∧ Go.X.Loc X [] w w' [s_ob] [zab ([] ++ (cs11 ++ s_sp))] ∧ Keep w.heap.size [s_ob] w [s_ob] w' ∧ Els rI (vH w S [s_ob] w') cs11 s12 ∧ s.length = List.length s12 ∧ (cs11 ++ s_sp).length = s_cap * rI.sz ∧ True) ⟨s_cs, _, (zdx ⟨rfl, rfl, rfl, trivial⟩), hL, zbt, s_hE, rfl, s_hc, trivial⟩ ?_
  rintro ⟨s12, i10, j10⟩ oo _ w10 ⟨cs11, u, rfl, hL10, K10, hE10, hl11, hc10, -⟩ h hd10
  rw [revInt_b1] at h
  refine zan (zan (zaf rfl (zag (zae (v := (zI i10)) rfl ?_))))
  refine zag (zae (v := (zI j10)) rfl ?_)
  refine zag (zck (x := i10) (y := j10) ((i10 : Int) < j10) rfl rfl zbk (zas ?_))
  refine zbm ((i10 : Int) < j10) rfl (fun hc11 => ?_) (fun hc11 => ?_)
  ·
   replace h := ite_t hc11 h
   refine zbl (zan (zbb ?_))
   obtain ⟨x10, n10, q11, q12, q13, h⟩ := zix h
   obtain ⟨b10, hb10⟩ := hL10.row_some 0 rfl rfl (zem (pre := []) hE10 q12 (Nat.lt_of_sub_eq_succ rfl))
   obtain ⟨vs10, q14, q15, q16⟩ := zee (pre := []) (sp := s_sp) hE10 q12
   obtain rfl := q15
   obtain ⟨x11, n11, q18, q19, q20, h⟩ := zix h
   obtain ⟨vs11, q21, q22, q23⟩ := zee (pre := []) (sp := s_sp) hE10 q19
   obtain rfl := q22
   refine zcz 12 [] [2, 3] (fun W1 => [.det (osv s_ob 0 s.length s_cap), .det (zI i10), .det (osv s_ob 0 s.length s_cap), .det (zI j10), .det (osv s_ob 0 s.length s_cap), .det (zI j10), .det (zak (some ⟨b10, (0 + n10 * rI.sz), none⟩)), .det (zI x10), .det (osv s_ob 0 s.length s_cap), .det (zI i10), .det (zak (some ⟨b10, (0 + n11 * rI.sz), none⟩)), .det (zI x11)]) mixed rfl rfl rfl (fun _ => rfl) (fun _ => rfl) ?_ ?_
   ·
    intro W1 _
    exact trivial
   intro w11 hE11
   obtain ⟨hL11, K11⟩ := zl hL10 hE11
   refine zay (fun _ _ => zaq (zae rfl (er rfl))) ?_
   refine zay (fun _ _ => zaq (zae rfl (er rfl))) ?_
   refine zay (fun _ _ => zaq (zae rfl (er rfl))) ?_
   refine zay (fun _ _ => zaq (zae rfl (er rfl))) ?_
   refine zay (fun _ _ => zaq (zae rfl (er rfl))) ?_
   refine zay (fun _ _ => zaq (zae rfl (er rfl))) ?_
   refine zay (fun _ _ => zaq (zbd (r := rI) (b := b10) (o := 0) (n := n10) (m := s.length) (xs := s12) (q := (0 + n10 * rI.sz)) zao ti3 (zef hb10) hl11 rfl q11 q13 rfl (er rfl))) ?_
   refine zay (fun _ hE19 => zaq (zbx zaw rfl rfl (zel hb10 ((hL11.ext hE19).at 0 rfl rfl)) q16 (er rfl))) ?_
   refine zay (fun _ _ => zaq (zae rfl (er rfl))) ?_
   refine zay (fun _ _ => zaq (zae rfl (er rfl))) ?_
   refine zay (fun _ _ => zaq (zbd (r := rI) (b := b10) (o := 0) (n := n11) (m := s.length) (xs := s12) (q := (0 + n11 * rI.sz)) zao ti3 (zef hb10) hl11 rfl q18 q20 rfl (er rfl))) ?_
   refine zay (fun _ hE23 => zaq (zbx zaw rfl rfl (zel hb10 ((hL11.ext hE23).at 0 rfl rfl)) q23 (er rfl))) ?_
   refine DrH.fin ?_
   rintro w24 Z31 hE24 hZ22 ⟨-⟩ ap10
   have hB10 := @zhb w11 Z31
   obtain ⟨hL14, K12⟩ := zl hL11 hE24
   obtain ⟨x12, n12, q25, q26, q27, h⟩ := zix h
   refine RlL.op (zbd (r := rI) (b := b10) (o := 0) (n := n12) (m := s.length) (xs := s12) (q := (0 + n12 * rI.sz)) zao ti3 (zef hb10) hl11 rfl q25 q27 rfl ?_)
   refine ⟨?_, ?_⟩
   ·
    refine zaj (i := 2) rfl rfl (zaq (zae (v := (osv s_ob 0 s.length s_cap)) rfl zrr)) ?_
    refine zaj (i := 3) rfl rfl (zaq (zae (v := (zI j10)) rfl zrr)) ?_
    exact zby
   obtain ⟨x13, n13, q29, q30, q31, h⟩ := zux h
   obtain rfl := zin q25 q29
   have f10 := ((hE10.mono (K11 S)).mono (K12 S))
   refine RlL.op0 (zdf (pre := []) (r := rI) (vs := [(zI x10)]) (a := x10) ti3 rfl rfl rfl rfl hL14 0 (congrArg some hb10) rfl f10 q27 rfl q31 ?_)
   have hl12 : s.length = List.length x13 := by rw [q31, List.length_set]; exact hl11
   intro w25 cs12 (hL15 : Go.X.Loc X [] w w25 [s_ob] [zab ([] ++ (cs12 ++ s_sp))]) hS10 hE25 q32
   have hc12 : (cs12 ++ s_sp).length = s_cap * rI.sz := zhc hc10 q32
   have K13 := ks w hS10
   refine ⟨?_, ?_⟩
   ·
    refine zaj (i := 2) rfl rfl (zaq (zae (v := (osv s_ob 0 s.length s_cap)) rfl zrr)) ?_
    refine zaj (i := 3) rfl rfl (zaq (zae (v := (zI j10)) rfl zrr)) ?_
    exact zby
   obtain ⟨x14, n14, q34, q35, q36, h⟩ := zix h
   refine RlL.op (zbd (r := rI) (b := b10) (o := 0) (n := n14) (m := s.length) (xs := x13) (q := (0 + n14 * rI.sz)) zao ti3 (zef hb10) hl12 rfl q34 q36 rfl ?_)
   refine ⟨?_, ?_⟩
   ·
    exact zby
   refine RlL_nil ?_
   obtain ⟨x15, n15, q38, q39, q40, h⟩ := zux h
   obtain rfl := zin q34 q38
   have f11 := (hE25.mono (K13 S))
   refine zde (zdf (pre := []) (r := rI) (vs := [(zI x11)]) (a := x11) ti3 rfl rfl rfl rfl hL15 0 (congrArg some hb10) rfl f11 q36 rfl q40 ?_)
   have hl13 : s.length = List.length x15 := by rw [q40, List.length_set]; exact hl12
   intro w26 cs13 (hL16 : Go.X.Loc X [] w w26 [s_ob] [zab ([] ++ (cs13 ++ s_sp))]) hS11 hE26 q41
   have hc13 : (cs13 ++ s_sp).length = s_cap * rI.sz := zhc hc12 q41
   have K14 := ks w hS11
   refine zas (zbh (zaf rfl (zag (zae (v := (zI i10)) rfl ?_))))
   refine zag (zce (x := i10) (y := 1) (z := (iw (i10 + 1))) rfl rfl rfl ?_)
   refine zag (zae (v := (zI j10)) rfl ?_)
   refine zag (OpY.sub (x := j10) (y := 1) (z := (iw (j10 - 1))) rfl rfl rfl ?_)
   refine zag (zal (v := (zI (iw (i10 + 1)))) rfl ?_)
   refine zag (zal (v := (zI (iw (j10 - 1)))) rfl (zas ?_))
   have f12 := (hE26.mono (K14 S))
   obtain rfl := zad h
   refine zat ⟨(x15, (iw (i10 + 1)), (iw (j10 - 1))), rfl, ?_⟩
   exact ⟨cs13, _, (zdx ⟨rfl, rfl, rfl, trivial⟩), hL16, (zam (zam (zam (zam K10 K11) K12) K13) K14), f12, hl13, hc13, trivial⟩
  replace h := ite_f hc11 h
  refine zcf rfl ?_
  obtain rfl := zad h
  obtain rfl := hd10 _ rfl
  replace h := g10
  try dsimp only at h
  refine zat ?_
  exact ⟨s12, cs11, _, rfl, (zdx zrt), hL10, K10, hE10, hl11, hc10, trivial⟩
 rintro _ w27 ⟨s11, cs10, u, rfl, rfl, hL17, K15, hE27, hl14, hc14, -⟩
 replace h := g10
 try dsimp only at h
 refine Swp.nil ?_
 obtain rfl := zad h
 refine ⟨[], trivial, ?_⟩
 exact ⟨cs10, s_sp, rfl, (by have h9 := hL17; (try rw [hl14] at h9); exact h9), K15, hl14, hE27, hc14, trivial⟩
theorem tchoose1_w (N : Nat) (other : Int) (ca : (List Bool)) (cb : (List (List UInt8))) (cc : (List UInt8)) (ca_b : Nat) (ca_v : Value) (cb_b : Nat) (cb_v : Value) (cc_b : Nat) (w : World) (S : Nat → Prop) (ca_at : At (vH w S [] w) ca_b 0 [ca_v]) (ca_h : Rs rBool (vH w S [] w) ca_v ca) (cb_at : At (vH w S [] w) cb_b 0 [cb_v]) (cb_h : Rs rStr (vH w S [] w) cb_v cb) (cc_at : At (vH w S [] w) cc_b 0 [(zS cc)]) (r : Bool) (h : tchoose1 N other ca cb cc = some r) :
  Calls Try.prog 62 #[(zI other), (zak (some ⟨ca_b, 0, none⟩)), (zak (some ⟨cb_b, 0, none⟩)), (zak (some ⟨cc_b, 0, none⟩))] w (Ret w (fun v w' => (zac r) = v ∧ True)) := by
 unfold tchoose1 at h
 have hL : vL w w [] [] := Go.X.Loc.begin0 w
 refine calls_of (l := [(zI other), (zak (some ⟨ca_b, 0, none⟩)), (zak (some ⟨cb_b, 0, none⟩)), (zak (some ⟨cc_b, 0, none⟩))]) (rl := [.tmp 5]) (n := 18) Try.func62 rfl rfl rfl (zai rfl) ?_
 refine zan (zaf rfl (zag (zal (v := zF) rfl ?_)))
 refine zas (zan ?_)
 obtain ⟨x1, n3, q4, q5, -, h⟩ := zix h
 obtain ⟨b6, o7, c8, vs9, q10, q11, f10, q12⟩ := zcy ca_h q5
 obtain rfl := q12
 by_cases hc10 : x1 = true
 ·
  replace h := ite_t hc10 h
  obtain ⟨x10, n10, q14, q15, -, h⟩ := zix h
  obtain ⟨b10, o10, c10, vs10, q16, q17, f11, q18⟩ := zcy cb_h q15
  obtain rfl := q18
  refine zcz 10 [] [] (fun W1 => [.det ca_v, .det (zI other), .det (zak (some ⟨b6, (o7 + n3 * rBool.sz), none⟩)), .det (zac x1), .det (zac x1), .det cb_v, .det (zI other), .det (zak (some ⟨b10, (o10 + n10 * rStr.sz), none⟩)), .det (zS x10), .det (zS cc)]) mixed rfl rfl rfl (fun _ => rfl) (fun _ => rfl) ?_ ?_
  ·
   intro W1 _
   exact trivial
  intro w10 hE10
  obtain ⟨hL10, K10⟩ := zl hL hE10
  refine zay (fun _ hE11 => zaq (zcd zci rfl rfl zec (zco ((ke hL10 hE11) S) (zco (K10 S) ca_at)) (er rfl))) ?_
  refine zay (fun _ _ => zaq (zae rfl (er rfl))) ?_
  refine zay (fun _ _ => zaq (zcb (r := rBool) (v := ca_v) (n := n3) (m := (o7 + n3 * rBool.sz)) zci ti4 rfl q10 rfl q4 q5 rfl (er rfl))) ?_
  refine zay (fun _ hE14 => zaq (zcd zdm rfl rfl zec (zco ((ke hL10 hE14) S) (zco (K10 S) f10)) (er rfl))) ?_
  refine zay (fun _ _ => zaq (zae rfl (er rfl))) ?_
  refine zay (fun _ hE16 => zda rfl rfl hc10 (zcd zax rfl rfl zec (zco ((ke hL10 hE16) S) (zco (K10 S) cb_at)) (er rfl))) ?_
  refine zay (fun _ _ => zda rfl rfl hc10 (zae rfl (er rfl))) ?_
  refine zay (fun _ _ => zda rfl rfl hc10 (zcb (r := rStr) (v := cb_v) (n := n10) (m := (o10 + n10 * rStr.sz)) zax ti9 rfl q16 rfl q14 q15 rfl (er rfl))) ?_
  refine zay (fun _ hE19 => zda rfl rfl hc10 (zcd zba rfl rfl zec (zco ((ke hL10 hE19) S) (zco (K10 S) f11)) (er rfl))) ?_
  refine zay (fun _ hE20 => zda rfl rfl hc10 (zcd zba rfl rfl zec (zco ((ke hL10 hE20) S) (zco (K10 S) cc_at)) (er rfl))) ?_
  refine zdj ?_
  rintro w21 Z29 hE21 hZ20 ⟨-⟩ ap10
  have hB10 := @zhb w10 Z29
  have hL11 := hL10.ext hE21
  refine zaz rfl rfl hc10 (OpY.sEql (x := x10) (y := cc) rfl rfl ?_)
  refine zag (zbr (t := x1) (v := (zac (decide (x10 = cc)))) rfl hc10 rfl ?_)
  refine zag (zal (v := (zac (decide (x10 = cc)))) rfl ?_)
  refine zas (zbq ?_)
  obtain rfl := zad h
  refine ⟨[(zac (decide (x10 = cc)))], zrt, ⟨_, rfl, hL11.done, ?_⟩⟩
  exact zrt
 replace h := ite_f hc10 h
 refine zcz 10 [] [] (fun W1 => [.det ca_v, .det (zI other), .det (zak (some ⟨b6, (o7 + n3 * rBool.sz), none⟩)), .det (zac x1), .det (zac x1), .det undef, .det undef, .det undef, .det undef, .det undef]) mixed rfl rfl rfl (fun _ => rfl) (fun _ => rfl) ?_ ?_
 ·
  intro W1 _
  exact trivial
 intro w22 hE22
 obtain ⟨hL12, K16⟩ := zl hL hE22
 refine zay (fun _ hE23 => zaq (zcd zci rfl rfl zec (zco ((ke hL12 hE23) S) (zco (K16 S) ca_at)) (er rfl))) ?_
 refine zay (fun _ _ => zaq (zae rfl (er rfl))) ?_
 refine zay (fun _ _ => zaq (zcb (r := rBool) (v := ca_v) (n := n3) (m := (o7 + n3 * rBool.sz)) zci ti4 rfl q10 rfl q4 q5 rfl (er rfl))) ?_
 refine zay (fun _ hE26 => zaq (zcd zdm rfl rfl zec (zco ((ke hL12 hE26) S) (zco (K16 S) f10)) (er rfl))) ?_
 refine zay (fun _ _ => zaq (zae rfl (er rfl))) ?_
 refine zay (fun _ _ => zdl rfl rfl (zdw hc10) (er rfl)) ?_
 refine zay (fun _ _ => zdl rfl rfl (zdw hc10) (er rfl)) ?_
 refine zay (fun _ _ => zdl rfl rfl (zdw hc10) (er rfl)) ?_
 refine zay (fun _ _ => zdl rfl rfl (zdw hc10) (er rfl)) ?_
 refine zay (fun _ _ => zdl rfl rfl (zdw hc10) (er rfl)) ?_
 refine zdj ?_
 rintro w33 Z40 hE33 hZ31 ⟨-⟩ ap11
 have hB11 := @zhb w22 Z40
 have hL13 := hL12.ext hE33
 refine zbe rfl rfl (zdw hc10) ?_
 refine zag (zbp (t := x1) (v := zF) rfl (zdw hc10) rfl ?_)
 refine zag (zal (v := zF) rfl ?_)
 refine zas (zbq ?_)
 obtain rfl := zad h
 refine ⟨[zF], zrt, ⟨_, rfl, hL13.done, ?_⟩⟩
 exact zrt
theorem tchoose_w (N : Nat) : ∀ (l : (List TClass)) (order : (List Int)) (words : (List (List UInt8))) (known : (List Bool)) (l_v : Value) (order_v : Value) (words_ob : Option Nat) (words_cap : Nat) (words_cs : List Value) (words_sp : List Value) (known_ob : Option Nat) (known_cap : Nat) (known_cs : List Value) (known_sp : List Value) (X : List (Option Nat)) (w : World) (S : Nat → Prop) (hL : Go.X.Loc X [] w w [words_ob, known_ob] [zab ([] ++ (words_cs ++ words_sp)), zab ([] ++ (known_cs ++ known_sp))]) (l_h : Rs rTClass (vH w S [words_ob, known_ob] w) l_v l) (order_h : Rs rI (vH w S [words_ob, known_ob] w) order_v order) (words_hE : Els rStr (vH w S [words_ob, known_ob] w) words_cs words) (words_hc : (words_cs ++ words_sp).length = words_cap * rStr.sz) (known_hE : Els rBool (vH w S [words_ob, known_ob] w) known_cs known) (known_hc : (known_cs ++ known_sp).length = known_cap * rBool.sz) (r : (Bool × Bool × (List (List UInt8)) × (List Bool))) (h : tchoose N l order words known = some r), Calls Try.prog 36 #[l_v, order_v, (osv words_ob 0 words.length words_cap), (osv known_ob 0 known.length known_cap)] w (fun e w' => ∃ (o2_cs : List Value) (o2_sp : List Value) (o3_cs : List Value) (o3_sp : List Value), e = Ending.returned (Value.tuple #[(bif r.1 then (osv words_ob 0 words.length words_cap) else zar none 0 0), (zac r.2.1)]) ∧ Go.X.Loc X [] w w' [words_ob, known_ob] [zab ([] ++ (o2_cs ++ o2_sp)), zab ([] ++ (o3_cs ++ o3_sp))] ∧ Keep w.heap.size [words_ob, known_ob] w [words_ob, known_ob] w' ∧ List.length words = List.length r.2.2.1 ∧ Els rStr (vH w S [words_ob, known_ob] w') o2_cs r.2.2.1 ∧ (o2_cs ++ o2_sp).length = words_cap * rStr.sz ∧ List.length known = List.length r.2.2.2 ∧ Els rBool (vH w S [words_ob, known_ob] w') o3_cs r.2.2.2 ∧ (o3_cs ++ o3_sp).length = known_cap * rBool.sz ∧ True) := by
 induction N with
 | zero => intro l order words known l_v order_v words_ob words_cap words_cs words_sp known_ob known_cap known_cs known_sp X w S hL l_h order_h words_hE words_hc known_hE known_hc r h; cases (show (none : Option (Bool × Bool × (List (List UInt8)) × (List Bool))) = some r from h)
 | succ N ih =>
  intro l order words known l_v order_v words_ob words_cap words_cs words_sp known_ob known_cap known_cs known_sp X w S hL l_h order_h words_hE words_hc known_hE known_hc r h
  replace h : tchoose_step N (tchoose N) l order words known = some r := h
  unfold tchoose_step at h
  refine calls_of (l := [l_v, order_v, (osv words_ob 0 words.length words_cap), (osv known_ob 0 known.length known_cap)]) (rl := [.tmp 8, .tmp 9]) (n := 61) Try.func36 rfl rfl rfl (zai rfl) ?_
  refine zan (zaf rfl (zag (zdr (cs := [(osv words_ob 0 words.length words_cap)]) rfl (zeg (zed words_ob 0 words.length words_cap)) hL ?_)))
  intro b3 w4 hL5 hS7
  have K6 := ks w hS7
  refine zag (zdr (cs := [(osv known_ob 0 known.length known_cap)]) rfl (zeg (zed known_ob 0 known.length known_cap)) hL5 ?_)
  intro b8 w9 hL10 hS10
  have K10 := ks w hS10
  refine zag (zal (v := zN) rfl ?_)
  refine zag (zal (v := zF) rfl ?_)
  refine zas (zan (zan (zaf rfl (zag (zae (v := order_v) rfl ?_)))))
  have f10 := ((order_h.mono (K6 S)).mono (K10 S))
  refine zag (zcc (v := order_v) zao rfl f10 ?_)
  refine zag (zdn (x := (order.length : Int)) (y := 0) (((order.length : Int) : Int) = 0) rfl rfl zbk (zas ?_))
  refine zbm (((order.length : Int) : Int) = 0) rfl (fun hc10 => ?_) (fun hc10 => ?_)
  ·
   replace h := ite_t hc10 h
   refine zan (zaf rfl (zag (zav (v := (osv words_ob 0 words.length words_cap)) zax rfl rfl (hL10.at 1 rfl rfl) rfl ?_)))
   refine zag (zal (v := (osv words_ob 0 words.length words_cap)) rfl ?_)
   refine zag (zal (v := zT) rfl (zas ?_))
   have hp10 := hL10.pick [2, 3] rfl rfl rfl
   have hL11 : Go.X.Loc X [] w w9 [words_ob, known_ob] [zab ([] ++ (words_cs ++ words_sp)), zab ([] ++ (known_cs ++ known_sp))] := hp10.1
   have K11 := ks w hp10.2
   refine zbq ?_
   obtain rfl := zad h
   refine ⟨[(osv words_ob 0 words.length words_cap), zT], ⟨rfl, rfl, trivial⟩, ?_⟩
   have f11 := (((words_hE.mono (K6 S)).mono (K10 S)).mono (K11 S))
   have f12 := (((known_hE.mono (K6 S)).mono (K10 S)).mono (K11 S))
   exact ⟨words_cs, words_sp, known_cs, known_sp, rfl, hL11, (zam (zam K6 K10) K11), rfl, f11, words_hc, rfl, f12, known_hc, trivial⟩
  replace h := ite_f hc10 h
  refine zbl (zan (zaf rfl (zag (zae (v := order_v) rfl ?_))))
  obtain ⟨x10, n10, q11, q12, -, h⟩ := zix h
  obtain ⟨b10, o10, c10, vs10, q13, q14, f13, q15⟩ := zcy f10 q12
  obtain rfl := q15
  refine zag (zcb (r := rI) (v := order_v) (n := n10) (m := (o10 + n10 * rI.sz)) zao ti3 rfl q13 rfl q11 q12 rfl ?_)
  refine zag (zcd (v := (zI x10)) zaw rfl rfl zec f13 ?_)
  refine zag (zal (v := (zI x10)) rfl ?_)
  refine zas (zan (zaf rfl (zag (zav (v := (osv known_ob 0 known.length known_cap)) zci rfl rfl (hL10.at 0 rfl rfl) rfl ?_))))
  refine zag (zae (v := (zI x10)) rfl ?_)
  obtain ⟨x11, n11, q17, q18, q19, h⟩ := zix h
  have f14 := ((known_hE.mono (K6 S)).mono (K10 S))
  obtain ⟨b11, hb10⟩ := hL10.row_some 3 rfl rfl (zem (pre := []) f14 q18 (Nat.lt_of_sub_eq_succ rfl))
  refine zag (zbd (r := rBool) (b := b11) (o := 0) (n := n11) (m := known.length) (xs := known) (q := (0 + n11 * rBool.sz)) zci ti4 (zef hb10) rfl rfl q17 q19 rfl ?_)
  obtain ⟨x12, n12, q21, q22, q23, h⟩ := zux h
  obtain rfl := zin q17 q21
  refine zde (zdf (pre := []) (r := rBool) (vs := [zT]) (a := true) ti4 rfl rfl rfl rfl hL10 3 (congrArg some hb10) rfl f14 q19 rfl q23 ?_)
  have hl10 : known.length = List.length x12 := by rw [q23, List.length_set]
  intro w10 cs10 (hL12 : Go.X.Loc X [] w w10 [some b8, some b3, words_ob, known_ob] [zab [(osv known_ob 0 known.length known_cap)], zab [(osv words_ob 0 words.length words_cap)], zab ([] ++ (words_cs ++ words_sp)), zab ([] ++ (cs10 ++ known_sp))]) hS11 hE10 q24
  have hc11 : (cs10 ++ known_sp).length = known_cap * rBool.sz := by have := known_hc; rw [List.length_append] at this ⊢; rw [q24]; exact this
  have K12 := ks w hS11
  refine zas (zan (zan (zaf rfl (zag (zae (v := l_v) rfl ?_)))))
  refine zag (zae (v := (zI x10)) rfl ?_)
  obtain ⟨x13, n13, q26, q27, -, h⟩ := zix h
  have f15 := (((l_h.mono (K6 S)).mono (K10 S)).mono (K12 S))
  obtain ⟨b12, o11, c11, vs11, q28, q29, f16, q30⟩ := zcy f15 q27
  obtain ⟨v10, v11, v12, rfl, k10, k11, k12, -⟩ := rTClass_open q30
  refine zag (zcb (r := rTClass) (v := l_v) (n := n13) (m := (o11 + n13 * rTClass.sz)) zap ti56 rfl q28 rfl q26 q27 rfl ?_)
  have f17 := (f16.part (us := [v11]) 3 rfl)
  refine zag (zau (q := (o11 + n13 * rTClass.sz) + 3) zbi rfl ti27 rfl rfl rfl ?_)
  refine zag (zcd (v := v11) zax rfl rfl zec f17 ?_)
  refine zag (zcc (v := v11) zax rfl k11 ?_)
  refine zag (zae (v := (zI 0)) rfl (zas ?_))
  obtain ⟨s10, hl11, g10⟩ := zdt h
  refine zbu (fun e w' => ∃ (words10 : (List (List UInt8))) (known10 : (List Bool)) (sp10 : List Value) (cs11 : List Value) (sp11 : List Value) (cs12 : List Value) (u : Env), (Sum.inl (words10, known10)) = s10 ∧ e = upds [(2, (osv words_ob 0 words.length words_cap)), (3, (osv known_ob 0 known.length known_cap)), (7, (zak (some ⟨b8, 0, none⟩))), (10, (zI x10))] u ∧ Go.X.Loc X [] w w' [words_ob, known_ob, some b8] [zab ([] ++ (cs11 ++ sp10)), zab ([] ++ (cs12 ++ sp11)), zab [(osv known_ob 0 known.length known_cap)]] ∧ Keep w.heap.size [some b8, some b3, words_ob, known_ob] w10 [words_ob, known_ob, some b8] w' ∧ Els rStr (vH w S [words_ob, known_ob, some b8] w') cs11 words10 ∧ words.length = List.length words10 ∧ (cs11 ++ sp10).length = words_cap * rStr.sz ∧ Els rBool (vH w S [words_ob, known_ob, some b8] w') cs12 known10 ∧ known.length = List.length known10 ∧ (cs12 ++ sp11).length = known_cap * rBool.sz ∧ True) ?_ ?_
  ·
   refine zbb ?_
   have hp11 := hL12.pick [2, 3, 1, 0] rfl rfl rfl
   have hL13 : Go.X.Loc X [] w w10 [words_ob, known_ob, some b3, some b8] [zab ([] ++ (words_cs ++ words_sp)), zab ([] ++ (cs10 ++ known_sp)), zab [(osv words_ob 0 words.length words_cap)], zab [(osv known_ob 0 known.length known_cap)]] := hp11.1
   have K13 := ks w hp11.2
   have f18 := ((((words_hE.mono (K6 S)).mono (K10 S)).mono (K12 S)).mono (K13 S))
   have f19 := ((hE10.mono (K12 S)).mono (K13 S))
   refine zca hl11 (fun (ss : ((List (List UInt8)) × (List Bool) × Int)) (e : Env) (w' : World) => match ss with | (words11, known11, x14) => ∃ (sp12 : List Value) (cs13 : List Value) (sp13 : List Value) (cs14 : List Value) (u : Env), e = upds [(0, l_v), (1, order_v), (2, (osv words_ob 0 words.length words_cap)), (3, (osv known_ob 0 known.length known_cap)), (6, (zak (some ⟨b3, 0, none⟩))), (7, (zak (some ⟨b8, 0, none⟩))), (10, (zI x10)), (29, v11), (30, (zI (x13.words.length : Int))), (31, (zI x14))] u ∧ Go.X.Loc X [] w w' [words_ob, known_ob, some b3, some b8] [zab ([] ++ (cs13 ++ sp12)), zab ([] ++ (cs14 ++ sp13)), zab [(osv words_ob 0 words.length words_cap)], zab [(osv known_ob 0 known.length known_cap)]] ∧ Keep w.heap.size [some b8, some b3, words_ob, known_ob] w10 [words_ob, known_ob, some b3, some b8] w' ∧ Els rStr (vH w S [words_ob, known_ob, some b3, some b8] w') cs13 words11 ∧ words.length = List.length words11 ∧ (cs13 ++ sp12).length = words_cap * rStr.sz ∧ Els rBool (vH w S [words_ob, known_ob, some b3, some b8] w') cs14 known11 ∧ known.length = List.length known11 ∧ (cs14 ++ sp13).length = known_cap * rBool.sz ∧ True) ⟨words_sp, words_cs, known_sp, cs10, _, (zdx ⟨rfl, rfl, rfl, rfl, rfl, rfl, rfl, rfl, rfl, rfl, trivial⟩), hL13, K13, f18, rfl, words_hc, f19, hl10, hc11, trivial⟩ ?_
   rintro ⟨words11, known11, x14⟩ oo _ w11 ⟨sp12, cs13, sp13, cs14, u, rfl, hL14, K14, hE11, hl12, hc12, hE12, hl13, hc13, -⟩ h hd10
   rw [tchoose_b1] at h
   refine zan (zaf rfl (zag (zck (x := x14) (y := (x13.words.length : Int)) ((x14 : Int) < (x13.words.length : Int)) rfl rfl zbk ?_)))
   refine zas (zan ?_)
   refine zbm ((x14 : Int) < (x13.words.length : Int)) rfl (fun hc14 => ?_) (fun hc14 => ?_)
   ·
    replace h := ite_t hc14 h
    refine zbl (zan (zbb (zan (zaf rfl ?_))))
    obtain ⟨x15, n14, q32, q33, -, h⟩ := zix h
    have f20 := (k11.mono (K14 S))
    obtain ⟨b13, o12, c12, vs12, q34, q35, f21, q36⟩ := zcy f20 q33
    obtain rfl := q36
    refine zag (zcb (r := rStr) (v := v11) (n := n14) (m := (o12 + n14 * rStr.sz)) zax ti9 rfl q34 rfl q32 q33 rfl ?_)
    refine zag (zcd (v := (zS x15)) zba rfl rfl zec f21 ?_)
    refine zag (zdh (cs := [(zah (s8 []))]) ti9 rfl hL14 ?_)
    intro b14 w12 hL15 hS12
    have K15 := ks w hS12
    refine zde (zcv (vs := [(zS x15)]) ti9 rfl rfl rfl rfl (zdz rfl zej) hL15 0 rfl rfl (zai rfl) ?_)
    intro w13 (hL16 : Go.X.Loc X [] w w13 [some b14, words_ob, known_ob, some b3, some b8] [zab [(zS x15)], zab ([] ++ (cs13 ++ sp12)), zab ([] ++ (cs14 ++ sp13)), zab [(osv words_ob 0 words.length words_cap)], zab [(osv known_ob 0 known.length known_cap)]]) hS13
    have K16 := ks w hS13
    refine zas (zan (zan (zaf rfl (zag (zae (v := l_v) rfl ?_)))))
    refine zag (zae (v := (zI x10)) rfl ?_)
    obtain ⟨x16, n15, q38, q39, -, h⟩ := zix h
    have f22 := (((f15.mono (K14 S)).mono (K15 S)).mono (K16 S))
    obtain ⟨b15, o13, c13, vs13, q40, q41, f23, q42⟩ := zcy f22 q39
    obtain ⟨v13, v14, v15, rfl, k13, k14, k15, -⟩ := rTClass_open q42
    refine zag (zcb (r := rTClass) (v := l_v) (n := n15) (m := (o13 + n15 * rTClass.sz)) zap ti56 rfl q40 rfl q38 q39 rfl ?_)
    have f24 := (f23.part (us := [v15]) 4 rfl)
    refine zag (zau (q := (o13 + n15 * rTClass.sz) + 4) zbi rfl ti22 rfl rfl rfl ?_)
    refine zag (zcd (v := v15) zao rfl rfl zec f24 ?_)
    refine zag (OpY.makeFunc (vs := [(zak (some ⟨b8, 0, none⟩)), (zak (some ⟨b3, 0, none⟩)), (zak (some ⟨b14, 0, none⟩))]) rfl ?_)
    obtain ⟨r10, q43, h⟩ := zdt h
    have f25 := ((hE12.mono (K15 S)).mono (K16 S))
    have f26 := ((hE11.mono (K15 S)).mono (K16 S))
    refine zag (zbz en50 rfl rfl (containsInt_w N x16.apart (fun y10 => tchoose1 N y10 known11 words11 x15) v15 (Value.func (.func 62) #[] #[(zak (some ⟨b8, 0, none⟩)), (zak (some ⟨b3, 0, none⟩)), (zak (some ⟨b14, 0, none⟩))]) _ Any (k15.mono vw_any) (fun w9 hE9 y11 z9 hz9 => ⟨62, [(zak (some ⟨b8, 0, none⟩)), (zak (some ⟨b3, 0, none⟩)), (zak (some ⟨b14, 0, none⟩))], rfl, en62, (tchoose1_w N y11 known11 words11 x15 b8 (osv known_ob 0 known.length known_cap) b3 (osv words_ob 0 words.length words_cap) b14 _ Any (own_any ((hL16.at 4 rfl rfl).ext hE9)) ((zea (pre := []) (o := 0) (n := known.length) (cap := known_cap) (hL16.at 2 rfl rfl) f25 vw_any rfl rfl hl13 hc13).mono (any_ext hE9)) (own_any ((hL16.at 3 rfl rfl).ext hE9)) ((zea (pre := []) (o := 0) (n := words.length) (cap := words_cap) (hL16.at 1 rfl rfl) f26 vw_any rfl rfl hl12 hc12).mono (any_ext hE9)) (own_any ((hL16.at 0 rfl rfl).ext hE9)) z9 hz9)⟩) r10 q43) ?_)
    rintro _ w14 hE13 ⟨rfl, -⟩
    obtain ⟨hL17, K17⟩ := zl hL16 hE13
    refine zas ?_
    refine zch r10 rfl (fun hc15 => ?_) (fun hc15 => ?_)
    ·
     replace h := ite_t hc15 h
     refine zcf rfl (zaf rfl (zag (zce (x := x14) (y := 1) (z := (iw (x14 + 1))) rfl rfl rfl ?_)))
     refine zag (zae (v := (zI (iw (x14 + 1)))) rfl (zas ?_))
     have hp12 := hL17.pick [1, 2, 3, 4] rfl rfl rfl
     have hL18 : Go.X.Loc X [] w w14 [words_ob, known_ob, some b3, some b8] [zab ([] ++ (cs13 ++ sp12)), zab ([] ++ (cs14 ++ sp13)), zab [(osv words_ob 0 words.length words_cap)], zab [(osv known_ob 0 known.length known_cap)]] := hp12.1
     have K18 := ks w hp12.2
     have f27 := ((f26.mono (K17 S)).mono (K18 S))
     have f28 := ((f25.mono (K17 S)).mono (K18 S))
     obtain rfl := zad h
     refine zat ⟨(words11, known11, (iw (x14 + 1))), rfl, ?_⟩
     exact ⟨sp12, cs13, sp13, cs14, _, (zdx ⟨rfl, rfl, rfl, rfl, rfl, rfl, rfl, rfl, rfl, rfl, trivial⟩), hL18, (zam (zam (zam (zam K14 K15) K16) K17) K18), f27, hl12, hc12, f28, hl13, hc13, trivial⟩
    replace h := ite_f hc15 h
    refine zbl (zan (zaf rfl (zag (zav (v := (osv words_ob 0 words.length words_cap)) zax rfl rfl (hL17.at 3 rfl rfl) rfl ?_))))
    refine zag (zae (v := (zI x10)) rfl ?_)
    refine zag (zav (v := (zS x15)) zba rfl rfl (hL17.at 0 rfl rfl) rfl ?_)
    obtain ⟨x17, n16, q45, q46, q47, h⟩ := zix h
    have f29 := (f26.mono (K17 S))
    obtain ⟨b16, hb11⟩ := hL17.row_some 1 rfl rfl (zem (pre := []) f29 q46 (Nat.lt_of_sub_eq_succ rfl))
    refine zag (zbd (r := rStr) (b := b16) (o := 0) (n := n16) (m := words.length) (xs := words11) (q := (0 + n16 * rStr.sz)) zax ti9 (zef hb11) hl12 rfl q45 q47 rfl ?_)
    obtain ⟨x18, n17, q49, q50, q51, h⟩ := zux h
    obtain rfl := zin q45 q49
    refine zde (zdf (pre := []) (r := rStr) (vs := [(zS x15)]) (a := x15) ti9 rfl rfl rfl rfl hL17 1 (congrArg some hb11) rfl f29 q47 rfl q51 ?_)
    have hl14 : words.length = List.length x18 := by rw [q51, List.length_set]; exact hl12
    intro w15 cs15 (hL19 : Go.X.Loc X [] w w15 [some b14, words_ob, known_ob, some b3, some b8] [zab [(zS x15)], zab ([] ++ (cs15 ++ sp12)), zab ([] ++ (cs14 ++ sp13)), zab [(osv words_ob 0 words.length words_cap)], zab [(osv known_ob 0 known.length known_cap)]]) hS14 hE14 q52
    have hc16 : (cs15 ++ sp12).length = words_cap * rStr.sz := zhc hc12 q52
    have K19 := ks w hS14
    refine zas (zan ?_)
    obtain ⟨x19, q53, h⟩ := zdt h
    obtain ⟨m10, n18, q54, q55, q56, q57, q58⟩ := cut_some q53
    refine Swp.drawF (O := [some b14, words_ob, known_ob, some b3, some b8]) [5] [0, 1, 3, 4, 6, 7, 8, 9, 10] [0, 1, 3, 4] [(2, 49)] [(47, l_v), (48, order_v), (50, (osv words_ob 0 words.length words_cap)), (51, (osv known_ob 0 known.length known_cap))] (fun f v O w' => Rs rI (vH w S O w') v (bif Nat.beq f 2 then x19 else [])) w.heap.size mixed rfl rfl rfl rfl (fun b hb => hL19.own.lt b hb) hL19.size (fun _ _ _ _ _ _ h hs => h.mono (hs _)) (FloatP.cons rfl (fun w1 O1 hK hs hO => zaq (OpY.cutRoX (l := m10) (h' := n18) zao ti3 rfl (((((((f10.mono (K12 S)).mono (K14 S)).mono (K15 S)).mono (K16 S)).mono (K17 S)).mono (K19 S)).mono (hK S)) (.inr ⟨_, _, rfl, by rw [← q54]; rfl⟩) (.inl ⟨rfl, by omega⟩) q56 q57 q58 (fun v kf => ⟨Ext.refl _, kf⟩))) FloatP.nil) ?_
    intro w16 hE15
    obtain ⟨hL20, K20⟩ := zl hL19 hE15
    refine ⟨?_, ?_⟩
    ·
     intro w17 hE16
     have hL21 := hL20.ext hE16
     refine zaj (i := 0) rfl rfl (zaq (zae (v := l_v) rfl zrr)) ?_
     refine zaj (i := 1) rfl rfl (zaq (zae (v := order_v) rfl zrr)) ?_
     refine zaj (i := 3) rfl rfl (zaq (zav (v := (osv words_ob 0 words.length words_cap)) zax rfl rfl (hL21.at 3 rfl rfl) rfl zrr)) ?_
     refine zaj (i := 4) rfl rfl (zaq (zav (v := (osv known_ob 0 known.length known_cap)) zci rfl rfl (hL21.at 4 rfl rfl) rfl zrr)) ?_
     exact zby
    refine zdd (m := 0) [5] rfl rfl (fun q hq => ?_)
    obtain rfl := List.mem_singleton.1 hq
    refine zdk rfl ?_
    intro w18 V10 hE17 hp13
    obtain ⟨hL22, K21⟩ := zl hL20 hE17
    have f30 : Rs rI (vH w S [some b14, words_ob, known_ob, some b3, some b8] w18) (V10 2) x19 := hp13 (2, 49) (by decide) rfl
    obtain ⟨r11, q59, h⟩ := zdt h
    have hL23 := hL22.lendW [1, 2] rfl rfl rfl
    have f31 := ((((f22.mono (K17 S)).mono (K19 S)).mono (K20 S)).mono (K21 S))
    have f32 := (((hE14.mono (K19 S)).mono (K20 S)).mono (K21 S))
    have f33 := ((((f25.mono (K17 S)).mono (K19 S)).mono (K20 S)).mono (K21 S))
    refine zdo en36 rfl rfl (calls_args (by rw [← hl14, ← hl13]; first | done | rfl) (ih l x19 x18 known11 l_v (V10 2) words_ob words_cap cs15 sp12 known_ob known_cap cs14 sp13 [words_ob, known_ob] _ Any (by have h9 := hL23; (try rw [hl14] at h9); (try rw [hl13] at h9); exact h9) (f31.mono (zcn [1, 2] rfl)) (f30.mono (zcn [1, 2] rfl)) (f32.mono (zcn [1, 2] rfl)) hc16 (f33.mono (zcn [1, 2] rfl)) hc13 r11 q59)) ?_
    rintro _ w19 ⟨cs16, sp14, cs17, sp15, rfl, hL24, K22, hl15, hE18, hc17, hl16, hE19, hc18, -⟩
    try rw [← hl14]
    refine ⟨_, rfl, ?_⟩
    have hp14 := hL22.backW [1, 2] [0, 3, 4] rfl rfl rfl rfl hL24
    have hL25 : Go.X.Loc X [] w w19 [words_ob, known_ob, some b14, some b3, some b8] [zab ([] ++ (cs16 ++ sp14)), zab ([] ++ (cs17 ++ sp15)), zab [(zS x15)], zab [(osv words_ob 0 words.length words_cap)], zab [(osv known_ob 0 known.length known_cap)]] := (by have h9 := hp14.1; (try rw [← (hl14.trans hl15)] at h9); (try rw [← (hl13.trans hl16)] at h9); exact h9)
    have K23 := ks w hp14.2
    have hE20 : Els rStr (vH w S [words_ob, known_ob, some b14, some b3, some b8] w19) cs16 r11.2.2.1 := zcg (fun _ _ _ _ h => h) hE18
    have hE21 : Els rBool (vH w S [words_ob, known_ob, some b14, some b3, some b8] w19) cs17 r11.2.2.2 := zcg (fun _ _ _ _ h => h) hE19
    refine ⟨_, [6, 7, 8, 9, 10], [(46, (Value.tuple #[(bif r11.1 then (osv words_ob 0 words.length words_cap) else zar none 0 0), (zac r11.2.1)])), (53, (bif r11.1 then (osv words_ob 0 words.length words_cap) else zar none 0 0)), (54, (zac r11.2.1)), (13, (bif r11.1 then (osv words_ob 0 words.length words_cap) else zar none 0 0)), (14, (zac r11.2.1))], K23, (fun b hb => hL25.own.lt b hb), hL25.size, rfl, rfl, ?_⟩
    refine ⟨?_, ?_⟩
    ·
     intro w20 hE22
     refine zaj (i := 1) rfl rfl (zaq (zae (v := order_v) rfl zrr)) ?_
     refine zaj (i := 6) rfl rfl (zaq (zae (v := (Value.tuple #[(bif r11.1 then (osv words_ob 0 words.length words_cap) else zar none 0 0), (zac r11.2.1)])) rfl zrr)) ?_
     refine zaj (i := 7) rfl rfl (zaq (zcl (vs := [(bif r11.1 then (osv words_ob 0 words.length words_cap) else zar none 0 0), (zac r11.2.1)]) (v := (bif r11.1 then (osv words_ob 0 words.length words_cap) else zar none 0 0)) rfl rfl zrr)) ?_
     refine zaj (i := 8) rfl rfl (zaq (zcl (vs := [(bif r11.1 then (osv words_ob 0 words.length words_cap) else zar none 0 0), (zac r11.2.1)]) (v := (zac r11.2.1)) rfl rfl zrr)) ?_
     refine zaj (i := 9) rfl rfl (zaq (zal (v := (bif r11.1 then (osv words_ob 0 words.length words_cap) else zar none 0 0)) rfl zrr)) ?_
     refine zaj (i := 10) rfl rfl (zaq (zal (v := (zac r11.2.1)) rfl zrr)) ?_
     exact zby
    refine RlF.fin ?_
    intro w21 V11 hE23
    obtain ⟨hL26, K24⟩ := zl hL25 hE23
    refine zan (zaf rfl (zag (zae (v := (zac r11.2.1)) rfl (zas ?_))))
    refine zch r11.2.1 rfl (fun hc19 => ?_) (fun hc19 => ?_)
    ·
     replace h := ite_t hc19 h
     refine zan (zaf rfl (zag (zae (v := (bif r11.1 then (osv words_ob 0 words.length words_cap) else zar none 0 0)) rfl ?_)))
     refine zag (zal (v := (bif r11.1 then (osv words_ob 0 words.length words_cap) else zar none 0 0)) rfl ?_)
     refine zag (zal (v := zT) rfl (zas ?_))
     have hp15 := hL26.pick [0, 1] rfl rfl rfl
     have hL27 : Go.X.Loc X [] w w21 [words_ob, known_ob] [zab ([] ++ (cs16 ++ sp14)), zab ([] ++ (cs17 ++ sp15))] := hp15.1
     have K25 := ks w hp15.2
     refine zbq ?_
     obtain rfl := zad h
     obtain rfl := hd10 _ rfl
     replace h := g10
     try dsimp only at h
     obtain rfl := zad h
     refine ⟨[(bif r11.1 then (osv words_ob 0 words.length words_cap) else zar none 0 0), zT], ⟨rfl, rfl, trivial⟩, ?_⟩
     have f34 := ((hE20.mono (K24 S)).mono (K25 S))
     have f35 := ((hE21.mono (K24 S)).mono (K25 S))
     exact ⟨cs16, sp14, cs17, sp15, rfl, (by have h9 := hL27; (try rw [(hl14.trans hl15)] at h9); (try rw [(hl13.trans hl16)] at h9); exact h9), (zam (zam (zam (zam (zam (zam (zam (zam (zam (zam (zam (zam K6 K10) K12) K14) K15) K16) K17) K19) K20) K21) K23) K24) K25), (hl14.trans hl15), f34, hc17, (hl13.trans hl16), f35, hc18, trivial⟩
    replace h := ite_f hc19 h
    refine zbl (zbh (zaf rfl (zag (zce (x := x14) (y := 1) (z := (iw (x14 + 1))) rfl rfl rfl ?_))))
    refine zag (zae (v := (zI (iw (x14 + 1)))) rfl (zas ?_))
    have hp16 := hL26.pick [0, 1, 3, 4] rfl rfl rfl
    have hL28 : Go.X.Loc X [] w w21 [words_ob, known_ob, some b3, some b8] [zab ([] ++ (cs16 ++ sp14)), zab ([] ++ (cs17 ++ sp15)), zab [(osv words_ob 0 words.length words_cap)], zab [(osv known_ob 0 known.length known_cap)]] := hp16.1
    have K26 := ks w hp16.2
    have f36 := ((hE20.mono (K24 S)).mono (K26 S))
    have f37 := ((hE21.mono (K24 S)).mono (K26 S))
    obtain rfl := zad h
    refine zat ⟨(r11.2.2.1, r11.2.2.2, (iw (x14 + 1))), rfl, ?_⟩
    exact ⟨sp14, cs16, sp15, cs17, _, (zdx ⟨rfl, rfl, rfl, rfl, rfl, rfl, rfl, rfl, rfl, rfl, trivial⟩), hL28, (zam (zam (zam (zam (zam (zam (zam (zam (zam K14 K15) K16) K17) K19) K20) K21) K23) K24) K26), f36, (hl14.trans hl15), hc17, f37, (hl13.trans hl16), hc18, trivial⟩
   replace h := ite_f hc14 h
   refine zcf rfl ?_
   have hp17 := hL14.pick [0, 1, 3] rfl rfl rfl
   have hL29 : Go.X.Loc X [] w w11 [words_ob, known_ob, some b8] [zab ([] ++ (cs13 ++ sp12)), zab ([] ++ (cs14 ++ sp13)), zab [(osv known_ob 0 known.length known_cap)]] := hp17.1
   have K27 := ks w hp17.2
   have f38 := (hE11.mono (K27 S))
   have f39 := (hE12.mono (K27 S))
   obtain rfl := zad h
   obtain rfl := hd10 _ rfl
   replace h := g10
   try dsimp only at h
   refine zat ?_
   exact ⟨words11, known11, sp12, cs13, sp13, cs14, _, rfl, (zdx ⟨rfl, rfl, rfl, rfl, trivial⟩), hL29, (zam K14 K27), f38, hl12, hc12, f39, hl13, hc13, trivial⟩
  rintro _ w22 ⟨words10, known10, sp10, cs11, sp11, cs12, u, rfl, rfl, hL30, K28, hE24, hl17, hc20, hE25, hl18, hc21, -⟩
  replace h := g10
  try dsimp only at h
  refine zan (zaf rfl (zag (zav (v := (osv known_ob 0 known.length known_cap)) zci rfl rfl (hL30.at 2 rfl rfl) rfl ?_)))
  refine zag (zae (v := (zI x10)) rfl ?_)
  obtain ⟨x20, n19, q61, q62, q63, h⟩ := zix h
  obtain ⟨b17, hb12⟩ := hL30.row_some 1 rfl rfl (zem (pre := []) hE25 q62 (Nat.lt_of_sub_eq_succ rfl))
  refine zag (zbd (r := rBool) (b := b17) (o := 0) (n := n19) (m := known.length) (xs := known10) (q := (0 + n19 * rBool.sz)) zci ti4 (zef hb12) hl18 rfl q61 q63 rfl ?_)
  obtain ⟨x21, n20, q65, q66, q67, h⟩ := zux h
  obtain rfl := zin q61 q65
  refine zde (zdf (pre := []) (r := rBool) (vs := [zF]) (a := false) ti4 rfl rfl rfl rfl hL30 1 (congrArg some hb12) rfl hE25 q63 rfl q67 ?_)
  have hl19 : known.length = List.length x21 := by rw [q67, List.length_set]; exact hl18
  intro w23 cs18 (hL31 : Go.X.Loc X [] w w23 [words_ob, known_ob, some b8] [zab ([] ++ (cs11 ++ sp10)), zab ([] ++ (cs18 ++ sp11)), zab [(osv known_ob 0 known.length known_cap)]]) hS15 hE26 q68
  have hc22 : (cs18 ++ sp11).length = known_cap * rBool.sz := zhc hc21 q68
  have K29 := ks w hS15
  refine zas (zan (zaf rfl (zag (zal (v := zN) rfl ?_))))
  refine zag (zal (v := zF) rfl (zas ?_))
  have hp18 := hL31.pick [0, 1] rfl rfl rfl
  have hL32 : Go.X.Loc X [] w w23 [words_ob, known_ob] [zab ([] ++ (cs11 ++ sp10)), zab ([] ++ (cs18 ++ sp11))] := hp18.1
  have K30 := ks w hp18.2
  refine zbq ?_
  obtain rfl := zad h
  refine ⟨[zN, zF], ⟨rfl, rfl, trivial⟩, ?_⟩
  have f40 := ((hE24.mono (K29 S)).mono (K30 S))
  have f41 := ((hE26.mono (K29 S)).mono (K30 S))
  exact ⟨cs11, sp10, cs18, sp11, rfl, (by have h9 := hL32; (try rw [hl17] at h9); (try rw [hl19] at h9); exact h9), (zam (zam (zam (zam (zam K6 K10) K12) K28) K29) K30), hl17, f40, hc20, hl19, f41, hc22, trivial⟩
theorem insSort_w (N : Nat) (data : (List Int)) (a : Int) (b : Int) (cmp : (Int → Int → Option Int)) (data_ob : Option Nat) (data_cap : Nat) (data_cs : List Value) (data_sp : List Value) (cmp_v : Value) (X : List (Option Nat)) (w : World) (S : Nat → Prop) (hL : Go.X.Loc X [] w w [data_ob] [zab ([] ++ (data_cs ++ data_sp))]) (data_hE : Els rI (vH w S [data_ob] w) data_cs data) (data_hc : (data_cs ++ data_sp).length = data_cap * rI.sz) (cmp_h : ∀ w' : World, Xte X w w' → ∀ (xa_ : Int) (xb_ : Int), ∀ z, cmp xa_ xb_ = some z → FunOk Try.prog cmp_v [(zI xa_), (zI xb_)] w' (fun v w'' => zI z = v ∧ True)) (r : (List Int)) (h : insSort N data a b cmp = some r) :
  Calls Try.prog 72 #[(osv data_ob 0 data.length data_cap), (zI a), (zI b), cmp_v] w (fun e w' => ∃ (o0_cs : List Value) (o0_sp : List Value), e = Ending.returned (Value.tuple #[]) ∧ Go.X.Loc X [] w w' [data_ob] [zab ([] ++ (o0_cs ++ o0_sp))] ∧ Keep w.heap.size [data_ob] w [data_ob] w' ∧ List.length data = List.length r ∧ Els rI (vH w S [data_ob] w') o0_cs r ∧ (o0_cs ++ o0_sp).length = data_cap * rI.sz ∧ True) := by
 unfold insSort at h
 refine calls_of (l := [(osv data_ob 0 data.length data_cap), (zI a), (zI b), cmp_v]) (rl := []) (n := 53) Try.func72 rfl rfl rfl (zai rfl) ?_
 refine zan (zaf rfl (zag (zae (v := (zI a)) rfl ?_)))
 refine zag (zce (x := a) (y := 1) (z := (iw (a + 1))) rfl rfl rfl ?_)
 refine zag (zal (v := (zI (iw (a + 1)))) rfl (zas ?_))
 obtain ⟨s10, hl10, g10⟩ := zdt h
 refine zbu (fun e w' => ∃ (data10 : (List Int)) (cs10 : List Value) (u : Env), data10 = s10 ∧ e = upds [(0, (osv data_ob 0 data.length data_cap))] u ∧ Go.X.Loc X [] w w' [data_ob] [zab ([] ++ (cs10 ++ data_sp))] ∧ Keep w.heap.size [data_ob] w [data_ob] w' ∧ Els rI (vH w S [data_ob] w') cs10 data10 ∧ data.length = List.length data10 ∧ (cs10 ++ data_sp).length = data_cap * rI.sz ∧ True) ?_ ?_
 ·
  refine zbb ?_
  refine zca hl10 (fun (ss : ((List Int) × Int)) (e : Env) (w' : World) => match ss with | (data11, i10) => ∃ (cs11 : List Value) (u : Env), e = upds [(0, (osv data_ob 0 data.length data_cap)), (1, (zI a)), (2, (zI b)), (3, cmp_v), (8, (zI i10))] u ∧ Go.X.Loc X [] w w' [data_ob] [zab ([] ++ (cs11 ++ data_sp))] ∧ Keep w.heap.size [data_ob] w [data_ob] w' ∧ Els rI (vH w S [data_ob] w') cs11 data11 ∧ data.length = List.length data11 ∧ (cs11 ++ data_sp).length = data_cap * rI.sz ∧ True) ⟨data_cs, _, (zdx ⟨rfl, rfl, rfl, rfl, rfl, trivial⟩), hL, zbt, data_hE, rfl, data_hc, trivial⟩ ?_
  rintro ⟨data11, i10⟩ oo _ w10 ⟨cs11, u, rfl, hL10, K10, hE10, hl11, hc10, -⟩ h hd10
  rw [insSort_b1] at h
  refine zan (zan (zaf rfl (zag (zae (v := (zI i10)) rfl ?_))))
  refine zag (zae (v := (zI b)) rfl ?_)
  refine zag (zck (x := i10) (y := b) ((i10 : Int) < b) rfl rfl zbk (zas ?_))
  refine zbm ((i10 : Int) < b) rfl (fun hc11 => ?_) (fun hc11 => ?_)
  ·
   replace h := ite_t hc11 h
   refine zbl (zan (zbb (zan (zaf rfl (zag (zae (v := (zI i10)) rfl ?_))))))
   refine zag (zal (v := (zI i10)) rfl (zas ?_))
   obtain ⟨s11, hl12, g11⟩ := zdt h
   refine zbu (fun e w' => ∃ (data12 : (List Int)) (cs12 : List Value) (u : Env), data12 = s11 ∧ e = upds [(0, (osv data_ob 0 data.length data_cap)), (1, (zI a)), (2, (zI b)), (3, cmp_v), (8, (zI i10))] u ∧ Go.X.Loc X [] w w' [data_ob] [zab ([] ++ (cs12 ++ data_sp))] ∧ Keep w.heap.size [data_ob] w10 [data_ob] w' ∧ Els rI (vH w S [data_ob] w') cs12 data12 ∧ data.length = List.length data12 ∧ (cs12 ++ data_sp).length = data_cap * rI.sz ∧ True) ?_ ?_
   ·
    refine zbb ?_
    refine zca hl12 (fun (ss : ((List Int) × Int)) (e : Env) (w' : World) => match ss with | (data13, j10) => ∃ (cs13 : List Value) (u : Env), e = upds [(0, (osv data_ob 0 data.length data_cap)), (1, (zI a)), (2, (zI b)), (3, cmp_v), (8, (zI i10)), (9, (zI j10))] u ∧ Go.X.Loc X [] w w' [data_ob] [zab ([] ++ (cs13 ++ data_sp))] ∧ Keep w.heap.size [data_ob] w10 [data_ob] w' ∧ Els rI (vH w S [data_ob] w') cs13 data13 ∧ data.length = List.length data13 ∧ (cs13 ++ data_sp).length = data_cap * rI.sz ∧ True) ⟨cs11, _, (zdx ⟨rfl, rfl, rfl, rfl, rfl, rfl, trivial⟩), hL10, zbt, hE10, hl11, hc10, trivial⟩ ?_
    rintro ⟨data13, j10⟩ oo _ w11 ⟨cs13, u, rfl, hL11, K11, hE11, hl13, hc12, -⟩ h hd11
    rw [insSort_b2] at h
    refine zan (zan ?_)
    obtain ⟨s12, h, g12⟩ := zdt h
    refine zbu (fun e w' => ∃ (x10 : Bool) (u : Env), x10 = s12 ∧ e = upds [(0, (osv data_ob 0 data.length data_cap)), (1, (zI a)), (2, (zI b)), (3, cmp_v), (8, (zI i10)), (9, (zI j10)), (34, (zac x10))] u ∧ Go.X.Loc X [] w w' [data_ob] [zab ([] ++ (cs13 ++ data_sp))] ∧ Keep w.heap.size [data_ob] w11 [data_ob] w' ∧ True) ?_ ?_
    ·
     by_cases hc13 : (j10 : Int) > a
     ·
      replace h := ite_t hc13 h
      obtain ⟨x11, n10, q11, q12, q13, h⟩ := zix h
      obtain ⟨b10, hb10⟩ := hL11.row_some 0 rfl rfl (zem (pre := []) hE11 q12 (Nat.lt_of_sub_eq_succ rfl))
      obtain ⟨vs10, q14, q15, q16⟩ := zee (pre := []) (sp := data_sp) hE11 q12
      obtain rfl := q15
      obtain ⟨x12, n11, q18, q19, q20, h⟩ := zix h
      obtain ⟨vs11, q21, q22, q23⟩ := zee (pre := []) (sp := data_sp) hE11 q19
      obtain rfl := q22
      refine zcz 14 [] [] (fun W1 => [.det (zI j10), .det (zI a), .det (zac (decide ((j10 : Int) > a))), .det (zac (decide ((j10 : Int) > a))), .det cmp_v, .det (osv data_ob 0 data.length data_cap), .det (zI j10), .det (zak (some ⟨b10, (0 + n10 * rI.sz), none⟩)), .det (zI x11), .det (osv data_ob 0 data.length data_cap), .det (zI j10), .det (zI (iw (j10 - 1))), .det (zak (some ⟨b10, (0 + n11 * rI.sz), none⟩)), .det (zI x12)]) mixed rfl rfl rfl (fun _ => rfl) (fun _ => rfl) ?_ ?_
      ·
       intro W1 _
       exact trivial
      intro w12 hE12
      obtain ⟨hL12, K12⟩ := zl hL11 hE12
      refine zay (fun _ _ => zaq (zae rfl (er rfl))) ?_
      refine zay (fun _ _ => zaq (zae rfl (er rfl))) ?_
      refine zay (fun _ _ => zaq (OpY.gtr ((j10 : Int) > a) rfl rfl zbk (er rfl))) ?_
      refine zay (fun _ _ => zaq (zae rfl (er rfl))) ?_
      refine zay (fun _ _ => zda rfl rfl (zdv hc13) (zae rfl (er rfl))) ?_
      refine zay (fun _ _ => zda rfl rfl (zdv hc13) (zae rfl (er rfl))) ?_
      refine zay (fun _ _ => zda rfl rfl (zdv hc13) (zae rfl (er rfl))) ?_
      refine zay (fun _ _ => zda rfl rfl (zdv hc13) (zbd (r := rI) (b := b10) (o := 0) (n := n10) (m := data.length) (xs := data13) (q := (0 + n10 * rI.sz)) zao ti3 (zef hb10) hl13 rfl q11 q13 rfl (er rfl))) ?_
      refine zay (fun _ hE21 => zda rfl rfl (zdv hc13) (zbx zaw rfl rfl (zel hb10 ((hL12.ext hE21).at 0 rfl rfl)) q16 (er rfl))) ?_
      refine zay (fun _ _ => zda rfl rfl (zdv hc13) (zae rfl (er rfl))) ?_
      refine zay (fun _ _ => zda rfl rfl (zdv hc13) (zae rfl (er rfl))) ?_
      refine zay (fun _ _ => zda rfl rfl (zdv hc13) (OpY.sub rfl rfl rfl (er rfl))) ?_
      refine zay (fun _ _ => zda rfl rfl (zdv hc13) (zbd (r := rI) (b := b10) (o := 0) (n := n11) (m := data.length) (xs := data13) (q := (0 + n11 * rI.sz)) zao ti3 (zef hb10) hl13 rfl q18 q20 rfl (er rfl))) ?_
      refine zay (fun _ hE26 => zda rfl rfl (zdv hc13) (zbx zaw rfl rfl (zel hb10 ((hL12.ext hE26).at 0 rfl rfl)) q23 (er rfl))) ?_
      refine zdj ?_
      rintro w27 Z33 hE27 hZ24 ⟨-⟩ ap10
      have hB10 := @zhb w12 Z33
      obtain ⟨hL15, K13⟩ := zl hL12 hE27
      obtain ⟨r10, q24, h⟩ := zdt h
      refine zaz rfl rfl (zdv hc13) (OpY.callF rfl rfl (cmp_h _ hL15.xte x11 x12  r10 q24) ?_)
      rintro _ w28 hE28 ⟨rfl, -⟩
      obtain ⟨hL16, K14⟩ := zl hL15 hE28
      refine zaz rfl rfl (zdv hc13) (zck (x := r10) (y := 0) ((r10 : Int) < 0) rfl rfl zbk ?_)
      refine zag (zbr (t := (decide ((j10 : Int) > a))) (v := (zac (decide ((r10 : Int) < 0)))) rfl (zdv hc13) rfl (zas ?_))
      obtain rfl := zad h
      refine zat ?_
      exact ⟨(decide ((r10 : Int) < 0)), _, rfl, (zdx ⟨rfl, rfl, rfl, rfl, rfl, rfl, rfl, trivial⟩), hL16, (zam (zam K12 K13) K14), trivial⟩
     replace h := ite_f hc13 h
     refine zcz 14 [] [] (fun W1 => [.det (zI j10), .det (zI a), .det (zac (decide ((j10 : Int) > a))), .det (zac (decide ((j10 : Int) > a))), .det undef, .det undef, .det undef, .det undef, .det undef, .det undef, .det undef, .det undef, .det undef, .det undef]) mixed rfl rfl rfl (fun _ => rfl) (fun _ => rfl) ?_ ?_
     ·
      intro W1 _
      exact trivial
     intro w29 hE29
     obtain ⟨hL17, K15⟩ := zl hL11 hE29
     refine zay (fun _ _ => zaq (zae rfl (er rfl))) ?_
     refine zay (fun _ _ => zaq (zae rfl (er rfl))) ?_
     refine zay (fun _ _ => zaq (OpY.gtr ((j10 : Int) > a) rfl rfl zbk (er rfl))) ?_
     refine zay (fun _ _ => zaq (zae rfl (er rfl))) ?_
     refine zay (fun _ _ => zdl rfl rfl (zdu hc13) (er rfl)) ?_
     refine zay (fun _ _ => zdl rfl rfl (zdu hc13) (er rfl)) ?_
     refine zay (fun _ _ => zdl rfl rfl (zdu hc13) (er rfl)) ?_
     refine zay (fun _ _ => zdl rfl rfl (zdu hc13) (er rfl)) ?_
     refine zay (fun _ _ => zdl rfl rfl (zdu hc13) (er rfl)) ?_
     refine zay (fun _ _ => zdl rfl rfl (zdu hc13) (er rfl)) ?_
     refine zay (fun _ _ => zdl rfl rfl (zdu hc13) (er rfl)) ?_
     refine zay (fun _ _ => zdl rfl rfl (zdu hc13) (er rfl)) ?_
     refine zay (fun _ _ => zdl rfl rfl (zdu hc13) (er rfl)) ?_
     refine zay (fun _ _ => zdl rfl rfl (zdu hc13) (er rfl)) ?_
     refine zdj ?_
     rintro w44 Z48 hE44 hZ39 ⟨-⟩ ap11
     have hB11 := @zhb w29 Z48
     obtain ⟨hL18, K16⟩ := zl hL17 hE44
     refine zbe rfl rfl (zdu hc13) (zbe rfl rfl (zdu hc13) ?_)
     refine zag (zbp (t := (decide ((j10 : Int) > a))) (v := zF) rfl (zdu hc13) rfl (zas ?_))
     obtain rfl := zad h
     refine zat ?_
     exact ⟨false, _, rfl, (zdx ⟨rfl, rfl, rfl, rfl, rfl, rfl, rfl, trivial⟩), hL18, (zam K15 K16), trivial⟩
    rintro _ w45 ⟨x10, u, rfl, rfl, hL19, K17, -⟩
    replace h := g12
    try dsimp only at h
    refine zch x10 rfl (fun hc14 => ?_) (fun hc14 => ?_)
    ·
     replace h := ite_t hc14 h
     refine zbl (zan (zbb ?_))
     obtain ⟨x13, n12, q26, q27, q28, h⟩ := zix h
     have f10 := (hE11.mono (K17 S))
     obtain ⟨b11, hb11⟩ := hL19.row_some 0 rfl rfl (zem (pre := []) f10 q27 (Nat.lt_of_sub_eq_succ rfl))
     obtain ⟨vs12, q29, q30, q31⟩ := zee (pre := []) (sp := data_sp) f10 q27
     obtain rfl := q30
     obtain ⟨x14, n13, q33, q34, q35, h⟩ := zix h
     obtain ⟨vs13, q36, q37, q38⟩ := zee (pre := []) (sp := data_sp) f10 q34
     obtain rfl := q37
     obtain ⟨x15, n14, q40, q41, q42, h⟩ := zix h
     obtain ⟨x16, n15, q44, q45, q46, h⟩ := zix h
     refine Swp.drawP [15, 17] [0, 1, 2, 3, 4, 5, 6, 7, 8, 9, 10, 11, 12, 13, 14, 16] [(37, (osv data_ob 0 data.length data_cap)), (38, (zI j10)), (39, (osv data_ob 0 data.length data_cap)), (40, (zI j10)), (41, (zI (iw (j10 - 1)))), (42, (osv data_ob 0 data.length data_cap)), (43, (zI j10)), (44, (zI (iw (j10 - 1)))), (45, (zak (some ⟨b11, (0 + n12 * rI.sz), none⟩))), (46, (zI x13)), (47, (osv data_ob 0 data.length data_cap)), (48, (zI j10)), (49, (zak (some ⟨b11, (0 + n13 * rI.sz), none⟩))), (50, (zI x14)), (51, (zak (some ⟨b11, (0 + n14 * rI.sz), none⟩))), (52, (zak (some ⟨b11, (0 + n15 * rI.sz), none⟩)))] mixed rfl rfl rfl rfl ?_
     intro w46 hE45
     obtain ⟨hL20, K18⟩ := zl hL19 hE45
     refine ⟨?_, ?_⟩
     ·
      refine zaj (i := 0) rfl rfl (zaq (zae (v := (osv data_ob 0 data.length data_cap)) rfl zrr)) ?_
      refine zaj (i := 1) rfl rfl (zaq (zae (v := (zI j10)) rfl zrr)) ?_
      refine zaj (i := 2) rfl rfl (zaq (zae (v := (osv data_ob 0 data.length data_cap)) rfl zrr)) ?_
      refine zaj (i := 3) rfl rfl (zaq (zae (v := (zI j10)) rfl zrr)) ?_
      refine zaj (i := 4) rfl rfl (zaq (OpY.sub (x := j10) (y := 1) (z := (iw (j10 - 1))) rfl rfl rfl zrr)) ?_
      refine zaj (i := 5) rfl rfl (zaq (zae (v := (osv data_ob 0 data.length data_cap)) rfl zrr)) ?_
      refine zaj (i := 6) rfl rfl (zaq (zae (v := (zI j10)) rfl zrr)) ?_
      refine zaj (i := 7) rfl rfl (zaq (OpY.sub (x := j10) (y := 1) (z := (iw (j10 - 1))) rfl rfl rfl zrr)) ?_
      refine zaj (i := 8) rfl rfl (zaq (zbd (r := rI) (b := b11) (o := 0) (n := n12) (m := data.length) (xs := data13) (q := (0 + n12 * rI.sz)) zao ti3 (zef hb11) hl13 rfl q26 q28 rfl zrr)) ?_
      refine zaj (i := 9) rfl rfl (zaq (zbx (v := (zI x13)) zaw rfl rfl (zel hb11 (hL20.at 0 rfl rfl)) q31 zrr)) ?_
      refine zaj (i := 10) rfl rfl (zaq (zae (v := (osv data_ob 0 data.length data_cap)) rfl zrr)) ?_
      refine zaj (i := 11) rfl rfl (zaq (zae (v := (zI j10)) rfl zrr)) ?_
      refine zaj (i := 12) rfl rfl (zaq (zbd (r := rI) (b := b11) (o := 0) (n := n13) (m := data.length) (xs := data13) (q := (0 + n13 * rI.sz)) zao ti3 (zef hb11) hl13 rfl q33 q35 rfl zrr)) ?_
      refine zaj (i := 13) rfl rfl (zaq (zbx (v := (zI x14)) zaw rfl rfl (zel hb11 (hL20.at 0 rfl rfl)) q38 zrr)) ?_
      refine zaj (i := 14) rfl rfl (zaq (zbd (r := rI) (b := b11) (o := 0) (n := n14) (m := data.length) (xs := data13) (q := (0 + n14 * rI.sz)) zao ti3 (zef hb11) hl13 rfl q40 q42 rfl zrr)) ?_
      refine zaj (i := 16) rfl rfl (zaq (zbd (r := rI) (b := b11) (o := 0) (n := n15) (m := data.length) (xs := data13) (q := (0 + n15 * rI.sz)) zao ti3 (zef hb11) hl13 rfl q44 q46 rfl zrr)) ?_
      exact zby
     obtain ⟨x17, n16, q48, q49, q50, h⟩ := zux h
     obtain rfl := zin q40 q48
     have f11 := (f10.mono (K18 S))
     refine RlL.op0 (zdf (pre := []) (r := rI) (vs := [(zI x13)]) (a := x13) ti3 rfl rfl rfl rfl hL20 0 (congrArg some hb11) rfl f11 q42 rfl q50 ?_)
     have hl14 : data.length = List.length x17 := by rw [q50, List.length_set]; exact hl13
     intro w47 cs14 (hL21 : Go.X.Loc X [] w w47 [data_ob] [zab ([] ++ (cs14 ++ data_sp))]) hS10 hE46 q51
     have hc15 : (cs14 ++ data_sp).length = data_cap * rI.sz := zhc hc12 q51
     have K19 := ks w hS10
     refine ⟨?_, ?_⟩
     ·
      refine zaj (i := 2) rfl rfl (zaq (zae (v := (osv data_ob 0 data.length data_cap)) rfl zrr)) ?_
      refine zaj (i := 3) rfl rfl (zaq (zae (v := (zI j10)) rfl zrr)) ?_
      refine zaj (i := 4) rfl rfl (zaq (OpY.sub (x := j10) (y := 1) (z := (iw (j10 - 1))) rfl rfl rfl zrr)) ?_
      refine zaj (i := 10) rfl rfl (zaq (zae (v := (osv data_ob 0 data.length data_cap)) rfl zrr)) ?_
      refine zaj (i := 11) rfl rfl (zaq (zae (v := (zI j10)) rfl zrr)) ?_
      refine zaj (i := 12) rfl rfl (zaq (zbd (r := rI) (b := b11) (o := 0) (n := n13) (m := data.length) (xs := x17) (q := (0 + n13 * rI.sz)) zao ti3 (zef hb11) hl14 rfl q33 (Nat.lt_of_lt_of_eq q35 (Eq.trans (Eq.symm hl13) hl14)) rfl zrr)) ?_
      refine zaj (i := 16) rfl rfl (zaq (zbd (r := rI) (b := b11) (o := 0) (n := n15) (m := data.length) (xs := x17) (q := (0 + n15 * rI.sz)) zao ti3 (zef hb11) hl14 rfl q44 (Nat.lt_of_lt_of_eq q46 (Eq.trans (Eq.symm hl13) hl14)) rfl zrr)) ?_
      exact zby
     obtain ⟨x18, n17, q53, q54, -, h⟩ := zix h
     obtain rfl := zin q44 q53
     have q55 := (List.getElem?_eq_some_iff.1 q54).1
     obtain ⟨x19, n18, q57, q58, q59, h⟩ := zux h
     obtain rfl := zin q44 q57
     have f12 := (hE46.mono (K19 S))
     refine RlL.op0 (zdf (pre := []) (r := rI) (vs := [(zI x14)]) (a := x14) ti3 rfl rfl rfl rfl hL21 0 (congrArg some hb11) rfl f12 q55 rfl q59 ?_)
     have hl15 : data.length = List.length x19 := by rw [q59, List.length_set]; exact hl14
     intro w48 cs15 (hL22 : Go.X.Loc X [] w w48 [data_ob] [zab ([] ++ (cs15 ++ data_sp))]) hS11 hE47 q60
     have hc16 : (cs15 ++ data_sp).length = data_cap * rI.sz := zhc hc15 q60
     have K20 := ks w hS11
     refine ⟨?_, ?_⟩
     ·
      exact zby
     refine RlL.fin ?_
     refine zbh (zaf rfl (zag (zae (v := (zI j10)) rfl ?_)))
     refine zag (OpY.sub (x := j10) (y := 1) (z := (iw (j10 - 1))) rfl rfl rfl ?_)
     refine zag (zal (v := (zI (iw (j10 - 1)))) rfl (zas ?_))
     have f13 := (hE47.mono (K20 S))
     obtain rfl := zad h
     refine zat ⟨(x19, (iw (j10 - 1))), rfl, ?_⟩
     exact ⟨cs15, _, (zdx ⟨rfl, rfl, rfl, rfl, rfl, rfl, trivial⟩), hL22, (zam (zam (zam (zam K11 K17) K18) K19) K20), f13, hl15, hc16, trivial⟩
    replace h := ite_f hc14 h
    refine zcf rfl ?_
    have f14 := (hE11.mono (K17 S))
    obtain rfl := zad h
    obtain rfl := hd11 _ rfl
    replace h := g11
    try dsimp only at h
    refine zat ?_
    exact ⟨data13, cs13, _, rfl, (zdx ⟨rfl, rfl, rfl, rfl, rfl, trivial⟩), hL19, (zam K11 K17), f14, hl13, hc12, trivial⟩
   rintro _ w49 ⟨data12, cs12, u, rfl, rfl, hL23, K21, hE48, hl16, hc17, -⟩
   replace h := g11
   try dsimp only at h
   refine zbh (zaf rfl (zag (zae (v := (zI i10)) rfl ?_)))
   refine zag (zce (x := i10) (y := 1) (z := (iw (i10 + 1))) rfl rfl rfl ?_)
   refine zag (zal (v := (zI (iw (i10 + 1)))) rfl (zas ?_))
   obtain rfl := zad h
   refine zat ⟨(data12, (iw (i10 + 1))), rfl, ?_⟩
   exact ⟨cs12, _, (zdx ⟨rfl, rfl, rfl, rfl, rfl, trivial⟩), hL23, (zam K10 K21), hE48, hl16, hc17, trivial⟩
  replace h := ite_f hc11 h
  refine zcf rfl ?_
  obtain rfl := zad h
  obtain rfl := hd10 _ rfl
  replace h := g10
  try dsimp only at h
  refine zat ?_
  exact ⟨data11, cs11, _, rfl, (zdx zrt), hL10, K10, hE10, hl11, hc10, trivial⟩
 rintro _ w50 ⟨data10, cs10, u, rfl, rfl, hL24, K22, hE49, hl17, hc18, -⟩
 replace h := g10
 try dsimp only at h
 refine Swp.nil ?_
 obtain rfl := zad h
 refine ⟨[], trivial, ?_⟩
 exact ⟨cs10, data_sp, rfl, (by have h9 := hL24; (try rw [hl17] at h9); exact h9), K22, hl17, hE49, hc18, trivial⟩
theorem stableSort_w (N : Nat) (data : (List Int)) (n : Int) (cmp : (Int → Int → Option Int)) (data_ob : Option Nat) (data_cap : Nat) (data_cs : List Value) (data_sp : List Value) (cmp_v : Value) (X : List (Option Nat)) (w : World) (S : Nat → Prop) (hL : Go.X.Loc X [] w w [data_ob] [zab ([] ++ (data_cs ++ data_sp))]) (data_hE : Els rI (vH w S [data_ob] w) data_cs data) (data_hc : (data_cs ++ data_sp).length = data_cap * rI.sz) (cmp_h : ∀ w' : World, Xte X w w' → ∀ (xa_ : Int) (xb_ : Int), ∀ z, cmp xa_ xb_ = some z → FunOk Try.prog cmp_v [(zI xa_), (zI xb_)] w' (fun v w'' => zI z = v ∧ True)) (r : (List Int)) (h : stableSort N data n cmp = some r) :
  Calls Try.prog 61 #[(osv data_ob 0 data.length data_cap), (zI n), cmp_v] w (fun e w' => ∃ (o0_cs : List Value) (o0_sp : List Value), e = Ending.returned (Value.tuple #[]) ∧ Go.X.Loc X [] w w' [data_ob] [zab ([] ++ (o0_cs ++ o0_sp))] ∧ Keep w.heap.size [data_ob] w [data_ob] w' ∧ List.length data = List.length r ∧ Els rI (vH w S [data_ob] w') o0_cs r ∧ (o0_cs ++ o0_sp).length = data_cap * rI.sz ∧ True) := by
 unfold stableSort at h
 refine calls_of (l := [(osv data_ob 0 data.length data_cap), (zI n), cmp_v]) (rl := []) (n := 63) Try.func61 rfl rfl rfl (zai rfl) ?_
 refine zan (zaf rfl (zag (zal (v := (zI 20)) rfl ?_)))
 refine zas (zan (zaf rfl (zag (zae (v := (zI 20)) rfl ?_))))
 refine zag (zal (v := (zI 0)) rfl ?_)
 refine zag (zal (v := (zI 20)) rfl ?_)
 refine zas (zan ?_)
 obtain ⟨s10, hl10, g10⟩ := zdt h
 refine zbu (fun e w' => ∃ (data10 : (List Int)) (a10 : Int) (sp10 : List Value) (cs10 : List Value) (u : Env), (data10, a10) = s10 ∧ e = upds [(0, (osv data_ob 0 data.length data_cap)), (1, (zI n)), (2, cmp_v), (6, (zI 20)), (7, (zI a10))] u ∧ Go.X.Loc X [] w w' [data_ob] [zab ([] ++ (cs10 ++ sp10))] ∧ Keep w.heap.size [data_ob] w [data_ob] w' ∧ Els rI (vH w S [data_ob] w') cs10 data10 ∧ data.length = List.length data10 ∧ (cs10 ++ sp10).length = data_cap * rI.sz ∧ True) ?_ ?_
 ·
  refine zbb ?_
  refine zca hl10 (fun (ss : ((List Int) × Int × Int)) (e : Env) (w' : World) => match ss with | (data11, a11, b10) => ∃ (sp11 : List Value) (cs11 : List Value) (u : Env), e = upds [(0, (osv data_ob 0 data.length data_cap)), (1, (zI n)), (2, cmp_v), (6, (zI 20)), (7, (zI a11)), (8, (zI b10))] u ∧ Go.X.Loc X [] w w' [data_ob] [zab ([] ++ (cs11 ++ sp11))] ∧ Keep w.heap.size [data_ob] w [data_ob] w' ∧ Els rI (vH w S [data_ob] w') cs11 data11 ∧ data.length = List.length data11 ∧ (cs11 ++ sp11).length = data_cap * rI.sz ∧ True) ⟨data_sp, data_cs, _, (zdx ⟨rfl, rfl, rfl, rfl, rfl, rfl, trivial⟩), hL, zbt, data_hE, rfl, data_hc, trivial⟩ ?_
  rintro ⟨data11, a11, b10⟩ oo _ w10 ⟨sp11, cs11, u, rfl, hL10, K10, hE10, hl11, hc10, -⟩ h hd10
  rw [stableSort_b1] at h
  refine zan (zan (zaf rfl (zag (zae (v := (zI b10)) rfl ?_))))
  refine zag (zae (v := (zI n)) rfl ?_)
  refine zag (OpY.leq (x := b10) (y := n) ((b10 : Int) ≤ n) rfl rfl zbk (zas ?_))
  refine zbm ((b10 : Int) ≤ n) rfl (fun hc11 => ?_) (fun hc11 => ?_)
  ·
   replace h := ite_t hc11 h
   refine zbl (zbb (zan (zaf rfl (zag (zae (v := (osv data_ob 0 data.length data_cap)) rfl ?_)))))
   refine zag (zae (v := (zI a11)) rfl ?_)
   refine zag (zae (v := (zI b10)) rfl ?_)
   refine zag (zae (v := cmp_v) rfl ?_)
   obtain ⟨r10, q10, h⟩ := zdt h
   have hL11 := hL10.lendW [0] rfl rfl rfl
   refine zag (zdo en72 rfl rfl (calls_args (by rw [← hl11]; first | done | rfl) (insSort_w N data11 a11 b10 cmp data_ob data_cap cs11 sp11 cmp_v [data_ob] _ Any (by have h9 := hL11; (try rw [hl11] at h9); exact h9) (hE10.mono (zcn [0] rfl)) hc10 (fun w9 hE9 => cmp_h w9 (Xte.lent hL10 [0] rfl hE9)) r10 q10)) ?_)
   rintro _ w11 ⟨cs12, sp12, rfl, hL12, K11, hl12, hE11, hc12, -⟩
   refine ⟨_, rfl, ?_⟩
   have hp10 := hL10.backW [0] [] rfl rfl rfl rfl hL12
   have hL13 : Go.X.Loc X [] w w11 [data_ob] [zab ([] ++ (cs12 ++ sp12))] := (by have h9 := hp10.1; (try rw [← (hl11.trans hl12)] at h9); exact h9)
   have K12 := ks w hp10.2
   have hE12 : Els rI (vH w S [data_ob] w11) cs12 r10 := zcg (fun _ _ _ _ h => h) hE11
   refine zas (zan (zaf rfl (zag (zae (v := (zI b10)) rfl ?_))))
   refine zag (zal (v := (zI b10)) rfl ?_)
   refine zas (zaf rfl (zag (zae (v := (zI b10)) rfl ?_)))
   refine zag (zae (v := (zI 20)) rfl ?_)
   refine zag (zce (x := b10) (y := 20) (z := (iw (b10 + 20))) rfl rfl rfl ?_)
   refine zag (zal (v := (zI (iw (b10 + 20)))) rfl ?_)
   refine zas (zbh ?_)
   obtain rfl := zad h
   refine zat ⟨(r10, b10, (iw (b10 + 20))), rfl, ?_⟩
   exact ⟨sp12, cs12, _, (zdx ⟨rfl, rfl, rfl, rfl, rfl, rfl, trivial⟩), hL13, (zam K10 K12), hE12, (hl11.trans hl12), hc12, trivial⟩
  replace h := ite_f hc11 h
  refine zcf rfl ?_
  obtain rfl := zad h
  obtain rfl := hd10 _ rfl
  replace h := g10
  try dsimp only at h
  refine zat ?_
  exact ⟨data11, a11, sp11, cs11, _, rfl, (zdx ⟨rfl, rfl, rfl, rfl, rfl, trivial⟩), hL10, K10, hE10, hl11, hc10, trivial⟩
 rintro _ w12 ⟨data10, a10, sp10, cs10, u, rfl, rfl, hL14, K13, hE13, hl13, hc13, -⟩
 replace h := g10
 try dsimp only at h
 refine zan (zaf rfl (zag (zae (v := (osv data_ob 0 data.length data_cap)) rfl ?_)))
 refine zag (zae (v := (zI a10)) rfl ?_)
 refine zag (zae (v := (zI n)) rfl ?_)
 refine zag (zae (v := cmp_v) rfl ?_)
 obtain ⟨r11, q11, h⟩ := zdt h
 have hL15 := hL14.lendW [0] rfl rfl rfl
 refine zag (zdo en72 rfl rfl (calls_args (by rw [← hl13]; first | done | rfl) (insSort_w N data10 a10 n cmp data_ob data_cap cs10 sp10 cmp_v [data_ob] _ Any (by have h9 := hL15; (try rw [hl13] at h9); exact h9) (hE13.mono (zcn [0] rfl)) hc13 (fun w9 hE9 => cmp_h w9 (Xte.lent hL14 [0] rfl hE9)) r11 q11)) ?_)
 rintro _ w13 ⟨cs13, sp13, rfl, hL16, K14, hl14, hE14, hc14, -⟩
 refine ⟨_, rfl, ?_⟩
 have hp11 := hL14.backW [0] [] rfl rfl rfl rfl hL16
 have hL17 : Go.X.Loc X [] w w13 [data_ob] [zab ([] ++ (cs13 ++ sp13))] := (by have h9 := hp11.1; (try rw [← (hl13.trans hl14)] at h9); exact h9)
 have K15 := ks w hp11.2
 have hE15 : Els rI (vH w S [data_ob] w13) cs13 r11 := zcg (fun _ _ _ _ h => h) hE14
 refine zas ?_
 obtain ⟨s11, hl15, g11⟩ := zdt h
 refine zbu (fun e w' => ∃  (u : Env), () = s11 ∧ e = upds [(0, (osv data_ob 0 data.length data_cap))] u ∧ Go.X.Loc X [] w w' [data_ob] [zab ([] ++ (cs13 ++ sp13))] ∧ Keep w.heap.size [data_ob] w13 [data_ob] w' ∧ True) ?_ ?_
 ·
  refine zbb ?_
  refine zca hl15 (fun (ss : Int) (e : Env) (w' : World) => match ss with | blockSize10 => ∃ (u : Env), e = upds [(0, (osv data_ob 0 data.length data_cap)), (1, (zI n)), (2, cmp_v), (6, (zI blockSize10))] u ∧ Go.X.Loc X [] w w' [data_ob] [zab ([] ++ (cs13 ++ sp13))] ∧ Keep w.heap.size [data_ob] w13 [data_ob] w' ∧ True) ⟨_, (zdx ⟨rfl, rfl, rfl, rfl, trivial⟩), hL17, zbt, trivial⟩ ?_
  rintro blockSize10 oo _ w14 ⟨u, rfl, hL18, K16, -⟩ h hd11
  rw [stableSort_b2] at h
  refine zan (zan (zaf rfl (zag (zae (v := (zI blockSize10)) rfl ?_))))
  refine zag (zae (v := (zI n)) rfl ?_)
  refine zag (zck (x := blockSize10) (y := n) ((blockSize10 : Int) < n) rfl rfl zbk (zas ?_))
  refine zbm ((blockSize10 : Int) < n) rfl (fun hc15 => ?_) (fun hc15 => ?_)
  ·
   replace h := ite_t hc15 h
   refine zbl (zbb (zan (zaf rfl (zag (zae (v := (zI blockSize10)) rfl ?_)))))
   refine zag (OpY.mul (x := 2) (y := blockSize10) (z := (iw (2 * blockSize10))) rfl rfl rfl ?_)
   refine zag (zal (v := (zI 0)) rfl ?_)
   refine zag (zal (v := (zI (iw (2 * blockSize10)))) rfl ?_)
   refine zas (zan ?_)
   obtain ⟨s12, hl16, g12⟩ := zdt h
   refine zbu (fun e w' => ∃  (u : Env), () = s12 ∧ e = upds [(0, (osv data_ob 0 data.length data_cap)), (1, (zI n)), (2, cmp_v), (6, (zI blockSize10)), (7, (zI 0))] u ∧ Go.X.Loc X [] w w' [data_ob] [zab ([] ++ (cs13 ++ sp13))] ∧ Keep w.heap.size [data_ob] w14 [data_ob] w' ∧ True) ?_ ?_
   ·
    refine zbb ?_
    refine zca hl16 (fun (ss : Unit) (e : Env) (w' : World) => match ss with | _ => ∃ (u : Env), e = upds [(0, (osv data_ob 0 data.length data_cap)), (1, (zI n)), (2, cmp_v), (6, (zI blockSize10)), (7, (zI 0)), (8, (zI (iw (2 * blockSize10))))] u ∧ Go.X.Loc X [] w w' [data_ob] [zab ([] ++ (cs13 ++ sp13))] ∧ Keep w.heap.size [data_ob] w14 [data_ob] w' ∧ True) ⟨_, (zdx ⟨rfl, rfl, rfl, rfl, rfl, rfl, trivial⟩), hL18, zbt, trivial⟩ ?_
    rintro _ oo _ w15 ⟨u, rfl, hL19, K17, -⟩ h hd12
    rw [stableSort_b3] at h
    refine zan (zan (zaf rfl (zag (zae (v := (zI (iw (2 * blockSize10)))) rfl ?_))))
    refine zag (zae (v := (zI n)) rfl ?_)
    refine zag (OpY.leq (x := (iw (2 * blockSize10))) (y := n) (((iw (2 * blockSize10)) : Int) ≤ n) rfl rfl zbk (zas ?_))
    refine zbm (((iw (2 * blockSize10)) : Int) ≤ n) rfl (fun hc16 => ?_) (fun hc16 => ?_)
    ·
     replace h := ite_t hc16 h
     refine zbl (zbb (zan (zaf rfl (zag (zae (v := (osv data_ob 0 data.length data_cap)) rfl ?_)))))
     refine zag (zae (v := (zI 0)) rfl ?_)
     refine zag (zae (v := (zI 0)) rfl ?_)
     refine zag (zae (v := (zI blockSize10)) rfl ?_)
     refine zag (zce (x := 0) (y := blockSize10) (z := (iw (0 + blockSize10))) rfl rfl rfl ?_)
     refine zag (zae (v := (zI (iw (2 * blockSize10)))) rfl ?_)
     refine zag (zae (v := cmp_v) rfl ?_)
     cases h
    replace h := ite_f hc16 h
    refine zcf rfl ?_
    obtain rfl := zad h
    obtain rfl := hd12 _ rfl
    replace h := g12
    try dsimp only at h
    refine zat ?_
    exact ⟨_, rfl, (zdx ⟨rfl, rfl, rfl, rfl, rfl, trivial⟩), hL19, K17, trivial⟩
   rintro _ w16 ⟨u, rfl, rfl, hL20, K18, -⟩
   replace h := g12
   try dsimp only at h
   refine zan (zan (zaf rfl (zag (zae (v := (zI 0)) rfl ?_))))
   refine zag (zae (v := (zI blockSize10)) rfl ?_)
   refine zag (zce (x := 0) (y := blockSize10) (z := (iw (0 + blockSize10))) rfl rfl rfl ?_)
   refine zag (zal (v := (zI (iw (0 + blockSize10)))) rfl ?_)
   refine zas (zan (zaf rfl (zag (zae (v := (zI (iw (0 + blockSize10)))) rfl ?_))))
   refine zag (zae (v := (zI n)) rfl ?_)
   refine zag (zck (x := (iw (0 + blockSize10))) (y := n) (((iw (0 + blockSize10)) : Int) < n) rfl rfl zbk (zas ?_))
   refine zbm (((iw (0 + blockSize10)) : Int) < n) rfl (fun hc17 => ?_) (fun hc17 => ?_)
   ·
    replace h := ite_t hc17 h
    refine zaf rfl (zag (zae (v := (osv data_ob 0 data.length data_cap)) rfl ?_))
    refine zag (zae (v := (zI 0)) rfl ?_)
    refine zag (zae (v := (zI (iw (0 + blockSize10)))) rfl ?_)
    refine zag (zae (v := (zI n)) rfl ?_)
    refine zag (zae (v := cmp_v) rfl ?_)
    cases h
   replace h := ite_f hc17 h
   refine zbl (zaf rfl (zag (zae (v := (zI blockSize10)) rfl ?_)))
   refine zag (OpY.mul (x := blockSize10) (y := 2) (z := (iw (blockSize10 * 2))) rfl rfl rfl ?_)
   refine zag (zal (v := (zI (iw (blockSize10 * 2)))) rfl ?_)
   refine zas (zbh ?_)
   obtain rfl := zad h
   refine zat ⟨(iw (blockSize10 * 2)), rfl, ?_⟩
   exact ⟨_, (zdx ⟨rfl, rfl, rfl, rfl, trivial⟩), hL20, (zam K16 K18), trivial⟩
  replace h := ite_f hc15 h
  refine zcf rfl ?_
  obtain rfl := zad h
  obtain rfl := hd11 _ rfl
  replace h := g11
  try dsimp only at h
  refine zat ?_
  exact ⟨_, rfl, (zdx zrt), hL18, K16, trivial⟩
 rintro _ w17 ⟨u, rfl, rfl, hL21, K19, -⟩
 replace h := g11
 try dsimp only at h
 refine Swp.nil ?_
 obtain rfl := zad h
 refine ⟨[], trivial, ?_⟩
 have f10 := (hE15.mono (K19 S))
 exact ⟨cs13, sp13, rfl, (by have h9 := hL21; (try rw [(hl13.trans hl14)] at h9); exact h9), (zam (zam K13 K15) K19), (hl13.trans hl14), f10, hc14, trivial⟩
theorem sortStable_w (N : Nat) (x : (List Int)) (cmp : (Int → Int → Option Int)) (x_ob : Option Nat) (x_cap : Nat) (x_cs : List Value) (x_sp : List Value) (cmp_v : Value) (X : List (Option Nat)) (w : World) (S : Nat → Prop) (hL : Go.X.Loc X [] w w [x_ob] [zab ([] ++ (x_cs ++ x_sp))]) (x_hE : Els rI (vH w S [x_ob] w) x_cs x) (x_hc : (x_cs ++ x_sp).length = x_cap * rI.sz) (cmp_h : ∀ w' : World, Xte X w w' → ∀ (xa_ : Int) (xb_ : Int), ∀ z, cmp xa_ xb_ = some z → FunOk Try.prog cmp_v [(zI xa_), (zI xb_)] w' (fun v w'' => zI z = v ∧ True)) (r : (List Int)) (h : sortStable N x cmp = some r) :
  Calls Try.prog 33 #[(osv x_ob 0 x.length x_cap), cmp_v] w (fun e w' => ∃ (o0_cs : List Value) (o0_sp : List Value), e = Ending.returned (Value.tuple #[]) ∧ Go.X.Loc X [] w w' [x_ob] [zab ([] ++ (o0_cs ++ o0_sp))] ∧ Keep w.heap.size [x_ob] w [x_ob] w' ∧ List.length x = List.length r ∧ Els rI (vH w S [x_ob] w') o0_cs r ∧ (o0_cs ++ o0_sp).length = x_cap * rI.sz ∧ True) := by
 unfold sortStable at h
 refine calls_of (l := [(osv x_ob 0 x.length x_cap), cmp_v]) (rl := []) (n := 9) Try.func33 rfl rfl rfl (zai rfl) ?_
 refine zaf rfl (zag (zae (v := (osv x_ob 0 x.length x_cap)) rfl ?_))
 refine zag (zae (v := (osv x_ob 0 x.length x_cap)) rfl ?_)
 refine zag (zcj (pre := []) (r := rI) (xs := x) zao rfl (hL.at 0 rfl rfl) x_hE rfl rfl ?_)
 refine zag (zae (v := cmp_v) rfl ?_)
 obtain ⟨r2, q3, h⟩ := zdt h
 have hL4 := hL.lendW [0] rfl rfl rfl
 refine zag (zdo en61 rfl rfl (stableSort_w N x (x.length : Int) cmp x_ob x_cap x_cs x_sp cmp_v [x_ob] _ Any hL4 (x_hE.mono (zcn [0] rfl)) x_hc (fun w9 hE9 => cmp_h w9 (Xte.lent hL [0] rfl hE9)) r2 q3) ?_)
 rintro _ w10 ⟨cs6, sp7, rfl, hL10, K10, hl8, hE9, hc10, -⟩
 refine ⟨_, rfl, ?_⟩
 have hp10 := hL.backW [0] [] rfl rfl rfl rfl hL10
 have hL11 : Go.X.Loc X [] w w10 [x_ob] [zab ([] ++ (cs6 ++ sp7))] := (by have h9 := hp10.1; (try rw [← hl8] at h9); exact h9)
 have K11 := ks w hp10.2
 have hE10 : Els rI (vH w S [x_ob] w10) cs6 r2 := zcg (fun _ _ _ _ h => h) hE9
 refine zas ?_
 refine Swp.nil ?_
 obtain rfl := zad h
 refine ⟨[], trivial, ?_⟩
 exact ⟨cs6, sp7, rfl, (by have h9 := hL11; (try rw [hl8] at h9); exact h9), K11, hl8, hE10, hc10, trivial⟩
theorem tSolve1_w (N : Nat) (a : Int) (b : Int) (ca : (List TClass)) (ca_b : Nat) (ca_v : Value) (w : World) (S : Nat → Prop) (ca_at : At (vH w S [] w) ca_b 0 [ca_v]) (ca_h : Rs rTClass (vH w S [] w) ca_v ca) (r : Int) (h : tSolve1 N a b ca = some r) :
  Calls Try.prog 34 #[(zI a), (zI b), (zak (some ⟨ca_b, 0, none⟩))] w (Ret w (fun v w' => (zI r) = v ∧ True)) := by
 unfold tSolve1 at h
 have hL : vL w w [] [] := Go.X.Loc.begin0 w
 refine calls_of (l := [(zI a), (zI b), (zak (some ⟨ca_b, 0, none⟩))]) (rl := [.tmp 5]) (n := 19) Try.func34 rfl rfl rfl (zai rfl) ?_
 refine zan (zaf rfl (zag (zal (v := (zI 0)) rfl ?_)))
 refine zas (zan ?_)
 obtain ⟨x1, n3, q4, q5, -, h⟩ := zix h
 obtain ⟨b6, o7, c8, vs9, q10, q11, f10, q12⟩ := zcy ca_h q5
 obtain ⟨v10, v11, v12, rfl, k10, k11, k12, -⟩ := rTClass_open q12
 have f11 := (f10.part (us := [v11]) 3 rfl)
 obtain ⟨x10, n10, q14, q15, -, h⟩ := zix h
 obtain ⟨b10, o10, c10, vs10, q16, q17, f12, q18⟩ := zcy ca_h q15
 obtain ⟨v13, v14, v15, rfl, k13, k14, k15, -⟩ := rTClass_open q18
 have f13 := (f12.part (us := [v14]) 3 rfl)
 refine zcz 12 [] [] (fun W1 => [.det ca_v, .det (zI a), .det (zak (some ⟨b6, (o7 + n3 * rTClass.sz), none⟩)), .det (zak (some ⟨b6, (o7 + n3 * rTClass.sz) + 3, none⟩)), .det v11, .det (zI (x1.words.length : Int)), .det ca_v, .det (zI b), .det (zak (some ⟨b10, (o10 + n10 * rTClass.sz), none⟩)), .det (zak (some ⟨b10, (o10 + n10 * rTClass.sz) + 3, none⟩)), .det v14, .det (zI (x10.words.length : Int))]) mixed rfl rfl rfl (fun _ => rfl) (fun _ => rfl) ?_ ?_
 ·
  intro W1 _
  exact trivial
 intro w10 hE10
 obtain ⟨hL10, K10⟩ := zl hL hE10
 refine zay (fun _ hE11 => zaq (zcd zap rfl rfl zec (zco ((ke hL10 hE11) S) (zco (K10 S) ca_at)) (er rfl))) ?_
 refine zay (fun _ _ => zaq (zae rfl (er rfl))) ?_
 refine zay (fun _ _ => zaq (zcb (r := rTClass) (v := ca_v) (n := n3) (m := (o7 + n3 * rTClass.sz)) zap ti56 rfl q10 rfl q4 q5 rfl (er rfl))) ?_
 refine zay (fun _ _ => zaq (zau zbi rfl ti27 rfl rfl rfl (er rfl))) ?_
 refine zay (fun _ hE15 => zaq (zcd zax rfl rfl zec (zco ((ke hL10 hE15) S) (zco (K10 S) f11)) (er rfl))) ?_
 refine zay (fun _ hE16 => zaq (zcc (v := v11) zax rfl ((k11.mono (K10 S)).mono ((ke hL10 hE16) S)) (er rfl))) ?_
 refine zay (fun _ hE17 => zaq (zcd zap rfl rfl zec (zco ((ke hL10 hE17) S) (zco (K10 S) ca_at)) (er rfl))) ?_
 refine zay (fun _ _ => zaq (zae rfl (er rfl))) ?_
 refine zay (fun _ _ => zaq (zcb (r := rTClass) (v := ca_v) (n := n10) (m := (o10 + n10 * rTClass.sz)) zap ti56 rfl q16 rfl q14 q15 rfl (er rfl))) ?_
 refine zay (fun _ _ => zaq (zau zbi rfl ti27 rfl rfl rfl (er rfl))) ?_
 refine zay (fun _ hE21 => zaq (zcd zax rfl rfl zec (zco ((ke hL10 hE21) S) (zco (K10 S) f13)) (er rfl))) ?_
 refine zay (fun _ hE22 => zaq (zcc (v := v14) zax rfl ((k14.mono (K10 S)).mono ((ke hL10 hE22) S)) (er rfl))) ?_
 refine zdj ?_
 rintro w23 Z31 hE23 hZ22 ⟨-⟩ ap10
 have hB10 := @zhb w10 Z31
 have hL11 := hL10.ext hE23
 refine zag (OpY.sub (x := (x1.words.length : Int)) (y := (x10.words.length : Int)) (z := (iw ((x1.words.length : Int) - (x10.words.length : Int)))) rfl rfl rfl ?_)
 refine zag (zal (v := (zI (iw ((x1.words.length : Int) - (x10.words.length : Int))))) rfl ?_)
 refine zas (zbq ?_)
 obtain rfl := zad h
 refine ⟨[(zI (iw ((x1.words.length : Int) - (x10.words.length : Int))))], zrt, ⟨_, rfl, hL11.done, ?_⟩⟩
 exact zrt
end Go.Proofs.Ytaakoedphmeenaa.WT

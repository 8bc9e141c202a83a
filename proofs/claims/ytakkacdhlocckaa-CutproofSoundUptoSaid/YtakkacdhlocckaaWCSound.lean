/- Walks, written by a program of mine (wip/tool); the kernel checks them. -/
import Derived.Test.YtakkacdhlocckaaProg
import Derived.Test.YtakkacdhlocckaaSqSound
import Derived.Test.YtakkacdhlocckaaPC
import Derived.Test.YtakkacdhlocckaaWASound
import Derived.Test.YtakkacdhlocckaaWRSound
import Derived.Test.YtakkacdhlocckaaWBSound
set_option maxRecDepth 100000
set_option maxHeartbeats 4000000
set_option linter.unusedVariables false
namespace Go.Proofs.Ytakkacdhlocckaa.WC
open Go Go.RowKit Go.X Go.D Go.Proofs.Ytakkacdhlocckaa.WA Go.Proofs.Ytakkacdhlocckaa.WR Go.Proofs.Ytakkacdhlocckaa.WB
theorem ti34 : TI Try.prog 34 3 56 (zap #[(zad none 0 0), (zaa false), (zad none 0 0)]) := TI.mk (by kernel_rfl)
theorem pl34 : placesT Try.prog 34 = some [(0, 1), (1, 2)] := by kernel_rfl
theorem ti32 : TI Try.prog 32 1 24 (zad none 0 0) := TI.mk (by kernel_rfl)
theorem en58 : Enters Try.prog 58 := ⟨Try.f58, Try.func58, by kernel_rfl, by kernel_rfl⟩
theorem en55 : Enters Try.prog 55 := ⟨Try.f55, Try.func55, by kernel_rfl, by kernel_rfl⟩
theorem en80 : Enters Try.prog 80 := ⟨Try.f80, Try.func80, by kernel_rfl, by kernel_rfl⟩
theorem en72 : Enters Try.prog 72 := ⟨Try.f72, Try.func72, by kernel_rfl, by kernel_rfl⟩
theorem en54 : Enters Try.prog 54 := ⟨Try.f54, Try.func54, by kernel_rfl, by kernel_rfl⟩
theorem en44 : Enters Try.prog 44 := ⟨Try.f44, Try.func44, by kernel_rfl, by kernel_rfl⟩
theorem en45 : Enters Try.prog 45 := ⟨Try.f45, Try.func45, by kernel_rfl, by kernel_rfl⟩
theorem ti23 : TI Try.prog 23 1 24 (zad none 0 0) := TI.mk (by kernel_rfl)
theorem ti50 : TI Try.prog 50 3 40 (zap #[(zab .i64 0), (zaa false), (zad none 0 0)]) := TI.mk (by kernel_rfl)
theorem en47 : Enters Try.prog 47 := ⟨Try.f47, Try.func47, by kernel_rfl, by kernel_rfl⟩
theorem en48 : Enters Try.prog 48 := ⟨Try.f48, Try.func48, by kernel_rfl, by kernel_rfl⟩
theorem en53 : Enters Try.prog 53 := ⟨Try.f53, Try.func53, by kernel_rfl, by kernel_rfl⟩
theorem ti39 : TI Try.prog 39 1 24 (zad none 0 0) := TI.mk (by kernel_rfl)
theorem ti28 : TI Try.prog 28 3 56 (zap #[(zad none 0 0), (zaa false), (zad none 0 0)]) := TI.mk (by kernel_rfl)
theorem en14 : Enters Try.prog 14 := ⟨Try.f14, Try.func14, by kernel_rfl, by kernel_rfl⟩
theorem ti40 : TI Try.prog 40 1 24 (zad none 0 0) := TI.mk (by kernel_rfl)
theorem en29 : Enters Try.prog 29 := ⟨Try.f29, Try.func29, by kernel_rfl, by kernel_rfl⟩
theorem en56 : Enters Try.prog 56 := ⟨Try.f56, Try.func56, by kernel_rfl, by kernel_rfl⟩
theorem en59 : Enters Try.prog 59 := ⟨Try.f59, Try.func59, by kernel_rfl, by kernel_rfl⟩
theorem ti42 : TI Try.prog 42 5 104 (zap #[(zad none 0 0), (zad none 0 0), (zaa false), (zad none 0 0), (zad none 0 0)]) := TI.mk (by kernel_rfl)
theorem en18 : Enters Try.prog 18 := ⟨Try.f18, Try.func18, by kernel_rfl, by kernel_rfl⟩
theorem en21 : Enters Try.prog 21 := ⟨Try.f21, Try.func21, by kernel_rfl, by kernel_rfl⟩
theorem pl28 : placesT Try.prog 28 = some [(0, 1), (1, 2)] := by kernel_rfl
theorem pl50 : placesT Try.prog 50 = some [(0, 1), (1, 2)] := by kernel_rfl
theorem pl42 : placesT Try.prog 42 = some [(0, 1), (1, 1), (2, 2), (4, 1)] := by kernel_rfl
theorem negated_w (N : Nat) (l : (List Big)) (bound : Big) (l_v : Value) (bound_v : Value) (w : World) (S : Nat → Prop) (l_h : Rs rBig (vH w S [] w) l_v l) (bound_h : Rs (rInt .u32) (vH w S [] w) bound_v bound.Digits) (r : Ineq) (h : negated N l bound = some r) :
  Calls Try.prog 55 #[l_v, (zap #[(zaa bound.Negative), bound_v])] w (Ret w (fun v w' => ∃ (v0_0 : Value) (v0_1 : Value), (zap #[v0_0, (zaa r.Bound.Negative), v0_1]) = v ∧ Rs rBig (vH w None [] w') v0_0 r.Coefs ∧ Rs (rInt .u32) (vH w None [] w') v0_1 r.Bound.Digits ∧ True)) := by
 unfold negated at h
 have hL : vL w w [] [] := Go.X.Loc.begin0 w
 refine calls_of (l := [l_v, (zap #[(zaa bound.Negative), bound_v])]) (rl := [.cell 4 34]) (n := 26) Try.func55 rfl rfl rfl (zae rfl) ?_
 refine zaj (zah rfl (zaf (zde (cs := [(zaa bound.Negative), bound_v]) rfl rfl hL ?_)))
 intro b1 w2 hL3 hS5
 have K4 := ks w hS5
 refine zaf (zca (cs := [(zad none 0 0), (zaa false), (zad none 0 0)]) ti34 rfl hL3 ?_)
 intro b6 w7 hL8 hS10
 have K9 := ks w hS10
 refine zan (zaj (zah rfl (zaf (zbm (vs := [(zaa bound.Negative), bound_v]) zam rfl ti26 rfl (hL8.at 1 rfl rfl) rfl rfl ?_))))
 obtain ⟨r10, q10, h⟩ := zdo h
 have f10 := ((bound_h.mono (K4 S)).mono (K9 S))
 refine zaf (zaw en63 rfl rfl (bNormal_w N bound bound_v _ Any (f10.mono vw_any) r10 q10) ?_)
 rintro _ w10 hE10 ⟨v10, rfl, k10, -⟩
 replace k10 := k10.mono (zba (S := None) hL8 [])
 have hL10 := hL8.ext hE10
 have K10 := ke hL8 hE10
 refine zaf (zcy (zc := [(zad none 0 0), (zaa false), (zad none 0 0)]) (cs := [(zad none 0 0), (zaa r10.Negative), v10]) (is := [1]) (vs := [(zap #[(zaa r10.Negative), v10])]) (css := [[(zaa r10.Negative), v10]]) pl34 ti34 rfl rfl rfl ⟨rfl, trivial⟩ rfl ?_)
 refine zaf (zca (cs := [(zad none 0 0), (zaa false), (zad none 0 0)]) ti34 rfl hL10 ?_)
 intro b10 w11 hL11 hS11
 have K11 := ks w hS11
 have f11 := (k10.mono (K11 None))
 refine zcc (zbn (vs := [(zad none 0 0), (zaa r10.Negative), v10]) ti34 rfl rfl rfl rfl (zds rfl (zds rfl (zds f11.one zdw))) hL11 0 rfl rfl (zae rfl) ?_)
 intro w12 (hL12 : vL w w12 [some b10, some b6, some b1] [zac [(zad none 0 0), (zaa r10.Negative), v10], zac [(zad none 0 0), (zaa false), (zad none 0 0)], zac [(zaa bound.Negative), bound_v]]) hS12
 have K12 := ks w hS12
 refine zan (zaj (zaj (zah rfl (zaf (zai (v := l_v) rfl ?_)))))
 have f12 := (((((l_h.mono (K4 S)).mono (K9 S)).mono (K10 S)).mono (K11 S)).mono (K12 S))
 refine zaf (zbd (v := l_v) zbb rfl f12 ?_)
 refine zaf (zai (v := (zab .i64 0)) rfl ?_)
 refine zan ?_
 obtain ⟨s10, hl10, g10⟩ := zdo h
 refine zbr (fun e w' => ∃ (coefs10 : (List Big)) (ob10 : Option Nat) (cap10 : Nat) (sp10 : List Value) (cs10 : List Value) (ln10 : Nat) (u : Env), coefs10 = s10 ∧ e = upds [(4, (zao (some ⟨b6, 0, none⟩))), (5, (zao (some ⟨b10, 0, none⟩)))] u ∧ vL w w' [some b6, some b10, ob10] [zac [(zad none 0 0), (zaa false), (zad none 0 0)], zac [(osv ob10 0 ln10 cap10), (zaa r10.Negative), v10], zac ([] ++ (cs10 ++ sp10))] ∧ Keep w.heap.size [some b10, some b6, some b1] w12 [some b6, some b10, ob10] w' ∧ Els rBig (vH w None [some b6, some b10, ob10] w') cs10 coefs10 ∧ ln10 = List.length coefs10 ∧ (cs10 ++ sp10).length = cap10 * rBig.sz ∧ True) ?_ ?_
 ·
  refine zbh ?_
  have hp10 := hL12.addNil
  have hL13 : vL w w12 [none, some b10, some b6, some b1] [zac ([] ++ ([] ++ [])), zac [(zad none 0 0), (zaa r10.Negative), v10], zac [(zad none 0 0), (zaa false), (zad none 0 0)], zac [(zaa bound.Negative), bound_v]] := hp10.1
  have K13 := ks w hp10.2
  have hp11 := hL13.pick [2, 1, 0] rfl rfl rfl
  have hL14 : vL w w12 [some b6, some b10, none] [zac [(zad none 0 0), (zaa false), (zad none 0 0)], zac [(osv none 0 (List.length ([] : (List Big))) 0), (zaa r10.Negative), v10], zac ([] ++ ([] ++ []))] := hp11.1
  have K14 := ks w hp11.2
  have f13 := ((zcp (r := rBig)).mono (K14 None))
  refine zce hl10 (fun (ss : ((List Big) × Int)) (e : Env) (w' : World) => match ss with | (coefs11, x10) => ∃ (ob11 : Option Nat) (cap11 : Nat) (sp11 : List Value) (cs11 : List Value) (ln11 : Nat) (u : Env), e = upds [(4, (zao (some ⟨b6, 0, none⟩))), (5, (zao (some ⟨b10, 0, none⟩))), (11, l_v), (12, (zab .i64 (l.length : Int))), (13, (zab .i64 x10))] u ∧ vL w w' [some b6, some b10, ob11] [zac [(zad none 0 0), (zaa false), (zad none 0 0)], zac [(osv ob11 0 ln11 cap11), (zaa r10.Negative), v10], zac ([] ++ (cs11 ++ sp11))] ∧ Keep w.heap.size [some b10, some b6, some b1] w12 [some b6, some b10, ob11] w' ∧ Els rBig (vH w None [some b6, some b10, ob11] w') cs11 coefs11 ∧ ln11 = List.length coefs11 ∧ (cs11 ++ sp11).length = cap11 * rBig.sz ∧ True) ⟨none, 0, [], [], (List.length ([] : (List Big))), _, (zdt ⟨rfl, rfl, rfl, rfl, rfl, trivial⟩), hL14, (zaq K13 K14), f13, rfl, (show ([] ++ [] : List Value).length = 0 * rBig.sz by simp), trivial⟩ ?_
  rintro ⟨coefs11, x10⟩ oo _ w13 ⟨ob11, cap11, sp11, cs11, ln11, u, rfl, hL15, K15, hE11, rfl, hc10, -⟩ h hd10
  rw [negated_b1] at h
  refine zaj (zah rfl (zaf (zcj (x := x10) (y := (l.length : Int)) ((x10 : Int) < (l.length : Int)) rfl rfl zbk ?_)))
  refine zan (zaj ?_)
  refine zbe ((x10 : Int) < (l.length : Int)) rfl (fun hc11 => ?_) (fun hc11 => ?_)
  ·
   replace h := ite_t hc11 h
   refine zbf (zaj (zbh (zaj (zah rfl ?_))))
   obtain ⟨x11, q11, h⟩ := zdo h
   obtain ⟨n10, q12, q13⟩ := zdu q11
   have f14 := (f12.mono (K15 S))
   obtain ⟨b11, o10, c10, vs10, q14, q15, f15, q16⟩ := zcw f14 q13
   obtain ⟨v11, rfl, k11, -⟩ := rBig_open q16
   refine zaf (zbw (r := rBig) (v := l_v) (n := n10) (m := (o10 + n10 * rBig.sz)) zbb ti26 rfl q14 rfl q12 q13 rfl ?_)
   refine zaf (zdh (vs := [(zaa x11.Negative), v11]) zam rfl ti26 rfl rfl zdy f15 ?_)
   refine zaf (zca (cs := [(zaa false), (zad none 0 0)]) ti26 rfl hL15 ?_)
   intro b12 w14 hL16 hS13
   have K16 := ks w hS13
   have f16 := (k11.mono (K16 S))
   refine zcc (zbn (vs := [(zaa x11.Negative), v11]) ti26 rfl rfl rfl rfl (zds rfl (zds f16.one zdw)) hL16 0 rfl rfl (zae rfl) ?_)
   intro w15 (hL17 : vL w w15 [some b12, some b6, some b10, ob11] [zac [(zaa x11.Negative), v11], zac [(zad none 0 0), (zaa false), (zad none 0 0)], zac [(osv ob11 0 coefs11.length cap11), (zaa r10.Negative), v10], zac ([] ++ (cs11 ++ sp11))]) hS14
   have K17 := ks w hS14
   refine zan ?_
   obtain ⟨r11, q17, h⟩ := zdo h
   refine zcf 5 [] [] (fun W1 => [.det (zao (some ⟨b10, 0, none⟩)), .det (osv ob11 0 coefs11.length cap11), .det (zap #[(zaa x11.Negative), v11]), .rel (fun v Z w' => ∃ v12, (zap #[(zaa r11.Negative), v12]) = v ∧ Rs (rInt .u32) (vZ W1 w None [some b12, some b6, some b10, ob11] Z w') v12 r11.Digits ∧ True) (fun _ => []), .rel (fun v Z w' => ∃ b13 cs12, (osv (some b13) 0 1 1) = v ∧ OwnC w' (some b13) (zac ([] ++ (cs12 ++ []))) ∧ Els rBig (vZ W1 w None [some b12, some b6, some b10, ob11] Z w') cs12 [r11] ∧ (cs12 ++ [] : List Value).length = 1 * rBig.sz ∧ True) footV]) mixed rfl rfl rfl (fun _ => rfl) (fun _ => rfl) ?_ ?_
   ·
    intro W1 _
    exact ⟨fun v Z Z' w w' hΦ hz _ _ hs => by obtain ⟨v12, rfl, k12, -⟩ := hΦ; exact ⟨v12, rfl, (k12.mono (zcs hz hs)), trivial⟩, ⟨fun v Z Z' w w' hΦ hz _ _ hs => by obtain ⟨b13, cs12, rfl, hO10, hE12, hc12, -⟩ := hΦ; exact ⟨b13, cs12, rfl, (hO10.stay (fun b hb => by cases hb; exact zax) hs), (hE12.mono (zcs hz hs)), hc12, trivial⟩, trivial⟩⟩
   ·
    intro w16 hE13
    have hL18 := hL17.ext hE13
    have K18 := ke hL17 hE13
    refine zau (fun _ _ => zav (zas zbg rfl ti32 rfl rfl rfl (er rfl))) ?_
    refine zau (fun _ hE15 => zav (zaz zbb rfl rfl ((hL18.ext hE15).at 2 rfl rfl) rfl (er rfl))) ?_
    refine zau (fun _ hE16 => zav (zbm (vs := [(zaa x11.Negative), v11]) zam rfl ti26 rfl ((hL18.ext hE16).at 0 rfl rfl) rfl rfl (er rfl))) ?_
    refine zct ?_ ?_
    ·
     rintro w20 Z13 hE17 hZ13 ⟨-⟩
     have K19 := ke hL18 hE17
     refine zav (zaw en57 rfl rfl (bNeg_w N x11 v11 _ Any ((((f16.mono (K17 S)).mono (K18 S)).mono (K19 S)).mono vw_any) r11 q17) ?_)
     rintro _ w21 hE18 ⟨v12, rfl, k12, -⟩
     exact zcn hE18 hZ13 zcb (fun _ h => h) ⟨v12, rfl, (k12.mono zdf), trivial⟩
    intro z3
    refine zct ?_ ?_
    ·
     rintro w22 Z14 hE19 hZ14 ⟨⟨⟨v12, rfl, k12, -⟩, hB3⟩, -⟩
     have hE20 : Els rBig (vZ w16 w None [some b12, some b6, some b10, ob11] Z14 w22) [(zaa r11.Negative), v12] [r11] := (zcg (a := [(zaa r11.Negative), v12]) (rBig_close ⟨v12, rfl, k12, trivial⟩) zcp)
     refine zav (zch (r := rBig) (vs := [(zap #[(zaa r11.Negative), v12])]) (css := [[(zaa r11.Negative), v12]]) (xs := [r11]) zbb ti26 (zae rfl) rfl rfl ⟨rfl, rfl, trivial⟩ (zae rfl) hE20 rfl (Go.X.Loc.begin0 w22) ?_)
     intro b13 w23 hc13 hL21 hS15
     have hN10 : NewOwn w22 w23 [some b13] [zac ([] ++ ([(zaa r11.Negative), v12] ++ []))] := hL21.newOwn [0] rfl rfl rfl
     exact zcn hL21.done hZ14 hN10 (fun _ h => h) ⟨b13, [(zaa r11.Negative), v12], rfl, hN10.2.2.1, (hE20.mono (Zv.grow hL21.done)), hc13, trivial⟩
    intro z4
    refine zco ?_
    rintro w24 Z15 hE21 hZ15 ⟨⟨⟨b13, cs12, rfl, hO10, hE12, hc12, -⟩, hB4⟩, ⟨⟨v12, rfl, k12, -⟩, hB3⟩, -⟩ ap10
    have hB10 : ∀ b, some b ∈ ([some b13] : List (Option Nat)) → w16.heap.size ≤ b ∧ ¬ Z15 b := by
     intro b hb
     rcases List.mem_cons.1 hb with hb' | hb
     ·
      have := hB4 b (by rw [hb']; exact zax); exact ⟨this.1, this.2.2⟩
     cases hb
    replace hE12 := hE12.mono (zdc hL18 hZ15 hB10)
    replace k12 := k12.mono (zdc hL18 hZ15 hB10)
    have hN11 : NewOwn w16 w24 [some b13] [zac ([] ++ (cs12 ++ []))] := (zda zcb hO10 (fun b hb => (hB10 b (by rw [← hb]; simp)).1) (fun b _ hb => by cases hb))
    have hp12 := hL18.adoptL hE21 hN11
    have hL22 := hp12.1
    have K20 := ks w hp12.2
    obtain ⟨x12, q18, h⟩ := zdo h
    obtain ⟨q19, q20, q21⟩ := zeb q18
    have f17 := ((((hE11.mono (K16 None)).mono (K17 None)).mono (K18 None)).mono (K20 None))
    refine zaf (zdk (r := rBig) (H := (vH w None [some b13, some b12, some b6, some b10, ob11] w24)) (cs := cs11) (sp := sp11) (xs := coefs11) (ys := [r11]) (Y := x12) (n := coefs11.length) (cap := cap11) (i := 4) zbb ti26 rfl rfl rfl rfl hL22 rfl rfl f17 rfl hc10 (Src.row (pre := []) (o := 0) (n := 1) (cap := 1) (hL22.at 0 rfl rfl) hE12 rfl rfl rfl) hE12 q19 q20 q21 ?_)
    intro ob12 cap12 sp12 cs13 w25 hE22 hc14 (hL23 : vL w w25 [some b13, some b12, some b6, some b10, ob12] [zac ([] ++ (cs12 ++ [])), zac [(zaa x11.Negative), v11], zac [(zad none 0 0), (zaa false), (zad none 0 0)], zac [(osv ob11 0 coefs11.length cap11), (zaa r10.Negative), v10], zac ([] ++ (cs13 ++ sp12))]) hS16
    have K21 := ks w hS16
    refine zaf (zas (q := 0) zbg rfl ti32 rfl rfl rfl ?_)
    refine zcc (zbn (vs := [(osv ob12 0 x12.length cap12)]) ti32 rfl rfl (zec (zea _ _ _ _)) rfl (zds (zea _ _ _ _) zdw) hL23 3 rfl rfl (zae rfl) ?_)
    intro w26 (hL24 : vL w w26 [some b13, some b12, some b6, some b10, ob12] [zac ([] ++ (cs12 ++ [])), zac [(zaa x11.Negative), v11], zac [(zad none 0 0), (zaa false), (zad none 0 0)], zac [(osv ob12 0 x12.length cap12), (zaa r10.Negative), v10], zac ([] ++ (cs13 ++ sp12))]) hS17
    have K22 := ks w hS17
    refine zan (zbt (zah rfl (zaf (zby (x := x10) (y := 1) (z := (iw (x10 + 1))) rfl rfl rfl ?_))))
    refine zaf (zai (v := (zab .i64 (iw (x10 + 1)))) rfl ?_)
    refine zan ?_
    have hp13 := hL24.pick [2, 3, 4] rfl rfl rfl
    have hL25 : vL w w26 [some b6, some b10, ob12] [zac [(zad none 0 0), (zaa false), (zad none 0 0)], zac [(osv ob12 0 x12.length cap12), (zaa r10.Negative), v10], zac ([] ++ (cs13 ++ sp12))] := hp13.1
    have K23 := ks w hp13.2
    have f18 := (((hE22.mono (K21 None)).mono (K22 None)).mono (K23 None))
    obtain rfl := zag h
    refine zar ⟨(x12, (iw (x10 + 1))), rfl, ?_⟩
    exact ⟨ob12, cap12, sp12, cs13, x12.length, _, (zdt ⟨rfl, rfl, rfl, rfl, rfl, trivial⟩), hL25, (zaq (zaq (zaq (zaq (zaq (zaq (zaq K15 K16) K17) K18) K20) K21) K22) K23), f18, rfl, hc14, trivial⟩
  ·
   replace h := ite_f hc11 h
   refine zcm rfl ?_
   obtain rfl := zag h
   obtain rfl := hd10 _ rfl
   replace h := g10
   try dsimp only at h
   skip
   refine zar ?_
   exact ⟨coefs11, ob11, cap11, sp11, cs11, coefs11.length, _, rfl, (zdt ⟨rfl, rfl, trivial⟩), hL15, K15, hE11, rfl, hc10, trivial⟩
 ·
  rintro _ w27 ⟨coefs10, ob10, cap10, sp10, cs10, ln10, u, rfl, rfl, hL26, K24, hE23, rfl, hc15, -⟩
  replace h := g10
  try dsimp only at h
  refine zaj (zah rfl (zaf (zbm (vs := [(osv ob10 0 coefs10.length cap10), (zaa r10.Negative), v10]) zbg rfl ti34 rfl (hL26.at 1 rfl rfl) rfl rfl ?_)))
  have f19 := ((f11.mono (K12 None)).mono (K24 None))
  refine zcc (zbn (vs := [(osv ob10 0 coefs10.length cap10), (zaa r10.Negative), v10]) ti34 rfl rfl rfl rfl (zds (zea _ _ _ _) (zds rfl (zds f19.one zdw))) hL26 0 rfl rfl (zae rfl) ?_)
  intro w28 (hL27 : vL w w28 [some b6, some b10, ob10] [zac [(osv ob10 0 coefs10.length cap10), (zaa r10.Negative), v10], zac [(osv ob10 0 coefs10.length cap10), (zaa r10.Negative), v10], zac ([] ++ (cs10 ++ sp10))]) hS18
  have K25 := ks w hS18
  refine zan ?_
  have f20 := (hE23.mono (K25 None))
  have f21 := hL27.freezeRow 2 rfl rfl f20 rfl rfl rfl hc15
  have hp14 := hL27.pick [0, 1] rfl rfl rfl
  have hL28 : vL w w28 [some b6, some b10] [zac [(osv ob10 0 coefs10.length cap10), (zaa r10.Negative), v10], zac [(osv ob10 0 coefs10.length cap10), (zaa r10.Negative), v10]] := hp14.1
  have K26 := ks w hp14.2
  refine zbj ?_
  obtain rfl := zag h
  refine ⟨[(zap #[(osv ob10 0 coefs10.length cap10), (zaa r10.Negative), v10])], ⟨⟨⟨b6, 0, none⟩, rfl, zdz zbg rfl ti34 (hL28.at 0 rfl rfl) rfl⟩, trivial⟩, ⟨_, rfl, hL28.done, ?_⟩⟩
  have f22 := ((f19.mono (K25 None)).mono (K26 None))
  exact ⟨(osv ob10 0 coefs10.length cap10), v10, rfl, (f21.mono zdi), (f22.mono zdi), trivial⟩
theorem cloneIneq_w (N : Nat) (s : (List Ineq)) (s_v : Value) (w : World) (S : Nat → Prop) (s_h : Rs rIneq (vH w S [] w) s_v s) (r : (List Ineq)) (h : cloneIneq N s = some r) :
  Calls Try.prog 53 #[s_v] w (Ret w (fun v w' => ∃ (ob0 : Option Nat) (cap0 : Nat) (cs0 : List Value) (sp0 : List Value), (osv ob0 0 r.length cap0) = v ∧ NewOwn w w' [ob0] [zac ([] ++ (cs0 ++ sp0))] ∧ Els rIneq (vH w S [ob0] w') cs0 r ∧ (cs0 ++ sp0).length = cap0 * rIneq.sz ∧ True)) := by
 unfold cloneIneq at h
 have hL : vL w w [] [] := Go.X.Loc.begin0 w
 refine calls_of (l := [s_v]) (rl := [.tmp 2]) (n := 8) Try.func53 rfl rfl rfl (zae rfl) ?_
 refine zaj (zah rfl (zaf (zak (v := (zad none 0 0)) rfl ?_)))
 refine zan (zaj (zaj (zah rfl (zaf (zai (v := s_v) rfl ?_)))))
 refine zaf (OpY.eqlNil (v := s_v) zbl rfl s_h.isSlice rfl ?_)
 refine zan ?_
 refine zcr (isNil s_v) rfl (fun hc1 => ?_) (fun hc1 => ?_)
 ·
  have hnil := (Sl.of_isNil s_h hc1).1
  replace h : some [] = some r := by rw [hnil] at h; simpa [apnd] using h
  refine zaj (zah rfl (zaf (zak (v := (zad none 0 0)) rfl ?_)))
  refine zan ?_
  have hp2 := hL.addNil
  have hL3 : vL w w [none] [zac ([] ++ ([] ++ []))] := hp2.1
  have hE6 : Els rIneq (vH w None [none] w) [] [] := zcp
  refine zbj ?_
  obtain rfl := zag h
  refine ⟨[(osv none 0 (List.length ([] : (List Ineq))) 0)], ⟨rfl, trivial⟩, ⟨_, rfl, hL3.done, ?_⟩⟩
  exact ⟨none, 0, [], [], rfl, (hL3.newOwn [0] rfl rfl rfl), ((hE6.mono Hv.none).mono (Hv.pick [0] rfl)), (show ([] ++ [] : List Value).length = 0 * rIneq.sz by simp), trivial⟩
 ·
  refine zbf (zaj (zah rfl (zaf (OpY.litRow0 zbl ti34 hL ?_))))
  intro b7 w10 hL10 hS10
  have hE10 : Els rIneq (vH w None [] w) [] [] := zcp
  have K10 := ks w hS10
  refine zaf (zai (v := s_v) rfl ?_)
  obtain ⟨x10, q10, h⟩ := zdo h
  obtain ⟨q11, q12, q13⟩ := zeb q10
  have f10 := (s_h.mono (K10 S))
  obtain ⟨ds10, q14, q15⟩ := Rs.src f10
  have f11 := (hE10.mono (K10 None))
  refine zaf (zdk (r := rIneq) (H := (vH w S [some b7] w10)) (cs := []) (sp := []) (xs := ([] : (List Ineq))) (ys := s) (Y := x10) (n := (List.length ([] : (List Ineq)))) (cap := 0) (i := 0) zbl ti34 rfl rfl rfl rfl hL10 rfl rfl (f11.mono Hv.none) rfl (show ([] ++ [] : List Value).length = 0 * rIneq.sz by simp) q14 q15 q11 q12 q13 ?_)
  intro ob10 cap10 sp10 cs10 w11 hE11 hc10 (hL11 : vL w w11 [ob10] [zac ([] ++ (cs10 ++ sp10))]) hS11
  have K11 := ks w hS11
  refine zaf (zak (v := (osv ob10 0 x10.length cap10)) rfl ?_)
  refine zan (zbj ?_)
  obtain rfl := zag h
  refine ⟨[(osv ob10 0 x10.length cap10)], ⟨rfl, trivial⟩, ⟨_, rfl, hL11.done, ?_⟩⟩
  have f12 := (hE11.mono (K11 S))
  exact ⟨ob10, cap10, cs10, sp10, rfl, (hL11.newOwn [0] rfl rfl rfl), (f12.mono (Hv.pick [0] rfl)), hc10, trivial⟩
theorem clipIneq_w (N : Nat) (s : (List Ineq)) (s_v : Value) (w : World) (S : Nat → Prop) (s_h : Rs rIneq (vH w S [] w) s_v s) (r : (List Ineq)) (h : clipIneq N s = some r) :
  Calls Try.prog 59 #[s_v] w (Ret w (fun v w' => ∃ (v0_0 : Value), v0_0 = v ∧ Rs rIneq (vH w S [] w') v0_0 r ∧ Clipped v0_0 ∧ True)) := by
 unfold clipIneq at h
 have hL : vL w w [] [] := Go.X.Loc.begin0 w
 refine calls_of (l := [s_v]) (rl := [.tmp 2]) (n := 9) Try.func59 rfl rfl rfl (zae rfl) ?_
 refine zaj (zah rfl (zaf (zak (v := (zad none 0 0)) rfl ?_)))
 refine zan (zaj (zah rfl (zaf (zai (v := s_v) rfl ?_))))
 refine zaf (zai (v := s_v) rfl ?_)
 refine zaf (zbd (v := s_v) zbl rfl s_h ?_)
 refine zaf (zai (v := s_v) rfl ?_)
 refine zaf (zbd (v := s_v) zbl rfl s_h ?_)
 refine zaf (OpY.clipRo (n := List.length s) zbl ti34 rfl s_h rfl rfl rfl rfl ?_)
 intro v1 k2 cl3
 refine zaf (zak (v := v1) rfl ?_)
 refine zan (zbj ?_)
 obtain rfl := zag h
 refine ⟨[v1], ⟨rfl, trivial⟩, ⟨_, rfl, hL.done, ?_⟩⟩
 exact ⟨v1, rfl, (k2.mono zdi), cl3, trivial⟩
theorem indexIneq_w (N : Nat) (s : (List Ineq)) (f : (Ineq → Option Bool)) (s_v : Value) (f_v : Value) (w : World) (S : Nat → Prop) (s_h : Rs rIneq (vH w S [] w) s_v s) (f_h : ∀ w' : World, Ext w w' → ∀ (xa_ : Ineq) (vaa_ vab_ : Value), Rs rBig (Hv w'.heap.size Any [] w') vaa_ xa_.Coefs → Rs (rInt .u32) (Hv w'.heap.size Any [] w') vab_ xa_.Bound.Digits → ∀ z, f xa_ = some z → FunOk Try.prog f_v [(zap #[vaa_, (zaa xa_.Bound.Negative), vab_])] w' (fun v w'' => zaa z = v ∧ True)) (r : Int) (h : indexIneq N s f = some r) :
  Calls Try.prog 80 #[s_v, f_v] w (Ret w (fun v w' => (zab .i64 r) = v ∧ True)) := by
 unfold indexIneq at h
 have hL : vL w w [] [] := Go.X.Loc.begin0 w
 refine calls_of (l := [s_v, f_v]) (rl := [.tmp 4]) (n := 19) Try.func80 rfl rfl rfl (zae rfl) ?_
 refine zaj (zah rfl (zaf (zak (v := (zab .i64 0)) rfl ?_)))
 refine zan (zaj (zaj (zah rfl (zaf (zai (v := s_v) rfl ?_)))))
 refine zaf (zbd (v := s_v) zbl rfl s_h ?_)
 refine zaf (zai (v := (zab .i64 0)) rfl ?_)
 refine zan ?_
 obtain ⟨s10, hl10, g10⟩ := zdo h
 refine zbr (fun e w' => ∃  (u : Env), (Sum.inl ()) = s10 ∧ e = upds [] u ∧ vL w w' [] [] ∧ Keep w.heap.size [] w [] w' ∧ True) ?_ ?_
 ·
  refine zbh ?_
  refine zce hl10 (fun (ss : Int) (e : Env) (w' : World) => match ss with | x10 => ∃ (u : Env), e = upds [(0, s_v), (1, f_v), (7, (zab .i64 (s.length : Int))), (8, (zab .i64 x10))] u ∧ vL w w' [] [] ∧ Keep w.heap.size [] w [] w' ∧ True) ⟨_, (zdt ⟨rfl, rfl, rfl, rfl, trivial⟩), hL, zbo, trivial⟩ ?_
  rintro x10 oo _ w10 ⟨u, rfl, hL10, K10, -⟩ h hd10
  rw [indexIneq_b1] at h
  refine zaj (zah rfl (zaf (zcj (x := x10) (y := (s.length : Int)) ((x10 : Int) < (s.length : Int)) rfl rfl zbk ?_)))
  refine zan (zaj ?_)
  refine zbe ((x10 : Int) < (s.length : Int)) rfl (fun hc10 => ?_) (fun hc10 => ?_)
  ·
   replace h := ite_t hc10 h
   refine zbf (zaj (zbh (zaj (zah rfl (zaf (zai (v := (zab .i64 x10)) rfl ?_))))))
   refine zaf (zak (v := (zab .i64 x10)) rfl ?_)
   refine zan (zaj (zah rfl (zaf (zai (v := f_v) rfl ?_))))
   refine zaf (zai (v := s_v) rfl ?_)
   refine zaf (zai (v := (zab .i64 x10)) rfl ?_)
   obtain ⟨x11, q10, h⟩ := zdo h
   obtain ⟨n10, q11, q12⟩ := zdu q10
   have f10 := (s_h.mono (K10 S))
   obtain ⟨b10, o10, c10, vs10, q13, q14, f11, q15⟩ := zcw f10 q12
   obtain ⟨v10, v11, rfl, k10, k11, -⟩ := rIneq_open q15
   refine zaf (zbw (r := rIneq) (v := s_v) (n := n10) (m := (o10 + n10 * rIneq.sz)) zbl ti34 rfl q13 rfl q11 q12 rfl ?_)
   refine zaf (zdh (vs := [v10, (zaa x11.Bound.Negative), v11]) zbg rfl ti34 rfl rfl zdy f11 ?_)
   obtain ⟨r10, q16, h⟩ := zdo h
   refine zaf (OpY.callF rfl rfl (f_h _ hL10.done x11 v10 v11 (k10.mono vw_any) (k11.mono vw_any) r10 q16) ?_)
   rintro _ w11 hE10 ⟨rfl, -⟩
   have hL11 := hL10.ext hE10
   have K11 := ke hL10 hE10
   refine zan ?_
   refine zcr r10 rfl (fun hc11 => ?_) (fun hc11 => ?_)
   ·
    replace h := ite_t hc11 h
    refine zaj (zah rfl (zaf (zai (v := (zab .i64 x10)) rfl ?_)))
    refine zaf (zak (v := (zab .i64 x10)) rfl ?_)
    refine zan (zbj ?_)
    obtain rfl := zag h
    obtain rfl := hd10 _ rfl
    replace h := g10
    try dsimp only at h
    obtain rfl := zag h
    refine ⟨[(zab .i64 x10)], ⟨rfl, trivial⟩, ⟨_, rfl, hL11.done, ?_⟩⟩
    exact ⟨rfl, trivial⟩
   ·
    replace h := ite_f hc11 h
    refine zbf (zbt (zah rfl (zaf (zby (x := x10) (y := 1) (z := (iw (x10 + 1))) rfl rfl rfl ?_))))
    refine zaf (zai (v := (zab .i64 (iw (x10 + 1)))) rfl ?_)
    refine zan ?_
    obtain rfl := zag h
    refine zar ⟨(iw (x10 + 1)), rfl, ?_⟩
    exact ⟨_, (zdt ⟨rfl, rfl, rfl, rfl, trivial⟩), hL11, (zaq K10 K11), trivial⟩
  ·
   replace h := ite_f hc10 h
   refine zcm rfl ?_
   obtain rfl := zag h
   obtain rfl := hd10 _ rfl
   replace h := g10
   try dsimp only at h
   skip
   refine zar ?_
   exact ⟨_, rfl, (zdt trivial), hL10, K10, trivial⟩
 ·
  rintro _ w12 ⟨u, rfl, rfl, hL12, K12, -⟩
  replace h := g10
  try dsimp only at h
  refine zaj (zah rfl (zaf (zak (v := (zab .i64 (-1))) rfl ?_)))
  refine zan (zbj ?_)
  obtain rfl := zag h
  refine ⟨[(zab .i64 (-1))], ⟨rfl, trivial⟩, ⟨_, rfl, hL12.done, ?_⟩⟩
  exact ⟨rfl, trivial⟩
theorem containsIneq_w (N : Nat) (s : (List Ineq)) (f : (Ineq → Option Bool)) (s_v : Value) (f_v : Value) (w : World) (S : Nat → Prop) (s_h : Rs rIneq (vH w S [] w) s_v s) (f_h : ∀ w' : World, Ext w w' → ∀ (xa_ : Ineq) (vaa_ vab_ : Value), Rs rBig (Hv w'.heap.size Any [] w') vaa_ xa_.Coefs → Rs (rInt .u32) (Hv w'.heap.size Any [] w') vab_ xa_.Bound.Digits → ∀ z, f xa_ = some z → FunOk Try.prog f_v [(zap #[vaa_, (zaa xa_.Bound.Negative), vab_])] w' (fun v w'' => zaa z = v ∧ True)) (r : Bool) (h : containsIneq N s f = some r) :
  Calls Try.prog 54 #[s_v, f_v] w (Ret w (fun v w' => (zaa r) = v ∧ True)) := by
 unfold containsIneq at h
 have hL : vL w w [] [] := Go.X.Loc.begin0 w
 refine calls_of (l := [s_v, f_v]) (rl := [.tmp 4]) (n := 9) Try.func54 rfl rfl rfl (zae rfl) ?_
 refine zaj (zah rfl (zaf (zak (v := (zaa false)) rfl ?_)))
 refine zan (zaj (zah rfl (zaf (zai (v := s_v) rfl ?_))))
 refine zaf (zai (v := f_v) rfl ?_)
 obtain ⟨r1, q2, h⟩ := zdo h
 refine zaf (zaw en80 rfl rfl (indexIneq_w N s f s_v f_v _ Any (s_h.mono vw_any) (fun w9 hE9 => f_h w9 (hL.done.trans hE9)) r1 q2) ?_)
 rintro _ w4 hE7 ⟨rfl, -⟩
 have hL5 := hL.ext hE7
 refine zaf (OpY.geq (x := r1) (y := 0) ((r1 : Int) ≥ 0) rfl rfl zbk ?_)
 refine zaf (zak (v := (zaa (decide ((r1 : Int) ≥ 0)))) rfl ?_)
 refine zan (zbj ?_)
 obtain rfl := zag h
 refine ⟨[(zaa (decide ((r1 : Int) ≥ 0)))], ⟨rfl, trivial⟩, ⟨_, rfl, hL5.done, ?_⟩⟩
 exact ⟨rfl, trivial⟩
theorem width1_w (N : Nat) (q : Ineq) (ca : Int) (q_v : Value) (q_v1 : Value) (ca_b : Nat) (w : World) (S : Nat → Prop) (q_h : Rs rBig (vH w S [] w) q_v q.Coefs) (q_h1 : Rs (rInt .u32) (vH w S [] w) q_v1 q.Bound.Digits) (ca_at : At (vH w S [] w) ca_b 0 [(zab .i64 ca)]) (r : Bool) (h : width1 N q ca = some r) :
  Calls Try.prog 72 #[(zap #[q_v, (zaa q.Bound.Negative), q_v1]), (zao (some ⟨ca_b, 0, none⟩))] w (Ret w (fun v w' => (zaa r) = v ∧ True)) := by
 unfold width1 at h
 have hL : vL w w [] [] := Go.X.Loc.begin0 w
 refine calls_of (l := [(zap #[q_v, (zaa q.Bound.Negative), q_v1]), (zao (some ⟨ca_b, 0, none⟩))]) (rl := [.tmp 3]) (n := 9) Try.func72 rfl rfl rfl (zae rfl) ?_
 refine zaj (zah rfl (zaf (zde (cs := [q_v, (zaa q.Bound.Negative), q_v1]) rfl rfl hL ?_)))
 intro b1 w2 hL3 hS5
 have K4 := ks w hS5
 refine zaf (zak (v := (zaa false)) rfl ?_)
 refine zan (zaj (zah rfl (zaf (zas (q := 0) zbg rfl ti32 rfl rfl rfl ?_))))
 refine zaf (zaz (v := q_v) zbb rfl rfl (hL3.at 0 rfl rfl) rfl ?_)
 have f6 := (q_h.mono (K4 S))
 refine zaf (zbd (v := q_v) zbb rfl f6 ?_)
 have f7 := (zcz (K4 S) ca_at)
 refine zaf (zck (v := (zab .i64 ca)) zbv rfl rfl zdy f7 ?_)
 refine zaf (OpY.neq (x := (q.Coefs.length : Int)) (y := ca) (((q.Coefs.length : Int) : Int) ≠ ca) rfl rfl zbk ?_)
 refine zaf (zak (v := (zaa (decide (((q.Coefs.length : Int) : Int) ≠ ca)))) rfl ?_)
 refine zan (zbj ?_)
 obtain rfl := zag h
 refine ⟨[(zaa (decide (((q.Coefs.length : Int) : Int) ≠ ca)))], ⟨rfl, trivial⟩, ⟨_, rfl, hL3.done, ?_⟩⟩
 exact ⟨rfl, trivial⟩
theorem cwidth_w (N : Nat) (l : (List Ineq)) (l_v : Value) (w : World) (S : Nat → Prop) (l_h : Rs rIneq (vH w S [] w) l_v l) (r : (Int × Bool)) (h : cwidth N l = some r) :
  Calls Try.prog 44 #[l_v] w (Ret w (fun v w' => .tuple #[(zab .i64 r.1), (zaa r.2)] = v ∧ True)) := by
 unfold cwidth at h
 have hL : vL w w [] [] := Go.X.Loc.begin0 w
 refine calls_of (l := [l_v]) (rl := [.tmp 2, .tmp 3]) (n := 18) Try.func44 rfl rfl rfl (zae rfl) ?_
 refine zaj (zah rfl (zaf (zak (v := (zab .i64 0)) rfl ?_)))
 refine zaf (zak (v := (zaa false)) rfl ?_)
 refine zan (zaj (zaj (zah rfl (zaf (zai (v := l_v) rfl ?_)))))
 refine zaf (zbd (v := l_v) zbl rfl l_h ?_)
 refine zaf (OpY.eql (x := (l.length : Int)) (y := 0) (((l.length : Int) : Int) = 0) rfl rfl zbk ?_)
 refine zan ?_
 refine zbe (((l.length : Int) : Int) = 0) rfl (fun hc1 => ?_) (fun hc1 => ?_)
 ·
  replace h := ite_t hc1 h
  refine zaj (zah rfl (zaf (zak (v := (zab .i64 0)) rfl ?_)))
  refine zaf (zak (v := (zaa true)) rfl ?_)
  refine zan (zbj ?_)
  obtain rfl := zag h
  refine ⟨[(zab .i64 0), (zaa true)], ⟨rfl, rfl, trivial⟩, ⟨_, rfl, hL.done, ?_⟩⟩
  exact ⟨rfl, trivial⟩
 ·
  replace h := ite_f hc1 h
  refine zbf (zaj (zah rfl (zaf (zai (v := l_v) rfl ?_))))
  obtain ⟨x2, q3, h⟩ := zdo h
  obtain ⟨n4, q5, q6⟩ := zdu q3
  obtain ⟨b7, o8, c9, vs10, q10, q11, f10, q12⟩ := zcw l_h q6
  obtain ⟨v10, v11, rfl, k10, k11, -⟩ := rIneq_open q12
  refine zaf (zbw (r := rIneq) (v := l_v) (n := n4) (m := (o8 + n4 * rIneq.sz)) zbl ti34 rfl q10 rfl q5 q6 rfl ?_)
  have f11 := (f10.part (us := [v10]) 0 rfl)
  refine zaf (zas (q := (o8 + n4 * rIneq.sz) + 0) zbg rfl ti32 rfl rfl rfl ?_)
  refine zaf (zck (v := v10) zbb rfl rfl zdy f11 ?_)
  refine zaf (zbd (v := v10) zbb rfl k10 ?_)
  refine zaf (zca (cs := [(zab .i64 0)]) ti3 rfl hL ?_)
  intro b10 w10 hL10 hS10
  have K10 := ks w hS10
  refine zcc (zbn (vs := [(zab .i64 (x2.Coefs.length : Int))]) ti3 rfl rfl rfl rfl (zds rfl zdw) hL10 0 rfl rfl (zae rfl) ?_)
  intro w11 (hL11 : vL w w11 [some b10] [zac [(zab .i64 (x2.Coefs.length : Int))]]) hS11
  have K11 := ks w hS11
  refine zan (zaj ?_)
  obtain ⟨r10, q13, h⟩ := zdo h
  refine zcf 6 [] [] (fun W1 => [.det (zab .i64 (x2.Coefs.length : Int)), .det l_v, .det (Value.func (.func 72) #[] #[(zao (some ⟨b10, 0, none⟩))]), .det (zaa r10), .det (zaa (!r10)), .det (zab .i64 (x2.Coefs.length : Int))]) mixed rfl rfl rfl (fun _ => rfl) (fun _ => rfl) ?_ ?_
  ·
   intro W1 _
   exact trivial
  ·
   intro w12 hE10
   have hL12 := hL11.ext hE10
   have K12 := ke hL11 hE10
   refine zau (fun _ hE11 => zav (zaz zbv rfl rfl ((hL12.ext hE11).at 0 rfl rfl) rfl (er rfl))) ?_
   refine zau (fun _ _ => zav (zai rfl (er rfl))) ?_
   refine zau (fun _ _ => zav (OpY.makeFunc (vs := [(zao (some ⟨b10, 0, none⟩))]) rfl (er rfl))) ?_
   refine DrH.det ?_ ?_
   ·
    rintro w16 Z13 hE14 hZ13 ⟨-⟩
    have hL14 := hL12.ext hE14
    have K13 := ke hL12 hE14
    refine zav (zaw en54 rfl rfl (containsIneq_w N l (fun y10 => width1 N y10 (x2.Coefs.length : Int)) l_v (Value.func (.func 72) #[] #[(zao (some ⟨b10, 0, none⟩))]) _ Any (((((l_h.mono (K10 S)).mono (K11 S)).mono (K12 S)).mono (K13 S)).mono vw_any) (fun w9 hE9 y11 v12 v13 k12 k13 z9 hz9 => ⟨72, [(zao (some ⟨b10, 0, none⟩))], rfl, en72, (width1_w N y11 (x2.Coefs.length : Int) v12 v13 b10 _ Any (k12.mono vw_any) (k13.mono vw_any) (own_any ((hL14.at 0 rfl rfl).ext hE9)) z9 hz9)⟩) r10 q13) ?_)
    rintro _ w17 hE15 ⟨rfl, -⟩
    exact ⟨hE15, rfl⟩
   refine zau (fun _ _ => zav (OpY.not rfl (er rfl))) ?_
   refine zau (fun _ _ => zav (zak rfl (er rfl))) ?_
   refine zco ?_
   rintro w20 Z16 hE18 hZ16 ⟨-⟩ ap10
   have hB10 : ∀ b, some b ∈ ([] : List (Option Nat)) → w12.heap.size ≤ b ∧ ¬ Z16 b := by
    intro b hb; cases hb
   have hL15 := hL12.ext hE18
   refine zaf (zak (v := (zaa (!r10))) rfl ?_)
   refine zan (zbj ?_)
   obtain rfl := zag h
   refine ⟨[(zab .i64 (x2.Coefs.length : Int)), (zaa (!r10))], ⟨rfl, rfl, trivial⟩, ⟨_, rfl, hL15.done, ?_⟩⟩
   exact ⟨rfl, trivial⟩
theorem cApply_w (N : Nat) (l : (List Ineq)) (s : Step) (l_v : Value) (s_v : Value) (s_v1 : Value) (w : World) (S : Nat → Prop) (l_h : Rs rIneq (vH w S [] w) l_v l) (s_h : Rs rUse (vH w S [] w) s_v s.Uses) (s_h1 : Rs (rInt .u32) (vH w S [] w) s_v1 s.Divisor.Digits) (r : (Ineq × Bool)) (h : cApply N l s = some r) :
  Calls Try.prog 14 #[l_v, (zap #[s_v, (zaa s.Divisor.Negative), s_v1])] w (Ret w (fun v w' => ∃ (v0_0 : Value) (v0_1 : Value), .tuple #[(zap #[v0_0, (zaa r.1.Bound.Negative), v0_1]), (zaa r.2)] = v ∧ Rs rBig (vH w None [] w') v0_0 r.1.Coefs ∧ Rs (rInt .u32) (vH w None [] w') v0_1 r.1.Bound.Digits ∧ True)) := by
 unfold cApply at h
 have hL : vL w w [] [] := Go.X.Loc.begin0 w
 refine calls_of (l := [l_v, (zap #[s_v, (zaa s.Divisor.Negative), s_v1])]) (rl := [.cell 4 34, .tmp 5]) (n := 135) Try.func14 rfl rfl rfl (zae rfl) ?_
 refine zaj (zah rfl (zaf (zde (cs := [s_v, (zaa s.Divisor.Negative), s_v1]) rfl rfl hL ?_)))
 intro b1 w2 hL3 hS5
 have K4 := ks w hS5
 refine zaf (zca (cs := [(zad none 0 0), (zaa false), (zad none 0 0)]) ti34 rfl hL3 ?_)
 intro b6 w7 hL8 hS10
 have K9 := ks w hS10
 refine zaf (zak (v := (zaa false)) rfl ?_)
 refine zan (zaj (zah rfl (zaf (zai (v := l_v) rfl ?_))))
 obtain ⟨r10, q10, h⟩ := zdo h
 have f10 := ((l_h.mono (K4 S)).mono (K9 S))
 refine zaf (zaw en44 rfl rfl (cwidth_w N l l_v _ Any (f10.mono vw_any) r10 q10) ?_)
 rintro _ w10 hE10 ⟨rfl, -⟩
 have hL10 := hL8.ext hE10
 have K10 := ke hL8 hE10
 refine zaf (zai (v := (Value.tuple #[(zab .i64 r10.1), (zaa r10.2)])) rfl ?_)
 refine zaf (zcx (vs := [(zab .i64 r10.1), (zaa r10.2)]) (v := (zab .i64 r10.1)) rfl rfl ?_)
 refine zaf (zcx (vs := [(zab .i64 r10.1), (zaa r10.2)]) (v := (zaa r10.2)) rfl rfl ?_)
 refine zaf (zak (v := (zab .i64 r10.1)) rfl ?_)
 refine zaf (zak (v := (zaa r10.2)) rfl ?_)
 refine zan (zaj (zaj ?_))
 obtain ⟨s10, h, g10⟩ := zdo h
 refine zbr (fun e w' => ∃ (x10 : Bool) (u : Env), x10 = s10 ∧ e = upds [(0, l_v), (3, (zao (some ⟨b1, 0, none⟩))), (4, (zao (some ⟨b6, 0, none⟩))), (6, (zab .i64 r10.1)), (31, (zaa x10))] u ∧ vL w w' [some b1, some b6] [zac [s_v, (zaa s.Divisor.Negative), s_v1], zac [(zad none 0 0), (zaa false), (zad none 0 0)]] ∧ Keep w.heap.size [some b6, some b1] w10 [some b1, some b6] w' ∧ True) ?_ ?_
 ·
  refine zah rfl (zaf (zai (v := (zaa r10.2)) rfl ?_))
  refine zaf (OpY.not (x := r10.2) rfl ?_)
  refine zaf (zai (v := (zaa (!r10.2))) rfl ?_)
  by_cases hc10 : (!r10.2) = true
  ·
   replace h := ite_t hc10 h
   refine zbq rfl rfl hc10 ?_
   refine zbq rfl rfl hc10 ?_
   refine zbq rfl rfl hc10 ?_
   refine zbq rfl rfl hc10 ?_
   refine zaf (zci (t := (!r10.2)) (v := (zaa true)) rfl hc10 rfl ?_)
   refine zan ?_
   have hp10 := hL10.pick [1, 0] rfl rfl rfl
   have hL11 : vL w w10 [some b1, some b6] [zac [s_v, (zaa s.Divisor.Negative), s_v1], zac [(zad none 0 0), (zaa false), (zad none 0 0)]] := hp10.1
   have K11 := ks w hp10.2
   obtain rfl := zag h
   refine zar ?_
   exact ⟨true, _, rfl, (zdt ⟨rfl, rfl, rfl, rfl, rfl, trivial⟩), hL11, K11, trivial⟩
  ·
   replace h := ite_f hc10 h
   refine zbu rfl rfl (zdp hc10) (zas (q := 1) zcq rfl ti26 rfl rfl rfl ?_)
   refine zbu rfl rfl (zdp hc10) (zbm (vs := [(zaa s.Divisor.Negative), s_v1]) zam rfl ti26 rfl (hL10.at 1 rfl rfl) rfl rfl ?_)
   obtain ⟨r11, q11, h⟩ := zdo h
   have f11 := (((s_h1.mono (K4 S)).mono (K9 S)).mono (K10 S))
   refine zbu rfl rfl (zdp hc10) (zaw en45 rfl rfl (bSign_w N s.Divisor s_v1 _ Any (f11.mono vw_any) r11 q11) ?_)
   rintro _ w11 hE11 ⟨rfl, -⟩
   have hL12 := hL10.ext hE11
   have K12 := ke hL10 hE11
   refine zbu rfl rfl (zdp hc10) (zcj (x := r11) (y := 1) ((r11 : Int) < 1) rfl rfl zbk ?_)
   refine zaf (zbx (t := (!r10.2)) (v := (zaa (decide ((r11 : Int) < 1)))) rfl (zdp hc10) rfl ?_)
   refine zan ?_
   have hp11 := hL12.pick [1, 0] rfl rfl rfl
   have hL13 : vL w w11 [some b1, some b6] [zac [s_v, (zaa s.Divisor.Negative), s_v1], zac [(zad none 0 0), (zaa false), (zad none 0 0)]] := hp11.1
   have K13 := ks w hp11.2
   obtain rfl := zag h
   refine zar ?_
   exact ⟨(decide ((r11 : Int) < 1)), _, rfl, (zdt ⟨rfl, rfl, rfl, rfl, rfl, trivial⟩), hL13, (zaq K12 K13), trivial⟩
 ·
  rintro _ w12 ⟨x10, u, rfl, rfl, hL14, K14, -⟩
  replace h := g10
  try dsimp only at h
  refine zcr x10 rfl (fun hc11 => ?_) (fun hc11 => ?_)
  ·
   replace h := ite_t hc11 h
   refine zaj (zah rfl (zaf (zcy (zc := [(zad none 0 0), (zaa false), (zad none 0 0)]) (cs := [(zad none 0 0), (zaa false), (zad none 0 0)]) (is := []) (vs := []) (css := []) pl34 ti34 rfl rfl rfl trivial rfl ?_)))
   refine zcc (zbn (vs := [(zad none 0 0), (zaa false), (zad none 0 0)]) ti34 rfl rfl rfl rfl (zds rfl (zds rfl (zds rfl zdw))) hL14 1 rfl rfl (zae rfl) ?_)
   intro w13 (hL15 : vL w w13 [some b1, some b6] [zac [s_v, (zaa s.Divisor.Negative), s_v1], zac [(zad none 0 0), (zaa false), (zad none 0 0)]]) hS11
   refine zaf (zak (v := (zaa false)) rfl ?_)
   refine zan (zbj ?_)
   obtain rfl := zag h
   refine ⟨[(zap #[(zad none 0 0), (zaa false), (zad none 0 0)]), (zaa false)], ⟨⟨⟨b6, 0, none⟩, rfl, zdz zbg rfl ti34 (hL15.at 1 rfl rfl) rfl⟩, ⟨rfl, trivial⟩⟩, ⟨_, rfl, hL15.done, ?_⟩⟩
   exact ⟨(zad none 0 0), (zad none 0 0), rfl, zdn, zdn, trivial⟩
  ·
   replace h := ite_f hc11 h
   refine zbf (zaj (zah rfl (zaf (zai (v := (zab .i64 r10.1)) rfl ?_))))
   obtain ⟨x11, q12, h⟩ := zdo h
   obtain ⟨m10, q13, q14, q15, q16⟩ := mk1_some q12
   refine zaf (OpY.mkRowX (r := rBig) (H := (vH w None [some b1, some b6] w12)) (zc := [(zaa false), (zad none 0 0)]) (x := (Big.mk false [])) zbb ti26 rfl (rBig_close ⟨(zad none 0 0), rfl, zdn, trivial⟩) rfl rfl q13 q14 q15 q16 hL14 ?_)
   intro b10 w14 cs10 hE12 hc12 hL16 hS12
   have K15 := ks w hS12
   refine zaf (zcy (zc := [(zad none 0 0), (zaa false), (zad none 0 0)]) (cs := [(osv (some b10) 0 x11.length m10), (zaa false), (zad none 0 0)]) (is := [0]) (vs := [(osv (some b10) 0 x11.length m10)]) (css := [[(osv (some b10) 0 x11.length m10)]]) pl34 ti34 rfl rfl rfl ⟨(zec (zea _ _ _ _)), trivial⟩ rfl ?_)
   refine zaf (zca (cs := [(zad none 0 0), (zaa false), (zad none 0 0)]) ti34 rfl hL16 ?_)
   intro b11 w15 hL17 hS13
   have K16 := ks w hS13
   refine zcc (zbn (vs := [(osv (some b10) 0 x11.length m10), (zaa false), (zad none 0 0)]) ti34 rfl rfl rfl rfl (zds (zea _ _ _ _) (zds rfl (zds rfl zdw))) hL17 0 rfl rfl (zae rfl) ?_)
   intro w16 (hL18 : vL w w16 [some b11, some b10, some b1, some b6] [zac [(osv (some b10) 0 x11.length m10), (zaa false), (zad none 0 0)], zac ([] ++ (cs10 ++ [])), zac [s_v, (zaa s.Divisor.Negative), s_v1], zac [(zad none 0 0), (zaa false), (zad none 0 0)]]) hS14
   have K17 := ks w hS14
   refine zan (zaj (zaj (zah rfl (zaf (zas (q := 0) zcq rfl ti23 rfl rfl rfl ?_)))))
   refine zaf (zaz (v := s_v) zbz rfl rfl (hL18.at 2 rfl rfl) rfl ?_)
   have f12 := (((((((s_h.mono (K4 S)).mono (K9 S)).mono (K10 S)).mono (K14 S)).mono (K15 S)).mono (K16 S)).mono (K17 S))
   refine zaf (zbd (v := s_v) zbz rfl f12 ?_)
   refine zaf (zai (v := (zab .i64 0)) rfl ?_)
   refine zan ?_
   obtain ⟨s11, hl10, g11⟩ := zdo h
   refine zbr (fun e w' => ∃ (coefs10 : (List Big)) (negative10 : Bool) (digits10 : (List Int)) (cs11 : List Value) (v10 : Value) (u : Env), (Sum.inl (coefs10, negative10, digits10)) = s11 ∧ e = upds [(3, (zao (some ⟨b1, 0, none⟩))), (4, (zao (some ⟨b6, 0, none⟩))), (8, (zao (some ⟨b11, 0, none⟩)))] u ∧ vL w w' [some b1, some b6, some b11, some b10] [zac [s_v, (zaa s.Divisor.Negative), s_v1], zac [(zad none 0 0), (zaa false), (zad none 0 0)], zac [(osv (some b10) 0 x11.length m10), (zaa negative10), v10], zac ([] ++ (cs11 ++ []))] ∧ Keep w.heap.size [some b11, some b10, some b1, some b6] w16 [some b1, some b6, some b11, some b10] w' ∧ Els rBig (vH w None [some b1, some b6, some b11, some b10] w') cs11 coefs10 ∧ x11.length = List.length coefs10 ∧ (cs11 ++ []).length = m10 * rBig.sz ∧ Rs (rInt .u32) (vH w None [some b1, some b6, some b11, some b10] w') v10 digits10 ∧ True) ?_ ?_
   ·
    refine zbh ?_
    have hp12 := hL18.pick [2, 3, 0, 1] rfl rfl rfl
    have hL19 : vL w w16 [some b1, some b6, some b11, some b10] [zac [s_v, (zaa s.Divisor.Negative), s_v1], zac [(zad none 0 0), (zaa false), (zad none 0 0)], zac [(osv (some b10) 0 x11.length m10), (zaa false), (zad none 0 0)], zac ([] ++ (cs10 ++ []))] := hp12.1
    have K18 := ks w hp12.2
    have f13 := ((((hE12.mono (K15 None)).mono (K16 None)).mono (K17 None)).mono (K18 None))
    refine zce hl10 (fun (ss : ((List Big) × Bool × (List Int) × Int)) (e : Env) (w' : World) => match ss with | (coefs11, negative11, digits11, x12) => ∃ (cs12 : List Value) (v11 : Value) (u : Env), e = upds [(0, l_v), (3, (zao (some ⟨b1, 0, none⟩))), (4, (zao (some ⟨b6, 0, none⟩))), (8, (zao (some ⟨b11, 0, none⟩))), (37, s_v), (38, (zab .i64 (s.Uses.length : Int))), (39, (zab .i64 x12))] u ∧ vL w w' [some b1, some b6, some b11, some b10] [zac [s_v, (zaa s.Divisor.Negative), s_v1], zac [(zad none 0 0), (zaa false), (zad none 0 0)], zac [(osv (some b10) 0 x11.length m10), (zaa negative11), v11], zac ([] ++ (cs12 ++ []))] ∧ Keep w.heap.size [some b11, some b10, some b1, some b6] w16 [some b1, some b6, some b11, some b10] w' ∧ Els rBig (vH w None [some b1, some b6, some b11, some b10] w') cs12 coefs11 ∧ x11.length = List.length coefs11 ∧ (cs12 ++ []).length = m10 * rBig.sz ∧ Rs (rInt .u32) (vH w None [some b1, some b6, some b11, some b10] w') v11 digits11 ∧ True) ⟨cs10, (zad none 0 0), _, (zdt ⟨rfl, rfl, rfl, rfl, rfl, rfl, rfl, trivial⟩), hL19, K18, f13, rfl, hc12, zdn, trivial⟩ ?_
    rintro ⟨coefs11, negative11, digits11, x12⟩ oo _ w17 ⟨cs12, v11, u, rfl, hL20, K19, hE13, hl11, hc13, k10, -⟩ h hd10
    rw [cApply_b1] at h
    refine zaj (zah rfl (zaf (zcj (x := x12) (y := (s.Uses.length : Int)) ((x12 : Int) < (s.Uses.length : Int)) rfl rfl zbk ?_)))
    refine zan (zaj ?_)
    refine zbe ((x12 : Int) < (s.Uses.length : Int)) rfl (fun hc14 => ?_) (fun hc14 => ?_)
    ·
     replace h := ite_t hc14 h
     refine zbf (zaj (zbh (zaj (zah rfl ?_))))
     obtain ⟨x13, q17, h⟩ := zdo h
     obtain ⟨n10, q18, q19⟩ := zdu q17
     have f14 := (f12.mono (K19 S))
     obtain ⟨b12, o10, c10, vs10, q20, q21, f15, q22⟩ := zcw f14 q19
     obtain ⟨v12, rfl, k11, -⟩ := rUse_open q22
     refine zaf (zbw (r := rUse) (v := s_v) (n := n10) (m := (o10 + n10 * rUse.sz)) zbz ti50 rfl q20 rfl q18 q19 rfl ?_)
     refine zaf (zdh (vs := [(zab .i64 x13.Index), (zaa x13.N.Negative), v12]) zcv rfl ti50 rfl rfl zdy f15 ?_)
     refine zaf (zca (cs := [(zab .i64 0), (zaa false), (zad none 0 0)]) ti50 rfl hL20 ?_)
     intro b13 w18 hL21 hS15
     have K20 := ks w hS15
     have f16 := (k11.mono (K20 S))
     refine zcc (zbn (vs := [(zab .i64 x13.Index), (zaa x13.N.Negative), v12]) ti50 rfl rfl rfl rfl (zds rfl (zds rfl (zds f16.one zdw))) hL21 0 rfl rfl (zae rfl) ?_)
     intro w19 (hL22 : vL w w19 [some b13, some b1, some b6, some b11, some b10] [zac [(zab .i64 x13.Index), (zaa x13.N.Negative), v12], zac [s_v, (zaa s.Divisor.Negative), s_v1], zac [(zad none 0 0), (zaa false), (zad none 0 0)], zac [(osv (some b10) 0 x11.length m10), (zaa negative11), v11], zac ([] ++ (cs12 ++ []))]) hS16
     have K21 := ks w hS16
     refine zan (zaj (zaj ?_))
     obtain ⟨s12, h, g12⟩ := zdo h
     refine zbr (fun e w' => ∃ (x14 : Bool) (u : Env), x14 = s12 ∧ e = upds [(0, l_v), (3, (zao (some ⟨b1, 0, none⟩))), (4, (zao (some ⟨b6, 0, none⟩))), (8, (zao (some ⟨b11, 0, none⟩))), (10, (zao (some ⟨b13, 0, none⟩))), (37, s_v), (38, (zab .i64 (s.Uses.length : Int))), (39, (zab .i64 x12)), (58, (zaa x14))] u ∧ vL w w' [some b1, some b6, some b11, some b10, some b13] [zac [s_v, (zaa s.Divisor.Negative), s_v1], zac [(zad none 0 0), (zaa false), (zad none 0 0)], zac [(osv (some b10) 0 x11.length m10), (zaa negative11), v11], zac ([] ++ (cs12 ++ [])), zac [(zab .i64 x13.Index), (zaa x13.N.Negative), v12]] ∧ Keep w.heap.size [some b13, some b1, some b6, some b11, some b10] w19 [some b1, some b6, some b11, some b10, some b13] w' ∧ True) ?_ ?_
     ·
      refine zah rfl (zaf (zas (q := 0) zcv rfl ti3 rfl rfl rfl ?_))
      refine zaf (zaz (v := (zab .i64 x13.Index)) zbv rfl rfl (hL22.at 0 rfl rfl) rfl ?_)
      refine zaf (zcj (x := x13.Index) (y := 0) ((x13.Index : Int) < 0) rfl rfl zbk ?_)
      refine zaf (zai (v := (zaa (decide ((x13.Index : Int) < 0)))) rfl ?_)
      by_cases hc15 : (x13.Index : Int) < 0
      ·
       replace h := ite_t hc15 h
       refine zbq rfl rfl (zdr hc15) ?_
       refine zbq rfl rfl (zdr hc15) ?_
       refine zbq rfl rfl (zdr hc15) ?_
       refine zbq rfl rfl (zdr hc15) ?_
       refine zbq rfl rfl (zdr hc15) ?_
       refine zaf (zci (t := (decide ((x13.Index : Int) < 0))) (v := (zaa true)) rfl (zdr hc15) rfl ?_)
       refine zaf (zai (v := (zaa true)) rfl ?_)
       refine zbq rfl rfl rfl ?_
       refine zbq rfl rfl rfl ?_
       refine zbq rfl rfl rfl ?_
       refine zbq rfl rfl rfl ?_
       refine zaf (zci (t := true) (v := (zaa true)) rfl rfl rfl ?_)
       refine zan ?_
       have hp13 := hL22.pick [1, 2, 3, 4, 0] rfl rfl rfl
       have hL23 : vL w w19 [some b1, some b6, some b11, some b10, some b13] [zac [s_v, (zaa s.Divisor.Negative), s_v1], zac [(zad none 0 0), (zaa false), (zad none 0 0)], zac [(osv (some b10) 0 x11.length m10), (zaa negative11), v11], zac ([] ++ (cs12 ++ [])), zac [(zab .i64 x13.Index), (zaa x13.N.Negative), v12]] := hp13.1
       have K22 := ks w hp13.2
       obtain rfl := zag h
       refine zar ?_
       exact ⟨true, _, rfl, (zdt ⟨rfl, rfl, rfl, rfl, rfl, rfl, rfl, rfl, rfl, trivial⟩), hL23, K22, trivial⟩
      ·
       replace h := ite_f hc15 h
       refine zbu rfl rfl (zdq hc15) (zas (q := 0) zcv rfl ti3 rfl rfl rfl ?_)
       refine zbu rfl rfl (zdq hc15) (zaz (v := (zab .i64 x13.Index)) zbv rfl rfl (hL22.at 0 rfl rfl) rfl ?_)
       refine zbu rfl rfl (zdq hc15) (zai (v := l_v) rfl ?_)
       have f17 := ((((((((f10.mono (K10 S)).mono (K14 S)).mono (K15 S)).mono (K16 S)).mono (K17 S)).mono (K19 S)).mono (K20 S)).mono (K21 S))
       refine zbu rfl rfl (zdq hc15) (zbd (v := l_v) zbl rfl f17 ?_)
       refine zbu rfl rfl (zdq hc15) (OpY.geq (x := x13.Index) (y := (l.length : Int)) ((x13.Index : Int) ≥ (l.length : Int)) rfl rfl zbk ?_)
       refine zaf (zbx (t := (decide ((x13.Index : Int) < 0))) (v := (zaa (decide ((x13.Index : Int) ≥ (l.length : Int))))) rfl (zdq hc15) rfl ?_)
       refine zaf (zai (v := (zaa (decide ((x13.Index : Int) ≥ (l.length : Int))))) rfl ?_)
       by_cases hc16 : (x13.Index : Int) ≥ (l.length : Int)
       ·
        replace h := ite_t hc16 h
        refine zbq rfl rfl (zdr hc16) ?_
        refine zbq rfl rfl (zdr hc16) ?_
        refine zbq rfl rfl (zdr hc16) ?_
        refine zbq rfl rfl (zdr hc16) ?_
        refine zaf (zci (t := (decide ((x13.Index : Int) ≥ (l.length : Int)))) (v := (zaa true)) rfl (zdr hc16) rfl ?_)
        refine zan ?_
        have hp14 := hL22.pick [1, 2, 3, 4, 0] rfl rfl rfl
        have hL24 : vL w w19 [some b1, some b6, some b11, some b10, some b13] [zac [s_v, (zaa s.Divisor.Negative), s_v1], zac [(zad none 0 0), (zaa false), (zad none 0 0)], zac [(osv (some b10) 0 x11.length m10), (zaa negative11), v11], zac ([] ++ (cs12 ++ [])), zac [(zab .i64 x13.Index), (zaa x13.N.Negative), v12]] := hp14.1
        have K23 := ks w hp14.2
        obtain rfl := zag h
        refine zar ?_
        exact ⟨true, _, rfl, (zdt ⟨rfl, rfl, rfl, rfl, rfl, rfl, rfl, rfl, rfl, trivial⟩), hL24, K23, trivial⟩
       ·
        replace h := ite_f hc16 h
        refine zbu rfl rfl (zdq hc16) (zas (q := 1) zcv rfl ti26 rfl rfl rfl ?_)
        refine zbu rfl rfl (zdq hc16) (zbm (vs := [(zaa x13.N.Negative), v12]) zam rfl ti26 rfl (hL22.at 0 rfl rfl) rfl rfl ?_)
        obtain ⟨r12, q23, h⟩ := zdo h
        have f18 := (f16.mono (K21 S))
        refine zbu rfl rfl (zdq hc16) (zaw en45 rfl rfl (bSign_w N x13.N v12 _ Any (f18.mono vw_any) r12 q23) ?_)
        rintro _ w20 hE14 ⟨rfl, -⟩
        have hL25 := hL22.ext hE14
        have K24 := ke hL22 hE14
        refine zbu rfl rfl (zdq hc16) (zcj (x := r12) (y := 0) ((r12 : Int) < 0) rfl rfl zbk ?_)
        refine zaf (zbx (t := (decide ((x13.Index : Int) ≥ (l.length : Int)))) (v := (zaa (decide ((r12 : Int) < 0)))) rfl (zdq hc16) rfl ?_)
        refine zan ?_
        have hp15 := hL25.pick [1, 2, 3, 4, 0] rfl rfl rfl
        have hL26 : vL w w20 [some b1, some b6, some b11, some b10, some b13] [zac [s_v, (zaa s.Divisor.Negative), s_v1], zac [(zad none 0 0), (zaa false), (zad none 0 0)], zac [(osv (some b10) 0 x11.length m10), (zaa negative11), v11], zac ([] ++ (cs12 ++ [])), zac [(zab .i64 x13.Index), (zaa x13.N.Negative), v12]] := hp15.1
        have K25 := ks w hp15.2
        obtain rfl := zag h
        refine zar ?_
        exact ⟨(decide ((r12 : Int) < 0)), _, rfl, (zdt ⟨rfl, rfl, rfl, rfl, rfl, rfl, rfl, rfl, rfl, trivial⟩), hL26, (zaq K24 K25), trivial⟩
     ·
      rintro _ w21 ⟨x14, u, rfl, rfl, hL27, K26, -⟩
      replace h := g12
      try dsimp only at h
      refine zcr x14 rfl (fun hc17 => ?_) (fun hc17 => ?_)
      ·
       replace h := ite_t hc17 h
       refine zaj (zah rfl (zaf (zcy (zc := [(zad none 0 0), (zaa false), (zad none 0 0)]) (cs := [(zad none 0 0), (zaa false), (zad none 0 0)]) (is := []) (vs := []) (css := []) pl34 ti34 rfl rfl rfl trivial rfl ?_)))
       refine zcc (zbn (vs := [(zad none 0 0), (zaa false), (zad none 0 0)]) ti34 rfl rfl rfl rfl (zds rfl (zds rfl (zds rfl zdw))) hL27 1 rfl rfl (zae rfl) ?_)
       intro w22 (hL28 : vL w w22 [some b1, some b6, some b11, some b10, some b13] [zac [s_v, (zaa s.Divisor.Negative), s_v1], zac [(zad none 0 0), (zaa false), (zad none 0 0)], zac [(osv (some b10) 0 x11.length m10), (zaa negative11), v11], zac ([] ++ (cs12 ++ [])), zac [(zab .i64 x13.Index), (zaa x13.N.Negative), v12]]) hS17
       refine zaf (zak (v := (zaa false)) rfl ?_)
       refine zan (zbj ?_)
       obtain rfl := zag h
       obtain rfl := hd10 _ rfl
       replace h := g11
       try dsimp only at h
       obtain rfl := zag h
       refine ⟨[(zap #[(zad none 0 0), (zaa false), (zad none 0 0)]), (zaa false)], ⟨⟨⟨b6, 0, none⟩, rfl, zdz zbg rfl ti34 (hL28.at 1 rfl rfl) rfl⟩, ⟨rfl, trivial⟩⟩, ⟨_, rfl, hL28.done, ?_⟩⟩
       exact ⟨(zad none 0 0), (zad none 0 0), rfl, zdn, zdn, trivial⟩
      ·
       replace h := ite_f hc17 h
       refine zbf (zaj (zah rfl (zaf (zai (v := l_v) rfl ?_))))
       refine zaf (zas (q := 0) zcv rfl ti3 rfl rfl rfl ?_)
       refine zaf (zaz (v := (zab .i64 x13.Index)) zbv rfl rfl (hL27.at 4 rfl rfl) rfl ?_)
       obtain ⟨x15, q24, h⟩ := zdo h
       obtain ⟨n11, q25, q26⟩ := zdu q24
       have f19 := (((((((((f10.mono (K10 S)).mono (K14 S)).mono (K15 S)).mono (K16 S)).mono (K17 S)).mono (K19 S)).mono (K20 S)).mono (K21 S)).mono (K26 S))
       obtain ⟨b14, o11, c11, vs11, q27, q28, f20, q29⟩ := zcw f19 q26
       obtain ⟨v13, v14, rfl, k12, k13, -⟩ := rIneq_open q29
       refine zaf (zbw (r := rIneq) (v := l_v) (n := n11) (m := (o11 + n11 * rIneq.sz)) zbl ti34 rfl q27 rfl q25 q26 rfl ?_)
       refine zaf (zdh (vs := [v13, (zaa x15.Bound.Negative), v14]) zbg rfl ti34 rfl rfl zdy f20 ?_)
       refine zaf (zca (cs := [(zad none 0 0), (zaa false), (zad none 0 0)]) ti34 rfl hL27 ?_)
       intro b15 w23 hL29 hS18
       have K27 := ks w hS18
       have f21 := (k13.mono (K27 S))
       have f22 := (k12.mono (K27 S))
       refine zcc (zbn (vs := [v13, (zaa x15.Bound.Negative), v14]) ti34 rfl rfl rfl rfl (zds f22.one (zds rfl (zds f21.one zdw))) hL29 0 rfl rfl (zae rfl) ?_)
       intro w24 (hL30 : vL w w24 [some b15, some b1, some b6, some b11, some b10, some b13] [zac [v13, (zaa x15.Bound.Negative), v14], zac [s_v, (zaa s.Divisor.Negative), s_v1], zac [(zad none 0 0), (zaa false), (zad none 0 0)], zac [(osv (some b10) 0 x11.length m10), (zaa negative11), v11], zac ([] ++ (cs12 ++ [])), zac [(zab .i64 x13.Index), (zaa x13.N.Negative), v12]]) hS19
       have K28 := ks w hS19
       refine zan (zaj (zaj (zah rfl (zaf (zas (q := 0) zbg rfl ti32 rfl rfl rfl ?_)))))
       refine zaf (zaz (v := v13) zbb rfl rfl (hL30.at 0 rfl rfl) rfl ?_)
       have f23 := (f22.mono (K28 S))
       refine zaf (zbd (v := v13) zbb rfl f23 ?_)
       refine zaf (zai (v := (zab .i64 0)) rfl ?_)
       refine zan ?_
       obtain ⟨s13, hl12, g13⟩ := zdo h
       refine zbr (fun e w' => ∃ (coefs12 : (List Big)) (cs13 : List Value) (u : Env), coefs12 = s13 ∧ e = upds [(0, l_v), (3, (zao (some ⟨b1, 0, none⟩))), (4, (zao (some ⟨b6, 0, none⟩))), (8, (zao (some ⟨b11, 0, none⟩))), (10, (zao (some ⟨b13, 0, none⟩))), (11, (zao (some ⟨b15, 0, none⟩))), (37, s_v), (38, (zab .i64 (s.Uses.length : Int))), (39, (zab .i64 x12))] u ∧ vL w w' [some b1, some b6, some b11, some b10, some b13, some b15] [zac [s_v, (zaa s.Divisor.Negative), s_v1], zac [(zad none 0 0), (zaa false), (zad none 0 0)], zac [(osv (some b10) 0 x11.length m10), (zaa negative11), v11], zac ([] ++ (cs13 ++ [])), zac [(zab .i64 x13.Index), (zaa x13.N.Negative), v12], zac [v13, (zaa x15.Bound.Negative), v14]] ∧ Keep w.heap.size [some b15, some b1, some b6, some b11, some b10, some b13] w24 [some b1, some b6, some b11, some b10, some b13, some b15] w' ∧ Els rBig (vH w None [some b1, some b6, some b11, some b10, some b13, some b15] w') cs13 coefs12 ∧ x11.length = List.length coefs12 ∧ (cs13 ++ []).length = m10 * rBig.sz ∧ True) ?_ ?_
       ·
        refine zbh ?_
        have hp16 := hL30.pick [1, 2, 3, 4, 5, 0] rfl rfl rfl
        have hL31 : vL w w24 [some b1, some b6, some b11, some b10, some b13, some b15] [zac [s_v, (zaa s.Divisor.Negative), s_v1], zac [(zad none 0 0), (zaa false), (zad none 0 0)], zac [(osv (some b10) 0 x11.length m10), (zaa negative11), v11], zac ([] ++ (cs12 ++ [])), zac [(zab .i64 x13.Index), (zaa x13.N.Negative), v12], zac [v13, (zaa x15.Bound.Negative), v14]] := hp16.1
        have K29 := ks w hp16.2
        have f24 := ((((((hE13.mono (K20 None)).mono (K21 None)).mono (K26 None)).mono (K27 None)).mono (K28 None)).mono (K29 None))
        refine zce hl12 (fun (ss : ((List Big) × Int)) (e : Env) (w' : World) => match ss with | (coefs13, x16) => ∃ (cs14 : List Value) (u : Env), e = upds [(0, l_v), (3, (zao (some ⟨b1, 0, none⟩))), (4, (zao (some ⟨b6, 0, none⟩))), (8, (zao (some ⟨b11, 0, none⟩))), (10, (zao (some ⟨b13, 0, none⟩))), (11, (zao (some ⟨b15, 0, none⟩))), (37, s_v), (38, (zab .i64 (s.Uses.length : Int))), (39, (zab .i64 x12)), (66, v13), (67, (zab .i64 (x15.Coefs.length : Int))), (68, (zab .i64 x16))] u ∧ vL w w' [some b1, some b6, some b11, some b10, some b13, some b15] [zac [s_v, (zaa s.Divisor.Negative), s_v1], zac [(zad none 0 0), (zaa false), (zad none 0 0)], zac [(osv (some b10) 0 x11.length m10), (zaa negative11), v11], zac ([] ++ (cs14 ++ [])), zac [(zab .i64 x13.Index), (zaa x13.N.Negative), v12], zac [v13, (zaa x15.Bound.Negative), v14]] ∧ Keep w.heap.size [some b15, some b1, some b6, some b11, some b10, some b13] w24 [some b1, some b6, some b11, some b10, some b13, some b15] w' ∧ Els rBig (vH w None [some b1, some b6, some b11, some b10, some b13, some b15] w') cs14 coefs13 ∧ x11.length = List.length coefs13 ∧ (cs14 ++ []).length = m10 * rBig.sz ∧ True) ⟨cs12, _, (zdt ⟨rfl, rfl, rfl, rfl, rfl, rfl, rfl, rfl, rfl, rfl, rfl, rfl, trivial⟩), hL31, K29, f24, hl11, hc13, trivial⟩ ?_
        rintro ⟨coefs13, x16⟩ oo _ w25 ⟨cs14, u, rfl, hL32, K30, hE15, hl13, hc18, -⟩ h hd11
        rw [cApply_b2] at h
        refine zaj (zah rfl (zaf (zcj (x := x16) (y := (x15.Coefs.length : Int)) ((x16 : Int) < (x15.Coefs.length : Int)) rfl rfl zbk ?_)))
        refine zan (zaj ?_)
        refine zbe ((x16 : Int) < (x15.Coefs.length : Int)) rfl (fun hc19 => ?_) (fun hc19 => ?_)
        ·
         replace h := ite_t hc19 h
         refine zbf (zaj (zbh (zaj (zah rfl (zaf (zai (v := (zab .i64 x16)) rfl ?_))))))
         obtain ⟨x17, q30, h⟩ := zdo h
         obtain ⟨n12, q31, q32⟩ := zdu q30
         have f25 := (f23.mono (K30 S))
         obtain ⟨b16, o12, c12, vs12, q33, q34, f26, q35⟩ := zcw f25 q32
         obtain ⟨v15, rfl, k14, -⟩ := rBig_open q35
         refine zaf (zbw (r := rBig) (v := v13) (n := n12) (m := (o12 + n12 * rBig.sz)) zbb ti26 rfl q33 rfl q31 q32 rfl ?_)
         refine zaf (zdh (vs := [(zaa x17.Negative), v15]) zam rfl ti26 rfl rfl zdy f26 ?_)
         refine zaf (zca (cs := [(zaa false), (zad none 0 0)]) ti26 rfl hL32 ?_)
         intro b17 w26 hL33 hS20
         have K31 := ks w hS20
         refine zaf (zak (v := (zab .i64 x16)) rfl ?_)
         have f27 := (k14.mono (K31 S))
         refine zcc (zbn (vs := [(zaa x17.Negative), v15]) ti26 rfl rfl rfl rfl (zds rfl (zds f27.one zdw)) hL33 0 rfl rfl (zae rfl) ?_)
         intro w27 (hL34 : vL w w27 [some b17, some b1, some b6, some b11, some b10, some b13, some b15] [zac [(zaa x17.Negative), v15], zac [s_v, (zaa s.Divisor.Negative), s_v1], zac [(zad none 0 0), (zaa false), (zad none 0 0)], zac [(osv (some b10) 0 x11.length m10), (zaa negative11), v11], zac ([] ++ (cs14 ++ [])), zac [(zab .i64 x13.Index), (zaa x13.N.Negative), v12], zac [v13, (zaa x15.Bound.Negative), v14]]) hS21
         have K32 := ks w hS21
         refine zan ?_
         obtain ⟨x18, q36, h⟩ := zdo h
         obtain ⟨n13, q37, q38⟩ := zdu q36
         have q39 := (List.getElem?_eq_some_iff.1 q38).1
         have f28 := ((hE15.mono (K31 None)).mono (K32 None))
         obtain ⟨vs13, q40, q41, q42⟩ := zed (pre := []) (sp := []) f28 q38
         obtain ⟨v16, rfl, k15, -⟩ := rBig_open q41
         obtain ⟨r13, q43, h⟩ := zdo h
         obtain ⟨r14, q44, h⟩ := zdo h
         refine zcf 13 [] [] (fun W1 => [.det (zao (some ⟨b11, 0, none⟩)), .det (osv (some b10) 0 x11.length m10), .det (zab .i64 x16), .det (zao (some ⟨b11, 0, none⟩)), .det (osv (some b10) 0 x11.length m10), .det (zab .i64 x16), .det (zao (some ⟨b10, (0 + n13 * rBig.sz), none⟩)), .det (zap #[(zaa x18.Negative), v16]), .det (zao (some ⟨b13, 1, none⟩)), .det (zap #[(zaa x13.N.Negative), v12]), .det (zap #[(zaa x17.Negative), v15]), .rel (fun v Z w' => ∃ v17, (zap #[(zaa r13.Negative), v17]) = v ∧ Rs (rInt .u32) (vZ W1 w None [some b17, some b1, some b6, some b11, some b10, some b13, some b15] Z w') v17 r13.Digits ∧ True) (fun _ => []), .rel (fun v Z w' => ∃ v18, (zap #[(zaa r14.Negative), v18]) = v ∧ Rs (rInt .u32) (vZ W1 w None [some b17, some b1, some b6, some b11, some b10, some b13, some b15] Z w') v18 r14.Digits ∧ True) (fun _ => [])]) mixed rfl rfl rfl (fun _ => rfl) (fun _ => rfl) ?_ ?_
         ·
          intro W1 _
          exact ⟨fun v Z Z' w w' hΦ hz _ _ hs => by obtain ⟨v17, rfl, k16, -⟩ := hΦ; exact ⟨v17, rfl, (k16.mono (zcs hz hs)), trivial⟩, ⟨fun v Z Z' w w' hΦ hz _ _ hs => by obtain ⟨v18, rfl, k17, -⟩ := hΦ; exact ⟨v18, rfl, (k17.mono (zcs hz hs)), trivial⟩, trivial⟩⟩
         ·
          intro w28 hE16
          have hL35 := hL34.ext hE16
          have K33 := ke hL34 hE16
          refine zau (fun _ _ => zav (zas zbg rfl ti32 rfl rfl rfl (er rfl))) ?_
          refine zau (fun _ hE18 => zav (zaz zbb rfl rfl ((hL35.ext hE18).at 3 rfl rfl) rfl (er rfl))) ?_
          refine zau (fun _ _ => zav (zai rfl (er rfl))) ?_
          refine zau (fun _ _ => zav (zas zbg rfl ti32 rfl rfl rfl (er rfl))) ?_
          refine zau (fun _ hE21 => zav (zaz zbb rfl rfl ((hL35.ext hE21).at 3 rfl rfl) rfl (er rfl))) ?_
          refine zau (fun _ _ => zav (zai rfl (er rfl))) ?_
          refine zau (fun _ _ => zav (zcl (r := rBig) (b := b10) (o := 0) (n := n13) (m := x11.length) (xs := coefs13) (q := (0 + n13 * rBig.sz)) zbb ti26 rfl hl13 rfl q37 q39 rfl (er rfl))) ?_
          refine zau (fun _ hE24 => zav (zbm (vs := [(zaa x18.Negative), v16]) zam rfl ti26 rfl ((hL35.ext hE24).at 4 rfl rfl) rfl q42 (er rfl))) ?_
          refine zau (fun _ _ => zav (zas zcv rfl ti26 rfl rfl rfl (er rfl))) ?_
          refine zau (fun _ hE26 => zav (zbm (vs := [(zaa x13.N.Negative), v12]) zam rfl ti26 rfl ((hL35.ext hE26).at 5 rfl rfl) rfl rfl (er rfl))) ?_
          refine zau (fun _ hE27 => zav (zbm (vs := [(zaa x17.Negative), v15]) zam rfl ti26 rfl ((hL35.ext hE27).at 0 rfl rfl) rfl rfl (er rfl))) ?_
          refine zct ?_ ?_
          ·
           rintro w40 Z21 hE28 hZ21 ⟨-⟩
           have K34 := ke hL35 hE28
           refine zav (zaw en47 rfl rfl (bMul_w N x13.N x17 v12 v15 _ Any ((((((((((f16.mono (K21 S)).mono (K26 S)).mono (K27 S)).mono (K28 S)).mono (K30 S)).mono (K31 S)).mono (K32 S)).mono (K33 S)).mono (K34 S)).mono vw_any) ((((f27.mono (K32 S)).mono (K33 S)).mono (K34 S)).mono vw_any) r13 q43) ?_)
           rintro _ w41 hE29 ⟨v17, rfl, k16, -⟩
           exact zcn hE29 hZ21 zcb (fun _ h => h) ⟨v17, rfl, (k16.mono zdf), trivial⟩
          intro z10
          refine zct ?_ ?_
          ·
           rintro w42 Z22 hE30 hZ22 ⟨⟨⟨v17, rfl, k16, -⟩, hB10⟩, -⟩
           have K35 := ke hL35 hE30
           refine zav (zaw en46 rfl rfl (bAdd_w N x18 r13 v16 v17 _ Any (((k15.mono (K33 None)).mono (K35 None)).mono vw_any) (k16.mono vw_any) r14 q44) ?_)
           rintro _ w43 hE31 ⟨v18, rfl, k17, -⟩
           exact zcn hE31 hZ22 zcb (fun _ h => h) ⟨v18, rfl, (k17.mono zdf), trivial⟩
          intro z11
          refine zco ?_
          rintro w44 Z23 hE32 hZ23 ⟨⟨⟨v18, rfl, k17, -⟩, hB11⟩, ⟨⟨v17, rfl, k16, -⟩, hB10⟩, -⟩ ap10
          have hB12 : ∀ b, some b ∈ ([] : List (Option Nat)) → w28.heap.size ≤ b ∧ ¬ Z23 b := by
           intro b hb; cases hb
          replace k17 := k17.mono (zdc hL35 hZ23 hB12)
          replace k16 := k16.mono (zdc hL35 hZ23 hB12)
          have hL41 := hL35.ext hE32
          have K36 := ke hL35 hE32
          obtain ⟨x19, q45, h⟩ := zdo h
          obtain ⟨n14, q46, q47⟩ := zdu q45
          have q48 := (List.getElem?_eq_some_iff.1 q47).1
          refine zaf (zcl (r := rBig) (b := b10) (o := 0) (n := n14) (m := x11.length) (xs := coefs13) (q := (0 + n14 * rBig.sz)) zbb ti26 rfl hl13 rfl q46 q48 rfl ?_)
          obtain ⟨x20, q49, h⟩ := zdo h
          obtain ⟨n15, q50, q51, q52⟩ := zee q49
          obtain rfl := Int.ofNat_inj.1 (q46.symm.trans q50)
          have f29 := ((f28.mono (K33 None)).mono (K36 None))
          refine zcc (zdj (pre := []) (r := rBig) (vs := [(zaa r14.Negative), v18]) (a := r14) ti26 rfl rfl rfl (rBig_close ⟨v18, rfl, k17, trivial⟩) hL41 4 rfl rfl f29 q48 rfl q52 ?_)
          have hl14 : x11.length = List.length x20 := by rw [q52, List.length_set]; exact hl13
          intro w45 cs15 (hL42 : vL w w45 [some b17, some b1, some b6, some b11, some b10, some b13, some b15] [zac [(zaa x17.Negative), v15], zac [s_v, (zaa s.Divisor.Negative), s_v1], zac [(zad none 0 0), (zaa false), (zad none 0 0)], zac [(osv (some b10) 0 x11.length m10), (zaa negative11), v11], zac ([] ++ (cs15 ++ [])), zac [(zab .i64 x13.Index), (zaa x13.N.Negative), v12], zac [v13, (zaa x15.Bound.Negative), v14]]) hS22 hE33 q53
          have hc20 : (cs15 ++ []).length = m10 * rBig.sz := by have := hc18; rw [List.length_append] at this ⊢; rw [q53]; exact this
          have K37 := ks w hS22
          refine zan (zbt (zah rfl (zaf (zby (x := x16) (y := 1) (z := (iw (x16 + 1))) rfl rfl rfl ?_))))
          refine zaf (zai (v := (zab .i64 (iw (x16 + 1)))) rfl ?_)
          refine zan ?_
          have hp17 := hL42.pick [1, 2, 3, 4, 5, 6] rfl rfl rfl
          have hL43 : vL w w45 [some b1, some b6, some b11, some b10, some b13, some b15] [zac [s_v, (zaa s.Divisor.Negative), s_v1], zac [(zad none 0 0), (zaa false), (zad none 0 0)], zac [(osv (some b10) 0 x11.length m10), (zaa negative11), v11], zac ([] ++ (cs15 ++ [])), zac [(zab .i64 x13.Index), (zaa x13.N.Negative), v12], zac [v13, (zaa x15.Bound.Negative), v14]] := hp17.1
          have K38 := ks w hp17.2
          have f30 := ((hE33.mono (K37 None)).mono (K38 None))
          obtain rfl := zag h
          refine zar ⟨(x20, (iw (x16 + 1))), rfl, ?_⟩
          exact ⟨cs15, _, (zdt ⟨rfl, rfl, rfl, rfl, rfl, rfl, rfl, rfl, rfl, rfl, rfl, rfl, trivial⟩), hL43, (zaq (zaq (zaq (zaq (zaq (zaq K30 K31) K32) K33) K36) K37) K38), f30, hl14, hc20, trivial⟩
        ·
         replace h := ite_f hc19 h
         refine zcm rfl ?_
         obtain rfl := zag h
         obtain rfl := hd11 _ rfl
         replace h := g13
         try dsimp only at h
         skip
         refine zar ?_
         exact ⟨coefs13, cs14, _, rfl, (zdt ⟨rfl, rfl, rfl, rfl, rfl, rfl, rfl, rfl, rfl, trivial⟩), hL32, K30, hE15, hl13, hc18, trivial⟩
       ·
        rintro _ w46 ⟨coefs12, cs13, u, rfl, rfl, hL44, K39, hE34, hl15, hc21, -⟩
        replace h := g13
        try dsimp only at h
        obtain ⟨r15, q54, h⟩ := zdo h
        refine zcf 7 [] [] (fun W1 => [.det (zao (some ⟨b11, 1, none⟩)), .det (zap #[(zaa negative11), v11]), .det (zao (some ⟨b13, 1, none⟩)), .det (zap #[(zaa x13.N.Negative), v12]), .det (zao (some ⟨b15, 1, none⟩)), .det (zap #[(zaa x15.Bound.Negative), v14]), .rel (fun v Z w' => ∃ v19, (zap #[(zaa r15.Negative), v19]) = v ∧ Rs (rInt .u32) (vZ W1 w None [some b1, some b6, some b11, some b10, some b13, some b15] Z w') v19 r15.Digits ∧ True) (fun _ => [])]) mixed rfl rfl rfl (fun _ => rfl) (fun _ => rfl) ?_ ?_
        ·
         intro W1 _
         exact ⟨fun v Z Z' w w' hΦ hz _ _ hs => by obtain ⟨v19, rfl, k18, -⟩ := hΦ; exact ⟨v19, rfl, (k18.mono (zcs hz hs)), trivial⟩, trivial⟩
        ·
         intro w47 hE35
         have hL45 := hL44.ext hE35
         have K40 := ke hL44 hE35
         refine zau (fun _ _ => zav (zas zbg rfl ti26 rfl rfl rfl (er rfl))) ?_
         refine zau (fun _ hE37 => zav (zbm (vs := [(zaa negative11), v11]) zam rfl ti26 rfl ((hL45.ext hE37).at 2 rfl rfl) rfl rfl (er rfl))) ?_
         refine zau (fun _ _ => zav (zas zcv rfl ti26 rfl rfl rfl (er rfl))) ?_
         refine zau (fun _ hE39 => zav (zbm (vs := [(zaa x13.N.Negative), v12]) zam rfl ti26 rfl ((hL45.ext hE39).at 4 rfl rfl) rfl rfl (er rfl))) ?_
         refine zau (fun _ _ => zav (zas zbg rfl ti26 rfl rfl rfl (er rfl))) ?_
         refine zau (fun _ hE41 => zav (zbm (vs := [(zaa x15.Bound.Negative), v14]) zam rfl ti26 rfl ((hL45.ext hE41).at 5 rfl rfl) rfl rfl (er rfl))) ?_
         refine zct ?_ ?_
         ·
          rintro w54 Z30 hE42 hZ30 ⟨-⟩
          have K41 := ke hL45 hE42
          refine zav (zaw en47 rfl rfl (bMul_w N x13.N x15.Bound v12 v14 _ Any ((((((((f16.mono (K21 S)).mono (K26 S)).mono (K27 S)).mono (K28 S)).mono (K39 S)).mono (K40 S)).mono (K41 S)).mono vw_any) (((((f21.mono (K28 S)).mono (K39 S)).mono (K40 S)).mono (K41 S)).mono vw_any) r15 q54) ?_)
          rintro _ w55 hE43 ⟨v19, rfl, k18, -⟩
          exact zcn hE43 hZ30 zcb (fun _ h => h) ⟨v19, rfl, (k18.mono zdf), trivial⟩
         intro z6
         refine zco ?_
         rintro w56 Z31 hE44 hZ31 ⟨⟨⟨v19, rfl, k18, -⟩, hB6⟩, -⟩ ap11
         have hB13 : ∀ b, some b ∈ ([] : List (Option Nat)) → w47.heap.size ≤ b ∧ ¬ Z31 b := by
          intro b hb; cases hb
         replace k18 := k18.mono (zdc hL45 hZ31 hB13)
         have hL49 := hL45.ext hE44
         have K42 := ke hL45 hE44
         obtain ⟨r16, q55, h⟩ := zdo h
         have f31 := ((((((((k10.mono (K20 None)).mono (K21 None)).mono (K26 None)).mono (K27 None)).mono (K28 None)).mono (K39 None)).mono (K40 None)).mono (K42 None))
         refine zaf (zaw en46 rfl rfl (bAdd_w N (Big.mk negative11 digits11) r15 v11 v19 _ Any (f31.mono vw_any) (k18.mono vw_any) r16 q55) ?_)
         rintro _ w57 hE45 ⟨v20, rfl, k19, -⟩
         replace k19 := k19.mono (zba (S := None) hL49 [])
         have hL50 := hL49.ext hE45
         have K43 := ke hL49 hE45
         refine zaf (zas (q := 1) zbg rfl ti26 rfl rfl rfl ?_)
         refine zcc (zbn (vs := [(zaa r16.Negative), v20]) ti26 rfl rfl rfl rfl (zds rfl (zds k19.one zdw)) hL50 2 rfl rfl (zae rfl) ?_)
         intro w58 (hL51 : vL w w58 [some b1, some b6, some b11, some b10, some b13, some b15] [zac [s_v, (zaa s.Divisor.Negative), s_v1], zac [(zad none 0 0), (zaa false), (zad none 0 0)], zac [(osv (some b10) 0 x11.length m10), (zaa r16.Negative), v20], zac ([] ++ (cs13 ++ [])), zac [(zab .i64 x13.Index), (zaa x13.N.Negative), v12], zac [v13, (zaa x15.Bound.Negative), v14]]) hS23
         have K44 := ks w hS23
         refine zan (zbt (zah rfl (zaf (zby (x := x12) (y := 1) (z := (iw (x12 + 1))) rfl rfl rfl ?_))))
         refine zaf (zai (v := (zab .i64 (iw (x12 + 1)))) rfl ?_)
         refine zan ?_
         have hp18 := hL51.pick [0, 1, 2, 3] rfl rfl rfl
         have hL52 : vL w w58 [some b1, some b6, some b11, some b10] [zac [s_v, (zaa s.Divisor.Negative), s_v1], zac [(zad none 0 0), (zaa false), (zad none 0 0)], zac [(osv (some b10) 0 x11.length m10), (zaa r16.Negative), v20], zac ([] ++ (cs13 ++ []))] := hp18.1
         have K45 := ks w hp18.2
         have f32 := (((((hE34.mono (K40 None)).mono (K42 None)).mono (K43 None)).mono (K44 None)).mono (K45 None))
         have f33 := ((k19.mono (K44 None)).mono (K45 None))
         obtain rfl := zag h
         refine zar ⟨(coefs12, r16.Negative, r16.Digits, (iw (x12 + 1))), rfl, ?_⟩
         exact ⟨cs13, v20, _, (zdt ⟨rfl, rfl, rfl, rfl, rfl, rfl, rfl, trivial⟩), hL52, (zaq (zaq (zaq (zaq (zaq (zaq (zaq (zaq (zaq (zaq (zaq K19 K20) K21) K26) K27) K28) K39) K40) K42) K43) K44) K45), f32, hl15, hc21, f33, trivial⟩
    ·
     replace h := ite_f hc14 h
     refine zcm rfl ?_
     obtain rfl := zag h
     obtain rfl := hd10 _ rfl
     replace h := g11
     try dsimp only at h
     skip
     refine zar ?_
     exact ⟨coefs11, negative11, digits11, cs12, v11, _, rfl, (zdt ⟨rfl, rfl, rfl, trivial⟩), hL20, K19, hE13, hl11, hc13, k10, trivial⟩
   ·
    rintro _ w59 ⟨coefs10, negative10, digits10, cs11, v10, u, rfl, rfl, hL53, K46, hE46, hl16, hc22, k20, -⟩
    replace h := g11
    try dsimp only at h
    refine zaj (zaj (zah rfl (zaf (zas (q := 0) zbg rfl ti32 rfl rfl rfl ?_))))
    refine zaf (zaz (v := (osv (some b10) 0 x11.length m10)) zbb rfl rfl (hL53.at 2 rfl rfl) rfl ?_)
    refine zaf (OpY.lenRow (pre := []) (r := rBig) (xs := coefs10) zbb rfl (hL53.at 3 rfl rfl) hE46 rfl hl16 ?_)
    refine zaf (zai (v := (zab .i64 0)) rfl ?_)
    refine zan ?_
    obtain ⟨s14, hl17, g14⟩ := zdo h
    refine zbr (fun e w' => ∃ (coefs14 : (List Big)) (cs16 : List Value) (u : Env), (Sum.inl coefs14) = s14 ∧ e = upds [(3, (zao (some ⟨b1, 0, none⟩))), (4, (zao (some ⟨b6, 0, none⟩))), (8, (zao (some ⟨b11, 0, none⟩)))] u ∧ vL w w' [some b1, some b6, some b11, some b10] [zac [s_v, (zaa s.Divisor.Negative), s_v1], zac [(zad none 0 0), (zaa false), (zad none 0 0)], zac [(osv (some b10) 0 x11.length m10), (zaa negative10), v10], zac ([] ++ (cs16 ++ []))] ∧ Keep w.heap.size [some b1, some b6, some b11, some b10] w59 [some b1, some b6, some b11, some b10] w' ∧ Els rBig (vH w None [some b1, some b6, some b11, some b10] w') cs16 coefs14 ∧ x11.length = List.length coefs14 ∧ (cs16 ++ []).length = m10 * rBig.sz ∧ True) ?_ ?_
    ·
     refine zbh ?_
     refine zce hl17 (fun (ss : ((List Big) × Int)) (e : Env) (w' : World) => match ss with | (coefs15, x21) => ∃ (cs17 : List Value) (u : Env), e = upds [(3, (zao (some ⟨b1, 0, none⟩))), (4, (zao (some ⟨b6, 0, none⟩))), (8, (zao (some ⟨b11, 0, none⟩))), (99, (osv (some b10) 0 x11.length m10)), (100, (zab .i64 (coefs10.length : Int))), (101, (zab .i64 x21))] u ∧ vL w w' [some b1, some b6, some b11, some b10] [zac [s_v, (zaa s.Divisor.Negative), s_v1], zac [(zad none 0 0), (zaa false), (zad none 0 0)], zac [(osv (some b10) 0 x11.length m10), (zaa negative10), v10], zac ([] ++ (cs17 ++ []))] ∧ Keep w.heap.size [some b1, some b6, some b11, some b10] w59 [some b1, some b6, some b11, some b10] w' ∧ Els rBig (vH w None [some b1, some b6, some b11, some b10] w') cs17 coefs15 ∧ x11.length = List.length coefs15 ∧ (cs17 ++ []).length = m10 * rBig.sz ∧ True) ⟨cs11, _, (zdt ⟨rfl, rfl, rfl, rfl, rfl, rfl, trivial⟩), hL53, zbo, hE46, hl16, hc22, trivial⟩ ?_
     rintro ⟨coefs15, x21⟩ oo _ w60 ⟨cs17, u, rfl, hL54, K47, hE47, hl18, hc23, -⟩ h hd12
     rw [cApply_b3] at h
     refine zaj (zah rfl (zaf (zcj (x := x21) (y := (coefs10.length : Int)) ((x21 : Int) < (coefs10.length : Int)) rfl rfl zbk ?_)))
     refine zan (zaj ?_)
     refine zbe ((x21 : Int) < (coefs10.length : Int)) rfl (fun hc24 => ?_) (fun hc24 => ?_)
     ·
      replace h := ite_t hc24 h
      refine zbf (zaj (zbh (zaj (zah rfl (zaf (zai (v := (zab .i64 x21)) rfl ?_))))))
      obtain ⟨x22, q56, h⟩ := zdo h
      obtain ⟨n16, q57, q58⟩ := zdu q56
      have q59 := (List.getElem?_eq_some_iff.1 q58).1
      refine zaf (zcl (r := rBig) (b := b10) (o := 0) (n := n16) (m := x11.length) (xs := coefs15) (q := (0 + n16 * rBig.sz)) zbb ti26 rfl hl18 rfl q57 q59 rfl ?_)
      obtain ⟨vs14, q60, q61, q62⟩ := zed (pre := []) (sp := []) hE47 q58
      obtain ⟨v21, rfl, k21, -⟩ := rBig_open q61
      refine zaf (zbm (vs := [(zaa x22.Negative), v21]) zam rfl ti26 rfl (hL54.at 3 rfl rfl) rfl q62 ?_)
      refine zaf (zca (cs := [(zaa false), (zad none 0 0)]) ti26 rfl hL54 ?_)
      intro b18 w61 hL55 hS24
      have K48 := ks w hS24
      refine zaf (zak (v := (zab .i64 x21)) rfl ?_)
      have f34 := (k21.mono (K48 None))
      refine zcc (zbn (vs := [(zaa x22.Negative), v21]) ti26 rfl rfl rfl rfl (zds rfl (zds f34.one zdw)) hL55 0 rfl rfl (zae rfl) ?_)
      intro w62 (hL56 : vL w w62 [some b18, some b1, some b6, some b11, some b10] [zac [(zaa x22.Negative), v21], zac [s_v, (zaa s.Divisor.Negative), s_v1], zac [(zad none 0 0), (zaa false), (zad none 0 0)], zac [(osv (some b10) 0 x11.length m10), (zaa negative10), v10], zac ([] ++ (cs17 ++ []))]) hS25
      have K49 := ks w hS25
      refine zan (zaj (zah rfl (zaf (zbm (vs := [(zaa x22.Negative), v21]) zam rfl ti26 rfl (hL56.at 0 rfl rfl) rfl rfl ?_))))
      refine zaf (zas (q := 1) zcq rfl ti26 rfl rfl rfl ?_)
      refine zaf (zbm (vs := [(zaa s.Divisor.Negative), s_v1]) zam rfl ti26 rfl (hL56.at 1 rfl rfl) rfl rfl ?_)
      obtain ⟨r17, q63, h⟩ := zdo h
      have f35 := (f34.mono (K49 None))
      have f36 := (((((((((((s_h1.mono (K4 S)).mono (K9 S)).mono (K10 S)).mono (K14 S)).mono (K15 S)).mono (K16 S)).mono (K17 S)).mono (K46 S)).mono (K47 S)).mono (K48 S)).mono (K49 S))
      refine zaf (zaw en48 rfl rfl (bDivFloor_w N x22 s.Divisor v21 s_v1 _ Any (f35.mono vw_any) (f36.mono vw_any) r17 q63) ?_)
      rintro _ w63 hE48 ⟨v22, v23, rfl, k22, k23, -⟩
      replace k22 := k22.mono (zba (S := None) hL56 [])
      replace k23 := k23.mono (zba (S := None) hL56 [])
      have hL57 := hL56.ext hE48
      have K50 := ke hL56 hE48
      refine zaf (zai (v := (Value.tuple #[(zap #[(zaa r17.1.Negative), v22]), (zap #[(zaa r17.2.1.Negative), v23]), (zaa r17.2.2)])) rfl ?_)
      refine zaf (zcx (vs := [(zap #[(zaa r17.1.Negative), v22]), (zap #[(zaa r17.2.1.Negative), v23]), (zaa r17.2.2)]) (v := (zap #[(zaa r17.1.Negative), v22])) rfl rfl ?_)
      refine zaf (zcx (vs := [(zap #[(zaa r17.1.Negative), v22]), (zap #[(zaa r17.2.1.Negative), v23]), (zaa r17.2.2)]) (v := (zap #[(zaa r17.2.1.Negative), v23])) rfl rfl ?_)
      refine zaf (zcx (vs := [(zap #[(zaa r17.1.Negative), v22]), (zap #[(zaa r17.2.1.Negative), v23]), (zaa r17.2.2)]) (v := (zaa r17.2.2)) rfl rfl ?_)
      refine zaf (zca (cs := [(zaa false), (zad none 0 0)]) ti26 rfl hL57 ?_)
      intro b19 w64 hL58 hS26
      have K51 := ks w hS26
      refine zaf (zca (cs := [(zaa false), (zad none 0 0)]) ti26 rfl hL58 ?_)
      intro b20 w65 hL59 hS27
      have K52 := ks w hS27
      have f37 := ((k22.mono (K51 None)).mono (K52 None))
      refine zcc (zbn (vs := [(zaa r17.1.Negative), v22]) ti26 rfl rfl rfl rfl (zds rfl (zds f37.one zdw)) hL59 1 rfl rfl (zae rfl) ?_)
      intro w66 (hL60 : vL w w66 [some b20, some b19, some b18, some b1, some b6, some b11, some b10] [zac [(zaa false), (zad none 0 0)], zac [(zaa r17.1.Negative), v22], zac [(zaa x22.Negative), v21], zac [s_v, (zaa s.Divisor.Negative), s_v1], zac [(zad none 0 0), (zaa false), (zad none 0 0)], zac [(osv (some b10) 0 x11.length m10), (zaa negative10), v10], zac ([] ++ (cs17 ++ []))]) hS28
      have K53 := ks w hS28
      have f38 := (((k23.mono (K51 None)).mono (K52 None)).mono (K53 None))
      refine zcc (zbn (vs := [(zaa r17.2.1.Negative), v23]) ti26 rfl rfl rfl rfl (zds rfl (zds f38.one zdw)) hL60 0 rfl rfl (zae rfl) ?_)
      intro w67 (hL61 : vL w w67 [some b20, some b19, some b18, some b1, some b6, some b11, some b10] [zac [(zaa r17.2.1.Negative), v23], zac [(zaa r17.1.Negative), v22], zac [(zaa x22.Negative), v21], zac [s_v, (zaa s.Divisor.Negative), s_v1], zac [(zad none 0 0), (zaa false), (zad none 0 0)], zac [(osv (some b10) 0 x11.length m10), (zaa negative10), v10], zac ([] ++ (cs17 ++ []))]) hS29
      have K54 := ks w hS29
      refine zaf (zak (v := (zaa r17.2.2)) rfl ?_)
      refine zan (zaj (zaj (zah rfl (zaf (zbm (vs := [(zaa r17.2.1.Negative), v23]) zam rfl ti26 rfl (hL61.at 0 rfl rfl) rfl rfl ?_)))))
      obtain ⟨r18, q64, h⟩ := zdo h
      have f39 := (f38.mono (K54 None))
      refine zaf (zaw en45 rfl rfl (bSign_w N r17.2.1 v23 _ Any (f39.mono vw_any) r18 q64) ?_)
      rintro _ w68 hE49 ⟨rfl, -⟩
      have hL62 := hL61.ext hE49
      have K55 := ke hL61 hE49
      refine zaf (OpY.neq (x := r18) (y := 0) ((r18 : Int) ≠ 0) rfl rfl zbk ?_)
      refine zan ?_
      refine zbe ((r18 : Int) ≠ 0) rfl (fun hc25 => ?_) (fun hc25 => ?_)
      ·
       replace h := ite_t hc25 h
       refine zaj (zah rfl (zaf (zcy (zc := [(zad none 0 0), (zaa false), (zad none 0 0)]) (cs := [(zad none 0 0), (zaa false), (zad none 0 0)]) (is := []) (vs := []) (css := []) pl34 ti34 rfl rfl rfl trivial rfl ?_)))
       refine zcc (zbn (vs := [(zad none 0 0), (zaa false), (zad none 0 0)]) ti34 rfl rfl rfl rfl (zds rfl (zds rfl (zds rfl zdw))) hL62 4 rfl rfl (zae rfl) ?_)
       intro w69 (hL63 : vL w w69 [some b20, some b19, some b18, some b1, some b6, some b11, some b10] [zac [(zaa r17.2.1.Negative), v23], zac [(zaa r17.1.Negative), v22], zac [(zaa x22.Negative), v21], zac [s_v, (zaa s.Divisor.Negative), s_v1], zac [(zad none 0 0), (zaa false), (zad none 0 0)], zac [(osv (some b10) 0 x11.length m10), (zaa negative10), v10], zac ([] ++ (cs17 ++ []))]) hS30
       refine zaf (zak (v := (zaa false)) rfl ?_)
       refine zan (zbj ?_)
       obtain rfl := zag h
       obtain rfl := hd12 _ rfl
       replace h := g14
       try dsimp only at h
       obtain rfl := zag h
       refine ⟨[(zap #[(zad none 0 0), (zaa false), (zad none 0 0)]), (zaa false)], ⟨⟨⟨b6, 0, none⟩, rfl, zdz zbg rfl ti34 (hL63.at 4 rfl rfl) rfl⟩, ⟨rfl, trivial⟩⟩, ⟨_, rfl, hL63.done, ?_⟩⟩
       exact ⟨(zad none 0 0), (zad none 0 0), rfl, zdn, zdn, trivial⟩
      ·
       replace h := ite_f hc25 h
       refine zbf (zah rfl (zaf (zas (q := 0) zbg rfl ti32 rfl rfl rfl ?_)))
       refine zaf (zaz (v := (osv (some b10) 0 x11.length m10)) zbb rfl rfl (hL62.at 5 rfl rfl) rfl ?_)
       refine zaf (zai (v := (zab .i64 x21)) rfl ?_)
       refine zaf (zbm (vs := [(zaa r17.1.Negative), v22]) zam rfl ti26 rfl (hL62.at 1 rfl rfl) rfl rfl ?_)
       obtain ⟨x23, q65, h⟩ := zdo h
       obtain ⟨n17, q66, q67⟩ := zdu q65
       have q68 := (List.getElem?_eq_some_iff.1 q67).1
       refine zaf (zcl (r := rBig) (b := b10) (o := 0) (n := n17) (m := x11.length) (xs := coefs15) (q := (0 + n17 * rBig.sz)) zbb ti26 rfl hl18 rfl q66 q68 rfl ?_)
       obtain ⟨x24, q69, h⟩ := zdo h
       obtain ⟨n18, q70, q71, q72⟩ := zee q69
       obtain rfl := Int.ofNat_inj.1 (q66.symm.trans q70)
       have f40 := ((((((((hE47.mono (K48 None)).mono (K49 None)).mono (K50 None)).mono (K51 None)).mono (K52 None)).mono (K53 None)).mono (K54 None)).mono (K55 None))
       have f41 := (((f37.mono (K53 None)).mono (K54 None)).mono (K55 None))
       refine zcc (zdj (pre := []) (r := rBig) (vs := [(zaa r17.1.Negative), v22]) (a := r17.1) ti26 rfl rfl rfl (rBig_close ⟨v22, rfl, f41, trivial⟩) hL62 6 rfl rfl f40 q68 rfl q72 ?_)
       have hl19 : x11.length = List.length x24 := by rw [q72, List.length_set]; exact hl18
       intro w70 cs18 (hL64 : vL w w70 [some b20, some b19, some b18, some b1, some b6, some b11, some b10] [zac [(zaa r17.2.1.Negative), v23], zac [(zaa r17.1.Negative), v22], zac [(zaa x22.Negative), v21], zac [s_v, (zaa s.Divisor.Negative), s_v1], zac [(zad none 0 0), (zaa false), (zad none 0 0)], zac [(osv (some b10) 0 x11.length m10), (zaa negative10), v10], zac ([] ++ (cs18 ++ []))]) hS31 hE50 q73
       have hc26 : (cs18 ++ []).length = m10 * rBig.sz := by have := hc23; rw [List.length_append] at this ⊢; rw [q73]; exact this
       have K56 := ks w hS31
       refine zan (zbt (zah rfl (zaf (zby (x := x21) (y := 1) (z := (iw (x21 + 1))) rfl rfl rfl ?_))))
       refine zaf (zai (v := (zab .i64 (iw (x21 + 1)))) rfl ?_)
       refine zan ?_
       have hp19 := hL64.pick [3, 4, 5, 6] rfl rfl rfl
       have hL65 : vL w w70 [some b1, some b6, some b11, some b10] [zac [s_v, (zaa s.Divisor.Negative), s_v1], zac [(zad none 0 0), (zaa false), (zad none 0 0)], zac [(osv (some b10) 0 x11.length m10), (zaa negative10), v10], zac ([] ++ (cs18 ++ []))] := hp19.1
       have K57 := ks w hp19.2
       have f42 := ((hE50.mono (K56 None)).mono (K57 None))
       obtain rfl := zag h
       refine zar ⟨(x24, (iw (x21 + 1))), rfl, ?_⟩
       exact ⟨cs18, _, (zdt ⟨rfl, rfl, rfl, rfl, rfl, rfl, trivial⟩), hL65, (zaq (zaq (zaq (zaq (zaq (zaq (zaq (zaq (zaq (zaq K47 K48) K49) K50) K51) K52) K53) K54) K55) K56) K57), f42, hl19, hc26, trivial⟩
     ·
      replace h := ite_f hc24 h
      refine zcm rfl ?_
      obtain rfl := zag h
      obtain rfl := hd12 _ rfl
      replace h := g14
      try dsimp only at h
      skip
      refine zar ?_
      exact ⟨coefs15, cs17, _, rfl, (zdt ⟨rfl, rfl, rfl, trivial⟩), hL54, K47, hE47, hl18, hc23, trivial⟩
    ·
     rintro _ w71 ⟨coefs14, cs16, u, rfl, rfl, hL66, K58, hE51, hl20, hc27, -⟩
     replace h := g14
     try dsimp only at h
     refine zaj (zah rfl (zaf (zas (q := 1) zbg rfl ti26 rfl rfl rfl ?_)))
     refine zaf (zbm (vs := [(zaa negative10), v10]) zam rfl ti26 rfl (hL66.at 2 rfl rfl) rfl rfl ?_)
     refine zaf (zas (q := 1) zcq rfl ti26 rfl rfl rfl ?_)
     refine zaf (zbm (vs := [(zaa s.Divisor.Negative), s_v1]) zam rfl ti26 rfl (hL66.at 0 rfl rfl) rfl rfl ?_)
     obtain ⟨r19, q74, h⟩ := zdo h
     have f43 := (k20.mono (K58 None))
     have f44 := (((((((((s_h1.mono (K4 S)).mono (K9 S)).mono (K10 S)).mono (K14 S)).mono (K15 S)).mono (K16 S)).mono (K17 S)).mono (K46 S)).mono (K58 S))
     refine zaf (zaw en48 rfl rfl (bDivFloor_w N (Big.mk negative10 digits10) s.Divisor v10 s_v1 _ Any (f43.mono vw_any) (f44.mono vw_any) r19 q74) ?_)
     rintro _ w72 hE52 ⟨v24, v25, rfl, k24, k25, -⟩
     replace k24 := k24.mono (zba (S := None) hL66 [])
     replace k25 := k25.mono (zba (S := None) hL66 [])
     have hL67 := hL66.ext hE52
     have K59 := ke hL66 hE52
     refine zaf (zai (v := (Value.tuple #[(zap #[(zaa r19.1.Negative), v24]), (zap #[(zaa r19.2.1.Negative), v25]), (zaa r19.2.2)])) rfl ?_)
     refine zaf (zcx (vs := [(zap #[(zaa r19.1.Negative), v24]), (zap #[(zaa r19.2.1.Negative), v25]), (zaa r19.2.2)]) (v := (zap #[(zaa r19.1.Negative), v24])) rfl rfl ?_)
     refine zaf (zcx (vs := [(zap #[(zaa r19.1.Negative), v24]), (zap #[(zaa r19.2.1.Negative), v25]), (zaa r19.2.2)]) (v := (zap #[(zaa r19.2.1.Negative), v25])) rfl rfl ?_)
     refine zaf (zcx (vs := [(zap #[(zaa r19.1.Negative), v24]), (zap #[(zaa r19.2.1.Negative), v25]), (zaa r19.2.2)]) (v := (zaa r19.2.2)) rfl rfl ?_)
     refine zaf (zas (q := 1) zbg rfl ti26 rfl rfl rfl ?_)
     refine zcc (zbn (vs := [(zaa r19.1.Negative), v24]) ti26 rfl rfl rfl rfl (zds rfl (zds k24.one zdw)) hL67 2 rfl rfl (zae rfl) ?_)
     intro w73 (hL68 : vL w w73 [some b1, some b6, some b11, some b10] [zac [s_v, (zaa s.Divisor.Negative), s_v1], zac [(zad none 0 0), (zaa false), (zad none 0 0)], zac [(osv (some b10) 0 x11.length m10), (zaa r19.1.Negative), v24], zac ([] ++ (cs16 ++ []))]) hS32
     have K60 := ks w hS32
     refine zan (zaj (zah rfl (zaf (zbm (vs := [(osv (some b10) 0 x11.length m10), (zaa r19.1.Negative), v24]) zbg rfl ti34 rfl (hL68.at 2 rfl rfl) rfl rfl ?_))))
     have f45 := (k24.mono (K60 None))
     refine zcc (zbn (vs := [(osv (some b10) 0 x11.length m10), (zaa r19.1.Negative), v24]) ti34 rfl rfl rfl rfl (zds (zea _ _ _ _) (zds rfl (zds f45.one zdw))) hL68 1 rfl rfl (zae rfl) ?_)
     intro w74 (hL69 : vL w w74 [some b1, some b6, some b11, some b10] [zac [s_v, (zaa s.Divisor.Negative), s_v1], zac [(osv (some b10) 0 x11.length m10), (zaa r19.1.Negative), v24], zac [(osv (some b10) 0 x11.length m10), (zaa r19.1.Negative), v24], zac ([] ++ (cs16 ++ []))]) hS33
     have K61 := ks w hS33
     refine zaf (zak (v := (zaa true)) rfl ?_)
     refine zan ?_
     have f46 := (((hE51.mono (K59 None)).mono (K60 None)).mono (K61 None))
     have f47 := hL69.freezeRow 3 rfl rfl f46 rfl rfl hl20 hc27
     have hp20 := hL69.pick [0, 1, 2] rfl rfl rfl
     have hL70 : vL w w74 [some b1, some b6, some b11] [zac [s_v, (zaa s.Divisor.Negative), s_v1], zac [(osv (some b10) 0 x11.length m10), (zaa r19.1.Negative), v24], zac [(osv (some b10) 0 x11.length m10), (zaa r19.1.Negative), v24]] := hp20.1
     have K62 := ks w hp20.2
     refine zbj ?_
     obtain rfl := zag h
     refine ⟨[(zap #[(osv (some b10) 0 x11.length m10), (zaa r19.1.Negative), v24]), (zaa true)], ⟨⟨⟨b6, 0, none⟩, rfl, zdz zbg rfl ti34 (hL70.at 1 rfl rfl) rfl⟩, ⟨rfl, trivial⟩⟩, ⟨_, rfl, hL70.done, ?_⟩⟩
     have f48 := ((f45.mono (K61 None)).mono (K62 None))
     exact ⟨(osv (some b10) 0 x11.length m10), v24, rfl, (f47.mono zdi), (f48.mono zdi), trivial⟩
theorem cContradictory_w (N : Nat) (q : Ineq) (q_v : Value) (q_v1 : Value) (w : World) (S : Nat → Prop) (q_h : Rs rBig (vH w S [] w) q_v q.Coefs) (q_h1 : Rs (rInt .u32) (vH w S [] w) q_v1 q.Bound.Digits) (r : Bool) (h : cContradictory N q = some r) :
  Calls Try.prog 29 #[(zap #[q_v, (zaa q.Bound.Negative), q_v1])] w (Ret w (fun v w' => (zaa r) = v ∧ True)) := by
 unfold cContradictory at h
 have hL : vL w w [] [] := Go.X.Loc.begin0 w
 refine calls_of (l := [(zap #[q_v, (zaa q.Bound.Negative), q_v1])]) (rl := [.tmp 2]) (n := 20) Try.func29 rfl rfl rfl (zae rfl) ?_
 refine zaj (zah rfl (zaf (zde (cs := [q_v, (zaa q.Bound.Negative), q_v1]) rfl rfl hL ?_)))
 intro b1 w2 hL3 hS5
 have K4 := ks w hS5
 refine zaf (zak (v := (zaa false)) rfl ?_)
 refine zan (zaj (zaj (zah rfl (zaf (zas (q := 0) zbg rfl ti32 rfl rfl rfl ?_)))))
 refine zaf (zaz (v := q_v) zbb rfl rfl (hL3.at 0 rfl rfl) rfl ?_)
 have f6 := (q_h.mono (K4 S))
 refine zaf (zbd (v := q_v) zbb rfl f6 ?_)
 refine zaf (zai (v := (zab .i64 0)) rfl ?_)
 refine zan ?_
 obtain ⟨s10, hl10, g10⟩ := zdo h
 refine zbr (fun e w' => ∃  (u : Env), (Sum.inl ()) = s10 ∧ e = upds [(1, (zao (some ⟨b1, 0, none⟩)))] u ∧ vL w w' [some b1] [zac [q_v, (zaa q.Bound.Negative), q_v1]] ∧ Keep w.heap.size [some b1] w2 [some b1] w' ∧ True) ?_ ?_
 ·
  refine zbh ?_
  refine zce hl10 (fun (ss : Int) (e : Env) (w' : World) => match ss with | x10 => ∃ (u : Env), e = upds [(1, (zao (some ⟨b1, 0, none⟩))), (6, q_v), (7, (zab .i64 (q.Coefs.length : Int))), (8, (zab .i64 x10))] u ∧ vL w w' [some b1] [zac [q_v, (zaa q.Bound.Negative), q_v1]] ∧ Keep w.heap.size [some b1] w2 [some b1] w' ∧ True) ⟨_, (zdt ⟨rfl, rfl, rfl, rfl, trivial⟩), hL3, zbo, trivial⟩ ?_
  rintro x10 oo _ w10 ⟨u, rfl, hL10, K10, -⟩ h hd10
  rw [cContradictory_b1] at h
  refine zaj (zah rfl (zaf (zcj (x := x10) (y := (q.Coefs.length : Int)) ((x10 : Int) < (q.Coefs.length : Int)) rfl rfl zbk ?_)))
  refine zan (zaj ?_)
  refine zbe ((x10 : Int) < (q.Coefs.length : Int)) rfl (fun hc10 => ?_) (fun hc10 => ?_)
  ·
   replace h := ite_t hc10 h
   refine zbf (zaj (zbh (zaj (zah rfl ?_))))
   obtain ⟨x11, q10, h⟩ := zdo h
   obtain ⟨n10, q11, q12⟩ := zdu q10
   have f10 := (f6.mono (K10 S))
   obtain ⟨b10, o10, c10, vs10, q13, q14, f11, q15⟩ := zcw f10 q12
   obtain ⟨v10, rfl, k10, -⟩ := rBig_open q15
   refine zaf (zbw (r := rBig) (v := q_v) (n := n10) (m := (o10 + n10 * rBig.sz)) zbb ti26 rfl q13 rfl q11 q12 rfl ?_)
   refine zaf (zdh (vs := [(zaa x11.Negative), v10]) zam rfl ti26 rfl rfl zdy f11 ?_)
   refine zaf (zca (cs := [(zaa false), (zad none 0 0)]) ti26 rfl hL10 ?_)
   intro b11 w11 hL11 hS10
   have K11 := ks w hS10
   have f12 := (k10.mono (K11 S))
   refine zcc (zbn (vs := [(zaa x11.Negative), v10]) ti26 rfl rfl rfl rfl (zds rfl (zds f12.one zdw)) hL11 0 rfl rfl (zae rfl) ?_)
   intro w12 (hL12 : vL w w12 [some b11, some b1] [zac [(zaa x11.Negative), v10], zac [q_v, (zaa q.Bound.Negative), q_v1]]) hS11
   have K12 := ks w hS11
   refine zan (zaj (zah rfl (zaf (zbm (vs := [(zaa x11.Negative), v10]) zam rfl ti26 rfl (hL12.at 0 rfl rfl) rfl rfl ?_))))
   obtain ⟨r10, q16, h⟩ := zdo h
   have f13 := (f12.mono (K12 S))
   refine zaf (zaw en45 rfl rfl (bSign_w N x11 v10 _ Any (f13.mono vw_any) r10 q16) ?_)
   rintro _ w13 hE10 ⟨rfl, -⟩
   have hL13 := hL12.ext hE10
   have K13 := ke hL12 hE10
   refine zaf (OpY.neq (x := r10) (y := 0) ((r10 : Int) ≠ 0) rfl rfl zbk ?_)
   refine zan ?_
   refine zbe ((r10 : Int) ≠ 0) rfl (fun hc11 => ?_) (fun hc11 => ?_)
   ·
    replace h := ite_t hc11 h
    refine zaj (zah rfl (zaf (zak (v := (zaa false)) rfl ?_)))
    refine zan (zbj ?_)
    obtain rfl := zag h
    obtain rfl := hd10 _ rfl
    replace h := g10
    try dsimp only at h
    obtain rfl := zag h
    refine ⟨[(zaa false)], ⟨rfl, trivial⟩, ⟨_, rfl, hL13.done, ?_⟩⟩
    exact ⟨rfl, trivial⟩
   ·
    replace h := ite_f hc11 h
    refine zbf (zbt (zah rfl (zaf (zby (x := x10) (y := 1) (z := (iw (x10 + 1))) rfl rfl rfl ?_))))
    refine zaf (zai (v := (zab .i64 (iw (x10 + 1)))) rfl ?_)
    refine zan ?_
    have hp10 := hL13.pick [1] rfl rfl rfl
    have hL14 : vL w w13 [some b1] [zac [q_v, (zaa q.Bound.Negative), q_v1]] := hp10.1
    have K14 := ks w hp10.2
    obtain rfl := zag h
    refine zar ⟨(iw (x10 + 1)), rfl, ?_⟩
    exact ⟨_, (zdt ⟨rfl, rfl, rfl, rfl, trivial⟩), hL14, (zaq (zaq (zaq (zaq K10 K11) K12) K13) K14), trivial⟩
  ·
   replace h := ite_f hc10 h
   refine zcm rfl ?_
   obtain rfl := zag h
   obtain rfl := hd10 _ rfl
   replace h := g10
   try dsimp only at h
   skip
   refine zar ?_
   exact ⟨_, rfl, (zdt ⟨rfl, trivial⟩), hL10, K10, trivial⟩
 ·
  rintro _ w14 ⟨u, rfl, rfl, hL15, K15, -⟩
  replace h := g10
  try dsimp only at h
  refine zaj (zah rfl (zaf (zas (q := 1) zbg rfl ti26 rfl rfl rfl ?_)))
  refine zaf (zbm (vs := [(zaa q.Bound.Negative), q_v1]) zam rfl ti26 rfl (hL15.at 0 rfl rfl) rfl rfl ?_)
  obtain ⟨r11, q17, h⟩ := zdo h
  have f14 := ((q_h1.mono (K4 S)).mono (K15 S))
  refine zaf (zaw en45 rfl rfl (bSign_w N q.Bound q_v1 _ Any (f14.mono vw_any) r11 q17) ?_)
  rintro _ w15 hE11 ⟨rfl, -⟩
  have hL16 := hL15.ext hE11
  refine zaf (zcj (x := r11) (y := 0) ((r11 : Int) < 0) rfl rfl zbk ?_)
  refine zaf (zak (v := (zaa (decide ((r11 : Int) < 0)))) rfl ?_)
  refine zan (zbj ?_)
  obtain rfl := zag h
  refine ⟨[(zaa (decide ((r11 : Int) < 0)))], ⟨rfl, trivial⟩, ⟨_, rfl, hL16.done, ?_⟩⟩
  exact ⟨rfl, trivial⟩
theorem cCheck_w (N : Nat) : ∀ (l : (List Ineq)) (p : Proof) (l_v : Value) (p_v : Value) (p_v1 : Value) (p_v2 : Value) (p_v3 : Value) (w : World) (S : Nat → Prop) (l_h : Rs rIneq (vH w S [] w) l_v l) (p_h : Rs rStep (vH w S [] w) p_v p.Steps) (p_h1 : Rs rBig (vH w S [] w) p_v1 p.Form) (p_h2 : Rs (rInt .u32) (vH w S [] w) p_v2 p.Bound.Digits) (p_h3 : Rs rProof (vH w S [] w) p_v3 p.Children) (r : Bool) (h : cCheck N l p = some r), Calls Try.prog 18 #[l_v, (zap #[p_v, p_v1, (zaa p.Bound.Negative), p_v2, p_v3])] w (Ret w (fun v w' => (zaa r) = v ∧ True)) := by
 induction N with
 | zero => intro l p l_v p_v p_v1 p_v2 p_v3 w S l_h p_h p_h1 p_h2 p_h3 r h; cases (show (none : Option Bool) = some r from h)
 | succ N ih =>
  intro l p l_v p_v p_v1 p_v2 p_v3 w S l_h p_h p_h1 p_h2 p_h3 r h
  replace h : cCheck_step N (cCheck N) l p = some r := h
  unfold cCheck_step at h
  have hL : vL w w [] [] := Go.X.Loc.begin0 w
  refine calls_of (l := [l_v, (zap #[p_v, p_v1, (zaa p.Bound.Negative), p_v2, p_v3])]) (rl := [.tmp 4]) (n := 104) Try.func18 rfl rfl rfl (zae rfl) ?_
  refine zaj (zah rfl (zaf (zde (cs := [p_v, p_v1, (zaa p.Bound.Negative), p_v2, p_v3]) rfl rfl hL ?_)))
  intro b1 w2 hL3 hS5
  have K4 := ks w hS5
  refine zaf (zak (v := (zaa false)) rfl ?_)
  refine zan (zaj (zaj (zah rfl (zaf (zai (v := l_v) rfl ?_)))))
  obtain ⟨r6, q7, h⟩ := zdo h
  have f9 := (l_h.mono (K4 S))
  refine zaf (zaw en44 rfl rfl (cwidth_w N l l_v _ Any (f9.mono vw_any) r6 q7) ?_)
  rintro _ w10 hE10 ⟨rfl, -⟩
  have hL10 := hL3.ext hE10
  have K10 := ke hL3 hE10
  refine zaf (zai (v := (Value.tuple #[(zab .i64 r6.1), (zaa r6.2)])) rfl ?_)
  refine zaf (zcx (vs := [(zab .i64 r6.1), (zaa r6.2)]) (v := (zab .i64 r6.1)) rfl rfl ?_)
  refine zaf (zcx (vs := [(zab .i64 r6.1), (zaa r6.2)]) (v := (zaa r6.2)) rfl rfl ?_)
  refine zaf (zak (v := (zab .i64 r6.1)) rfl ?_)
  refine zaf (zak (v := (zaa r6.2)) rfl ?_)
  refine zan (zaj (zah rfl (zaf (zai (v := (zaa r6.2)) rfl ?_))))
  refine zaf (OpY.not (x := r6.2) rfl ?_)
  refine zan ?_
  refine zcr (!r6.2) rfl (fun hc10 => ?_) (fun hc10 => ?_)
  ·
   replace h := ite_t hc10 h
   refine zaj (zah rfl (zaf (zak (v := (zaa false)) rfl ?_)))
   refine zan (zbj ?_)
   obtain rfl := zag h
   refine ⟨[(zaa false)], ⟨rfl, trivial⟩, ⟨_, rfl, hL10.done, ?_⟩⟩
   exact ⟨rfl, trivial⟩
  ·
   replace h := ite_f hc10 h
   refine zbf (zaj (zah rfl (zaf (zai (v := l_v) rfl ?_))))
   obtain ⟨r10, q10, h⟩ := zdo h
   have f10 := (f9.mono (K10 S))
   refine zaf (zaw en53 rfl rfl (cloneIneq_w N l l_v _ _ (f10.mono Hv.enter) r10 q10) ?_)
   rintro _ w11 hE11 ⟨ob10, cap10, cs10, sp10, rfl, hN10, hE12, hc11, -⟩
   replace hE12 := hE12.mono (Hv.aliasO (S := S) hL10 [ob10])
   have hp10 := hL10.adoptL hE11 hN10
   have hL11 := hp10.1
   have K11 := ks w hp10.2
   refine zaf (zak (v := (osv ob10 0 r10.length cap10)) rfl ?_)
   refine zan (zaj (zaj (zah rfl (zaf (zas (q := 0) zbi rfl ti39 rfl rfl rfl ?_)))))
   refine zaf (zaz (v := p_v) zcu rfl rfl (hL11.at 1 rfl rfl) rfl ?_)
   have f11 := (((p_h.mono (K4 S)).mono (K10 S)).mono (K11 S))
   refine zaf (zbd (v := p_v) zcu rfl f11 ?_)
   refine zaf (zai (v := (zab .i64 0)) rfl ?_)
   refine zan ?_
   obtain ⟨s10, hl10, g10⟩ := zdo h
   refine zbr (fun e w' => ∃ (e10 : (List Ineq)) (ob11 : Option Nat) (cap11 : Nat) (sp11 : List Value) (cs11 : List Value) (ln10 : Nat) (u : Env), (Sum.inl e10) = s10 ∧ e = upds [(3, (zao (some ⟨b1, 0, none⟩))), (7, (osv ob11 0 ln10 cap11))] u ∧ vL w w' [some b1, ob11] [zac [p_v, p_v1, (zaa p.Bound.Negative), p_v2, p_v3], zac ([] ++ (cs11 ++ sp11))] ∧ Keep w.heap.size [ob10, some b1] w11 [some b1, ob11] w' ∧ Els rIneq (vH w S [some b1, ob11] w') cs11 e10 ∧ ln10 = List.length e10 ∧ (cs11 ++ sp11).length = cap11 * rIneq.sz ∧ True) ?_ ?_
   ·
    refine zbh ?_
    have hp11 := hL11.pick [1, 0] rfl rfl rfl
    have hL12 : vL w w11 [some b1, ob10] [zac [p_v, p_v1, (zaa p.Bound.Negative), p_v2, p_v3], zac ([] ++ (cs10 ++ sp10))] := hp11.1
    have K12 := ks w hp11.2
    have f12 := (hE12.mono (K12 S))
    refine zce hl10 (fun (ss : ((List Ineq) × Int)) (e : Env) (w' : World) => match ss with | (e11, x10) => ∃ (ob12 : Option Nat) (cap12 : Nat) (sp12 : List Value) (cs12 : List Value) (ln11 : Nat) (u : Env), e = upds [(3, (zao (some ⟨b1, 0, none⟩))), (7, (osv ob12 0 ln11 cap12)), (26, p_v), (27, (zab .i64 (p.Steps.length : Int))), (28, (zab .i64 x10))] u ∧ vL w w' [some b1, ob12] [zac [p_v, p_v1, (zaa p.Bound.Negative), p_v2, p_v3], zac ([] ++ (cs12 ++ sp12))] ∧ Keep w.heap.size [ob10, some b1] w11 [some b1, ob12] w' ∧ Els rIneq (vH w S [some b1, ob12] w') cs12 e11 ∧ ln11 = List.length e11 ∧ (cs12 ++ sp12).length = cap12 * rIneq.sz ∧ True) ⟨ob10, cap10, sp10, cs10, r10.length, _, (zdt ⟨rfl, rfl, rfl, rfl, rfl, trivial⟩), hL12, K12, f12, rfl, hc11, trivial⟩ ?_
    rintro ⟨e11, x10⟩ oo _ w12 ⟨ob12, cap12, sp12, cs12, ln11, u, rfl, hL13, K13, hE13, rfl, hc12, -⟩ h hd10
    rw [cCheck_b1] at h
    refine zaj (zah rfl (zaf (zcj (x := x10) (y := (p.Steps.length : Int)) ((x10 : Int) < (p.Steps.length : Int)) rfl rfl zbk ?_)))
    refine zan (zaj ?_)
    refine zbe ((x10 : Int) < (p.Steps.length : Int)) rfl (fun hc13 => ?_) (fun hc13 => ?_)
    ·
     replace h := ite_t hc13 h
     refine zbf (zaj (zbh (zaj (zah rfl ?_))))
     obtain ⟨x11, q11, h⟩ := zdo h
     obtain ⟨n10, q12, q13⟩ := zdu q11
     have f13 := (f11.mono (K13 S))
     obtain ⟨b10, o10, c10, vs10, q14, q15, f14, q16⟩ := zcw f13 q13
     obtain ⟨v10, v11, rfl, k10, k11, -⟩ := rStep_open q16
     refine zaf (zbw (r := rStep) (v := p_v) (n := n10) (m := (o10 + n10 * rStep.sz)) zcu ti28 rfl q14 rfl q12 q13 rfl ?_)
     refine zaf (zdh (vs := [v10, (zaa x11.Divisor.Negative), v11]) zcq rfl ti28 rfl rfl zdy f14 ?_)
     refine zaf (zca (cs := [(zad none 0 0), (zaa false), (zad none 0 0)]) ti28 rfl hL13 ?_)
     intro b11 w13 hL14 hS10
     have K14 := ks w hS10
     have f15 := (k11.mono (K14 S))
     have f16 := (k10.mono (K14 S))
     refine zcc (zbn (vs := [v10, (zaa x11.Divisor.Negative), v11]) ti28 rfl rfl rfl rfl (zds f16.one (zds rfl (zds f15.one zdw))) hL14 0 rfl rfl (zae rfl) ?_)
     intro w14 (hL15 : vL w w14 [some b11, some b1, ob12] [zac [v10, (zaa x11.Divisor.Negative), v11], zac [p_v, p_v1, (zaa p.Bound.Negative), p_v2, p_v3], zac ([] ++ (cs12 ++ sp12))]) hS11
     have K15 := ks w hS11
     refine zan (zaj (zah rfl (zaf (zai (v := (osv ob12 0 e11.length cap12)) rfl ?_))))
     refine zaf (zbm (vs := [v10, (zaa x11.Divisor.Negative), v11]) zcq rfl ti28 rfl (hL15.at 0 rfl rfl) rfl rfl ?_)
     obtain ⟨r11, q17, h⟩ := zdo h
     have f17 := ((hE13.mono (K14 S)).mono (K15 S))
     have f18 := (f16.mono (K15 S))
     have f19 := (f15.mono (K15 S))
     refine zaf (zaw en14 rfl rfl (cApply_w N e11 x11 (osv ob12 0 e11.length cap12) v10 v11 _ Any (zdv (pre := []) (o := 0) (n := e11.length) (cap := cap12) (hL15.at 2 rfl rfl) f17 vw_any rfl rfl rfl hc12) (f18.mono vw_any) (f19.mono vw_any) r11 q17) ?_)
     rintro _ w15 hE14 ⟨v12, v13, rfl, k12, k13, -⟩
     replace k12 := k12.mono (zba (S := None) hL15 [])
     replace k13 := k13.mono (zba (S := None) hL15 [])
     have hL16 := hL15.ext hE14
     have K16 := ke hL15 hE14
     refine zaf (zai (v := (Value.tuple #[(zap #[v12, (zaa r11.1.Bound.Negative), v13]), (zaa r11.2)])) rfl ?_)
     refine zaf (zcx (vs := [(zap #[v12, (zaa r11.1.Bound.Negative), v13]), (zaa r11.2)]) (v := (zap #[v12, (zaa r11.1.Bound.Negative), v13])) rfl rfl ?_)
     refine zaf (zcx (vs := [(zap #[v12, (zaa r11.1.Bound.Negative), v13]), (zaa r11.2)]) (v := (zaa r11.2)) rfl rfl ?_)
     refine zaf (zca (cs := [(zad none 0 0), (zaa false), (zad none 0 0)]) ti34 rfl hL16 ?_)
     intro b12 w16 hL17 hS12
     have K17 := ks w hS12
     have f20 := (k13.mono (K17 None))
     have f21 := (k12.mono (K17 None))
     refine zcc (zbn (vs := [v12, (zaa r11.1.Bound.Negative), v13]) ti34 rfl rfl rfl rfl (zds f21.one (zds rfl (zds f20.one zdw))) hL17 0 rfl rfl (zae rfl) ?_)
     intro w17 (hL18 : vL w w17 [some b12, some b11, some b1, ob12] [zac [v12, (zaa r11.1.Bound.Negative), v13], zac [v10, (zaa x11.Divisor.Negative), v11], zac [p_v, p_v1, (zaa p.Bound.Negative), p_v2, p_v3], zac ([] ++ (cs12 ++ sp12))]) hS13
     have K18 := ks w hS13
     refine zaf (zak (v := (zaa r11.2)) rfl ?_)
     refine zan (zaj (zaj (zah rfl (zaf (zai (v := (zaa r11.2)) rfl ?_)))))
     refine zaf (OpY.not (x := r11.2) rfl ?_)
     refine zan ?_
     refine zcr (!r11.2) rfl (fun hc14 => ?_) (fun hc14 => ?_)
     ·
      replace h := ite_t hc14 h
      refine zaj (zah rfl (zaf (zak (v := (zaa false)) rfl ?_)))
      refine zan (zbj ?_)
      obtain rfl := zag h
      obtain rfl := hd10 _ rfl
      replace h := g10
      try dsimp only at h
      obtain rfl := zag h
      refine ⟨[(zaa false)], ⟨rfl, trivial⟩, ⟨_, rfl, hL18.done, ?_⟩⟩
      exact ⟨rfl, trivial⟩
     ·
      replace h := ite_f hc14 h
      refine zbf (zah rfl (zaf (zai (v := (osv ob12 0 e11.length cap12)) rfl ?_)))
      refine zaf (zbm (vs := [v12, (zaa r11.1.Bound.Negative), v13]) zbg rfl ti34 rfl (hL18.at 0 rfl rfl) rfl rfl ?_)
      have f22 := (f21.mono (K18 None))
      have f23 := (f20.mono (K18 None))
      have hE15 : Els rIneq (vH w None [some b12, some b11, some b1, ob12] w17) [v12, (zaa r11.1.Bound.Negative), v13] [r11.1] := (zcg (a := [v12, (zaa r11.1.Bound.Negative), v13]) (rIneq_close ⟨v12, v13, rfl, f22, f23, trivial⟩) zcp)
      refine zaf (zch (r := rIneq) (vs := [(zap #[v12, (zaa r11.1.Bound.Negative), v13])]) (css := [[v12, (zaa r11.1.Bound.Negative), v13]]) (xs := [r11.1]) zbl ti34 (zae rfl) rfl rfl ⟨rfl, rfl, trivial⟩ (zae rfl) hE15 rfl hL18 ?_)
      intro b13 w18 hc15 hL19 hS14
      have K19 := ks w hS14
      obtain ⟨x12, q18, h⟩ := zdo h
      obtain ⟨q19, q20, q21⟩ := zeb q18
      have f24 := (hE15.mono (K19 None))
      have f25 := ((((f17.mono (K16 S)).mono (K17 S)).mono (K18 S)).mono (K19 S))
      refine zaf (zdk (r := rIneq) (H := (vH w S [some b13, some b12, some b11, some b1, ob12] w18)) (cs := cs12) (sp := sp12) (xs := e11) (ys := [r11.1]) (Y := x12) (n := e11.length) (cap := cap12) (i := 4) zbl ti34 rfl rfl rfl rfl hL19 rfl rfl f25 rfl hc12 (Src.row (pre := []) (o := 0) (n := 1) (cap := 1) (hL19.at 0 rfl rfl) f24 rfl rfl rfl) (f24.mono Hv.none) q19 q20 q21 ?_)
      intro ob13 cap13 sp13 cs13 w19 hE16 hc16 (hL20 : vL w w19 [some b13, some b12, some b11, some b1, ob13] [zac ([] ++ ([v12, (zaa r11.1.Bound.Negative), v13] ++ [])), zac [v12, (zaa r11.1.Bound.Negative), v13], zac [v10, (zaa x11.Divisor.Negative), v11], zac [p_v, p_v1, (zaa p.Bound.Negative), p_v2, p_v3], zac ([] ++ (cs13 ++ sp13))]) hS15
      have K20 := ks w hS15
      refine zaf (zak (v := (osv ob13 0 x12.length cap13)) rfl ?_)
      refine zan (zbt (zah rfl (zaf (zby (x := x10) (y := 1) (z := (iw (x10 + 1))) rfl rfl rfl ?_))))
      refine zaf (zai (v := (zab .i64 (iw (x10 + 1)))) rfl ?_)
      refine zan ?_
      have hp12 := hL20.pick [3, 4] rfl rfl rfl
      have hL21 : vL w w19 [some b1, ob13] [zac [p_v, p_v1, (zaa p.Bound.Negative), p_v2, p_v3], zac ([] ++ (cs13 ++ sp13))] := hp12.1
      have K21 := ks w hp12.2
      have f26 := ((hE16.mono (K20 S)).mono (K21 S))
      obtain rfl := zag h
      refine zar ⟨(x12, (iw (x10 + 1))), rfl, ?_⟩
      exact ⟨ob13, cap13, sp13, cs13, x12.length, _, (zdt ⟨rfl, rfl, rfl, rfl, rfl, trivial⟩), hL21, (zaq (zaq (zaq (zaq (zaq (zaq (zaq (zaq K13 K14) K15) K16) K17) K18) K19) K20) K21), f26, rfl, hc16, trivial⟩
    ·
     replace h := ite_f hc13 h
     refine zcm rfl ?_
     obtain rfl := zag h
     obtain rfl := hd10 _ rfl
     replace h := g10
     try dsimp only at h
     skip
     refine zar ?_
     exact ⟨e11, ob12, cap12, sp12, cs12, e11.length, _, rfl, (zdt ⟨rfl, rfl, trivial⟩), hL13, K13, hE13, rfl, hc12, trivial⟩
   ·
    rintro _ w20 ⟨e10, ob11, cap11, sp11, cs11, ln10, u, rfl, rfl, hL22, K22, hE17, rfl, hc17, -⟩
    replace h := g10
    try dsimp only at h
    refine zaj (zaj (zah rfl (zaf (zas (q := 4) zbi rfl ti40 rfl rfl rfl ?_))))
    refine zaf (zaz (v := p_v3) zcd rfl rfl (hL22.at 0 rfl rfl) rfl ?_)
    have f27 := ((((p_h3.mono (K4 S)).mono (K10 S)).mono (K11 S)).mono (K22 S))
    refine zaf (zbd (v := p_v3) zcd rfl f27 ?_)
    refine zan (zbh (zaj (zah rfl (zaf (OpY.eql (x := (p.Children.length : Int)) (y := 0) (((p.Children.length : Int) : Int) = 0) rfl rfl zbk ?_)))))
    refine zaf (zak (v := (zaa (decide (((p.Children.length : Int) : Int) = 0)))) rfl ?_)
    refine zan ?_
    refine zbe (((p.Children.length : Int) : Int) = 0) rfl (fun hc18 => ?_) (fun hc18 => ?_)
    ·
     replace h := ite_t hc18 h
     refine zaj (zah rfl (zaf (zai (v := (osv ob11 0 e10.length cap11)) rfl ?_)))
     obtain ⟨r12, q22, h⟩ := zdo h
     refine zaf (zaw en54 rfl rfl (containsIneq_w N e10 (fun y10 => cContradictory N y10) (osv ob11 0 e10.length cap11) (Value.func (.func 29) #[] #[]) _ Any (zdv (pre := []) (o := 0) (n := e10.length) (cap := cap11) (hL22.at 1 rfl rfl) hE17 vw_any rfl rfl rfl hc17) (fun w9 hE9 y11 v14 v15 k14 k15 z9 hz9 => ⟨29, [], rfl, en29, (cContradictory_w N y11 v14 v15 _ Any (k14.mono vw_any) (k15.mono vw_any) z9 hz9)⟩) r12 q22) ?_)
     rintro _ w21 hE18 ⟨rfl, -⟩
     have hL23 := hL22.ext hE18
     refine zaf (zak (v := (zaa r12)) rfl ?_)
     refine zan (zbj ?_)
     obtain rfl := zag h
     refine ⟨[(zaa r12)], ⟨rfl, trivial⟩, ⟨_, rfl, hL23.done, ?_⟩⟩
     exact ⟨rfl, trivial⟩
    ·
     replace h := ite_f hc18 h
     refine zaj (zah rfl (zaf (OpY.eql (x := (p.Children.length : Int)) (y := 2) (((p.Children.length : Int) : Int) = 2) rfl rfl zbk ?_)))
     refine zaf (zak (v := (zaa (decide (((p.Children.length : Int) : Int) = 2)))) rfl ?_)
     refine zan ?_
     refine zbe (((p.Children.length : Int) : Int) = 2) rfl (fun hc19 => ?_) (fun hc19 => ?_)
     ·
      replace h := ite_t hc19 h
      refine zbf (zbt (zaj (zaj (zah rfl (zaf (zai (v := (osv ob11 0 e10.length cap11)) rfl ?_))))))
      obtain ⟨r13, q23, h⟩ := zdo h
      refine zaf (zaw en44 rfl rfl (cwidth_w N e10 (osv ob11 0 e10.length cap11) _ Any (zdv (pre := []) (o := 0) (n := e10.length) (cap := cap11) (hL22.at 1 rfl rfl) hE17 vw_any rfl rfl rfl hc17) r13 q23) ?_)
      rintro _ w22 hE19 ⟨rfl, -⟩
      have hL24 := hL22.ext hE19
      have K23 := ke hL22 hE19
      refine zaf (zai (v := (Value.tuple #[(zab .i64 r13.1), (zaa r13.2)])) rfl ?_)
      refine zaf (zcx (vs := [(zab .i64 r13.1), (zaa r13.2)]) (v := (zab .i64 r13.1)) rfl rfl ?_)
      refine zaf (zcx (vs := [(zab .i64 r13.1), (zaa r13.2)]) (v := (zaa r13.2)) rfl rfl ?_)
      refine zaf (zak (v := (zab .i64 r13.1)) rfl ?_)
      refine zaf (zak (v := (zaa r13.2)) rfl ?_)
      refine zan (zaj ?_)
      obtain ⟨s11, h, g11⟩ := zdo h
      refine zbr (fun e w' => ∃ (x13 : Bool) (u : Env), x13 = s11 ∧ e = upds [(3, (zao (some ⟨b1, 0, none⟩))), (7, (osv ob11 0 e10.length cap11)), (68, (zaa x13))] u ∧ vL w w' [some b1, ob11] [zac [p_v, p_v1, (zaa p.Bound.Negative), p_v2, p_v3], zac ([] ++ (cs11 ++ sp11))] ∧ Keep w.heap.size [some b1, ob11] w22 [some b1, ob11] w' ∧ True) ?_ ?_
      ·
       refine zah rfl (zaf (zai (v := (osv ob11 0 e10.length cap11)) rfl ?_))
       have f28 := (hE17.mono (K23 S))
       refine zaf (OpY.lenRow (pre := []) (r := rIneq) (xs := e10) zbl rfl (hL24.at 1 rfl rfl) f28 rfl rfl ?_)
       refine zaf (zdm (x := (e10.length : Int)) (y := 0) (((e10.length : Int) : Int) > 0) rfl rfl zbk ?_)
       refine zaf (zai (v := (zaa (decide (((e10.length : Int) : Int) > 0)))) rfl ?_)
       by_cases hc20 : ((e10.length : Int) : Int) > 0
       ·
        replace h := ite_t hc20 h
        refine zbu rfl rfl (zdr hc20) (zas (q := 1) zbi rfl ti32 rfl rfl rfl ?_)
        refine zbu rfl rfl (zdr hc20) (zaz (v := p_v1) zbb rfl rfl (hL24.at 0 rfl rfl) rfl ?_)
        have f29 := (((((p_h1.mono (K4 S)).mono (K10 S)).mono (K11 S)).mono (K22 S)).mono (K23 S))
        refine zbu rfl rfl (zdr hc20) (zbd (v := p_v1) zbb rfl f29 ?_)
        refine zbu rfl rfl (zdr hc20) (zai (v := (zab .i64 r13.1)) rfl ?_)
        refine zbu rfl rfl (zdr hc20) (OpY.neq (x := (p.Form.length : Int)) (y := r13.1) (((p.Form.length : Int) : Int) ≠ r13.1) rfl rfl zbk ?_)
        refine zaf (zci (t := (decide (((e10.length : Int) : Int) > 0))) (v := (zaa (decide (((p.Form.length : Int) : Int) ≠ r13.1)))) rfl (zdr hc20) rfl ?_)
        refine zan ?_
        obtain rfl := zag h
        refine zar ?_
        exact ⟨(decide (((p.Form.length : Int) : Int) ≠ r13.1)), _, rfl, (zdt ⟨rfl, rfl, rfl, trivial⟩), hL24, zbo, trivial⟩
       ·
        replace h := ite_f hc20 h
        refine zbq rfl rfl (zdq hc20) ?_
        refine zbq rfl rfl (zdq hc20) ?_
        refine zbq rfl rfl (zdq hc20) ?_
        refine zbq rfl rfl (zdq hc20) ?_
        refine zbq rfl rfl (zdq hc20) ?_
        refine zaf (zbx (t := (decide (((e10.length : Int) : Int) > 0))) (v := (zaa false)) rfl (zdq hc20) rfl ?_)
        refine zan ?_
        obtain rfl := zag h
        refine zar ?_
        exact ⟨false, _, rfl, (zdt ⟨rfl, rfl, rfl, trivial⟩), hL24, zbo, trivial⟩
      ·
       rintro _ w23 ⟨x13, u, rfl, rfl, hL25, K24, -⟩
       replace h := g11
       try dsimp only at h
       refine zcr x13 rfl (fun hc21 => ?_) (fun hc21 => ?_)
       ·
        replace h := ite_t hc21 h
        refine zaj (zah rfl (zaf (zak (v := (zaa false)) rfl ?_)))
        refine zan (zbj ?_)
        obtain rfl := zag h
        refine ⟨[(zaa false)], ⟨rfl, trivial⟩, ⟨_, rfl, hL25.done, ?_⟩⟩
        exact ⟨rfl, trivial⟩
       ·
        replace h := ite_f hc21 h
        refine zbf (zaj (zah rfl (zaf (zas (q := 1) zbi rfl ti32 rfl rfl rfl ?_))))
        refine zaf (zaz (v := p_v1) zbb rfl rfl (hL25.at 0 rfl rfl) rfl ?_)
        refine zaf (zas (q := 2) zbi rfl ti26 rfl rfl rfl ?_)
        refine zaf (zbm (vs := [(zaa p.Bound.Negative), p_v2]) zam rfl ti26 rfl (hL25.at 0 rfl rfl) rfl rfl ?_)
        have f30 := ((((((p_h1.mono (K4 S)).mono (K10 S)).mono (K11 S)).mono (K22 S)).mono (K23 S)).mono (K24 S))
        refine zaf (zcy (zc := [(zad none 0 0), (zaa false), (zad none 0 0)]) (cs := [p_v1, (zaa p.Bound.Negative), p_v2]) (is := [0, 1]) (vs := [p_v1, (zap #[(zaa p.Bound.Negative), p_v2])]) (css := [[p_v1], [(zaa p.Bound.Negative), p_v2]]) pl34 ti34 rfl rfl rfl ⟨(zec f30.one), ⟨rfl, trivial⟩⟩ rfl ?_)
        refine zaf (zca (cs := [(zad none 0 0), (zaa false), (zad none 0 0)]) ti34 rfl hL25 ?_)
        intro b14 w24 hL26 hS16
        have K25 := ks w hS16
        have f31 := (((((((p_h2.mono (K4 S)).mono (K10 S)).mono (K11 S)).mono (K22 S)).mono (K23 S)).mono (K24 S)).mono (K25 S))
        have f32 := (f30.mono (K25 S))
        refine zcc (zbn (vs := [p_v1, (zaa p.Bound.Negative), p_v2]) ti34 rfl rfl rfl rfl (zds f32.one (zds rfl (zds f31.one zdw))) hL26 0 rfl rfl (zae rfl) ?_)
        intro w25 (hL27 : vL w w25 [some b14, some b1, ob11] [zac [p_v1, (zaa p.Bound.Negative), p_v2], zac [p_v, p_v1, (zaa p.Bound.Negative), p_v2, p_v3], zac ([] ++ (cs11 ++ sp11))]) hS17
        have K26 := ks w hS17
        refine zan (zaj ?_)
        obtain ⟨r14, q24, h⟩ := zdo h
        obtain ⟨r15, q25, h⟩ := zdo h
        obtain ⟨r16, q26, h⟩ := zdo h
        obtain ⟨r17, q27, h⟩ := zdo h
        refine zcf 9 [] [] (fun W1 => [.det (zao (some ⟨b1, 1, none⟩)), .det p_v1, .det (zao (some ⟨b1, 2, none⟩)), .det (zap #[(zaa p.Bound.Negative), p_v2]), .rel (fun v Z w' => ∃ v16, (zap #[(zaa r14.Negative), v16]) = v ∧ Rs (rInt .u32) (vZ W1 w None [some b14, some b1, ob11] Z w') v16 r14.Digits ∧ True) (fun _ => []), .rel (fun v Z w' => ∃ v17, (zap #[(zaa r15.Negative), v17]) = v ∧ Rs (rInt .u32) (vZ W1 w None [some b14, some b1, ob11] Z w') v17 r15.Digits ∧ True) (fun _ => []), .rel (fun v Z w' => ∃ v18, (zap #[(zaa r16.Negative), v18]) = v ∧ Rs (rInt .u32) (vZ W1 w None [some b14, some b1, ob11] Z w') v18 r16.Digits ∧ True) (fun _ => []), .rel (fun v Z w' => ∃ v19 v20, (zap #[v19, (zaa r17.Bound.Negative), v20]) = v ∧ Rs rBig (vZ W1 w None [some b14, some b1, ob11] Z w') v19 r17.Coefs ∧ Rs (rInt .u32) (vZ W1 w None [some b14, some b1, ob11] Z w') v20 r17.Bound.Digits ∧ True) (fun _ => []), .rel (fun v Z w' => ∃ b15, (zao (some ⟨b15, 0, none⟩)) = v ∧ OwnC w' (some b15) (zac [(zad none 0 0), (zaa false), (zad none 0 0)]) ∧ True) footV]) mixed rfl rfl rfl (fun _ => rfl) (fun _ => rfl) ?_ ?_
        ·
         intro W1 _
         exact ⟨fun v Z Z' w w' hΦ hz _ _ hs => by obtain ⟨v16, rfl, k16, -⟩ := hΦ; exact ⟨v16, rfl, (k16.mono (zcs hz hs)), trivial⟩, ⟨fun v Z Z' w w' hΦ hz _ _ hs => by obtain ⟨v17, rfl, k17, -⟩ := hΦ; exact ⟨v17, rfl, (k17.mono (zcs hz hs)), trivial⟩, ⟨fun v Z Z' w w' hΦ hz _ _ hs => by obtain ⟨v18, rfl, k18, -⟩ := hΦ; exact ⟨v18, rfl, (k18.mono (zcs hz hs)), trivial⟩, ⟨fun v Z Z' w w' hΦ hz _ _ hs => by obtain ⟨v19, v20, rfl, k19, k20, -⟩ := hΦ; exact ⟨v19, v20, rfl, (k19.mono (zcs hz hs)), (k20.mono (zcs hz hs)), trivial⟩, ⟨fun v Z Z' w w' hΦ hz _ _ hs => by obtain ⟨b15, rfl, hO10, -⟩ := hΦ; exact ⟨b15, rfl, (hO10.stay (fun b hb => by cases hb; exact zax) hs), trivial⟩, trivial⟩⟩⟩⟩⟩
        ·
         intro w26 hE20
         have hL28 := hL27.ext hE20
         have K27 := ke hL27 hE20
         refine zau (fun _ _ => zav (zas zbi rfl ti32 rfl rfl rfl (er rfl))) ?_
         refine zau (fun _ hE22 => zav (zaz zbb rfl rfl ((hL28.ext hE22).at 1 rfl rfl) rfl (er rfl))) ?_
         refine zau (fun _ _ => zav (zas zbi rfl ti26 rfl rfl rfl (er rfl))) ?_
         refine zau (fun _ hE24 => zav (zbm (vs := [(zaa p.Bound.Negative), p_v2]) zam rfl ti26 rfl ((hL28.ext hE24).at 1 rfl rfl) rfl rfl (er rfl))) ?_
         refine zct ?_ ?_
         ·
          rintro w31 Z14 hE25 hZ14 ⟨-⟩
          have K28 := ke hL28 hE25
          refine zav (zaw en57 rfl rfl (bNeg_w N p.Bound p_v2 _ Any ((((f31.mono (K26 S)).mono (K27 S)).mono (K28 S)).mono vw_any) r14 q24) ?_)
          rintro _ w32 hE26 ⟨v16, rfl, k16, -⟩
          exact zcn hE26 hZ14 zcb (fun _ h => h) ⟨v16, rfl, (k16.mono zdf), trivial⟩
         intro z4
         refine zct ?_ ?_
         ·
          rintro w33 Z15 hE27 hZ15 ⟨⟨⟨v16, rfl, k16, -⟩, hB4⟩, -⟩
          refine zav (zaw en58 rfl rfl (bOf_w N 1 _ Any r15 q25) ?_)
          rintro _ w34 hE28 ⟨v17, rfl, k17, -⟩
          exact zcn hE28 hZ15 zcb (fun _ h => h) ⟨v17, rfl, (k17.mono zdf), trivial⟩
         intro z5
         refine zct ?_ ?_
         ·
          rintro w35 Z16 hE29 hZ16 ⟨⟨⟨v17, rfl, k17, -⟩, hB5⟩, ⟨⟨v16, rfl, k16, -⟩, hB4⟩, -⟩
          refine zav (zaw en56 rfl rfl (bSub_w N r14 r15 v16 v17 _ Any (k16.mono vw_any) (k17.mono vw_any) r16 q26) ?_)
          rintro _ w36 hE30 ⟨v18, rfl, k18, -⟩
          exact zcn hE30 hZ16 zcb (fun _ h => h) ⟨v18, rfl, (k18.mono zdf), trivial⟩
         intro z6
         refine zct ?_ ?_
         ·
          rintro w37 Z17 hE31 hZ17 ⟨⟨⟨v18, rfl, k18, -⟩, hB6⟩, -, -, -⟩
          have K29 := ke hL28 hE31
          refine zav (zaw en55 rfl rfl (negated_w N p.Form r16 p_v1 v18 _ Any ((((f32.mono (K26 S)).mono (K27 S)).mono (K29 S)).mono vw_any) (k18.mono vw_any) r17 q27) ?_)
          rintro _ w38 hE32 ⟨v19, v20, rfl, k19, k20, -⟩
          exact zcn hE32 hZ17 zcb (fun _ h => h) ⟨v19, v20, rfl, (k19.mono zdf), (k20.mono zdf), trivial⟩
         intro z7
         refine zct ?_ ?_
         ·
          rintro w39 Z18 hE33 hZ18 ⟨-, -, -, -, -⟩
          refine zav (zca (cs := [(zad none 0 0), (zaa false), (zad none 0 0)]) ti34 rfl (Go.X.Loc.begin0 w39) ?_)
          intro b15 w40 hL31 hS18
          have hN11 : NewOwn w39 w40 [some b15] [zac [(zad none 0 0), (zaa false), (zad none 0 0)]] := hL31.newOwn [0] rfl rfl rfl
          exact zcn hL31.done hZ18 hN11 (fun _ h => h) ⟨b15, rfl, hN11.2.2.1, trivial⟩
         intro z8
         refine zco ?_
         rintro w41 Z19 hE34 hZ19 ⟨⟨⟨b15, rfl, hO10, -⟩, hB8⟩, ⟨⟨v19, v20, rfl, k19, k20, -⟩, hB7⟩, ⟨⟨v18, rfl, k18, -⟩, hB6⟩, ⟨⟨v17, rfl, k17, -⟩, hB5⟩, ⟨⟨v16, rfl, k16, -⟩, hB4⟩, -⟩ ap10
         have hB10 : ∀ b, some b ∈ ([some b15] : List (Option Nat)) → w26.heap.size ≤ b ∧ ¬ Z19 b := by
          intro b hb
          rcases List.mem_cons.1 hb with hb' | hb
          ·
           have := hB8 b (by rw [hb']; exact zax); exact ⟨this.1, this.2.2⟩
          cases hb
         replace k19 := k19.mono (zdc hL28 hZ19 hB10)
         replace k20 := k20.mono (zdc hL28 hZ19 hB10)
         replace k18 := k18.mono (zdc hL28 hZ19 hB10)
         replace k17 := k17.mono (zdc hL28 hZ19 hB10)
         replace k16 := k16.mono (zdc hL28 hZ19 hB10)
         have hN12 : NewOwn w26 w41 [some b15] [zac [(zad none 0 0), (zaa false), (zad none 0 0)]] := (zda zcb hO10 (fun b hb => (hB10 b (by rw [← hb]; simp)).1) (fun b _ hb => by cases hb))
         have hp13 := hL28.adoptL hE34 hN12
         have hL32 := hp13.1
         have K30 := ks w hp13.2
         refine zcc (zbn (vs := [v19, (zaa r17.Bound.Negative), v20]) ti34 rfl rfl rfl rfl (zds k19.one (zds rfl (zds k20.one zdw))) hL32 0 rfl rfl (zae rfl) ?_)
         intro w42 (hL33 : vL w w42 [some b15, some b14, some b1, ob11] [zac [v19, (zaa r17.Bound.Negative), v20], zac [p_v1, (zaa p.Bound.Negative), p_v2], zac [p_v, p_v1, (zaa p.Bound.Negative), p_v2, p_v3], zac ([] ++ (cs11 ++ sp11))]) hS19
         have K31 := ks w hS19
         refine zan (zaj (zah rfl (zaf (zai (v := (osv ob11 0 e10.length cap11)) rfl ?_))))
         have f33 := (((((((hE17.mono (K23 S)).mono (K24 S)).mono (K25 S)).mono (K26 S)).mono (K27 S)).mono (K30 S)).mono (K31 S))
         have f34 := hL33.freezeRow 3 rfl rfl f33 rfl rfl rfl hc17
         have hp14 := hL33.pick [0, 1, 2] rfl rfl rfl
         have hL34 : vL w w42 [some b15, some b14, some b1] [zac [v19, (zaa r17.Bound.Negative), v20], zac [p_v1, (zaa p.Bound.Negative), p_v2], zac [p_v, p_v1, (zaa p.Bound.Negative), p_v2, p_v3]] := hp14.1
         have K32 := ks w hp14.2
         obtain ⟨r18, q28, h⟩ := zdo h
         refine zaf (zaw en59 rfl rfl (clipIneq_w N e10 (osv ob11 0 e10.length cap11) _ _ (f34.mono Hv.enter) r18 q28) ?_)
         rintro _ w43 hE35 ⟨v21, rfl, k21, cl10, -⟩
         replace k21 := k21.mono (Hv.aliasO (S := S) hL34 [])
         have hL35 := hL34.ext hE35
         have K33 := ke hL34 hE35
         refine zaf (zak (v := v21) rfl ?_)
         refine zan (zaj ?_)
         obtain ⟨x14, q29, h⟩ := zdo h
         obtain ⟨q30, q31, q32⟩ := zeb q29
         obtain ⟨x15, q33, h⟩ := zdo h
         obtain ⟨n11, q34, q35⟩ := zdu q33
         have f35 := (((((((((f27.mono (K23 S)).mono (K24 S)).mono (K25 S)).mono (K26 S)).mono (K27 S)).mono (K30 S)).mono (K31 S)).mono (K32 S)).mono (K33 S))
         obtain ⟨b16, o11, c11, vs11, q36, q37, f36, q38⟩ := zcw f35 q35
         obtain ⟨v22, v23, v24, v25, rfl, k22, k23, k24, k25, -⟩ := rProof_open q38
         obtain ⟨r19, q39, h⟩ := zdo h
         by_cases hc22 : r19 = true
         ·
          replace h := ite_t hc22 h
          obtain ⟨x16, q40, h⟩ := zdo h
          obtain ⟨q41, q42, q43⟩ := zeb q40
          obtain ⟨x17, q44, h⟩ := zdo h
          obtain ⟨n12, q45, q46⟩ := zdu q44
          obtain ⟨b17, o12, c12, vs12, q47, q48, f37, q49⟩ := zcw f35 q46
          obtain ⟨v26, v27, v28, v29, rfl, k26, k27, k28, k29, -⟩ := rProof_open q49
          refine zcf 18 [] [] (fun W1 => [.det v21, .det (zap #[p_v1, (zaa p.Bound.Negative), p_v2]), .rel (fun v Z w' => ∃ b18 cs14, (osv (some b18) 0 1 1) = v ∧ OwnC w' (some b18) (zac ([] ++ (cs14 ++ []))) ∧ Els rIneq (vZ W1 w S [some b15, some b14, some b1] Z w') cs14 [(Ineq.mk p.Form p.Bound)] ∧ (cs14 ++ [] : List Value).length = 1 * rIneq.sz ∧ True) footV, .rel (fun v Z w' => ∃ b19 cap14 cs15 sp14, (osv (some b19) 0 x14.length cap14) = v ∧ OwnC w' (some b19) (zac ([] ++ (cs15 ++ sp14))) ∧ Els rIneq (vZ W1 w S [some b15, some b14, some b1] Z w') cs15 x14 ∧ (cs15 ++ sp14 : List Value).length = cap14 * rIneq.sz ∧ True) footV, .det (zao (some ⟨b1, 4, none⟩)), .det p_v3, .det (zao (some ⟨b16, (o11 + n11 * rProof.sz), none⟩)), .det (zap #[v22, v23, (zaa x15.Bound.Negative), v24, v25]), .det (zaa r19), .det (zaa r19), .det v21, .det (zap #[v19, (zaa r17.Bound.Negative), v20]), .rel (fun v Z w' => ∃ b20 cs16, (osv (some b20) 0 1 1) = v ∧ OwnC w' (some b20) (zac ([] ++ (cs16 ++ []))) ∧ Els rIneq (vZ W1 w None [some b15, some b14, some b1] Z w') cs16 [r17] ∧ (cs16 ++ [] : List Value).length = 1 * rIneq.sz ∧ True) footV, .rel (fun v Z w' => ∃ b21 cap15 cs17 sp15, (osv (some b21) 0 x16.length cap15) = v ∧ OwnC w' (some b21) (zac ([] ++ (cs17 ++ sp15))) ∧ Els rIneq (vZ W1 w S [some b15, some b14, some b1] Z w') cs17 x16 ∧ (cs17 ++ sp15 : List Value).length = cap15 * rIneq.sz ∧ True) footV, .det (zao (some ⟨b1, 4, none⟩)), .det p_v3, .det (zao (some ⟨b17, (o12 + n12 * rProof.sz), none⟩)), .det (zap #[v26, v27, (zaa x17.Bound.Negative), v28, v29])]) mixed rfl rfl rfl (fun _ => rfl) (fun _ => rfl) ?_ ?_
          ·
           intro W1 _
           exact ⟨fun v Z Z' w w' hΦ hz _ _ hs => by obtain ⟨b18, cs14, rfl, hO11, hE36, hc23, -⟩ := hΦ; exact ⟨b18, cs14, rfl, (hO11.stay (fun b hb => by cases hb; exact zax) hs), (hE36.mono (zcs hz hs)), hc23, trivial⟩, ⟨fun v Z Z' w w' hΦ hz _ _ hs => by obtain ⟨b19, cap14, cs15, sp14, rfl, hO12, hE37, hc24, -⟩ := hΦ; exact ⟨b19, cap14, cs15, sp14, rfl, (hO12.stay (fun b hb => by cases hb; exact zax) hs), (hE37.mono (zcs hz hs)), hc24, trivial⟩, ⟨fun v Z Z' w w' hΦ hz _ _ hs => by obtain ⟨b20, cs16, rfl, hO13, hE38, hc25, -⟩ := hΦ; exact ⟨b20, cs16, rfl, (hO13.stay (fun b hb => by cases hb; exact zax) hs), (hE38.mono (zcs hz hs)), hc25, trivial⟩, ⟨fun v Z Z' w w' hΦ hz _ _ hs => by obtain ⟨b21, cap15, cs17, sp15, rfl, hO14, hE39, hc26, -⟩ := hΦ; exact ⟨b21, cap15, cs17, sp15, rfl, (hO14.stay (fun b hb => by cases hb; exact zax) hs), (hE39.mono (zcs hz hs)), hc26, trivial⟩, trivial⟩⟩⟩⟩
          ·
           intro w44 hE40
           have hL36 := hL35.ext hE40
           have K34 := ke hL35 hE40
           refine zau (fun _ _ => zav (zai rfl (er rfl))) ?_
           refine zau (fun _ hE42 => zav (zbm (vs := [p_v1, (zaa p.Bound.Negative), p_v2]) zbg rfl ti34 rfl ((hL36.ext hE42).at 1 rfl rfl) rfl rfl (er rfl))) ?_
           refine zct ?_ ?_
           ·
            rintro w47 Z22 hE43 hZ22 ⟨-⟩
            have hE44 : Els rIneq (vZ w44 w S [some b15, some b14, some b1] Z22 w47) [p_v1, (zaa p.Bound.Negative), p_v2] [(Ineq.mk p.Form p.Bound)] := (zcg (a := [p_v1, (zaa p.Bound.Negative), p_v2]) (rIneq_close ⟨p_v1, p_v2, rfl, ((((((((f32.mono (K26 S)).mono (K27 S)).mono (K30 S)).mono (K31 S)).mono (K32 S)).mono (K33 S)).mono (K34 S)).mono (Zv.old (Z := Z22) hE43)), ((((((((f31.mono (K26 S)).mono (K27 S)).mono (K30 S)).mono (K31 S)).mono (K32 S)).mono (K33 S)).mono (K34 S)).mono (Zv.old (Z := Z22) hE43)), trivial⟩) zcp)
            refine zav (zch (r := rIneq) (vs := [(zap #[p_v1, (zaa p.Bound.Negative), p_v2])]) (css := [[p_v1, (zaa p.Bound.Negative), p_v2]]) (xs := [(Ineq.mk p.Form p.Bound)]) zbl ti34 (zae rfl) rfl rfl ⟨rfl, rfl, trivial⟩ (zae rfl) hE44 rfl (Go.X.Loc.begin0 w47) ?_)
            intro b18 w48 hc27 hL38 hS20
            have hN13 : NewOwn w47 w48 [some b18] [zac ([] ++ ([p_v1, (zaa p.Bound.Negative), p_v2] ++ []))] := hL38.newOwn [0] rfl rfl rfl
            exact zcn hL38.done hZ22 hN13 (fun _ h => h) ⟨b18, [p_v1, (zaa p.Bound.Negative), p_v2], rfl, hN13.2.2.1, (hE44.mono (Zv.grow hL38.done)), hc27, trivial⟩
           intro z2
           refine zct ?_ ?_
           ·
            rintro w49 Z23 hE45 hZ23 ⟨⟨⟨b18, cs14, rfl, hO11, hE36, hc23, -⟩, hB2⟩, -⟩
            refine zav (OpY.apClip (r := rIneq) (v := v21) (xs := r18) (ys := [(Ineq.mk p.Form p.Bound)]) (Y := x14) zbl ti34 rfl rfl rfl rfl ((k21.mono (K34 S)).mono (Zv.old (Z := Z23) hE45)) cl10 (Src.row (pre := []) (o := 0) (n := 1) (cap := 1) hO11 hE36 rfl rfl rfl) hE36 (zae rfl) q30 q31 q32 (Go.X.Loc.begin0 w49) ?_)
            intro b19 cap14 sp14 cs15 w50 hE37 hc24 hL39 hS21
            have hN14 : NewOwn w49 w50 [some b19] [zac ([] ++ (cs15 ++ sp14))] := hL39.newOwn [0] rfl rfl rfl
            exact zcn hL39.done hZ23 hN14 (fun _ h => h) ⟨b19, cap14, cs15, sp14, rfl, hN14.2.2.1, (hE37.mono (Zv.grow hL39.done)), hc24, trivial⟩
           intro z3
           refine zau (fun _ _ => zav (zas zbi rfl ti40 rfl rfl rfl (er rfl))) ?_
           refine zau (fun _ hE47 => zav (zaz zcd rfl rfl ((hL36.ext hE47).at 2 rfl rfl) rfl (er rfl))) ?_
           refine zau (fun _ _ => zav (zbw (r := rProof) (v := p_v3) (n := n11) (m := (o11 + n11 * rProof.sz)) zcd ti42 rfl q36 rfl q34 q35 rfl (er rfl))) ?_
           refine zau (fun _ hE49 => zav (zdh (vs := [v22, v23, (zaa x15.Bound.Negative), v24, v25]) zbi rfl ti42 rfl rfl zdy (zcz ((ke hL36 hE49) S) (zcz (K34 S) f36)) (er rfl))) ?_
           refine DrH.det ?_ ?_
           ·
            rintro w55 Z28 hE50 hZ28 ⟨⟨⟨b19, cap14, cs15, sp14, rfl, hO12, hE37, hc24, -⟩, hB3⟩, -, -⟩
            have K36 := ke hL36 hE50
            refine zav (zaw en18 rfl rfl (ih x14 x15 (osv (some b19) 0 x14.length cap14) v22 v23 v24 v25 _ Any (zdv (pre := []) (o := 0) (n := x14.length) (cap := cap14) hO12 hE37 vw_any rfl rfl rfl hc24) (((k22.mono (K34 S)).mono (K36 S)).mono vw_any) (((k23.mono (K34 S)).mono (K36 S)).mono vw_any) (((k24.mono (K34 S)).mono (K36 S)).mono vw_any) (((k25.mono (K34 S)).mono (K36 S)).mono vw_any) r19 q39) ?_)
            rintro _ w56 hE51 ⟨rfl, -⟩
            exact ⟨hE51, rfl⟩
           refine zau (fun _ _ => zav (zai rfl (er rfl))) ?_
           refine zau (fun _ _ => zdg rfl rfl hc22 (zai rfl (er rfl))) ?_
           refine zau (fun _ hE54 => zdg rfl rfl hc22 (zbm (vs := [v19, (zaa r17.Bound.Negative), v20]) zbg rfl ti34 rfl ((hL36.ext hE54).at 0 rfl rfl) rfl rfl (er rfl))) ?_
           refine zct ?_ ?_
           ·
            rintro w60 Z32 hE55 hZ32 ⟨-, -, -⟩
            have hE56 : Els rIneq (vZ w44 w None [some b15, some b14, some b1] Z32 w60) [v19, (zaa r17.Bound.Negative), v20] [r17] := (zcg (a := [v19, (zaa r17.Bound.Negative), v20]) (rIneq_close ⟨v19, v20, rfl, (((((k19.mono (K31 None)).mono (K32 None)).mono (K33 None)).mono (K34 None)).mono (Zv.old (Z := Z32) hE55)), (((((k20.mono (K31 None)).mono (K32 None)).mono (K33 None)).mono (K34 None)).mono (Zv.old (Z := Z32) hE55)), trivial⟩) zcp)
            refine zdg rfl rfl hc22 (zch (r := rIneq) (vs := [(zap #[v19, (zaa r17.Bound.Negative), v20])]) (css := [[v19, (zaa r17.Bound.Negative), v20]]) (xs := [r17]) zbl ti34 (zae rfl) rfl rfl ⟨rfl, rfl, trivial⟩ (zae rfl) hE56 rfl (Go.X.Loc.begin0 w60) ?_)
            intro b20 w61 hc28 hL42 hS22
            have hN15 : NewOwn w60 w61 [some b20] [zac ([] ++ ([v19, (zaa r17.Bound.Negative), v20] ++ []))] := hL42.newOwn [0] rfl rfl rfl
            exact zcn hL42.done hZ32 hN15 (fun _ h => h) ⟨b20, [v19, (zaa r17.Bound.Negative), v20], rfl, hN15.2.2.1, (hE56.mono (Zv.grow hL42.done)), hc28, trivial⟩
           intro z10
           refine zct ?_ ?_
           ·
            rintro w62 Z33 hE57 hZ33 ⟨⟨⟨b20, cs16, rfl, hO13, hE38, hc25, -⟩, hB11⟩, -, -, -⟩
            refine zdg rfl rfl hc22 (OpY.apClip (r := rIneq) (v := v21) (xs := r18) (ys := [r17]) (Y := x16) zbl ti34 rfl rfl rfl rfl ((k21.mono (K34 S)).mono (Zv.old (Z := Z33) hE57)) cl10 (Src.row (pre := []) (o := 0) (n := 1) (cap := 1) hO13 (hE38.mono (Zv.none (S := S))) rfl rfl rfl) (hE38.mono (Zv.none (S := S))) (zae rfl) q41 q42 q43 (Go.X.Loc.begin0 w62) ?_)
            intro b21 cap15 sp15 cs17 w63 hE39 hc26 hL43 hS23
            have hN16 : NewOwn w62 w63 [some b21] [zac ([] ++ (cs17 ++ sp15))] := hL43.newOwn [0] rfl rfl rfl
            exact zcn hL43.done hZ33 hN16 (fun _ h => h) ⟨b21, cap15, cs17, sp15, rfl, hN16.2.2.1, (hE39.mono (Zv.grow hL43.done)), hc26, trivial⟩
           intro z11
           refine zau (fun _ _ => zdg rfl rfl hc22 (zas zbi rfl ti40 rfl rfl rfl (er rfl))) ?_
           refine zau (fun _ hE59 => zdg rfl rfl hc22 (zaz zcd rfl rfl ((hL36.ext hE59).at 2 rfl rfl) rfl (er rfl))) ?_
           refine zau (fun _ _ => zdg rfl rfl hc22 (zbw (r := rProof) (v := p_v3) (n := n12) (m := (o12 + n12 * rProof.sz)) zcd ti42 rfl q47 rfl q45 q46 rfl (er rfl))) ?_
           refine zau (fun _ hE61 => zdg rfl rfl hc22 (zdh (vs := [v26, v27, (zaa x17.Bound.Negative), v28, v29]) zbi rfl ti42 rfl rfl zdy (zcz ((ke hL36 hE61) S) (zcz (K34 S) f37)) (er rfl))) ?_
           refine zco ?_
           rintro w68 Z38 hE62 hZ38 ⟨⟨⟨b21, cap15, cs17, sp15, rfl, hO14, hE39, hc26, -⟩, hB12⟩, ⟨⟨b20, cs16, rfl, hO13, hE38, hc25, -⟩, hB11⟩, ⟨⟨b19, cap14, cs15, sp14, rfl, hO12, hE37, hc24, -⟩, hB3⟩, ⟨⟨b18, cs14, rfl, hO11, hE36, hc23, -⟩, hB2⟩, -⟩ ap11
           have hB13 : ∀ b, some b ∈ ([some b21, some b20, some b19, some b18] : List (Option Nat)) → w44.heap.size ≤ b ∧ ¬ Z38 b := by
            intro b hb
            rcases List.mem_cons.1 hb with hb' | hb
            ·
             have := hB12 b (by rw [hb']; exact zax); exact ⟨this.1, this.2.2⟩
            rcases List.mem_cons.1 hb with hb' | hb
            ·
             have := hB11 b (by rw [hb']; exact zax); exact ⟨this.1, this.2.2⟩
            rcases List.mem_cons.1 hb with hb' | hb
            ·
             have := hB3 b (by rw [hb']; exact zax); exact ⟨this.1, this.2.2⟩
            rcases List.mem_cons.1 hb with hb' | hb
            ·
             have := hB2 b (by rw [hb']; exact zax); exact ⟨this.1, this.2.2⟩
            cases hb
           replace hE39 := hE39.mono (zdc hL36 hZ38 hB13)
           replace hE38 := hE38.mono (zdc hL36 hZ38 hB13)
           replace hE37 := hE37.mono (zdc hL36 hZ38 hB13)
           replace hE36 := hE36.mono (zdc hL36 hZ38 hB13)
           have hN17 : NewOwn w44 w68 [some b21, some b20, some b19, some b18] [zac ([] ++ (cs17 ++ sp15)), zac ([] ++ (cs16 ++ [])), zac ([] ++ (cs15 ++ sp14)), zac ([] ++ (cs14 ++ []))] := (zda (zda (zda (zda zcb hO11 (fun b hb => (hB13 b (by rw [← hb]; simp)).1) (fun b _ hb => by cases hb)) hO12 (fun b hb => (hB13 b (by rw [← hb]; simp)).1) (fun b hb hm => (List.mem_cons.1 hm).elim (fun e => apE (ap11.2.2.1) rfl rfl b ((zdx (ob := (some b19)) (o := 0) (n := x14.length) (cap := cap14)).2 hb) ((zdx (ob := (some b18)) (o := 0) (n := 1) (cap := 1)).2 (by rw [e]; exact zax))) (fun hm => by cases hm))) hO13 (fun b hb => (hB13 b (by rw [← hb]; simp)).1) (fun b hb hm => (List.mem_cons.1 hm).elim (fun e => apE (ap11.2.1) rfl rfl b ((zdx (ob := (some b20)) (o := 0) (n := 1) (cap := 1)).2 hb) ((zdx (ob := (some b19)) (o := 0) (n := x14.length) (cap := cap14)).2 (by rw [e]; exact zax))) (fun hm => (List.mem_cons.1 hm).elim (fun e => apE (ap11.2.1.2) rfl rfl b ((zdx (ob := (some b20)) (o := 0) (n := 1) (cap := 1)).2 hb) ((zdx (ob := (some b18)) (o := 0) (n := 1) (cap := 1)).2 (by rw [e]; exact zax))) (fun hm => by cases hm)))) hO14 (fun b hb => (hB13 b (by rw [← hb]; simp)).1) (fun b hb hm => (List.mem_cons.1 hm).elim (fun e => apE (ap11.1) rfl rfl b ((zdx (ob := (some b21)) (o := 0) (n := x16.length) (cap := cap15)).2 hb) ((zdx (ob := (some b20)) (o := 0) (n := 1) (cap := 1)).2 (by rw [e]; exact zax))) (fun hm => (List.mem_cons.1 hm).elim (fun e => apE (ap11.1.2) rfl rfl b ((zdx (ob := (some b21)) (o := 0) (n := x16.length) (cap := cap15)).2 hb) ((zdx (ob := (some b19)) (o := 0) (n := x14.length) (cap := cap14)).2 (by rw [e]; exact zax))) (fun hm => (List.mem_cons.1 hm).elim (fun e => apE (ap11.1.2.2) rfl rfl b ((zdx (ob := (some b21)) (o := 0) (n := x16.length) (cap := cap15)).2 hb) ((zdx (ob := (some b18)) (o := 0) (n := 1) (cap := 1)).2 (by rw [e]; exact zax))) (fun hm => by cases hm)))))
           have hp15 := hL36.adoptL hE62 hN17
           have hL45 := hp15.1
           have K38 := ks w hp15.2
           obtain ⟨r20, q50, h⟩ := zdo h
           have f38 := ((k26.mono (K34 S)).mono (K38 S))
           have f39 := ((k27.mono (K34 S)).mono (K38 S))
           have f40 := ((k28.mono (K34 S)).mono (K38 S))
           have f41 := ((k29.mono (K34 S)).mono (K38 S))
           refine zbu rfl rfl hc22 (zaw en18 rfl rfl (ih x16 x17 (osv (some b21) 0 x16.length cap15) v26 v27 v28 v29 _ Any (zdv (pre := []) (o := 0) (n := x16.length) (cap := cap15) (hL45.at 0 rfl rfl) hE39 vw_any rfl rfl rfl hc26) (f38.mono vw_any) (f39.mono vw_any) (f40.mono vw_any) (f41.mono vw_any) r20 q50) ?_)
           rintro _ w69 hE63 ⟨rfl, -⟩
           have hL46 := hL45.ext hE63
           refine zaf (zci (t := r19) (v := (zaa r20)) rfl hc22 rfl ?_)
           refine zaf (zak (v := (zaa r20)) rfl ?_)
           refine zan (zbj ?_)
           obtain rfl := zag h
           refine ⟨[(zaa r20)], ⟨rfl, trivial⟩, ⟨_, rfl, hL46.done, ?_⟩⟩
           exact ⟨rfl, trivial⟩
         ·
          replace h := ite_f hc22 h
          refine zcf 18 [] [] (fun W1 => [.det v21, .det (zap #[p_v1, (zaa p.Bound.Negative), p_v2]), .rel (fun v Z w' => ∃ b18 cs14, (osv (some b18) 0 1 1) = v ∧ OwnC w' (some b18) (zac ([] ++ (cs14 ++ []))) ∧ Els rIneq (vZ W1 w S [some b15, some b14, some b1] Z w') cs14 [(Ineq.mk p.Form p.Bound)] ∧ (cs14 ++ [] : List Value).length = 1 * rIneq.sz ∧ True) footV, .rel (fun v Z w' => ∃ b19 cap14 cs15 sp14, (osv (some b19) 0 x14.length cap14) = v ∧ OwnC w' (some b19) (zac ([] ++ (cs15 ++ sp14))) ∧ Els rIneq (vZ W1 w S [some b15, some b14, some b1] Z w') cs15 x14 ∧ (cs15 ++ sp14 : List Value).length = cap14 * rIneq.sz ∧ True) footV, .det (zao (some ⟨b1, 4, none⟩)), .det p_v3, .det (zao (some ⟨b16, (o11 + n11 * rProof.sz), none⟩)), .det (zap #[v22, v23, (zaa x15.Bound.Negative), v24, v25]), .det (zaa r19), .det (zaa r19), .det undef, .det undef, .det undef, .det undef, .det undef, .det undef, .det undef, .det undef]) mixed rfl rfl rfl (fun _ => rfl) (fun _ => rfl) ?_ ?_
          ·
           intro W1 _
           exact ⟨fun v Z Z' w w' hΦ hz _ _ hs => by obtain ⟨b18, cs14, rfl, hO11, hE36, hc23, -⟩ := hΦ; exact ⟨b18, cs14, rfl, (hO11.stay (fun b hb => by cases hb; exact zax) hs), (hE36.mono (zcs hz hs)), hc23, trivial⟩, ⟨fun v Z Z' w w' hΦ hz _ _ hs => by obtain ⟨b19, cap14, cs15, sp14, rfl, hO12, hE37, hc24, -⟩ := hΦ; exact ⟨b19, cap14, cs15, sp14, rfl, (hO12.stay (fun b hb => by cases hb; exact zax) hs), (hE37.mono (zcs hz hs)), hc24, trivial⟩, trivial⟩⟩
          ·
           intro w70 hE64
           have hL47 := hL35.ext hE64
           have K39 := ke hL35 hE64
           refine zau (fun _ _ => zav (zai rfl (er rfl))) ?_
           refine zau (fun _ hE66 => zav (zbm (vs := [p_v1, (zaa p.Bound.Negative), p_v2]) zbg rfl ti34 rfl ((hL47.ext hE66).at 1 rfl rfl) rfl rfl (er rfl))) ?_
           refine zct ?_ ?_
           ·
            rintro w73 Z41 hE67 hZ41 ⟨-⟩
            have hE44 : Els rIneq (vZ w70 w S [some b15, some b14, some b1] Z41 w73) [p_v1, (zaa p.Bound.Negative), p_v2] [(Ineq.mk p.Form p.Bound)] := (zcg (a := [p_v1, (zaa p.Bound.Negative), p_v2]) (rIneq_close ⟨p_v1, p_v2, rfl, ((((((((f32.mono (K26 S)).mono (K27 S)).mono (K30 S)).mono (K31 S)).mono (K32 S)).mono (K33 S)).mono (K39 S)).mono (Zv.old (Z := Z41) hE67)), ((((((((f31.mono (K26 S)).mono (K27 S)).mono (K30 S)).mono (K31 S)).mono (K32 S)).mono (K33 S)).mono (K39 S)).mono (Zv.old (Z := Z41) hE67)), trivial⟩) zcp)
            refine zav (zch (r := rIneq) (vs := [(zap #[p_v1, (zaa p.Bound.Negative), p_v2])]) (css := [[p_v1, (zaa p.Bound.Negative), p_v2]]) (xs := [(Ineq.mk p.Form p.Bound)]) zbl ti34 (zae rfl) rfl rfl ⟨rfl, rfl, trivial⟩ (zae rfl) hE44 rfl (Go.X.Loc.begin0 w73) ?_)
            intro b18 w74 hc27 hL49 hS24
            have hN18 : NewOwn w73 w74 [some b18] [zac ([] ++ ([p_v1, (zaa p.Bound.Negative), p_v2] ++ []))] := hL49.newOwn [0] rfl rfl rfl
            exact zcn hL49.done hZ41 hN18 (fun _ h => h) ⟨b18, [p_v1, (zaa p.Bound.Negative), p_v2], rfl, hN18.2.2.1, (hE44.mono (Zv.grow hL49.done)), hc27, trivial⟩
           intro z2
           refine zct ?_ ?_
           ·
            rintro w75 Z42 hE68 hZ42 ⟨⟨⟨b18, cs14, rfl, hO11, hE36, hc23, -⟩, hB2⟩, -⟩
            refine zav (OpY.apClip (r := rIneq) (v := v21) (xs := r18) (ys := [(Ineq.mk p.Form p.Bound)]) (Y := x14) zbl ti34 rfl rfl rfl rfl ((k21.mono (K39 S)).mono (Zv.old (Z := Z42) hE68)) cl10 (Src.row (pre := []) (o := 0) (n := 1) (cap := 1) hO11 hE36 rfl rfl rfl) hE36 (zae rfl) q30 q31 q32 (Go.X.Loc.begin0 w75) ?_)
            intro b19 cap14 sp14 cs15 w76 hE37 hc24 hL50 hS25
            have hN19 : NewOwn w75 w76 [some b19] [zac ([] ++ (cs15 ++ sp14))] := hL50.newOwn [0] rfl rfl rfl
            exact zcn hL50.done hZ42 hN19 (fun _ h => h) ⟨b19, cap14, cs15, sp14, rfl, hN19.2.2.1, (hE37.mono (Zv.grow hL50.done)), hc24, trivial⟩
           intro z3
           refine zau (fun _ _ => zav (zas zbi rfl ti40 rfl rfl rfl (er rfl))) ?_
           refine zau (fun _ hE70 => zav (zaz zcd rfl rfl ((hL47.ext hE70).at 2 rfl rfl) rfl (er rfl))) ?_
           refine zau (fun _ _ => zav (zbw (r := rProof) (v := p_v3) (n := n11) (m := (o11 + n11 * rProof.sz)) zcd ti42 rfl q36 rfl q34 q35 rfl (er rfl))) ?_
           refine zau (fun _ hE72 => zav (zdh (vs := [v22, v23, (zaa x15.Bound.Negative), v24, v25]) zbi rfl ti42 rfl rfl zdy (zcz ((ke hL47 hE72) S) (zcz (K39 S) f36)) (er rfl))) ?_
           refine DrH.det ?_ ?_
           ·
            rintro w81 Z47 hE73 hZ47 ⟨⟨⟨b19, cap14, cs15, sp14, rfl, hO12, hE37, hc24, -⟩, hB3⟩, -, -⟩
            have K41 := ke hL47 hE73
            refine zav (zaw en18 rfl rfl (ih x14 x15 (osv (some b19) 0 x14.length cap14) v22 v23 v24 v25 _ Any (zdv (pre := []) (o := 0) (n := x14.length) (cap := cap14) hO12 hE37 vw_any rfl rfl rfl hc24) (((k22.mono (K39 S)).mono (K41 S)).mono vw_any) (((k23.mono (K39 S)).mono (K41 S)).mono vw_any) (((k24.mono (K39 S)).mono (K41 S)).mono vw_any) (((k25.mono (K39 S)).mono (K41 S)).mono vw_any) r19 q39) ?_)
            rintro _ w82 hE74 ⟨rfl, -⟩
            exact ⟨hE74, rfl⟩
           refine zau (fun _ _ => zav (zai rfl (er rfl))) ?_
           refine zau (fun _ _ => zdl rfl rfl (zdp hc22) (er rfl)) ?_
           refine zau (fun _ _ => zdl rfl rfl (zdp hc22) (er rfl)) ?_
           refine zau (fun _ _ => zdl rfl rfl (zdp hc22) (er rfl)) ?_
           refine zau (fun _ _ => zdl rfl rfl (zdp hc22) (er rfl)) ?_
           refine zau (fun _ _ => zdl rfl rfl (zdp hc22) (er rfl)) ?_
           refine zau (fun _ _ => zdl rfl rfl (zdp hc22) (er rfl)) ?_
           refine zau (fun _ _ => zdl rfl rfl (zdp hc22) (er rfl)) ?_
           refine zau (fun _ _ => zdl rfl rfl (zdp hc22) (er rfl)) ?_
           refine zco ?_
           rintro w92 Z57 hE84 hZ57 ⟨⟨⟨b19, cap14, cs15, sp14, rfl, hO12, hE37, hc24, -⟩, hB3⟩, ⟨⟨b18, cs14, rfl, hO11, hE36, hc23, -⟩, hB2⟩, -⟩ ap12
           have hB14 : ∀ b, some b ∈ ([some b19, some b18] : List (Option Nat)) → w70.heap.size ≤ b ∧ ¬ Z57 b := by
            intro b hb
            rcases List.mem_cons.1 hb with hb' | hb
            ·
             have := hB3 b (by rw [hb']; exact zax); exact ⟨this.1, this.2.2⟩
            rcases List.mem_cons.1 hb with hb' | hb
            ·
             have := hB2 b (by rw [hb']; exact zax); exact ⟨this.1, this.2.2⟩
            cases hb
           replace hE37 := hE37.mono (zdc hL47 hZ57 hB14)
           replace hE36 := hE36.mono (zdc hL47 hZ57 hB14)
           have hN20 : NewOwn w70 w92 [some b19, some b18] [zac ([] ++ (cs15 ++ sp14)), zac ([] ++ (cs14 ++ []))] := (zda (zda zcb hO11 (fun b hb => (hB14 b (by rw [← hb]; simp)).1) (fun b _ hb => by cases hb)) hO12 (fun b hb => (hB14 b (by rw [← hb]; simp)).1) (fun b hb hm => (List.mem_cons.1 hm).elim (fun e => apE (ap12.1) rfl rfl b ((zdx (ob := (some b19)) (o := 0) (n := x14.length) (cap := cap14)).2 hb) ((zdx (ob := (some b18)) (o := 0) (n := 1) (cap := 1)).2 (by rw [e]; exact zax))) (fun hm => by cases hm)))
           have hp16 := hL47.adoptL hE84 hN20
           have hL52 := hp16.1
           refine zbq rfl rfl (zdp hc22) ?_
           refine zaf (zbx (t := r19) (v := (zaa false)) rfl (zdp hc22) rfl ?_)
           refine zaf (zak (v := (zaa false)) rfl ?_)
           refine zan (zbj ?_)
           obtain rfl := zag h
           refine ⟨[(zaa false)], ⟨rfl, trivial⟩, ⟨_, rfl, hL52.done, ?_⟩⟩
           exact ⟨rfl, trivial⟩
     ·
      replace h := ite_f hc19 h
      refine zaj (zah rfl (zaf (zak (v := (zaa false)) rfl ?_)))
      refine zan (zbj ?_)
      obtain rfl := zag h
      refine ⟨[(zaa false)], ⟨rfl, trivial⟩, ⟨_, rfl, hL22.done, ?_⟩⟩
      exact ⟨rfl, trivial⟩
theorem cSize_w (N : Nat) : ∀ (p : Proof) (p_v : Value) (p_v1 : Value) (p_v2 : Value) (p_v3 : Value) (w : World) (S : Nat → Prop) (p_h : Rs rStep (vH w S [] w) p_v p.Steps) (p_h1 : Rs rBig (vH w S [] w) p_v1 p.Form) (p_h2 : Rs (rInt .u32) (vH w S [] w) p_v2 p.Bound.Digits) (p_h3 : Rs rProof (vH w S [] w) p_v3 p.Children) (r : Int) (h : cSize N p = some r), Calls Try.prog 21 #[(zap #[p_v, p_v1, (zaa p.Bound.Negative), p_v2, p_v3])] w (Ret w (fun v w' => (zab .i64 r) = v ∧ True)) := by
 induction N with
 | zero => intro p p_v p_v1 p_v2 p_v3 w S p_h p_h1 p_h2 p_h3 r h; cases (show (none : Option Int) = some r from h)
 | succ N ih =>
  intro p p_v p_v1 p_v2 p_v3 w S p_h p_h1 p_h2 p_h3 r h
  replace h : cSize_step N (cSize N) p = some r := h
  unfold cSize_step at h
  have hL : vL w w [] [] := Go.X.Loc.begin0 w
  refine calls_of (l := [(zap #[p_v, p_v1, (zaa p.Bound.Negative), p_v2, p_v3])]) (rl := [.tmp 2]) (n := 28) Try.func21 rfl rfl rfl (zae rfl) ?_
  refine zaj (zah rfl (zaf (zde (cs := [p_v, p_v1, (zaa p.Bound.Negative), p_v2, p_v3]) rfl rfl hL ?_)))
  intro b1 w2 hL3 hS5
  have K4 := ks w hS5
  refine zaf (zak (v := (zab .i64 0)) rfl ?_)
  refine zan (zaj (zah rfl (zaf (zas (q := 0) zbi rfl ti39 rfl rfl rfl ?_))))
  refine zaf (zaz (v := p_v) zcu rfl rfl (hL3.at 0 rfl rfl) rfl ?_)
  have f6 := (p_h.mono (K4 S))
  refine zaf (zbd (v := p_v) zcu rfl f6 ?_)
  refine zaf (zak (v := (zab .i64 (p.Steps.length : Int))) rfl ?_)
  refine zan (zaj (zaj (zah rfl (zaf (zas (q := 4) zbi rfl ti40 rfl rfl rfl ?_)))))
  refine zaf (zaz (v := p_v3) zcd rfl rfl (hL3.at 0 rfl rfl) rfl ?_)
  have f7 := (p_h3.mono (K4 S))
  refine zaf (zbd (v := p_v3) zcd rfl f7 ?_)
  refine zaf (zdm (x := (p.Children.length : Int)) (y := 0) (((p.Children.length : Int) : Int) > 0) rfl rfl zbk ?_)
  refine zan ?_
  obtain ⟨s10, h, g10⟩ := zdo h
  refine zbr (fun e w' => ∃ (n10 : Int) (u : Env), n10 = s10 ∧ e = upds [(1, (zao (some ⟨b1, 0, none⟩))), (3, (zab .i64 n10))] u ∧ vL w w' [some b1] [zac [p_v, p_v1, (zaa p.Bound.Negative), p_v2, p_v3]] ∧ Keep w.heap.size [some b1] w2 [some b1] w' ∧ True) ?_ ?_
  ·
   refine zbe (((p.Children.length : Int) : Int) > 0) rfl (fun hc10 => ?_) (fun hc10 => ?_)
   ·
    replace h := ite_t hc10 h
    refine zah rfl (zaf (zai (v := (zab .i64 (p.Steps.length : Int))) rfl ?_))
    refine zaf (zby (x := (p.Steps.length : Int)) (y := 1) (z := (iw ((p.Steps.length : Int) + 1))) rfl rfl rfl ?_)
    refine zaf (zak (v := (zab .i64 (iw ((p.Steps.length : Int) + 1)))) rfl ?_)
    refine zan ?_
    obtain rfl := zag h
    refine zar ?_
    exact ⟨(iw ((p.Steps.length : Int) + 1)), _, rfl, (zdt ⟨rfl, rfl, trivial⟩), hL3, zbo, trivial⟩
   ·
    replace h := ite_f hc10 h
    refine zbf ?_
    obtain rfl := zag h
    refine zar ?_
    exact ⟨(p.Steps.length : Int), _, rfl, (zdt ⟨rfl, rfl, trivial⟩), hL3, zbo, trivial⟩
  ·
   rintro _ w10 ⟨n10, u, rfl, rfl, hL10, K10, -⟩
   replace h := g10
   try dsimp only at h
   refine zaj (zaj (zah rfl (zaf (zas (q := 4) zbi rfl ti40 rfl rfl rfl ?_))))
   refine zaf (zaz (v := p_v3) zcd rfl rfl (hL10.at 0 rfl rfl) rfl ?_)
   have f10 := (f7.mono (K10 S))
   refine zaf (zbd (v := p_v3) zcd rfl f10 ?_)
   refine zaf (zai (v := (zab .i64 0)) rfl ?_)
   refine zan ?_
   obtain ⟨s11, hl10, g11⟩ := zdo h
   refine zbr (fun e w' => ∃ (n11 : Int) (u : Env), n11 = s11 ∧ e = upds [(3, (zab .i64 n11))] u ∧ vL w w' [] [] ∧ Keep w.heap.size [some b1] w10 [] w' ∧ True) ?_ ?_
   ·
    refine zbh ?_
    have hp10 := hL10.pick [] rfl rfl rfl
    have hL11 : vL w w10 [] [] := hp10.1
    have K11 := ks w hp10.2
    refine zce hl10 (fun (ss : (Int × Int)) (e : Env) (w' : World) => match ss with | (n12, x10) => ∃ (u : Env), e = upds [(3, (zab .i64 n12)), (16, p_v3), (17, (zab .i64 (p.Children.length : Int))), (18, (zab .i64 x10))] u ∧ vL w w' [] [] ∧ Keep w.heap.size [some b1] w10 [] w' ∧ True) ⟨_, (zdt ⟨rfl, rfl, rfl, rfl, trivial⟩), hL11, K11, trivial⟩ ?_
    rintro ⟨n12, x10⟩ oo _ w11 ⟨u, rfl, hL12, K12, -⟩ h hd10
    rw [cSize_b1] at h
    refine zaj (zah rfl (zaf (zcj (x := x10) (y := (p.Children.length : Int)) ((x10 : Int) < (p.Children.length : Int)) rfl rfl zbk ?_)))
    refine zan (zaj ?_)
    refine zbe ((x10 : Int) < (p.Children.length : Int)) rfl (fun hc11 => ?_) (fun hc11 => ?_)
    ·
     replace h := ite_t hc11 h
     refine zbf (zaj (zbh (zaj (zah rfl ?_))))
     obtain ⟨x11, q10, h⟩ := zdo h
     obtain ⟨n13, q11, q12⟩ := zdu q10
     have f11 := (f10.mono (K12 S))
     obtain ⟨b10, o10, c10, vs10, q13, q14, f12, q15⟩ := zcw f11 q12
     obtain ⟨v10, v11, v12, v13, rfl, k10, k11, k12, k13, -⟩ := rProof_open q15
     refine zaf (zbw (r := rProof) (v := p_v3) (n := n13) (m := (o10 + n13 * rProof.sz)) zcd ti42 rfl q13 rfl q11 q12 rfl ?_)
     refine zaf (zdh (vs := [v10, v11, (zaa x11.Bound.Negative), v12, v13]) zbi rfl ti42 rfl rfl zdy f12 ?_)
     refine zaf (zca (cs := [(zad none 0 0), (zad none 0 0), (zaa false), (zad none 0 0), (zad none 0 0)]) ti42 rfl hL12 ?_)
     intro b11 w12 hL13 hS10
     have K13 := ks w hS10
     have f13 := (k13.mono (K13 S))
     have f14 := (k12.mono (K13 S))
     have f15 := (k11.mono (K13 S))
     have f16 := (k10.mono (K13 S))
     refine zcc (zbn (vs := [v10, v11, (zaa x11.Bound.Negative), v12, v13]) ti42 rfl rfl rfl rfl (zds f16.one (zds f15.one (zds rfl (zds f14.one (zds f13.one zdw))))) hL13 0 rfl rfl (zae rfl) ?_)
     intro w13 (hL14 : vL w w13 [some b11] [zac [v10, v11, (zaa x11.Bound.Negative), v12, v13]]) hS11
     have K14 := ks w hS11
     refine zan (zah rfl (zaf (zai (v := (zab .i64 n12)) rfl ?_)))
     refine zaf (zbm (vs := [v10, v11, (zaa x11.Bound.Negative), v12, v13]) zbi rfl ti42 rfl (hL14.at 0 rfl rfl) rfl rfl ?_)
     obtain ⟨r10, q16, h⟩ := zdo h
     have f17 := (f16.mono (K14 S))
     have f18 := (f15.mono (K14 S))
     have f19 := (f14.mono (K14 S))
     have f20 := (f13.mono (K14 S))
     refine zaf (zaw en21 rfl rfl (ih x11 v10 v11 v12 v13 _ Any (f17.mono vw_any) (f18.mono vw_any) (f19.mono vw_any) (f20.mono vw_any) r10 q16) ?_)
     rintro _ w14 hE10 ⟨rfl, -⟩
     have hL15 := hL14.ext hE10
     have K15 := ke hL14 hE10
     refine zaf (zby (x := n12) (y := r10) (z := (iw (n12 + r10))) rfl rfl rfl ?_)
     refine zaf (zak (v := (zab .i64 (iw (n12 + r10)))) rfl ?_)
     refine zan (zbt (zah rfl (zaf (zby (x := x10) (y := 1) (z := (iw (x10 + 1))) rfl rfl rfl ?_))))
     refine zaf (zai (v := (zab .i64 (iw (x10 + 1)))) rfl ?_)
     refine zan ?_
     have hp11 := hL15.pick [] rfl rfl rfl
     have hL16 : vL w w14 [] [] := hp11.1
     have K16 := ks w hp11.2
     obtain rfl := zag h
     refine zar ⟨((iw (n12 + r10)), (iw (x10 + 1))), rfl, ?_⟩
     exact ⟨_, (zdt ⟨rfl, rfl, rfl, rfl, trivial⟩), hL16, (zaq (zaq (zaq (zaq K12 K13) K14) K15) K16), trivial⟩
    ·
     replace h := ite_f hc11 h
     refine zcm rfl ?_
     obtain rfl := zag h
     obtain rfl := hd10 _ rfl
     replace h := g11
     try dsimp only at h
     skip
     refine zar ?_
     exact ⟨n12, _, rfl, (zdt ⟨rfl, trivial⟩), hL12, K12, trivial⟩
   ·
    rintro _ w15 ⟨n11, u, rfl, rfl, hL17, K17, -⟩
    replace h := g11
    try dsimp only at h
    refine zaj (zah rfl (zaf (zai (v := (zab .i64 n11)) rfl ?_)))
    refine zaf (zak (v := (zab .i64 n11)) rfl ?_)
    refine zan (zbj ?_)
    obtain rfl := zag h
    refine ⟨[(zab .i64 n11)], ⟨rfl, trivial⟩, ⟨_, rfl, hL17.done, ?_⟩⟩
    exact ⟨rfl, trivial⟩
theorem cSum_w (N : Nat) (uses : (List Use)) (uses_v : Value) (w : World) (S : Nat → Prop) (uses_h : Rs rUse (vH w S [] w) uses_v uses) (r : Proof) (h : cSum N uses = some r) :
  Calls Try.prog 20 #[uses_v] w (Ret w (fun v w' => ∃ (v0_0 : Value) (v0_1 : Value) (v0_2 : Value) (v0_3 : Value), (zap #[v0_0, v0_1, (zaa r.Bound.Negative), v0_2, v0_3]) = v ∧ Rs rStep (vH w None [] w') v0_0 r.Steps ∧ Rs rBig (vH w None [] w') v0_1 r.Form ∧ Rs (rInt .u32) (vH w None [] w') v0_2 r.Bound.Digits ∧ Rs rProof (vH w None [] w') v0_3 r.Children ∧ True)) := by
 unfold cSum at h
 have hL : vL w w [] [] := Go.X.Loc.begin0 w
 refine calls_of (l := [uses_v]) (rl := [.cell 2 42]) (n := 29) Try.func20 rfl rfl rfl (zae rfl) ?_
 refine zaj (zah rfl (zaf (zca (cs := [(zad none 0 0), (zad none 0 0), (zaa false), (zad none 0 0), (zad none 0 0)]) ti42 rfl hL ?_)))
 intro b1 w2 hL3 hS5
 have K4 := ks w hS5
 refine zan (zaj (zah rfl ?_))
 obtain ⟨r6, q7, h⟩ := zdo h
 refine zaf (zaw en58 rfl rfl (bOf_w N 1 _ Any r6 q7) ?_)
 rintro _ w10 hE10 ⟨v8, rfl, k9, -⟩
 replace k9 := k9.mono (zba (S := None) hL3 [])
 have hL10 := hL3.ext hE10
 have K10 := ke hL3 hE10
 refine zaf (zcy (zc := [(zad none 0 0), (zaa false), (zad none 0 0)]) (cs := [(zad none 0 0), (zaa r6.Negative), v8]) (is := [1]) (vs := [(zap #[(zaa r6.Negative), v8])]) (css := [[(zaa r6.Negative), v8]]) pl28 ti28 rfl rfl rfl ⟨rfl, trivial⟩ rfl ?_)
 refine zaf (zca (cs := [(zad none 0 0), (zaa false), (zad none 0 0)]) ti28 rfl hL10 ?_)
 intro b10 w11 hL11 hS10
 have K11 := ks w hS10
 have f10 := (k9.mono (K11 None))
 refine zcc (zbn (vs := [(zad none 0 0), (zaa r6.Negative), v8]) ti28 rfl rfl rfl rfl (zds rfl (zds rfl (zds f10.one zdw))) hL11 0 rfl rfl (zae rfl) ?_)
 intro w12 (hL12 : vL w w12 [some b10, some b1] [zac [(zad none 0 0), (zaa r6.Negative), v8], zac [(zad none 0 0), (zad none 0 0), (zaa false), (zad none 0 0), (zad none 0 0)]]) hS11
 have K12 := ks w hS11
 refine zan (zaj (zaj (zah rfl (zaf (zai (v := uses_v) rfl ?_)))))
 have f11 := ((((uses_h.mono (K4 S)).mono (K10 S)).mono (K11 S)).mono (K12 S))
 refine zaf (zbd (v := uses_v) zbz rfl f11 ?_)
 refine zaf (zai (v := (zab .i64 0)) rfl ?_)
 refine zan ?_
 obtain ⟨s10, hl10, g10⟩ := zdo h
 refine zbr (fun e w' => ∃ (uses10 : (List Use)) (ob10 : Option Nat) (cap10 : Nat) (sp10 : List Value) (cs10 : List Value) (ln10 : Nat) (u : Env), uses10 = s10 ∧ e = upds [(2, (zao (some ⟨b1, 0, none⟩))), (3, (zao (some ⟨b10, 0, none⟩)))] u ∧ vL w w' [some b1, some b10, ob10] [zac [(zad none 0 0), (zad none 0 0), (zaa false), (zad none 0 0), (zad none 0 0)], zac [(osv ob10 0 ln10 cap10), (zaa r6.Negative), v8], zac ([] ++ (cs10 ++ sp10))] ∧ Keep w.heap.size [some b10, some b1] w12 [some b1, some b10, ob10] w' ∧ Els rUse (vH w None [some b1, some b10, ob10] w') cs10 uses10 ∧ ln10 = List.length uses10 ∧ (cs10 ++ sp10).length = cap10 * rUse.sz ∧ True) ?_ ?_
 ·
  refine zbh ?_
  have hp10 := hL12.addNil
  have hL13 : vL w w12 [none, some b10, some b1] [zac ([] ++ ([] ++ [])), zac [(zad none 0 0), (zaa r6.Negative), v8], zac [(zad none 0 0), (zad none 0 0), (zaa false), (zad none 0 0), (zad none 0 0)]] := hp10.1
  have K13 := ks w hp10.2
  have hp11 := hL13.pick [2, 1, 0] rfl rfl rfl
  have hL14 : vL w w12 [some b1, some b10, none] [zac [(zad none 0 0), (zad none 0 0), (zaa false), (zad none 0 0), (zad none 0 0)], zac [(osv none 0 (List.length ([] : (List Use))) 0), (zaa r6.Negative), v8], zac ([] ++ ([] ++ []))] := hp11.1
  have K14 := ks w hp11.2
  have f12 := ((zcp (r := rUse)).mono (K14 None))
  refine zce hl10 (fun (ss : ((List Use) × Int)) (e : Env) (w' : World) => match ss with | (uses11, x10) => ∃ (ob11 : Option Nat) (cap11 : Nat) (sp11 : List Value) (cs11 : List Value) (ln11 : Nat) (u : Env), e = upds [(2, (zao (some ⟨b1, 0, none⟩))), (3, (zao (some ⟨b10, 0, none⟩))), (8, uses_v), (9, (zab .i64 (uses.length : Int))), (10, (zab .i64 x10))] u ∧ vL w w' [some b1, some b10, ob11] [zac [(zad none 0 0), (zad none 0 0), (zaa false), (zad none 0 0), (zad none 0 0)], zac [(osv ob11 0 ln11 cap11), (zaa r6.Negative), v8], zac ([] ++ (cs11 ++ sp11))] ∧ Keep w.heap.size [some b10, some b1] w12 [some b1, some b10, ob11] w' ∧ Els rUse (vH w None [some b1, some b10, ob11] w') cs11 uses11 ∧ ln11 = List.length uses11 ∧ (cs11 ++ sp11).length = cap11 * rUse.sz ∧ True) ⟨none, 0, [], [], (List.length ([] : (List Use))), _, (zdt ⟨rfl, rfl, rfl, rfl, rfl, trivial⟩), hL14, (zaq K13 K14), f12, rfl, (show ([] ++ [] : List Value).length = 0 * rUse.sz by simp), trivial⟩ ?_
  rintro ⟨uses11, x10⟩ oo _ w13 ⟨ob11, cap11, sp11, cs11, ln11, u, rfl, hL15, K15, hE11, rfl, hc10, -⟩ h hd10
  rw [cSum_b1] at h
  refine zaj (zah rfl (zaf (zcj (x := x10) (y := (uses.length : Int)) ((x10 : Int) < (uses.length : Int)) rfl rfl zbk ?_)))
  refine zan (zaj ?_)
  refine zbe ((x10 : Int) < (uses.length : Int)) rfl (fun hc11 => ?_) (fun hc11 => ?_)
  ·
   replace h := ite_t hc11 h
   refine zbf (zaj (zbh (zaj (zah rfl ?_))))
   obtain ⟨x11, q10, h⟩ := zdo h
   obtain ⟨n10, q11, q12⟩ := zdu q10
   have f13 := (f11.mono (K15 S))
   obtain ⟨b11, o10, c10, vs10, q13, q14, f14, q15⟩ := zcw f13 q12
   obtain ⟨v10, rfl, k10, -⟩ := rUse_open q15
   refine zaf (zbw (r := rUse) (v := uses_v) (n := n10) (m := (o10 + n10 * rUse.sz)) zbz ti50 rfl q13 rfl q11 q12 rfl ?_)
   refine zaf (zdh (vs := [(zab .i64 x11.Index), (zaa x11.N.Negative), v10]) zcv rfl ti50 rfl rfl zdy f14 ?_)
   refine zaf (zca (cs := [(zab .i64 0), (zaa false), (zad none 0 0)]) ti50 rfl hL15 ?_)
   intro b12 w14 hL16 hS12
   have K16 := ks w hS12
   have f15 := (k10.mono (K16 S))
   refine zcc (zbn (vs := [(zab .i64 x11.Index), (zaa x11.N.Negative), v10]) ti50 rfl rfl rfl rfl (zds rfl (zds rfl (zds f15.one zdw))) hL16 0 rfl rfl (zae rfl) ?_)
   intro w15 (hL17 : vL w w15 [some b12, some b1, some b10, ob11] [zac [(zab .i64 x11.Index), (zaa x11.N.Negative), v10], zac [(zad none 0 0), (zad none 0 0), (zaa false), (zad none 0 0), (zad none 0 0)], zac [(osv ob11 0 uses11.length cap11), (zaa r6.Negative), v8], zac ([] ++ (cs11 ++ sp11))]) hS13
   have K17 := ks w hS13
   refine zan ?_
   obtain ⟨r10, q16, h⟩ := zdo h
   refine zcf 9 [] [] (fun W1 => [.det (zao (some ⟨b10, 0, none⟩)), .det (osv ob11 0 uses11.length cap11), .det (zao (some ⟨b12, 0, none⟩)), .det (zab .i64 x11.Index), .det (zao (some ⟨b12, 1, none⟩)), .det (zap #[(zaa x11.N.Negative), v10]), .rel (fun v Z w' => ∃ v11, (zap #[(zaa r10.Negative), v11]) = v ∧ Rs (rInt .u32) (vZ W1 w None [some b12, some b1, some b10, ob11] Z w') v11 r10.Digits ∧ True) (fun _ => []), .rel (fun v Z w' => ∃ v12, (zap #[(zab .i64 x11.Index), (zaa r10.Negative), v12]) = v ∧ Rs (rInt .u32) (vZ W1 w None [some b12, some b1, some b10, ob11] Z w') v12 r10.Digits ∧ True) (fun _ => []), .rel (fun v Z w' => ∃ b13 cs12, (osv (some b13) 0 1 1) = v ∧ OwnC w' (some b13) (zac ([] ++ (cs12 ++ []))) ∧ Els rUse (vZ W1 w None [some b12, some b1, some b10, ob11] Z w') cs12 [(Use.mk x11.Index r10)] ∧ (cs12 ++ [] : List Value).length = 1 * rUse.sz ∧ True) footV]) mixed rfl rfl rfl (fun _ => rfl) (fun _ => rfl) ?_ ?_
   ·
    intro W1 _
    exact ⟨fun v Z Z' w w' hΦ hz _ _ hs => by obtain ⟨v11, rfl, k11, -⟩ := hΦ; exact ⟨v11, rfl, (k11.mono (zcs hz hs)), trivial⟩, ⟨fun v Z Z' w w' hΦ hz _ _ hs => by obtain ⟨v12, rfl, k12, -⟩ := hΦ; exact ⟨v12, rfl, (k12.mono (zcs hz hs)), trivial⟩, ⟨fun v Z Z' w w' hΦ hz _ _ hs => by obtain ⟨b13, cs12, rfl, hO10, hE12, hc12, -⟩ := hΦ; exact ⟨b13, cs12, rfl, (hO10.stay (fun b hb => by cases hb; exact zax) hs), (hE12.mono (zcs hz hs)), hc12, trivial⟩, trivial⟩⟩⟩
   ·
    intro w16 hE13
    have hL18 := hL17.ext hE13
    have K18 := ke hL17 hE13
    refine zau (fun _ _ => zav (zas zcq rfl ti23 rfl rfl rfl (er rfl))) ?_
    refine zau (fun _ hE15 => zav (zaz zbz rfl rfl ((hL18.ext hE15).at 2 rfl rfl) rfl (er rfl))) ?_
    refine zau (fun _ _ => zav (zas zcv rfl ti3 rfl rfl rfl (er rfl))) ?_
    refine zau (fun _ hE17 => zav (zaz zbv rfl rfl ((hL18.ext hE17).at 0 rfl rfl) rfl (er rfl))) ?_
    refine zau (fun _ _ => zav (zas zcv rfl ti26 rfl rfl rfl (er rfl))) ?_
    refine zau (fun _ hE19 => zav (zbm (vs := [(zaa x11.N.Negative), v10]) zam rfl ti26 rfl ((hL18.ext hE19).at 0 rfl rfl) rfl rfl (er rfl))) ?_
    refine zct ?_ ?_
    ·
     rintro w23 Z16 hE20 hZ16 ⟨-⟩
     have K19 := ke hL18 hE20
     refine zav (zaw en63 rfl rfl (bNormal_w N x11.N v10 _ Any ((((f15.mono (K17 S)).mono (K18 S)).mono (K19 S)).mono vw_any) r10 q16) ?_)
     rintro _ w24 hE21 ⟨v11, rfl, k11, -⟩
     exact zcn hE21 hZ16 zcb (fun _ h => h) ⟨v11, rfl, (k11.mono zdf), trivial⟩
    intro z6
    refine zct ?_ ?_
    ·
     rintro w25 Z17 hE22 hZ17 ⟨⟨⟨v11, rfl, k11, -⟩, hB6⟩, -⟩
     refine zav (zcy (zc := [(zab .i64 0), (zaa false), (zad none 0 0)]) (cs := [(zab .i64 x11.Index), (zaa r10.Negative), v11]) (is := [0, 1]) (vs := [(zab .i64 x11.Index), (zap #[(zaa r10.Negative), v11])]) (css := [[(zab .i64 x11.Index)], [(zaa r10.Negative), v11]]) pl50 ti50 rfl rfl rfl ⟨rfl, rfl, trivial⟩ rfl ?_)
     exact Go.X.Made.same ⟨v11, rfl, k11, trivial⟩
    intro z7
    refine zct ?_ ?_
    ·
     rintro w26 Z18 hE23 hZ18 ⟨⟨⟨v12, rfl, k12, -⟩, hB7⟩, -, -⟩
     have hE24 : Els rUse (vZ w16 w None [some b12, some b1, some b10, ob11] Z18 w26) [(zab .i64 x11.Index), (zaa r10.Negative), v12] [(Use.mk x11.Index r10)] := (zcg (a := [(zab .i64 x11.Index), (zaa r10.Negative), v12]) (rUse_close ⟨v12, rfl, k12, trivial⟩) zcp)
     refine zav (zch (r := rUse) (vs := [(zap #[(zab .i64 x11.Index), (zaa r10.Negative), v12])]) (css := [[(zab .i64 x11.Index), (zaa r10.Negative), v12]]) (xs := [(Use.mk x11.Index r10)]) zbz ti50 (zae rfl) rfl rfl ⟨rfl, rfl, trivial⟩ (zae rfl) hE24 rfl (Go.X.Loc.begin0 w26) ?_)
     intro b13 w27 hc13 hL22 hS14
     have hN10 : NewOwn w26 w27 [some b13] [zac ([] ++ ([(zab .i64 x11.Index), (zaa r10.Negative), v12] ++ []))] := hL22.newOwn [0] rfl rfl rfl
     exact zcn hL22.done hZ18 hN10 (fun _ h => h) ⟨b13, [(zab .i64 x11.Index), (zaa r10.Negative), v12], rfl, hN10.2.2.1, (hE24.mono (Zv.grow hL22.done)), hc13, trivial⟩
    intro z8
    refine zco ?_
    rintro w28 Z19 hE25 hZ19 ⟨⟨⟨b13, cs12, rfl, hO10, hE12, hc12, -⟩, hB8⟩, ⟨⟨v12, rfl, k12, -⟩, hB7⟩, ⟨⟨v11, rfl, k11, -⟩, hB6⟩, -⟩ ap10
    have hB10 : ∀ b, some b ∈ ([some b13] : List (Option Nat)) → w16.heap.size ≤ b ∧ ¬ Z19 b := by
     intro b hb
     rcases List.mem_cons.1 hb with hb' | hb
     ·
      have := hB8 b (by rw [hb']; exact zax); exact ⟨this.1, this.2.2⟩
     cases hb
    replace hE12 := hE12.mono (zdc hL18 hZ19 hB10)
    replace k12 := k12.mono (zdc hL18 hZ19 hB10)
    replace k11 := k11.mono (zdc hL18 hZ19 hB10)
    have hN11 : NewOwn w16 w28 [some b13] [zac ([] ++ (cs12 ++ []))] := (zda zcb hO10 (fun b hb => (hB10 b (by rw [← hb]; simp)).1) (fun b _ hb => by cases hb))
    have hp12 := hL18.adoptL hE25 hN11
    have hL23 := hp12.1
    have K20 := ks w hp12.2
    obtain ⟨x12, q17, h⟩ := zdo h
    obtain ⟨q18, q19, q20⟩ := zeb q17
    have f16 := ((((hE11.mono (K16 None)).mono (K17 None)).mono (K18 None)).mono (K20 None))
    refine zaf (zdk (r := rUse) (H := (vH w None [some b13, some b12, some b1, some b10, ob11] w28)) (cs := cs11) (sp := sp11) (xs := uses11) (ys := [(Use.mk x11.Index r10)]) (Y := x12) (n := uses11.length) (cap := cap11) (i := 4) zbz ti50 rfl rfl rfl rfl hL23 rfl rfl f16 rfl hc10 (Src.row (pre := []) (o := 0) (n := 1) (cap := 1) (hL23.at 0 rfl rfl) hE12 rfl rfl rfl) hE12 q18 q19 q20 ?_)
    intro ob12 cap12 sp12 cs13 w29 hE26 hc14 (hL24 : vL w w29 [some b13, some b12, some b1, some b10, ob12] [zac ([] ++ (cs12 ++ [])), zac [(zab .i64 x11.Index), (zaa x11.N.Negative), v10], zac [(zad none 0 0), (zad none 0 0), (zaa false), (zad none 0 0), (zad none 0 0)], zac [(osv ob11 0 uses11.length cap11), (zaa r6.Negative), v8], zac ([] ++ (cs13 ++ sp12))]) hS15
    have K21 := ks w hS15
    refine zaf (zas (q := 0) zcq rfl ti23 rfl rfl rfl ?_)
    refine zcc (zbn (vs := [(osv ob12 0 x12.length cap12)]) ti23 rfl rfl (zec (zea _ _ _ _)) rfl (zds (zea _ _ _ _) zdw) hL24 3 rfl rfl (zae rfl) ?_)
    intro w30 (hL25 : vL w w30 [some b13, some b12, some b1, some b10, ob12] [zac ([] ++ (cs12 ++ [])), zac [(zab .i64 x11.Index), (zaa x11.N.Negative), v10], zac [(zad none 0 0), (zad none 0 0), (zaa false), (zad none 0 0), (zad none 0 0)], zac [(osv ob12 0 x12.length cap12), (zaa r6.Negative), v8], zac ([] ++ (cs13 ++ sp12))]) hS16
    have K22 := ks w hS16
    refine zan (zbt (zah rfl (zaf (zby (x := x10) (y := 1) (z := (iw (x10 + 1))) rfl rfl rfl ?_))))
    refine zaf (zai (v := (zab .i64 (iw (x10 + 1)))) rfl ?_)
    refine zan ?_
    have hp13 := hL25.pick [2, 3, 4] rfl rfl rfl
    have hL26 : vL w w30 [some b1, some b10, ob12] [zac [(zad none 0 0), (zad none 0 0), (zaa false), (zad none 0 0), (zad none 0 0)], zac [(osv ob12 0 x12.length cap12), (zaa r6.Negative), v8], zac ([] ++ (cs13 ++ sp12))] := hp13.1
    have K23 := ks w hp13.2
    have f17 := (((hE26.mono (K21 None)).mono (K22 None)).mono (K23 None))
    obtain rfl := zag h
    refine zar ⟨(x12, (iw (x10 + 1))), rfl, ?_⟩
    exact ⟨ob12, cap12, sp12, cs13, x12.length, _, (zdt ⟨rfl, rfl, rfl, rfl, rfl, trivial⟩), hL26, (zaq (zaq (zaq (zaq (zaq (zaq (zaq K15 K16) K17) K18) K20) K21) K22) K23), f17, rfl, hc14, trivial⟩
  ·
   replace h := ite_f hc11 h
   refine zcm rfl ?_
   obtain rfl := zag h
   obtain rfl := hd10 _ rfl
   replace h := g10
   try dsimp only at h
   skip
   refine zar ?_
   exact ⟨uses11, ob11, cap11, sp11, cs11, uses11.length, _, rfl, (zdt ⟨rfl, rfl, trivial⟩), hL15, K15, hE11, rfl, hc10, trivial⟩
 ·
  rintro _ w31 ⟨uses10, ob10, cap10, sp10, cs10, ln10, u, rfl, rfl, hL27, K24, hE27, rfl, hc15, -⟩
  replace h := g10
  try dsimp only at h
  refine zaj (zah rfl (zaf (zbm (vs := [(osv ob10 0 uses10.length cap10), (zaa r6.Negative), v8]) zcq rfl ti28 rfl (hL27.at 1 rfl rfl) rfl rfl ?_)))
  have f18 := hL27.freezeRow 2 rfl rfl hE27 rfl rfl rfl hc15
  have hp14 := hL27.pick [0, 1] rfl rfl rfl
  have hL28 : vL w w31 [some b1, some b10] [zac [(zad none 0 0), (zad none 0 0), (zaa false), (zad none 0 0), (zad none 0 0)], zac [(osv ob10 0 uses10.length cap10), (zaa r6.Negative), v8]] := hp14.1
  have K25 := ks w hp14.2
  have f19 := (((f10.mono (K12 None)).mono (K24 None)).mono (K25 None))
  have hE28 : Els rStep (vH w None [some b1, some b10] w31) [(osv ob10 0 uses10.length cap10), (zaa r6.Negative), v8] [(Step.mk uses10 r6)] := (zcg (a := [(osv ob10 0 uses10.length cap10), (zaa r6.Negative), v8]) (rStep_close ⟨(osv ob10 0 uses10.length cap10), v8, rfl, f18, f19, trivial⟩) zcp)
  refine zaf (zch (r := rStep) (vs := [(zap #[(osv ob10 0 uses10.length cap10), (zaa r6.Negative), v8])]) (css := [[(osv ob10 0 uses10.length cap10), (zaa r6.Negative), v8]]) (xs := [(Step.mk uses10 r6)]) zcu ti28 (zae rfl) rfl rfl ⟨rfl, rfl, trivial⟩ (zae rfl) hE28 rfl hL28 ?_)
  intro b14 w32 hc16 hL29 hS17
  have K26 := ks w hS17
  refine zaf (zcy (zc := [(zad none 0 0), (zad none 0 0), (zaa false), (zad none 0 0), (zad none 0 0)]) (cs := [(osv (some b14) 0 1 1), (zad none 0 0), (zaa false), (zad none 0 0), (zad none 0 0)]) (is := [0]) (vs := [(osv (some b14) 0 1 1)]) (css := [[(osv (some b14) 0 1 1)]]) pl42 ti42 rfl rfl rfl ⟨(zec (zea _ _ _ _)), trivial⟩ rfl ?_)
  refine zcc (zbn (vs := [(osv (some b14) 0 1 1), (zad none 0 0), (zaa false), (zad none 0 0), (zad none 0 0)]) ti42 rfl rfl rfl rfl (zds (zea _ _ _ _) (zds rfl (zds rfl (zds rfl (zds rfl zdw))))) hL29 1 rfl rfl (zae rfl) ?_)
  intro w33 (hL30 : vL w w33 [some b14, some b1, some b10] [zac ([] ++ ([(osv ob10 0 uses10.length cap10), (zaa r6.Negative), v8] ++ [])), zac [(osv (some b14) 0 1 1), (zad none 0 0), (zaa false), (zad none 0 0), (zad none 0 0)], zac [(osv ob10 0 uses10.length cap10), (zaa r6.Negative), v8]]) hS18
  have K27 := ks w hS18
  refine zan ?_
  have f20 := ((hE28.mono (K26 None)).mono (K27 None))
  have f21 := hL30.freezeRow 0 rfl rfl f20 rfl rfl rfl hc16
  have hp15 := hL30.pick [1, 2] rfl rfl rfl
  have hL31 : vL w w33 [some b1, some b10] [zac [(osv (some b14) 0 1 1), (zad none 0 0), (zaa false), (zad none 0 0), (zad none 0 0)], zac [(osv ob10 0 uses10.length cap10), (zaa r6.Negative), v8]] := hp15.1
  refine zbj ?_
  obtain rfl := zag h
  refine ⟨[(zap #[(osv (some b14) 0 1 1), (zad none 0 0), (zaa false), (zad none 0 0), (zad none 0 0)])], ⟨⟨⟨b1, 0, none⟩, rfl, zdz zbi rfl ti42 (hL31.at 0 rfl rfl) rfl⟩, trivial⟩, ⟨_, rfl, hL31.done, ?_⟩⟩
  exact ⟨(osv (some b14) 0 1 1), (zad none 0 0), (zad none 0 0), (zad none 0 0), rfl, (f21.mono zdi), zdn, zdn, zdn, trivial⟩
end Go.Proofs.Ytakkacdhlocckaa.WC

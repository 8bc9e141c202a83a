/- Walks, written by a program of mine (wip/tool); the kernel checks them. -/
import Derived.Test.YtakkacdhlocckaaProg
import Derived.Test.YtakkacdhlocckaaSqCheck
import Derived.Test.YtakkacdhlocckaaPD
import Derived.Test.YtakkacdhlocckaaWACheck
import Derived.Test.YtakkacdhlocckaaWRCheck
import Derived.Test.YtakkacdhlocckaaWBCheck
import Derived.Test.YtakkacdhlocckaaWCCheck
set_option maxRecDepth 100000
set_option maxHeartbeats 4000000
set_option linter.unusedVariables false
namespace Go.Proofs.Ytakkacdhlocckaa.WD
open Go Go.RowKit Go.X Go.D Go.Proofs.Ytakkacdhlocckaa.WA Go.Proofs.Ytakkacdhlocckaa.WR Go.Proofs.Ytakkacdhlocckaa.WB Go.Proofs.Ytakkacdhlocckaa.WC
theorem en81 : Enters Try.prog 81 := ⟨Try.f81, Try.func81, by kernel_rfl, by kernel_rfl⟩
theorem en50 : Enters Try.prog 50 := ⟨Try.f50, Try.func50, by kernel_rfl, by kernel_rfl⟩
theorem en60 : Enters Try.prog 60 := ⟨Try.f60, Try.func60, by kernel_rfl, by kernel_rfl⟩
theorem en49 : Enters Try.prog 49 := ⟨Try.f49, Try.func49, by kernel_rfl, by kernel_rfl⟩
theorem en39 : Enters Try.prog 39 := ⟨Try.f39, Try.func39, by kernel_rfl, by kernel_rfl⟩
theorem en51 : Enters Try.prog 51 := ⟨Try.f51, Try.func51, by kernel_rfl, by kernel_rfl⟩
theorem en15 : Enters Try.prog 15 := ⟨Try.f15, Try.func15, by kernel_rfl, by kernel_rfl⟩
theorem en30 : Enters Try.prog 30 := ⟨Try.f30, Try.func30, by kernel_rfl, by kernel_rfl⟩
theorem en19 : Enters Try.prog 19 := ⟨Try.f19, Try.func19, by kernel_rfl, by kernel_rfl⟩
theorem en43 : Enters Try.prog 43 := ⟨Try.f43, Try.func43, by kernel_rfl, by kernel_rfl⟩
theorem en13 : Enters Try.prog 13 := ⟨Try.f13, Try.func13, by kernel_rfl, by kernel_rfl⟩
theorem en52 : Enters Try.prog 52 := ⟨Try.f52, Try.func52, by kernel_rfl, by kernel_rfl⟩
theorem rzero_w (N : Nat) (n : Int)  (w : World) (S : Nat → Prop)  (r : Ineq) (h : rzero N n = some r) :
  Calls Try.prog 50 #[(zac .i64 n)] w (Ret w (fun v w' => ∃ (ob0_0 : Option Nat) (cap0_0 : Nat) (cs0_0 : List Value) (sp0_0 : List Value) (ob0_1 : Option Nat) (cap0_1 : Nat) (cs0_1 : List Value) (sp0_1 : List Value), (zam #[(osv ob0_0 0 r.Coefs.length cap0_0), (zaa r.Bound.Negative), (osv ob0_1 0 r.Bound.Digits.length cap0_1)]) = v ∧ NewOwn w w' [ob0_0, ob0_1] [.cells ([] ++ (cs0_0 ++ sp0_0)), .cells ([] ++ (cs0_1 ++ sp0_1))] ∧ Els rBig (vH w None [ob0_0, ob0_1] w') cs0_0 r.Coefs ∧ (cs0_0 ++ sp0_0).length = cap0_0 * rBig.sz ∧ Els (rInt .u32) (vH w None [ob0_0, ob0_1] w') cs0_1 r.Bound.Digits ∧ (cs0_1 ++ sp0_1).length = cap0_1 * (rInt .u32).sz ∧ True)) := by
 unfold rzero at h
 have hL : vL w w [] [] := Go.X.Loc.begin0 w
 refine calls_of (l := [(zac .i64 n)]) (rl := [.cell 2 34]) (n := 6) Try.func50 rfl rfl rfl (zae rfl) ?_
 refine zaj (zah rfl (zaf (zbw (cs := [(zad none 0 0), (zaa false), (zad none 0 0)]) ti34 rfl hL ?_)))
 intro b1 w2 hL3 hS5
 refine zao (zaj (zah rfl (zaf (zai (v := (zac .i64 n)) rfl ?_))))
 obtain ⟨x7, q8, h⟩ := zdq h
 obtain ⟨m6, q9, q10, q11, q12⟩ := mk1_some q8
 refine zaf (OpY.mkRowX (r := rBig) (H := (vH w None [some b1] w2)) (zc := [(zaa false), (zad none 0 0)]) (x := (Big.mk false [])) zay ti26 rfl (rBig_close ⟨(zad none 0 0), rfl, zdm, trivial⟩) rfl rfl q9 q10 q11 q12 hL3 ?_)
 intro b10 w10 cs10 hE10 hc10 hL10 hS10
 have K10 := ks w hS10
 refine zaf (zdb (zc := [(zad none 0 0), (zaa false), (zad none 0 0)]) (cs := [(osv (some b10) 0 x7.length m6), (zaa false), (zad none 0 0)]) (is := [0]) (vs := [(osv (some b10) 0 x7.length m6)]) (css := [[(osv (some b10) 0 x7.length m6)]]) pl34 ti34 rfl rfl rfl ⟨(zeg (zec _ _ _ _)), trivial⟩ rfl ?_)
 refine zcd (zbk (vs := [(osv (some b10) 0 x7.length m6), (zaa false), (zad none 0 0)]) ti34 rfl rfl rfl rfl (zds (zec _ _ _ _) (zds rfl (zds rfl zdx))) hL10 1 rfl rfl (zae rfl) ?_)
 intro w11 (hL11 : vL w w11 [some b10, some b1] [zab ([] ++ (cs10 ++ [])), zab [(osv (some b10) 0 x7.length m6), (zaa false), (zad none 0 0)]]) hS11
 have K11 := ks w hS11
 refine zao ?_
 have hp10 := hL11.addNil
 have hL12 : vL w w11 [none, some b10, some b1] [zab ([] ++ ([] ++ [])), zab ([] ++ (cs10 ++ [])), zab [(osv (some b10) 0 x7.length m6), (zaa false), (zad none 0 0)]] := hp10.1
 have K12 := ks w hp10.2
 have hE11 : Els (rInt .u32) (vH w None [none, some b10, some b1] w11) [] [] := zcv
 refine zbn ?_
 obtain rfl := zag h
 refine ⟨[(zam #[(osv (some b10) 0 x7.length m6), (zaa false), (osv none 0 (List.length ([] : (List Int))) 0)])], ⟨⟨⟨b1, 0, none⟩, rfl, zeb zaz rfl ti34 (hL12.at 2 rfl rfl) rfl⟩, trivial⟩, ⟨_, rfl, hL12.done, ?_⟩⟩
 have f10 := (((hE10.mono (K10 None)).mono (K11 None)).mono (K12 None))
 exact ⟨some b10, m6, cs10, [], none, 0, [], [], rfl, (hL12.newOwn [1, 0] rfl rfl rfl), (f10.mono (Hv.pick [1, 0] rfl)), hc10, (hE11.mono (Hv.pick [1, 0] rfl)), (show ([] ++ [] : List Value).length = 0 * (rInt .u32).sz by simp), trivial⟩
theorem rflip_w (N : Nat) (q : Ineq) (bound : Big) (q_v : Value) (q_v1 : Value) (bound_v : Value) (w : World) (S : Nat → Prop) (q_h : Rs rBig (vH w S [] w) q_v q.Coefs) (q_h1 : Rs (rInt .u32) (vH w S [] w) q_v1 q.Bound.Digits) (bound_h : Rs (rInt .u32) (vH w S [] w) bound_v bound.Digits) (r : Ineq) (h : rflip N q bound = some r) :
  Calls Try.prog 60 #[(zam #[q_v, (zaa q.Bound.Negative), q_v1]), (zam #[(zaa bound.Negative), bound_v])] w (Ret w (fun v w' => ∃ (v0_0 : Value) (v0_1 : Value), (zam #[v0_0, (zaa r.Bound.Negative), v0_1]) = v ∧ Rs rBig (vH w None [] w') v0_0 r.Coefs ∧ Rs (rInt .u32) (vH w None [] w') v0_1 r.Bound.Digits ∧ True)) := by
 unfold rflip at h
 have hL : vL w w [] [] := Go.X.Loc.begin0 w
 refine calls_of (l := [(zam #[q_v, (zaa q.Bound.Negative), q_v1]), (zam #[(zaa bound.Negative), bound_v])]) (rl := [.cell 4 34]) (n := 29) Try.func60 rfl rfl rfl (zae rfl) ?_
 refine zaj (zah rfl (zaf (zde (cs := [q_v, (zaa q.Bound.Negative), q_v1]) rfl rfl hL ?_)))
 intro b1 w2 hL3 hS5
 have K4 := ks w hS5
 refine zaf (zde (cs := [(zaa bound.Negative), bound_v]) rfl rfl hL3 ?_)
 intro b6 w7 hL8 hS10
 have K9 := ks w hS10
 refine zaf (zbw (cs := [(zad none 0 0), (zaa false), (zad none 0 0)]) ti34 rfl hL8 ?_)
 intro b10 w10 hL10 hS11
 have K10 := ks w hS11
 refine zao (zaj (zah rfl (zaf (zbe (vs := [(zaa bound.Negative), bound_v]) zan rfl ti26 rfl (hL10.at 1 rfl rfl) rfl rfl ?_))))
 obtain ⟨r10, q10, h⟩ := zdq h
 have f10 := (((bound_h.mono (K4 S)).mono (K9 S)).mono (K10 S))
 refine zaf (zaw en81 rfl rfl (rNormal_w N bound bound_v _ Any (f10.mono vw_any) r10 q10) ?_)
 rintro _ w11 hE10 ⟨v10, rfl, k10, -⟩
 replace k10 := k10.mono (zbd (S := None) hL10 [])
 have hL11 := hL10.ext hE10
 have K11 := ke hL10 hE10
 refine zaf (zdb (zc := [(zad none 0 0), (zaa false), (zad none 0 0)]) (cs := [(zad none 0 0), (zaa r10.Negative), v10]) (is := [1]) (vs := [(zam #[(zaa r10.Negative), v10])]) (css := [[(zaa r10.Negative), v10]]) pl34 ti34 rfl rfl rfl ⟨rfl, trivial⟩ rfl ?_)
 refine zaf (zbw (cs := [(zad none 0 0), (zaa false), (zad none 0 0)]) ti34 rfl hL11 ?_)
 intro b11 w12 hL12 hS12
 have K12 := ks w hS12
 have f11 := (k10.mono (K12 None))
 refine zcd (zbk (vs := [(zad none 0 0), (zaa r10.Negative), v10]) ti34 rfl rfl rfl rfl (zds rfl (zds rfl (zds f11.one zdx))) hL12 0 rfl rfl (zae rfl) ?_)
 intro w13 (hL13 : vL w w13 [some b11, some b10, some b6, some b1] [zab [(zad none 0 0), (zaa r10.Negative), v10], zab [(zad none 0 0), (zaa false), (zad none 0 0)], zab [(zaa bound.Negative), bound_v], zab [q_v, (zaa q.Bound.Negative), q_v1]]) hS13
 have K13 := ks w hS13
 refine zao (zaj (zaj (zah rfl (zaf (zak (v := (zac .i64 0)) rfl ?_)))))
 refine zao ?_
 obtain ⟨s10, hl10, g10⟩ := zdq h
 refine zbq (fun e w' => ∃ (coefs10 : (List Big)) (ob10 : Option Nat) (cap10 : Nat) (sp10 : List Value) (cs10 : List Value) (ln10 : Nat) (u : Env), coefs10 = s10 ∧ e = upds [(4, (zal (some ⟨b10, 0, none⟩))), (5, (zal (some ⟨b11, 0, none⟩)))] u ∧ vL w w' [some b10, some b11, ob10] [zab [(zad none 0 0), (zaa false), (zad none 0 0)], zab [(osv ob10 0 ln10 cap10), (zaa r10.Negative), v10], zab ([] ++ (cs10 ++ sp10))] ∧ Keep w.heap.size [some b11, some b10, some b6, some b1] w13 [some b10, some b11, ob10] w' ∧ Els rBig (vH w None [some b10, some b11, ob10] w') cs10 coefs10 ∧ ln10 = List.length coefs10 ∧ (cs10 ++ sp10).length = cap10 * rBig.sz ∧ True) ?_ ?_
 ·
  refine zbj ?_
  have hp10 := hL13.addNil
  have hL14 : vL w w13 [none, some b11, some b10, some b6, some b1] [zab ([] ++ ([] ++ [])), zab [(zad none 0 0), (zaa r10.Negative), v10], zab [(zad none 0 0), (zaa false), (zad none 0 0)], zab [(zaa bound.Negative), bound_v], zab [q_v, (zaa q.Bound.Negative), q_v1]] := hp10.1
  have K14 := ks w hp10.2
  have hp11 := hL14.pick [4, 2, 1, 0] rfl rfl rfl
  have hL15 : vL w w13 [some b1, some b10, some b11, none] [zab [q_v, (zaa q.Bound.Negative), q_v1], zab [(zad none 0 0), (zaa false), (zad none 0 0)], zab [(osv none 0 (List.length ([] : (List Big))) 0), (zaa r10.Negative), v10], zab ([] ++ ([] ++ []))] := hp11.1
  have K15 := ks w hp11.2
  have f12 := ((zcv (r := rBig)).mono (K15 None))
  refine zci hl10 (fun (ss : ((List Big) × Int)) (e : Env) (w' : World) => match ss with | (coefs11, i10) => ∃ (ob11 : Option Nat) (cap11 : Nat) (sp11 : List Value) (cs11 : List Value) (ln11 : Nat) (u : Env), e = upds [(2, (zal (some ⟨b1, 0, none⟩))), (4, (zal (some ⟨b10, 0, none⟩))), (5, (zal (some ⟨b11, 0, none⟩))), (6, (zac .i64 i10))] u ∧ vL w w' [some b1, some b10, some b11, ob11] [zab [q_v, (zaa q.Bound.Negative), q_v1], zab [(zad none 0 0), (zaa false), (zad none 0 0)], zab [(osv ob11 0 ln11 cap11), (zaa r10.Negative), v10], zab ([] ++ (cs11 ++ sp11))] ∧ Keep w.heap.size [some b11, some b10, some b6, some b1] w13 [some b1, some b10, some b11, ob11] w' ∧ Els rBig (vH w None [some b1, some b10, some b11, ob11] w') cs11 coefs11 ∧ ln11 = List.length coefs11 ∧ (cs11 ++ sp11).length = cap11 * rBig.sz ∧ True) ⟨none, 0, [], [], (List.length ([] : (List Big))), _, (zdv ⟨rfl, rfl, rfl, rfl, trivial⟩), hL15, (zaq K14 K15), f12, rfl, (show ([] ++ [] : List Value).length = 0 * rBig.sz by simp), trivial⟩ ?_
  rintro ⟨coefs11, i10⟩ oo _ w14 ⟨ob11, cap11, sp11, cs11, ln11, u, rfl, hL16, K16, hE11, rfl, hc10, -⟩ h hd10
  rw [rflip_b1] at h
  refine zaj (zaj (zah rfl (zaf (zai (v := (zac .i64 i10)) rfl ?_))))
  refine zaf (zar (q := 0) zaz rfl ti32 rfl rfl rfl ?_)
  refine zaf (zbb (v := q_v) zay rfl rfl (hL16.at 0 rfl rfl) rfl ?_)
  have f13 := (((((((q_h.mono (K4 S)).mono (K9 S)).mono (K10 S)).mono (K11 S)).mono (K12 S)).mono (K13 S)).mono (K16 S))
  refine zaf (zbg (v := q_v) zay rfl f13 ?_)
  refine zaf (zcr (x := i10) (y := (q.Coefs.length : Int)) ((i10 : Int) < (q.Coefs.length : Int)) rfl rfl zbl ?_)
  refine zao ?_
  refine zbh ((i10 : Int) < (q.Coefs.length : Int)) rfl (fun hc11 => ?_) (fun hc11 => ?_)
  ·
   replace h := ite_t hc11 h
   refine zbi (zaj (zbj ?_))
   obtain ⟨x10, q11, h⟩ := zdq h
   obtain ⟨n10, q12, q13⟩ := zdw q11
   obtain ⟨b12, o10, c10, vs10, q14, q15, f14, q16⟩ := zdc f13 q13
   obtain ⟨v11, rfl, k11, -⟩ := rBig_open q16
   obtain ⟨r11, q17, h⟩ := zdq h
   refine zcb 9 [] [] (fun W1 => [.det (zal (some ⟨b11, 0, none⟩)), .det (osv ob11 0 coefs11.length cap11), .det (zal (some ⟨b1, 0, none⟩)), .det q_v, .det (zac .i64 i10), .det (zal (some ⟨b12, (o10 + n10 * rBig.sz), none⟩)), .det (zam #[(zaa x10.Negative), v11]), .rel (fun v Z w' => ∃ v12, (zam #[(zaa r11.Negative), v12]) = v ∧ Rs (rInt .u32) (vZ W1 w None [some b1, some b10, some b11, ob11] Z w') v12 r11.Digits ∧ True) (fun _ => []), .rel (fun v Z w' => ∃ b13 cs12, (osv (some b13) 0 1 1) = v ∧ OwnC w' (some b13) (zab ([] ++ (cs12 ++ []))) ∧ Els rBig (vZ W1 w None [some b1, some b10, some b11, ob11] Z w') cs12 [r11] ∧ (cs12 ++ [] : List Value).length = 1 * rBig.sz ∧ True) footV]) mixed rfl rfl rfl (fun _ => rfl) (fun _ => rfl) ?_ ?_
   ·
    intro W1 _
    exact ⟨fun v Z Z' w w' hΦ hz _ _ hs => by obtain ⟨v12, rfl, k12, -⟩ := hΦ; exact ⟨v12, rfl, (k12.mono (zcg hz hs)), trivial⟩, ⟨fun v Z Z' w w' hΦ hz _ _ hs => by obtain ⟨b13, cs12, rfl, hO10, hE12, hc12, -⟩ := hΦ; exact ⟨b13, cs12, rfl, (hO10.stay (fun b hb => by cases hb; exact zav) hs), (hE12.mono (zcg hz hs)), hc12, trivial⟩, trivial⟩⟩
   ·
    intro w15 hE13
    have hL17 := hL16.ext hE13
    have K17 := ke hL16 hE13
    refine zat (fun _ _ => zau (zar zaz rfl ti32 rfl rfl rfl (er rfl))) ?_
    refine zat (fun _ hE15 => zau (zbb zay rfl rfl ((hL17.ext hE15).at 2 rfl rfl) rfl (er rfl))) ?_
    refine zat (fun _ _ => zau (zar zaz rfl ti32 rfl rfl rfl (er rfl))) ?_
    refine zat (fun _ hE17 => zau (zbb zay rfl rfl ((hL17.ext hE17).at 0 rfl rfl) rfl (er rfl))) ?_
    refine zat (fun _ _ => zau (zai rfl (er rfl))) ?_
    refine zat (fun _ _ => zau (zbz (r := rBig) (v := q_v) (n := n10) (m := (o10 + n10 * rBig.sz)) zay ti26 rfl q14 rfl q12 q13 rfl (er rfl))) ?_
    refine zat (fun _ hE20 => zau (zdj (vs := [(zaa x10.Negative), v11]) zan rfl ti26 rfl rfl zea (zdd ((ke hL17 hE20) S) (zdd (K17 S) f14)) (er rfl))) ?_
    refine zch ?_ ?_
    ·
     rintro w23 Z17 hE21 hZ17 ⟨-⟩
     have K19 := ke hL17 hE21
     refine zau (zaw en62 rfl rfl (rNeg_w N x10 v11 _ Any (((k11.mono (K17 S)).mono (K19 S)).mono vw_any) r11 q17) ?_)
     rintro _ w24 hE22 ⟨v12, rfl, k12, -⟩
     exact zce hE22 hZ17 zbv (fun _ h => h) ⟨v12, rfl, (k12.mono zcz), trivial⟩
    intro z7
    refine zch ?_ ?_
    ·
     rintro w25 Z18 hE23 hZ18 ⟨⟨⟨v12, rfl, k12, -⟩, hB7⟩, -⟩
     have hE24 : Els rBig (vZ w15 w None [some b1, some b10, some b11, ob11] Z18 w25) [(zaa r11.Negative), v12] [r11] := (zcq (a := [(zaa r11.Negative), v12]) (rBig_close ⟨v12, rfl, k12, trivial⟩) zcv)
     refine zau (zcn (r := rBig) (vs := [(zam #[(zaa r11.Negative), v12])]) (css := [[(zaa r11.Negative), v12]]) (xs := [r11]) zay ti26 (zae rfl) rfl rfl ⟨rfl, rfl, trivial⟩ (zae rfl) hE24 rfl (Go.X.Loc.begin0 w25) ?_)
     intro b13 w26 hc13 hL20 hS14
     have hN10 : NewOwn w25 w26 [some b13] [zab ([] ++ ([(zaa r11.Negative), v12] ++ []))] := hL20.newOwn [0] rfl rfl rfl
     exact zce hL20.done hZ18 hN10 (fun _ h => h) ⟨b13, [(zaa r11.Negative), v12], rfl, hN10.2.2.1, (hE24.mono (Zv.grow hL20.done)), hc13, trivial⟩
    intro z8
    refine zcj ?_
    rintro w27 Z19 hE25 hZ19 ⟨⟨⟨b13, cs12, rfl, hO10, hE12, hc12, -⟩, hB8⟩, ⟨⟨v12, rfl, k12, -⟩, hB7⟩, -⟩ ap10
    have hB10 : ∀ b, some b ∈ ([some b13] : List (Option Nat)) → w15.heap.size ≤ b ∧ ¬ Z19 b := by
     intro b hb
     rcases List.mem_cons.1 hb with hb' | hb
     ·
      have := hB8 b (by rw [hb']; exact zav); exact ⟨this.1, this.2.2⟩
     cases hb
    replace hE12 := hE12.mono (zcx hL17 hZ19 hB10)
    replace k12 := k12.mono (zcx hL17 hZ19 hB10)
    have hN11 : NewOwn w15 w27 [some b13] [zab ([] ++ (cs12 ++ []))] := (zcy zbv hO10 (fun b hb => (hB10 b (by rw [← hb]; simp)).1) (fun b _ hb => by cases hb))
    have hp12 := hL17.adoptL hE25 hN11
    have hL21 := hp12.1
    have K20 := ks w hp12.2
    obtain ⟨x11, q18, h⟩ := zdq h
    obtain ⟨q19, q20, q21⟩ := zed q18
    have f15 := ((hE11.mono (K17 None)).mono (K20 None))
    refine zaf (zdi (r := rBig) (H := (vH w None [some b13, some b1, some b10, some b11, ob11] w27)) (cs := cs11) (sp := sp11) (xs := coefs11) (ys := [r11]) (Y := x11) (n := coefs11.length) (cap := cap11) (i := 4) zay ti26 rfl rfl rfl rfl hL21 rfl rfl f15 rfl hc10 (Src.row (pre := []) (o := 0) (n := 1) (cap := 1) (hL21.at 0 rfl rfl) hE12 rfl rfl rfl) hE12 q19 q20 q21 ?_)
    intro ob12 cap12 sp12 cs13 w28 hE26 hc14 (hL22 : vL w w28 [some b13, some b1, some b10, some b11, ob12] [zab ([] ++ (cs12 ++ [])), zab [q_v, (zaa q.Bound.Negative), q_v1], zab [(zad none 0 0), (zaa false), (zad none 0 0)], zab [(osv ob11 0 coefs11.length cap11), (zaa r10.Negative), v10], zab ([] ++ (cs13 ++ sp12))]) hS15
    have K21 := ks w hS15
    refine zaf (zar (q := 0) zaz rfl ti32 rfl rfl rfl ?_)
    refine zcd (zbk (vs := [(osv ob12 0 x11.length cap12)]) ti32 rfl rfl (zeg (zec _ _ _ _)) rfl (zds (zec _ _ _ _) zdx) hL22 3 rfl rfl (zae rfl) ?_)
    intro w29 (hL23 : vL w w29 [some b13, some b1, some b10, some b11, ob12] [zab ([] ++ (cs12 ++ [])), zab [q_v, (zaa q.Bound.Negative), q_v1], zab [(zad none 0 0), (zaa false), (zad none 0 0)], zab [(osv ob12 0 x11.length cap12), (zaa r10.Negative), v10], zab ([] ++ (cs13 ++ sp12))]) hS16
    have K22 := ks w hS16
    refine zao (zbr (zah rfl (zaf (zai (v := (zac .i64 i10)) rfl ?_))))
    refine zaf (zcf (x := i10) (y := 1) (z := (iw (i10 + 1))) rfl rfl rfl ?_)
    refine zaf (zak (v := (zac .i64 (iw (i10 + 1)))) rfl ?_)
    refine zao ?_
    have hp13 := hL23.pick [1, 2, 3, 4] rfl rfl rfl
    have hL24 : vL w w29 [some b1, some b10, some b11, ob12] [zab [q_v, (zaa q.Bound.Negative), q_v1], zab [(zad none 0 0), (zaa false), (zad none 0 0)], zab [(osv ob12 0 x11.length cap12), (zaa r10.Negative), v10], zab ([] ++ (cs13 ++ sp12))] := hp13.1
    have K23 := ks w hp13.2
    have f16 := (((hE26.mono (K21 None)).mono (K22 None)).mono (K23 None))
    obtain rfl := zag h
    refine zas ⟨(x11, (iw (i10 + 1))), rfl, ?_⟩
    exact ⟨ob12, cap12, sp12, cs13, x11.length, _, (zdv ⟨rfl, rfl, rfl, rfl, trivial⟩), hL24, (zaq (zaq (zaq (zaq (zaq K16 K17) K20) K21) K22) K23), f16, rfl, hc14, trivial⟩
  ·
   replace h := ite_f hc11 h
   refine zcs rfl ?_
   have hp14 := hL16.pick [1, 2, 3] rfl rfl rfl
   have hL25 : vL w w14 [some b10, some b11, ob11] [zab [(zad none 0 0), (zaa false), (zad none 0 0)], zab [(osv ob11 0 coefs11.length cap11), (zaa r10.Negative), v10], zab ([] ++ (cs11 ++ sp11))] := hp14.1
   have K24 := ks w hp14.2
   have f17 := (hE11.mono (K24 None))
   obtain rfl := zag h
   obtain rfl := hd10 _ rfl
   replace h := g10
   try dsimp only at h
   skip
   refine zas ?_
   exact ⟨coefs11, ob11, cap11, sp11, cs11, coefs11.length, _, rfl, (zdv ⟨rfl, rfl, trivial⟩), hL25, (zaq K16 K24), f17, rfl, hc10, trivial⟩
 ·
  rintro _ w30 ⟨coefs10, ob10, cap10, sp10, cs10, ln10, u, rfl, rfl, hL26, K25, hE27, rfl, hc15, -⟩
  replace h := g10
  try dsimp only at h
  refine zaj (zah rfl (zaf (zbe (vs := [(osv ob10 0 coefs10.length cap10), (zaa r10.Negative), v10]) zaz rfl ti34 rfl (hL26.at 1 rfl rfl) rfl rfl ?_)))
  have f18 := ((f11.mono (K13 None)).mono (K25 None))
  refine zcd (zbk (vs := [(osv ob10 0 coefs10.length cap10), (zaa r10.Negative), v10]) ti34 rfl rfl rfl rfl (zds (zec _ _ _ _) (zds rfl (zds f18.one zdx))) hL26 0 rfl rfl (zae rfl) ?_)
  intro w31 (hL27 : vL w w31 [some b10, some b11, ob10] [zab [(osv ob10 0 coefs10.length cap10), (zaa r10.Negative), v10], zab [(osv ob10 0 coefs10.length cap10), (zaa r10.Negative), v10], zab ([] ++ (cs10 ++ sp10))]) hS17
  have K26 := ks w hS17
  refine zao ?_
  have f19 := (hE27.mono (K26 None))
  have f20 := hL27.freezeRow 2 rfl rfl f19 rfl rfl rfl hc15
  have hp15 := hL27.pick [0, 1] rfl rfl rfl
  have hL28 : vL w w31 [some b10, some b11] [zab [(osv ob10 0 coefs10.length cap10), (zaa r10.Negative), v10], zab [(osv ob10 0 coefs10.length cap10), (zaa r10.Negative), v10]] := hp15.1
  have K27 := ks w hp15.2
  refine zbn ?_
  obtain rfl := zag h
  refine ⟨[(zam #[(osv ob10 0 coefs10.length cap10), (zaa r10.Negative), v10])], ⟨⟨⟨b10, 0, none⟩, rfl, zeb zaz rfl ti34 (hL28.at 0 rfl rfl) rfl⟩, trivial⟩, ⟨_, rfl, hL28.done, ?_⟩⟩
  have f21 := ((f18.mono (K26 None)).mono (K27 None))
  exact ⟨(osv ob10 0 coefs10.length cap10), v10, rfl, (f20.mono zdh), (f21.mono zdh), trivial⟩
theorem rEven_w (N : Nat) (l : (List Ineq)) (l_v : Value) (w : World) (S : Nat → Prop) (l_h : Rs rIneq (vH w S [] w) l_v l) (r : Bool) (h : rEven N l = some r) :
  Calls Try.prog 49 #[l_v] w (Ret w (fun v w' => (zaa r) = v ∧ True)) := by
 unfold rEven at h
 have hL : vL w w [] [] := Go.X.Loc.begin0 w
 refine calls_of (l := [l_v]) (rl := [.tmp 2]) (n := 22) Try.func49 rfl rfl rfl (zae rfl) ?_
 refine zaj (zah rfl (zaf (zak (v := (zaa false)) rfl ?_)))
 refine zao (zaj (zaj (zah rfl (zaf (zak (v := (zac .i64 0)) rfl ?_)))))
 refine zao ?_
 obtain ⟨s10, hl10, g10⟩ := zdq h
 refine zbq (fun e w' => ∃  (u : Env), (Sum.inl ()) = s10 ∧ e = upds [] u ∧ vL w w' [] [] ∧ Keep w.heap.size [] w [] w' ∧ True) ?_ ?_
 ·
  refine zbj ?_
  refine zci hl10 (fun (ss : Int) (e : Env) (w' : World) => match ss with | i10 => ∃ (u : Env), e = upds [(0, l_v), (3, (zac .i64 i10))] u ∧ vL w w' [] [] ∧ Keep w.heap.size [] w [] w' ∧ True) ⟨_, (zdv ⟨rfl, rfl, trivial⟩), hL, zbo, trivial⟩ ?_
  rintro i10 oo _ w10 ⟨u, rfl, hL10, K10, -⟩ h hd10
  rw [rEven_b1] at h
  refine zaj (zaj (zah rfl (zaf (zai (v := (zac .i64 i10)) rfl ?_))))
  refine zaf (zai (v := l_v) rfl ?_)
  have f10 := (l_h.mono (K10 S))
  refine zaf (zbg (v := l_v) zbc rfl f10 ?_)
  refine zaf (zcr (x := i10) (y := (l.length : Int)) ((i10 : Int) < (l.length : Int)) rfl rfl zbl ?_)
  refine zao ?_
  refine zbh ((i10 : Int) < (l.length : Int)) rfl (fun hc10 => ?_) (fun hc10 => ?_)
  ·
   replace h := ite_t hc10 h
   refine zbi (zaj (zbj (zaj ?_)))
   obtain ⟨x10, q10, h⟩ := zdq h
   obtain ⟨n10, q11, q12⟩ := zdw q10
   obtain ⟨b10, o10, c10, vs10, q13, q14, f11, q15⟩ := zdc f10 q12
   obtain ⟨v10, v11, rfl, k10, k11, -⟩ := rIneq_open q15
   have f12 := (f11.part (us := [v10]) 0 rfl)
   obtain ⟨x11, q16, h⟩ := zdq h
   obtain ⟨n11, q17, q18⟩ := zdw q16
   obtain ⟨b11, o11, c11, vs11, q19, q20, f13, q21⟩ := zdc f10 q18
   obtain ⟨v12, v13, rfl, k12, k13, -⟩ := rIneq_open q21
   have f14 := (f13.part (us := [v12]) 0 rfl)
   refine zcb 11 [] [] (fun W1 => [.det l_v, .det (zac .i64 i10), .det (zal (some ⟨b10, (o10 + n10 * rIneq.sz), none⟩)), .det (zal (some ⟨b10, (o10 + n10 * rIneq.sz) + 0, none⟩)), .det v10, .det (zac .i64 (x10.Coefs.length : Int)), .det l_v, .det (zal (some ⟨b11, (o11 + n11 * rIneq.sz), none⟩)), .det (zal (some ⟨b11, (o11 + n11 * rIneq.sz) + 0, none⟩)), .det v12, .det (zac .i64 (x11.Coefs.length : Int))]) mixed rfl rfl rfl (fun _ => rfl) (fun _ => rfl) ?_ ?_
   ·
    intro W1 _
    exact trivial
   ·
    intro w11 hE10
    have hL11 := hL10.ext hE10
    have K11 := ke hL10 hE10
    refine zat (fun _ _ => zau (zai rfl (er rfl))) ?_
    refine zat (fun _ _ => zau (zai rfl (er rfl))) ?_
    refine zat (fun _ _ => zau (zbz (r := rIneq) (v := l_v) (n := n10) (m := (o10 + n10 * rIneq.sz)) zbc ti34 rfl q13 rfl q11 q12 rfl (er rfl))) ?_
    refine zat (fun _ _ => zau (zar zaz rfl ti32 rfl rfl rfl (er rfl))) ?_
    refine zat (fun _ hE15 => zau (zct zay rfl rfl zea (zdd ((ke hL11 hE15) S) (zdd (K11 S) f12)) (er rfl))) ?_
    refine zat (fun _ hE16 => zau (zbg (v := v10) zay rfl ((k10.mono (K11 S)).mono ((ke hL11 hE16) S)) (er rfl))) ?_
    refine zat (fun _ _ => zau (zai rfl (er rfl))) ?_
    refine zat (fun _ _ => zau (zbz (r := rIneq) (v := l_v) (n := n11) (m := (o11 + n11 * rIneq.sz)) zbc ti34 rfl q19 rfl q17 q18 rfl (er rfl))) ?_
    refine zat (fun _ _ => zau (zar zaz rfl ti32 rfl rfl rfl (er rfl))) ?_
    refine zat (fun _ hE20 => zau (zct zay rfl rfl zea (zdd ((ke hL11 hE20) S) (zdd (K11 S) f14)) (er rfl))) ?_
    refine zat (fun _ hE21 => zau (zbg (v := v12) zay rfl ((k12.mono (K11 S)).mono ((ke hL11 hE21) S)) (er rfl))) ?_
    refine zcj ?_
    rintro w23 Z21 hE22 hZ21 ⟨-⟩ ap10
    have hB10 : ∀ b, some b ∈ ([] : List (Option Nat)) → w11.heap.size ≤ b ∧ ¬ Z21 b := by
     intro b hb; cases hb
    have hL12 := hL11.ext hE22
    have K16 := ke hL11 hE22
    refine zaf (OpY.neq (x := (x10.Coefs.length : Int)) (y := (x11.Coefs.length : Int)) (((x10.Coefs.length : Int) : Int) ≠ (x11.Coefs.length : Int)) rfl rfl zbl ?_)
    refine zao ?_
    refine zbh (((x10.Coefs.length : Int) : Int) ≠ (x11.Coefs.length : Int)) rfl (fun hc11 => ?_) (fun hc11 => ?_)
    ·
     replace h := ite_t hc11 h
     refine zaj (zah rfl (zaf (zak (v := (zaa false)) rfl ?_)))
     refine zao (zbn ?_)
     obtain rfl := zag h
     obtain rfl := hd10 _ rfl
     replace h := g10
     try dsimp only at h
     obtain rfl := zag h
     refine ⟨[(zaa false)], ⟨rfl, trivial⟩, ⟨_, rfl, hL12.done, ?_⟩⟩
     exact ⟨rfl, trivial⟩
    ·
     replace h := ite_f hc11 h
     refine zbi (zbr (zah rfl (zaf (zai (v := (zac .i64 i10)) rfl ?_))))
     refine zaf (zcf (x := i10) (y := 1) (z := (iw (i10 + 1))) rfl rfl rfl ?_)
     refine zaf (zak (v := (zac .i64 (iw (i10 + 1)))) rfl ?_)
     refine zao ?_
     obtain rfl := zag h
     refine zas ⟨(iw (i10 + 1)), rfl, ?_⟩
     exact ⟨_, (zdv ⟨rfl, rfl, trivial⟩), hL12, (zaq (zaq K10 K11) K16), trivial⟩
  ·
   replace h := ite_f hc10 h
   refine zcs rfl ?_
   obtain rfl := zag h
   obtain rfl := hd10 _ rfl
   replace h := g10
   try dsimp only at h
   skip
   refine zas ?_
   exact ⟨_, rfl, (zdv trivial), hL10, K10, trivial⟩
 ·
  rintro _ w24 ⟨u, rfl, rfl, hL13, K17, -⟩
  replace h := g10
  try dsimp only at h
  refine zaj (zah rfl (zaf (zak (v := (zaa true)) rfl ?_)))
  refine zao (zbn ?_)
  obtain rfl := zag h
  refine ⟨[(zaa true)], ⟨rfl, trivial⟩, ⟨_, rfl, hL13.done, ?_⟩⟩
  exact ⟨rfl, trivial⟩
theorem rApply_w (N : Nat) (l : (List Ineq)) (s : Step) (l_v : Value) (s_v : Value) (s_v1 : Value) (w : World) (S : Nat → Prop) (l_h : Rs rIneq (vH w S [] w) l_v l) (s_h : Rs rUse (vH w S [] w) s_v s.Uses) (s_h1 : Rs (rInt .u32) (vH w S [] w) s_v1 s.Divisor.Digits) (r : (Ineq × Bool)) (h : rApply N l s = some r) :
  Calls Try.prog 15 #[l_v, (zam #[s_v, (zaa s.Divisor.Negative), s_v1])] w (Ret w (fun v w' => ∃ (v0_0 : Value) (v0_1 : Value), .tuple #[(zam #[v0_0, (zaa r.1.Bound.Negative), v0_1]), (zaa r.2)] = v ∧ Rs rBig (vH w None [] w') v0_0 r.1.Coefs ∧ Rs (rInt .u32) (vH w None [] w') v0_1 r.1.Bound.Digits ∧ True)) := by
 unfold rApply at h
 have hL : vL w w [] [] := Go.X.Loc.begin0 w
 refine calls_of (l := [l_v, (zam #[s_v, (zaa s.Divisor.Negative), s_v1])]) (rl := [.cell 4 34, .tmp 5]) (n := 139) Try.func15 rfl rfl rfl (zae rfl) ?_
 refine zaj (zah rfl (zaf (zde (cs := [s_v, (zaa s.Divisor.Negative), s_v1]) rfl rfl hL ?_)))
 intro b1 w2 hL3 hS5
 have K4 := ks w hS5
 refine zaf (zbw (cs := [(zad none 0 0), (zaa false), (zad none 0 0)]) ti34 rfl hL3 ?_)
 intro b6 w7 hL8 hS10
 have K9 := ks w hS10
 refine zaf (zak (v := (zaa false)) rfl ?_)
 refine zao (zaj (zaj ?_))
 obtain ⟨s10, h, g10⟩ := zdq h
 refine zbq (fun e w' => ∃ (x10 : Bool) (u : Env), x10 = s10 ∧ e = upds [(0, l_v), (3, (zal (some ⟨b1, 0, none⟩))), (4, (zal (some ⟨b6, 0, none⟩))), (24, (zaa x10))] u ∧ vL w w' [some b1, some b6] [zab [s_v, (zaa s.Divisor.Negative), s_v1], zab [(zad none 0 0), (zaa false), (zad none 0 0)]] ∧ Keep w.heap.size [some b6, some b1] w7 [some b1, some b6] w' ∧ True) ?_ ?_
 ·
  refine zah rfl (zaf (zai (v := l_v) rfl ?_))
  obtain ⟨r10, q10, h⟩ := zdq h
  have f10 := ((l_h.mono (K4 S)).mono (K9 S))
  refine zaf (zaw en49 rfl rfl (rEven_w N l l_v _ Any (f10.mono vw_any) r10 q10) ?_)
  rintro _ w10 hE10 ⟨rfl, -⟩
  have hL10 := hL8.ext hE10
  have K10 := ke hL8 hE10
  refine zaf (OpY.not (x := r10) rfl ?_)
  refine zaf (zai (v := (zaa (!r10))) rfl ?_)
  by_cases hc10 : (!r10) = true
  ·
   replace h := ite_t hc10 h
   refine zbx rfl rfl hc10 ?_
   refine zbx rfl rfl hc10 ?_
   refine zbx rfl rfl hc10 ?_
   refine zbx rfl rfl hc10 ?_
   refine zaf (zcm (t := (!r10)) (v := (zaa true)) rfl hc10 rfl ?_)
   refine zao ?_
   have hp10 := hL10.pick [1, 0] rfl rfl rfl
   have hL11 : vL w w10 [some b1, some b6] [zab [s_v, (zaa s.Divisor.Negative), s_v1], zab [(zad none 0 0), (zaa false), (zad none 0 0)]] := hp10.1
   have K11 := ks w hp10.2
   obtain rfl := zag h
   refine zas ?_
   exact ⟨true, _, rfl, (zdv ⟨rfl, rfl, rfl, rfl, trivial⟩), hL11, (zaq K10 K11), trivial⟩
  ·
   replace h := ite_f hc10 h
   refine zby rfl rfl (zdt hc10) (zar (q := 1) zck rfl ti26 rfl rfl rfl ?_)
   refine zby rfl rfl (zdt hc10) (zbe (vs := [(zaa s.Divisor.Negative), s_v1]) zan rfl ti26 rfl (hL10.at 1 rfl rfl) rfl rfl ?_)
   obtain ⟨r11, q11, h⟩ := zdq h
   have f11 := (((s_h1.mono (K4 S)).mono (K9 S)).mono (K10 S))
   refine zby rfl rfl (zdt hc10) (zaw en40 rfl rfl (rSign_w N s.Divisor s_v1 _ Any (f11.mono vw_any) r11 q11) ?_)
   rintro _ w11 hE11 ⟨rfl, -⟩
   have hL12 := hL10.ext hE11
   have K12 := ke hL10 hE11
   refine zby rfl rfl (zdt hc10) (OpY.leq (x := r11) (y := 0) ((r11 : Int) ≤ 0) rfl rfl zbl ?_)
   refine zaf (zca (t := (!r10)) (v := (zaa (decide ((r11 : Int) ≤ 0)))) rfl (zdt hc10) rfl ?_)
   refine zao ?_
   have hp11 := hL12.pick [1, 0] rfl rfl rfl
   have hL13 : vL w w11 [some b1, some b6] [zab [s_v, (zaa s.Divisor.Negative), s_v1], zab [(zad none 0 0), (zaa false), (zad none 0 0)]] := hp11.1
   have K13 := ks w hp11.2
   obtain rfl := zag h
   refine zas ?_
   exact ⟨(decide ((r11 : Int) ≤ 0)), _, rfl, (zdv ⟨rfl, rfl, rfl, rfl, trivial⟩), hL13, (zaq (zaq K10 K12) K13), trivial⟩
 ·
  rintro _ w12 ⟨x10, u, rfl, rfl, hL14, K14, -⟩
  replace h := g10
  try dsimp only at h
  refine zcu x10 rfl (fun hc11 => ?_) (fun hc11 => ?_)
  ·
   replace h := ite_t hc11 h
   refine zaj (zah rfl (zaf (zdb (zc := [(zad none 0 0), (zaa false), (zad none 0 0)]) (cs := [(zad none 0 0), (zaa false), (zad none 0 0)]) (is := []) (vs := []) (css := []) pl34 ti34 rfl rfl rfl trivial rfl ?_)))
   refine zcd (zbk (vs := [(zad none 0 0), (zaa false), (zad none 0 0)]) ti34 rfl rfl rfl rfl (zds rfl (zds rfl (zds rfl zdx))) hL14 1 rfl rfl (zae rfl) ?_)
   intro w13 (hL15 : vL w w13 [some b1, some b6] [zab [s_v, (zaa s.Divisor.Negative), s_v1], zab [(zad none 0 0), (zaa false), (zad none 0 0)]]) hS11
   refine zaf (zak (v := (zaa false)) rfl ?_)
   refine zao (zbn ?_)
   obtain rfl := zag h
   refine ⟨[(zam #[(zad none 0 0), (zaa false), (zad none 0 0)]), (zaa false)], ⟨⟨⟨b6, 0, none⟩, rfl, zeb zaz rfl ti34 (hL15.at 1 rfl rfl) rfl⟩, ⟨rfl, trivial⟩⟩, ⟨_, rfl, hL15.done, ?_⟩⟩
   exact ⟨(zad none 0 0), (zad none 0 0), rfl, zdm, zdm, trivial⟩
  ·
   replace h := ite_f hc11 h
   refine zbi (zaj (zah rfl (zaf (zak (v := (zac .i64 0)) rfl ?_))))
   refine zao (zaj (zaj (zah rfl (zaf (zai (v := l_v) rfl ?_)))))
   have f12 := (((l_h.mono (K4 S)).mono (K9 S)).mono (K14 S))
   refine zaf (zbg (v := l_v) zbc rfl f12 ?_)
   refine zaf (zdo (x := (l.length : Int)) (y := 0) (((l.length : Int) : Int) > 0) rfl rfl zbl ?_)
   refine zao ?_
   obtain ⟨s11, h, g11⟩ := zdq h
   refine zbq (fun e w' => ∃ (n10 : Int) (u : Env), n10 = s11 ∧ e = upds [(0, l_v), (3, (zal (some ⟨b1, 0, none⟩))), (4, (zal (some ⟨b6, 0, none⟩))), (6, (zac .i64 n10))] u ∧ vL w w' [some b1, some b6] [zab [s_v, (zaa s.Divisor.Negative), s_v1], zab [(zad none 0 0), (zaa false), (zad none 0 0)]] ∧ Keep w.heap.size [some b1, some b6] w12 [some b1, some b6] w' ∧ True) ?_ ?_
   ·
    refine zbh (((l.length : Int) : Int) > 0) rfl (fun hc12 => ?_) (fun hc12 => ?_)
    ·
     replace h := ite_t hc12 h
     refine zah rfl (zaf (zai (v := l_v) rfl ?_))
     obtain ⟨x11, q12, h⟩ := zdq h
     obtain ⟨n11, q13, q14⟩ := zdw q12
     obtain ⟨b10, o10, c10, vs10, q15, q16, f13, q17⟩ := zdc f12 q14
     obtain ⟨v10, v11, rfl, k10, k11, -⟩ := rIneq_open q17
     refine zaf (zbz (r := rIneq) (v := l_v) (n := n11) (m := (o10 + n11 * rIneq.sz)) zbc ti34 rfl q15 rfl q13 q14 rfl ?_)
     have f14 := (f13.part (us := [v10]) 0 rfl)
     refine zaf (zar (q := (o10 + n11 * rIneq.sz) + 0) zaz rfl ti32 rfl rfl rfl ?_)
     refine zaf (zct (v := v10) zay rfl rfl zea f14 ?_)
     refine zaf (zbg (v := v10) zay rfl k10 ?_)
     refine zaf (zak (v := (zac .i64 (x11.Coefs.length : Int))) rfl ?_)
     refine zao ?_
     obtain rfl := zag h
     refine zas ?_
     exact ⟨(x11.Coefs.length : Int), _, rfl, (zdv ⟨rfl, rfl, rfl, rfl, trivial⟩), hL14, zbo, trivial⟩
    ·
     replace h := ite_f hc12 h
     refine zbi ?_
     obtain rfl := zag h
     refine zas ?_
     exact ⟨0, _, rfl, (zdv ⟨rfl, rfl, rfl, rfl, trivial⟩), hL14, zbo, trivial⟩
   ·
    rintro _ w14 ⟨n10, u, rfl, rfl, hL16, K15, -⟩
    replace h := g11
    try dsimp only at h
    refine zaj (zah rfl (zaf (zai (v := (zac .i64 n10)) rfl ?_)))
    obtain ⟨r12, q18, h⟩ := zdq h
    refine zaf (zaw en50 rfl rfl (rzero_w N n10 _ Any r12 q18) ?_)
    rintro _ w15 hE12 ⟨ob10, cap10, cs10, sp10, ob11, cap11, cs11, sp11, rfl, hN10, hE13, hc13, hE14, hc14, -⟩
    replace hE13 := hE13.mono (zbd (S := None) hL16 [ob10, ob11])
    replace hE14 := hE14.mono (zbd (S := None) hL16 [ob10, ob11])
    have hp12 := hL16.adoptL hE12 hN10
    have hL17 := hp12.1
    have K16 := ks w hp12.2
    refine zaf (zbw (cs := [(zad none 0 0), (zaa false), (zad none 0 0)]) ti34 rfl hL17 ?_)
    intro b11 w16 hL18 hS12
    have K17 := ks w hS12
    refine zcd (zbk (vs := [(osv ob10 0 r12.Coefs.length cap10), (zaa r12.Bound.Negative), (osv ob11 0 r12.Bound.Digits.length cap11)]) ti34 rfl rfl rfl rfl (zds (zec _ _ _ _) (zds rfl (zds (zec _ _ _ _) zdx))) hL18 0 rfl rfl (zae rfl) ?_)
    intro w17 (hL19 : vL w w17 [some b11, ob10, ob11, some b1, some b6] [zab [(osv ob10 0 r12.Coefs.length cap10), (zaa r12.Bound.Negative), (osv ob11 0 r12.Bound.Digits.length cap11)], zab ([] ++ (cs10 ++ sp10)), zab ([] ++ (cs11 ++ sp11)), zab [s_v, (zaa s.Divisor.Negative), s_v1], zab [(zad none 0 0), (zaa false), (zad none 0 0)]]) hS13
    have K18 := ks w hS13
    refine zao (zaj (zaj (zah rfl (zaf (zak (v := (zac .i64 0)) rfl ?_)))))
    refine zao ?_
    obtain ⟨s12, hl10, g12⟩ := zdq h
    refine zbq (fun e w' => ∃ (coefs10 : (List Big)) (negative10 : Bool) (digits10 : (List Int)) (cs12 : List Value) (v12 : Value) (u : Env), (Sum.inl (coefs10, negative10, digits10)) = s12 ∧ e = upds [(3, (zal (some ⟨b1, 0, none⟩))), (4, (zal (some ⟨b6, 0, none⟩))), (6, (zac .i64 n10)), (7, (zal (some ⟨b11, 0, none⟩)))] u ∧ vL w w' [some b1, some b6, some b11, ob10] [zab [s_v, (zaa s.Divisor.Negative), s_v1], zab [(zad none 0 0), (zaa false), (zad none 0 0)], zab [(osv ob10 0 r12.Coefs.length cap10), (zaa negative10), v12], zab ([] ++ (cs12 ++ sp10))] ∧ Keep w.heap.size [some b11, ob10, ob11, some b1, some b6] w17 [some b1, some b6, some b11, ob10] w' ∧ Els rBig (vH w None [some b1, some b6, some b11, ob10] w') cs12 coefs10 ∧ r12.Coefs.length = List.length coefs10 ∧ (cs12 ++ sp10).length = cap10 * rBig.sz ∧ Rs (rInt .u32) (vH w None [some b1, some b6, some b11, ob10] w') v12 digits10 ∧ True) ?_ ?_
    ·
     refine zbj ?_
     have f15 := ((hE14.mono (K17 None)).mono (K18 None))
     have f16 := hL19.freezeRow 2 rfl rfl f15 rfl rfl rfl hc14
     have hp13 := hL19.pick [0, 1, 3, 4] rfl rfl rfl
     have hL20 : vL w w17 [some b11, ob10, some b1, some b6] [zab [(osv ob10 0 r12.Coefs.length cap10), (zaa r12.Bound.Negative), (osv ob11 0 r12.Bound.Digits.length cap11)], zab ([] ++ (cs10 ++ sp10)), zab [s_v, (zaa s.Divisor.Negative), s_v1], zab [(zad none 0 0), (zaa false), (zad none 0 0)]] := hp13.1
     have K19 := ks w hp13.2
     have hp14 := hL20.pick [2, 3, 0, 1] rfl rfl rfl
     have hL21 : vL w w17 [some b1, some b6, some b11, ob10] [zab [s_v, (zaa s.Divisor.Negative), s_v1], zab [(zad none 0 0), (zaa false), (zad none 0 0)], zab [(osv ob10 0 r12.Coefs.length cap10), (zaa r12.Bound.Negative), (osv ob11 0 r12.Bound.Digits.length cap11)], zab ([] ++ (cs10 ++ sp10))] := hp14.1
     have K20 := ks w hp14.2
     have f17 := ((((hE13.mono (K17 None)).mono (K18 None)).mono (K19 None)).mono (K20 None))
     have f18 := (f16.mono (K20 None))
     refine zci hl10 (fun (ss : ((List Big) × Bool × (List Int) × Int)) (e : Env) (w' : World) => match ss with | (coefs11, negative11, digits11, i10) => ∃ (cs13 : List Value) (v13 : Value) (u : Env), e = upds [(0, l_v), (3, (zal (some ⟨b1, 0, none⟩))), (4, (zal (some ⟨b6, 0, none⟩))), (6, (zac .i64 n10)), (7, (zal (some ⟨b11, 0, none⟩))), (8, (zac .i64 i10))] u ∧ vL w w' [some b1, some b6, some b11, ob10] [zab [s_v, (zaa s.Divisor.Negative), s_v1], zab [(zad none 0 0), (zaa false), (zad none 0 0)], zab [(osv ob10 0 r12.Coefs.length cap10), (zaa negative11), v13], zab ([] ++ (cs13 ++ sp10))] ∧ Keep w.heap.size [some b11, ob10, ob11, some b1, some b6] w17 [some b1, some b6, some b11, ob10] w' ∧ Els rBig (vH w None [some b1, some b6, some b11, ob10] w') cs13 coefs11 ∧ r12.Coefs.length = List.length coefs11 ∧ (cs13 ++ sp10).length = cap10 * rBig.sz ∧ Rs (rInt .u32) (vH w None [some b1, some b6, some b11, ob10] w') v13 digits11 ∧ True) ⟨cs10, (osv ob11 0 r12.Bound.Digits.length cap11), _, (zdv ⟨rfl, rfl, rfl, rfl, rfl, rfl, trivial⟩), hL21, (zaq K19 K20), f17, rfl, hc13, f18, trivial⟩ ?_
     rintro ⟨coefs11, negative11, digits11, i10⟩ oo _ w18 ⟨cs13, v13, u, rfl, hL22, K21, hE15, hl11, hc15, k12, -⟩ h hd10
     rw [rApply_b1] at h
     refine zaj (zaj (zah rfl (zaf (zai (v := (zac .i64 i10)) rfl ?_))))
     refine zaf (zar (q := 0) zck rfl ti23 rfl rfl rfl ?_)
     refine zaf (zbb (v := s_v) zcc rfl rfl (hL22.at 0 rfl rfl) rfl ?_)
     have f19 := ((((((((s_h.mono (K4 S)).mono (K9 S)).mono (K14 S)).mono (K15 S)).mono (K16 S)).mono (K17 S)).mono (K18 S)).mono (K21 S))
     refine zaf (zbg (v := s_v) zcc rfl f19 ?_)
     refine zaf (zcr (x := i10) (y := (s.Uses.length : Int)) ((i10 : Int) < (s.Uses.length : Int)) rfl rfl zbl ?_)
     refine zao ?_
     refine zbh ((i10 : Int) < (s.Uses.length : Int)) rfl (fun hc16 => ?_) (fun hc16 => ?_)
     ·
      replace h := ite_t hc16 h
      refine zbi (zaj (zbj (zaj (zah rfl (zaf (zar (q := 0) zck rfl ti23 rfl rfl rfl ?_))))))
      refine zaf (zbb (v := s_v) zcc rfl rfl (hL22.at 0 rfl rfl) rfl ?_)
      refine zaf (zai (v := (zac .i64 i10)) rfl ?_)
      obtain ⟨x12, q19, h⟩ := zdq h
      obtain ⟨n12, q20, q21⟩ := zdw q19
      obtain ⟨b12, o11, c11, vs11, q22, q23, f20, q24⟩ := zdc f19 q21
      obtain ⟨v14, rfl, k13, -⟩ := rUse_open q24
      refine zaf (zbz (r := rUse) (v := s_v) (n := n12) (m := (o11 + n12 * rUse.sz)) zcc ti50 rfl q22 rfl q20 q21 rfl ?_)
      refine zaf (zdj (vs := [(zac .i64 x12.Index), (zaa x12.N.Negative), v14]) zcp rfl ti50 rfl rfl zea f20 ?_)
      refine zaf (zbw (cs := [(zac .i64 0), (zaa false), (zad none 0 0)]) ti50 rfl hL22 ?_)
      intro b13 w19 hL23 hS14
      have K22 := ks w hS14
      have f21 := (k13.mono (K22 S))
      refine zcd (zbk (vs := [(zac .i64 x12.Index), (zaa x12.N.Negative), v14]) ti50 rfl rfl rfl rfl (zds rfl (zds rfl (zds f21.one zdx))) hL23 0 rfl rfl (zae rfl) ?_)
      intro w20 (hL24 : vL w w20 [some b13, some b1, some b6, some b11, ob10] [zab [(zac .i64 x12.Index), (zaa x12.N.Negative), v14], zab [s_v, (zaa s.Divisor.Negative), s_v1], zab [(zad none 0 0), (zaa false), (zad none 0 0)], zab [(osv ob10 0 r12.Coefs.length cap10), (zaa negative11), v13], zab ([] ++ (cs13 ++ sp10))]) hS15
      have K23 := ks w hS15
      refine zao (zaj (zaj ?_))
      obtain ⟨s13, h, g13⟩ := zdq h
      refine zbq (fun e w' => ∃ (x13 : Bool) (u : Env), x13 = s13 ∧ e = upds [(0, l_v), (3, (zal (some ⟨b1, 0, none⟩))), (4, (zal (some ⟨b6, 0, none⟩))), (6, (zac .i64 n10)), (7, (zal (some ⟨b11, 0, none⟩))), (8, (zac .i64 i10)), (9, (zal (some ⟨b13, 0, none⟩))), (63, (zaa x13))] u ∧ vL w w' [some b1, some b6, some b11, ob10, some b13] [zab [s_v, (zaa s.Divisor.Negative), s_v1], zab [(zad none 0 0), (zaa false), (zad none 0 0)], zab [(osv ob10 0 r12.Coefs.length cap10), (zaa negative11), v13], zab ([] ++ (cs13 ++ sp10)), zab [(zac .i64 x12.Index), (zaa x12.N.Negative), v14]] ∧ Keep w.heap.size [some b13, some b1, some b6, some b11, ob10] w20 [some b1, some b6, some b11, ob10, some b13] w' ∧ True) ?_ ?_
      ·
       refine zah rfl (zaf (zar (q := 0) zcp rfl ti3 rfl rfl rfl ?_))
       refine zaf (zbb (v := (zac .i64 x12.Index)) zbu rfl rfl (hL24.at 0 rfl rfl) rfl ?_)
       refine zaf (zcr (x := x12.Index) (y := 0) ((x12.Index : Int) < 0) rfl rfl zbl ?_)
       refine zaf (zai (v := (zaa (decide ((x12.Index : Int) < 0)))) rfl ?_)
       by_cases hc17 : (x12.Index : Int) < 0
       ·
        replace h := ite_t hc17 h
        refine zbx rfl rfl (zdu hc17) ?_
        refine zbx rfl rfl (zdu hc17) ?_
        refine zbx rfl rfl (zdu hc17) ?_
        refine zbx rfl rfl (zdu hc17) ?_
        refine zbx rfl rfl (zdu hc17) ?_
        refine zaf (zcm (t := (decide ((x12.Index : Int) < 0))) (v := (zaa true)) rfl (zdu hc17) rfl ?_)
        refine zaf (zai (v := (zaa true)) rfl ?_)
        refine zbx rfl rfl rfl ?_
        refine zbx rfl rfl rfl ?_
        refine zbx rfl rfl rfl ?_
        refine zbx rfl rfl rfl ?_
        refine zaf (zcm (t := true) (v := (zaa true)) rfl rfl rfl ?_)
        refine zao ?_
        have hp15 := hL24.pick [1, 2, 3, 4, 0] rfl rfl rfl
        have hL25 : vL w w20 [some b1, some b6, some b11, ob10, some b13] [zab [s_v, (zaa s.Divisor.Negative), s_v1], zab [(zad none 0 0), (zaa false), (zad none 0 0)], zab [(osv ob10 0 r12.Coefs.length cap10), (zaa negative11), v13], zab ([] ++ (cs13 ++ sp10)), zab [(zac .i64 x12.Index), (zaa x12.N.Negative), v14]] := hp15.1
        have K24 := ks w hp15.2
        obtain rfl := zag h
        refine zas ?_
        exact ⟨true, _, rfl, (zdv ⟨rfl, rfl, rfl, rfl, rfl, rfl, rfl, rfl, trivial⟩), hL25, K24, trivial⟩
       ·
        replace h := ite_f hc17 h
        refine zby rfl rfl (zdr hc17) (zar (q := 0) zcp rfl ti3 rfl rfl rfl ?_)
        refine zby rfl rfl (zdr hc17) (zbb (v := (zac .i64 x12.Index)) zbu rfl rfl (hL24.at 0 rfl rfl) rfl ?_)
        refine zby rfl rfl (zdr hc17) (zai (v := l_v) rfl ?_)
        have f22 := (((((((f12.mono (K15 S)).mono (K16 S)).mono (K17 S)).mono (K18 S)).mono (K21 S)).mono (K22 S)).mono (K23 S))
        refine zby rfl rfl (zdr hc17) (zbg (v := l_v) zbc rfl f22 ?_)
        refine zby rfl rfl (zdr hc17) (OpY.geq (x := x12.Index) (y := (l.length : Int)) ((x12.Index : Int) ≥ (l.length : Int)) rfl rfl zbl ?_)
        refine zaf (zca (t := (decide ((x12.Index : Int) < 0))) (v := (zaa (decide ((x12.Index : Int) ≥ (l.length : Int))))) rfl (zdr hc17) rfl ?_)
        refine zaf (zai (v := (zaa (decide ((x12.Index : Int) ≥ (l.length : Int))))) rfl ?_)
        by_cases hc18 : (x12.Index : Int) ≥ (l.length : Int)
        ·
         replace h := ite_t hc18 h
         refine zbx rfl rfl (zdu hc18) ?_
         refine zbx rfl rfl (zdu hc18) ?_
         refine zbx rfl rfl (zdu hc18) ?_
         refine zbx rfl rfl (zdu hc18) ?_
         refine zaf (zcm (t := (decide ((x12.Index : Int) ≥ (l.length : Int)))) (v := (zaa true)) rfl (zdu hc18) rfl ?_)
         refine zao ?_
         have hp16 := hL24.pick [1, 2, 3, 4, 0] rfl rfl rfl
         have hL26 : vL w w20 [some b1, some b6, some b11, ob10, some b13] [zab [s_v, (zaa s.Divisor.Negative), s_v1], zab [(zad none 0 0), (zaa false), (zad none 0 0)], zab [(osv ob10 0 r12.Coefs.length cap10), (zaa negative11), v13], zab ([] ++ (cs13 ++ sp10)), zab [(zac .i64 x12.Index), (zaa x12.N.Negative), v14]] := hp16.1
         have K25 := ks w hp16.2
         obtain rfl := zag h
         refine zas ?_
         exact ⟨true, _, rfl, (zdv ⟨rfl, rfl, rfl, rfl, rfl, rfl, rfl, rfl, trivial⟩), hL26, K25, trivial⟩
        ·
         replace h := ite_f hc18 h
         refine zby rfl rfl (zdr hc18) (zar (q := 1) zcp rfl ti26 rfl rfl rfl ?_)
         refine zby rfl rfl (zdr hc18) (zbe (vs := [(zaa x12.N.Negative), v14]) zan rfl ti26 rfl (hL24.at 0 rfl rfl) rfl rfl ?_)
         obtain ⟨r13, q25, h⟩ := zdq h
         have f23 := (f21.mono (K23 S))
         refine zby rfl rfl (zdr hc18) (zaw en40 rfl rfl (rSign_w N x12.N v14 _ Any (f23.mono vw_any) r13 q25) ?_)
         rintro _ w21 hE16 ⟨rfl, -⟩
         have hL27 := hL24.ext hE16
         have K26 := ke hL24 hE16
         refine zby rfl rfl (zdr hc18) (zcr (x := r13) (y := 0) ((r13 : Int) < 0) rfl rfl zbl ?_)
         refine zaf (zca (t := (decide ((x12.Index : Int) ≥ (l.length : Int)))) (v := (zaa (decide ((r13 : Int) < 0)))) rfl (zdr hc18) rfl ?_)
         refine zao ?_
         have hp17 := hL27.pick [1, 2, 3, 4, 0] rfl rfl rfl
         have hL28 : vL w w21 [some b1, some b6, some b11, ob10, some b13] [zab [s_v, (zaa s.Divisor.Negative), s_v1], zab [(zad none 0 0), (zaa false), (zad none 0 0)], zab [(osv ob10 0 r12.Coefs.length cap10), (zaa negative11), v13], zab ([] ++ (cs13 ++ sp10)), zab [(zac .i64 x12.Index), (zaa x12.N.Negative), v14]] := hp17.1
         have K27 := ks w hp17.2
         obtain rfl := zag h
         refine zas ?_
         exact ⟨(decide ((r13 : Int) < 0)), _, rfl, (zdv ⟨rfl, rfl, rfl, rfl, rfl, rfl, rfl, rfl, trivial⟩), hL28, (zaq K26 K27), trivial⟩
      ·
       rintro _ w22 ⟨x13, u, rfl, rfl, hL29, K28, -⟩
       replace h := g13
       try dsimp only at h
       refine zcu x13 rfl (fun hc19 => ?_) (fun hc19 => ?_)
       ·
        replace h := ite_t hc19 h
        refine zaj (zah rfl (zaf (zdb (zc := [(zad none 0 0), (zaa false), (zad none 0 0)]) (cs := [(zad none 0 0), (zaa false), (zad none 0 0)]) (is := []) (vs := []) (css := []) pl34 ti34 rfl rfl rfl trivial rfl ?_)))
        refine zcd (zbk (vs := [(zad none 0 0), (zaa false), (zad none 0 0)]) ti34 rfl rfl rfl rfl (zds rfl (zds rfl (zds rfl zdx))) hL29 1 rfl rfl (zae rfl) ?_)
        intro w23 (hL30 : vL w w23 [some b1, some b6, some b11, ob10, some b13] [zab [s_v, (zaa s.Divisor.Negative), s_v1], zab [(zad none 0 0), (zaa false), (zad none 0 0)], zab [(osv ob10 0 r12.Coefs.length cap10), (zaa negative11), v13], zab ([] ++ (cs13 ++ sp10)), zab [(zac .i64 x12.Index), (zaa x12.N.Negative), v14]]) hS16
        refine zaf (zak (v := (zaa false)) rfl ?_)
        refine zao (zbn ?_)
        obtain rfl := zag h
        obtain rfl := hd10 _ rfl
        replace h := g12
        try dsimp only at h
        obtain rfl := zag h
        refine ⟨[(zam #[(zad none 0 0), (zaa false), (zad none 0 0)]), (zaa false)], ⟨⟨⟨b6, 0, none⟩, rfl, zeb zaz rfl ti34 (hL30.at 1 rfl rfl) rfl⟩, ⟨rfl, trivial⟩⟩, ⟨_, rfl, hL30.done, ?_⟩⟩
        exact ⟨(zad none 0 0), (zad none 0 0), rfl, zdm, zdm, trivial⟩
       ·
        replace h := ite_f hc19 h
        refine zbi (zaj (zah rfl (zaf (zai (v := l_v) rfl ?_))))
        refine zaf (zar (q := 0) zcp rfl ti3 rfl rfl rfl ?_)
        refine zaf (zbb (v := (zac .i64 x12.Index)) zbu rfl rfl (hL29.at 4 rfl rfl) rfl ?_)
        obtain ⟨x14, q26, h⟩ := zdq h
        obtain ⟨n13, q27, q28⟩ := zdw q26
        have f24 := ((((((((f12.mono (K15 S)).mono (K16 S)).mono (K17 S)).mono (K18 S)).mono (K21 S)).mono (K22 S)).mono (K23 S)).mono (K28 S))
        obtain ⟨b14, o12, c12, vs12, q29, q30, f25, q31⟩ := zdc f24 q28
        obtain ⟨v15, v16, rfl, k14, k15, -⟩ := rIneq_open q31
        refine zaf (zbz (r := rIneq) (v := l_v) (n := n13) (m := (o12 + n13 * rIneq.sz)) zbc ti34 rfl q29 rfl q27 q28 rfl ?_)
        refine zaf (zdj (vs := [v15, (zaa x14.Bound.Negative), v16]) zaz rfl ti34 rfl rfl zea f25 ?_)
        refine zaf (zbw (cs := [(zad none 0 0), (zaa false), (zad none 0 0)]) ti34 rfl hL29 ?_)
        intro b15 w24 hL31 hS17
        have K29 := ks w hS17
        have f26 := (k15.mono (K29 S))
        have f27 := (k14.mono (K29 S))
        refine zcd (zbk (vs := [v15, (zaa x14.Bound.Negative), v16]) ti34 rfl rfl rfl rfl (zds f27.one (zds rfl (zds f26.one zdx))) hL31 0 rfl rfl (zae rfl) ?_)
        intro w25 (hL32 : vL w w25 [some b15, some b1, some b6, some b11, ob10, some b13] [zab [v15, (zaa x14.Bound.Negative), v16], zab [s_v, (zaa s.Divisor.Negative), s_v1], zab [(zad none 0 0), (zaa false), (zad none 0 0)], zab [(osv ob10 0 r12.Coefs.length cap10), (zaa negative11), v13], zab ([] ++ (cs13 ++ sp10)), zab [(zac .i64 x12.Index), (zaa x12.N.Negative), v14]]) hS18
        have K30 := ks w hS18
        refine zao (zaj (zaj (zah rfl (zaf (zak (v := (zac .i64 0)) rfl ?_)))))
        refine zao ?_
        obtain ⟨s14, hl12, g14⟩ := zdq h
        refine zbq (fun e w' => ∃ (coefs12 : (List Big)) (cs14 : List Value) (u : Env), coefs12 = s14 ∧ e = upds [(0, l_v), (3, (zal (some ⟨b1, 0, none⟩))), (4, (zal (some ⟨b6, 0, none⟩))), (6, (zac .i64 n10)), (7, (zal (some ⟨b11, 0, none⟩))), (8, (zac .i64 i10)), (9, (zal (some ⟨b13, 0, none⟩))), (10, (zal (some ⟨b15, 0, none⟩)))] u ∧ vL w w' [some b1, some b6, some b11, ob10, some b13, some b15] [zab [s_v, (zaa s.Divisor.Negative), s_v1], zab [(zad none 0 0), (zaa false), (zad none 0 0)], zab [(osv ob10 0 r12.Coefs.length cap10), (zaa negative11), v13], zab ([] ++ (cs14 ++ sp10)), zab [(zac .i64 x12.Index), (zaa x12.N.Negative), v14], zab [v15, (zaa x14.Bound.Negative), v16]] ∧ Keep w.heap.size [some b15, some b1, some b6, some b11, ob10, some b13] w25 [some b1, some b6, some b11, ob10, some b13, some b15] w' ∧ Els rBig (vH w None [some b1, some b6, some b11, ob10, some b13, some b15] w') cs14 coefs12 ∧ r12.Coefs.length = List.length coefs12 ∧ (cs14 ++ sp10).length = cap10 * rBig.sz ∧ True) ?_ ?_
        ·
         refine zbj ?_
         have hp18 := hL32.pick [1, 2, 3, 4, 5, 0] rfl rfl rfl
         have hL33 : vL w w25 [some b1, some b6, some b11, ob10, some b13, some b15] [zab [s_v, (zaa s.Divisor.Negative), s_v1], zab [(zad none 0 0), (zaa false), (zad none 0 0)], zab [(osv ob10 0 r12.Coefs.length cap10), (zaa negative11), v13], zab ([] ++ (cs13 ++ sp10)), zab [(zac .i64 x12.Index), (zaa x12.N.Negative), v14], zab [v15, (zaa x14.Bound.Negative), v16]] := hp18.1
         have K31 := ks w hp18.2
         have f28 := ((((((hE15.mono (K22 None)).mono (K23 None)).mono (K28 None)).mono (K29 None)).mono (K30 None)).mono (K31 None))
         refine zci hl12 (fun (ss : ((List Big) × Int)) (e : Env) (w' : World) => match ss with | (coefs13, k16) => ∃ (cs15 : List Value) (u : Env), e = upds [(0, l_v), (3, (zal (some ⟨b1, 0, none⟩))), (4, (zal (some ⟨b6, 0, none⟩))), (6, (zac .i64 n10)), (7, (zal (some ⟨b11, 0, none⟩))), (8, (zac .i64 i10)), (9, (zal (some ⟨b13, 0, none⟩))), (10, (zal (some ⟨b15, 0, none⟩))), (11, (zac .i64 k16))] u ∧ vL w w' [some b1, some b6, some b11, ob10, some b13, some b15] [zab [s_v, (zaa s.Divisor.Negative), s_v1], zab [(zad none 0 0), (zaa false), (zad none 0 0)], zab [(osv ob10 0 r12.Coefs.length cap10), (zaa negative11), v13], zab ([] ++ (cs15 ++ sp10)), zab [(zac .i64 x12.Index), (zaa x12.N.Negative), v14], zab [v15, (zaa x14.Bound.Negative), v16]] ∧ Keep w.heap.size [some b15, some b1, some b6, some b11, ob10, some b13] w25 [some b1, some b6, some b11, ob10, some b13, some b15] w' ∧ Els rBig (vH w None [some b1, some b6, some b11, ob10, some b13, some b15] w') cs15 coefs13 ∧ r12.Coefs.length = List.length coefs13 ∧ (cs15 ++ sp10).length = cap10 * rBig.sz ∧ True) ⟨cs13, _, (zdv ⟨rfl, rfl, rfl, rfl, rfl, rfl, rfl, rfl, rfl, trivial⟩), hL33, K31, f28, hl11, hc15, trivial⟩ ?_
         rintro ⟨coefs13, k16⟩ oo _ w26 ⟨cs15, u, rfl, hL34, K32, hE17, hl13, hc20, -⟩ h hd11
         rw [rApply_b2] at h
         refine zaj (zaj (zah rfl (zaf (zai (v := (zac .i64 k16)) rfl ?_))))
         refine zaf (zai (v := (zac .i64 n10)) rfl ?_)
         refine zaf (zcr (x := k16) (y := n10) ((k16 : Int) < n10) rfl rfl zbl ?_)
         refine zao ?_
         refine zbh ((k16 : Int) < n10) rfl (fun hc21 => ?_) (fun hc21 => ?_)
         ·
          replace h := ite_t hc21 h
          refine zbi (zaj (zbj ?_))
          obtain ⟨x15, q32, h⟩ := zdq h
          obtain ⟨n14, q33, q34⟩ := zdw q32
          have q35 := (List.getElem?_eq_some_iff.1 q34).1
          obtain ⟨b16, hb10⟩ := hL34.row_some 3 rfl rfl (row_pos (pre := []) hE17 q34 (Nat.lt_of_sub_eq_succ rfl))
          obtain ⟨vs13, q36, q37, q38⟩ := zee (pre := []) (sp := sp10) hE17 q34
          obtain ⟨v17, rfl, k17, -⟩ := rBig_open q37
          obtain ⟨x16, q39, h⟩ := zdq h
          obtain ⟨n15, q40, q41⟩ := zdw q39
          have f29 := ((f27.mono (K30 S)).mono (K32 S))
          obtain ⟨b17, o13, c13, vs14, q42, q43, f30, q44⟩ := zdc f29 q41
          obtain ⟨v18, rfl, k18, -⟩ := rBig_open q44
          obtain ⟨r14, q45, h⟩ := zdq h
          obtain ⟨r15, q46, h⟩ := zdq h
          refine zcb 17 [] [] (fun W1 => [.det (zal (some ⟨b11, 0, none⟩)), .det (osv ob10 0 r12.Coefs.length cap10), .det (zac .i64 k16), .det (zal (some ⟨b11, 0, none⟩)), .det (osv ob10 0 r12.Coefs.length cap10), .det (zac .i64 k16), .det (zal (some ⟨b16, (0 + n14 * rBig.sz), none⟩)), .det (zam #[(zaa x15.Negative), v17]), .det (zal (some ⟨b15, 0, none⟩)), .det v15, .det (zac .i64 k16), .det (zal (some ⟨b17, (o13 + n15 * rBig.sz), none⟩)), .det (zam #[(zaa x16.Negative), v18]), .det (zal (some ⟨b13, 1, none⟩)), .det (zam #[(zaa x12.N.Negative), v14]), .rel (fun v Z w' => ∃ v19, (zam #[(zaa r14.Negative), v19]) = v ∧ Rs (rInt .u32) (vZ W1 w None [some b1, some b6, some b11, ob10, some b13, some b15] Z w') v19 r14.Digits ∧ True) (fun _ => []), .rel (fun v Z w' => ∃ v20, (zam #[(zaa r15.Negative), v20]) = v ∧ Rs (rInt .u32) (vZ W1 w None [some b1, some b6, some b11, ob10, some b13, some b15] Z w') v20 r15.Digits ∧ True) (fun _ => [])]) mixed rfl rfl rfl (fun _ => rfl) (fun _ => rfl) ?_ ?_
          ·
           intro W1 _
           exact ⟨fun v Z Z' w w' hΦ hz _ _ hs => by obtain ⟨v19, rfl, k19, -⟩ := hΦ; exact ⟨v19, rfl, (k19.mono (zcg hz hs)), trivial⟩, ⟨fun v Z Z' w w' hΦ hz _ _ hs => by obtain ⟨v20, rfl, k20, -⟩ := hΦ; exact ⟨v20, rfl, (k20.mono (zcg hz hs)), trivial⟩, trivial⟩⟩
          ·
           intro w27 hE18
           have hL35 := hL34.ext hE18
           have K33 := ke hL34 hE18
           refine zat (fun _ _ => zau (zar zaz rfl ti32 rfl rfl rfl (er rfl))) ?_
           refine zat (fun _ hE20 => zau (zbb zay rfl rfl ((hL35.ext hE20).at 2 rfl rfl) rfl (er rfl))) ?_
           refine zat (fun _ _ => zau (zai rfl (er rfl))) ?_
           refine zat (fun _ _ => zau (zar zaz rfl ti32 rfl rfl rfl (er rfl))) ?_
           refine zat (fun _ hE23 => zau (zbb zay rfl rfl ((hL35.ext hE23).at 2 rfl rfl) rfl (er rfl))) ?_
           refine zat (fun _ _ => zau (zai rfl (er rfl))) ?_
           refine zat (fun _ _ => zau (zcl (r := rBig) (b := b16) (o := 0) (n := n14) (m := r12.Coefs.length) (xs := coefs13) (q := (0 + n14 * rBig.sz)) zay ti26 (zef hb10) hl13 rfl q33 q35 rfl (er rfl))) ?_
           refine zat (fun _ hE26 => zau (zbe (vs := [(zaa x15.Negative), v17]) zan rfl ti26 rfl (zei hb10 ((hL35.ext hE26).at 3 rfl rfl)) rfl q38 (er rfl))) ?_
           refine zat (fun _ _ => zau (zar zaz rfl ti32 rfl rfl rfl (er rfl))) ?_
           refine zat (fun _ hE28 => zau (zbb zay rfl rfl ((hL35.ext hE28).at 5 rfl rfl) rfl (er rfl))) ?_
           refine zat (fun _ _ => zau (zai rfl (er rfl))) ?_
           refine zat (fun _ _ => zau (zbz (r := rBig) (v := v15) (n := n15) (m := (o13 + n15 * rBig.sz)) zay ti26 rfl q42 rfl q40 q41 rfl (er rfl))) ?_
           refine zat (fun _ hE31 => zau (zdj (vs := [(zaa x16.Negative), v18]) zan rfl ti26 rfl rfl zea (zdd ((ke hL35 hE31) S) (zdd (K33 S) f30)) (er rfl))) ?_
           refine zat (fun _ _ => zau (zar zcp rfl ti26 rfl rfl rfl (er rfl))) ?_
           refine zat (fun _ hE33 => zau (zbe (vs := [(zaa x12.N.Negative), v14]) zan rfl ti26 rfl ((hL35.ext hE33).at 4 rfl rfl) rfl rfl (er rfl))) ?_
           refine zch ?_ ?_
           ·
            rintro w43 Z25 hE34 hZ25 ⟨-⟩
            have K35 := ke hL35 hE34
            refine zau (zaw en39 rfl rfl (rMul_w N x16 x12.N v18 v14 _ Any (((k18.mono (K33 S)).mono (K35 S)).mono vw_any) ((((((((f21.mono (K23 S)).mono (K28 S)).mono (K29 S)).mono (K30 S)).mono (K32 S)).mono (K33 S)).mono (K35 S)).mono vw_any) r14 q45) ?_)
            rintro _ w44 hE35 ⟨v19, rfl, k19, -⟩
            exact zce hE35 hZ25 zbv (fun _ h => h) ⟨v19, rfl, (k19.mono zcz), trivial⟩
           intro z10
           refine zch ?_ ?_
           ·
            rintro w45 Z26 hE36 hZ26 ⟨⟨⟨v19, rfl, k19, -⟩, hB10⟩, -⟩
            have K36 := ke hL35 hE36
            refine zau (zaw en38 rfl rfl (rAdd_w N x15 r14 v17 v19 _ Any (((k17.mono (K33 None)).mono (K36 None)).mono vw_any) (k19.mono vw_any) r15 q46) ?_)
            rintro _ w46 hE37 ⟨v20, rfl, k20, -⟩
            exact zce hE37 hZ26 zbv (fun _ h => h) ⟨v20, rfl, (k20.mono zcz), trivial⟩
           intro z11
           refine zcj ?_
           rintro w47 Z27 hE38 hZ27 ⟨⟨⟨v20, rfl, k20, -⟩, hB11⟩, ⟨⟨v19, rfl, k19, -⟩, hB10⟩, -⟩ ap10
           have hB12 : ∀ b, some b ∈ ([] : List (Option Nat)) → w27.heap.size ≤ b ∧ ¬ Z27 b := by
            intro b hb; cases hb
           replace k20 := k20.mono (zcx hL35 hZ27 hB12)
           replace k19 := k19.mono (zcx hL35 hZ27 hB12)
           have hL41 := hL35.ext hE38
           have K37 := ke hL35 hE38
           obtain ⟨x17, q47, h⟩ := zdq h
           obtain ⟨n16, q48, q49⟩ := zdw q47
           have q50 := (List.getElem?_eq_some_iff.1 q49).1
           refine zaf (zcl (r := rBig) (b := b16) (o := 0) (n := n16) (m := r12.Coefs.length) (xs := coefs13) (q := (0 + n16 * rBig.sz)) zay ti26 (zef hb10) hl13 rfl q48 q50 rfl ?_)
           obtain ⟨x18, q51, h⟩ := zdq h
           obtain ⟨n17, q52, q53, q54⟩ := zeh q51
           obtain rfl := Int.ofNat_inj.1 (q48.symm.trans q52)
           have f31 := ((hE17.mono (K33 None)).mono (K37 None))
           refine zcd (zdl (pre := []) (r := rBig) (vs := [(zaa r15.Negative), v20]) (a := r15) ti26 rfl rfl rfl (rBig_close ⟨v20, rfl, k20, trivial⟩) hL41 3 (congrArg some hb10) rfl f31 q50 rfl q54 ?_)
           have hl14 : r12.Coefs.length = List.length x18 := by rw [q54, List.length_set]; exact hl13
           intro w48 cs16 (hL42 : vL w w48 [some b1, some b6, some b11, ob10, some b13, some b15] [zab [s_v, (zaa s.Divisor.Negative), s_v1], zab [(zad none 0 0), (zaa false), (zad none 0 0)], zab [(osv ob10 0 r12.Coefs.length cap10), (zaa negative11), v13], zab ([] ++ (cs16 ++ sp10)), zab [(zac .i64 x12.Index), (zaa x12.N.Negative), v14], zab [v15, (zaa x14.Bound.Negative), v16]]) hS19 hE39 q55
           have hc22 : (cs16 ++ sp10).length = cap10 * rBig.sz := by have := hc20; rw [List.length_append] at this ⊢; rw [q55]; exact this
           have K38 := ks w hS19
           refine zao (zbr (zah rfl (zaf (zai (v := (zac .i64 k16)) rfl ?_))))
           refine zaf (zcf (x := k16) (y := 1) (z := (iw (k16 + 1))) rfl rfl rfl ?_)
           refine zaf (zak (v := (zac .i64 (iw (k16 + 1)))) rfl ?_)
           refine zao ?_
           have f32 := (hE39.mono (K38 None))
           obtain rfl := zag h
           refine zas ⟨(x18, (iw (k16 + 1))), rfl, ?_⟩
           exact ⟨cs16, _, (zdv ⟨rfl, rfl, rfl, rfl, rfl, rfl, rfl, rfl, rfl, trivial⟩), hL42, (zaq (zaq (zaq K32 K33) K37) K38), f32, hl14, hc22, trivial⟩
         ·
          replace h := ite_f hc21 h
          refine zcs rfl ?_
          obtain rfl := zag h
          obtain rfl := hd11 _ rfl
          replace h := g14
          try dsimp only at h
          skip
          refine zas ?_
          exact ⟨coefs13, cs15, _, rfl, (zdv ⟨rfl, rfl, rfl, rfl, rfl, rfl, rfl, rfl, trivial⟩), hL34, K32, hE17, hl13, hc20, trivial⟩
        ·
         rintro _ w49 ⟨coefs12, cs14, u, rfl, rfl, hL43, K39, hE40, hl15, hc23, -⟩
         replace h := g14
         try dsimp only at h
         obtain ⟨r16, q56, h⟩ := zdq h
         refine zcb 7 [] [] (fun W1 => [.det (zal (some ⟨b11, 1, none⟩)), .det (zam #[(zaa negative11), v13]), .det (zal (some ⟨b15, 1, none⟩)), .det (zam #[(zaa x14.Bound.Negative), v16]), .det (zal (some ⟨b13, 1, none⟩)), .det (zam #[(zaa x12.N.Negative), v14]), .rel (fun v Z w' => ∃ v21, (zam #[(zaa r16.Negative), v21]) = v ∧ Rs (rInt .u32) (vZ W1 w None [some b1, some b6, some b11, ob10, some b13, some b15] Z w') v21 r16.Digits ∧ True) (fun _ => [])]) mixed rfl rfl rfl (fun _ => rfl) (fun _ => rfl) ?_ ?_
         ·
          intro W1 _
          exact ⟨fun v Z Z' w w' hΦ hz _ _ hs => by obtain ⟨v21, rfl, k21, -⟩ := hΦ; exact ⟨v21, rfl, (k21.mono (zcg hz hs)), trivial⟩, trivial⟩
         ·
          intro w50 hE41
          have hL44 := hL43.ext hE41
          have K40 := ke hL43 hE41
          refine zat (fun _ _ => zau (zar zaz rfl ti26 rfl rfl rfl (er rfl))) ?_
          refine zat (fun _ hE43 => zau (zbe (vs := [(zaa negative11), v13]) zan rfl ti26 rfl ((hL44.ext hE43).at 2 rfl rfl) rfl rfl (er rfl))) ?_
          refine zat (fun _ _ => zau (zar zaz rfl ti26 rfl rfl rfl (er rfl))) ?_
          refine zat (fun _ hE45 => zau (zbe (vs := [(zaa x14.Bound.Negative), v16]) zan rfl ti26 rfl ((hL44.ext hE45).at 5 rfl rfl) rfl rfl (er rfl))) ?_
          refine zat (fun _ _ => zau (zar zcp rfl ti26 rfl rfl rfl (er rfl))) ?_
          refine zat (fun _ hE47 => zau (zbe (vs := [(zaa x12.N.Negative), v14]) zan rfl ti26 rfl ((hL44.ext hE47).at 4 rfl rfl) rfl rfl (er rfl))) ?_
          refine zch ?_ ?_
          ·
           rintro w57 Z34 hE48 hZ34 ⟨-⟩
           have K41 := ke hL44 hE48
           refine zau (zaw en39 rfl rfl (rMul_w N x14.Bound x12.N v16 v14 _ Any (((((f26.mono (K30 S)).mono (K39 S)).mono (K40 S)).mono (K41 S)).mono vw_any) ((((((((f21.mono (K23 S)).mono (K28 S)).mono (K29 S)).mono (K30 S)).mono (K39 S)).mono (K40 S)).mono (K41 S)).mono vw_any) r16 q56) ?_)
           rintro _ w58 hE49 ⟨v21, rfl, k21, -⟩
           exact zce hE49 hZ34 zbv (fun _ h => h) ⟨v21, rfl, (k21.mono zcz), trivial⟩
          intro z6
          refine zcj ?_
          rintro w59 Z35 hE50 hZ35 ⟨⟨⟨v21, rfl, k21, -⟩, hB6⟩, -⟩ ap11
          have hB13 : ∀ b, some b ∈ ([] : List (Option Nat)) → w50.heap.size ≤ b ∧ ¬ Z35 b := by
           intro b hb; cases hb
          replace k21 := k21.mono (zcx hL44 hZ35 hB13)
          have hL48 := hL44.ext hE50
          have K42 := ke hL44 hE50
          obtain ⟨r17, q57, h⟩ := zdq h
          have f33 := ((((((((k12.mono (K22 None)).mono (K23 None)).mono (K28 None)).mono (K29 None)).mono (K30 None)).mono (K39 None)).mono (K40 None)).mono (K42 None))
          refine zaf (zaw en38 rfl rfl (rAdd_w N (Big.mk negative11 digits11) r16 v13 v21 _ Any (f33.mono vw_any) (k21.mono vw_any) r17 q57) ?_)
          rintro _ w60 hE51 ⟨v22, rfl, k22, -⟩
          replace k22 := k22.mono (zbd (S := None) hL48 [])
          have hL49 := hL48.ext hE51
          have K43 := ke hL48 hE51
          refine zaf (zar (q := 1) zaz rfl ti26 rfl rfl rfl ?_)
          refine zcd (zbk (vs := [(zaa r17.Negative), v22]) ti26 rfl rfl rfl rfl (zds rfl (zds k22.one zdx)) hL49 2 rfl rfl (zae rfl) ?_)
          intro w61 (hL50 : vL w w61 [some b1, some b6, some b11, ob10, some b13, some b15] [zab [s_v, (zaa s.Divisor.Negative), s_v1], zab [(zad none 0 0), (zaa false), (zad none 0 0)], zab [(osv ob10 0 r12.Coefs.length cap10), (zaa r17.Negative), v22], zab ([] ++ (cs14 ++ sp10)), zab [(zac .i64 x12.Index), (zaa x12.N.Negative), v14], zab [v15, (zaa x14.Bound.Negative), v16]]) hS20
          have K44 := ks w hS20
          refine zao (zbr (zah rfl (zaf (zai (v := (zac .i64 i10)) rfl ?_))))
          refine zaf (zcf (x := i10) (y := 1) (z := (iw (i10 + 1))) rfl rfl rfl ?_)
          refine zaf (zak (v := (zac .i64 (iw (i10 + 1)))) rfl ?_)
          refine zao ?_
          have hp19 := hL50.pick [0, 1, 2, 3] rfl rfl rfl
          have hL51 : vL w w61 [some b1, some b6, some b11, ob10] [zab [s_v, (zaa s.Divisor.Negative), s_v1], zab [(zad none 0 0), (zaa false), (zad none 0 0)], zab [(osv ob10 0 r12.Coefs.length cap10), (zaa r17.Negative), v22], zab ([] ++ (cs14 ++ sp10))] := hp19.1
          have K45 := ks w hp19.2
          have f34 := (((((hE40.mono (K40 None)).mono (K42 None)).mono (K43 None)).mono (K44 None)).mono (K45 None))
          have f35 := ((k22.mono (K44 None)).mono (K45 None))
          obtain rfl := zag h
          refine zas ⟨(coefs12, r17.Negative, r17.Digits, (iw (i10 + 1))), rfl, ?_⟩
          exact ⟨cs14, v22, _, (zdv ⟨rfl, rfl, rfl, rfl, rfl, rfl, trivial⟩), hL51, (zaq (zaq (zaq (zaq (zaq (zaq (zaq (zaq (zaq (zaq (zaq K21 K22) K23) K28) K29) K30) K39) K40) K42) K43) K44) K45), f34, hl15, hc23, f35, trivial⟩
     ·
      replace h := ite_f hc16 h
      refine zcs rfl ?_
      obtain rfl := zag h
      obtain rfl := hd10 _ rfl
      replace h := g12
      try dsimp only at h
      skip
      refine zas ?_
      exact ⟨coefs11, negative11, digits11, cs13, v13, _, rfl, (zdv ⟨rfl, rfl, rfl, rfl, trivial⟩), hL22, K21, hE15, hl11, hc15, k12, trivial⟩
    ·
     rintro _ w62 ⟨coefs10, negative10, digits10, cs12, v12, u, rfl, rfl, hL52, K46, hE52, hl16, hc24, k23, -⟩
     replace h := g12
     try dsimp only at h
     refine zaj (zaj (zah rfl (zaf (zak (v := (zac .i64 0)) rfl ?_))))
     refine zao ?_
     obtain ⟨s15, hl17, g15⟩ := zdq h
     refine zbq (fun e w' => ∃ (coefs14 : (List Big)) (cs17 : List Value) (u : Env), (Sum.inl coefs14) = s15 ∧ e = upds [(3, (zal (some ⟨b1, 0, none⟩))), (4, (zal (some ⟨b6, 0, none⟩))), (7, (zal (some ⟨b11, 0, none⟩)))] u ∧ vL w w' [some b1, some b6, some b11, ob10] [zab [s_v, (zaa s.Divisor.Negative), s_v1], zab [(zad none 0 0), (zaa false), (zad none 0 0)], zab [(osv ob10 0 r12.Coefs.length cap10), (zaa negative10), v12], zab ([] ++ (cs17 ++ sp10))] ∧ Keep w.heap.size [some b1, some b6, some b11, ob10] w62 [some b1, some b6, some b11, ob10] w' ∧ Els rBig (vH w None [some b1, some b6, some b11, ob10] w') cs17 coefs14 ∧ r12.Coefs.length = List.length coefs14 ∧ (cs17 ++ sp10).length = cap10 * rBig.sz ∧ True) ?_ ?_
     ·
      refine zbj ?_
      refine zci hl17 (fun (ss : ((List Big) × Int)) (e : Env) (w' : World) => match ss with | (coefs15, k24) => ∃ (cs18 : List Value) (u : Env), e = upds [(3, (zal (some ⟨b1, 0, none⟩))), (4, (zal (some ⟨b6, 0, none⟩))), (6, (zac .i64 n10)), (7, (zal (some ⟨b11, 0, none⟩))), (12, (zac .i64 k24))] u ∧ vL w w' [some b1, some b6, some b11, ob10] [zab [s_v, (zaa s.Divisor.Negative), s_v1], zab [(zad none 0 0), (zaa false), (zad none 0 0)], zab [(osv ob10 0 r12.Coefs.length cap10), (zaa negative10), v12], zab ([] ++ (cs18 ++ sp10))] ∧ Keep w.heap.size [some b1, some b6, some b11, ob10] w62 [some b1, some b6, some b11, ob10] w' ∧ Els rBig (vH w None [some b1, some b6, some b11, ob10] w') cs18 coefs15 ∧ r12.Coefs.length = List.length coefs15 ∧ (cs18 ++ sp10).length = cap10 * rBig.sz ∧ True) ⟨cs12, _, (zdv ⟨rfl, rfl, rfl, rfl, rfl, trivial⟩), hL52, zbo, hE52, hl16, hc24, trivial⟩ ?_
      rintro ⟨coefs15, k24⟩ oo _ w63 ⟨cs18, u, rfl, hL53, K47, hE53, hl18, hc25, -⟩ h hd12
      rw [rApply_b3] at h
      refine zaj (zaj (zah rfl (zaf (zai (v := (zac .i64 k24)) rfl ?_))))
      refine zaf (zai (v := (zac .i64 n10)) rfl ?_)
      refine zaf (zcr (x := k24) (y := n10) ((k24 : Int) < n10) rfl rfl zbl ?_)
      refine zao ?_
      refine zbh ((k24 : Int) < n10) rfl (fun hc26 => ?_) (fun hc26 => ?_)
      ·
       replace h := ite_t hc26 h
       refine zbi (zaj (zbj (zaj ?_)))
       obtain ⟨x19, q58, h⟩ := zdq h
       obtain ⟨n18, q59, q60⟩ := zdw q58
       have q61 := (List.getElem?_eq_some_iff.1 q60).1
       obtain ⟨b18, hb11⟩ := hL53.row_some 3 rfl rfl (row_pos (pre := []) hE53 q60 (Nat.lt_of_sub_eq_succ rfl))
       obtain ⟨vs15, q62, q63, q64⟩ := zee (pre := []) (sp := sp10) hE53 q60
       obtain ⟨v23, rfl, k25, -⟩ := rBig_open q63
       obtain ⟨r18, q65, h⟩ := zdq h
       refine zcb 14 [] [10, 11] (fun W1 => [.det (zal (some ⟨b11, 0, none⟩)), .det (osv ob10 0 r12.Coefs.length cap10), .det (zac .i64 k24), .det (zal (some ⟨b18, (0 + n18 * rBig.sz), none⟩)), .det (zam #[(zaa x19.Negative), v23]), .det (zal (some ⟨b1, 1, none⟩)), .det (zam #[(zaa s.Divisor.Negative), s_v1]), .rel (fun v Z w' => ∃ v24 v25, (Value.tuple #[(zam #[(zaa r18.1.Negative), v24]), (zam #[(zaa r18.2.1.Negative), v25]), (zaa r18.2.2)]) = v ∧ Rs (rInt .u32) (vZ W1 w None [some b1, some b6, some b11, ob10] Z w') v24 r18.1.Digits ∧ Rs (rInt .u32) (vZ W1 w None [some b1, some b6, some b11, ob10] Z w') v25 r18.2.1.Digits ∧ True) (fun _ => []), .rel (fun v Z w' => ∃ v26 v27, (Value.tuple #[(zam #[(zaa r18.1.Negative), v26]), (zam #[(zaa r18.2.1.Negative), v27]), (zaa r18.2.2)]) = v ∧ Rs (rInt .u32) (vZ W1 w None [some b1, some b6, some b11, ob10] Z w') v26 r18.1.Digits ∧ Rs (rInt .u32) (vZ W1 w None [some b1, some b6, some b11, ob10] Z w') v27 r18.2.1.Digits ∧ True) (fun _ => []), .fn 8 (tg 0), .fn 8 (tg 1), .fn 8 (tg 2), .rel (fun v Z w' => ∃ b19, (zal (some ⟨b19, 0, none⟩)) = v ∧ OwnC w' (some b19) (zab [(zaa false), (zad none 0 0)]) ∧ True) footV, .rel (fun v Z w' => ∃ b20, (zal (some ⟨b20, 0, none⟩)) = v ∧ OwnC w' (some b20) (zab [(zaa false), (zad none 0 0)]) ∧ True) footV]) mixed rfl rfl rfl (fun _ => rfl) (fun _ => rfl) ?_ ?_
       ·
        intro W1 _
        exact ⟨fun v Z Z' w w' hΦ hz _ _ hs => by obtain ⟨v24, v25, rfl, k26, k27, -⟩ := hΦ; exact ⟨v24, v25, rfl, (k26.mono (zcg hz hs)), (k27.mono (zcg hz hs)), trivial⟩, ⟨fun v Z Z' w w' hΦ hz _ _ hs => by obtain ⟨v26, v27, rfl, k28, k29, -⟩ := hΦ; exact ⟨v26, v27, rfl, (k28.mono (zcg hz hs)), (k29.mono (zcg hz hs)), trivial⟩, ⟨fun v Z Z' w w' hΦ hz _ _ hs => by obtain ⟨b19, rfl, hO10, -⟩ := hΦ; exact ⟨b19, rfl, (hO10.stay (fun b hb => by cases hb; exact zav) hs), trivial⟩, ⟨fun v Z Z' w w' hΦ hz _ _ hs => by obtain ⟨b20, rfl, hO11, -⟩ := hΦ; exact ⟨b20, rfl, (hO11.stay (fun b hb => by cases hb; exact zav) hs), trivial⟩, trivial⟩⟩⟩⟩
       ·
        intro w64 hE54
        have hL54 := hL53.ext hE54
        have K48 := ke hL53 hE54
        refine zat (fun _ _ => zau (zar zaz rfl ti32 rfl rfl rfl (er rfl))) ?_
        refine zat (fun _ hE56 => zau (zbb zay rfl rfl ((hL54.ext hE56).at 2 rfl rfl) rfl (er rfl))) ?_
        refine zat (fun _ _ => zau (zai rfl (er rfl))) ?_
        refine zat (fun _ _ => zau (zcl (r := rBig) (b := b18) (o := 0) (n := n18) (m := r12.Coefs.length) (xs := coefs15) (q := (0 + n18 * rBig.sz)) zay ti26 (zef hb11) hl18 rfl q59 q61 rfl (er rfl))) ?_
        refine zat (fun _ hE59 => zau (zbe (vs := [(zaa x19.Negative), v23]) zan rfl ti26 rfl (zei hb11 ((hL54.ext hE59).at 3 rfl rfl)) rfl q64 (er rfl))) ?_
        refine zat (fun _ _ => zau (zar zck rfl ti26 rfl rfl rfl (er rfl))) ?_
        refine zat (fun _ hE61 => zau (zbe (vs := [(zaa s.Divisor.Negative), s_v1]) zan rfl ti26 rfl ((hL54.ext hE61).at 0 rfl rfl) rfl rfl (er rfl))) ?_
        refine zch ?_ ?_
        ·
         rintro w72 Z43 hE62 hZ43 ⟨-⟩
         have K49 := ke hL54 hE62
         refine zau (zaw en51 rfl rfl (rDivFloor_w N x19 s.Divisor v23 s_v1 _ Any (((k25.mono (K48 None)).mono (K49 None)).mono vw_any) ((((((((((((s_h1.mono (K4 S)).mono (K9 S)).mono (K14 S)).mono (K15 S)).mono (K16 S)).mono (K17 S)).mono (K18 S)).mono (K46 S)).mono (K47 S)).mono (K48 S)).mono (K49 S)).mono vw_any) r18 q65) ?_)
         rintro _ w73 hE63 ⟨v24, v25, rfl, k26, k27, -⟩
         exact zce hE63 hZ43 zbv (fun _ h => h) ⟨v24, v25, rfl, (k26.mono zcz), (k27.mono zcz), trivial⟩
        intro z7
        refine zch ?_ ?_
        ·
         rintro w74 Z44 hE64 hZ44 ⟨⟨⟨v24, v25, rfl, k26, k27, -⟩, hB7⟩, -⟩
         refine zau (zai (v := (Value.tuple #[(zam #[(zaa r18.1.Negative), v24]), (zam #[(zaa r18.2.1.Negative), v25]), (zaa r18.2.2)])) rfl ?_)
         exact Go.X.Made.same ⟨v24, v25, rfl, k26, k27, trivial⟩
        intro z8
        refine DrH.fn rfl ?_ ?_
        ·
         rintro w75 Z45 hE65 hZ45 ⟨⟨⟨v26, v27, rfl, k28, k29, -⟩, hB8⟩, -, -⟩
         refine zau (zco (vs := [(zam #[(zaa r18.1.Negative), v26]), (zam #[(zaa r18.2.1.Negative), v27]), (zaa r18.2.2)]) (v := (zam #[(zaa r18.1.Negative), v26])) rfl rfl ?_)
         exact ⟨Ext.refl _, rfl⟩
        refine DrH.fn rfl ?_ ?_
        ·
         rintro w76 Z46 hE66 hZ46 ⟨⟨⟨v26, v27, rfl, k28, k29, -⟩, hB8⟩, -, -⟩
         refine zau (zco (vs := [(zam #[(zaa r18.1.Negative), v26]), (zam #[(zaa r18.2.1.Negative), v27]), (zaa r18.2.2)]) (v := (zam #[(zaa r18.2.1.Negative), v27])) rfl rfl ?_)
         exact ⟨Ext.refl _, rfl⟩
        refine DrH.fn rfl ?_ ?_
        ·
         rintro w77 Z47 hE67 hZ47 ⟨⟨⟨v26, v27, rfl, k28, k29, -⟩, hB8⟩, -, -⟩
         refine zau (zco (vs := [(zam #[(zaa r18.1.Negative), v26]), (zam #[(zaa r18.2.1.Negative), v27]), (zaa r18.2.2)]) (v := (zaa r18.2.2)) rfl rfl ?_)
         exact ⟨Ext.refl _, rfl⟩
        refine zch ?_ ?_
        ·
         rintro w78 Z48 hE68 hZ48 ⟨-, -, -⟩
         refine zau (zbw (cs := [(zaa false), (zad none 0 0)]) ti26 rfl (Go.X.Loc.begin0 w78) ?_)
         intro b19 w79 hL58 hS21
         have hN11 : NewOwn w78 w79 [some b19] [zab [(zaa false), (zad none 0 0)]] := hL58.newOwn [0] rfl rfl rfl
         exact zce hL58.done hZ48 hN11 (fun _ h => h) ⟨b19, rfl, hN11.2.2.1, trivial⟩
        intro z12
        refine zch ?_ ?_
        ·
         rintro w80 Z49 hE69 hZ49 ⟨-, -, -, -⟩
         refine zau (zbw (cs := [(zaa false), (zad none 0 0)]) ti26 rfl (Go.X.Loc.begin0 w80) ?_)
         intro b20 w81 hL59 hS22
         have hN12 : NewOwn w80 w81 [some b20] [zab [(zaa false), (zad none 0 0)]] := hL59.newOwn [0] rfl rfl rfl
         exact zce hL59.done hZ49 hN12 (fun _ h => h) ⟨b20, rfl, hN12.2.2.1, trivial⟩
        intro z13
        refine DrH.fin ?_
        rintro w82 Z50 hE70 hZ50 ⟨⟨⟨b20, rfl, hO11, -⟩, hB14⟩, ⟨⟨b19, rfl, hO10, -⟩, hB15⟩, ⟨⟨v26, v27, rfl, k28, k29, -⟩, hB8⟩, ⟨⟨v24, v25, rfl, k26, k27, -⟩, hB7⟩, -⟩ ap12
        have hB16 : ∀ b, some b ∈ ([some b20, some b19] : List (Option Nat)) → w64.heap.size ≤ b ∧ ¬ Z50 b := by
         intro b hb
         rcases List.mem_cons.1 hb with hb' | hb
         ·
          have := hB14 b (by rw [hb']; exact zav); exact ⟨this.1, this.2.2⟩
         rcases List.mem_cons.1 hb with hb' | hb
         ·
          have := hB15 b (by rw [hb']; exact zav); exact ⟨this.1, this.2.2⟩
         cases hb
        replace k28 := k28.mono (zcx hL54 hZ50 hB16)
        replace k29 := k29.mono (zcx hL54 hZ50 hB16)
        replace k26 := k26.mono (zcx hL54 hZ50 hB16)
        replace k27 := k27.mono (zcx hL54 hZ50 hB16)
        have hN13 : NewOwn w64 w82 [some b20, some b19] [zab [(zaa false), (zad none 0 0)], zab [(zaa false), (zad none 0 0)]] := (zcy (zcy zbv hO10 (fun b hb => (hB16 b (by rw [← hb]; simp)).1) (fun b _ hb => by cases hb)) hO11 (fun b hb => (hB16 b (by rw [← hb]; simp)).1) (fun b hb hm => (List.mem_cons.1 hm).elim (fun e => apE (ap12.1) rfl rfl b (hb) ((by rw [e]; exact zav))) (fun hm => by cases hm)))
        have hp20 := hL54.adoptL hE70 hN13
        have hL60 := hp20.1
        have K50 := ks w hp20.2
        refine RlL.op0 (zbk (vs := [(zaa r18.1.Negative), v26]) ti26 rfl rfl rfl rfl (zds rfl (zds k28.one zdx)) hL60 1 rfl rfl (zae rfl) ?_)
        intro w83 (hL61 : vL w w83 [some b20, some b19, some b1, some b6, some b11, ob10] [zab [(zaa false), (zad none 0 0)], zab [(zaa r18.1.Negative), v26], zab [s_v, (zaa s.Divisor.Negative), s_v1], zab [(zad none 0 0), (zaa false), (zad none 0 0)], zab [(osv ob10 0 r12.Coefs.length cap10), (zaa negative10), v12], zab ([] ++ (cs18 ++ sp10))]) hS23
        have K51 := ks w hS23
        refine ⟨?_, ?_⟩
        ·
         refine LateP.cons (i := 10) rfl rfl (zau (zco (vs := [(zam #[(zaa r18.1.Negative), v26]), (zam #[(zaa r18.2.1.Negative), v27]), (zaa r18.2.2)]) (v := (zam #[(zaa r18.2.1.Negative), v27])) rfl rfl ⟨rfl, rfl⟩)) ?_
         refine LateP.cons (i := 11) rfl rfl (zau (zco (vs := [(zam #[(zaa r18.1.Negative), v26]), (zam #[(zaa r18.2.1.Negative), v27]), (zaa r18.2.2)]) (v := (zaa r18.2.2)) rfl rfl ⟨rfl, rfl⟩)) ?_
         exact LateP.nil
        have f36 := (k29.mono (K51 None))
        refine RlL.op0 (zbk (vs := [(zaa r18.2.1.Negative), v27]) ti26 rfl rfl rfl rfl (zds rfl (zds f36.one zdx)) hL61 0 rfl rfl (zae rfl) ?_)
        intro w84 (hL62 : vL w w84 [some b20, some b19, some b1, some b6, some b11, ob10] [zab [(zaa r18.2.1.Negative), v27], zab [(zaa r18.1.Negative), v26], zab [s_v, (zaa s.Divisor.Negative), s_v1], zab [(zad none 0 0), (zaa false), (zad none 0 0)], zab [(osv ob10 0 r12.Coefs.length cap10), (zaa negative10), v12], zab ([] ++ (cs18 ++ sp10))]) hS24
        have K52 := ks w hS24
        refine ⟨?_, ?_⟩
        ·
         refine LateP.cons (i := 11) rfl rfl (zau (zco (vs := [(zam #[(zaa r18.1.Negative), v26]), (zam #[(zaa r18.2.1.Negative), v27]), (zaa r18.2.2)]) (v := (zaa r18.2.2)) rfl rfl ⟨rfl, rfl⟩)) ?_
         exact LateP.nil
        refine RlL.op (zak (v := (zaa r18.2.2)) rfl ?_)
        refine ⟨?_, ?_⟩
        ·
         exact LateP.nil
        refine RlL_nil ?_
        refine zao (zaj (zaj (zah rfl (zaf (zbe (vs := [(zaa r18.2.1.Negative), v27]) zan rfl ti26 rfl (hL62.at 0 rfl rfl) rfl rfl ?_)))))
        obtain ⟨r19, q66, h⟩ := zdq h
        have f37 := (f36.mono (K52 None))
        refine zaf (zaw en40 rfl rfl (rSign_w N r18.2.1 v27 _ Any (f37.mono vw_any) r19 q66) ?_)
        rintro _ w85 hE71 ⟨rfl, -⟩
        have hL63 := hL62.ext hE71
        have K53 := ke hL62 hE71
        refine zaf (OpY.neq (x := r19) (y := 0) ((r19 : Int) ≠ 0) rfl rfl zbl ?_)
        refine zao ?_
        refine zbh ((r19 : Int) ≠ 0) rfl (fun hc27 => ?_) (fun hc27 => ?_)
        ·
         replace h := ite_t hc27 h
         refine zaj (zah rfl (zaf (zdb (zc := [(zad none 0 0), (zaa false), (zad none 0 0)]) (cs := [(zad none 0 0), (zaa false), (zad none 0 0)]) (is := []) (vs := []) (css := []) pl34 ti34 rfl rfl rfl trivial rfl ?_)))
         refine zcd (zbk (vs := [(zad none 0 0), (zaa false), (zad none 0 0)]) ti34 rfl rfl rfl rfl (zds rfl (zds rfl (zds rfl zdx))) hL63 3 rfl rfl (zae rfl) ?_)
         intro w86 (hL64 : vL w w86 [some b20, some b19, some b1, some b6, some b11, ob10] [zab [(zaa r18.2.1.Negative), v27], zab [(zaa r18.1.Negative), v26], zab [s_v, (zaa s.Divisor.Negative), s_v1], zab [(zad none 0 0), (zaa false), (zad none 0 0)], zab [(osv ob10 0 r12.Coefs.length cap10), (zaa negative10), v12], zab ([] ++ (cs18 ++ sp10))]) hS25
         refine zaf (zak (v := (zaa false)) rfl ?_)
         refine zao (zbn ?_)
         obtain rfl := zag h
         obtain rfl := hd12 _ rfl
         replace h := g15
         try dsimp only at h
         obtain rfl := zag h
         refine ⟨[(zam #[(zad none 0 0), (zaa false), (zad none 0 0)]), (zaa false)], ⟨⟨⟨b6, 0, none⟩, rfl, zeb zaz rfl ti34 (hL64.at 3 rfl rfl) rfl⟩, ⟨rfl, trivial⟩⟩, ⟨_, rfl, hL64.done, ?_⟩⟩
         exact ⟨(zad none 0 0), (zad none 0 0), rfl, zdm, zdm, trivial⟩
        ·
         replace h := ite_f hc27 h
         refine zbi (zah rfl (zaf (zar (q := 0) zaz rfl ti32 rfl rfl rfl ?_)))
         refine zaf (zbb (v := (osv ob10 0 r12.Coefs.length cap10)) zay rfl rfl (hL63.at 4 rfl rfl) rfl ?_)
         refine zaf (zai (v := (zac .i64 k24)) rfl ?_)
         refine zaf (zbe (vs := [(zaa r18.1.Negative), v26]) zan rfl ti26 rfl (hL63.at 1 rfl rfl) rfl rfl ?_)
         obtain ⟨x20, q67, h⟩ := zdq h
         obtain ⟨n19, q68, q69⟩ := zdw q67
         have q70 := (List.getElem?_eq_some_iff.1 q69).1
         refine zaf (zcl (r := rBig) (b := b18) (o := 0) (n := n19) (m := r12.Coefs.length) (xs := coefs15) (q := (0 + n19 * rBig.sz)) zay ti26 (zef hb11) hl18 rfl q68 q70 rfl ?_)
         obtain ⟨x21, q71, h⟩ := zdq h
         obtain ⟨n20, q72, q73, q74⟩ := zeh q71
         obtain rfl := Int.ofNat_inj.1 (q68.symm.trans q72)
         have f38 := (((((hE53.mono (K48 None)).mono (K50 None)).mono (K51 None)).mono (K52 None)).mono (K53 None))
         have f39 := (((k28.mono (K51 None)).mono (K52 None)).mono (K53 None))
         refine zcd (zdl (pre := []) (r := rBig) (vs := [(zaa r18.1.Negative), v26]) (a := r18.1) ti26 rfl rfl rfl (rBig_close ⟨v26, rfl, f39, trivial⟩) hL63 5 (congrArg some hb11) rfl f38 q70 rfl q74 ?_)
         have hl19 : r12.Coefs.length = List.length x21 := by rw [q74, List.length_set]; exact hl18
         intro w87 cs19 (hL65 : vL w w87 [some b20, some b19, some b1, some b6, some b11, ob10] [zab [(zaa r18.2.1.Negative), v27], zab [(zaa r18.1.Negative), v26], zab [s_v, (zaa s.Divisor.Negative), s_v1], zab [(zad none 0 0), (zaa false), (zad none 0 0)], zab [(osv ob10 0 r12.Coefs.length cap10), (zaa negative10), v12], zab ([] ++ (cs19 ++ sp10))]) hS26 hE72 q75
         have hc28 : (cs19 ++ sp10).length = cap10 * rBig.sz := by have := hc25; rw [List.length_append] at this ⊢; rw [q75]; exact this
         have K54 := ks w hS26
         refine zao (zbr (zah rfl (zaf (zai (v := (zac .i64 k24)) rfl ?_))))
         refine zaf (zcf (x := k24) (y := 1) (z := (iw (k24 + 1))) rfl rfl rfl ?_)
         refine zaf (zak (v := (zac .i64 (iw (k24 + 1)))) rfl ?_)
         refine zao ?_
         have hp21 := hL65.pick [2, 3, 4, 5] rfl rfl rfl
         have hL66 : vL w w87 [some b1, some b6, some b11, ob10] [zab [s_v, (zaa s.Divisor.Negative), s_v1], zab [(zad none 0 0), (zaa false), (zad none 0 0)], zab [(osv ob10 0 r12.Coefs.length cap10), (zaa negative10), v12], zab ([] ++ (cs19 ++ sp10))] := hp21.1
         have K55 := ks w hp21.2
         have f40 := ((hE72.mono (K54 None)).mono (K55 None))
         obtain rfl := zag h
         refine zas ⟨(x21, (iw (k24 + 1))), rfl, ?_⟩
         exact ⟨cs19, _, (zdv ⟨rfl, rfl, rfl, rfl, rfl, trivial⟩), hL66, (zaq (zaq (zaq (zaq (zaq (zaq (zaq K47 K48) K50) K51) K52) K53) K54) K55), f40, hl19, hc28, trivial⟩
      ·
       replace h := ite_f hc26 h
       refine zcs rfl ?_
       obtain rfl := zag h
       obtain rfl := hd12 _ rfl
       replace h := g15
       try dsimp only at h
       skip
       refine zas ?_
       exact ⟨coefs15, cs18, _, rfl, (zdv ⟨rfl, rfl, rfl, trivial⟩), hL53, K47, hE53, hl18, hc25, trivial⟩
     ·
      rintro _ w88 ⟨coefs14, cs17, u, rfl, rfl, hL67, K56, hE73, hl20, hc29, -⟩
      replace h := g15
      try dsimp only at h
      refine zaj (zah rfl (zaf (zar (q := 1) zaz rfl ti26 rfl rfl rfl ?_)))
      refine zaf (zbe (vs := [(zaa negative10), v12]) zan rfl ti26 rfl (hL67.at 2 rfl rfl) rfl rfl ?_)
      refine zaf (zar (q := 1) zck rfl ti26 rfl rfl rfl ?_)
      refine zaf (zbe (vs := [(zaa s.Divisor.Negative), s_v1]) zan rfl ti26 rfl (hL67.at 0 rfl rfl) rfl rfl ?_)
      obtain ⟨r20, q76, h⟩ := zdq h
      have f41 := (k23.mono (K56 None))
      have f42 := (((((((((s_h1.mono (K4 S)).mono (K9 S)).mono (K14 S)).mono (K15 S)).mono (K16 S)).mono (K17 S)).mono (K18 S)).mono (K46 S)).mono (K56 S))
      refine zaf (zaw en51 rfl rfl (rDivFloor_w N (Big.mk negative10 digits10) s.Divisor v12 s_v1 _ Any (f41.mono vw_any) (f42.mono vw_any) r20 q76) ?_)
      rintro _ w89 hE74 ⟨v28, v29, rfl, k30, k31, -⟩
      replace k30 := k30.mono (zbd (S := None) hL67 [])
      replace k31 := k31.mono (zbd (S := None) hL67 [])
      have hL68 := hL67.ext hE74
      have K57 := ke hL67 hE74
      refine zaf (zai (v := (Value.tuple #[(zam #[(zaa r20.1.Negative), v28]), (zam #[(zaa r20.2.1.Negative), v29]), (zaa r20.2.2)])) rfl ?_)
      refine zaf (zco (vs := [(zam #[(zaa r20.1.Negative), v28]), (zam #[(zaa r20.2.1.Negative), v29]), (zaa r20.2.2)]) (v := (zam #[(zaa r20.1.Negative), v28])) rfl rfl ?_)
      refine zaf (zco (vs := [(zam #[(zaa r20.1.Negative), v28]), (zam #[(zaa r20.2.1.Negative), v29]), (zaa r20.2.2)]) (v := (zam #[(zaa r20.2.1.Negative), v29])) rfl rfl ?_)
      refine zaf (zco (vs := [(zam #[(zaa r20.1.Negative), v28]), (zam #[(zaa r20.2.1.Negative), v29]), (zaa r20.2.2)]) (v := (zaa r20.2.2)) rfl rfl ?_)
      refine zaf (zar (q := 1) zaz rfl ti26 rfl rfl rfl ?_)
      refine zcd (zbk (vs := [(zaa r20.1.Negative), v28]) ti26 rfl rfl rfl rfl (zds rfl (zds k30.one zdx)) hL68 2 rfl rfl (zae rfl) ?_)
      intro w90 (hL69 : vL w w90 [some b1, some b6, some b11, ob10] [zab [s_v, (zaa s.Divisor.Negative), s_v1], zab [(zad none 0 0), (zaa false), (zad none 0 0)], zab [(osv ob10 0 r12.Coefs.length cap10), (zaa r20.1.Negative), v28], zab ([] ++ (cs17 ++ sp10))]) hS27
      have K58 := ks w hS27
      refine zao (zaj (zah rfl (zaf (zbe (vs := [(osv ob10 0 r12.Coefs.length cap10), (zaa r20.1.Negative), v28]) zaz rfl ti34 rfl (hL69.at 2 rfl rfl) rfl rfl ?_))))
      have f43 := (k30.mono (K58 None))
      refine zcd (zbk (vs := [(osv ob10 0 r12.Coefs.length cap10), (zaa r20.1.Negative), v28]) ti34 rfl rfl rfl rfl (zds (zec _ _ _ _) (zds rfl (zds f43.one zdx))) hL69 1 rfl rfl (zae rfl) ?_)
      intro w91 (hL70 : vL w w91 [some b1, some b6, some b11, ob10] [zab [s_v, (zaa s.Divisor.Negative), s_v1], zab [(osv ob10 0 r12.Coefs.length cap10), (zaa r20.1.Negative), v28], zab [(osv ob10 0 r12.Coefs.length cap10), (zaa r20.1.Negative), v28], zab ([] ++ (cs17 ++ sp10))]) hS28
      have K59 := ks w hS28
      refine zaf (zak (v := (zaa true)) rfl ?_)
      refine zao ?_
      have f44 := (((hE73.mono (K57 None)).mono (K58 None)).mono (K59 None))
      have f45 := hL70.freezeRow 3 rfl rfl f44 rfl rfl hl20 hc29
      have hp22 := hL70.pick [0, 1, 2] rfl rfl rfl
      have hL71 : vL w w91 [some b1, some b6, some b11] [zab [s_v, (zaa s.Divisor.Negative), s_v1], zab [(osv ob10 0 r12.Coefs.length cap10), (zaa r20.1.Negative), v28], zab [(osv ob10 0 r12.Coefs.length cap10), (zaa r20.1.Negative), v28]] := hp22.1
      have K60 := ks w hp22.2
      refine zbn ?_
      obtain rfl := zag h
      refine ⟨[(zam #[(osv ob10 0 r12.Coefs.length cap10), (zaa r20.1.Negative), v28]), (zaa true)], ⟨⟨⟨b6, 0, none⟩, rfl, zeb zaz rfl ti34 (hL71.at 1 rfl rfl) rfl⟩, ⟨rfl, trivial⟩⟩, ⟨_, rfl, hL71.done, ?_⟩⟩
      have f46 := ((f43.mono (K59 None)).mono (K60 None))
      exact ⟨(osv ob10 0 r12.Coefs.length cap10), v28, rfl, (f45.mono zdh), (f46.mono zdh), trivial⟩
theorem rBad_w (N : Nat) (q : Ineq) (q_v : Value) (q_v1 : Value) (w : World) (S : Nat → Prop) (q_h : Rs rBig (vH w S [] w) q_v q.Coefs) (q_h1 : Rs (rInt .u32) (vH w S [] w) q_v1 q.Bound.Digits) (r : Bool) (h : rBad N q = some r) :
  Calls Try.prog 30 #[(zam #[q_v, (zaa q.Bound.Negative), q_v1])] w (Ret w (fun v w' => (zaa r) = v ∧ True)) := by
 unfold rBad at h
 have hL : vL w w [] [] := Go.X.Loc.begin0 w
 refine calls_of (l := [(zam #[q_v, (zaa q.Bound.Negative), q_v1])]) (rl := [.tmp 2]) (n := 22) Try.func30 rfl rfl rfl (zae rfl) ?_
 refine zaj (zah rfl (zaf (zde (cs := [q_v, (zaa q.Bound.Negative), q_v1]) rfl rfl hL ?_)))
 intro b1 w2 hL3 hS5
 have K4 := ks w hS5
 refine zaf (zak (v := (zaa false)) rfl ?_)
 refine zao (zaj (zaj (zah rfl (zaf (zak (v := (zac .i64 0)) rfl ?_)))))
 refine zao ?_
 obtain ⟨s10, hl10, g10⟩ := zdq h
 refine zbq (fun e w' => ∃  (u : Env), (Sum.inl ()) = s10 ∧ e = upds [(1, (zal (some ⟨b1, 0, none⟩)))] u ∧ vL w w' [some b1] [zab [q_v, (zaa q.Bound.Negative), q_v1]] ∧ Keep w.heap.size [some b1] w2 [some b1] w' ∧ True) ?_ ?_
 ·
  refine zbj ?_
  refine zci hl10 (fun (ss : Int) (e : Env) (w' : World) => match ss with | i10 => ∃ (u : Env), e = upds [(1, (zal (some ⟨b1, 0, none⟩))), (3, (zac .i64 i10))] u ∧ vL w w' [some b1] [zab [q_v, (zaa q.Bound.Negative), q_v1]] ∧ Keep w.heap.size [some b1] w2 [some b1] w' ∧ True) ⟨_, (zdv ⟨rfl, rfl, trivial⟩), hL3, zbo, trivial⟩ ?_
  rintro i10 oo _ w10 ⟨u, rfl, hL10, K10, -⟩ h hd10
  rw [rBad_b1] at h
  refine zaj (zaj (zah rfl (zaf (zai (v := (zac .i64 i10)) rfl ?_))))
  refine zaf (zar (q := 0) zaz rfl ti32 rfl rfl rfl ?_)
  refine zaf (zbb (v := q_v) zay rfl rfl (hL10.at 0 rfl rfl) rfl ?_)
  have f10 := ((q_h.mono (K4 S)).mono (K10 S))
  refine zaf (zbg (v := q_v) zay rfl f10 ?_)
  refine zaf (zcr (x := i10) (y := (q.Coefs.length : Int)) ((i10 : Int) < (q.Coefs.length : Int)) rfl rfl zbl ?_)
  refine zao ?_
  refine zbh ((i10 : Int) < (q.Coefs.length : Int)) rfl (fun hc10 => ?_) (fun hc10 => ?_)
  ·
   replace h := ite_t hc10 h
   refine zbi (zaj (zbj (zaj (zah rfl (zaf (zar (q := 0) zaz rfl ti32 rfl rfl rfl ?_))))))
   refine zaf (zbb (v := q_v) zay rfl rfl (hL10.at 0 rfl rfl) rfl ?_)
   refine zaf (zai (v := (zac .i64 i10)) rfl ?_)
   obtain ⟨x10, q10, h⟩ := zdq h
   obtain ⟨n10, q11, q12⟩ := zdw q10
   obtain ⟨b10, o10, c10, vs10, q13, q14, f11, q15⟩ := zdc f10 q12
   obtain ⟨v10, rfl, k10, -⟩ := rBig_open q15
   refine zaf (zbz (r := rBig) (v := q_v) (n := n10) (m := (o10 + n10 * rBig.sz)) zay ti26 rfl q13 rfl q11 q12 rfl ?_)
   refine zaf (zdj (vs := [(zaa x10.Negative), v10]) zan rfl ti26 rfl rfl zea f11 ?_)
   obtain ⟨r10, q16, h⟩ := zdq h
   refine zaf (zaw en40 rfl rfl (rSign_w N x10 v10 _ Any (k10.mono vw_any) r10 q16) ?_)
   rintro _ w11 hE10 ⟨rfl, -⟩
   have hL11 := hL10.ext hE10
   have K11 := ke hL10 hE10
   refine zaf (OpY.neq (x := r10) (y := 0) ((r10 : Int) ≠ 0) rfl rfl zbl ?_)
   refine zao ?_
   refine zbh ((r10 : Int) ≠ 0) rfl (fun hc11 => ?_) (fun hc11 => ?_)
   ·
    replace h := ite_t hc11 h
    refine zaj (zah rfl (zaf (zak (v := (zaa false)) rfl ?_)))
    refine zao (zbn ?_)
    obtain rfl := zag h
    obtain rfl := hd10 _ rfl
    replace h := g10
    try dsimp only at h
    obtain rfl := zag h
    refine ⟨[(zaa false)], ⟨rfl, trivial⟩, ⟨_, rfl, hL11.done, ?_⟩⟩
    exact ⟨rfl, trivial⟩
   ·
    replace h := ite_f hc11 h
    refine zbi (zbr (zah rfl (zaf (zai (v := (zac .i64 i10)) rfl ?_))))
    refine zaf (zcf (x := i10) (y := 1) (z := (iw (i10 + 1))) rfl rfl rfl ?_)
    refine zaf (zak (v := (zac .i64 (iw (i10 + 1)))) rfl ?_)
    refine zao ?_
    obtain rfl := zag h
    refine zas ⟨(iw (i10 + 1)), rfl, ?_⟩
    exact ⟨_, (zdv ⟨rfl, rfl, trivial⟩), hL11, (zaq K10 K11), trivial⟩
  ·
   replace h := ite_f hc10 h
   refine zcs rfl ?_
   obtain rfl := zag h
   obtain rfl := hd10 _ rfl
   replace h := g10
   try dsimp only at h
   skip
   refine zas ?_
   exact ⟨_, rfl, (zdv ⟨rfl, trivial⟩), hL10, K10, trivial⟩
 ·
  rintro _ w12 ⟨u, rfl, rfl, hL12, K12, -⟩
  replace h := g10
  try dsimp only at h
  refine zaj (zah rfl (zaf (zar (q := 1) zaz rfl ti26 rfl rfl rfl ?_)))
  refine zaf (zbe (vs := [(zaa q.Bound.Negative), q_v1]) zan rfl ti26 rfl (hL12.at 0 rfl rfl) rfl rfl ?_)
  obtain ⟨r11, q17, h⟩ := zdq h
  have f12 := ((q_h1.mono (K4 S)).mono (K12 S))
  refine zaf (zaw en40 rfl rfl (rSign_w N q.Bound q_v1 _ Any (f12.mono vw_any) r11 q17) ?_)
  rintro _ w13 hE11 ⟨rfl, -⟩
  have hL13 := hL12.ext hE11
  refine zaf (zcr (x := r11) (y := 0) ((r11 : Int) < 0) rfl rfl zbl ?_)
  refine zaf (zak (v := (zaa (decide ((r11 : Int) < 0)))) rfl ?_)
  refine zao (zbn ?_)
  obtain rfl := zag h
  refine ⟨[(zaa (decide ((r11 : Int) < 0)))], ⟨rfl, trivial⟩, ⟨_, rfl, hL13.done, ?_⟩⟩
  exact ⟨rfl, trivial⟩
theorem rCheck_w (N : Nat) : ∀ (l : (List Ineq)) (p : Proof) (l_v : Value) (p_v : Value) (p_v1 : Value) (p_v2 : Value) (p_v3 : Value) (w : World) (S : Nat → Prop) (l_h : Rs rIneq (vH w S [] w) l_v l) (p_h : Rs rStep (vH w S [] w) p_v p.Steps) (p_h1 : Rs rBig (vH w S [] w) p_v1 p.Form) (p_h2 : Rs (rInt .u32) (vH w S [] w) p_v2 p.Bound.Digits) (p_h3 : Rs rProof (vH w S [] w) p_v3 p.Children) (r : Bool) (h : rCheck N l p = some r), Calls Try.prog 19 #[l_v, (zam #[p_v, p_v1, (zaa p.Bound.Negative), p_v2, p_v3])] w (Ret w (fun v w' => (zaa r) = v ∧ True)) := by
 induction N with
 | zero => intro l p l_v p_v p_v1 p_v2 p_v3 w S l_h p_h p_h1 p_h2 p_h3 r h; cases (show (none : Option Bool) = some r from h)
 | succ N ih =>
  intro l p l_v p_v p_v1 p_v2 p_v3 w S l_h p_h p_h1 p_h2 p_h3 r h
  replace h : rCheck_step N (rCheck N) l p = some r := h
  unfold rCheck_step at h
  have hL : vL w w [] [] := Go.X.Loc.begin0 w
  refine calls_of (l := [l_v, (zam #[p_v, p_v1, (zaa p.Bound.Negative), p_v2, p_v3])]) (rl := [.tmp 4]) (n := 116) Try.func19 rfl rfl rfl (zae rfl) ?_
  refine zaj (zah rfl (zaf (zde (cs := [p_v, p_v1, (zaa p.Bound.Negative), p_v2, p_v3]) rfl rfl hL ?_)))
  intro b1 w2 hL3 hS5
  have K4 := ks w hS5
  refine zaf (zak (v := (zaa false)) rfl ?_)
  refine zao (zaj (zaj (zah rfl (zaf (zai (v := l_v) rfl ?_)))))
  obtain ⟨r6, q7, h⟩ := zdq h
  have f9 := (l_h.mono (K4 S))
  refine zaf (zaw en49 rfl rfl (rEven_w N l l_v _ Any (f9.mono vw_any) r6 q7) ?_)
  rintro _ w10 hE10 ⟨rfl, -⟩
  have hL10 := hL3.ext hE10
  have K10 := ke hL3 hE10
  refine zaf (OpY.not (x := r6) rfl ?_)
  refine zao ?_
  refine zcu (!r6) rfl (fun hc10 => ?_) (fun hc10 => ?_)
  ·
   replace h := ite_t hc10 h
   refine zaj (zah rfl (zaf (zak (v := (zaa false)) rfl ?_)))
   refine zao (zbn ?_)
   obtain rfl := zag h
   refine ⟨[(zaa false)], ⟨rfl, trivial⟩, ⟨_, rfl, hL10.done, ?_⟩⟩
   exact ⟨rfl, trivial⟩
  ·
   replace h := ite_f hc10 h
   refine zbi (zaj (zah rfl (zaf (zdn zbc ti34 hL10 ?_))))
   intro b10 w11 hL11 hS10
   have hE11 : Els rIneq (vH w None [some b1] w10) [] [] := zcv
   have K11 := ks w hS10
   refine zaf (zai (v := l_v) rfl ?_)
   obtain ⟨x10, q10, h⟩ := zdq h
   obtain ⟨q11, q12, q13⟩ := zed q10
   have f10 := ((f9.mono (K10 S)).mono (K11 S))
   obtain ⟨ds10, q14, q15⟩ := Rs.src f10
   have f11 := (hE11.mono (K11 None))
   refine zaf (zdi (r := rIneq) (H := (vH w S [some b10, some b1] w11)) (cs := []) (sp := []) (xs := ([] : (List Ineq))) (ys := l) (Y := x10) (n := (List.length ([] : (List Ineq)))) (cap := 0) (i := 0) zbc ti34 rfl rfl rfl rfl hL11 rfl rfl (f11.mono Hv.none) rfl (show ([] ++ [] : List Value).length = 0 * rIneq.sz by simp) q14 q15 q11 q12 q13 ?_)
   intro ob10 cap10 sp10 cs10 w12 hE12 hc11 (hL12 : vL w w12 [ob10, some b1] [zab ([] ++ (cs10 ++ sp10)), zab [p_v, p_v1, (zaa p.Bound.Negative), p_v2, p_v3]]) hS11
   have K12 := ks w hS11
   refine zaf (zak (v := (osv ob10 0 x10.length cap10)) rfl ?_)
   refine zao (zaj (zaj (zah rfl (zaf (zak (v := (zac .i64 0)) rfl ?_)))))
   refine zao ?_
   obtain ⟨s10, hl10, g10⟩ := zdq h
   refine zbq (fun e w' => ∃ (all10 : (List Ineq)) (ob11 : Option Nat) (cap11 : Nat) (sp11 : List Value) (cs11 : List Value) (ln10 : Nat) (u : Env), (Sum.inl all10) = s10 ∧ e = upds [(3, (zal (some ⟨b1, 0, none⟩))), (5, (osv ob11 0 ln10 cap11))] u ∧ vL w w' [some b1, ob11] [zab [p_v, p_v1, (zaa p.Bound.Negative), p_v2, p_v3], zab ([] ++ (cs11 ++ sp11))] ∧ Keep w.heap.size [ob10, some b1] w12 [some b1, ob11] w' ∧ Els rIneq (vH w S [some b1, ob11] w') cs11 all10 ∧ ln10 = List.length all10 ∧ (cs11 ++ sp11).length = cap11 * rIneq.sz ∧ True) ?_ ?_
   ·
    refine zbj ?_
    have hp10 := hL12.pick [1, 0] rfl rfl rfl
    have hL13 : vL w w12 [some b1, ob10] [zab [p_v, p_v1, (zaa p.Bound.Negative), p_v2, p_v3], zab ([] ++ (cs10 ++ sp10))] := hp10.1
    have K13 := ks w hp10.2
    have f12 := ((hE12.mono (K12 S)).mono (K13 S))
    refine zci hl10 (fun (ss : ((List Ineq) × Int)) (e : Env) (w' : World) => match ss with | (all11, i10) => ∃ (ob12 : Option Nat) (cap12 : Nat) (sp12 : List Value) (cs12 : List Value) (ln11 : Nat) (u : Env), e = upds [(3, (zal (some ⟨b1, 0, none⟩))), (5, (osv ob12 0 ln11 cap12)), (6, (zac .i64 i10))] u ∧ vL w w' [some b1, ob12] [zab [p_v, p_v1, (zaa p.Bound.Negative), p_v2, p_v3], zab ([] ++ (cs12 ++ sp12))] ∧ Keep w.heap.size [ob10, some b1] w12 [some b1, ob12] w' ∧ Els rIneq (vH w S [some b1, ob12] w') cs12 all11 ∧ ln11 = List.length all11 ∧ (cs12 ++ sp12).length = cap12 * rIneq.sz ∧ True) ⟨ob10, cap10, sp10, cs10, x10.length, _, (zdv ⟨rfl, rfl, rfl, trivial⟩), hL13, K13, f12, rfl, hc11, trivial⟩ ?_
    rintro ⟨all11, i10⟩ oo _ w13 ⟨ob12, cap12, sp12, cs12, ln11, u, rfl, hL14, K14, hE13, rfl, hc12, -⟩ h hd10
    rw [rCheck_b1] at h
    refine zaj (zaj (zah rfl (zaf (zai (v := (zac .i64 i10)) rfl ?_))))
    refine zaf (zar (q := 0) zbf rfl ti39 rfl rfl rfl ?_)
    refine zaf (zbb (v := p_v) zcw rfl rfl (hL14.at 0 rfl rfl) rfl ?_)
    have f13 := (((((p_h.mono (K4 S)).mono (K10 S)).mono (K11 S)).mono (K12 S)).mono (K14 S))
    refine zaf (zbg (v := p_v) zcw rfl f13 ?_)
    refine zaf (zcr (x := i10) (y := (p.Steps.length : Int)) ((i10 : Int) < (p.Steps.length : Int)) rfl rfl zbl ?_)
    refine zao ?_
    refine zbh ((i10 : Int) < (p.Steps.length : Int)) rfl (fun hc13 => ?_) (fun hc13 => ?_)
    ·
     replace h := ite_t hc13 h
     refine zbi (zaj (zbj (zaj (zah rfl (zaf (zai (v := (osv ob12 0 all11.length cap12)) rfl ?_))))))
     refine zaf (zar (q := 0) zbf rfl ti39 rfl rfl rfl ?_)
     refine zaf (zbb (v := p_v) zcw rfl rfl (hL14.at 0 rfl rfl) rfl ?_)
     refine zaf (zai (v := (zac .i64 i10)) rfl ?_)
     obtain ⟨x11, q16, h⟩ := zdq h
     obtain ⟨n10, q17, q18⟩ := zdw q16
     obtain ⟨b11, o10, c10, vs10, q19, q20, f14, q21⟩ := zdc f13 q18
     obtain ⟨v10, v11, rfl, k10, k11, -⟩ := rStep_open q21
     refine zaf (zbz (r := rStep) (v := p_v) (n := n10) (m := (o10 + n10 * rStep.sz)) zcw ti28 rfl q19 rfl q17 q18 rfl ?_)
     refine zaf (zdj (vs := [v10, (zaa x11.Divisor.Negative), v11]) zck rfl ti28 rfl rfl zea f14 ?_)
     obtain ⟨r10, q22, h⟩ := zdq h
     refine zaf (zaw en15 rfl rfl (rApply_w N all11 x11 (osv ob12 0 all11.length cap12) v10 v11 _ Any (zdy (pre := []) (o := 0) (n := all11.length) (cap := cap12) (hL14.at 1 rfl rfl) hE13 vw_any rfl rfl rfl hc12) (k10.mono vw_any) (k11.mono vw_any) r10 q22) ?_)
     rintro _ w14 hE14 ⟨v12, v13, rfl, k12, k13, -⟩
     replace k12 := k12.mono (zbd (S := None) hL14 [])
     replace k13 := k13.mono (zbd (S := None) hL14 [])
     have hL15 := hL14.ext hE14
     have K15 := ke hL14 hE14
     refine zaf (zai (v := (Value.tuple #[(zam #[v12, (zaa r10.1.Bound.Negative), v13]), (zaa r10.2)])) rfl ?_)
     refine zaf (zco (vs := [(zam #[v12, (zaa r10.1.Bound.Negative), v13]), (zaa r10.2)]) (v := (zam #[v12, (zaa r10.1.Bound.Negative), v13])) rfl rfl ?_)
     refine zaf (zco (vs := [(zam #[v12, (zaa r10.1.Bound.Negative), v13]), (zaa r10.2)]) (v := (zaa r10.2)) rfl rfl ?_)
     refine zaf (zbw (cs := [(zad none 0 0), (zaa false), (zad none 0 0)]) ti34 rfl hL15 ?_)
     intro b12 w15 hL16 hS12
     have K16 := ks w hS12
     have f15 := (k13.mono (K16 None))
     have f16 := (k12.mono (K16 None))
     refine zcd (zbk (vs := [v12, (zaa r10.1.Bound.Negative), v13]) ti34 rfl rfl rfl rfl (zds f16.one (zds rfl (zds f15.one zdx))) hL16 0 rfl rfl (zae rfl) ?_)
     intro w16 (hL17 : vL w w16 [some b12, some b1, ob12] [zab [v12, (zaa r10.1.Bound.Negative), v13], zab [p_v, p_v1, (zaa p.Bound.Negative), p_v2, p_v3], zab ([] ++ (cs12 ++ sp12))]) hS13
     have K17 := ks w hS13
     refine zaf (zak (v := (zaa r10.2)) rfl ?_)
     refine zao (zaj (zaj (zah rfl (zaf (zai (v := (zaa r10.2)) rfl ?_)))))
     refine zaf (OpY.not (x := r10.2) rfl ?_)
     refine zao ?_
     refine zcu (!r10.2) rfl (fun hc14 => ?_) (fun hc14 => ?_)
     ·
      replace h := ite_t hc14 h
      refine zaj (zah rfl (zaf (zak (v := (zaa false)) rfl ?_)))
      refine zao (zbn ?_)
      obtain rfl := zag h
      obtain rfl := hd10 _ rfl
      replace h := g10
      try dsimp only at h
      obtain rfl := zag h
      refine ⟨[(zaa false)], ⟨rfl, trivial⟩, ⟨_, rfl, hL17.done, ?_⟩⟩
      exact ⟨rfl, trivial⟩
     ·
      replace h := ite_f hc14 h
      refine zbi (zah rfl (zaf (zai (v := (osv ob12 0 all11.length cap12)) rfl ?_)))
      refine zaf (zbe (vs := [v12, (zaa r10.1.Bound.Negative), v13]) zaz rfl ti34 rfl (hL17.at 0 rfl rfl) rfl rfl ?_)
      have f17 := (f16.mono (K17 None))
      have f18 := (f15.mono (K17 None))
      have hE15 : Els rIneq (vH w None [some b12, some b1, ob12] w16) [v12, (zaa r10.1.Bound.Negative), v13] [r10.1] := (zcq (a := [v12, (zaa r10.1.Bound.Negative), v13]) (rIneq_close ⟨v12, v13, rfl, f17, f18, trivial⟩) zcv)
      refine zaf (zcn (r := rIneq) (vs := [(zam #[v12, (zaa r10.1.Bound.Negative), v13])]) (css := [[v12, (zaa r10.1.Bound.Negative), v13]]) (xs := [r10.1]) zbc ti34 (zae rfl) rfl rfl ⟨rfl, rfl, trivial⟩ (zae rfl) hE15 rfl hL17 ?_)
      intro b13 w17 hc15 hL18 hS14
      have K18 := ks w hS14
      obtain ⟨x12, q23, h⟩ := zdq h
      obtain ⟨q24, q25, q26⟩ := zed q23
      have f19 := (hE15.mono (K18 None))
      have f20 := ((((hE13.mono (K15 S)).mono (K16 S)).mono (K17 S)).mono (K18 S))
      refine zaf (zdi (r := rIneq) (H := (vH w S [some b13, some b12, some b1, ob12] w17)) (cs := cs12) (sp := sp12) (xs := all11) (ys := [r10.1]) (Y := x12) (n := all11.length) (cap := cap12) (i := 3) zbc ti34 rfl rfl rfl rfl hL18 rfl rfl f20 rfl hc12 (Src.row (pre := []) (o := 0) (n := 1) (cap := 1) (hL18.at 0 rfl rfl) f19 rfl rfl rfl) (f19.mono Hv.none) q24 q25 q26 ?_)
      intro ob13 cap13 sp13 cs13 w18 hE16 hc16 (hL19 : vL w w18 [some b13, some b12, some b1, ob13] [zab ([] ++ ([v12, (zaa r10.1.Bound.Negative), v13] ++ [])), zab [v12, (zaa r10.1.Bound.Negative), v13], zab [p_v, p_v1, (zaa p.Bound.Negative), p_v2, p_v3], zab ([] ++ (cs13 ++ sp13))]) hS15
      have K19 := ks w hS15
      refine zaf (zak (v := (osv ob13 0 x12.length cap13)) rfl ?_)
      refine zao (zbr (zah rfl (zaf (zai (v := (zac .i64 i10)) rfl ?_))))
      refine zaf (zcf (x := i10) (y := 1) (z := (iw (i10 + 1))) rfl rfl rfl ?_)
      refine zaf (zak (v := (zac .i64 (iw (i10 + 1)))) rfl ?_)
      refine zao ?_
      have hp11 := hL19.pick [2, 3] rfl rfl rfl
      have hL20 : vL w w18 [some b1, ob13] [zab [p_v, p_v1, (zaa p.Bound.Negative), p_v2, p_v3], zab ([] ++ (cs13 ++ sp13))] := hp11.1
      have K20 := ks w hp11.2
      have f21 := ((hE16.mono (K19 S)).mono (K20 S))
      obtain rfl := zag h
      refine zas ⟨(x12, (iw (i10 + 1))), rfl, ?_⟩
      exact ⟨ob13, cap13, sp13, cs13, x12.length, _, (zdv ⟨rfl, rfl, rfl, trivial⟩), hL20, (zaq (zaq (zaq (zaq (zaq (zaq K14 K15) K16) K17) K18) K19) K20), f21, rfl, hc16, trivial⟩
    ·
     replace h := ite_f hc13 h
     refine zcs rfl ?_
     obtain rfl := zag h
     obtain rfl := hd10 _ rfl
     replace h := g10
     try dsimp only at h
     skip
     refine zas ?_
     exact ⟨all11, ob12, cap12, sp12, cs12, all11.length, _, rfl, (zdv ⟨rfl, rfl, trivial⟩), hL14, K14, hE13, rfl, hc12, trivial⟩
   ·
    rintro _ w19 ⟨all10, ob11, cap11, sp11, cs11, ln10, u, rfl, rfl, hL21, K21, hE17, rfl, hc17, -⟩
    replace h := g10
    try dsimp only at h
    refine zaj (zaj (zah rfl (zaf (zar (q := 4) zbf rfl ti40 rfl rfl rfl ?_))))
    refine zaf (zbb (v := p_v3) zbs rfl rfl (hL21.at 0 rfl rfl) rfl ?_)
    have f22 := (((((p_h3.mono (K4 S)).mono (K10 S)).mono (K11 S)).mono (K12 S)).mono (K21 S))
    refine zaf (zbg (v := p_v3) zbs rfl f22 ?_)
    refine zaf (OpY.eql (x := (p.Children.length : Int)) (y := 0) (((p.Children.length : Int) : Int) = 0) rfl rfl zbl ?_)
    refine zao ?_
    refine zbh (((p.Children.length : Int) : Int) = 0) rfl (fun hc18 => ?_) (fun hc18 => ?_)
    ·
     replace h := ite_t hc18 h
     refine zaj (zaj (zah rfl (zaf (zak (v := (zac .i64 0)) rfl ?_))))
     refine zao ?_
     obtain ⟨s11, hl11, g11⟩ := zdq h
     refine zbq (fun e w' => ∃  (u : Env), (Sum.inl ()) = s11 ∧ e = upds [] u ∧ vL w w' [] [] ∧ Keep w.heap.size [some b1, ob11] w19 [] w' ∧ True) ?_ ?_
     ·
      refine zbj ?_
      have hp12 := hL21.pick [1] rfl rfl rfl
      have hL22 : vL w w19 [ob11] [zab ([] ++ (cs11 ++ sp11))] := hp12.1
      have K22 := ks w hp12.2
      refine zci hl11 (fun (ss : Int) (e : Env) (w' : World) => match ss with | i11 => ∃ (u : Env), e = upds [(5, (osv ob11 0 all10.length cap11)), (9, (zac .i64 i11))] u ∧ vL w w' [ob11] [zab ([] ++ (cs11 ++ sp11))] ∧ Keep w.heap.size [some b1, ob11] w19 [ob11] w' ∧ True) ⟨_, (zdv ⟨rfl, rfl, trivial⟩), hL22, K22, trivial⟩ ?_
      rintro i11 oo _ w20 ⟨u, rfl, hL23, K23, -⟩ h hd11
      rw [rCheck_b2] at h
      refine zaj (zaj (zah rfl (zaf (zai (v := (zac .i64 i11)) rfl ?_))))
      refine zaf (zai (v := (osv ob11 0 all10.length cap11)) rfl ?_)
      have f23 := (hE17.mono (K23 S))
      refine zaf (zdp (pre := []) (r := rIneq) (xs := all10) zbc rfl (hL23.at 0 rfl rfl) f23 rfl rfl ?_)
      refine zaf (zcr (x := i11) (y := (all10.length : Int)) ((i11 : Int) < (all10.length : Int)) rfl rfl zbl ?_)
      refine zao ?_
      refine zbh ((i11 : Int) < (all10.length : Int)) rfl (fun hc19 => ?_) (fun hc19 => ?_)
      ·
       replace h := ite_t hc19 h
       refine zbi (zaj (zbj (zaj (zah rfl (zaf (zai (v := (osv ob11 0 all10.length cap11)) rfl ?_))))))
       refine zaf (zai (v := (zac .i64 i11)) rfl ?_)
       obtain ⟨x13, q27, h⟩ := zdq h
       obtain ⟨n11, q28, q29⟩ := zdw q27
       have q30 := (List.getElem?_eq_some_iff.1 q29).1
       obtain ⟨b14, hb10⟩ := hL23.row_some 0 rfl rfl (row_pos (pre := []) f23 q29 (Nat.lt_of_sub_eq_succ rfl))
       refine zaf (zcl (r := rIneq) (b := b14) (o := 0) (n := n11) (m := all10.length) (xs := all10) (q := (0 + n11 * rIneq.sz)) zbc ti34 (zef hb10) rfl rfl q28 q30 rfl ?_)
       obtain ⟨vs11, q31, q32, q33⟩ := zee (pre := []) (sp := sp11) f23 q29
       obtain ⟨v14, v15, rfl, k14, k15, -⟩ := rIneq_open q32
       refine zaf (zbe (vs := [v14, (zaa x13.Bound.Negative), v15]) zaz rfl ti34 rfl (zei hb10 (hL23.at 0 rfl rfl)) rfl q33 ?_)
       obtain ⟨r11, q34, h⟩ := zdq h
       refine zaf (zaw en30 rfl rfl (rBad_w N x13 v14 v15 _ Any (k14.mono vw_any) (k15.mono vw_any) r11 q34) ?_)
       rintro _ w21 hE18 ⟨rfl, -⟩
       have hL24 := hL23.ext hE18
       have K24 := ke hL23 hE18
       refine zao ?_
       refine zcu r11 rfl (fun hc20 => ?_) (fun hc20 => ?_)
       ·
        replace h := ite_t hc20 h
        refine zaj (zah rfl (zaf (zak (v := (zaa true)) rfl ?_)))
        refine zao (zbn ?_)
        obtain rfl := zag h
        obtain rfl := hd11 _ rfl
        replace h := g11
        try dsimp only at h
        obtain rfl := zag h
        refine ⟨[(zaa true)], ⟨rfl, trivial⟩, ⟨_, rfl, hL24.done, ?_⟩⟩
        exact ⟨rfl, trivial⟩
       ·
        replace h := ite_f hc20 h
        refine zbi (zbr (zah rfl (zaf (zai (v := (zac .i64 i11)) rfl ?_))))
        refine zaf (zcf (x := i11) (y := 1) (z := (iw (i11 + 1))) rfl rfl rfl ?_)
        refine zaf (zak (v := (zac .i64 (iw (i11 + 1)))) rfl ?_)
        refine zao ?_
        obtain rfl := zag h
        refine zas ⟨(iw (i11 + 1)), rfl, ?_⟩
        exact ⟨_, (zdv ⟨rfl, rfl, trivial⟩), hL24, (zaq K23 K24), trivial⟩
      ·
       replace h := ite_f hc19 h
       refine zcs rfl ?_
       have hp13 := hL23.pick [] rfl rfl rfl
       have hL25 : vL w w20 [] [] := hp13.1
       have K25 := ks w hp13.2
       obtain rfl := zag h
       obtain rfl := hd11 _ rfl
       replace h := g11
       try dsimp only at h
       skip
       refine zas ?_
       exact ⟨_, rfl, (zdv trivial), hL25, (zaq K23 K25), trivial⟩
     ·
      rintro _ w22 ⟨u, rfl, rfl, hL26, K26, -⟩
      replace h := g11
      try dsimp only at h
      refine zaj (zah rfl (zaf (zak (v := (zaa false)) rfl ?_)))
      refine zao (zbn ?_)
      obtain rfl := zag h
      refine ⟨[(zaa false)], ⟨rfl, trivial⟩, ⟨_, rfl, hL26.done, ?_⟩⟩
      exact ⟨rfl, trivial⟩
    ·
     replace h := ite_f hc18 h
     refine zbi (zaj (zaj ?_))
     obtain ⟨s12, h, g12⟩ := zdq h
     refine zbq (fun e w' => ∃ (x14 : Bool) (u : Env), x14 = s12 ∧ e = upds [(3, (zal (some ⟨b1, 0, none⟩))), (5, (osv ob11 0 all10.length cap11)), (77, (zaa x14))] u ∧ vL w w' [some b1, ob11] [zab [p_v, p_v1, (zaa p.Bound.Negative), p_v2, p_v3], zab ([] ++ (cs11 ++ sp11))] ∧ Keep w.heap.size [some b1, ob11] w19 [some b1, ob11] w' ∧ True) ?_ ?_
     ·
      by_cases hc21 : ((p.Children.length : Int) : Int) ≠ 2
      ·
       replace h := ite_t hc21 h
       refine zcb 17 [] [] (fun W1 => [.det (zal (some ⟨b1, 4, none⟩)), .det p_v3, .det (zac .i64 (p.Children.length : Int)), .det (zaa (decide (((p.Children.length : Int) : Int) ≠ 2))), .det (zaa (decide (((p.Children.length : Int) : Int) ≠ 2))), .det undef, .det undef, .det undef, .det undef, .det undef, .det undef, .det undef, .det undef, .det undef, .det undef, .det undef, .det undef]) mixed rfl rfl rfl (fun _ => rfl) (fun _ => rfl) ?_ ?_
       ·
        intro W1 _
        exact trivial
       ·
        intro w23 hE19
        have hL27 := hL21.ext hE19
        have K27 := ke hL21 hE19
        refine zat (fun _ _ => zau (zar zbf rfl ti40 rfl rfl rfl (er rfl))) ?_
        refine zat (fun _ hE21 => zau (zbb zbs rfl rfl ((hL27.ext hE21).at 0 rfl rfl) rfl (er rfl))) ?_
        refine zat (fun _ hE22 => zau (zbg (v := p_v3) zbs rfl ((f22.mono (K27 S)).mono ((ke hL27 hE22) S)) (er rfl))) ?_
        refine zat (fun _ _ => zau (OpY.neq (x := (p.Children.length : Int)) (y := 2) (((p.Children.length : Int) : Int) ≠ 2) rfl rfl zbl (er rfl))) ?_
        refine zat (fun _ _ => zau (zai rfl (er rfl))) ?_
        refine zat (fun _ _ => zdk rfl rfl (zdu hc21) (er rfl)) ?_
        refine zat (fun _ _ => zdk rfl rfl (zdu hc21) (er rfl)) ?_
        refine zat (fun _ _ => zdk rfl rfl (zdu hc21) (er rfl)) ?_
        refine zat (fun _ _ => zdk rfl rfl (zdu hc21) (er rfl)) ?_
        refine zat (fun _ _ => GOp.no_undef rfl rfl (er rfl)) ?_
        refine zat (fun _ _ => GOp.no_undef rfl rfl (er rfl)) ?_
        refine zat (fun _ _ => GOp.no_undef rfl rfl (er rfl)) ?_
        refine zat (fun _ _ => GOp.no_undef rfl rfl (er rfl)) ?_
        refine zat (fun _ _ => GOp.no_undef rfl rfl (er rfl)) ?_
        refine zat (fun _ _ => GOp.no_undef rfl rfl (er rfl)) ?_
        refine zat (fun _ _ => GOp.no_undef rfl rfl (er rfl)) ?_
        refine zat (fun _ _ => GOp.no_undef rfl rfl (er rfl)) ?_
        refine zcj ?_
        rintro w41 Z27 hE37 hZ27 ⟨-⟩ ap10
        have hB10 : ∀ b, some b ∈ ([] : List (Option Nat)) → w23.heap.size ≤ b ∧ ¬ Z27 b := by
         intro b hb; cases hb
        have hL29 := hL27.ext hE37
        have K29 := ke hL27 hE37
        refine Rl.no_undef rfl rfl ?_
        refine zbx rfl rfl (zdu hc21) ?_
        refine zaf (zcm (t := (decide (((p.Children.length : Int) : Int) ≠ 2))) (v := (zaa true)) rfl (zdu hc21) rfl ?_)
        refine zao ?_
        obtain rfl := zag h
        refine zas ?_
        exact ⟨true, _, rfl, (zdv ⟨rfl, rfl, rfl, trivial⟩), hL29, (zaq K27 K29), trivial⟩
      ·
       replace h := ite_f hc21 h
       by_cases hc22 : ((all10.length : Int) : Int) > 0
       ·
        replace h := ite_t hc22 h
        obtain ⟨x15, q35, h⟩ := zdq h
        obtain ⟨n12, q36, q37⟩ := zdw q35
        have q38 := (List.getElem?_eq_some_iff.1 q37).1
        obtain ⟨b15, hb11⟩ := hL21.row_some 1 rfl rfl (row_pos (pre := []) hE17 q37 (Nat.lt_of_sub_eq_succ rfl))
        obtain ⟨vs12, q39, q40, q41⟩ := zee (pre := []) (sp := sp11) hE17 q37
        obtain ⟨v16, v17, rfl, k16, k17, -⟩ := rIneq_open q40
        have q42 := elem_part (us := [v16]) (q := 0) q41 rfl
        refine zcb 17 [] [] (fun W1 => [.det (zal (some ⟨b1, 4, none⟩)), .det p_v3, .det (zac .i64 (p.Children.length : Int)), .det (zaa (decide (((p.Children.length : Int) : Int) ≠ 2))), .det (zaa (decide (((p.Children.length : Int) : Int) ≠ 2))), .det (osv ob11 0 all10.length cap11), .det (zac .i64 (all10.length : Int)), .det (zaa (decide (((all10.length : Int) : Int) > 0))), .det (zaa (decide (((all10.length : Int) : Int) > 0))), .det (zal (some ⟨b1, 1, none⟩)), .det p_v1, .det (zac .i64 (p.Form.length : Int)), .det (osv ob11 0 all10.length cap11), .det (zal (some ⟨b15, (0 + n12 * rIneq.sz), none⟩)), .det (zal (some ⟨b15, ((0 + n12 * rIneq.sz) + 0), none⟩)), .det v16, .det (zac .i64 (x15.Coefs.length : Int))]) mixed rfl rfl rfl (fun _ => rfl) (fun _ => rfl) ?_ ?_
        ·
         intro W1 _
         exact trivial
        ·
         intro w42 hE38
         have hL30 := hL21.ext hE38
         have K30 := ke hL21 hE38
         refine zat (fun _ _ => zau (zar zbf rfl ti40 rfl rfl rfl (er rfl))) ?_
         refine zat (fun _ hE40 => zau (zbb zbs rfl rfl ((hL30.ext hE40).at 0 rfl rfl) rfl (er rfl))) ?_
         refine zat (fun _ hE41 => zau (zbg (v := p_v3) zbs rfl ((f22.mono (K30 S)).mono ((ke hL30 hE41) S)) (er rfl))) ?_
         refine zat (fun _ _ => zau (OpY.neq (x := (p.Children.length : Int)) (y := 2) (((p.Children.length : Int) : Int) ≠ 2) rfl rfl zbl (er rfl))) ?_
         refine zat (fun _ _ => zau (zai rfl (er rfl))) ?_
         refine zat (fun _ _ => zda rfl rfl (zdr hc21) (zai rfl (er rfl))) ?_
         refine zat (fun _ hE45 => zda rfl rfl (zdr hc21) (zdp (pre := []) (r := rIneq) (xs := all10) zbc rfl ((hL30.ext hE45).at 1 rfl rfl) ((hE17.mono (K30 S)).mono ((ke hL30 hE45) S)) rfl rfl (er rfl))) ?_
         refine zat (fun _ _ => zda rfl rfl (zdr hc21) (zdo (((all10.length : Int) : Int) > 0) rfl rfl zbl (er rfl))) ?_
         refine zat (fun _ _ => zda rfl rfl (zdr hc21) (zai rfl (er rfl))) ?_
         refine zat (fun _ _ => zda rfl rfl (zdu hc22) (zar zbf rfl ti32 rfl rfl rfl (er rfl))) ?_
         refine zat (fun _ hE49 => zda rfl rfl (zdu hc22) (zbb zay rfl rfl ((hL30.ext hE49).at 0 rfl rfl) rfl (er rfl))) ?_
         refine zat (fun _ hE50 => zda rfl rfl (zdu hc22) (zbg (v := p_v1) zay rfl (((((((p_h1.mono (K4 S)).mono (K10 S)).mono (K11 S)).mono (K12 S)).mono (K21 S)).mono (K30 S)).mono ((ke hL30 hE50) S)) (er rfl))) ?_
         refine zat (fun _ _ => zda rfl rfl (zdu hc22) (zai rfl (er rfl))) ?_
         refine zat (fun _ _ => zda rfl rfl (zdu hc22) (zcl (r := rIneq) (b := b15) (o := 0) (n := n12) (m := all10.length) (xs := all10) (q := (0 + n12 * rIneq.sz)) zbc ti34 (zef hb11) rfl rfl q36 q38 rfl (er rfl))) ?_
         refine zat (fun _ _ => zda rfl rfl (zdu hc22) (zar zaz rfl ti32 rfl rfl rfl (er rfl))) ?_
         refine zat (fun _ hE54 => zda rfl rfl (zdu hc22) (zdg zay rfl rfl (zei hb11 ((hL30.ext hE54).at 1 rfl rfl)) q42 (er rfl))) ?_
         refine zat (fun _ hE55 => zda rfl rfl (zdu hc22) (zbg (v := v16) zay rfl ((k16.mono (K30 S)).mono ((ke hL30 hE55) S)) (er rfl))) ?_
         refine zcj ?_
         rintro w60 Z45 hE56 hZ45 ⟨-⟩ ap11
         have hB11 : ∀ b, some b ∈ ([] : List (Option Nat)) → w42.heap.size ≤ b ∧ ¬ Z45 b := by
          intro b hb; cases hb
         have hL35 := hL30.ext hE56
         have K35 := ke hL30 hE56
         refine zby rfl rfl (zdu hc22) (OpY.neq (x := (p.Form.length : Int)) (y := (x15.Coefs.length : Int)) (((p.Form.length : Int) : Int) ≠ (x15.Coefs.length : Int)) rfl rfl zbl ?_)
         refine zby rfl rfl (zdr hc21) (zcm (t := (decide (((all10.length : Int) : Int) > 0))) (v := (zaa (decide (((p.Form.length : Int) : Int) ≠ (x15.Coefs.length : Int))))) rfl (zdu hc22) rfl ?_)
         refine zaf (zca (t := (decide (((p.Children.length : Int) : Int) ≠ 2))) (v := (zaa (decide (((p.Form.length : Int) : Int) ≠ (x15.Coefs.length : Int))))) rfl (zdr hc21) rfl ?_)
         refine zao ?_
         obtain rfl := zag h
         refine zas ?_
         exact ⟨(decide (((p.Form.length : Int) : Int) ≠ (x15.Coefs.length : Int))), _, rfl, (zdv ⟨rfl, rfl, rfl, trivial⟩), hL35, (zaq K30 K35), trivial⟩
       ·
        replace h := ite_f hc22 h
        refine zcb 17 [] [] (fun W1 => [.det (zal (some ⟨b1, 4, none⟩)), .det p_v3, .det (zac .i64 (p.Children.length : Int)), .det (zaa (decide (((p.Children.length : Int) : Int) ≠ 2))), .det (zaa (decide (((p.Children.length : Int) : Int) ≠ 2))), .det (osv ob11 0 all10.length cap11), .det (zac .i64 (all10.length : Int)), .det (zaa (decide (((all10.length : Int) : Int) > 0))), .det (zaa (decide (((all10.length : Int) : Int) > 0))), .det undef, .det undef, .det undef, .det undef, .det undef, .det undef, .det undef, .det undef]) mixed rfl rfl rfl (fun _ => rfl) (fun _ => rfl) ?_ ?_
        ·
         intro W1 _
         exact trivial
        ·
         intro w61 hE57
         have hL36 := hL21.ext hE57
         have K36 := ke hL21 hE57
         refine zat (fun _ _ => zau (zar zbf rfl ti40 rfl rfl rfl (er rfl))) ?_
         refine zat (fun _ hE59 => zau (zbb zbs rfl rfl ((hL36.ext hE59).at 0 rfl rfl) rfl (er rfl))) ?_
         refine zat (fun _ hE60 => zau (zbg (v := p_v3) zbs rfl ((f22.mono (K36 S)).mono ((ke hL36 hE60) S)) (er rfl))) ?_
         refine zat (fun _ _ => zau (OpY.neq (x := (p.Children.length : Int)) (y := 2) (((p.Children.length : Int) : Int) ≠ 2) rfl rfl zbl (er rfl))) ?_
         refine zat (fun _ _ => zau (zai rfl (er rfl))) ?_
         refine zat (fun _ _ => zda rfl rfl (zdr hc21) (zai rfl (er rfl))) ?_
         refine zat (fun _ hE64 => zda rfl rfl (zdr hc21) (zdp (pre := []) (r := rIneq) (xs := all10) zbc rfl ((hL36.ext hE64).at 1 rfl rfl) ((hE17.mono (K36 S)).mono ((ke hL36 hE64) S)) rfl rfl (er rfl))) ?_
         refine zat (fun _ _ => zda rfl rfl (zdr hc21) (zdo (((all10.length : Int) : Int) > 0) rfl rfl zbl (er rfl))) ?_
         refine zat (fun _ _ => zda rfl rfl (zdr hc21) (zai rfl (er rfl))) ?_
         refine zat (fun _ _ => zdk rfl rfl (zdr hc22) (er rfl)) ?_
         refine zat (fun _ _ => zdk rfl rfl (zdr hc22) (er rfl)) ?_
         refine zat (fun _ _ => zdk rfl rfl (zdr hc22) (er rfl)) ?_
         refine zat (fun _ _ => zdk rfl rfl (zdr hc22) (er rfl)) ?_
         refine zat (fun _ _ => zdk rfl rfl (zdr hc22) (er rfl)) ?_
         refine zat (fun _ _ => zdk rfl rfl (zdr hc22) (er rfl)) ?_
         refine zat (fun _ _ => zdk rfl rfl (zdr hc22) (er rfl)) ?_
         refine zat (fun _ _ => zdk rfl rfl (zdr hc22) (er rfl)) ?_
         refine zcj ?_
         rintro w79 Z63 hE75 hZ63 ⟨-⟩ ap12
         have hB12 : ∀ b, some b ∈ ([] : List (Option Nat)) → w61.heap.size ≤ b ∧ ¬ Z63 b := by
          intro b hb; cases hb
         have hL39 := hL36.ext hE75
         have K39 := ke hL36 hE75
         refine zbx rfl rfl (zdr hc22) ?_
         refine zby rfl rfl (zdr hc21) (zca (t := (decide (((all10.length : Int) : Int) > 0))) (v := (zaa false)) rfl (zdr hc22) rfl ?_)
         refine zaf (zca (t := (decide (((p.Children.length : Int) : Int) ≠ 2))) (v := (zaa false)) rfl (zdr hc21) rfl ?_)
         refine zao ?_
         obtain rfl := zag h
         refine zas ?_
         exact ⟨false, _, rfl, (zdv ⟨rfl, rfl, rfl, trivial⟩), hL39, (zaq K36 K39), trivial⟩
     ·
      rintro _ w80 ⟨x14, u, rfl, rfl, hL40, K40, -⟩
      replace h := g12
      try dsimp only at h
      refine zcu x14 rfl (fun hc23 => ?_) (fun hc23 => ?_)
      ·
       replace h := ite_t hc23 h
       refine zaj (zah rfl (zaf (zak (v := (zaa false)) rfl ?_)))
       refine zao (zbn ?_)
       obtain rfl := zag h
       refine ⟨[(zaa false)], ⟨rfl, trivial⟩, ⟨_, rfl, hL40.done, ?_⟩⟩
       exact ⟨rfl, trivial⟩
      ·
       replace h := ite_f hc23 h
       refine zbi (zaj (zah rfl (zaf (zar (q := 1) zbf rfl ti32 rfl rfl rfl ?_))))
       refine zaf (zbb (v := p_v1) zay rfl rfl (hL40.at 0 rfl rfl) rfl ?_)
       refine zaf (zar (q := 2) zbf rfl ti26 rfl rfl rfl ?_)
       refine zaf (zbe (vs := [(zaa p.Bound.Negative), p_v2]) zan rfl ti26 rfl (hL40.at 0 rfl rfl) rfl rfl ?_)
       have f24 := ((((((p_h1.mono (K4 S)).mono (K10 S)).mono (K11 S)).mono (K12 S)).mono (K21 S)).mono (K40 S))
       refine zaf (zdb (zc := [(zad none 0 0), (zaa false), (zad none 0 0)]) (cs := [p_v1, (zaa p.Bound.Negative), p_v2]) (is := [0, 1]) (vs := [p_v1, (zam #[(zaa p.Bound.Negative), p_v2])]) (css := [[p_v1], [(zaa p.Bound.Negative), p_v2]]) pl34 ti34 rfl rfl rfl ⟨(zeg f24.one), ⟨rfl, trivial⟩⟩ rfl ?_)
       refine zaf (zbw (cs := [(zad none 0 0), (zaa false), (zad none 0 0)]) ti34 rfl hL40 ?_)
       intro b16 w81 hL41 hS16
       have K41 := ks w hS16
       have f25 := (((((((p_h2.mono (K4 S)).mono (K10 S)).mono (K11 S)).mono (K12 S)).mono (K21 S)).mono (K40 S)).mono (K41 S))
       have f26 := (f24.mono (K41 S))
       refine zcd (zbk (vs := [p_v1, (zaa p.Bound.Negative), p_v2]) ti34 rfl rfl rfl rfl (zds f26.one (zds rfl (zds f25.one zdx))) hL41 0 rfl rfl (zae rfl) ?_)
       intro w82 (hL42 : vL w w82 [some b16, some b1, ob11] [zab [p_v1, (zaa p.Bound.Negative), p_v2], zab [p_v, p_v1, (zaa p.Bound.Negative), p_v2, p_v3], zab ([] ++ (cs11 ++ sp11))]) hS17
       have K42 := ks w hS17
       refine zao (zaj ?_)
       obtain ⟨r12, q43, h⟩ := zdq h
       obtain ⟨r13, q44, h⟩ := zdq h
       obtain ⟨r14, q45, h⟩ := zdq h
       obtain ⟨r15, q46, h⟩ := zdq h
       refine zcb 8 [] [] (fun W1 => [.det (zam #[p_v1, (zaa p.Bound.Negative), p_v2]), .det (zal (some ⟨b1, 2, none⟩)), .det (zam #[(zaa p.Bound.Negative), p_v2]), .rel (fun v Z w' => ∃ v18, (zam #[(zaa r12.Negative), v18]) = v ∧ Rs (rInt .u32) (vZ W1 w None [some b16, some b1, ob11] Z w') v18 r12.Digits ∧ True) (fun _ => []), .rel (fun v Z w' => ∃ v19, (zam #[(zaa r13.Negative), v19]) = v ∧ Rs (rInt .u32) (vZ W1 w None [some b16, some b1, ob11] Z w') v19 r13.Digits ∧ True) (fun _ => []), .rel (fun v Z w' => ∃ v20, (zam #[(zaa r14.Negative), v20]) = v ∧ Rs (rInt .u32) (vZ W1 w None [some b16, some b1, ob11] Z w') v20 r14.Digits ∧ True) (fun _ => []), .rel (fun v Z w' => ∃ v21 v22, (zam #[v21, (zaa r15.Bound.Negative), v22]) = v ∧ Rs rBig (vZ W1 w None [some b16, some b1, ob11] Z w') v21 r15.Coefs ∧ Rs (rInt .u32) (vZ W1 w None [some b16, some b1, ob11] Z w') v22 r15.Bound.Digits ∧ True) (fun _ => []), .rel (fun v Z w' => ∃ b17, (zal (some ⟨b17, 0, none⟩)) = v ∧ OwnC w' (some b17) (zab [(zad none 0 0), (zaa false), (zad none 0 0)]) ∧ True) footV]) mixed rfl rfl rfl (fun _ => rfl) (fun _ => rfl) ?_ ?_
       ·
        intro W1 _
        exact ⟨fun v Z Z' w w' hΦ hz _ _ hs => by obtain ⟨v18, rfl, k18, -⟩ := hΦ; exact ⟨v18, rfl, (k18.mono (zcg hz hs)), trivial⟩, ⟨fun v Z Z' w w' hΦ hz _ _ hs => by obtain ⟨v19, rfl, k19, -⟩ := hΦ; exact ⟨v19, rfl, (k19.mono (zcg hz hs)), trivial⟩, ⟨fun v Z Z' w w' hΦ hz _ _ hs => by obtain ⟨v20, rfl, k20, -⟩ := hΦ; exact ⟨v20, rfl, (k20.mono (zcg hz hs)), trivial⟩, ⟨fun v Z Z' w w' hΦ hz _ _ hs => by obtain ⟨v21, v22, rfl, k21, k22, -⟩ := hΦ; exact ⟨v21, v22, rfl, (k21.mono (zcg hz hs)), (k22.mono (zcg hz hs)), trivial⟩, ⟨fun v Z Z' w w' hΦ hz _ _ hs => by obtain ⟨b17, rfl, hO10, -⟩ := hΦ; exact ⟨b17, rfl, (hO10.stay (fun b hb => by cases hb; exact zav) hs), trivial⟩, trivial⟩⟩⟩⟩⟩
       ·
        intro w83 hE76
        have hL43 := hL42.ext hE76
        have K43 := ke hL42 hE76
        refine zat (fun _ hE77 => zau (zbe (vs := [p_v1, (zaa p.Bound.Negative), p_v2]) zaz rfl ti34 rfl ((hL43.ext hE77).at 0 rfl rfl) rfl rfl (er rfl))) ?_
        refine zat (fun _ _ => zau (zar zbf rfl ti26 rfl rfl rfl (er rfl))) ?_
        refine zat (fun _ hE79 => zau (zbe (vs := [(zaa p.Bound.Negative), p_v2]) zan rfl ti26 rfl ((hL43.ext hE79).at 1 rfl rfl) rfl rfl (er rfl))) ?_
        refine zch ?_ ?_
        ·
         rintro w87 Z67 hE80 hZ67 ⟨-⟩
         have K44 := ke hL43 hE80
         refine zau (zaw en62 rfl rfl (rNeg_w N p.Bound p_v2 _ Any ((((f25.mono (K42 S)).mono (K43 S)).mono (K44 S)).mono vw_any) r12 q43) ?_)
         rintro _ w88 hE81 ⟨v18, rfl, k18, -⟩
         exact zce hE81 hZ67 zbv (fun _ h => h) ⟨v18, rfl, (k18.mono zcz), trivial⟩
        intro z3
        refine zch ?_ ?_
        ·
         rintro w89 Z68 hE82 hZ68 ⟨⟨⟨v18, rfl, k18, -⟩, hB3⟩, -⟩
         refine zau (zaw en37 rfl rfl (rOf_w N 1 _ Any r13 q44) ?_)
         rintro _ w90 hE83 ⟨v19, rfl, k19, -⟩
         exact zce hE83 hZ68 zbv (fun _ h => h) ⟨v19, rfl, (k19.mono zcz), trivial⟩
        intro z4
        refine zch ?_ ?_
        ·
         rintro w91 Z69 hE84 hZ69 ⟨⟨⟨v19, rfl, k19, -⟩, hB4⟩, ⟨⟨v18, rfl, k18, -⟩, hB3⟩, -⟩
         refine zau (zaw en61 rfl rfl (rSub_w N r12 r13 v18 v19 _ Any (k18.mono vw_any) (k19.mono vw_any) r14 q45) ?_)
         rintro _ w92 hE85 ⟨v20, rfl, k20, -⟩
         exact zce hE85 hZ69 zbv (fun _ h => h) ⟨v20, rfl, (k20.mono zcz), trivial⟩
        intro z5
        refine zch ?_ ?_
        ·
         rintro w93 Z70 hE86 hZ70 ⟨⟨⟨v20, rfl, k20, -⟩, hB5⟩, -, -, -⟩
         have K45 := ke hL43 hE86
         refine zau (zaw en60 rfl rfl (rflip_w N (Ineq.mk p.Form p.Bound) r14 p_v1 p_v2 v20 _ Any ((((f26.mono (K42 S)).mono (K43 S)).mono (K45 S)).mono vw_any) ((((f25.mono (K42 S)).mono (K43 S)).mono (K45 S)).mono vw_any) (k20.mono vw_any) r15 q46) ?_)
         rintro _ w94 hE87 ⟨v21, v22, rfl, k21, k22, -⟩
         exact zce hE87 hZ70 zbv (fun _ h => h) ⟨v21, v22, rfl, (k21.mono zcz), (k22.mono zcz), trivial⟩
        intro z6
        refine zch ?_ ?_
        ·
         rintro w95 Z71 hE88 hZ71 ⟨-, -, -, -, -⟩
         refine zau (zbw (cs := [(zad none 0 0), (zaa false), (zad none 0 0)]) ti34 rfl (Go.X.Loc.begin0 w95) ?_)
         intro b17 w96 hL46 hS18
         have hN10 : NewOwn w95 w96 [some b17] [zab [(zad none 0 0), (zaa false), (zad none 0 0)]] := hL46.newOwn [0] rfl rfl rfl
         exact zce hL46.done hZ71 hN10 (fun _ h => h) ⟨b17, rfl, hN10.2.2.1, trivial⟩
        intro z7
        refine zcj ?_
        rintro w97 Z72 hE89 hZ72 ⟨⟨⟨b17, rfl, hO10, -⟩, hB7⟩, ⟨⟨v21, v22, rfl, k21, k22, -⟩, hB6⟩, ⟨⟨v20, rfl, k20, -⟩, hB5⟩, ⟨⟨v19, rfl, k19, -⟩, hB4⟩, ⟨⟨v18, rfl, k18, -⟩, hB3⟩, -⟩ ap13
        have hB13 : ∀ b, some b ∈ ([some b17] : List (Option Nat)) → w83.heap.size ≤ b ∧ ¬ Z72 b := by
         intro b hb
         rcases List.mem_cons.1 hb with hb' | hb
         ·
          have := hB7 b (by rw [hb']; exact zav); exact ⟨this.1, this.2.2⟩
         cases hb
        replace k21 := k21.mono (zcx hL43 hZ72 hB13)
        replace k22 := k22.mono (zcx hL43 hZ72 hB13)
        replace k20 := k20.mono (zcx hL43 hZ72 hB13)
        replace k19 := k19.mono (zcx hL43 hZ72 hB13)
        replace k18 := k18.mono (zcx hL43 hZ72 hB13)
        have hN11 : NewOwn w83 w97 [some b17] [zab [(zad none 0 0), (zaa false), (zad none 0 0)]] := (zcy zbv hO10 (fun b hb => (hB13 b (by rw [← hb]; simp)).1) (fun b _ hb => by cases hb))
        have hp14 := hL43.adoptL hE89 hN11
        have hL47 := hp14.1
        have K46 := ks w hp14.2
        refine zcd (zbk (vs := [v21, (zaa r15.Bound.Negative), v22]) ti34 rfl rfl rfl rfl (zds k21.one (zds rfl (zds k22.one zdx))) hL47 0 rfl rfl (zae rfl) ?_)
        intro w98 (hL48 : vL w w98 [some b17, some b16, some b1, ob11] [zab [v21, (zaa r15.Bound.Negative), v22], zab [p_v1, (zaa p.Bound.Negative), p_v2], zab [p_v, p_v1, (zaa p.Bound.Negative), p_v2, p_v3], zab ([] ++ (cs11 ++ sp11))]) hS19
        have K47 := ks w hS19
        refine zao (zaj ?_)
        obtain ⟨x16, q47, h⟩ := zdq h
        obtain ⟨q48, q49, q50⟩ := zed q47
        refine zcb 5 [[], [], [0], [], []] [] (fun W1 => [.rel (fun v Z w' => ∃ b18, (osv (some b18) 0 (List.length ([] : (List Ineq))) 0) = v ∧ OwnC w' (some b18) (zab ([] ++ ([] ++ []))) ∧ Els rIneq (vZ W1 w None [some b17, some b16, some b1, ob11] Z w') [] ([] : (List Ineq)) ∧ ([] ++ [] : List Value).length = 0 * rIneq.sz ∧ True) footV, .det (osv ob11 0 all10.length cap11), .rel (fun v Z w' => ∃ ob14 cap14 cs14 sp14, (osv ob14 0 x16.length cap14) = v ∧ OwnC w' ob14 (zab ([] ++ (cs14 ++ sp14))) ∧ Els rIneq (vZ W1 w S [some b17, some b16, some b1, ob11] Z w') cs14 x16 ∧ (cs14 ++ sp14 : List Value).length = cap14 * rIneq.sz ∧ True) footV, .det (zam #[p_v1, (zaa p.Bound.Negative), p_v2]), .rel (fun v Z w' => ∃ b19 cs15, (osv (some b19) 0 1 1) = v ∧ OwnC w' (some b19) (zab ([] ++ (cs15 ++ []))) ∧ Els rIneq (vZ W1 w S [some b17, some b16, some b1, ob11] Z w') cs15 [(Ineq.mk p.Form p.Bound)] ∧ (cs15 ++ [] : List Value).length = 1 * rIneq.sz ∧ True) footV]) mixed rfl rfl rfl (fun _ => rfl) (fun _ => rfl) ?_ ?_
        ·
         intro W1 _
         exact ⟨fun v Z Z' w w' hΦ hz _ _ hs => by obtain ⟨b18, rfl, hO11, hE90, hc24, -⟩ := hΦ; exact ⟨b18, rfl, (hO11.stay (fun b hb => by cases hb; exact zav) hs), (hE90.mono (zcg hz hs)), hc24, trivial⟩, ⟨fun v Z Z' w w' hΦ hz _ _ hs => by obtain ⟨ob14, cap14, cs14, sp14, rfl, hO12, hE91, hc25, -⟩ := hΦ; exact ⟨ob14, cap14, cs14, sp14, rfl, (hO12.stay (fun b hb => (zdz (ob := ob14) (o := 0) (n := x16.length) (cap := cap14)).2 (by rw [hb]; exact zav)) hs), (hE91.mono (zcg hz hs)), hc25, trivial⟩, ⟨fun v Z Z' w w' hΦ hz _ _ hs => by obtain ⟨b19, cs15, rfl, hO13, hE92, hc26, -⟩ := hΦ; exact ⟨b19, cs15, rfl, (hO13.stay (fun b hb => by cases hb; exact zav) hs), (hE92.mono (zcg hz hs)), hc26, trivial⟩, trivial⟩⟩⟩
        ·
         intro w99 hE93
         have hL49 := hL48.ext hE93
         have K48 := ke hL48 hE93
         refine zch ?_ ?_
         ·
          rintro w100 Z73 hE94 hZ73 ⟨-⟩
          refine zau (zdn zbc ti34 (Go.X.Loc.begin0 w100) ?_)
          intro b18 w101 hL50 hS20
          have hN12 : NewOwn w100 w101 [some b18] [zab ([] ++ ([] ++ []))] := hL50.newOwn [0] rfl rfl rfl
          exact zce hL50.done hZ73 hN12 (fun _ h => h) ⟨b18, rfl, hN12.2.2.1, zcv, (by simp), trivial⟩
         intro z0
         refine zat (fun _ _ => zau (zai rfl (er rfl))) ?_
         refine zch ?_ ?_
         ·
          rintro w103 Z75 hE96 hZ75 ⟨⟨⟨b18, rfl, hO11, hE90, hc24, -⟩, hB0⟩, -⟩
          have hL51 := hL49.ext hE96
          refine zau (zdi (r := rIneq) (H := (vZ w99 w S [some b17, some b16, some b1, ob11] Z75 w103)) (cs := []) (sp := []) (xs := ([] : (List Ineq))) (ys := all10) (Y := x16) (n := (List.length ([] : (List Ineq)))) (cap := 0) (i := 0) zbc ti34 rfl rfl rfl rfl (Go.X.Loc.begin1 hO11) rfl rfl (hE90.mono (Zv.none (S := S))) rfl hc24 (Src.row (pre := []) (o := 0) (n := all10.length) (cap := cap11) (hL51.at 3 rfl rfl) ((((((((hE17.mono (K40 S)).mono (K41 S)).mono (K42 S)).mono (K43 S)).mono (K46 S)).mono (K47 S)).mono (K48 S)).mono (Zv.old (Z := Z75) hE96)) rfl rfl rfl) ((((((((hE17.mono (K40 S)).mono (K41 S)).mono (K42 S)).mono (K43 S)).mono (K46 S)).mono (K47 S)).mono (K48 S)).mono (Zv.old (Z := Z75) hE96)) q48 q49 q50 ?_)
          intro ob14 cap14 sp14 cs14 w104 hE91 hc25 (hL52 : Go.X.Loc [some b18] [] w103 w104 [ob14] [zab ([] ++ (cs14 ++ sp14))]) hS21
          exact Made.use hZ75 (fun b hb => hB0 b ((zdz (o := 0) (n := (List.length ([] : (List Ineq)))) (cap := 0)).2 hb)) hL52 (fun b hb => List.mem_append_left _ ((zdz (o := 0) (n := (List.length ([] : (List Ineq)))) (cap := 0)).2 (by rw [← hb]; exact zav))) (fun b hb => footV_osv.1 hb) ⟨ob14, cap14, cs14, sp14, rfl, hL52.own.1, (hE91.mono (Zv.use (fun b hb => hB0 b ((zdz (o := 0) (n := (List.length ([] : (List Ineq)))) (cap := 0)).2 hb)) hL52)), hc25, trivial⟩
         intro z2
         refine zat (fun _ hE97 => zau (zbe (vs := [p_v1, (zaa p.Bound.Negative), p_v2]) zaz rfl ti34 rfl ((hL49.ext hE97).at 1 rfl rfl) rfl rfl (er rfl))) ?_
         refine zch ?_ ?_
         ·
          rintro w106 Z77 hE98 hZ77 ⟨-, -, -⟩
          have hE99 : Els rIneq (vZ w99 w S [some b17, some b16, some b1, ob11] Z77 w106) [p_v1, (zaa p.Bound.Negative), p_v2] [(Ineq.mk p.Form p.Bound)] := (zcq (a := [p_v1, (zaa p.Bound.Negative), p_v2]) (rIneq_close ⟨p_v1, p_v2, rfl, ((((((f26.mono (K42 S)).mono (K43 S)).mono (K46 S)).mono (K47 S)).mono (K48 S)).mono (Zv.old (Z := Z77) hE98)), ((((((f25.mono (K42 S)).mono (K43 S)).mono (K46 S)).mono (K47 S)).mono (K48 S)).mono (Zv.old (Z := Z77) hE98)), trivial⟩) zcv)
          refine zau (zcn (r := rIneq) (vs := [(zam #[p_v1, (zaa p.Bound.Negative), p_v2])]) (css := [[p_v1, (zaa p.Bound.Negative), p_v2]]) (xs := [(Ineq.mk p.Form p.Bound)]) zbc ti34 (zae rfl) rfl rfl ⟨rfl, rfl, trivial⟩ (zae rfl) hE99 rfl (Go.X.Loc.begin0 w106) ?_)
          intro b19 w107 hc27 hL54 hS22
          have hN13 : NewOwn w106 w107 [some b19] [zab ([] ++ ([p_v1, (zaa p.Bound.Negative), p_v2] ++ []))] := hL54.newOwn [0] rfl rfl rfl
          exact zce hL54.done hZ77 hN13 (fun _ h => h) ⟨b19, [p_v1, (zaa p.Bound.Negative), p_v2], rfl, hN13.2.2.1, (hE99.mono (Zv.grow hL54.done)), hc27, trivial⟩
         intro z4
         refine zcj ?_
         rintro w108 Z78 hE100 hZ78 ⟨⟨⟨b19, cs15, rfl, hO13, hE92, hc26, -⟩, hB4⟩, ⟨⟨ob14, cap14, cs14, sp14, rfl, hO12, hE91, hc25, -⟩, hB2⟩, -, -⟩ ap14
         have hB14 : ∀ b, some b ∈ ([some b19, ob14] : List (Option Nat)) → w99.heap.size ≤ b ∧ ¬ Z78 b := by
          intro b hb
          rcases List.mem_cons.1 hb with hb' | hb
          ·
           have := hB4 b (by rw [hb']; exact zav); exact ⟨this.1, this.2.2⟩
          rcases List.mem_cons.1 hb with hb' | hb
          ·
           have := hB2 b ((zdz (ob := ob14) (o := 0) (n := x16.length) (cap := cap14)).2 (by rw [hb']; exact zav)); exact ⟨this.1, this.2.2⟩
          cases hb
         replace hE92 := hE92.mono (zcx hL49 hZ78 hB14)
         replace hE91 := hE91.mono (zcx hL49 hZ78 hB14)
         have hN14 : NewOwn w99 w108 [some b19, ob14] [zab ([] ++ (cs15 ++ [])), zab ([] ++ (cs14 ++ sp14))] := (zcy (zcy zbv hO12 (fun b hb => (hB14 b (by rw [← hb]; simp)).1) (fun b _ hb => by cases hb)) hO13 (fun b hb => (hB14 b (by rw [← hb]; simp)).1) (fun b hb hm => (List.mem_cons.1 hm).elim (fun e => apE (ap14.1) rfl rfl b ((zdz (ob := (some b19)) (o := 0) (n := 1) (cap := 1)).2 hb) ((zdz (ob := ob14) (o := 0) (n := x16.length) (cap := cap14)).2 (by rw [e]; exact zav))) (fun hm => by cases hm)))
         have hp15 := hL49.adoptL hE100 hN14
         have hL55 := hp15.1
         have K49 := ks w hp15.2
         obtain ⟨x17, q51, h⟩ := zdq h
         obtain ⟨q52, q53, q54⟩ := zed q51
         refine zaf (zdi (r := rIneq) (H := (vH w S [some b19, ob14, some b17, some b16, some b1, ob11] w108)) (cs := cs14) (sp := sp14) (xs := x16) (ys := [(Ineq.mk p.Form p.Bound)]) (Y := x17) (n := x16.length) (cap := cap14) (i := 1) zbc ti34 rfl rfl rfl rfl hL55 rfl rfl hE91 rfl hc25 (Src.row (pre := []) (o := 0) (n := 1) (cap := 1) (hL55.at 0 rfl rfl) hE92 rfl rfl rfl) hE92 q52 q53 q54 ?_)
         intro ob15 cap15 sp15 cs16 w109 hE101 hc28 (hL56 : vL w w109 [some b19, ob15, some b17, some b16, some b1, ob11] [zab ([] ++ (cs15 ++ [])), zab ([] ++ (cs16 ++ sp15)), zab [v21, (zaa r15.Bound.Negative), v22], zab [p_v1, (zaa p.Bound.Negative), p_v2], zab [p_v, p_v1, (zaa p.Bound.Negative), p_v2, p_v3], zab ([] ++ (cs11 ++ sp11))]) hS23
         have K50 := ks w hS23
         refine zaf (zak (v := (osv ob15 0 x17.length cap15)) rfl ?_)
         refine zao (zaj ?_)
         obtain ⟨x18, q55, h⟩ := zdq h
         obtain ⟨q56, q57, q58⟩ := zed q55
         refine zcb 5 [[], [], [0], [], []] [] (fun W1 => [.rel (fun v Z w' => ∃ b20, (osv (some b20) 0 (List.length ([] : (List Ineq))) 0) = v ∧ OwnC w' (some b20) (zab ([] ++ ([] ++ []))) ∧ Els rIneq (vZ W1 w None [some b19, ob15, some b17, some b16, some b1, ob11] Z w') [] ([] : (List Ineq)) ∧ ([] ++ [] : List Value).length = 0 * rIneq.sz ∧ True) footV, .det (osv ob11 0 all10.length cap11), .rel (fun v Z w' => ∃ ob16 cap16 cs17 sp16, (osv ob16 0 x18.length cap16) = v ∧ OwnC w' ob16 (zab ([] ++ (cs17 ++ sp16))) ∧ Els rIneq (vZ W1 w S [some b19, ob15, some b17, some b16, some b1, ob11] Z w') cs17 x18 ∧ (cs17 ++ sp16 : List Value).length = cap16 * rIneq.sz ∧ True) footV, .det (zam #[v21, (zaa r15.Bound.Negative), v22]), .rel (fun v Z w' => ∃ b21 cs18, (osv (some b21) 0 1 1) = v ∧ OwnC w' (some b21) (zab ([] ++ (cs18 ++ []))) ∧ Els rIneq (vZ W1 w None [some b19, ob15, some b17, some b16, some b1, ob11] Z w') cs18 [r15] ∧ (cs18 ++ [] : List Value).length = 1 * rIneq.sz ∧ True) footV]) mixed rfl rfl rfl (fun _ => rfl) (fun _ => rfl) ?_ ?_
         ·
          intro W1 _
          exact ⟨fun v Z Z' w w' hΦ hz _ _ hs => by obtain ⟨b20, rfl, hO14, hE102, hc29, -⟩ := hΦ; exact ⟨b20, rfl, (hO14.stay (fun b hb => by cases hb; exact zav) hs), (hE102.mono (zcg hz hs)), hc29, trivial⟩, ⟨fun v Z Z' w w' hΦ hz _ _ hs => by obtain ⟨ob16, cap16, cs17, sp16, rfl, hO15, hE103, hc30, -⟩ := hΦ; exact ⟨ob16, cap16, cs17, sp16, rfl, (hO15.stay (fun b hb => (zdz (ob := ob16) (o := 0) (n := x18.length) (cap := cap16)).2 (by rw [hb]; exact zav)) hs), (hE103.mono (zcg hz hs)), hc30, trivial⟩, ⟨fun v Z Z' w w' hΦ hz _ _ hs => by obtain ⟨b21, cs18, rfl, hO16, hE104, hc31, -⟩ := hΦ; exact ⟨b21, cs18, rfl, (hO16.stay (fun b hb => by cases hb; exact zav) hs), (hE104.mono (zcg hz hs)), hc31, trivial⟩, trivial⟩⟩⟩
         ·
          intro w110 hE105
          have hL57 := hL56.ext hE105
          have K51 := ke hL56 hE105
          refine zch ?_ ?_
          ·
           rintro w111 Z79 hE106 hZ79 ⟨-⟩
           refine zau (zdn zbc ti34 (Go.X.Loc.begin0 w111) ?_)
           intro b20 w112 hL58 hS24
           have hN15 : NewOwn w111 w112 [some b20] [zab ([] ++ ([] ++ []))] := hL58.newOwn [0] rfl rfl rfl
           exact zce hL58.done hZ79 hN15 (fun _ h => h) ⟨b20, rfl, hN15.2.2.1, zcv, (by simp), trivial⟩
          intro z0
          refine zat (fun _ _ => zau (zai rfl (er rfl))) ?_
          refine zch ?_ ?_
          ·
           rintro w114 Z81 hE108 hZ81 ⟨⟨⟨b20, rfl, hO14, hE102, hc29, -⟩, hB0⟩, -⟩
           have hL59 := hL57.ext hE108
           refine zau (zdi (r := rIneq) (H := (vZ w110 w S [some b19, ob15, some b17, some b16, some b1, ob11] Z81 w114)) (cs := []) (sp := []) (xs := ([] : (List Ineq))) (ys := all10) (Y := x18) (n := (List.length ([] : (List Ineq)))) (cap := 0) (i := 0) zbc ti34 rfl rfl rfl rfl (Go.X.Loc.begin1 hO14) rfl rfl (hE102.mono (Zv.none (S := S))) rfl hc29 (Src.row (pre := []) (o := 0) (n := all10.length) (cap := cap11) (hL59.at 5 rfl rfl) (((((((((((hE17.mono (K40 S)).mono (K41 S)).mono (K42 S)).mono (K43 S)).mono (K46 S)).mono (K47 S)).mono (K48 S)).mono (K49 S)).mono (K50 S)).mono (K51 S)).mono (Zv.old (Z := Z81) hE108)) rfl rfl rfl) (((((((((((hE17.mono (K40 S)).mono (K41 S)).mono (K42 S)).mono (K43 S)).mono (K46 S)).mono (K47 S)).mono (K48 S)).mono (K49 S)).mono (K50 S)).mono (K51 S)).mono (Zv.old (Z := Z81) hE108)) q56 q57 q58 ?_)
           intro ob16 cap16 sp16 cs17 w115 hE103 hc30 (hL60 : Go.X.Loc [some b20] [] w114 w115 [ob16] [zab ([] ++ (cs17 ++ sp16))]) hS25
           exact Made.use hZ81 (fun b hb => hB0 b ((zdz (o := 0) (n := (List.length ([] : (List Ineq)))) (cap := 0)).2 hb)) hL60 (fun b hb => List.mem_append_left _ ((zdz (o := 0) (n := (List.length ([] : (List Ineq)))) (cap := 0)).2 (by rw [← hb]; exact zav))) (fun b hb => footV_osv.1 hb) ⟨ob16, cap16, cs17, sp16, rfl, hL60.own.1, (hE103.mono (Zv.use (fun b hb => hB0 b ((zdz (o := 0) (n := (List.length ([] : (List Ineq)))) (cap := 0)).2 hb)) hL60)), hc30, trivial⟩
          intro z2
          refine zat (fun _ hE109 => zau (zbe (vs := [v21, (zaa r15.Bound.Negative), v22]) zaz rfl ti34 rfl ((hL57.ext hE109).at 2 rfl rfl) rfl rfl (er rfl))) ?_
          refine zch ?_ ?_
          ·
           rintro w117 Z83 hE110 hZ83 ⟨-, -, -⟩
           have hE111 : Els rIneq (vZ w110 w None [some b19, ob15, some b17, some b16, some b1, ob11] Z83 w117) [v21, (zaa r15.Bound.Negative), v22] [r15] := (zcq (a := [v21, (zaa r15.Bound.Negative), v22]) (rIneq_close ⟨v21, v22, rfl, ((((((k21.mono (K47 None)).mono (K48 None)).mono (K49 None)).mono (K50 None)).mono (K51 None)).mono (Zv.old (Z := Z83) hE110)), ((((((k22.mono (K47 None)).mono (K48 None)).mono (K49 None)).mono (K50 None)).mono (K51 None)).mono (Zv.old (Z := Z83) hE110)), trivial⟩) zcv)
           refine zau (zcn (r := rIneq) (vs := [(zam #[v21, (zaa r15.Bound.Negative), v22])]) (css := [[v21, (zaa r15.Bound.Negative), v22]]) (xs := [r15]) zbc ti34 (zae rfl) rfl rfl ⟨rfl, rfl, trivial⟩ (zae rfl) hE111 rfl (Go.X.Loc.begin0 w117) ?_)
           intro b21 w118 hc32 hL62 hS26
           have hN16 : NewOwn w117 w118 [some b21] [zab ([] ++ ([v21, (zaa r15.Bound.Negative), v22] ++ []))] := hL62.newOwn [0] rfl rfl rfl
           exact zce hL62.done hZ83 hN16 (fun _ h => h) ⟨b21, [v21, (zaa r15.Bound.Negative), v22], rfl, hN16.2.2.1, (hE111.mono (Zv.grow hL62.done)), hc32, trivial⟩
          intro z4
          refine zcj ?_
          rintro w119 Z84 hE112 hZ84 ⟨⟨⟨b21, cs18, rfl, hO16, hE104, hc31, -⟩, hB4⟩, ⟨⟨ob16, cap16, cs17, sp16, rfl, hO15, hE103, hc30, -⟩, hB2⟩, -, -⟩ ap15
          have hB15 : ∀ b, some b ∈ ([some b21, ob16] : List (Option Nat)) → w110.heap.size ≤ b ∧ ¬ Z84 b := by
           intro b hb
           rcases List.mem_cons.1 hb with hb' | hb
           ·
            have := hB4 b (by rw [hb']; exact zav); exact ⟨this.1, this.2.2⟩
           rcases List.mem_cons.1 hb with hb' | hb
           ·
            have := hB2 b ((zdz (ob := ob16) (o := 0) (n := x18.length) (cap := cap16)).2 (by rw [hb']; exact zav)); exact ⟨this.1, this.2.2⟩
           cases hb
          replace hE104 := hE104.mono (zcx hL57 hZ84 hB15)
          replace hE103 := hE103.mono (zcx hL57 hZ84 hB15)
          have hN17 : NewOwn w110 w119 [some b21, ob16] [zab ([] ++ (cs18 ++ [])), zab ([] ++ (cs17 ++ sp16))] := (zcy (zcy zbv hO15 (fun b hb => (hB15 b (by rw [← hb]; simp)).1) (fun b _ hb => by cases hb)) hO16 (fun b hb => (hB15 b (by rw [← hb]; simp)).1) (fun b hb hm => (List.mem_cons.1 hm).elim (fun e => apE (ap15.1) rfl rfl b ((zdz (ob := (some b21)) (o := 0) (n := 1) (cap := 1)).2 hb) ((zdz (ob := ob16) (o := 0) (n := x18.length) (cap := cap16)).2 (by rw [e]; exact zav))) (fun hm => by cases hm)))
          have hp16 := hL57.adoptL hE112 hN17
          have hL63 := hp16.1
          have K52 := ks w hp16.2
          obtain ⟨x19, q59, h⟩ := zdq h
          obtain ⟨q60, q61, q62⟩ := zed q59
          refine zaf (zdi (r := rIneq) (H := (vH w S [some b21, ob16, some b19, ob15, some b17, some b16, some b1, ob11] w119)) (cs := cs17) (sp := sp16) (xs := x18) (ys := [r15]) (Y := x19) (n := x18.length) (cap := cap16) (i := 1) zbc ti34 rfl rfl rfl rfl hL63 rfl rfl hE103 rfl hc30 (Src.row (pre := []) (o := 0) (n := 1) (cap := 1) (hL63.at 0 rfl rfl) hE104 rfl rfl rfl) (hE104.mono Hv.none) q60 q61 q62 ?_)
          intro ob17 cap17 sp17 cs19 w120 hE113 hc33 (hL64 : vL w w120 [some b21, ob17, some b19, ob15, some b17, some b16, some b1, ob11] [zab ([] ++ (cs18 ++ [])), zab ([] ++ (cs19 ++ sp17)), zab ([] ++ (cs15 ++ [])), zab ([] ++ (cs16 ++ sp15)), zab [v21, (zaa r15.Bound.Negative), v22], zab [p_v1, (zaa p.Bound.Negative), p_v2], zab [p_v, p_v1, (zaa p.Bound.Negative), p_v2, p_v3], zab ([] ++ (cs11 ++ sp11))]) hS27
          have K53 := ks w hS27
          refine zaf (zak (v := (osv ob17 0 x19.length cap17)) rfl ?_)
          refine zao (zaj (zah rfl (zaf (zai (v := (osv ob15 0 x17.length cap15)) rfl ?_))))
          refine zaf (zar (q := 4) zbf rfl ti40 rfl rfl rfl ?_)
          refine zaf (zbb (v := p_v3) zbs rfl rfl (hL64.at 6 rfl rfl) rfl ?_)
          obtain ⟨x20, q63, h⟩ := zdq h
          obtain ⟨n13, q64, q65⟩ := zdw q63
          have f27 := ((((((((((((f22.mono (K40 S)).mono (K41 S)).mono (K42 S)).mono (K43 S)).mono (K46 S)).mono (K47 S)).mono (K48 S)).mono (K49 S)).mono (K50 S)).mono (K51 S)).mono (K52 S)).mono (K53 S))
          obtain ⟨b22, o11, c11, vs13, q66, q67, f28, q68⟩ := zdc f27 q65
          obtain ⟨v23, v24, v25, v26, rfl, k23, k24, k25, k26, -⟩ := rProof_open q68
          refine zaf (zbz (r := rProof) (v := p_v3) (n := n13) (m := (o11 + n13 * rProof.sz)) zbs ti42 rfl q66 rfl q64 q65 rfl ?_)
          refine zaf (zdj (vs := [v23, v24, (zaa x20.Bound.Negative), v25, v26]) zbf rfl ti42 rfl rfl zea f28 ?_)
          obtain ⟨r16, q69, h⟩ := zdq h
          have f29 := ((((hE101.mono (K50 S)).mono (K51 S)).mono (K52 S)).mono (K53 S))
          refine zaf (zaw en19 rfl rfl (ih x17 x20 (osv ob15 0 x17.length cap15) v23 v24 v25 v26 _ Any (zdy (pre := []) (o := 0) (n := x17.length) (cap := cap15) (hL64.at 3 rfl rfl) f29 vw_any rfl rfl rfl hc28) (k23.mono vw_any) (k24.mono vw_any) (k25.mono vw_any) (k26.mono vw_any) r16 q69) ?_)
          rintro _ w121 hE114 ⟨rfl, -⟩
          have hL65 := hL64.ext hE114
          have K54 := ke hL64 hE114
          refine zaf (zai (v := (zaa r16)) rfl ?_)
          by_cases hc34 : r16 = true
          ·
           replace h := ite_t hc34 h
           refine zby rfl rfl hc34 (zai (v := (osv ob17 0 x19.length cap17)) rfl ?_)
           refine zby rfl rfl hc34 (zar (q := 4) zbf rfl ti40 rfl rfl rfl ?_)
           refine zby rfl rfl hc34 (zbb (v := p_v3) zbs rfl rfl (hL65.at 6 rfl rfl) rfl ?_)
           obtain ⟨x21, q70, h⟩ := zdq h
           obtain ⟨n14, q71, q72⟩ := zdw q70
           have f30 := (f27.mono (K54 S))
           obtain ⟨b23, o12, c12, vs14, q73, q74, f31, q75⟩ := zdc f30 q72
           obtain ⟨v27, v28, v29, v30, rfl, k27, k28, k29, k30, -⟩ := rProof_open q75
           refine zby rfl rfl hc34 (zbz (r := rProof) (v := p_v3) (n := n14) (m := (o12 + n14 * rProof.sz)) zbs ti42 rfl q73 rfl q71 q72 rfl ?_)
           refine zby rfl rfl hc34 (zdj (vs := [v27, v28, (zaa x21.Bound.Negative), v29, v30]) zbf rfl ti42 rfl rfl zea f31 ?_)
           obtain ⟨r17, q76, h⟩ := zdq h
           have f32 := ((hE113.mono (K53 S)).mono (K54 S))
           refine zby rfl rfl hc34 (zaw en19 rfl rfl (ih x19 x21 (osv ob17 0 x19.length cap17) v27 v28 v29 v30 _ Any (zdy (pre := []) (o := 0) (n := x19.length) (cap := cap17) (hL65.at 1 rfl rfl) f32 vw_any rfl rfl rfl hc33) (k27.mono vw_any) (k28.mono vw_any) (k29.mono vw_any) (k30.mono vw_any) r17 q76) ?_)
           rintro _ w122 hE115 ⟨rfl, -⟩
           have hL66 := hL65.ext hE115
           refine zaf (zcm (t := r16) (v := (zaa r17)) rfl hc34 rfl ?_)
           refine zaf (zak (v := (zaa r17)) rfl ?_)
           refine zao (zbn ?_)
           obtain rfl := zag h
           refine ⟨[(zaa r17)], ⟨rfl, trivial⟩, ⟨_, rfl, hL66.done, ?_⟩⟩
           exact ⟨rfl, trivial⟩
          ·
           replace h := ite_f hc34 h
           refine zbx rfl rfl (zdt hc34) ?_
           refine zbx rfl rfl (zdt hc34) ?_
           refine zbx rfl rfl (zdt hc34) ?_
           refine zbx rfl rfl (zdt hc34) ?_
           refine zbx rfl rfl (zdt hc34) ?_
           refine zbx rfl rfl (zdt hc34) ?_
           refine zaf (zca (t := r16) (v := (zaa false)) rfl (zdt hc34) rfl ?_)
           refine zaf (zak (v := (zaa false)) rfl ?_)
           refine zao (zbn ?_)
           obtain rfl := zag h
           refine ⟨[(zaa false)], ⟨rfl, trivial⟩, ⟨_, rfl, hL65.done, ?_⟩⟩
           exact ⟨rfl, trivial⟩
theorem rbigs_w (N : Nat) (l : (List Big)) (l_v : Value) (w : World) (S : Nat → Prop) (l_h : Rs rBig (vH w S [] w) l_v l) (r : Bool) (h : rbigs N l = some r) :
  Calls Try.prog 43 #[l_v] w (Ret w (fun v w' => (zaa r) = v ∧ True)) := by
 unfold rbigs at h
 have hL : vL w w [] [] := Go.X.Loc.begin0 w
 refine calls_of (l := [l_v]) (rl := [.tmp 2]) (n := 20) Try.func43 rfl rfl rfl (zae rfl) ?_
 refine zaj (zah rfl (zaf (zak (v := (zaa false)) rfl ?_)))
 refine zao (zaj (zaj (zah rfl (zaf (zak (v := (zac .i64 0)) rfl ?_)))))
 refine zao ?_
 obtain ⟨s10, hl10, g10⟩ := zdq h
 refine zbq (fun e w' => ∃  (u : Env), (Sum.inl ()) = s10 ∧ e = upds [(0, l_v)] u ∧ vL w w' [] [] ∧ Keep w.heap.size [] w [] w' ∧ True) ?_ ?_
 ·
  refine zbj ?_
  refine zci hl10 (fun (ss : Int) (e : Env) (w' : World) => match ss with | i10 => ∃ (u : Env), e = upds [(0, l_v), (3, (zac .i64 i10))] u ∧ vL w w' [] [] ∧ Keep w.heap.size [] w [] w' ∧ True) ⟨_, (zdv ⟨rfl, rfl, trivial⟩), hL, zbo, trivial⟩ ?_
  rintro i10 oo _ w10 ⟨u, rfl, hL10, K10, -⟩ h hd10
  rw [rbigs_b1] at h
  refine zaj (zaj (zah rfl (zaf (zai (v := (zac .i64 i10)) rfl ?_))))
  refine zaf (zai (v := l_v) rfl ?_)
  have f10 := (l_h.mono (K10 S))
  refine zaf (zbg (v := l_v) zay rfl f10 ?_)
  refine zaf (zcr (x := i10) (y := (l.length : Int)) ((i10 : Int) < (l.length : Int)) rfl rfl zbl ?_)
  refine zao ?_
  refine zbh ((i10 : Int) < (l.length : Int)) rfl (fun hc10 => ?_) (fun hc10 => ?_)
  ·
   replace h := ite_t hc10 h
   refine zbi (zaj (zbj (zaj (zah rfl (zaf (zai (v := l_v) rfl ?_))))))
   refine zaf (zai (v := (zac .i64 i10)) rfl ?_)
   obtain ⟨x10, q10, h⟩ := zdq h
   obtain ⟨n10, q11, q12⟩ := zdw q10
   obtain ⟨b10, o10, c10, vs10, q13, q14, f11, q15⟩ := zdc f10 q12
   obtain ⟨v10, rfl, k10, -⟩ := rBig_open q15
   refine zaf (zbz (r := rBig) (v := l_v) (n := n10) (m := (o10 + n10 * rBig.sz)) zay ti26 rfl q13 rfl q11 q12 rfl ?_)
   have f12 := (f11.part (us := [v10]) 1 rfl)
   refine zaf (zar (q := (o10 + n10 * rBig.sz) + 1) zan rfl ti24 rfl rfl rfl ?_)
   refine zaf (zct (v := v10) zap rfl rfl zea f12 ?_)
   refine zaf (zbg (v := v10) zap rfl k10 ?_)
   refine zaf (zdo (x := (x10.Digits.length : Int)) (y := 4) (((x10.Digits.length : Int) : Int) > 4) rfl rfl zbl ?_)
   refine zao ?_
   refine zbh (((x10.Digits.length : Int) : Int) > 4) rfl (fun hc11 => ?_) (fun hc11 => ?_)
   ·
    replace h := ite_t hc11 h
    refine zaj (zah rfl (zaf (zak (v := (zaa false)) rfl ?_)))
    refine zao (zbn ?_)
    obtain rfl := zag h
    obtain rfl := hd10 _ rfl
    replace h := g10
    try dsimp only at h
    obtain rfl := zag h
    refine ⟨[(zaa false)], ⟨rfl, trivial⟩, ⟨_, rfl, hL10.done, ?_⟩⟩
    exact ⟨rfl, trivial⟩
   ·
    replace h := ite_f hc11 h
    refine zbi (zbr (zah rfl (zaf (zai (v := (zac .i64 i10)) rfl ?_))))
    refine zaf (zcf (x := i10) (y := 1) (z := (iw (i10 + 1))) rfl rfl rfl ?_)
    refine zaf (zak (v := (zac .i64 (iw (i10 + 1)))) rfl ?_)
    refine zao ?_
    obtain rfl := zag h
    refine zas ⟨(iw (i10 + 1)), rfl, ?_⟩
    exact ⟨_, (zdv ⟨rfl, rfl, trivial⟩), hL10, K10, trivial⟩
  ·
   replace h := ite_f hc10 h
   refine zcs rfl ?_
   obtain rfl := zag h
   obtain rfl := hd10 _ rfl
   replace h := g10
   try dsimp only at h
   skip
   refine zas ?_
   exact ⟨_, rfl, (zdv ⟨rfl, trivial⟩), hL10, K10, trivial⟩
 ·
  rintro _ w11 ⟨u, rfl, rfl, hL11, K11, -⟩
  replace h := g10
  try dsimp only at h
  refine zaj (zah rfl (zaf (zai (v := l_v) rfl ?_)))
  have f13 := (l_h.mono (K11 S))
  refine zaf (zbg (v := l_v) zay rfl f13 ?_)
  refine zaf (OpY.leq (x := (l.length : Int)) (y := 6) (((l.length : Int) : Int) ≤ 6) rfl rfl zbl ?_)
  refine zaf (zak (v := (zaa (decide (((l.length : Int) : Int) ≤ 6)))) rfl ?_)
  refine zao (zbn ?_)
  obtain rfl := zag h
  refine ⟨[(zaa (decide (((l.length : Int) : Int) ≤ 6)))], ⟨rfl, trivial⟩, ⟨_, rfl, hL11.done, ?_⟩⟩
  exact ⟨rfl, trivial⟩
theorem rSmall_w (N : Nat) (l : (List Ineq)) (l_v : Value) (w : World) (S : Nat → Prop) (l_h : Rs rIneq (vH w S [] w) l_v l) (r : Bool) (h : rSmall N l = some r) :
  Calls Try.prog 12 #[l_v] w (Ret w (fun v w' => (zaa r) = v ∧ True)) := by
 unfold rSmall at h
 have hL : vL w w [] [] := Go.X.Loc.begin0 w
 refine calls_of (l := [l_v]) (rl := [.tmp 2]) (n := 30) Try.func12 rfl rfl rfl (zae rfl) ?_
 refine zaj (zah rfl (zaf (zak (v := (zaa false)) rfl ?_)))
 refine zao (zaj (zaj (zah rfl (zaf (zak (v := (zac .i64 0)) rfl ?_)))))
 refine zao ?_
 obtain ⟨s10, hl10, g10⟩ := zdq h
 refine zbq (fun e w' => ∃  (u : Env), (Sum.inl ()) = s10 ∧ e = upds [(0, l_v)] u ∧ vL w w' [] [] ∧ Keep w.heap.size [] w [] w' ∧ True) ?_ ?_
 ·
  refine zbj ?_
  refine zci hl10 (fun (ss : Int) (e : Env) (w' : World) => match ss with | i10 => ∃ (u : Env), e = upds [(0, l_v), (3, (zac .i64 i10))] u ∧ vL w w' [] [] ∧ Keep w.heap.size [] w [] w' ∧ True) ⟨_, (zdv ⟨rfl, rfl, trivial⟩), hL, zbo, trivial⟩ ?_
  rintro i10 oo _ w10 ⟨u, rfl, hL10, K10, -⟩ h hd10
  rw [rSmall_b1] at h
  refine zaj (zaj (zah rfl (zaf (zai (v := (zac .i64 i10)) rfl ?_))))
  refine zaf (zai (v := l_v) rfl ?_)
  have f10 := (l_h.mono (K10 S))
  refine zaf (zbg (v := l_v) zbc rfl f10 ?_)
  refine zaf (zcr (x := i10) (y := (l.length : Int)) ((i10 : Int) < (l.length : Int)) rfl rfl zbl ?_)
  refine zao ?_
  refine zbh ((i10 : Int) < (l.length : Int)) rfl (fun hc10 => ?_) (fun hc10 => ?_)
  ·
   replace h := ite_t hc10 h
   refine zbi (zaj (zbj (zaj ?_)))
   obtain ⟨s11, h, g11⟩ := zdq h
   refine zbq (fun e w' => ∃ (x10 : Bool) (u : Env), x10 = s11 ∧ e = upds [(0, l_v), (3, (zac .i64 i10)), (26, (zaa x10))] u ∧ vL w w' [] [] ∧ Keep w.heap.size [] w10 [] w' ∧ True) ?_ ?_
   ·
    refine zah rfl (zaf (zai (v := l_v) rfl ?_))
    refine zaf (zai (v := (zac .i64 i10)) rfl ?_)
    obtain ⟨x11, q10, h⟩ := zdq h
    obtain ⟨n10, q11, q12⟩ := zdw q10
    obtain ⟨b10, o10, c10, vs10, q13, q14, f11, q15⟩ := zdc f10 q12
    obtain ⟨v10, v11, rfl, k10, k11, -⟩ := rIneq_open q15
    refine zaf (zbz (r := rIneq) (v := l_v) (n := n10) (m := (o10 + n10 * rIneq.sz)) zbc ti34 rfl q13 rfl q11 q12 rfl ?_)
    have f12 := (f11.part (us := [v10]) 0 rfl)
    refine zaf (zar (q := (o10 + n10 * rIneq.sz) + 0) zaz rfl ti32 rfl rfl rfl ?_)
    refine zaf (zct (v := v10) zay rfl rfl zea f12 ?_)
    obtain ⟨r10, q16, h⟩ := zdq h
    refine zaf (zaw en43 rfl rfl (rbigs_w N x11.Coefs v10 _ Any (k10.mono vw_any) r10 q16) ?_)
    rintro _ w11 hE10 ⟨rfl, -⟩
    have hL11 := hL10.ext hE10
    have K11 := ke hL10 hE10
    refine zaf (OpY.not (x := r10) rfl ?_)
    refine zaf (zai (v := (zaa (!r10))) rfl ?_)
    by_cases hc11 : (!r10) = true
    ·
     replace h := ite_t hc11 h
     refine zbx rfl rfl hc11 ?_
     refine zbx rfl rfl hc11 ?_
     refine zbx rfl rfl hc11 ?_
     refine zbx rfl rfl hc11 ?_
     refine zbx rfl rfl hc11 ?_
     refine zbx rfl rfl hc11 ?_
     refine zbx rfl rfl hc11 ?_
     refine zbx rfl rfl hc11 ?_
     refine zaf (zcm (t := (!r10)) (v := (zaa true)) rfl hc11 rfl ?_)
     refine zao ?_
     obtain rfl := zag h
     refine zas ?_
     exact ⟨true, _, rfl, (zdv ⟨rfl, rfl, rfl, trivial⟩), hL11, K11, trivial⟩
    ·
     replace h := ite_f hc11 h
     refine zby rfl rfl (zdt hc11) (zai (v := l_v) rfl ?_)
     refine zby rfl rfl (zdt hc11) (zai (v := (zac .i64 i10)) rfl ?_)
     obtain ⟨x12, q17, h⟩ := zdq h
     obtain ⟨n11, q18, q19⟩ := zdw q17
     have f13 := (f10.mono (K11 S))
     obtain ⟨b11, o11, c11, vs11, q20, q21, f14, q22⟩ := zdc f13 q19
     obtain ⟨v12, v13, rfl, k12, k13, -⟩ := rIneq_open q22
     refine zby rfl rfl (zdt hc11) (zbz (r := rIneq) (v := l_v) (n := n11) (m := (o11 + n11 * rIneq.sz)) zbc ti34 rfl q20 rfl q18 q19 rfl ?_)
     have f15 := (f14.part (us := [(zaa x12.Bound.Negative), v13]) 1 rfl)
     refine zby rfl rfl (zdt hc11) (zar (q := (o11 + n11 * rIneq.sz) + 1) zaz rfl ti26 rfl rfl rfl ?_)
     have f16 := (f15.part (us := [v13]) 1 rfl)
     refine zby rfl rfl (zdt hc11) (zar (q := (o11 + n11 * rIneq.sz) + 1 + 1) zan rfl ti24 rfl rfl rfl ?_)
     refine zby rfl rfl (zdt hc11) (zct (v := v13) zap rfl rfl zea f16 ?_)
     refine zby rfl rfl (zdt hc11) (zbg (v := v13) zap rfl k13 ?_)
     refine zby rfl rfl (zdt hc11) (zdo (x := (x12.Bound.Digits.length : Int)) (y := 4) (((x12.Bound.Digits.length : Int) : Int) > 4) rfl rfl zbl ?_)
     refine zaf (zca (t := (!r10)) (v := (zaa (decide (((x12.Bound.Digits.length : Int) : Int) > 4)))) rfl (zdt hc11) rfl ?_)
     refine zao ?_
     obtain rfl := zag h
     refine zas ?_
     exact ⟨(decide (((x12.Bound.Digits.length : Int) : Int) > 4)), _, rfl, (zdv ⟨rfl, rfl, rfl, trivial⟩), hL11, K11, trivial⟩
   ·
    rintro _ w12 ⟨x10, u, rfl, rfl, hL12, K12, -⟩
    replace h := g11
    try dsimp only at h
    refine zcu x10 rfl (fun hc12 => ?_) (fun hc12 => ?_)
    ·
     replace h := ite_t hc12 h
     refine zaj (zah rfl (zaf (zak (v := (zaa false)) rfl ?_)))
     refine zao (zbn ?_)
     obtain rfl := zag h
     obtain rfl := hd10 _ rfl
     replace h := g10
     try dsimp only at h
     obtain rfl := zag h
     refine ⟨[(zaa false)], ⟨rfl, trivial⟩, ⟨_, rfl, hL12.done, ?_⟩⟩
     exact ⟨rfl, trivial⟩
    ·
     replace h := ite_f hc12 h
     refine zbi (zbr (zah rfl (zaf (zai (v := (zac .i64 i10)) rfl ?_))))
     refine zaf (zcf (x := i10) (y := 1) (z := (iw (i10 + 1))) rfl rfl rfl ?_)
     refine zaf (zak (v := (zac .i64 (iw (i10 + 1)))) rfl ?_)
     refine zao ?_
     obtain rfl := zag h
     refine zas ⟨(iw (i10 + 1)), rfl, ?_⟩
     exact ⟨_, (zdv ⟨rfl, rfl, trivial⟩), hL12, (zaq K10 K12), trivial⟩
  ·
   replace h := ite_f hc10 h
   refine zcs rfl ?_
   obtain rfl := zag h
   obtain rfl := hd10 _ rfl
   replace h := g10
   try dsimp only at h
   skip
   refine zas ?_
   exact ⟨_, rfl, (zdv ⟨rfl, trivial⟩), hL10, K10, trivial⟩
 ·
  rintro _ w13 ⟨u, rfl, rfl, hL13, K13, -⟩
  replace h := g10
  try dsimp only at h
  refine zaj (zah rfl (zaf (zai (v := l_v) rfl ?_)))
  have f17 := (l_h.mono (K13 S))
  refine zaf (zbg (v := l_v) zbc rfl f17 ?_)
  refine zaf (OpY.leq (x := (l.length : Int)) (y := 12) (((l.length : Int) : Int) ≤ 12) rfl rfl zbl ?_)
  refine zaf (zak (v := (zaa (decide (((l.length : Int) : Int) ≤ 12)))) rfl ?_)
  refine zao (zbn ?_)
  obtain rfl := zag h
  refine ⟨[(zaa (decide (((l.length : Int) : Int) ≤ 12)))], ⟨rfl, trivial⟩, ⟨_, rfl, hL13.done, ?_⟩⟩
  exact ⟨rfl, trivial⟩
theorem rSmallStep_w (N : Nat) (s : Step) (s_v : Value) (s_v1 : Value) (w : World) (S : Nat → Prop) (s_h : Rs rUse (vH w S [] w) s_v s.Uses) (s_h1 : Rs (rInt .u32) (vH w S [] w) s_v1 s.Divisor.Digits) (r : Bool) (h : rSmallStep N s = some r) :
  Calls Try.prog 13 #[(zam #[s_v, (zaa s.Divisor.Negative), s_v1])] w (Ret w (fun v w' => (zaa r) = v ∧ True)) := by
 unfold rSmallStep at h
 have hL : vL w w [] [] := Go.X.Loc.begin0 w
 refine calls_of (l := [(zam #[s_v, (zaa s.Divisor.Negative), s_v1])]) (rl := [.tmp 2]) (n := 31) Try.func13 rfl rfl rfl (zae rfl) ?_
 refine zaj (zah rfl (zaf (zde (cs := [s_v, (zaa s.Divisor.Negative), s_v1]) rfl rfl hL ?_)))
 intro b1 w2 hL3 hS5
 have K4 := ks w hS5
 refine zaf (zak (v := (zaa false)) rfl ?_)
 refine zao (zaj (zaj (zah rfl (zaf (zak (v := (zac .i64 0)) rfl ?_)))))
 refine zao ?_
 obtain ⟨s10, hl10, g10⟩ := zdq h
 refine zbq (fun e w' => ∃  (u : Env), (Sum.inl ()) = s10 ∧ e = upds [(1, (zal (some ⟨b1, 0, none⟩)))] u ∧ vL w w' [some b1] [zab [s_v, (zaa s.Divisor.Negative), s_v1]] ∧ Keep w.heap.size [some b1] w2 [some b1] w' ∧ True) ?_ ?_
 ·
  refine zbj ?_
  refine zci hl10 (fun (ss : Int) (e : Env) (w' : World) => match ss with | i10 => ∃ (u : Env), e = upds [(1, (zal (some ⟨b1, 0, none⟩))), (3, (zac .i64 i10))] u ∧ vL w w' [some b1] [zab [s_v, (zaa s.Divisor.Negative), s_v1]] ∧ Keep w.heap.size [some b1] w2 [some b1] w' ∧ True) ⟨_, (zdv ⟨rfl, rfl, trivial⟩), hL3, zbo, trivial⟩ ?_
  rintro i10 oo _ w10 ⟨u, rfl, hL10, K10, -⟩ h hd10
  rw [rSmallStep_b1] at h
  refine zaj (zaj (zah rfl (zaf (zai (v := (zac .i64 i10)) rfl ?_))))
  refine zaf (zar (q := 0) zck rfl ti23 rfl rfl rfl ?_)
  refine zaf (zbb (v := s_v) zcc rfl rfl (hL10.at 0 rfl rfl) rfl ?_)
  have f10 := ((s_h.mono (K4 S)).mono (K10 S))
  refine zaf (zbg (v := s_v) zcc rfl f10 ?_)
  refine zaf (zcr (x := i10) (y := (s.Uses.length : Int)) ((i10 : Int) < (s.Uses.length : Int)) rfl rfl zbl ?_)
  refine zao ?_
  refine zbh ((i10 : Int) < (s.Uses.length : Int)) rfl (fun hc10 => ?_) (fun hc10 => ?_)
  ·
   replace h := ite_t hc10 h
   refine zbi (zaj (zbj (zaj (zah rfl (zaf (zar (q := 0) zck rfl ti23 rfl rfl rfl ?_))))))
   refine zaf (zbb (v := s_v) zcc rfl rfl (hL10.at 0 rfl rfl) rfl ?_)
   refine zaf (zai (v := (zac .i64 i10)) rfl ?_)
   obtain ⟨x10, q10, h⟩ := zdq h
   obtain ⟨n10, q11, q12⟩ := zdw q10
   obtain ⟨b10, o10, c10, vs10, q13, q14, f11, q15⟩ := zdc f10 q12
   obtain ⟨v10, rfl, k10, -⟩ := rUse_open q15
   refine zaf (zbz (r := rUse) (v := s_v) (n := n10) (m := (o10 + n10 * rUse.sz)) zcc ti50 rfl q13 rfl q11 q12 rfl ?_)
   have f12 := (f11.part (us := [(zaa x10.N.Negative), v10]) 1 rfl)
   refine zaf (zar (q := (o10 + n10 * rUse.sz) + 1) zcp rfl ti26 rfl rfl rfl ?_)
   have f13 := (f12.part (us := [v10]) 1 rfl)
   refine zaf (zar (q := (o10 + n10 * rUse.sz) + 1 + 1) zan rfl ti24 rfl rfl rfl ?_)
   refine zaf (zct (v := v10) zap rfl rfl zea f13 ?_)
   refine zaf (zbg (v := v10) zap rfl k10 ?_)
   refine zaf (zdo (x := (x10.N.Digits.length : Int)) (y := 4) (((x10.N.Digits.length : Int) : Int) > 4) rfl rfl zbl ?_)
   refine zao ?_
   refine zbh (((x10.N.Digits.length : Int) : Int) > 4) rfl (fun hc11 => ?_) (fun hc11 => ?_)
   ·
    replace h := ite_t hc11 h
    refine zaj (zah rfl (zaf (zak (v := (zaa false)) rfl ?_)))
    refine zao (zbn ?_)
    obtain rfl := zag h
    obtain rfl := hd10 _ rfl
    replace h := g10
    try dsimp only at h
    obtain rfl := zag h
    refine ⟨[(zaa false)], ⟨rfl, trivial⟩, ⟨_, rfl, hL10.done, ?_⟩⟩
    exact ⟨rfl, trivial⟩
   ·
    replace h := ite_f hc11 h
    refine zbi (zbr (zah rfl (zaf (zai (v := (zac .i64 i10)) rfl ?_))))
    refine zaf (zcf (x := i10) (y := 1) (z := (iw (i10 + 1))) rfl rfl rfl ?_)
    refine zaf (zak (v := (zac .i64 (iw (i10 + 1)))) rfl ?_)
    refine zao ?_
    obtain rfl := zag h
    refine zas ⟨(iw (i10 + 1)), rfl, ?_⟩
    exact ⟨_, (zdv ⟨rfl, rfl, trivial⟩), hL10, K10, trivial⟩
  ·
   replace h := ite_f hc10 h
   refine zcs rfl ?_
   obtain rfl := zag h
   obtain rfl := hd10 _ rfl
   replace h := g10
   try dsimp only at h
   skip
   refine zas ?_
   exact ⟨_, rfl, (zdv ⟨rfl, trivial⟩), hL10, K10, trivial⟩
 ·
  rintro _ w11 ⟨u, rfl, rfl, hL11, K11, -⟩
  replace h := g10
  try dsimp only at h
  refine zaj (zah rfl (zaf (zar (q := 0) zck rfl ti23 rfl rfl rfl ?_)))
  refine zaf (zbb (v := s_v) zcc rfl rfl (hL11.at 0 rfl rfl) rfl ?_)
  have f14 := ((s_h.mono (K4 S)).mono (K11 S))
  refine zaf (zbg (v := s_v) zcc rfl f14 ?_)
  refine zaf (OpY.leq (x := (s.Uses.length : Int)) (y := 12) (((s.Uses.length : Int) : Int) ≤ 12) rfl rfl zbl ?_)
  refine zaf (zai (v := (zaa (decide (((s.Uses.length : Int) : Int) ≤ 12)))) rfl ?_)
  by_cases hc12 : ((s.Uses.length : Int) : Int) ≤ 12
  ·
   replace h := ite_t hc12 h
   refine zby rfl rfl (zdu hc12) (zar (q := 1) zck rfl ti26 rfl rfl rfl ?_)
   refine zby rfl rfl (zdu hc12) (zar (q := 2) zan rfl ti24 rfl rfl rfl ?_)
   refine zby rfl rfl (zdu hc12) (zbb (v := s_v1) zap rfl rfl (hL11.at 0 rfl rfl) rfl ?_)
   have f15 := ((s_h1.mono (K4 S)).mono (K11 S))
   refine zby rfl rfl (zdu hc12) (zbg (v := s_v1) zap rfl f15 ?_)
   refine zby rfl rfl (zdu hc12) (OpY.leq (x := (s.Divisor.Digits.length : Int)) (y := 4) (((s.Divisor.Digits.length : Int) : Int) ≤ 4) rfl rfl zbl ?_)
   refine zaf (zcm (t := (decide (((s.Uses.length : Int) : Int) ≤ 12))) (v := (zaa (decide (((s.Divisor.Digits.length : Int) : Int) ≤ 4)))) rfl (zdu hc12) rfl ?_)
   refine zaf (zak (v := (zaa (decide (((s.Divisor.Digits.length : Int) : Int) ≤ 4)))) rfl ?_)
   refine zao (zbn ?_)
   obtain rfl := zag h
   refine ⟨[(zaa (decide (((s.Divisor.Digits.length : Int) : Int) ≤ 4)))], ⟨rfl, trivial⟩, ⟨_, rfl, hL11.done, ?_⟩⟩
   exact ⟨rfl, trivial⟩
  ·
   replace h := ite_f hc12 h
   refine zbx rfl rfl (zdr hc12) ?_
   refine zbx rfl rfl (zdr hc12) ?_
   refine zbx rfl rfl (zdr hc12) ?_
   refine zbx rfl rfl (zdr hc12) ?_
   refine zbx rfl rfl (zdr hc12) ?_
   refine zaf (zca (t := (decide (((s.Uses.length : Int) : Int) ≤ 12))) (v := (zaa false)) rfl (zdr hc12) rfl ?_)
   refine zaf (zak (v := (zaa false)) rfl ?_)
   refine zao (zbn ?_)
   obtain rfl := zag h
   refine ⟨[(zaa false)], ⟨rfl, trivial⟩, ⟨_, rfl, hL11.done, ?_⟩⟩
   exact ⟨rfl, trivial⟩
theorem rweight_w (N : Nat) : ∀ (p : Proof) (p_v : Value) (p_v1 : Value) (p_v2 : Value) (p_v3 : Value) (w : World) (S : Nat → Prop) (p_h : Rs rStep (vH w S [] w) p_v p.Steps) (p_h1 : Rs rBig (vH w S [] w) p_v1 p.Form) (p_h2 : Rs (rInt .u32) (vH w S [] w) p_v2 p.Bound.Digits) (p_h3 : Rs rProof (vH w S [] w) p_v3 p.Children) (r : Int) (h : rweight N p = some r), Calls Try.prog 52 #[(zam #[p_v, p_v1, (zaa p.Bound.Negative), p_v2, p_v3])] w (Ret w (fun v w' => (zac .i64 r) = v ∧ True)) := by
 induction N with
 | zero => intro p p_v p_v1 p_v2 p_v3 w S p_h p_h1 p_h2 p_h3 r h; cases (show (none : Option Int) = some r from h)
 | succ N ih =>
  intro p p_v p_v1 p_v2 p_v3 w S p_h p_h1 p_h2 p_h3 r h
  replace h : rweight_step N (rweight N) p = some r := h
  unfold rweight_step at h
  have hL : vL w w [] [] := Go.X.Loc.begin0 w
  refine calls_of (l := [(zam #[p_v, p_v1, (zaa p.Bound.Negative), p_v2, p_v3])]) (rl := [.tmp 2]) (n := 59) Try.func52 rfl rfl rfl (zae rfl) ?_
  refine zaj (zah rfl (zaf (zde (cs := [p_v, p_v1, (zaa p.Bound.Negative), p_v2, p_v3]) rfl rfl hL ?_)))
  intro b1 w2 hL3 hS5
  have K4 := ks w hS5
  refine zaf (zak (v := (zac .i64 0)) rfl ?_)
  refine zao (zaj (zah rfl (zaf (zar (q := 0) zbf rfl ti39 rfl rfl rfl ?_))))
  refine zaf (zbb (v := p_v) zcw rfl rfl (hL3.at 0 rfl rfl) rfl ?_)
  have f6 := (p_h.mono (K4 S))
  refine zaf (zbg (v := p_v) zcw rfl f6 ?_)
  refine zaf (zcf (x := 1) (y := (p.Steps.length : Int)) (z := (iw (1 + (p.Steps.length : Int)))) rfl rfl rfl ?_)
  refine zaf (zak (v := (zac .i64 (iw (1 + (p.Steps.length : Int))))) rfl ?_)
  refine zao (zaj (zaj ?_))
  obtain ⟨s10, h, g10⟩ := zdq h
  refine zbq (fun e w' => ∃ (x10 : Bool) (u : Env), x10 = s10 ∧ e = upds [(1, (zal (some ⟨b1, 0, none⟩))), (3, (zac .i64 (iw (1 + (p.Steps.length : Int))))), (20, (zaa x10))] u ∧ vL w w' [some b1] [zab [p_v, p_v1, (zaa p.Bound.Negative), p_v2, p_v3]] ∧ Keep w.heap.size [some b1] w2 [some b1] w' ∧ True) ?_ ?_
  ·
   refine zah rfl (zaf (zar (q := 1) zbf rfl ti32 rfl rfl rfl ?_))
   refine zaf (zbb (v := p_v1) zay rfl rfl (hL3.at 0 rfl rfl) rfl ?_)
   obtain ⟨r10, q10, h⟩ := zdq h
   have f10 := (p_h1.mono (K4 S))
   refine zaf (zaw en43 rfl rfl (rbigs_w N p.Form p_v1 _ Any (f10.mono vw_any) r10 q10) ?_)
   rintro _ w10 hE10 ⟨rfl, -⟩
   have hL10 := hL3.ext hE10
   have K10 := ke hL3 hE10
   refine zaf (OpY.not (x := r10) rfl ?_)
   refine zaf (zai (v := (zaa (!r10))) rfl ?_)
   by_cases hc10 : (!r10) = true
   ·
    replace h := ite_t hc10 h
    refine zbx rfl rfl hc10 ?_
    refine zbx rfl rfl hc10 ?_
    refine zbx rfl rfl hc10 ?_
    refine zbx rfl rfl hc10 ?_
    refine zbx rfl rfl hc10 ?_
    refine zaf (zcm (t := (!r10)) (v := (zaa true)) rfl hc10 rfl ?_)
    refine zao ?_
    obtain rfl := zag h
    refine zas ?_
    exact ⟨true, _, rfl, (zdv ⟨rfl, rfl, rfl, trivial⟩), hL10, K10, trivial⟩
   ·
    replace h := ite_f hc10 h
    refine zby rfl rfl (zdt hc10) (zar (q := 2) zbf rfl ti26 rfl rfl rfl ?_)
    refine zby rfl rfl (zdt hc10) (zar (q := 3) zan rfl ti24 rfl rfl rfl ?_)
    refine zby rfl rfl (zdt hc10) (zbb (v := p_v2) zap rfl rfl (hL10.at 0 rfl rfl) rfl ?_)
    have f11 := ((p_h2.mono (K4 S)).mono (K10 S))
    refine zby rfl rfl (zdt hc10) (zbg (v := p_v2) zap rfl f11 ?_)
    refine zby rfl rfl (zdt hc10) (zdo (x := (p.Bound.Digits.length : Int)) (y := 4) (((p.Bound.Digits.length : Int) : Int) > 4) rfl rfl zbl ?_)
    refine zaf (zca (t := (!r10)) (v := (zaa (decide (((p.Bound.Digits.length : Int) : Int) > 4)))) rfl (zdt hc10) rfl ?_)
    refine zao ?_
    obtain rfl := zag h
    refine zas ?_
    exact ⟨(decide (((p.Bound.Digits.length : Int) : Int) > 4)), _, rfl, (zdv ⟨rfl, rfl, rfl, trivial⟩), hL10, K10, trivial⟩
  ·
   rintro _ w11 ⟨x10, u, rfl, rfl, hL11, K11, -⟩
   replace h := g10
   try dsimp only at h
   refine zcu x10 rfl (fun hc11 => ?_) (fun hc11 => ?_)
   ·
    replace h := ite_t hc11 h
    refine zaj (zah rfl (zaf (zak (v := (zac .i64 101)) rfl ?_)))
    refine zao (zbn ?_)
    obtain rfl := zag h
    refine ⟨[(zac .i64 101)], ⟨rfl, trivial⟩, ⟨_, rfl, hL11.done, ?_⟩⟩
    exact ⟨rfl, trivial⟩
   ·
    replace h := ite_f hc11 h
    refine zbi (zaj (zaj (zah rfl (zaf (zak (v := (zac .i64 0)) rfl ?_)))))
    refine zao ?_
    obtain ⟨s11, hl10, g11⟩ := zdq h
    refine zbq (fun e w' => ∃  (u : Env), (Sum.inl ()) = s11 ∧ e = upds [(1, (zal (some ⟨b1, 0, none⟩))), (3, (zac .i64 (iw (1 + (p.Steps.length : Int)))))] u ∧ vL w w' [some b1] [zab [p_v, p_v1, (zaa p.Bound.Negative), p_v2, p_v3]] ∧ Keep w.heap.size [some b1] w11 [some b1] w' ∧ True) ?_ ?_
    ·
     refine zbj ?_
     refine zci hl10 (fun (ss : Int) (e : Env) (w' : World) => match ss with | i10 => ∃ (u : Env), e = upds [(1, (zal (some ⟨b1, 0, none⟩))), (3, (zac .i64 (iw (1 + (p.Steps.length : Int))))), (4, (zac .i64 i10))] u ∧ vL w w' [some b1] [zab [p_v, p_v1, (zaa p.Bound.Negative), p_v2, p_v3]] ∧ Keep w.heap.size [some b1] w11 [some b1] w' ∧ True) ⟨_, (zdv ⟨rfl, rfl, rfl, trivial⟩), hL11, zbo, trivial⟩ ?_
     rintro i10 oo _ w12 ⟨u, rfl, hL12, K12, -⟩ h hd10
     rw [rweight_b1] at h
     refine zaj (zaj ?_)
     obtain ⟨s12, h, g12⟩ := zdq h
     refine zbq (fun e w' => ∃ (x11 : Bool) (u : Env), x11 = s12 ∧ e = upds [(1, (zal (some ⟨b1, 0, none⟩))), (3, (zac .i64 (iw (1 + (p.Steps.length : Int))))), (4, (zac .i64 i10)), (29, (zaa x11))] u ∧ vL w w' [some b1] [zab [p_v, p_v1, (zaa p.Bound.Negative), p_v2, p_v3]] ∧ Keep w.heap.size [some b1] w12 [some b1] w' ∧ True) ?_ ?_
     ·
      refine zah rfl (zaf (zai (v := (zac .i64 i10)) rfl ?_))
      refine zaf (zar (q := 0) zbf rfl ti39 rfl rfl rfl ?_)
      refine zaf (zbb (v := p_v) zcw rfl rfl (hL12.at 0 rfl rfl) rfl ?_)
      have f12 := ((f6.mono (K11 S)).mono (K12 S))
      refine zaf (zbg (v := p_v) zcw rfl f12 ?_)
      refine zaf (zcr (x := i10) (y := (p.Steps.length : Int)) ((i10 : Int) < (p.Steps.length : Int)) rfl rfl zbl ?_)
      refine zaf (zai (v := (zaa (decide ((i10 : Int) < (p.Steps.length : Int))))) rfl ?_)
      by_cases hc12 : (i10 : Int) < (p.Steps.length : Int)
      ·
       replace h := ite_t hc12 h
       refine zby rfl rfl (zdu hc12) (zai (v := (zac .i64 (iw (1 + (p.Steps.length : Int))))) rfl ?_)
       refine zby rfl rfl (zdu hc12) (OpY.leq (x := (iw (1 + (p.Steps.length : Int)))) (y := 100) (((iw (1 + (p.Steps.length : Int))) : Int) ≤ 100) rfl rfl zbl ?_)
       refine zaf (zcm (t := (decide ((i10 : Int) < (p.Steps.length : Int)))) (v := (zaa (decide (((iw (1 + (p.Steps.length : Int))) : Int) ≤ 100)))) rfl (zdu hc12) rfl ?_)
       refine zao ?_
       obtain rfl := zag h
       refine zas ?_
       exact ⟨(decide (((iw (1 + (p.Steps.length : Int))) : Int) ≤ 100)), _, rfl, (zdv ⟨rfl, rfl, rfl, rfl, trivial⟩), hL12, zbo, trivial⟩
      ·
       replace h := ite_f hc12 h
       refine zbx rfl rfl (zdr hc12) ?_
       refine zbx rfl rfl (zdr hc12) ?_
       refine zaf (zca (t := (decide ((i10 : Int) < (p.Steps.length : Int)))) (v := (zaa false)) rfl (zdr hc12) rfl ?_)
       refine zao ?_
       obtain rfl := zag h
       refine zas ?_
       exact ⟨false, _, rfl, (zdv ⟨rfl, rfl, rfl, rfl, trivial⟩), hL12, zbo, trivial⟩
     ·
      rintro _ w13 ⟨x11, u, rfl, rfl, hL13, K13, -⟩
      replace h := g12
      try dsimp only at h
      refine zcu x11 rfl (fun hc13 => ?_) (fun hc13 => ?_)
      ·
       replace h := ite_t hc13 h
       refine zbi (zaj (zbj (zaj (zah rfl (zaf (zar (q := 0) zbf rfl ti39 rfl rfl rfl ?_))))))
       refine zaf (zbb (v := p_v) zcw rfl rfl (hL13.at 0 rfl rfl) rfl ?_)
       refine zaf (zai (v := (zac .i64 i10)) rfl ?_)
       obtain ⟨x12, q11, h⟩ := zdq h
       obtain ⟨n10, q12, q13⟩ := zdw q11
       have f13 := (((f6.mono (K11 S)).mono (K12 S)).mono (K13 S))
       obtain ⟨b10, o10, c10, vs10, q14, q15, f14, q16⟩ := zdc f13 q13
       obtain ⟨v10, v11, rfl, k10, k11, -⟩ := rStep_open q16
       refine zaf (zbz (r := rStep) (v := p_v) (n := n10) (m := (o10 + n10 * rStep.sz)) zcw ti28 rfl q14 rfl q12 q13 rfl ?_)
       refine zaf (zdj (vs := [v10, (zaa x12.Divisor.Negative), v11]) zck rfl ti28 rfl rfl zea f14 ?_)
       obtain ⟨r11, q17, h⟩ := zdq h
       refine zaf (zaw en13 rfl rfl (rSmallStep_w N x12 v10 v11 _ Any (k10.mono vw_any) (k11.mono vw_any) r11 q17) ?_)
       rintro _ w14 hE11 ⟨rfl, -⟩
       have hL14 := hL13.ext hE11
       have K14 := ke hL13 hE11
       refine zaf (OpY.not (x := r11) rfl ?_)
       refine zao ?_
       refine zcu (!r11) rfl (fun hc14 => ?_) (fun hc14 => ?_)
       ·
        replace h := ite_t hc14 h
        refine zaj (zah rfl (zaf (zak (v := (zac .i64 101)) rfl ?_)))
        refine zao (zbn ?_)
        obtain rfl := zag h
        obtain rfl := hd10 _ rfl
        replace h := g11
        try dsimp only at h
        obtain rfl := zag h
        refine ⟨[(zac .i64 101)], ⟨rfl, trivial⟩, ⟨_, rfl, hL14.done, ?_⟩⟩
        exact ⟨rfl, trivial⟩
       ·
        replace h := ite_f hc14 h
        refine zbi (zbr (zah rfl (zaf (zai (v := (zac .i64 i10)) rfl ?_))))
        refine zaf (zcf (x := i10) (y := 1) (z := (iw (i10 + 1))) rfl rfl rfl ?_)
        refine zaf (zak (v := (zac .i64 (iw (i10 + 1)))) rfl ?_)
        refine zao ?_
        obtain rfl := zag h
        refine zas ⟨(iw (i10 + 1)), rfl, ?_⟩
        exact ⟨_, (zdv ⟨rfl, rfl, rfl, trivial⟩), hL14, (zaq (zaq K12 K13) K14), trivial⟩
      ·
       replace h := ite_f hc13 h
       refine zcs rfl ?_
       obtain rfl := zag h
       obtain rfl := hd10 _ rfl
       replace h := g11
       try dsimp only at h
       skip
       refine zas ?_
       exact ⟨_, rfl, (zdv ⟨rfl, rfl, trivial⟩), hL13, (zaq K12 K13), trivial⟩
    ·
     rintro _ w15 ⟨u, rfl, rfl, hL15, K15, -⟩
     replace h := g11
     try dsimp only at h
     refine zaj (zaj (zah rfl (zaf (zak (v := (zac .i64 0)) rfl ?_))))
     refine zao ?_
     obtain ⟨s13, hl11, g13⟩ := zdq h
     refine zbq (fun e w' => ∃ (n11 : Int) (u : Env), n11 = s13 ∧ e = upds [(3, (zac .i64 n11))] u ∧ vL w w' [] [] ∧ Keep w.heap.size [some b1] w15 [] w' ∧ True) ?_ ?_
     ·
      refine zbj ?_
      refine zci hl11 (fun (ss : (Int × Int)) (e : Env) (w' : World) => match ss with | (n12, i11) => ∃ (u : Env), e = upds [(1, (zal (some ⟨b1, 0, none⟩))), (3, (zac .i64 n12)), (5, (zac .i64 i11))] u ∧ vL w w' [some b1] [zab [p_v, p_v1, (zaa p.Bound.Negative), p_v2, p_v3]] ∧ Keep w.heap.size [some b1] w15 [some b1] w' ∧ True) ⟨_, (zdv ⟨rfl, rfl, rfl, trivial⟩), hL15, zbo, trivial⟩ ?_
      rintro ⟨n12, i11⟩ oo _ w16 ⟨u, rfl, hL16, K16, -⟩ h hd11
      rw [rweight_b2] at h
      refine zaj (zaj ?_)
      obtain ⟨s14, h, g14⟩ := zdq h
      refine zbq (fun e w' => ∃ (x13 : Bool) (u : Env), x13 = s14 ∧ e = upds [(1, (zal (some ⟨b1, 0, none⟩))), (3, (zac .i64 n12)), (5, (zac .i64 i11)), (47, (zaa x13))] u ∧ vL w w' [some b1] [zab [p_v, p_v1, (zaa p.Bound.Negative), p_v2, p_v3]] ∧ Keep w.heap.size [some b1] w16 [some b1] w' ∧ True) ?_ ?_
      ·
       refine zah rfl (zaf (zai (v := (zac .i64 i11)) rfl ?_))
       refine zaf (zar (q := 4) zbf rfl ti40 rfl rfl rfl ?_)
       refine zaf (zbb (v := p_v3) zbs rfl rfl (hL16.at 0 rfl rfl) rfl ?_)
       have f15 := ((((p_h3.mono (K4 S)).mono (K11 S)).mono (K15 S)).mono (K16 S))
       refine zaf (zbg (v := p_v3) zbs rfl f15 ?_)
       refine zaf (zcr (x := i11) (y := (p.Children.length : Int)) ((i11 : Int) < (p.Children.length : Int)) rfl rfl zbl ?_)
       refine zaf (zai (v := (zaa (decide ((i11 : Int) < (p.Children.length : Int))))) rfl ?_)
       by_cases hc15 : (i11 : Int) < (p.Children.length : Int)
       ·
        replace h := ite_t hc15 h
        refine zby rfl rfl (zdu hc15) (zai (v := (zac .i64 n12)) rfl ?_)
        refine zby rfl rfl (zdu hc15) (OpY.leq (x := n12) (y := 100) ((n12 : Int) ≤ 100) rfl rfl zbl ?_)
        refine zaf (zcm (t := (decide ((i11 : Int) < (p.Children.length : Int)))) (v := (zaa (decide ((n12 : Int) ≤ 100)))) rfl (zdu hc15) rfl ?_)
        refine zao ?_
        obtain rfl := zag h
        refine zas ?_
        exact ⟨(decide ((n12 : Int) ≤ 100)), _, rfl, (zdv ⟨rfl, rfl, rfl, rfl, trivial⟩), hL16, zbo, trivial⟩
       ·
        replace h := ite_f hc15 h
        refine zbx rfl rfl (zdr hc15) ?_
        refine zbx rfl rfl (zdr hc15) ?_
        refine zaf (zca (t := (decide ((i11 : Int) < (p.Children.length : Int)))) (v := (zaa false)) rfl (zdr hc15) rfl ?_)
        refine zao ?_
        obtain rfl := zag h
        refine zas ?_
        exact ⟨false, _, rfl, (zdv ⟨rfl, rfl, rfl, rfl, trivial⟩), hL16, zbo, trivial⟩
      ·
       rintro _ w17 ⟨x13, u, rfl, rfl, hL17, K17, -⟩
       replace h := g14
       try dsimp only at h
       refine zcu x13 rfl (fun hc16 => ?_) (fun hc16 => ?_)
       ·
        replace h := ite_t hc16 h
        refine zbi (zaj (zbj (zah rfl (zaf (zai (v := (zac .i64 n12)) rfl ?_)))))
        refine zaf (zar (q := 4) zbf rfl ti40 rfl rfl rfl ?_)
        refine zaf (zbb (v := p_v3) zbs rfl rfl (hL17.at 0 rfl rfl) rfl ?_)
        refine zaf (zai (v := (zac .i64 i11)) rfl ?_)
        obtain ⟨x14, q18, h⟩ := zdq h
        obtain ⟨n13, q19, q20⟩ := zdw q18
        have f16 := (((((p_h3.mono (K4 S)).mono (K11 S)).mono (K15 S)).mono (K16 S)).mono (K17 S))
        obtain ⟨b11, o11, c11, vs11, q21, q22, f17, q23⟩ := zdc f16 q20
        obtain ⟨v12, v13, v14, v15, rfl, k12, k13, k14, k15, -⟩ := rProof_open q23
        refine zaf (zbz (r := rProof) (v := p_v3) (n := n13) (m := (o11 + n13 * rProof.sz)) zbs ti42 rfl q21 rfl q19 q20 rfl ?_)
        refine zaf (zdj (vs := [v12, v13, (zaa x14.Bound.Negative), v14, v15]) zbf rfl ti42 rfl rfl zea f17 ?_)
        obtain ⟨r12, q24, h⟩ := zdq h
        refine zaf (zaw en52 rfl rfl (ih x14 v12 v13 v14 v15 _ Any (k12.mono vw_any) (k13.mono vw_any) (k14.mono vw_any) (k15.mono vw_any) r12 q24) ?_)
        rintro _ w18 hE12 ⟨rfl, -⟩
        have hL18 := hL17.ext hE12
        have K18 := ke hL17 hE12
        refine zaf (zcf (x := n12) (y := r12) (z := (iw (n12 + r12))) rfl rfl rfl ?_)
        refine zaf (zak (v := (zac .i64 (iw (n12 + r12)))) rfl ?_)
        refine zao (zbr (zah rfl (zaf (zai (v := (zac .i64 i11)) rfl ?_))))
        refine zaf (zcf (x := i11) (y := 1) (z := (iw (i11 + 1))) rfl rfl rfl ?_)
        refine zaf (zak (v := (zac .i64 (iw (i11 + 1)))) rfl ?_)
        refine zao ?_
        obtain rfl := zag h
        refine zas ⟨((iw (n12 + r12)), (iw (i11 + 1))), rfl, ?_⟩
        exact ⟨_, (zdv ⟨rfl, rfl, rfl, trivial⟩), hL18, (zaq (zaq K16 K17) K18), trivial⟩
       ·
        replace h := ite_f hc16 h
        refine zcs rfl ?_
        have hp10 := hL17.pick [] rfl rfl rfl
        have hL19 : vL w w17 [] [] := hp10.1
        have K19 := ks w hp10.2
        obtain rfl := zag h
        obtain rfl := hd11 _ rfl
        replace h := g13
        try dsimp only at h
        skip
        refine zas ?_
        exact ⟨n12, _, rfl, (zdv ⟨rfl, trivial⟩), hL19, (zaq (zaq K16 K17) K19), trivial⟩
     ·
      rintro _ w19 ⟨n11, u, rfl, rfl, hL20, K20, -⟩
      replace h := g13
      try dsimp only at h
      refine zaj (zah rfl (zaf (zai (v := (zac .i64 n11)) rfl ?_)))
      refine zaf (zak (v := (zac .i64 n11)) rfl ?_)
      refine zao (zbn ?_)
      obtain rfl := zag h
      refine ⟨[(zac .i64 n11)], ⟨rfl, trivial⟩, ⟨_, rfl, hL20.done, ?_⟩⟩
      exact ⟨rfl, trivial⟩
theorem rSmallProof_w (N : Nat) (p : Proof) (p_v : Value) (p_v1 : Value) (p_v2 : Value) (p_v3 : Value) (w : World) (S : Nat → Prop) (p_h : Rs rStep (vH w S [] w) p_v p.Steps) (p_h1 : Rs rBig (vH w S [] w) p_v1 p.Form) (p_h2 : Rs (rInt .u32) (vH w S [] w) p_v2 p.Bound.Digits) (p_h3 : Rs rProof (vH w S [] w) p_v3 p.Children) (r : Bool) (h : rSmallProof N p = some r) :
  Calls Try.prog 17 #[(zam #[p_v, p_v1, (zaa p.Bound.Negative), p_v2, p_v3])] w (Ret w (fun v w' => (zaa r) = v ∧ True)) := by
 unfold rSmallProof at h
 have hL : vL w w [] [] := Go.X.Loc.begin0 w
 refine calls_of (l := [(zam #[p_v, p_v1, (zaa p.Bound.Negative), p_v2, p_v3])]) (rl := [.tmp 2]) (n := 6) Try.func17 rfl rfl rfl (zae rfl) ?_
 refine zaj (zah rfl (zaf (zde (cs := [p_v, p_v1, (zaa p.Bound.Negative), p_v2, p_v3]) rfl rfl hL ?_)))
 intro b1 w2 hL3 hS5
 have K4 := ks w hS5
 refine zaf (zak (v := (zaa false)) rfl ?_)
 refine zao (zaj (zah rfl (zaf (zbe (vs := [p_v, p_v1, (zaa p.Bound.Negative), p_v2, p_v3]) zbf rfl ti42 rfl (hL3.at 0 rfl rfl) rfl rfl ?_))))
 obtain ⟨r6, q7, h⟩ := zdq h
 have f9 := (p_h.mono (K4 S))
 have f10 := (p_h1.mono (K4 S))
 have f11 := (p_h2.mono (K4 S))
 have f12 := (p_h3.mono (K4 S))
 refine zaf (zaw en52 rfl rfl (rweight_w N p p_v p_v1 p_v2 p_v3 _ Any (f9.mono vw_any) (f10.mono vw_any) (f11.mono vw_any) (f12.mono vw_any) r6 q7) ?_)
 rintro _ w10 hE10 ⟨rfl, -⟩
 have hL10 := hL3.ext hE10
 refine zaf (OpY.leq (x := r6) (y := 40) ((r6 : Int) ≤ 40) rfl rfl zbl ?_)
 refine zaf (zak (v := (zaa (decide ((r6 : Int) ≤ 40)))) rfl ?_)
 refine zao (zbn ?_)
 obtain rfl := zag h
 refine ⟨[(zaa (decide ((r6 : Int) ≤ 40)))], ⟨rfl, trivial⟩, ⟨_, rfl, hL10.done, ?_⟩⟩
 exact ⟨rfl, trivial⟩
end Go.Proofs.Ytakkacdhlocckaa.WD

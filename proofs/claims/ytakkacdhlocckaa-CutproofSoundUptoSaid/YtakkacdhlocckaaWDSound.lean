/- Walks, written by a program of mine (wip/tool); the kernel checks them. -/
import Derived.Test.YtakkacdhlocckaaProg
import Derived.Test.YtakkacdhlocckaaSqSound
import Derived.Test.YtakkacdhlocckaaPD
import Derived.Test.YtakkacdhlocckaaWASound
import Derived.Test.YtakkacdhlocckaaWRSound
import Derived.Test.YtakkacdhlocckaaWBSound
import Derived.Test.YtakkacdhlocckaaWCSound
set_option maxRecDepth 100000
set_option maxHeartbeats 4000000
set_option linter.unusedVariables false
namespace Go.Proofs.Ytakkacdhlocckaa.WD
open Go Go.RowKit Go.X Go.D Go.Proofs.Ytakkacdhlocckaa.WA Go.Proofs.Ytakkacdhlocckaa.WR Go.Proofs.Ytakkacdhlocckaa.WB Go.Proofs.Ytakkacdhlocckaa.WC
theorem en39 : Enters Try.prog 39 := ⟨Try.f39, Try.func39, by kernel_rfl, by kernel_rfl⟩
theorem en25 : Enters Try.prog 25 := ⟨Try.f25, Try.func25, by kernel_rfl, by kernel_rfl⟩
theorem en27 : Enters Try.prog 27 := ⟨Try.f27, Try.func27, by kernel_rfl, by kernel_rfl⟩
theorem en43 : Enters Try.prog 43 := ⟨Try.f43, Try.func43, by kernel_rfl, by kernel_rfl⟩
theorem en13 : Enters Try.prog 13 := ⟨Try.f13, Try.func13, by kernel_rfl, by kernel_rfl⟩
theorem en52 : Enters Try.prog 52 := ⟨Try.f52, Try.func52, by kernel_rfl, by kernel_rfl⟩
theorem rHolds_w (N : Nat) (q : Ineq) (x : (List Big)) (q_v : Value) (q_v1 : Value) (x_v : Value) (w : World) (S : Nat → Prop) (q_h : Rs rBig (vH w S [] w) q_v q.Coefs) (q_h1 : Rs (rInt .u32) (vH w S [] w) q_v1 q.Bound.Digits) (x_h : Rs rBig (vH w S [] w) x_v x) (r : Bool) (h : rHolds N q x = some r) :
  Calls Try.prog 27 #[(zap #[q_v, (zaa q.Bound.Negative), q_v1]), x_v] w (Ret w (fun v w' => (zaa r) = v ∧ True)) := by
 unfold rHolds at h
 have hL : vL w w [] [] := Go.X.Loc.begin0 w
 refine calls_of (l := [(zap #[q_v, (zaa q.Bound.Negative), q_v1]), x_v]) (rl := [.tmp 4]) (n := 37) Try.func27 rfl rfl rfl (zae rfl) ?_
 refine zaj (zah rfl (zaf (zde (cs := [q_v, (zaa q.Bound.Negative), q_v1]) rfl rfl hL ?_)))
 intro b1 w2 hL3 hS5
 have K4 := ks w hS5
 refine zaf (zak (v := (zaa false)) rfl ?_)
 refine zan (zaj (zaj (zah rfl (zaf (zas (q := 0) zbg rfl ti32 rfl rfl rfl ?_)))))
 refine zaf (zaz (v := q_v) zbb rfl rfl (hL3.at 0 rfl rfl) rfl ?_)
 have f6 := (q_h.mono (K4 S))
 refine zaf (zbd (v := q_v) zbb rfl f6 ?_)
 refine zaf (zai (v := x_v) rfl ?_)
 have f7 := (x_h.mono (K4 S))
 refine zaf (zbd (v := x_v) zbb rfl f7 ?_)
 refine zaf (OpY.neq (x := (q.Coefs.length : Int)) (y := (x.length : Int)) (((q.Coefs.length : Int) : Int) ≠ (x.length : Int)) rfl rfl zbk ?_)
 refine zan ?_
 refine zbe (((q.Coefs.length : Int) : Int) ≠ (x.length : Int)) rfl (fun hc8 => ?_) (fun hc8 => ?_)
 ·
  replace h := ite_t hc8 h
  refine zaj (zah rfl (zaf (zak (v := (zaa false)) rfl ?_)))
  refine zan (zbj ?_)
  obtain rfl := zag h
  refine ⟨[(zaa false)], ⟨rfl, trivial⟩, ⟨_, rfl, hL3.done, ?_⟩⟩
  exact ⟨rfl, trivial⟩
 ·
  replace h := ite_f hc8 h
  refine zbf (zaj (zah rfl (zaf (zcy (zc := [(zaa false), (zad none 0 0)]) (cs := [(zaa false), (zad none 0 0)]) (is := []) (vs := []) (css := []) pl26 ti26 rfl rfl rfl trivial rfl ?_))))
  refine zaf (zca (cs := [(zaa false), (zad none 0 0)]) ti26 rfl hL3 ?_)
  intro b9 w10 hL10 hS10
  have K10 := ks w hS10
  refine zcc (zbn (vs := [(zaa false), (zad none 0 0)]) ti26 rfl rfl rfl rfl (zds rfl (zds rfl zdw)) hL10 0 rfl rfl (zae rfl) ?_)
  intro w11 (hL11 : vL w w11 [some b9, some b1] [zac [(zaa false), (zad none 0 0)], zac [q_v, (zaa q.Bound.Negative), q_v1]]) hS11
  have K11 := ks w hS11
  refine zan (zaj (zaj (zah rfl (zaf (zak (v := (zab .i64 0)) rfl ?_)))))
  refine zan ?_
  obtain ⟨s10, hl10, g10⟩ := zdo h
  refine zbr (fun e w' => ∃ (negative10 : Bool) (digits10 : (List Int)) (v10 : Value) (u : Env), (negative10, digits10) = s10 ∧ e = upds [(2, (zao (some ⟨b1, 0, none⟩))), (5, (zao (some ⟨b9, 0, none⟩)))] u ∧ vL w w' [some b1, some b9] [zac [q_v, (zaa q.Bound.Negative), q_v1], zac [(zaa negative10), v10]] ∧ Keep w.heap.size [some b9, some b1] w11 [some b1, some b9] w' ∧ Rs (rInt .u32) (vH w None [some b1, some b9] w') v10 digits10 ∧ True) ?_ ?_
  ·
   refine zbh ?_
   have hp10 := hL11.pick [1, 0] rfl rfl rfl
   have hL12 : vL w w11 [some b1, some b9] [zac [q_v, (zaa q.Bound.Negative), q_v1], zac [(zaa false), (zad none 0 0)]] := hp10.1
   have K12 := ks w hp10.2
   refine zce hl10 (fun (ss : (Bool × (List Int) × Int)) (e : Env) (w' : World) => match ss with | (negative11, digits11, i10) => ∃ (v11 : Value) (u : Env), e = upds [(1, x_v), (2, (zao (some ⟨b1, 0, none⟩))), (5, (zao (some ⟨b9, 0, none⟩))), (6, (zab .i64 i10))] u ∧ vL w w' [some b1, some b9] [zac [q_v, (zaa q.Bound.Negative), q_v1], zac [(zaa negative11), v11]] ∧ Keep w.heap.size [some b9, some b1] w11 [some b1, some b9] w' ∧ Rs (rInt .u32) (vH w None [some b1, some b9] w') v11 digits11 ∧ True) ⟨(zad none 0 0), _, (zdt ⟨rfl, rfl, rfl, rfl, trivial⟩), hL12, K12, zdn, trivial⟩ ?_
   rintro ⟨negative11, digits11, i10⟩ oo _ w12 ⟨v11, u, rfl, hL13, K13, k10, -⟩ h hd10
   rw [rHolds_b1] at h
   refine zaj (zaj (zah rfl (zaf (zai (v := (zab .i64 i10)) rfl ?_))))
   refine zaf (zai (v := x_v) rfl ?_)
   have f10 := (((f7.mono (K10 S)).mono (K11 S)).mono (K13 S))
   refine zaf (zbd (v := x_v) zbb rfl f10 ?_)
   refine zaf (zcj (x := i10) (y := (x.length : Int)) ((i10 : Int) < (x.length : Int)) rfl rfl zbk ?_)
   refine zan ?_
   refine zbe ((i10 : Int) < (x.length : Int)) rfl (fun hc10 => ?_) (fun hc10 => ?_)
   ·
    replace h := ite_t hc10 h
    refine zbf (zaj (zbh ?_))
    obtain ⟨x10, q10, h⟩ := zdo h
    obtain ⟨n10, q11, q12⟩ := zdu q10
    have f11 := (((f6.mono (K10 S)).mono (K11 S)).mono (K13 S))
    obtain ⟨b10, o10, c10, vs10, q13, q14, f12, q15⟩ := zcw f11 q12
    obtain ⟨v12, rfl, k11, -⟩ := rBig_open q15
    obtain ⟨x11, q16, h⟩ := zdo h
    obtain ⟨n11, q17, q18⟩ := zdu q16
    obtain ⟨b11, o11, c11, vs11, q19, q20, f13, q21⟩ := zcw f10 q18
    obtain ⟨v13, rfl, k12, -⟩ := rBig_open q21
    obtain ⟨r10, q22, h⟩ := zdo h
    refine zcf 11 [] [] (fun W1 => [.det (zap #[(zaa negative11), v11]), .det (zao (some ⟨b1, 0, none⟩)), .det q_v, .det (zab .i64 i10), .det (zao (some ⟨b10, (o10 + n10 * rBig.sz), none⟩)), .det (zap #[(zaa x10.Negative), v12]), .det x_v, .det (zab .i64 i10), .det (zao (some ⟨b11, (o11 + n11 * rBig.sz), none⟩)), .det (zap #[(zaa x11.Negative), v13]), .rel (fun v Z w' => ∃ v14, (zap #[(zaa r10.Negative), v14]) = v ∧ Rs (rInt .u32) (vZ W1 w None [some b1, some b9] Z w') v14 r10.Digits ∧ True) (fun _ => [])]) mixed rfl rfl rfl (fun _ => rfl) (fun _ => rfl) ?_ ?_
    ·
     intro W1 _
     exact ⟨fun v Z Z' w w' hΦ hz _ _ hs => by obtain ⟨v14, rfl, k13, -⟩ := hΦ; exact ⟨v14, rfl, (k13.mono (zcs hz hs)), trivial⟩, trivial⟩
    ·
     intro w13 hE10
     have hL14 := hL13.ext hE10
     have K14 := ke hL13 hE10
     refine zau (fun _ hE11 => zav (zbm (vs := [(zaa negative11), v11]) zam rfl ti26 rfl ((hL14.ext hE11).at 1 rfl rfl) rfl rfl (er rfl))) ?_
     refine zau (fun _ _ => zav (zas zbg rfl ti32 rfl rfl rfl (er rfl))) ?_
     refine zau (fun _ hE13 => zav (zaz zbb rfl rfl ((hL14.ext hE13).at 0 rfl rfl) rfl (er rfl))) ?_
     refine zau (fun _ _ => zav (zai rfl (er rfl))) ?_
     refine zau (fun _ _ => zav (zbw (r := rBig) (v := q_v) (n := n10) (m := (o10 + n10 * rBig.sz)) zbb ti26 rfl q13 rfl q11 q12 rfl (er rfl))) ?_
     refine zau (fun _ hE16 => zav (zdh (vs := [(zaa x10.Negative), v12]) zam rfl ti26 rfl rfl zdy (zcz ((ke hL14 hE16) S) (zcz (K14 S) f12)) (er rfl))) ?_
     refine zau (fun _ _ => zav (zai rfl (er rfl))) ?_
     refine zau (fun _ _ => zav (zai rfl (er rfl))) ?_
     refine zau (fun _ _ => zav (zbw (r := rBig) (v := x_v) (n := n11) (m := (o11 + n11 * rBig.sz)) zbb ti26 rfl q19 rfl q17 q18 rfl (er rfl))) ?_
     refine zau (fun _ hE20 => zav (zdh (vs := [(zaa x11.Negative), v13]) zam rfl ti26 rfl rfl zdy (zcz ((ke hL14 hE20) S) (zcz (K14 S) f13)) (er rfl))) ?_
     refine zct ?_ ?_
     ·
      rintro w24 Z20 hE21 hZ20 ⟨-⟩
      have K17 := ke hL14 hE21
      refine zav (zaw en39 rfl rfl (rMul_w N x10 x11 v12 v13 _ Any (((k11.mono (K14 S)).mono (K17 S)).mono vw_any) (((k12.mono (K14 S)).mono (K17 S)).mono vw_any) r10 q22) ?_)
      rintro _ w25 hE22 ⟨v14, rfl, k13, -⟩
      exact zcn hE22 hZ20 zcb (fun _ h => h) ⟨v14, rfl, (k13.mono zdf), trivial⟩
     intro z10
     refine zco ?_
     rintro w26 Z21 hE23 hZ21 ⟨⟨⟨v14, rfl, k13, -⟩, hB10⟩, -⟩ ap10
     have hB11 : ∀ b, some b ∈ ([] : List (Option Nat)) → w13.heap.size ≤ b ∧ ¬ Z21 b := by
      intro b hb; cases hb
     replace k13 := k13.mono (zdc hL14 hZ21 hB11)
     have hL17 := hL14.ext hE23
     have K18 := ke hL14 hE23
     obtain ⟨r11, q23, h⟩ := zdo h
     have f14 := ((k10.mono (K14 None)).mono (K18 None))
     refine zaf (zaw en38 rfl rfl (rAdd_w N (Big.mk negative11 digits11) r10 v11 v14 _ Any (f14.mono vw_any) (k13.mono vw_any) r11 q23) ?_)
     rintro _ w27 hE24 ⟨v15, rfl, k14, -⟩
     replace k14 := k14.mono (zba (S := None) hL17 [])
     have hL18 := hL17.ext hE24
     have K19 := ke hL17 hE24
     refine zcc (zbn (vs := [(zaa r11.Negative), v15]) ti26 rfl rfl rfl rfl (zds rfl (zds k14.one zdw)) hL18 1 rfl rfl (zae rfl) ?_)
     intro w28 (hL19 : vL w w28 [some b1, some b9] [zac [q_v, (zaa q.Bound.Negative), q_v1], zac [(zaa r11.Negative), v15]]) hS12
     have K20 := ks w hS12
     refine zan (zbt (zah rfl (zaf (zai (v := (zab .i64 i10)) rfl ?_))))
     refine zaf (zby (x := i10) (y := 1) (z := (iw (i10 + 1))) rfl rfl rfl ?_)
     refine zaf (zak (v := (zab .i64 (iw (i10 + 1)))) rfl ?_)
     refine zan ?_
     have f15 := (k14.mono (K20 None))
     obtain rfl := zag h
     refine zar ⟨(r11.Negative, r11.Digits, (iw (i10 + 1))), rfl, ?_⟩
     exact ⟨v15, _, (zdt ⟨rfl, rfl, rfl, rfl, trivial⟩), hL19, (zaq (zaq (zaq (zaq K13 K14) K18) K19) K20), f15, trivial⟩
   ·
    replace h := ite_f hc10 h
    refine zcm rfl ?_
    obtain rfl := zag h
    obtain rfl := hd10 _ rfl
    replace h := g10
    try dsimp only at h
    skip
    refine zar ?_
    exact ⟨negative11, digits11, v11, _, rfl, (zdt ⟨rfl, rfl, trivial⟩), hL13, K13, k10, trivial⟩
  ·
   rintro _ w29 ⟨negative10, digits10, v10, u, rfl, rfl, hL20, K21, k15, -⟩
   replace h := g10
   try dsimp only at h
   refine zaj (zah rfl (zaf (zbm (vs := [(zaa negative10), v10]) zam rfl ti26 rfl (hL20.at 1 rfl rfl) rfl rfl ?_)))
   refine zaf (zas (q := 1) zbg rfl ti26 rfl rfl rfl ?_)
   refine zaf (zbm (vs := [(zaa q.Bound.Negative), q_v1]) zam rfl ti26 rfl (hL20.at 0 rfl rfl) rfl rfl ?_)
   obtain ⟨r12, q24, h⟩ := zdo h
   have f16 := ((((q_h1.mono (K4 S)).mono (K10 S)).mono (K11 S)).mono (K21 S))
   refine zaf (zaw en25 rfl rfl (rCompare_w N (Big.mk negative10 digits10) q.Bound v10 q_v1 _ Any (k15.mono vw_any) (f16.mono vw_any) r12 q24) ?_)
   rintro _ w30 hE25 ⟨rfl, -⟩
   have hL21 := hL20.ext hE25
   refine zaf (OpY.leq (x := r12) (y := 0) ((r12 : Int) ≤ 0) rfl rfl zbk ?_)
   refine zaf (zak (v := (zaa (decide ((r12 : Int) ≤ 0)))) rfl ?_)
   refine zan (zbj ?_)
   obtain rfl := zag h
   refine ⟨[(zaa (decide ((r12 : Int) ≤ 0)))], ⟨rfl, trivial⟩, ⟨_, rfl, hL21.done, ?_⟩⟩
   exact ⟨rfl, trivial⟩
theorem rAll_w (N : Nat) (l : (List Ineq)) (x : (List Big)) (l_v : Value) (x_v : Value) (w : World) (S : Nat → Prop) (l_h : Rs rIneq (vH w S [] w) l_v l) (x_h : Rs rBig (vH w S [] w) x_v x) (r : Bool) (h : rAll N l x = some r) :
  Calls Try.prog 26 #[l_v, x_v] w (Ret w (fun v w' => (zaa r) = v ∧ True)) := by
 unfold rAll at h
 have hL : vL w w [] [] := Go.X.Loc.begin0 w
 refine calls_of (l := [l_v, x_v]) (rl := [.tmp 4]) (n := 19) Try.func26 rfl rfl rfl (zae rfl) ?_
 refine zaj (zah rfl (zaf (zak (v := (zaa false)) rfl ?_)))
 refine zan (zaj (zaj (zah rfl (zaf (zak (v := (zab .i64 0)) rfl ?_)))))
 refine zan ?_
 obtain ⟨s10, hl10, g10⟩ := zdo h
 refine zbr (fun e w' => ∃  (u : Env), (Sum.inl ()) = s10 ∧ e = upds [] u ∧ vL w w' [] [] ∧ Keep w.heap.size [] w [] w' ∧ True) ?_ ?_
 ·
  refine zbh ?_
  refine zce hl10 (fun (ss : Int) (e : Env) (w' : World) => match ss with | i64 => ∃ (u : Env), e = upds [(0, l_v), (1, x_v), (5, (zab .i64 i64))] u ∧ vL w w' [] [] ∧ Keep w.heap.size [] w [] w' ∧ True) ⟨_, (zdt ⟨rfl, rfl, rfl, trivial⟩), hL, zbo, trivial⟩ ?_
  rintro i64 oo _ w10 ⟨u, rfl, hL10, K10, -⟩ h hd10
  rw [rAll_b1] at h
  refine zaj (zaj (zah rfl (zaf (zai (v := (zab .i64 i64)) rfl ?_))))
  refine zaf (zai (v := l_v) rfl ?_)
  have f10 := (l_h.mono (K10 S))
  refine zaf (zbd (v := l_v) zbl rfl f10 ?_)
  refine zaf (zcj (x := i64) (y := (l.length : Int)) ((i64 : Int) < (l.length : Int)) rfl rfl zbk ?_)
  refine zan ?_
  refine zbe ((i64 : Int) < (l.length : Int)) rfl (fun hc10 => ?_) (fun hc10 => ?_)
  ·
   replace h := ite_t hc10 h
   refine zbf (zaj (zbh (zaj (zah rfl (zaf (zai (v := l_v) rfl ?_))))))
   refine zaf (zai (v := (zab .i64 i64)) rfl ?_)
   obtain ⟨x10, q10, h⟩ := zdo h
   obtain ⟨n10, q11, q12⟩ := zdu q10
   obtain ⟨b10, o10, c10, vs10, q13, q14, f11, q15⟩ := zcw f10 q12
   obtain ⟨v10, v11, rfl, k10, k11, -⟩ := rIneq_open q15
   refine zaf (zbw (r := rIneq) (v := l_v) (n := n10) (m := (o10 + n10 * rIneq.sz)) zbl ti34 rfl q13 rfl q11 q12 rfl ?_)
   refine zaf (zdh (vs := [v10, (zaa x10.Bound.Negative), v11]) zbg rfl ti34 rfl rfl zdy f11 ?_)
   refine zaf (zai (v := x_v) rfl ?_)
   obtain ⟨r10, q16, h⟩ := zdo h
   have f12 := (x_h.mono (K10 S))
   refine zaf (zaw en27 rfl rfl (rHolds_w N x10 x v10 v11 x_v _ Any (k10.mono vw_any) (k11.mono vw_any) (f12.mono vw_any) r10 q16) ?_)
   rintro _ w11 hE10 ⟨rfl, -⟩
   have hL11 := hL10.ext hE10
   have K11 := ke hL10 hE10
   refine zaf (OpY.not (x := r10) rfl ?_)
   refine zan ?_
   refine zcr (!r10) rfl (fun hc11 => ?_) (fun hc11 => ?_)
   ·
    replace h := ite_t hc11 h
    refine zaj (zah rfl (zaf (zak (v := (zaa false)) rfl ?_)))
    refine zan (zbj ?_)
    obtain rfl := zag h
    obtain rfl := hd10 _ rfl
    replace h := g10
    try dsimp only at h
    obtain rfl := zag h
    refine ⟨[(zaa false)], ⟨rfl, trivial⟩, ⟨_, rfl, hL11.done, ?_⟩⟩
    exact ⟨rfl, trivial⟩
   ·
    replace h := ite_f hc11 h
    refine zbf (zbt (zah rfl (zaf (zai (v := (zab .i64 i64)) rfl ?_))))
    refine zaf (zby (x := i64) (y := 1) (z := (iw (i64 + 1))) rfl rfl rfl ?_)
    refine zaf (zak (v := (zab .i64 (iw (i64 + 1)))) rfl ?_)
    refine zan ?_
    obtain rfl := zag h
    refine zar ⟨(iw (i64 + 1)), rfl, ?_⟩
    exact ⟨_, (zdt ⟨rfl, rfl, rfl, trivial⟩), hL11, (zaq K10 K11), trivial⟩
  ·
   replace h := ite_f hc10 h
   refine zcm rfl ?_
   obtain rfl := zag h
   obtain rfl := hd10 _ rfl
   replace h := g10
   try dsimp only at h
   skip
   refine zar ?_
   exact ⟨_, rfl, (zdt trivial), hL10, K10, trivial⟩
 ·
  rintro _ w12 ⟨u, rfl, rfl, hL12, K12, -⟩
  replace h := g10
  try dsimp only at h
  refine zaj (zah rfl (zaf (zak (v := (zaa true)) rfl ?_)))
  refine zan (zbj ?_)
  obtain rfl := zag h
  refine ⟨[(zaa true)], ⟨rfl, trivial⟩, ⟨_, rfl, hL12.done, ?_⟩⟩
  exact ⟨rfl, trivial⟩
theorem rbigs_w (N : Nat) (l : (List Big)) (l_v : Value) (w : World) (S : Nat → Prop) (l_h : Rs rBig (vH w S [] w) l_v l) (r : Bool) (h : rbigs N l = some r) :
  Calls Try.prog 43 #[l_v] w (Ret w (fun v w' => (zaa r) = v ∧ True)) := by
 unfold rbigs at h
 have hL : vL w w [] [] := Go.X.Loc.begin0 w
 refine calls_of (l := [l_v]) (rl := [.tmp 2]) (n := 20) Try.func43 rfl rfl rfl (zae rfl) ?_
 refine zaj (zah rfl (zaf (zak (v := (zaa false)) rfl ?_)))
 refine zan (zaj (zaj (zah rfl (zaf (zak (v := (zab .i64 0)) rfl ?_)))))
 refine zan ?_
 obtain ⟨s10, hl10, g10⟩ := zdo h
 refine zbr (fun e w' => ∃  (u : Env), (Sum.inl ()) = s10 ∧ e = upds [(0, l_v)] u ∧ vL w w' [] [] ∧ Keep w.heap.size [] w [] w' ∧ True) ?_ ?_
 ·
  refine zbh ?_
  refine zce hl10 (fun (ss : Int) (e : Env) (w' : World) => match ss with | i10 => ∃ (u : Env), e = upds [(0, l_v), (3, (zab .i64 i10))] u ∧ vL w w' [] [] ∧ Keep w.heap.size [] w [] w' ∧ True) ⟨_, (zdt ⟨rfl, rfl, trivial⟩), hL, zbo, trivial⟩ ?_
  rintro i10 oo _ w10 ⟨u, rfl, hL10, K10, -⟩ h hd10
  rw [rbigs_b1] at h
  refine zaj (zaj (zah rfl (zaf (zai (v := (zab .i64 i10)) rfl ?_))))
  refine zaf (zai (v := l_v) rfl ?_)
  have f10 := (l_h.mono (K10 S))
  refine zaf (zbd (v := l_v) zbb rfl f10 ?_)
  refine zaf (zcj (x := i10) (y := (l.length : Int)) ((i10 : Int) < (l.length : Int)) rfl rfl zbk ?_)
  refine zan ?_
  refine zbe ((i10 : Int) < (l.length : Int)) rfl (fun hc10 => ?_) (fun hc10 => ?_)
  ·
   replace h := ite_t hc10 h
   refine zbf (zaj (zbh (zaj (zah rfl (zaf (zai (v := l_v) rfl ?_))))))
   refine zaf (zai (v := (zab .i64 i10)) rfl ?_)
   obtain ⟨x10, q10, h⟩ := zdo h
   obtain ⟨n10, q11, q12⟩ := zdu q10
   obtain ⟨b10, o10, c10, vs10, q13, q14, f11, q15⟩ := zcw f10 q12
   obtain ⟨v10, rfl, k10, -⟩ := rBig_open q15
   refine zaf (zbw (r := rBig) (v := l_v) (n := n10) (m := (o10 + n10 * rBig.sz)) zbb ti26 rfl q13 rfl q11 q12 rfl ?_)
   have f12 := (f11.part (us := [v10]) 1 rfl)
   refine zaf (zas (q := (o10 + n10 * rBig.sz) + 1) zam rfl ti24 rfl rfl rfl ?_)
   refine zaf (zck (v := v10) zal rfl rfl zdy f12 ?_)
   refine zaf (zbd (v := v10) zal rfl k10 ?_)
   refine zaf (zdm (x := (x10.Digits.length : Int)) (y := 4) (((x10.Digits.length : Int) : Int) > 4) rfl rfl zbk ?_)
   refine zan ?_
   refine zbe (((x10.Digits.length : Int) : Int) > 4) rfl (fun hc11 => ?_) (fun hc11 => ?_)
   ·
    replace h := ite_t hc11 h
    refine zaj (zah rfl (zaf (zak (v := (zaa false)) rfl ?_)))
    refine zan (zbj ?_)
    obtain rfl := zag h
    obtain rfl := hd10 _ rfl
    replace h := g10
    try dsimp only at h
    obtain rfl := zag h
    refine ⟨[(zaa false)], ⟨rfl, trivial⟩, ⟨_, rfl, hL10.done, ?_⟩⟩
    exact ⟨rfl, trivial⟩
   ·
    replace h := ite_f hc11 h
    refine zbf (zbt (zah rfl (zaf (zai (v := (zab .i64 i10)) rfl ?_))))
    refine zaf (zby (x := i10) (y := 1) (z := (iw (i10 + 1))) rfl rfl rfl ?_)
    refine zaf (zak (v := (zab .i64 (iw (i10 + 1)))) rfl ?_)
    refine zan ?_
    obtain rfl := zag h
    refine zar ⟨(iw (i10 + 1)), rfl, ?_⟩
    exact ⟨_, (zdt ⟨rfl, rfl, trivial⟩), hL10, K10, trivial⟩
  ·
   replace h := ite_f hc10 h
   refine zcm rfl ?_
   obtain rfl := zag h
   obtain rfl := hd10 _ rfl
   replace h := g10
   try dsimp only at h
   skip
   refine zar ?_
   exact ⟨_, rfl, (zdt ⟨rfl, trivial⟩), hL10, K10, trivial⟩
 ·
  rintro _ w11 ⟨u, rfl, rfl, hL11, K11, -⟩
  replace h := g10
  try dsimp only at h
  refine zaj (zah rfl (zaf (zai (v := l_v) rfl ?_)))
  have f13 := (l_h.mono (K11 S))
  refine zaf (zbd (v := l_v) zbb rfl f13 ?_)
  refine zaf (OpY.leq (x := (l.length : Int)) (y := 6) (((l.length : Int) : Int) ≤ 6) rfl rfl zbk ?_)
  refine zaf (zak (v := (zaa (decide (((l.length : Int) : Int) ≤ 6)))) rfl ?_)
  refine zan (zbj ?_)
  obtain rfl := zag h
  refine ⟨[(zaa (decide (((l.length : Int) : Int) ≤ 6)))], ⟨rfl, trivial⟩, ⟨_, rfl, hL11.done, ?_⟩⟩
  exact ⟨rfl, trivial⟩
theorem rSmall_w (N : Nat) (l : (List Ineq)) (l_v : Value) (w : World) (S : Nat → Prop) (l_h : Rs rIneq (vH w S [] w) l_v l) (r : Bool) (h : rSmall N l = some r) :
  Calls Try.prog 12 #[l_v] w (Ret w (fun v w' => (zaa r) = v ∧ True)) := by
 unfold rSmall at h
 have hL : vL w w [] [] := Go.X.Loc.begin0 w
 refine calls_of (l := [l_v]) (rl := [.tmp 2]) (n := 30) Try.func12 rfl rfl rfl (zae rfl) ?_
 refine zaj (zah rfl (zaf (zak (v := (zaa false)) rfl ?_)))
 refine zan (zaj (zaj (zah rfl (zaf (zak (v := (zab .i64 0)) rfl ?_)))))
 refine zan ?_
 obtain ⟨s10, hl10, g10⟩ := zdo h
 refine zbr (fun e w' => ∃  (u : Env), (Sum.inl ()) = s10 ∧ e = upds [(0, l_v)] u ∧ vL w w' [] [] ∧ Keep w.heap.size [] w [] w' ∧ True) ?_ ?_
 ·
  refine zbh ?_
  refine zce hl10 (fun (ss : Int) (e : Env) (w' : World) => match ss with | i10 => ∃ (u : Env), e = upds [(0, l_v), (3, (zab .i64 i10))] u ∧ vL w w' [] [] ∧ Keep w.heap.size [] w [] w' ∧ True) ⟨_, (zdt ⟨rfl, rfl, trivial⟩), hL, zbo, trivial⟩ ?_
  rintro i10 oo _ w10 ⟨u, rfl, hL10, K10, -⟩ h hd10
  rw [rSmall_b1] at h
  refine zaj (zaj (zah rfl (zaf (zai (v := (zab .i64 i10)) rfl ?_))))
  refine zaf (zai (v := l_v) rfl ?_)
  have f10 := (l_h.mono (K10 S))
  refine zaf (zbd (v := l_v) zbl rfl f10 ?_)
  refine zaf (zcj (x := i10) (y := (l.length : Int)) ((i10 : Int) < (l.length : Int)) rfl rfl zbk ?_)
  refine zan ?_
  refine zbe ((i10 : Int) < (l.length : Int)) rfl (fun hc10 => ?_) (fun hc10 => ?_)
  ·
   replace h := ite_t hc10 h
   refine zbf (zaj (zbh (zaj ?_)))
   obtain ⟨s11, h, g11⟩ := zdo h
   refine zbr (fun e w' => ∃ (x10 : Bool) (u : Env), x10 = s11 ∧ e = upds [(0, l_v), (3, (zab .i64 i10)), (26, (zaa x10))] u ∧ vL w w' [] [] ∧ Keep w.heap.size [] w10 [] w' ∧ True) ?_ ?_
   ·
    refine zah rfl (zaf (zai (v := l_v) rfl ?_))
    refine zaf (zai (v := (zab .i64 i10)) rfl ?_)
    obtain ⟨x11, q10, h⟩ := zdo h
    obtain ⟨n10, q11, q12⟩ := zdu q10
    obtain ⟨b10, o10, c10, vs10, q13, q14, f11, q15⟩ := zcw f10 q12
    obtain ⟨v10, v11, rfl, k10, k11, -⟩ := rIneq_open q15
    refine zaf (zbw (r := rIneq) (v := l_v) (n := n10) (m := (o10 + n10 * rIneq.sz)) zbl ti34 rfl q13 rfl q11 q12 rfl ?_)
    have f12 := (f11.part (us := [v10]) 0 rfl)
    refine zaf (zas (q := (o10 + n10 * rIneq.sz) + 0) zbg rfl ti32 rfl rfl rfl ?_)
    refine zaf (zck (v := v10) zbb rfl rfl zdy f12 ?_)
    obtain ⟨r10, q16, h⟩ := zdo h
    refine zaf (zaw en43 rfl rfl (rbigs_w N x11.Coefs v10 _ Any (k10.mono vw_any) r10 q16) ?_)
    rintro _ w11 hE10 ⟨rfl, -⟩
    have hL11 := hL10.ext hE10
    have K11 := ke hL10 hE10
    refine zaf (OpY.not (x := r10) rfl ?_)
    refine zaf (zai (v := (zaa (!r10))) rfl ?_)
    by_cases hc11 : (!r10) = true
    ·
     replace h := ite_t hc11 h
     refine zbq rfl rfl hc11 ?_
     refine zbq rfl rfl hc11 ?_
     refine zbq rfl rfl hc11 ?_
     refine zbq rfl rfl hc11 ?_
     refine zbq rfl rfl hc11 ?_
     refine zbq rfl rfl hc11 ?_
     refine zbq rfl rfl hc11 ?_
     refine zbq rfl rfl hc11 ?_
     refine zaf (zci (t := (!r10)) (v := (zaa true)) rfl hc11 rfl ?_)
     refine zan ?_
     obtain rfl := zag h
     refine zar ?_
     exact ⟨true, _, rfl, (zdt ⟨rfl, rfl, rfl, trivial⟩), hL11, K11, trivial⟩
    ·
     replace h := ite_f hc11 h
     refine zbu rfl rfl (zdp hc11) (zai (v := l_v) rfl ?_)
     refine zbu rfl rfl (zdp hc11) (zai (v := (zab .i64 i10)) rfl ?_)
     obtain ⟨x12, q17, h⟩ := zdo h
     obtain ⟨n11, q18, q19⟩ := zdu q17
     have f13 := (f10.mono (K11 S))
     obtain ⟨b11, o11, c11, vs11, q20, q21, f14, q22⟩ := zcw f13 q19
     obtain ⟨v12, v13, rfl, k12, k13, -⟩ := rIneq_open q22
     refine zbu rfl rfl (zdp hc11) (zbw (r := rIneq) (v := l_v) (n := n11) (m := (o11 + n11 * rIneq.sz)) zbl ti34 rfl q20 rfl q18 q19 rfl ?_)
     have f15 := (f14.part (us := [(zaa x12.Bound.Negative), v13]) 1 rfl)
     refine zbu rfl rfl (zdp hc11) (zas (q := (o11 + n11 * rIneq.sz) + 1) zbg rfl ti26 rfl rfl rfl ?_)
     have f16 := (f15.part (us := [v13]) 1 rfl)
     refine zbu rfl rfl (zdp hc11) (zas (q := (o11 + n11 * rIneq.sz) + 1 + 1) zam rfl ti24 rfl rfl rfl ?_)
     refine zbu rfl rfl (zdp hc11) (zck (v := v13) zal rfl rfl zdy f16 ?_)
     refine zbu rfl rfl (zdp hc11) (zbd (v := v13) zal rfl k13 ?_)
     refine zbu rfl rfl (zdp hc11) (zdm (x := (x12.Bound.Digits.length : Int)) (y := 4) (((x12.Bound.Digits.length : Int) : Int) > 4) rfl rfl zbk ?_)
     refine zaf (zbx (t := (!r10)) (v := (zaa (decide (((x12.Bound.Digits.length : Int) : Int) > 4)))) rfl (zdp hc11) rfl ?_)
     refine zan ?_
     obtain rfl := zag h
     refine zar ?_
     exact ⟨(decide (((x12.Bound.Digits.length : Int) : Int) > 4)), _, rfl, (zdt ⟨rfl, rfl, rfl, trivial⟩), hL11, K11, trivial⟩
   ·
    rintro _ w12 ⟨x10, u, rfl, rfl, hL12, K12, -⟩
    replace h := g11
    try dsimp only at h
    refine zcr x10 rfl (fun hc12 => ?_) (fun hc12 => ?_)
    ·
     replace h := ite_t hc12 h
     refine zaj (zah rfl (zaf (zak (v := (zaa false)) rfl ?_)))
     refine zan (zbj ?_)
     obtain rfl := zag h
     obtain rfl := hd10 _ rfl
     replace h := g10
     try dsimp only at h
     obtain rfl := zag h
     refine ⟨[(zaa false)], ⟨rfl, trivial⟩, ⟨_, rfl, hL12.done, ?_⟩⟩
     exact ⟨rfl, trivial⟩
    ·
     replace h := ite_f hc12 h
     refine zbf (zbt (zah rfl (zaf (zai (v := (zab .i64 i10)) rfl ?_))))
     refine zaf (zby (x := i10) (y := 1) (z := (iw (i10 + 1))) rfl rfl rfl ?_)
     refine zaf (zak (v := (zab .i64 (iw (i10 + 1)))) rfl ?_)
     refine zan ?_
     obtain rfl := zag h
     refine zar ⟨(iw (i10 + 1)), rfl, ?_⟩
     exact ⟨_, (zdt ⟨rfl, rfl, trivial⟩), hL12, (zaq K10 K12), trivial⟩
  ·
   replace h := ite_f hc10 h
   refine zcm rfl ?_
   obtain rfl := zag h
   obtain rfl := hd10 _ rfl
   replace h := g10
   try dsimp only at h
   skip
   refine zar ?_
   exact ⟨_, rfl, (zdt ⟨rfl, trivial⟩), hL10, K10, trivial⟩
 ·
  rintro _ w13 ⟨u, rfl, rfl, hL13, K13, -⟩
  replace h := g10
  try dsimp only at h
  refine zaj (zah rfl (zaf (zai (v := l_v) rfl ?_)))
  have f17 := (l_h.mono (K13 S))
  refine zaf (zbd (v := l_v) zbl rfl f17 ?_)
  refine zaf (OpY.leq (x := (l.length : Int)) (y := 12) (((l.length : Int) : Int) ≤ 12) rfl rfl zbk ?_)
  refine zaf (zak (v := (zaa (decide (((l.length : Int) : Int) ≤ 12)))) rfl ?_)
  refine zan (zbj ?_)
  obtain rfl := zag h
  refine ⟨[(zaa (decide (((l.length : Int) : Int) ≤ 12)))], ⟨rfl, trivial⟩, ⟨_, rfl, hL13.done, ?_⟩⟩
  exact ⟨rfl, trivial⟩
theorem rSmallStep_w (N : Nat) (s : Step) (s_v : Value) (s_v1 : Value) (w : World) (S : Nat → Prop) (s_h : Rs rUse (vH w S [] w) s_v s.Uses) (s_h1 : Rs (rInt .u32) (vH w S [] w) s_v1 s.Divisor.Digits) (r : Bool) (h : rSmallStep N s = some r) :
  Calls Try.prog 13 #[(zap #[s_v, (zaa s.Divisor.Negative), s_v1])] w (Ret w (fun v w' => (zaa r) = v ∧ True)) := by
 unfold rSmallStep at h
 have hL : vL w w [] [] := Go.X.Loc.begin0 w
 refine calls_of (l := [(zap #[s_v, (zaa s.Divisor.Negative), s_v1])]) (rl := [.tmp 2]) (n := 31) Try.func13 rfl rfl rfl (zae rfl) ?_
 refine zaj (zah rfl (zaf (zde (cs := [s_v, (zaa s.Divisor.Negative), s_v1]) rfl rfl hL ?_)))
 intro b1 w2 hL3 hS5
 have K4 := ks w hS5
 refine zaf (zak (v := (zaa false)) rfl ?_)
 refine zan (zaj (zaj (zah rfl (zaf (zak (v := (zab .i64 0)) rfl ?_)))))
 refine zan ?_
 obtain ⟨s10, hl10, g10⟩ := zdo h
 refine zbr (fun e w' => ∃  (u : Env), (Sum.inl ()) = s10 ∧ e = upds [(1, (zao (some ⟨b1, 0, none⟩)))] u ∧ vL w w' [some b1] [zac [s_v, (zaa s.Divisor.Negative), s_v1]] ∧ Keep w.heap.size [some b1] w2 [some b1] w' ∧ True) ?_ ?_
 ·
  refine zbh ?_
  refine zce hl10 (fun (ss : Int) (e : Env) (w' : World) => match ss with | i10 => ∃ (u : Env), e = upds [(1, (zao (some ⟨b1, 0, none⟩))), (3, (zab .i64 i10))] u ∧ vL w w' [some b1] [zac [s_v, (zaa s.Divisor.Negative), s_v1]] ∧ Keep w.heap.size [some b1] w2 [some b1] w' ∧ True) ⟨_, (zdt ⟨rfl, rfl, trivial⟩), hL3, zbo, trivial⟩ ?_
  rintro i10 oo _ w10 ⟨u, rfl, hL10, K10, -⟩ h hd10
  rw [rSmallStep_b1] at h
  refine zaj (zaj (zah rfl (zaf (zai (v := (zab .i64 i10)) rfl ?_))))
  refine zaf (zas (q := 0) zcq rfl ti23 rfl rfl rfl ?_)
  refine zaf (zaz (v := s_v) zbz rfl rfl (hL10.at 0 rfl rfl) rfl ?_)
  have f10 := ((s_h.mono (K4 S)).mono (K10 S))
  refine zaf (zbd (v := s_v) zbz rfl f10 ?_)
  refine zaf (zcj (x := i10) (y := (s.Uses.length : Int)) ((i10 : Int) < (s.Uses.length : Int)) rfl rfl zbk ?_)
  refine zan ?_
  refine zbe ((i10 : Int) < (s.Uses.length : Int)) rfl (fun hc10 => ?_) (fun hc10 => ?_)
  ·
   replace h := ite_t hc10 h
   refine zbf (zaj (zbh (zaj (zah rfl (zaf (zas (q := 0) zcq rfl ti23 rfl rfl rfl ?_))))))
   refine zaf (zaz (v := s_v) zbz rfl rfl (hL10.at 0 rfl rfl) rfl ?_)
   refine zaf (zai (v := (zab .i64 i10)) rfl ?_)
   obtain ⟨x10, q10, h⟩ := zdo h
   obtain ⟨n10, q11, q12⟩ := zdu q10
   obtain ⟨b10, o10, c10, vs10, q13, q14, f11, q15⟩ := zcw f10 q12
   obtain ⟨v10, rfl, k10, -⟩ := rUse_open q15
   refine zaf (zbw (r := rUse) (v := s_v) (n := n10) (m := (o10 + n10 * rUse.sz)) zbz ti50 rfl q13 rfl q11 q12 rfl ?_)
   have f12 := (f11.part (us := [(zaa x10.N.Negative), v10]) 1 rfl)
   refine zaf (zas (q := (o10 + n10 * rUse.sz) + 1) zcv rfl ti26 rfl rfl rfl ?_)
   have f13 := (f12.part (us := [v10]) 1 rfl)
   refine zaf (zas (q := (o10 + n10 * rUse.sz) + 1 + 1) zam rfl ti24 rfl rfl rfl ?_)
   refine zaf (zck (v := v10) zal rfl rfl zdy f13 ?_)
   refine zaf (zbd (v := v10) zal rfl k10 ?_)
   refine zaf (zdm (x := (x10.N.Digits.length : Int)) (y := 4) (((x10.N.Digits.length : Int) : Int) > 4) rfl rfl zbk ?_)
   refine zan ?_
   refine zbe (((x10.N.Digits.length : Int) : Int) > 4) rfl (fun hc11 => ?_) (fun hc11 => ?_)
   ·
    replace h := ite_t hc11 h
    refine zaj (zah rfl (zaf (zak (v := (zaa false)) rfl ?_)))
    refine zan (zbj ?_)
    obtain rfl := zag h
    obtain rfl := hd10 _ rfl
    replace h := g10
    try dsimp only at h
    obtain rfl := zag h
    refine ⟨[(zaa false)], ⟨rfl, trivial⟩, ⟨_, rfl, hL10.done, ?_⟩⟩
    exact ⟨rfl, trivial⟩
   ·
    replace h := ite_f hc11 h
    refine zbf (zbt (zah rfl (zaf (zai (v := (zab .i64 i10)) rfl ?_))))
    refine zaf (zby (x := i10) (y := 1) (z := (iw (i10 + 1))) rfl rfl rfl ?_)
    refine zaf (zak (v := (zab .i64 (iw (i10 + 1)))) rfl ?_)
    refine zan ?_
    obtain rfl := zag h
    refine zar ⟨(iw (i10 + 1)), rfl, ?_⟩
    exact ⟨_, (zdt ⟨rfl, rfl, trivial⟩), hL10, K10, trivial⟩
  ·
   replace h := ite_f hc10 h
   refine zcm rfl ?_
   obtain rfl := zag h
   obtain rfl := hd10 _ rfl
   replace h := g10
   try dsimp only at h
   skip
   refine zar ?_
   exact ⟨_, rfl, (zdt ⟨rfl, trivial⟩), hL10, K10, trivial⟩
 ·
  rintro _ w11 ⟨u, rfl, rfl, hL11, K11, -⟩
  replace h := g10
  try dsimp only at h
  refine zaj (zah rfl (zaf (zas (q := 0) zcq rfl ti23 rfl rfl rfl ?_)))
  refine zaf (zaz (v := s_v) zbz rfl rfl (hL11.at 0 rfl rfl) rfl ?_)
  have f14 := ((s_h.mono (K4 S)).mono (K11 S))
  refine zaf (zbd (v := s_v) zbz rfl f14 ?_)
  refine zaf (OpY.leq (x := (s.Uses.length : Int)) (y := 12) (((s.Uses.length : Int) : Int) ≤ 12) rfl rfl zbk ?_)
  refine zaf (zai (v := (zaa (decide (((s.Uses.length : Int) : Int) ≤ 12)))) rfl ?_)
  by_cases hc12 : ((s.Uses.length : Int) : Int) ≤ 12
  ·
   replace h := ite_t hc12 h
   refine zbu rfl rfl (zdr hc12) (zas (q := 1) zcq rfl ti26 rfl rfl rfl ?_)
   refine zbu rfl rfl (zdr hc12) (zas (q := 2) zam rfl ti24 rfl rfl rfl ?_)
   refine zbu rfl rfl (zdr hc12) (zaz (v := s_v1) zal rfl rfl (hL11.at 0 rfl rfl) rfl ?_)
   have f15 := ((s_h1.mono (K4 S)).mono (K11 S))
   refine zbu rfl rfl (zdr hc12) (zbd (v := s_v1) zal rfl f15 ?_)
   refine zbu rfl rfl (zdr hc12) (OpY.leq (x := (s.Divisor.Digits.length : Int)) (y := 4) (((s.Divisor.Digits.length : Int) : Int) ≤ 4) rfl rfl zbk ?_)
   refine zaf (zci (t := (decide (((s.Uses.length : Int) : Int) ≤ 12))) (v := (zaa (decide (((s.Divisor.Digits.length : Int) : Int) ≤ 4)))) rfl (zdr hc12) rfl ?_)
   refine zaf (zak (v := (zaa (decide (((s.Divisor.Digits.length : Int) : Int) ≤ 4)))) rfl ?_)
   refine zan (zbj ?_)
   obtain rfl := zag h
   refine ⟨[(zaa (decide (((s.Divisor.Digits.length : Int) : Int) ≤ 4)))], ⟨rfl, trivial⟩, ⟨_, rfl, hL11.done, ?_⟩⟩
   exact ⟨rfl, trivial⟩
  ·
   replace h := ite_f hc12 h
   refine zbq rfl rfl (zdq hc12) ?_
   refine zbq rfl rfl (zdq hc12) ?_
   refine zbq rfl rfl (zdq hc12) ?_
   refine zbq rfl rfl (zdq hc12) ?_
   refine zbq rfl rfl (zdq hc12) ?_
   refine zaf (zbx (t := (decide (((s.Uses.length : Int) : Int) ≤ 12))) (v := (zaa false)) rfl (zdq hc12) rfl ?_)
   refine zaf (zak (v := (zaa false)) rfl ?_)
   refine zan (zbj ?_)
   obtain rfl := zag h
   refine ⟨[(zaa false)], ⟨rfl, trivial⟩, ⟨_, rfl, hL11.done, ?_⟩⟩
   exact ⟨rfl, trivial⟩
theorem rweight_w (N : Nat) : ∀ (p : Proof) (p_v : Value) (p_v1 : Value) (p_v2 : Value) (p_v3 : Value) (w : World) (S : Nat → Prop) (p_h : Rs rStep (vH w S [] w) p_v p.Steps) (p_h1 : Rs rBig (vH w S [] w) p_v1 p.Form) (p_h2 : Rs (rInt .u32) (vH w S [] w) p_v2 p.Bound.Digits) (p_h3 : Rs rProof (vH w S [] w) p_v3 p.Children) (r : Int) (h : rweight N p = some r), Calls Try.prog 52 #[(zap #[p_v, p_v1, (zaa p.Bound.Negative), p_v2, p_v3])] w (Ret w (fun v w' => (zab .i64 r) = v ∧ True)) := by
 induction N with
 | zero => intro p p_v p_v1 p_v2 p_v3 w S p_h p_h1 p_h2 p_h3 r h; cases (show (none : Option Int) = some r from h)
 | succ N ih =>
  intro p p_v p_v1 p_v2 p_v3 w S p_h p_h1 p_h2 p_h3 r h
  replace h : rweight_step N (rweight N) p = some r := h
  unfold rweight_step at h
  have hL : vL w w [] [] := Go.X.Loc.begin0 w
  refine calls_of (l := [(zap #[p_v, p_v1, (zaa p.Bound.Negative), p_v2, p_v3])]) (rl := [.tmp 2]) (n := 59) Try.func52 rfl rfl rfl (zae rfl) ?_
  refine zaj (zah rfl (zaf (zde (cs := [p_v, p_v1, (zaa p.Bound.Negative), p_v2, p_v3]) rfl rfl hL ?_)))
  intro b1 w2 hL3 hS5
  have K4 := ks w hS5
  refine zaf (zak (v := (zab .i64 0)) rfl ?_)
  refine zan (zaj (zah rfl (zaf (zas (q := 0) zbi rfl ti39 rfl rfl rfl ?_))))
  refine zaf (zaz (v := p_v) zcu rfl rfl (hL3.at 0 rfl rfl) rfl ?_)
  have f6 := (p_h.mono (K4 S))
  refine zaf (zbd (v := p_v) zcu rfl f6 ?_)
  refine zaf (zby (x := 1) (y := (p.Steps.length : Int)) (z := (iw (1 + (p.Steps.length : Int)))) rfl rfl rfl ?_)
  refine zaf (zak (v := (zab .i64 (iw (1 + (p.Steps.length : Int))))) rfl ?_)
  refine zan (zaj (zaj ?_))
  obtain ⟨s10, h, g10⟩ := zdo h
  refine zbr (fun e w' => ∃ (x10 : Bool) (u : Env), x10 = s10 ∧ e = upds [(1, (zao (some ⟨b1, 0, none⟩))), (3, (zab .i64 (iw (1 + (p.Steps.length : Int))))), (20, (zaa x10))] u ∧ vL w w' [some b1] [zac [p_v, p_v1, (zaa p.Bound.Negative), p_v2, p_v3]] ∧ Keep w.heap.size [some b1] w2 [some b1] w' ∧ True) ?_ ?_
  ·
   refine zah rfl (zaf (zas (q := 1) zbi rfl ti32 rfl rfl rfl ?_))
   refine zaf (zaz (v := p_v1) zbb rfl rfl (hL3.at 0 rfl rfl) rfl ?_)
   obtain ⟨r10, q10, h⟩ := zdo h
   have f10 := (p_h1.mono (K4 S))
   refine zaf (zaw en43 rfl rfl (rbigs_w N p.Form p_v1 _ Any (f10.mono vw_any) r10 q10) ?_)
   rintro _ w10 hE10 ⟨rfl, -⟩
   have hL10 := hL3.ext hE10
   have K10 := ke hL3 hE10
   refine zaf (OpY.not (x := r10) rfl ?_)
   refine zaf (zai (v := (zaa (!r10))) rfl ?_)
   by_cases hc10 : (!r10) = true
   ·
    replace h := ite_t hc10 h
    refine zbq rfl rfl hc10 ?_
    refine zbq rfl rfl hc10 ?_
    refine zbq rfl rfl hc10 ?_
    refine zbq rfl rfl hc10 ?_
    refine zbq rfl rfl hc10 ?_
    refine zaf (zci (t := (!r10)) (v := (zaa true)) rfl hc10 rfl ?_)
    refine zan ?_
    obtain rfl := zag h
    refine zar ?_
    exact ⟨true, _, rfl, (zdt ⟨rfl, rfl, rfl, trivial⟩), hL10, K10, trivial⟩
   ·
    replace h := ite_f hc10 h
    refine zbu rfl rfl (zdp hc10) (zas (q := 2) zbi rfl ti26 rfl rfl rfl ?_)
    refine zbu rfl rfl (zdp hc10) (zas (q := 3) zam rfl ti24 rfl rfl rfl ?_)
    refine zbu rfl rfl (zdp hc10) (zaz (v := p_v2) zal rfl rfl (hL10.at 0 rfl rfl) rfl ?_)
    have f11 := ((p_h2.mono (K4 S)).mono (K10 S))
    refine zbu rfl rfl (zdp hc10) (zbd (v := p_v2) zal rfl f11 ?_)
    refine zbu rfl rfl (zdp hc10) (zdm (x := (p.Bound.Digits.length : Int)) (y := 4) (((p.Bound.Digits.length : Int) : Int) > 4) rfl rfl zbk ?_)
    refine zaf (zbx (t := (!r10)) (v := (zaa (decide (((p.Bound.Digits.length : Int) : Int) > 4)))) rfl (zdp hc10) rfl ?_)
    refine zan ?_
    obtain rfl := zag h
    refine zar ?_
    exact ⟨(decide (((p.Bound.Digits.length : Int) : Int) > 4)), _, rfl, (zdt ⟨rfl, rfl, rfl, trivial⟩), hL10, K10, trivial⟩
  ·
   rintro _ w11 ⟨x10, u, rfl, rfl, hL11, K11, -⟩
   replace h := g10
   try dsimp only at h
   refine zcr x10 rfl (fun hc11 => ?_) (fun hc11 => ?_)
   ·
    replace h := ite_t hc11 h
    refine zaj (zah rfl (zaf (zak (v := (zab .i64 101)) rfl ?_)))
    refine zan (zbj ?_)
    obtain rfl := zag h
    refine ⟨[(zab .i64 101)], ⟨rfl, trivial⟩, ⟨_, rfl, hL11.done, ?_⟩⟩
    exact ⟨rfl, trivial⟩
   ·
    replace h := ite_f hc11 h
    refine zbf (zaj (zaj (zah rfl (zaf (zak (v := (zab .i64 0)) rfl ?_)))))
    refine zan ?_
    obtain ⟨s11, hl10, g11⟩ := zdo h
    refine zbr (fun e w' => ∃  (u : Env), (Sum.inl ()) = s11 ∧ e = upds [(1, (zao (some ⟨b1, 0, none⟩))), (3, (zab .i64 (iw (1 + (p.Steps.length : Int)))))] u ∧ vL w w' [some b1] [zac [p_v, p_v1, (zaa p.Bound.Negative), p_v2, p_v3]] ∧ Keep w.heap.size [some b1] w11 [some b1] w' ∧ True) ?_ ?_
    ·
     refine zbh ?_
     refine zce hl10 (fun (ss : Int) (e : Env) (w' : World) => match ss with | i10 => ∃ (u : Env), e = upds [(1, (zao (some ⟨b1, 0, none⟩))), (3, (zab .i64 (iw (1 + (p.Steps.length : Int))))), (4, (zab .i64 i10))] u ∧ vL w w' [some b1] [zac [p_v, p_v1, (zaa p.Bound.Negative), p_v2, p_v3]] ∧ Keep w.heap.size [some b1] w11 [some b1] w' ∧ True) ⟨_, (zdt ⟨rfl, rfl, rfl, trivial⟩), hL11, zbo, trivial⟩ ?_
     rintro i10 oo _ w12 ⟨u, rfl, hL12, K12, -⟩ h hd10
     rw [rweight_b1] at h
     refine zaj (zaj ?_)
     obtain ⟨s12, h, g12⟩ := zdo h
     refine zbr (fun e w' => ∃ (x11 : Bool) (u : Env), x11 = s12 ∧ e = upds [(1, (zao (some ⟨b1, 0, none⟩))), (3, (zab .i64 (iw (1 + (p.Steps.length : Int))))), (4, (zab .i64 i10)), (29, (zaa x11))] u ∧ vL w w' [some b1] [zac [p_v, p_v1, (zaa p.Bound.Negative), p_v2, p_v3]] ∧ Keep w.heap.size [some b1] w12 [some b1] w' ∧ True) ?_ ?_
     ·
      refine zah rfl (zaf (zai (v := (zab .i64 i10)) rfl ?_))
      refine zaf (zas (q := 0) zbi rfl ti39 rfl rfl rfl ?_)
      refine zaf (zaz (v := p_v) zcu rfl rfl (hL12.at 0 rfl rfl) rfl ?_)
      have f12 := ((f6.mono (K11 S)).mono (K12 S))
      refine zaf (zbd (v := p_v) zcu rfl f12 ?_)
      refine zaf (zcj (x := i10) (y := (p.Steps.length : Int)) ((i10 : Int) < (p.Steps.length : Int)) rfl rfl zbk ?_)
      refine zaf (zai (v := (zaa (decide ((i10 : Int) < (p.Steps.length : Int))))) rfl ?_)
      by_cases hc12 : (i10 : Int) < (p.Steps.length : Int)
      ·
       replace h := ite_t hc12 h
       refine zbu rfl rfl (zdr hc12) (zai (v := (zab .i64 (iw (1 + (p.Steps.length : Int))))) rfl ?_)
       refine zbu rfl rfl (zdr hc12) (OpY.leq (x := (iw (1 + (p.Steps.length : Int)))) (y := 100) (((iw (1 + (p.Steps.length : Int))) : Int) ≤ 100) rfl rfl zbk ?_)
       refine zaf (zci (t := (decide ((i10 : Int) < (p.Steps.length : Int)))) (v := (zaa (decide (((iw (1 + (p.Steps.length : Int))) : Int) ≤ 100)))) rfl (zdr hc12) rfl ?_)
       refine zan ?_
       obtain rfl := zag h
       refine zar ?_
       exact ⟨(decide (((iw (1 + (p.Steps.length : Int))) : Int) ≤ 100)), _, rfl, (zdt ⟨rfl, rfl, rfl, rfl, trivial⟩), hL12, zbo, trivial⟩
      ·
       replace h := ite_f hc12 h
       refine zbq rfl rfl (zdq hc12) ?_
       refine zbq rfl rfl (zdq hc12) ?_
       refine zaf (zbx (t := (decide ((i10 : Int) < (p.Steps.length : Int)))) (v := (zaa false)) rfl (zdq hc12) rfl ?_)
       refine zan ?_
       obtain rfl := zag h
       refine zar ?_
       exact ⟨false, _, rfl, (zdt ⟨rfl, rfl, rfl, rfl, trivial⟩), hL12, zbo, trivial⟩
     ·
      rintro _ w13 ⟨x11, u, rfl, rfl, hL13, K13, -⟩
      replace h := g12
      try dsimp only at h
      refine zcr x11 rfl (fun hc13 => ?_) (fun hc13 => ?_)
      ·
       replace h := ite_t hc13 h
       refine zbf (zaj (zbh (zaj (zah rfl (zaf (zas (q := 0) zbi rfl ti39 rfl rfl rfl ?_))))))
       refine zaf (zaz (v := p_v) zcu rfl rfl (hL13.at 0 rfl rfl) rfl ?_)
       refine zaf (zai (v := (zab .i64 i10)) rfl ?_)
       obtain ⟨x12, q11, h⟩ := zdo h
       obtain ⟨n10, q12, q13⟩ := zdu q11
       have f13 := (((f6.mono (K11 S)).mono (K12 S)).mono (K13 S))
       obtain ⟨b10, o10, c10, vs10, q14, q15, f14, q16⟩ := zcw f13 q13
       obtain ⟨v10, v11, rfl, k10, k11, -⟩ := rStep_open q16
       refine zaf (zbw (r := rStep) (v := p_v) (n := n10) (m := (o10 + n10 * rStep.sz)) zcu ti28 rfl q14 rfl q12 q13 rfl ?_)
       refine zaf (zdh (vs := [v10, (zaa x12.Divisor.Negative), v11]) zcq rfl ti28 rfl rfl zdy f14 ?_)
       obtain ⟨r11, q17, h⟩ := zdo h
       refine zaf (zaw en13 rfl rfl (rSmallStep_w N x12 v10 v11 _ Any (k10.mono vw_any) (k11.mono vw_any) r11 q17) ?_)
       rintro _ w14 hE11 ⟨rfl, -⟩
       have hL14 := hL13.ext hE11
       have K14 := ke hL13 hE11
       refine zaf (OpY.not (x := r11) rfl ?_)
       refine zan ?_
       refine zcr (!r11) rfl (fun hc14 => ?_) (fun hc14 => ?_)
       ·
        replace h := ite_t hc14 h
        refine zaj (zah rfl (zaf (zak (v := (zab .i64 101)) rfl ?_)))
        refine zan (zbj ?_)
        obtain rfl := zag h
        obtain rfl := hd10 _ rfl
        replace h := g11
        try dsimp only at h
        obtain rfl := zag h
        refine ⟨[(zab .i64 101)], ⟨rfl, trivial⟩, ⟨_, rfl, hL14.done, ?_⟩⟩
        exact ⟨rfl, trivial⟩
       ·
        replace h := ite_f hc14 h
        refine zbf (zbt (zah rfl (zaf (zai (v := (zab .i64 i10)) rfl ?_))))
        refine zaf (zby (x := i10) (y := 1) (z := (iw (i10 + 1))) rfl rfl rfl ?_)
        refine zaf (zak (v := (zab .i64 (iw (i10 + 1)))) rfl ?_)
        refine zan ?_
        obtain rfl := zag h
        refine zar ⟨(iw (i10 + 1)), rfl, ?_⟩
        exact ⟨_, (zdt ⟨rfl, rfl, rfl, trivial⟩), hL14, (zaq (zaq K12 K13) K14), trivial⟩
      ·
       replace h := ite_f hc13 h
       refine zcm rfl ?_
       obtain rfl := zag h
       obtain rfl := hd10 _ rfl
       replace h := g11
       try dsimp only at h
       skip
       refine zar ?_
       exact ⟨_, rfl, (zdt ⟨rfl, rfl, trivial⟩), hL13, (zaq K12 K13), trivial⟩
    ·
     rintro _ w15 ⟨u, rfl, rfl, hL15, K15, -⟩
     replace h := g11
     try dsimp only at h
     refine zaj (zaj (zah rfl (zaf (zak (v := (zab .i64 0)) rfl ?_))))
     refine zan ?_
     obtain ⟨s13, hl11, g13⟩ := zdo h
     refine zbr (fun e w' => ∃ (n11 : Int) (u : Env), n11 = s13 ∧ e = upds [(3, (zab .i64 n11))] u ∧ vL w w' [] [] ∧ Keep w.heap.size [some b1] w15 [] w' ∧ True) ?_ ?_
     ·
      refine zbh ?_
      refine zce hl11 (fun (ss : (Int × Int)) (e : Env) (w' : World) => match ss with | (n12, i11) => ∃ (u : Env), e = upds [(1, (zao (some ⟨b1, 0, none⟩))), (3, (zab .i64 n12)), (5, (zab .i64 i11))] u ∧ vL w w' [some b1] [zac [p_v, p_v1, (zaa p.Bound.Negative), p_v2, p_v3]] ∧ Keep w.heap.size [some b1] w15 [some b1] w' ∧ True) ⟨_, (zdt ⟨rfl, rfl, rfl, trivial⟩), hL15, zbo, trivial⟩ ?_
      rintro ⟨n12, i11⟩ oo _ w16 ⟨u, rfl, hL16, K16, -⟩ h hd11
      rw [rweight_b2] at h
      refine zaj (zaj ?_)
      obtain ⟨s14, h, g14⟩ := zdo h
      refine zbr (fun e w' => ∃ (x13 : Bool) (u : Env), x13 = s14 ∧ e = upds [(1, (zao (some ⟨b1, 0, none⟩))), (3, (zab .i64 n12)), (5, (zab .i64 i11)), (47, (zaa x13))] u ∧ vL w w' [some b1] [zac [p_v, p_v1, (zaa p.Bound.Negative), p_v2, p_v3]] ∧ Keep w.heap.size [some b1] w16 [some b1] w' ∧ True) ?_ ?_
      ·
       refine zah rfl (zaf (zai (v := (zab .i64 i11)) rfl ?_))
       refine zaf (zas (q := 4) zbi rfl ti40 rfl rfl rfl ?_)
       refine zaf (zaz (v := p_v3) zcd rfl rfl (hL16.at 0 rfl rfl) rfl ?_)
       have f15 := ((((p_h3.mono (K4 S)).mono (K11 S)).mono (K15 S)).mono (K16 S))
       refine zaf (zbd (v := p_v3) zcd rfl f15 ?_)
       refine zaf (zcj (x := i11) (y := (p.Children.length : Int)) ((i11 : Int) < (p.Children.length : Int)) rfl rfl zbk ?_)
       refine zaf (zai (v := (zaa (decide ((i11 : Int) < (p.Children.length : Int))))) rfl ?_)
       by_cases hc15 : (i11 : Int) < (p.Children.length : Int)
       ·
        replace h := ite_t hc15 h
        refine zbu rfl rfl (zdr hc15) (zai (v := (zab .i64 n12)) rfl ?_)
        refine zbu rfl rfl (zdr hc15) (OpY.leq (x := n12) (y := 100) ((n12 : Int) ≤ 100) rfl rfl zbk ?_)
        refine zaf (zci (t := (decide ((i11 : Int) < (p.Children.length : Int)))) (v := (zaa (decide ((n12 : Int) ≤ 100)))) rfl (zdr hc15) rfl ?_)
        refine zan ?_
        obtain rfl := zag h
        refine zar ?_
        exact ⟨(decide ((n12 : Int) ≤ 100)), _, rfl, (zdt ⟨rfl, rfl, rfl, rfl, trivial⟩), hL16, zbo, trivial⟩
       ·
        replace h := ite_f hc15 h
        refine zbq rfl rfl (zdq hc15) ?_
        refine zbq rfl rfl (zdq hc15) ?_
        refine zaf (zbx (t := (decide ((i11 : Int) < (p.Children.length : Int)))) (v := (zaa false)) rfl (zdq hc15) rfl ?_)
        refine zan ?_
        obtain rfl := zag h
        refine zar ?_
        exact ⟨false, _, rfl, (zdt ⟨rfl, rfl, rfl, rfl, trivial⟩), hL16, zbo, trivial⟩
      ·
       rintro _ w17 ⟨x13, u, rfl, rfl, hL17, K17, -⟩
       replace h := g14
       try dsimp only at h
       refine zcr x13 rfl (fun hc16 => ?_) (fun hc16 => ?_)
       ·
        replace h := ite_t hc16 h
        refine zbf (zaj (zbh (zah rfl (zaf (zai (v := (zab .i64 n12)) rfl ?_)))))
        refine zaf (zas (q := 4) zbi rfl ti40 rfl rfl rfl ?_)
        refine zaf (zaz (v := p_v3) zcd rfl rfl (hL17.at 0 rfl rfl) rfl ?_)
        refine zaf (zai (v := (zab .i64 i11)) rfl ?_)
        obtain ⟨x14, q18, h⟩ := zdo h
        obtain ⟨n13, q19, q20⟩ := zdu q18
        have f16 := (((((p_h3.mono (K4 S)).mono (K11 S)).mono (K15 S)).mono (K16 S)).mono (K17 S))
        obtain ⟨b11, o11, c11, vs11, q21, q22, f17, q23⟩ := zcw f16 q20
        obtain ⟨v12, v13, v14, v15, rfl, k12, k13, k14, k15, -⟩ := rProof_open q23
        refine zaf (zbw (r := rProof) (v := p_v3) (n := n13) (m := (o11 + n13 * rProof.sz)) zcd ti42 rfl q21 rfl q19 q20 rfl ?_)
        refine zaf (zdh (vs := [v12, v13, (zaa x14.Bound.Negative), v14, v15]) zbi rfl ti42 rfl rfl zdy f17 ?_)
        obtain ⟨r12, q24, h⟩ := zdo h
        refine zaf (zaw en52 rfl rfl (ih x14 v12 v13 v14 v15 _ Any (k12.mono vw_any) (k13.mono vw_any) (k14.mono vw_any) (k15.mono vw_any) r12 q24) ?_)
        rintro _ w18 hE12 ⟨rfl, -⟩
        have hL18 := hL17.ext hE12
        have K18 := ke hL17 hE12
        refine zaf (zby (x := n12) (y := r12) (z := (iw (n12 + r12))) rfl rfl rfl ?_)
        refine zaf (zak (v := (zab .i64 (iw (n12 + r12)))) rfl ?_)
        refine zan (zbt (zah rfl (zaf (zai (v := (zab .i64 i11)) rfl ?_))))
        refine zaf (zby (x := i11) (y := 1) (z := (iw (i11 + 1))) rfl rfl rfl ?_)
        refine zaf (zak (v := (zab .i64 (iw (i11 + 1)))) rfl ?_)
        refine zan ?_
        obtain rfl := zag h
        refine zar ⟨((iw (n12 + r12)), (iw (i11 + 1))), rfl, ?_⟩
        exact ⟨_, (zdt ⟨rfl, rfl, rfl, trivial⟩), hL18, (zaq (zaq K16 K17) K18), trivial⟩
       ·
        replace h := ite_f hc16 h
        refine zcm rfl ?_
        have hp10 := hL17.pick [] rfl rfl rfl
        have hL19 : vL w w17 [] [] := hp10.1
        have K19 := ks w hp10.2
        obtain rfl := zag h
        obtain rfl := hd11 _ rfl
        replace h := g13
        try dsimp only at h
        skip
        refine zar ?_
        exact ⟨n12, _, rfl, (zdt ⟨rfl, trivial⟩), hL19, (zaq (zaq K16 K17) K19), trivial⟩
     ·
      rintro _ w19 ⟨n11, u, rfl, rfl, hL20, K20, -⟩
      replace h := g13
      try dsimp only at h
      refine zaj (zah rfl (zaf (zai (v := (zab .i64 n11)) rfl ?_)))
      refine zaf (zak (v := (zab .i64 n11)) rfl ?_)
      refine zan (zbj ?_)
      obtain rfl := zag h
      refine ⟨[(zab .i64 n11)], ⟨rfl, trivial⟩, ⟨_, rfl, hL20.done, ?_⟩⟩
      exact ⟨rfl, trivial⟩
theorem rSmallProof_w (N : Nat) (p : Proof) (p_v : Value) (p_v1 : Value) (p_v2 : Value) (p_v3 : Value) (w : World) (S : Nat → Prop) (p_h : Rs rStep (vH w S [] w) p_v p.Steps) (p_h1 : Rs rBig (vH w S [] w) p_v1 p.Form) (p_h2 : Rs (rInt .u32) (vH w S [] w) p_v2 p.Bound.Digits) (p_h3 : Rs rProof (vH w S [] w) p_v3 p.Children) (r : Bool) (h : rSmallProof N p = some r) :
  Calls Try.prog 17 #[(zap #[p_v, p_v1, (zaa p.Bound.Negative), p_v2, p_v3])] w (Ret w (fun v w' => (zaa r) = v ∧ True)) := by
 unfold rSmallProof at h
 have hL : vL w w [] [] := Go.X.Loc.begin0 w
 refine calls_of (l := [(zap #[p_v, p_v1, (zaa p.Bound.Negative), p_v2, p_v3])]) (rl := [.tmp 2]) (n := 6) Try.func17 rfl rfl rfl (zae rfl) ?_
 refine zaj (zah rfl (zaf (zde (cs := [p_v, p_v1, (zaa p.Bound.Negative), p_v2, p_v3]) rfl rfl hL ?_)))
 intro b1 w2 hL3 hS5
 have K4 := ks w hS5
 refine zaf (zak (v := (zaa false)) rfl ?_)
 refine zan (zaj (zah rfl (zaf (zbm (vs := [p_v, p_v1, (zaa p.Bound.Negative), p_v2, p_v3]) zbi rfl ti42 rfl (hL3.at 0 rfl rfl) rfl rfl ?_))))
 obtain ⟨r6, q7, h⟩ := zdo h
 have f9 := (p_h.mono (K4 S))
 have f10 := (p_h1.mono (K4 S))
 have f11 := (p_h2.mono (K4 S))
 have f12 := (p_h3.mono (K4 S))
 refine zaf (zaw en52 rfl rfl (rweight_w N p p_v p_v1 p_v2 p_v3 _ Any (f9.mono vw_any) (f10.mono vw_any) (f11.mono vw_any) (f12.mono vw_any) r6 q7) ?_)
 rintro _ w10 hE10 ⟨rfl, -⟩
 have hL10 := hL3.ext hE10
 refine zaf (OpY.leq (x := r6) (y := 40) ((r6 : Int) ≤ 40) rfl rfl zbk ?_)
 refine zaf (zak (v := (zaa (decide ((r6 : Int) ≤ 40)))) rfl ?_)
 refine zan (zbj ?_)
 obtain rfl := zag h
 refine ⟨[(zaa (decide ((r6 : Int) ≤ 40)))], ⟨rfl, trivial⟩, ⟨_, rfl, hL10.done, ?_⟩⟩
 exact ⟨rfl, trivial⟩
end Go.Proofs.Ytakkacdhlocckaa.WD

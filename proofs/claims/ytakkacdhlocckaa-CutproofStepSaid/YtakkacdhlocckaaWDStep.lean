/- Walks, written by a program of mine (wip/tool); the kernel checks them. -/
import Derived.Test.YtakkacdhlocckaaProg
import Derived.Test.YtakkacdhlocckaaSqStep
import Derived.Test.YtakkacdhlocckaaPD
import Derived.Test.YtakkacdhlocckaaWAStep
import Derived.Test.YtakkacdhlocckaaWRStep
import Derived.Test.YtakkacdhlocckaaWBStep
import Derived.Test.YtakkacdhlocckaaWCStep
set_option maxRecDepth 100000
set_option maxHeartbeats 4000000
set_option linter.unusedVariables false
namespace Go.Proofs.Ytakkacdhlocckaa.WD
open Go Go.RowKit Go.X Go.D Go.Proofs.Ytakkacdhlocckaa.WA Go.Proofs.Ytakkacdhlocckaa.WR Go.Proofs.Ytakkacdhlocckaa.WB Go.Proofs.Ytakkacdhlocckaa.WC
theorem en39 : Enters Try.prog 39 := ⟨Try.f39, Try.func39, by kernel_rfl, by kernel_rfl⟩
theorem en25 : Enters Try.prog 25 := ⟨Try.f25, Try.func25, by kernel_rfl, by kernel_rfl⟩
theorem en27 : Enters Try.prog 27 := ⟨Try.f27, Try.func27, by kernel_rfl, by kernel_rfl⟩
theorem en43 : Enters Try.prog 43 := ⟨Try.f43, Try.func43, by kernel_rfl, by kernel_rfl⟩
theorem en13 : Enters Try.prog 13 := ⟨Try.f13, Try.func13, by kernel_rfl, by kernel_rfl⟩
theorem rHolds_w (N : Nat) (q : Ineq) (x : (List Big)) (q_v : Value) (q_v1 : Value) (x_v : Value) (w : World) (S : Nat → Prop) (q_h : Rs rBig (vH w S [] w) q_v q.Coefs) (q_h1 : Rs (rInt .u32) (vH w S [] w) q_v1 q.Bound.Digits) (x_h : Rs rBig (vH w S [] w) x_v x) (r : Bool) (h : rHolds N q x = some r) :
  Calls Try.prog 27 #[(zao #[q_v, (zaa q.Bound.Negative), q_v1]), x_v] w (Ret w (fun v w' => (zaa r) = v ∧ True)) := by
 unfold rHolds at h
 have hL : vL w w [] [] := Go.X.Loc.begin0 w
 refine calls_of (l := [(zao #[q_v, (zaa q.Bound.Negative), q_v1]), x_v]) (rl := [.tmp 4]) (n := 37) Try.func27 rfl rfl rfl (zae rfl) ?_
 refine zaj (zag rfl (zaf (zde (cs := [q_v, (zaa q.Bound.Negative), q_v1]) rfl rfl hL ?_)))
 intro b1 w2 hL3 hS5
 have K4 := ks w hS5
 refine zaf (zak (v := (zaa false)) rfl ?_)
 refine zan (zaj (zaj (zag rfl (zaf (zas (q := 0) zbf rfl ti32 rfl rfl rfl ?_)))))
 refine zaf (zbb (v := q_v) zba rfl rfl (hL3.at 0 rfl rfl) rfl ?_)
 have f6 := (q_h.mono (K4 S))
 refine zaf (zbe (v := q_v) zba rfl f6 ?_)
 refine zaf (zai (v := x_v) rfl ?_)
 have f7 := (x_h.mono (K4 S))
 refine zaf (zbe (v := x_v) zba rfl f7 ?_)
 refine zaf (OpY.neq (x := (q.Coefs.length : Int)) (y := (x.length : Int)) (((q.Coefs.length : Int) : Int) ≠ (x.length : Int)) rfl rfl zbk ?_)
 refine zan ?_
 refine zbd (((q.Coefs.length : Int) : Int) ≠ (x.length : Int)) rfl (fun hc8 => ?_) (fun hc8 => ?_)
 ·
  replace h := ite_t hc8 h
  refine zaj (zag rfl (zaf (zak (v := (zaa false)) rfl ?_)))
  refine zan (zbi ?_)
  obtain rfl := zah h
  refine ⟨[(zaa false)], ⟨rfl, trivial⟩, ⟨_, rfl, hL3.done, ?_⟩⟩
  exact ⟨rfl, trivial⟩
 ·
  replace h := ite_f hc8 h
  refine zbg (zaj (zag rfl (zaf (zcw (zc := [(zaa false), (zad none 0 0)]) (cs := [(zaa false), (zad none 0 0)]) (is := []) (vs := []) (css := []) pl26 ti26 rfl rfl rfl trivial rfl ?_))))
  refine zaf (zca (cs := [(zaa false), (zad none 0 0)]) ti26 rfl hL3 ?_)
  intro b9 w10 hL10 hS10
  have K10 := ks w hS10
  refine zcb (zbm (vs := [(zaa false), (zad none 0 0)]) ti26 rfl rfl rfl rfl (zdq rfl (zdq rfl zdv)) hL10 0 rfl rfl (zae rfl) ?_)
  intro w11 (hL11 : vL w w11 [some b9, some b1] [zac [(zaa false), (zad none 0 0)], zac [q_v, (zaa q.Bound.Negative), q_v1]]) hS11
  have K11 := ks w hS11
  refine zan (zaj (zaj (zag rfl (zaf (zak (v := (zab .i64 0)) rfl ?_)))))
  refine zan ?_
  obtain ⟨s10, hl10, g10⟩ := zdn h
  refine zbu (fun e w' => ∃ (negative10 : Bool) (digits10 : (List Int)) (v10 : Value) (u : Env), (negative10, digits10) = s10 ∧ e = upds [(2, (zap (some ⟨b1, 0, none⟩))), (5, (zap (some ⟨b9, 0, none⟩)))] u ∧ vL w w' [some b1, some b9] [zac [q_v, (zaa q.Bound.Negative), q_v1], zac [(zaa negative10), v10]] ∧ Keep w.heap.size [some b9, some b1] w11 [some b1, some b9] w' ∧ Rs (rInt .u32) (vH w None [some b1, some b9] w') v10 digits10 ∧ True) ?_ ?_
  ·
   refine zbh ?_
   have hp10 := hL11.pick [1, 0] rfl rfl rfl
   have hL12 : vL w w11 [some b1, some b9] [zac [q_v, (zaa q.Bound.Negative), q_v1], zac [(zaa false), (zad none 0 0)]] := hp10.1
   have K12 := ks w hp10.2
   refine zch hl10 (fun (ss : (Bool × (List Int) × Int)) (e : Env) (w' : World) => match ss with | (negative11, digits11, i10) => ∃ (v11 : Value) (u : Env), e = upds [(1, x_v), (2, (zap (some ⟨b1, 0, none⟩))), (5, (zap (some ⟨b9, 0, none⟩))), (6, (zab .i64 i10))] u ∧ vL w w' [some b1, some b9] [zac [q_v, (zaa q.Bound.Negative), q_v1], zac [(zaa negative11), v11]] ∧ Keep w.heap.size [some b9, some b1] w11 [some b1, some b9] w' ∧ Rs (rInt .u32) (vH w None [some b1, some b9] w') v11 digits11 ∧ True) ⟨(zad none 0 0), _, (zds ⟨rfl, rfl, rfl, rfl, trivial⟩), hL12, K12, zdm, trivial⟩ ?_
   rintro ⟨negative11, digits11, i10⟩ oo _ w12 ⟨v11, u, rfl, hL13, K13, k10, -⟩ h hd10
   rw [rHolds_b1] at h
   refine zaj (zaj (zag rfl (zaf (zai (v := (zab .i64 i10)) rfl ?_))))
   refine zaf (zai (v := x_v) rfl ?_)
   have f10 := (((f7.mono (K10 S)).mono (K11 S)).mono (K13 S))
   refine zaf (zbe (v := x_v) zba rfl f10 ?_)
   refine zaf (zck (x := i10) (y := (x.length : Int)) ((i10 : Int) < (x.length : Int)) rfl rfl zbk ?_)
   refine zan ?_
   refine zbd ((i10 : Int) < (x.length : Int)) rfl (fun hc10 => ?_) (fun hc10 => ?_)
   ·
    replace h := ite_t hc10 h
    refine zbg (zaj (zbh ?_))
    obtain ⟨x10, q10, h⟩ := zdn h
    obtain ⟨n10, q11, q12⟩ := zdt q10
    have f11 := (((f6.mono (K10 S)).mono (K11 S)).mono (K13 S))
    obtain ⟨b10, o10, c10, vs10, q13, q14, f12, q15⟩ := zcx f11 q12
    obtain ⟨v12, rfl, k11, -⟩ := rBig_open q15
    obtain ⟨x11, q16, h⟩ := zdn h
    obtain ⟨n11, q17, q18⟩ := zdt q16
    obtain ⟨b11, o11, c11, vs11, q19, q20, f13, q21⟩ := zcx f10 q18
    obtain ⟨v13, rfl, k12, -⟩ := rBig_open q21
    obtain ⟨r10, q22, h⟩ := zdn h
    refine zcd 11 [] [] (fun W1 => [.det (zao #[(zaa negative11), v11]), .det (zap (some ⟨b1, 0, none⟩)), .det q_v, .det (zab .i64 i10), .det (zap (some ⟨b10, (o10 + n10 * rBig.sz), none⟩)), .det (zao #[(zaa x10.Negative), v12]), .det x_v, .det (zab .i64 i10), .det (zap (some ⟨b11, (o11 + n11 * rBig.sz), none⟩)), .det (zao #[(zaa x11.Negative), v13]), .rel (fun v Z w' => ∃ v14, (zao #[(zaa r10.Negative), v14]) = v ∧ Rs (rInt .u32) (vZ W1 w None [some b1, some b9] Z w') v14 r10.Digits ∧ True) (fun _ => [])]) mixed rfl rfl rfl (fun _ => rfl) (fun _ => rfl) ?_ ?_
    ·
     intro W1 _
     exact ⟨fun v Z Z' w w' hΦ hz _ _ hs => by obtain ⟨v14, rfl, k13, -⟩ := hΦ; exact ⟨v14, rfl, (k13.mono (zcr hz hs)), trivial⟩, trivial⟩
    ·
     intro w13 hE10
     have hL14 := hL13.ext hE10
     have K14 := ke hL13 hE10
     refine zau (fun _ hE11 => zav (zbl (vs := [(zaa negative11), v11]) zam rfl ti26 rfl ((hL14.ext hE11).at 1 rfl rfl) rfl rfl (er rfl))) ?_
     refine zau (fun _ _ => zav (zas zbf rfl ti32 rfl rfl rfl (er rfl))) ?_
     refine zau (fun _ hE13 => zav (zbb zba rfl rfl ((hL14.ext hE13).at 0 rfl rfl) rfl (er rfl))) ?_
     refine zau (fun _ _ => zav (zai rfl (er rfl))) ?_
     refine zau (fun _ _ => zav (zbw (r := rBig) (v := q_v) (n := n10) (m := (o10 + n10 * rBig.sz)) zba ti26 rfl q13 rfl q11 q12 rfl (er rfl))) ?_
     refine zau (fun _ hE16 => zav (zdj (vs := [(zaa x10.Negative), v12]) zam rfl ti26 rfl rfl zdx (zcy ((ke hL14 hE16) S) (zcy (K14 S) f12)) (er rfl))) ?_
     refine zau (fun _ _ => zav (zai rfl (er rfl))) ?_
     refine zau (fun _ _ => zav (zai rfl (er rfl))) ?_
     refine zau (fun _ _ => zav (zbw (r := rBig) (v := x_v) (n := n11) (m := (o11 + n11 * rBig.sz)) zba ti26 rfl q19 rfl q17 q18 rfl (er rfl))) ?_
     refine zau (fun _ hE20 => zav (zdj (vs := [(zaa x11.Negative), v13]) zam rfl ti26 rfl rfl zdx (zcy ((ke hL14 hE20) S) (zcy (K14 S) f13)) (er rfl))) ?_
     refine zcs ?_ ?_
     ·
      rintro w24 Z20 hE21 hZ20 ⟨-⟩
      have K17 := ke hL14 hE21
      refine zav (zaw en39 rfl rfl (rMul_w N x10 x11 v12 v13 _ Any (((k11.mono (K14 S)).mono (K17 S)).mono vw_any) (((k12.mono (K14 S)).mono (K17 S)).mono vw_any) r10 q22) ?_)
      rintro _ w25 hE22 ⟨v14, rfl, k13, -⟩
      exact zcm hE22 hZ20 zcc (fun _ h => h) ⟨v14, rfl, (k13.mono zdd), trivial⟩
     intro z10
     refine zcn ?_
     rintro w26 Z21 hE23 hZ21 ⟨⟨⟨v14, rfl, k13, -⟩, hB10⟩, -⟩ ap10
     have hB11 : ∀ b, some b ∈ ([] : List (Option Nat)) → w13.heap.size ≤ b ∧ ¬ Z21 b := by
      intro b hb; cases hb
     replace k13 := k13.mono (zdb hL14 hZ21 hB11)
     have hL17 := hL14.ext hE23
     have K18 := ke hL14 hE23
     obtain ⟨r11, q23, h⟩ := zdn h
     have f14 := ((k10.mono (K14 None)).mono (K18 None))
     refine zaf (zaw en38 rfl rfl (rAdd_w N (Big.mk negative11 digits11) r10 v11 v14 _ Any (f14.mono vw_any) (k13.mono vw_any) r11 q23) ?_)
     rintro _ w27 hE24 ⟨v15, rfl, k14, -⟩
     replace k14 := k14.mono (zaz (S := None) hL17 [])
     have hL18 := hL17.ext hE24
     have K19 := ke hL17 hE24
     refine zcb (zbm (vs := [(zaa r11.Negative), v15]) ti26 rfl rfl rfl rfl (zdq rfl (zdq k14.one zdv)) hL18 1 rfl rfl (zae rfl) ?_)
     intro w28 (hL19 : vL w w28 [some b1, some b9] [zac [q_v, (zaa q.Bound.Negative), q_v1], zac [(zaa r11.Negative), v15]]) hS12
     have K20 := ks w hS12
     refine zan (zbt (zag rfl (zaf (zai (v := (zab .i64 i10)) rfl ?_))))
     refine zaf (zbz (x := i10) (y := 1) (z := (iw (i10 + 1))) rfl rfl rfl ?_)
     refine zaf (zak (v := (zab .i64 (iw (i10 + 1)))) rfl ?_)
     refine zan ?_
     have f15 := (k14.mono (K20 None))
     obtain rfl := zah h
     refine zar ⟨(r11.Negative, r11.Digits, (iw (i10 + 1))), rfl, ?_⟩
     exact ⟨v15, _, (zds ⟨rfl, rfl, rfl, rfl, trivial⟩), hL19, (zaq (zaq (zaq (zaq K13 K14) K18) K19) K20), f15, trivial⟩
   ·
    replace h := ite_f hc10 h
    refine zco rfl ?_
    obtain rfl := zah h
    obtain rfl := hd10 _ rfl
    replace h := g10
    try dsimp only at h
    skip
    refine zar ?_
    exact ⟨negative11, digits11, v11, _, rfl, (zds ⟨rfl, rfl, trivial⟩), hL13, K13, k10, trivial⟩
  ·
   rintro _ w29 ⟨negative10, digits10, v10, u, rfl, rfl, hL20, K21, k15, -⟩
   replace h := g10
   try dsimp only at h
   refine zaj (zag rfl (zaf (zbl (vs := [(zaa negative10), v10]) zam rfl ti26 rfl (hL20.at 1 rfl rfl) rfl rfl ?_)))
   refine zaf (zas (q := 1) zbf rfl ti26 rfl rfl rfl ?_)
   refine zaf (zbl (vs := [(zaa q.Bound.Negative), q_v1]) zam rfl ti26 rfl (hL20.at 0 rfl rfl) rfl rfl ?_)
   obtain ⟨r12, q24, h⟩ := zdn h
   have f16 := ((((q_h1.mono (K4 S)).mono (K10 S)).mono (K11 S)).mono (K21 S))
   refine zaf (zaw en25 rfl rfl (rCompare_w N (Big.mk negative10 digits10) q.Bound v10 q_v1 _ Any (k15.mono vw_any) (f16.mono vw_any) r12 q24) ?_)
   rintro _ w30 hE25 ⟨rfl, -⟩
   have hL21 := hL20.ext hE25
   refine zaf (OpY.leq (x := r12) (y := 0) ((r12 : Int) ≤ 0) rfl rfl zbk ?_)
   refine zaf (zak (v := (zaa (decide ((r12 : Int) ≤ 0)))) rfl ?_)
   refine zan (zbi ?_)
   obtain rfl := zah h
   refine ⟨[(zaa (decide ((r12 : Int) ≤ 0)))], ⟨rfl, trivial⟩, ⟨_, rfl, hL21.done, ?_⟩⟩
   exact ⟨rfl, trivial⟩
theorem rAll_w (N : Nat) (l : (List Ineq)) (x : (List Big)) (l_v : Value) (x_v : Value) (w : World) (S : Nat → Prop) (l_h : Rs rIneq (vH w S [] w) l_v l) (x_h : Rs rBig (vH w S [] w) x_v x) (r : Bool) (h : rAll N l x = some r) :
  Calls Try.prog 26 #[l_v, x_v] w (Ret w (fun v w' => (zaa r) = v ∧ True)) := by
 unfold rAll at h
 have hL : vL w w [] [] := Go.X.Loc.begin0 w
 refine calls_of (l := [l_v, x_v]) (rl := [.tmp 4]) (n := 19) Try.func26 rfl rfl rfl (zae rfl) ?_
 refine zaj (zag rfl (zaf (zak (v := (zaa false)) rfl ?_)))
 refine zan (zaj (zaj (zag rfl (zaf (zak (v := (zab .i64 0)) rfl ?_)))))
 refine zan ?_
 obtain ⟨s10, hl10, g10⟩ := zdn h
 refine zbu (fun e w' => ∃  (u : Env), (Sum.inl ()) = s10 ∧ e = upds [] u ∧ vL w w' [] [] ∧ Keep w.heap.size [] w [] w' ∧ True) ?_ ?_
 ·
  refine zbh ?_
  refine zch hl10 (fun (ss : Int) (e : Env) (w' : World) => match ss with | i64 => ∃ (u : Env), e = upds [(0, l_v), (1, x_v), (5, (zab .i64 i64))] u ∧ vL w w' [] [] ∧ Keep w.heap.size [] w [] w' ∧ True) ⟨_, (zds ⟨rfl, rfl, rfl, trivial⟩), hL, zbo, trivial⟩ ?_
  rintro i64 oo _ w10 ⟨u, rfl, hL10, K10, -⟩ h hd10
  rw [rAll_b1] at h
  refine zaj (zaj (zag rfl (zaf (zai (v := (zab .i64 i64)) rfl ?_))))
  refine zaf (zai (v := l_v) rfl ?_)
  have f10 := (l_h.mono (K10 S))
  refine zaf (zbe (v := l_v) zbj rfl f10 ?_)
  refine zaf (zck (x := i64) (y := (l.length : Int)) ((i64 : Int) < (l.length : Int)) rfl rfl zbk ?_)
  refine zan ?_
  refine zbd ((i64 : Int) < (l.length : Int)) rfl (fun hc10 => ?_) (fun hc10 => ?_)
  ·
   replace h := ite_t hc10 h
   refine zbg (zaj (zbh (zaj (zag rfl (zaf (zai (v := l_v) rfl ?_))))))
   refine zaf (zai (v := (zab .i64 i64)) rfl ?_)
   obtain ⟨x10, q10, h⟩ := zdn h
   obtain ⟨n10, q11, q12⟩ := zdt q10
   obtain ⟨b10, o10, c10, vs10, q13, q14, f11, q15⟩ := zcx f10 q12
   obtain ⟨v10, v11, rfl, k10, k11, -⟩ := rIneq_open q15
   refine zaf (zbw (r := rIneq) (v := l_v) (n := n10) (m := (o10 + n10 * rIneq.sz)) zbj ti34 rfl q13 rfl q11 q12 rfl ?_)
   refine zaf (zdj (vs := [v10, (zaa x10.Bound.Negative), v11]) zbf rfl ti34 rfl rfl zdx f11 ?_)
   refine zaf (zai (v := x_v) rfl ?_)
   obtain ⟨r10, q16, h⟩ := zdn h
   have f12 := (x_h.mono (K10 S))
   refine zaf (zaw en27 rfl rfl (rHolds_w N x10 x v10 v11 x_v _ Any (k10.mono vw_any) (k11.mono vw_any) (f12.mono vw_any) r10 q16) ?_)
   rintro _ w11 hE10 ⟨rfl, -⟩
   have hL11 := hL10.ext hE10
   have K11 := ke hL10 hE10
   refine zaf (OpY.not (x := r10) rfl ?_)
   refine zan ?_
   refine zcv (!r10) rfl (fun hc11 => ?_) (fun hc11 => ?_)
   ·
    replace h := ite_t hc11 h
    refine zaj (zag rfl (zaf (zak (v := (zaa false)) rfl ?_)))
    refine zan (zbi ?_)
    obtain rfl := zah h
    obtain rfl := hd10 _ rfl
    replace h := g10
    try dsimp only at h
    obtain rfl := zah h
    refine ⟨[(zaa false)], ⟨rfl, trivial⟩, ⟨_, rfl, hL11.done, ?_⟩⟩
    exact ⟨rfl, trivial⟩
   ·
    replace h := ite_f hc11 h
    refine zbg (zbt (zag rfl (zaf (zai (v := (zab .i64 i64)) rfl ?_))))
    refine zaf (zbz (x := i64) (y := 1) (z := (iw (i64 + 1))) rfl rfl rfl ?_)
    refine zaf (zak (v := (zab .i64 (iw (i64 + 1)))) rfl ?_)
    refine zan ?_
    obtain rfl := zah h
    refine zar ⟨(iw (i64 + 1)), rfl, ?_⟩
    exact ⟨_, (zds ⟨rfl, rfl, rfl, trivial⟩), hL11, (zaq K10 K11), trivial⟩
  ·
   replace h := ite_f hc10 h
   refine zco rfl ?_
   obtain rfl := zah h
   obtain rfl := hd10 _ rfl
   replace h := g10
   try dsimp only at h
   skip
   refine zar ?_
   exact ⟨_, rfl, (zds trivial), hL10, K10, trivial⟩
 ·
  rintro _ w12 ⟨u, rfl, rfl, hL12, K12, -⟩
  replace h := g10
  try dsimp only at h
  refine zaj (zag rfl (zaf (zak (v := (zaa true)) rfl ?_)))
  refine zan (zbi ?_)
  obtain rfl := zah h
  refine ⟨[(zaa true)], ⟨rfl, trivial⟩, ⟨_, rfl, hL12.done, ?_⟩⟩
  exact ⟨rfl, trivial⟩
theorem rbigs_w (N : Nat) (l : (List Big)) (l_v : Value) (w : World) (S : Nat → Prop) (l_h : Rs rBig (vH w S [] w) l_v l) (r : Bool) (h : rbigs N l = some r) :
  Calls Try.prog 43 #[l_v] w (Ret w (fun v w' => (zaa r) = v ∧ True)) := by
 unfold rbigs at h
 have hL : vL w w [] [] := Go.X.Loc.begin0 w
 refine calls_of (l := [l_v]) (rl := [.tmp 2]) (n := 20) Try.func43 rfl rfl rfl (zae rfl) ?_
 refine zaj (zag rfl (zaf (zak (v := (zaa false)) rfl ?_)))
 refine zan (zaj (zaj (zag rfl (zaf (zak (v := (zab .i64 0)) rfl ?_)))))
 refine zan ?_
 obtain ⟨s10, hl10, g10⟩ := zdn h
 refine zbu (fun e w' => ∃  (u : Env), (Sum.inl ()) = s10 ∧ e = upds [(0, l_v)] u ∧ vL w w' [] [] ∧ Keep w.heap.size [] w [] w' ∧ True) ?_ ?_
 ·
  refine zbh ?_
  refine zch hl10 (fun (ss : Int) (e : Env) (w' : World) => match ss with | i10 => ∃ (u : Env), e = upds [(0, l_v), (3, (zab .i64 i10))] u ∧ vL w w' [] [] ∧ Keep w.heap.size [] w [] w' ∧ True) ⟨_, (zds ⟨rfl, rfl, trivial⟩), hL, zbo, trivial⟩ ?_
  rintro i10 oo _ w10 ⟨u, rfl, hL10, K10, -⟩ h hd10
  rw [rbigs_b1] at h
  refine zaj (zaj (zag rfl (zaf (zai (v := (zab .i64 i10)) rfl ?_))))
  refine zaf (zai (v := l_v) rfl ?_)
  have f10 := (l_h.mono (K10 S))
  refine zaf (zbe (v := l_v) zba rfl f10 ?_)
  refine zaf (zck (x := i10) (y := (l.length : Int)) ((i10 : Int) < (l.length : Int)) rfl rfl zbk ?_)
  refine zan ?_
  refine zbd ((i10 : Int) < (l.length : Int)) rfl (fun hc10 => ?_) (fun hc10 => ?_)
  ·
   replace h := ite_t hc10 h
   refine zbg (zaj (zbh (zaj (zag rfl (zaf (zai (v := l_v) rfl ?_))))))
   refine zaf (zai (v := (zab .i64 i10)) rfl ?_)
   obtain ⟨x10, q10, h⟩ := zdn h
   obtain ⟨n10, q11, q12⟩ := zdt q10
   obtain ⟨b10, o10, c10, vs10, q13, q14, f11, q15⟩ := zcx f10 q12
   obtain ⟨v10, rfl, k10, -⟩ := rBig_open q15
   refine zaf (zbw (r := rBig) (v := l_v) (n := n10) (m := (o10 + n10 * rBig.sz)) zba ti26 rfl q13 rfl q11 q12 rfl ?_)
   have f12 := (f11.part (us := [v10]) 1 rfl)
   refine zaf (zas (q := (o10 + n10 * rBig.sz) + 1) zam rfl ti24 rfl rfl rfl ?_)
   refine zaf (zci (v := v10) zal rfl rfl zdx f12 ?_)
   refine zaf (zbe (v := v10) zal rfl k10 ?_)
   refine zaf (zdl (x := (x10.Digits.length : Int)) (y := 4) (((x10.Digits.length : Int) : Int) > 4) rfl rfl zbk ?_)
   refine zan ?_
   refine zbd (((x10.Digits.length : Int) : Int) > 4) rfl (fun hc11 => ?_) (fun hc11 => ?_)
   ·
    replace h := ite_t hc11 h
    refine zaj (zag rfl (zaf (zak (v := (zaa false)) rfl ?_)))
    refine zan (zbi ?_)
    obtain rfl := zah h
    obtain rfl := hd10 _ rfl
    replace h := g10
    try dsimp only at h
    obtain rfl := zah h
    refine ⟨[(zaa false)], ⟨rfl, trivial⟩, ⟨_, rfl, hL10.done, ?_⟩⟩
    exact ⟨rfl, trivial⟩
   ·
    replace h := ite_f hc11 h
    refine zbg (zbt (zag rfl (zaf (zai (v := (zab .i64 i10)) rfl ?_))))
    refine zaf (zbz (x := i10) (y := 1) (z := (iw (i10 + 1))) rfl rfl rfl ?_)
    refine zaf (zak (v := (zab .i64 (iw (i10 + 1)))) rfl ?_)
    refine zan ?_
    obtain rfl := zah h
    refine zar ⟨(iw (i10 + 1)), rfl, ?_⟩
    exact ⟨_, (zds ⟨rfl, rfl, trivial⟩), hL10, K10, trivial⟩
  ·
   replace h := ite_f hc10 h
   refine zco rfl ?_
   obtain rfl := zah h
   obtain rfl := hd10 _ rfl
   replace h := g10
   try dsimp only at h
   skip
   refine zar ?_
   exact ⟨_, rfl, (zds ⟨rfl, trivial⟩), hL10, K10, trivial⟩
 ·
  rintro _ w11 ⟨u, rfl, rfl, hL11, K11, -⟩
  replace h := g10
  try dsimp only at h
  refine zaj (zag rfl (zaf (zai (v := l_v) rfl ?_)))
  have f13 := (l_h.mono (K11 S))
  refine zaf (zbe (v := l_v) zba rfl f13 ?_)
  refine zaf (OpY.leq (x := (l.length : Int)) (y := 6) (((l.length : Int) : Int) ≤ 6) rfl rfl zbk ?_)
  refine zaf (zak (v := (zaa (decide (((l.length : Int) : Int) ≤ 6)))) rfl ?_)
  refine zan (zbi ?_)
  obtain rfl := zah h
  refine ⟨[(zaa (decide (((l.length : Int) : Int) ≤ 6)))], ⟨rfl, trivial⟩, ⟨_, rfl, hL11.done, ?_⟩⟩
  exact ⟨rfl, trivial⟩
theorem rSmall_w (N : Nat) (l : (List Ineq)) (l_v : Value) (w : World) (S : Nat → Prop) (l_h : Rs rIneq (vH w S [] w) l_v l) (r : Bool) (h : rSmall N l = some r) :
  Calls Try.prog 12 #[l_v] w (Ret w (fun v w' => (zaa r) = v ∧ True)) := by
 unfold rSmall at h
 have hL : vL w w [] [] := Go.X.Loc.begin0 w
 refine calls_of (l := [l_v]) (rl := [.tmp 2]) (n := 30) Try.func12 rfl rfl rfl (zae rfl) ?_
 refine zaj (zag rfl (zaf (zak (v := (zaa false)) rfl ?_)))
 refine zan (zaj (zaj (zag rfl (zaf (zak (v := (zab .i64 0)) rfl ?_)))))
 refine zan ?_
 obtain ⟨s10, hl10, g10⟩ := zdn h
 refine zbu (fun e w' => ∃  (u : Env), (Sum.inl ()) = s10 ∧ e = upds [(0, l_v)] u ∧ vL w w' [] [] ∧ Keep w.heap.size [] w [] w' ∧ True) ?_ ?_
 ·
  refine zbh ?_
  refine zch hl10 (fun (ss : Int) (e : Env) (w' : World) => match ss with | i10 => ∃ (u : Env), e = upds [(0, l_v), (3, (zab .i64 i10))] u ∧ vL w w' [] [] ∧ Keep w.heap.size [] w [] w' ∧ True) ⟨_, (zds ⟨rfl, rfl, trivial⟩), hL, zbo, trivial⟩ ?_
  rintro i10 oo _ w10 ⟨u, rfl, hL10, K10, -⟩ h hd10
  rw [rSmall_b1] at h
  refine zaj (zaj (zag rfl (zaf (zai (v := (zab .i64 i10)) rfl ?_))))
  refine zaf (zai (v := l_v) rfl ?_)
  have f10 := (l_h.mono (K10 S))
  refine zaf (zbe (v := l_v) zbj rfl f10 ?_)
  refine zaf (zck (x := i10) (y := (l.length : Int)) ((i10 : Int) < (l.length : Int)) rfl rfl zbk ?_)
  refine zan ?_
  refine zbd ((i10 : Int) < (l.length : Int)) rfl (fun hc10 => ?_) (fun hc10 => ?_)
  ·
   replace h := ite_t hc10 h
   refine zbg (zaj (zbh (zaj ?_)))
   obtain ⟨s11, h, g11⟩ := zdn h
   refine zbu (fun e w' => ∃ (x10 : Bool) (u : Env), x10 = s11 ∧ e = upds [(0, l_v), (3, (zab .i64 i10)), (26, (zaa x10))] u ∧ vL w w' [] [] ∧ Keep w.heap.size [] w10 [] w' ∧ True) ?_ ?_
   ·
    refine zag rfl (zaf (zai (v := l_v) rfl ?_))
    refine zaf (zai (v := (zab .i64 i10)) rfl ?_)
    obtain ⟨x11, q10, h⟩ := zdn h
    obtain ⟨n10, q11, q12⟩ := zdt q10
    obtain ⟨b10, o10, c10, vs10, q13, q14, f11, q15⟩ := zcx f10 q12
    obtain ⟨v10, v11, rfl, k10, k11, -⟩ := rIneq_open q15
    refine zaf (zbw (r := rIneq) (v := l_v) (n := n10) (m := (o10 + n10 * rIneq.sz)) zbj ti34 rfl q13 rfl q11 q12 rfl ?_)
    have f12 := (f11.part (us := [v10]) 0 rfl)
    refine zaf (zas (q := (o10 + n10 * rIneq.sz) + 0) zbf rfl ti32 rfl rfl rfl ?_)
    refine zaf (zci (v := v10) zba rfl rfl zdx f12 ?_)
    obtain ⟨r10, q16, h⟩ := zdn h
    refine zaf (zaw en43 rfl rfl (rbigs_w N x11.Coefs v10 _ Any (k10.mono vw_any) r10 q16) ?_)
    rintro _ w11 hE10 ⟨rfl, -⟩
    have hL11 := hL10.ext hE10
    have K11 := ke hL10 hE10
    refine zaf (OpY.not (x := r10) rfl ?_)
    refine zaf (zai (v := (zaa (!r10))) rfl ?_)
    by_cases hc11 : (!r10) = true
    ·
     replace h := ite_t hc11 h
     refine zbp rfl rfl hc11 ?_
     refine zbp rfl rfl hc11 ?_
     refine zbp rfl rfl hc11 ?_
     refine zbp rfl rfl hc11 ?_
     refine zbp rfl rfl hc11 ?_
     refine zbp rfl rfl hc11 ?_
     refine zbp rfl rfl hc11 ?_
     refine zbp rfl rfl hc11 ?_
     refine zaf (zcg (t := (!r10)) (v := (zaa true)) rfl hc11 rfl ?_)
     refine zan ?_
     obtain rfl := zah h
     refine zar ?_
     exact ⟨true, _, rfl, (zds ⟨rfl, rfl, rfl, trivial⟩), hL11, K11, trivial⟩
    ·
     replace h := ite_f hc11 h
     refine zbv rfl rfl (zdo hc11) (zai (v := l_v) rfl ?_)
     refine zbv rfl rfl (zdo hc11) (zai (v := (zab .i64 i10)) rfl ?_)
     obtain ⟨x12, q17, h⟩ := zdn h
     obtain ⟨n11, q18, q19⟩ := zdt q17
     have f13 := (f10.mono (K11 S))
     obtain ⟨b11, o11, c11, vs11, q20, q21, f14, q22⟩ := zcx f13 q19
     obtain ⟨v12, v13, rfl, k12, k13, -⟩ := rIneq_open q22
     refine zbv rfl rfl (zdo hc11) (zbw (r := rIneq) (v := l_v) (n := n11) (m := (o11 + n11 * rIneq.sz)) zbj ti34 rfl q20 rfl q18 q19 rfl ?_)
     have f15 := (f14.part (us := [(zaa x12.Bound.Negative), v13]) 1 rfl)
     refine zbv rfl rfl (zdo hc11) (zas (q := (o11 + n11 * rIneq.sz) + 1) zbf rfl ti26 rfl rfl rfl ?_)
     have f16 := (f15.part (us := [v13]) 1 rfl)
     refine zbv rfl rfl (zdo hc11) (zas (q := (o11 + n11 * rIneq.sz) + 1 + 1) zam rfl ti24 rfl rfl rfl ?_)
     refine zbv rfl rfl (zdo hc11) (zci (v := v13) zal rfl rfl zdx f16 ?_)
     refine zbv rfl rfl (zdo hc11) (zbe (v := v13) zal rfl k13 ?_)
     refine zbv rfl rfl (zdo hc11) (zdl (x := (x12.Bound.Digits.length : Int)) (y := 4) (((x12.Bound.Digits.length : Int) : Int) > 4) rfl rfl zbk ?_)
     refine zaf (zbx (t := (!r10)) (v := (zaa (decide (((x12.Bound.Digits.length : Int) : Int) > 4)))) rfl (zdo hc11) rfl ?_)
     refine zan ?_
     obtain rfl := zah h
     refine zar ?_
     exact ⟨(decide (((x12.Bound.Digits.length : Int) : Int) > 4)), _, rfl, (zds ⟨rfl, rfl, rfl, trivial⟩), hL11, K11, trivial⟩
   ·
    rintro _ w12 ⟨x10, u, rfl, rfl, hL12, K12, -⟩
    replace h := g11
    try dsimp only at h
    refine zcv x10 rfl (fun hc12 => ?_) (fun hc12 => ?_)
    ·
     replace h := ite_t hc12 h
     refine zaj (zag rfl (zaf (zak (v := (zaa false)) rfl ?_)))
     refine zan (zbi ?_)
     obtain rfl := zah h
     obtain rfl := hd10 _ rfl
     replace h := g10
     try dsimp only at h
     obtain rfl := zah h
     refine ⟨[(zaa false)], ⟨rfl, trivial⟩, ⟨_, rfl, hL12.done, ?_⟩⟩
     exact ⟨rfl, trivial⟩
    ·
     replace h := ite_f hc12 h
     refine zbg (zbt (zag rfl (zaf (zai (v := (zab .i64 i10)) rfl ?_))))
     refine zaf (zbz (x := i10) (y := 1) (z := (iw (i10 + 1))) rfl rfl rfl ?_)
     refine zaf (zak (v := (zab .i64 (iw (i10 + 1)))) rfl ?_)
     refine zan ?_
     obtain rfl := zah h
     refine zar ⟨(iw (i10 + 1)), rfl, ?_⟩
     exact ⟨_, (zds ⟨rfl, rfl, trivial⟩), hL12, (zaq K10 K12), trivial⟩
  ·
   replace h := ite_f hc10 h
   refine zco rfl ?_
   obtain rfl := zah h
   obtain rfl := hd10 _ rfl
   replace h := g10
   try dsimp only at h
   skip
   refine zar ?_
   exact ⟨_, rfl, (zds ⟨rfl, trivial⟩), hL10, K10, trivial⟩
 ·
  rintro _ w13 ⟨u, rfl, rfl, hL13, K13, -⟩
  replace h := g10
  try dsimp only at h
  refine zaj (zag rfl (zaf (zai (v := l_v) rfl ?_)))
  have f17 := (l_h.mono (K13 S))
  refine zaf (zbe (v := l_v) zbj rfl f17 ?_)
  refine zaf (OpY.leq (x := (l.length : Int)) (y := 12) (((l.length : Int) : Int) ≤ 12) rfl rfl zbk ?_)
  refine zaf (zak (v := (zaa (decide (((l.length : Int) : Int) ≤ 12)))) rfl ?_)
  refine zan (zbi ?_)
  obtain rfl := zah h
  refine ⟨[(zaa (decide (((l.length : Int) : Int) ≤ 12)))], ⟨rfl, trivial⟩, ⟨_, rfl, hL13.done, ?_⟩⟩
  exact ⟨rfl, trivial⟩
theorem rSmallStep_w (N : Nat) (s : Step) (s_v : Value) (s_v1 : Value) (w : World) (S : Nat → Prop) (s_h : Rs rUse (vH w S [] w) s_v s.Uses) (s_h1 : Rs (rInt .u32) (vH w S [] w) s_v1 s.Divisor.Digits) (r : Bool) (h : rSmallStep N s = some r) :
  Calls Try.prog 13 #[(zao #[s_v, (zaa s.Divisor.Negative), s_v1])] w (Ret w (fun v w' => (zaa r) = v ∧ True)) := by
 unfold rSmallStep at h
 have hL : vL w w [] [] := Go.X.Loc.begin0 w
 refine calls_of (l := [(zao #[s_v, (zaa s.Divisor.Negative), s_v1])]) (rl := [.tmp 2]) (n := 31) Try.func13 rfl rfl rfl (zae rfl) ?_
 refine zaj (zag rfl (zaf (zde (cs := [s_v, (zaa s.Divisor.Negative), s_v1]) rfl rfl hL ?_)))
 intro b1 w2 hL3 hS5
 have K4 := ks w hS5
 refine zaf (zak (v := (zaa false)) rfl ?_)
 refine zan (zaj (zaj (zag rfl (zaf (zak (v := (zab .i64 0)) rfl ?_)))))
 refine zan ?_
 obtain ⟨s10, hl10, g10⟩ := zdn h
 refine zbu (fun e w' => ∃  (u : Env), (Sum.inl ()) = s10 ∧ e = upds [(1, (zap (some ⟨b1, 0, none⟩)))] u ∧ vL w w' [some b1] [zac [s_v, (zaa s.Divisor.Negative), s_v1]] ∧ Keep w.heap.size [some b1] w2 [some b1] w' ∧ True) ?_ ?_
 ·
  refine zbh ?_
  refine zch hl10 (fun (ss : Int) (e : Env) (w' : World) => match ss with | i10 => ∃ (u : Env), e = upds [(1, (zap (some ⟨b1, 0, none⟩))), (3, (zab .i64 i10))] u ∧ vL w w' [some b1] [zac [s_v, (zaa s.Divisor.Negative), s_v1]] ∧ Keep w.heap.size [some b1] w2 [some b1] w' ∧ True) ⟨_, (zds ⟨rfl, rfl, trivial⟩), hL3, zbo, trivial⟩ ?_
  rintro i10 oo _ w10 ⟨u, rfl, hL10, K10, -⟩ h hd10
  rw [rSmallStep_b1] at h
  refine zaj (zaj (zag rfl (zaf (zai (v := (zab .i64 i10)) rfl ?_))))
  refine zaf (zas (q := 0) zcl rfl ti23 rfl rfl rfl ?_)
  refine zaf (zbb (v := s_v) zby rfl rfl (hL10.at 0 rfl rfl) rfl ?_)
  have f10 := ((s_h.mono (K4 S)).mono (K10 S))
  refine zaf (zbe (v := s_v) zby rfl f10 ?_)
  refine zaf (zck (x := i10) (y := (s.Uses.length : Int)) ((i10 : Int) < (s.Uses.length : Int)) rfl rfl zbk ?_)
  refine zan ?_
  refine zbd ((i10 : Int) < (s.Uses.length : Int)) rfl (fun hc10 => ?_) (fun hc10 => ?_)
  ·
   replace h := ite_t hc10 h
   refine zbg (zaj (zbh (zaj (zag rfl (zaf (zas (q := 0) zcl rfl ti23 rfl rfl rfl ?_))))))
   refine zaf (zbb (v := s_v) zby rfl rfl (hL10.at 0 rfl rfl) rfl ?_)
   refine zaf (zai (v := (zab .i64 i10)) rfl ?_)
   obtain ⟨x10, q10, h⟩ := zdn h
   obtain ⟨n10, q11, q12⟩ := zdt q10
   obtain ⟨b10, o10, c10, vs10, q13, q14, f11, q15⟩ := zcx f10 q12
   obtain ⟨v10, rfl, k10, -⟩ := rUse_open q15
   refine zaf (zbw (r := rUse) (v := s_v) (n := n10) (m := (o10 + n10 * rUse.sz)) zby ti50 rfl q13 rfl q11 q12 rfl ?_)
   have f12 := (f11.part (us := [(zaa x10.N.Negative), v10]) 1 rfl)
   refine zaf (zas (q := (o10 + n10 * rUse.sz) + 1) zcu rfl ti26 rfl rfl rfl ?_)
   have f13 := (f12.part (us := [v10]) 1 rfl)
   refine zaf (zas (q := (o10 + n10 * rUse.sz) + 1 + 1) zam rfl ti24 rfl rfl rfl ?_)
   refine zaf (zci (v := v10) zal rfl rfl zdx f13 ?_)
   refine zaf (zbe (v := v10) zal rfl k10 ?_)
   refine zaf (zdl (x := (x10.N.Digits.length : Int)) (y := 4) (((x10.N.Digits.length : Int) : Int) > 4) rfl rfl zbk ?_)
   refine zan ?_
   refine zbd (((x10.N.Digits.length : Int) : Int) > 4) rfl (fun hc11 => ?_) (fun hc11 => ?_)
   ·
    replace h := ite_t hc11 h
    refine zaj (zag rfl (zaf (zak (v := (zaa false)) rfl ?_)))
    refine zan (zbi ?_)
    obtain rfl := zah h
    obtain rfl := hd10 _ rfl
    replace h := g10
    try dsimp only at h
    obtain rfl := zah h
    refine ⟨[(zaa false)], ⟨rfl, trivial⟩, ⟨_, rfl, hL10.done, ?_⟩⟩
    exact ⟨rfl, trivial⟩
   ·
    replace h := ite_f hc11 h
    refine zbg (zbt (zag rfl (zaf (zai (v := (zab .i64 i10)) rfl ?_))))
    refine zaf (zbz (x := i10) (y := 1) (z := (iw (i10 + 1))) rfl rfl rfl ?_)
    refine zaf (zak (v := (zab .i64 (iw (i10 + 1)))) rfl ?_)
    refine zan ?_
    obtain rfl := zah h
    refine zar ⟨(iw (i10 + 1)), rfl, ?_⟩
    exact ⟨_, (zds ⟨rfl, rfl, trivial⟩), hL10, K10, trivial⟩
  ·
   replace h := ite_f hc10 h
   refine zco rfl ?_
   obtain rfl := zah h
   obtain rfl := hd10 _ rfl
   replace h := g10
   try dsimp only at h
   skip
   refine zar ?_
   exact ⟨_, rfl, (zds ⟨rfl, trivial⟩), hL10, K10, trivial⟩
 ·
  rintro _ w11 ⟨u, rfl, rfl, hL11, K11, -⟩
  replace h := g10
  try dsimp only at h
  refine zaj (zag rfl (zaf (zas (q := 0) zcl rfl ti23 rfl rfl rfl ?_)))
  refine zaf (zbb (v := s_v) zby rfl rfl (hL11.at 0 rfl rfl) rfl ?_)
  have f14 := ((s_h.mono (K4 S)).mono (K11 S))
  refine zaf (zbe (v := s_v) zby rfl f14 ?_)
  refine zaf (OpY.leq (x := (s.Uses.length : Int)) (y := 12) (((s.Uses.length : Int) : Int) ≤ 12) rfl rfl zbk ?_)
  refine zaf (zai (v := (zaa (decide (((s.Uses.length : Int) : Int) ≤ 12)))) rfl ?_)
  by_cases hc12 : ((s.Uses.length : Int) : Int) ≤ 12
  ·
   replace h := ite_t hc12 h
   refine zbv rfl rfl (zdr hc12) (zas (q := 1) zcl rfl ti26 rfl rfl rfl ?_)
   refine zbv rfl rfl (zdr hc12) (zas (q := 2) zam rfl ti24 rfl rfl rfl ?_)
   refine zbv rfl rfl (zdr hc12) (zbb (v := s_v1) zal rfl rfl (hL11.at 0 rfl rfl) rfl ?_)
   have f15 := ((s_h1.mono (K4 S)).mono (K11 S))
   refine zbv rfl rfl (zdr hc12) (zbe (v := s_v1) zal rfl f15 ?_)
   refine zbv rfl rfl (zdr hc12) (OpY.leq (x := (s.Divisor.Digits.length : Int)) (y := 4) (((s.Divisor.Digits.length : Int) : Int) ≤ 4) rfl rfl zbk ?_)
   refine zaf (zcg (t := (decide (((s.Uses.length : Int) : Int) ≤ 12))) (v := (zaa (decide (((s.Divisor.Digits.length : Int) : Int) ≤ 4)))) rfl (zdr hc12) rfl ?_)
   refine zaf (zak (v := (zaa (decide (((s.Divisor.Digits.length : Int) : Int) ≤ 4)))) rfl ?_)
   refine zan (zbi ?_)
   obtain rfl := zah h
   refine ⟨[(zaa (decide (((s.Divisor.Digits.length : Int) : Int) ≤ 4)))], ⟨rfl, trivial⟩, ⟨_, rfl, hL11.done, ?_⟩⟩
   exact ⟨rfl, trivial⟩
  ·
   replace h := ite_f hc12 h
   refine zbp rfl rfl (zdp hc12) ?_
   refine zbp rfl rfl (zdp hc12) ?_
   refine zbp rfl rfl (zdp hc12) ?_
   refine zbp rfl rfl (zdp hc12) ?_
   refine zbp rfl rfl (zdp hc12) ?_
   refine zaf (zbx (t := (decide (((s.Uses.length : Int) : Int) ≤ 12))) (v := (zaa false)) rfl (zdp hc12) rfl ?_)
   refine zaf (zak (v := (zaa false)) rfl ?_)
   refine zan (zbi ?_)
   obtain rfl := zah h
   refine ⟨[(zaa false)], ⟨rfl, trivial⟩, ⟨_, rfl, hL11.done, ?_⟩⟩
   exact ⟨rfl, trivial⟩
end Go.Proofs.Ytakkacdhlocckaa.WD

/- Walks, written by a program of mine (wip/tool); the kernel checks them. -/
import Derived.Test.YtcakdidcpoolcaaGreatDoorProg
import Derived.Test.YtcakdidcpoolcaaGreatDoorSqText
import Derived.Test.YtcakdidcpoolcaaGreatDoorBl25
import Derived.Test.YtcakdidcpoolcaaGreatDoorF25
import Derived.Test.YtcakdidcpoolcaaGreatDoorPU
import Derived.Test.YtcakdidcpoolcaaGreatDoorWAText
import Derived.Test.YtcakdidcpoolcaaGreatDoorWRText
import Derived.Test.YtcakdidcpoolcaaGreatDoorWBText
import Derived.Test.YtcakdidcpoolcaaGreatDoorWCText
import Derived.Test.YtcakdidcpoolcaaGreatDoorWDText
import Derived.Test.YtcakdidcpoolcaaGreatDoorWIText
import Derived.Test.YtcakdidcpoolcaaGreatDoorWVText
set_option maxRecDepth 100000
set_option maxHeartbeats 40000000
set_option linter.unusedVariables false
set_option linter.unusedSimpArgs false
namespace Go.Proofs.YtcakdidcpoolcaaGreatDoor.WU
open Go Go.RowKit Go.X Go.D Go.Proofs.YtcakdidcpoolcaaGreatDoor.WF Go.Proofs.YtcakdidcpoolcaaGreatDoor.WA Go.Proofs.YtcakdidcpoolcaaGreatDoor.WR Go.Proofs.YtcakdidcpoolcaaGreatDoor.WB Go.Proofs.YtcakdidcpoolcaaGreatDoor.WC Go.Proofs.YtcakdidcpoolcaaGreatDoor.WD Go.Proofs.YtcakdidcpoolcaaGreatDoor.WI Go.Proofs.YtcakdidcpoolcaaGreatDoor.WV
theorem en32 : Go.X.Enters Tryz.prog 32 := ⟨Tryz.f32, Tryz.func32, by kernel_rfl, by kernel_rfl⟩
theorem en52 : Go.X.Enters Tryz.prog 52 := ⟨Tryz.f52, Tryz.func52, by kernel_rfl, by kernel_rfl⟩
theorem en105 : Go.X.Enters Tryz.prog 105 := ⟨Tryz.f105, Tryz.func105, by kernel_rfl, by kernel_rfl⟩
theorem en70 : Go.X.Enters Tryz.prog 70 := ⟨Tryz.f70, Tryz.func70, by kernel_rfl, by kernel_rfl⟩
theorem en34 : Go.X.Enters Tryz.prog 34 := ⟨Tryz.f34, Tryz.func34, by kernel_rfl, by kernel_rfl⟩
theorem en90 : Go.X.Enters Tryz.prog 90 := ⟨Tryz.f90, Tryz.func90, by kernel_rfl, by kernel_rfl⟩
theorem en59 : Go.X.Enters Tryz.prog 59 := ⟨Tryz.f59, Tryz.func59, by kernel_rfl, by kernel_rfl⟩
theorem wSize_w (N : Nat) : ∀ (pa : Refut) (pa_v : Value) (pa_v1 : Value) (pa_v2 : Value) (pa_v3 : Value) (pa_v4 : Value) (w : World) (S : Nat → Prop) (pa_h : Rs rStep (vH w S [] w) pa_v pa.Proof.Steps) (pa_h1 : Rs rBig (vH w S [] w) pa_v1 pa.Proof.Form) (pa_h2 : Rs (rInt .u32) (vH w S [] w) pa_v2 pa.Proof.Bound.Digits) (pa_h3 : Rs rProof (vH w S [] w) pa_v3 pa.Proof.Children) (pa_h4 : Rs rRefut (vH w S [] w) pa_v4 pa.Children) (r : Int) (h : wSize N pa = some r), Calls Tryz.prog 32 #[(zap #[(zI pa.Kind), (zI pa.Var), (zI pa.At), pa_v, pa_v1, (zab pa.Proof.Bound.Negative), pa_v2, pa_v3, pa_v4])] w (Ret w (fun v w' => (zI r) = v ∧ True)) := by
 induction N with
 | zero => intro pa pa_v pa_v1 pa_v2 pa_v3 pa_v4 w S pa_h pa_h1 pa_h2 pa_h3 pa_h4 r h; cases (show (none : Option Int) = some r from h)
 | succ N ih =>
  intro pa pa_v pa_v1 pa_v2 pa_v3 pa_v4 w S pa_h pa_h1 pa_h2 pa_h3 pa_h4 r h
  replace h : wSize_step N (wSize N) pa = some r := h
  unfold wSize_step at h
  have hL : vL w w [] [] := Go.X.Loc.begin0 w
  refine calls_of (l := [(zap #[(zI pa.Kind), (zI pa.Var), (zI pa.At), pa_v, pa_v1, (zab pa.Proof.Bound.Negative), pa_v2, pa_v3, pa_v4])]) (rl := [.tmp 2]) (n := 34) Tryz.func32 rfl rfl rfl (zae rfl) ?_
  refine zaj (zaf rfl (zag (zdj (cs := [(zI pa.Kind), (zI pa.Var), (zI pa.At), pa_v, pa_v1, (zab pa.Proof.Bound.Negative), pa_v2, pa_v3, pa_v4]) rfl rfl hL ?_)))
  intro b1 w2 hL3 hS5
  have K4 := ks w hS5
  refine zag (zak (v := (zI 0)) rfl ?_)
  refine zan (zaj (zaf rfl (zag (zak (v := (zI 1)) rfl ?_))))
  refine zan (zaj (zaj (zaf rfl (zag (zam (q := 0) zaz rfl ti3 rfl rfl rfl ?_)))))
  refine zag (zau (v := (zI pa.Kind)) zax rfl rfl (hL3.at 0 rfl rfl) rfl ?_)
  refine zag (zdp (x := pa.Kind) (y := 2) ((pa.Kind : Int) = 2) rfl rfl zbd (zan ?_))
  obtain ⟨s10, h, g10⟩ := zec h
  refine zbs (fun e w' => ∃ (n10 : Int) (u : Env), n10 = s10 ∧ e = upds [(1, (zal (some ⟨b1, 0, none⟩))), (3, (zI n10))] u ∧ vL w w' [some b1] [zac [(zI pa.Kind), (zI pa.Var), (zI pa.At), pa_v, pa_v1, (zab pa.Proof.Bound.Negative), pa_v2, pa_v3, pa_v4]] ∧ Keep w.heap.size [some b1] w2 [some b1] w' ∧ True) ?_ ?_
  ·
   refine zba ((pa.Kind : Int) = 2) rfl (fun hc10 => ?_) (fun hc10 => ?_)
   ·
    replace h := ite_t hc10 h
    refine zaf rfl (zag (zai (v := (zI 1)) rfl ?_))
    refine zag (zam (q := 3) zaz rfl ti70 rfl rfl rfl ?_)
    refine zag (zbj (vs := [pa_v, pa_v1, (zab pa.Proof.Bound.Negative), pa_v2, pa_v3]) zbk rfl ti70 rfl (hL3.at 0 rfl rfl) rfl rfl ?_)
    obtain ⟨r10, q10, h⟩ := zec h
    have f10 := (pa_h.mono (K4 S))
    have f11 := (pa_h1.mono (K4 S))
    have f12 := (pa_h2.mono (K4 S))
    have f13 := (pa_h3.mono (K4 S))
    refine zag (zay en66 rfl rfl (rSize_w N pa.Proof pa_v pa_v1 pa_v2 pa_v3 _ Any (f10.mono vw_any) (f11.mono vw_any) (f12.mono vw_any) (f13.mono vw_any) r10 q10) ?_)
    rintro _ w10 hE10 ⟨rfl, -⟩
    obtain ⟨hL10, K10⟩ := zl hL3 hE10
    refine zag (zbz (x := 1) (y := r10) (z := (iw (1 + r10))) rfl rfl rfl ?_)
    refine zag (zak (v := (zI (iw (1 + r10)))) rfl (zan ?_))
    obtain rfl := zah h
    refine zaq ?_
    exact ⟨(iw (1 + r10)), _, rfl, (zeg ⟨rfl, rfl, trivial⟩), hL10, K10, trivial⟩
   replace h := ite_f hc10 h
   refine zbf ?_
   obtain rfl := zah h
   refine zaq ?_
   exact ⟨1, _, rfl, (zeg ⟨rfl, rfl, trivial⟩), hL3, zbq, trivial⟩
  rintro _ w11 ⟨n10, u, rfl, rfl, hL11, K11, -⟩
  replace h := g10
  try dsimp only at h
  refine zaj (zaj (zaf rfl (zag (zak (v := (zI 0)) rfl (zan ?_)))))
  obtain ⟨s11, hl10, g11⟩ := zec h
  refine zbs (fun e w' => ∃ (n11 : Int) (u : Env), n11 = s11 ∧ e = upds [(3, (zI n11))] u ∧ vL w w' [] [] ∧ Keep w.heap.size [some b1] w11 [] w' ∧ True) ?_ ?_
  ·
   refine zbb ?_
   refine zcb hl10 (fun (ss : (Int × Int)) (e : Env) (w' : World) => match ss with | (n12, i10) => ∃ (u : Env), e = upds [(1, (zal (some ⟨b1, 0, none⟩))), (3, (zI n12)), (4, (zI i10))] u ∧ vL w w' [some b1] [zac [(zI pa.Kind), (zI pa.Var), (zI pa.At), pa_v, pa_v1, (zab pa.Proof.Bound.Negative), pa_v2, pa_v3, pa_v4]] ∧ Keep w.heap.size [some b1] w11 [some b1] w' ∧ True) ⟨_, (zeg ⟨rfl, rfl, rfl, trivial⟩), hL11, zbq, trivial⟩ ?_
   rintro ⟨n12, i10⟩ oo _ w12 ⟨u, rfl, hL12, K12, -⟩ h hd10
   rw [wSize_b1] at h
   refine zaj (zaj ?_)
   obtain ⟨s12, h, g12⟩ := zec h
   refine zbs (fun e w' => ∃ (x10 : Bool) (u : Env), x10 = s12 ∧ e = upds [(1, (zal (some ⟨b1, 0, none⟩))), (3, (zI n12)), (4, (zI i10)), (22, (zab x10))] u ∧ vL w w' [some b1] [zac [(zI pa.Kind), (zI pa.Var), (zI pa.At), pa_v, pa_v1, (zab pa.Proof.Bound.Negative), pa_v2, pa_v3, pa_v4]] ∧ Keep w.heap.size [some b1] w12 [some b1] w' ∧ True) ?_ ?_
   ·
    refine zaf rfl (zag (zai (v := (zI i10)) rfl ?_))
    refine zag (zam (q := 8) zaz rfl ti71 rfl rfl rfl ?_)
    refine zag (zau (v := pa_v4) zby rfl rfl (hL12.at 0 rfl rfl) rfl ?_)
    have f14 := (((pa_h4.mono (K4 S)).mono (K11 S)).mono (K12 S))
    refine zag (zbc (v := pa_v4) zby rfl f14 ?_)
    refine zag (zci (x := i10) (y := (pa.Children.length : Int)) ((i10 : Int) < (pa.Children.length : Int)) rfl rfl zbd ?_)
    refine zag (zai (v := (zab (decide ((i10 : Int) < (pa.Children.length : Int))))) rfl ?_)
    by_cases hc11 : (i10 : Int) < (pa.Children.length : Int)
    ·
     replace h := ite_t hc11 h
     refine zbt rfl rfl (zef hc11) (zam (q := 0) zaz rfl ti3 rfl rfl rfl ?_)
     refine zbt rfl rfl (zef hc11) (zau (v := (zI pa.Kind)) zax rfl rfl (hL12.at 0 rfl rfl) rfl ?_)
     refine zbt rfl rfl (zef hc11) (zdp (x := pa.Kind) (y := 3) ((pa.Kind : Int) = 3) rfl rfl zbd ?_)
     refine zag (zce (t := (decide ((i10 : Int) < (pa.Children.length : Int)))) (v := (zab (decide ((pa.Kind : Int) = 3)))) rfl (zef hc11) rfl (zan ?_))
     obtain rfl := zah h
     refine zaq ?_
     exact ⟨(decide ((pa.Kind : Int) = 3)), _, rfl, (zeg ⟨rfl, rfl, rfl, rfl, trivial⟩), hL12, zbq, trivial⟩
    replace h := ite_f hc11 h
    refine zcl rfl rfl (zed hc11) (zcl rfl rfl (zed hc11) (zcl rfl rfl (zed hc11) ?_))
    refine zag (zcv (t := (decide ((i10 : Int) < (pa.Children.length : Int)))) (v := zF) rfl (zed hc11) rfl (zan ?_))
    obtain rfl := zah h
    refine zaq ?_
    exact ⟨false, _, rfl, (zeg ⟨rfl, rfl, rfl, rfl, trivial⟩), hL12, zbq, trivial⟩
   rintro _ w13 ⟨x10, u, rfl, rfl, hL13, K13, -⟩
   replace h := g12
   try dsimp only at h
   refine zcq x10 rfl (fun hc12 => ?_) (fun hc12 => ?_)
   ·
    replace h := ite_t hc12 h
    refine zbf (zaj (zbb (zaf rfl (zag (zai (v := (zI n12)) rfl ?_)))))
    refine zag (zam (q := 8) zaz rfl ti71 rfl rfl rfl ?_)
    refine zag (zau (v := pa_v4) zby rfl rfl (hL13.at 0 rfl rfl) rfl ?_)
    refine zag (zai (v := (zI i10)) rfl ?_)
    obtain ⟨x11, n13, q12, q13, -, h⟩ := zix h
    have f15 := ((((pa_h4.mono (K4 S)).mono (K11 S)).mono (K12 S)).mono (K13 S))
    obtain ⟨b10, o10, c10, vs10, q14, q15, f16, q16⟩ := zcw f15 q13
    obtain ⟨v10, v11, v12, v13, v14, rfl, k10, k11, k12, k13, k14, -⟩ := rRefut_open q16
    refine zag (zbp (r := rRefut) (v := pa_v4) (n := n13) (m := (o10 + n13 * rRefut.sz)) zby ti73 rfl q14 rfl q12 q13 rfl ?_)
    refine zag (zdl (vs := [(zI x11.Kind), (zI x11.Var), (zI x11.At), v10, v11, (zab x11.Proof.Bound.Negative), v12, v13, v14]) zaz rfl ti73 rfl rfl zek f16 ?_)
    obtain ⟨r11, q17, h⟩ := zec h
    refine zag (zay en32 rfl rfl (ih x11 v10 v11 v12 v13 v14 _ Any (k10.mono vw_any) (k11.mono vw_any) (k12.mono vw_any) (k13.mono vw_any) (k14.mono vw_any) r11 q17) ?_)
    rintro _ w14 hE11 ⟨rfl, -⟩
    obtain ⟨hL14, K14⟩ := zl hL13 hE11
    refine zag (zbz (x := n12) (y := r11) (z := (iw (n12 + r11))) rfl rfl rfl ?_)
    refine zag (zak (v := (zI (iw (n12 + r11)))) rfl ?_)
    refine zan (zbn (zaf rfl (zag (zai (v := (zI i10)) rfl ?_))))
    refine zag (zbz (x := i10) (y := 1) (z := (iw (i10 + 1))) rfl rfl rfl ?_)
    refine zag (zak (v := (zI (iw (i10 + 1)))) rfl (zan ?_))
    obtain rfl := zah h
    refine zaq ⟨((iw (n12 + r11)), (iw (i10 + 1))), rfl, ?_⟩
    exact ⟨_, (zeg ⟨rfl, rfl, rfl, trivial⟩), hL14, (zao (zao K12 K13) K14), trivial⟩
   replace h := ite_f hc12 h
   refine zck rfl ?_
   have hp10 := hL13.pick [] rfl rfl rfl
   have hL15 : vL w w13 [] [] := hp10.1
   have K15 := ks w hp10.2
   obtain rfl := zah h
   obtain rfl := hd10 _ rfl
   replace h := g11
   try dsimp only at h
   refine zaq ?_
   exact ⟨n12, _, rfl, (zeg zrt), hL15, (zao (zao K12 K13) K15), trivial⟩
  rintro _ w15 ⟨n11, u, rfl, rfl, hL16, K16, -⟩
  replace h := g11
  try dsimp only at h
  refine zaj (zaf rfl (zag (zai (v := (zI n11)) rfl ?_)))
  refine zag (zak (v := (zI n11)) rfl ?_)
  refine zan (zbi ?_)
  obtain rfl := zah h
  refine ⟨[(zI n11)], zrt, ⟨_, rfl, hL16.done, ?_⟩⟩
  exact zrt
theorem wnumber_w (N : Nat) (n : Int)  (w : World) (S : Nat → Prop)  (r : (List UInt8)) (h : wnumber N n = some r) :
  Calls Tryz.prog 70 #[(zI n)] w (Ret w (fun v w' => (zS r) = v ∧ True)) := by
 unfold wnumber at h
 have hL : vL w w [] [] := Go.X.Loc.begin0 w
 refine calls_of (l := [(zI n)]) (rl := [.tmp 2]) (n := 6) Tryz.func70 rfl rfl rfl (zae rfl) ?_
 refine zaj (zaf rfl (zag (zak (v := (zS ([] : List UInt8))) rfl ?_)))
 refine zan (zaj (zaf rfl (zag (zai (v := (zI n)) rfl ?_))))
 obtain ⟨r1, q2, h⟩ := zec h
 refine zag (zay en52 rfl rfl (rOf_w N n _ Any r1 q2) ?_)
 rintro _ w6 hE9 ⟨v3, rfl, k4, -⟩
 replace k4 := k4.mono (zbu (S := None) hL [])
 have hL7 := hL.ext hE9
 obtain ⟨r10, q10, h⟩ := zec h
 refine zag (zay en105 rfl rfl (rText_w N r1 v3 _ Any (k4.mono vw_any) r10 q10) ?_)
 rintro _ w10 hE10 ⟨rfl, -⟩
 have hL10 := hL7.ext hE10
 refine zag (zak (v := (zS r10)) rfl ?_)
 refine zan (zbi ?_)
 obtain rfl := zah h
 refine ⟨[(zS r10)], zrt, ⟨_, rfl, hL10.done, ?_⟩⟩
 exact zrt
theorem wFormat_w (N : Nat) : ∀ (pa : Refut) (pa_v : Value) (pa_v1 : Value) (pa_v2 : Value) (pa_v3 : Value) (pa_v4 : Value) (w : World) (S : Nat → Prop) (pa_h : Rs rStep (vH w S [] w) pa_v pa.Proof.Steps) (pa_h1 : Rs rBig (vH w S [] w) pa_v1 pa.Proof.Form) (pa_h2 : Rs (rInt .u32) (vH w S [] w) pa_v2 pa.Proof.Bound.Digits) (pa_h3 : Rs rProof (vH w S [] w) pa_v3 pa.Proof.Children) (pa_h4 : Rs rRefut (vH w S [] w) pa_v4 pa.Children) (r : (List UInt8)) (h : wFormat N pa = some r), Calls Tryz.prog 34 #[(zap #[(zI pa.Kind), (zI pa.Var), (zI pa.At), pa_v, pa_v1, (zab pa.Proof.Bound.Negative), pa_v2, pa_v3, pa_v4])] w (Ret w (fun v w' => (zS r) = v ∧ True)) := by
 induction N with
 | zero => intro pa pa_v pa_v1 pa_v2 pa_v3 pa_v4 w S pa_h pa_h1 pa_h2 pa_h3 pa_h4 r h; cases (show (none : Option (List UInt8)) = some r from h)
 | succ N ih =>
  intro pa pa_v pa_v1 pa_v2 pa_v3 pa_v4 w S pa_h pa_h1 pa_h2 pa_h3 pa_h4 r h
  replace h : wFormat_step N (wFormat N) pa = some r := h
  unfold wFormat_step at h
  have hL : vL w w [] [] := Go.X.Loc.begin0 w
  refine calls_of (l := [(zap #[(zI pa.Kind), (zI pa.Var), (zI pa.At), pa_v, pa_v1, (zab pa.Proof.Bound.Negative), pa_v2, pa_v3, pa_v4])]) (rl := [.tmp 2]) (n := 51) Tryz.func34 rfl rfl rfl (zae rfl) ?_
  refine zaj (zaf rfl (zag (zdj (cs := [(zI pa.Kind), (zI pa.Var), (zI pa.At), pa_v, pa_v1, (zab pa.Proof.Bound.Negative), pa_v2, pa_v3, pa_v4]) rfl rfl hL ?_)))
  intro b1 w2 hL3 hS5
  have K4 := ks w hS5
  refine zag (zak (v := (zS ([] : List UInt8))) rfl ?_)
  refine zan (zaj (zaj (zaf rfl (zag (zam (q := 0) zaz rfl ti3 rfl rfl rfl ?_)))))
  refine zag (zau (v := (zI pa.Kind)) zax rfl rfl (hL3.at 0 rfl rfl) rfl ?_)
  refine zan (zbb (zaj (zaf rfl (zag (zdp (x := pa.Kind) (y := 0) ((pa.Kind : Int) = 0) rfl rfl zbd ?_)))))
  refine zag (zak (v := (zab (decide ((pa.Kind : Int) = 0)))) rfl (zan ?_))
  refine zba ((pa.Kind : Int) = 0) rfl (fun hc6 => ?_) (fun hc6 => ?_)
  ·
   replace h := ite_t hc6 h
   refine zaj (zaf rfl (zag (zam (q := 1) zaz rfl ti3 rfl rfl rfl ?_)))
   refine zag (zau (v := (zI pa.Var)) zax rfl rfl (hL3.at 0 rfl rfl) rfl ?_)
   obtain ⟨r7, q8, h⟩ := zec h
   refine zag (zay en70 rfl rfl (wnumber_w N pa.Var _ Any r7 q8) ?_)
   rintro _ w10 hE10 ⟨rfl, -⟩
   have hL10 := hL3.ext hE10
   obtain ⟨u10, q10, h⟩ := zec h
   have q11 := zer q10
   refine zag (zdy (x := ([110, 117, 108, 108, 32, 120] : List UInt8)) (y := r7) rfl rfl q11 ?_)
   refine zag (zak (v := (zbe (s8 (([110, 117, 108, 108, 32, 120] : List UInt8) ++ r7)))) rfl ?_)
   refine zan (zbi ?_)
   obtain rfl := zah h
   refine ⟨[(zbe (s8 (([110, 117, 108, 108, 32, 120] : List UInt8) ++ r7)))], zrt, ⟨_, rfl, hL10.done, ?_⟩⟩
   exact zrt
  replace h := ite_f hc6 h
  refine zaj (zaf rfl (zag (zdp (x := pa.Kind) (y := 1) ((pa.Kind : Int) = 1) rfl rfl zbd ?_)))
  refine zag (zak (v := (zab (decide ((pa.Kind : Int) = 1)))) rfl (zan ?_))
  refine zba ((pa.Kind : Int) = 1) rfl (fun hc10 => ?_) (fun hc10 => ?_)
  ·
   replace h := ite_t hc10 h
   refine zaj (zaf rfl (zag (zak (v := (zS ([116, 101, 120, 116] : List UInt8))) rfl ?_)))
   refine zan (zbi ?_)
   obtain rfl := zah h
   refine ⟨[(zS ([116, 101, 120, 116] : List UInt8))], zrt, ⟨_, rfl, hL3.done, ?_⟩⟩
   exact zrt
  replace h := ite_f hc10 h
  refine zaj (zaf rfl (zag (zdp (x := pa.Kind) (y := 2) ((pa.Kind : Int) = 2) rfl rfl zbd ?_)))
  refine zag (zak (v := (zab (decide ((pa.Kind : Int) = 2)))) rfl (zan ?_))
  refine zba ((pa.Kind : Int) = 2) rfl (fun hc11 => ?_) (fun hc11 => ?_)
  ·
   replace h := ite_t hc11 h
   refine zaj (zaf rfl (zag (zam (q := 3) zaz rfl ti70 rfl rfl rfl ?_)))
   refine zag (zbj (vs := [pa_v, pa_v1, (zab pa.Proof.Bound.Negative), pa_v2, pa_v3]) zbk rfl ti70 rfl (hL3.at 0 rfl rfl) rfl rfl ?_)
   obtain ⟨r10, q12, h⟩ := zec h
   have f10 := (pa_h.mono (K4 S))
   have f11 := (pa_h1.mono (K4 S))
   have f12 := (pa_h2.mono (K4 S))
   have f13 := (pa_h3.mono (K4 S))
   refine zag (zay en66 rfl rfl (rSize_w N pa.Proof pa_v pa_v1 pa_v2 pa_v3 _ Any (f10.mono vw_any) (f11.mono vw_any) (f12.mono vw_any) (f13.mono vw_any) r10 q12) ?_)
   rintro _ w11 hE11 ⟨rfl, -⟩
   have hL11 := hL3.ext hE11
   obtain ⟨r11, q13, h⟩ := zec h
   refine zag (zay en70 rfl rfl (wnumber_w N r10 _ Any r11 q13) ?_)
   rintro _ w12 hE12 ⟨rfl, -⟩
   have hL12 := hL11.ext hE12
   obtain ⟨u11, q14, h⟩ := zec h
   have q15 := zer q14
   refine zag (zdy (x := ([105, 110, 116, 101, 103, 101, 114, 115, 32] : List UInt8)) (y := r11) rfl rfl q15 ?_)
   refine zag (zak (v := (zbe (s8 (([105, 110, 116, 101, 103, 101, 114, 115, 32] : List UInt8) ++ r11)))) rfl ?_)
   refine zan (zbi ?_)
   obtain rfl := zah h
   refine ⟨[(zbe (s8 (([105, 110, 116, 101, 103, 101, 114, 115, 32] : List UInt8) ++ r11)))], zrt, ⟨_, rfl, hL12.done, ?_⟩⟩
   exact zrt
  replace h := ite_f hc11 h
  refine zaj (zaf rfl (zag (zdp (x := pa.Kind) (y := 3) ((pa.Kind : Int) = 3) rfl rfl zbd ?_)))
  refine zag (zak (v := (zab (decide ((pa.Kind : Int) = 3)))) rfl (zan ?_))
  refine zba ((pa.Kind : Int) = 3) rfl (fun hc12 => ?_) (fun hc12 => ?_)
  ·
   replace h := ite_t hc12 h
   refine zaj ?_
   obtain ⟨r12, q16, h⟩ := zec h
   obtain ⟨u12, q17, h⟩ := zec h
   have q18 := zer q17
   obtain ⟨u13, q19, h⟩ := zec h
   have q20 := zer q19
   obtain ⟨r13, q21, h⟩ := zec h
   refine zcj 8 [] [] (fun W1 => [.det (zal (some ⟨b1, 1, none⟩)), .det (zI pa.Var), .det (zS r12), .det (zbe (s8 (([108, 101, 110, 103, 116, 104, 32, 120] : List UInt8) ++ r12))), .det (zbe (s8 ((([108, 101, 110, 103, 116, 104, 32, 120] : List UInt8) ++ r12) ++ ([32, 60, 61, 32] : List UInt8)))), .det (zal (some ⟨b1, 2, none⟩)), .det (zI pa.At), .det (zS r13)]) mixed rfl rfl rfl (fun _ => rfl) (fun _ => rfl) ?_ ?_
   ·
    intro W1 _
    exact trivial
   intro w13 hE13
   obtain ⟨hL13, K10⟩ := zl hL3 hE13
   refine zat (fun _ _ => zaw (zam zaz rfl ti3 rfl rfl rfl (er rfl))) ?_
   refine zat (fun _ hE15 => zaw (zau zax rfl rfl ((hL13.ext hE15).at 0 rfl rfl) rfl (er rfl))) ?_
   refine DrH.det ?_ ?_
   ·
    rintro w16 Z21 hE16 hZ12 ⟨-⟩
    refine zaw (zay en70 rfl rfl (wnumber_w N pa.Var _ Any r12 q16) ?_)
    rintro _ w17 hE17 ⟨rfl, -⟩
    exact ⟨hE17, rfl⟩
   refine zat (fun _ _ => zaw (zdy (x := ([108, 101, 110, 103, 116, 104, 32, 120] : List UInt8)) (y := r12) rfl rfl q18 (er rfl))) ?_
   refine zat (fun _ _ => zaw (zdy (x := (([108, 101, 110, 103, 116, 104, 32, 120] : List UInt8) ++ r12)) (y := ([32, 60, 61, 32] : List UInt8)) rfl rfl q20 (er rfl))) ?_
   refine zat (fun _ _ => zaw (zam zaz rfl ti3 rfl rfl rfl (er rfl))) ?_
   refine zat (fun _ hE21 => zaw (zau zax rfl rfl ((hL13.ext hE21).at 0 rfl rfl) rfl (er rfl))) ?_
   refine DrH.det ?_ ?_
   ·
    rintro w22 Z27 hE22 hZ17 ⟨-⟩
    refine zaw (zay en70 rfl rfl (wnumber_w N pa.At _ Any r13 q21) ?_)
    rintro _ w23 hE23 ⟨rfl, -⟩
    exact ⟨hE23, rfl⟩
   refine zcx ?_
   rintro w24 Z28 hE24 hZ18 ⟨-⟩ ap10
   have hB10 := @zhb w13 Z28
   obtain ⟨hL16, K11⟩ := zl hL13 hE24
   obtain ⟨u14, q22, h⟩ := zec h
   have q23 := zer q22
   refine zag (zdy (x := ((([108, 101, 110, 103, 116, 104, 32, 120] : List UInt8) ++ r12) ++ ([32, 60, 61, 32] : List UInt8))) (y := r13) rfl rfl q23 ?_)
   refine zag (zak (v := (zbe (s8 (((([108, 101, 110, 103, 116, 104, 32, 120] : List UInt8) ++ r12) ++ ([32, 60, 61, 32] : List UInt8)) ++ r13)))) rfl ?_)
   refine zan (zaj (zaj (zaf rfl (zag (zak (v := (zI 0)) rfl (zan ?_))))))
   obtain ⟨s10, hl10, g10⟩ := zec h
   refine zbs (fun e w' => ∃ (s11 : (List UInt8)) (u : Env), s11 = s10 ∧ e = upds [(3, (zS s11))] u ∧ vL w w' [] [] ∧ Keep w.heap.size [some b1] w24 [] w' ∧ True) ?_ ?_
   ·
    refine zbb ?_
    refine zcb hl10 (fun (ss : ((List UInt8) × Int)) (e : Env) (w' : World) => match ss with | (s12, i10) => ∃ (u : Env), e = upds [(1, (zal (some ⟨b1, 0, none⟩))), (3, (zS s12)), (4, (zI i10))] u ∧ vL w w' [some b1] [zac [(zI pa.Kind), (zI pa.Var), (zI pa.At), pa_v, pa_v1, (zab pa.Proof.Bound.Negative), pa_v2, pa_v3, pa_v4]] ∧ Keep w.heap.size [some b1] w24 [some b1] w' ∧ True) ⟨_, (zeg ⟨rfl, rfl, rfl, trivial⟩), hL16, zbq, trivial⟩ ?_
    rintro ⟨s12, i10⟩ oo _ w25 ⟨u, rfl, hL17, K12, -⟩ h hd10
    rw [wFormat_b1] at h
    refine zaj (zaj (zaf rfl (zag (zai (v := (zI i10)) rfl ?_))))
    refine zag (zam (q := 8) zaz rfl ti71 rfl rfl rfl ?_)
    refine zag (zau (v := pa_v4) zby rfl rfl (hL17.at 0 rfl rfl) rfl ?_)
    have f14 := ((((pa_h4.mono (K4 S)).mono (K10 S)).mono (K11 S)).mono (K12 S))
    refine zag (zbc (v := pa_v4) zby rfl f14 ?_)
    refine zag (zci (x := i10) (y := (pa.Children.length : Int)) ((i10 : Int) < (pa.Children.length : Int)) rfl rfl zbd (zan ?_))
    refine zba ((i10 : Int) < (pa.Children.length : Int)) rfl (fun hc13 => ?_) (fun hc13 => ?_)
    ·
     replace h := ite_t hc13 h
     refine zbf (zaj (zbb (zaf rfl (zag (zai (v := (zS s12)) rfl ?_)))))
     obtain ⟨u15, q24, h⟩ := zec h
     have q25 := zer q24
     refine zag (zdy (x := s12) (y := ([32, 40] : List UInt8)) rfl rfl q25 ?_)
     refine zag (zam (q := 8) zaz rfl ti71 rfl rfl rfl ?_)
     refine zag (zau (v := pa_v4) zby rfl rfl (hL17.at 0 rfl rfl) rfl ?_)
     refine zag (zai (v := (zI i10)) rfl ?_)
     obtain ⟨x10, n10, q27, q28, -, h⟩ := zix h
     obtain ⟨b10, o10, c10, vs10, q29, q30, f15, q31⟩ := zcw f14 q28
     obtain ⟨v10, v11, v12, v13, v14, rfl, k10, k11, k12, k13, k14, -⟩ := rRefut_open q31
     refine zag (zbp (r := rRefut) (v := pa_v4) (n := n10) (m := (o10 + n10 * rRefut.sz)) zby ti73 rfl q29 rfl q27 q28 rfl ?_)
     refine zag (zdl (vs := [(zI x10.Kind), (zI x10.Var), (zI x10.At), v10, v11, (zab x10.Proof.Bound.Negative), v12, v13, v14]) zaz rfl ti73 rfl rfl zek f15 ?_)
     obtain ⟨r14, q32, h⟩ := zec h
     refine zag (zay en34 rfl rfl (ih x10 v10 v11 v12 v13 v14 _ Any (k10.mono vw_any) (k11.mono vw_any) (k12.mono vw_any) (k13.mono vw_any) (k14.mono vw_any) r14 q32) ?_)
     rintro _ w26 hE25 ⟨rfl, -⟩
     obtain ⟨hL18, K13⟩ := zl hL17 hE25
     obtain ⟨u17, q33, h⟩ := zec h
     have q34 := zer q33
     refine zag (zdy (x := (s12 ++ ([32, 40] : List UInt8))) (y := r14) rfl rfl q34 ?_)
     obtain ⟨u18, q35, h⟩ := zec h
     have q36 := zer q35
     refine zag (zdy (x := ((s12 ++ ([32, 40] : List UInt8)) ++ r14)) (y := ([41] : List UInt8)) rfl rfl q36 ?_)
     refine zag (zak (v := (zbe (s8 (((s12 ++ ([32, 40] : List UInt8)) ++ r14) ++ ([41] : List UInt8))))) rfl ?_)
     refine zan (zbn (zaf rfl (zag (zai (v := (zI i10)) rfl ?_))))
     refine zag (zbz (x := i10) (y := 1) (z := (iw (i10 + 1))) rfl rfl rfl ?_)
     refine zag (zak (v := (zI (iw (i10 + 1)))) rfl (zan ?_))
     obtain rfl := zah h
     refine zaq ⟨((((s12 ++ ([32, 40] : List UInt8)) ++ r14) ++ ([41] : List UInt8)), (iw (i10 + 1))), rfl, ?_⟩
     exact ⟨_, (zeg ⟨rfl, rfl, rfl, trivial⟩), hL18, (zao K12 K13), trivial⟩
    replace h := ite_f hc13 h
    refine zck rfl ?_
    have hp10 := hL17.pick [] rfl rfl rfl
    have hL19 : vL w w25 [] [] := hp10.1
    have K14 := ks w hp10.2
    obtain rfl := zah h
    obtain rfl := hd10 _ rfl
    replace h := g10
    try dsimp only at h
    refine zaq ?_
    exact ⟨s12, _, rfl, (zeg zrt), hL19, (zao K12 K14), trivial⟩
   rintro _ w27 ⟨s11, u, rfl, rfl, hL20, K15, -⟩
   replace h := g10
   try dsimp only at h
   refine zaj (zaf rfl (zag (zai (v := (zS s11)) rfl ?_)))
   refine zag (zak (v := (zS s11)) rfl ?_)
   refine zan (zbi ?_)
   obtain rfl := zah h
   refine ⟨[(zS s11)], zrt, ⟨_, rfl, hL20.done, ?_⟩⟩
   exact zrt
  replace h := ite_f hc12 h
  refine zbf (zbn (zaj (zaf rfl (zag (zak (v := (zS ([105, 110, 118, 97, 108, 105, 100] : List UInt8))) rfl ?_)))))
  refine zan (zbi ?_)
  obtain rfl := zah h
  refine ⟨[(zS ([105, 110, 118, 97, 108, 105, 100] : List UInt8))], zrt, ⟨_, rfl, hL3.done, ?_⟩⟩
  exact zrt
theorem wparts_w (N : Nat) : ∀ (pa : Refut) (pa_v : Value) (pa_v1 : Value) (pa_v2 : Value) (pa_v3 : Value) (pa_v4 : Value) (w : World) (S : Nat → Prop) (pa_h : Rs rStep (vH w S [] w) pa_v pa.Proof.Steps) (pa_h1 : Rs rBig (vH w S [] w) pa_v1 pa.Proof.Form) (pa_h2 : Rs (rInt .u32) (vH w S [] w) pa_v2 pa.Proof.Bound.Digits) (pa_h3 : Rs rProof (vH w S [] w) pa_v3 pa.Proof.Children) (pa_h4 : Rs rRefut (vH w S [] w) pa_v4 pa.Children) (r : Int) (h : wparts N pa = some r), Calls Tryz.prog 59 #[(zap #[(zI pa.Kind), (zI pa.Var), (zI pa.At), pa_v, pa_v1, (zab pa.Proof.Bound.Negative), pa_v2, pa_v3, pa_v4])] w (Ret w (fun v w' => (zI r) = v ∧ True)) := by
 induction N with
 | zero => intro pa pa_v pa_v1 pa_v2 pa_v3 pa_v4 w S pa_h pa_h1 pa_h2 pa_h3 pa_h4 r h; cases (show (none : Option Int) = some r from h)
 | succ N ih =>
  intro pa pa_v pa_v1 pa_v2 pa_v3 pa_v4 w S pa_h pa_h1 pa_h2 pa_h3 pa_h4 r h
  replace h : wparts_step N (wparts N) pa = some r := h
  unfold wparts_step at h
  have hL : vL w w [] [] := Go.X.Loc.begin0 w
  refine calls_of (l := [(zap #[(zI pa.Kind), (zI pa.Var), (zI pa.At), pa_v, pa_v1, (zab pa.Proof.Bound.Negative), pa_v2, pa_v3, pa_v4])]) (rl := [.tmp 2]) (n := 29) Tryz.func59 rfl rfl rfl (zae rfl) ?_
  refine zaj (zaf rfl (zag (zdj (cs := [(zI pa.Kind), (zI pa.Var), (zI pa.At), pa_v, pa_v1, (zab pa.Proof.Bound.Negative), pa_v2, pa_v3, pa_v4]) rfl rfl hL ?_)))
  intro b1 w2 hL3 hS5
  have K4 := ks w hS5
  refine zag (zak (v := (zI 0)) rfl ?_)
  refine zan (zaj (zaj (zaf rfl (zag (zam (q := 3) zaz rfl ti70 rfl rfl rfl ?_)))))
  refine zag (zbj (vs := [pa_v, pa_v1, (zab pa.Proof.Bound.Negative), pa_v2, pa_v3]) zbk rfl ti70 rfl (hL3.at 0 rfl rfl) rfl rfl ?_)
  obtain ⟨r6, q7, h⟩ := zec h
  have f9 := (pa_h.mono (K4 S))
  have f10 := (pa_h1.mono (K4 S))
  have f11 := (pa_h2.mono (K4 S))
  have f12 := (pa_h3.mono (K4 S))
  refine zag (zay en90 rfl rfl (rSmallProof_w N pa.Proof pa_v pa_v1 pa_v2 pa_v3 _ Any (f9.mono vw_any) (f10.mono vw_any) (f11.mono vw_any) (f12.mono vw_any) r6 q7) ?_)
  rintro _ w10 hE10 ⟨rfl, -⟩
  obtain ⟨hL10, K10⟩ := zl hL3 hE10
  refine zag (zeb (x := r6) rfl (zan ?_))
  refine zcq (!r6) rfl (fun hc10 => ?_) (fun hc10 => ?_)
  ·
   replace h := ite_t hc10 h
   refine zaj (zaf rfl (zag (zak (v := (zI 101)) rfl ?_)))
   refine zan (zbi ?_)
   obtain rfl := zah h
   refine ⟨[(zI 101)], zrt, ⟨_, rfl, hL10.done, ?_⟩⟩
   exact zrt
  replace h := ite_f hc10 h
  refine zbf (zaj (zaf rfl (zag (zak (v := (zI 1)) rfl ?_))))
  refine zan (zaj (zaj (zaf rfl (zag (zak (v := (zI 0)) rfl (zan ?_))))))
  obtain ⟨s10, hl10, g10⟩ := zec h
  refine zbs (fun e w' => ∃ (n10 : Int) (u : Env), n10 = s10 ∧ e = upds [(3, (zI n10))] u ∧ vL w w' [] [] ∧ Keep w.heap.size [some b1] w10 [] w' ∧ True) ?_ ?_
  ·
   refine zbb ?_
   refine zcb hl10 (fun (ss : (Int × Int)) (e : Env) (w' : World) => match ss with | (n11, i10) => ∃ (u : Env), e = upds [(1, (zal (some ⟨b1, 0, none⟩))), (3, (zI n11)), (4, (zI i10))] u ∧ vL w w' [some b1] [zac [(zI pa.Kind), (zI pa.Var), (zI pa.At), pa_v, pa_v1, (zab pa.Proof.Bound.Negative), pa_v2, pa_v3, pa_v4]] ∧ Keep w.heap.size [some b1] w10 [some b1] w' ∧ True) ⟨_, (zeg ⟨rfl, rfl, rfl, trivial⟩), hL10, zbq, trivial⟩ ?_
   rintro ⟨n11, i10⟩ oo _ w11 ⟨u, rfl, hL11, K11, -⟩ h hd10
   rw [wparts_b1] at h
   refine zaj (zaj ?_)
   obtain ⟨s11, h, g11⟩ := zec h
   refine zbs (fun e w' => ∃ (x10 : Bool) (u : Env), x10 = s11 ∧ e = upds [(1, (zal (some ⟨b1, 0, none⟩))), (3, (zI n11)), (4, (zI i10)), (17, (zab x10))] u ∧ vL w w' [some b1] [zac [(zI pa.Kind), (zI pa.Var), (zI pa.At), pa_v, pa_v1, (zab pa.Proof.Bound.Negative), pa_v2, pa_v3, pa_v4]] ∧ Keep w.heap.size [some b1] w11 [some b1] w' ∧ True) ?_ ?_
   ·
    refine zaf rfl (zag (zai (v := (zI i10)) rfl ?_))
    refine zag (zam (q := 8) zaz rfl ti71 rfl rfl rfl ?_)
    refine zag (zau (v := pa_v4) zby rfl rfl (hL11.at 0 rfl rfl) rfl ?_)
    have f13 := (((pa_h4.mono (K4 S)).mono (K10 S)).mono (K11 S))
    refine zag (zbc (v := pa_v4) zby rfl f13 ?_)
    refine zag (zci (x := i10) (y := (pa.Children.length : Int)) ((i10 : Int) < (pa.Children.length : Int)) rfl rfl zbd ?_)
    refine zag (zai (v := (zab (decide ((i10 : Int) < (pa.Children.length : Int))))) rfl ?_)
    by_cases hc11 : (i10 : Int) < (pa.Children.length : Int)
    ·
     replace h := ite_t hc11 h
     refine zbt rfl rfl (zef hc11) (zai (v := (zI n11)) rfl ?_)
     refine zbt rfl rfl (zef hc11) (OpY.leq (x := n11) (y := 100) ((n11 : Int) ≤ 100) rfl rfl zbd ?_)
     refine zag (zce (t := (decide ((i10 : Int) < (pa.Children.length : Int)))) (v := (zab (decide ((n11 : Int) ≤ 100)))) rfl (zef hc11) rfl (zan ?_))
     obtain rfl := zah h
     refine zaq ?_
     exact ⟨(decide ((n11 : Int) ≤ 100)), _, rfl, (zeg ⟨rfl, rfl, rfl, rfl, trivial⟩), hL11, zbq, trivial⟩
    replace h := ite_f hc11 h
    refine zcl rfl rfl (zed hc11) (zcl rfl rfl (zed hc11) ?_)
    refine zag (zcv (t := (decide ((i10 : Int) < (pa.Children.length : Int)))) (v := zF) rfl (zed hc11) rfl (zan ?_))
    obtain rfl := zah h
    refine zaq ?_
    exact ⟨false, _, rfl, (zeg ⟨rfl, rfl, rfl, rfl, trivial⟩), hL11, zbq, trivial⟩
   rintro _ w12 ⟨x10, u, rfl, rfl, hL12, K12, -⟩
   replace h := g11
   try dsimp only at h
   refine zcq x10 rfl (fun hc12 => ?_) (fun hc12 => ?_)
   ·
    replace h := ite_t hc12 h
    refine zbf (zaj (zbb (zaf rfl (zag (zai (v := (zI n11)) rfl ?_)))))
    refine zag (zam (q := 8) zaz rfl ti71 rfl rfl rfl ?_)
    refine zag (zau (v := pa_v4) zby rfl rfl (hL12.at 0 rfl rfl) rfl ?_)
    refine zag (zai (v := (zI i10)) rfl ?_)
    obtain ⟨x11, n12, q11, q12, -, h⟩ := zix h
    have f14 := ((((pa_h4.mono (K4 S)).mono (K10 S)).mono (K11 S)).mono (K12 S))
    obtain ⟨b10, o10, c10, vs10, q13, q14, f15, q15⟩ := zcw f14 q12
    obtain ⟨v10, v11, v12, v13, v14, rfl, k10, k11, k12, k13, k14, -⟩ := rRefut_open q15
    refine zag (zbp (r := rRefut) (v := pa_v4) (n := n12) (m := (o10 + n12 * rRefut.sz)) zby ti73 rfl q13 rfl q11 q12 rfl ?_)
    refine zag (zdl (vs := [(zI x11.Kind), (zI x11.Var), (zI x11.At), v10, v11, (zab x11.Proof.Bound.Negative), v12, v13, v14]) zaz rfl ti73 rfl rfl zek f15 ?_)
    obtain ⟨r10, q16, h⟩ := zec h
    refine zag (zay en59 rfl rfl (ih x11 v10 v11 v12 v13 v14 _ Any (k10.mono vw_any) (k11.mono vw_any) (k12.mono vw_any) (k13.mono vw_any) (k14.mono vw_any) r10 q16) ?_)
    rintro _ w13 hE11 ⟨rfl, -⟩
    obtain ⟨hL13, K13⟩ := zl hL12 hE11
    refine zag (zbz (x := n11) (y := r10) (z := (iw (n11 + r10))) rfl rfl rfl ?_)
    refine zag (zak (v := (zI (iw (n11 + r10)))) rfl ?_)
    refine zan (zbn (zaf rfl (zag (zai (v := (zI i10)) rfl ?_))))
    refine zag (zbz (x := i10) (y := 1) (z := (iw (i10 + 1))) rfl rfl rfl ?_)
    refine zag (zak (v := (zI (iw (i10 + 1)))) rfl (zan ?_))
    obtain rfl := zah h
    refine zaq ⟨((iw (n11 + r10)), (iw (i10 + 1))), rfl, ?_⟩
    exact ⟨_, (zeg ⟨rfl, rfl, rfl, trivial⟩), hL13, (zao (zao K11 K12) K13), trivial⟩
   replace h := ite_f hc12 h
   refine zck rfl ?_
   have hp10 := hL12.pick [] rfl rfl rfl
   have hL14 : vL w w12 [] [] := hp10.1
   have K14 := ks w hp10.2
   obtain rfl := zah h
   obtain rfl := hd10 _ rfl
   replace h := g10
   try dsimp only at h
   refine zaq ?_
   exact ⟨n11, _, rfl, (zeg zrt), hL14, (zao (zao K11 K12) K14), trivial⟩
  rintro _ w14 ⟨n10, u, rfl, rfl, hL15, K15, -⟩
  replace h := g10
  try dsimp only at h
  refine zaj (zaf rfl (zag (zai (v := (zI n10)) rfl ?_)))
  refine zag (zak (v := (zI n10)) rfl ?_)
  refine zan (zbi ?_)
  obtain rfl := zah h
  refine ⟨[(zI n10)], zrt, ⟨_, rfl, hL15.done, ?_⟩⟩
  exact zrt
theorem wSmall_w (N : Nat) (pa : Refut) (pa_v : Value) (pa_v1 : Value) (pa_v2 : Value) (pa_v3 : Value) (pa_v4 : Value) (w : World) (S : Nat → Prop) (pa_h : Rs rStep (vH w S [] w) pa_v pa.Proof.Steps) (pa_h1 : Rs rBig (vH w S [] w) pa_v1 pa.Proof.Form) (pa_h2 : Rs (rInt .u32) (vH w S [] w) pa_v2 pa.Proof.Bound.Digits) (pa_h3 : Rs rProof (vH w S [] w) pa_v3 pa.Proof.Children) (pa_h4 : Rs rRefut (vH w S [] w) pa_v4 pa.Children) (r : Bool) (h : wSmall N pa = some r) :
  Calls Tryz.prog 28 #[(zap #[(zI pa.Kind), (zI pa.Var), (zI pa.At), pa_v, pa_v1, (zab pa.Proof.Bound.Negative), pa_v2, pa_v3, pa_v4])] w (Ret w (fun v w' => (zab r) = v ∧ True)) := by
 unfold wSmall at h
 have hL : vL w w [] [] := Go.X.Loc.begin0 w
 refine calls_of (l := [(zap #[(zI pa.Kind), (zI pa.Var), (zI pa.At), pa_v, pa_v1, (zab pa.Proof.Bound.Negative), pa_v2, pa_v3, pa_v4])]) (rl := [.tmp 2]) (n := 6) Tryz.func28 rfl rfl rfl (zae rfl) ?_
 refine zaj (zaf rfl (zag (zdj (cs := [(zI pa.Kind), (zI pa.Var), (zI pa.At), pa_v, pa_v1, (zab pa.Proof.Bound.Negative), pa_v2, pa_v3, pa_v4]) rfl rfl hL ?_)))
 intro b1 w2 hL3 hS5
 have K4 := ks w hS5
 refine zag (zak (v := zF) rfl ?_)
 refine zan (zaj (zaf rfl (zag (zbj (vs := [(zI pa.Kind), (zI pa.Var), (zI pa.At), pa_v, pa_v1, (zab pa.Proof.Bound.Negative), pa_v2, pa_v3, pa_v4]) zaz rfl ti73 rfl (hL3.at 0 rfl rfl) rfl rfl ?_))))
 obtain ⟨r6, q7, h⟩ := zec h
 have f9 := (pa_h.mono (K4 S))
 have f10 := (pa_h1.mono (K4 S))
 have f11 := (pa_h2.mono (K4 S))
 have f12 := (pa_h3.mono (K4 S))
 have f13 := (pa_h4.mono (K4 S))
 refine zag (zay en59 rfl rfl (wparts_w N pa pa_v pa_v1 pa_v2 pa_v3 pa_v4 _ Any (f9.mono vw_any) (f10.mono vw_any) (f11.mono vw_any) (f12.mono vw_any) (f13.mono vw_any) r6 q7) ?_)
 rintro _ w10 hE10 ⟨rfl, -⟩
 have hL10 := hL3.ext hE10
 refine zag (OpY.leq (x := r6) (y := 30) ((r6 : Int) ≤ 30) rfl rfl zbd ?_)
 refine zag (zak (v := (zab (decide ((r6 : Int) ≤ 30)))) rfl ?_)
 refine zan (zbi ?_)
 obtain rfl := zah h
 refine ⟨[(zab (decide ((r6 : Int) ≤ 30)))], zrt, ⟨_, rfl, hL10.done, ?_⟩⟩
 exact zrt
end Go.Proofs.YtcakdidcpoolcaaGreatDoor.WU

/- Walks, written by a program of mine (wip/tool); the kernel checks them. -/
import Derived.Test.YtcakdidcpoolcaaGreatDoorProg
import Derived.Test.YtcakdidcpoolcaaGreatDoorSqText
import Derived.Test.YtcakdidcpoolcaaGreatDoorBl25
import Derived.Test.YtcakdidcpoolcaaGreatDoorF25
import Derived.Test.YtcakdidcpoolcaaGreatDoorPD
import Derived.Test.YtcakdidcpoolcaaGreatDoorWAText
import Derived.Test.YtcakdidcpoolcaaGreatDoorWRText
import Derived.Test.YtcakdidcpoolcaaGreatDoorWBText
import Derived.Test.YtcakdidcpoolcaaGreatDoorWCText
set_option maxRecDepth 100000
set_option maxHeartbeats 40000000
set_option linter.unusedVariables false
set_option linter.unusedSimpArgs false
namespace Go.Proofs.YtcakdidcpoolcaaGreatDoor.WD
open Go Go.RowKit Go.X Go.D Go.Proofs.YtcakdidcpoolcaaGreatDoor.WF Go.Proofs.YtcakdidcpoolcaaGreatDoor.WA Go.Proofs.YtcakdidcpoolcaaGreatDoor.WR Go.Proofs.YtcakdidcpoolcaaGreatDoor.WB Go.Proofs.YtcakdidcpoolcaaGreatDoor.WC
theorem en66 : Go.X.Enters Tryz.prog 66 := ⟨Tryz.f66, Tryz.func66, by kernel_rfl, by kernel_rfl⟩
theorem en145 : Go.X.Enters Tryz.prog 145 := ⟨Tryz.f145, Tryz.func145, by kernel_rfl, by kernel_rfl⟩
theorem en146 : Go.X.Enters Tryz.prog 146 := ⟨Tryz.f146, Tryz.func146, by kernel_rfl, by kernel_rfl⟩
theorem en119 : Go.X.Enters Tryz.prog 119 := ⟨Tryz.f119, Tryz.func119, by kernel_rfl, by kernel_rfl⟩
theorem rSize_w (N : Nat) : ∀ (p : Proof) (p_v : Value) (p_v1 : Value) (p_v2 : Value) (p_v3 : Value) (w : World) (S : Nat → Prop) (p_h : Rs rStep (vH w S [] w) p_v p.Steps) (p_h1 : Rs rBig (vH w S [] w) p_v1 p.Form) (p_h2 : Rs (rInt .u32) (vH w S [] w) p_v2 p.Bound.Digits) (p_h3 : Rs rProof (vH w S [] w) p_v3 p.Children) (r : Int) (h : rSize N p = some r), Calls Tryz.prog 66 #[(zap #[p_v, p_v1, (zab p.Bound.Negative), p_v2, p_v3])] w (Ret w (fun v w' => (zI r) = v ∧ True)) := by
 induction N with
 | zero => intro p p_v p_v1 p_v2 p_v3 w S p_h p_h1 p_h2 p_h3 r h; cases (show (none : Option Int) = some r from h)
 | succ N ih =>
  intro p p_v p_v1 p_v2 p_v3 w S p_h p_h1 p_h2 p_h3 r h
  replace h : rSize_step N (rSize N) p = some r := h
  unfold rSize_step at h
  have hL : vL w w [] [] := Go.X.Loc.begin0 w
  refine calls_of (l := [(zap #[p_v, p_v1, (zab p.Bound.Negative), p_v2, p_v3])]) (rl := [.tmp 2]) (n := 30) Tryz.func66 rfl rfl rfl (zae rfl) ?_
  refine zaj (zaf rfl (zag (zdj (cs := [p_v, p_v1, (zab p.Bound.Negative), p_v2, p_v3]) rfl rfl hL ?_)))
  intro b1 w2 hL3 hS5
  have K4 := ks w hS5
  refine zag (zak (v := (zI 0)) rfl ?_)
  refine zan (zaj (zaf rfl (zag (zam (q := 0) zbk rfl ti67 rfl rfl rfl ?_))))
  refine zag (zau (v := p_v) zcs rfl rfl (hL3.at 0 rfl rfl) rfl ?_)
  have f6 := (p_h.mono (K4 S))
  refine zag (zbc (v := p_v) zcs rfl f6 ?_)
  refine zag (zak (v := (zI (p.Steps.length : Int))) rfl ?_)
  refine zan (zaj (zaj (zaf rfl (zag (zam (q := 4) zbk rfl ti68 rfl rfl rfl ?_)))))
  refine zag (zau (v := p_v3) zcg rfl rfl (hL3.at 0 rfl rfl) rfl ?_)
  have f7 := (p_h3.mono (K4 S))
  refine zag (zbc (v := p_v3) zcg rfl f7 ?_)
  refine zag (OpY.gtr (x := (p.Children.length : Int)) (y := 0) (((p.Children.length : Int) : Int) > 0) rfl rfl zbd (zan ?_))
  obtain ⟨s10, h, g10⟩ := zec h
  refine zbs (fun e w' => ∃ (n10 : Int) (u : Env), n10 = s10 ∧ e = upds [(1, (zal (some ⟨b1, 0, none⟩))), (3, (zI n10))] u ∧ vL w w' [some b1] [zac [p_v, p_v1, (zab p.Bound.Negative), p_v2, p_v3]] ∧ Keep w.heap.size [some b1] w2 [some b1] w' ∧ True) ?_ ?_
  ·
   refine zba (((p.Children.length : Int) : Int) > 0) rfl (fun hc10 => ?_) (fun hc10 => ?_)
   ·
    replace h := ite_t hc10 h
    refine zaf rfl (zag (zai (v := (zI (p.Steps.length : Int))) rfl ?_))
    refine zag (zbz (x := (p.Steps.length : Int)) (y := 1) (z := (iw ((p.Steps.length : Int) + 1))) rfl rfl rfl ?_)
    refine zag (zak (v := (zI (iw ((p.Steps.length : Int) + 1)))) rfl (zan ?_))
    obtain rfl := zah h
    refine zaq ?_
    exact ⟨(iw ((p.Steps.length : Int) + 1)), _, rfl, (zeg ⟨rfl, rfl, trivial⟩), hL3, zbq, trivial⟩
   replace h := ite_f hc10 h
   refine zbf ?_
   obtain rfl := zah h
   refine zaq ?_
   exact ⟨(p.Steps.length : Int), _, rfl, (zeg ⟨rfl, rfl, trivial⟩), hL3, zbq, trivial⟩
  rintro _ w10 ⟨n10, u, rfl, rfl, hL10, K10, -⟩
  replace h := g10
  try dsimp only at h
  refine zaj (zaj (zaf rfl (zag (zak (v := (zI 0)) rfl (zan ?_)))))
  obtain ⟨s11, hl10, g11⟩ := zec h
  refine zbs (fun e w' => ∃ (n11 : Int) (u : Env), n11 = s11 ∧ e = upds [(3, (zI n11))] u ∧ vL w w' [] [] ∧ Keep w.heap.size [some b1] w10 [] w' ∧ True) ?_ ?_
  ·
   refine zbb ?_
   refine zcb hl10 (fun (ss : (Int × Int)) (e : Env) (w' : World) => match ss with | (n12, i10) => ∃ (u : Env), e = upds [(1, (zal (some ⟨b1, 0, none⟩))), (3, (zI n12)), (4, (zI i10))] u ∧ vL w w' [some b1] [zac [p_v, p_v1, (zab p.Bound.Negative), p_v2, p_v3]] ∧ Keep w.heap.size [some b1] w10 [some b1] w' ∧ True) ⟨_, (zeg ⟨rfl, rfl, rfl, trivial⟩), hL10, zbq, trivial⟩ ?_
   rintro ⟨n12, i10⟩ oo _ w11 ⟨u, rfl, hL11, K11, -⟩ h hd10
   rw [rSize_b1] at h
   refine zaj (zaj (zaf rfl (zag (zai (v := (zI i10)) rfl ?_))))
   refine zag (zam (q := 4) zbk rfl ti68 rfl rfl rfl ?_)
   refine zag (zau (v := p_v3) zcg rfl rfl (hL11.at 0 rfl rfl) rfl ?_)
   have f10 := ((f7.mono (K10 S)).mono (K11 S))
   refine zag (zbc (v := p_v3) zcg rfl f10 ?_)
   refine zag (zci (x := i10) (y := (p.Children.length : Int)) ((i10 : Int) < (p.Children.length : Int)) rfl rfl zbd (zan ?_))
   refine zba ((i10 : Int) < (p.Children.length : Int)) rfl (fun hc11 => ?_) (fun hc11 => ?_)
   ·
    replace h := ite_t hc11 h
    refine zbf (zaj (zbb (zaf rfl (zag (zai (v := (zI n12)) rfl ?_)))))
    refine zag (zam (q := 4) zbk rfl ti68 rfl rfl rfl ?_)
    refine zag (zau (v := p_v3) zcg rfl rfl (hL11.at 0 rfl rfl) rfl ?_)
    refine zag (zai (v := (zI i10)) rfl ?_)
    obtain ⟨x10, n13, q11, q12, -, h⟩ := zix h
    obtain ⟨b10, o10, c10, vs10, q13, q14, f11, q15⟩ := zcw f10 q12
    obtain ⟨v10, v11, v12, v13, rfl, k10, k11, k12, k13, -⟩ := rProof_open q15
    refine zag (zbp (r := rProof) (v := p_v3) (n := n13) (m := (o10 + n13 * rProof.sz)) zcg ti70 rfl q13 rfl q11 q12 rfl ?_)
    refine zag (zdl (vs := [v10, v11, (zab x10.Bound.Negative), v12, v13]) zbk rfl ti70 rfl rfl zek f11 ?_)
    obtain ⟨r10, q16, h⟩ := zec h
    refine zag (zay en66 rfl rfl (ih x10 v10 v11 v12 v13 _ Any (k10.mono vw_any) (k11.mono vw_any) (k12.mono vw_any) (k13.mono vw_any) r10 q16) ?_)
    rintro _ w12 hE10 ⟨rfl, -⟩
    obtain ⟨hL12, K12⟩ := zl hL11 hE10
    refine zag (zbz (x := n12) (y := r10) (z := (iw (n12 + r10))) rfl rfl rfl ?_)
    refine zag (zak (v := (zI (iw (n12 + r10)))) rfl ?_)
    refine zan (zbn (zaf rfl (zag (zai (v := (zI i10)) rfl ?_))))
    refine zag (zbz (x := i10) (y := 1) (z := (iw (i10 + 1))) rfl rfl rfl ?_)
    refine zag (zak (v := (zI (iw (i10 + 1)))) rfl (zan ?_))
    obtain rfl := zah h
    refine zaq ⟨((iw (n12 + r10)), (iw (i10 + 1))), rfl, ?_⟩
    exact ⟨_, (zeg ⟨rfl, rfl, rfl, trivial⟩), hL12, (zao K11 K12), trivial⟩
   replace h := ite_f hc11 h
   refine zck rfl ?_
   have hp10 := hL11.pick [] rfl rfl rfl
   have hL13 : vL w w11 [] [] := hp10.1
   have K13 := ks w hp10.2
   obtain rfl := zah h
   obtain rfl := hd10 _ rfl
   replace h := g11
   try dsimp only at h
   refine zaq ?_
   exact ⟨n12, _, rfl, (zeg zrt), hL13, (zao K11 K13), trivial⟩
  rintro _ w13 ⟨n11, u, rfl, rfl, hL14, K14, -⟩
  replace h := g11
  try dsimp only at h
  refine zaj (zaf rfl (zag (zai (v := (zI n11)) rfl ?_)))
  refine zag (zak (v := (zI n11)) rfl ?_)
  refine zan (zbi ?_)
  obtain rfl := zah h
  refine ⟨[(zI n11)], zrt, ⟨_, rfl, hL14.done, ?_⟩⟩
  exact zrt
theorem rbigs_w (N : Nat) (l : (List Big)) (l_v : Value) (w : World) (S : Nat → Prop) (l_h : Rs rBig (vH w S [] w) l_v l) (r : Bool) (h : rbigs N l = some r) :
  Calls Tryz.prog 145 #[l_v] w (Ret w (fun v w' => (zab r) = v ∧ True)) := by
 unfold rbigs at h
 have hL : vL w w [] [] := Go.X.Loc.begin0 w
 refine calls_of (l := [l_v]) (rl := [.tmp 2]) (n := 20) Tryz.func145 rfl rfl rfl (zae rfl) ?_
 refine zaj (zaf rfl (zag (zak (v := zF) rfl ?_)))
 refine zan (zaj (zaj (zaf rfl (zag (zak (v := (zI 0)) rfl (zan ?_))))))
 obtain ⟨s10, hl10, g10⟩ := zec h
 refine zbs (fun e w' => ∃  (u : Env), (Sum.inl ()) = s10 ∧ e = upds [(0, l_v)] u ∧ vL w w' [] [] ∧ Keep w.heap.size [] w [] w' ∧ True) ?_ ?_
 ·
  refine zbb ?_
  refine zcb hl10 (fun (ss : Int) (e : Env) (w' : World) => match ss with | i10 => ∃ (u : Env), e = upds [(0, l_v), (3, (zI i10))] u ∧ vL w w' [] [] ∧ Keep w.heap.size [] w [] w' ∧ True) ⟨_, (zeg ⟨rfl, rfl, trivial⟩), hL, zbq, trivial⟩ ?_
  rintro i10 oo _ w10 ⟨u, rfl, hL10, K10, -⟩ h hd10
  rw [rbigs_b1] at h
  refine zaj (zaj (zaf rfl (zag (zai (v := (zI i10)) rfl ?_))))
  refine zag (zai (v := l_v) rfl ?_)
  have f10 := (l_h.mono (K10 S))
  refine zag (zbc (v := l_v) zbh rfl f10 ?_)
  refine zag (zci (x := i10) (y := (l.length : Int)) ((i10 : Int) < (l.length : Int)) rfl rfl zbd (zan ?_))
  refine zba ((i10 : Int) < (l.length : Int)) rfl (fun hc10 => ?_) (fun hc10 => ?_)
  ·
   replace h := ite_t hc10 h
   refine zbf (zaj (zbb (zaj (zaf rfl (zag (zai (v := l_v) rfl ?_))))))
   refine zag (zai (v := (zI i10)) rfl ?_)
   obtain ⟨x10, n10, q11, q12, -, h⟩ := zix h
   obtain ⟨b10, o10, c10, vs10, q13, q14, f11, q15⟩ := zcw f10 q12
   obtain ⟨v10, rfl, k10, -⟩ := rBig_open q15
   refine zag (zbp (r := rBig) (v := l_v) (n := n10) (m := (o10 + n10 * rBig.sz)) zbh ti57 rfl q13 rfl q11 q12 rfl ?_)
   have f12 := (f11.part (us := [v10]) 1 rfl)
   refine zag (zam (q := (o10 + n10 * rBig.sz) + 1) zar rfl ti55 rfl rfl rfl ?_)
   refine zag (zca (v := v10) zas rfl rfl zek f12 ?_)
   refine zag (zbc (v := v10) zas rfl k10 ?_)
   refine zag (OpY.gtr (x := (x10.Digits.length : Int)) (y := 4) (((x10.Digits.length : Int) : Int) > 4) rfl rfl zbd (zan ?_))
   refine zba (((x10.Digits.length : Int) : Int) > 4) rfl (fun hc11 => ?_) (fun hc11 => ?_)
   ·
    replace h := ite_t hc11 h
    refine zaj (zaf rfl (zag (zak (v := zF) rfl ?_)))
    refine zan (zbi ?_)
    obtain rfl := zah h
    obtain rfl := hd10 _ rfl
    replace h := g10
    try dsimp only at h
    obtain rfl := zah h
    refine ⟨[zF], zrt, ⟨_, rfl, hL10.done, ?_⟩⟩
    exact zrt
   replace h := ite_f hc11 h
   refine zbf (zbn (zaf rfl (zag (zai (v := (zI i10)) rfl ?_))))
   refine zag (zbz (x := i10) (y := 1) (z := (iw (i10 + 1))) rfl rfl rfl ?_)
   refine zag (zak (v := (zI (iw (i10 + 1)))) rfl (zan ?_))
   obtain rfl := zah h
   refine zaq ⟨(iw (i10 + 1)), rfl, ?_⟩
   exact ⟨_, (zeg ⟨rfl, rfl, trivial⟩), hL10, K10, trivial⟩
  replace h := ite_f hc10 h
  refine zck rfl ?_
  obtain rfl := zah h
  obtain rfl := hd10 _ rfl
  replace h := g10
  try dsimp only at h
  refine zaq ?_
  exact ⟨_, rfl, (zeg zrt), hL10, K10, trivial⟩
 rintro _ w11 ⟨u, rfl, rfl, hL11, K11, -⟩
 replace h := g10
 try dsimp only at h
 refine zaj (zaf rfl (zag (zai (v := l_v) rfl ?_)))
 have f13 := (l_h.mono (K11 S))
 refine zag (zbc (v := l_v) zbh rfl f13 ?_)
 refine zag (OpY.leq (x := (l.length : Int)) (y := 6) (((l.length : Int) : Int) ≤ 6) rfl rfl zbd ?_)
 refine zag (zak (v := (zab (decide (((l.length : Int) : Int) ≤ 6)))) rfl ?_)
 refine zan (zbi ?_)
 obtain rfl := zah h
 refine ⟨[(zab (decide (((l.length : Int) : Int) ≤ 6)))], zrt, ⟨_, rfl, hL11.done, ?_⟩⟩
 exact zrt
theorem rSmallStep_w (N : Nat) (s : Step) (s_v : Value) (s_v1 : Value) (w : World) (S : Nat → Prop) (s_h : Rs rUse (vH w S [] w) s_v s.Uses) (s_h1 : Rs (rInt .u32) (vH w S [] w) s_v1 s.Divisor.Digits) (r : Bool) (h : rSmallStep N s = some r) :
  Calls Tryz.prog 146 #[(zap #[s_v, (zab s.Divisor.Negative), s_v1])] w (Ret w (fun v w' => (zab r) = v ∧ True)) := by
 unfold rSmallStep at h
 have hL : vL w w [] [] := Go.X.Loc.begin0 w
 refine calls_of (l := [(zap #[s_v, (zab s.Divisor.Negative), s_v1])]) (rl := [.tmp 2]) (n := 31) Tryz.func146 rfl rfl rfl (zae rfl) ?_
 refine zaj (zaf rfl (zag (zdj (cs := [s_v, (zab s.Divisor.Negative), s_v1]) rfl rfl hL ?_)))
 intro b1 w2 hL3 hS5
 have K4 := ks w hS5
 refine zag (zak (v := zF) rfl ?_)
 refine zan (zaj (zaj (zaf rfl (zag (zak (v := (zI 0)) rfl (zan ?_))))))
 obtain ⟨s10, hl10, g10⟩ := zec h
 refine zbs (fun e w' => ∃  (u : Env), (Sum.inl ()) = s10 ∧ e = upds [(1, (zal (some ⟨b1, 0, none⟩)))] u ∧ vL w w' [some b1] [zac [s_v, (zab s.Divisor.Negative), s_v1]] ∧ Keep w.heap.size [some b1] w2 [some b1] w' ∧ True) ?_ ?_
 ·
  refine zbb ?_
  refine zcb hl10 (fun (ss : Int) (e : Env) (w' : World) => match ss with | i10 => ∃ (u : Env), e = upds [(1, (zal (some ⟨b1, 0, none⟩))), (3, (zI i10))] u ∧ vL w w' [some b1] [zac [s_v, (zab s.Divisor.Negative), s_v1]] ∧ Keep w.heap.size [some b1] w2 [some b1] w' ∧ True) ⟨_, (zeg ⟨rfl, rfl, trivial⟩), hL3, zbq, trivial⟩ ?_
  rintro i10 oo _ w10 ⟨u, rfl, hL10, K10, -⟩ h hd10
  rw [rSmallStep_b1] at h
  refine zaj (zaj (zaf rfl (zag (zai (v := (zI i10)) rfl ?_))))
  refine zag (zam (q := 0) zdg rfl ti95 rfl rfl rfl ?_)
  refine zag (zau (v := s_v) zde rfl rfl (hL10.at 0 rfl rfl) rfl ?_)
  have f10 := ((s_h.mono (K4 S)).mono (K10 S))
  refine zag (zbc (v := s_v) zde rfl f10 ?_)
  refine zag (zci (x := i10) (y := (s.Uses.length : Int)) ((i10 : Int) < (s.Uses.length : Int)) rfl rfl zbd (zan ?_))
  refine zba ((i10 : Int) < (s.Uses.length : Int)) rfl (fun hc10 => ?_) (fun hc10 => ?_)
  ·
   replace h := ite_t hc10 h
   refine zbf (zaj (zbb (zaj (zaf rfl (zag (zam (q := 0) zdg rfl ti95 rfl rfl rfl ?_))))))
   refine zag (zau (v := s_v) zde rfl rfl (hL10.at 0 rfl rfl) rfl ?_)
   refine zag (zai (v := (zI i10)) rfl ?_)
   obtain ⟨x10, n10, q11, q12, -, h⟩ := zix h
   obtain ⟨b10, o10, c10, vs10, q13, q14, f11, q15⟩ := zcw f10 q12
   obtain ⟨v10, rfl, k10, -⟩ := rUse_open q15
   refine zag (zbp (r := rUse) (v := s_v) (n := n10) (m := (o10 + n10 * rUse.sz)) zde ti94 rfl q13 rfl q11 q12 rfl ?_)
   have f12 := (f11.part (us := [(zab x10.N.Negative), v10]) 1 rfl)
   refine zag (zam (q := (o10 + n10 * rUse.sz) + 1) zds rfl ti57 rfl rfl rfl ?_)
   have f13 := (f12.part (us := [v10]) 1 rfl)
   refine zag (zam (q := (o10 + n10 * rUse.sz) + 1 + 1) zar rfl ti55 rfl rfl rfl ?_)
   refine zag (zca (v := v10) zas rfl rfl zek f13 ?_)
   refine zag (zbc (v := v10) zas rfl k10 ?_)
   refine zag (OpY.gtr (x := (x10.N.Digits.length : Int)) (y := 4) (((x10.N.Digits.length : Int) : Int) > 4) rfl rfl zbd (zan ?_))
   refine zba (((x10.N.Digits.length : Int) : Int) > 4) rfl (fun hc11 => ?_) (fun hc11 => ?_)
   ·
    replace h := ite_t hc11 h
    refine zaj (zaf rfl (zag (zak (v := zF) rfl ?_)))
    refine zan (zbi ?_)
    obtain rfl := zah h
    obtain rfl := hd10 _ rfl
    replace h := g10
    try dsimp only at h
    obtain rfl := zah h
    refine ⟨[zF], zrt, ⟨_, rfl, hL10.done, ?_⟩⟩
    exact zrt
   replace h := ite_f hc11 h
   refine zbf (zbn (zaf rfl (zag (zai (v := (zI i10)) rfl ?_))))
   refine zag (zbz (x := i10) (y := 1) (z := (iw (i10 + 1))) rfl rfl rfl ?_)
   refine zag (zak (v := (zI (iw (i10 + 1)))) rfl (zan ?_))
   obtain rfl := zah h
   refine zaq ⟨(iw (i10 + 1)), rfl, ?_⟩
   exact ⟨_, (zeg ⟨rfl, rfl, trivial⟩), hL10, K10, trivial⟩
  replace h := ite_f hc10 h
  refine zck rfl ?_
  obtain rfl := zah h
  obtain rfl := hd10 _ rfl
  replace h := g10
  try dsimp only at h
  refine zaq ?_
  exact ⟨_, rfl, (zeg zrt), hL10, K10, trivial⟩
 rintro _ w11 ⟨u, rfl, rfl, hL11, K11, -⟩
 replace h := g10
 try dsimp only at h
 refine zaj (zaf rfl (zag (zam (q := 0) zdg rfl ti95 rfl rfl rfl ?_)))
 refine zag (zau (v := s_v) zde rfl rfl (hL11.at 0 rfl rfl) rfl ?_)
 have f14 := ((s_h.mono (K4 S)).mono (K11 S))
 refine zag (zbc (v := s_v) zde rfl f14 ?_)
 refine zag (OpY.leq (x := (s.Uses.length : Int)) (y := 12) (((s.Uses.length : Int) : Int) ≤ 12) rfl rfl zbd ?_)
 refine zag (zai (v := (zab (decide (((s.Uses.length : Int) : Int) ≤ 12)))) rfl ?_)
 by_cases hc12 : ((s.Uses.length : Int) : Int) ≤ 12
 ·
  replace h := ite_t hc12 h
  refine zbt rfl rfl (zef hc12) (zam (q := 1) zdg rfl ti57 rfl rfl rfl ?_)
  refine zbt rfl rfl (zef hc12) (zam (q := 2) zar rfl ti55 rfl rfl rfl ?_)
  refine zbt rfl rfl (zef hc12) (zau (v := s_v1) zas rfl rfl (hL11.at 0 rfl rfl) rfl ?_)
  have f15 := ((s_h1.mono (K4 S)).mono (K11 S))
  refine zbt rfl rfl (zef hc12) (zbc (v := s_v1) zas rfl f15 ?_)
  refine zbt rfl rfl (zef hc12) (OpY.leq (x := (s.Divisor.Digits.length : Int)) (y := 4) (((s.Divisor.Digits.length : Int) : Int) ≤ 4) rfl rfl zbd ?_)
  refine zag (zce (t := (decide (((s.Uses.length : Int) : Int) ≤ 12))) (v := (zab (decide (((s.Divisor.Digits.length : Int) : Int) ≤ 4)))) rfl (zef hc12) rfl ?_)
  refine zag (zak (v := (zab (decide (((s.Divisor.Digits.length : Int) : Int) ≤ 4)))) rfl ?_)
  refine zan (zbi ?_)
  obtain rfl := zah h
  refine ⟨[(zab (decide (((s.Divisor.Digits.length : Int) : Int) ≤ 4)))], zrt, ⟨_, rfl, hL11.done, ?_⟩⟩
  exact zrt
 replace h := ite_f hc12 h
 refine zcl rfl rfl (zed hc12) (zcl rfl rfl (zed hc12) (zcl rfl rfl (zed hc12) (zcl rfl rfl (zed hc12) (zcl rfl rfl (zed hc12) ?_))))
 refine zag (zcv (t := (decide (((s.Uses.length : Int) : Int) ≤ 12))) (v := zF) rfl (zed hc12) rfl ?_)
 refine zag (zak (v := zF) rfl ?_)
 refine zan (zbi ?_)
 obtain rfl := zah h
 refine ⟨[zF], zrt, ⟨_, rfl, hL11.done, ?_⟩⟩
 exact zrt
theorem rweight_w (N : Nat) : ∀ (p : Proof) (p_v : Value) (p_v1 : Value) (p_v2 : Value) (p_v3 : Value) (w : World) (S : Nat → Prop) (p_h : Rs rStep (vH w S [] w) p_v p.Steps) (p_h1 : Rs rBig (vH w S [] w) p_v1 p.Form) (p_h2 : Rs (rInt .u32) (vH w S [] w) p_v2 p.Bound.Digits) (p_h3 : Rs rProof (vH w S [] w) p_v3 p.Children) (r : Int) (h : rweight N p = some r), Calls Tryz.prog 119 #[(zap #[p_v, p_v1, (zab p.Bound.Negative), p_v2, p_v3])] w (Ret w (fun v w' => (zI r) = v ∧ True)) := by
 induction N with
 | zero => intro p p_v p_v1 p_v2 p_v3 w S p_h p_h1 p_h2 p_h3 r h; cases (show (none : Option Int) = some r from h)
 | succ N ih =>
  intro p p_v p_v1 p_v2 p_v3 w S p_h p_h1 p_h2 p_h3 r h
  replace h : rweight_step N (rweight N) p = some r := h
  unfold rweight_step at h
  have hL : vL w w [] [] := Go.X.Loc.begin0 w
  refine calls_of (l := [(zap #[p_v, p_v1, (zab p.Bound.Negative), p_v2, p_v3])]) (rl := [.tmp 2]) (n := 59) Tryz.func119 rfl rfl rfl (zae rfl) ?_
  refine zaj (zaf rfl (zag (zdj (cs := [p_v, p_v1, (zab p.Bound.Negative), p_v2, p_v3]) rfl rfl hL ?_)))
  intro b1 w2 hL3 hS5
  have K4 := ks w hS5
  refine zag (zak (v := (zI 0)) rfl ?_)
  refine zan (zaj (zaf rfl (zag (zam (q := 0) zbk rfl ti67 rfl rfl rfl ?_))))
  refine zag (zau (v := p_v) zcs rfl rfl (hL3.at 0 rfl rfl) rfl ?_)
  have f6 := (p_h.mono (K4 S))
  refine zag (zbc (v := p_v) zcs rfl f6 ?_)
  refine zag (zbz (x := 1) (y := (p.Steps.length : Int)) (z := (iw (1 + (p.Steps.length : Int)))) rfl rfl rfl ?_)
  refine zag (zak (v := (zI (iw (1 + (p.Steps.length : Int))))) rfl ?_)
  refine zan (zaj (zaj ?_))
  obtain ⟨s10, h, g10⟩ := zec h
  refine zbs (fun e w' => ∃ (x10 : Bool) (u : Env), x10 = s10 ∧ e = upds [(1, (zal (some ⟨b1, 0, none⟩))), (3, (zI (iw (1 + (p.Steps.length : Int))))), (20, (zab x10))] u ∧ vL w w' [some b1] [zac [p_v, p_v1, (zab p.Bound.Negative), p_v2, p_v3]] ∧ Keep w.heap.size [some b1] w2 [some b1] w' ∧ True) ?_ ?_
  ·
   refine zaf rfl (zag (zam (q := 1) zbk rfl ti51 rfl rfl rfl ?_))
   refine zag (zau (v := p_v1) zbh rfl rfl (hL3.at 0 rfl rfl) rfl ?_)
   obtain ⟨r10, q10, h⟩ := zec h
   have f10 := (p_h1.mono (K4 S))
   refine zag (zay en145 rfl rfl (rbigs_w N p.Form p_v1 _ Any (f10.mono vw_any) r10 q10) ?_)
   rintro _ w10 hE10 ⟨rfl, -⟩
   obtain ⟨hL10, K10⟩ := zl hL3 hE10
   refine zag (zeb (x := r10) rfl ?_)
   refine zag (zai (v := (zab (!r10))) rfl ?_)
   by_cases hc10 : (!r10) = true
   ·
    replace h := ite_t hc10 h
    refine zcl rfl rfl hc10 ?_
    refine zcl rfl rfl hc10 ?_
    refine zcl rfl rfl hc10 ?_
    refine zcl rfl rfl hc10 ?_
    refine zcl rfl rfl hc10 ?_
    refine zag (zce (t := (!r10)) (v := zT) rfl hc10 rfl (zan ?_))
    obtain rfl := zah h
    refine zaq ?_
    exact ⟨true, _, rfl, (zeg ⟨rfl, rfl, rfl, trivial⟩), hL10, K10, trivial⟩
   replace h := ite_f hc10 h
   refine zbt rfl rfl (zeh hc10) (zam (q := 2) zbk rfl ti57 rfl rfl rfl ?_)
   refine zbt rfl rfl (zeh hc10) (zam (q := 3) zar rfl ti55 rfl rfl rfl ?_)
   refine zbt rfl rfl (zeh hc10) (zau (v := p_v2) zas rfl rfl (hL10.at 0 rfl rfl) rfl ?_)
   have f11 := ((p_h2.mono (K4 S)).mono (K10 S))
   refine zbt rfl rfl (zeh hc10) (zbc (v := p_v2) zas rfl f11 ?_)
   refine zbt rfl rfl (zeh hc10) (OpY.gtr (x := (p.Bound.Digits.length : Int)) (y := 4) (((p.Bound.Digits.length : Int) : Int) > 4) rfl rfl zbd ?_)
   refine zag (zcv (t := (!r10)) (v := (zab (decide (((p.Bound.Digits.length : Int) : Int) > 4)))) rfl (zeh hc10) rfl (zan ?_))
   obtain rfl := zah h
   refine zaq ?_
   exact ⟨(decide (((p.Bound.Digits.length : Int) : Int) > 4)), _, rfl, (zeg ⟨rfl, rfl, rfl, trivial⟩), hL10, K10, trivial⟩
  rintro _ w11 ⟨x10, u, rfl, rfl, hL11, K11, -⟩
  replace h := g10
  try dsimp only at h
  refine zcq x10 rfl (fun hc11 => ?_) (fun hc11 => ?_)
  ·
   replace h := ite_t hc11 h
   refine zaj (zaf rfl (zag (zak (v := (zI 101)) rfl ?_)))
   refine zan (zbi ?_)
   obtain rfl := zah h
   refine ⟨[(zI 101)], zrt, ⟨_, rfl, hL11.done, ?_⟩⟩
   exact zrt
  replace h := ite_f hc11 h
  refine zbf (zaj (zaj (zaf rfl (zag (zak (v := (zI 0)) rfl (zan ?_))))))
  obtain ⟨s11, hl10, g11⟩ := zec h
  refine zbs (fun e w' => ∃  (u : Env), (Sum.inl ()) = s11 ∧ e = upds [(1, (zal (some ⟨b1, 0, none⟩))), (3, (zI (iw (1 + (p.Steps.length : Int)))))] u ∧ vL w w' [some b1] [zac [p_v, p_v1, (zab p.Bound.Negative), p_v2, p_v3]] ∧ Keep w.heap.size [some b1] w11 [some b1] w' ∧ True) ?_ ?_
  ·
   refine zbb ?_
   refine zcb hl10 (fun (ss : Int) (e : Env) (w' : World) => match ss with | i10 => ∃ (u : Env), e = upds [(1, (zal (some ⟨b1, 0, none⟩))), (3, (zI (iw (1 + (p.Steps.length : Int))))), (4, (zI i10))] u ∧ vL w w' [some b1] [zac [p_v, p_v1, (zab p.Bound.Negative), p_v2, p_v3]] ∧ Keep w.heap.size [some b1] w11 [some b1] w' ∧ True) ⟨_, (zeg ⟨rfl, rfl, rfl, trivial⟩), hL11, zbq, trivial⟩ ?_
   rintro i10 oo _ w12 ⟨u, rfl, hL12, K12, -⟩ h hd10
   rw [rweight_b1] at h
   refine zaj (zaj ?_)
   obtain ⟨s12, h, g12⟩ := zec h
   refine zbs (fun e w' => ∃ (x11 : Bool) (u : Env), x11 = s12 ∧ e = upds [(1, (zal (some ⟨b1, 0, none⟩))), (3, (zI (iw (1 + (p.Steps.length : Int))))), (4, (zI i10)), (29, (zab x11))] u ∧ vL w w' [some b1] [zac [p_v, p_v1, (zab p.Bound.Negative), p_v2, p_v3]] ∧ Keep w.heap.size [some b1] w12 [some b1] w' ∧ True) ?_ ?_
   ·
    refine zaf rfl (zag (zai (v := (zI i10)) rfl ?_))
    refine zag (zam (q := 0) zbk rfl ti67 rfl rfl rfl ?_)
    refine zag (zau (v := p_v) zcs rfl rfl (hL12.at 0 rfl rfl) rfl ?_)
    have f12 := ((f6.mono (K11 S)).mono (K12 S))
    refine zag (zbc (v := p_v) zcs rfl f12 ?_)
    refine zag (zci (x := i10) (y := (p.Steps.length : Int)) ((i10 : Int) < (p.Steps.length : Int)) rfl rfl zbd ?_)
    refine zag (zai (v := (zab (decide ((i10 : Int) < (p.Steps.length : Int))))) rfl ?_)
    by_cases hc12 : (i10 : Int) < (p.Steps.length : Int)
    ·
     replace h := ite_t hc12 h
     refine zbt rfl rfl (zef hc12) (zai (v := (zI (iw (1 + (p.Steps.length : Int))))) rfl ?_)
     refine zbt rfl rfl (zef hc12) (OpY.leq (x := (iw (1 + (p.Steps.length : Int)))) (y := 100) (((iw (1 + (p.Steps.length : Int))) : Int) ≤ 100) rfl rfl zbd ?_)
     refine zag (zce (t := (decide ((i10 : Int) < (p.Steps.length : Int)))) (v := (zab (decide (((iw (1 + (p.Steps.length : Int))) : Int) ≤ 100)))) rfl (zef hc12) rfl (zan ?_))
     obtain rfl := zah h
     refine zaq ?_
     exact ⟨(decide (((iw (1 + (p.Steps.length : Int))) : Int) ≤ 100)), _, rfl, (zeg ⟨rfl, rfl, rfl, rfl, trivial⟩), hL12, zbq, trivial⟩
    replace h := ite_f hc12 h
    refine zcl rfl rfl (zed hc12) (zcl rfl rfl (zed hc12) ?_)
    refine zag (zcv (t := (decide ((i10 : Int) < (p.Steps.length : Int)))) (v := zF) rfl (zed hc12) rfl (zan ?_))
    obtain rfl := zah h
    refine zaq ?_
    exact ⟨false, _, rfl, (zeg ⟨rfl, rfl, rfl, rfl, trivial⟩), hL12, zbq, trivial⟩
   rintro _ w13 ⟨x11, u, rfl, rfl, hL13, K13, -⟩
   replace h := g12
   try dsimp only at h
   refine zcq x11 rfl (fun hc13 => ?_) (fun hc13 => ?_)
   ·
    replace h := ite_t hc13 h
    refine zbf (zaj (zbb (zaj (zaf rfl (zag (zam (q := 0) zbk rfl ti67 rfl rfl rfl ?_))))))
    refine zag (zau (v := p_v) zcs rfl rfl (hL13.at 0 rfl rfl) rfl ?_)
    refine zag (zai (v := (zI i10)) rfl ?_)
    obtain ⟨x12, n10, q12, q13, -, h⟩ := zix h
    have f13 := (((f6.mono (K11 S)).mono (K12 S)).mono (K13 S))
    obtain ⟨b10, o10, c10, vs10, q14, q15, f14, q16⟩ := zcw f13 q13
    obtain ⟨v10, v11, rfl, k10, k11, -⟩ := rStep_open q16
    refine zag (zbp (r := rStep) (v := p_v) (n := n10) (m := (o10 + n10 * rStep.sz)) zcs ti97 rfl q14 rfl q12 q13 rfl ?_)
    refine zag (zdl (vs := [v10, (zab x12.Divisor.Negative), v11]) zdg rfl ti97 rfl rfl zek f14 ?_)
    obtain ⟨r11, q17, h⟩ := zec h
    refine zag (zay en146 rfl rfl (rSmallStep_w N x12 v10 v11 _ Any (k10.mono vw_any) (k11.mono vw_any) r11 q17) ?_)
    rintro _ w14 hE11 ⟨rfl, -⟩
    obtain ⟨hL14, K14⟩ := zl hL13 hE11
    refine zag (zeb (x := r11) rfl (zan ?_))
    refine zcq (!r11) rfl (fun hc14 => ?_) (fun hc14 => ?_)
    ·
     replace h := ite_t hc14 h
     refine zaj (zaf rfl (zag (zak (v := (zI 101)) rfl ?_)))
     refine zan (zbi ?_)
     obtain rfl := zah h
     obtain rfl := hd10 _ rfl
     replace h := g11
     try dsimp only at h
     obtain rfl := zah h
     refine ⟨[(zI 101)], zrt, ⟨_, rfl, hL14.done, ?_⟩⟩
     exact zrt
    replace h := ite_f hc14 h
    refine zbf (zbn (zaf rfl (zag (zai (v := (zI i10)) rfl ?_))))
    refine zag (zbz (x := i10) (y := 1) (z := (iw (i10 + 1))) rfl rfl rfl ?_)
    refine zag (zak (v := (zI (iw (i10 + 1)))) rfl (zan ?_))
    obtain rfl := zah h
    refine zaq ⟨(iw (i10 + 1)), rfl, ?_⟩
    exact ⟨_, (zeg ⟨rfl, rfl, rfl, trivial⟩), hL14, (zao (zao K12 K13) K14), trivial⟩
   replace h := ite_f hc13 h
   refine zck rfl ?_
   obtain rfl := zah h
   obtain rfl := hd10 _ rfl
   replace h := g11
   try dsimp only at h
   refine zaq ?_
   exact ⟨_, rfl, (zeg ⟨rfl, rfl, trivial⟩), hL13, (zao K12 K13), trivial⟩
  rintro _ w15 ⟨u, rfl, rfl, hL15, K15, -⟩
  replace h := g11
  try dsimp only at h
  refine zaj (zaj (zaf rfl (zag (zak (v := (zI 0)) rfl (zan ?_)))))
  obtain ⟨s13, hl11, g13⟩ := zec h
  refine zbs (fun e w' => ∃ (n11 : Int) (u : Env), n11 = s13 ∧ e = upds [(3, (zI n11))] u ∧ vL w w' [] [] ∧ Keep w.heap.size [some b1] w15 [] w' ∧ True) ?_ ?_
  ·
   refine zbb ?_
   refine zcb hl11 (fun (ss : (Int × Int)) (e : Env) (w' : World) => match ss with | (n12, i11) => ∃ (u : Env), e = upds [(1, (zal (some ⟨b1, 0, none⟩))), (3, (zI n12)), (5, (zI i11))] u ∧ vL w w' [some b1] [zac [p_v, p_v1, (zab p.Bound.Negative), p_v2, p_v3]] ∧ Keep w.heap.size [some b1] w15 [some b1] w' ∧ True) ⟨_, (zeg ⟨rfl, rfl, rfl, trivial⟩), hL15, zbq, trivial⟩ ?_
   rintro ⟨n12, i11⟩ oo _ w16 ⟨u, rfl, hL16, K16, -⟩ h hd11
   rw [rweight_b2] at h
   refine zaj (zaj ?_)
   obtain ⟨s14, h, g14⟩ := zec h
   refine zbs (fun e w' => ∃ (x13 : Bool) (u : Env), x13 = s14 ∧ e = upds [(1, (zal (some ⟨b1, 0, none⟩))), (3, (zI n12)), (5, (zI i11)), (47, (zab x13))] u ∧ vL w w' [some b1] [zac [p_v, p_v1, (zab p.Bound.Negative), p_v2, p_v3]] ∧ Keep w.heap.size [some b1] w16 [some b1] w' ∧ True) ?_ ?_
   ·
    refine zaf rfl (zag (zai (v := (zI i11)) rfl ?_))
    refine zag (zam (q := 4) zbk rfl ti68 rfl rfl rfl ?_)
    refine zag (zau (v := p_v3) zcg rfl rfl (hL16.at 0 rfl rfl) rfl ?_)
    have f15 := ((((p_h3.mono (K4 S)).mono (K11 S)).mono (K15 S)).mono (K16 S))
    refine zag (zbc (v := p_v3) zcg rfl f15 ?_)
    refine zag (zci (x := i11) (y := (p.Children.length : Int)) ((i11 : Int) < (p.Children.length : Int)) rfl rfl zbd ?_)
    refine zag (zai (v := (zab (decide ((i11 : Int) < (p.Children.length : Int))))) rfl ?_)
    by_cases hc15 : (i11 : Int) < (p.Children.length : Int)
    ·
     replace h := ite_t hc15 h
     refine zbt rfl rfl (zef hc15) (zai (v := (zI n12)) rfl ?_)
     refine zbt rfl rfl (zef hc15) (OpY.leq (x := n12) (y := 100) ((n12 : Int) ≤ 100) rfl rfl zbd ?_)
     refine zag (zce (t := (decide ((i11 : Int) < (p.Children.length : Int)))) (v := (zab (decide ((n12 : Int) ≤ 100)))) rfl (zef hc15) rfl (zan ?_))
     obtain rfl := zah h
     refine zaq ?_
     exact ⟨(decide ((n12 : Int) ≤ 100)), _, rfl, (zeg ⟨rfl, rfl, rfl, rfl, trivial⟩), hL16, zbq, trivial⟩
    replace h := ite_f hc15 h
    refine zcl rfl rfl (zed hc15) (zcl rfl rfl (zed hc15) ?_)
    refine zag (zcv (t := (decide ((i11 : Int) < (p.Children.length : Int)))) (v := zF) rfl (zed hc15) rfl (zan ?_))
    obtain rfl := zah h
    refine zaq ?_
    exact ⟨false, _, rfl, (zeg ⟨rfl, rfl, rfl, rfl, trivial⟩), hL16, zbq, trivial⟩
   rintro _ w17 ⟨x13, u, rfl, rfl, hL17, K17, -⟩
   replace h := g14
   try dsimp only at h
   refine zcq x13 rfl (fun hc16 => ?_) (fun hc16 => ?_)
   ·
    replace h := ite_t hc16 h
    refine zbf (zaj (zbb (zaf rfl (zag (zai (v := (zI n12)) rfl ?_)))))
    refine zag (zam (q := 4) zbk rfl ti68 rfl rfl rfl ?_)
    refine zag (zau (v := p_v3) zcg rfl rfl (hL17.at 0 rfl rfl) rfl ?_)
    refine zag (zai (v := (zI i11)) rfl ?_)
    obtain ⟨x14, n13, q19, q20, -, h⟩ := zix h
    have f16 := (((((p_h3.mono (K4 S)).mono (K11 S)).mono (K15 S)).mono (K16 S)).mono (K17 S))
    obtain ⟨b11, o11, c11, vs11, q21, q22, f17, q23⟩ := zcw f16 q20
    obtain ⟨v12, v13, v14, v15, rfl, k12, k13, k14, k15, -⟩ := rProof_open q23
    refine zag (zbp (r := rProof) (v := p_v3) (n := n13) (m := (o11 + n13 * rProof.sz)) zcg ti70 rfl q21 rfl q19 q20 rfl ?_)
    refine zag (zdl (vs := [v12, v13, (zab x14.Bound.Negative), v14, v15]) zbk rfl ti70 rfl rfl zek f17 ?_)
    obtain ⟨r12, q24, h⟩ := zec h
    refine zag (zay en119 rfl rfl (ih x14 v12 v13 v14 v15 _ Any (k12.mono vw_any) (k13.mono vw_any) (k14.mono vw_any) (k15.mono vw_any) r12 q24) ?_)
    rintro _ w18 hE12 ⟨rfl, -⟩
    obtain ⟨hL18, K18⟩ := zl hL17 hE12
    refine zag (zbz (x := n12) (y := r12) (z := (iw (n12 + r12))) rfl rfl rfl ?_)
    refine zag (zak (v := (zI (iw (n12 + r12)))) rfl ?_)
    refine zan (zbn (zaf rfl (zag (zai (v := (zI i11)) rfl ?_))))
    refine zag (zbz (x := i11) (y := 1) (z := (iw (i11 + 1))) rfl rfl rfl ?_)
    refine zag (zak (v := (zI (iw (i11 + 1)))) rfl (zan ?_))
    obtain rfl := zah h
    refine zaq ⟨((iw (n12 + r12)), (iw (i11 + 1))), rfl, ?_⟩
    exact ⟨_, (zeg ⟨rfl, rfl, rfl, trivial⟩), hL18, (zao (zao K16 K17) K18), trivial⟩
   replace h := ite_f hc16 h
   refine zck rfl ?_
   have hp10 := hL17.pick [] rfl rfl rfl
   have hL19 : vL w w17 [] [] := hp10.1
   have K19 := ks w hp10.2
   obtain rfl := zah h
   obtain rfl := hd11 _ rfl
   replace h := g13
   try dsimp only at h
   refine zaq ?_
   exact ⟨n12, _, rfl, (zeg zrt), hL19, (zao (zao K16 K17) K19), trivial⟩
  rintro _ w19 ⟨n11, u, rfl, rfl, hL20, K20, -⟩
  replace h := g13
  try dsimp only at h
  refine zaj (zaf rfl (zag (zai (v := (zI n11)) rfl ?_)))
  refine zag (zak (v := (zI n11)) rfl ?_)
  refine zan (zbi ?_)
  obtain rfl := zah h
  refine ⟨[(zI n11)], zrt, ⟨_, rfl, hL20.done, ?_⟩⟩
  exact zrt
theorem rSmallProof_w (N : Nat) (p : Proof) (p_v : Value) (p_v1 : Value) (p_v2 : Value) (p_v3 : Value) (w : World) (S : Nat → Prop) (p_h : Rs rStep (vH w S [] w) p_v p.Steps) (p_h1 : Rs rBig (vH w S [] w) p_v1 p.Form) (p_h2 : Rs (rInt .u32) (vH w S [] w) p_v2 p.Bound.Digits) (p_h3 : Rs rProof (vH w S [] w) p_v3 p.Children) (r : Bool) (h : rSmallProof N p = some r) :
  Calls Tryz.prog 90 #[(zap #[p_v, p_v1, (zab p.Bound.Negative), p_v2, p_v3])] w (Ret w (fun v w' => (zab r) = v ∧ True)) := by
 unfold rSmallProof at h
 have hL : vL w w [] [] := Go.X.Loc.begin0 w
 refine calls_of (l := [(zap #[p_v, p_v1, (zab p.Bound.Negative), p_v2, p_v3])]) (rl := [.tmp 2]) (n := 6) Tryz.func90 rfl rfl rfl (zae rfl) ?_
 refine zaj (zaf rfl (zag (zdj (cs := [p_v, p_v1, (zab p.Bound.Negative), p_v2, p_v3]) rfl rfl hL ?_)))
 intro b1 w2 hL3 hS5
 have K4 := ks w hS5
 refine zag (zak (v := zF) rfl ?_)
 refine zan (zaj (zaf rfl (zag (zbj (vs := [p_v, p_v1, (zab p.Bound.Negative), p_v2, p_v3]) zbk rfl ti70 rfl (hL3.at 0 rfl rfl) rfl rfl ?_))))
 obtain ⟨r6, q7, h⟩ := zec h
 have f9 := (p_h.mono (K4 S))
 have f10 := (p_h1.mono (K4 S))
 have f11 := (p_h2.mono (K4 S))
 have f12 := (p_h3.mono (K4 S))
 refine zag (zay en119 rfl rfl (rweight_w N p p_v p_v1 p_v2 p_v3 _ Any (f9.mono vw_any) (f10.mono vw_any) (f11.mono vw_any) (f12.mono vw_any) r6 q7) ?_)
 rintro _ w10 hE10 ⟨rfl, -⟩
 have hL10 := hL3.ext hE10
 refine zag (OpY.leq (x := r6) (y := 40) ((r6 : Int) ≤ 40) rfl rfl zbd ?_)
 refine zag (zak (v := (zab (decide ((r6 : Int) ≤ 40)))) rfl ?_)
 refine zan (zbi ?_)
 obtain rfl := zah h
 refine ⟨[(zab (decide ((r6 : Int) ≤ 40)))], zrt, ⟨_, rfl, hL10.done, ?_⟩⟩
 exact zrt
end Go.Proofs.YtcakdidcpoolcaaGreatDoor.WD

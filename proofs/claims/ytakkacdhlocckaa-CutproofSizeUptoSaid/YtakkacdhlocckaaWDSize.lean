/- Walks, written by a program of mine (wip/tool); the kernel checks them. -/
import Derived.Test.YtakkacdhlocckaaProg
import Derived.Test.YtakkacdhlocckaaSqSize
import Derived.Test.YtakkacdhlocckaaPD
import Derived.Test.YtakkacdhlocckaaWASize
import Derived.Test.YtakkacdhlocckaaWRSize
import Derived.Test.YtakkacdhlocckaaWBSize
import Derived.Test.YtakkacdhlocckaaWCSize
set_option maxRecDepth 100000
set_option maxHeartbeats 4000000
set_option linter.unusedVariables false
namespace Go.Proofs.Ytakkacdhlocckaa.WD
open Go Go.RowKit Go.X Go.D Go.Proofs.Ytakkacdhlocckaa.WA Go.Proofs.Ytakkacdhlocckaa.WR Go.Proofs.Ytakkacdhlocckaa.WB Go.Proofs.Ytakkacdhlocckaa.WC
theorem en25 : Enters Try.prog 25 := ⟨Try.f25, Try.func25, by kernel_rfl, by kernel_rfl⟩
theorem en22 : Enters Try.prog 22 := ⟨Try.f22, Try.func22, by kernel_rfl, by kernel_rfl⟩
theorem en23 : Enters Try.prog 23 := ⟨Try.f23, Try.func23, by kernel_rfl, by kernel_rfl⟩
theorem en43 : Enters Try.prog 43 := ⟨Try.f43, Try.func43, by kernel_rfl, by kernel_rfl⟩
theorem en13 : Enters Try.prog 13 := ⟨Try.f13, Try.func13, by kernel_rfl, by kernel_rfl⟩
theorem en52 : Enters Try.prog 52 := ⟨Try.f52, Try.func52, by kernel_rfl, by kernel_rfl⟩
theorem rSize_w (N : Nat) : ∀ (p : Proof) (p_v : Value) (p_v1 : Value) (p_v2 : Value) (p_v3 : Value) (w : World) (S : Nat → Prop) (p_h : Rs rStep (vH w S [] w) p_v p.Steps) (p_h1 : Rs rBig (vH w S [] w) p_v1 p.Form) (p_h2 : Rs (rInt .u32) (vH w S [] w) p_v2 p.Bound.Digits) (p_h3 : Rs rProof (vH w S [] w) p_v3 p.Children) (r : Int) (h : rSize N p = some r), Calls Try.prog 22 #[(zaq #[p_v, p_v1, (zaa p.Bound.Negative), p_v2, p_v3])] w (Ret w (fun v w' => (zab .i64 r) = v ∧ True)) := by
 induction N with
 | zero => intro p p_v p_v1 p_v2 p_v3 w S p_h p_h1 p_h2 p_h3 r h; cases (show (none : Option Int) = some r from h)
 | succ N ih =>
  intro p p_v p_v1 p_v2 p_v3 w S p_h p_h1 p_h2 p_h3 r h
  replace h : rSize_step N (rSize N) p = some r := h
  unfold rSize_step at h
  have hL : vL w w [] [] := Go.X.Loc.begin0 w
  refine calls_of (l := [(zaq #[p_v, p_v1, (zaa p.Bound.Negative), p_v2, p_v3])]) (rl := [.tmp 2]) (n := 30) Try.func22 rfl rfl rfl (zae rfl) ?_
  refine zaj (zah rfl (zaf (zdh (cs := [p_v, p_v1, (zaa p.Bound.Negative), p_v2, p_v3]) rfl rfl hL ?_)))
  intro b1 w2 hL3 hS5
  have K4 := ks w hS5
  refine zaf (zal (v := (zab .i64 0)) rfl ?_)
  refine zar (zaj (zah rfl (zaf (zap (q := 0) zav rfl ti39 rfl rfl rfl ?_))))
  refine zaf (zax (v := p_v) zbi rfl rfl (hL3.at 0 rfl rfl) rfl ?_)
  have f6 := (p_h.mono (K4 S))
  refine zaf (zba (v := p_v) zbi rfl f6 ?_)
  refine zaf (zal (v := (zab .i64 (p.Steps.length : Int))) rfl ?_)
  refine zar (zaj (zaj (zah rfl (zaf (zap (q := 4) zav rfl ti40 rfl rfl rfl ?_)))))
  refine zaf (zax (v := p_v3) zbj rfl rfl (hL3.at 0 rfl rfl) rfl ?_)
  have f7 := (p_h3.mono (K4 S))
  refine zaf (zba (v := p_v3) zbj rfl f7 ?_)
  refine zaf (zdn (x := (p.Children.length : Int)) (y := 0) (((p.Children.length : Int) : Int) > 0) rfl rfl zbf ?_)
  refine zar ?_
  obtain ⟨s10, h, g10⟩ := zdp h
  refine zca (fun e w' => ∃ (n10 : Int) (u : Env), n10 = s10 ∧ e = upds [(1, (zan (some ⟨b1, 0, none⟩))), (3, (zab .i64 n10))] u ∧ vL w w' [some b1] [zac [p_v, p_v1, (zaa p.Bound.Negative), p_v2, p_v3]] ∧ Keep w.heap.size [some b1] w2 [some b1] w' ∧ True) ?_ ?_
  ·
   refine zbk (((p.Children.length : Int) : Int) > 0) rfl (fun hc10 => ?_) (fun hc10 => ?_)
   ·
    replace h := ite_t hc10 h
    refine zah rfl (zaf (zai (v := (zab .i64 (p.Steps.length : Int))) rfl ?_))
    refine zaf (zcd (x := (p.Steps.length : Int)) (y := 1) (z := (iw ((p.Steps.length : Int) + 1))) rfl rfl rfl ?_)
    refine zaf (zal (v := (zab .i64 (iw ((p.Steps.length : Int) + 1)))) rfl ?_)
    refine zar ?_
    obtain rfl := zag h
    refine zau ?_
    exact ⟨(iw ((p.Steps.length : Int) + 1)), _, rfl, (zdt ⟨rfl, rfl, trivial⟩), hL3, zcb, trivial⟩
   ·
    replace h := ite_f hc10 h
    refine zbl ?_
    obtain rfl := zag h
    refine zau ?_
    exact ⟨(p.Steps.length : Int), _, rfl, (zdt ⟨rfl, rfl, trivial⟩), hL3, zcb, trivial⟩
  ·
   rintro _ w10 ⟨n10, u, rfl, rfl, hL10, K10, -⟩
   replace h := g10
   try dsimp only at h
   refine zaj (zaj (zah rfl (zaf (zal (v := (zab .i64 0)) rfl ?_))))
   refine zar ?_
   obtain ⟨s11, hl10, g11⟩ := zdp h
   refine zca (fun e w' => ∃ (n11 : Int) (u : Env), n11 = s11 ∧ e = upds [(3, (zab .i64 n11))] u ∧ vL w w' [] [] ∧ Keep w.heap.size [some b1] w10 [] w' ∧ True) ?_ ?_
   ·
    refine zbm ?_
    refine zcl hl10 (fun (ss : (Int × Int)) (e : Env) (w' : World) => match ss with | (n12, i10) => ∃ (u : Env), e = upds [(1, (zan (some ⟨b1, 0, none⟩))), (3, (zab .i64 n12)), (4, (zab .i64 i10))] u ∧ vL w w' [some b1] [zac [p_v, p_v1, (zaa p.Bound.Negative), p_v2, p_v3]] ∧ Keep w.heap.size [some b1] w10 [some b1] w' ∧ True) ⟨_, (zdt ⟨rfl, rfl, rfl, trivial⟩), hL10, zcb, trivial⟩ ?_
    rintro ⟨n12, i10⟩ oo _ w11 ⟨u, rfl, hL11, K11, -⟩ h hd10
    rw [rSize_b1] at h
    refine zaj (zaj (zah rfl (zaf (zai (v := (zab .i64 i10)) rfl ?_))))
    refine zaf (zap (q := 4) zav rfl ti40 rfl rfl rfl ?_)
    refine zaf (zax (v := p_v3) zbj rfl rfl (hL11.at 0 rfl rfl) rfl ?_)
    have f10 := ((f7.mono (K10 S)).mono (K11 S))
    refine zaf (zba (v := p_v3) zbj rfl f10 ?_)
    refine zaf (zcv (x := i10) (y := (p.Children.length : Int)) ((i10 : Int) < (p.Children.length : Int)) rfl rfl zbf ?_)
    refine zar ?_
    refine zbk ((i10 : Int) < (p.Children.length : Int)) rfl (fun hc11 => ?_) (fun hc11 => ?_)
    ·
     replace h := ite_t hc11 h
     refine zbl (zaj (zbm (zah rfl (zaf (zai (v := (zab .i64 n12)) rfl ?_)))))
     refine zaf (zap (q := 4) zav rfl ti40 rfl rfl rfl ?_)
     refine zaf (zax (v := p_v3) zbj rfl rfl (hL11.at 0 rfl rfl) rfl ?_)
     refine zaf (zai (v := (zab .i64 i10)) rfl ?_)
     obtain ⟨x10, q10, h⟩ := zdp h
     obtain ⟨n13, q11, q12⟩ := zdu q10
     obtain ⟨b10, o10, c10, vs10, q13, q14, f11, q15⟩ := zdb f10 q12
     obtain ⟨v10, v11, v12, v13, rfl, k10, k11, k12, k13, -⟩ := rProof_open q15
     refine zaf (zbw (r := rProof) (v := p_v3) (n := n13) (m := (o10 + n13 * rProof.sz)) zbj ti42 rfl q13 rfl q11 q12 rfl ?_)
     refine zaf (zdf (vs := [v10, v11, (zaa x10.Bound.Negative), v12, v13]) zav rfl ti42 rfl rfl zdy f11 ?_)
     obtain ⟨r10, q16, h⟩ := zdp h
     refine zaf (zay en22 rfl rfl (ih x10 v10 v11 v12 v13 _ Any (k10.mono vw_any) (k11.mono vw_any) (k12.mono vw_any) (k13.mono vw_any) r10 q16) ?_)
     rintro _ w12 hE10 ⟨rfl, -⟩
     have hL12 := hL11.ext hE10
     have K12 := ke hL11 hE10
     refine zaf (zcd (x := n12) (y := r10) (z := (iw (n12 + r10))) rfl rfl rfl ?_)
     refine zaf (zal (v := (zab .i64 (iw (n12 + r10)))) rfl ?_)
     refine zar (zbz (zah rfl (zaf (zai (v := (zab .i64 i10)) rfl ?_))))
     refine zaf (zcd (x := i10) (y := 1) (z := (iw (i10 + 1))) rfl rfl rfl ?_)
     refine zaf (zal (v := (zab .i64 (iw (i10 + 1)))) rfl ?_)
     refine zar ?_
     obtain rfl := zag h
     refine zau ⟨((iw (n12 + r10)), (iw (i10 + 1))), rfl, ?_⟩
     exact ⟨_, (zdt ⟨rfl, rfl, rfl, trivial⟩), hL12, (zat K11 K12), trivial⟩
    ·
     replace h := ite_f hc11 h
     refine zcs rfl ?_
     have hp10 := hL11.pick [] rfl rfl rfl
     have hL13 : vL w w11 [] [] := hp10.1
     have K13 := ks w hp10.2
     obtain rfl := zag h
     obtain rfl := hd10 _ rfl
     replace h := g11
     try dsimp only at h
     skip
     refine zau ?_
     exact ⟨n12, _, rfl, (zdt ⟨rfl, trivial⟩), hL13, (zat K11 K13), trivial⟩
   ·
    rintro _ w13 ⟨n11, u, rfl, rfl, hL14, K14, -⟩
    replace h := g11
    try dsimp only at h
    refine zaj (zah rfl (zaf (zai (v := (zab .i64 n11)) rfl ?_)))
    refine zaf (zal (v := (zab .i64 n11)) rfl ?_)
    refine zar (zbn ?_)
    obtain rfl := zag h
    refine ⟨[(zab .i64 n11)], ⟨rfl, trivial⟩, ⟨_, rfl, hL14.done, ?_⟩⟩
    exact ⟨rfl, trivial⟩
theorem rbigs_w (N : Nat) (l : (List Big)) (l_v : Value) (w : World) (S : Nat → Prop) (l_h : Rs rBig (vH w S [] w) l_v l) (r : Bool) (h : rbigs N l = some r) :
  Calls Try.prog 43 #[l_v] w (Ret w (fun v w' => (zaa r) = v ∧ True)) := by
 unfold rbigs at h
 have hL : vL w w [] [] := Go.X.Loc.begin0 w
 refine calls_of (l := [l_v]) (rl := [.tmp 2]) (n := 20) Try.func43 rfl rfl rfl (zae rfl) ?_
 refine zaj (zah rfl (zaf (zal (v := (zaa false)) rfl ?_)))
 refine zar (zaj (zaj (zah rfl (zaf (zal (v := (zab .i64 0)) rfl ?_)))))
 refine zar ?_
 obtain ⟨s10, hl10, g10⟩ := zdp h
 refine zca (fun e w' => ∃  (u : Env), (Sum.inl ()) = s10 ∧ e = upds [(0, l_v)] u ∧ vL w w' [] [] ∧ Keep w.heap.size [] w [] w' ∧ True) ?_ ?_
 ·
  refine zbm ?_
  refine zcl hl10 (fun (ss : Int) (e : Env) (w' : World) => match ss with | i10 => ∃ (u : Env), e = upds [(0, l_v), (3, (zab .i64 i10))] u ∧ vL w w' [] [] ∧ Keep w.heap.size [] w [] w' ∧ True) ⟨_, (zdt ⟨rfl, rfl, trivial⟩), hL, zcb, trivial⟩ ?_
  rintro i10 oo _ w10 ⟨u, rfl, hL10, K10, -⟩ h hd10
  rw [rbigs_b1] at h
  refine zaj (zaj (zah rfl (zaf (zai (v := (zab .i64 i10)) rfl ?_))))
  refine zaf (zai (v := l_v) rfl ?_)
  have f10 := (l_h.mono (K10 S))
  refine zaf (zba (v := l_v) zbb rfl f10 ?_)
  refine zaf (zcv (x := i10) (y := (l.length : Int)) ((i10 : Int) < (l.length : Int)) rfl rfl zbf ?_)
  refine zar ?_
  refine zbk ((i10 : Int) < (l.length : Int)) rfl (fun hc10 => ?_) (fun hc10 => ?_)
  ·
   replace h := ite_t hc10 h
   refine zbl (zaj (zbm (zaj (zah rfl (zaf (zai (v := l_v) rfl ?_))))))
   refine zaf (zai (v := (zab .i64 i10)) rfl ?_)
   obtain ⟨x10, q10, h⟩ := zdp h
   obtain ⟨n10, q11, q12⟩ := zdu q10
   obtain ⟨b10, o10, c10, vs10, q13, q14, f11, q15⟩ := zdb f10 q12
   obtain ⟨v10, rfl, k10, -⟩ := rBig_open q15
   refine zaf (zbw (r := rBig) (v := l_v) (n := n10) (m := (o10 + n10 * rBig.sz)) zbb ti26 rfl q13 rfl q11 q12 rfl ?_)
   have f12 := (f11.part (us := [v10]) 1 rfl)
   refine zaf (zap (q := (o10 + n10 * rBig.sz) + 1) zao rfl ti24 rfl rfl rfl ?_)
   refine zaf (zcp (v := v10) zam rfl rfl zdy f12 ?_)
   refine zaf (zba (v := v10) zam rfl k10 ?_)
   refine zaf (zdn (x := (x10.Digits.length : Int)) (y := 4) (((x10.Digits.length : Int) : Int) > 4) rfl rfl zbf ?_)
   refine zar ?_
   refine zbk (((x10.Digits.length : Int) : Int) > 4) rfl (fun hc11 => ?_) (fun hc11 => ?_)
   ·
    replace h := ite_t hc11 h
    refine zaj (zah rfl (zaf (zal (v := (zaa false)) rfl ?_)))
    refine zar (zbn ?_)
    obtain rfl := zag h
    obtain rfl := hd10 _ rfl
    replace h := g10
    try dsimp only at h
    obtain rfl := zag h
    refine ⟨[(zaa false)], ⟨rfl, trivial⟩, ⟨_, rfl, hL10.done, ?_⟩⟩
    exact ⟨rfl, trivial⟩
   ·
    replace h := ite_f hc11 h
    refine zbl (zbz (zah rfl (zaf (zai (v := (zab .i64 i10)) rfl ?_))))
    refine zaf (zcd (x := i10) (y := 1) (z := (iw (i10 + 1))) rfl rfl rfl ?_)
    refine zaf (zal (v := (zab .i64 (iw (i10 + 1)))) rfl ?_)
    refine zar ?_
    obtain rfl := zag h
    refine zau ⟨(iw (i10 + 1)), rfl, ?_⟩
    exact ⟨_, (zdt ⟨rfl, rfl, trivial⟩), hL10, K10, trivial⟩
  ·
   replace h := ite_f hc10 h
   refine zcs rfl ?_
   obtain rfl := zag h
   obtain rfl := hd10 _ rfl
   replace h := g10
   try dsimp only at h
   skip
   refine zau ?_
   exact ⟨_, rfl, (zdt ⟨rfl, trivial⟩), hL10, K10, trivial⟩
 ·
  rintro _ w11 ⟨u, rfl, rfl, hL11, K11, -⟩
  replace h := g10
  try dsimp only at h
  refine zaj (zah rfl (zaf (zai (v := l_v) rfl ?_)))
  have f13 := (l_h.mono (K11 S))
  refine zaf (zba (v := l_v) zbb rfl f13 ?_)
  refine zaf (OpY.leq (x := (l.length : Int)) (y := 6) (((l.length : Int) : Int) ≤ 6) rfl rfl zbf ?_)
  refine zaf (zal (v := (zaa (decide (((l.length : Int) : Int) ≤ 6)))) rfl ?_)
  refine zar (zbn ?_)
  obtain rfl := zag h
  refine ⟨[(zaa (decide (((l.length : Int) : Int) ≤ 6)))], ⟨rfl, trivial⟩, ⟨_, rfl, hL11.done, ?_⟩⟩
  exact ⟨rfl, trivial⟩
theorem rSmallStep_w (N : Nat) (s : Step) (s_v : Value) (s_v1 : Value) (w : World) (S : Nat → Prop) (s_h : Rs rUse (vH w S [] w) s_v s.Uses) (s_h1 : Rs (rInt .u32) (vH w S [] w) s_v1 s.Divisor.Digits) (r : Bool) (h : rSmallStep N s = some r) :
  Calls Try.prog 13 #[(zaq #[s_v, (zaa s.Divisor.Negative), s_v1])] w (Ret w (fun v w' => (zaa r) = v ∧ True)) := by
 unfold rSmallStep at h
 have hL : vL w w [] [] := Go.X.Loc.begin0 w
 refine calls_of (l := [(zaq #[s_v, (zaa s.Divisor.Negative), s_v1])]) (rl := [.tmp 2]) (n := 31) Try.func13 rfl rfl rfl (zae rfl) ?_
 refine zaj (zah rfl (zaf (zdh (cs := [s_v, (zaa s.Divisor.Negative), s_v1]) rfl rfl hL ?_)))
 intro b1 w2 hL3 hS5
 have K4 := ks w hS5
 refine zaf (zal (v := (zaa false)) rfl ?_)
 refine zar (zaj (zaj (zah rfl (zaf (zal (v := (zab .i64 0)) rfl ?_)))))
 refine zar ?_
 obtain ⟨s10, hl10, g10⟩ := zdp h
 refine zca (fun e w' => ∃  (u : Env), (Sum.inl ()) = s10 ∧ e = upds [(1, (zan (some ⟨b1, 0, none⟩)))] u ∧ vL w w' [some b1] [zac [s_v, (zaa s.Divisor.Negative), s_v1]] ∧ Keep w.heap.size [some b1] w2 [some b1] w' ∧ True) ?_ ?_
 ·
  refine zbm ?_
  refine zcl hl10 (fun (ss : Int) (e : Env) (w' : World) => match ss with | i10 => ∃ (u : Env), e = upds [(1, (zan (some ⟨b1, 0, none⟩))), (3, (zab .i64 i10))] u ∧ vL w w' [some b1] [zac [s_v, (zaa s.Divisor.Negative), s_v1]] ∧ Keep w.heap.size [some b1] w2 [some b1] w' ∧ True) ⟨_, (zdt ⟨rfl, rfl, trivial⟩), hL3, zcb, trivial⟩ ?_
  rintro i10 oo _ w10 ⟨u, rfl, hL10, K10, -⟩ h hd10
  rw [rSmallStep_b1] at h
  refine zaj (zaj (zah rfl (zaf (zai (v := (zab .i64 i10)) rfl ?_))))
  refine zaf (zap (q := 0) zci rfl ti23 rfl rfl rfl ?_)
  refine zaf (zax (v := s_v) zbp rfl rfl (hL10.at 0 rfl rfl) rfl ?_)
  have f10 := ((s_h.mono (K4 S)).mono (K10 S))
  refine zaf (zba (v := s_v) zbp rfl f10 ?_)
  refine zaf (zcv (x := i10) (y := (s.Uses.length : Int)) ((i10 : Int) < (s.Uses.length : Int)) rfl rfl zbf ?_)
  refine zar ?_
  refine zbk ((i10 : Int) < (s.Uses.length : Int)) rfl (fun hc10 => ?_) (fun hc10 => ?_)
  ·
   replace h := ite_t hc10 h
   refine zbl (zaj (zbm (zaj (zah rfl (zaf (zap (q := 0) zci rfl ti23 rfl rfl rfl ?_))))))
   refine zaf (zax (v := s_v) zbp rfl rfl (hL10.at 0 rfl rfl) rfl ?_)
   refine zaf (zai (v := (zab .i64 i10)) rfl ?_)
   obtain ⟨x10, q10, h⟩ := zdp h
   obtain ⟨n10, q11, q12⟩ := zdu q10
   obtain ⟨b10, o10, c10, vs10, q13, q14, f11, q15⟩ := zdb f10 q12
   obtain ⟨v10, rfl, k10, -⟩ := rUse_open q15
   refine zaf (zbw (r := rUse) (v := s_v) (n := n10) (m := (o10 + n10 * rUse.sz)) zbp ti50 rfl q13 rfl q11 q12 rfl ?_)
   have f12 := (f11.part (us := [(zaa x10.N.Negative), v10]) 1 rfl)
   refine zaf (zap (q := (o10 + n10 * rUse.sz) + 1) zcf rfl ti26 rfl rfl rfl ?_)
   have f13 := (f12.part (us := [v10]) 1 rfl)
   refine zaf (zap (q := (o10 + n10 * rUse.sz) + 1 + 1) zao rfl ti24 rfl rfl rfl ?_)
   refine zaf (zcp (v := v10) zam rfl rfl zdy f13 ?_)
   refine zaf (zba (v := v10) zam rfl k10 ?_)
   refine zaf (zdn (x := (x10.N.Digits.length : Int)) (y := 4) (((x10.N.Digits.length : Int) : Int) > 4) rfl rfl zbf ?_)
   refine zar ?_
   refine zbk (((x10.N.Digits.length : Int) : Int) > 4) rfl (fun hc11 => ?_) (fun hc11 => ?_)
   ·
    replace h := ite_t hc11 h
    refine zaj (zah rfl (zaf (zal (v := (zaa false)) rfl ?_)))
    refine zar (zbn ?_)
    obtain rfl := zag h
    obtain rfl := hd10 _ rfl
    replace h := g10
    try dsimp only at h
    obtain rfl := zag h
    refine ⟨[(zaa false)], ⟨rfl, trivial⟩, ⟨_, rfl, hL10.done, ?_⟩⟩
    exact ⟨rfl, trivial⟩
   ·
    replace h := ite_f hc11 h
    refine zbl (zbz (zah rfl (zaf (zai (v := (zab .i64 i10)) rfl ?_))))
    refine zaf (zcd (x := i10) (y := 1) (z := (iw (i10 + 1))) rfl rfl rfl ?_)
    refine zaf (zal (v := (zab .i64 (iw (i10 + 1)))) rfl ?_)
    refine zar ?_
    obtain rfl := zag h
    refine zau ⟨(iw (i10 + 1)), rfl, ?_⟩
    exact ⟨_, (zdt ⟨rfl, rfl, trivial⟩), hL10, K10, trivial⟩
  ·
   replace h := ite_f hc10 h
   refine zcs rfl ?_
   obtain rfl := zag h
   obtain rfl := hd10 _ rfl
   replace h := g10
   try dsimp only at h
   skip
   refine zau ?_
   exact ⟨_, rfl, (zdt ⟨rfl, trivial⟩), hL10, K10, trivial⟩
 ·
  rintro _ w11 ⟨u, rfl, rfl, hL11, K11, -⟩
  replace h := g10
  try dsimp only at h
  refine zaj (zah rfl (zaf (zap (q := 0) zci rfl ti23 rfl rfl rfl ?_)))
  refine zaf (zax (v := s_v) zbp rfl rfl (hL11.at 0 rfl rfl) rfl ?_)
  have f14 := ((s_h.mono (K4 S)).mono (K11 S))
  refine zaf (zba (v := s_v) zbp rfl f14 ?_)
  refine zaf (OpY.leq (x := (s.Uses.length : Int)) (y := 12) (((s.Uses.length : Int) : Int) ≤ 12) rfl rfl zbf ?_)
  refine zaf (zai (v := (zaa (decide (((s.Uses.length : Int) : Int) ≤ 12)))) rfl ?_)
  by_cases hc12 : ((s.Uses.length : Int) : Int) ≤ 12
  ·
   replace h := ite_t hc12 h
   refine zcc rfl rfl (zdr hc12) (zap (q := 1) zci rfl ti26 rfl rfl rfl ?_)
   refine zcc rfl rfl (zdr hc12) (zap (q := 2) zao rfl ti24 rfl rfl rfl ?_)
   refine zcc rfl rfl (zdr hc12) (zax (v := s_v1) zam rfl rfl (hL11.at 0 rfl rfl) rfl ?_)
   have f15 := ((s_h1.mono (K4 S)).mono (K11 S))
   refine zcc rfl rfl (zdr hc12) (zba (v := s_v1) zam rfl f15 ?_)
   refine zcc rfl rfl (zdr hc12) (OpY.leq (x := (s.Divisor.Digits.length : Int)) (y := 4) (((s.Divisor.Digits.length : Int) : Int) ≤ 4) rfl rfl zbf ?_)
   refine zaf (zbu (t := (decide (((s.Uses.length : Int) : Int) ≤ 12))) (v := (zaa (decide (((s.Divisor.Digits.length : Int) : Int) ≤ 4)))) rfl (zdr hc12) rfl ?_)
   refine zaf (zal (v := (zaa (decide (((s.Divisor.Digits.length : Int) : Int) ≤ 4)))) rfl ?_)
   refine zar (zbn ?_)
   obtain rfl := zag h
   refine ⟨[(zaa (decide (((s.Divisor.Digits.length : Int) : Int) ≤ 4)))], ⟨rfl, trivial⟩, ⟨_, rfl, hL11.done, ?_⟩⟩
   exact ⟨rfl, trivial⟩
  ·
   replace h := ite_f hc12 h
   refine zbx rfl rfl (zdo hc12) ?_
   refine zbx rfl rfl (zdo hc12) ?_
   refine zbx rfl rfl (zdo hc12) ?_
   refine zbx rfl rfl (zdo hc12) ?_
   refine zbx rfl rfl (zdo hc12) ?_
   refine zaf (zbo (t := (decide (((s.Uses.length : Int) : Int) ≤ 12))) (v := (zaa false)) rfl (zdo hc12) rfl ?_)
   refine zaf (zal (v := (zaa false)) rfl ?_)
   refine zar (zbn ?_)
   obtain rfl := zag h
   refine ⟨[(zaa false)], ⟨rfl, trivial⟩, ⟨_, rfl, hL11.done, ?_⟩⟩
   exact ⟨rfl, trivial⟩
theorem rweight_w (N : Nat) : ∀ (p : Proof) (p_v : Value) (p_v1 : Value) (p_v2 : Value) (p_v3 : Value) (w : World) (S : Nat → Prop) (p_h : Rs rStep (vH w S [] w) p_v p.Steps) (p_h1 : Rs rBig (vH w S [] w) p_v1 p.Form) (p_h2 : Rs (rInt .u32) (vH w S [] w) p_v2 p.Bound.Digits) (p_h3 : Rs rProof (vH w S [] w) p_v3 p.Children) (r : Int) (h : rweight N p = some r), Calls Try.prog 52 #[(zaq #[p_v, p_v1, (zaa p.Bound.Negative), p_v2, p_v3])] w (Ret w (fun v w' => (zab .i64 r) = v ∧ True)) := by
 induction N with
 | zero => intro p p_v p_v1 p_v2 p_v3 w S p_h p_h1 p_h2 p_h3 r h; cases (show (none : Option Int) = some r from h)
 | succ N ih =>
  intro p p_v p_v1 p_v2 p_v3 w S p_h p_h1 p_h2 p_h3 r h
  replace h : rweight_step N (rweight N) p = some r := h
  unfold rweight_step at h
  have hL : vL w w [] [] := Go.X.Loc.begin0 w
  refine calls_of (l := [(zaq #[p_v, p_v1, (zaa p.Bound.Negative), p_v2, p_v3])]) (rl := [.tmp 2]) (n := 59) Try.func52 rfl rfl rfl (zae rfl) ?_
  refine zaj (zah rfl (zaf (zdh (cs := [p_v, p_v1, (zaa p.Bound.Negative), p_v2, p_v3]) rfl rfl hL ?_)))
  intro b1 w2 hL3 hS5
  have K4 := ks w hS5
  refine zaf (zal (v := (zab .i64 0)) rfl ?_)
  refine zar (zaj (zah rfl (zaf (zap (q := 0) zav rfl ti39 rfl rfl rfl ?_))))
  refine zaf (zax (v := p_v) zbi rfl rfl (hL3.at 0 rfl rfl) rfl ?_)
  have f6 := (p_h.mono (K4 S))
  refine zaf (zba (v := p_v) zbi rfl f6 ?_)
  refine zaf (zcd (x := 1) (y := (p.Steps.length : Int)) (z := (iw (1 + (p.Steps.length : Int)))) rfl rfl rfl ?_)
  refine zaf (zal (v := (zab .i64 (iw (1 + (p.Steps.length : Int))))) rfl ?_)
  refine zar (zaj (zaj ?_))
  obtain ⟨s10, h, g10⟩ := zdp h
  refine zca (fun e w' => ∃ (x10 : Bool) (u : Env), x10 = s10 ∧ e = upds [(1, (zan (some ⟨b1, 0, none⟩))), (3, (zab .i64 (iw (1 + (p.Steps.length : Int))))), (20, (zaa x10))] u ∧ vL w w' [some b1] [zac [p_v, p_v1, (zaa p.Bound.Negative), p_v2, p_v3]] ∧ Keep w.heap.size [some b1] w2 [some b1] w' ∧ True) ?_ ?_
  ·
   refine zah rfl (zaf (zap (q := 1) zav rfl ti32 rfl rfl rfl ?_))
   refine zaf (zax (v := p_v1) zbb rfl rfl (hL3.at 0 rfl rfl) rfl ?_)
   obtain ⟨r10, q10, h⟩ := zdp h
   have f10 := (p_h1.mono (K4 S))
   refine zaf (zay en43 rfl rfl (rbigs_w N p.Form p_v1 _ Any (f10.mono vw_any) r10 q10) ?_)
   rintro _ w10 hE10 ⟨rfl, -⟩
   have hL10 := hL3.ext hE10
   have K10 := ke hL3 hE10
   refine zaf (OpY.not (x := r10) rfl ?_)
   refine zaf (zai (v := (zaa (!r10))) rfl ?_)
   by_cases hc10 : (!r10) = true
   ·
    replace h := ite_t hc10 h
    refine zbx rfl rfl hc10 ?_
    refine zbx rfl rfl hc10 ?_
    refine zbx rfl rfl hc10 ?_
    refine zbx rfl rfl hc10 ?_
    refine zbx rfl rfl hc10 ?_
    refine zaf (zbu (t := (!r10)) (v := (zaa true)) rfl hc10 rfl ?_)
    refine zar ?_
    obtain rfl := zag h
    refine zau ?_
    exact ⟨true, _, rfl, (zdt ⟨rfl, rfl, rfl, trivial⟩), hL10, K10, trivial⟩
   ·
    replace h := ite_f hc10 h
    refine zcc rfl rfl (zdq hc10) (zap (q := 2) zav rfl ti26 rfl rfl rfl ?_)
    refine zcc rfl rfl (zdq hc10) (zap (q := 3) zao rfl ti24 rfl rfl rfl ?_)
    refine zcc rfl rfl (zdq hc10) (zax (v := p_v2) zam rfl rfl (hL10.at 0 rfl rfl) rfl ?_)
    have f11 := ((p_h2.mono (K4 S)).mono (K10 S))
    refine zcc rfl rfl (zdq hc10) (zba (v := p_v2) zam rfl f11 ?_)
    refine zcc rfl rfl (zdq hc10) (zdn (x := (p.Bound.Digits.length : Int)) (y := 4) (((p.Bound.Digits.length : Int) : Int) > 4) rfl rfl zbf ?_)
    refine zaf (zbo (t := (!r10)) (v := (zaa (decide (((p.Bound.Digits.length : Int) : Int) > 4)))) rfl (zdq hc10) rfl ?_)
    refine zar ?_
    obtain rfl := zag h
    refine zau ?_
    exact ⟨(decide (((p.Bound.Digits.length : Int) : Int) > 4)), _, rfl, (zdt ⟨rfl, rfl, rfl, trivial⟩), hL10, K10, trivial⟩
  ·
   rintro _ w11 ⟨x10, u, rfl, rfl, hL11, K11, -⟩
   replace h := g10
   try dsimp only at h
   refine zcu x10 rfl (fun hc11 => ?_) (fun hc11 => ?_)
   ·
    replace h := ite_t hc11 h
    refine zaj (zah rfl (zaf (zal (v := (zab .i64 101)) rfl ?_)))
    refine zar (zbn ?_)
    obtain rfl := zag h
    refine ⟨[(zab .i64 101)], ⟨rfl, trivial⟩, ⟨_, rfl, hL11.done, ?_⟩⟩
    exact ⟨rfl, trivial⟩
   ·
    replace h := ite_f hc11 h
    refine zbl (zaj (zaj (zah rfl (zaf (zal (v := (zab .i64 0)) rfl ?_)))))
    refine zar ?_
    obtain ⟨s11, hl10, g11⟩ := zdp h
    refine zca (fun e w' => ∃  (u : Env), (Sum.inl ()) = s11 ∧ e = upds [(1, (zan (some ⟨b1, 0, none⟩))), (3, (zab .i64 (iw (1 + (p.Steps.length : Int)))))] u ∧ vL w w' [some b1] [zac [p_v, p_v1, (zaa p.Bound.Negative), p_v2, p_v3]] ∧ Keep w.heap.size [some b1] w11 [some b1] w' ∧ True) ?_ ?_
    ·
     refine zbm ?_
     refine zcl hl10 (fun (ss : Int) (e : Env) (w' : World) => match ss with | i10 => ∃ (u : Env), e = upds [(1, (zan (some ⟨b1, 0, none⟩))), (3, (zab .i64 (iw (1 + (p.Steps.length : Int))))), (4, (zab .i64 i10))] u ∧ vL w w' [some b1] [zac [p_v, p_v1, (zaa p.Bound.Negative), p_v2, p_v3]] ∧ Keep w.heap.size [some b1] w11 [some b1] w' ∧ True) ⟨_, (zdt ⟨rfl, rfl, rfl, trivial⟩), hL11, zcb, trivial⟩ ?_
     rintro i10 oo _ w12 ⟨u, rfl, hL12, K12, -⟩ h hd10
     rw [rweight_b1] at h
     refine zaj (zaj ?_)
     obtain ⟨s12, h, g12⟩ := zdp h
     refine zca (fun e w' => ∃ (x11 : Bool) (u : Env), x11 = s12 ∧ e = upds [(1, (zan (some ⟨b1, 0, none⟩))), (3, (zab .i64 (iw (1 + (p.Steps.length : Int))))), (4, (zab .i64 i10)), (29, (zaa x11))] u ∧ vL w w' [some b1] [zac [p_v, p_v1, (zaa p.Bound.Negative), p_v2, p_v3]] ∧ Keep w.heap.size [some b1] w12 [some b1] w' ∧ True) ?_ ?_
     ·
      refine zah rfl (zaf (zai (v := (zab .i64 i10)) rfl ?_))
      refine zaf (zap (q := 0) zav rfl ti39 rfl rfl rfl ?_)
      refine zaf (zax (v := p_v) zbi rfl rfl (hL12.at 0 rfl rfl) rfl ?_)
      have f12 := ((f6.mono (K11 S)).mono (K12 S))
      refine zaf (zba (v := p_v) zbi rfl f12 ?_)
      refine zaf (zcv (x := i10) (y := (p.Steps.length : Int)) ((i10 : Int) < (p.Steps.length : Int)) rfl rfl zbf ?_)
      refine zaf (zai (v := (zaa (decide ((i10 : Int) < (p.Steps.length : Int))))) rfl ?_)
      by_cases hc12 : (i10 : Int) < (p.Steps.length : Int)
      ·
       replace h := ite_t hc12 h
       refine zcc rfl rfl (zdr hc12) (zai (v := (zab .i64 (iw (1 + (p.Steps.length : Int))))) rfl ?_)
       refine zcc rfl rfl (zdr hc12) (OpY.leq (x := (iw (1 + (p.Steps.length : Int)))) (y := 100) (((iw (1 + (p.Steps.length : Int))) : Int) ≤ 100) rfl rfl zbf ?_)
       refine zaf (zbu (t := (decide ((i10 : Int) < (p.Steps.length : Int)))) (v := (zaa (decide (((iw (1 + (p.Steps.length : Int))) : Int) ≤ 100)))) rfl (zdr hc12) rfl ?_)
       refine zar ?_
       obtain rfl := zag h
       refine zau ?_
       exact ⟨(decide (((iw (1 + (p.Steps.length : Int))) : Int) ≤ 100)), _, rfl, (zdt ⟨rfl, rfl, rfl, rfl, trivial⟩), hL12, zcb, trivial⟩
      ·
       replace h := ite_f hc12 h
       refine zbx rfl rfl (zdo hc12) ?_
       refine zbx rfl rfl (zdo hc12) ?_
       refine zaf (zbo (t := (decide ((i10 : Int) < (p.Steps.length : Int)))) (v := (zaa false)) rfl (zdo hc12) rfl ?_)
       refine zar ?_
       obtain rfl := zag h
       refine zau ?_
       exact ⟨false, _, rfl, (zdt ⟨rfl, rfl, rfl, rfl, trivial⟩), hL12, zcb, trivial⟩
     ·
      rintro _ w13 ⟨x11, u, rfl, rfl, hL13, K13, -⟩
      replace h := g12
      try dsimp only at h
      refine zcu x11 rfl (fun hc13 => ?_) (fun hc13 => ?_)
      ·
       replace h := ite_t hc13 h
       refine zbl (zaj (zbm (zaj (zah rfl (zaf (zap (q := 0) zav rfl ti39 rfl rfl rfl ?_))))))
       refine zaf (zax (v := p_v) zbi rfl rfl (hL13.at 0 rfl rfl) rfl ?_)
       refine zaf (zai (v := (zab .i64 i10)) rfl ?_)
       obtain ⟨x12, q11, h⟩ := zdp h
       obtain ⟨n10, q12, q13⟩ := zdu q11
       have f13 := (((f6.mono (K11 S)).mono (K12 S)).mono (K13 S))
       obtain ⟨b10, o10, c10, vs10, q14, q15, f14, q16⟩ := zdb f13 q13
       obtain ⟨v10, v11, rfl, k10, k11, -⟩ := rStep_open q16
       refine zaf (zbw (r := rStep) (v := p_v) (n := n10) (m := (o10 + n10 * rStep.sz)) zbi ti28 rfl q14 rfl q12 q13 rfl ?_)
       refine zaf (zdf (vs := [v10, (zaa x12.Divisor.Negative), v11]) zci rfl ti28 rfl rfl zdy f14 ?_)
       obtain ⟨r11, q17, h⟩ := zdp h
       refine zaf (zay en13 rfl rfl (rSmallStep_w N x12 v10 v11 _ Any (k10.mono vw_any) (k11.mono vw_any) r11 q17) ?_)
       rintro _ w14 hE11 ⟨rfl, -⟩
       have hL14 := hL13.ext hE11
       have K14 := ke hL13 hE11
       refine zaf (OpY.not (x := r11) rfl ?_)
       refine zar ?_
       refine zcu (!r11) rfl (fun hc14 => ?_) (fun hc14 => ?_)
       ·
        replace h := ite_t hc14 h
        refine zaj (zah rfl (zaf (zal (v := (zab .i64 101)) rfl ?_)))
        refine zar (zbn ?_)
        obtain rfl := zag h
        obtain rfl := hd10 _ rfl
        replace h := g11
        try dsimp only at h
        obtain rfl := zag h
        refine ⟨[(zab .i64 101)], ⟨rfl, trivial⟩, ⟨_, rfl, hL14.done, ?_⟩⟩
        exact ⟨rfl, trivial⟩
       ·
        replace h := ite_f hc14 h
        refine zbl (zbz (zah rfl (zaf (zai (v := (zab .i64 i10)) rfl ?_))))
        refine zaf (zcd (x := i10) (y := 1) (z := (iw (i10 + 1))) rfl rfl rfl ?_)
        refine zaf (zal (v := (zab .i64 (iw (i10 + 1)))) rfl ?_)
        refine zar ?_
        obtain rfl := zag h
        refine zau ⟨(iw (i10 + 1)), rfl, ?_⟩
        exact ⟨_, (zdt ⟨rfl, rfl, rfl, trivial⟩), hL14, (zat (zat K12 K13) K14), trivial⟩
      ·
       replace h := ite_f hc13 h
       refine zcs rfl ?_
       obtain rfl := zag h
       obtain rfl := hd10 _ rfl
       replace h := g11
       try dsimp only at h
       skip
       refine zau ?_
       exact ⟨_, rfl, (zdt ⟨rfl, rfl, trivial⟩), hL13, (zat K12 K13), trivial⟩
    ·
     rintro _ w15 ⟨u, rfl, rfl, hL15, K15, -⟩
     replace h := g11
     try dsimp only at h
     refine zaj (zaj (zah rfl (zaf (zal (v := (zab .i64 0)) rfl ?_))))
     refine zar ?_
     obtain ⟨s13, hl11, g13⟩ := zdp h
     refine zca (fun e w' => ∃ (n11 : Int) (u : Env), n11 = s13 ∧ e = upds [(3, (zab .i64 n11))] u ∧ vL w w' [] [] ∧ Keep w.heap.size [some b1] w15 [] w' ∧ True) ?_ ?_
     ·
      refine zbm ?_
      refine zcl hl11 (fun (ss : (Int × Int)) (e : Env) (w' : World) => match ss with | (n12, i11) => ∃ (u : Env), e = upds [(1, (zan (some ⟨b1, 0, none⟩))), (3, (zab .i64 n12)), (5, (zab .i64 i11))] u ∧ vL w w' [some b1] [zac [p_v, p_v1, (zaa p.Bound.Negative), p_v2, p_v3]] ∧ Keep w.heap.size [some b1] w15 [some b1] w' ∧ True) ⟨_, (zdt ⟨rfl, rfl, rfl, trivial⟩), hL15, zcb, trivial⟩ ?_
      rintro ⟨n12, i11⟩ oo _ w16 ⟨u, rfl, hL16, K16, -⟩ h hd11
      rw [rweight_b2] at h
      refine zaj (zaj ?_)
      obtain ⟨s14, h, g14⟩ := zdp h
      refine zca (fun e w' => ∃ (x13 : Bool) (u : Env), x13 = s14 ∧ e = upds [(1, (zan (some ⟨b1, 0, none⟩))), (3, (zab .i64 n12)), (5, (zab .i64 i11)), (47, (zaa x13))] u ∧ vL w w' [some b1] [zac [p_v, p_v1, (zaa p.Bound.Negative), p_v2, p_v3]] ∧ Keep w.heap.size [some b1] w16 [some b1] w' ∧ True) ?_ ?_
      ·
       refine zah rfl (zaf (zai (v := (zab .i64 i11)) rfl ?_))
       refine zaf (zap (q := 4) zav rfl ti40 rfl rfl rfl ?_)
       refine zaf (zax (v := p_v3) zbj rfl rfl (hL16.at 0 rfl rfl) rfl ?_)
       have f15 := ((((p_h3.mono (K4 S)).mono (K11 S)).mono (K15 S)).mono (K16 S))
       refine zaf (zba (v := p_v3) zbj rfl f15 ?_)
       refine zaf (zcv (x := i11) (y := (p.Children.length : Int)) ((i11 : Int) < (p.Children.length : Int)) rfl rfl zbf ?_)
       refine zaf (zai (v := (zaa (decide ((i11 : Int) < (p.Children.length : Int))))) rfl ?_)
       by_cases hc15 : (i11 : Int) < (p.Children.length : Int)
       ·
        replace h := ite_t hc15 h
        refine zcc rfl rfl (zdr hc15) (zai (v := (zab .i64 n12)) rfl ?_)
        refine zcc rfl rfl (zdr hc15) (OpY.leq (x := n12) (y := 100) ((n12 : Int) ≤ 100) rfl rfl zbf ?_)
        refine zaf (zbu (t := (decide ((i11 : Int) < (p.Children.length : Int)))) (v := (zaa (decide ((n12 : Int) ≤ 100)))) rfl (zdr hc15) rfl ?_)
        refine zar ?_
        obtain rfl := zag h
        refine zau ?_
        exact ⟨(decide ((n12 : Int) ≤ 100)), _, rfl, (zdt ⟨rfl, rfl, rfl, rfl, trivial⟩), hL16, zcb, trivial⟩
       ·
        replace h := ite_f hc15 h
        refine zbx rfl rfl (zdo hc15) ?_
        refine zbx rfl rfl (zdo hc15) ?_
        refine zaf (zbo (t := (decide ((i11 : Int) < (p.Children.length : Int)))) (v := (zaa false)) rfl (zdo hc15) rfl ?_)
        refine zar ?_
        obtain rfl := zag h
        refine zau ?_
        exact ⟨false, _, rfl, (zdt ⟨rfl, rfl, rfl, rfl, trivial⟩), hL16, zcb, trivial⟩
      ·
       rintro _ w17 ⟨x13, u, rfl, rfl, hL17, K17, -⟩
       replace h := g14
       try dsimp only at h
       refine zcu x13 rfl (fun hc16 => ?_) (fun hc16 => ?_)
       ·
        replace h := ite_t hc16 h
        refine zbl (zaj (zbm (zah rfl (zaf (zai (v := (zab .i64 n12)) rfl ?_)))))
        refine zaf (zap (q := 4) zav rfl ti40 rfl rfl rfl ?_)
        refine zaf (zax (v := p_v3) zbj rfl rfl (hL17.at 0 rfl rfl) rfl ?_)
        refine zaf (zai (v := (zab .i64 i11)) rfl ?_)
        obtain ⟨x14, q18, h⟩ := zdp h
        obtain ⟨n13, q19, q20⟩ := zdu q18
        have f16 := (((((p_h3.mono (K4 S)).mono (K11 S)).mono (K15 S)).mono (K16 S)).mono (K17 S))
        obtain ⟨b11, o11, c11, vs11, q21, q22, f17, q23⟩ := zdb f16 q20
        obtain ⟨v12, v13, v14, v15, rfl, k12, k13, k14, k15, -⟩ := rProof_open q23
        refine zaf (zbw (r := rProof) (v := p_v3) (n := n13) (m := (o11 + n13 * rProof.sz)) zbj ti42 rfl q21 rfl q19 q20 rfl ?_)
        refine zaf (zdf (vs := [v12, v13, (zaa x14.Bound.Negative), v14, v15]) zav rfl ti42 rfl rfl zdy f17 ?_)
        obtain ⟨r12, q24, h⟩ := zdp h
        refine zaf (zay en52 rfl rfl (ih x14 v12 v13 v14 v15 _ Any (k12.mono vw_any) (k13.mono vw_any) (k14.mono vw_any) (k15.mono vw_any) r12 q24) ?_)
        rintro _ w18 hE12 ⟨rfl, -⟩
        have hL18 := hL17.ext hE12
        have K18 := ke hL17 hE12
        refine zaf (zcd (x := n12) (y := r12) (z := (iw (n12 + r12))) rfl rfl rfl ?_)
        refine zaf (zal (v := (zab .i64 (iw (n12 + r12)))) rfl ?_)
        refine zar (zbz (zah rfl (zaf (zai (v := (zab .i64 i11)) rfl ?_))))
        refine zaf (zcd (x := i11) (y := 1) (z := (iw (i11 + 1))) rfl rfl rfl ?_)
        refine zaf (zal (v := (zab .i64 (iw (i11 + 1)))) rfl ?_)
        refine zar ?_
        obtain rfl := zag h
        refine zau ⟨((iw (n12 + r12)), (iw (i11 + 1))), rfl, ?_⟩
        exact ⟨_, (zdt ⟨rfl, rfl, rfl, trivial⟩), hL18, (zat (zat K16 K17) K18), trivial⟩
       ·
        replace h := ite_f hc16 h
        refine zcs rfl ?_
        have hp10 := hL17.pick [] rfl rfl rfl
        have hL19 : vL w w17 [] [] := hp10.1
        have K19 := ks w hp10.2
        obtain rfl := zag h
        obtain rfl := hd11 _ rfl
        replace h := g13
        try dsimp only at h
        skip
        refine zau ?_
        exact ⟨n12, _, rfl, (zdt ⟨rfl, trivial⟩), hL19, (zat (zat K16 K17) K19), trivial⟩
     ·
      rintro _ w19 ⟨n11, u, rfl, rfl, hL20, K20, -⟩
      replace h := g13
      try dsimp only at h
      refine zaj (zah rfl (zaf (zai (v := (zab .i64 n11)) rfl ?_)))
      refine zaf (zal (v := (zab .i64 n11)) rfl ?_)
      refine zar (zbn ?_)
      obtain rfl := zag h
      refine ⟨[(zab .i64 n11)], ⟨rfl, trivial⟩, ⟨_, rfl, hL20.done, ?_⟩⟩
      exact ⟨rfl, trivial⟩
theorem rSmallProof_w (N : Nat) (p : Proof) (p_v : Value) (p_v1 : Value) (p_v2 : Value) (p_v3 : Value) (w : World) (S : Nat → Prop) (p_h : Rs rStep (vH w S [] w) p_v p.Steps) (p_h1 : Rs rBig (vH w S [] w) p_v1 p.Form) (p_h2 : Rs (rInt .u32) (vH w S [] w) p_v2 p.Bound.Digits) (p_h3 : Rs rProof (vH w S [] w) p_v3 p.Children) (r : Bool) (h : rSmallProof N p = some r) :
  Calls Try.prog 17 #[(zaq #[p_v, p_v1, (zaa p.Bound.Negative), p_v2, p_v3])] w (Ret w (fun v w' => (zaa r) = v ∧ True)) := by
 unfold rSmallProof at h
 have hL : vL w w [] [] := Go.X.Loc.begin0 w
 refine calls_of (l := [(zaq #[p_v, p_v1, (zaa p.Bound.Negative), p_v2, p_v3])]) (rl := [.tmp 2]) (n := 6) Try.func17 rfl rfl rfl (zae rfl) ?_
 refine zaj (zah rfl (zaf (zdh (cs := [p_v, p_v1, (zaa p.Bound.Negative), p_v2, p_v3]) rfl rfl hL ?_)))
 intro b1 w2 hL3 hS5
 have K4 := ks w hS5
 refine zaf (zal (v := (zaa false)) rfl ?_)
 refine zar (zaj (zah rfl (zaf (zbh (vs := [p_v, p_v1, (zaa p.Bound.Negative), p_v2, p_v3]) zav rfl ti42 rfl (hL3.at 0 rfl rfl) rfl rfl ?_))))
 obtain ⟨r6, q7, h⟩ := zdp h
 have f9 := (p_h.mono (K4 S))
 have f10 := (p_h1.mono (K4 S))
 have f11 := (p_h2.mono (K4 S))
 have f12 := (p_h3.mono (K4 S))
 refine zaf (zay en52 rfl rfl (rweight_w N p p_v p_v1 p_v2 p_v3 _ Any (f9.mono vw_any) (f10.mono vw_any) (f11.mono vw_any) (f12.mono vw_any) r6 q7) ?_)
 rintro _ w10 hE10 ⟨rfl, -⟩
 have hL10 := hL3.ext hE10
 refine zaf (OpY.leq (x := r6) (y := 40) ((r6 : Int) ≤ 40) rfl rfl zbf ?_)
 refine zaf (zal (v := (zaa (decide ((r6 : Int) ≤ 40)))) rfl ?_)
 refine zar (zbn ?_)
 obtain rfl := zag h
 refine ⟨[(zaa (decide ((r6 : Int) ≤ 40)))], ⟨rfl, trivial⟩, ⟨_, rfl, hL10.done, ?_⟩⟩
 exact ⟨rfl, trivial⟩
end Go.Proofs.Ytakkacdhlocckaa.WD

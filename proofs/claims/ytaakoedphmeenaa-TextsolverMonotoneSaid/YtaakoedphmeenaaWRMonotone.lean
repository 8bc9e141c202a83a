/- Walks, written by a program of mine (wip/tool); the kernel checks them. -/
import Derived.Test.YtaakoedphmeenaaProg
import Derived.Test.YtaakoedphmeenaaSqMonotone
import Derived.Test.YtaakoedphmeenaaPR
import Derived.Test.YtaakoedphmeenaaWAMonotone
set_option maxRecDepth 100000
set_option maxHeartbeats 40000000
set_option linter.unusedVariables false
set_option linter.unusedSimpArgs false
namespace Go.Proofs.Ytaakoedphmeenaa.WR
open Go Go.RowKit Go.X Go.D Go.Proofs.Ytaakoedphmeenaa.WA
theorem en29 : Go.X.Enters Try.prog 29 := ⟨Try.f29, Try.func29, by kernel_rfl, by kernel_rfl⟩
theorem ti45 : TI Try.prog 45 2 16 (zbp #[(zaa .i64 0), (zaa .i64 0)]) := TI.mk (by kernel_rfl)
theorem ti22 : TI Try.prog 22 1 24 (zar none 0 0) := TI.mk (by kernel_rfl)
theorem en42 : Go.X.Enters Try.prog 42 := ⟨Try.f42, Try.func42, by kernel_rfl, by kernel_rfl⟩
theorem en43 : Go.X.Enters Try.prog 43 := ⟨Try.f43, Try.func43, by kernel_rfl, by kernel_rfl⟩
theorem ti24 : TI Try.prog 24 1 24 (zar none 0 0) := TI.mk (by kernel_rfl)
theorem en44 : Go.X.Enters Try.prog 44 := ⟨Try.f44, Try.func44, by kernel_rfl, by kernel_rfl⟩
theorem ti26 : TI Try.prog 26 5 120 (zbp #[(zar none 0 0), (zar none 0 0), (zar none 0 0), (zar none 0 0), (zar none 0 0)]) := TI.mk (by kernel_rfl)
theorem en24 : Go.X.Enters Try.prog 24 := ⟨Try.f24, Try.func24, by kernel_rfl, by kernel_rfl⟩
theorem en12 : Go.X.Enters Try.prog 12 := ⟨Try.f12, Try.func12, by kernel_rfl, by kernel_rfl⟩
theorem qPrintable_w (N : Nat) (s : (List UInt8))  (w : World) (S : Nat → Prop)  (r : Bool) (h : qPrintable N s = some r) :
  Calls Try.prog 29 #[(zaf (s8 s))] w (Ret w (fun v w' => (zac r) = v ∧ True)) := by
 unfold qPrintable at h
 have hL : vL w w [] [] := Go.X.Loc.begin0 w
 refine calls_of (l := [(zaf (s8 s))]) (rl := [.tmp 2]) (n := 20) Try.func29 rfl rfl rfl (zai rfl) ?_
 refine zan (zah rfl (zag (zam (v := (zac false)) rfl ?_)))
 refine zat (zan (zan (zah rfl (zag (zam (v := (zaa .i64 0)) rfl ?_)))))
 refine zat ?_
 obtain ⟨s10, hl10, g10⟩ := zdv h
 refine zbu (fun e w' => ∃  (u : Env), (Sum.inl ()) = s10 ∧ e = upds [] u ∧ vL w w' [] [] ∧ Keep w.heap.size [] w [] w' ∧ True) ?_ ?_
 ·
  refine zbd ?_
  refine zca hl10 (fun (ss : Int) (e : Env) (w' : World) => match ss with | i10 => ∃ (u : Env), e = upds [(0, (zaf (s8 s))), (3, (zaa .i64 i10))] u ∧ vL w w' [] [] ∧ Keep w.heap.size [] w [] w' ∧ True) ⟨_, (zdy ⟨rfl, rfl, trivial⟩), hL, zbr, trivial⟩ ?_
  rintro i10 oo _ w10 ⟨u, rfl, hL10, K10, -⟩ h hd10
  rw [qPrintable_b1] at h
  refine zan (zan (zah rfl (zag (zad (v := (zaa .i64 i10)) rfl ?_))))
  refine zag (zad (v := (zaf (s8 s))) rfl ?_)
  refine zag (zds zbc rfl ?_)
  refine zag (zcm (x := i10) (y := (s.length : Int)) ((i10 : Int) < (s.length : Int)) rfl rfl zbn ?_)
  refine zat ?_
  refine zbk ((i10 : Int) < (s.length : Int)) rfl (fun hc10 => ?_) (fun hc10 => ?_)
  ·
   replace h := ite_t hc10 h
   refine zbm (zan (zbd (zan ?_)))
   obtain ⟨s11, h, g11⟩ := zdv h
   refine zbu (fun e w' => ∃ (x10 : Bool) (u : Env), x10 = s11 ∧ e = upds [(0, (zaf (s8 s))), (3, (zaa .i64 i10)), (19, (zac x10))] u ∧ vL w w' [] [] ∧ Keep w.heap.size [] w10 [] w' ∧ True) ?_ ?_
   ·
    refine zah rfl (zag (zad (v := (zaf (s8 s))) rfl ?_))
    refine zag (zad (v := (zaa .i64 i10)) rfl ?_)
    obtain ⟨x11, q10, h⟩ := zdv h
    obtain ⟨n10, q11, q12⟩ := zea q10
    refine zag (OpY.sIndex (xs := s) (i := i10) (n := n10) (a := x11) zbc rfl rfl q11 q12 ?_)
    refine zag (zcm (x := (UInt8.toNat x11 : Int)) (y := 32) (((UInt8.toNat x11 : Int) : Int) < 32) rfl rfl zbn ?_)
    refine zag (zad (v := (zac (decide (((UInt8.toNat x11 : Int) : Int) < 32)))) rfl ?_)
    by_cases hc11 : ((UInt8.toNat x11 : Int) : Int) < 32
    ·
     replace h := ite_t hc11 h
     refine zbj rfl rfl (zdx hc11) ?_
     refine zbj rfl rfl (zdx hc11) ?_
     refine zbj rfl rfl (zdx hc11) ?_
     refine zbj rfl rfl (zdx hc11) ?_
     refine zag (zbs (t := (decide (((UInt8.toNat x11 : Int) : Int) < 32))) (v := (zac true)) rfl (zdx hc11) rfl ?_)
     refine zat ?_
     obtain rfl := zae h
     refine zas ?_
     exact ⟨true, _, rfl, (zdy ⟨rfl, rfl, rfl, trivial⟩), hL10, zbr, trivial⟩
    ·
     replace h := ite_f hc11 h
     refine zbh rfl rfl (zdw hc11) (zad (v := (zaf (s8 s))) rfl ?_)
     refine zbh rfl rfl (zdw hc11) (zad (v := (zaa .i64 i10)) rfl ?_)
     obtain ⟨x12, q13, h⟩ := zdv h
     obtain ⟨n11, q14, q15⟩ := zea q13
     refine zbh rfl rfl (zdw hc11) (OpY.sIndex (xs := s) (i := i10) (n := n11) (a := x12) zbc rfl rfl q14 q15 ?_)
     refine zbh rfl rfl (zdw hc11) (OpY.gtr (x := (UInt8.toNat x12 : Int)) (y := 126) (((UInt8.toNat x12 : Int) : Int) > 126) rfl rfl zbn ?_)
     refine zag (zbq (t := (decide (((UInt8.toNat x11 : Int) : Int) < 32))) (v := (zac (decide (((UInt8.toNat x12 : Int) : Int) > 126)))) rfl (zdw hc11) rfl ?_)
     refine zat ?_
     obtain rfl := zae h
     refine zas ?_
     exact ⟨(decide (((UInt8.toNat x12 : Int) : Int) > 126)), _, rfl, (zdy ⟨rfl, rfl, rfl, trivial⟩), hL10, zbr, trivial⟩
   ·
    rintro _ w11 ⟨x10, u, rfl, rfl, hL11, K11, -⟩
    replace h := g11
    try dsimp only at h
    refine zcj x10 rfl (fun hc12 => ?_) (fun hc12 => ?_)
    ·
     replace h := ite_t hc12 h
     refine zan (zah rfl (zag (zam (v := (zac false)) rfl ?_)))
     refine zat (zbt ?_)
     obtain rfl := zae h
     obtain rfl := hd10 _ rfl
     replace h := g10
     try dsimp only at h
     obtain rfl := zae h
     refine ⟨[(zac false)], ⟨rfl, trivial⟩, ⟨_, rfl, hL11.done, ?_⟩⟩
     exact ⟨rfl, trivial⟩
    ·
     replace h := ite_f hc12 h
     refine zbm (zbf (zah rfl (zag (zad (v := (zaa .i64 i10)) rfl ?_))))
     refine zag (zce (x := i10) (y := 1) (z := (iw (i10 + 1))) rfl rfl rfl ?_)
     refine zag (zam (v := (zaa .i64 (iw (i10 + 1)))) rfl ?_)
     refine zat ?_
     obtain rfl := zae h
     refine zas ⟨(iw (i10 + 1)), rfl, ?_⟩
     exact ⟨_, (zdy ⟨rfl, rfl, trivial⟩), hL11, (zaj K10 K11), trivial⟩
  ·
   replace h := ite_f hc10 h
   refine zcd rfl ?_
   obtain rfl := zae h
   obtain rfl := hd10 _ rfl
   replace h := g10
   try dsimp only at h
   skip
   refine zas ?_
   exact ⟨_, rfl, (zdy trivial), hL10, K10, trivial⟩
 ·
  rintro _ w12 ⟨u, rfl, rfl, hL12, K12, -⟩
  replace h := g10
  try dsimp only at h
  refine zan (zah rfl (zag (zam (v := (zac true)) rfl ?_)))
  refine zat (zbt ?_)
  obtain rfl := zae h
  refine ⟨[(zac true)], ⟨rfl, trivial⟩, ⟨_, rfl, hL12.done, ?_⟩⟩
  exact ⟨rfl, trivial⟩
theorem qValid_w (N : Nat) (t : TTest)  (w : World) (S : Nat → Prop)  (r : Bool) (h : qValid N t = some r) :
  Calls Try.prog 42 #[(zbp #[(zaa .i64 t.Var), (zaa .i64 t.Kind), (zac t.Negated), (zaf (s8 t.Text))])] w (Ret w (fun v w' => (zac r) = v ∧ True)) := by
 unfold qValid at h
 have hL : vL w w [] [] := Go.X.Loc.begin0 w
 refine calls_of (l := [(zbp #[(zaa .i64 t.Var), (zaa .i64 t.Kind), (zac t.Negated), (zaf (s8 t.Text))])]) (rl := [.tmp 2]) (n := 22) Try.func42 rfl rfl rfl (zai rfl) ?_
 refine zan (zah rfl (zag (zdt (cs := [(zaa .i64 t.Var), (zaa .i64 t.Kind), (zac t.Negated), (zaf (s8 t.Text))]) rfl rfl hL ?_)))
 intro b1 w2 hL3 hS5
 refine zag (zam (v := (zac false)) rfl ?_)
 refine zat (zan (zah rfl (zag (zau (q := 1) zbl rfl ti3 rfl rfl rfl ?_))))
 refine zag (zav (v := (zaa .i64 t.Kind)) zax rfl rfl (hL3.at 0 rfl rfl) rfl ?_)
 refine zag (OpY.geq (x := t.Kind) (y := 0) ((t.Kind : Int) ≥ 0) rfl rfl zbn ?_)
 refine zag (zad (v := (zac (decide ((t.Kind : Int) ≥ 0)))) rfl ?_)
 by_cases hc6 : (t.Kind : Int) ≥ 0
 ·
  replace h := ite_t hc6 h
  refine zbh rfl rfl (zdx hc6) (zau (q := 1) zbl rfl ti3 rfl rfl rfl ?_)
  refine zbh rfl rfl (zdx hc6) (zav (v := (zaa .i64 t.Kind)) zax rfl rfl (hL3.at 0 rfl rfl) rfl ?_)
  refine zbh rfl rfl (zdx hc6) (OpY.leq (x := t.Kind) (y := 3) ((t.Kind : Int) ≤ 3) rfl rfl zbn ?_)
  refine zag (zbs (t := (decide ((t.Kind : Int) ≥ 0))) (v := (zac (decide ((t.Kind : Int) ≤ 3)))) rfl (zdx hc6) rfl ?_)
  refine zag (zad (v := (zac (decide ((t.Kind : Int) ≤ 3)))) rfl ?_)
  by_cases hc7 : (t.Kind : Int) ≤ 3
  ·
   replace h := ite_t hc7 h
   refine zbh rfl rfl (zdx hc7) (zau (q := 3) zbl rfl ti9 rfl rfl rfl ?_)
   refine zbh rfl rfl (zdx hc7) (zav (v := (zaf (s8 t.Text))) zbc rfl rfl (hL3.at 0 rfl rfl) rfl ?_)
   refine zbh rfl rfl (zdx hc7) (zds zbc rfl ?_)
   refine zbh rfl rfl (zdx hc7) (OpY.leq (x := (t.Text.length : Int)) (y := 16) (((t.Text.length : Int) : Int) ≤ 16) rfl rfl zbn ?_)
   refine zag (zbs (t := (decide ((t.Kind : Int) ≤ 3))) (v := (zac (decide (((t.Text.length : Int) : Int) ≤ 16)))) rfl (zdx hc7) rfl ?_)
   refine zag (zad (v := (zac (decide (((t.Text.length : Int) : Int) ≤ 16)))) rfl ?_)
   by_cases hc8 : ((t.Text.length : Int) : Int) ≤ 16
   ·
    replace h := ite_t hc8 h
    refine zbh rfl rfl (zdx hc8) (zau (q := 3) zbl rfl ti9 rfl rfl rfl ?_)
    refine zbh rfl rfl (zdx hc8) (zav (v := (zaf (s8 t.Text))) zbc rfl rfl (hL3.at 0 rfl rfl) rfl ?_)
    obtain ⟨r9, q10, h⟩ := zdv h
    refine zbh rfl rfl (zdx hc8) (zby en29 rfl rfl (qPrintable_w N t.Text _ Any r9 q10) ?_)
    rintro _ w10 hE10 ⟨rfl, -⟩
    have hL10 := hL3.ext hE10
    refine zag (zbs (t := (decide (((t.Text.length : Int) : Int) ≤ 16))) (v := (zac r9)) rfl (zdx hc8) rfl ?_)
    refine zag (zam (v := (zac r9)) rfl ?_)
    refine zat (zbt ?_)
    obtain rfl := zae h
    refine ⟨[(zac r9)], ⟨rfl, trivial⟩, ⟨_, rfl, hL10.done, ?_⟩⟩
    exact ⟨rfl, trivial⟩
   ·
    replace h := ite_f hc8 h
    refine zbj rfl rfl (zdw hc8) ?_
    refine zbj rfl rfl (zdw hc8) ?_
    refine zbj rfl rfl (zdw hc8) ?_
    refine zag (zbq (t := (decide (((t.Text.length : Int) : Int) ≤ 16))) (v := (zac false)) rfl (zdw hc8) rfl ?_)
    refine zag (zam (v := (zac false)) rfl ?_)
    refine zat (zbt ?_)
    obtain rfl := zae h
    refine ⟨[(zac false)], ⟨rfl, trivial⟩, ⟨_, rfl, hL3.done, ?_⟩⟩
    exact ⟨rfl, trivial⟩
  ·
   replace h := ite_f hc7 h
   refine zbj rfl rfl (zdw hc7) ?_
   refine zbj rfl rfl (zdw hc7) ?_
   refine zbj rfl rfl (zdw hc7) ?_
   refine zbj rfl rfl (zdw hc7) ?_
   refine zag (zbq (t := (decide ((t.Kind : Int) ≤ 3))) (v := (zac false)) rfl (zdw hc7) rfl ?_)
   refine zag (zad (v := (zac false)) rfl ?_)
   refine zbj rfl rfl rfl ?_
   refine zbj rfl rfl rfl ?_
   refine zbj rfl rfl rfl ?_
   refine zag (zbq (t := false) (v := (zac false)) rfl rfl rfl ?_)
   refine zag (zam (v := (zac false)) rfl ?_)
   refine zat (zbt ?_)
   obtain rfl := zae h
   refine ⟨[(zac false)], ⟨rfl, trivial⟩, ⟨_, rfl, hL3.done, ?_⟩⟩
   exact ⟨rfl, trivial⟩
 ·
  replace h := ite_f hc6 h
  refine zbj rfl rfl (zdw hc6) ?_
  refine zbj rfl rfl (zdw hc6) ?_
  refine zbj rfl rfl (zdw hc6) ?_
  refine zag (zbq (t := (decide ((t.Kind : Int) ≥ 0))) (v := (zac false)) rfl (zdw hc6) rfl ?_)
  refine zag (zad (v := (zac false)) rfl ?_)
  refine zbj rfl rfl rfl ?_
  refine zbj rfl rfl rfl ?_
  refine zbj rfl rfl rfl ?_
  refine zbj rfl rfl rfl ?_
  refine zag (zbq (t := false) (v := (zac false)) rfl rfl rfl ?_)
  refine zag (zad (v := (zac false)) rfl ?_)
  refine zbj rfl rfl rfl ?_
  refine zbj rfl rfl rfl ?_
  refine zbj rfl rfl rfl ?_
  refine zag (zbq (t := false) (v := (zac false)) rfl rfl rfl ?_)
  refine zag (zam (v := (zac false)) rfl ?_)
  refine zat (zbt ?_)
  obtain rfl := zae h
  refine ⟨[(zac false)], ⟨rfl, trivial⟩, ⟨_, rfl, hL3.done, ?_⟩⟩
  exact ⟨rfl, trivial⟩
theorem rPairs_w (N : Nat) (l : (List Arr2Int)) (n : Int) (l_v : Value) (w : World) (S : Nat → Prop) (l_h : Rs rArr2Int (vH w S [] w) l_v l) (r : Bool) (h : rPairs N l n = some r) :
  Calls Try.prog 44 #[l_v, (zaa .i64 n)] w (Ret w (fun v w' => (zac r) = v ∧ True)) := by
 unfold rPairs at h
 have hL : vL w w [] [] := Go.X.Loc.begin0 w
 refine calls_of (l := [l_v, (zaa .i64 n)]) (rl := [.tmp 4]) (n := 44) Try.func44 rfl rfl rfl (zai rfl) ?_
 refine zan (zah rfl (zag (zam (v := (zac false)) rfl ?_)))
 refine zat (zan (zan (zah rfl (zag (zam (v := (zaa .i64 0)) rfl ?_)))))
 refine zat ?_
 obtain ⟨s10, hl10, g10⟩ := zdv h
 refine zbu (fun e w' => ∃  (u : Env), (Sum.inl ()) = s10 ∧ e = upds [] u ∧ vL w w' [] [] ∧ Keep w.heap.size [] w [] w' ∧ True) ?_ ?_
 ·
  refine zbd ?_
  refine zca hl10 (fun (ss : Int) (e : Env) (w' : World) => match ss with | i10 => ∃ (u : Env), e = upds [(0, l_v), (1, (zaa .i64 n)), (5, (zaa .i64 i10))] u ∧ vL w w' [] [] ∧ Keep w.heap.size [] w [] w' ∧ True) ⟨_, (zdy ⟨rfl, rfl, rfl, trivial⟩), hL, zbr, trivial⟩ ?_
  rintro i10 oo _ w10 ⟨u, rfl, hL10, K10, -⟩ h hd10
  rw [rPairs_b1] at h
  refine zan (zan (zah rfl (zag (zad (v := (zaa .i64 i10)) rfl ?_))))
  refine zag (zad (v := l_v) rfl ?_)
  have f10 := (l_h.mono (K10 S))
  refine zag (zcf (v := l_v) zbg rfl f10 ?_)
  refine zag (zcm (x := i10) (y := (l.length : Int)) ((i10 : Int) < (l.length : Int)) rfl rfl zbn ?_)
  refine zat ?_
  refine zbk ((i10 : Int) < (l.length : Int)) rfl (fun hc10 => ?_) (fun hc10 => ?_)
  ·
   replace h := ite_t hc10 h
   refine zbm (zan (zbd (zan ?_)))
   obtain ⟨s11, h, g11⟩ := zdv h
   refine zbu (fun e w' => ∃ (x10 : Bool) (u : Env), x10 = s11 ∧ e = upds [(0, l_v), (1, (zaa .i64 n)), (5, (zaa .i64 i10)), (43, (zac x10))] u ∧ vL w w' [] [] ∧ Keep w.heap.size [] w10 [] w' ∧ True) ?_ ?_
   ·
    refine zah rfl (zag (zad (v := l_v) rfl ?_))
    refine zag (zad (v := (zaa .i64 i10)) rfl ?_)
    obtain ⟨x11, q10, h⟩ := zdv h
    obtain ⟨n10, q11, q12⟩ := zea q10
    obtain ⟨b10, o10, c10, vs10, q13, q14, f11, q15⟩ := zcy f10 q12
    obtain ⟨rfl, -⟩ := rArr2Int_open q15
    refine zag (zcb (r := rArr2Int) (v := l_v) (n := n10) (m := (o10 + n10 * rArr2Int.sz)) zbg ti45 rfl q13 rfl q11 q12 rfl ?_)
    have f12 := (f11.part (us := [(zaa .i64 x11.e0)]) 0 rfl)
    refine zag (zcp (i := 0) (q := (o10 + n10 * rArr2Int.sz) + 0) zbw ti3 rfl rfl (by decide) rfl ?_)
    refine zag (zcg (v := (zaa .i64 x11.e0)) zax rfl rfl zef f12 ?_)
    refine zag (zcm (x := x11.e0) (y := 0) ((x11.e0 : Int) < 0) rfl rfl zbn ?_)
    refine zag (zad (v := (zac (decide ((x11.e0 : Int) < 0)))) rfl ?_)
    by_cases hc11 : (x11.e0 : Int) < 0
    ·
     replace h := ite_t hc11 h
     refine zbj rfl rfl (zdx hc11) ?_
     refine zbj rfl rfl (zdx hc11) ?_
     refine zbj rfl rfl (zdx hc11) ?_
     refine zbj rfl rfl (zdx hc11) ?_
     refine zbj rfl rfl (zdx hc11) ?_
     refine zbj rfl rfl (zdx hc11) ?_
     refine zbj rfl rfl (zdx hc11) ?_
     refine zag (zbs (t := (decide ((x11.e0 : Int) < 0))) (v := (zac true)) rfl (zdx hc11) rfl ?_)
     refine zag (zad (v := (zac true)) rfl ?_)
     refine zbj rfl rfl rfl ?_
     refine zbj rfl rfl rfl ?_
     refine zbj rfl rfl rfl ?_
     refine zbj rfl rfl rfl ?_
     refine zbj rfl rfl rfl ?_
     refine zbj rfl rfl rfl ?_
     refine zag (zbs (t := true) (v := (zac true)) rfl rfl rfl ?_)
     refine zag (zad (v := (zac true)) rfl ?_)
     refine zbj rfl rfl rfl ?_
     refine zbj rfl rfl rfl ?_
     refine zbj rfl rfl rfl ?_
     refine zbj rfl rfl rfl ?_
     refine zbj rfl rfl rfl ?_
     refine zbj rfl rfl rfl ?_
     refine zbj rfl rfl rfl ?_
     refine zag (zbs (t := true) (v := (zac true)) rfl rfl rfl ?_)
     refine zat ?_
     obtain rfl := zae h
     refine zas ?_
     exact ⟨true, _, rfl, (zdy ⟨rfl, rfl, rfl, rfl, trivial⟩), hL10, zbr, trivial⟩
    ·
     replace h := ite_f hc11 h
     refine zbh rfl rfl (zdw hc11) (zad (v := l_v) rfl ?_)
     refine zbh rfl rfl (zdw hc11) (zad (v := (zaa .i64 i10)) rfl ?_)
     obtain ⟨x12, q16, h⟩ := zdv h
     obtain ⟨n11, q17, q18⟩ := zea q16
     obtain ⟨b11, o11, c11, vs11, q19, q20, f13, q21⟩ := zcy f10 q18
     obtain ⟨rfl, -⟩ := rArr2Int_open q21
     refine zbh rfl rfl (zdw hc11) (zcb (r := rArr2Int) (v := l_v) (n := n11) (m := (o11 + n11 * rArr2Int.sz)) zbg ti45 rfl q19 rfl q17 q18 rfl ?_)
     have f14 := (f13.part (us := [(zaa .i64 x12.e0)]) 0 rfl)
     refine zbh rfl rfl (zdw hc11) (zcp (i := 0) (q := (o11 + n11 * rArr2Int.sz) + 0) zbw ti3 rfl rfl (by decide) rfl ?_)
     refine zbh rfl rfl (zdw hc11) (zcg (v := (zaa .i64 x12.e0)) zax rfl rfl zef f14 ?_)
     refine zbh rfl rfl (zdw hc11) (zad (v := (zaa .i64 n)) rfl ?_)
     refine zbh rfl rfl (zdw hc11) (OpY.geq (x := x12.e0) (y := n) ((x12.e0 : Int) ≥ n) rfl rfl zbn ?_)
     refine zag (zbq (t := (decide ((x11.e0 : Int) < 0))) (v := (zac (decide ((x12.e0 : Int) ≥ n)))) rfl (zdw hc11) rfl ?_)
     refine zag (zad (v := (zac (decide ((x12.e0 : Int) ≥ n)))) rfl ?_)
     by_cases hc12 : (x12.e0 : Int) ≥ n
     ·
      replace h := ite_t hc12 h
      refine zbj rfl rfl (zdx hc12) ?_
      refine zbj rfl rfl (zdx hc12) ?_
      refine zbj rfl rfl (zdx hc12) ?_
      refine zbj rfl rfl (zdx hc12) ?_
      refine zbj rfl rfl (zdx hc12) ?_
      refine zbj rfl rfl (zdx hc12) ?_
      refine zag (zbs (t := (decide ((x12.e0 : Int) ≥ n))) (v := (zac true)) rfl (zdx hc12) rfl ?_)
      refine zag (zad (v := (zac true)) rfl ?_)
      refine zbj rfl rfl rfl ?_
      refine zbj rfl rfl rfl ?_
      refine zbj rfl rfl rfl ?_
      refine zbj rfl rfl rfl ?_
      refine zbj rfl rfl rfl ?_
      refine zbj rfl rfl rfl ?_
      refine zbj rfl rfl rfl ?_
      refine zag (zbs (t := true) (v := (zac true)) rfl rfl rfl ?_)
      refine zat ?_
      obtain rfl := zae h
      refine zas ?_
      exact ⟨true, _, rfl, (zdy ⟨rfl, rfl, rfl, rfl, trivial⟩), hL10, zbr, trivial⟩
     ·
      replace h := ite_f hc12 h
      refine zbh rfl rfl (zdw hc12) (zad (v := l_v) rfl ?_)
      refine zbh rfl rfl (zdw hc12) (zad (v := (zaa .i64 i10)) rfl ?_)
      obtain ⟨x13, q22, h⟩ := zdv h
      obtain ⟨n12, q23, q24⟩ := zea q22
      obtain ⟨b12, o12, c12, vs12, q25, q26, f15, q27⟩ := zcy f10 q24
      obtain ⟨rfl, -⟩ := rArr2Int_open q27
      refine zbh rfl rfl (zdw hc12) (zcb (r := rArr2Int) (v := l_v) (n := n12) (m := (o12 + n12 * rArr2Int.sz)) zbg ti45 rfl q25 rfl q23 q24 rfl ?_)
      have f16 := (f15.part (us := [(zaa .i64 x13.e1)]) 1 rfl)
      refine zbh rfl rfl (zdw hc12) (zcp (i := 1) (q := (o12 + n12 * rArr2Int.sz) + 1) zbw ti3 rfl rfl (by decide) rfl ?_)
      refine zbh rfl rfl (zdw hc12) (zcg (v := (zaa .i64 x13.e1)) zax rfl rfl zef f16 ?_)
      refine zbh rfl rfl (zdw hc12) (zcm (x := x13.e1) (y := 0) ((x13.e1 : Int) < 0) rfl rfl zbn ?_)
      refine zag (zbq (t := (decide ((x12.e0 : Int) ≥ n))) (v := (zac (decide ((x13.e1 : Int) < 0)))) rfl (zdw hc12) rfl ?_)
      refine zag (zad (v := (zac (decide ((x13.e1 : Int) < 0)))) rfl ?_)
      by_cases hc13 : (x13.e1 : Int) < 0
      ·
       replace h := ite_t hc13 h
       refine zbj rfl rfl (zdx hc13) ?_
       refine zbj rfl rfl (zdx hc13) ?_
       refine zbj rfl rfl (zdx hc13) ?_
       refine zbj rfl rfl (zdx hc13) ?_
       refine zbj rfl rfl (zdx hc13) ?_
       refine zbj rfl rfl (zdx hc13) ?_
       refine zbj rfl rfl (zdx hc13) ?_
       refine zag (zbs (t := (decide ((x13.e1 : Int) < 0))) (v := (zac true)) rfl (zdx hc13) rfl ?_)
       refine zat ?_
       obtain rfl := zae h
       refine zas ?_
       exact ⟨true, _, rfl, (zdy ⟨rfl, rfl, rfl, rfl, trivial⟩), hL10, zbr, trivial⟩
      ·
       replace h := ite_f hc13 h
       refine zbh rfl rfl (zdw hc13) (zad (v := l_v) rfl ?_)
       refine zbh rfl rfl (zdw hc13) (zad (v := (zaa .i64 i10)) rfl ?_)
       obtain ⟨x14, q28, h⟩ := zdv h
       obtain ⟨n13, q29, q30⟩ := zea q28
       obtain ⟨b13, o13, c13, vs13, q31, q32, f17, q33⟩ := zcy f10 q30
       obtain ⟨rfl, -⟩ := rArr2Int_open q33
       refine zbh rfl rfl (zdw hc13) (zcb (r := rArr2Int) (v := l_v) (n := n13) (m := (o13 + n13 * rArr2Int.sz)) zbg ti45 rfl q31 rfl q29 q30 rfl ?_)
       have f18 := (f17.part (us := [(zaa .i64 x14.e1)]) 1 rfl)
       refine zbh rfl rfl (zdw hc13) (zcp (i := 1) (q := (o13 + n13 * rArr2Int.sz) + 1) zbw ti3 rfl rfl (by decide) rfl ?_)
       refine zbh rfl rfl (zdw hc13) (zcg (v := (zaa .i64 x14.e1)) zax rfl rfl zef f18 ?_)
       refine zbh rfl rfl (zdw hc13) (zad (v := (zaa .i64 n)) rfl ?_)
       refine zbh rfl rfl (zdw hc13) (OpY.geq (x := x14.e1) (y := n) ((x14.e1 : Int) ≥ n) rfl rfl zbn ?_)
       refine zag (zbq (t := (decide ((x13.e1 : Int) < 0))) (v := (zac (decide ((x14.e1 : Int) ≥ n)))) rfl (zdw hc13) rfl ?_)
       refine zat ?_
       obtain rfl := zae h
       refine zas ?_
       exact ⟨(decide ((x14.e1 : Int) ≥ n)), _, rfl, (zdy ⟨rfl, rfl, rfl, rfl, trivial⟩), hL10, zbr, trivial⟩
   ·
    rintro _ w11 ⟨x10, u, rfl, rfl, hL11, K11, -⟩
    replace h := g11
    try dsimp only at h
    refine zcj x10 rfl (fun hc14 => ?_) (fun hc14 => ?_)
    ·
     replace h := ite_t hc14 h
     refine zan (zah rfl (zag (zam (v := (zac false)) rfl ?_)))
     refine zat (zbt ?_)
     obtain rfl := zae h
     obtain rfl := hd10 _ rfl
     replace h := g10
     try dsimp only at h
     obtain rfl := zae h
     refine ⟨[(zac false)], ⟨rfl, trivial⟩, ⟨_, rfl, hL11.done, ?_⟩⟩
     exact ⟨rfl, trivial⟩
    ·
     replace h := ite_f hc14 h
     refine zbm (zbf (zah rfl (zag (zad (v := (zaa .i64 i10)) rfl ?_))))
     refine zag (zce (x := i10) (y := 1) (z := (iw (i10 + 1))) rfl rfl rfl ?_)
     refine zag (zam (v := (zaa .i64 (iw (i10 + 1)))) rfl ?_)
     refine zat ?_
     obtain rfl := zae h
     refine zas ⟨(iw (i10 + 1)), rfl, ?_⟩
     exact ⟨_, (zdy ⟨rfl, rfl, rfl, trivial⟩), hL11, (zaj K10 K11), trivial⟩
  ·
   replace h := ite_f hc10 h
   refine zcd rfl ?_
   obtain rfl := zae h
   obtain rfl := hd10 _ rfl
   replace h := g10
   try dsimp only at h
   skip
   refine zas ?_
   exact ⟨_, rfl, (zdy trivial), hL10, K10, trivial⟩
 ·
  rintro _ w12 ⟨u, rfl, rfl, hL12, K12, -⟩
  replace h := g10
  try dsimp only at h
  refine zan (zah rfl (zag (zam (v := (zac true)) rfl ?_)))
  refine zat (zbt ?_)
  obtain rfl := zae h
  refine ⟨[(zac true)], ⟨rfl, trivial⟩, ⟨_, rfl, hL12.done, ?_⟩⟩
  exact ⟨rfl, trivial⟩
theorem rSizes_w (N : Nat) (l : (List Int)) (l_v : Value) (w : World) (S : Nat → Prop) (l_h : Rs (rInt .i64) (vH w S [] w) l_v l) (r : Bool) (h : rSizes N l = some r) :
  Calls Try.prog 43 #[l_v] w (Ret w (fun v w' => (zac r) = v ∧ True)) := by
 unfold rSizes at h
 have hL : vL w w [] [] := Go.X.Loc.begin0 w
 refine calls_of (l := [l_v]) (rl := [.tmp 2]) (n := 22) Try.func43 rfl rfl rfl (zai rfl) ?_
 refine zan (zah rfl (zag (zam (v := (zac false)) rfl ?_)))
 refine zat (zan (zan (zah rfl (zag (zam (v := (zaa .i64 0)) rfl ?_)))))
 refine zat ?_
 obtain ⟨s10, hl10, g10⟩ := zdv h
 refine zbu (fun e w' => ∃  (u : Env), (Sum.inl ()) = s10 ∧ e = upds [] u ∧ vL w w' [] [] ∧ Keep w.heap.size [] w [] w' ∧ True) ?_ ?_
 ·
  refine zbd ?_
  refine zca hl10 (fun (ss : Int) (e : Env) (w' : World) => match ss with | i10 => ∃ (u : Env), e = upds [(0, l_v), (3, (zaa .i64 i10))] u ∧ vL w w' [] [] ∧ Keep w.heap.size [] w [] w' ∧ True) ⟨_, (zdy ⟨rfl, rfl, trivial⟩), hL, zbr, trivial⟩ ?_
  rintro i10 oo _ w10 ⟨u, rfl, hL10, K10, -⟩ h hd10
  rw [rSizes_b1] at h
  refine zan (zan (zah rfl (zag (zad (v := (zaa .i64 i10)) rfl ?_))))
  refine zag (zad (v := l_v) rfl ?_)
  have f10 := (l_h.mono (K10 S))
  refine zag (zcf (v := l_v) zao rfl f10 ?_)
  refine zag (zcm (x := i10) (y := (l.length : Int)) ((i10 : Int) < (l.length : Int)) rfl rfl zbn ?_)
  refine zat ?_
  refine zbk ((i10 : Int) < (l.length : Int)) rfl (fun hc10 => ?_) (fun hc10 => ?_)
  ·
   replace h := ite_t hc10 h
   refine zbm (zan (zbd (zan ?_)))
   obtain ⟨s11, h, g11⟩ := zdv h
   refine zbu (fun e w' => ∃ (x10 : Bool) (u : Env), x10 = s11 ∧ e = upds [(0, l_v), (3, (zaa .i64 i10)), (21, (zac x10))] u ∧ vL w w' [] [] ∧ Keep w.heap.size [] w10 [] w' ∧ True) ?_ ?_
   ·
    refine zah rfl (zag (zad (v := l_v) rfl ?_))
    refine zag (zad (v := (zaa .i64 i10)) rfl ?_)
    obtain ⟨x11, q10, h⟩ := zdv h
    obtain ⟨n10, q11, q12⟩ := zea q10
    obtain ⟨b10, o10, c10, vs10, q13, q14, f11, q15⟩ := zcy f10 q12
    obtain rfl := q15
    refine zag (zcb (r := (rInt .i64)) (v := l_v) (n := n10) (m := (o10 + n10 * (rInt .i64).sz)) zao ti3 rfl q13 rfl q11 q12 rfl ?_)
    refine zag (zcg (v := (zaa .i64 x11)) zax rfl rfl zef f11 ?_)
    refine zag (zcm (x := x11) (y := 0) ((x11 : Int) < 0) rfl rfl zbn ?_)
    refine zag (zad (v := (zac (decide ((x11 : Int) < 0)))) rfl ?_)
    by_cases hc11 : (x11 : Int) < 0
    ·
     replace h := ite_t hc11 h
     refine zbj rfl rfl (zdx hc11) ?_
     refine zbj rfl rfl (zdx hc11) ?_
     refine zbj rfl rfl (zdx hc11) ?_
     refine zbj rfl rfl (zdx hc11) ?_
     refine zbj rfl rfl (zdx hc11) ?_
     refine zag (zbs (t := (decide ((x11 : Int) < 0))) (v := (zac true)) rfl (zdx hc11) rfl ?_)
     refine zat ?_
     obtain rfl := zae h
     refine zas ?_
     exact ⟨true, _, rfl, (zdy ⟨rfl, rfl, rfl, trivial⟩), hL10, zbr, trivial⟩
    ·
     replace h := ite_f hc11 h
     refine zbh rfl rfl (zdw hc11) (zad (v := l_v) rfl ?_)
     refine zbh rfl rfl (zdw hc11) (zad (v := (zaa .i64 i10)) rfl ?_)
     obtain ⟨x12, q16, h⟩ := zdv h
     obtain ⟨n11, q17, q18⟩ := zea q16
     obtain ⟨b11, o11, c11, vs11, q19, q20, f12, q21⟩ := zcy f10 q18
     obtain rfl := q21
     refine zbh rfl rfl (zdw hc11) (zcb (r := (rInt .i64)) (v := l_v) (n := n11) (m := (o11 + n11 * (rInt .i64).sz)) zao ti3 rfl q19 rfl q17 q18 rfl ?_)
     refine zbh rfl rfl (zdw hc11) (zcg (v := (zaa .i64 x12)) zax rfl rfl zef f12 ?_)
     refine zbh rfl rfl (zdw hc11) (OpY.gtr (x := x12) (y := 16) ((x12 : Int) > 16) rfl rfl zbn ?_)
     refine zag (zbq (t := (decide ((x11 : Int) < 0))) (v := (zac (decide ((x12 : Int) > 16)))) rfl (zdw hc11) rfl ?_)
     refine zat ?_
     obtain rfl := zae h
     refine zas ?_
     exact ⟨(decide ((x12 : Int) > 16)), _, rfl, (zdy ⟨rfl, rfl, rfl, trivial⟩), hL10, zbr, trivial⟩
   ·
    rintro _ w11 ⟨x10, u, rfl, rfl, hL11, K11, -⟩
    replace h := g11
    try dsimp only at h
    refine zcj x10 rfl (fun hc12 => ?_) (fun hc12 => ?_)
    ·
     replace h := ite_t hc12 h
     refine zan (zah rfl (zag (zam (v := (zac false)) rfl ?_)))
     refine zat (zbt ?_)
     obtain rfl := zae h
     obtain rfl := hd10 _ rfl
     replace h := g10
     try dsimp only at h
     obtain rfl := zae h
     refine ⟨[(zac false)], ⟨rfl, trivial⟩, ⟨_, rfl, hL11.done, ?_⟩⟩
     exact ⟨rfl, trivial⟩
    ·
     replace h := ite_f hc12 h
     refine zbm (zbf (zah rfl (zag (zad (v := (zaa .i64 i10)) rfl ?_))))
     refine zag (zce (x := i10) (y := 1) (z := (iw (i10 + 1))) rfl rfl rfl ?_)
     refine zag (zam (v := (zaa .i64 (iw (i10 + 1)))) rfl ?_)
     refine zat ?_
     obtain rfl := zae h
     refine zas ⟨(iw (i10 + 1)), rfl, ?_⟩
     exact ⟨_, (zdy ⟨rfl, rfl, trivial⟩), hL11, (zaj K10 K11), trivial⟩
  ·
   replace h := ite_f hc10 h
   refine zcd rfl ?_
   obtain rfl := zae h
   obtain rfl := hd10 _ rfl
   replace h := g10
   try dsimp only at h
   skip
   refine zas ?_
   exact ⟨_, rfl, (zdy trivial), hL10, K10, trivial⟩
 ·
  rintro _ w12 ⟨u, rfl, rfl, hL12, K12, -⟩
  replace h := g10
  try dsimp only at h
  refine zan (zah rfl (zag (zam (v := (zac true)) rfl ?_)))
  refine zat (zbt ?_)
  obtain rfl := zae h
  refine ⟨[(zac true)], ⟨rfl, trivial⟩, ⟨_, rfl, hL12.done, ?_⟩⟩
  exact ⟨rfl, trivial⟩
theorem rValid_w (N : Nat) (p : TProb) (p_v : Value) (p_v1 : Value) (p_v2 : Value) (p_v3 : Value) (p_v4 : Value) (w : World) (S : Nat → Prop) (p_h : Rs (rInt .i64) (vH w S [] w) p_v p.Min) (p_h1 : Rs (rInt .i64) (vH w S [] w) p_v1 p.Max) (p_h2 : Rs rTTest (vH w S [] w) p_v2 p.Tests) (p_h3 : Rs rArr2Int (vH w S [] w) p_v3 p.Same) (p_h4 : Rs rArr2Int (vH w S [] w) p_v4 p.Different) (r : Bool) (h : rValid N p = some r) :
  Calls Try.prog 24 #[(zbp #[p_v, p_v1, p_v2, p_v3, p_v4])] w (Ret w (fun v w' => (zac r) = v ∧ True)) := by
 unfold rValid at h
 have hL : vL w w [] [] := Go.X.Loc.begin0 w
 refine calls_of (l := [(zbp #[p_v, p_v1, p_v2, p_v3, p_v4])]) (rl := [.tmp 2]) (n := 72) Try.func24 rfl rfl rfl (zai rfl) ?_
 refine zan (zah rfl (zag (zdt (cs := [p_v, p_v1, p_v2, p_v3, p_v4]) rfl rfl hL ?_)))
 intro b1 w2 hL3 hS5
 have K4 := ks w hS5
 refine zag (zam (v := (zac false)) rfl ?_)
 refine zat (zan (zah rfl (zag (zau (q := 1) zba rfl ti22 rfl rfl rfl ?_))))
 refine zag (zav (v := p_v1) zao rfl rfl (hL3.at 0 rfl rfl) rfl ?_)
 have f6 := (p_h1.mono (K4 S))
 refine zag (zcf (v := p_v1) zao rfl f6 ?_)
 refine zag (zam (v := (zaa .i64 (p.Max.length : Int))) rfl ?_)
 refine zat (zan (zan (zah rfl (zag (zam (v := (zaa .i64 0)) rfl ?_)))))
 refine zat ?_
 obtain ⟨s10, hl10, g10⟩ := zdv h
 refine zbu (fun e w' => ∃  (u : Env), (Sum.inl ()) = s10 ∧ e = upds [(1, (zal (some ⟨b1, 0, none⟩))), (3, (zaa .i64 (p.Max.length : Int)))] u ∧ vL w w' [some b1] [zab [p_v, p_v1, p_v2, p_v3, p_v4]] ∧ Keep w.heap.size [some b1] w2 [some b1] w' ∧ True) ?_ ?_
 ·
  refine zbd ?_
  refine zca hl10 (fun (ss : Int) (e : Env) (w' : World) => match ss with | i10 => ∃ (u : Env), e = upds [(1, (zal (some ⟨b1, 0, none⟩))), (3, (zaa .i64 (p.Max.length : Int))), (4, (zaa .i64 i10))] u ∧ vL w w' [some b1] [zab [p_v, p_v1, p_v2, p_v3, p_v4]] ∧ Keep w.heap.size [some b1] w2 [some b1] w' ∧ True) ⟨_, (zdy ⟨rfl, rfl, rfl, trivial⟩), hL3, zbr, trivial⟩ ?_
  rintro i10 oo _ w10 ⟨u, rfl, hL10, K10, -⟩ h hd10
  rw [rValid_b1] at h
  refine zan (zan (zah rfl (zag (zad (v := (zaa .i64 i10)) rfl ?_))))
  refine zag (zau (q := 2) zba rfl ti23 rfl rfl rfl ?_)
  refine zag (zav (v := p_v2) zbb rfl rfl (hL10.at 0 rfl rfl) rfl ?_)
  have f10 := ((p_h2.mono (K4 S)).mono (K10 S))
  refine zag (zcf (v := p_v2) zbb rfl f10 ?_)
  refine zag (zcm (x := i10) (y := (p.Tests.length : Int)) ((i10 : Int) < (p.Tests.length : Int)) rfl rfl zbn ?_)
  refine zat ?_
  refine zbk ((i10 : Int) < (p.Tests.length : Int)) rfl (fun hc10 => ?_) (fun hc10 => ?_)
  ·
   replace h := ite_t hc10 h
   refine zbm (zan (zbd (zan ?_)))
   obtain ⟨s11, h, g11⟩ := zdv h
   refine zbu (fun e w' => ∃ (x10 : Bool) (u : Env), x10 = s11 ∧ e = upds [(1, (zal (some ⟨b1, 0, none⟩))), (3, (zaa .i64 (p.Max.length : Int))), (4, (zaa .i64 i10)), (40, (zac x10))] u ∧ vL w w' [some b1] [zab [p_v, p_v1, p_v2, p_v3, p_v4]] ∧ Keep w.heap.size [some b1] w10 [some b1] w' ∧ True) ?_ ?_
   ·
    refine zah rfl (zag (zau (q := 2) zba rfl ti23 rfl rfl rfl ?_))
    refine zag (zav (v := p_v2) zbb rfl rfl (hL10.at 0 rfl rfl) rfl ?_)
    refine zag (zad (v := (zaa .i64 i10)) rfl ?_)
    obtain ⟨x11, q10, h⟩ := zdv h
    obtain ⟨n10, q11, q12⟩ := zea q10
    obtain ⟨b10, o10, c10, vs10, q13, q14, f11, q15⟩ := zcy f10 q12
    obtain ⟨rfl, -⟩ := rTTest_open q15
    refine zag (zcb (r := rTTest) (v := p_v2) (n := n10) (m := (o10 + n10 * rTTest.sz)) zbb ti44 rfl q13 rfl q11 q12 rfl ?_)
    refine zag (OpY.ldRoA (vs := [(zaa .i64 x11.Var), (zaa .i64 x11.Kind), (zac x11.Negated), (zaf (s8 x11.Text))]) zbl rfl ti44 rfl rfl zef f11 ?_)
    obtain ⟨r10, q16, h⟩ := zdv h
    refine zag (zby en42 rfl rfl (qValid_w N x11 _ Any r10 q16) ?_)
    rintro _ w11 hE10 ⟨rfl, -⟩
    have hL11 := hL10.ext hE10
    have K11 := ke hL10 hE10
    refine zag (OpY.not (x := r10) rfl ?_)
    refine zag (zad (v := (zac (!r10))) rfl ?_)
    by_cases hc11 : (!r10) = true
    ·
     replace h := ite_t hc11 h
     refine zbj rfl rfl hc11 ?_
     refine zbj rfl rfl hc11 ?_
     refine zbj rfl rfl hc11 ?_
     refine zbj rfl rfl hc11 ?_
     refine zbj rfl rfl hc11 ?_
     refine zbj rfl rfl hc11 ?_
     refine zbj rfl rfl hc11 ?_
     refine zag (zbs (t := (!r10)) (v := (zac true)) rfl hc11 rfl ?_)
     refine zag (zad (v := (zac true)) rfl ?_)
     refine zbj rfl rfl rfl ?_
     refine zbj rfl rfl rfl ?_
     refine zbj rfl rfl rfl ?_
     refine zbj rfl rfl rfl ?_
     refine zbj rfl rfl rfl ?_
     refine zbj rfl rfl rfl ?_
     refine zbj rfl rfl rfl ?_
     refine zbj rfl rfl rfl ?_
     refine zag (zbs (t := true) (v := (zac true)) rfl rfl rfl ?_)
     refine zat ?_
     obtain rfl := zae h
     refine zas ?_
     exact ⟨true, _, rfl, (zdy ⟨rfl, rfl, rfl, rfl, trivial⟩), hL11, K11, trivial⟩
    ·
     replace h := ite_f hc11 h
     refine zbh rfl rfl (zdz hc11) (zau (q := 2) zba rfl ti23 rfl rfl rfl ?_)
     refine zbh rfl rfl (zdz hc11) (zav (v := p_v2) zbb rfl rfl (hL11.at 0 rfl rfl) rfl ?_)
     refine zbh rfl rfl (zdz hc11) (zad (v := (zaa .i64 i10)) rfl ?_)
     obtain ⟨x12, q17, h⟩ := zdv h
     obtain ⟨n11, q18, q19⟩ := zea q17
     have f12 := (f10.mono (K11 S))
     obtain ⟨b11, o11, c11, vs11, q20, q21, f13, q22⟩ := zcy f12 q19
     obtain ⟨rfl, -⟩ := rTTest_open q22
     refine zbh rfl rfl (zdz hc11) (zcb (r := rTTest) (v := p_v2) (n := n11) (m := (o11 + n11 * rTTest.sz)) zbb ti44 rfl q20 rfl q18 q19 rfl ?_)
     have f14 := (f13.part (us := [(zaa .i64 x12.Var)]) 0 rfl)
     refine zbh rfl rfl (zdz hc11) (zau (q := (o11 + n11 * rTTest.sz) + 0) zbl rfl ti3 rfl rfl rfl ?_)
     refine zbh rfl rfl (zdz hc11) (zcg (v := (zaa .i64 x12.Var)) zax rfl rfl zef f14 ?_)
     refine zbh rfl rfl (zdz hc11) (zcm (x := x12.Var) (y := 0) ((x12.Var : Int) < 0) rfl rfl zbn ?_)
     refine zag (zbq (t := (!r10)) (v := (zac (decide ((x12.Var : Int) < 0)))) rfl (zdz hc11) rfl ?_)
     refine zag (zad (v := (zac (decide ((x12.Var : Int) < 0)))) rfl ?_)
     by_cases hc12 : (x12.Var : Int) < 0
     ·
      replace h := ite_t hc12 h
      refine zbj rfl rfl (zdx hc12) ?_
      refine zbj rfl rfl (zdx hc12) ?_
      refine zbj rfl rfl (zdx hc12) ?_
      refine zbj rfl rfl (zdx hc12) ?_
      refine zbj rfl rfl (zdx hc12) ?_
      refine zbj rfl rfl (zdx hc12) ?_
      refine zbj rfl rfl (zdx hc12) ?_
      refine zbj rfl rfl (zdx hc12) ?_
      refine zag (zbs (t := (decide ((x12.Var : Int) < 0))) (v := (zac true)) rfl (zdx hc12) rfl ?_)
      refine zat ?_
      obtain rfl := zae h
      refine zas ?_
      exact ⟨true, _, rfl, (zdy ⟨rfl, rfl, rfl, rfl, trivial⟩), hL11, K11, trivial⟩
     ·
      replace h := ite_f hc12 h
      refine zbh rfl rfl (zdw hc12) (zau (q := 2) zba rfl ti23 rfl rfl rfl ?_)
      refine zbh rfl rfl (zdw hc12) (zav (v := p_v2) zbb rfl rfl (hL11.at 0 rfl rfl) rfl ?_)
      refine zbh rfl rfl (zdw hc12) (zad (v := (zaa .i64 i10)) rfl ?_)
      obtain ⟨x13, q23, h⟩ := zdv h
      obtain ⟨n12, q24, q25⟩ := zea q23
      obtain ⟨b12, o12, c12, vs12, q26, q27, f15, q28⟩ := zcy f12 q25
      obtain ⟨rfl, -⟩ := rTTest_open q28
      refine zbh rfl rfl (zdw hc12) (zcb (r := rTTest) (v := p_v2) (n := n12) (m := (o12 + n12 * rTTest.sz)) zbb ti44 rfl q26 rfl q24 q25 rfl ?_)
      have f16 := (f15.part (us := [(zaa .i64 x13.Var)]) 0 rfl)
      refine zbh rfl rfl (zdw hc12) (zau (q := (o12 + n12 * rTTest.sz) + 0) zbl rfl ti3 rfl rfl rfl ?_)
      refine zbh rfl rfl (zdw hc12) (zcg (v := (zaa .i64 x13.Var)) zax rfl rfl zef f16 ?_)
      refine zbh rfl rfl (zdw hc12) (zad (v := (zaa .i64 (p.Max.length : Int))) rfl ?_)
      refine zbh rfl rfl (zdw hc12) (OpY.geq (x := x13.Var) (y := (p.Max.length : Int)) ((x13.Var : Int) ≥ (p.Max.length : Int)) rfl rfl zbn ?_)
      refine zag (zbq (t := (decide ((x12.Var : Int) < 0))) (v := (zac (decide ((x13.Var : Int) ≥ (p.Max.length : Int))))) rfl (zdw hc12) rfl ?_)
      refine zat ?_
      obtain rfl := zae h
      refine zas ?_
      exact ⟨(decide ((x13.Var : Int) ≥ (p.Max.length : Int))), _, rfl, (zdy ⟨rfl, rfl, rfl, rfl, trivial⟩), hL11, K11, trivial⟩
   ·
    rintro _ w12 ⟨x10, u, rfl, rfl, hL12, K12, -⟩
    replace h := g11
    try dsimp only at h
    refine zcj x10 rfl (fun hc13 => ?_) (fun hc13 => ?_)
    ·
     replace h := ite_t hc13 h
     refine zan (zah rfl (zag (zam (v := (zac false)) rfl ?_)))
     refine zat (zbt ?_)
     obtain rfl := zae h
     obtain rfl := hd10 _ rfl
     replace h := g10
     try dsimp only at h
     obtain rfl := zae h
     refine ⟨[(zac false)], ⟨rfl, trivial⟩, ⟨_, rfl, hL12.done, ?_⟩⟩
     exact ⟨rfl, trivial⟩
    ·
     replace h := ite_f hc13 h
     refine zbm (zbf (zah rfl (zag (zad (v := (zaa .i64 i10)) rfl ?_))))
     refine zag (zce (x := i10) (y := 1) (z := (iw (i10 + 1))) rfl rfl rfl ?_)
     refine zag (zam (v := (zaa .i64 (iw (i10 + 1)))) rfl ?_)
     refine zat ?_
     obtain rfl := zae h
     refine zas ⟨(iw (i10 + 1)), rfl, ?_⟩
     exact ⟨_, (zdy ⟨rfl, rfl, rfl, trivial⟩), hL12, (zaj K10 K12), trivial⟩
  ·
   replace h := ite_f hc10 h
   refine zcd rfl ?_
   obtain rfl := zae h
   obtain rfl := hd10 _ rfl
   replace h := g10
   try dsimp only at h
   skip
   refine zas ?_
   exact ⟨_, rfl, (zdy ⟨rfl, rfl, trivial⟩), hL10, K10, trivial⟩
 ·
  rintro _ w13 ⟨u, rfl, rfl, hL13, K13, -⟩
  replace h := g10
  try dsimp only at h
  refine zan (zah rfl (zag (zau (q := 0) zba rfl ti22 rfl rfl rfl ?_)))
  refine zag (zav (v := p_v) zao rfl rfl (hL13.at 0 rfl rfl) rfl ?_)
  have f17 := ((p_h.mono (K4 S)).mono (K13 S))
  refine zag (zcf (v := p_v) zao rfl f17 ?_)
  refine zag (zad (v := (zaa .i64 (p.Max.length : Int))) rfl ?_)
  refine zag (zdm (x := (p.Min.length : Int)) (y := (p.Max.length : Int)) (((p.Min.length : Int) : Int) = (p.Max.length : Int)) rfl rfl zbn ?_)
  refine zag (zad (v := (zac (decide (((p.Min.length : Int) : Int) = (p.Max.length : Int))))) rfl ?_)
  by_cases hc14 : ((p.Min.length : Int) : Int) = (p.Max.length : Int)
  ·
   replace h := ite_t hc14 h
   refine zbh rfl rfl (zdx hc14) (zad (v := (zaa .i64 (p.Max.length : Int))) rfl ?_)
   refine zbh rfl rfl (zdx hc14) (OpY.leq (x := (p.Max.length : Int)) (y := 128) (((p.Max.length : Int) : Int) ≤ 128) rfl rfl zbn ?_)
   refine zag (zbs (t := (decide (((p.Min.length : Int) : Int) = (p.Max.length : Int)))) (v := (zac (decide (((p.Max.length : Int) : Int) ≤ 128)))) rfl (zdx hc14) rfl ?_)
   refine zag (zad (v := (zac (decide (((p.Max.length : Int) : Int) ≤ 128)))) rfl ?_)
   by_cases hc15 : ((p.Max.length : Int) : Int) ≤ 128
   ·
    replace h := ite_t hc15 h
    refine zbh rfl rfl (zdx hc15) (zau (q := 0) zba rfl ti22 rfl rfl rfl ?_)
    refine zbh rfl rfl (zdx hc15) (zav (v := p_v) zao rfl rfl (hL13.at 0 rfl rfl) rfl ?_)
    obtain ⟨r11, q29, h⟩ := zdv h
    refine zbh rfl rfl (zdx hc15) (zby en43 rfl rfl (rSizes_w N p.Min p_v _ Any (f17.mono vw_any) r11 q29) ?_)
    rintro _ w14 hE11 ⟨rfl, -⟩
    have hL14 := hL13.ext hE11
    have K14 := ke hL13 hE11
    refine zag (zbs (t := (decide (((p.Max.length : Int) : Int) ≤ 128))) (v := (zac r11)) rfl (zdx hc15) rfl ?_)
    refine zag (zad (v := (zac r11)) rfl ?_)
    by_cases hc16 : r11 = true
    ·
     replace h := ite_t hc16 h
     refine zbh rfl rfl hc16 (zau (q := 1) zba rfl ti22 rfl rfl rfl ?_)
     refine zbh rfl rfl hc16 (zav (v := p_v1) zao rfl rfl (hL14.at 0 rfl rfl) rfl ?_)
     obtain ⟨r12, q30, h⟩ := zdv h
     have f18 := ((f6.mono (K13 S)).mono (K14 S))
     refine zbh rfl rfl hc16 (zby en43 rfl rfl (rSizes_w N p.Max p_v1 _ Any (f18.mono vw_any) r12 q30) ?_)
     rintro _ w15 hE12 ⟨rfl, -⟩
     have hL15 := hL14.ext hE12
     have K15 := ke hL14 hE12
     refine zag (zbs (t := r11) (v := (zac r12)) rfl hc16 rfl ?_)
     refine zag (zad (v := (zac r12)) rfl ?_)
     by_cases hc17 : r12 = true
     ·
      replace h := ite_t hc17 h
      refine zbh rfl rfl hc17 (zau (q := 3) zba rfl ti24 rfl rfl rfl ?_)
      refine zbh rfl rfl hc17 (zav (v := p_v3) zbg rfl rfl (hL15.at 0 rfl rfl) rfl ?_)
      refine zbh rfl rfl hc17 (zad (v := (zaa .i64 (p.Max.length : Int))) rfl ?_)
      obtain ⟨r13, q31, h⟩ := zdv h
      have f19 := ((((p_h3.mono (K4 S)).mono (K13 S)).mono (K14 S)).mono (K15 S))
      refine zbh rfl rfl hc17 (zby en44 rfl rfl (rPairs_w N p.Same (p.Max.length : Int) p_v3 _ Any (f19.mono vw_any) r13 q31) ?_)
      rintro _ w16 hE13 ⟨rfl, -⟩
      have hL16 := hL15.ext hE13
      have K16 := ke hL15 hE13
      refine zag (zbs (t := r12) (v := (zac r13)) rfl hc17 rfl ?_)
      refine zag (zad (v := (zac r13)) rfl ?_)
      by_cases hc18 : r13 = true
      ·
       replace h := ite_t hc18 h
       refine zbh rfl rfl hc18 (zau (q := 4) zba rfl ti24 rfl rfl rfl ?_)
       refine zbh rfl rfl hc18 (zav (v := p_v4) zbg rfl rfl (hL16.at 0 rfl rfl) rfl ?_)
       refine zbh rfl rfl hc18 (zad (v := (zaa .i64 (p.Max.length : Int))) rfl ?_)
       obtain ⟨r14, q32, h⟩ := zdv h
       have f20 := (((((p_h4.mono (K4 S)).mono (K13 S)).mono (K14 S)).mono (K15 S)).mono (K16 S))
       refine zbh rfl rfl hc18 (zby en44 rfl rfl (rPairs_w N p.Different (p.Max.length : Int) p_v4 _ Any (f20.mono vw_any) r14 q32) ?_)
       rintro _ w17 hE14 ⟨rfl, -⟩
       have hL17 := hL16.ext hE14
       refine zag (zbs (t := r13) (v := (zac r14)) rfl hc18 rfl ?_)
       refine zag (zam (v := (zac r14)) rfl ?_)
       refine zat (zbt ?_)
       obtain rfl := zae h
       refine ⟨[(zac r14)], ⟨rfl, trivial⟩, ⟨_, rfl, hL17.done, ?_⟩⟩
       exact ⟨rfl, trivial⟩
      ·
       replace h := ite_f hc18 h
       refine zbj rfl rfl (zdz hc18) ?_
       refine zbj rfl rfl (zdz hc18) ?_
       refine zbj rfl rfl (zdz hc18) ?_
       refine zbj rfl rfl (zdz hc18) ?_
       refine zag (zbq (t := r13) (v := (zac false)) rfl (zdz hc18) rfl ?_)
       refine zag (zam (v := (zac false)) rfl ?_)
       refine zat (zbt ?_)
       obtain rfl := zae h
       refine ⟨[(zac false)], ⟨rfl, trivial⟩, ⟨_, rfl, hL16.done, ?_⟩⟩
       exact ⟨rfl, trivial⟩
     ·
      replace h := ite_f hc17 h
      refine zbj rfl rfl (zdz hc17) ?_
      refine zbj rfl rfl (zdz hc17) ?_
      refine zbj rfl rfl (zdz hc17) ?_
      refine zbj rfl rfl (zdz hc17) ?_
      refine zag (zbq (t := r12) (v := (zac false)) rfl (zdz hc17) rfl ?_)
      refine zag (zad (v := (zac false)) rfl ?_)
      refine zbj rfl rfl rfl ?_
      refine zbj rfl rfl rfl ?_
      refine zbj rfl rfl rfl ?_
      refine zbj rfl rfl rfl ?_
      refine zag (zbq (t := false) (v := (zac false)) rfl rfl rfl ?_)
      refine zag (zam (v := (zac false)) rfl ?_)
      refine zat (zbt ?_)
      obtain rfl := zae h
      refine ⟨[(zac false)], ⟨rfl, trivial⟩, ⟨_, rfl, hL15.done, ?_⟩⟩
      exact ⟨rfl, trivial⟩
    ·
     replace h := ite_f hc16 h
     refine zbj rfl rfl (zdz hc16) ?_
     refine zbj rfl rfl (zdz hc16) ?_
     refine zbj rfl rfl (zdz hc16) ?_
     refine zag (zbq (t := r11) (v := (zac false)) rfl (zdz hc16) rfl ?_)
     refine zag (zad (v := (zac false)) rfl ?_)
     refine zbj rfl rfl rfl ?_
     refine zbj rfl rfl rfl ?_
     refine zbj rfl rfl rfl ?_
     refine zbj rfl rfl rfl ?_
     refine zag (zbq (t := false) (v := (zac false)) rfl rfl rfl ?_)
     refine zag (zad (v := (zac false)) rfl ?_)
     refine zbj rfl rfl rfl ?_
     refine zbj rfl rfl rfl ?_
     refine zbj rfl rfl rfl ?_
     refine zbj rfl rfl rfl ?_
     refine zag (zbq (t := false) (v := (zac false)) rfl rfl rfl ?_)
     refine zag (zam (v := (zac false)) rfl ?_)
     refine zat (zbt ?_)
     obtain rfl := zae h
     refine ⟨[(zac false)], ⟨rfl, trivial⟩, ⟨_, rfl, hL14.done, ?_⟩⟩
     exact ⟨rfl, trivial⟩
   ·
    replace h := ite_f hc15 h
    refine zbj rfl rfl (zdw hc15) ?_
    refine zbj rfl rfl (zdw hc15) ?_
    refine zbj rfl rfl (zdw hc15) ?_
    refine zag (zbq (t := (decide (((p.Max.length : Int) : Int) ≤ 128))) (v := (zac false)) rfl (zdw hc15) rfl ?_)
    refine zag (zad (v := (zac false)) rfl ?_)
    refine zbj rfl rfl rfl ?_
    refine zbj rfl rfl rfl ?_
    refine zbj rfl rfl rfl ?_
    refine zag (zbq (t := false) (v := (zac false)) rfl rfl rfl ?_)
    refine zag (zad (v := (zac false)) rfl ?_)
    refine zbj rfl rfl rfl ?_
    refine zbj rfl rfl rfl ?_
    refine zbj rfl rfl rfl ?_
    refine zbj rfl rfl rfl ?_
    refine zag (zbq (t := false) (v := (zac false)) rfl rfl rfl ?_)
    refine zag (zad (v := (zac false)) rfl ?_)
    refine zbj rfl rfl rfl ?_
    refine zbj rfl rfl rfl ?_
    refine zbj rfl rfl rfl ?_
    refine zbj rfl rfl rfl ?_
    refine zag (zbq (t := false) (v := (zac false)) rfl rfl rfl ?_)
    refine zag (zam (v := (zac false)) rfl ?_)
    refine zat (zbt ?_)
    obtain rfl := zae h
    refine ⟨[(zac false)], ⟨rfl, trivial⟩, ⟨_, rfl, hL13.done, ?_⟩⟩
    exact ⟨rfl, trivial⟩
  ·
   replace h := ite_f hc14 h
   refine zbj rfl rfl (zdw hc14) ?_
   refine zbj rfl rfl (zdw hc14) ?_
   refine zag (zbq (t := (decide (((p.Min.length : Int) : Int) = (p.Max.length : Int)))) (v := (zac false)) rfl (zdw hc14) rfl ?_)
   refine zag (zad (v := (zac false)) rfl ?_)
   refine zbj rfl rfl rfl ?_
   refine zbj rfl rfl rfl ?_
   refine zbj rfl rfl rfl ?_
   refine zag (zbq (t := false) (v := (zac false)) rfl rfl rfl ?_)
   refine zag (zad (v := (zac false)) rfl ?_)
   refine zbj rfl rfl rfl ?_
   refine zbj rfl rfl rfl ?_
   refine zbj rfl rfl rfl ?_
   refine zag (zbq (t := false) (v := (zac false)) rfl rfl rfl ?_)
   refine zag (zad (v := (zac false)) rfl ?_)
   refine zbj rfl rfl rfl ?_
   refine zbj rfl rfl rfl ?_
   refine zbj rfl rfl rfl ?_
   refine zbj rfl rfl rfl ?_
   refine zag (zbq (t := false) (v := (zac false)) rfl rfl rfl ?_)
   refine zag (zad (v := (zac false)) rfl ?_)
   refine zbj rfl rfl rfl ?_
   refine zbj rfl rfl rfl ?_
   refine zbj rfl rfl rfl ?_
   refine zbj rfl rfl rfl ?_
   refine zag (zbq (t := false) (v := (zac false)) rfl rfl rfl ?_)
   refine zag (zam (v := (zac false)) rfl ?_)
   refine zat (zbt ?_)
   obtain rfl := zae h
   refine ⟨[(zac false)], ⟨rfl, trivial⟩, ⟨_, rfl, hL13.done, ?_⟩⟩
   exact ⟨rfl, trivial⟩
theorem rSmall_w (N : Nat) (p : TProb) (p_v : Value) (p_v1 : Value) (p_v2 : Value) (p_v3 : Value) (p_v4 : Value) (w : World) (S : Nat → Prop) (p_h : Rs (rInt .i64) (vH w S [] w) p_v p.Min) (p_h1 : Rs (rInt .i64) (vH w S [] w) p_v1 p.Max) (p_h2 : Rs rTTest (vH w S [] w) p_v2 p.Tests) (p_h3 : Rs rArr2Int (vH w S [] w) p_v3 p.Same) (p_h4 : Rs rArr2Int (vH w S [] w) p_v4 p.Different) (r : Bool) (h : rSmall N p = some r) :
  Calls Try.prog 12 #[(zbp #[p_v, p_v1, p_v2, p_v3, p_v4])] w (Ret w (fun v w' => (zac r) = v ∧ True)) := by
 unfold rSmall at h
 have hL : vL w w [] [] := Go.X.Loc.begin0 w
 refine calls_of (l := [(zbp #[p_v, p_v1, p_v2, p_v3, p_v4])]) (rl := [.tmp 2]) (n := 35) Try.func12 rfl rfl rfl (zai rfl) ?_
 refine zan (zah rfl (zag (zdt (cs := [p_v, p_v1, p_v2, p_v3, p_v4]) rfl rfl hL ?_)))
 intro b1 w2 hL3 hS5
 have K4 := ks w hS5
 refine zag (zam (v := (zac false)) rfl ?_)
 refine zat (zan (zah rfl (zag (zau (q := 1) zba rfl ti22 rfl rfl rfl ?_))))
 refine zag (zav (v := p_v1) zao rfl rfl (hL3.at 0 rfl rfl) rfl ?_)
 have f6 := (p_h1.mono (K4 S))
 refine zag (zcf (v := p_v1) zao rfl f6 ?_)
 refine zag (OpY.leq (x := (p.Max.length : Int)) (y := 6) (((p.Max.length : Int) : Int) ≤ 6) rfl rfl zbn ?_)
 refine zag (zad (v := (zac (decide (((p.Max.length : Int) : Int) ≤ 6)))) rfl ?_)
 by_cases hc7 : ((p.Max.length : Int) : Int) ≤ 6
 ·
  replace h := ite_t hc7 h
  refine zbh rfl rfl (zdx hc7) (zau (q := 0) zba rfl ti22 rfl rfl rfl ?_)
  refine zbh rfl rfl (zdx hc7) (zav (v := p_v) zao rfl rfl (hL3.at 0 rfl rfl) rfl ?_)
  have f8 := (p_h.mono (K4 S))
  refine zbh rfl rfl (zdx hc7) (zcf (v := p_v) zao rfl f8 ?_)
  refine zbh rfl rfl (zdx hc7) (OpY.leq (x := (p.Min.length : Int)) (y := 6) (((p.Min.length : Int) : Int) ≤ 6) rfl rfl zbn ?_)
  refine zag (zbs (t := (decide (((p.Max.length : Int) : Int) ≤ 6))) (v := (zac (decide (((p.Min.length : Int) : Int) ≤ 6)))) rfl (zdx hc7) rfl ?_)
  refine zag (zad (v := (zac (decide (((p.Min.length : Int) : Int) ≤ 6)))) rfl ?_)
  by_cases hc9 : ((p.Min.length : Int) : Int) ≤ 6
  ·
   replace h := ite_t hc9 h
   refine zbh rfl rfl (zdx hc9) (zau (q := 2) zba rfl ti23 rfl rfl rfl ?_)
   refine zbh rfl rfl (zdx hc9) (zav (v := p_v2) zbb rfl rfl (hL3.at 0 rfl rfl) rfl ?_)
   have f10 := (p_h2.mono (K4 S))
   refine zbh rfl rfl (zdx hc9) (zcf (v := p_v2) zbb rfl f10 ?_)
   refine zbh rfl rfl (zdx hc9) (OpY.leq (x := (p.Tests.length : Int)) (y := 8) (((p.Tests.length : Int) : Int) ≤ 8) rfl rfl zbn ?_)
   refine zag (zbs (t := (decide (((p.Min.length : Int) : Int) ≤ 6))) (v := (zac (decide (((p.Tests.length : Int) : Int) ≤ 8)))) rfl (zdx hc9) rfl ?_)
   refine zag (zad (v := (zac (decide (((p.Tests.length : Int) : Int) ≤ 8)))) rfl ?_)
   by_cases hc10 : ((p.Tests.length : Int) : Int) ≤ 8
   ·
    replace h := ite_t hc10 h
    refine zbh rfl rfl (zdx hc10) (zau (q := 3) zba rfl ti24 rfl rfl rfl ?_)
    refine zbh rfl rfl (zdx hc10) (zav (v := p_v3) zbg rfl rfl (hL3.at 0 rfl rfl) rfl ?_)
    have f11 := (p_h3.mono (K4 S))
    refine zbh rfl rfl (zdx hc10) (zcf (v := p_v3) zbg rfl f11 ?_)
    refine zbh rfl rfl (zdx hc10) (OpY.leq (x := (p.Same.length : Int)) (y := 8) (((p.Same.length : Int) : Int) ≤ 8) rfl rfl zbn ?_)
    refine zag (zbs (t := (decide (((p.Tests.length : Int) : Int) ≤ 8))) (v := (zac (decide (((p.Same.length : Int) : Int) ≤ 8)))) rfl (zdx hc10) rfl ?_)
    refine zag (zad (v := (zac (decide (((p.Same.length : Int) : Int) ≤ 8)))) rfl ?_)
    by_cases hc11 : ((p.Same.length : Int) : Int) ≤ 8
    ·
     replace h := ite_t hc11 h
     refine zbh rfl rfl (zdx hc11) (zau (q := 4) zba rfl ti24 rfl rfl rfl ?_)
     refine zbh rfl rfl (zdx hc11) (zav (v := p_v4) zbg rfl rfl (hL3.at 0 rfl rfl) rfl ?_)
     have f12 := (p_h4.mono (K4 S))
     refine zbh rfl rfl (zdx hc11) (zcf (v := p_v4) zbg rfl f12 ?_)
     refine zbh rfl rfl (zdx hc11) (OpY.leq (x := (p.Different.length : Int)) (y := 8) (((p.Different.length : Int) : Int) ≤ 8) rfl rfl zbn ?_)
     refine zag (zbs (t := (decide (((p.Same.length : Int) : Int) ≤ 8))) (v := (zac (decide (((p.Different.length : Int) : Int) ≤ 8)))) rfl (zdx hc11) rfl ?_)
     refine zag (zad (v := (zac (decide (((p.Different.length : Int) : Int) ≤ 8)))) rfl ?_)
     by_cases hc12 : ((p.Different.length : Int) : Int) ≤ 8
     ·
      replace h := ite_t hc12 h
      refine zbh rfl rfl (zdx hc12) (zco (vs := [p_v, p_v1, p_v2, p_v3, p_v4]) zba rfl ti26 rfl (hL3.at 0 rfl rfl) rfl rfl ?_)
      obtain ⟨r10, q10, h⟩ := zdv h
      refine zbh rfl rfl (zdx hc12) (zby en24 rfl rfl (rValid_w N p p_v p_v1 p_v2 p_v3 p_v4 _ Any (f8.mono vw_any) (f6.mono vw_any) (f10.mono vw_any) (f11.mono vw_any) (f12.mono vw_any) r10 q10) ?_)
      rintro _ w10 hE10 ⟨rfl, -⟩
      have hL10 := hL3.ext hE10
      refine zag (zbs (t := (decide (((p.Different.length : Int) : Int) ≤ 8))) (v := (zac r10)) rfl (zdx hc12) rfl ?_)
      refine zag (zam (v := (zac r10)) rfl ?_)
      refine zat (zbt ?_)
      obtain rfl := zae h
      refine ⟨[(zac r10)], ⟨rfl, trivial⟩, ⟨_, rfl, hL10.done, ?_⟩⟩
      exact ⟨rfl, trivial⟩
     ·
      replace h := ite_f hc12 h
      refine zbj rfl rfl (zdw hc12) ?_
      refine zbj rfl rfl (zdw hc12) ?_
      refine zag (zbq (t := (decide (((p.Different.length : Int) : Int) ≤ 8))) (v := (zac false)) rfl (zdw hc12) rfl ?_)
      refine zag (zam (v := (zac false)) rfl ?_)
      refine zat (zbt ?_)
      obtain rfl := zae h
      refine ⟨[(zac false)], ⟨rfl, trivial⟩, ⟨_, rfl, hL3.done, ?_⟩⟩
      exact ⟨rfl, trivial⟩
    ·
     replace h := ite_f hc11 h
     refine zbj rfl rfl (zdw hc11) ?_
     refine zbj rfl rfl (zdw hc11) ?_
     refine zbj rfl rfl (zdw hc11) ?_
     refine zbj rfl rfl (zdw hc11) ?_
     refine zag (zbq (t := (decide (((p.Same.length : Int) : Int) ≤ 8))) (v := (zac false)) rfl (zdw hc11) rfl ?_)
     refine zag (zad (v := (zac false)) rfl ?_)
     refine zbj rfl rfl rfl ?_
     refine zbj rfl rfl rfl ?_
     refine zag (zbq (t := false) (v := (zac false)) rfl rfl rfl ?_)
     refine zag (zam (v := (zac false)) rfl ?_)
     refine zat (zbt ?_)
     obtain rfl := zae h
     refine ⟨[(zac false)], ⟨rfl, trivial⟩, ⟨_, rfl, hL3.done, ?_⟩⟩
     exact ⟨rfl, trivial⟩
   ·
    replace h := ite_f hc10 h
    refine zbj rfl rfl (zdw hc10) ?_
    refine zbj rfl rfl (zdw hc10) ?_
    refine zbj rfl rfl (zdw hc10) ?_
    refine zbj rfl rfl (zdw hc10) ?_
    refine zag (zbq (t := (decide (((p.Tests.length : Int) : Int) ≤ 8))) (v := (zac false)) rfl (zdw hc10) rfl ?_)
    refine zag (zad (v := (zac false)) rfl ?_)
    refine zbj rfl rfl rfl ?_
    refine zbj rfl rfl rfl ?_
    refine zbj rfl rfl rfl ?_
    refine zbj rfl rfl rfl ?_
    refine zag (zbq (t := false) (v := (zac false)) rfl rfl rfl ?_)
    refine zag (zad (v := (zac false)) rfl ?_)
    refine zbj rfl rfl rfl ?_
    refine zbj rfl rfl rfl ?_
    refine zag (zbq (t := false) (v := (zac false)) rfl rfl rfl ?_)
    refine zag (zam (v := (zac false)) rfl ?_)
    refine zat (zbt ?_)
    obtain rfl := zae h
    refine ⟨[(zac false)], ⟨rfl, trivial⟩, ⟨_, rfl, hL3.done, ?_⟩⟩
    exact ⟨rfl, trivial⟩
  ·
   replace h := ite_f hc9 h
   refine zbj rfl rfl (zdw hc9) ?_
   refine zbj rfl rfl (zdw hc9) ?_
   refine zbj rfl rfl (zdw hc9) ?_
   refine zbj rfl rfl (zdw hc9) ?_
   refine zag (zbq (t := (decide (((p.Min.length : Int) : Int) ≤ 6))) (v := (zac false)) rfl (zdw hc9) rfl ?_)
   refine zag (zad (v := (zac false)) rfl ?_)
   refine zbj rfl rfl rfl ?_
   refine zbj rfl rfl rfl ?_
   refine zbj rfl rfl rfl ?_
   refine zbj rfl rfl rfl ?_
   refine zag (zbq (t := false) (v := (zac false)) rfl rfl rfl ?_)
   refine zag (zad (v := (zac false)) rfl ?_)
   refine zbj rfl rfl rfl ?_
   refine zbj rfl rfl rfl ?_
   refine zbj rfl rfl rfl ?_
   refine zbj rfl rfl rfl ?_
   refine zag (zbq (t := false) (v := (zac false)) rfl rfl rfl ?_)
   refine zag (zad (v := (zac false)) rfl ?_)
   refine zbj rfl rfl rfl ?_
   refine zbj rfl rfl rfl ?_
   refine zag (zbq (t := false) (v := (zac false)) rfl rfl rfl ?_)
   refine zag (zam (v := (zac false)) rfl ?_)
   refine zat (zbt ?_)
   obtain rfl := zae h
   refine ⟨[(zac false)], ⟨rfl, trivial⟩, ⟨_, rfl, hL3.done, ?_⟩⟩
   exact ⟨rfl, trivial⟩
 ·
  replace h := ite_f hc7 h
  refine zbj rfl rfl (zdw hc7) ?_
  refine zbj rfl rfl (zdw hc7) ?_
  refine zbj rfl rfl (zdw hc7) ?_
  refine zbj rfl rfl (zdw hc7) ?_
  refine zag (zbq (t := (decide (((p.Max.length : Int) : Int) ≤ 6))) (v := (zac false)) rfl (zdw hc7) rfl ?_)
  refine zag (zad (v := (zac false)) rfl ?_)
  refine zbj rfl rfl rfl ?_
  refine zbj rfl rfl rfl ?_
  refine zbj rfl rfl rfl ?_
  refine zbj rfl rfl rfl ?_
  refine zag (zbq (t := false) (v := (zac false)) rfl rfl rfl ?_)
  refine zag (zad (v := (zac false)) rfl ?_)
  refine zbj rfl rfl rfl ?_
  refine zbj rfl rfl rfl ?_
  refine zbj rfl rfl rfl ?_
  refine zbj rfl rfl rfl ?_
  refine zag (zbq (t := false) (v := (zac false)) rfl rfl rfl ?_)
  refine zag (zad (v := (zac false)) rfl ?_)
  refine zbj rfl rfl rfl ?_
  refine zbj rfl rfl rfl ?_
  refine zbj rfl rfl rfl ?_
  refine zbj rfl rfl rfl ?_
  refine zag (zbq (t := false) (v := (zac false)) rfl rfl rfl ?_)
  refine zag (zad (v := (zac false)) rfl ?_)
  refine zbj rfl rfl rfl ?_
  refine zbj rfl rfl rfl ?_
  refine zag (zbq (t := false) (v := (zac false)) rfl rfl rfl ?_)
  refine zag (zam (v := (zac false)) rfl ?_)
  refine zat (zbt ?_)
  obtain rfl := zae h
  refine ⟨[(zac false)], ⟨rfl, trivial⟩, ⟨_, rfl, hL3.done, ?_⟩⟩
  exact ⟨rfl, trivial⟩
end Go.Proofs.Ytaakoedphmeenaa.WR

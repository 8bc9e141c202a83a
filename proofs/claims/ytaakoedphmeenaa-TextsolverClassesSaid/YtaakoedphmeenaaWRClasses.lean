/- Walks, written by a program of mine (wip/tool); the kernel checks them. -/
import Derived.Test.YtaakoedphmeenaaProg
import Derived.Test.YtaakoedphmeenaaSqClasses
import Derived.Test.YtaakoedphmeenaaPR
import Derived.Test.YtaakoedphmeenaaWAClasses
set_option maxRecDepth 100000
set_option maxHeartbeats 40000000
set_option linter.unusedVariables false
set_option linter.unusedSimpArgs false
namespace Go.Proofs.Ytaakoedphmeenaa.WR
open Go Go.RowKit Go.X Go.D Go.Proofs.Ytaakoedphmeenaa.WA
theorem en29 : Go.X.Enters Try.prog 29 := ⟨Try.f29, Try.func29, by kernel_rfl, by kernel_rfl⟩
theorem ti45 : TI Try.prog 45 2 16 (zbp #[(zaa .i64 0), (zaa .i64 0)]) := TI.mk (by kernel_rfl)
theorem ti22 : TI Try.prog 22 1 24 (zar none 0 0) := TI.mk (by kernel_rfl)
theorem en42 : Go.X.Enters Try.prog 42 := ⟨Try.f42, Try.func42, by kernel_rfl, by kernel_rfl⟩
theorem en43 : Go.X.Enters Try.prog 43 := ⟨Try.f43, Try.func43, by kernel_rfl, by kernel_rfl⟩
theorem ti24 : TI Try.prog 24 1 24 (zar none 0 0) := TI.mk (by kernel_rfl)
theorem en44 : Go.X.Enters Try.prog 44 := ⟨Try.f44, Try.func44, by kernel_rfl, by kernel_rfl⟩
theorem ti26 : TI Try.prog 26 5 120 (zbp #[(zar none 0 0), (zar none 0 0), (zar none 0 0), (zar none 0 0), (zar none 0 0)]) := TI.mk (by kernel_rfl)
theorem en41 : Go.X.Enters Try.prog 41 := ⟨Try.f41, Try.func41, by kernel_rfl, by kernel_rfl⟩
theorem en21 : Go.X.Enters Try.prog 21 := ⟨Try.f21, Try.func21, by kernel_rfl, by kernel_rfl⟩
theorem en24 : Go.X.Enters Try.prog 24 := ⟨Try.f24, Try.func24, by kernel_rfl, by kernel_rfl⟩
theorem en12 : Go.X.Enters Try.prog 12 := ⟨Try.f12, Try.func12, by kernel_rfl, by kernel_rfl⟩
theorem qPrintable_w (N : Nat) (s : (List UInt8))  (w : World) (S : Nat → Prop)  (r : Bool) (h : qPrintable N s = some r) :
  Calls Try.prog 29 #[(zah (s8 s))] w (Ret w (fun v w' => (zac r) = v ∧ True)) := by
 unfold qPrintable at h
 have hL : vL w w [] [] := Go.X.Loc.begin0 w
 refine calls_of (l := [(zah (s8 s))]) (rl := [.tmp 2]) (n := 20) Try.func29 rfl rfl rfl (zai rfl) ?_
 refine zam (zag rfl (zaf (zal (v := (zac false)) rfl ?_)))
 refine zat (zam (zam (zag rfl (zaf (zal (v := (zaa .i64 0)) rfl ?_)))))
 refine zat ?_
 obtain ⟨s10, hl10, g10⟩ := zdt h
 refine zbu (fun e w' => ∃  (u : Env), (Sum.inl ()) = s10 ∧ e = upds [] u ∧ vL w w' [] [] ∧ Keep w.heap.size [] w [] w' ∧ True) ?_ ?_
 ·
  refine zba ?_
  refine zby hl10 (fun (ss : Int) (e : Env) (w' : World) => match ss with | i10 => ∃ (u : Env), e = upds [(0, (zah (s8 s))), (3, (zaa .i64 i10))] u ∧ vL w w' [] [] ∧ Keep w.heap.size [] w [] w' ∧ True) ⟨_, (zdw ⟨rfl, rfl, trivial⟩), hL, zbs, trivial⟩ ?_
  rintro i10 oo _ w10 ⟨u, rfl, hL10, K10, -⟩ h hd10
  rw [qPrintable_b1] at h
  refine zam (zam (zag rfl (zaf (zad (v := (zaa .i64 i10)) rfl ?_))))
  refine zaf (zad (v := (zah (s8 s))) rfl ?_)
  refine zaf (zdr zbc rfl ?_)
  refine zaf (zcj (x := i10) (y := (s.length : Int)) ((i10 : Int) < (s.length : Int)) rfl rfl zbm ?_)
  refine zat ?_
  refine zbi ((i10 : Int) < (s.length : Int)) rfl (fun hc10 => ?_) (fun hc10 => ?_)
  ·
   replace h := ite_t hc10 h
   refine zbj (zam (zba (zam ?_)))
   obtain ⟨s11, h, g11⟩ := zdt h
   refine zbu (fun e w' => ∃ (x10 : Bool) (u : Env), x10 = s11 ∧ e = upds [(0, (zah (s8 s))), (3, (zaa .i64 i10)), (19, (zac x10))] u ∧ vL w w' [] [] ∧ Keep w.heap.size [] w10 [] w' ∧ True) ?_ ?_
   ·
    refine zag rfl (zaf (zad (v := (zah (s8 s))) rfl ?_))
    refine zaf (zad (v := (zaa .i64 i10)) rfl ?_)
    obtain ⟨x11, q10, h⟩ := zdt h
    obtain ⟨n10, q11, q12⟩ := zdy q10
    refine zaf (OpY.sIndex (xs := s) (i := i10) (n := n10) (a := x11) zbc rfl rfl q11 q12 ?_)
    refine zaf (zcj (x := (UInt8.toNat x11 : Int)) (y := 32) (((UInt8.toNat x11 : Int) : Int) < 32) rfl rfl zbm ?_)
    refine zaf (zad (v := (zac (decide (((UInt8.toNat x11 : Int) : Int) < 32)))) rfl ?_)
    by_cases hc11 : ((UInt8.toNat x11 : Int) : Int) < 32
    ·
     replace h := ite_t hc11 h
     refine zbl rfl rfl (zdv hc11) ?_
     refine zbl rfl rfl (zdv hc11) ?_
     refine zbl rfl rfl (zdv hc11) ?_
     refine zbl rfl rfl (zdv hc11) ?_
     refine zaf (zbv (t := (decide (((UInt8.toNat x11 : Int) : Int) < 32))) (v := (zac true)) rfl (zdv hc11) rfl ?_)
     refine zat ?_
     obtain rfl := zae h
     refine zas ?_
     exact ⟨true, _, rfl, (zdw ⟨rfl, rfl, rfl, trivial⟩), hL10, zbs, trivial⟩
    ·
     replace h := ite_f hc11 h
     refine zbh rfl rfl (zdu hc11) (zad (v := (zah (s8 s))) rfl ?_)
     refine zbh rfl rfl (zdu hc11) (zad (v := (zaa .i64 i10)) rfl ?_)
     obtain ⟨x12, q13, h⟩ := zdt h
     obtain ⟨n11, q14, q15⟩ := zdy q13
     refine zbh rfl rfl (zdu hc11) (OpY.sIndex (xs := s) (i := i10) (n := n11) (a := x12) zbc rfl rfl q14 q15 ?_)
     refine zbh rfl rfl (zdu hc11) (OpY.gtr (x := (UInt8.toNat x12 : Int)) (y := 126) (((UInt8.toNat x12 : Int) : Int) > 126) rfl rfl zbm ?_)
     refine zaf (zbo (t := (decide (((UInt8.toNat x11 : Int) : Int) < 32))) (v := (zac (decide (((UInt8.toNat x12 : Int) : Int) > 126)))) rfl (zdu hc11) rfl ?_)
     refine zat ?_
     obtain rfl := zae h
     refine zas ?_
     exact ⟨(decide (((UInt8.toNat x12 : Int) : Int) > 126)), _, rfl, (zdw ⟨rfl, rfl, rfl, trivial⟩), hL10, zbs, trivial⟩
   ·
    rintro _ w11 ⟨x10, u, rfl, rfl, hL11, K11, -⟩
    replace h := g11
    try dsimp only at h
    refine zcm x10 rfl (fun hc12 => ?_) (fun hc12 => ?_)
    ·
     replace h := ite_t hc12 h
     refine zam (zag rfl (zaf (zal (v := (zac false)) rfl ?_)))
     refine zat (zbt ?_)
     obtain rfl := zae h
     obtain rfl := hd10 _ rfl
     replace h := g10
     try dsimp only at h
     obtain rfl := zae h
     refine ⟨[(zac false)], ⟨rfl, trivial⟩, ⟨_, rfl, hL11.done, ?_⟩⟩
     exact ⟨rfl, trivial⟩
    ·
     replace h := ite_f hc12 h
     refine zbj (zbd (zag rfl (zaf (zad (v := (zaa .i64 i10)) rfl ?_))))
     refine zaf (zcc (x := i10) (y := 1) (z := (iw (i10 + 1))) rfl rfl rfl ?_)
     refine zaf (zal (v := (zaa .i64 (iw (i10 + 1)))) rfl ?_)
     refine zat ?_
     obtain rfl := zae h
     refine zas ⟨(iw (i10 + 1)), rfl, ?_⟩
     exact ⟨_, (zdw ⟨rfl, rfl, trivial⟩), hL11, (zaj K10 K11), trivial⟩
  ·
   replace h := ite_f hc10 h
   refine zcb rfl ?_
   obtain rfl := zae h
   obtain rfl := hd10 _ rfl
   replace h := g10
   try dsimp only at h
   skip
   refine zas ?_
   exact ⟨_, rfl, (zdw trivial), hL10, K10, trivial⟩
 ·
  rintro _ w12 ⟨u, rfl, rfl, hL12, K12, -⟩
  replace h := g10
  try dsimp only at h
  refine zam (zag rfl (zaf (zal (v := (zac true)) rfl ?_)))
  refine zat (zbt ?_)
  obtain rfl := zae h
  refine ⟨[(zac true)], ⟨rfl, trivial⟩, ⟨_, rfl, hL12.done, ?_⟩⟩
  exact ⟨rfl, trivial⟩
theorem qValid_w (N : Nat) (t : TTest)  (w : World) (S : Nat → Prop)  (r : Bool) (h : qValid N t = some r) :
  Calls Try.prog 42 #[(zbp #[(zaa .i64 t.Var), (zaa .i64 t.Kind), (zac t.Negated), (zah (s8 t.Text))])] w (Ret w (fun v w' => (zac r) = v ∧ True)) := by
 unfold qValid at h
 have hL : vL w w [] [] := Go.X.Loc.begin0 w
 refine calls_of (l := [(zbp #[(zaa .i64 t.Var), (zaa .i64 t.Kind), (zac t.Negated), (zah (s8 t.Text))])]) (rl := [.tmp 2]) (n := 22) Try.func42 rfl rfl rfl (zai rfl) ?_
 refine zam (zag rfl (zaf (zds (cs := [(zaa .i64 t.Var), (zaa .i64 t.Kind), (zac t.Negated), (zah (s8 t.Text))]) rfl rfl hL ?_)))
 intro b1 w2 hL3 hS5
 refine zaf (zal (v := (zac false)) rfl ?_)
 refine zat (zam (zag rfl (zaf (zau (q := 1) zbn rfl ti3 rfl rfl rfl ?_))))
 refine zaf (zav (v := (zaa .i64 t.Kind)) zaw rfl rfl (hL3.at 0 rfl rfl) rfl ?_)
 refine zaf (OpY.geq (x := t.Kind) (y := 0) ((t.Kind : Int) ≥ 0) rfl rfl zbm ?_)
 refine zaf (zad (v := (zac (decide ((t.Kind : Int) ≥ 0)))) rfl ?_)
 by_cases hc6 : (t.Kind : Int) ≥ 0
 ·
  replace h := ite_t hc6 h
  refine zbh rfl rfl (zdv hc6) (zau (q := 1) zbn rfl ti3 rfl rfl rfl ?_)
  refine zbh rfl rfl (zdv hc6) (zav (v := (zaa .i64 t.Kind)) zaw rfl rfl (hL3.at 0 rfl rfl) rfl ?_)
  refine zbh rfl rfl (zdv hc6) (OpY.leq (x := t.Kind) (y := 3) ((t.Kind : Int) ≤ 3) rfl rfl zbm ?_)
  refine zaf (zbv (t := (decide ((t.Kind : Int) ≥ 0))) (v := (zac (decide ((t.Kind : Int) ≤ 3)))) rfl (zdv hc6) rfl ?_)
  refine zaf (zad (v := (zac (decide ((t.Kind : Int) ≤ 3)))) rfl ?_)
  by_cases hc7 : (t.Kind : Int) ≤ 3
  ·
   replace h := ite_t hc7 h
   refine zbh rfl rfl (zdv hc7) (zau (q := 3) zbn rfl ti9 rfl rfl rfl ?_)
   refine zbh rfl rfl (zdv hc7) (zav (v := (zah (s8 t.Text))) zbc rfl rfl (hL3.at 0 rfl rfl) rfl ?_)
   refine zbh rfl rfl (zdv hc7) (zdr zbc rfl ?_)
   refine zbh rfl rfl (zdv hc7) (OpY.leq (x := (t.Text.length : Int)) (y := 16) (((t.Text.length : Int) : Int) ≤ 16) rfl rfl zbm ?_)
   refine zaf (zbv (t := (decide ((t.Kind : Int) ≤ 3))) (v := (zac (decide (((t.Text.length : Int) : Int) ≤ 16)))) rfl (zdv hc7) rfl ?_)
   refine zaf (zad (v := (zac (decide (((t.Text.length : Int) : Int) ≤ 16)))) rfl ?_)
   by_cases hc8 : ((t.Text.length : Int) : Int) ≤ 16
   ·
    replace h := ite_t hc8 h
    refine zbh rfl rfl (zdv hc8) (zau (q := 3) zbn rfl ti9 rfl rfl rfl ?_)
    refine zbh rfl rfl (zdv hc8) (zav (v := (zah (s8 t.Text))) zbc rfl rfl (hL3.at 0 rfl rfl) rfl ?_)
    obtain ⟨r9, q10, h⟩ := zdt h
    refine zbh rfl rfl (zdv hc8) (zca en29 rfl rfl (qPrintable_w N t.Text _ Any r9 q10) ?_)
    rintro _ w10 hE10 ⟨rfl, -⟩
    have hL10 := hL3.ext hE10
    refine zaf (zbv (t := (decide (((t.Text.length : Int) : Int) ≤ 16))) (v := (zac r9)) rfl (zdv hc8) rfl ?_)
    refine zaf (zal (v := (zac r9)) rfl ?_)
    refine zat (zbt ?_)
    obtain rfl := zae h
    refine ⟨[(zac r9)], ⟨rfl, trivial⟩, ⟨_, rfl, hL10.done, ?_⟩⟩
    exact ⟨rfl, trivial⟩
   ·
    replace h := ite_f hc8 h
    refine zbl rfl rfl (zdu hc8) ?_
    refine zbl rfl rfl (zdu hc8) ?_
    refine zbl rfl rfl (zdu hc8) ?_
    refine zaf (zbo (t := (decide (((t.Text.length : Int) : Int) ≤ 16))) (v := (zac false)) rfl (zdu hc8) rfl ?_)
    refine zaf (zal (v := (zac false)) rfl ?_)
    refine zat (zbt ?_)
    obtain rfl := zae h
    refine ⟨[(zac false)], ⟨rfl, trivial⟩, ⟨_, rfl, hL3.done, ?_⟩⟩
    exact ⟨rfl, trivial⟩
  ·
   replace h := ite_f hc7 h
   refine zbl rfl rfl (zdu hc7) ?_
   refine zbl rfl rfl (zdu hc7) ?_
   refine zbl rfl rfl (zdu hc7) ?_
   refine zbl rfl rfl (zdu hc7) ?_
   refine zaf (zbo (t := (decide ((t.Kind : Int) ≤ 3))) (v := (zac false)) rfl (zdu hc7) rfl ?_)
   refine zaf (zad (v := (zac false)) rfl ?_)
   refine zbl rfl rfl rfl ?_
   refine zbl rfl rfl rfl ?_
   refine zbl rfl rfl rfl ?_
   refine zaf (zbo (t := false) (v := (zac false)) rfl rfl rfl ?_)
   refine zaf (zal (v := (zac false)) rfl ?_)
   refine zat (zbt ?_)
   obtain rfl := zae h
   refine ⟨[(zac false)], ⟨rfl, trivial⟩, ⟨_, rfl, hL3.done, ?_⟩⟩
   exact ⟨rfl, trivial⟩
 ·
  replace h := ite_f hc6 h
  refine zbl rfl rfl (zdu hc6) ?_
  refine zbl rfl rfl (zdu hc6) ?_
  refine zbl rfl rfl (zdu hc6) ?_
  refine zaf (zbo (t := (decide ((t.Kind : Int) ≥ 0))) (v := (zac false)) rfl (zdu hc6) rfl ?_)
  refine zaf (zad (v := (zac false)) rfl ?_)
  refine zbl rfl rfl rfl ?_
  refine zbl rfl rfl rfl ?_
  refine zbl rfl rfl rfl ?_
  refine zbl rfl rfl rfl ?_
  refine zaf (zbo (t := false) (v := (zac false)) rfl rfl rfl ?_)
  refine zaf (zad (v := (zac false)) rfl ?_)
  refine zbl rfl rfl rfl ?_
  refine zbl rfl rfl rfl ?_
  refine zbl rfl rfl rfl ?_
  refine zaf (zbo (t := false) (v := (zac false)) rfl rfl rfl ?_)
  refine zaf (zal (v := (zac false)) rfl ?_)
  refine zat (zbt ?_)
  obtain rfl := zae h
  refine ⟨[(zac false)], ⟨rfl, trivial⟩, ⟨_, rfl, hL3.done, ?_⟩⟩
  exact ⟨rfl, trivial⟩
theorem rPairs_w (N : Nat) (l : (List Arr2Int)) (n : Int) (l_v : Value) (w : World) (S : Nat → Prop) (l_h : Rs rArr2Int (vH w S [] w) l_v l) (r : Bool) (h : rPairs N l n = some r) :
  Calls Try.prog 44 #[l_v, (zaa .i64 n)] w (Ret w (fun v w' => (zac r) = v ∧ True)) := by
 unfold rPairs at h
 have hL : vL w w [] [] := Go.X.Loc.begin0 w
 refine calls_of (l := [l_v, (zaa .i64 n)]) (rl := [.tmp 4]) (n := 44) Try.func44 rfl rfl rfl (zai rfl) ?_
 refine zam (zag rfl (zaf (zal (v := (zac false)) rfl ?_)))
 refine zat (zam (zam (zag rfl (zaf (zal (v := (zaa .i64 0)) rfl ?_)))))
 refine zat ?_
 obtain ⟨s10, hl10, g10⟩ := zdt h
 refine zbu (fun e w' => ∃  (u : Env), (Sum.inl ()) = s10 ∧ e = upds [] u ∧ vL w w' [] [] ∧ Keep w.heap.size [] w [] w' ∧ True) ?_ ?_
 ·
  refine zba ?_
  refine zby hl10 (fun (ss : Int) (e : Env) (w' : World) => match ss with | i10 => ∃ (u : Env), e = upds [(0, l_v), (1, (zaa .i64 n)), (5, (zaa .i64 i10))] u ∧ vL w w' [] [] ∧ Keep w.heap.size [] w [] w' ∧ True) ⟨_, (zdw ⟨rfl, rfl, rfl, trivial⟩), hL, zbs, trivial⟩ ?_
  rintro i10 oo _ w10 ⟨u, rfl, hL10, K10, -⟩ h hd10
  rw [rPairs_b1] at h
  refine zam (zam (zag rfl (zaf (zad (v := (zaa .i64 i10)) rfl ?_))))
  refine zaf (zad (v := l_v) rfl ?_)
  have f10 := (l_h.mono (K10 S))
  refine zaf (zce (v := l_v) zbk rfl f10 ?_)
  refine zaf (zcj (x := i10) (y := (l.length : Int)) ((i10 : Int) < (l.length : Int)) rfl rfl zbm ?_)
  refine zat ?_
  refine zbi ((i10 : Int) < (l.length : Int)) rfl (fun hc10 => ?_) (fun hc10 => ?_)
  ·
   replace h := ite_t hc10 h
   refine zbj (zam (zba (zam ?_)))
   obtain ⟨s11, h, g11⟩ := zdt h
   refine zbu (fun e w' => ∃ (x10 : Bool) (u : Env), x10 = s11 ∧ e = upds [(0, l_v), (1, (zaa .i64 n)), (5, (zaa .i64 i10)), (43, (zac x10))] u ∧ vL w w' [] [] ∧ Keep w.heap.size [] w10 [] w' ∧ True) ?_ ?_
   ·
    refine zag rfl (zaf (zad (v := l_v) rfl ?_))
    refine zaf (zad (v := (zaa .i64 i10)) rfl ?_)
    obtain ⟨x11, q10, h⟩ := zdt h
    obtain ⟨n10, q11, q12⟩ := zdy q10
    obtain ⟨b10, o10, c10, vs10, q13, q14, f11, q15⟩ := zcy f10 q12
    obtain ⟨rfl, -⟩ := rArr2Int_open q15
    refine zaf (zbz (r := rArr2Int) (v := l_v) (n := n10) (m := (o10 + n10 * rArr2Int.sz)) zbk ti45 rfl q13 rfl q11 q12 rfl ?_)
    have f12 := (f11.part (us := [(zaa .i64 x11.e0)]) 0 rfl)
    refine zaf (zcl (i := 0) (q := (o10 + n10 * rArr2Int.sz) + 0) zbw ti3 rfl rfl (by decide) rfl ?_)
    refine zaf (zcf (v := (zaa .i64 x11.e0)) zaw rfl rfl zed f12 ?_)
    refine zaf (zcj (x := x11.e0) (y := 0) ((x11.e0 : Int) < 0) rfl rfl zbm ?_)
    refine zaf (zad (v := (zac (decide ((x11.e0 : Int) < 0)))) rfl ?_)
    by_cases hc11 : (x11.e0 : Int) < 0
    ·
     replace h := ite_t hc11 h
     refine zbl rfl rfl (zdv hc11) ?_
     refine zbl rfl rfl (zdv hc11) ?_
     refine zbl rfl rfl (zdv hc11) ?_
     refine zbl rfl rfl (zdv hc11) ?_
     refine zbl rfl rfl (zdv hc11) ?_
     refine zbl rfl rfl (zdv hc11) ?_
     refine zbl rfl rfl (zdv hc11) ?_
     refine zaf (zbv (t := (decide ((x11.e0 : Int) < 0))) (v := (zac true)) rfl (zdv hc11) rfl ?_)
     refine zaf (zad (v := (zac true)) rfl ?_)
     refine zbl rfl rfl rfl ?_
     refine zbl rfl rfl rfl ?_
     refine zbl rfl rfl rfl ?_
     refine zbl rfl rfl rfl ?_
     refine zbl rfl rfl rfl ?_
     refine zbl rfl rfl rfl ?_
     refine zaf (zbv (t := true) (v := (zac true)) rfl rfl rfl ?_)
     refine zaf (zad (v := (zac true)) rfl ?_)
     refine zbl rfl rfl rfl ?_
     refine zbl rfl rfl rfl ?_
     refine zbl rfl rfl rfl ?_
     refine zbl rfl rfl rfl ?_
     refine zbl rfl rfl rfl ?_
     refine zbl rfl rfl rfl ?_
     refine zbl rfl rfl rfl ?_
     refine zaf (zbv (t := true) (v := (zac true)) rfl rfl rfl ?_)
     refine zat ?_
     obtain rfl := zae h
     refine zas ?_
     exact ⟨true, _, rfl, (zdw ⟨rfl, rfl, rfl, rfl, trivial⟩), hL10, zbs, trivial⟩
    ·
     replace h := ite_f hc11 h
     refine zbh rfl rfl (zdu hc11) (zad (v := l_v) rfl ?_)
     refine zbh rfl rfl (zdu hc11) (zad (v := (zaa .i64 i10)) rfl ?_)
     obtain ⟨x12, q16, h⟩ := zdt h
     obtain ⟨n11, q17, q18⟩ := zdy q16
     obtain ⟨b11, o11, c11, vs11, q19, q20, f13, q21⟩ := zcy f10 q18
     obtain ⟨rfl, -⟩ := rArr2Int_open q21
     refine zbh rfl rfl (zdu hc11) (zbz (r := rArr2Int) (v := l_v) (n := n11) (m := (o11 + n11 * rArr2Int.sz)) zbk ti45 rfl q19 rfl q17 q18 rfl ?_)
     have f14 := (f13.part (us := [(zaa .i64 x12.e0)]) 0 rfl)
     refine zbh rfl rfl (zdu hc11) (zcl (i := 0) (q := (o11 + n11 * rArr2Int.sz) + 0) zbw ti3 rfl rfl (by decide) rfl ?_)
     refine zbh rfl rfl (zdu hc11) (zcf (v := (zaa .i64 x12.e0)) zaw rfl rfl zed f14 ?_)
     refine zbh rfl rfl (zdu hc11) (zad (v := (zaa .i64 n)) rfl ?_)
     refine zbh rfl rfl (zdu hc11) (OpY.geq (x := x12.e0) (y := n) ((x12.e0 : Int) ≥ n) rfl rfl zbm ?_)
     refine zaf (zbo (t := (decide ((x11.e0 : Int) < 0))) (v := (zac (decide ((x12.e0 : Int) ≥ n)))) rfl (zdu hc11) rfl ?_)
     refine zaf (zad (v := (zac (decide ((x12.e0 : Int) ≥ n)))) rfl ?_)
     by_cases hc12 : (x12.e0 : Int) ≥ n
     ·
      replace h := ite_t hc12 h
      refine zbl rfl rfl (zdv hc12) ?_
      refine zbl rfl rfl (zdv hc12) ?_
      refine zbl rfl rfl (zdv hc12) ?_
      refine zbl rfl rfl (zdv hc12) ?_
      refine zbl rfl rfl (zdv hc12) ?_
      refine zbl rfl rfl (zdv hc12) ?_
      refine zaf (zbv (t := (decide ((x12.e0 : Int) ≥ n))) (v := (zac true)) rfl (zdv hc12) rfl ?_)
      refine zaf (zad (v := (zac true)) rfl ?_)
      refine zbl rfl rfl rfl ?_
      refine zbl rfl rfl rfl ?_
      refine zbl rfl rfl rfl ?_
      refine zbl rfl rfl rfl ?_
      refine zbl rfl rfl rfl ?_
      refine zbl rfl rfl rfl ?_
      refine zbl rfl rfl rfl ?_
      refine zaf (zbv (t := true) (v := (zac true)) rfl rfl rfl ?_)
      refine zat ?_
      obtain rfl := zae h
      refine zas ?_
      exact ⟨true, _, rfl, (zdw ⟨rfl, rfl, rfl, rfl, trivial⟩), hL10, zbs, trivial⟩
     ·
      replace h := ite_f hc12 h
      refine zbh rfl rfl (zdu hc12) (zad (v := l_v) rfl ?_)
      refine zbh rfl rfl (zdu hc12) (zad (v := (zaa .i64 i10)) rfl ?_)
      obtain ⟨x13, q22, h⟩ := zdt h
      obtain ⟨n12, q23, q24⟩ := zdy q22
      obtain ⟨b12, o12, c12, vs12, q25, q26, f15, q27⟩ := zcy f10 q24
      obtain ⟨rfl, -⟩ := rArr2Int_open q27
      refine zbh rfl rfl (zdu hc12) (zbz (r := rArr2Int) (v := l_v) (n := n12) (m := (o12 + n12 * rArr2Int.sz)) zbk ti45 rfl q25 rfl q23 q24 rfl ?_)
      have f16 := (f15.part (us := [(zaa .i64 x13.e1)]) 1 rfl)
      refine zbh rfl rfl (zdu hc12) (zcl (i := 1) (q := (o12 + n12 * rArr2Int.sz) + 1) zbw ti3 rfl rfl (by decide) rfl ?_)
      refine zbh rfl rfl (zdu hc12) (zcf (v := (zaa .i64 x13.e1)) zaw rfl rfl zed f16 ?_)
      refine zbh rfl rfl (zdu hc12) (zcj (x := x13.e1) (y := 0) ((x13.e1 : Int) < 0) rfl rfl zbm ?_)
      refine zaf (zbo (t := (decide ((x12.e0 : Int) ≥ n))) (v := (zac (decide ((x13.e1 : Int) < 0)))) rfl (zdu hc12) rfl ?_)
      refine zaf (zad (v := (zac (decide ((x13.e1 : Int) < 0)))) rfl ?_)
      by_cases hc13 : (x13.e1 : Int) < 0
      ·
       replace h := ite_t hc13 h
       refine zbl rfl rfl (zdv hc13) ?_
       refine zbl rfl rfl (zdv hc13) ?_
       refine zbl rfl rfl (zdv hc13) ?_
       refine zbl rfl rfl (zdv hc13) ?_
       refine zbl rfl rfl (zdv hc13) ?_
       refine zbl rfl rfl (zdv hc13) ?_
       refine zbl rfl rfl (zdv hc13) ?_
       refine zaf (zbv (t := (decide ((x13.e1 : Int) < 0))) (v := (zac true)) rfl (zdv hc13) rfl ?_)
       refine zat ?_
       obtain rfl := zae h
       refine zas ?_
       exact ⟨true, _, rfl, (zdw ⟨rfl, rfl, rfl, rfl, trivial⟩), hL10, zbs, trivial⟩
      ·
       replace h := ite_f hc13 h
       refine zbh rfl rfl (zdu hc13) (zad (v := l_v) rfl ?_)
       refine zbh rfl rfl (zdu hc13) (zad (v := (zaa .i64 i10)) rfl ?_)
       obtain ⟨x14, q28, h⟩ := zdt h
       obtain ⟨n13, q29, q30⟩ := zdy q28
       obtain ⟨b13, o13, c13, vs13, q31, q32, f17, q33⟩ := zcy f10 q30
       obtain ⟨rfl, -⟩ := rArr2Int_open q33
       refine zbh rfl rfl (zdu hc13) (zbz (r := rArr2Int) (v := l_v) (n := n13) (m := (o13 + n13 * rArr2Int.sz)) zbk ti45 rfl q31 rfl q29 q30 rfl ?_)
       have f18 := (f17.part (us := [(zaa .i64 x14.e1)]) 1 rfl)
       refine zbh rfl rfl (zdu hc13) (zcl (i := 1) (q := (o13 + n13 * rArr2Int.sz) + 1) zbw ti3 rfl rfl (by decide) rfl ?_)
       refine zbh rfl rfl (zdu hc13) (zcf (v := (zaa .i64 x14.e1)) zaw rfl rfl zed f18 ?_)
       refine zbh rfl rfl (zdu hc13) (zad (v := (zaa .i64 n)) rfl ?_)
       refine zbh rfl rfl (zdu hc13) (OpY.geq (x := x14.e1) (y := n) ((x14.e1 : Int) ≥ n) rfl rfl zbm ?_)
       refine zaf (zbo (t := (decide ((x13.e1 : Int) < 0))) (v := (zac (decide ((x14.e1 : Int) ≥ n)))) rfl (zdu hc13) rfl ?_)
       refine zat ?_
       obtain rfl := zae h
       refine zas ?_
       exact ⟨(decide ((x14.e1 : Int) ≥ n)), _, rfl, (zdw ⟨rfl, rfl, rfl, rfl, trivial⟩), hL10, zbs, trivial⟩
   ·
    rintro _ w11 ⟨x10, u, rfl, rfl, hL11, K11, -⟩
    replace h := g11
    try dsimp only at h
    refine zcm x10 rfl (fun hc14 => ?_) (fun hc14 => ?_)
    ·
     replace h := ite_t hc14 h
     refine zam (zag rfl (zaf (zal (v := (zac false)) rfl ?_)))
     refine zat (zbt ?_)
     obtain rfl := zae h
     obtain rfl := hd10 _ rfl
     replace h := g10
     try dsimp only at h
     obtain rfl := zae h
     refine ⟨[(zac false)], ⟨rfl, trivial⟩, ⟨_, rfl, hL11.done, ?_⟩⟩
     exact ⟨rfl, trivial⟩
    ·
     replace h := ite_f hc14 h
     refine zbj (zbd (zag rfl (zaf (zad (v := (zaa .i64 i10)) rfl ?_))))
     refine zaf (zcc (x := i10) (y := 1) (z := (iw (i10 + 1))) rfl rfl rfl ?_)
     refine zaf (zal (v := (zaa .i64 (iw (i10 + 1)))) rfl ?_)
     refine zat ?_
     obtain rfl := zae h
     refine zas ⟨(iw (i10 + 1)), rfl, ?_⟩
     exact ⟨_, (zdw ⟨rfl, rfl, rfl, trivial⟩), hL11, (zaj K10 K11), trivial⟩
  ·
   replace h := ite_f hc10 h
   refine zcb rfl ?_
   obtain rfl := zae h
   obtain rfl := hd10 _ rfl
   replace h := g10
   try dsimp only at h
   skip
   refine zas ?_
   exact ⟨_, rfl, (zdw trivial), hL10, K10, trivial⟩
 ·
  rintro _ w12 ⟨u, rfl, rfl, hL12, K12, -⟩
  replace h := g10
  try dsimp only at h
  refine zam (zag rfl (zaf (zal (v := (zac true)) rfl ?_)))
  refine zat (zbt ?_)
  obtain rfl := zae h
  refine ⟨[(zac true)], ⟨rfl, trivial⟩, ⟨_, rfl, hL12.done, ?_⟩⟩
  exact ⟨rfl, trivial⟩
theorem rSizes_w (N : Nat) (l : (List Int)) (l_v : Value) (w : World) (S : Nat → Prop) (l_h : Rs (rInt .i64) (vH w S [] w) l_v l) (r : Bool) (h : rSizes N l = some r) :
  Calls Try.prog 43 #[l_v] w (Ret w (fun v w' => (zac r) = v ∧ True)) := by
 unfold rSizes at h
 have hL : vL w w [] [] := Go.X.Loc.begin0 w
 refine calls_of (l := [l_v]) (rl := [.tmp 2]) (n := 22) Try.func43 rfl rfl rfl (zai rfl) ?_
 refine zam (zag rfl (zaf (zal (v := (zac false)) rfl ?_)))
 refine zat (zam (zam (zag rfl (zaf (zal (v := (zaa .i64 0)) rfl ?_)))))
 refine zat ?_
 obtain ⟨s10, hl10, g10⟩ := zdt h
 refine zbu (fun e w' => ∃  (u : Env), (Sum.inl ()) = s10 ∧ e = upds [] u ∧ vL w w' [] [] ∧ Keep w.heap.size [] w [] w' ∧ True) ?_ ?_
 ·
  refine zba ?_
  refine zby hl10 (fun (ss : Int) (e : Env) (w' : World) => match ss with | i10 => ∃ (u : Env), e = upds [(0, l_v), (3, (zaa .i64 i10))] u ∧ vL w w' [] [] ∧ Keep w.heap.size [] w [] w' ∧ True) ⟨_, (zdw ⟨rfl, rfl, trivial⟩), hL, zbs, trivial⟩ ?_
  rintro i10 oo _ w10 ⟨u, rfl, hL10, K10, -⟩ h hd10
  rw [rSizes_b1] at h
  refine zam (zam (zag rfl (zaf (zad (v := (zaa .i64 i10)) rfl ?_))))
  refine zaf (zad (v := l_v) rfl ?_)
  have f10 := (l_h.mono (K10 S))
  refine zaf (zce (v := l_v) zao rfl f10 ?_)
  refine zaf (zcj (x := i10) (y := (l.length : Int)) ((i10 : Int) < (l.length : Int)) rfl rfl zbm ?_)
  refine zat ?_
  refine zbi ((i10 : Int) < (l.length : Int)) rfl (fun hc10 => ?_) (fun hc10 => ?_)
  ·
   replace h := ite_t hc10 h
   refine zbj (zam (zba (zam ?_)))
   obtain ⟨s11, h, g11⟩ := zdt h
   refine zbu (fun e w' => ∃ (x10 : Bool) (u : Env), x10 = s11 ∧ e = upds [(0, l_v), (3, (zaa .i64 i10)), (21, (zac x10))] u ∧ vL w w' [] [] ∧ Keep w.heap.size [] w10 [] w' ∧ True) ?_ ?_
   ·
    refine zag rfl (zaf (zad (v := l_v) rfl ?_))
    refine zaf (zad (v := (zaa .i64 i10)) rfl ?_)
    obtain ⟨x11, q10, h⟩ := zdt h
    obtain ⟨n10, q11, q12⟩ := zdy q10
    obtain ⟨b10, o10, c10, vs10, q13, q14, f11, q15⟩ := zcy f10 q12
    obtain rfl := q15
    refine zaf (zbz (r := (rInt .i64)) (v := l_v) (n := n10) (m := (o10 + n10 * (rInt .i64).sz)) zao ti3 rfl q13 rfl q11 q12 rfl ?_)
    refine zaf (zcf (v := (zaa .i64 x11)) zaw rfl rfl zed f11 ?_)
    refine zaf (zcj (x := x11) (y := 0) ((x11 : Int) < 0) rfl rfl zbm ?_)
    refine zaf (zad (v := (zac (decide ((x11 : Int) < 0)))) rfl ?_)
    by_cases hc11 : (x11 : Int) < 0
    ·
     replace h := ite_t hc11 h
     refine zbl rfl rfl (zdv hc11) ?_
     refine zbl rfl rfl (zdv hc11) ?_
     refine zbl rfl rfl (zdv hc11) ?_
     refine zbl rfl rfl (zdv hc11) ?_
     refine zbl rfl rfl (zdv hc11) ?_
     refine zaf (zbv (t := (decide ((x11 : Int) < 0))) (v := (zac true)) rfl (zdv hc11) rfl ?_)
     refine zat ?_
     obtain rfl := zae h
     refine zas ?_
     exact ⟨true, _, rfl, (zdw ⟨rfl, rfl, rfl, trivial⟩), hL10, zbs, trivial⟩
    ·
     replace h := ite_f hc11 h
     refine zbh rfl rfl (zdu hc11) (zad (v := l_v) rfl ?_)
     refine zbh rfl rfl (zdu hc11) (zad (v := (zaa .i64 i10)) rfl ?_)
     obtain ⟨x12, q16, h⟩ := zdt h
     obtain ⟨n11, q17, q18⟩ := zdy q16
     obtain ⟨b11, o11, c11, vs11, q19, q20, f12, q21⟩ := zcy f10 q18
     obtain rfl := q21
     refine zbh rfl rfl (zdu hc11) (zbz (r := (rInt .i64)) (v := l_v) (n := n11) (m := (o11 + n11 * (rInt .i64).sz)) zao ti3 rfl q19 rfl q17 q18 rfl ?_)
     refine zbh rfl rfl (zdu hc11) (zcf (v := (zaa .i64 x12)) zaw rfl rfl zed f12 ?_)
     refine zbh rfl rfl (zdu hc11) (OpY.gtr (x := x12) (y := 16) ((x12 : Int) > 16) rfl rfl zbm ?_)
     refine zaf (zbo (t := (decide ((x11 : Int) < 0))) (v := (zac (decide ((x12 : Int) > 16)))) rfl (zdu hc11) rfl ?_)
     refine zat ?_
     obtain rfl := zae h
     refine zas ?_
     exact ⟨(decide ((x12 : Int) > 16)), _, rfl, (zdw ⟨rfl, rfl, rfl, trivial⟩), hL10, zbs, trivial⟩
   ·
    rintro _ w11 ⟨x10, u, rfl, rfl, hL11, K11, -⟩
    replace h := g11
    try dsimp only at h
    refine zcm x10 rfl (fun hc12 => ?_) (fun hc12 => ?_)
    ·
     replace h := ite_t hc12 h
     refine zam (zag rfl (zaf (zal (v := (zac false)) rfl ?_)))
     refine zat (zbt ?_)
     obtain rfl := zae h
     obtain rfl := hd10 _ rfl
     replace h := g10
     try dsimp only at h
     obtain rfl := zae h
     refine ⟨[(zac false)], ⟨rfl, trivial⟩, ⟨_, rfl, hL11.done, ?_⟩⟩
     exact ⟨rfl, trivial⟩
    ·
     replace h := ite_f hc12 h
     refine zbj (zbd (zag rfl (zaf (zad (v := (zaa .i64 i10)) rfl ?_))))
     refine zaf (zcc (x := i10) (y := 1) (z := (iw (i10 + 1))) rfl rfl rfl ?_)
     refine zaf (zal (v := (zaa .i64 (iw (i10 + 1)))) rfl ?_)
     refine zat ?_
     obtain rfl := zae h
     refine zas ⟨(iw (i10 + 1)), rfl, ?_⟩
     exact ⟨_, (zdw ⟨rfl, rfl, trivial⟩), hL11, (zaj K10 K11), trivial⟩
  ·
   replace h := ite_f hc10 h
   refine zcb rfl ?_
   obtain rfl := zae h
   obtain rfl := hd10 _ rfl
   replace h := g10
   try dsimp only at h
   skip
   refine zas ?_
   exact ⟨_, rfl, (zdw trivial), hL10, K10, trivial⟩
 ·
  rintro _ w12 ⟨u, rfl, rfl, hL12, K12, -⟩
  replace h := g10
  try dsimp only at h
  refine zam (zag rfl (zaf (zal (v := (zac true)) rfl ?_)))
  refine zat (zbt ?_)
  obtain rfl := zae h
  refine ⟨[(zac true)], ⟨rfl, trivial⟩, ⟨_, rfl, hL12.done, ?_⟩⟩
  exact ⟨rfl, trivial⟩
theorem rValid_w (N : Nat) (p : TProb) (p_v : Value) (p_v1 : Value) (p_v2 : Value) (p_v3 : Value) (p_v4 : Value) (w : World) (S : Nat → Prop) (p_h : Rs (rInt .i64) (vH w S [] w) p_v p.Min) (p_h1 : Rs (rInt .i64) (vH w S [] w) p_v1 p.Max) (p_h2 : Rs rTTest (vH w S [] w) p_v2 p.Tests) (p_h3 : Rs rArr2Int (vH w S [] w) p_v3 p.Same) (p_h4 : Rs rArr2Int (vH w S [] w) p_v4 p.Different) (r : Bool) (h : rValid N p = some r) :
  Calls Try.prog 24 #[(zbp #[p_v, p_v1, p_v2, p_v3, p_v4])] w (Ret w (fun v w' => (zac r) = v ∧ True)) := by
 unfold rValid at h
 have hL : vL w w [] [] := Go.X.Loc.begin0 w
 refine calls_of (l := [(zbp #[p_v, p_v1, p_v2, p_v3, p_v4])]) (rl := [.tmp 2]) (n := 72) Try.func24 rfl rfl rfl (zai rfl) ?_
 refine zam (zag rfl (zaf (zds (cs := [p_v, p_v1, p_v2, p_v3, p_v4]) rfl rfl hL ?_)))
 intro b1 w2 hL3 hS5
 have K4 := ks w hS5
 refine zaf (zal (v := (zac false)) rfl ?_)
 refine zat (zam (zag rfl (zaf (zau (q := 1) zaz rfl ti22 rfl rfl rfl ?_))))
 refine zaf (zav (v := p_v1) zao rfl rfl (hL3.at 0 rfl rfl) rfl ?_)
 have f6 := (p_h1.mono (K4 S))
 refine zaf (zce (v := p_v1) zao rfl f6 ?_)
 refine zaf (zal (v := (zaa .i64 (p.Max.length : Int))) rfl ?_)
 refine zat (zam (zam (zag rfl (zaf (zal (v := (zaa .i64 0)) rfl ?_)))))
 refine zat ?_
 obtain ⟨s10, hl10, g10⟩ := zdt h
 refine zbu (fun e w' => ∃  (u : Env), (Sum.inl ()) = s10 ∧ e = upds [(1, (zan (some ⟨b1, 0, none⟩))), (3, (zaa .i64 (p.Max.length : Int)))] u ∧ vL w w' [some b1] [zab [p_v, p_v1, p_v2, p_v3, p_v4]] ∧ Keep w.heap.size [some b1] w2 [some b1] w' ∧ True) ?_ ?_
 ·
  refine zba ?_
  refine zby hl10 (fun (ss : Int) (e : Env) (w' : World) => match ss with | i10 => ∃ (u : Env), e = upds [(1, (zan (some ⟨b1, 0, none⟩))), (3, (zaa .i64 (p.Max.length : Int))), (4, (zaa .i64 i10))] u ∧ vL w w' [some b1] [zab [p_v, p_v1, p_v2, p_v3, p_v4]] ∧ Keep w.heap.size [some b1] w2 [some b1] w' ∧ True) ⟨_, (zdw ⟨rfl, rfl, rfl, trivial⟩), hL3, zbs, trivial⟩ ?_
  rintro i10 oo _ w10 ⟨u, rfl, hL10, K10, -⟩ h hd10
  rw [rValid_b1] at h
  refine zam (zam (zag rfl (zaf (zad (v := (zaa .i64 i10)) rfl ?_))))
  refine zaf (zau (q := 2) zaz rfl ti23 rfl rfl rfl ?_)
  refine zaf (zav (v := p_v2) zbe rfl rfl (hL10.at 0 rfl rfl) rfl ?_)
  have f10 := ((p_h2.mono (K4 S)).mono (K10 S))
  refine zaf (zce (v := p_v2) zbe rfl f10 ?_)
  refine zaf (zcj (x := i10) (y := (p.Tests.length : Int)) ((i10 : Int) < (p.Tests.length : Int)) rfl rfl zbm ?_)
  refine zat ?_
  refine zbi ((i10 : Int) < (p.Tests.length : Int)) rfl (fun hc10 => ?_) (fun hc10 => ?_)
  ·
   replace h := ite_t hc10 h
   refine zbj (zam (zba (zam ?_)))
   obtain ⟨s11, h, g11⟩ := zdt h
   refine zbu (fun e w' => ∃ (x10 : Bool) (u : Env), x10 = s11 ∧ e = upds [(1, (zan (some ⟨b1, 0, none⟩))), (3, (zaa .i64 (p.Max.length : Int))), (4, (zaa .i64 i10)), (40, (zac x10))] u ∧ vL w w' [some b1] [zab [p_v, p_v1, p_v2, p_v3, p_v4]] ∧ Keep w.heap.size [some b1] w10 [some b1] w' ∧ True) ?_ ?_
   ·
    refine zag rfl (zaf (zau (q := 2) zaz rfl ti23 rfl rfl rfl ?_))
    refine zaf (zav (v := p_v2) zbe rfl rfl (hL10.at 0 rfl rfl) rfl ?_)
    refine zaf (zad (v := (zaa .i64 i10)) rfl ?_)
    obtain ⟨x11, q10, h⟩ := zdt h
    obtain ⟨n10, q11, q12⟩ := zdy q10
    obtain ⟨b10, o10, c10, vs10, q13, q14, f11, q15⟩ := zcy f10 q12
    obtain ⟨rfl, -⟩ := rTTest_open q15
    refine zaf (zbz (r := rTTest) (v := p_v2) (n := n10) (m := (o10 + n10 * rTTest.sz)) zbe ti44 rfl q13 rfl q11 q12 rfl ?_)
    refine zaf (OpY.ldRoA (vs := [(zaa .i64 x11.Var), (zaa .i64 x11.Kind), (zac x11.Negated), (zah (s8 x11.Text))]) zbn rfl ti44 rfl rfl zed f11 ?_)
    obtain ⟨r10, q16, h⟩ := zdt h
    refine zaf (zca en42 rfl rfl (qValid_w N x11 _ Any r10 q16) ?_)
    rintro _ w11 hE10 ⟨rfl, -⟩
    have hL11 := hL10.ext hE10
    have K11 := ke hL10 hE10
    refine zaf (OpY.not (x := r10) rfl ?_)
    refine zaf (zad (v := (zac (!r10))) rfl ?_)
    by_cases hc11 : (!r10) = true
    ·
     replace h := ite_t hc11 h
     refine zbl rfl rfl hc11 ?_
     refine zbl rfl rfl hc11 ?_
     refine zbl rfl rfl hc11 ?_
     refine zbl rfl rfl hc11 ?_
     refine zbl rfl rfl hc11 ?_
     refine zbl rfl rfl hc11 ?_
     refine zbl rfl rfl hc11 ?_
     refine zaf (zbv (t := (!r10)) (v := (zac true)) rfl hc11 rfl ?_)
     refine zaf (zad (v := (zac true)) rfl ?_)
     refine zbl rfl rfl rfl ?_
     refine zbl rfl rfl rfl ?_
     refine zbl rfl rfl rfl ?_
     refine zbl rfl rfl rfl ?_
     refine zbl rfl rfl rfl ?_
     refine zbl rfl rfl rfl ?_
     refine zbl rfl rfl rfl ?_
     refine zbl rfl rfl rfl ?_
     refine zaf (zbv (t := true) (v := (zac true)) rfl rfl rfl ?_)
     refine zat ?_
     obtain rfl := zae h
     refine zas ?_
     exact ⟨true, _, rfl, (zdw ⟨rfl, rfl, rfl, rfl, trivial⟩), hL11, K11, trivial⟩
    ·
     replace h := ite_f hc11 h
     refine zbh rfl rfl (zdx hc11) (zau (q := 2) zaz rfl ti23 rfl rfl rfl ?_)
     refine zbh rfl rfl (zdx hc11) (zav (v := p_v2) zbe rfl rfl (hL11.at 0 rfl rfl) rfl ?_)
     refine zbh rfl rfl (zdx hc11) (zad (v := (zaa .i64 i10)) rfl ?_)
     obtain ⟨x12, q17, h⟩ := zdt h
     obtain ⟨n11, q18, q19⟩ := zdy q17
     have f12 := (f10.mono (K11 S))
     obtain ⟨b11, o11, c11, vs11, q20, q21, f13, q22⟩ := zcy f12 q19
     obtain ⟨rfl, -⟩ := rTTest_open q22
     refine zbh rfl rfl (zdx hc11) (zbz (r := rTTest) (v := p_v2) (n := n11) (m := (o11 + n11 * rTTest.sz)) zbe ti44 rfl q20 rfl q18 q19 rfl ?_)
     have f14 := (f13.part (us := [(zaa .i64 x12.Var)]) 0 rfl)
     refine zbh rfl rfl (zdx hc11) (zau (q := (o11 + n11 * rTTest.sz) + 0) zbn rfl ti3 rfl rfl rfl ?_)
     refine zbh rfl rfl (zdx hc11) (zcf (v := (zaa .i64 x12.Var)) zaw rfl rfl zed f14 ?_)
     refine zbh rfl rfl (zdx hc11) (zcj (x := x12.Var) (y := 0) ((x12.Var : Int) < 0) rfl rfl zbm ?_)
     refine zaf (zbo (t := (!r10)) (v := (zac (decide ((x12.Var : Int) < 0)))) rfl (zdx hc11) rfl ?_)
     refine zaf (zad (v := (zac (decide ((x12.Var : Int) < 0)))) rfl ?_)
     by_cases hc12 : (x12.Var : Int) < 0
     ·
      replace h := ite_t hc12 h
      refine zbl rfl rfl (zdv hc12) ?_
      refine zbl rfl rfl (zdv hc12) ?_
      refine zbl rfl rfl (zdv hc12) ?_
      refine zbl rfl rfl (zdv hc12) ?_
      refine zbl rfl rfl (zdv hc12) ?_
      refine zbl rfl rfl (zdv hc12) ?_
      refine zbl rfl rfl (zdv hc12) ?_
      refine zbl rfl rfl (zdv hc12) ?_
      refine zaf (zbv (t := (decide ((x12.Var : Int) < 0))) (v := (zac true)) rfl (zdv hc12) rfl ?_)
      refine zat ?_
      obtain rfl := zae h
      refine zas ?_
      exact ⟨true, _, rfl, (zdw ⟨rfl, rfl, rfl, rfl, trivial⟩), hL11, K11, trivial⟩
     ·
      replace h := ite_f hc12 h
      refine zbh rfl rfl (zdu hc12) (zau (q := 2) zaz rfl ti23 rfl rfl rfl ?_)
      refine zbh rfl rfl (zdu hc12) (zav (v := p_v2) zbe rfl rfl (hL11.at 0 rfl rfl) rfl ?_)
      refine zbh rfl rfl (zdu hc12) (zad (v := (zaa .i64 i10)) rfl ?_)
      obtain ⟨x13, q23, h⟩ := zdt h
      obtain ⟨n12, q24, q25⟩ := zdy q23
      obtain ⟨b12, o12, c12, vs12, q26, q27, f15, q28⟩ := zcy f12 q25
      obtain ⟨rfl, -⟩ := rTTest_open q28
      refine zbh rfl rfl (zdu hc12) (zbz (r := rTTest) (v := p_v2) (n := n12) (m := (o12 + n12 * rTTest.sz)) zbe ti44 rfl q26 rfl q24 q25 rfl ?_)
      have f16 := (f15.part (us := [(zaa .i64 x13.Var)]) 0 rfl)
      refine zbh rfl rfl (zdu hc12) (zau (q := (o12 + n12 * rTTest.sz) + 0) zbn rfl ti3 rfl rfl rfl ?_)
      refine zbh rfl rfl (zdu hc12) (zcf (v := (zaa .i64 x13.Var)) zaw rfl rfl zed f16 ?_)
      refine zbh rfl rfl (zdu hc12) (zad (v := (zaa .i64 (p.Max.length : Int))) rfl ?_)
      refine zbh rfl rfl (zdu hc12) (OpY.geq (x := x13.Var) (y := (p.Max.length : Int)) ((x13.Var : Int) ≥ (p.Max.length : Int)) rfl rfl zbm ?_)
      refine zaf (zbo (t := (decide ((x12.Var : Int) < 0))) (v := (zac (decide ((x13.Var : Int) ≥ (p.Max.length : Int))))) rfl (zdu hc12) rfl ?_)
      refine zat ?_
      obtain rfl := zae h
      refine zas ?_
      exact ⟨(decide ((x13.Var : Int) ≥ (p.Max.length : Int))), _, rfl, (zdw ⟨rfl, rfl, rfl, rfl, trivial⟩), hL11, K11, trivial⟩
   ·
    rintro _ w12 ⟨x10, u, rfl, rfl, hL12, K12, -⟩
    replace h := g11
    try dsimp only at h
    refine zcm x10 rfl (fun hc13 => ?_) (fun hc13 => ?_)
    ·
     replace h := ite_t hc13 h
     refine zam (zag rfl (zaf (zal (v := (zac false)) rfl ?_)))
     refine zat (zbt ?_)
     obtain rfl := zae h
     obtain rfl := hd10 _ rfl
     replace h := g10
     try dsimp only at h
     obtain rfl := zae h
     refine ⟨[(zac false)], ⟨rfl, trivial⟩, ⟨_, rfl, hL12.done, ?_⟩⟩
     exact ⟨rfl, trivial⟩
    ·
     replace h := ite_f hc13 h
     refine zbj (zbd (zag rfl (zaf (zad (v := (zaa .i64 i10)) rfl ?_))))
     refine zaf (zcc (x := i10) (y := 1) (z := (iw (i10 + 1))) rfl rfl rfl ?_)
     refine zaf (zal (v := (zaa .i64 (iw (i10 + 1)))) rfl ?_)
     refine zat ?_
     obtain rfl := zae h
     refine zas ⟨(iw (i10 + 1)), rfl, ?_⟩
     exact ⟨_, (zdw ⟨rfl, rfl, rfl, trivial⟩), hL12, (zaj K10 K12), trivial⟩
  ·
   replace h := ite_f hc10 h
   refine zcb rfl ?_
   obtain rfl := zae h
   obtain rfl := hd10 _ rfl
   replace h := g10
   try dsimp only at h
   skip
   refine zas ?_
   exact ⟨_, rfl, (zdw ⟨rfl, rfl, trivial⟩), hL10, K10, trivial⟩
 ·
  rintro _ w13 ⟨u, rfl, rfl, hL13, K13, -⟩
  replace h := g10
  try dsimp only at h
  refine zam (zag rfl (zaf (zau (q := 0) zaz rfl ti22 rfl rfl rfl ?_)))
  refine zaf (zav (v := p_v) zao rfl rfl (hL13.at 0 rfl rfl) rfl ?_)
  have f17 := ((p_h.mono (K4 S)).mono (K13 S))
  refine zaf (zce (v := p_v) zao rfl f17 ?_)
  refine zaf (zad (v := (zaa .i64 (p.Max.length : Int))) rfl ?_)
  refine zaf (zdn (x := (p.Min.length : Int)) (y := (p.Max.length : Int)) (((p.Min.length : Int) : Int) = (p.Max.length : Int)) rfl rfl zbm ?_)
  refine zaf (zad (v := (zac (decide (((p.Min.length : Int) : Int) = (p.Max.length : Int))))) rfl ?_)
  by_cases hc14 : ((p.Min.length : Int) : Int) = (p.Max.length : Int)
  ·
   replace h := ite_t hc14 h
   refine zbh rfl rfl (zdv hc14) (zad (v := (zaa .i64 (p.Max.length : Int))) rfl ?_)
   refine zbh rfl rfl (zdv hc14) (OpY.leq (x := (p.Max.length : Int)) (y := 128) (((p.Max.length : Int) : Int) ≤ 128) rfl rfl zbm ?_)
   refine zaf (zbv (t := (decide (((p.Min.length : Int) : Int) = (p.Max.length : Int)))) (v := (zac (decide (((p.Max.length : Int) : Int) ≤ 128)))) rfl (zdv hc14) rfl ?_)
   refine zaf (zad (v := (zac (decide (((p.Max.length : Int) : Int) ≤ 128)))) rfl ?_)
   by_cases hc15 : ((p.Max.length : Int) : Int) ≤ 128
   ·
    replace h := ite_t hc15 h
    refine zbh rfl rfl (zdv hc15) (zau (q := 0) zaz rfl ti22 rfl rfl rfl ?_)
    refine zbh rfl rfl (zdv hc15) (zav (v := p_v) zao rfl rfl (hL13.at 0 rfl rfl) rfl ?_)
    obtain ⟨r11, q29, h⟩ := zdt h
    refine zbh rfl rfl (zdv hc15) (zca en43 rfl rfl (rSizes_w N p.Min p_v _ Any (f17.mono vw_any) r11 q29) ?_)
    rintro _ w14 hE11 ⟨rfl, -⟩
    have hL14 := hL13.ext hE11
    have K14 := ke hL13 hE11
    refine zaf (zbv (t := (decide (((p.Max.length : Int) : Int) ≤ 128))) (v := (zac r11)) rfl (zdv hc15) rfl ?_)
    refine zaf (zad (v := (zac r11)) rfl ?_)
    by_cases hc16 : r11 = true
    ·
     replace h := ite_t hc16 h
     refine zbh rfl rfl hc16 (zau (q := 1) zaz rfl ti22 rfl rfl rfl ?_)
     refine zbh rfl rfl hc16 (zav (v := p_v1) zao rfl rfl (hL14.at 0 rfl rfl) rfl ?_)
     obtain ⟨r12, q30, h⟩ := zdt h
     have f18 := ((f6.mono (K13 S)).mono (K14 S))
     refine zbh rfl rfl hc16 (zca en43 rfl rfl (rSizes_w N p.Max p_v1 _ Any (f18.mono vw_any) r12 q30) ?_)
     rintro _ w15 hE12 ⟨rfl, -⟩
     have hL15 := hL14.ext hE12
     have K15 := ke hL14 hE12
     refine zaf (zbv (t := r11) (v := (zac r12)) rfl hc16 rfl ?_)
     refine zaf (zad (v := (zac r12)) rfl ?_)
     by_cases hc17 : r12 = true
     ·
      replace h := ite_t hc17 h
      refine zbh rfl rfl hc17 (zau (q := 3) zaz rfl ti24 rfl rfl rfl ?_)
      refine zbh rfl rfl hc17 (zav (v := p_v3) zbk rfl rfl (hL15.at 0 rfl rfl) rfl ?_)
      refine zbh rfl rfl hc17 (zad (v := (zaa .i64 (p.Max.length : Int))) rfl ?_)
      obtain ⟨r13, q31, h⟩ := zdt h
      have f19 := ((((p_h3.mono (K4 S)).mono (K13 S)).mono (K14 S)).mono (K15 S))
      refine zbh rfl rfl hc17 (zca en44 rfl rfl (rPairs_w N p.Same (p.Max.length : Int) p_v3 _ Any (f19.mono vw_any) r13 q31) ?_)
      rintro _ w16 hE13 ⟨rfl, -⟩
      have hL16 := hL15.ext hE13
      have K16 := ke hL15 hE13
      refine zaf (zbv (t := r12) (v := (zac r13)) rfl hc17 rfl ?_)
      refine zaf (zad (v := (zac r13)) rfl ?_)
      by_cases hc18 : r13 = true
      ·
       replace h := ite_t hc18 h
       refine zbh rfl rfl hc18 (zau (q := 4) zaz rfl ti24 rfl rfl rfl ?_)
       refine zbh rfl rfl hc18 (zav (v := p_v4) zbk rfl rfl (hL16.at 0 rfl rfl) rfl ?_)
       refine zbh rfl rfl hc18 (zad (v := (zaa .i64 (p.Max.length : Int))) rfl ?_)
       obtain ⟨r14, q32, h⟩ := zdt h
       have f20 := (((((p_h4.mono (K4 S)).mono (K13 S)).mono (K14 S)).mono (K15 S)).mono (K16 S))
       refine zbh rfl rfl hc18 (zca en44 rfl rfl (rPairs_w N p.Different (p.Max.length : Int) p_v4 _ Any (f20.mono vw_any) r14 q32) ?_)
       rintro _ w17 hE14 ⟨rfl, -⟩
       have hL17 := hL16.ext hE14
       refine zaf (zbv (t := r13) (v := (zac r14)) rfl hc18 rfl ?_)
       refine zaf (zal (v := (zac r14)) rfl ?_)
       refine zat (zbt ?_)
       obtain rfl := zae h
       refine ⟨[(zac r14)], ⟨rfl, trivial⟩, ⟨_, rfl, hL17.done, ?_⟩⟩
       exact ⟨rfl, trivial⟩
      ·
       replace h := ite_f hc18 h
       refine zbl rfl rfl (zdx hc18) ?_
       refine zbl rfl rfl (zdx hc18) ?_
       refine zbl rfl rfl (zdx hc18) ?_
       refine zbl rfl rfl (zdx hc18) ?_
       refine zaf (zbo (t := r13) (v := (zac false)) rfl (zdx hc18) rfl ?_)
       refine zaf (zal (v := (zac false)) rfl ?_)
       refine zat (zbt ?_)
       obtain rfl := zae h
       refine ⟨[(zac false)], ⟨rfl, trivial⟩, ⟨_, rfl, hL16.done, ?_⟩⟩
       exact ⟨rfl, trivial⟩
     ·
      replace h := ite_f hc17 h
      refine zbl rfl rfl (zdx hc17) ?_
      refine zbl rfl rfl (zdx hc17) ?_
      refine zbl rfl rfl (zdx hc17) ?_
      refine zbl rfl rfl (zdx hc17) ?_
      refine zaf (zbo (t := r12) (v := (zac false)) rfl (zdx hc17) rfl ?_)
      refine zaf (zad (v := (zac false)) rfl ?_)
      refine zbl rfl rfl rfl ?_
      refine zbl rfl rfl rfl ?_
      refine zbl rfl rfl rfl ?_
      refine zbl rfl rfl rfl ?_
      refine zaf (zbo (t := false) (v := (zac false)) rfl rfl rfl ?_)
      refine zaf (zal (v := (zac false)) rfl ?_)
      refine zat (zbt ?_)
      obtain rfl := zae h
      refine ⟨[(zac false)], ⟨rfl, trivial⟩, ⟨_, rfl, hL15.done, ?_⟩⟩
      exact ⟨rfl, trivial⟩
    ·
     replace h := ite_f hc16 h
     refine zbl rfl rfl (zdx hc16) ?_
     refine zbl rfl rfl (zdx hc16) ?_
     refine zbl rfl rfl (zdx hc16) ?_
     refine zaf (zbo (t := r11) (v := (zac false)) rfl (zdx hc16) rfl ?_)
     refine zaf (zad (v := (zac false)) rfl ?_)
     refine zbl rfl rfl rfl ?_
     refine zbl rfl rfl rfl ?_
     refine zbl rfl rfl rfl ?_
     refine zbl rfl rfl rfl ?_
     refine zaf (zbo (t := false) (v := (zac false)) rfl rfl rfl ?_)
     refine zaf (zad (v := (zac false)) rfl ?_)
     refine zbl rfl rfl rfl ?_
     refine zbl rfl rfl rfl ?_
     refine zbl rfl rfl rfl ?_
     refine zbl rfl rfl rfl ?_
     refine zaf (zbo (t := false) (v := (zac false)) rfl rfl rfl ?_)
     refine zaf (zal (v := (zac false)) rfl ?_)
     refine zat (zbt ?_)
     obtain rfl := zae h
     refine ⟨[(zac false)], ⟨rfl, trivial⟩, ⟨_, rfl, hL14.done, ?_⟩⟩
     exact ⟨rfl, trivial⟩
   ·
    replace h := ite_f hc15 h
    refine zbl rfl rfl (zdu hc15) ?_
    refine zbl rfl rfl (zdu hc15) ?_
    refine zbl rfl rfl (zdu hc15) ?_
    refine zaf (zbo (t := (decide (((p.Max.length : Int) : Int) ≤ 128))) (v := (zac false)) rfl (zdu hc15) rfl ?_)
    refine zaf (zad (v := (zac false)) rfl ?_)
    refine zbl rfl rfl rfl ?_
    refine zbl rfl rfl rfl ?_
    refine zbl rfl rfl rfl ?_
    refine zaf (zbo (t := false) (v := (zac false)) rfl rfl rfl ?_)
    refine zaf (zad (v := (zac false)) rfl ?_)
    refine zbl rfl rfl rfl ?_
    refine zbl rfl rfl rfl ?_
    refine zbl rfl rfl rfl ?_
    refine zbl rfl rfl rfl ?_
    refine zaf (zbo (t := false) (v := (zac false)) rfl rfl rfl ?_)
    refine zaf (zad (v := (zac false)) rfl ?_)
    refine zbl rfl rfl rfl ?_
    refine zbl rfl rfl rfl ?_
    refine zbl rfl rfl rfl ?_
    refine zbl rfl rfl rfl ?_
    refine zaf (zbo (t := false) (v := (zac false)) rfl rfl rfl ?_)
    refine zaf (zal (v := (zac false)) rfl ?_)
    refine zat (zbt ?_)
    obtain rfl := zae h
    refine ⟨[(zac false)], ⟨rfl, trivial⟩, ⟨_, rfl, hL13.done, ?_⟩⟩
    exact ⟨rfl, trivial⟩
  ·
   replace h := ite_f hc14 h
   refine zbl rfl rfl (zdu hc14) ?_
   refine zbl rfl rfl (zdu hc14) ?_
   refine zaf (zbo (t := (decide (((p.Min.length : Int) : Int) = (p.Max.length : Int)))) (v := (zac false)) rfl (zdu hc14) rfl ?_)
   refine zaf (zad (v := (zac false)) rfl ?_)
   refine zbl rfl rfl rfl ?_
   refine zbl rfl rfl rfl ?_
   refine zbl rfl rfl rfl ?_
   refine zaf (zbo (t := false) (v := (zac false)) rfl rfl rfl ?_)
   refine zaf (zad (v := (zac false)) rfl ?_)
   refine zbl rfl rfl rfl ?_
   refine zbl rfl rfl rfl ?_
   refine zbl rfl rfl rfl ?_
   refine zaf (zbo (t := false) (v := (zac false)) rfl rfl rfl ?_)
   refine zaf (zad (v := (zac false)) rfl ?_)
   refine zbl rfl rfl rfl ?_
   refine zbl rfl rfl rfl ?_
   refine zbl rfl rfl rfl ?_
   refine zbl rfl rfl rfl ?_
   refine zaf (zbo (t := false) (v := (zac false)) rfl rfl rfl ?_)
   refine zaf (zad (v := (zac false)) rfl ?_)
   refine zbl rfl rfl rfl ?_
   refine zbl rfl rfl rfl ?_
   refine zbl rfl rfl rfl ?_
   refine zbl rfl rfl rfl ?_
   refine zaf (zbo (t := false) (v := (zac false)) rfl rfl rfl ?_)
   refine zaf (zal (v := (zac false)) rfl ?_)
   refine zat (zbt ?_)
   obtain rfl := zae h
   refine ⟨[(zac false)], ⟨rfl, trivial⟩, ⟨_, rfl, hL13.done, ?_⟩⟩
   exact ⟨rfl, trivial⟩
theorem rLeaders_w (N : Nat) (p : TProb) (p_v : Value) (p_v1 : Value) (p_v2 : Value) (p_v3 : Value) (p_v4 : Value) (w : World) (S : Nat → Prop) (p_h : Rs (rInt .i64) (vH w S [] w) p_v p.Min) (p_h1 : Rs (rInt .i64) (vH w S [] w) p_v1 p.Max) (p_h2 : Rs rTTest (vH w S [] w) p_v2 p.Tests) (p_h3 : Rs rArr2Int (vH w S [] w) p_v3 p.Same) (p_h4 : Rs rArr2Int (vH w S [] w) p_v4 p.Different) (r : (List Int)) (h : rLeaders N p = some r) :
  Calls Try.prog 41 #[(zbp #[p_v, p_v1, p_v2, p_v3, p_v4])] w (Ret w (fun v w' => ∃ (ob0 : Option Nat) (cap0 : Nat) (cs0 : List Value) (sp0 : List Value), (osv ob0 0 r.length cap0) = v ∧ NewOwn w w' [ob0] [zab ([] ++ (cs0 ++ sp0))] ∧ Els (rInt .i64) (vH w None [ob0] w') cs0 r ∧ (cs0 ++ sp0).length = cap0 * (rInt .i64).sz ∧ True)) := by
 unfold rLeaders at h
 have hL : vL w w [] [] := Go.X.Loc.begin0 w
 refine calls_of (l := [(zbp #[p_v, p_v1, p_v2, p_v3, p_v4])]) (rl := [.tmp 2]) (n := 65) Try.func41 rfl rfl rfl (zai rfl) ?_
 refine zam (zag rfl (zaf (zds (cs := [p_v, p_v1, p_v2, p_v3, p_v4]) rfl rfl hL ?_)))
 intro b1 w2 hL3 hS5
 have K4 := ks w hS5
 refine zaf (zal (v := (zar none 0 0)) rfl ?_)
 refine zat (zam (zag rfl (zaf (OpY.litRow0 zao ti3 hL3 ?_))))
 intro b6 w10 hL10 hS10
 have hE10 : Els (rInt .i64) (vH w None [some b1] w2) [] [] := zco
 have K10 := ks w hS10
 refine zaf (zal (v := (osv (some b6) 0 (List.length ([] : (List Int))) 0)) rfl ?_)
 refine zat (zam (zam (zag rfl (zaf (zal (v := (zaa .i64 0)) rfl ?_)))))
 refine zat ?_
 obtain ⟨s10, hl10, g10⟩ := zdt h
 refine zbu (fun e w' => ∃ (out10 : (List Int)) (ob10 : Option Nat) (cap10 : Nat) (sp10 : List Value) (cs10 : List Value) (ln10 : Nat) (u : Env), out10 = s10 ∧ e = upds [(1, (zan (some ⟨b1, 0, none⟩))), (3, (osv ob10 0 ln10 cap10))] u ∧ vL w w' [some b1, ob10] [zab [p_v, p_v1, p_v2, p_v3, p_v4], zab ([] ++ (cs10 ++ sp10))] ∧ Keep w.heap.size [some b6, some b1] w10 [some b1, ob10] w' ∧ Els (rInt .i64) (vH w None [some b1, ob10] w') cs10 out10 ∧ ln10 = List.length out10 ∧ (cs10 ++ sp10).length = cap10 * (rInt .i64).sz ∧ True) ?_ ?_
 ·
  refine zba ?_
  have hp10 := hL10.pick [1, 0] rfl rfl rfl
  have hL11 : vL w w10 [some b1, some b6] [zab [p_v, p_v1, p_v2, p_v3, p_v4], zab ([] ++ ([] ++ []))] := hp10.1
  have K11 := ks w hp10.2
  have f10 := ((hE10.mono (K10 None)).mono (K11 None))
  refine zby hl10 (fun (ss : ((List Int) × Int)) (e : Env) (w' : World) => match ss with | (out11, i10) => ∃ (ob11 : Option Nat) (cap11 : Nat) (sp11 : List Value) (cs11 : List Value) (ln11 : Nat) (u : Env), e = upds [(1, (zan (some ⟨b1, 0, none⟩))), (3, (osv ob11 0 ln11 cap11)), (4, (zaa .i64 i10))] u ∧ vL w w' [some b1, ob11] [zab [p_v, p_v1, p_v2, p_v3, p_v4], zab ([] ++ (cs11 ++ sp11))] ∧ Keep w.heap.size [some b6, some b1] w10 [some b1, ob11] w' ∧ Els (rInt .i64) (vH w None [some b1, ob11] w') cs11 out11 ∧ ln11 = List.length out11 ∧ (cs11 ++ sp11).length = cap11 * (rInt .i64).sz ∧ True) ⟨some b6, 0, [], [], (List.length ([] : (List Int))), _, (zdw ⟨rfl, rfl, rfl, trivial⟩), hL11, K11, f10, rfl, (show ([] ++ [] : List Value).length = 0 * (rInt .i64).sz by simp), trivial⟩ ?_
  rintro ⟨out11, i10⟩ oo _ w11 ⟨ob11, cap11, sp11, cs11, ln11, u, rfl, hL12, K12, hE11, rfl, hc10, -⟩ h hd10
  rw [rLeaders_b1] at h
  refine zam (zam (zag rfl (zaf (zad (v := (zaa .i64 i10)) rfl ?_))))
  refine zaf (zau (q := 1) zaz rfl ti22 rfl rfl rfl ?_)
  refine zaf (zav (v := p_v1) zao rfl rfl (hL12.at 0 rfl rfl) rfl ?_)
  have f11 := (((p_h1.mono (K4 S)).mono (K10 S)).mono (K12 S))
  refine zaf (zce (v := p_v1) zao rfl f11 ?_)
  refine zaf (zcj (x := i10) (y := (p.Max.length : Int)) ((i10 : Int) < (p.Max.length : Int)) rfl rfl zbm ?_)
  refine zat ?_
  refine zbi ((i10 : Int) < (p.Max.length : Int)) rfl (fun hc11 => ?_) (fun hc11 => ?_)
  ·
   replace h := ite_t hc11 h
   refine zbj (zam (zba (zag rfl (zaf (zad (v := (osv ob11 0 out11.length cap11)) rfl ?_)))))
   refine zaf (zad (v := (zaa .i64 i10)) rfl ?_)
   have hE12 : Els (rInt .i64) (vH w None [some b1, ob11] w11) [(zaa .i64 i10)] [i10] := (zcp (a := [(zaa .i64 i10)]) rfl zco)
   refine zaf (zcq (r := (rInt .i64)) (vs := [(zaa .i64 i10)]) (css := [[(zaa .i64 i10)]]) (xs := [i10]) zao ti3 (zai rfl) rfl rfl ⟨rfl, rfl, trivial⟩ (zai rfl) hE12 rfl hL12 ?_)
   intro b10 w12 hc12 hL13 hS11
   have K13 := ks w hS11
   obtain ⟨x10, q10, h⟩ := zdt h
   obtain ⟨q11, q12, q13⟩ := zeh q10
   have f12 := (hE12.mono (K13 None))
   have f13 := (hE11.mono (K13 None))
   refine zaf (zcv (r := (rInt .i64)) (H := (vH w None [some b10, some b1, ob11] w12)) (cs := cs11) (sp := sp11) (xs := out11) (ys := [i10]) (Y := x10) (n := out11.length) (cap := cap11) (i := 2) zao ti3 rfl rfl rfl rfl hL13 rfl rfl f13 rfl hc10 (zdq (pre := []) (o := 0) (n := 1) (cap := 1) (hL13.at 0 rfl rfl) f12 rfl rfl rfl) (zcg (fun _ _ _ _ h => h) f12) q11 q12 q13 ?_)
   intro ob12 cap12 sp12 cs12 w13 hE13 hc13 (hL14 : vL w w13 [some b10, some b1, ob12] [zab ([] ++ ([(zaa .i64 i10)] ++ [])), zab [p_v, p_v1, p_v2, p_v3, p_v4], zab ([] ++ (cs12 ++ sp12))]) hS12
   have K14 := ks w hS12
   refine zaf (zal (v := (osv ob12 0 x10.length cap12)) rfl ?_)
   refine zat (zbd (zag rfl (zaf (zad (v := (zaa .i64 i10)) rfl ?_))))
   refine zaf (zcc (x := i10) (y := 1) (z := (iw (i10 + 1))) rfl rfl rfl ?_)
   refine zaf (zal (v := (zaa .i64 (iw (i10 + 1)))) rfl ?_)
   refine zat ?_
   have hp11 := hL14.pick [1, 2] rfl rfl rfl
   have hL15 : vL w w13 [some b1, ob12] [zab [p_v, p_v1, p_v2, p_v3, p_v4], zab ([] ++ (cs12 ++ sp12))] := hp11.1
   have K15 := ks w hp11.2
   have f14 := ((hE13.mono (K14 None)).mono (K15 None))
   obtain rfl := zae h
   refine zas ⟨(x10, (iw (i10 + 1))), rfl, ?_⟩
   exact ⟨ob12, cap12, sp12, cs12, x10.length, _, (zdw ⟨rfl, rfl, rfl, trivial⟩), hL15, (zaj (zaj (zaj K12 K13) K14) K15), f14, rfl, hc13, trivial⟩
  ·
   replace h := ite_f hc11 h
   refine zcb rfl ?_
   obtain rfl := zae h
   obtain rfl := hd10 _ rfl
   replace h := g10
   try dsimp only at h
   skip
   refine zas ?_
   exact ⟨out11, ob11, cap11, sp11, cs11, out11.length, _, rfl, (zdw ⟨rfl, rfl, trivial⟩), hL12, K12, hE11, rfl, hc10, trivial⟩
 ·
  rintro _ w14 ⟨out10, ob10, cap10, sp10, cs10, ln10, u, rfl, rfl, hL16, K16, hE14, rfl, hc14, -⟩
  replace h := g10
  try dsimp only at h
  refine zam (zam (zag rfl (zaf (zal (v := (zaa .i64 0)) rfl ?_))))
  refine zat ?_
  obtain ⟨s11, hl11, g11⟩ := zdt h
  refine zbu (fun e w' => ∃ (out12 : (List Int)) (cs13 : List Value) (u : Env), out12 = s11 ∧ e = upds [(3, (osv ob10 0 out10.length cap10))] u ∧ vL w w' [ob10] [zab ([] ++ (cs13 ++ sp10))] ∧ Keep w.heap.size [some b1, ob10] w14 [ob10] w' ∧ Els (rInt .i64) (vH w None [ob10] w') cs13 out12 ∧ out10.length = List.length out12 ∧ (cs13 ++ sp10).length = cap10 * (rInt .i64).sz ∧ True) ?_ ?_
  ·
   refine zba ?_
   refine zby hl11 (fun (ss : ((List Int) × Int)) (e : Env) (w' : World) => match ss with | (out13, round10) => ∃ (cs14 : List Value) (u : Env), e = upds [(1, (zan (some ⟨b1, 0, none⟩))), (3, (osv ob10 0 out10.length cap10)), (5, (zaa .i64 round10))] u ∧ vL w w' [some b1, ob10] [zab [p_v, p_v1, p_v2, p_v3, p_v4], zab ([] ++ (cs14 ++ sp10))] ∧ Keep w.heap.size [some b1, ob10] w14 [some b1, ob10] w' ∧ Els (rInt .i64) (vH w None [some b1, ob10] w') cs14 out13 ∧ out10.length = List.length out13 ∧ (cs14 ++ sp10).length = cap10 * (rInt .i64).sz ∧ True) ⟨cs10, _, (zdw ⟨rfl, rfl, rfl, trivial⟩), hL16, zbs, hE14, rfl, hc14, trivial⟩ ?_
   rintro ⟨out13, round10⟩ oo _ w15 ⟨cs14, u, rfl, hL17, K17, hE15, hl12, hc15, -⟩ h hd11
   rw [rLeaders_b2] at h
   refine zam (zam (zag rfl (zaf (zad (v := (zaa .i64 round10)) rfl ?_))))
   refine zaf (zad (v := (osv ob10 0 out10.length cap10)) rfl ?_)
   refine zaf (zcd (pre := []) (r := (rInt .i64)) (xs := out13) zao rfl (hL17.at 1 rfl rfl) hE15 rfl hl12 ?_)
   refine zaf (zcj (x := round10) (y := (out13.length : Int)) ((round10 : Int) < (out13.length : Int)) rfl rfl zbm ?_)
   refine zat ?_
   refine zbi ((round10 : Int) < (out13.length : Int)) rfl (fun hc16 => ?_) (fun hc16 => ?_)
   ·
    replace h := ite_t hc16 h
    refine zbj (zam (zba (zam (zag rfl (zaf (zal (v := (zaa .i64 0)) rfl ?_))))))
    refine zat ?_
    obtain ⟨s12, hl13, g12⟩ := zdt h
    refine zbu (fun e w' => ∃ (out14 : (List Int)) (cs15 : List Value) (u : Env), out14 = s12 ∧ e = upds [(1, (zan (some ⟨b1, 0, none⟩))), (3, (osv ob10 0 out10.length cap10)), (5, (zaa .i64 round10))] u ∧ vL w w' [some b1, ob10] [zab [p_v, p_v1, p_v2, p_v3, p_v4], zab ([] ++ (cs15 ++ sp10))] ∧ Keep w.heap.size [some b1, ob10] w15 [some b1, ob10] w' ∧ Els (rInt .i64) (vH w None [some b1, ob10] w') cs15 out14 ∧ out10.length = List.length out14 ∧ (cs15 ++ sp10).length = cap10 * (rInt .i64).sz ∧ True) ?_ ?_
    ·
     refine zba ?_
     refine zby hl13 (fun (ss : ((List Int) × Int)) (e : Env) (w' : World) => match ss with | (out15, i11) => ∃ (cs16 : List Value) (u : Env), e = upds [(1, (zan (some ⟨b1, 0, none⟩))), (3, (osv ob10 0 out10.length cap10)), (5, (zaa .i64 round10)), (6, (zaa .i64 i11))] u ∧ vL w w' [some b1, ob10] [zab [p_v, p_v1, p_v2, p_v3, p_v4], zab ([] ++ (cs16 ++ sp10))] ∧ Keep w.heap.size [some b1, ob10] w15 [some b1, ob10] w' ∧ Els (rInt .i64) (vH w None [some b1, ob10] w') cs16 out15 ∧ out10.length = List.length out15 ∧ (cs16 ++ sp10).length = cap10 * (rInt .i64).sz ∧ True) ⟨cs14, _, (zdw ⟨rfl, rfl, rfl, rfl, trivial⟩), hL17, zbs, hE15, hl12, hc15, trivial⟩ ?_
     rintro ⟨out15, i11⟩ oo _ w16 ⟨cs16, u, rfl, hL18, K18, hE16, hl14, hc17, -⟩ h hd12
     rw [rLeaders_b3] at h
     refine zam (zam (zag rfl (zaf (zad (v := (zaa .i64 i11)) rfl ?_))))
     refine zaf (zau (q := 3) zaz rfl ti24 rfl rfl rfl ?_)
     refine zaf (zav (v := p_v3) zbk rfl rfl (hL18.at 0 rfl rfl) rfl ?_)
     have f15 := (((((p_h3.mono (K4 S)).mono (K10 S)).mono (K16 S)).mono (K17 S)).mono (K18 S))
     refine zaf (zce (v := p_v3) zbk rfl f15 ?_)
     refine zaf (zcj (x := i11) (y := (p.Same.length : Int)) ((i11 : Int) < (p.Same.length : Int)) rfl rfl zbm ?_)
     refine zat ?_
     refine zbi ((i11 : Int) < (p.Same.length : Int)) rfl (fun hc18 => ?_) (fun hc18 => ?_)
     ·
      replace h := ite_t hc18 h
      refine zbj (zam (zba (zam ?_)))
      obtain ⟨x11, q14, h⟩ := zdt h
      obtain ⟨n10, q15, q16⟩ := zdy q14
      obtain ⟨b11, o10, c10, vs10, q17, q18, f16, q19⟩ := zcy f15 q16
      obtain ⟨rfl, -⟩ := rArr2Int_open q19
      have f17 := (f16.part (us := [(zaa .i64 x11.e0)]) 0 rfl)
      obtain ⟨x12, q20, h⟩ := zdt h
      obtain ⟨n11, q21, q22⟩ := zdy q20
      obtain ⟨b12, o11, c11, vs11, q23, q24, f18, q25⟩ := zcy f15 q22
      obtain ⟨rfl, -⟩ := rArr2Int_open q25
      have f19 := (f18.part (us := [(zaa .i64 x12.e1)]) 1 rfl)
      refine zcw 13 [] [] (fun W1 => [.det (zan (some ⟨b1, 3, none⟩)), .det p_v3, .det (zaa .i64 i11), .det (zan (some ⟨b11, (o10 + n10 * rArr2Int.sz), none⟩)), .det (zan (some ⟨b11, (o10 + n10 * rArr2Int.sz) + 0, none⟩)), .det (zaa .i64 x11.e0), .det (zan (some ⟨b1, 3, none⟩)), .det p_v3, .det (zaa .i64 i11), .det (zan (some ⟨b12, (o11 + n11 * rArr2Int.sz), none⟩)), .det (zan (some ⟨b12, (o11 + n11 * rArr2Int.sz) + 1, none⟩)), .det (zaa .i64 x12.e1), .det (zaa .i64 x11.e0)]) mixed rfl rfl rfl (fun _ => rfl) (fun _ => rfl) ?_ ?_
      ·
       intro W1 _
       exact trivial
      ·
       intro w17 hE17
       have hL19 := hL18.ext hE17
       have K19 := ke hL18 hE17
       refine zax (fun _ _ => zaq (zau zaz rfl ti24 rfl rfl rfl (er rfl))) ?_
       refine zax (fun _ hE19 => zaq (zav zbk rfl rfl ((hL19.ext hE19).at 0 rfl rfl) rfl (er rfl))) ?_
       refine zax (fun _ _ => zaq (zad rfl (er rfl))) ?_
       refine zax (fun _ _ => zaq (zbz (r := rArr2Int) (v := p_v3) (n := n10) (m := (o10 + n10 * rArr2Int.sz)) zbk ti45 rfl q17 rfl q15 q16 rfl (er rfl))) ?_
       refine zax (fun _ _ => zaq (zcl (i := 0) (q := (o10 + n10 * rArr2Int.sz) + 0) zbw ti3 rfl rfl (by decide) rfl (er rfl))) ?_
       refine zax (fun _ hE23 => zaq (zcf zaw rfl rfl zed (zcr ((ke hL19 hE23) S) (zcr (K19 S) f17)) (er rfl))) ?_
       refine zax (fun _ _ => zaq (zau zaz rfl ti24 rfl rfl rfl (er rfl))) ?_
       refine zax (fun _ hE25 => zaq (zav zbk rfl rfl ((hL19.ext hE25).at 0 rfl rfl) rfl (er rfl))) ?_
       refine zax (fun _ _ => zaq (zad rfl (er rfl))) ?_
       refine zax (fun _ _ => zaq (zbz (r := rArr2Int) (v := p_v3) (n := n11) (m := (o11 + n11 * rArr2Int.sz)) zbk ti45 rfl q23 rfl q21 q22 rfl (er rfl))) ?_
       refine zax (fun _ _ => zaq (zcl (i := 1) (q := (o11 + n11 * rArr2Int.sz) + 1) zbw ti3 rfl rfl (by decide) rfl (er rfl))) ?_
       refine zax (fun _ hE29 => zaq (zcf zaw rfl rfl zed (zcr ((ke hL19 hE29) S) (zcr (K19 S) f19)) (er rfl))) ?_
       refine zax (fun _ _ => zaq (zal rfl (er rfl))) ?_
       refine zdf ?_
       rintro w31 Z31 hE31 hZ23 ⟨-⟩ ap10
       have hB10 : ∀ b, some b ∈ ([] : List (Option Nat)) → w17.heap.size ≤ b ∧ ¬ Z31 b := by
        intro b hb; cases hb
       have hL22 := hL19.ext hE31
       have K22 := ke hL19 hE31
       refine zaf (zal (v := (zaa .i64 x12.e1)) rfl ?_)
       refine zat (zam ?_)
       obtain ⟨x13, q26, h⟩ := zdt h
       obtain ⟨n12, q27, q28⟩ := zdy q26
       have q29 := (List.getElem?_eq_some_iff.1 q28).1
       have f20 := ((hE16.mono (K19 None)).mono (K22 None))
       obtain ⟨b13, hb10⟩ := hL22.row_some 1 rfl rfl (zem (pre := []) f20 q28 (Nat.lt_of_sub_eq_succ rfl))
       obtain ⟨vs12, q30, q31, q32⟩ := zef (pre := []) (sp := sp10) f20 q28
       obtain rfl := q31
       obtain ⟨x14, q33, h⟩ := zdt h
       obtain ⟨n13, q34, q35⟩ := zdy q33
       have q36 := (List.getElem?_eq_some_iff.1 q35).1
       obtain ⟨vs13, q37, q38, q39⟩ := zef (pre := []) (sp := sp10) f20 q35
       obtain rfl := q38
       refine zcw 8 [] [] (fun W1 => [.det (osv ob10 0 out10.length cap10), .det (zaa .i64 x11.e0), .det (zan (some ⟨b13, (0 + n12 * (rInt .i64).sz), none⟩)), .det (zaa .i64 x13), .det (osv ob10 0 out10.length cap10), .det (zaa .i64 x12.e1), .det (zan (some ⟨b13, (0 + n13 * (rInt .i64).sz), none⟩)), .det (zaa .i64 x14)]) mixed rfl rfl rfl (fun _ => rfl) (fun _ => rfl) ?_ ?_
       ·
        intro W1 _
        exact trivial
       ·
        intro w32 hE32
        have hL23 := hL22.ext hE32
        have K23 := ke hL22 hE32
        refine zax (fun _ _ => zaq (zad rfl (er rfl))) ?_
        refine zax (fun _ _ => zaq (zad rfl (er rfl))) ?_
        refine zax (fun _ _ => zaq (zbb (r := (rInt .i64)) (b := b13) (o := 0) (n := n12) (m := out10.length) (xs := out15) (q := (0 + n12 * (rInt .i64).sz)) zao ti3 (zee hb10) hl14 rfl q27 q29 rfl (er rfl))) ?_
        refine zax (fun _ hE36 => zaq (zbr zaw rfl rfl (zej hb10 ((hL23.ext hE36).at 1 rfl rfl)) q32 (er rfl))) ?_
        refine zax (fun _ _ => zaq (zad rfl (er rfl))) ?_
        refine zax (fun _ _ => zaq (zad rfl (er rfl))) ?_
        refine zax (fun _ _ => zaq (zbb (r := (rInt .i64)) (b := b13) (o := 0) (n := n13) (m := out10.length) (xs := out15) (q := (0 + n13 * (rInt .i64).sz)) zao ti3 (zee hb10) hl14 rfl q34 q36 rfl (er rfl))) ?_
        refine zax (fun _ hE40 => zaq (zbr zaw rfl rfl (zej hb10 ((hL23.ext hE40).at 1 rfl rfl)) q39 (er rfl))) ?_
        refine zdf ?_
        rintro w41 Z40 hE41 hZ32 ⟨-⟩ ap11
        have hB11 : ∀ b, some b ∈ ([] : List (Option Nat)) → w32.heap.size ≤ b ∧ ¬ Z40 b := by
         intro b hb; cases hb
        have hL26 := hL23.ext hE41
        have K24 := ke hL23 hE41
        refine zaf (OpY.min (x := x13) (y := x14) rfl rfl ?_)
        refine zaf (zal (v := (zaa .i64 (imin x13 x14))) rfl ?_)
        refine zat (zag rfl (zaf (zad (v := (osv ob10 0 out10.length cap10)) rfl ?_)))
        refine zaf (zad (v := (zaa .i64 x11.e0)) rfl ?_)
        refine zaf (zad (v := (osv ob10 0 out10.length cap10)) rfl ?_)
        refine zaf (zad (v := (zaa .i64 x12.e1)) rfl ?_)
        refine zaf (zad (v := (zaa .i64 (imin x13 x14))) rfl ?_)
        refine zaf (zad (v := (zaa .i64 (imin x13 x14))) rfl ?_)
        obtain ⟨x15, q40, h⟩ := zdt h
        obtain ⟨n14, q41, q42⟩ := zdy q40
        have q43 := (List.getElem?_eq_some_iff.1 q42).1
        refine zaf (zbb (r := (rInt .i64)) (b := b13) (o := 0) (n := n14) (m := out10.length) (xs := out15) (q := (0 + n14 * (rInt .i64).sz)) zao ti3 (zee hb10) hl14 rfl q41 q43 rfl ?_)
        obtain ⟨x16, q44, h⟩ := zdt h
        obtain ⟨n15, q45, q46, q47⟩ := zeg q44
        obtain rfl := Int.ofNat_inj.1 (q41.symm.trans q45)
        have f21 := ((f20.mono (K23 None)).mono (K24 None))
        refine zdh (zdc (pre := []) (r := (rInt .i64)) (vs := [(zaa .i64 (imin x13 x14))]) (a := (imin x13 x14)) ti3 rfl rfl rfl rfl hL26 1 (congrArg some hb10) rfl f21 q43 rfl q47 ?_)
        have hl15 : out10.length = List.length x16 := by rw [q47, List.length_set]; exact hl14
        intro w42 cs17 (hL27 : vL w w42 [some b1, ob10] [zab [p_v, p_v1, p_v2, p_v3, p_v4], zab ([] ++ (cs17 ++ sp10))]) hS13 hE42 q48
        have hc19 : (cs17 ++ sp10).length = cap10 * (rInt .i64).sz := by have := hc17; rw [List.length_append] at this ⊢; rw [q48]; exact this
        have K25 := ks w hS13
        obtain ⟨x17, q49, h⟩ := zdt h
        obtain ⟨n16, q50, q51⟩ := zdy q49
        have q52 := (List.getElem?_eq_some_iff.1 q51).1
        refine zaf (zbb (r := (rInt .i64)) (b := b13) (o := 0) (n := n16) (m := out10.length) (xs := x16) (q := (0 + n16 * (rInt .i64).sz)) zao ti3 (zee hb10) hl15 rfl q50 q52 rfl ?_)
        obtain ⟨x18, q53, h⟩ := zdt h
        obtain ⟨n17, q54, q55, q56⟩ := zeg q53
        obtain rfl := Int.ofNat_inj.1 (q50.symm.trans q54)
        have f22 := (hE42.mono (K25 None))
        refine zdh (zdc (pre := []) (r := (rInt .i64)) (vs := [(zaa .i64 (imin x13 x14))]) (a := (imin x13 x14)) ti3 rfl rfl rfl rfl hL27 1 (congrArg some hb10) rfl f22 q52 rfl q56 ?_)
        have hl16 : out10.length = List.length x18 := by rw [q56, List.length_set]; exact hl15
        intro w43 cs18 (hL28 : vL w w43 [some b1, ob10] [zab [p_v, p_v1, p_v2, p_v3, p_v4], zab ([] ++ (cs18 ++ sp10))]) hS14 hE43 q57
        have hc20 : (cs18 ++ sp10).length = cap10 * (rInt .i64).sz := by have := hc19; rw [List.length_append] at this ⊢; rw [q57]; exact this
        have K26 := ks w hS14
        refine zat (zbd (zag rfl (zaf (zad (v := (zaa .i64 i11)) rfl ?_))))
        refine zaf (zcc (x := i11) (y := 1) (z := (iw (i11 + 1))) rfl rfl rfl ?_)
        refine zaf (zal (v := (zaa .i64 (iw (i11 + 1)))) rfl ?_)
        refine zat ?_
        have f23 := (hE43.mono (K26 None))
        obtain rfl := zae h
        refine zas ⟨(x18, (iw (i11 + 1))), rfl, ?_⟩
        exact ⟨cs18, _, (zdw ⟨rfl, rfl, rfl, rfl, trivial⟩), hL28, (zaj (zaj (zaj (zaj (zaj (zaj K18 K19) K22) K23) K24) K25) K26), f23, hl16, hc20, trivial⟩
     ·
      replace h := ite_f hc18 h
      refine zcb rfl ?_
      obtain rfl := zae h
      obtain rfl := hd12 _ rfl
      replace h := g12
      try dsimp only at h
      skip
      refine zas ?_
      exact ⟨out15, cs16, _, rfl, (zdw ⟨rfl, rfl, rfl, trivial⟩), hL18, K18, hE16, hl14, hc17, trivial⟩
    ·
     rintro _ w44 ⟨out14, cs15, u, rfl, rfl, hL29, K27, hE44, hl17, hc21, -⟩
     replace h := g12
     try dsimp only at h
     refine zbd (zag rfl (zaf (zad (v := (zaa .i64 round10)) rfl ?_)))
     refine zaf (zcc (x := round10) (y := 1) (z := (iw (round10 + 1))) rfl rfl rfl ?_)
     refine zaf (zal (v := (zaa .i64 (iw (round10 + 1)))) rfl ?_)
     refine zat ?_
     obtain rfl := zae h
     refine zas ⟨(out14, (iw (round10 + 1))), rfl, ?_⟩
     exact ⟨cs15, _, (zdw ⟨rfl, rfl, rfl, trivial⟩), hL29, (zaj K17 K27), hE44, hl17, hc21, trivial⟩
   ·
    replace h := ite_f hc16 h
    refine zcb rfl ?_
    have hp12 := hL17.pick [1] rfl rfl rfl
    have hL30 : vL w w15 [ob10] [zab ([] ++ (cs14 ++ sp10))] := hp12.1
    have K28 := ks w hp12.2
    have f24 := (hE15.mono (K28 None))
    obtain rfl := zae h
    obtain rfl := hd11 _ rfl
    replace h := g11
    try dsimp only at h
    skip
    refine zas ?_
    exact ⟨out13, cs14, _, rfl, (zdw ⟨rfl, trivial⟩), hL30, (zaj K17 K28), f24, hl12, hc15, trivial⟩
  ·
   rintro _ w45 ⟨out12, cs13, u, rfl, rfl, hL31, K29, hE45, hl18, hc22, -⟩
   replace h := g11
   try dsimp only at h
   refine zam (zag rfl (zaf (zad (v := (osv ob10 0 out10.length cap10)) rfl ?_)))
   refine zaf (zal (v := (osv ob10 0 out10.length cap10)) rfl ?_)
   refine zat (zbt ?_)
   obtain rfl := zae h
   refine ⟨[(osv ob10 0 out10.length cap10)], ⟨rfl, trivial⟩, ⟨_, rfl, hL31.done, ?_⟩⟩
   exact ⟨ob10, cap10, cs13, sp10, (by rw [← hl18]; rfl), (hL31.newOwn [0] rfl rfl rfl), (hE45.mono (zdp [0] rfl)), hc22, trivial⟩
theorem rClasses_w (N : Nat) (p : TProb) (p_v : Value) (p_v1 : Value) (p_v2 : Value) (p_v3 : Value) (p_v4 : Value) (w : World) (S : Nat → Prop) (p_h : Rs (rInt .i64) (vH w S [] w) p_v p.Min) (p_h1 : Rs (rInt .i64) (vH w S [] w) p_v1 p.Max) (p_h2 : Rs rTTest (vH w S [] w) p_v2 p.Tests) (p_h3 : Rs rArr2Int (vH w S [] w) p_v3 p.Same) (p_h4 : Rs rArr2Int (vH w S [] w) p_v4 p.Different) (r : (List (List Int))) (h : rClasses N p = some r) :
  Calls Try.prog 21 #[(zbp #[p_v, p_v1, p_v2, p_v3, p_v4])] w (Ret w (fun v w' => ∃ (ob0 : Option Nat) (cap0 : Nat) (cs0 : List Value) (sp0 : List Value), (osv ob0 0 r.length cap0) = v ∧ NewOwn w w' [ob0] [zab ([] ++ (cs0 ++ sp0))] ∧ Els (rSl (rInt .i64)) (vH w None [ob0] w') cs0 r ∧ (cs0 ++ sp0).length = cap0 * (rSl (rInt .i64)).sz ∧ True)) := by
 unfold rClasses at h
 have hL : vL w w [] [] := Go.X.Loc.begin0 w
 refine calls_of (l := [(zbp #[p_v, p_v1, p_v2, p_v3, p_v4])]) (rl := [.tmp 2]) (n := 45) Try.func21 rfl rfl rfl (zai rfl) ?_
 refine zam (zag rfl (zaf (zds (cs := [p_v, p_v1, p_v2, p_v3, p_v4]) rfl rfl hL ?_)))
 intro b1 w2 hL3 hS5
 have K4 := ks w hS5
 refine zaf (zal (v := (zar none 0 0)) rfl ?_)
 refine zat (zam (zag rfl (zaf (OpY.litRow0 zct ti22 hL3 ?_))))
 intro b6 w10 hL10 hS10
 have hE10 : Els (rSl (rInt .i64)) (vH w None [some b1] w2) [] [] := zco
 have K10 := ks w hS10
 refine zaf (zal (v := (osv (some b6) 0 (List.length ([] : (List (List Int)))) 0)) rfl ?_)
 refine zat (zam (zag rfl (zaf (zcu (vs := [p_v, p_v1, p_v2, p_v3, p_v4]) zaz rfl ti26 rfl (hL10.at 1 rfl rfl) rfl rfl ?_))))
 obtain ⟨r10, q10, h⟩ := zdt h
 have f10 := ((p_h.mono (K4 S)).mono (K10 S))
 have f11 := ((p_h1.mono (K4 S)).mono (K10 S))
 have f12 := ((p_h2.mono (K4 S)).mono (K10 S))
 have f13 := ((p_h3.mono (K4 S)).mono (K10 S))
 have f14 := ((p_h4.mono (K4 S)).mono (K10 S))
 refine zaf (zca en41 rfl rfl (rLeaders_w N p p_v p_v1 p_v2 p_v3 p_v4 _ Any (f10.mono vw_any) (f11.mono vw_any) (f12.mono vw_any) (f13.mono vw_any) (f14.mono vw_any) r10 q10) ?_)
 rintro _ w11 hE11 ⟨ob10, cap10, cs10, sp10, rfl, hN10, hE12, hc10, -⟩
 replace hE12 := hE12.mono (zbq (S := None) hL10 [ob10])
 have hp10 := hL10.adoptL hE11 hN10
 have hL11 := hp10.1
 have K11 := ks w hp10.2
 refine zaf (zal (v := (osv ob10 0 r10.length cap10)) rfl ?_)
 refine zat (zam (zam (zag rfl (zaf (zal (v := (zaa .i64 0)) rfl ?_)))))
 refine zat ?_
 obtain ⟨s10, hl10, g10⟩ := zdt h
 refine zbu (fun e w' => ∃ (out10 : (List (List Int))) (ob11 : Option Nat) (cap11 : Nat) (sp11 : List Value) (cs11 : List Value) (ln10 : Nat) (u : Env), out10 = s10 ∧ e = upds [(3, (osv ob11 0 ln10 cap11))] u ∧ vL w w' [ob11] [zab ([] ++ (cs11 ++ sp11))] ∧ Keep w.heap.size [ob10, some b6, some b1] w11 [ob11] w' ∧ Els (rSl (rInt .i64)) (vH w None [ob11] w') cs11 out10 ∧ ln10 = List.length out10 ∧ (cs11 ++ sp11).length = cap11 * (rSl (rInt .i64)).sz ∧ True) ?_ ?_
 ·
  refine zba ?_
  have hp11 := hL11.pick [1, 0] rfl rfl rfl
  have hL12 : vL w w11 [some b6, ob10] [zab ([] ++ ([] ++ [])), zab ([] ++ (cs10 ++ sp10))] := hp11.1
  have K12 := ks w hp11.2
  have f15 := (((hE10.mono (K10 None)).mono (K11 None)).mono (K12 None))
  refine zby hl10 (fun (ss : ((List (List Int)) × Int)) (e : Env) (w' : World) => match ss with | (out11, i10) => ∃ (ob12 : Option Nat) (cap12 : Nat) (sp12 : List Value) (cs12 : List Value) (ln11 : Nat) (u : Env), e = upds [(3, (osv ob12 0 ln11 cap12)), (4, (osv ob10 0 r10.length cap10)), (5, (zaa .i64 i10))] u ∧ vL w w' [ob12, ob10] [zab ([] ++ (cs12 ++ sp12)), zab ([] ++ (cs10 ++ sp10))] ∧ Keep w.heap.size [ob10, some b6, some b1] w11 [ob12, ob10] w' ∧ Els (rSl (rInt .i64)) (vH w None [ob12, ob10] w') cs12 out11 ∧ ln11 = List.length out11 ∧ (cs12 ++ sp12).length = cap12 * (rSl (rInt .i64)).sz ∧ True) ⟨some b6, 0, [], [], (List.length ([] : (List (List Int)))), _, (zdw ⟨rfl, rfl, rfl, trivial⟩), hL12, K12, f15, rfl, (show ([] ++ [] : List Value).length = 0 * (rSl (rInt .i64)).sz by simp), trivial⟩ ?_
  rintro ⟨out11, i10⟩ oo _ w12 ⟨ob12, cap12, sp12, cs12, ln11, u, rfl, hL13, K13, hE13, rfl, hc11, -⟩ h hd10
  rw [rClasses_b1] at h
  refine zam (zam (zag rfl (zaf (zad (v := (zaa .i64 i10)) rfl ?_))))
  refine zaf (zad (v := (osv ob10 0 r10.length cap10)) rfl ?_)
  have f16 := (hE12.mono (K13 None))
  refine zaf (zcd (pre := []) (r := (rInt .i64)) (xs := r10) zao rfl (hL13.at 1 rfl rfl) f16 rfl rfl ?_)
  refine zaf (zcj (x := i10) (y := (r10.length : Int)) ((i10 : Int) < (r10.length : Int)) rfl rfl zbm ?_)
  refine zat ?_
  refine zbi ((i10 : Int) < (r10.length : Int)) rfl (fun hc12 => ?_) (fun hc12 => ?_)
  ·
   replace h := ite_t hc12 h
   refine zbj (zam (zba (zam (zam (zag rfl (zaf (zad (v := (osv ob10 0 r10.length cap10)) rfl ?_)))))))
   refine zaf (zad (v := (zaa .i64 i10)) rfl ?_)
   obtain ⟨x10, q11, h⟩ := zdt h
   obtain ⟨n10, q12, q13⟩ := zdy q11
   have q14 := (List.getElem?_eq_some_iff.1 q13).1
   obtain ⟨b10, hb10⟩ := hL13.row_some 1 rfl rfl (zem (pre := []) f16 q13 (Nat.lt_of_sub_eq_succ rfl))
   refine zaf (zbb (r := (rInt .i64)) (b := b10) (o := 0) (n := n10) (m := r10.length) (xs := r10) (q := (0 + n10 * (rInt .i64).sz)) zao ti3 (zee hb10) rfl rfl q12 q14 rfl ?_)
   obtain ⟨vs10, q15, q16, q17⟩ := zef (pre := []) (sp := sp10) f16 q13
   obtain rfl := q16
   refine zaf (zbr (v := (zaa .i64 x10)) zaw rfl rfl (zej hb10 (hL13.at 1 rfl rfl)) q17 ?_)
   refine zaf (zad (v := (zaa .i64 i10)) rfl ?_)
   refine zaf (OpY.neq (x := x10) (y := i10) ((x10 : Int) ≠ i10) rfl rfl zbm ?_)
   refine zat ?_
   refine zbi ((x10 : Int) ≠ i10) rfl (fun hc13 => ?_) (fun hc13 => ?_)
   ·
    replace h := ite_t hc13 h
    refine zcb rfl (zag rfl (zaf (zad (v := (zaa .i64 i10)) rfl ?_)))
    refine zaf (zcc (x := i10) (y := 1) (z := (iw (i10 + 1))) rfl rfl rfl ?_)
    refine zaf (zal (v := (zaa .i64 (iw (i10 + 1)))) rfl ?_)
    refine zat ?_
    obtain rfl := zae h
    refine zas ⟨(out11, (iw (i10 + 1))), rfl, ?_⟩
    exact ⟨ob12, cap12, sp12, cs12, out11.length, _, (zdw ⟨rfl, rfl, rfl, trivial⟩), hL13, K13, hE13, rfl, hc11, trivial⟩
   ·
    replace h := ite_f hc13 h
    refine zbj (zam (zag rfl (zaf (OpY.litRow0 zao ti3 hL13 ?_))))
    intro b11 w13 hL14 hS11
    have hE14 : Els (rInt .i64) (vH w None [ob12, ob10] w12) [] [] := zco
    have K14 := ks w hS11
    refine zaf (zal (v := (osv (some b11) 0 (List.length ([] : (List Int))) 0)) rfl ?_)
    refine zat (zam (zam (zag rfl (zaf (zal (v := (zaa .i64 0)) rfl ?_)))))
    refine zat ?_
    obtain ⟨s11, hl11, g11⟩ := zdt h
    refine zbu (fun e w' => ∃ (vclass10 : (List Int)) (ob13 : Option Nat) (cap13 : Nat) (sp13 : List Value) (cs13 : List Value) (ln12 : Nat) (u : Env), vclass10 = s11 ∧ e = upds [(3, (osv ob12 0 out11.length cap12)), (4, (osv ob10 0 r10.length cap10)), (5, (zaa .i64 i10)), (6, (osv ob13 0 ln12 cap13))] u ∧ vL w w' [ob12, ob10, ob13] [zab ([] ++ (cs12 ++ sp12)), zab ([] ++ (cs10 ++ sp10)), zab ([] ++ (cs13 ++ sp13))] ∧ Keep w.heap.size [some b11, ob12, ob10] w13 [ob12, ob10, ob13] w' ∧ Els (rInt .i64) (vH w None [ob12, ob10, ob13] w') cs13 vclass10 ∧ ln12 = List.length vclass10 ∧ (cs13 ++ sp13).length = cap13 * (rInt .i64).sz ∧ True) ?_ ?_
    ·
     refine zba ?_
     have hp12 := hL14.pick [1, 2, 0] rfl rfl rfl
     have hL15 : vL w w13 [ob12, ob10, some b11] [zab ([] ++ (cs12 ++ sp12)), zab ([] ++ (cs10 ++ sp10)), zab ([] ++ ([] ++ []))] := hp12.1
     have K15 := ks w hp12.2
     have f17 := ((hE14.mono (K14 None)).mono (K15 None))
     refine zby hl11 (fun (ss : ((List Int) × Int)) (e : Env) (w' : World) => match ss with | (vclass11, k10) => ∃ (ob14 : Option Nat) (cap14 : Nat) (sp14 : List Value) (cs14 : List Value) (ln13 : Nat) (u : Env), e = upds [(3, (osv ob12 0 out11.length cap12)), (4, (osv ob10 0 r10.length cap10)), (5, (zaa .i64 i10)), (6, (osv ob14 0 ln13 cap14)), (7, (zaa .i64 k10))] u ∧ vL w w' [ob12, ob10, ob14] [zab ([] ++ (cs12 ++ sp12)), zab ([] ++ (cs10 ++ sp10)), zab ([] ++ (cs14 ++ sp14))] ∧ Keep w.heap.size [some b11, ob12, ob10] w13 [ob12, ob10, ob14] w' ∧ Els (rInt .i64) (vH w None [ob12, ob10, ob14] w') cs14 vclass11 ∧ ln13 = List.length vclass11 ∧ (cs14 ++ sp14).length = cap14 * (rInt .i64).sz ∧ True) ⟨some b11, 0, [], [], (List.length ([] : (List Int))), _, (zdw ⟨rfl, rfl, rfl, rfl, rfl, trivial⟩), hL15, K15, f17, rfl, (show ([] ++ [] : List Value).length = 0 * (rInt .i64).sz by simp), trivial⟩ ?_
     rintro ⟨vclass11, k10⟩ oo _ w14 ⟨ob14, cap14, sp14, cs14, ln13, u, rfl, hL16, K16, hE15, rfl, hc14, -⟩ h hd11
     rw [rClasses_b2] at h
     refine zam (zam (zag rfl (zaf (zad (v := (zaa .i64 k10)) rfl ?_))))
     refine zaf (zad (v := (osv ob10 0 r10.length cap10)) rfl ?_)
     have f18 := ((f16.mono (K14 None)).mono (K16 None))
     refine zaf (zcd (pre := []) (r := (rInt .i64)) (xs := r10) zao rfl (hL16.at 1 rfl rfl) f18 rfl rfl ?_)
     refine zaf (zcj (x := k10) (y := (r10.length : Int)) ((k10 : Int) < (r10.length : Int)) rfl rfl zbm ?_)
     refine zat ?_
     refine zbi ((k10 : Int) < (r10.length : Int)) rfl (fun hc15 => ?_) (fun hc15 => ?_)
     ·
      replace h := ite_t hc15 h
      refine zbj (zam (zba (zam (zag rfl (zaf (zad (v := (osv ob10 0 r10.length cap10)) rfl ?_))))))
      refine zaf (zad (v := (zaa .i64 k10)) rfl ?_)
      obtain ⟨x11, q18, h⟩ := zdt h
      obtain ⟨n11, q19, q20⟩ := zdy q18
      have q21 := (List.getElem?_eq_some_iff.1 q20).1
      obtain ⟨b12, hb11⟩ := hL16.row_some 1 rfl rfl (zem (pre := []) f18 q20 (Nat.lt_of_sub_eq_succ rfl))
      refine zaf (zbb (r := (rInt .i64)) (b := b12) (o := 0) (n := n11) (m := r10.length) (xs := r10) (q := (0 + n11 * (rInt .i64).sz)) zao ti3 (zee hb11) rfl rfl q19 q21 rfl ?_)
      obtain ⟨vs11, q22, q23, q24⟩ := zef (pre := []) (sp := sp10) f18 q20
      obtain rfl := q23
      refine zaf (zbr (v := (zaa .i64 x11)) zaw rfl rfl (zej hb11 (hL16.at 1 rfl rfl)) q24 ?_)
      refine zaf (zad (v := (zaa .i64 i10)) rfl ?_)
      refine zaf (zdn (x := x11) (y := i10) ((x11 : Int) = i10) rfl rfl zbm ?_)
      refine zat ?_
      refine zbi ((x11 : Int) = i10) rfl (fun hc16 => ?_) (fun hc16 => ?_)
      ·
       replace h := ite_t hc16 h
       refine zag rfl (zaf (zad (v := (osv ob14 0 vclass11.length cap14)) rfl ?_))
       refine zaf (zad (v := (zaa .i64 k10)) rfl ?_)
       have hE16 : Els (rInt .i64) (vH w None [ob12, ob10, ob14] w14) [(zaa .i64 k10)] [k10] := (zcp (a := [(zaa .i64 k10)]) rfl zco)
       refine zaf (zcq (r := (rInt .i64)) (vs := [(zaa .i64 k10)]) (css := [[(zaa .i64 k10)]]) (xs := [k10]) zao ti3 (zai rfl) rfl rfl ⟨rfl, rfl, trivial⟩ (zai rfl) hE16 rfl hL16 ?_)
       intro b13 w15 hc17 hL17 hS12
       have K17 := ks w hS12
       obtain ⟨x12, q25, h⟩ := zdt h
       obtain ⟨q26, q27, q28⟩ := zeh q25
       have f19 := (hE16.mono (K17 None))
       have f20 := (hE15.mono (K17 None))
       refine zaf (zcv (r := (rInt .i64)) (H := (vH w None [some b13, ob12, ob10, ob14] w15)) (cs := cs14) (sp := sp14) (xs := vclass11) (ys := [k10]) (Y := x12) (n := vclass11.length) (cap := cap14) (i := 3) zao ti3 rfl rfl rfl rfl hL17 rfl rfl f20 rfl hc14 (zdq (pre := []) (o := 0) (n := 1) (cap := 1) (hL17.at 0 rfl rfl) f19 rfl rfl rfl) (zcg (fun _ _ _ _ h => h) f19) q26 q27 q28 ?_)
       intro ob15 cap15 sp15 cs15 w16 hE17 hc18 (hL18 : vL w w16 [some b13, ob12, ob10, ob15] [zab ([] ++ ([(zaa .i64 k10)] ++ [])), zab ([] ++ (cs12 ++ sp12)), zab ([] ++ (cs10 ++ sp10)), zab ([] ++ (cs15 ++ sp15))]) hS13
       have K18 := ks w hS13
       refine zaf (zal (v := (osv ob15 0 x12.length cap15)) rfl ?_)
       refine zat (zbd (zag rfl (zaf (zad (v := (zaa .i64 k10)) rfl ?_))))
       refine zaf (zcc (x := k10) (y := 1) (z := (iw (k10 + 1))) rfl rfl rfl ?_)
       refine zaf (zal (v := (zaa .i64 (iw (k10 + 1)))) rfl ?_)
       refine zat ?_
       have hp13 := hL18.pick [1, 2, 3] rfl rfl rfl
       have hL19 : vL w w16 [ob12, ob10, ob15] [zab ([] ++ (cs12 ++ sp12)), zab ([] ++ (cs10 ++ sp10)), zab ([] ++ (cs15 ++ sp15))] := hp13.1
       have K19 := ks w hp13.2
       have f21 := ((hE17.mono (K18 None)).mono (K19 None))
       obtain rfl := zae h
       refine zas ⟨(x12, (iw (k10 + 1))), rfl, ?_⟩
       exact ⟨ob15, cap15, sp15, cs15, x12.length, _, (zdw ⟨rfl, rfl, rfl, rfl, rfl, trivial⟩), hL19, (zaj (zaj (zaj K16 K17) K18) K19), f21, rfl, hc18, trivial⟩
      ·
       replace h := ite_f hc16 h
       refine zbj (zbd (zag rfl (zaf (zad (v := (zaa .i64 k10)) rfl ?_))))
       refine zaf (zcc (x := k10) (y := 1) (z := (iw (k10 + 1))) rfl rfl rfl ?_)
       refine zaf (zal (v := (zaa .i64 (iw (k10 + 1)))) rfl ?_)
       refine zat ?_
       obtain rfl := zae h
       refine zas ⟨(vclass11, (iw (k10 + 1))), rfl, ?_⟩
       exact ⟨ob14, cap14, sp14, cs14, vclass11.length, _, (zdw ⟨rfl, rfl, rfl, rfl, rfl, trivial⟩), hL16, K16, hE15, rfl, hc14, trivial⟩
     ·
      replace h := ite_f hc15 h
      refine zcb rfl ?_
      obtain rfl := zae h
      obtain rfl := hd11 _ rfl
      replace h := g11
      try dsimp only at h
      skip
      refine zas ?_
      exact ⟨vclass11, ob14, cap14, sp14, cs14, vclass11.length, _, rfl, (zdw ⟨rfl, rfl, rfl, rfl, trivial⟩), hL16, K16, hE15, rfl, hc14, trivial⟩
    ·
     rintro _ w17 ⟨vclass10, ob13, cap13, sp13, cs13, ln12, u, rfl, rfl, hL20, K20, hE18, rfl, hc19, -⟩
     replace h := g11
     try dsimp only at h
     refine zag rfl (zaf (zad (v := (osv ob12 0 out11.length cap12)) rfl ?_))
     refine zaf (zad (v := (osv ob13 0 vclass10.length cap13)) rfl ?_)
     have f22 := hL20.freezeRow 2 rfl rfl hE18 rfl rfl rfl hc19
     have hp14 := hL20.pick [0, 1] rfl rfl rfl
     have hL21 : vL w w17 [ob12, ob10] [zab ([] ++ (cs12 ++ sp12)), zab ([] ++ (cs10 ++ sp10))] := hp14.1
     have K21 := ks w hp14.2
     have hE19 : Els (rSl (rInt .i64)) (vH w None [ob12, ob10] w17) [(osv ob13 0 vclass10.length cap13)] [vclass10] := (zcp (a := [(osv ob13 0 vclass10.length cap13)]) ⟨_, rfl, f22⟩ zco)
     refine zaf (zcq (r := (rSl (rInt .i64))) (vs := [(osv ob13 0 vclass10.length cap13)]) (css := [[(osv ob13 0 vclass10.length cap13)]]) (xs := [vclass10]) zct ti22 (zai rfl) rfl rfl ⟨(zei f22.one), rfl, trivial⟩ (zai rfl) hE19 rfl hL21 ?_)
     intro b14 w18 hc20 hL22 hS14
     have K22 := ks w hS14
     obtain ⟨x13, q29, h⟩ := zdt h
     obtain ⟨q30, q31, q32⟩ := zeh q29
     have f23 := (hE19.mono (K22 None))
     have f24 := ((((hE13.mono (K14 None)).mono (K20 None)).mono (K21 None)).mono (K22 None))
     refine zaf (zcv (r := (rSl (rInt .i64))) (H := (vH w None [some b14, ob12, ob10] w18)) (cs := cs12) (sp := sp12) (xs := out11) (ys := [vclass10]) (Y := x13) (n := out11.length) (cap := cap12) (i := 1) zct ti22 rfl rfl rfl rfl hL22 rfl rfl f24 rfl hc11 (zdq (pre := []) (o := 0) (n := 1) (cap := 1) (hL22.at 0 rfl rfl) f23 rfl rfl rfl) f23 q30 q31 q32 ?_)
     intro ob16 cap16 sp16 cs16 w19 hE20 hc21 (hL23 : vL w w19 [some b14, ob16, ob10] [zab ([] ++ ([(osv ob13 0 vclass10.length cap13)] ++ [])), zab ([] ++ (cs16 ++ sp16)), zab ([] ++ (cs10 ++ sp10))]) hS15
     have K23 := ks w hS15
     refine zaf (zal (v := (osv ob16 0 x13.length cap16)) rfl ?_)
     refine zat (zbd (zag rfl (zaf (zad (v := (zaa .i64 i10)) rfl ?_))))
     refine zaf (zcc (x := i10) (y := 1) (z := (iw (i10 + 1))) rfl rfl rfl ?_)
     refine zaf (zal (v := (zaa .i64 (iw (i10 + 1)))) rfl ?_)
     refine zat ?_
     have hp15 := hL23.pick [1, 2] rfl rfl rfl
     have hL24 : vL w w19 [ob16, ob10] [zab ([] ++ (cs16 ++ sp16)), zab ([] ++ (cs10 ++ sp10))] := hp15.1
     have K24 := ks w hp15.2
     have f25 := ((hE20.mono (K23 None)).mono (K24 None))
     obtain rfl := zae h
     refine zas ⟨(x13, (iw (i10 + 1))), rfl, ?_⟩
     exact ⟨ob16, cap16, sp16, cs16, x13.length, _, (zdw ⟨rfl, rfl, rfl, trivial⟩), hL24, (zaj (zaj (zaj (zaj (zaj (zaj K13 K14) K20) K21) K22) K23) K24), f25, rfl, hc21, trivial⟩
  ·
   replace h := ite_f hc12 h
   refine zcb rfl ?_
   have hp16 := hL13.pick [0] rfl rfl rfl
   have hL25 : vL w w12 [ob12] [zab ([] ++ (cs12 ++ sp12))] := hp16.1
   have K25 := ks w hp16.2
   have f26 := (hE13.mono (K25 None))
   obtain rfl := zae h
   obtain rfl := hd10 _ rfl
   replace h := g10
   try dsimp only at h
   skip
   refine zas ?_
   exact ⟨out11, ob12, cap12, sp12, cs12, out11.length, _, rfl, (zdw ⟨rfl, trivial⟩), hL25, (zaj K13 K25), f26, rfl, hc11, trivial⟩
 ·
  rintro _ w20 ⟨out10, ob11, cap11, sp11, cs11, ln10, u, rfl, rfl, hL26, K26, hE21, rfl, hc22, -⟩
  replace h := g10
  try dsimp only at h
  refine zam (zag rfl (zaf (zad (v := (osv ob11 0 out10.length cap11)) rfl ?_)))
  refine zaf (zal (v := (osv ob11 0 out10.length cap11)) rfl ?_)
  refine zat (zbt ?_)
  obtain rfl := zae h
  refine ⟨[(osv ob11 0 out10.length cap11)], ⟨rfl, trivial⟩, ⟨_, rfl, hL26.done, ?_⟩⟩
  exact ⟨ob11, cap11, cs11, sp11, rfl, (hL26.newOwn [0] rfl rfl rfl), (hE21.mono (zdp [0] rfl)), hc22, trivial⟩
theorem rSmall_w (N : Nat) (p : TProb) (p_v : Value) (p_v1 : Value) (p_v2 : Value) (p_v3 : Value) (p_v4 : Value) (w : World) (S : Nat → Prop) (p_h : Rs (rInt .i64) (vH w S [] w) p_v p.Min) (p_h1 : Rs (rInt .i64) (vH w S [] w) p_v1 p.Max) (p_h2 : Rs rTTest (vH w S [] w) p_v2 p.Tests) (p_h3 : Rs rArr2Int (vH w S [] w) p_v3 p.Same) (p_h4 : Rs rArr2Int (vH w S [] w) p_v4 p.Different) (r : Bool) (h : rSmall N p = some r) :
  Calls Try.prog 12 #[(zbp #[p_v, p_v1, p_v2, p_v3, p_v4])] w (Ret w (fun v w' => (zac r) = v ∧ True)) := by
 unfold rSmall at h
 have hL : vL w w [] [] := Go.X.Loc.begin0 w
 refine calls_of (l := [(zbp #[p_v, p_v1, p_v2, p_v3, p_v4])]) (rl := [.tmp 2]) (n := 35) Try.func12 rfl rfl rfl (zai rfl) ?_
 refine zam (zag rfl (zaf (zds (cs := [p_v, p_v1, p_v2, p_v3, p_v4]) rfl rfl hL ?_)))
 intro b1 w2 hL3 hS5
 have K4 := ks w hS5
 refine zaf (zal (v := (zac false)) rfl ?_)
 refine zat (zam (zag rfl (zaf (zau (q := 1) zaz rfl ti22 rfl rfl rfl ?_))))
 refine zaf (zav (v := p_v1) zao rfl rfl (hL3.at 0 rfl rfl) rfl ?_)
 have f6 := (p_h1.mono (K4 S))
 refine zaf (zce (v := p_v1) zao rfl f6 ?_)
 refine zaf (OpY.leq (x := (p.Max.length : Int)) (y := 6) (((p.Max.length : Int) : Int) ≤ 6) rfl rfl zbm ?_)
 refine zaf (zad (v := (zac (decide (((p.Max.length : Int) : Int) ≤ 6)))) rfl ?_)
 by_cases hc7 : ((p.Max.length : Int) : Int) ≤ 6
 ·
  replace h := ite_t hc7 h
  refine zbh rfl rfl (zdv hc7) (zau (q := 0) zaz rfl ti22 rfl rfl rfl ?_)
  refine zbh rfl rfl (zdv hc7) (zav (v := p_v) zao rfl rfl (hL3.at 0 rfl rfl) rfl ?_)
  have f8 := (p_h.mono (K4 S))
  refine zbh rfl rfl (zdv hc7) (zce (v := p_v) zao rfl f8 ?_)
  refine zbh rfl rfl (zdv hc7) (OpY.leq (x := (p.Min.length : Int)) (y := 6) (((p.Min.length : Int) : Int) ≤ 6) rfl rfl zbm ?_)
  refine zaf (zbv (t := (decide (((p.Max.length : Int) : Int) ≤ 6))) (v := (zac (decide (((p.Min.length : Int) : Int) ≤ 6)))) rfl (zdv hc7) rfl ?_)
  refine zaf (zad (v := (zac (decide (((p.Min.length : Int) : Int) ≤ 6)))) rfl ?_)
  by_cases hc9 : ((p.Min.length : Int) : Int) ≤ 6
  ·
   replace h := ite_t hc9 h
   refine zbh rfl rfl (zdv hc9) (zau (q := 2) zaz rfl ti23 rfl rfl rfl ?_)
   refine zbh rfl rfl (zdv hc9) (zav (v := p_v2) zbe rfl rfl (hL3.at 0 rfl rfl) rfl ?_)
   have f10 := (p_h2.mono (K4 S))
   refine zbh rfl rfl (zdv hc9) (zce (v := p_v2) zbe rfl f10 ?_)
   refine zbh rfl rfl (zdv hc9) (OpY.leq (x := (p.Tests.length : Int)) (y := 8) (((p.Tests.length : Int) : Int) ≤ 8) rfl rfl zbm ?_)
   refine zaf (zbv (t := (decide (((p.Min.length : Int) : Int) ≤ 6))) (v := (zac (decide (((p.Tests.length : Int) : Int) ≤ 8)))) rfl (zdv hc9) rfl ?_)
   refine zaf (zad (v := (zac (decide (((p.Tests.length : Int) : Int) ≤ 8)))) rfl ?_)
   by_cases hc10 : ((p.Tests.length : Int) : Int) ≤ 8
   ·
    replace h := ite_t hc10 h
    refine zbh rfl rfl (zdv hc10) (zau (q := 3) zaz rfl ti24 rfl rfl rfl ?_)
    refine zbh rfl rfl (zdv hc10) (zav (v := p_v3) zbk rfl rfl (hL3.at 0 rfl rfl) rfl ?_)
    have f11 := (p_h3.mono (K4 S))
    refine zbh rfl rfl (zdv hc10) (zce (v := p_v3) zbk rfl f11 ?_)
    refine zbh rfl rfl (zdv hc10) (OpY.leq (x := (p.Same.length : Int)) (y := 8) (((p.Same.length : Int) : Int) ≤ 8) rfl rfl zbm ?_)
    refine zaf (zbv (t := (decide (((p.Tests.length : Int) : Int) ≤ 8))) (v := (zac (decide (((p.Same.length : Int) : Int) ≤ 8)))) rfl (zdv hc10) rfl ?_)
    refine zaf (zad (v := (zac (decide (((p.Same.length : Int) : Int) ≤ 8)))) rfl ?_)
    by_cases hc11 : ((p.Same.length : Int) : Int) ≤ 8
    ·
     replace h := ite_t hc11 h
     refine zbh rfl rfl (zdv hc11) (zau (q := 4) zaz rfl ti24 rfl rfl rfl ?_)
     refine zbh rfl rfl (zdv hc11) (zav (v := p_v4) zbk rfl rfl (hL3.at 0 rfl rfl) rfl ?_)
     have f12 := (p_h4.mono (K4 S))
     refine zbh rfl rfl (zdv hc11) (zce (v := p_v4) zbk rfl f12 ?_)
     refine zbh rfl rfl (zdv hc11) (OpY.leq (x := (p.Different.length : Int)) (y := 8) (((p.Different.length : Int) : Int) ≤ 8) rfl rfl zbm ?_)
     refine zaf (zbv (t := (decide (((p.Same.length : Int) : Int) ≤ 8))) (v := (zac (decide (((p.Different.length : Int) : Int) ≤ 8)))) rfl (zdv hc11) rfl ?_)
     refine zaf (zad (v := (zac (decide (((p.Different.length : Int) : Int) ≤ 8)))) rfl ?_)
     by_cases hc12 : ((p.Different.length : Int) : Int) ≤ 8
     ·
      replace h := ite_t hc12 h
      refine zbh rfl rfl (zdv hc12) (zcu (vs := [p_v, p_v1, p_v2, p_v3, p_v4]) zaz rfl ti26 rfl (hL3.at 0 rfl rfl) rfl rfl ?_)
      obtain ⟨r10, q10, h⟩ := zdt h
      refine zbh rfl rfl (zdv hc12) (zca en24 rfl rfl (rValid_w N p p_v p_v1 p_v2 p_v3 p_v4 _ Any (f8.mono vw_any) (f6.mono vw_any) (f10.mono vw_any) (f11.mono vw_any) (f12.mono vw_any) r10 q10) ?_)
      rintro _ w10 hE10 ⟨rfl, -⟩
      have hL10 := hL3.ext hE10
      refine zaf (zbv (t := (decide (((p.Different.length : Int) : Int) ≤ 8))) (v := (zac r10)) rfl (zdv hc12) rfl ?_)
      refine zaf (zal (v := (zac r10)) rfl ?_)
      refine zat (zbt ?_)
      obtain rfl := zae h
      refine ⟨[(zac r10)], ⟨rfl, trivial⟩, ⟨_, rfl, hL10.done, ?_⟩⟩
      exact ⟨rfl, trivial⟩
     ·
      replace h := ite_f hc12 h
      refine zbl rfl rfl (zdu hc12) ?_
      refine zbl rfl rfl (zdu hc12) ?_
      refine zaf (zbo (t := (decide (((p.Different.length : Int) : Int) ≤ 8))) (v := (zac false)) rfl (zdu hc12) rfl ?_)
      refine zaf (zal (v := (zac false)) rfl ?_)
      refine zat (zbt ?_)
      obtain rfl := zae h
      refine ⟨[(zac false)], ⟨rfl, trivial⟩, ⟨_, rfl, hL3.done, ?_⟩⟩
      exact ⟨rfl, trivial⟩
    ·
     replace h := ite_f hc11 h
     refine zbl rfl rfl (zdu hc11) ?_
     refine zbl rfl rfl (zdu hc11) ?_
     refine zbl rfl rfl (zdu hc11) ?_
     refine zbl rfl rfl (zdu hc11) ?_
     refine zaf (zbo (t := (decide (((p.Same.length : Int) : Int) ≤ 8))) (v := (zac false)) rfl (zdu hc11) rfl ?_)
     refine zaf (zad (v := (zac false)) rfl ?_)
     refine zbl rfl rfl rfl ?_
     refine zbl rfl rfl rfl ?_
     refine zaf (zbo (t := false) (v := (zac false)) rfl rfl rfl ?_)
     refine zaf (zal (v := (zac false)) rfl ?_)
     refine zat (zbt ?_)
     obtain rfl := zae h
     refine ⟨[(zac false)], ⟨rfl, trivial⟩, ⟨_, rfl, hL3.done, ?_⟩⟩
     exact ⟨rfl, trivial⟩
   ·
    replace h := ite_f hc10 h
    refine zbl rfl rfl (zdu hc10) ?_
    refine zbl rfl rfl (zdu hc10) ?_
    refine zbl rfl rfl (zdu hc10) ?_
    refine zbl rfl rfl (zdu hc10) ?_
    refine zaf (zbo (t := (decide (((p.Tests.length : Int) : Int) ≤ 8))) (v := (zac false)) rfl (zdu hc10) rfl ?_)
    refine zaf (zad (v := (zac false)) rfl ?_)
    refine zbl rfl rfl rfl ?_
    refine zbl rfl rfl rfl ?_
    refine zbl rfl rfl rfl ?_
    refine zbl rfl rfl rfl ?_
    refine zaf (zbo (t := false) (v := (zac false)) rfl rfl rfl ?_)
    refine zaf (zad (v := (zac false)) rfl ?_)
    refine zbl rfl rfl rfl ?_
    refine zbl rfl rfl rfl ?_
    refine zaf (zbo (t := false) (v := (zac false)) rfl rfl rfl ?_)
    refine zaf (zal (v := (zac false)) rfl ?_)
    refine zat (zbt ?_)
    obtain rfl := zae h
    refine ⟨[(zac false)], ⟨rfl, trivial⟩, ⟨_, rfl, hL3.done, ?_⟩⟩
    exact ⟨rfl, trivial⟩
  ·
   replace h := ite_f hc9 h
   refine zbl rfl rfl (zdu hc9) ?_
   refine zbl rfl rfl (zdu hc9) ?_
   refine zbl rfl rfl (zdu hc9) ?_
   refine zbl rfl rfl (zdu hc9) ?_
   refine zaf (zbo (t := (decide (((p.Min.length : Int) : Int) ≤ 6))) (v := (zac false)) rfl (zdu hc9) rfl ?_)
   refine zaf (zad (v := (zac false)) rfl ?_)
   refine zbl rfl rfl rfl ?_
   refine zbl rfl rfl rfl ?_
   refine zbl rfl rfl rfl ?_
   refine zbl rfl rfl rfl ?_
   refine zaf (zbo (t := false) (v := (zac false)) rfl rfl rfl ?_)
   refine zaf (zad (v := (zac false)) rfl ?_)
   refine zbl rfl rfl rfl ?_
   refine zbl rfl rfl rfl ?_
   refine zbl rfl rfl rfl ?_
   refine zbl rfl rfl rfl ?_
   refine zaf (zbo (t := false) (v := (zac false)) rfl rfl rfl ?_)
   refine zaf (zad (v := (zac false)) rfl ?_)
   refine zbl rfl rfl rfl ?_
   refine zbl rfl rfl rfl ?_
   refine zaf (zbo (t := false) (v := (zac false)) rfl rfl rfl ?_)
   refine zaf (zal (v := (zac false)) rfl ?_)
   refine zat (zbt ?_)
   obtain rfl := zae h
   refine ⟨[(zac false)], ⟨rfl, trivial⟩, ⟨_, rfl, hL3.done, ?_⟩⟩
   exact ⟨rfl, trivial⟩
 ·
  replace h := ite_f hc7 h
  refine zbl rfl rfl (zdu hc7) ?_
  refine zbl rfl rfl (zdu hc7) ?_
  refine zbl rfl rfl (zdu hc7) ?_
  refine zbl rfl rfl (zdu hc7) ?_
  refine zaf (zbo (t := (decide (((p.Max.length : Int) : Int) ≤ 6))) (v := (zac false)) rfl (zdu hc7) rfl ?_)
  refine zaf (zad (v := (zac false)) rfl ?_)
  refine zbl rfl rfl rfl ?_
  refine zbl rfl rfl rfl ?_
  refine zbl rfl rfl rfl ?_
  refine zbl rfl rfl rfl ?_
  refine zaf (zbo (t := false) (v := (zac false)) rfl rfl rfl ?_)
  refine zaf (zad (v := (zac false)) rfl ?_)
  refine zbl rfl rfl rfl ?_
  refine zbl rfl rfl rfl ?_
  refine zbl rfl rfl rfl ?_
  refine zbl rfl rfl rfl ?_
  refine zaf (zbo (t := false) (v := (zac false)) rfl rfl rfl ?_)
  refine zaf (zad (v := (zac false)) rfl ?_)
  refine zbl rfl rfl rfl ?_
  refine zbl rfl rfl rfl ?_
  refine zbl rfl rfl rfl ?_
  refine zbl rfl rfl rfl ?_
  refine zaf (zbo (t := false) (v := (zac false)) rfl rfl rfl ?_)
  refine zaf (zad (v := (zac false)) rfl ?_)
  refine zbl rfl rfl rfl ?_
  refine zbl rfl rfl rfl ?_
  refine zaf (zbo (t := false) (v := (zac false)) rfl rfl rfl ?_)
  refine zaf (zal (v := (zac false)) rfl ?_)
  refine zat (zbt ?_)
  obtain rfl := zae h
  refine ⟨[(zac false)], ⟨rfl, trivial⟩, ⟨_, rfl, hL3.done, ?_⟩⟩
  exact ⟨rfl, trivial⟩
end Go.Proofs.Ytaakoedphmeenaa.WR

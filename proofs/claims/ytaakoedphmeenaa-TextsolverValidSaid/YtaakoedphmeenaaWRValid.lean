/- Walks, written by a program of mine (wip/tool); the kernel checks them. -/
import Derived.Test.YtaakoedphmeenaaProg
import Derived.Test.YtaakoedphmeenaaSqValid
import Derived.Test.YtaakoedphmeenaaPR
import Derived.Test.YtaakoedphmeenaaWAValid
set_option maxRecDepth 100000
set_option maxHeartbeats 40000000
set_option linter.unusedVariables false
set_option linter.unusedSimpArgs false
namespace Go.Proofs.Ytaakoedphmeenaa.WR
open Go Go.RowKit Go.X Go.D Go.Proofs.Ytaakoedphmeenaa.WA
theorem en29 : Go.X.Enters Try.prog 29 := ⟨Try.f29, Try.func29, by kernel_rfl, by kernel_rfl⟩
theorem ti45 : TI Try.prog 45 2 16 (zbo #[(zI 0), (zI 0)]) := TI.mk (by kernel_rfl)
theorem ti22 : TI Try.prog 22 1 24 zN := TI.mk (by kernel_rfl)
theorem en42 : Go.X.Enters Try.prog 42 := ⟨Try.f42, Try.func42, by kernel_rfl, by kernel_rfl⟩
theorem en43 : Go.X.Enters Try.prog 43 := ⟨Try.f43, Try.func43, by kernel_rfl, by kernel_rfl⟩
theorem ti24 : TI Try.prog 24 1 24 zN := TI.mk (by kernel_rfl)
theorem en44 : Go.X.Enters Try.prog 44 := ⟨Try.f44, Try.func44, by kernel_rfl, by kernel_rfl⟩
theorem ti26 : TI Try.prog 26 5 120 (zbo #[zN, zN, zN, zN, zN]) := TI.mk (by kernel_rfl)
theorem en24 : Go.X.Enters Try.prog 24 := ⟨Try.f24, Try.func24, by kernel_rfl, by kernel_rfl⟩
theorem qPrintable_w (N : Nat) (s : (List UInt8))  (w : World) (S : Nat → Prop)  (r : Bool) (h : qPrintable N s = some r) :
  Calls Try.prog 29 #[(zS s)] w (Ret w (fun v w' => (zac r) = v ∧ True)) := by
 unfold qPrintable at h
 have hL : vL w w [] [] := Go.X.Loc.begin0 w
 refine calls_of (l := [(zS s)]) (rl := [.tmp 2]) (n := 20) Try.func29 rfl rfl rfl (zai rfl) ?_
 refine zan (zaf rfl (zag (zal (v := zF) rfl ?_)))
 refine zas (zan (zan (zaf rfl (zag (zal (v := (zI 0)) rfl (zas ?_))))))
 obtain ⟨s10, hl10, g10⟩ := zdt h
 refine zbu (fun e w' => ∃  (u : Env), (Sum.inl ()) = s10 ∧ e = upds [] u ∧ vL w w' [] [] ∧ Keep w.heap.size [] w [] w' ∧ True) ?_ ?_
 ·
  refine zbb ?_
  refine zca hl10 (fun (ss : Int) (e : Env) (w' : World) => match ss with | i10 => ∃ (u : Env), e = upds [(0, (zS s)), (3, (zI i10))] u ∧ vL w w' [] [] ∧ Keep w.heap.size [] w [] w' ∧ True) ⟨_, (zdx ⟨rfl, rfl, trivial⟩), hL, zbt, trivial⟩ ?_
  rintro i10 oo _ w10 ⟨u, rfl, hL10, K10, -⟩ h hd10
  rw [qPrintable_b1] at h
  refine zan (zan (zaf rfl (zag (zae (v := (zI i10)) rfl ?_))))
  refine zag (zae (v := (zS s)) rfl ?_)
  refine zag (zdp zba rfl ?_)
  refine zag (zck (x := i10) (y := (s.length : Int)) ((i10 : Int) < (s.length : Int)) rfl rfl zbk (zas ?_))
  refine zbm ((i10 : Int) < (s.length : Int)) rfl (fun hc10 => ?_) (fun hc10 => ?_)
  ·
   replace h := ite_t hc10 h
   refine zbl (zan (zbb (zan ?_)))
   obtain ⟨s11, h, g11⟩ := zdt h
   refine zbu (fun e w' => ∃ (x10 : Bool) (u : Env), x10 = s11 ∧ e = upds [(0, (zS s)), (3, (zI i10)), (19, (zac x10))] u ∧ vL w w' [] [] ∧ Keep w.heap.size [] w10 [] w' ∧ True) ?_ ?_
   ·
    refine zaf rfl (zag (zae (v := (zS s)) rfl ?_))
    refine zag (zae (v := (zI i10)) rfl ?_)
    obtain ⟨x11, n10, q11, q12, -, h⟩ := zix h
    refine zag (OpY.sIndex (xs := s) (i := i10) (n := n10) (a := x11) zba rfl rfl q11 q12 ?_)
    refine zag (zck (x := (UInt8.toNat x11 : Int)) (y := 32) (((UInt8.toNat x11 : Int) : Int) < 32) rfl rfl zbk ?_)
    refine zag (zae (v := (zac (decide (((UInt8.toNat x11 : Int) : Int) < 32)))) rfl ?_)
    by_cases hc11 : ((UInt8.toNat x11 : Int) : Int) < 32
    ·
     replace h := ite_t hc11 h
     refine zbe rfl rfl (zdv hc11) (zbe rfl rfl (zdv hc11) (zbe rfl rfl (zdv hc11) (zbe rfl rfl (zdv hc11) ?_)))
     refine zag (zbr (t := (decide (((UInt8.toNat x11 : Int) : Int) < 32))) (v := zT) rfl (zdv hc11) rfl (zas ?_))
     obtain rfl := zad h
     refine zat ?_
     exact ⟨true, _, rfl, (zdx ⟨rfl, rfl, rfl, trivial⟩), hL10, zbt, trivial⟩
    replace h := ite_f hc11 h
    refine zaz rfl rfl (zdu hc11) (zae (v := (zS s)) rfl ?_)
    refine zaz rfl rfl (zdu hc11) (zae (v := (zI i10)) rfl ?_)
    obtain ⟨x12, n11, q14, q15, -, h⟩ := zix h
    refine zaz rfl rfl (zdu hc11) (OpY.sIndex (xs := s) (i := i10) (n := n11) (a := x12) zba rfl rfl q14 q15 ?_)
    refine zaz rfl rfl (zdu hc11) (OpY.gtr (x := (UInt8.toNat x12 : Int)) (y := 126) (((UInt8.toNat x12 : Int) : Int) > 126) rfl rfl zbk ?_)
    refine zag (zbp (t := (decide (((UInt8.toNat x11 : Int) : Int) < 32))) (v := (zac (decide (((UInt8.toNat x12 : Int) : Int) > 126)))) rfl (zdu hc11) rfl (zas ?_))
    obtain rfl := zad h
    refine zat ?_
    exact ⟨(decide (((UInt8.toNat x12 : Int) : Int) > 126)), _, rfl, (zdx ⟨rfl, rfl, rfl, trivial⟩), hL10, zbt, trivial⟩
   rintro _ w11 ⟨x10, u, rfl, rfl, hL11, K11, -⟩
   replace h := g11
   try dsimp only at h
   refine zch x10 rfl (fun hc12 => ?_) (fun hc12 => ?_)
   ·
    replace h := ite_t hc12 h
    refine zan (zaf rfl (zag (zal (v := zF) rfl ?_)))
    refine zas (zbq ?_)
    obtain rfl := zad h
    obtain rfl := hd10 _ rfl
    replace h := g10
    try dsimp only at h
    obtain rfl := zad h
    refine ⟨[zF], zrt, ⟨_, rfl, hL11.done, ?_⟩⟩
    exact zrt
   replace h := ite_f hc12 h
   refine zbl (zbh (zaf rfl (zag (zae (v := (zI i10)) rfl ?_))))
   refine zag (zce (x := i10) (y := 1) (z := (iw (i10 + 1))) rfl rfl rfl ?_)
   refine zag (zal (v := (zI (iw (i10 + 1)))) rfl (zas ?_))
   obtain rfl := zad h
   refine zat ⟨(iw (i10 + 1)), rfl, ?_⟩
   exact ⟨_, (zdx ⟨rfl, rfl, trivial⟩), hL11, (zam K10 K11), trivial⟩
  replace h := ite_f hc10 h
  refine zcf rfl ?_
  obtain rfl := zad h
  obtain rfl := hd10 _ rfl
  replace h := g10
  try dsimp only at h
  refine zat ?_
  exact ⟨_, rfl, (zdx trivial), hL10, K10, trivial⟩
 rintro _ w12 ⟨u, rfl, rfl, hL12, K12, -⟩
 replace h := g10
 try dsimp only at h
 refine zan (zaf rfl (zag (zal (v := zT) rfl ?_)))
 refine zas (zbq ?_)
 obtain rfl := zad h
 refine ⟨[zT], zrt, ⟨_, rfl, hL12.done, ?_⟩⟩
 exact zrt
theorem qValid_w (N : Nat) (t : TTest)  (w : World) (S : Nat → Prop)  (r : Bool) (h : qValid N t = some r) :
  Calls Try.prog 42 #[(zbo #[(zI t.Var), (zI t.Kind), (zac t.Negated), (zS t.Text)])] w (Ret w (fun v w' => (zac r) = v ∧ True)) := by
 unfold qValid at h
 have hL : vL w w [] [] := Go.X.Loc.begin0 w
 refine calls_of (l := [(zbo #[(zI t.Var), (zI t.Kind), (zac t.Negated), (zS t.Text)])]) (rl := [.tmp 2]) (n := 22) Try.func42 rfl rfl rfl (zai rfl) ?_
 refine zan (zaf rfl (zag (zdr (cs := [(zI t.Var), (zI t.Kind), (zac t.Negated), (zS t.Text)]) rfl rfl hL ?_)))
 intro b1 w2 hL3 hS5
 refine zag (zal (v := zF) rfl ?_)
 refine zas (zan (zaf rfl (zag (zau (q := 1) zbg rfl ti3 rfl rfl rfl ?_))))
 refine zag (zav (v := (zI t.Kind)) zaw rfl rfl (hL3.at 0 rfl rfl) rfl ?_)
 refine zag (OpY.geq (x := t.Kind) (y := 0) ((t.Kind : Int) ≥ 0) rfl rfl zbk ?_)
 refine zag (zae (v := (zac (decide ((t.Kind : Int) ≥ 0)))) rfl ?_)
 by_cases hc6 : (t.Kind : Int) ≥ 0
 ·
  replace h := ite_t hc6 h
  refine zaz rfl rfl (zdv hc6) (zau (q := 1) zbg rfl ti3 rfl rfl rfl ?_)
  refine zaz rfl rfl (zdv hc6) (zav (v := (zI t.Kind)) zaw rfl rfl (hL3.at 0 rfl rfl) rfl ?_)
  refine zaz rfl rfl (zdv hc6) (OpY.leq (x := t.Kind) (y := 3) ((t.Kind : Int) ≤ 3) rfl rfl zbk ?_)
  refine zag (zbr (t := (decide ((t.Kind : Int) ≥ 0))) (v := (zac (decide ((t.Kind : Int) ≤ 3)))) rfl (zdv hc6) rfl ?_)
  refine zag (zae (v := (zac (decide ((t.Kind : Int) ≤ 3)))) rfl ?_)
  by_cases hc7 : (t.Kind : Int) ≤ 3
  ·
   replace h := ite_t hc7 h
   refine zaz rfl rfl (zdv hc7) (zau (q := 3) zbg rfl ti9 rfl rfl rfl ?_)
   refine zaz rfl rfl (zdv hc7) (zav (v := (zS t.Text)) zba rfl rfl (hL3.at 0 rfl rfl) rfl ?_)
   refine zaz rfl rfl (zdv hc7) (zdp zba rfl ?_)
   refine zaz rfl rfl (zdv hc7) (OpY.leq (x := (t.Text.length : Int)) (y := 16) (((t.Text.length : Int) : Int) ≤ 16) rfl rfl zbk ?_)
   refine zag (zbr (t := (decide ((t.Kind : Int) ≤ 3))) (v := (zac (decide (((t.Text.length : Int) : Int) ≤ 16)))) rfl (zdv hc7) rfl ?_)
   refine zag (zae (v := (zac (decide (((t.Text.length : Int) : Int) ≤ 16)))) rfl ?_)
   by_cases hc8 : ((t.Text.length : Int) : Int) ≤ 16
   ·
    replace h := ite_t hc8 h
    refine zaz rfl rfl (zdv hc8) (zau (q := 3) zbg rfl ti9 rfl rfl rfl ?_)
    refine zaz rfl rfl (zdv hc8) (zav (v := (zS t.Text)) zba rfl rfl (hL3.at 0 rfl rfl) rfl ?_)
    obtain ⟨r9, q10, h⟩ := zdt h
    refine zaz rfl rfl (zdv hc8) (zbz en29 rfl rfl (qPrintable_w N t.Text _ Any r9 q10) ?_)
    rintro _ w10 hE10 ⟨rfl, -⟩
    have hL10 := hL3.ext hE10
    refine zag (zbr (t := (decide (((t.Text.length : Int) : Int) ≤ 16))) (v := (zac r9)) rfl (zdv hc8) rfl ?_)
    refine zag (zal (v := (zac r9)) rfl ?_)
    refine zas (zbq ?_)
    obtain rfl := zad h
    refine ⟨[(zac r9)], zrt, ⟨_, rfl, hL10.done, ?_⟩⟩
    exact zrt
   replace h := ite_f hc8 h
   refine zbe rfl rfl (zdu hc8) (zbe rfl rfl (zdu hc8) (zbe rfl rfl (zdu hc8) ?_))
   refine zag (zbp (t := (decide (((t.Text.length : Int) : Int) ≤ 16))) (v := zF) rfl (zdu hc8) rfl ?_)
   refine zag (zal (v := zF) rfl ?_)
   refine zas (zbq ?_)
   obtain rfl := zad h
   refine ⟨[zF], zrt, ⟨_, rfl, hL3.done, ?_⟩⟩
   exact zrt
  replace h := ite_f hc7 h
  refine zbe rfl rfl (zdu hc7) (zbe rfl rfl (zdu hc7) (zbe rfl rfl (zdu hc7) (zbe rfl rfl (zdu hc7) ?_)))
  refine zag (zbp (t := (decide ((t.Kind : Int) ≤ 3))) (v := zF) rfl (zdu hc7) rfl ?_)
  refine zag (zae (v := zF) rfl ?_)
  refine zbe rfl rfl rfl (zbe rfl rfl rfl (zbe rfl rfl rfl ?_))
  refine zag (zbp (t := false) (v := zF) rfl rfl rfl ?_)
  refine zag (zal (v := zF) rfl ?_)
  refine zas (zbq ?_)
  obtain rfl := zad h
  refine ⟨[zF], zrt, ⟨_, rfl, hL3.done, ?_⟩⟩
  exact zrt
 replace h := ite_f hc6 h
 refine zbe rfl rfl (zdu hc6) (zbe rfl rfl (zdu hc6) (zbe rfl rfl (zdu hc6) ?_))
 refine zag (zbp (t := (decide ((t.Kind : Int) ≥ 0))) (v := zF) rfl (zdu hc6) rfl ?_)
 refine zag (zae (v := zF) rfl ?_)
 refine zbe rfl rfl rfl (zbe rfl rfl rfl (zbe rfl rfl rfl (zbe rfl rfl rfl ?_)))
 refine zag (zbp (t := false) (v := zF) rfl rfl rfl ?_)
 refine zag (zae (v := zF) rfl ?_)
 refine zbe rfl rfl rfl (zbe rfl rfl rfl (zbe rfl rfl rfl ?_))
 refine zag (zbp (t := false) (v := zF) rfl rfl rfl ?_)
 refine zag (zal (v := zF) rfl ?_)
 refine zas (zbq ?_)
 obtain rfl := zad h
 refine ⟨[zF], zrt, ⟨_, rfl, hL3.done, ?_⟩⟩
 exact zrt
theorem rPairs_w (N : Nat) (l : (List Arr2Int)) (n : Int) (l_v : Value) (w : World) (S : Nat → Prop) (l_h : Rs rArr2Int (vH w S [] w) l_v l) (r : Bool) (h : rPairs N l n = some r) :
  Calls Try.prog 44 #[l_v, (zI n)] w (Ret w (fun v w' => (zac r) = v ∧ True)) := by
 unfold rPairs at h
 have hL : vL w w [] [] := Go.X.Loc.begin0 w
 refine calls_of (l := [l_v, (zI n)]) (rl := [.tmp 4]) (n := 44) Try.func44 rfl rfl rfl (zai rfl) ?_
 refine zan (zaf rfl (zag (zal (v := zF) rfl ?_)))
 refine zas (zan (zan (zaf rfl (zag (zal (v := (zI 0)) rfl (zas ?_))))))
 obtain ⟨s10, hl10, g10⟩ := zdt h
 refine zbu (fun e w' => ∃  (u : Env), (Sum.inl ()) = s10 ∧ e = upds [] u ∧ vL w w' [] [] ∧ Keep w.heap.size [] w [] w' ∧ True) ?_ ?_
 ·
  refine zbb ?_
  refine zca hl10 (fun (ss : Int) (e : Env) (w' : World) => match ss with | i10 => ∃ (u : Env), e = upds [(0, l_v), (1, (zI n)), (5, (zI i10))] u ∧ vL w w' [] [] ∧ Keep w.heap.size [] w [] w' ∧ True) ⟨_, (zdx ⟨rfl, rfl, rfl, trivial⟩), hL, zbt, trivial⟩ ?_
  rintro i10 oo _ w10 ⟨u, rfl, hL10, K10, -⟩ h hd10
  rw [rPairs_b1] at h
  refine zan (zan (zaf rfl (zag (zae (v := (zI i10)) rfl ?_))))
  refine zag (zae (v := l_v) rfl ?_)
  have f10 := (l_h.mono (K10 S))
  refine zag (zcc (v := l_v) zbn rfl f10 ?_)
  refine zag (zck (x := i10) (y := (l.length : Int)) ((i10 : Int) < (l.length : Int)) rfl rfl zbk (zas ?_))
  refine zbm ((i10 : Int) < (l.length : Int)) rfl (fun hc10 => ?_) (fun hc10 => ?_)
  ·
   replace h := ite_t hc10 h
   refine zbl (zan (zbb (zan ?_)))
   obtain ⟨s11, h, g11⟩ := zdt h
   refine zbu (fun e w' => ∃ (x10 : Bool) (u : Env), x10 = s11 ∧ e = upds [(0, l_v), (1, (zI n)), (5, (zI i10)), (43, (zac x10))] u ∧ vL w w' [] [] ∧ Keep w.heap.size [] w10 [] w' ∧ True) ?_ ?_
   ·
    refine zaf rfl (zag (zae (v := l_v) rfl ?_))
    refine zag (zae (v := (zI i10)) rfl ?_)
    obtain ⟨x11, n10, q11, q12, -, h⟩ := zix h
    obtain ⟨b10, o10, c10, vs10, q13, q14, f11, q15⟩ := zcy f10 q12
    obtain ⟨rfl, -⟩ := rArr2Int_open q15
    refine zag (zcb (r := rArr2Int) (v := l_v) (n := n10) (m := (o10 + n10 * rArr2Int.sz)) zbn ti45 rfl q13 rfl q11 q12 rfl ?_)
    have f12 := (f11.part (us := [(zI x11.e0)]) 0 rfl)
    refine zag (zcm (i := 0) (q := (o10 + n10 * rArr2Int.sz) + 0) zbv ti3 rfl rfl (by decide) rfl ?_)
    refine zag (zcd (v := (zI x11.e0)) zaw rfl rfl zec f12 ?_)
    refine zag (zck (x := x11.e0) (y := 0) ((x11.e0 : Int) < 0) rfl rfl zbk ?_)
    refine zag (zae (v := (zac (decide ((x11.e0 : Int) < 0)))) rfl ?_)
    by_cases hc11 : (x11.e0 : Int) < 0
    ·
     replace h := ite_t hc11 h
     refine zbe rfl rfl (zdv hc11) (zbe rfl rfl (zdv hc11) (zbe rfl rfl (zdv hc11) (zbe rfl rfl (zdv hc11) (zbe rfl rfl (zdv hc11) (zbe rfl rfl (zdv hc11) (zbe rfl rfl (zdv hc11) ?_))))))
     refine zag (zbr (t := (decide ((x11.e0 : Int) < 0))) (v := zT) rfl (zdv hc11) rfl ?_)
     refine zag (zae (v := zT) rfl ?_)
     refine zbe rfl rfl rfl (zbe rfl rfl rfl (zbe rfl rfl rfl (zbe rfl rfl rfl (zbe rfl rfl rfl (zbe rfl rfl rfl ?_)))))
     refine zag (zbr (t := true) (v := zT) rfl rfl rfl ?_)
     refine zag (zae (v := zT) rfl ?_)
     refine zbe rfl rfl rfl (zbe rfl rfl rfl (zbe rfl rfl rfl (zbe rfl rfl rfl (zbe rfl rfl rfl (zbe rfl rfl rfl (zbe rfl rfl rfl ?_))))))
     refine zag (zbr (t := true) (v := zT) rfl rfl rfl (zas ?_))
     obtain rfl := zad h
     refine zat ?_
     exact ⟨true, _, rfl, (zdx ⟨rfl, rfl, rfl, rfl, trivial⟩), hL10, zbt, trivial⟩
    replace h := ite_f hc11 h
    refine zaz rfl rfl (zdu hc11) (zae (v := l_v) rfl ?_)
    refine zaz rfl rfl (zdu hc11) (zae (v := (zI i10)) rfl ?_)
    obtain ⟨x12, n11, q17, q18, -, h⟩ := zix h
    obtain ⟨b11, o11, c11, vs11, q19, q20, f13, q21⟩ := zcy f10 q18
    obtain ⟨rfl, -⟩ := rArr2Int_open q21
    refine zaz rfl rfl (zdu hc11) (zcb (r := rArr2Int) (v := l_v) (n := n11) (m := (o11 + n11 * rArr2Int.sz)) zbn ti45 rfl q19 rfl q17 q18 rfl ?_)
    have f14 := (f13.part (us := [(zI x12.e0)]) 0 rfl)
    refine zaz rfl rfl (zdu hc11) (zcm (i := 0) (q := (o11 + n11 * rArr2Int.sz) + 0) zbv ti3 rfl rfl (by decide) rfl ?_)
    refine zaz rfl rfl (zdu hc11) (zcd (v := (zI x12.e0)) zaw rfl rfl zec f14 ?_)
    refine zaz rfl rfl (zdu hc11) (zae (v := (zI n)) rfl ?_)
    refine zaz rfl rfl (zdu hc11) (OpY.geq (x := x12.e0) (y := n) ((x12.e0 : Int) ≥ n) rfl rfl zbk ?_)
    refine zag (zbp (t := (decide ((x11.e0 : Int) < 0))) (v := (zac (decide ((x12.e0 : Int) ≥ n)))) rfl (zdu hc11) rfl ?_)
    refine zag (zae (v := (zac (decide ((x12.e0 : Int) ≥ n)))) rfl ?_)
    by_cases hc12 : (x12.e0 : Int) ≥ n
    ·
     replace h := ite_t hc12 h
     refine zbe rfl rfl (zdv hc12) (zbe rfl rfl (zdv hc12) (zbe rfl rfl (zdv hc12) (zbe rfl rfl (zdv hc12) (zbe rfl rfl (zdv hc12) (zbe rfl rfl (zdv hc12) ?_)))))
     refine zag (zbr (t := (decide ((x12.e0 : Int) ≥ n))) (v := zT) rfl (zdv hc12) rfl ?_)
     refine zag (zae (v := zT) rfl ?_)
     refine zbe rfl rfl rfl (zbe rfl rfl rfl (zbe rfl rfl rfl (zbe rfl rfl rfl (zbe rfl rfl rfl (zbe rfl rfl rfl (zbe rfl rfl rfl ?_))))))
     refine zag (zbr (t := true) (v := zT) rfl rfl rfl (zas ?_))
     obtain rfl := zad h
     refine zat ?_
     exact ⟨true, _, rfl, (zdx ⟨rfl, rfl, rfl, rfl, trivial⟩), hL10, zbt, trivial⟩
    replace h := ite_f hc12 h
    refine zaz rfl rfl (zdu hc12) (zae (v := l_v) rfl ?_)
    refine zaz rfl rfl (zdu hc12) (zae (v := (zI i10)) rfl ?_)
    obtain ⟨x13, n12, q23, q24, -, h⟩ := zix h
    obtain ⟨b12, o12, c12, vs12, q25, q26, f15, q27⟩ := zcy f10 q24
    obtain ⟨rfl, -⟩ := rArr2Int_open q27
    refine zaz rfl rfl (zdu hc12) (zcb (r := rArr2Int) (v := l_v) (n := n12) (m := (o12 + n12 * rArr2Int.sz)) zbn ti45 rfl q25 rfl q23 q24 rfl ?_)
    have f16 := (f15.part (us := [(zI x13.e1)]) 1 rfl)
    refine zaz rfl rfl (zdu hc12) (zcm (i := 1) (q := (o12 + n12 * rArr2Int.sz) + 1) zbv ti3 rfl rfl (by decide) rfl ?_)
    refine zaz rfl rfl (zdu hc12) (zcd (v := (zI x13.e1)) zaw rfl rfl zec f16 ?_)
    refine zaz rfl rfl (zdu hc12) (zck (x := x13.e1) (y := 0) ((x13.e1 : Int) < 0) rfl rfl zbk ?_)
    refine zag (zbp (t := (decide ((x12.e0 : Int) ≥ n))) (v := (zac (decide ((x13.e1 : Int) < 0)))) rfl (zdu hc12) rfl ?_)
    refine zag (zae (v := (zac (decide ((x13.e1 : Int) < 0)))) rfl ?_)
    by_cases hc13 : (x13.e1 : Int) < 0
    ·
     replace h := ite_t hc13 h
     refine zbe rfl rfl (zdv hc13) (zbe rfl rfl (zdv hc13) (zbe rfl rfl (zdv hc13) (zbe rfl rfl (zdv hc13) (zbe rfl rfl (zdv hc13) (zbe rfl rfl (zdv hc13) (zbe rfl rfl (zdv hc13) ?_))))))
     refine zag (zbr (t := (decide ((x13.e1 : Int) < 0))) (v := zT) rfl (zdv hc13) rfl (zas ?_))
     obtain rfl := zad h
     refine zat ?_
     exact ⟨true, _, rfl, (zdx ⟨rfl, rfl, rfl, rfl, trivial⟩), hL10, zbt, trivial⟩
    replace h := ite_f hc13 h
    refine zaz rfl rfl (zdu hc13) (zae (v := l_v) rfl ?_)
    refine zaz rfl rfl (zdu hc13) (zae (v := (zI i10)) rfl ?_)
    obtain ⟨x14, n13, q29, q30, -, h⟩ := zix h
    obtain ⟨b13, o13, c13, vs13, q31, q32, f17, q33⟩ := zcy f10 q30
    obtain ⟨rfl, -⟩ := rArr2Int_open q33
    refine zaz rfl rfl (zdu hc13) (zcb (r := rArr2Int) (v := l_v) (n := n13) (m := (o13 + n13 * rArr2Int.sz)) zbn ti45 rfl q31 rfl q29 q30 rfl ?_)
    have f18 := (f17.part (us := [(zI x14.e1)]) 1 rfl)
    refine zaz rfl rfl (zdu hc13) (zcm (i := 1) (q := (o13 + n13 * rArr2Int.sz) + 1) zbv ti3 rfl rfl (by decide) rfl ?_)
    refine zaz rfl rfl (zdu hc13) (zcd (v := (zI x14.e1)) zaw rfl rfl zec f18 ?_)
    refine zaz rfl rfl (zdu hc13) (zae (v := (zI n)) rfl ?_)
    refine zaz rfl rfl (zdu hc13) (OpY.geq (x := x14.e1) (y := n) ((x14.e1 : Int) ≥ n) rfl rfl zbk ?_)
    refine zag (zbp (t := (decide ((x13.e1 : Int) < 0))) (v := (zac (decide ((x14.e1 : Int) ≥ n)))) rfl (zdu hc13) rfl (zas ?_))
    obtain rfl := zad h
    refine zat ?_
    exact ⟨(decide ((x14.e1 : Int) ≥ n)), _, rfl, (zdx ⟨rfl, rfl, rfl, rfl, trivial⟩), hL10, zbt, trivial⟩
   rintro _ w11 ⟨x10, u, rfl, rfl, hL11, K11, -⟩
   replace h := g11
   try dsimp only at h
   refine zch x10 rfl (fun hc14 => ?_) (fun hc14 => ?_)
   ·
    replace h := ite_t hc14 h
    refine zan (zaf rfl (zag (zal (v := zF) rfl ?_)))
    refine zas (zbq ?_)
    obtain rfl := zad h
    obtain rfl := hd10 _ rfl
    replace h := g10
    try dsimp only at h
    obtain rfl := zad h
    refine ⟨[zF], zrt, ⟨_, rfl, hL11.done, ?_⟩⟩
    exact zrt
   replace h := ite_f hc14 h
   refine zbl (zbh (zaf rfl (zag (zae (v := (zI i10)) rfl ?_))))
   refine zag (zce (x := i10) (y := 1) (z := (iw (i10 + 1))) rfl rfl rfl ?_)
   refine zag (zal (v := (zI (iw (i10 + 1)))) rfl (zas ?_))
   obtain rfl := zad h
   refine zat ⟨(iw (i10 + 1)), rfl, ?_⟩
   exact ⟨_, (zdx ⟨rfl, rfl, rfl, trivial⟩), hL11, (zam K10 K11), trivial⟩
  replace h := ite_f hc10 h
  refine zcf rfl ?_
  obtain rfl := zad h
  obtain rfl := hd10 _ rfl
  replace h := g10
  try dsimp only at h
  refine zat ?_
  exact ⟨_, rfl, (zdx trivial), hL10, K10, trivial⟩
 rintro _ w12 ⟨u, rfl, rfl, hL12, K12, -⟩
 replace h := g10
 try dsimp only at h
 refine zan (zaf rfl (zag (zal (v := zT) rfl ?_)))
 refine zas (zbq ?_)
 obtain rfl := zad h
 refine ⟨[zT], zrt, ⟨_, rfl, hL12.done, ?_⟩⟩
 exact zrt
theorem rSizes_w (N : Nat) (l : (List Int)) (l_v : Value) (w : World) (S : Nat → Prop) (l_h : Rs rI (vH w S [] w) l_v l) (r : Bool) (h : rSizes N l = some r) :
  Calls Try.prog 43 #[l_v] w (Ret w (fun v w' => (zac r) = v ∧ True)) := by
 unfold rSizes at h
 have hL : vL w w [] [] := Go.X.Loc.begin0 w
 refine calls_of (l := [l_v]) (rl := [.tmp 2]) (n := 22) Try.func43 rfl rfl rfl (zai rfl) ?_
 refine zan (zaf rfl (zag (zal (v := zF) rfl ?_)))
 refine zas (zan (zan (zaf rfl (zag (zal (v := (zI 0)) rfl (zas ?_))))))
 obtain ⟨s10, hl10, g10⟩ := zdt h
 refine zbu (fun e w' => ∃  (u : Env), (Sum.inl ()) = s10 ∧ e = upds [] u ∧ vL w w' [] [] ∧ Keep w.heap.size [] w [] w' ∧ True) ?_ ?_
 ·
  refine zbb ?_
  refine zca hl10 (fun (ss : Int) (e : Env) (w' : World) => match ss with | i10 => ∃ (u : Env), e = upds [(0, l_v), (3, (zI i10))] u ∧ vL w w' [] [] ∧ Keep w.heap.size [] w [] w' ∧ True) ⟨_, (zdx ⟨rfl, rfl, trivial⟩), hL, zbt, trivial⟩ ?_
  rintro i10 oo _ w10 ⟨u, rfl, hL10, K10, -⟩ h hd10
  rw [rSizes_b1] at h
  refine zan (zan (zaf rfl (zag (zae (v := (zI i10)) rfl ?_))))
  refine zag (zae (v := l_v) rfl ?_)
  have f10 := (l_h.mono (K10 S))
  refine zag (zcc (v := l_v) zao rfl f10 ?_)
  refine zag (zck (x := i10) (y := (l.length : Int)) ((i10 : Int) < (l.length : Int)) rfl rfl zbk (zas ?_))
  refine zbm ((i10 : Int) < (l.length : Int)) rfl (fun hc10 => ?_) (fun hc10 => ?_)
  ·
   replace h := ite_t hc10 h
   refine zbl (zan (zbb (zan ?_)))
   obtain ⟨s11, h, g11⟩ := zdt h
   refine zbu (fun e w' => ∃ (x10 : Bool) (u : Env), x10 = s11 ∧ e = upds [(0, l_v), (3, (zI i10)), (21, (zac x10))] u ∧ vL w w' [] [] ∧ Keep w.heap.size [] w10 [] w' ∧ True) ?_ ?_
   ·
    refine zaf rfl (zag (zae (v := l_v) rfl ?_))
    refine zag (zae (v := (zI i10)) rfl ?_)
    obtain ⟨x11, n10, q11, q12, -, h⟩ := zix h
    obtain ⟨b10, o10, c10, vs10, q13, q14, f11, q15⟩ := zcy f10 q12
    obtain rfl := q15
    refine zag (zcb (r := rI) (v := l_v) (n := n10) (m := (o10 + n10 * rI.sz)) zao ti3 rfl q13 rfl q11 q12 rfl ?_)
    refine zag (zcd (v := (zI x11)) zaw rfl rfl zec f11 ?_)
    refine zag (zck (x := x11) (y := 0) ((x11 : Int) < 0) rfl rfl zbk ?_)
    refine zag (zae (v := (zac (decide ((x11 : Int) < 0)))) rfl ?_)
    by_cases hc11 : (x11 : Int) < 0
    ·
     replace h := ite_t hc11 h
     refine zbe rfl rfl (zdv hc11) (zbe rfl rfl (zdv hc11) (zbe rfl rfl (zdv hc11) (zbe rfl rfl (zdv hc11) (zbe rfl rfl (zdv hc11) ?_))))
     refine zag (zbr (t := (decide ((x11 : Int) < 0))) (v := zT) rfl (zdv hc11) rfl (zas ?_))
     obtain rfl := zad h
     refine zat ?_
     exact ⟨true, _, rfl, (zdx ⟨rfl, rfl, rfl, trivial⟩), hL10, zbt, trivial⟩
    replace h := ite_f hc11 h
    refine zaz rfl rfl (zdu hc11) (zae (v := l_v) rfl ?_)
    refine zaz rfl rfl (zdu hc11) (zae (v := (zI i10)) rfl ?_)
    obtain ⟨x12, n11, q17, q18, -, h⟩ := zix h
    obtain ⟨b11, o11, c11, vs11, q19, q20, f12, q21⟩ := zcy f10 q18
    obtain rfl := q21
    refine zaz rfl rfl (zdu hc11) (zcb (r := rI) (v := l_v) (n := n11) (m := (o11 + n11 * rI.sz)) zao ti3 rfl q19 rfl q17 q18 rfl ?_)
    refine zaz rfl rfl (zdu hc11) (zcd (v := (zI x12)) zaw rfl rfl zec f12 ?_)
    refine zaz rfl rfl (zdu hc11) (OpY.gtr (x := x12) (y := 16) ((x12 : Int) > 16) rfl rfl zbk ?_)
    refine zag (zbp (t := (decide ((x11 : Int) < 0))) (v := (zac (decide ((x12 : Int) > 16)))) rfl (zdu hc11) rfl (zas ?_))
    obtain rfl := zad h
    refine zat ?_
    exact ⟨(decide ((x12 : Int) > 16)), _, rfl, (zdx ⟨rfl, rfl, rfl, trivial⟩), hL10, zbt, trivial⟩
   rintro _ w11 ⟨x10, u, rfl, rfl, hL11, K11, -⟩
   replace h := g11
   try dsimp only at h
   refine zch x10 rfl (fun hc12 => ?_) (fun hc12 => ?_)
   ·
    replace h := ite_t hc12 h
    refine zan (zaf rfl (zag (zal (v := zF) rfl ?_)))
    refine zas (zbq ?_)
    obtain rfl := zad h
    obtain rfl := hd10 _ rfl
    replace h := g10
    try dsimp only at h
    obtain rfl := zad h
    refine ⟨[zF], zrt, ⟨_, rfl, hL11.done, ?_⟩⟩
    exact zrt
   replace h := ite_f hc12 h
   refine zbl (zbh (zaf rfl (zag (zae (v := (zI i10)) rfl ?_))))
   refine zag (zce (x := i10) (y := 1) (z := (iw (i10 + 1))) rfl rfl rfl ?_)
   refine zag (zal (v := (zI (iw (i10 + 1)))) rfl (zas ?_))
   obtain rfl := zad h
   refine zat ⟨(iw (i10 + 1)), rfl, ?_⟩
   exact ⟨_, (zdx ⟨rfl, rfl, trivial⟩), hL11, (zam K10 K11), trivial⟩
  replace h := ite_f hc10 h
  refine zcf rfl ?_
  obtain rfl := zad h
  obtain rfl := hd10 _ rfl
  replace h := g10
  try dsimp only at h
  refine zat ?_
  exact ⟨_, rfl, (zdx trivial), hL10, K10, trivial⟩
 rintro _ w12 ⟨u, rfl, rfl, hL12, K12, -⟩
 replace h := g10
 try dsimp only at h
 refine zan (zaf rfl (zag (zal (v := zT) rfl ?_)))
 refine zas (zbq ?_)
 obtain rfl := zad h
 refine ⟨[zT], zrt, ⟨_, rfl, hL12.done, ?_⟩⟩
 exact zrt
theorem rValid_w (N : Nat) (p : TProb) (p_v : Value) (p_v1 : Value) (p_v2 : Value) (p_v3 : Value) (p_v4 : Value) (w : World) (S : Nat → Prop) (p_h : Rs rI (vH w S [] w) p_v p.Min) (p_h1 : Rs rI (vH w S [] w) p_v1 p.Max) (p_h2 : Rs rTTest (vH w S [] w) p_v2 p.Tests) (p_h3 : Rs rArr2Int (vH w S [] w) p_v3 p.Same) (p_h4 : Rs rArr2Int (vH w S [] w) p_v4 p.Different) (r : Bool) (h : rValid N p = some r) :
  Calls Try.prog 24 #[(zbo #[p_v, p_v1, p_v2, p_v3, p_v4])] w (Ret w (fun v w' => (zac r) = v ∧ True)) := by
 unfold rValid at h
 have hL : vL w w [] [] := Go.X.Loc.begin0 w
 refine calls_of (l := [(zbo #[p_v, p_v1, p_v2, p_v3, p_v4])]) (rl := [.tmp 2]) (n := 72) Try.func24 rfl rfl rfl (zai rfl) ?_
 refine zan (zaf rfl (zag (zdr (cs := [p_v, p_v1, p_v2, p_v3, p_v4]) rfl rfl hL ?_)))
 intro b1 w2 hL3 hS5
 have K4 := ks w hS5
 refine zag (zal (v := zF) rfl ?_)
 refine zas (zan (zaf rfl (zag (zau (q := 1) zbf rfl ti22 rfl rfl rfl ?_))))
 refine zag (zav (v := p_v1) zao rfl rfl (hL3.at 0 rfl rfl) rfl ?_)
 have f6 := (p_h1.mono (K4 S))
 refine zag (zcc (v := p_v1) zao rfl f6 ?_)
 refine zag (zal (v := (zI (p.Max.length : Int))) rfl ?_)
 refine zas (zan (zan (zaf rfl (zag (zal (v := (zI 0)) rfl (zas ?_))))))
 obtain ⟨s10, hl10, g10⟩ := zdt h
 refine zbu (fun e w' => ∃  (u : Env), (Sum.inl ()) = s10 ∧ e = upds [(1, (zak (some ⟨b1, 0, none⟩))), (3, (zI (p.Max.length : Int)))] u ∧ vL w w' [some b1] [zab [p_v, p_v1, p_v2, p_v3, p_v4]] ∧ Keep w.heap.size [some b1] w2 [some b1] w' ∧ True) ?_ ?_
 ·
  refine zbb ?_
  refine zca hl10 (fun (ss : Int) (e : Env) (w' : World) => match ss with | i10 => ∃ (u : Env), e = upds [(1, (zak (some ⟨b1, 0, none⟩))), (3, (zI (p.Max.length : Int))), (4, (zI i10))] u ∧ vL w w' [some b1] [zab [p_v, p_v1, p_v2, p_v3, p_v4]] ∧ Keep w.heap.size [some b1] w2 [some b1] w' ∧ True) ⟨_, (zdx ⟨rfl, rfl, rfl, trivial⟩), hL3, zbt, trivial⟩ ?_
  rintro i10 oo _ w10 ⟨u, rfl, hL10, K10, -⟩ h hd10
  rw [rValid_b1] at h
  refine zan (zan (zaf rfl (zag (zae (v := (zI i10)) rfl ?_))))
  refine zag (zau (q := 2) zbf rfl ti23 rfl rfl rfl ?_)
  refine zag (zav (v := p_v2) zbc rfl rfl (hL10.at 0 rfl rfl) rfl ?_)
  have f10 := ((p_h2.mono (K4 S)).mono (K10 S))
  refine zag (zcc (v := p_v2) zbc rfl f10 ?_)
  refine zag (zck (x := i10) (y := (p.Tests.length : Int)) ((i10 : Int) < (p.Tests.length : Int)) rfl rfl zbk (zas ?_))
  refine zbm ((i10 : Int) < (p.Tests.length : Int)) rfl (fun hc10 => ?_) (fun hc10 => ?_)
  ·
   replace h := ite_t hc10 h
   refine zbl (zan (zbb (zan ?_)))
   obtain ⟨s11, h, g11⟩ := zdt h
   refine zbu (fun e w' => ∃ (x10 : Bool) (u : Env), x10 = s11 ∧ e = upds [(1, (zak (some ⟨b1, 0, none⟩))), (3, (zI (p.Max.length : Int))), (4, (zI i10)), (40, (zac x10))] u ∧ vL w w' [some b1] [zab [p_v, p_v1, p_v2, p_v3, p_v4]] ∧ Keep w.heap.size [some b1] w10 [some b1] w' ∧ True) ?_ ?_
   ·
    refine zaf rfl (zag (zau (q := 2) zbf rfl ti23 rfl rfl rfl ?_))
    refine zag (zav (v := p_v2) zbc rfl rfl (hL10.at 0 rfl rfl) rfl ?_)
    refine zag (zae (v := (zI i10)) rfl ?_)
    obtain ⟨x11, n10, q11, q12, -, h⟩ := zix h
    obtain ⟨b10, o10, c10, vs10, q13, q14, f11, q15⟩ := zcy f10 q12
    obtain ⟨rfl, -⟩ := rTTest_open q15
    refine zag (zcb (r := rTTest) (v := p_v2) (n := n10) (m := (o10 + n10 * rTTest.sz)) zbc ti44 rfl q13 rfl q11 q12 rfl ?_)
    refine zag (OpY.ldRoA (vs := [(zI x11.Var), (zI x11.Kind), (zac x11.Negated), (zS x11.Text)]) zbg rfl ti44 rfl rfl zec f11 ?_)
    obtain ⟨r10, q16, h⟩ := zdt h
    refine zag (zbz en42 rfl rfl (qValid_w N x11 _ Any r10 q16) ?_)
    rintro _ w11 hE10 ⟨rfl, -⟩
    obtain ⟨hL11, K11⟩ := zl hL10 hE10
    refine zag (zdq (x := r10) rfl ?_)
    refine zag (zae (v := (zac (!r10))) rfl ?_)
    by_cases hc11 : (!r10) = true
    ·
     replace h := ite_t hc11 h
     refine zbe rfl rfl hc11 ?_
     refine zbe rfl rfl hc11 ?_
     refine zbe rfl rfl hc11 ?_
     refine zbe rfl rfl hc11 ?_
     refine zbe rfl rfl hc11 ?_
     refine zbe rfl rfl hc11 ?_
     refine zbe rfl rfl hc11 ?_
     refine zag (zbr (t := (!r10)) (v := zT) rfl hc11 rfl ?_)
     refine zag (zae (v := zT) rfl ?_)
     refine zbe rfl rfl rfl (zbe rfl rfl rfl (zbe rfl rfl rfl (zbe rfl rfl rfl (zbe rfl rfl rfl (zbe rfl rfl rfl (zbe rfl rfl rfl (zbe rfl rfl rfl ?_)))))))
     refine zag (zbr (t := true) (v := zT) rfl rfl rfl (zas ?_))
     obtain rfl := zad h
     refine zat ?_
     exact ⟨true, _, rfl, (zdx ⟨rfl, rfl, rfl, rfl, trivial⟩), hL11, K11, trivial⟩
    replace h := ite_f hc11 h
    refine zaz rfl rfl (zdw hc11) (zau (q := 2) zbf rfl ti23 rfl rfl rfl ?_)
    refine zaz rfl rfl (zdw hc11) (zav (v := p_v2) zbc rfl rfl (hL11.at 0 rfl rfl) rfl ?_)
    refine zaz rfl rfl (zdw hc11) (zae (v := (zI i10)) rfl ?_)
    obtain ⟨x12, n11, q18, q19, -, h⟩ := zix h
    have f12 := (f10.mono (K11 S))
    obtain ⟨b11, o11, c11, vs11, q20, q21, f13, q22⟩ := zcy f12 q19
    obtain ⟨rfl, -⟩ := rTTest_open q22
    refine zaz rfl rfl (zdw hc11) (zcb (r := rTTest) (v := p_v2) (n := n11) (m := (o11 + n11 * rTTest.sz)) zbc ti44 rfl q20 rfl q18 q19 rfl ?_)
    have f14 := (f13.part (us := [(zI x12.Var)]) 0 rfl)
    refine zaz rfl rfl (zdw hc11) (zau (q := (o11 + n11 * rTTest.sz) + 0) zbg rfl ti3 rfl rfl rfl ?_)
    refine zaz rfl rfl (zdw hc11) (zcd (v := (zI x12.Var)) zaw rfl rfl zec f14 ?_)
    refine zaz rfl rfl (zdw hc11) (zck (x := x12.Var) (y := 0) ((x12.Var : Int) < 0) rfl rfl zbk ?_)
    refine zag (zbp (t := (!r10)) (v := (zac (decide ((x12.Var : Int) < 0)))) rfl (zdw hc11) rfl ?_)
    refine zag (zae (v := (zac (decide ((x12.Var : Int) < 0)))) rfl ?_)
    by_cases hc12 : (x12.Var : Int) < 0
    ·
     replace h := ite_t hc12 h
     refine zbe rfl rfl (zdv hc12) (zbe rfl rfl (zdv hc12) (zbe rfl rfl (zdv hc12) (zbe rfl rfl (zdv hc12) (zbe rfl rfl (zdv hc12) (zbe rfl rfl (zdv hc12) (zbe rfl rfl (zdv hc12) (zbe rfl rfl (zdv hc12) ?_)))))))
     refine zag (zbr (t := (decide ((x12.Var : Int) < 0))) (v := zT) rfl (zdv hc12) rfl (zas ?_))
     obtain rfl := zad h
     refine zat ?_
     exact ⟨true, _, rfl, (zdx ⟨rfl, rfl, rfl, rfl, trivial⟩), hL11, K11, trivial⟩
    replace h := ite_f hc12 h
    refine zaz rfl rfl (zdu hc12) (zau (q := 2) zbf rfl ti23 rfl rfl rfl ?_)
    refine zaz rfl rfl (zdu hc12) (zav (v := p_v2) zbc rfl rfl (hL11.at 0 rfl rfl) rfl ?_)
    refine zaz rfl rfl (zdu hc12) (zae (v := (zI i10)) rfl ?_)
    obtain ⟨x13, n12, q24, q25, -, h⟩ := zix h
    obtain ⟨b12, o12, c12, vs12, q26, q27, f15, q28⟩ := zcy f12 q25
    obtain ⟨rfl, -⟩ := rTTest_open q28
    refine zaz rfl rfl (zdu hc12) (zcb (r := rTTest) (v := p_v2) (n := n12) (m := (o12 + n12 * rTTest.sz)) zbc ti44 rfl q26 rfl q24 q25 rfl ?_)
    have f16 := (f15.part (us := [(zI x13.Var)]) 0 rfl)
    refine zaz rfl rfl (zdu hc12) (zau (q := (o12 + n12 * rTTest.sz) + 0) zbg rfl ti3 rfl rfl rfl ?_)
    refine zaz rfl rfl (zdu hc12) (zcd (v := (zI x13.Var)) zaw rfl rfl zec f16 ?_)
    refine zaz rfl rfl (zdu hc12) (zae (v := (zI (p.Max.length : Int))) rfl ?_)
    refine zaz rfl rfl (zdu hc12) (OpY.geq (x := x13.Var) (y := (p.Max.length : Int)) ((x13.Var : Int) ≥ (p.Max.length : Int)) rfl rfl zbk ?_)
    refine zag (zbp (t := (decide ((x12.Var : Int) < 0))) (v := (zac (decide ((x13.Var : Int) ≥ (p.Max.length : Int))))) rfl (zdu hc12) rfl (zas ?_))
    obtain rfl := zad h
    refine zat ?_
    exact ⟨(decide ((x13.Var : Int) ≥ (p.Max.length : Int))), _, rfl, (zdx ⟨rfl, rfl, rfl, rfl, trivial⟩), hL11, K11, trivial⟩
   rintro _ w12 ⟨x10, u, rfl, rfl, hL12, K12, -⟩
   replace h := g11
   try dsimp only at h
   refine zch x10 rfl (fun hc13 => ?_) (fun hc13 => ?_)
   ·
    replace h := ite_t hc13 h
    refine zan (zaf rfl (zag (zal (v := zF) rfl ?_)))
    refine zas (zbq ?_)
    obtain rfl := zad h
    obtain rfl := hd10 _ rfl
    replace h := g10
    try dsimp only at h
    obtain rfl := zad h
    refine ⟨[zF], zrt, ⟨_, rfl, hL12.done, ?_⟩⟩
    exact zrt
   replace h := ite_f hc13 h
   refine zbl (zbh (zaf rfl (zag (zae (v := (zI i10)) rfl ?_))))
   refine zag (zce (x := i10) (y := 1) (z := (iw (i10 + 1))) rfl rfl rfl ?_)
   refine zag (zal (v := (zI (iw (i10 + 1)))) rfl (zas ?_))
   obtain rfl := zad h
   refine zat ⟨(iw (i10 + 1)), rfl, ?_⟩
   exact ⟨_, (zdx ⟨rfl, rfl, rfl, trivial⟩), hL12, (zam K10 K12), trivial⟩
  replace h := ite_f hc10 h
  refine zcf rfl ?_
  obtain rfl := zad h
  obtain rfl := hd10 _ rfl
  replace h := g10
  try dsimp only at h
  refine zat ?_
  exact ⟨_, rfl, (zdx ⟨rfl, rfl, trivial⟩), hL10, K10, trivial⟩
 rintro _ w13 ⟨u, rfl, rfl, hL13, K13, -⟩
 replace h := g10
 try dsimp only at h
 refine zan (zaf rfl (zag (zau (q := 0) zbf rfl ti22 rfl rfl rfl ?_)))
 refine zag (zav (v := p_v) zao rfl rfl (hL13.at 0 rfl rfl) rfl ?_)
 have f17 := ((p_h.mono (K4 S)).mono (K13 S))
 refine zag (zcc (v := p_v) zao rfl f17 ?_)
 refine zag (zae (v := (zI (p.Max.length : Int))) rfl ?_)
 refine zag (zdn (x := (p.Min.length : Int)) (y := (p.Max.length : Int)) (((p.Min.length : Int) : Int) = (p.Max.length : Int)) rfl rfl zbk ?_)
 refine zag (zae (v := (zac (decide (((p.Min.length : Int) : Int) = (p.Max.length : Int))))) rfl ?_)
 by_cases hc14 : ((p.Min.length : Int) : Int) = (p.Max.length : Int)
 ·
  replace h := ite_t hc14 h
  refine zaz rfl rfl (zdv hc14) (zae (v := (zI (p.Max.length : Int))) rfl ?_)
  refine zaz rfl rfl (zdv hc14) (OpY.leq (x := (p.Max.length : Int)) (y := 128) (((p.Max.length : Int) : Int) ≤ 128) rfl rfl zbk ?_)
  refine zag (zbr (t := (decide (((p.Min.length : Int) : Int) = (p.Max.length : Int)))) (v := (zac (decide (((p.Max.length : Int) : Int) ≤ 128)))) rfl (zdv hc14) rfl ?_)
  refine zag (zae (v := (zac (decide (((p.Max.length : Int) : Int) ≤ 128)))) rfl ?_)
  by_cases hc15 : ((p.Max.length : Int) : Int) ≤ 128
  ·
   replace h := ite_t hc15 h
   refine zaz rfl rfl (zdv hc15) (zau (q := 0) zbf rfl ti22 rfl rfl rfl ?_)
   refine zaz rfl rfl (zdv hc15) (zav (v := p_v) zao rfl rfl (hL13.at 0 rfl rfl) rfl ?_)
   obtain ⟨r11, q29, h⟩ := zdt h
   refine zaz rfl rfl (zdv hc15) (zbz en43 rfl rfl (rSizes_w N p.Min p_v _ Any (f17.mono vw_any) r11 q29) ?_)
   rintro _ w14 hE11 ⟨rfl, -⟩
   obtain ⟨hL14, K14⟩ := zl hL13 hE11
   refine zag (zbr (t := (decide (((p.Max.length : Int) : Int) ≤ 128))) (v := (zac r11)) rfl (zdv hc15) rfl ?_)
   refine zag (zae (v := (zac r11)) rfl ?_)
   by_cases hc16 : r11 = true
   ·
    replace h := ite_t hc16 h
    refine zaz rfl rfl hc16 (zau (q := 1) zbf rfl ti22 rfl rfl rfl ?_)
    refine zaz rfl rfl hc16 (zav (v := p_v1) zao rfl rfl (hL14.at 0 rfl rfl) rfl ?_)
    obtain ⟨r12, q30, h⟩ := zdt h
    have f18 := ((f6.mono (K13 S)).mono (K14 S))
    refine zaz rfl rfl hc16 (zbz en43 rfl rfl (rSizes_w N p.Max p_v1 _ Any (f18.mono vw_any) r12 q30) ?_)
    rintro _ w15 hE12 ⟨rfl, -⟩
    obtain ⟨hL15, K15⟩ := zl hL14 hE12
    refine zag (zbr (t := r11) (v := (zac r12)) rfl hc16 rfl ?_)
    refine zag (zae (v := (zac r12)) rfl ?_)
    by_cases hc17 : r12 = true
    ·
     replace h := ite_t hc17 h
     refine zaz rfl rfl hc17 (zau (q := 3) zbf rfl ti24 rfl rfl rfl ?_)
     refine zaz rfl rfl hc17 (zav (v := p_v3) zbn rfl rfl (hL15.at 0 rfl rfl) rfl ?_)
     refine zaz rfl rfl hc17 (zae (v := (zI (p.Max.length : Int))) rfl ?_)
     obtain ⟨r13, q31, h⟩ := zdt h
     have f19 := ((((p_h3.mono (K4 S)).mono (K13 S)).mono (K14 S)).mono (K15 S))
     refine zaz rfl rfl hc17 (zbz en44 rfl rfl (rPairs_w N p.Same (p.Max.length : Int) p_v3 _ Any (f19.mono vw_any) r13 q31) ?_)
     rintro _ w16 hE13 ⟨rfl, -⟩
     obtain ⟨hL16, K16⟩ := zl hL15 hE13
     refine zag (zbr (t := r12) (v := (zac r13)) rfl hc17 rfl ?_)
     refine zag (zae (v := (zac r13)) rfl ?_)
     by_cases hc18 : r13 = true
     ·
      replace h := ite_t hc18 h
      refine zaz rfl rfl hc18 (zau (q := 4) zbf rfl ti24 rfl rfl rfl ?_)
      refine zaz rfl rfl hc18 (zav (v := p_v4) zbn rfl rfl (hL16.at 0 rfl rfl) rfl ?_)
      refine zaz rfl rfl hc18 (zae (v := (zI (p.Max.length : Int))) rfl ?_)
      obtain ⟨r14, q32, h⟩ := zdt h
      have f20 := (((((p_h4.mono (K4 S)).mono (K13 S)).mono (K14 S)).mono (K15 S)).mono (K16 S))
      refine zaz rfl rfl hc18 (zbz en44 rfl rfl (rPairs_w N p.Different (p.Max.length : Int) p_v4 _ Any (f20.mono vw_any) r14 q32) ?_)
      rintro _ w17 hE14 ⟨rfl, -⟩
      have hL17 := hL16.ext hE14
      refine zag (zbr (t := r13) (v := (zac r14)) rfl hc18 rfl ?_)
      refine zag (zal (v := (zac r14)) rfl ?_)
      refine zas (zbq ?_)
      obtain rfl := zad h
      refine ⟨[(zac r14)], zrt, ⟨_, rfl, hL17.done, ?_⟩⟩
      exact zrt
     replace h := ite_f hc18 h
     refine zbe rfl rfl (zdw hc18) (zbe rfl rfl (zdw hc18) (zbe rfl rfl (zdw hc18) (zbe rfl rfl (zdw hc18) ?_)))
     refine zag (zbp (t := r13) (v := zF) rfl (zdw hc18) rfl ?_)
     refine zag (zal (v := zF) rfl ?_)
     refine zas (zbq ?_)
     obtain rfl := zad h
     refine ⟨[zF], zrt, ⟨_, rfl, hL16.done, ?_⟩⟩
     exact zrt
    replace h := ite_f hc17 h
    refine zbe rfl rfl (zdw hc17) (zbe rfl rfl (zdw hc17) (zbe rfl rfl (zdw hc17) (zbe rfl rfl (zdw hc17) ?_)))
    refine zag (zbp (t := r12) (v := zF) rfl (zdw hc17) rfl ?_)
    refine zag (zae (v := zF) rfl ?_)
    refine zbe rfl rfl rfl (zbe rfl rfl rfl (zbe rfl rfl rfl (zbe rfl rfl rfl ?_)))
    refine zag (zbp (t := false) (v := zF) rfl rfl rfl ?_)
    refine zag (zal (v := zF) rfl ?_)
    refine zas (zbq ?_)
    obtain rfl := zad h
    refine ⟨[zF], zrt, ⟨_, rfl, hL15.done, ?_⟩⟩
    exact zrt
   replace h := ite_f hc16 h
   refine zbe rfl rfl (zdw hc16) (zbe rfl rfl (zdw hc16) (zbe rfl rfl (zdw hc16) ?_))
   refine zag (zbp (t := r11) (v := zF) rfl (zdw hc16) rfl ?_)
   refine zag (zae (v := zF) rfl ?_)
   refine zbe rfl rfl rfl (zbe rfl rfl rfl (zbe rfl rfl rfl (zbe rfl rfl rfl ?_)))
   refine zag (zbp (t := false) (v := zF) rfl rfl rfl ?_)
   refine zag (zae (v := zF) rfl ?_)
   refine zbe rfl rfl rfl (zbe rfl rfl rfl (zbe rfl rfl rfl (zbe rfl rfl rfl ?_)))
   refine zag (zbp (t := false) (v := zF) rfl rfl rfl ?_)
   refine zag (zal (v := zF) rfl ?_)
   refine zas (zbq ?_)
   obtain rfl := zad h
   refine ⟨[zF], zrt, ⟨_, rfl, hL14.done, ?_⟩⟩
   exact zrt
  replace h := ite_f hc15 h
  refine zbe rfl rfl (zdu hc15) (zbe rfl rfl (zdu hc15) (zbe rfl rfl (zdu hc15) ?_))
  refine zag (zbp (t := (decide (((p.Max.length : Int) : Int) ≤ 128))) (v := zF) rfl (zdu hc15) rfl ?_)
  refine zag (zae (v := zF) rfl ?_)
  refine zbe rfl rfl rfl (zbe rfl rfl rfl (zbe rfl rfl rfl ?_))
  refine zag (zbp (t := false) (v := zF) rfl rfl rfl ?_)
  refine zag (zae (v := zF) rfl ?_)
  refine zbe rfl rfl rfl (zbe rfl rfl rfl (zbe rfl rfl rfl (zbe rfl rfl rfl ?_)))
  refine zag (zbp (t := false) (v := zF) rfl rfl rfl ?_)
  refine zag (zae (v := zF) rfl ?_)
  refine zbe rfl rfl rfl (zbe rfl rfl rfl (zbe rfl rfl rfl (zbe rfl rfl rfl ?_)))
  refine zag (zbp (t := false) (v := zF) rfl rfl rfl ?_)
  refine zag (zal (v := zF) rfl ?_)
  refine zas (zbq ?_)
  obtain rfl := zad h
  refine ⟨[zF], zrt, ⟨_, rfl, hL13.done, ?_⟩⟩
  exact zrt
 replace h := ite_f hc14 h
 refine zbe rfl rfl (zdu hc14) (zbe rfl rfl (zdu hc14) ?_)
 refine zag (zbp (t := (decide (((p.Min.length : Int) : Int) = (p.Max.length : Int)))) (v := zF) rfl (zdu hc14) rfl ?_)
 refine zag (zae (v := zF) rfl ?_)
 refine zbe rfl rfl rfl (zbe rfl rfl rfl (zbe rfl rfl rfl ?_))
 refine zag (zbp (t := false) (v := zF) rfl rfl rfl ?_)
 refine zag (zae (v := zF) rfl ?_)
 refine zbe rfl rfl rfl (zbe rfl rfl rfl (zbe rfl rfl rfl ?_))
 refine zag (zbp (t := false) (v := zF) rfl rfl rfl ?_)
 refine zag (zae (v := zF) rfl ?_)
 refine zbe rfl rfl rfl (zbe rfl rfl rfl (zbe rfl rfl rfl (zbe rfl rfl rfl ?_)))
 refine zag (zbp (t := false) (v := zF) rfl rfl rfl ?_)
 refine zag (zae (v := zF) rfl ?_)
 refine zbe rfl rfl rfl (zbe rfl rfl rfl (zbe rfl rfl rfl (zbe rfl rfl rfl ?_)))
 refine zag (zbp (t := false) (v := zF) rfl rfl rfl ?_)
 refine zag (zal (v := zF) rfl ?_)
 refine zas (zbq ?_)
 obtain rfl := zad h
 refine ⟨[zF], zrt, ⟨_, rfl, hL13.done, ?_⟩⟩
 exact zrt
end Go.Proofs.Ytaakoedphmeenaa.WR

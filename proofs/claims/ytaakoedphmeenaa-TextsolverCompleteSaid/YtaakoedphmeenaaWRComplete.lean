/- Walks, written by a program of mine (wip/tool); the kernel checks them. -/
import Derived.Test.YtaakoedphmeenaaProg
import Derived.Test.YtaakoedphmeenaaSqComplete
import Derived.Test.YtaakoedphmeenaaPR
import Derived.Test.YtaakoedphmeenaaWAComplete
set_option maxRecDepth 100000
set_option maxHeartbeats 40000000
set_option linter.unusedVariables false
set_option linter.unusedSimpArgs false
namespace Go.Proofs.Ytaakoedphmeenaa.WR
open Go Go.RowKit Go.X Go.D Go.Proofs.Ytaakoedphmeenaa.WA
theorem en29 : Go.X.Enters Try.prog 29 := ⟨Try.f29, Try.func29, by kernel_rfl, by kernel_rfl⟩
theorem en70 : Go.X.Enters Try.prog 70 := ⟨Try.f70, Try.func70, by kernel_rfl, by kernel_rfl⟩
theorem en56 : Go.X.Enters Try.prog 56 := ⟨Try.f56, Try.func56, by kernel_rfl, by kernel_rfl⟩
theorem en57 : Go.X.Enters Try.prog 57 := ⟨Try.f57, Try.func57, by kernel_rfl, by kernel_rfl⟩
theorem en58 : Go.X.Enters Try.prog 58 := ⟨Try.f58, Try.func58, by kernel_rfl, by kernel_rfl⟩
theorem ti45 : TI Try.prog 45 2 16 (zbs #[(zI 0), (zI 0)]) := TI.mk (by kernel_rfl)
theorem ti22 : TI Try.prog 22 1 24 zN := TI.mk (by kernel_rfl)
theorem en42 : Go.X.Enters Try.prog 42 := ⟨Try.f42, Try.func42, by kernel_rfl, by kernel_rfl⟩
theorem en43 : Go.X.Enters Try.prog 43 := ⟨Try.f43, Try.func43, by kernel_rfl, by kernel_rfl⟩
theorem ti24 : TI Try.prog 24 1 24 zN := TI.mk (by kernel_rfl)
theorem en44 : Go.X.Enters Try.prog 44 := ⟨Try.f44, Try.func44, by kernel_rfl, by kernel_rfl⟩
theorem en30 : Go.X.Enters Try.prog 30 := ⟨Try.f30, Try.func30, by kernel_rfl, by kernel_rfl⟩
theorem ti26 : TI Try.prog 26 5 120 (zbs #[zN, zN, zN, zN, zN]) := TI.mk (by kernel_rfl)
theorem en15 : Go.X.Enters Try.prog 15 := ⟨Try.f15, Try.func15, by kernel_rfl, by kernel_rfl⟩
theorem en24 : Go.X.Enters Try.prog 24 := ⟨Try.f24, Try.func24, by kernel_rfl, by kernel_rfl⟩
theorem en12 : Go.X.Enters Try.prog 12 := ⟨Try.f12, Try.func12, by kernel_rfl, by kernel_rfl⟩
theorem qPrintable_w (N : Nat) (s : (List UInt8))  (w : World) (S : Nat → Prop)  (r : Bool) (h : qPrintable N s = some r) :
  Calls Try.prog 29 #[(zS s)] w (Ret w (fun v w' => (zac r) = v ∧ True)) := by
 unfold qPrintable at h
 have hL : vL w w [] [] := Go.X.Loc.begin0 w
 refine calls_of (l := [(zS s)]) (rl := [.tmp 2]) (n := 20) Try.func29 rfl rfl rfl (zak rfl) ?_
 refine zam (zah rfl (zag (zai (v := zF) rfl ?_)))
 refine zar (zam (zam (zah rfl (zag (zai (v := (zI 0)) rfl (zar ?_))))))
 obtain ⟨s10, hl10, g10⟩ := zdy h
 refine zbu (fun e w' => ∃  (u : Env), (Sum.inl ()) = s10 ∧ e = upds [] u ∧ vL w w' [] [] ∧ Keep w.heap.size [] w [] w' ∧ True) ?_ ?_
 ·
  refine zbf ?_
  refine zca hl10 (fun (ss : Int) (e : Env) (w' : World) => match ss with | i10 => ∃ (u : Env), e = upds [(0, (zS s)), (3, (zI i10))] u ∧ vL w w' [] [] ∧ Keep w.heap.size [] w [] w' ∧ True) ⟨_, (zea ⟨rfl, rfl, trivial⟩), hL, zbq, trivial⟩ ?_
  rintro i10 oo _ w10 ⟨u, rfl, hL10, K10, -⟩ h hd10
  rw [qPrintable_b1] at h
  refine zam (zam (zah rfl (zag (zae (v := (zI i10)) rfl ?_))))
  refine zag (zae (v := (zS s)) rfl ?_)
  refine zag (zdb zaw rfl ?_)
  refine zag (zci (x := i10) (y := (s.length : Int)) ((i10 : Int) < (s.length : Int)) rfl rfl zbh (zar ?_))
  refine zbk ((i10 : Int) < (s.length : Int)) rfl (fun hc10 => ?_) (fun hc10 => ?_)
  ·
   replace h := ite_t hc10 h
   refine zbn (zam (zbf (zam ?_)))
   obtain ⟨s11, h, g11⟩ := zdy h
   refine zbu (fun e w' => ∃ (x10 : Bool) (u : Env), x10 = s11 ∧ e = upds [(0, (zS s)), (3, (zI i10)), (19, (zac x10))] u ∧ vL w w' [] [] ∧ Keep w.heap.size [] w10 [] w' ∧ True) ?_ ?_
   ·
    refine zah rfl (zag (zae (v := (zS s)) rfl ?_))
    refine zag (zae (v := (zI i10)) rfl ?_)
    obtain ⟨x11, n10, q11, q12, -, h⟩ := zix h
    refine zag (zdc (xs := s) (i := i10) (n := n10) (a := x11) zaw rfl rfl q11 q12 ?_)
    refine zag (zci (x := (UInt8.toNat x11 : Int)) (y := 32) (((UInt8.toNat x11 : Int) : Int) < 32) rfl rfl zbh ?_)
    refine zag (zae (v := (zac (decide (((UInt8.toNat x11 : Int) : Int) < 32)))) rfl ?_)
    by_cases hc11 : ((UInt8.toNat x11 : Int) : Int) < 32
    ·
     replace h := ite_t hc11 h
     refine zbd rfl rfl (zdx hc11) (zbd rfl rfl (zdx hc11) (zbd rfl rfl (zdx hc11) (zbd rfl rfl (zdx hc11) ?_)))
     refine zag (zbl (t := (decide (((UInt8.toNat x11 : Int) : Int) < 32))) (v := zT) rfl (zdx hc11) rfl (zar ?_))
     obtain rfl := zad h
     refine zap ?_
     exact ⟨true, _, rfl, (zea ⟨rfl, rfl, rfl, trivial⟩), hL10, zbq, trivial⟩
    replace h := ite_f hc11 h
    refine zba rfl rfl (zdw hc11) (zae (v := (zS s)) rfl ?_)
    refine zba rfl rfl (zdw hc11) (zae (v := (zI i10)) rfl ?_)
    obtain ⟨x12, n11, q14, q15, -, h⟩ := zix h
    refine zba rfl rfl (zdw hc11) (zdc (xs := s) (i := i10) (n := n11) (a := x12) zaw rfl rfl q14 q15 ?_)
    refine zba rfl rfl (zdw hc11) (OpY.gtr (x := (UInt8.toNat x12 : Int)) (y := 126) (((UInt8.toNat x12 : Int) : Int) > 126) rfl rfl zbh ?_)
    refine zag (zbe (t := (decide (((UInt8.toNat x11 : Int) : Int) < 32))) (v := (zac (decide (((UInt8.toNat x12 : Int) : Int) > 126)))) rfl (zdw hc11) rfl (zar ?_))
    obtain rfl := zad h
    refine zap ?_
    exact ⟨(decide (((UInt8.toNat x12 : Int) : Int) > 126)), _, rfl, (zea ⟨rfl, rfl, rfl, trivial⟩), hL10, zbq, trivial⟩
   rintro _ w11 ⟨x10, u, rfl, rfl, hL11, K11, -⟩
   replace h := g11
   try dsimp only at h
   refine zch x10 rfl (fun hc12 => ?_) (fun hc12 => ?_)
   ·
    replace h := ite_t hc12 h
    refine zam (zah rfl (zag (zai (v := zF) rfl ?_)))
    refine zar (zbv ?_)
    obtain rfl := zad h
    obtain rfl := hd10 _ rfl
    replace h := g10
    try dsimp only at h
    obtain rfl := zad h
    refine ⟨[zF], zrt, ⟨_, rfl, hL11.done, ?_⟩⟩
    exact zrt
   replace h := ite_f hc12 h
   refine zbn (zbi (zah rfl (zag (zae (v := (zI i10)) rfl ?_))))
   refine zag (zcd (x := i10) (y := 1) (z := (iw (i10 + 1))) rfl rfl rfl ?_)
   refine zag (zai (v := (zI (iw (i10 + 1)))) rfl (zar ?_))
   obtain rfl := zad h
   refine zap ⟨(iw (i10 + 1)), rfl, ?_⟩
   exact ⟨_, (zea ⟨rfl, rfl, trivial⟩), hL11, (zaj K10 K11), trivial⟩
  replace h := ite_f hc10 h
  refine zcg rfl ?_
  obtain rfl := zad h
  obtain rfl := hd10 _ rfl
  replace h := g10
  try dsimp only at h
  refine zap ?_
  exact ⟨_, rfl, (zea trivial), hL10, K10, trivial⟩
 rintro _ w12 ⟨u, rfl, rfl, hL12, K12, -⟩
 replace h := g10
 try dsimp only at h
 refine zam (zah rfl (zag (zai (v := zT) rfl ?_)))
 refine zar (zbv ?_)
 obtain rfl := zad h
 refine ⟨[zT], zrt, ⟨_, rfl, hL12.done, ?_⟩⟩
 exact zrt
theorem qValid_w (N : Nat) (t : TTest)  (w : World) (S : Nat → Prop)  (r : Bool) (h : qValid N t = some r) :
  Calls Try.prog 42 #[(zbs #[(zI t.Var), (zI t.Kind), (zac t.Negated), (zS t.Text)])] w (Ret w (fun v w' => (zac r) = v ∧ True)) := by
 unfold qValid at h
 have hL : vL w w [] [] := Go.X.Loc.begin0 w
 refine calls_of (l := [(zbs #[(zI t.Var), (zI t.Kind), (zac t.Negated), (zS t.Text)])]) (rl := [.tmp 2]) (n := 22) Try.func42 rfl rfl rfl (zak rfl) ?_
 refine zam (zah rfl (zag (zdt (cs := [(zI t.Var), (zI t.Kind), (zac t.Negated), (zS t.Text)]) rfl rfl hL ?_)))
 intro b1 w2 hL3 hS5
 refine zag (zai (v := zF) rfl ?_)
 refine zar (zam (zah rfl (zag (zat (q := 1) zbc rfl ti3 rfl rfl rfl ?_))))
 refine zag (zav (v := (zI t.Kind)) zay rfl rfl (hL3.at 0 rfl rfl) rfl ?_)
 refine zag (OpY.geq (x := t.Kind) (y := 0) ((t.Kind : Int) ≥ 0) rfl rfl zbh ?_)
 refine zag (zae (v := (zac (decide ((t.Kind : Int) ≥ 0)))) rfl ?_)
 by_cases hc6 : (t.Kind : Int) ≥ 0
 ·
  replace h := ite_t hc6 h
  refine zba rfl rfl (zdx hc6) (zat (q := 1) zbc rfl ti3 rfl rfl rfl ?_)
  refine zba rfl rfl (zdx hc6) (zav (v := (zI t.Kind)) zay rfl rfl (hL3.at 0 rfl rfl) rfl ?_)
  refine zba rfl rfl (zdx hc6) (OpY.leq (x := t.Kind) (y := 3) ((t.Kind : Int) ≤ 3) rfl rfl zbh ?_)
  refine zag (zbl (t := (decide ((t.Kind : Int) ≥ 0))) (v := (zac (decide ((t.Kind : Int) ≤ 3)))) rfl (zdx hc6) rfl ?_)
  refine zag (zae (v := (zac (decide ((t.Kind : Int) ≤ 3)))) rfl ?_)
  by_cases hc7 : (t.Kind : Int) ≤ 3
  ·
   replace h := ite_t hc7 h
   refine zba rfl rfl (zdx hc7) (zat (q := 3) zbc rfl ti9 rfl rfl rfl ?_)
   refine zba rfl rfl (zdx hc7) (zav (v := (zS t.Text)) zaw rfl rfl (hL3.at 0 rfl rfl) rfl ?_)
   refine zba rfl rfl (zdx hc7) (zdb zaw rfl ?_)
   refine zba rfl rfl (zdx hc7) (OpY.leq (x := (t.Text.length : Int)) (y := 16) (((t.Text.length : Int) : Int) ≤ 16) rfl rfl zbh ?_)
   refine zag (zbl (t := (decide ((t.Kind : Int) ≤ 3))) (v := (zac (decide (((t.Text.length : Int) : Int) ≤ 16)))) rfl (zdx hc7) rfl ?_)
   refine zag (zae (v := (zac (decide (((t.Text.length : Int) : Int) ≤ 16)))) rfl ?_)
   by_cases hc8 : ((t.Text.length : Int) : Int) ≤ 16
   ·
    replace h := ite_t hc8 h
    refine zba rfl rfl (zdx hc8) (zat (q := 3) zbc rfl ti9 rfl rfl rfl ?_)
    refine zba rfl rfl (zdx hc8) (zav (v := (zS t.Text)) zaw rfl rfl (hL3.at 0 rfl rfl) rfl ?_)
    obtain ⟨r9, q10, h⟩ := zdy h
    refine zba rfl rfl (zdx hc8) (zcb en29 rfl rfl (qPrintable_w N t.Text _ Any r9 q10) ?_)
    rintro _ w10 hE10 ⟨rfl, -⟩
    have hL10 := hL3.ext hE10
    refine zag (zbl (t := (decide (((t.Text.length : Int) : Int) ≤ 16))) (v := (zac r9)) rfl (zdx hc8) rfl ?_)
    refine zag (zai (v := (zac r9)) rfl ?_)
    refine zar (zbv ?_)
    obtain rfl := zad h
    refine ⟨[(zac r9)], zrt, ⟨_, rfl, hL10.done, ?_⟩⟩
    exact zrt
   replace h := ite_f hc8 h
   refine zbd rfl rfl (zdw hc8) (zbd rfl rfl (zdw hc8) (zbd rfl rfl (zdw hc8) ?_))
   refine zag (zbe (t := (decide (((t.Text.length : Int) : Int) ≤ 16))) (v := zF) rfl (zdw hc8) rfl ?_)
   refine zag (zai (v := zF) rfl ?_)
   refine zar (zbv ?_)
   obtain rfl := zad h
   refine ⟨[zF], zrt, ⟨_, rfl, hL3.done, ?_⟩⟩
   exact zrt
  replace h := ite_f hc7 h
  refine zbd rfl rfl (zdw hc7) (zbd rfl rfl (zdw hc7) (zbd rfl rfl (zdw hc7) (zbd rfl rfl (zdw hc7) ?_)))
  refine zag (zbe (t := (decide ((t.Kind : Int) ≤ 3))) (v := zF) rfl (zdw hc7) rfl ?_)
  refine zag (zae (v := zF) rfl ?_)
  refine zbd rfl rfl rfl (zbd rfl rfl rfl (zbd rfl rfl rfl ?_))
  refine zag (zbe (t := false) (v := zF) rfl rfl rfl ?_)
  refine zag (zai (v := zF) rfl ?_)
  refine zar (zbv ?_)
  obtain rfl := zad h
  refine ⟨[zF], zrt, ⟨_, rfl, hL3.done, ?_⟩⟩
  exact zrt
 replace h := ite_f hc6 h
 refine zbd rfl rfl (zdw hc6) (zbd rfl rfl (zdw hc6) (zbd rfl rfl (zdw hc6) ?_))
 refine zag (zbe (t := (decide ((t.Kind : Int) ≥ 0))) (v := zF) rfl (zdw hc6) rfl ?_)
 refine zag (zae (v := zF) rfl ?_)
 refine zbd rfl rfl rfl (zbd rfl rfl rfl (zbd rfl rfl rfl (zbd rfl rfl rfl ?_)))
 refine zag (zbe (t := false) (v := zF) rfl rfl rfl ?_)
 refine zag (zae (v := zF) rfl ?_)
 refine zbd rfl rfl rfl (zbd rfl rfl rfl (zbd rfl rfl rfl ?_))
 refine zag (zbe (t := false) (v := zF) rfl rfl rfl ?_)
 refine zag (zai (v := zF) rfl ?_)
 refine zar (zbv ?_)
 obtain rfl := zad h
 refine ⟨[zF], zrt, ⟨_, rfl, hL3.done, ?_⟩⟩
 exact zrt
theorem qClosed_w (N : Nat) (p : (List UInt8)) (vset : (List Int)) (vset_ob : Option Nat) (vset_cap : Nat) (vset_cs : List Value) (vset_sp : List Value) (X : List (Option Nat)) (w : World) (S : Nat → Prop) (hL : Go.X.Loc X [] w w [vset_ob] [zab ([] ++ (vset_cs ++ vset_sp))]) (vset_hE : Els (rInt .u8) (vH w S [vset_ob] w) vset_cs vset) (vset_hc : (vset_cs ++ vset_sp).length = vset_cap * (rInt .u8).sz) (r : ((List UInt8) × (List Int))) (h : qClosed N p vset = some r) :
  Calls Try.prog 70 #[(zS p), (osv vset_ob 0 vset.length vset_cap)] w (fun e w' => ∃ (o1_cs : List Value) (o1_sp : List Value), e = Ending.returned (zS r.1) ∧ Go.X.Loc X [] w w' [vset_ob] [zab ([] ++ (o1_cs ++ o1_sp))] ∧ Keep w.heap.size [vset_ob] w [vset_ob] w' ∧ List.length vset = List.length r.2 ∧ Els (rInt .u8) (vH w S [vset_ob] w') o1_cs r.2 ∧ (o1_cs ++ o1_sp).length = vset_cap * (rInt .u8).sz ∧ True) := by
 unfold qClosed at h
 refine calls_of (l := [(zS p), (osv vset_ob 0 vset.length vset_cap)]) (rl := [.tmp 4]) (n := 29) Try.func70 rfl rfl rfl (zak rfl) ?_
 refine zam (zah rfl (zag (zai (v := (zS ([] : List UInt8))) rfl ?_)))
 refine zar (zam (zam (zah rfl (zag (zai (v := (zI 0)) rfl (zar ?_))))))
 obtain ⟨s10, hl10, g10⟩ := zdy h
 refine zbu (fun e w' => ∃ (vset10 : (List Int)) (cs10 : List Value) (u : Env), vset10 = s10 ∧ e = upds [(1, (osv vset_ob 0 vset.length vset_cap))] u ∧ Go.X.Loc X [] w w' [vset_ob] [zab ([] ++ (cs10 ++ vset_sp))] ∧ Keep w.heap.size [vset_ob] w [vset_ob] w' ∧ Els (rInt .u8) (vH w S [vset_ob] w') cs10 vset10 ∧ vset.length = List.length vset10 ∧ (cs10 ++ vset_sp).length = vset_cap * (rInt .u8).sz ∧ True) ?_ ?_
 ·
  refine zbf ?_
  refine zca hl10 (fun (ss : ((List Int) × Int)) (e : Env) (w' : World) => match ss with | (vset11, i10) => ∃ (cs11 : List Value) (u : Env), e = upds [(0, (zS p)), (1, (osv vset_ob 0 vset.length vset_cap)), (5, (zI i10))] u ∧ Go.X.Loc X [] w w' [vset_ob] [zab ([] ++ (cs11 ++ vset_sp))] ∧ Keep w.heap.size [vset_ob] w [vset_ob] w' ∧ Els (rInt .u8) (vH w S [vset_ob] w') cs11 vset11 ∧ vset.length = List.length vset11 ∧ (cs11 ++ vset_sp).length = vset_cap * (rInt .u8).sz ∧ True) ⟨vset_cs, _, (zea ⟨rfl, rfl, rfl, trivial⟩), hL, zbq, vset_hE, rfl, vset_hc, trivial⟩ ?_
  rintro ⟨vset11, i10⟩ oo _ w10 ⟨cs11, u, rfl, hL10, K10, hE10, hl11, hc10, -⟩ h hd10
  rw [qClosed_b1] at h
  refine zam (zam (zah rfl (zag (zae (v := (zI i10)) rfl ?_))))
  refine zag (zae (v := (zS p)) rfl ?_)
  refine zag (zdb zaw rfl ?_)
  refine zag (zci (x := i10) (y := (p.length : Int)) ((i10 : Int) < (p.length : Int)) rfl rfl zbh (zar ?_))
  refine zbk ((i10 : Int) < (p.length : Int)) rfl (fun hc11 => ?_) (fun hc11 => ?_)
  ·
   replace h := ite_t hc11 h
   refine zbn (zam (zbf (zam ?_)))
   obtain ⟨s11, h, g11⟩ := zdy h
   refine zbu (fun e w' => ∃ (x10 : Bool) (u : Env), x10 = s11 ∧ e = upds [(0, (zS p)), (1, (osv vset_ob 0 vset.length vset_cap)), (5, (zI i10)), (22, (zac x10))] u ∧ Go.X.Loc X [] w w' [vset_ob] [zab ([] ++ (cs11 ++ vset_sp))] ∧ Keep w.heap.size [vset_ob] w10 [vset_ob] w' ∧ True) ?_ ?_
   ·
    refine zah rfl (zag (zae (v := (osv vset_ob 0 vset.length vset_cap)) rfl ?_))
    refine zag (zae (v := (zI i10)) rfl ?_)
    obtain ⟨x11, n10, q11, q12, q13, h⟩ := zix h
    obtain ⟨b10, hb10⟩ := hL10.row_some 0 rfl rfl (zep (pre := []) hE10 q12 (Nat.lt_of_sub_eq_succ rfl))
    refine zag (zbj (r := (rInt .u8)) (b := b10) (o := 0) (n := n10) (m := vset.length) (xs := vset11) (q := (0 + n10 * (rInt .u8).sz)) zcf ti5 (zeh hb10) hl11 rfl q11 q13 rfl ?_)
    obtain ⟨vs10, q14, q15, q16⟩ := zei (pre := []) (sp := vset_sp) hE10 q12
    obtain rfl := q15
    refine zag (zbz (v := (zaa .u8 x11)) zct rfl rfl (zeo hb10 (hL10.at 0 rfl rfl)) q16 ?_)
    refine zag (zcx (x := x11) (y := 1) ((x11 : Int) = 1) rfl rfl zbh ?_)
    refine zag (zae (v := (zac (decide ((x11 : Int) = 1)))) rfl ?_)
    by_cases hc12 : (x11 : Int) = 1
    ·
     replace h := ite_t hc12 h
     refine zba rfl rfl (zdx hc12) (zae (v := (zS p)) rfl ?_)
     refine zba rfl rfl (zdx hc12) (zae (v := (zI i10)) rfl ?_)
     obtain ⟨x12, n11, q18, q19, -, h⟩ := zix h
     refine zba rfl rfl (zdx hc12) (zdc (xs := p) (i := i10) (n := n11) (a := x12) zaw rfl rfl q18 q19 ?_)
     refine zba rfl rfl (zdx hc12) (zcx (x := (UInt8.toNat x12 : Int)) (y := 37) (((UInt8.toNat x12 : Int) : Int) = 37) rfl rfl zbh ?_)
     refine zag (zbl (t := (decide ((x11 : Int) = 1))) (v := (zac (decide (((UInt8.toNat x12 : Int) : Int) = 37)))) rfl (zdx hc12) rfl (zar ?_))
     obtain rfl := zad h
     refine zap ?_
     exact ⟨(decide (((UInt8.toNat x12 : Int) : Int) = 37)), _, rfl, (zea ⟨rfl, rfl, rfl, rfl, trivial⟩), hL10, zbq, trivial⟩
    replace h := ite_f hc12 h
    refine zbd rfl rfl (zdw hc12) (zbd rfl rfl (zdw hc12) (zbd rfl rfl (zdw hc12) (zbd rfl rfl (zdw hc12) ?_)))
    refine zag (zbe (t := (decide ((x11 : Int) = 1))) (v := zF) rfl (zdw hc12) rfl (zar ?_))
    obtain rfl := zad h
    refine zap ?_
    exact ⟨false, _, rfl, (zea ⟨rfl, rfl, rfl, rfl, trivial⟩), hL10, zbq, trivial⟩
   rintro _ w11 ⟨x10, u, rfl, rfl, hL11, K11, -⟩
   replace h := g11
   try dsimp only at h
   refine zch x10 rfl (fun hc13 => ?_) (fun hc13 => ?_)
   ·
    replace h := ite_t hc13 h
    refine zah rfl (zag (zae (v := (osv vset_ob 0 vset.length vset_cap)) rfl ?_))
    refine zag (zae (v := (zI i10)) rfl ?_)
    refine zag (zcd (x := i10) (y := 1) (z := (iw (i10 + 1))) rfl rfl rfl ?_)
    obtain ⟨x13, n12, q21, q22, q23, h⟩ := zix h
    have f10 := (hE10.mono (K11 S))
    obtain ⟨b11, hb11⟩ := hL11.row_some 0 rfl rfl (zep (pre := []) f10 q22 (Nat.lt_of_sub_eq_succ rfl))
    refine zag (zbj (r := (rInt .u8)) (b := b11) (o := 0) (n := n12) (m := vset.length) (xs := vset11) (q := (0 + n12 * (rInt .u8).sz)) zcf ti5 (zeh hb11) hl11 rfl q21 q23 rfl ?_)
    obtain ⟨x14, n13, q25, q26, q27, h⟩ := zux h
    obtain rfl := zin q21 q25
    refine zdk (zdh (pre := []) (r := (rInt .u8)) (vs := [(zaa .u8 1)]) (a := 1) ti5 rfl rfl rfl rfl hL11 0 (congrArg some hb11) rfl f10 q23 rfl q27 ?_)
    have hl12 : vset.length = List.length x14 := by rw [q27, List.length_set]; exact hl11
    intro w12 cs12 (hL12 : Go.X.Loc X [] w w12 [vset_ob] [zab ([] ++ (cs12 ++ vset_sp))]) hS10 hE11 q28
    have hc14 : (cs12 ++ vset_sp).length = vset_cap * (rInt .u8).sz := zhc hc10 q28
    have K12 := ks w hS10
    refine zar (zbi (zah rfl (zag (zae (v := (zI i10)) rfl ?_))))
    refine zag (zcd (x := i10) (y := 1) (z := (iw (i10 + 1))) rfl rfl rfl ?_)
    refine zag (zai (v := (zI (iw (i10 + 1)))) rfl (zar ?_))
    have f11 := (hE11.mono (K12 S))
    obtain rfl := zad h
    refine zap ⟨(x14, (iw (i10 + 1))), rfl, ?_⟩
    exact ⟨cs12, _, (zea ⟨rfl, rfl, rfl, trivial⟩), hL12, (zaj (zaj K10 K11) K12), f11, hl12, hc14, trivial⟩
   replace h := ite_f hc13 h
   refine zbn (zbi (zah rfl (zag (zae (v := (zI i10)) rfl ?_))))
   refine zag (zcd (x := i10) (y := 1) (z := (iw (i10 + 1))) rfl rfl rfl ?_)
   refine zag (zai (v := (zI (iw (i10 + 1)))) rfl (zar ?_))
   have f12 := (hE10.mono (K11 S))
   obtain rfl := zad h
   refine zap ⟨(vset11, (iw (i10 + 1))), rfl, ?_⟩
   exact ⟨cs11, _, (zea ⟨rfl, rfl, rfl, trivial⟩), hL11, (zaj K10 K11), f12, hl11, hc10, trivial⟩
  replace h := ite_f hc11 h
  refine zcg rfl ?_
  obtain rfl := zad h
  obtain rfl := hd10 _ rfl
  replace h := g10
  try dsimp only at h
  refine zap ?_
  exact ⟨vset11, cs11, _, rfl, (zea zrt), hL10, K10, hE10, hl11, hc10, trivial⟩
 rintro _ w13 ⟨vset10, cs10, u, rfl, rfl, hL13, K13, hE12, hl13, hc15, -⟩
 replace h := g10
 try dsimp only at h
 refine zam (zah rfl (zag (zae (v := (osv vset_ob 0 vset.length vset_cap)) rfl ?_)))
 refine zag (OpY.strRow (pre := []) (cs := cs10) (sp := vset_sp) (xs := vset10) zcf zaw zct rfl (hL13.at 0 rfl rfl) hE12 hl13 ?_)
 refine zag (zai (v := (zS (bstr vset10))) rfl ?_)
 refine zar (zbv ?_)
 obtain rfl := zad h
 refine ⟨[(zS (bstr vset10))], zrt, ?_⟩
 exact ⟨cs10, vset_sp, rfl, (by have h9 := hL13; (try rw [hl13] at h9); exact h9), K13, hl13, hE12, hc15, trivial⟩
theorem qStart_w (N : Nat) (t : TTest)  (w : World) (S : Nat → Prop)  (r : (List UInt8)) (h : qStart N t = some r) :
  Calls Try.prog 56 #[(zbs #[(zI t.Var), (zI t.Kind), (zac t.Negated), (zS t.Text)])] w (Ret w (fun v w' => (zS r) = v ∧ True)) := by
 unfold qStart at h
 have hL : vL w w [] [] := Go.X.Loc.begin0 w
 refine calls_of (l := [(zbs #[(zI t.Var), (zI t.Kind), (zac t.Negated), (zS t.Text)])]) (rl := [.tmp 2]) (n := 21) Try.func56 rfl rfl rfl (zak rfl) ?_
 refine zam (zah rfl (zag (zdt (cs := [(zI t.Var), (zI t.Kind), (zac t.Negated), (zS t.Text)]) rfl rfl hL ?_)))
 intro b1 w2 hL3 hS5
 refine zag (zai (v := (zS ([] : List UInt8))) rfl ?_)
 refine zar (zam (zam (zah rfl (zag (zat (q := 1) zbc rfl ti3 rfl rfl rfl ?_)))))
 refine zag (zav (v := (zI t.Kind)) zay rfl rfl (hL3.at 0 rfl rfl) rfl ?_)
 refine zag (OpY.neq (x := t.Kind) (y := 1) ((t.Kind : Int) ≠ 1) rfl rfl zbh (zar ?_))
 refine zbk ((t.Kind : Int) ≠ 1) rfl (fun hc6 => ?_) (fun hc6 => ?_)
 ·
  replace h := ite_t hc6 h
  refine zam (zah rfl ?_)
  have hE8 : Els (rInt .u8) (vH w None [some b1] w2) [(zaa .u8 0)] [0] := (zcs (a := [(zaa .u8 0)]) rfl zcw)
  refine zag (zcv (r := (rInt .u8)) (vs := [(zaa .u8 0)]) (css := [[(zaa .u8 0)]]) (xs := [0]) zcf ti5 (zak rfl) rfl rfl ⟨rfl, rfl, trivial⟩ (zak rfl) hE8 rfl hL3 ?_)
  intro b7 w10 hc9 hL10 hS10
  have K10 := ks w hS10
  have f10 := (hE8.mono (K10 None))
  refine zag (OpY.strRow (pre := []) (cs := [(zaa .u8 0)]) (sp := []) (xs := [0]) zcf zaw zct rfl (hL10.at 0 rfl rfl) f10 rfl ?_)
  obtain ⟨u16, q10, h⟩ := zdy h
  have q11 := chk_some q10
  refine zag (OpY.sAdd (x := ([61] : List UInt8)) (y := (bstr [0])) rfl rfl q11 ?_)
  refine zag (zai (v := (zaf (s8 (([61] : List UInt8) ++ (bstr [0]))))) rfl ?_)
  refine zar (zbv ?_)
  obtain rfl := zad h
  refine ⟨[(zaf (s8 (([61] : List UInt8) ++ (bstr [0]))))], zrt, ⟨_, rfl, hL10.done, ?_⟩⟩
  exact zrt
 replace h := ite_f hc6 h
 refine zbn (zam (zah rfl (zag (zat (q := 3) zbc rfl ti9 rfl rfl rfl ?_))))
 refine zag (zav (v := (zS t.Text)) zaw rfl rfl (hL3.at 0 rfl rfl) rfl ?_)
 refine zag (zdb zaw rfl ?_)
 refine zag (zcd (x := (t.Text.length : Int)) (y := 1) (z := (iw ((t.Text.length : Int) + 1))) rfl rfl rfl ?_)
 obtain ⟨x10, q12, h⟩ := zdy h
 obtain ⟨m10, q13, q14, q15, q16⟩ := mk1_some q12
 refine zag (zdl (r := (rInt .u8)) (H := (vH w None [some b1] w2)) (zc := [(zaa .u8 0)]) (x := 0) zcf ti5 rfl rfl rfl rfl q13 q14 q15 q16 hL3 ?_)
 intro b10 w11 cs10 hE10 hc10 hL11 hS11
 have K11 := ks w hS11
 refine zag (zai (v := (osv (some b10) 0 x10.length m10)) rfl ?_)
 refine zar (zam (zah rfl (zag (zae (v := (osv (some b10) 0 x10.length m10)) rfl ?_))))
 obtain ⟨x11, n10, q18, q19, q20, h⟩ := zix h
 refine zag (zbj (r := (rInt .u8)) (b := b10) (o := 0) (n := n10) (m := x10.length) (xs := x10) (q := (0 + n10 * (rInt .u8).sz)) zcf ti5 rfl rfl rfl q18 q20 rfl ?_)
 obtain ⟨x12, n11, q22, q23, q24, h⟩ := zux h
 obtain rfl := zin q18 q22
 have f11 := (hE10.mono (K11 None))
 refine zdk (zdh (pre := []) (r := (rInt .u8)) (vs := [(zaa .u8 1)]) (a := 1) ti5 rfl rfl rfl rfl hL11 0 rfl rfl f11 q20 rfl q24 ?_)
 have hl10 : x10.length = List.length x12 := by rw [q24, List.length_set]
 intro w12 cs11 (hL12 : vL w w12 [some b10, some b1] [zab ([] ++ (cs11 ++ [])), zab [(zI t.Var), (zI t.Kind), (zac t.Negated), (zS t.Text)]]) hS12 hE11 q25
 have hc11 : (cs11 ++ []).length = m10 * (rInt .u8).sz := zhc hc10 q25
 have K12 := ks w hS12
 refine zar (zam (zah rfl (zag (zat (q := 3) zbc rfl ti9 rfl rfl rfl ?_))))
 refine zag (zav (v := (zS t.Text)) zaw rfl rfl (hL12.at 1 rfl rfl) rfl ?_)
 refine zag (zae (v := (osv (some b10) 0 x10.length m10)) rfl ?_)
 obtain ⟨r10, q26, h⟩ := zdy h
 have hL13 := hL12.lendW [0] rfl rfl rfl
 have f12 := (hE11.mono (K12 None))
 refine zag (zdp en70 rfl rfl (calls_args (by rw [← hl10]; first | done | rfl) (qClosed_w N t.Text x12 (some b10) m10 cs11 [] [some b10] _ Any (by have h9 := hL13; (try rw [hl10] at h9); exact h9) (f12.mono (zcr [0] rfl)) hc11 r10 q26)) ?_)
 rintro _ w13 ⟨cs12, sp10, rfl, hL14, K13, hl11, hE12, hc12, -⟩
 refine ⟨_, rfl, ?_⟩
 have hp10 := hL12.backW [0] [1] rfl rfl rfl rfl hL14
 have hL15 : vL w w13 [some b10, some b1] [zab ([] ++ (cs12 ++ sp10)), zab [(zI t.Var), (zI t.Kind), (zac t.Negated), (zS t.Text)]] := (by have h9 := hp10.1; (try rw [← (hl10.trans hl11)] at h9); exact h9)
 refine zag (zai (v := (zS r10.1)) rfl ?_)
 refine zar (zbv ?_)
 obtain rfl := zad h
 refine ⟨[(zS r10.1)], zrt, ⟨_, rfl, hL15.done, ?_⟩⟩
 exact zrt
theorem qStep_w (N : Nat) (t : TTest) (s : (List UInt8)) (c : Int)  (w : World) (S : Nat → Prop)  (r : (List UInt8)) (h : qStep N t s c = some r) :
  Calls Try.prog 57 #[(zbs #[(zI t.Var), (zI t.Kind), (zac t.Negated), (zS t.Text)]), (zS s), (zaa .u8 c)] w (Ret w (fun v w' => (zS r) = v ∧ True)) := by
 unfold qStep at h
 have hL : vL w w [] [] := Go.X.Loc.begin0 w
 refine calls_of (l := [(zbs #[(zI t.Var), (zI t.Kind), (zac t.Negated), (zS t.Text)]), (zS s), (zaa .u8 c)]) (rl := [.tmp 6]) (n := 96) Try.func57 rfl rfl rfl (zak rfl) ?_
 refine zam (zah rfl (zag (zdt (cs := [(zI t.Var), (zI t.Kind), (zac t.Negated), (zS t.Text)]) rfl rfl hL ?_)))
 intro b1 w2 hL3 hS5
 refine zag (zai (v := (zS ([] : List UInt8))) rfl ?_)
 refine zar (zam (zah rfl (zag (zat (q := 3) zbc rfl ti9 rfl rfl rfl ?_))))
 refine zag (zav (v := (zS t.Text)) zaw rfl rfl (hL3.at 0 rfl rfl) rfl ?_)
 refine zag (zai (v := (zS t.Text)) rfl ?_)
 refine zar (zam (zam (zah rfl (zag (zat (q := 1) zbc rfl ti3 rfl rfl rfl ?_)))))
 refine zag (zav (v := (zI t.Kind)) zay rfl rfl (hL3.at 0 rfl rfl) rfl ?_)
 refine zag (zcx (x := t.Kind) (y := 1) ((t.Kind : Int) = 1) rfl rfl zbh (zar ?_))
 refine zbk ((t.Kind : Int) = 1) rfl (fun hc6 => ?_) (fun hc6 => ?_)
 ·
  replace h := ite_t hc6 h
  refine zam (zah rfl (zag (zae (v := (zS t.Text)) rfl ?_)))
  refine zag (zdb zaw rfl ?_)
  refine zag (zcd (x := (t.Text.length : Int)) (y := 1) (z := (iw ((t.Text.length : Int) + 1))) rfl rfl rfl ?_)
  obtain ⟨x8, q9, h⟩ := zdy h
  obtain ⟨m7, q10, q11, q12, q13⟩ := mk1_some q9
  refine zag (zdl (r := (rInt .u8)) (H := (vH w None [some b1] w2)) (zc := [(zaa .u8 0)]) (x := 0) zcf ti5 rfl rfl rfl rfl q10 q11 q12 q13 hL3 ?_)
  intro b10 w10 cs10 hE10 hc10 hL10 hS10
  have K10 := ks w hS10
  refine zag (zai (v := (osv (some b10) 0 x8.length m7)) rfl ?_)
  refine zar (zam (zam (zah rfl (zag (zai (v := (zI 0)) rfl (zar ?_))))))
  obtain ⟨s10, hl10, g10⟩ := zdy h
  refine zbu (fun e w' => ∃ (vset10 : (List Int)) (cs11 : List Value) (u : Env), vset10 = s10 ∧ e = upds [(7, (zS t.Text)), (8, (osv (some b10) 0 x8.length m7))] u ∧ vL w w' [some b10] [zab ([] ++ (cs11 ++ []))] ∧ Keep w.heap.size [some b10, some b1] w10 [some b10] w' ∧ Els (rInt .u8) (vH w None [some b10] w') cs11 vset10 ∧ x8.length = List.length vset10 ∧ (cs11 ++ []).length = m7 * (rInt .u8).sz ∧ True) ?_ ?_
  ·
   refine zbf ?_
   have hp10 := hL10.pick [0] rfl rfl rfl
   have hL11 : vL w w10 [some b10] [zab ([] ++ (cs10 ++ []))] := hp10.1
   have K11 := ks w hp10.2
   have f10 := ((hE10.mono (K10 None)).mono (K11 None))
   refine zca hl10 (fun (ss : ((List Int) × Int)) (e : Env) (w' : World) => match ss with | (vset11, i10) => ∃ (cs12 : List Value) (u : Env), e = upds [(1, (zS s)), (2, (zaa .u8 c)), (7, (zS t.Text)), (8, (osv (some b10) 0 x8.length m7)), (9, (zI i10))] u ∧ vL w w' [some b10] [zab ([] ++ (cs12 ++ []))] ∧ Keep w.heap.size [some b10, some b1] w10 [some b10] w' ∧ Els (rInt .u8) (vH w None [some b10] w') cs12 vset11 ∧ x8.length = List.length vset11 ∧ (cs12 ++ []).length = m7 * (rInt .u8).sz ∧ True) ⟨cs10, _, (zea ⟨rfl, rfl, rfl, rfl, rfl, trivial⟩), hL11, K11, f10, rfl, hc10, trivial⟩ ?_
   rintro ⟨vset11, i10⟩ oo _ w11 ⟨cs12, u, rfl, hL12, K12, hE11, hl11, hc11, -⟩ h hd10
   rw [qStep_b1] at h
   refine zam (zam (zah rfl (zag (zae (v := (zI i10)) rfl ?_))))
   refine zag (zae (v := (zS t.Text)) rfl ?_)
   refine zag (zdb zaw rfl ?_)
   refine zag (zci (x := i10) (y := (t.Text.length : Int)) ((i10 : Int) < (t.Text.length : Int)) rfl rfl zbh (zar ?_))
   refine zbk ((i10 : Int) < (t.Text.length : Int)) rfl (fun hc12 => ?_) (fun hc12 => ?_)
   ·
    replace h := ite_t hc12 h
    refine zbn (zam (zbf (zam (zam ?_))))
    obtain ⟨s11, h, g11⟩ := zdy h
    refine zbu (fun e w' => ∃ (x10 : Bool) (u : Env), x10 = s11 ∧ e = upds [(1, (zS s)), (2, (zaa .u8 c)), (7, (zS t.Text)), (8, (osv (some b10) 0 x8.length m7)), (9, (zI i10)), (35, (zac x10))] u ∧ vL w w' [some b10] [zab ([] ++ (cs12 ++ []))] ∧ Keep w.heap.size [some b10] w11 [some b10] w' ∧ True) ?_ ?_
    ·
     refine zah rfl (zag (zae (v := (zS s)) rfl ?_))
     refine zag (zae (v := (zI i10)) rfl ?_)
     obtain ⟨x11, n10, q15, q16, -, h⟩ := zix h
     refine zag (zdc (xs := s) (i := i10) (n := n10) (a := x11) zaw rfl rfl q15 q16 ?_)
     refine zag (zcx (x := (UInt8.toNat x11 : Int)) (y := 1) (((UInt8.toNat x11 : Int) : Int) = 1) rfl rfl zbh ?_)
     refine zag (zae (v := (zac (decide (((UInt8.toNat x11 : Int) : Int) = 1)))) rfl ?_)
     by_cases hc13 : ((UInt8.toNat x11 : Int) : Int) = 1
     ·
      replace h := ite_t hc13 h
      refine zba rfl rfl (zdx hc13) (zae (v := (zS t.Text)) rfl ?_)
      refine zba rfl rfl (zdx hc13) (zae (v := (zI i10)) rfl ?_)
      obtain ⟨x12, n11, q18, q19, -, h⟩ := zix h
      refine zba rfl rfl (zdx hc13) (zdc (xs := t.Text) (i := i10) (n := n11) (a := x12) zaw rfl rfl q18 q19 ?_)
      refine zba rfl rfl (zdx hc13) (zcx (x := (UInt8.toNat x12 : Int)) (y := 37) (((UInt8.toNat x12 : Int) : Int) = 37) rfl rfl zbh ?_)
      refine zag (zbl (t := (decide (((UInt8.toNat x11 : Int) : Int) = 1))) (v := (zac (decide (((UInt8.toNat x12 : Int) : Int) = 37)))) rfl (zdx hc13) rfl (zar ?_))
      obtain rfl := zad h
      refine zap ?_
      exact ⟨(decide (((UInt8.toNat x12 : Int) : Int) = 37)), _, rfl, (zea ⟨rfl, rfl, rfl, rfl, rfl, rfl, trivial⟩), hL12, zbq, trivial⟩
     replace h := ite_f hc13 h
     refine zbd rfl rfl (zdw hc13) (zbd rfl rfl (zdw hc13) (zbd rfl rfl (zdw hc13) (zbd rfl rfl (zdw hc13) ?_)))
     refine zag (zbe (t := (decide (((UInt8.toNat x11 : Int) : Int) = 1))) (v := zF) rfl (zdw hc13) rfl (zar ?_))
     obtain rfl := zad h
     refine zap ?_
     exact ⟨false, _, rfl, (zea ⟨rfl, rfl, rfl, rfl, rfl, rfl, trivial⟩), hL12, zbq, trivial⟩
    rintro _ w12 ⟨x10, u, rfl, rfl, hL13, K13, -⟩
    replace h := g11
    try dsimp only at h
    obtain ⟨s12, h, g12⟩ := zdy h
    refine zbu (fun e w' => ∃ (vset12 : (List Int)) (cs13 : List Value) (u : Env), vset12 = s12 ∧ e = upds [(1, (zS s)), (2, (zaa .u8 c)), (7, (zS t.Text)), (8, (osv (some b10) 0 x8.length m7)), (9, (zI i10))] u ∧ vL w w' [some b10] [zab ([] ++ (cs13 ++ []))] ∧ Keep w.heap.size [some b10] w12 [some b10] w' ∧ Els (rInt .u8) (vH w None [some b10] w') cs13 vset12 ∧ x8.length = List.length vset12 ∧ (cs13 ++ []).length = m7 * (rInt .u8).sz ∧ True) ?_ ?_
    ·
     refine zch x10 rfl (fun hc14 => ?_) (fun hc14 => ?_)
     ·
      replace h := ite_t hc14 h
      refine zah rfl (zag (zae (v := (osv (some b10) 0 x8.length m7)) rfl ?_))
      refine zag (zae (v := (zI i10)) rfl ?_)
      obtain ⟨x13, n12, q21, q22, q23, h⟩ := zix h
      refine zag (zbj (r := (rInt .u8)) (b := b10) (o := 0) (n := n12) (m := x8.length) (xs := vset11) (q := (0 + n12 * (rInt .u8).sz)) zcf ti5 rfl hl11 rfl q21 q23 rfl ?_)
      obtain ⟨x14, n13, q25, q26, q27, h⟩ := zux h
      obtain rfl := zin q21 q25
      have f11 := (hE11.mono (K13 None))
      refine zdk (zdh (pre := []) (r := (rInt .u8)) (vs := [(zaa .u8 1)]) (a := 1) ti5 rfl rfl rfl rfl hL13 0 rfl rfl f11 q23 rfl q27 ?_)
      have hl12 : x8.length = List.length x14 := by rw [q27, List.length_set]; exact hl11
      intro w13 cs14 (hL14 : vL w w13 [some b10] [zab ([] ++ (cs14 ++ []))]) hS11 hE12 q28
      have hc15 : (cs14 ++ []).length = m7 * (rInt .u8).sz := zhc hc11 q28
      have K14 := ks w hS11
      refine zar ?_
      have f12 := (hE12.mono (K14 None))
      obtain rfl := zad h
      refine zap ?_
      exact ⟨x14, cs14, _, rfl, (zea ⟨rfl, rfl, rfl, rfl, rfl, trivial⟩), hL14, K14, f12, hl12, hc15, trivial⟩
     replace h := ite_f hc14 h
     refine zbn ?_
     have f13 := (hE11.mono (K13 None))
     obtain rfl := zad h
     refine zap ?_
     exact ⟨vset11, cs12, _, rfl, (zea ⟨rfl, rfl, rfl, rfl, rfl, trivial⟩), hL13, zbq, f13, hl11, hc11, trivial⟩
    rintro _ w14 ⟨vset12, cs13, u, rfl, rfl, hL15, K15, hE13, hl13, hc16, -⟩
    replace h := g12
    try dsimp only at h
    refine zam ?_
    obtain ⟨s13, h, g13⟩ := zdy h
    refine zbu (fun e w' => ∃ (x15 : Bool) (u : Env), x15 = s13 ∧ e = upds [(1, (zS s)), (2, (zaa .u8 c)), (7, (zS t.Text)), (8, (osv (some b10) 0 x8.length m7)), (9, (zI i10)), (59, (zac x15))] u ∧ vL w w' [some b10] [zab ([] ++ (cs13 ++ []))] ∧ Keep w.heap.size [some b10] w14 [some b10] w' ∧ True) ?_ ?_
    ·
     refine zah rfl (zag (zae (v := (zS s)) rfl ?_))
     refine zag (zae (v := (zI i10)) rfl ?_)
     obtain ⟨x16, n14, q30, q31, -, h⟩ := zix h
     refine zag (zdc (xs := s) (i := i10) (n := n14) (a := x16) zaw rfl rfl q30 q31 ?_)
     refine zag (zcx (x := (UInt8.toNat x16 : Int)) (y := 1) (((UInt8.toNat x16 : Int) : Int) = 1) rfl rfl zbh ?_)
     refine zag (zae (v := (zac (decide (((UInt8.toNat x16 : Int) : Int) = 1)))) rfl ?_)
     by_cases hc17 : ((UInt8.toNat x16 : Int) : Int) = 1
     ·
      replace h := ite_t hc17 h
      refine zba rfl rfl (zdx hc17) (zae (v := (zS t.Text)) rfl ?_)
      refine zba rfl rfl (zdx hc17) (zae (v := (zI i10)) rfl ?_)
      obtain ⟨x17, n15, q33, q34, -, h⟩ := zix h
      refine zba rfl rfl (zdx hc17) (zdc (xs := t.Text) (i := i10) (n := n15) (a := x17) zaw rfl rfl q33 q34 ?_)
      refine zba rfl rfl (zdx hc17) (zcx (x := (UInt8.toNat x17 : Int)) (y := 95) (((UInt8.toNat x17 : Int) : Int) = 95) rfl rfl zbh ?_)
      refine zba rfl rfl (zdx hc17) (zae (v := (zac (decide (((UInt8.toNat x17 : Int) : Int) = 95)))) rfl ?_)
      by_cases hc18 : ((UInt8.toNat x17 : Int) : Int) = 95
      ·
       replace h := ite_t hc18 h
       refine zbd rfl rfl (zdx hc18) (zbd rfl rfl (zdx hc18) (zbd rfl rfl (zdx hc18) (zbd rfl rfl (zdx hc18) (zbd rfl rfl (zdx hc18) (zbd rfl rfl (zdx hc18) ?_)))))
       refine zcq rfl rfl ?_
       refine zcq rfl rfl ?_
       refine zbd rfl rfl (zdx hc18) ?_
       refine zba rfl rfl (zdx hc17) (zbl (t := (decide (((UInt8.toNat x17 : Int) : Int) = 95))) (v := zT) rfl (zdx hc18) rfl ?_)
       refine zag (zbl (t := (decide (((UInt8.toNat x16 : Int) : Int) = 1))) (v := zT) rfl (zdx hc17) rfl (zar ?_))
       obtain rfl := zad h
       refine zap ?_
       exact ⟨true, _, rfl, (zea ⟨rfl, rfl, rfl, rfl, rfl, rfl, trivial⟩), hL15, zbq, trivial⟩
      replace h := ite_f hc18 h
      refine zba rfl rfl (zdw hc18) (zae (v := (zS t.Text)) rfl ?_)
      refine zba rfl rfl (zdw hc18) (zae (v := (zI i10)) rfl ?_)
      obtain ⟨x18, n16, q36, q37, -, h⟩ := zix h
      refine zba rfl rfl (zdw hc18) (zdc (xs := t.Text) (i := i10) (n := n16) (a := x18) zaw rfl rfl q36 q37 ?_)
      refine zba rfl rfl (zdw hc18) (zae (v := (zaa .u8 c)) rfl ?_)
      refine zba rfl rfl (zdw hc18) (zcx (x := (UInt8.toNat x18 : Int)) (y := c) (((UInt8.toNat x18 : Int) : Int) = c) rfl rfl zbh ?_)
      refine zba rfl rfl (zdw hc18) (zae (v := (zac (decide (((UInt8.toNat x18 : Int) : Int) = c)))) rfl ?_)
      by_cases hc19 : ((UInt8.toNat x18 : Int) : Int) = c
      ·
       replace h := ite_t hc19 h
       refine zba rfl rfl (zdx hc19) (zae (v := (zaa .u8 c)) rfl ?_)
       refine zba rfl rfl (zdx hc19) (OpY.neq (x := c) (y := 37) ((c : Int) ≠ 37) rfl rfl zbh ?_)
       refine zba rfl rfl (zdw hc18) (zbl (t := (decide (((UInt8.toNat x18 : Int) : Int) = c))) (v := (zac (decide ((c : Int) ≠ 37)))) rfl (zdx hc19) rfl ?_)
       refine zba rfl rfl (zdx hc17) (zbe (t := (decide (((UInt8.toNat x17 : Int) : Int) = 95))) (v := (zac (decide ((c : Int) ≠ 37)))) rfl (zdw hc18) rfl ?_)
       refine zag (zbl (t := (decide (((UInt8.toNat x16 : Int) : Int) = 1))) (v := (zac (decide ((c : Int) ≠ 37)))) rfl (zdx hc17) rfl (zar ?_))
       obtain rfl := zad h
       refine zap ?_
       exact ⟨(decide ((c : Int) ≠ 37)), _, rfl, (zea ⟨rfl, rfl, rfl, rfl, rfl, rfl, trivial⟩), hL15, zbq, trivial⟩
      replace h := ite_f hc19 h
      refine zbd rfl rfl (zdw hc19) (zbd rfl rfl (zdw hc19) ?_)
      refine zba rfl rfl (zdw hc18) (zbe (t := (decide (((UInt8.toNat x18 : Int) : Int) = c))) (v := zF) rfl (zdw hc19) rfl ?_)
      refine zba rfl rfl (zdx hc17) (zbe (t := (decide (((UInt8.toNat x17 : Int) : Int) = 95))) (v := zF) rfl (zdw hc18) rfl ?_)
      refine zag (zbl (t := (decide (((UInt8.toNat x16 : Int) : Int) = 1))) (v := zF) rfl (zdx hc17) rfl (zar ?_))
      obtain rfl := zad h
      refine zap ?_
      exact ⟨false, _, rfl, (zea ⟨rfl, rfl, rfl, rfl, rfl, rfl, trivial⟩), hL15, zbq, trivial⟩
     replace h := ite_f hc17 h
     refine zbd rfl rfl (zdw hc17) (zbd rfl rfl (zdw hc17) (zbd rfl rfl (zdw hc17) (zbd rfl rfl (zdw hc17) (zbd rfl rfl (zdw hc17) ?_))))
     refine zcq rfl rfl ?_
     refine zcq rfl rfl ?_
     refine zcq rfl rfl ?_
     refine zcq rfl rfl ?_
     refine zcq rfl rfl ?_
     refine zcq rfl rfl ?_
     refine zcq rfl rfl ?_
     refine zcq rfl rfl ?_
     refine zcq rfl rfl ?_
     refine zbd rfl rfl (zdw hc17) ?_
     refine zag (zbe (t := (decide (((UInt8.toNat x16 : Int) : Int) = 1))) (v := zF) rfl (zdw hc17) rfl (zar ?_))
     obtain rfl := zad h
     refine zap ?_
     exact ⟨false, _, rfl, (zea ⟨rfl, rfl, rfl, rfl, rfl, rfl, trivial⟩), hL15, zbq, trivial⟩
    rintro _ w15 ⟨x15, u, rfl, rfl, hL16, K16, -⟩
    replace h := g13
    try dsimp only at h
    refine zch x15 rfl (fun hc20 => ?_) (fun hc20 => ?_)
    ·
     replace h := ite_t hc20 h
     refine zah rfl (zag (zae (v := (osv (some b10) 0 x8.length m7)) rfl ?_))
     refine zag (zae (v := (zI i10)) rfl ?_)
     refine zag (zcd (x := i10) (y := 1) (z := (iw (i10 + 1))) rfl rfl rfl ?_)
     obtain ⟨x19, n17, q39, q40, q41, h⟩ := zix h
     refine zag (zbj (r := (rInt .u8)) (b := b10) (o := 0) (n := n17) (m := x8.length) (xs := vset12) (q := (0 + n17 * (rInt .u8).sz)) zcf ti5 rfl hl13 rfl q39 q41 rfl ?_)
     obtain ⟨x20, n18, q43, q44, q45, h⟩ := zux h
     obtain rfl := zin q39 q43
     have f14 := (hE13.mono (K16 None))
     refine zdk (zdh (pre := []) (r := (rInt .u8)) (vs := [(zaa .u8 1)]) (a := 1) ti5 rfl rfl rfl rfl hL16 0 rfl rfl f14 q41 rfl q45 ?_)
     have hl14 : x8.length = List.length x20 := by rw [q45, List.length_set]; exact hl13
     intro w16 cs15 (hL17 : vL w w16 [some b10] [zab ([] ++ (cs15 ++ []))]) hS12 hE14 q46
     have hc21 : (cs15 ++ []).length = m7 * (rInt .u8).sz := zhc hc16 q46
     have K17 := ks w hS12
     refine zar (zbi (zah rfl (zag (zae (v := (zI i10)) rfl ?_))))
     refine zag (zcd (x := i10) (y := 1) (z := (iw (i10 + 1))) rfl rfl rfl ?_)
     refine zag (zai (v := (zI (iw (i10 + 1)))) rfl (zar ?_))
     have f15 := (hE14.mono (K17 None))
     obtain rfl := zad h
     refine zap ⟨(x20, (iw (i10 + 1))), rfl, ?_⟩
     exact ⟨cs15, _, (zea ⟨rfl, rfl, rfl, rfl, rfl, trivial⟩), hL17, (zaj (zaj (zaj (zaj K12 K13) K15) K16) K17), f15, hl14, hc21, trivial⟩
    replace h := ite_f hc20 h
    refine zbn (zbi (zah rfl (zag (zae (v := (zI i10)) rfl ?_))))
    refine zag (zcd (x := i10) (y := 1) (z := (iw (i10 + 1))) rfl rfl rfl ?_)
    refine zag (zai (v := (zI (iw (i10 + 1)))) rfl (zar ?_))
    have f16 := (hE13.mono (K16 None))
    obtain rfl := zad h
    refine zap ⟨(vset12, (iw (i10 + 1))), rfl, ?_⟩
    exact ⟨cs13, _, (zea ⟨rfl, rfl, rfl, rfl, rfl, trivial⟩), hL16, (zaj (zaj (zaj K12 K13) K15) K16), f16, hl13, hc16, trivial⟩
   replace h := ite_f hc12 h
   refine zcg rfl ?_
   obtain rfl := zad h
   obtain rfl := hd10 _ rfl
   replace h := g10
   try dsimp only at h
   refine zap ?_
   exact ⟨vset11, cs12, _, rfl, (zea ⟨rfl, rfl, trivial⟩), hL12, K12, hE11, hl11, hc11, trivial⟩
  rintro _ w17 ⟨vset10, cs11, u, rfl, rfl, hL18, K18, hE15, hl15, hc22, -⟩
  replace h := g10
  try dsimp only at h
  refine zam (zah rfl (zag (zae (v := (zS t.Text)) rfl ?_)))
  refine zag (zae (v := (osv (some b10) 0 x8.length m7)) rfl ?_)
  obtain ⟨r10, q47, h⟩ := zdy h
  have hL19 := hL18.lendW [0] rfl rfl rfl
  refine zag (zdp en70 rfl rfl (calls_args (by rw [← hl15]; first | done | rfl) (qClosed_w N t.Text vset10 (some b10) m7 cs11 [] [some b10] _ Any (by have h9 := hL19; (try rw [hl15] at h9); exact h9) (hE15.mono (zcr [0] rfl)) hc22 r10 q47)) ?_)
  rintro _ w18 ⟨cs16, sp10, rfl, hL20, K19, hl16, hE16, hc23, -⟩
  refine ⟨_, rfl, ?_⟩
  have hp11 := hL18.backW [0] [] rfl rfl rfl rfl hL20
  have hL21 : vL w w18 [some b10] [zab ([] ++ (cs16 ++ sp10))] := (by have h9 := hp11.1; (try rw [← (hl15.trans hl16)] at h9); exact h9)
  refine zag (zai (v := (zS r10.1)) rfl ?_)
  refine zar (zbv ?_)
  obtain rfl := zad h
  refine ⟨[(zS r10.1)], zrt, ⟨_, rfl, hL21.done, ?_⟩⟩
  exact zrt
 replace h := ite_f hc6 h
 refine zbn (zam (zam (zah rfl (zag (zae (v := (zS s)) rfl ?_)))))
 obtain ⟨x21, n19, q49, q50, -, h⟩ := zix h
 refine zag (zdc (xs := s) (i := 0) (n := n19) (a := x21) zaw rfl rfl q49 q50 ?_)
 refine zag (OpY.neq (x := (UInt8.toNat x21 : Int)) (y := 61) (((UInt8.toNat x21 : Int) : Int) ≠ 61) rfl rfl zbh (zar ?_))
 refine zbk (((UInt8.toNat x21 : Int) : Int) ≠ 61) rfl (fun hc24 => ?_) (fun hc24 => ?_)
 ·
  replace h := ite_t hc24 h
  refine zam (zah rfl (zag (zae (v := (zS s)) rfl ?_)))
  refine zag (zai (v := (zS s)) rfl ?_)
  refine zar (zbv ?_)
  obtain rfl := zad h
  refine ⟨[(zS s)], zrt, ⟨_, rfl, hL3.done, ?_⟩⟩
  exact zrt
 replace h := ite_f hc24 h
 refine zbn (zam (zah rfl (zag (zae (v := (zS s)) rfl ?_))))
 obtain ⟨x22, n20, q52, q53, -, h⟩ := zix h
 refine zag (zdc (xs := s) (i := 1) (n := n20) (a := x22) zaw rfl rfl q52 q53 ?_)
 refine zag (zdr (x := (UInt8.toNat x22 : Int)) (z := (iw (UInt8.toNat x22 : Int))) zct zay rfl rfl ?_)
 refine zag (zai (v := (zI (iw (UInt8.toNat x22 : Int)))) rfl ?_)
 refine zar (zam (zam ?_))
 obtain ⟨s14, h, g14⟩ := zdy h
 refine zbu (fun e w' => ∃ (x23 : Bool) (u : Env), x23 = s14 ∧ e = upds [(2, (zaa .u8 c)), (7, (zS t.Text)), (10, (zI (iw (UInt8.toNat x22 : Int)))), (84, (zac x23))] u ∧ vL w w' [] [] ∧ Keep w.heap.size [some b1] w2 [] w' ∧ True) ?_ ?_
 ·
  refine zah rfl (zag (zae (v := (zI (iw (UInt8.toNat x22 : Int)))) rfl ?_))
  refine zag (zae (v := (zS t.Text)) rfl ?_)
  refine zag (zdb zaw rfl ?_)
  refine zag (zcx (x := (iw (UInt8.toNat x22 : Int))) (y := (t.Text.length : Int)) (((iw (UInt8.toNat x22 : Int)) : Int) = (t.Text.length : Int)) rfl rfl zbh ?_)
  refine zag (zae (v := (zac (decide (((iw (UInt8.toNat x22 : Int)) : Int) = (t.Text.length : Int))))) rfl ?_)
  by_cases hc25 : ((iw (UInt8.toNat x22 : Int)) : Int) = (t.Text.length : Int)
  ·
   replace h := ite_t hc25 h
   refine zbd rfl rfl (zdx hc25) (zbd rfl rfl (zdx hc25) (zbd rfl rfl (zdx hc25) (zbd rfl rfl (zdx hc25) (zbd rfl rfl (zdx hc25) ?_))))
   refine zag (zbl (t := (decide (((iw (UInt8.toNat x22 : Int)) : Int) = (t.Text.length : Int)))) (v := zT) rfl (zdx hc25) rfl (zar ?_))
   have hp12 := hL3.pick [] rfl rfl rfl
   have hL22 : vL w w2 [] [] := hp12.1
   have K20 := ks w hp12.2
   obtain rfl := zad h
   refine zap ?_
   exact ⟨true, _, rfl, (zea ⟨rfl, rfl, rfl, rfl, trivial⟩), hL22, K20, trivial⟩
  replace h := ite_f hc25 h
  refine zba rfl rfl (zdw hc25) (zae (v := (zaa .u8 c)) rfl ?_)
  refine zba rfl rfl (zdw hc25) (zae (v := (zS t.Text)) rfl ?_)
  refine zba rfl rfl (zdw hc25) (zae (v := (zI (iw (UInt8.toNat x22 : Int)))) rfl ?_)
  obtain ⟨x24, n21, q55, q56, -, h⟩ := zix h
  refine zba rfl rfl (zdw hc25) (zdc (xs := t.Text) (i := (iw (UInt8.toNat x22 : Int))) (n := n21) (a := x24) zaw rfl rfl q55 q56 ?_)
  refine zba rfl rfl (zdw hc25) (OpY.gtr (x := c) (y := (UInt8.toNat x24 : Int)) ((c : Int) > (UInt8.toNat x24 : Int)) rfl rfl zbh ?_)
  refine zag (zbe (t := (decide (((iw (UInt8.toNat x22 : Int)) : Int) = (t.Text.length : Int)))) (v := (zac (decide ((c : Int) > (UInt8.toNat x24 : Int))))) rfl (zdw hc25) rfl (zar ?_))
  have hp13 := hL3.pick [] rfl rfl rfl
  have hL23 : vL w w2 [] [] := hp13.1
  have K21 := ks w hp13.2
  obtain rfl := zad h
  refine zap ?_
  exact ⟨(decide ((c : Int) > (UInt8.toNat x24 : Int))), _, rfl, (zea ⟨rfl, rfl, rfl, rfl, trivial⟩), hL23, K21, trivial⟩
 rintro _ w19 ⟨x23, u, rfl, rfl, hL24, K22, -⟩
 replace h := g14
 try dsimp only at h
 refine zch x23 rfl (fun hc26 => ?_) (fun hc26 => ?_)
 ·
  replace h := ite_t hc26 h
  refine zam (zah rfl (zag (zai (v := (zS ([62] : List UInt8))) rfl ?_)))
  refine zar (zbv ?_)
  obtain rfl := zad h
  refine ⟨[(zS ([62] : List UInt8))], zrt, ⟨_, rfl, hL24.done, ?_⟩⟩
  exact zrt
 replace h := ite_f hc26 h
 refine zbn (zam (zam (zah rfl (zag (zae (v := (zaa .u8 c)) rfl ?_)))))
 refine zag (zae (v := (zS t.Text)) rfl ?_)
 refine zag (zae (v := (zI (iw (UInt8.toNat x22 : Int)))) rfl ?_)
 obtain ⟨x25, n22, q58, q59, -, h⟩ := zix h
 refine zag (zdc (xs := t.Text) (i := (iw (UInt8.toNat x22 : Int))) (n := n22) (a := x25) zaw rfl rfl q58 q59 ?_)
 refine zag (zci (x := c) (y := (UInt8.toNat x25 : Int)) ((c : Int) < (UInt8.toNat x25 : Int)) rfl rfl zbh (zar ?_))
 refine zbk ((c : Int) < (UInt8.toNat x25 : Int)) rfl (fun hc27 => ?_) (fun hc27 => ?_)
 ·
  replace h := ite_t hc27 h
  refine zam (zah rfl (zag (zai (v := (zS ([60] : List UInt8))) rfl ?_)))
  refine zar (zbv ?_)
  obtain rfl := zad h
  refine ⟨[(zS ([60] : List UInt8))], zrt, ⟨_, rfl, hL24.done, ?_⟩⟩
  exact zrt
 replace h := ite_f hc27 h
 refine zbn (zam (zah rfl (zag (zae (v := (zI (iw (UInt8.toNat x22 : Int)))) rfl ?_))))
 refine zag (zcd (x := (iw (UInt8.toNat x22 : Int))) (y := 1) (z := (iw ((iw (UInt8.toNat x22 : Int)) + 1))) rfl rfl rfl ?_)
 refine zag (zdr (x := (iw ((iw (UInt8.toNat x22 : Int)) + 1))) (z := (uw8 (iw ((iw (UInt8.toNat x22 : Int)) + 1)))) zay zct rfl rfl ?_)
 have hE17 : Els (rInt .u8) (vH w None [] w19) [(zaa .u8 (uw8 (iw ((iw (UInt8.toNat x22 : Int)) + 1))))] [(uw8 (iw ((iw (UInt8.toNat x22 : Int)) + 1)))] := (zcs (a := [(zaa .u8 (uw8 (iw ((iw (UInt8.toNat x22 : Int)) + 1))))]) rfl zcw)
 refine zag (zcv (r := (rInt .u8)) (vs := [(zaa .u8 (uw8 (iw ((iw (UInt8.toNat x22 : Int)) + 1))))]) (css := [[(zaa .u8 (uw8 (iw ((iw (UInt8.toNat x22 : Int)) + 1))))]]) (xs := [(uw8 (iw ((iw (UInt8.toNat x22 : Int)) + 1)))]) zcf ti5 (zak rfl) rfl rfl ⟨rfl, rfl, trivial⟩ (zak rfl) hE17 rfl hL24 ?_)
 intro b11 w20 hc28 hL25 hS13
 have K23 := ks w hS13
 have f17 := (hE17.mono (K23 None))
 refine zag (OpY.strRow (pre := []) (cs := [(zaa .u8 (uw8 (iw ((iw (UInt8.toNat x22 : Int)) + 1))))]) (sp := []) (xs := [(uw8 (iw ((iw (UInt8.toNat x22 : Int)) + 1)))]) zcf zaw zct rfl (hL25.at 0 rfl rfl) f17 rfl ?_)
 obtain ⟨u10, q60, h⟩ := zdy h
 have q61 := chk_some q60
 refine zag (OpY.sAdd (x := ([61] : List UInt8)) (y := (bstr [(uw8 (iw ((iw (UInt8.toNat x22 : Int)) + 1)))])) rfl rfl q61 ?_)
 refine zag (zai (v := (zaf (s8 (([61] : List UInt8) ++ (bstr [(uw8 (iw ((iw (UInt8.toNat x22 : Int)) + 1)))]))))) rfl ?_)
 refine zar (zbv ?_)
 obtain rfl := zad h
 refine ⟨[(zaf (s8 (([61] : List UInt8) ++ (bstr [(uw8 (iw ((iw (UInt8.toNat x22 : Int)) + 1)))]))))], zrt, ⟨_, rfl, hL25.done, ?_⟩⟩
 exact zrt
theorem qFinal_w (N : Nat) (t : TTest) (s : (List UInt8))  (w : World) (S : Nat → Prop)  (r : Bool) (h : qFinal N t s = some r) :
  Calls Try.prog 58 #[(zbs #[(zI t.Var), (zI t.Kind), (zac t.Negated), (zS t.Text)]), (zS s)] w (Ret w (fun v w' => (zac r) = v ∧ True)) := by
 unfold qFinal at h
 have hL : vL w w [] [] := Go.X.Loc.begin0 w
 refine calls_of (l := [(zbs #[(zI t.Var), (zI t.Kind), (zac t.Negated), (zS t.Text)]), (zS s)]) (rl := [.tmp 4]) (n := 70) Try.func58 rfl rfl rfl (zak rfl) ?_
 refine zam (zah rfl (zag (zdt (cs := [(zI t.Var), (zI t.Kind), (zac t.Negated), (zS t.Text)]) rfl rfl hL ?_)))
 intro b1 w2 hL3 hS5
 refine zag (zai (v := zF) rfl ?_)
 refine zar (zam (zah rfl (zag (zai (v := zF) rfl ?_))))
 refine zar (zam (zam (zah rfl (zag (zat (q := 1) zbc rfl ti3 rfl rfl rfl ?_)))))
 refine zag (zav (v := (zI t.Kind)) zay rfl rfl (hL3.at 0 rfl rfl) rfl ?_)
 refine zag (zcx (x := t.Kind) (y := 1) ((t.Kind : Int) = 1) rfl rfl zbh (zar ?_))
 obtain ⟨s10, h, g10⟩ := zdy h
 refine zbu (fun e w' => ∃ (ok10 : Bool) (u : Env), ok10 = s10 ∧ e = upds [(2, (zal (some ⟨b1, 0, none⟩))), (5, (zac ok10))] u ∧ vL w w' [some b1] [zab [(zI t.Var), (zI t.Kind), (zac t.Negated), (zS t.Text)]] ∧ Keep w.heap.size [some b1] w2 [some b1] w' ∧ True) ?_ ?_
 ·
  refine zbk ((t.Kind : Int) = 1) rfl (fun hc10 => ?_) (fun hc10 => ?_)
  ·
   replace h := ite_t hc10 h
   refine zah rfl (zag (zae (v := (zS s)) rfl ?_))
   refine zag (zat (q := 3) zbc rfl ti9 rfl rfl rfl ?_)
   refine zag (zav (v := (zS t.Text)) zaw rfl rfl (hL3.at 0 rfl rfl) rfl ?_)
   refine zag (zdb zaw rfl ?_)
   obtain ⟨x10, n10, q11, q12, -, h⟩ := zix h
   refine zag (zdc (xs := s) (i := (t.Text.length : Int)) (n := n10) (a := x10) zaw rfl rfl q11 q12 ?_)
   refine zag (zcx (x := (UInt8.toNat x10 : Int)) (y := 1) (((UInt8.toNat x10 : Int) : Int) = 1) rfl rfl zbh ?_)
   refine zag (zai (v := (zac (decide (((UInt8.toNat x10 : Int) : Int) = 1)))) rfl (zar ?_))
   obtain rfl := zad h
   refine zap ?_
   exact ⟨(decide (((UInt8.toNat x10 : Int) : Int) = 1)), _, rfl, (zea ⟨rfl, rfl, trivial⟩), hL3, zbq, trivial⟩
  replace h := ite_f hc10 h
  refine zam ?_
  obtain ⟨s11, h, g11⟩ := zdy h
  refine zbu (fun e w' => ∃ (equal10 : Bool) (u : Env), equal10 = s11 ∧ e = upds [(1, (zS s)), (2, (zal (some ⟨b1, 0, none⟩))), (6, (zac equal10))] u ∧ vL w w' [some b1] [zab [(zI t.Var), (zI t.Kind), (zac t.Negated), (zS t.Text)]] ∧ Keep w.heap.size [some b1] w2 [some b1] w' ∧ True) ?_ ?_
  ·
   obtain ⟨x11, n11, q14, q15, -, h⟩ := zix h
   by_cases hc11 : ((UInt8.toNat x11 : Int) : Int) = 61
   ·
    replace h := ite_t hc11 h
    obtain ⟨x12, n12, q17, q18, -, h⟩ := zix h
    refine zcz 10 [] [] (fun W1 => [.det (zS s), .det (zaa .u8 (UInt8.toNat x11 : Int)), .det (zac (decide (((UInt8.toNat x11 : Int) : Int) = 61))), .det (zac (decide (((UInt8.toNat x11 : Int) : Int) = 61))), .det (zS s), .det (zaa .u8 (UInt8.toNat x12 : Int)), .det (zI (iw (UInt8.toNat x12 : Int))), .det (zal (some ⟨b1, 3, none⟩)), .det (zS t.Text), .det (zI (t.Text.length : Int))]) mixed rfl rfl rfl (fun _ => rfl) (fun _ => rfl) ?_ ?_
    ·
     intro W1 _
     exact trivial
    intro w10 hE10
    obtain ⟨hL10, K10⟩ := zl hL3 hE10
    refine zax (fun _ _ => zaq (zae rfl (er rfl))) ?_
    refine zax (fun _ _ => zaq (zdc (xs := s) (i := 0) (n := n11) (a := x11) zaw rfl rfl q14 q15 (er rfl))) ?_
    refine zax (fun _ _ => zaq (zcx (x := (UInt8.toNat x11 : Int)) (y := 61) (((UInt8.toNat x11 : Int) : Int) = 61) rfl rfl zbh (er rfl))) ?_
    refine zax (fun _ _ => zaq (zae rfl (er rfl))) ?_
    refine zax (fun _ _ => zcm rfl rfl (zdx hc11) (zae rfl (er rfl))) ?_
    refine zax (fun _ _ => zcm rfl rfl (zdx hc11) (zdc (xs := s) (i := 1) (n := n12) (a := x12) zaw rfl rfl q17 q18 (er rfl))) ?_
    refine zax (fun _ _ => zcm rfl rfl (zdx hc11) (zdr zct zay rfl rfl (er rfl))) ?_
    refine zax (fun _ _ => zcm rfl rfl (zdx hc11) (zat zbc rfl ti9 rfl rfl rfl (er rfl))) ?_
    refine zax (fun _ hE19 => zcm rfl rfl (zdx hc11) (zav zaw rfl rfl ((hL10.ext hE19).at 0 rfl rfl) rfl (er rfl))) ?_
    refine zax (fun _ _ => zcm rfl rfl (zdx hc11) (zdb zaw rfl (er rfl))) ?_
    refine zdg ?_
    rintro w21 Z29 hE21 hZ20 ⟨-⟩ ap10
    have hB10 := @zhb w10 Z29
    obtain ⟨hL12, K11⟩ := zl hL10 hE21
    refine zba rfl rfl (zdx hc11) (zcx (x := (iw (UInt8.toNat x12 : Int))) (y := (t.Text.length : Int)) (((iw (UInt8.toNat x12 : Int)) : Int) = (t.Text.length : Int)) rfl rfl zbh ?_)
    refine zag (zbl (t := (decide (((UInt8.toNat x11 : Int) : Int) = 61))) (v := (zac (decide (((iw (UInt8.toNat x12 : Int)) : Int) = (t.Text.length : Int))))) rfl (zdx hc11) rfl ?_)
    refine zag (zai (v := (zac (decide (((iw (UInt8.toNat x12 : Int)) : Int) = (t.Text.length : Int))))) rfl (zar ?_))
    obtain rfl := zad h
    refine zap ?_
    exact ⟨(decide (((iw (UInt8.toNat x12 : Int)) : Int) = (t.Text.length : Int))), _, rfl, (zea ⟨rfl, rfl, rfl, trivial⟩), hL12, (zaj K10 K11), trivial⟩
   replace h := ite_f hc11 h
   refine zcz 10 [] [] (fun W1 => [.det (zS s), .det (zaa .u8 (UInt8.toNat x11 : Int)), .det (zac (decide (((UInt8.toNat x11 : Int) : Int) = 61))), .det (zac (decide (((UInt8.toNat x11 : Int) : Int) = 61))), .det undef, .det undef, .det undef, .det undef, .det undef, .det undef]) mixed rfl rfl rfl (fun _ => rfl) (fun _ => rfl) ?_ ?_
   ·
    intro W1 _
    exact trivial
   intro w22 hE22
   obtain ⟨hL13, K12⟩ := zl hL3 hE22
   refine zax (fun _ _ => zaq (zae rfl (er rfl))) ?_
   refine zax (fun _ _ => zaq (zdc (xs := s) (i := 0) (n := n11) (a := x11) zaw rfl rfl q14 q15 (er rfl))) ?_
   refine zax (fun _ _ => zaq (zcx (x := (UInt8.toNat x11 : Int)) (y := 61) (((UInt8.toNat x11 : Int) : Int) = 61) rfl rfl zbh (er rfl))) ?_
   refine zax (fun _ _ => zaq (zae rfl (er rfl))) ?_
   refine zax (fun _ _ => zdd rfl rfl (zdw hc11) (er rfl)) ?_
   refine zax (fun _ _ => zdd rfl rfl (zdw hc11) (er rfl)) ?_
   refine zax (fun _ _ => zdd rfl rfl (zdw hc11) (er rfl)) ?_
   refine zax (fun _ _ => zdd rfl rfl (zdw hc11) (er rfl)) ?_
   refine zax (fun _ _ => zdd rfl rfl (zdw hc11) (er rfl)) ?_
   refine zax (fun _ _ => zdd rfl rfl (zdw hc11) (er rfl)) ?_
   refine zdg ?_
   rintro w33 Z40 hE33 hZ31 ⟨-⟩ ap11
   have hB11 := @zhb w22 Z40
   obtain ⟨hL14, K13⟩ := zl hL13 hE33
   refine zbd rfl rfl (zdw hc11) ?_
   refine zag (zbe (t := (decide (((UInt8.toNat x11 : Int) : Int) = 61))) (v := zF) rfl (zdw hc11) rfl ?_)
   refine zag (zai (v := zF) rfl (zar ?_))
   obtain rfl := zad h
   refine zap ?_
   exact ⟨false, _, rfl, (zea ⟨rfl, rfl, rfl, trivial⟩), hL14, (zaj K12 K13), trivial⟩
  rintro _ w34 ⟨equal10, u, rfl, rfl, hL15, K14, -⟩
  replace h := g11
  try dsimp only at h
  refine zam ?_
  obtain ⟨s12, h, g12⟩ := zdy h
  refine zbu (fun e w' => ∃ (less10 : Bool) (u : Env), less10 = s12 ∧ e = upds [(2, (zal (some ⟨b1, 0, none⟩))), (6, (zac equal10)), (7, (zac less10))] u ∧ vL w w' [some b1] [zab [(zI t.Var), (zI t.Kind), (zac t.Negated), (zS t.Text)]] ∧ Keep w.heap.size [some b1] w34 [some b1] w' ∧ True) ?_ ?_
  ·
   refine zah rfl (zag (zae (v := (zS s)) rfl ?_))
   obtain ⟨x13, n13, q20, q21, -, h⟩ := zix h
   refine zag (zdc (xs := s) (i := 0) (n := n13) (a := x13) zaw rfl rfl q20 q21 ?_)
   refine zag (zcx (x := (UInt8.toNat x13 : Int)) (y := 60) (((UInt8.toNat x13 : Int) : Int) = 60) rfl rfl zbh ?_)
   refine zag (zae (v := (zac (decide (((UInt8.toNat x13 : Int) : Int) = 60)))) rfl ?_)
   by_cases hc12 : ((UInt8.toNat x13 : Int) : Int) = 60
   ·
    replace h := ite_t hc12 h
    refine zbd rfl rfl (zdx hc12) (zbd rfl rfl (zdx hc12) (zbd rfl rfl (zdx hc12) (zbd rfl rfl (zdx hc12) ?_)))
    refine zcq rfl rfl ?_
    refine zcq rfl rfl ?_
    refine zbd rfl rfl (zdx hc12) ?_
    refine zag (zbl (t := (decide (((UInt8.toNat x13 : Int) : Int) = 60))) (v := zT) rfl (zdx hc12) rfl ?_)
    refine zag (zai (v := zT) rfl (zar ?_))
    obtain rfl := zad h
    refine zap ?_
    exact ⟨true, _, rfl, (zea ⟨rfl, rfl, rfl, trivial⟩), hL15, zbq, trivial⟩
   replace h := ite_f hc12 h
   refine zba rfl rfl (zdw hc12) (zae (v := (zS s)) rfl ?_)
   obtain ⟨x14, n14, q23, q24, -, h⟩ := zix h
   refine zba rfl rfl (zdw hc12) (zdc (xs := s) (i := 0) (n := n14) (a := x14) zaw rfl rfl q23 q24 ?_)
   refine zba rfl rfl (zdw hc12) (zcx (x := (UInt8.toNat x14 : Int)) (y := 61) (((UInt8.toNat x14 : Int) : Int) = 61) rfl rfl zbh ?_)
   refine zba rfl rfl (zdw hc12) (zae (v := (zac (decide (((UInt8.toNat x14 : Int) : Int) = 61)))) rfl ?_)
   by_cases hc13 : ((UInt8.toNat x14 : Int) : Int) = 61
   ·
    replace h := ite_t hc13 h
    refine zba rfl rfl (zdx hc13) (zae (v := (zac equal10)) rfl ?_)
    refine zba rfl rfl (zdx hc13) (zdv (x := equal10) rfl ?_)
    refine zba rfl rfl (zdw hc12) (zbl (t := (decide (((UInt8.toNat x14 : Int) : Int) = 61))) (v := (zac (!equal10))) rfl (zdx hc13) rfl ?_)
    refine zag (zbe (t := (decide (((UInt8.toNat x13 : Int) : Int) = 60))) (v := (zac (!equal10))) rfl (zdw hc12) rfl ?_)
    refine zag (zai (v := (zac (!equal10))) rfl (zar ?_))
    obtain rfl := zad h
    refine zap ?_
    exact ⟨(!equal10), _, rfl, (zea ⟨rfl, rfl, rfl, trivial⟩), hL15, zbq, trivial⟩
   replace h := ite_f hc13 h
   refine zbd rfl rfl (zdw hc13) (zbd rfl rfl (zdw hc13) ?_)
   refine zba rfl rfl (zdw hc12) (zbe (t := (decide (((UInt8.toNat x14 : Int) : Int) = 61))) (v := zF) rfl (zdw hc13) rfl ?_)
   refine zag (zbe (t := (decide (((UInt8.toNat x13 : Int) : Int) = 60))) (v := zF) rfl (zdw hc12) rfl ?_)
   refine zag (zai (v := zF) rfl (zar ?_))
   obtain rfl := zad h
   refine zap ?_
   exact ⟨false, _, rfl, (zea ⟨rfl, rfl, rfl, trivial⟩), hL15, zbq, trivial⟩
  rintro _ w35 ⟨less10, u, rfl, rfl, hL16, K15, -⟩
  replace h := g12
  try dsimp only at h
  refine zah rfl (zag (zat (q := 1) zbc rfl ti3 rfl rfl rfl ?_))
  refine zag (zav (v := (zI t.Kind)) zay rfl rfl (hL16.at 0 rfl rfl) rfl ?_)
  refine zag (zcx (x := t.Kind) (y := 0) ((t.Kind : Int) = 0) rfl rfl zbh ?_)
  refine zag (zae (v := (zac (decide ((t.Kind : Int) = 0)))) rfl ?_)
  by_cases hc14 : (t.Kind : Int) = 0
  ·
   replace h := ite_t hc14 h
   refine zba rfl rfl (zdx hc14) (zae (v := (zac equal10)) rfl ?_)
   refine zag (zbl (t := (decide ((t.Kind : Int) = 0))) (v := (zac equal10)) rfl (zdx hc14) rfl ?_)
   refine zag (zae (v := (zac equal10)) rfl ?_)
   by_cases hc15 : equal10 = true
   ·
    replace h := ite_t hc15 h
    refine zbd rfl rfl hc15 ?_
    refine zbd rfl rfl hc15 ?_
    refine zbd rfl rfl hc15 ?_
    refine zbd rfl rfl hc15 ?_
    refine zcq rfl rfl ?_
    refine zbd rfl rfl hc15 ?_
    refine zag (zbl (t := equal10) (v := zT) rfl hc15 rfl ?_)
    refine zag (zae (v := zT) rfl ?_)
    refine zbd rfl rfl rfl (zbd rfl rfl rfl (zbd rfl rfl rfl (zbd rfl rfl rfl ?_)))
    refine zcq rfl rfl ?_
    refine zcq rfl rfl ?_
    refine zcq rfl rfl ?_
    refine zcq rfl rfl ?_
    refine zbd rfl rfl rfl ?_
    refine zag (zbl (t := true) (v := zT) rfl rfl rfl ?_)
    refine zag (zai (v := zT) rfl (zar ?_))
    obtain rfl := zad h
    refine zap ?_
    exact ⟨true, _, rfl, (zea ⟨rfl, rfl, trivial⟩), hL16, (zaj K14 K15), trivial⟩
   replace h := ite_f hc15 h
   refine zba rfl rfl (zdz hc15) (zat (q := 1) zbc rfl ti3 rfl rfl rfl ?_)
   refine zba rfl rfl (zdz hc15) (zav (v := (zI t.Kind)) zay rfl rfl (hL16.at 0 rfl rfl) rfl ?_)
   refine zba rfl rfl (zdz hc15) (zcx (x := t.Kind) (y := 2) ((t.Kind : Int) = 2) rfl rfl zbh ?_)
   refine zba rfl rfl (zdz hc15) (zae (v := (zac (decide ((t.Kind : Int) = 2)))) rfl ?_)
   by_cases hc16 : (t.Kind : Int) = 2
   ·
    replace h := ite_t hc16 h
    refine zba rfl rfl (zdx hc16) (zae (v := (zac less10)) rfl ?_)
    refine zba rfl rfl (zdz hc15) (zbl (t := (decide ((t.Kind : Int) = 2))) (v := (zac less10)) rfl (zdx hc16) rfl ?_)
    refine zag (zbe (t := equal10) (v := (zac less10)) rfl (zdz hc15) rfl ?_)
    refine zag (zae (v := (zac less10)) rfl ?_)
    by_cases hc17 : less10 = true
    ·
     replace h := ite_t hc17 h
     refine zbd rfl rfl hc17 ?_
     refine zbd rfl rfl hc17 ?_
     refine zbd rfl rfl hc17 ?_
     refine zbd rfl rfl hc17 ?_
     refine zcq rfl rfl ?_
     refine zcq rfl rfl ?_
     refine zcq rfl rfl ?_
     refine zcq rfl rfl ?_
     refine zbd rfl rfl hc17 ?_
     refine zag (zbl (t := less10) (v := zT) rfl hc17 rfl ?_)
     refine zag (zai (v := zT) rfl (zar ?_))
     obtain rfl := zad h
     refine zap ?_
     exact ⟨true, _, rfl, (zea ⟨rfl, rfl, trivial⟩), hL16, (zaj K14 K15), trivial⟩
    replace h := ite_f hc17 h
    refine zba rfl rfl (zdz hc17) (zat (q := 1) zbc rfl ti3 rfl rfl rfl ?_)
    refine zba rfl rfl (zdz hc17) (zav (v := (zI t.Kind)) zay rfl rfl (hL16.at 0 rfl rfl) rfl ?_)
    refine zba rfl rfl (zdz hc17) (zcx (x := t.Kind) (y := 3) ((t.Kind : Int) = 3) rfl rfl zbh ?_)
    refine zba rfl rfl (zdz hc17) (zae (v := (zac (decide ((t.Kind : Int) = 3)))) rfl ?_)
    by_cases hc18 : (t.Kind : Int) = 3
    ·
     replace h := ite_t hc18 h
     refine zba rfl rfl (zdx hc18) (zae (v := (zac less10)) rfl ?_)
     refine zba rfl rfl (zdx hc18) (zae (v := (zac less10)) rfl ?_)
     refine zba rfl rfl (zdz hc17) (zae (v := (zac equal10)) rfl ?_)
     refine zba rfl rfl (zdx hc18) (zbe (t := less10) (v := (zac equal10)) rfl (zdz hc17) rfl ?_)
     refine zba rfl rfl (zdz hc17) (zbl (t := (decide ((t.Kind : Int) = 3))) (v := (zac equal10)) rfl (zdx hc18) rfl ?_)
     refine zag (zbe (t := less10) (v := (zac equal10)) rfl (zdz hc17) rfl ?_)
     refine zag (zai (v := (zac equal10)) rfl (zar ?_))
     obtain rfl := zad h
     refine zap ?_
     exact ⟨equal10, _, rfl, (zea ⟨rfl, rfl, trivial⟩), hL16, (zaj K14 K15), trivial⟩
    replace h := ite_f hc18 h
    refine zbd rfl rfl (zdw hc18) (zbd rfl rfl (zdw hc18) ?_)
    refine zcq rfl rfl ?_
    refine zbd rfl rfl (zdw hc18) ?_
    refine zba rfl rfl (zdz hc17) (zbe (t := (decide ((t.Kind : Int) = 3))) (v := zF) rfl (zdw hc18) rfl ?_)
    refine zag (zbe (t := less10) (v := zF) rfl (zdz hc17) rfl ?_)
    refine zag (zai (v := zF) rfl (zar ?_))
    obtain rfl := zad h
    refine zap ?_
    exact ⟨false, _, rfl, (zea ⟨rfl, rfl, trivial⟩), hL16, (zaj K14 K15), trivial⟩
   replace h := ite_f hc16 h
   refine zbd rfl rfl (zdw hc16) ?_
   refine zba rfl rfl (zdz hc15) (zbe (t := (decide ((t.Kind : Int) = 2))) (v := zF) rfl (zdw hc16) rfl ?_)
   refine zag (zbe (t := equal10) (v := zF) rfl (zdz hc15) rfl ?_)
   refine zag (zae (v := zF) rfl ?_)
   refine zba rfl rfl rfl (zat (q := 1) zbc rfl ti3 rfl rfl rfl ?_)
   refine zba rfl rfl rfl (zav (v := (zI t.Kind)) zay rfl rfl (hL16.at 0 rfl rfl) rfl ?_)
   refine zba rfl rfl rfl (zcx (x := t.Kind) (y := 3) ((t.Kind : Int) = 3) rfl rfl zbh ?_)
   refine zba rfl rfl rfl (zae (v := (zac (decide ((t.Kind : Int) = 3)))) rfl ?_)
   by_cases hc19 : (t.Kind : Int) = 3
   ·
    replace h := ite_t hc19 h
    refine zba rfl rfl (zdx hc19) (zae (v := (zac less10)) rfl ?_)
    refine zba rfl rfl (zdx hc19) (zae (v := (zac less10)) rfl ?_)
    by_cases hc20 : less10 = true
    ·
     replace h := ite_t hc20 h
     refine zbd rfl rfl hc20 ?_
     refine zba rfl rfl (zdx hc19) (zbl (t := less10) (v := zT) rfl hc20 rfl ?_)
     refine zba rfl rfl rfl (zbl (t := (decide ((t.Kind : Int) = 3))) (v := zT) rfl (zdx hc19) rfl ?_)
     refine zag (zbe (t := false) (v := zT) rfl rfl rfl ?_)
     refine zag (zai (v := zT) rfl (zar ?_))
     obtain rfl := zad h
     refine zap ?_
     exact ⟨true, _, rfl, (zea ⟨rfl, rfl, trivial⟩), hL16, (zaj K14 K15), trivial⟩
    replace h := ite_f hc20 h
    refine zba rfl rfl (zdz hc20) (zae (v := (zac equal10)) rfl ?_)
    refine zba rfl rfl (zdx hc19) (zbe (t := less10) (v := (zac equal10)) rfl (zdz hc20) rfl ?_)
    refine zba rfl rfl rfl (zbl (t := (decide ((t.Kind : Int) = 3))) (v := (zac equal10)) rfl (zdx hc19) rfl ?_)
    refine zag (zbe (t := false) (v := (zac equal10)) rfl rfl rfl ?_)
    refine zag (zai (v := (zac equal10)) rfl (zar ?_))
    obtain rfl := zad h
    refine zap ?_
    exact ⟨equal10, _, rfl, (zea ⟨rfl, rfl, trivial⟩), hL16, (zaj K14 K15), trivial⟩
   replace h := ite_f hc19 h
   refine zbd rfl rfl (zdw hc19) (zbd rfl rfl (zdw hc19) ?_)
   refine zcq rfl rfl ?_
   refine zbd rfl rfl (zdw hc19) ?_
   refine zba rfl rfl rfl (zbe (t := (decide ((t.Kind : Int) = 3))) (v := zF) rfl (zdw hc19) rfl ?_)
   refine zag (zbe (t := false) (v := zF) rfl rfl rfl ?_)
   refine zag (zai (v := zF) rfl (zar ?_))
   obtain rfl := zad h
   refine zap ?_
   exact ⟨false, _, rfl, (zea ⟨rfl, rfl, trivial⟩), hL16, (zaj K14 K15), trivial⟩
  replace h := ite_f hc14 h
  refine zbd rfl rfl (zdw hc14) ?_
  refine zag (zbe (t := (decide ((t.Kind : Int) = 0))) (v := zF) rfl (zdw hc14) rfl ?_)
  refine zag (zae (v := zF) rfl ?_)
  refine zba rfl rfl rfl (zat (q := 1) zbc rfl ti3 rfl rfl rfl ?_)
  refine zba rfl rfl rfl (zav (v := (zI t.Kind)) zay rfl rfl (hL16.at 0 rfl rfl) rfl ?_)
  refine zba rfl rfl rfl (zcx (x := t.Kind) (y := 2) ((t.Kind : Int) = 2) rfl rfl zbh ?_)
  refine zba rfl rfl rfl (zae (v := (zac (decide ((t.Kind : Int) = 2)))) rfl ?_)
  by_cases hc21 : (t.Kind : Int) = 2
  ·
   replace h := ite_t hc21 h
   refine zba rfl rfl (zdx hc21) (zae (v := (zac less10)) rfl ?_)
   refine zba rfl rfl rfl (zbl (t := (decide ((t.Kind : Int) = 2))) (v := (zac less10)) rfl (zdx hc21) rfl ?_)
   refine zag (zbe (t := false) (v := (zac less10)) rfl rfl rfl ?_)
   refine zag (zae (v := (zac less10)) rfl ?_)
   by_cases hc22 : less10 = true
   ·
    replace h := ite_t hc22 h
    refine zbd rfl rfl hc22 ?_
    refine zbd rfl rfl hc22 ?_
    refine zbd rfl rfl hc22 ?_
    refine zbd rfl rfl hc22 ?_
    refine zcq rfl rfl ?_
    refine zcq rfl rfl ?_
    refine zcq rfl rfl ?_
    refine zcq rfl rfl ?_
    refine zbd rfl rfl hc22 ?_
    refine zag (zbl (t := less10) (v := zT) rfl hc22 rfl ?_)
    refine zag (zai (v := zT) rfl (zar ?_))
    obtain rfl := zad h
    refine zap ?_
    exact ⟨true, _, rfl, (zea ⟨rfl, rfl, trivial⟩), hL16, (zaj K14 K15), trivial⟩
   replace h := ite_f hc22 h
   refine zba rfl rfl (zdz hc22) (zat (q := 1) zbc rfl ti3 rfl rfl rfl ?_)
   refine zba rfl rfl (zdz hc22) (zav (v := (zI t.Kind)) zay rfl rfl (hL16.at 0 rfl rfl) rfl ?_)
   refine zba rfl rfl (zdz hc22) (zcx (x := t.Kind) (y := 3) ((t.Kind : Int) = 3) rfl rfl zbh ?_)
   refine zba rfl rfl (zdz hc22) (zae (v := (zac (decide ((t.Kind : Int) = 3)))) rfl ?_)
   by_cases hc23 : (t.Kind : Int) = 3
   ·
    replace h := ite_t hc23 h
    refine zba rfl rfl (zdx hc23) (zae (v := (zac less10)) rfl ?_)
    refine zba rfl rfl (zdx hc23) (zae (v := (zac less10)) rfl ?_)
    refine zba rfl rfl (zdz hc22) (zae (v := (zac equal10)) rfl ?_)
    refine zba rfl rfl (zdx hc23) (zbe (t := less10) (v := (zac equal10)) rfl (zdz hc22) rfl ?_)
    refine zba rfl rfl (zdz hc22) (zbl (t := (decide ((t.Kind : Int) = 3))) (v := (zac equal10)) rfl (zdx hc23) rfl ?_)
    refine zag (zbe (t := less10) (v := (zac equal10)) rfl (zdz hc22) rfl ?_)
    refine zag (zai (v := (zac equal10)) rfl (zar ?_))
    obtain rfl := zad h
    refine zap ?_
    exact ⟨equal10, _, rfl, (zea ⟨rfl, rfl, trivial⟩), hL16, (zaj K14 K15), trivial⟩
   replace h := ite_f hc23 h
   refine zbd rfl rfl (zdw hc23) (zbd rfl rfl (zdw hc23) ?_)
   refine zcq rfl rfl ?_
   refine zbd rfl rfl (zdw hc23) ?_
   refine zba rfl rfl (zdz hc22) (zbe (t := (decide ((t.Kind : Int) = 3))) (v := zF) rfl (zdw hc23) rfl ?_)
   refine zag (zbe (t := less10) (v := zF) rfl (zdz hc22) rfl ?_)
   refine zag (zai (v := zF) rfl (zar ?_))
   obtain rfl := zad h
   refine zap ?_
   exact ⟨false, _, rfl, (zea ⟨rfl, rfl, trivial⟩), hL16, (zaj K14 K15), trivial⟩
  replace h := ite_f hc21 h
  refine zbd rfl rfl (zdw hc21) ?_
  refine zba rfl rfl rfl (zbe (t := (decide ((t.Kind : Int) = 2))) (v := zF) rfl (zdw hc21) rfl ?_)
  refine zag (zbe (t := false) (v := zF) rfl rfl rfl ?_)
  refine zag (zae (v := zF) rfl ?_)
  refine zba rfl rfl rfl (zat (q := 1) zbc rfl ti3 rfl rfl rfl ?_)
  refine zba rfl rfl rfl (zav (v := (zI t.Kind)) zay rfl rfl (hL16.at 0 rfl rfl) rfl ?_)
  refine zba rfl rfl rfl (zcx (x := t.Kind) (y := 3) ((t.Kind : Int) = 3) rfl rfl zbh ?_)
  refine zba rfl rfl rfl (zae (v := (zac (decide ((t.Kind : Int) = 3)))) rfl ?_)
  by_cases hc24 : (t.Kind : Int) = 3
  ·
   replace h := ite_t hc24 h
   refine zba rfl rfl (zdx hc24) (zae (v := (zac less10)) rfl ?_)
   refine zba rfl rfl (zdx hc24) (zae (v := (zac less10)) rfl ?_)
   by_cases hc25 : less10 = true
   ·
    replace h := ite_t hc25 h
    refine zbd rfl rfl hc25 ?_
    refine zba rfl rfl (zdx hc24) (zbl (t := less10) (v := zT) rfl hc25 rfl ?_)
    refine zba rfl rfl rfl (zbl (t := (decide ((t.Kind : Int) = 3))) (v := zT) rfl (zdx hc24) rfl ?_)
    refine zag (zbe (t := false) (v := zT) rfl rfl rfl ?_)
    refine zag (zai (v := zT) rfl (zar ?_))
    obtain rfl := zad h
    refine zap ?_
    exact ⟨true, _, rfl, (zea ⟨rfl, rfl, trivial⟩), hL16, (zaj K14 K15), trivial⟩
   replace h := ite_f hc25 h
   refine zba rfl rfl (zdz hc25) (zae (v := (zac equal10)) rfl ?_)
   refine zba rfl rfl (zdx hc24) (zbe (t := less10) (v := (zac equal10)) rfl (zdz hc25) rfl ?_)
   refine zba rfl rfl rfl (zbl (t := (decide ((t.Kind : Int) = 3))) (v := (zac equal10)) rfl (zdx hc24) rfl ?_)
   refine zag (zbe (t := false) (v := (zac equal10)) rfl rfl rfl ?_)
   refine zag (zai (v := (zac equal10)) rfl (zar ?_))
   obtain rfl := zad h
   refine zap ?_
   exact ⟨equal10, _, rfl, (zea ⟨rfl, rfl, trivial⟩), hL16, (zaj K14 K15), trivial⟩
  replace h := ite_f hc24 h
  refine zbd rfl rfl (zdw hc24) (zbd rfl rfl (zdw hc24) ?_)
  refine zcq rfl rfl ?_
  refine zbd rfl rfl (zdw hc24) ?_
  refine zba rfl rfl rfl (zbe (t := (decide ((t.Kind : Int) = 3))) (v := zF) rfl (zdw hc24) rfl ?_)
  refine zag (zbe (t := false) (v := zF) rfl rfl rfl ?_)
  refine zag (zai (v := zF) rfl (zar ?_))
  obtain rfl := zad h
  refine zap ?_
  exact ⟨false, _, rfl, (zea ⟨rfl, rfl, trivial⟩), hL16, (zaj K14 K15), trivial⟩
 rintro _ w36 ⟨ok10, u, rfl, rfl, hL17, K16, -⟩
 replace h := g10
 try dsimp only at h
 refine zam (zah rfl (zag (zae (v := (zac ok10)) rfl ?_)))
 refine zag (zat (q := 2) zbc rfl ti4 rfl rfl rfl ?_)
 refine zag (zav (v := (zac t.Negated)) zdo rfl rfl (hL17.at 0 rfl rfl) rfl ?_)
 refine zag (OpY.neqBool (x := ok10) (y := t.Negated) zdo rfl rfl ?_)
 refine zag (zai (v := (zac (!(ok10 == t.Negated)))) rfl ?_)
 refine zar (zbv ?_)
 obtain rfl := zad h
 refine ⟨[(zac (!(ok10 == t.Negated)))], zrt, ⟨_, rfl, hL17.done, ?_⟩⟩
 exact zrt
theorem qPasses_w (N : Nat) (t : TTest) (text : (List UInt8))  (w : World) (S : Nat → Prop)  (r : Bool) (h : qPasses N t text = some r) :
  Calls Try.prog 30 #[(zbs #[(zI t.Var), (zI t.Kind), (zac t.Negated), (zS t.Text)]), (zS text)] w (Ret w (fun v w' => (zac r) = v ∧ True)) := by
 unfold qPasses at h
 have hL : vL w w [] [] := Go.X.Loc.begin0 w
 refine calls_of (l := [(zbs #[(zI t.Var), (zI t.Kind), (zac t.Negated), (zS t.Text)]), (zS text)]) (rl := [.tmp 4]) (n := 24) Try.func30 rfl rfl rfl (zak rfl) ?_
 refine zam (zah rfl (zag (zdt (cs := [(zI t.Var), (zI t.Kind), (zac t.Negated), (zS t.Text)]) rfl rfl hL ?_)))
 intro b1 w2 hL3 hS5
 refine zag (zai (v := zF) rfl ?_)
 refine zar (zam (zah rfl (zag (zcu (vs := [(zI t.Var), (zI t.Kind), (zac t.Negated), (zS t.Text)]) zbc rfl ti44 rfl (hL3.at 0 rfl rfl) rfl rfl ?_))))
 obtain ⟨r6, q7, h⟩ := zdy h
 refine zag (zcb en56 rfl rfl (qStart_w N t _ Any r6 q7) ?_)
 rintro _ w9 hE10 ⟨rfl, -⟩
 have hL10 := hL3.ext hE10
 refine zag (zai (v := (zS r6)) rfl ?_)
 refine zar (zam (zam (zah rfl (zag (zai (v := (zI 0)) rfl (zar ?_))))))
 obtain ⟨s10, hl10, g10⟩ := zdy h
 refine zbu (fun e w' => ∃ (s11 : (List UInt8)) (u : Env), s11 = s10 ∧ e = upds [(2, (zal (some ⟨b1, 0, none⟩))), (5, (zS s11))] u ∧ vL w w' [some b1] [zab [(zI t.Var), (zI t.Kind), (zac t.Negated), (zS t.Text)]] ∧ Keep w.heap.size [some b1] w9 [some b1] w' ∧ True) ?_ ?_
 ·
  refine zbf ?_
  refine zca hl10 (fun (ss : ((List UInt8) × Int)) (e : Env) (w' : World) => match ss with | (s12, i10) => ∃ (u : Env), e = upds [(1, (zS text)), (2, (zal (some ⟨b1, 0, none⟩))), (5, (zS s12)), (6, (zI i10))] u ∧ vL w w' [some b1] [zab [(zI t.Var), (zI t.Kind), (zac t.Negated), (zS t.Text)]] ∧ Keep w.heap.size [some b1] w9 [some b1] w' ∧ True) ⟨_, (zea ⟨rfl, rfl, rfl, rfl, trivial⟩), hL10, zbq, trivial⟩ ?_
  rintro ⟨s12, i10⟩ oo _ w10 ⟨u, rfl, hL11, K10, -⟩ h hd10
  rw [qPasses_b1] at h
  refine zam (zam (zah rfl (zag (zae (v := (zI i10)) rfl ?_))))
  refine zag (zae (v := (zS text)) rfl ?_)
  refine zag (zdb zaw rfl ?_)
  refine zag (zci (x := i10) (y := (text.length : Int)) ((i10 : Int) < (text.length : Int)) rfl rfl zbh (zar ?_))
  refine zbk ((i10 : Int) < (text.length : Int)) rfl (fun hc10 => ?_) (fun hc10 => ?_)
  ·
   replace h := ite_t hc10 h
   refine zbn (zam (zbf ?_))
   obtain ⟨x10, n10, q11, q12, -, h⟩ := zix h
   refine zcz 5 [] [] (fun W1 => [.det (zbs #[(zI t.Var), (zI t.Kind), (zac t.Negated), (zS t.Text)]), .det (zS s12), .det (zS text), .det (zI i10), .det (zaa .u8 (UInt8.toNat x10 : Int))]) mixed rfl rfl rfl (fun _ => rfl) (fun _ => rfl) ?_ ?_
   ·
    intro W1 _
    exact trivial
   intro w11 hE11
   obtain ⟨hL12, K11⟩ := zl hL11 hE11
   refine zax (fun _ hE12 => zaq (zcu (vs := [(zI t.Var), (zI t.Kind), (zac t.Negated), (zS t.Text)]) zbc rfl ti44 rfl ((hL12.ext hE12).at 0 rfl rfl) rfl rfl (er rfl))) ?_
   refine zax (fun _ _ => zaq (zae rfl (er rfl))) ?_
   refine zax (fun _ _ => zaq (zae rfl (er rfl))) ?_
   refine zax (fun _ _ => zaq (zae rfl (er rfl))) ?_
   refine zax (fun _ _ => zaq (zdc (xs := text) (i := i10) (n := n10) (a := x10) zaw rfl rfl q11 q12 (er rfl))) ?_
   refine zdg ?_
   rintro w17 Z24 hE17 hZ15 ⟨-⟩ ap10
   have hB10 := @zhb w11 Z24
   obtain ⟨hL14, K12⟩ := zl hL12 hE17
   obtain ⟨r10, q13, h⟩ := zdy h
   refine zag (zcb en57 rfl rfl (qStep_w N t s12 (UInt8.toNat x10 : Int) _ Any r10 q13) ?_)
   rintro _ w18 hE18 ⟨rfl, -⟩
   obtain ⟨hL15, K13⟩ := zl hL14 hE18
   refine zag (zai (v := (zS r10)) rfl ?_)
   refine zar (zbi (zah rfl (zag (zae (v := (zI i10)) rfl ?_))))
   refine zag (zcd (x := i10) (y := 1) (z := (iw (i10 + 1))) rfl rfl rfl ?_)
   refine zag (zai (v := (zI (iw (i10 + 1)))) rfl (zar ?_))
   obtain rfl := zad h
   refine zap ⟨(r10, (iw (i10 + 1))), rfl, ?_⟩
   exact ⟨_, (zea ⟨rfl, rfl, rfl, rfl, trivial⟩), hL15, (zaj (zaj (zaj K10 K11) K12) K13), trivial⟩
  replace h := ite_f hc10 h
  refine zcg rfl ?_
  obtain rfl := zad h
  obtain rfl := hd10 _ rfl
  replace h := g10
  try dsimp only at h
  refine zap ?_
  exact ⟨s12, _, rfl, (zea ⟨rfl, rfl, trivial⟩), hL11, K10, trivial⟩
 rintro _ w19 ⟨s11, u, rfl, rfl, hL16, K14, -⟩
 replace h := g10
 try dsimp only at h
 refine zam (zah rfl (zag (zcu (vs := [(zI t.Var), (zI t.Kind), (zac t.Negated), (zS t.Text)]) zbc rfl ti44 rfl (hL16.at 0 rfl rfl) rfl rfl ?_)))
 refine zag (zae (v := (zS s11)) rfl ?_)
 obtain ⟨r11, q14, h⟩ := zdy h
 refine zag (zcb en58 rfl rfl (qFinal_w N t s11 _ Any r11 q14) ?_)
 rintro _ w20 hE19 ⟨rfl, -⟩
 have hL17 := hL16.ext hE19
 refine zag (zai (v := (zac r11)) rfl ?_)
 refine zar (zbv ?_)
 obtain rfl := zad h
 refine ⟨[(zac r11)], zrt, ⟨_, rfl, hL17.done, ?_⟩⟩
 exact zrt
theorem rPairs_w (N : Nat) (l : (List Arr2Int)) (n : Int) (l_v : Value) (w : World) (S : Nat → Prop) (l_h : Rs rArr2Int (vH w S [] w) l_v l) (r : Bool) (h : rPairs N l n = some r) :
  Calls Try.prog 44 #[l_v, (zI n)] w (Ret w (fun v w' => (zac r) = v ∧ True)) := by
 unfold rPairs at h
 have hL : vL w w [] [] := Go.X.Loc.begin0 w
 refine calls_of (l := [l_v, (zI n)]) (rl := [.tmp 4]) (n := 44) Try.func44 rfl rfl rfl (zak rfl) ?_
 refine zam (zah rfl (zag (zai (v := zF) rfl ?_)))
 refine zar (zam (zam (zah rfl (zag (zai (v := (zI 0)) rfl (zar ?_))))))
 obtain ⟨s10, hl10, g10⟩ := zdy h
 refine zbu (fun e w' => ∃  (u : Env), (Sum.inl ()) = s10 ∧ e = upds [] u ∧ vL w w' [] [] ∧ Keep w.heap.size [] w [] w' ∧ True) ?_ ?_
 ·
  refine zbf ?_
  refine zca hl10 (fun (ss : Int) (e : Env) (w' : World) => match ss with | i10 => ∃ (u : Env), e = upds [(0, l_v), (1, (zI n)), (5, (zI i10))] u ∧ vL w w' [] [] ∧ Keep w.heap.size [] w [] w' ∧ True) ⟨_, (zea ⟨rfl, rfl, rfl, trivial⟩), hL, zbq, trivial⟩ ?_
  rintro i10 oo _ w10 ⟨u, rfl, hL10, K10, -⟩ h hd10
  rw [rPairs_b1] at h
  refine zam (zam (zah rfl (zag (zae (v := (zI i10)) rfl ?_))))
  refine zag (zae (v := l_v) rfl ?_)
  have f10 := (l_h.mono (K10 S))
  refine zag (zce (v := l_v) zbm rfl f10 ?_)
  refine zag (zci (x := i10) (y := (l.length : Int)) ((i10 : Int) < (l.length : Int)) rfl rfl zbh (zar ?_))
  refine zbk ((i10 : Int) < (l.length : Int)) rfl (fun hc10 => ?_) (fun hc10 => ?_)
  ·
   replace h := ite_t hc10 h
   refine zbn (zam (zbf (zam ?_)))
   obtain ⟨s11, h, g11⟩ := zdy h
   refine zbu (fun e w' => ∃ (x10 : Bool) (u : Env), x10 = s11 ∧ e = upds [(0, l_v), (1, (zI n)), (5, (zI i10)), (43, (zac x10))] u ∧ vL w w' [] [] ∧ Keep w.heap.size [] w10 [] w' ∧ True) ?_ ?_
   ·
    refine zah rfl (zag (zae (v := l_v) rfl ?_))
    refine zag (zae (v := (zI i10)) rfl ?_)
    obtain ⟨x11, n10, q11, q12, -, h⟩ := zix h
    obtain ⟨b10, o10, c10, vs10, q13, q14, f11, q15⟩ := zcy f10 q12
    obtain ⟨rfl, -⟩ := rArr2Int_open q15
    refine zag (zbt (r := rArr2Int) (v := l_v) (n := n10) (m := (o10 + n10 * rArr2Int.sz)) zbm ti45 rfl q13 rfl q11 q12 rfl ?_)
    have f12 := (f11.part (us := [(zI x11.e0)]) 0 rfl)
    refine zag (zcj (i := 0) (q := (o10 + n10 * rArr2Int.sz) + 0) zby ti3 rfl rfl (by decide) rfl ?_)
    refine zag (zbw (v := (zI x11.e0)) zay rfl rfl zee f12 ?_)
    refine zag (zci (x := x11.e0) (y := 0) ((x11.e0 : Int) < 0) rfl rfl zbh ?_)
    refine zag (zae (v := (zac (decide ((x11.e0 : Int) < 0)))) rfl ?_)
    by_cases hc11 : (x11.e0 : Int) < 0
    ·
     replace h := ite_t hc11 h
     refine zbd rfl rfl (zdx hc11) (zbd rfl rfl (zdx hc11) (zbd rfl rfl (zdx hc11) (zbd rfl rfl (zdx hc11) (zbd rfl rfl (zdx hc11) (zbd rfl rfl (zdx hc11) (zbd rfl rfl (zdx hc11) ?_))))))
     refine zag (zbl (t := (decide ((x11.e0 : Int) < 0))) (v := zT) rfl (zdx hc11) rfl ?_)
     refine zag (zae (v := zT) rfl ?_)
     refine zbd rfl rfl rfl (zbd rfl rfl rfl (zbd rfl rfl rfl (zbd rfl rfl rfl (zbd rfl rfl rfl (zbd rfl rfl rfl ?_)))))
     refine zag (zbl (t := true) (v := zT) rfl rfl rfl ?_)
     refine zag (zae (v := zT) rfl ?_)
     refine zbd rfl rfl rfl (zbd rfl rfl rfl (zbd rfl rfl rfl (zbd rfl rfl rfl (zbd rfl rfl rfl (zbd rfl rfl rfl (zbd rfl rfl rfl ?_))))))
     refine zag (zbl (t := true) (v := zT) rfl rfl rfl (zar ?_))
     obtain rfl := zad h
     refine zap ?_
     exact ⟨true, _, rfl, (zea ⟨rfl, rfl, rfl, rfl, trivial⟩), hL10, zbq, trivial⟩
    replace h := ite_f hc11 h
    refine zba rfl rfl (zdw hc11) (zae (v := l_v) rfl ?_)
    refine zba rfl rfl (zdw hc11) (zae (v := (zI i10)) rfl ?_)
    obtain ⟨x12, n11, q17, q18, -, h⟩ := zix h
    obtain ⟨b11, o11, c11, vs11, q19, q20, f13, q21⟩ := zcy f10 q18
    obtain ⟨rfl, -⟩ := rArr2Int_open q21
    refine zba rfl rfl (zdw hc11) (zbt (r := rArr2Int) (v := l_v) (n := n11) (m := (o11 + n11 * rArr2Int.sz)) zbm ti45 rfl q19 rfl q17 q18 rfl ?_)
    have f14 := (f13.part (us := [(zI x12.e0)]) 0 rfl)
    refine zba rfl rfl (zdw hc11) (zcj (i := 0) (q := (o11 + n11 * rArr2Int.sz) + 0) zby ti3 rfl rfl (by decide) rfl ?_)
    refine zba rfl rfl (zdw hc11) (zbw (v := (zI x12.e0)) zay rfl rfl zee f14 ?_)
    refine zba rfl rfl (zdw hc11) (zae (v := (zI n)) rfl ?_)
    refine zba rfl rfl (zdw hc11) (OpY.geq (x := x12.e0) (y := n) ((x12.e0 : Int) ≥ n) rfl rfl zbh ?_)
    refine zag (zbe (t := (decide ((x11.e0 : Int) < 0))) (v := (zac (decide ((x12.e0 : Int) ≥ n)))) rfl (zdw hc11) rfl ?_)
    refine zag (zae (v := (zac (decide ((x12.e0 : Int) ≥ n)))) rfl ?_)
    by_cases hc12 : (x12.e0 : Int) ≥ n
    ·
     replace h := ite_t hc12 h
     refine zbd rfl rfl (zdx hc12) (zbd rfl rfl (zdx hc12) (zbd rfl rfl (zdx hc12) (zbd rfl rfl (zdx hc12) (zbd rfl rfl (zdx hc12) (zbd rfl rfl (zdx hc12) ?_)))))
     refine zag (zbl (t := (decide ((x12.e0 : Int) ≥ n))) (v := zT) rfl (zdx hc12) rfl ?_)
     refine zag (zae (v := zT) rfl ?_)
     refine zbd rfl rfl rfl (zbd rfl rfl rfl (zbd rfl rfl rfl (zbd rfl rfl rfl (zbd rfl rfl rfl (zbd rfl rfl rfl (zbd rfl rfl rfl ?_))))))
     refine zag (zbl (t := true) (v := zT) rfl rfl rfl (zar ?_))
     obtain rfl := zad h
     refine zap ?_
     exact ⟨true, _, rfl, (zea ⟨rfl, rfl, rfl, rfl, trivial⟩), hL10, zbq, trivial⟩
    replace h := ite_f hc12 h
    refine zba rfl rfl (zdw hc12) (zae (v := l_v) rfl ?_)
    refine zba rfl rfl (zdw hc12) (zae (v := (zI i10)) rfl ?_)
    obtain ⟨x13, n12, q23, q24, -, h⟩ := zix h
    obtain ⟨b12, o12, c12, vs12, q25, q26, f15, q27⟩ := zcy f10 q24
    obtain ⟨rfl, -⟩ := rArr2Int_open q27
    refine zba rfl rfl (zdw hc12) (zbt (r := rArr2Int) (v := l_v) (n := n12) (m := (o12 + n12 * rArr2Int.sz)) zbm ti45 rfl q25 rfl q23 q24 rfl ?_)
    have f16 := (f15.part (us := [(zI x13.e1)]) 1 rfl)
    refine zba rfl rfl (zdw hc12) (zcj (i := 1) (q := (o12 + n12 * rArr2Int.sz) + 1) zby ti3 rfl rfl (by decide) rfl ?_)
    refine zba rfl rfl (zdw hc12) (zbw (v := (zI x13.e1)) zay rfl rfl zee f16 ?_)
    refine zba rfl rfl (zdw hc12) (zci (x := x13.e1) (y := 0) ((x13.e1 : Int) < 0) rfl rfl zbh ?_)
    refine zag (zbe (t := (decide ((x12.e0 : Int) ≥ n))) (v := (zac (decide ((x13.e1 : Int) < 0)))) rfl (zdw hc12) rfl ?_)
    refine zag (zae (v := (zac (decide ((x13.e1 : Int) < 0)))) rfl ?_)
    by_cases hc13 : (x13.e1 : Int) < 0
    ·
     replace h := ite_t hc13 h
     refine zbd rfl rfl (zdx hc13) (zbd rfl rfl (zdx hc13) (zbd rfl rfl (zdx hc13) (zbd rfl rfl (zdx hc13) (zbd rfl rfl (zdx hc13) (zbd rfl rfl (zdx hc13) (zbd rfl rfl (zdx hc13) ?_))))))
     refine zag (zbl (t := (decide ((x13.e1 : Int) < 0))) (v := zT) rfl (zdx hc13) rfl (zar ?_))
     obtain rfl := zad h
     refine zap ?_
     exact ⟨true, _, rfl, (zea ⟨rfl, rfl, rfl, rfl, trivial⟩), hL10, zbq, trivial⟩
    replace h := ite_f hc13 h
    refine zba rfl rfl (zdw hc13) (zae (v := l_v) rfl ?_)
    refine zba rfl rfl (zdw hc13) (zae (v := (zI i10)) rfl ?_)
    obtain ⟨x14, n13, q29, q30, -, h⟩ := zix h
    obtain ⟨b13, o13, c13, vs13, q31, q32, f17, q33⟩ := zcy f10 q30
    obtain ⟨rfl, -⟩ := rArr2Int_open q33
    refine zba rfl rfl (zdw hc13) (zbt (r := rArr2Int) (v := l_v) (n := n13) (m := (o13 + n13 * rArr2Int.sz)) zbm ti45 rfl q31 rfl q29 q30 rfl ?_)
    have f18 := (f17.part (us := [(zI x14.e1)]) 1 rfl)
    refine zba rfl rfl (zdw hc13) (zcj (i := 1) (q := (o13 + n13 * rArr2Int.sz) + 1) zby ti3 rfl rfl (by decide) rfl ?_)
    refine zba rfl rfl (zdw hc13) (zbw (v := (zI x14.e1)) zay rfl rfl zee f18 ?_)
    refine zba rfl rfl (zdw hc13) (zae (v := (zI n)) rfl ?_)
    refine zba rfl rfl (zdw hc13) (OpY.geq (x := x14.e1) (y := n) ((x14.e1 : Int) ≥ n) rfl rfl zbh ?_)
    refine zag (zbe (t := (decide ((x13.e1 : Int) < 0))) (v := (zac (decide ((x14.e1 : Int) ≥ n)))) rfl (zdw hc13) rfl (zar ?_))
    obtain rfl := zad h
    refine zap ?_
    exact ⟨(decide ((x14.e1 : Int) ≥ n)), _, rfl, (zea ⟨rfl, rfl, rfl, rfl, trivial⟩), hL10, zbq, trivial⟩
   rintro _ w11 ⟨x10, u, rfl, rfl, hL11, K11, -⟩
   replace h := g11
   try dsimp only at h
   refine zch x10 rfl (fun hc14 => ?_) (fun hc14 => ?_)
   ·
    replace h := ite_t hc14 h
    refine zam (zah rfl (zag (zai (v := zF) rfl ?_)))
    refine zar (zbv ?_)
    obtain rfl := zad h
    obtain rfl := hd10 _ rfl
    replace h := g10
    try dsimp only at h
    obtain rfl := zad h
    refine ⟨[zF], zrt, ⟨_, rfl, hL11.done, ?_⟩⟩
    exact zrt
   replace h := ite_f hc14 h
   refine zbn (zbi (zah rfl (zag (zae (v := (zI i10)) rfl ?_))))
   refine zag (zcd (x := i10) (y := 1) (z := (iw (i10 + 1))) rfl rfl rfl ?_)
   refine zag (zai (v := (zI (iw (i10 + 1)))) rfl (zar ?_))
   obtain rfl := zad h
   refine zap ⟨(iw (i10 + 1)), rfl, ?_⟩
   exact ⟨_, (zea ⟨rfl, rfl, rfl, trivial⟩), hL11, (zaj K10 K11), trivial⟩
  replace h := ite_f hc10 h
  refine zcg rfl ?_
  obtain rfl := zad h
  obtain rfl := hd10 _ rfl
  replace h := g10
  try dsimp only at h
  refine zap ?_
  exact ⟨_, rfl, (zea trivial), hL10, K10, trivial⟩
 rintro _ w12 ⟨u, rfl, rfl, hL12, K12, -⟩
 replace h := g10
 try dsimp only at h
 refine zam (zah rfl (zag (zai (v := zT) rfl ?_)))
 refine zar (zbv ?_)
 obtain rfl := zad h
 refine ⟨[zT], zrt, ⟨_, rfl, hL12.done, ?_⟩⟩
 exact zrt
theorem rSizes_w (N : Nat) (l : (List Int)) (l_v : Value) (w : World) (S : Nat → Prop) (l_h : Rs rI (vH w S [] w) l_v l) (r : Bool) (h : rSizes N l = some r) :
  Calls Try.prog 43 #[l_v] w (Ret w (fun v w' => (zac r) = v ∧ True)) := by
 unfold rSizes at h
 have hL : vL w w [] [] := Go.X.Loc.begin0 w
 refine calls_of (l := [l_v]) (rl := [.tmp 2]) (n := 22) Try.func43 rfl rfl rfl (zak rfl) ?_
 refine zam (zah rfl (zag (zai (v := zF) rfl ?_)))
 refine zar (zam (zam (zah rfl (zag (zai (v := (zI 0)) rfl (zar ?_))))))
 obtain ⟨s10, hl10, g10⟩ := zdy h
 refine zbu (fun e w' => ∃  (u : Env), (Sum.inl ()) = s10 ∧ e = upds [] u ∧ vL w w' [] [] ∧ Keep w.heap.size [] w [] w' ∧ True) ?_ ?_
 ·
  refine zbf ?_
  refine zca hl10 (fun (ss : Int) (e : Env) (w' : World) => match ss with | i10 => ∃ (u : Env), e = upds [(0, l_v), (3, (zI i10))] u ∧ vL w w' [] [] ∧ Keep w.heap.size [] w [] w' ∧ True) ⟨_, (zea ⟨rfl, rfl, trivial⟩), hL, zbq, trivial⟩ ?_
  rintro i10 oo _ w10 ⟨u, rfl, hL10, K10, -⟩ h hd10
  rw [rSizes_b1] at h
  refine zam (zam (zah rfl (zag (zae (v := (zI i10)) rfl ?_))))
  refine zag (zae (v := l_v) rfl ?_)
  have f10 := (l_h.mono (K10 S))
  refine zag (zce (v := l_v) zao rfl f10 ?_)
  refine zag (zci (x := i10) (y := (l.length : Int)) ((i10 : Int) < (l.length : Int)) rfl rfl zbh (zar ?_))
  refine zbk ((i10 : Int) < (l.length : Int)) rfl (fun hc10 => ?_) (fun hc10 => ?_)
  ·
   replace h := ite_t hc10 h
   refine zbn (zam (zbf (zam ?_)))
   obtain ⟨s11, h, g11⟩ := zdy h
   refine zbu (fun e w' => ∃ (x10 : Bool) (u : Env), x10 = s11 ∧ e = upds [(0, l_v), (3, (zI i10)), (21, (zac x10))] u ∧ vL w w' [] [] ∧ Keep w.heap.size [] w10 [] w' ∧ True) ?_ ?_
   ·
    refine zah rfl (zag (zae (v := l_v) rfl ?_))
    refine zag (zae (v := (zI i10)) rfl ?_)
    obtain ⟨x11, n10, q11, q12, -, h⟩ := zix h
    obtain ⟨b10, o10, c10, vs10, q13, q14, f11, q15⟩ := zcy f10 q12
    obtain rfl := q15
    refine zag (zbt (r := rI) (v := l_v) (n := n10) (m := (o10 + n10 * rI.sz)) zao ti3 rfl q13 rfl q11 q12 rfl ?_)
    refine zag (zbw (v := (zI x11)) zay rfl rfl zee f11 ?_)
    refine zag (zci (x := x11) (y := 0) ((x11 : Int) < 0) rfl rfl zbh ?_)
    refine zag (zae (v := (zac (decide ((x11 : Int) < 0)))) rfl ?_)
    by_cases hc11 : (x11 : Int) < 0
    ·
     replace h := ite_t hc11 h
     refine zbd rfl rfl (zdx hc11) (zbd rfl rfl (zdx hc11) (zbd rfl rfl (zdx hc11) (zbd rfl rfl (zdx hc11) (zbd rfl rfl (zdx hc11) ?_))))
     refine zag (zbl (t := (decide ((x11 : Int) < 0))) (v := zT) rfl (zdx hc11) rfl (zar ?_))
     obtain rfl := zad h
     refine zap ?_
     exact ⟨true, _, rfl, (zea ⟨rfl, rfl, rfl, trivial⟩), hL10, zbq, trivial⟩
    replace h := ite_f hc11 h
    refine zba rfl rfl (zdw hc11) (zae (v := l_v) rfl ?_)
    refine zba rfl rfl (zdw hc11) (zae (v := (zI i10)) rfl ?_)
    obtain ⟨x12, n11, q17, q18, -, h⟩ := zix h
    obtain ⟨b11, o11, c11, vs11, q19, q20, f12, q21⟩ := zcy f10 q18
    obtain rfl := q21
    refine zba rfl rfl (zdw hc11) (zbt (r := rI) (v := l_v) (n := n11) (m := (o11 + n11 * rI.sz)) zao ti3 rfl q19 rfl q17 q18 rfl ?_)
    refine zba rfl rfl (zdw hc11) (zbw (v := (zI x12)) zay rfl rfl zee f12 ?_)
    refine zba rfl rfl (zdw hc11) (OpY.gtr (x := x12) (y := 16) ((x12 : Int) > 16) rfl rfl zbh ?_)
    refine zag (zbe (t := (decide ((x11 : Int) < 0))) (v := (zac (decide ((x12 : Int) > 16)))) rfl (zdw hc11) rfl (zar ?_))
    obtain rfl := zad h
    refine zap ?_
    exact ⟨(decide ((x12 : Int) > 16)), _, rfl, (zea ⟨rfl, rfl, rfl, trivial⟩), hL10, zbq, trivial⟩
   rintro _ w11 ⟨x10, u, rfl, rfl, hL11, K11, -⟩
   replace h := g11
   try dsimp only at h
   refine zch x10 rfl (fun hc12 => ?_) (fun hc12 => ?_)
   ·
    replace h := ite_t hc12 h
    refine zam (zah rfl (zag (zai (v := zF) rfl ?_)))
    refine zar (zbv ?_)
    obtain rfl := zad h
    obtain rfl := hd10 _ rfl
    replace h := g10
    try dsimp only at h
    obtain rfl := zad h
    refine ⟨[zF], zrt, ⟨_, rfl, hL11.done, ?_⟩⟩
    exact zrt
   replace h := ite_f hc12 h
   refine zbn (zbi (zah rfl (zag (zae (v := (zI i10)) rfl ?_))))
   refine zag (zcd (x := i10) (y := 1) (z := (iw (i10 + 1))) rfl rfl rfl ?_)
   refine zag (zai (v := (zI (iw (i10 + 1)))) rfl (zar ?_))
   obtain rfl := zad h
   refine zap ⟨(iw (i10 + 1)), rfl, ?_⟩
   exact ⟨_, (zea ⟨rfl, rfl, trivial⟩), hL11, (zaj K10 K11), trivial⟩
  replace h := ite_f hc10 h
  refine zcg rfl ?_
  obtain rfl := zad h
  obtain rfl := hd10 _ rfl
  replace h := g10
  try dsimp only at h
  refine zap ?_
  exact ⟨_, rfl, (zea trivial), hL10, K10, trivial⟩
 rintro _ w12 ⟨u, rfl, rfl, hL12, K12, -⟩
 replace h := g10
 try dsimp only at h
 refine zam (zah rfl (zag (zai (v := zT) rfl ?_)))
 refine zar (zbv ?_)
 obtain rfl := zad h
 refine ⟨[zT], zrt, ⟨_, rfl, hL12.done, ?_⟩⟩
 exact zrt
theorem rValid_w (N : Nat) (p : TProb) (p_v : Value) (p_v1 : Value) (p_v2 : Value) (p_v3 : Value) (p_v4 : Value) (w : World) (S : Nat → Prop) (p_h : Rs rI (vH w S [] w) p_v p.Min) (p_h1 : Rs rI (vH w S [] w) p_v1 p.Max) (p_h2 : Rs rTTest (vH w S [] w) p_v2 p.Tests) (p_h3 : Rs rArr2Int (vH w S [] w) p_v3 p.Same) (p_h4 : Rs rArr2Int (vH w S [] w) p_v4 p.Different) (r : Bool) (h : rValid N p = some r) :
  Calls Try.prog 24 #[(zbs #[p_v, p_v1, p_v2, p_v3, p_v4])] w (Ret w (fun v w' => (zac r) = v ∧ True)) := by
 unfold rValid at h
 have hL : vL w w [] [] := Go.X.Loc.begin0 w
 refine calls_of (l := [(zbs #[p_v, p_v1, p_v2, p_v3, p_v4])]) (rl := [.tmp 2]) (n := 72) Try.func24 rfl rfl rfl (zak rfl) ?_
 refine zam (zah rfl (zag (zdt (cs := [p_v, p_v1, p_v2, p_v3, p_v4]) rfl rfl hL ?_)))
 intro b1 w2 hL3 hS5
 have K4 := ks w hS5
 refine zag (zai (v := zF) rfl ?_)
 refine zar (zam (zah rfl (zag (zat (q := 1) zbb rfl ti22 rfl rfl rfl ?_))))
 refine zag (zav (v := p_v1) zao rfl rfl (hL3.at 0 rfl rfl) rfl ?_)
 have f6 := (p_h1.mono (K4 S))
 refine zag (zce (v := p_v1) zao rfl f6 ?_)
 refine zag (zai (v := (zI (p.Max.length : Int))) rfl ?_)
 refine zar (zam (zam (zah rfl (zag (zai (v := (zI 0)) rfl (zar ?_))))))
 obtain ⟨s10, hl10, g10⟩ := zdy h
 refine zbu (fun e w' => ∃  (u : Env), (Sum.inl ()) = s10 ∧ e = upds [(1, (zal (some ⟨b1, 0, none⟩))), (3, (zI (p.Max.length : Int)))] u ∧ vL w w' [some b1] [zab [p_v, p_v1, p_v2, p_v3, p_v4]] ∧ Keep w.heap.size [some b1] w2 [some b1] w' ∧ True) ?_ ?_
 ·
  refine zbf ?_
  refine zca hl10 (fun (ss : Int) (e : Env) (w' : World) => match ss with | i10 => ∃ (u : Env), e = upds [(1, (zal (some ⟨b1, 0, none⟩))), (3, (zI (p.Max.length : Int))), (4, (zI i10))] u ∧ vL w w' [some b1] [zab [p_v, p_v1, p_v2, p_v3, p_v4]] ∧ Keep w.heap.size [some b1] w2 [some b1] w' ∧ True) ⟨_, (zea ⟨rfl, rfl, rfl, trivial⟩), hL3, zbq, trivial⟩ ?_
  rintro i10 oo _ w10 ⟨u, rfl, hL10, K10, -⟩ h hd10
  rw [rValid_b1] at h
  refine zam (zam (zah rfl (zag (zae (v := (zI i10)) rfl ?_))))
  refine zag (zat (q := 2) zbb rfl ti23 rfl rfl rfl ?_)
  refine zag (zav (v := p_v2) zbg rfl rfl (hL10.at 0 rfl rfl) rfl ?_)
  have f10 := ((p_h2.mono (K4 S)).mono (K10 S))
  refine zag (zce (v := p_v2) zbg rfl f10 ?_)
  refine zag (zci (x := i10) (y := (p.Tests.length : Int)) ((i10 : Int) < (p.Tests.length : Int)) rfl rfl zbh (zar ?_))
  refine zbk ((i10 : Int) < (p.Tests.length : Int)) rfl (fun hc10 => ?_) (fun hc10 => ?_)
  ·
   replace h := ite_t hc10 h
   refine zbn (zam (zbf (zam ?_)))
   obtain ⟨s11, h, g11⟩ := zdy h
   refine zbu (fun e w' => ∃ (x10 : Bool) (u : Env), x10 = s11 ∧ e = upds [(1, (zal (some ⟨b1, 0, none⟩))), (3, (zI (p.Max.length : Int))), (4, (zI i10)), (40, (zac x10))] u ∧ vL w w' [some b1] [zab [p_v, p_v1, p_v2, p_v3, p_v4]] ∧ Keep w.heap.size [some b1] w10 [some b1] w' ∧ True) ?_ ?_
   ·
    refine zah rfl (zag (zat (q := 2) zbb rfl ti23 rfl rfl rfl ?_))
    refine zag (zav (v := p_v2) zbg rfl rfl (hL10.at 0 rfl rfl) rfl ?_)
    refine zag (zae (v := (zI i10)) rfl ?_)
    obtain ⟨x11, n10, q11, q12, -, h⟩ := zix h
    obtain ⟨b10, o10, c10, vs10, q13, q14, f11, q15⟩ := zcy f10 q12
    obtain ⟨rfl, -⟩ := rTTest_open q15
    refine zag (zbt (r := rTTest) (v := p_v2) (n := n10) (m := (o10 + n10 * rTTest.sz)) zbg ti44 rfl q13 rfl q11 q12 rfl ?_)
    refine zag (OpY.ldRoA (vs := [(zI x11.Var), (zI x11.Kind), (zac x11.Negated), (zS x11.Text)]) zbc rfl ti44 rfl rfl zee f11 ?_)
    obtain ⟨r10, q16, h⟩ := zdy h
    refine zag (zcb en42 rfl rfl (qValid_w N x11 _ Any r10 q16) ?_)
    rintro _ w11 hE10 ⟨rfl, -⟩
    obtain ⟨hL11, K11⟩ := zl hL10 hE10
    refine zag (zdv (x := r10) rfl ?_)
    refine zag (zae (v := (zac (!r10))) rfl ?_)
    by_cases hc11 : (!r10) = true
    ·
     replace h := ite_t hc11 h
     refine zbd rfl rfl hc11 ?_
     refine zbd rfl rfl hc11 ?_
     refine zbd rfl rfl hc11 ?_
     refine zbd rfl rfl hc11 ?_
     refine zbd rfl rfl hc11 ?_
     refine zbd rfl rfl hc11 ?_
     refine zbd rfl rfl hc11 ?_
     refine zag (zbl (t := (!r10)) (v := zT) rfl hc11 rfl ?_)
     refine zag (zae (v := zT) rfl ?_)
     refine zbd rfl rfl rfl (zbd rfl rfl rfl (zbd rfl rfl rfl (zbd rfl rfl rfl (zbd rfl rfl rfl (zbd rfl rfl rfl (zbd rfl rfl rfl (zbd rfl rfl rfl ?_)))))))
     refine zag (zbl (t := true) (v := zT) rfl rfl rfl (zar ?_))
     obtain rfl := zad h
     refine zap ?_
     exact ⟨true, _, rfl, (zea ⟨rfl, rfl, rfl, rfl, trivial⟩), hL11, K11, trivial⟩
    replace h := ite_f hc11 h
    refine zba rfl rfl (zdz hc11) (zat (q := 2) zbb rfl ti23 rfl rfl rfl ?_)
    refine zba rfl rfl (zdz hc11) (zav (v := p_v2) zbg rfl rfl (hL11.at 0 rfl rfl) rfl ?_)
    refine zba rfl rfl (zdz hc11) (zae (v := (zI i10)) rfl ?_)
    obtain ⟨x12, n11, q18, q19, -, h⟩ := zix h
    have f12 := (f10.mono (K11 S))
    obtain ⟨b11, o11, c11, vs11, q20, q21, f13, q22⟩ := zcy f12 q19
    obtain ⟨rfl, -⟩ := rTTest_open q22
    refine zba rfl rfl (zdz hc11) (zbt (r := rTTest) (v := p_v2) (n := n11) (m := (o11 + n11 * rTTest.sz)) zbg ti44 rfl q20 rfl q18 q19 rfl ?_)
    have f14 := (f13.part (us := [(zI x12.Var)]) 0 rfl)
    refine zba rfl rfl (zdz hc11) (zat (q := (o11 + n11 * rTTest.sz) + 0) zbc rfl ti3 rfl rfl rfl ?_)
    refine zba rfl rfl (zdz hc11) (zbw (v := (zI x12.Var)) zay rfl rfl zee f14 ?_)
    refine zba rfl rfl (zdz hc11) (zci (x := x12.Var) (y := 0) ((x12.Var : Int) < 0) rfl rfl zbh ?_)
    refine zag (zbe (t := (!r10)) (v := (zac (decide ((x12.Var : Int) < 0)))) rfl (zdz hc11) rfl ?_)
    refine zag (zae (v := (zac (decide ((x12.Var : Int) < 0)))) rfl ?_)
    by_cases hc12 : (x12.Var : Int) < 0
    ·
     replace h := ite_t hc12 h
     refine zbd rfl rfl (zdx hc12) (zbd rfl rfl (zdx hc12) (zbd rfl rfl (zdx hc12) (zbd rfl rfl (zdx hc12) (zbd rfl rfl (zdx hc12) (zbd rfl rfl (zdx hc12) (zbd rfl rfl (zdx hc12) (zbd rfl rfl (zdx hc12) ?_)))))))
     refine zag (zbl (t := (decide ((x12.Var : Int) < 0))) (v := zT) rfl (zdx hc12) rfl (zar ?_))
     obtain rfl := zad h
     refine zap ?_
     exact ⟨true, _, rfl, (zea ⟨rfl, rfl, rfl, rfl, trivial⟩), hL11, K11, trivial⟩
    replace h := ite_f hc12 h
    refine zba rfl rfl (zdw hc12) (zat (q := 2) zbb rfl ti23 rfl rfl rfl ?_)
    refine zba rfl rfl (zdw hc12) (zav (v := p_v2) zbg rfl rfl (hL11.at 0 rfl rfl) rfl ?_)
    refine zba rfl rfl (zdw hc12) (zae (v := (zI i10)) rfl ?_)
    obtain ⟨x13, n12, q24, q25, -, h⟩ := zix h
    obtain ⟨b12, o12, c12, vs12, q26, q27, f15, q28⟩ := zcy f12 q25
    obtain ⟨rfl, -⟩ := rTTest_open q28
    refine zba rfl rfl (zdw hc12) (zbt (r := rTTest) (v := p_v2) (n := n12) (m := (o12 + n12 * rTTest.sz)) zbg ti44 rfl q26 rfl q24 q25 rfl ?_)
    have f16 := (f15.part (us := [(zI x13.Var)]) 0 rfl)
    refine zba rfl rfl (zdw hc12) (zat (q := (o12 + n12 * rTTest.sz) + 0) zbc rfl ti3 rfl rfl rfl ?_)
    refine zba rfl rfl (zdw hc12) (zbw (v := (zI x13.Var)) zay rfl rfl zee f16 ?_)
    refine zba rfl rfl (zdw hc12) (zae (v := (zI (p.Max.length : Int))) rfl ?_)
    refine zba rfl rfl (zdw hc12) (OpY.geq (x := x13.Var) (y := (p.Max.length : Int)) ((x13.Var : Int) ≥ (p.Max.length : Int)) rfl rfl zbh ?_)
    refine zag (zbe (t := (decide ((x12.Var : Int) < 0))) (v := (zac (decide ((x13.Var : Int) ≥ (p.Max.length : Int))))) rfl (zdw hc12) rfl (zar ?_))
    obtain rfl := zad h
    refine zap ?_
    exact ⟨(decide ((x13.Var : Int) ≥ (p.Max.length : Int))), _, rfl, (zea ⟨rfl, rfl, rfl, rfl, trivial⟩), hL11, K11, trivial⟩
   rintro _ w12 ⟨x10, u, rfl, rfl, hL12, K12, -⟩
   replace h := g11
   try dsimp only at h
   refine zch x10 rfl (fun hc13 => ?_) (fun hc13 => ?_)
   ·
    replace h := ite_t hc13 h
    refine zam (zah rfl (zag (zai (v := zF) rfl ?_)))
    refine zar (zbv ?_)
    obtain rfl := zad h
    obtain rfl := hd10 _ rfl
    replace h := g10
    try dsimp only at h
    obtain rfl := zad h
    refine ⟨[zF], zrt, ⟨_, rfl, hL12.done, ?_⟩⟩
    exact zrt
   replace h := ite_f hc13 h
   refine zbn (zbi (zah rfl (zag (zae (v := (zI i10)) rfl ?_))))
   refine zag (zcd (x := i10) (y := 1) (z := (iw (i10 + 1))) rfl rfl rfl ?_)
   refine zag (zai (v := (zI (iw (i10 + 1)))) rfl (zar ?_))
   obtain rfl := zad h
   refine zap ⟨(iw (i10 + 1)), rfl, ?_⟩
   exact ⟨_, (zea ⟨rfl, rfl, rfl, trivial⟩), hL12, (zaj K10 K12), trivial⟩
  replace h := ite_f hc10 h
  refine zcg rfl ?_
  obtain rfl := zad h
  obtain rfl := hd10 _ rfl
  replace h := g10
  try dsimp only at h
  refine zap ?_
  exact ⟨_, rfl, (zea ⟨rfl, rfl, trivial⟩), hL10, K10, trivial⟩
 rintro _ w13 ⟨u, rfl, rfl, hL13, K13, -⟩
 replace h := g10
 try dsimp only at h
 refine zam (zah rfl (zag (zat (q := 0) zbb rfl ti22 rfl rfl rfl ?_)))
 refine zag (zav (v := p_v) zao rfl rfl (hL13.at 0 rfl rfl) rfl ?_)
 have f17 := ((p_h.mono (K4 S)).mono (K13 S))
 refine zag (zce (v := p_v) zao rfl f17 ?_)
 refine zag (zae (v := (zI (p.Max.length : Int))) rfl ?_)
 refine zag (zcx (x := (p.Min.length : Int)) (y := (p.Max.length : Int)) (((p.Min.length : Int) : Int) = (p.Max.length : Int)) rfl rfl zbh ?_)
 refine zag (zae (v := (zac (decide (((p.Min.length : Int) : Int) = (p.Max.length : Int))))) rfl ?_)
 by_cases hc14 : ((p.Min.length : Int) : Int) = (p.Max.length : Int)
 ·
  replace h := ite_t hc14 h
  refine zba rfl rfl (zdx hc14) (zae (v := (zI (p.Max.length : Int))) rfl ?_)
  refine zba rfl rfl (zdx hc14) (OpY.leq (x := (p.Max.length : Int)) (y := 128) (((p.Max.length : Int) : Int) ≤ 128) rfl rfl zbh ?_)
  refine zag (zbl (t := (decide (((p.Min.length : Int) : Int) = (p.Max.length : Int)))) (v := (zac (decide (((p.Max.length : Int) : Int) ≤ 128)))) rfl (zdx hc14) rfl ?_)
  refine zag (zae (v := (zac (decide (((p.Max.length : Int) : Int) ≤ 128)))) rfl ?_)
  by_cases hc15 : ((p.Max.length : Int) : Int) ≤ 128
  ·
   replace h := ite_t hc15 h
   refine zba rfl rfl (zdx hc15) (zat (q := 0) zbb rfl ti22 rfl rfl rfl ?_)
   refine zba rfl rfl (zdx hc15) (zav (v := p_v) zao rfl rfl (hL13.at 0 rfl rfl) rfl ?_)
   obtain ⟨r11, q29, h⟩ := zdy h
   refine zba rfl rfl (zdx hc15) (zcb en43 rfl rfl (rSizes_w N p.Min p_v _ Any (f17.mono vw_any) r11 q29) ?_)
   rintro _ w14 hE11 ⟨rfl, -⟩
   obtain ⟨hL14, K14⟩ := zl hL13 hE11
   refine zag (zbl (t := (decide (((p.Max.length : Int) : Int) ≤ 128))) (v := (zac r11)) rfl (zdx hc15) rfl ?_)
   refine zag (zae (v := (zac r11)) rfl ?_)
   by_cases hc16 : r11 = true
   ·
    replace h := ite_t hc16 h
    refine zba rfl rfl hc16 (zat (q := 1) zbb rfl ti22 rfl rfl rfl ?_)
    refine zba rfl rfl hc16 (zav (v := p_v1) zao rfl rfl (hL14.at 0 rfl rfl) rfl ?_)
    obtain ⟨r12, q30, h⟩ := zdy h
    have f18 := ((f6.mono (K13 S)).mono (K14 S))
    refine zba rfl rfl hc16 (zcb en43 rfl rfl (rSizes_w N p.Max p_v1 _ Any (f18.mono vw_any) r12 q30) ?_)
    rintro _ w15 hE12 ⟨rfl, -⟩
    obtain ⟨hL15, K15⟩ := zl hL14 hE12
    refine zag (zbl (t := r11) (v := (zac r12)) rfl hc16 rfl ?_)
    refine zag (zae (v := (zac r12)) rfl ?_)
    by_cases hc17 : r12 = true
    ·
     replace h := ite_t hc17 h
     refine zba rfl rfl hc17 (zat (q := 3) zbb rfl ti24 rfl rfl rfl ?_)
     refine zba rfl rfl hc17 (zav (v := p_v3) zbm rfl rfl (hL15.at 0 rfl rfl) rfl ?_)
     refine zba rfl rfl hc17 (zae (v := (zI (p.Max.length : Int))) rfl ?_)
     obtain ⟨r13, q31, h⟩ := zdy h
     have f19 := ((((p_h3.mono (K4 S)).mono (K13 S)).mono (K14 S)).mono (K15 S))
     refine zba rfl rfl hc17 (zcb en44 rfl rfl (rPairs_w N p.Same (p.Max.length : Int) p_v3 _ Any (f19.mono vw_any) r13 q31) ?_)
     rintro _ w16 hE13 ⟨rfl, -⟩
     obtain ⟨hL16, K16⟩ := zl hL15 hE13
     refine zag (zbl (t := r12) (v := (zac r13)) rfl hc17 rfl ?_)
     refine zag (zae (v := (zac r13)) rfl ?_)
     by_cases hc18 : r13 = true
     ·
      replace h := ite_t hc18 h
      refine zba rfl rfl hc18 (zat (q := 4) zbb rfl ti24 rfl rfl rfl ?_)
      refine zba rfl rfl hc18 (zav (v := p_v4) zbm rfl rfl (hL16.at 0 rfl rfl) rfl ?_)
      refine zba rfl rfl hc18 (zae (v := (zI (p.Max.length : Int))) rfl ?_)
      obtain ⟨r14, q32, h⟩ := zdy h
      have f20 := (((((p_h4.mono (K4 S)).mono (K13 S)).mono (K14 S)).mono (K15 S)).mono (K16 S))
      refine zba rfl rfl hc18 (zcb en44 rfl rfl (rPairs_w N p.Different (p.Max.length : Int) p_v4 _ Any (f20.mono vw_any) r14 q32) ?_)
      rintro _ w17 hE14 ⟨rfl, -⟩
      have hL17 := hL16.ext hE14
      refine zag (zbl (t := r13) (v := (zac r14)) rfl hc18 rfl ?_)
      refine zag (zai (v := (zac r14)) rfl ?_)
      refine zar (zbv ?_)
      obtain rfl := zad h
      refine ⟨[(zac r14)], zrt, ⟨_, rfl, hL17.done, ?_⟩⟩
      exact zrt
     replace h := ite_f hc18 h
     refine zbd rfl rfl (zdz hc18) (zbd rfl rfl (zdz hc18) (zbd rfl rfl (zdz hc18) (zbd rfl rfl (zdz hc18) ?_)))
     refine zag (zbe (t := r13) (v := zF) rfl (zdz hc18) rfl ?_)
     refine zag (zai (v := zF) rfl ?_)
     refine zar (zbv ?_)
     obtain rfl := zad h
     refine ⟨[zF], zrt, ⟨_, rfl, hL16.done, ?_⟩⟩
     exact zrt
    replace h := ite_f hc17 h
    refine zbd rfl rfl (zdz hc17) (zbd rfl rfl (zdz hc17) (zbd rfl rfl (zdz hc17) (zbd rfl rfl (zdz hc17) ?_)))
    refine zag (zbe (t := r12) (v := zF) rfl (zdz hc17) rfl ?_)
    refine zag (zae (v := zF) rfl ?_)
    refine zbd rfl rfl rfl (zbd rfl rfl rfl (zbd rfl rfl rfl (zbd rfl rfl rfl ?_)))
    refine zag (zbe (t := false) (v := zF) rfl rfl rfl ?_)
    refine zag (zai (v := zF) rfl ?_)
    refine zar (zbv ?_)
    obtain rfl := zad h
    refine ⟨[zF], zrt, ⟨_, rfl, hL15.done, ?_⟩⟩
    exact zrt
   replace h := ite_f hc16 h
   refine zbd rfl rfl (zdz hc16) (zbd rfl rfl (zdz hc16) (zbd rfl rfl (zdz hc16) ?_))
   refine zag (zbe (t := r11) (v := zF) rfl (zdz hc16) rfl ?_)
   refine zag (zae (v := zF) rfl ?_)
   refine zbd rfl rfl rfl (zbd rfl rfl rfl (zbd rfl rfl rfl (zbd rfl rfl rfl ?_)))
   refine zag (zbe (t := false) (v := zF) rfl rfl rfl ?_)
   refine zag (zae (v := zF) rfl ?_)
   refine zbd rfl rfl rfl (zbd rfl rfl rfl (zbd rfl rfl rfl (zbd rfl rfl rfl ?_)))
   refine zag (zbe (t := false) (v := zF) rfl rfl rfl ?_)
   refine zag (zai (v := zF) rfl ?_)
   refine zar (zbv ?_)
   obtain rfl := zad h
   refine ⟨[zF], zrt, ⟨_, rfl, hL14.done, ?_⟩⟩
   exact zrt
  replace h := ite_f hc15 h
  refine zbd rfl rfl (zdw hc15) (zbd rfl rfl (zdw hc15) (zbd rfl rfl (zdw hc15) ?_))
  refine zag (zbe (t := (decide (((p.Max.length : Int) : Int) ≤ 128))) (v := zF) rfl (zdw hc15) rfl ?_)
  refine zag (zae (v := zF) rfl ?_)
  refine zbd rfl rfl rfl (zbd rfl rfl rfl (zbd rfl rfl rfl ?_))
  refine zag (zbe (t := false) (v := zF) rfl rfl rfl ?_)
  refine zag (zae (v := zF) rfl ?_)
  refine zbd rfl rfl rfl (zbd rfl rfl rfl (zbd rfl rfl rfl (zbd rfl rfl rfl ?_)))
  refine zag (zbe (t := false) (v := zF) rfl rfl rfl ?_)
  refine zag (zae (v := zF) rfl ?_)
  refine zbd rfl rfl rfl (zbd rfl rfl rfl (zbd rfl rfl rfl (zbd rfl rfl rfl ?_)))
  refine zag (zbe (t := false) (v := zF) rfl rfl rfl ?_)
  refine zag (zai (v := zF) rfl ?_)
  refine zar (zbv ?_)
  obtain rfl := zad h
  refine ⟨[zF], zrt, ⟨_, rfl, hL13.done, ?_⟩⟩
  exact zrt
 replace h := ite_f hc14 h
 refine zbd rfl rfl (zdw hc14) (zbd rfl rfl (zdw hc14) ?_)
 refine zag (zbe (t := (decide (((p.Min.length : Int) : Int) = (p.Max.length : Int)))) (v := zF) rfl (zdw hc14) rfl ?_)
 refine zag (zae (v := zF) rfl ?_)
 refine zbd rfl rfl rfl (zbd rfl rfl rfl (zbd rfl rfl rfl ?_))
 refine zag (zbe (t := false) (v := zF) rfl rfl rfl ?_)
 refine zag (zae (v := zF) rfl ?_)
 refine zbd rfl rfl rfl (zbd rfl rfl rfl (zbd rfl rfl rfl ?_))
 refine zag (zbe (t := false) (v := zF) rfl rfl rfl ?_)
 refine zag (zae (v := zF) rfl ?_)
 refine zbd rfl rfl rfl (zbd rfl rfl rfl (zbd rfl rfl rfl (zbd rfl rfl rfl ?_)))
 refine zag (zbe (t := false) (v := zF) rfl rfl rfl ?_)
 refine zag (zae (v := zF) rfl ?_)
 refine zbd rfl rfl rfl (zbd rfl rfl rfl (zbd rfl rfl rfl (zbd rfl rfl rfl ?_)))
 refine zag (zbe (t := false) (v := zF) rfl rfl rfl ?_)
 refine zag (zai (v := zF) rfl ?_)
 refine zar (zbv ?_)
 obtain rfl := zad h
 refine ⟨[zF], zrt, ⟨_, rfl, hL13.done, ?_⟩⟩
 exact zrt
theorem rSatisfies_w (N : Nat) (p : TProb) (texts : (List (List UInt8))) (p_v : Value) (p_v1 : Value) (p_v2 : Value) (p_v3 : Value) (p_v4 : Value) (texts_v : Value) (w : World) (S : Nat → Prop) (p_h : Rs rI (vH w S [] w) p_v p.Min) (p_h1 : Rs rI (vH w S [] w) p_v1 p.Max) (p_h2 : Rs rTTest (vH w S [] w) p_v2 p.Tests) (p_h3 : Rs rArr2Int (vH w S [] w) p_v3 p.Same) (p_h4 : Rs rArr2Int (vH w S [] w) p_v4 p.Different) (texts_h : Rs rStr (vH w S [] w) texts_v texts) (r : Bool) (h : rSatisfies N p texts = some r) :
  Calls Try.prog 15 #[(zbs #[p_v, p_v1, p_v2, p_v3, p_v4]), texts_v] w (Ret w (fun v w' => (zac r) = v ∧ True)) := by
 unfold rSatisfies at h
 have hL : vL w w [] [] := Go.X.Loc.begin0 w
 refine calls_of (l := [(zbs #[p_v, p_v1, p_v2, p_v3, p_v4]), texts_v]) (rl := [.tmp 4]) (n := 128) Try.func15 rfl rfl rfl (zak rfl) ?_
 refine zam (zah rfl (zag (zdt (cs := [p_v, p_v1, p_v2, p_v3, p_v4]) rfl rfl hL ?_)))
 intro b1 w2 hL3 hS5
 have K4 := ks w hS5
 refine zag (zai (v := zF) rfl ?_)
 refine zar (zam (zam (zah rfl (zag (zae (v := texts_v) rfl ?_)))))
 have f6 := (texts_h.mono (K4 S))
 refine zag (zce (v := texts_v) zaz rfl f6 ?_)
 refine zag (zat (q := 1) zbb rfl ti22 rfl rfl rfl ?_)
 refine zag (zav (v := p_v1) zao rfl rfl (hL3.at 0 rfl rfl) rfl ?_)
 have f7 := (p_h1.mono (K4 S))
 refine zag (zce (v := p_v1) zao rfl f7 ?_)
 refine zag (OpY.neq (x := (texts.length : Int)) (y := (p.Max.length : Int)) (((texts.length : Int) : Int) ≠ (p.Max.length : Int)) rfl rfl zbh (zar ?_))
 refine zbk (((texts.length : Int) : Int) ≠ (p.Max.length : Int)) rfl (fun hc8 => ?_) (fun hc8 => ?_)
 ·
  replace h := ite_t hc8 h
  refine zam (zah rfl (zag (zai (v := zF) rfl ?_)))
  refine zar (zbv ?_)
  obtain rfl := zad h
  refine ⟨[zF], zrt, ⟨_, rfl, hL3.done, ?_⟩⟩
  exact zrt
 replace h := ite_f hc8 h
 refine zbn (zam (zam (zah rfl (zag (zai (v := (zI 0)) rfl (zar ?_))))))
 obtain ⟨s10, hl10, g10⟩ := zdy h
 refine zbu (fun e w' => ∃  (u : Env), (Sum.inl ()) = s10 ∧ e = upds [(1, texts_v), (2, (zal (some ⟨b1, 0, none⟩)))] u ∧ vL w w' [some b1] [zab [p_v, p_v1, p_v2, p_v3, p_v4]] ∧ Keep w.heap.size [some b1] w2 [some b1] w' ∧ True) ?_ ?_
 ·
  refine zbf ?_
  refine zca hl10 (fun (ss : Int) (e : Env) (w' : World) => match ss with | i10 => ∃ (u : Env), e = upds [(1, texts_v), (2, (zal (some ⟨b1, 0, none⟩))), (5, (zI i10))] u ∧ vL w w' [some b1] [zab [p_v, p_v1, p_v2, p_v3, p_v4]] ∧ Keep w.heap.size [some b1] w2 [some b1] w' ∧ True) ⟨_, (zea ⟨rfl, rfl, rfl, trivial⟩), hL3, zbq, trivial⟩ ?_
  rintro i10 oo _ w10 ⟨u, rfl, hL10, K10, -⟩ h hd10
  rw [rSatisfies_b1] at h
  refine zam (zam (zah rfl (zag (zae (v := (zI i10)) rfl ?_))))
  refine zag (zae (v := texts_v) rfl ?_)
  have f10 := (f6.mono (K10 S))
  refine zag (zce (v := texts_v) zaz rfl f10 ?_)
  refine zag (zci (x := i10) (y := (texts.length : Int)) ((i10 : Int) < (texts.length : Int)) rfl rfl zbh (zar ?_))
  refine zbk ((i10 : Int) < (texts.length : Int)) rfl (fun hc10 => ?_) (fun hc10 => ?_)
  ·
   replace h := ite_t hc10 h
   refine zbn (zam (zbf (zam ?_)))
   obtain ⟨s11, h, g11⟩ := zdy h
   refine zbu (fun e w' => ∃ (x10 : Bool) (u : Env), x10 = s11 ∧ e = upds [(1, texts_v), (2, (zal (some ⟨b1, 0, none⟩))), (5, (zI i10)), (52, (zac x10))] u ∧ vL w w' [some b1] [zab [p_v, p_v1, p_v2, p_v3, p_v4]] ∧ Keep w.heap.size [some b1] w10 [some b1] w' ∧ True) ?_ ?_
   ·
    obtain ⟨x11, n10, q11, q12, -, h⟩ := zix h
    obtain ⟨b10, o10, c10, vs10, q13, q14, f11, q15⟩ := zcy f10 q12
    obtain rfl := q15
    obtain ⟨x12, n11, q17, q18, -, h⟩ := zix h
    have f12 := ((p_h.mono (K4 S)).mono (K10 S))
    obtain ⟨b11, o11, c11, vs11, q19, q20, f13, q21⟩ := zcy f12 q18
    obtain rfl := q21
    by_cases hc11 : ((x11.length : Int) : Int) < x12
    ·
     replace h := ite_t hc11 h
     refine zcz 27 [] [] (fun W1 => [.det texts_v, .det (zI i10), .det (zal (some ⟨b10, (o10 + n10 * rStr.sz), none⟩)), .det (zS x11), .det (zI (x11.length : Int)), .det (zal (some ⟨b1, 0, none⟩)), .det p_v, .det (zI i10), .det (zal (some ⟨b11, (o11 + n11 * rI.sz), none⟩)), .det (zI x12), .det (zac (decide (((x11.length : Int) : Int) < x12))), .det (zac (decide (((x11.length : Int) : Int) < x12))), .det undef, .det undef, .det undef, .det undef, .det undef, .det undef, .det undef, .det undef, .det undef, .det undef, .det undef, .det zT, .det zT, .det undef, .det undef]) mixed rfl rfl rfl (fun _ => rfl) (fun _ => rfl) ?_ ?_
     ·
      intro W1 _
      exact trivial
     intro w11 hE10
     obtain ⟨hL11, K11⟩ := zl hL10 hE10
     refine zax (fun _ _ => zaq (zae rfl (er rfl))) ?_
     refine zax (fun _ _ => zaq (zae rfl (er rfl))) ?_
     refine zax (fun _ _ => zaq (zbt (r := rStr) (v := texts_v) (n := n10) (m := (o10 + n10 * rStr.sz)) zaz ti9 rfl q13 rfl q11 q12 rfl (er rfl))) ?_
     refine zax (fun _ hE14 => zaq (zbw zaw rfl rfl zee (zbx ((ke hL11 hE14) S) (zbx (K11 S) f11)) (er rfl))) ?_
     refine zax (fun _ _ => zaq (zdb zaw rfl (er rfl))) ?_
     refine zax (fun _ _ => zaq (zat zbb rfl ti22 rfl rfl rfl (er rfl))) ?_
     refine zax (fun _ hE17 => zaq (zav zao rfl rfl ((hL11.ext hE17).at 0 rfl rfl) rfl (er rfl))) ?_
     refine zax (fun _ _ => zaq (zae rfl (er rfl))) ?_
     refine zax (fun _ _ => zaq (zbt (r := rI) (v := p_v) (n := n11) (m := (o11 + n11 * rI.sz)) zao ti3 rfl q19 rfl q17 q18 rfl (er rfl))) ?_
     refine zax (fun _ hE20 => zaq (zbw zay rfl rfl zee (zbx ((ke hL11 hE20) S) (zbx (K11 S) f13)) (er rfl))) ?_
     refine zax (fun _ _ => zaq (zci (((x11.length : Int) : Int) < x12) rfl rfl zbh (er rfl))) ?_
     refine zax (fun _ _ => zaq (zae rfl (er rfl))) ?_
     refine zax (fun _ _ => zdd rfl rfl (zdx hc11) (er rfl)) ?_
     refine zax (fun _ _ => zdd rfl rfl (zdx hc11) (er rfl)) ?_
     refine zax (fun _ _ => zdd rfl rfl (zdx hc11) (er rfl)) ?_
     refine zax (fun _ _ => zdd rfl rfl (zdx hc11) (er rfl)) ?_
     refine zax (fun _ _ => zdd rfl rfl (zdx hc11) (er rfl)) ?_
     refine zax (fun _ _ => zdd rfl rfl (zdx hc11) (er rfl)) ?_
     refine zax (fun _ _ => zdd rfl rfl (zdx hc11) (er rfl)) ?_
     refine zax (fun _ _ => zdd rfl rfl (zdx hc11) (er rfl)) ?_
     refine zax (fun _ _ => zdd rfl rfl (zdx hc11) (er rfl)) ?_
     refine zax (fun _ _ => zdd rfl rfl (zdx hc11) (er rfl)) ?_
     refine zax (fun _ _ => zdd rfl rfl (zdx hc11) (er rfl)) ?_
     refine zax (fun _ _ => zaq (zbl rfl (zdx hc11) rfl (er rfl))) ?_
     refine zax (fun _ _ => zaq (zae rfl (er rfl))) ?_
     refine zax (fun _ _ => zdd rfl rfl rfl (er rfl)) ?_
     refine zax (fun _ _ => zdd rfl rfl rfl (er rfl)) ?_
     refine zdg ?_
     rintro w39 Z46 hE38 hZ37 ⟨-⟩ ap10
     have hB10 := @zhb w11 Z46
     obtain ⟨hL13, K14⟩ := zl hL11 hE38
     refine zbd rfl rfl rfl (zbd rfl rfl rfl (zbd rfl rfl rfl (zbd rfl rfl rfl ?_)))
     refine zag (zbl (t := true) (v := zT) rfl rfl rfl (zar ?_))
     obtain rfl := zad h
     refine zap ?_
     exact ⟨true, _, rfl, (zea ⟨rfl, rfl, rfl, rfl, trivial⟩), hL13, (zaj K11 K14), trivial⟩
    replace h := ite_f hc11 h
    obtain ⟨x13, n12, q23, q24, -, h⟩ := zix h
    obtain ⟨b12, o12, c12, vs12, q25, q26, f14, q27⟩ := zcy f10 q24
    obtain rfl := q27
    obtain ⟨x14, n13, q29, q30, -, h⟩ := zix h
    have f15 := (f7.mono (K10 S))
    obtain ⟨b13, o13, c13, vs13, q31, q32, f16, q33⟩ := zcy f15 q30
    obtain rfl := q33
    by_cases hc12 : ((x13.length : Int) : Int) > x14
    ·
     replace h := ite_t hc12 h
     refine zcz 27 [] [] (fun W1 => [.det texts_v, .det (zI i10), .det (zal (some ⟨b10, (o10 + n10 * rStr.sz), none⟩)), .det (zS x11), .det (zI (x11.length : Int)), .det (zal (some ⟨b1, 0, none⟩)), .det p_v, .det (zI i10), .det (zal (some ⟨b11, (o11 + n11 * rI.sz), none⟩)), .det (zI x12), .det (zac (decide (((x11.length : Int) : Int) < x12))), .det (zac (decide (((x11.length : Int) : Int) < x12))), .det texts_v, .det (zI i10), .det (zal (some ⟨b12, (o12 + n12 * rStr.sz), none⟩)), .det (zS x13), .det (zI (x13.length : Int)), .det (zal (some ⟨b1, 1, none⟩)), .det p_v1, .det (zI i10), .det (zal (some ⟨b13, (o13 + n13 * rI.sz), none⟩)), .det (zI x14), .det (zac (decide (((x13.length : Int) : Int) > x14))), .det (zac (decide (((x13.length : Int) : Int) > x14))), .det (zac (decide (((x13.length : Int) : Int) > x14))), .det undef, .det undef]) mixed rfl rfl rfl (fun _ => rfl) (fun _ => rfl) ?_ ?_
     ·
      intro W1 _
      exact trivial
     intro w40 hE39
     obtain ⟨hL14, K15⟩ := zl hL10 hE39
     refine zax (fun _ _ => zaq (zae rfl (er rfl))) ?_
     refine zax (fun _ _ => zaq (zae rfl (er rfl))) ?_
     refine zax (fun _ _ => zaq (zbt (r := rStr) (v := texts_v) (n := n10) (m := (o10 + n10 * rStr.sz)) zaz ti9 rfl q13 rfl q11 q12 rfl (er rfl))) ?_
     refine zax (fun _ hE43 => zaq (zbw zaw rfl rfl zee (zbx ((ke hL14 hE43) S) (zbx (K15 S) f11)) (er rfl))) ?_
     refine zax (fun _ _ => zaq (zdb zaw rfl (er rfl))) ?_
     refine zax (fun _ _ => zaq (zat zbb rfl ti22 rfl rfl rfl (er rfl))) ?_
     refine zax (fun _ hE46 => zaq (zav zao rfl rfl ((hL14.ext hE46).at 0 rfl rfl) rfl (er rfl))) ?_
     refine zax (fun _ _ => zaq (zae rfl (er rfl))) ?_
     refine zax (fun _ _ => zaq (zbt (r := rI) (v := p_v) (n := n11) (m := (o11 + n11 * rI.sz)) zao ti3 rfl q19 rfl q17 q18 rfl (er rfl))) ?_
     refine zax (fun _ hE49 => zaq (zbw zay rfl rfl zee (zbx ((ke hL14 hE49) S) (zbx (K15 S) f13)) (er rfl))) ?_
     refine zax (fun _ _ => zaq (zci (((x11.length : Int) : Int) < x12) rfl rfl zbh (er rfl))) ?_
     refine zax (fun _ _ => zaq (zae rfl (er rfl))) ?_
     refine zax (fun _ _ => zcm rfl rfl (zdw hc11) (zae rfl (er rfl))) ?_
     refine zax (fun _ _ => zcm rfl rfl (zdw hc11) (zae rfl (er rfl))) ?_
     refine zax (fun _ _ => zcm rfl rfl (zdw hc11) (zbt (r := rStr) (v := texts_v) (n := n12) (m := (o12 + n12 * rStr.sz)) zaz ti9 rfl q25 rfl q23 q24 rfl (er rfl))) ?_
     refine zax (fun _ hE55 => zcm rfl rfl (zdw hc11) (zbw zaw rfl rfl zee (zbx ((ke hL14 hE55) S) (zbx (K15 S) f14)) (er rfl))) ?_
     refine zax (fun _ _ => zcm rfl rfl (zdw hc11) (zdb zaw rfl (er rfl))) ?_
     refine zax (fun _ _ => zcm rfl rfl (zdw hc11) (zat zbb rfl ti22 rfl rfl rfl (er rfl))) ?_
     refine zax (fun _ hE58 => zcm rfl rfl (zdw hc11) (zav zao rfl rfl ((hL14.ext hE58).at 0 rfl rfl) rfl (er rfl))) ?_
     refine zax (fun _ _ => zcm rfl rfl (zdw hc11) (zae rfl (er rfl))) ?_
     refine zax (fun _ _ => zcm rfl rfl (zdw hc11) (zbt (r := rI) (v := p_v1) (n := n13) (m := (o13 + n13 * rI.sz)) zao ti3 rfl q31 rfl q29 q30 rfl (er rfl))) ?_
     refine zax (fun _ hE61 => zcm rfl rfl (zdw hc11) (zbw zay rfl rfl zee (zbx ((ke hL14 hE61) S) (zbx (K15 S) f16)) (er rfl))) ?_
     refine zax (fun _ _ => zcm rfl rfl (zdw hc11) (OpY.gtr (((x13.length : Int) : Int) > x14) rfl rfl zbh (er rfl))) ?_
     refine zax (fun _ _ => zaq (zbe rfl (zdw hc11) rfl (er rfl))) ?_
     refine zax (fun _ _ => zaq (zae rfl (er rfl))) ?_
     refine zax (fun _ _ => zdd rfl rfl (zdx hc12) (er rfl)) ?_
     refine zax (fun _ _ => zdd rfl rfl (zdx hc12) (er rfl)) ?_
     refine zdg ?_
     rintro w68 Z74 hE67 hZ65 ⟨-⟩ ap11
     have hB11 := @zhb w40 Z74
     obtain ⟨hL17, K20⟩ := zl hL14 hE67
     refine zbd rfl rfl (zdx hc12) (zbd rfl rfl (zdx hc12) (zbd rfl rfl (zdx hc12) (zbd rfl rfl (zdx hc12) ?_)))
     refine zag (zbl (t := (decide (((x13.length : Int) : Int) > x14))) (v := zT) rfl (zdx hc12) rfl (zar ?_))
     obtain rfl := zad h
     refine zap ?_
     exact ⟨true, _, rfl, (zea ⟨rfl, rfl, rfl, rfl, trivial⟩), hL17, (zaj K15 K20), trivial⟩
    replace h := ite_f hc12 h
    refine zcz 27 [] [] (fun W1 => [.det texts_v, .det (zI i10), .det (zal (some ⟨b10, (o10 + n10 * rStr.sz), none⟩)), .det (zS x11), .det (zI (x11.length : Int)), .det (zal (some ⟨b1, 0, none⟩)), .det p_v, .det (zI i10), .det (zal (some ⟨b11, (o11 + n11 * rI.sz), none⟩)), .det (zI x12), .det (zac (decide (((x11.length : Int) : Int) < x12))), .det (zac (decide (((x11.length : Int) : Int) < x12))), .det texts_v, .det (zI i10), .det (zal (some ⟨b12, (o12 + n12 * rStr.sz), none⟩)), .det (zS x13), .det (zI (x13.length : Int)), .det (zal (some ⟨b1, 1, none⟩)), .det p_v1, .det (zI i10), .det (zal (some ⟨b13, (o13 + n13 * rI.sz), none⟩)), .det (zI x14), .det (zac (decide (((x13.length : Int) : Int) > x14))), .det (zac (decide (((x13.length : Int) : Int) > x14))), .det (zac (decide (((x13.length : Int) : Int) > x14))), .det texts_v, .det (zI i10)]) mixed rfl rfl rfl (fun _ => rfl) (fun _ => rfl) ?_ ?_
    ·
     intro W1 _
     exact trivial
    intro w69 hE68
    obtain ⟨hL18, K21⟩ := zl hL10 hE68
    refine zax (fun _ _ => zaq (zae rfl (er rfl))) ?_
    refine zax (fun _ _ => zaq (zae rfl (er rfl))) ?_
    refine zax (fun _ _ => zaq (zbt (r := rStr) (v := texts_v) (n := n10) (m := (o10 + n10 * rStr.sz)) zaz ti9 rfl q13 rfl q11 q12 rfl (er rfl))) ?_
    refine zax (fun _ hE72 => zaq (zbw zaw rfl rfl zee (zbx ((ke hL18 hE72) S) (zbx (K21 S) f11)) (er rfl))) ?_
    refine zax (fun _ _ => zaq (zdb zaw rfl (er rfl))) ?_
    refine zax (fun _ _ => zaq (zat zbb rfl ti22 rfl rfl rfl (er rfl))) ?_
    refine zax (fun _ hE75 => zaq (zav zao rfl rfl ((hL18.ext hE75).at 0 rfl rfl) rfl (er rfl))) ?_
    refine zax (fun _ _ => zaq (zae rfl (er rfl))) ?_
    refine zax (fun _ _ => zaq (zbt (r := rI) (v := p_v) (n := n11) (m := (o11 + n11 * rI.sz)) zao ti3 rfl q19 rfl q17 q18 rfl (er rfl))) ?_
    refine zax (fun _ hE78 => zaq (zbw zay rfl rfl zee (zbx ((ke hL18 hE78) S) (zbx (K21 S) f13)) (er rfl))) ?_
    refine zax (fun _ _ => zaq (zci (((x11.length : Int) : Int) < x12) rfl rfl zbh (er rfl))) ?_
    refine zax (fun _ _ => zaq (zae rfl (er rfl))) ?_
    refine zax (fun _ _ => zcm rfl rfl (zdw hc11) (zae rfl (er rfl))) ?_
    refine zax (fun _ _ => zcm rfl rfl (zdw hc11) (zae rfl (er rfl))) ?_
    refine zax (fun _ _ => zcm rfl rfl (zdw hc11) (zbt (r := rStr) (v := texts_v) (n := n12) (m := (o12 + n12 * rStr.sz)) zaz ti9 rfl q25 rfl q23 q24 rfl (er rfl))) ?_
    refine zax (fun _ hE84 => zcm rfl rfl (zdw hc11) (zbw zaw rfl rfl zee (zbx ((ke hL18 hE84) S) (zbx (K21 S) f14)) (er rfl))) ?_
    refine zax (fun _ _ => zcm rfl rfl (zdw hc11) (zdb zaw rfl (er rfl))) ?_
    refine zax (fun _ _ => zcm rfl rfl (zdw hc11) (zat zbb rfl ti22 rfl rfl rfl (er rfl))) ?_
    refine zax (fun _ hE87 => zcm rfl rfl (zdw hc11) (zav zao rfl rfl ((hL18.ext hE87).at 0 rfl rfl) rfl (er rfl))) ?_
    refine zax (fun _ _ => zcm rfl rfl (zdw hc11) (zae rfl (er rfl))) ?_
    refine zax (fun _ _ => zcm rfl rfl (zdw hc11) (zbt (r := rI) (v := p_v1) (n := n13) (m := (o13 + n13 * rI.sz)) zao ti3 rfl q31 rfl q29 q30 rfl (er rfl))) ?_
    refine zax (fun _ hE90 => zcm rfl rfl (zdw hc11) (zbw zay rfl rfl zee (zbx ((ke hL18 hE90) S) (zbx (K21 S) f16)) (er rfl))) ?_
    refine zax (fun _ _ => zcm rfl rfl (zdw hc11) (OpY.gtr (((x13.length : Int) : Int) > x14) rfl rfl zbh (er rfl))) ?_
    refine zax (fun _ _ => zaq (zbe rfl (zdw hc11) rfl (er rfl))) ?_
    refine zax (fun _ _ => zaq (zae rfl (er rfl))) ?_
    refine zax (fun _ _ => zcm rfl rfl (zdw hc12) (zae rfl (er rfl))) ?_
    refine zax (fun _ _ => zcm rfl rfl (zdw hc12) (zae rfl (er rfl))) ?_
    refine zdg ?_
    rintro w97 Z102 hE96 hZ93 ⟨-⟩ ap12
    have hB12 := @zhb w69 Z102
    obtain ⟨hL21, K26⟩ := zl hL18 hE96
    obtain ⟨x15, n14, q35, q36, -, h⟩ := zix h
    have f17 := ((f10.mono (K21 S)).mono (K26 S))
    obtain ⟨b14, o14, c14, vs14, q37, q38, f18, q39⟩ := zcy f17 q36
    obtain rfl := q39
    refine zba rfl rfl (zdw hc12) (zbt (r := rStr) (v := texts_v) (n := n14) (m := (o14 + n14 * rStr.sz)) zaz ti9 rfl q37 rfl q35 q36 rfl ?_)
    refine zba rfl rfl (zdw hc12) (zbw (v := (zS x15)) zaw rfl rfl zee f18 ?_)
    obtain ⟨r10, q40, h⟩ := zdy h
    refine zba rfl rfl (zdw hc12) (zcb en29 rfl rfl (qPrintable_w N x15 _ Any r10 q40) ?_)
    rintro _ w98 hE97 ⟨rfl, -⟩
    obtain ⟨hL22, K27⟩ := zl hL21 hE97
    refine zba rfl rfl (zdw hc12) (zdv (x := r10) rfl ?_)
    refine zag (zbe (t := (decide (((x13.length : Int) : Int) > x14))) (v := (zac (!r10))) rfl (zdw hc12) rfl (zar ?_))
    obtain rfl := zad h
    refine zap ?_
    exact ⟨(!r10), _, rfl, (zea ⟨rfl, rfl, rfl, rfl, trivial⟩), hL22, (zaj (zaj K21 K26) K27), trivial⟩
   rintro _ w99 ⟨x10, u, rfl, rfl, hL23, K28, -⟩
   replace h := g11
   try dsimp only at h
   refine zch x10 rfl (fun hc13 => ?_) (fun hc13 => ?_)
   ·
    replace h := ite_t hc13 h
    refine zam (zah rfl (zag (zai (v := zF) rfl ?_)))
    refine zar (zbv ?_)
    obtain rfl := zad h
    obtain rfl := hd10 _ rfl
    replace h := g10
    try dsimp only at h
    obtain rfl := zad h
    refine ⟨[zF], zrt, ⟨_, rfl, hL23.done, ?_⟩⟩
    exact zrt
   replace h := ite_f hc13 h
   refine zbn (zbi (zah rfl (zag (zae (v := (zI i10)) rfl ?_))))
   refine zag (zcd (x := i10) (y := 1) (z := (iw (i10 + 1))) rfl rfl rfl ?_)
   refine zag (zai (v := (zI (iw (i10 + 1)))) rfl (zar ?_))
   obtain rfl := zad h
   refine zap ⟨(iw (i10 + 1)), rfl, ?_⟩
   exact ⟨_, (zea ⟨rfl, rfl, rfl, trivial⟩), hL23, (zaj K10 K28), trivial⟩
  replace h := ite_f hc10 h
  refine zcg rfl ?_
  obtain rfl := zad h
  obtain rfl := hd10 _ rfl
  replace h := g10
  try dsimp only at h
  refine zap ?_
  exact ⟨_, rfl, (zea ⟨rfl, rfl, trivial⟩), hL10, K10, trivial⟩
 rintro _ w100 ⟨u, rfl, rfl, hL24, K29, -⟩
 replace h := g10
 try dsimp only at h
 refine zam (zam (zah rfl (zag (zai (v := (zI 0)) rfl (zar ?_)))))
 obtain ⟨s12, hl11, g12⟩ := zdy h
 refine zbu (fun e w' => ∃  (u : Env), (Sum.inl ()) = s12 ∧ e = upds [(1, texts_v), (2, (zal (some ⟨b1, 0, none⟩)))] u ∧ vL w w' [some b1] [zab [p_v, p_v1, p_v2, p_v3, p_v4]] ∧ Keep w.heap.size [some b1] w100 [some b1] w' ∧ True) ?_ ?_
 ·
  refine zbf ?_
  refine zca hl11 (fun (ss : Int) (e : Env) (w' : World) => match ss with | i11 => ∃ (u : Env), e = upds [(1, texts_v), (2, (zal (some ⟨b1, 0, none⟩))), (6, (zI i11))] u ∧ vL w w' [some b1] [zab [p_v, p_v1, p_v2, p_v3, p_v4]] ∧ Keep w.heap.size [some b1] w100 [some b1] w' ∧ True) ⟨_, (zea ⟨rfl, rfl, rfl, trivial⟩), hL24, zbq, trivial⟩ ?_
  rintro i11 oo _ w101 ⟨u, rfl, hL25, K30, -⟩ h hd11
  rw [rSatisfies_b2] at h
  refine zam (zam (zah rfl (zag (zae (v := (zI i11)) rfl ?_))))
  refine zag (zat (q := 2) zbb rfl ti23 rfl rfl rfl ?_)
  refine zag (zav (v := p_v2) zbg rfl rfl (hL25.at 0 rfl rfl) rfl ?_)
  have f19 := (((p_h2.mono (K4 S)).mono (K29 S)).mono (K30 S))
  refine zag (zce (v := p_v2) zbg rfl f19 ?_)
  refine zag (zci (x := i11) (y := (p.Tests.length : Int)) ((i11 : Int) < (p.Tests.length : Int)) rfl rfl zbh (zar ?_))
  refine zbk ((i11 : Int) < (p.Tests.length : Int)) rfl (fun hc14 => ?_) (fun hc14 => ?_)
  ·
   replace h := ite_t hc14 h
   refine zbn (zam (zbf (zam ?_)))
   obtain ⟨x16, n15, q42, q43, -, h⟩ := zix h
   obtain ⟨b15, o15, c15, vs15, q44, q45, f20, q46⟩ := zcy f19 q43
   obtain ⟨rfl, -⟩ := rTTest_open q46
   obtain ⟨x17, n16, q48, q49, -, h⟩ := zix h
   obtain ⟨b16, o16, c16, vs16, q50, q51, f21, q52⟩ := zcy f19 q49
   obtain ⟨rfl, -⟩ := rTTest_open q52
   have f22 := (f21.part (us := [(zI x17.Var)]) 0 rfl)
   obtain ⟨x18, n17, q54, q55, -, h⟩ := zix h
   have f23 := ((f6.mono (K29 S)).mono (K30 S))
   obtain ⟨b17, o17, c17, vs17, q56, q57, f24, q58⟩ := zcy f23 q55
   obtain rfl := q58
   refine zcz 14 [] [] (fun W1 => [.det (zal (some ⟨b1, 2, none⟩)), .det p_v2, .det (zI i11), .det (zal (some ⟨b15, (o15 + n15 * rTTest.sz), none⟩)), .det (zbs #[(zI x16.Var), (zI x16.Kind), (zac x16.Negated), (zS x16.Text)]), .det texts_v, .det (zal (some ⟨b1, 2, none⟩)), .det p_v2, .det (zI i11), .det (zal (some ⟨b16, (o16 + n16 * rTTest.sz), none⟩)), .det (zal (some ⟨b16, (o16 + n16 * rTTest.sz) + 0, none⟩)), .det (zI x17.Var), .det (zal (some ⟨b17, (o17 + n17 * rStr.sz), none⟩)), .det (zS x18)]) mixed rfl rfl rfl (fun _ => rfl) (fun _ => rfl) ?_ ?_
   ·
    intro W1 _
    exact trivial
   intro w102 hE98
   obtain ⟨hL26, K31⟩ := zl hL25 hE98
   refine zax (fun _ _ => zaq (zat zbb rfl ti23 rfl rfl rfl (er rfl))) ?_
   refine zax (fun _ hE100 => zaq (zav zbg rfl rfl ((hL26.ext hE100).at 0 rfl rfl) rfl (er rfl))) ?_
   refine zax (fun _ _ => zaq (zae rfl (er rfl))) ?_
   refine zax (fun _ _ => zaq (zbt (r := rTTest) (v := p_v2) (n := n15) (m := (o15 + n15 * rTTest.sz)) zbg ti44 rfl q44 rfl q42 q43 rfl (er rfl))) ?_
   refine zax (fun _ hE103 => zaq (OpY.ldRoA (vs := [(zI x16.Var), (zI x16.Kind), (zac x16.Negated), (zS x16.Text)]) zbc rfl ti44 rfl rfl zee (zbx ((ke hL26 hE103) S) (zbx (K31 S) f20)) (er rfl))) ?_
   refine zax (fun _ _ => zaq (zae rfl (er rfl))) ?_
   refine zax (fun _ _ => zaq (zat zbb rfl ti23 rfl rfl rfl (er rfl))) ?_
   refine zax (fun _ hE106 => zaq (zav zbg rfl rfl ((hL26.ext hE106).at 0 rfl rfl) rfl (er rfl))) ?_
   refine zax (fun _ _ => zaq (zae rfl (er rfl))) ?_
   refine zax (fun _ _ => zaq (zbt (r := rTTest) (v := p_v2) (n := n16) (m := (o16 + n16 * rTTest.sz)) zbg ti44 rfl q50 rfl q48 q49 rfl (er rfl))) ?_
   refine zax (fun _ _ => zaq (zat zbc rfl ti3 rfl rfl rfl (er rfl))) ?_
   refine zax (fun _ hE110 => zaq (zbw zay rfl rfl zee (zbx ((ke hL26 hE110) S) (zbx (K31 S) f22)) (er rfl))) ?_
   refine zax (fun _ _ => zaq (zbt (r := rStr) (v := texts_v) (n := n17) (m := (o17 + n17 * rStr.sz)) zaz ti9 rfl q56 rfl q54 q55 rfl (er rfl))) ?_
   refine zax (fun _ hE112 => zaq (zbw zaw rfl rfl zee (zbx ((ke hL26 hE112) S) (zbx (K31 S) f24)) (er rfl))) ?_
   refine zdg ?_
   rintro w117 Z117 hE113 hZ108 ⟨-⟩ ap13
   have hB13 := @zhb w102 Z117
   obtain ⟨hL29, K35⟩ := zl hL26 hE113
   obtain ⟨r11, q59, h⟩ := zdy h
   refine zag (zcb en30 rfl rfl (qPasses_w N x16 x18 _ Any r11 q59) ?_)
   rintro _ w118 hE114 ⟨rfl, -⟩
   obtain ⟨hL30, K36⟩ := zl hL29 hE114
   refine zag (zdv (x := r11) rfl (zar ?_))
   refine zch (!r11) rfl (fun hc15 => ?_) (fun hc15 => ?_)
   ·
    replace h := ite_t hc15 h
    refine zam (zah rfl (zag (zai (v := zF) rfl ?_)))
    refine zar (zbv ?_)
    obtain rfl := zad h
    obtain rfl := hd11 _ rfl
    replace h := g12
    try dsimp only at h
    obtain rfl := zad h
    refine ⟨[zF], zrt, ⟨_, rfl, hL30.done, ?_⟩⟩
    exact zrt
   replace h := ite_f hc15 h
   refine zbn (zbi (zah rfl (zag (zae (v := (zI i11)) rfl ?_))))
   refine zag (zcd (x := i11) (y := 1) (z := (iw (i11 + 1))) rfl rfl rfl ?_)
   refine zag (zai (v := (zI (iw (i11 + 1)))) rfl (zar ?_))
   obtain rfl := zad h
   refine zap ⟨(iw (i11 + 1)), rfl, ?_⟩
   exact ⟨_, (zea ⟨rfl, rfl, rfl, trivial⟩), hL30, (zaj (zaj (zaj K30 K31) K35) K36), trivial⟩
  replace h := ite_f hc14 h
  refine zcg rfl ?_
  obtain rfl := zad h
  obtain rfl := hd11 _ rfl
  replace h := g12
  try dsimp only at h
  refine zap ?_
  exact ⟨_, rfl, (zea ⟨rfl, rfl, trivial⟩), hL25, K30, trivial⟩
 rintro _ w119 ⟨u, rfl, rfl, hL31, K37, -⟩
 replace h := g12
 try dsimp only at h
 refine zam (zam (zah rfl (zag (zai (v := (zI 0)) rfl (zar ?_)))))
 obtain ⟨s13, hl12, g13⟩ := zdy h
 refine zbu (fun e w' => ∃  (u : Env), (Sum.inl ()) = s13 ∧ e = upds [(1, texts_v), (2, (zal (some ⟨b1, 0, none⟩)))] u ∧ vL w w' [some b1] [zab [p_v, p_v1, p_v2, p_v3, p_v4]] ∧ Keep w.heap.size [some b1] w119 [some b1] w' ∧ True) ?_ ?_
 ·
  refine zbf ?_
  refine zca hl12 (fun (ss : Int) (e : Env) (w' : World) => match ss with | i12 => ∃ (u : Env), e = upds [(1, texts_v), (2, (zal (some ⟨b1, 0, none⟩))), (7, (zI i12))] u ∧ vL w w' [some b1] [zab [p_v, p_v1, p_v2, p_v3, p_v4]] ∧ Keep w.heap.size [some b1] w119 [some b1] w' ∧ True) ⟨_, (zea ⟨rfl, rfl, rfl, trivial⟩), hL31, zbq, trivial⟩ ?_
  rintro i12 oo _ w120 ⟨u, rfl, hL32, K38, -⟩ h hd12
  rw [rSatisfies_b3] at h
  refine zam (zam (zah rfl (zag (zae (v := (zI i12)) rfl ?_))))
  refine zag (zat (q := 3) zbb rfl ti24 rfl rfl rfl ?_)
  refine zag (zav (v := p_v3) zbm rfl rfl (hL32.at 0 rfl rfl) rfl ?_)
  have f25 := ((((p_h3.mono (K4 S)).mono (K29 S)).mono (K37 S)).mono (K38 S))
  refine zag (zce (v := p_v3) zbm rfl f25 ?_)
  refine zag (zci (x := i12) (y := (p.Same.length : Int)) ((i12 : Int) < (p.Same.length : Int)) rfl rfl zbh (zar ?_))
  refine zbk ((i12 : Int) < (p.Same.length : Int)) rfl (fun hc16 => ?_) (fun hc16 => ?_)
  ·
   replace h := ite_t hc16 h
   refine zbn (zam (zbf (zam ?_)))
   obtain ⟨x19, n18, q61, q62, -, h⟩ := zix h
   obtain ⟨b18, o18, c18, vs18, q63, q64, f26, q65⟩ := zcy f25 q62
   obtain ⟨rfl, -⟩ := rArr2Int_open q65
   have f27 := (f26.part (us := [(zI x19.e0)]) 0 rfl)
   obtain ⟨x20, n19, q67, q68, -, h⟩ := zix h
   have f28 := (((f6.mono (K29 S)).mono (K37 S)).mono (K38 S))
   obtain ⟨b19, o19, c19, vs19, q69, q70, f29, q71⟩ := zcy f28 q68
   obtain rfl := q71
   obtain ⟨x21, n20, q73, q74, -, h⟩ := zix h
   obtain ⟨b20, o20, c20, vs20, q75, q76, f30, q77⟩ := zcy f25 q74
   obtain ⟨rfl, -⟩ := rArr2Int_open q77
   have f31 := (f30.part (us := [(zI x21.e1)]) 1 rfl)
   obtain ⟨x22, n21, q79, q80, -, h⟩ := zix h
   obtain ⟨b21, o21, c21, vs21, q81, q82, f32, q83⟩ := zcy f28 q80
   obtain rfl := q83
   refine zcz 18 [] [] (fun W1 => [.det texts_v, .det (zal (some ⟨b1, 3, none⟩)), .det p_v3, .det (zI i12), .det (zal (some ⟨b18, (o18 + n18 * rArr2Int.sz), none⟩)), .det (zal (some ⟨b18, (o18 + n18 * rArr2Int.sz) + 0, none⟩)), .det (zI x19.e0), .det (zal (some ⟨b19, (o19 + n19 * rStr.sz), none⟩)), .det (zS x20), .det texts_v, .det (zal (some ⟨b1, 3, none⟩)), .det p_v3, .det (zI i12), .det (zal (some ⟨b20, (o20 + n20 * rArr2Int.sz), none⟩)), .det (zal (some ⟨b20, (o20 + n20 * rArr2Int.sz) + 1, none⟩)), .det (zI x21.e1), .det (zal (some ⟨b21, (o21 + n21 * rStr.sz), none⟩)), .det (zS x22)]) mixed rfl rfl rfl (fun _ => rfl) (fun _ => rfl) ?_ ?_
   ·
    intro W1 _
    exact trivial
   intro w121 hE115
   obtain ⟨hL33, K39⟩ := zl hL32 hE115
   refine zax (fun _ _ => zaq (zae rfl (er rfl))) ?_
   refine zax (fun _ _ => zaq (zat zbb rfl ti24 rfl rfl rfl (er rfl))) ?_
   refine zax (fun _ hE118 => zaq (zav zbm rfl rfl ((hL33.ext hE118).at 0 rfl rfl) rfl (er rfl))) ?_
   refine zax (fun _ _ => zaq (zae rfl (er rfl))) ?_
   refine zax (fun _ _ => zaq (zbt (r := rArr2Int) (v := p_v3) (n := n18) (m := (o18 + n18 * rArr2Int.sz)) zbm ti45 rfl q63 rfl q61 q62 rfl (er rfl))) ?_
   refine zax (fun _ _ => zaq (zcj (i := 0) (q := (o18 + n18 * rArr2Int.sz) + 0) zby ti3 rfl rfl (by decide) rfl (er rfl))) ?_
   refine zax (fun _ hE122 => zaq (zbw zay rfl rfl zee (zbx ((ke hL33 hE122) S) (zbx (K39 S) f27)) (er rfl))) ?_
   refine zax (fun _ _ => zaq (zbt (r := rStr) (v := texts_v) (n := n19) (m := (o19 + n19 * rStr.sz)) zaz ti9 rfl q69 rfl q67 q68 rfl (er rfl))) ?_
   refine zax (fun _ hE124 => zaq (zbw zaw rfl rfl zee (zbx ((ke hL33 hE124) S) (zbx (K39 S) f29)) (er rfl))) ?_
   refine zax (fun _ _ => zaq (zae rfl (er rfl))) ?_
   refine zax (fun _ _ => zaq (zat zbb rfl ti24 rfl rfl rfl (er rfl))) ?_
   refine zax (fun _ hE127 => zaq (zav zbm rfl rfl ((hL33.ext hE127).at 0 rfl rfl) rfl (er rfl))) ?_
   refine zax (fun _ _ => zaq (zae rfl (er rfl))) ?_
   refine zax (fun _ _ => zaq (zbt (r := rArr2Int) (v := p_v3) (n := n20) (m := (o20 + n20 * rArr2Int.sz)) zbm ti45 rfl q75 rfl q73 q74 rfl (er rfl))) ?_
   refine zax (fun _ _ => zaq (zcj (i := 1) (q := (o20 + n20 * rArr2Int.sz) + 1) zby ti3 rfl rfl (by decide) rfl (er rfl))) ?_
   refine zax (fun _ hE131 => zaq (zbw zay rfl rfl zee (zbx ((ke hL33 hE131) S) (zbx (K39 S) f31)) (er rfl))) ?_
   refine zax (fun _ _ => zaq (zbt (r := rStr) (v := texts_v) (n := n21) (m := (o21 + n21 * rStr.sz)) zaz ti9 rfl q81 rfl q79 q80 rfl (er rfl))) ?_
   refine zax (fun _ hE133 => zaq (zbw zaw rfl rfl zee (zbx ((ke hL33 hE133) S) (zbx (K39 S) f32)) (er rfl))) ?_
   refine zdg ?_
   rintro w140 Z136 hE134 hZ127 ⟨-⟩ ap14
   have hB14 := @zhb w121 Z136
   obtain ⟨hL36, K44⟩ := zl hL33 hE134
   refine zag (OpY.sNeq (x := x20) (y := x22) rfl rfl (zar ?_))
   refine zbk (¬ x20 = x22) rfl (fun hc17 => ?_) (fun hc17 => ?_)
   ·
    replace h := ite_t hc17 h
    refine zam (zah rfl (zag (zai (v := zF) rfl ?_)))
    refine zar (zbv ?_)
    obtain rfl := zad h
    obtain rfl := hd12 _ rfl
    replace h := g13
    try dsimp only at h
    obtain rfl := zad h
    refine ⟨[zF], zrt, ⟨_, rfl, hL36.done, ?_⟩⟩
    exact zrt
   replace h := ite_f hc17 h
   refine zbn (zbi (zah rfl (zag (zae (v := (zI i12)) rfl ?_))))
   refine zag (zcd (x := i12) (y := 1) (z := (iw (i12 + 1))) rfl rfl rfl ?_)
   refine zag (zai (v := (zI (iw (i12 + 1)))) rfl (zar ?_))
   obtain rfl := zad h
   refine zap ⟨(iw (i12 + 1)), rfl, ?_⟩
   exact ⟨_, (zea ⟨rfl, rfl, rfl, trivial⟩), hL36, (zaj (zaj K38 K39) K44), trivial⟩
  replace h := ite_f hc16 h
  refine zcg rfl ?_
  obtain rfl := zad h
  obtain rfl := hd12 _ rfl
  replace h := g13
  try dsimp only at h
  refine zap ?_
  exact ⟨_, rfl, (zea ⟨rfl, rfl, trivial⟩), hL32, K38, trivial⟩
 rintro _ w141 ⟨u, rfl, rfl, hL37, K45, -⟩
 replace h := g13
 try dsimp only at h
 refine zam (zam (zah rfl (zag (zai (v := (zI 0)) rfl (zar ?_)))))
 obtain ⟨s14, hl13, g14⟩ := zdy h
 refine zbu (fun e w' => ∃  (u : Env), (Sum.inl ()) = s14 ∧ e = upds [] u ∧ vL w w' [] [] ∧ Keep w.heap.size [some b1] w141 [] w' ∧ True) ?_ ?_
 ·
  refine zbf ?_
  refine zca hl13 (fun (ss : Int) (e : Env) (w' : World) => match ss with | i13 => ∃ (u : Env), e = upds [(1, texts_v), (2, (zal (some ⟨b1, 0, none⟩))), (8, (zI i13))] u ∧ vL w w' [some b1] [zab [p_v, p_v1, p_v2, p_v3, p_v4]] ∧ Keep w.heap.size [some b1] w141 [some b1] w' ∧ True) ⟨_, (zea ⟨rfl, rfl, rfl, trivial⟩), hL37, zbq, trivial⟩ ?_
  rintro i13 oo _ w142 ⟨u, rfl, hL38, K46, -⟩ h hd13
  rw [rSatisfies_b4] at h
  refine zam (zam (zah rfl (zag (zae (v := (zI i13)) rfl ?_))))
  refine zag (zat (q := 4) zbb rfl ti24 rfl rfl rfl ?_)
  refine zag (zav (v := p_v4) zbm rfl rfl (hL38.at 0 rfl rfl) rfl ?_)
  have f33 := (((((p_h4.mono (K4 S)).mono (K29 S)).mono (K37 S)).mono (K45 S)).mono (K46 S))
  refine zag (zce (v := p_v4) zbm rfl f33 ?_)
  refine zag (zci (x := i13) (y := (p.Different.length : Int)) ((i13 : Int) < (p.Different.length : Int)) rfl rfl zbh (zar ?_))
  refine zbk ((i13 : Int) < (p.Different.length : Int)) rfl (fun hc18 => ?_) (fun hc18 => ?_)
  ·
   replace h := ite_t hc18 h
   refine zbn (zam (zbf (zam ?_)))
   obtain ⟨x23, n22, q85, q86, -, h⟩ := zix h
   obtain ⟨b22, o22, c22, vs22, q87, q88, f34, q89⟩ := zcy f33 q86
   obtain ⟨rfl, -⟩ := rArr2Int_open q89
   have f35 := (f34.part (us := [(zI x23.e0)]) 0 rfl)
   obtain ⟨x24, n23, q91, q92, -, h⟩ := zix h
   have f36 := ((((f6.mono (K29 S)).mono (K37 S)).mono (K45 S)).mono (K46 S))
   obtain ⟨b23, o23, c23, vs23, q93, q94, f37, q95⟩ := zcy f36 q92
   obtain rfl := q95
   obtain ⟨x25, n24, q97, q98, -, h⟩ := zix h
   obtain ⟨b24, o24, c24, vs24, q99, q100, f38, q101⟩ := zcy f33 q98
   obtain ⟨rfl, -⟩ := rArr2Int_open q101
   have f39 := (f38.part (us := [(zI x25.e1)]) 1 rfl)
   obtain ⟨x26, n25, q103, q104, -, h⟩ := zix h
   obtain ⟨b25, o25, c25, vs25, q105, q106, f40, q107⟩ := zcy f36 q104
   obtain rfl := q107
   refine zcz 18 [] [] (fun W1 => [.det texts_v, .det (zal (some ⟨b1, 4, none⟩)), .det p_v4, .det (zI i13), .det (zal (some ⟨b22, (o22 + n22 * rArr2Int.sz), none⟩)), .det (zal (some ⟨b22, (o22 + n22 * rArr2Int.sz) + 0, none⟩)), .det (zI x23.e0), .det (zal (some ⟨b23, (o23 + n23 * rStr.sz), none⟩)), .det (zS x24), .det texts_v, .det (zal (some ⟨b1, 4, none⟩)), .det p_v4, .det (zI i13), .det (zal (some ⟨b24, (o24 + n24 * rArr2Int.sz), none⟩)), .det (zal (some ⟨b24, (o24 + n24 * rArr2Int.sz) + 1, none⟩)), .det (zI x25.e1), .det (zal (some ⟨b25, (o25 + n25 * rStr.sz), none⟩)), .det (zS x26)]) mixed rfl rfl rfl (fun _ => rfl) (fun _ => rfl) ?_ ?_
   ·
    intro W1 _
    exact trivial
   intro w143 hE135
   obtain ⟨hL39, K47⟩ := zl hL38 hE135
   refine zax (fun _ _ => zaq (zae rfl (er rfl))) ?_
   refine zax (fun _ _ => zaq (zat zbb rfl ti24 rfl rfl rfl (er rfl))) ?_
   refine zax (fun _ hE138 => zaq (zav zbm rfl rfl ((hL39.ext hE138).at 0 rfl rfl) rfl (er rfl))) ?_
   refine zax (fun _ _ => zaq (zae rfl (er rfl))) ?_
   refine zax (fun _ _ => zaq (zbt (r := rArr2Int) (v := p_v4) (n := n22) (m := (o22 + n22 * rArr2Int.sz)) zbm ti45 rfl q87 rfl q85 q86 rfl (er rfl))) ?_
   refine zax (fun _ _ => zaq (zcj (i := 0) (q := (o22 + n22 * rArr2Int.sz) + 0) zby ti3 rfl rfl (by decide) rfl (er rfl))) ?_
   refine zax (fun _ hE142 => zaq (zbw zay rfl rfl zee (zbx ((ke hL39 hE142) S) (zbx (K47 S) f35)) (er rfl))) ?_
   refine zax (fun _ _ => zaq (zbt (r := rStr) (v := texts_v) (n := n23) (m := (o23 + n23 * rStr.sz)) zaz ti9 rfl q93 rfl q91 q92 rfl (er rfl))) ?_
   refine zax (fun _ hE144 => zaq (zbw zaw rfl rfl zee (zbx ((ke hL39 hE144) S) (zbx (K47 S) f37)) (er rfl))) ?_
   refine zax (fun _ _ => zaq (zae rfl (er rfl))) ?_
   refine zax (fun _ _ => zaq (zat zbb rfl ti24 rfl rfl rfl (er rfl))) ?_
   refine zax (fun _ hE147 => zaq (zav zbm rfl rfl ((hL39.ext hE147).at 0 rfl rfl) rfl (er rfl))) ?_
   refine zax (fun _ _ => zaq (zae rfl (er rfl))) ?_
   refine zax (fun _ _ => zaq (zbt (r := rArr2Int) (v := p_v4) (n := n24) (m := (o24 + n24 * rArr2Int.sz)) zbm ti45 rfl q99 rfl q97 q98 rfl (er rfl))) ?_
   refine zax (fun _ _ => zaq (zcj (i := 1) (q := (o24 + n24 * rArr2Int.sz) + 1) zby ti3 rfl rfl (by decide) rfl (er rfl))) ?_
   refine zax (fun _ hE151 => zaq (zbw zay rfl rfl zee (zbx ((ke hL39 hE151) S) (zbx (K47 S) f39)) (er rfl))) ?_
   refine zax (fun _ _ => zaq (zbt (r := rStr) (v := texts_v) (n := n25) (m := (o25 + n25 * rStr.sz)) zaz ti9 rfl q105 rfl q103 q104 rfl (er rfl))) ?_
   refine zax (fun _ hE153 => zaq (zbw zaw rfl rfl zee (zbx ((ke hL39 hE153) S) (zbx (K47 S) f40)) (er rfl))) ?_
   refine zdg ?_
   rintro w162 Z155 hE154 hZ146 ⟨-⟩ ap15
   have hB15 := @zhb w143 Z155
   obtain ⟨hL42, K52⟩ := zl hL39 hE154
   refine zag (OpY.sEql (x := x24) (y := x26) rfl rfl (zar ?_))
   refine zbk (x24 = x26) rfl (fun hc19 => ?_) (fun hc19 => ?_)
   ·
    replace h := ite_t hc19 h
    refine zam (zah rfl (zag (zai (v := zF) rfl ?_)))
    refine zar (zbv ?_)
    obtain rfl := zad h
    obtain rfl := hd13 _ rfl
    replace h := g14
    try dsimp only at h
    obtain rfl := zad h
    refine ⟨[zF], zrt, ⟨_, rfl, hL42.done, ?_⟩⟩
    exact zrt
   replace h := ite_f hc19 h
   refine zbn (zbi (zah rfl (zag (zae (v := (zI i13)) rfl ?_))))
   refine zag (zcd (x := i13) (y := 1) (z := (iw (i13 + 1))) rfl rfl rfl ?_)
   refine zag (zai (v := (zI (iw (i13 + 1)))) rfl (zar ?_))
   obtain rfl := zad h
   refine zap ⟨(iw (i13 + 1)), rfl, ?_⟩
   exact ⟨_, (zea ⟨rfl, rfl, rfl, trivial⟩), hL42, (zaj (zaj K46 K47) K52), trivial⟩
  replace h := ite_f hc18 h
  refine zcg rfl ?_
  have hp10 := hL38.pick [] rfl rfl rfl
  have hL43 : vL w w142 [] [] := hp10.1
  have K53 := ks w hp10.2
  obtain rfl := zad h
  obtain rfl := hd13 _ rfl
  replace h := g14
  try dsimp only at h
  refine zap ?_
  exact ⟨_, rfl, (zea trivial), hL43, (zaj K46 K53), trivial⟩
 rintro _ w163 ⟨u, rfl, rfl, hL44, K54, -⟩
 replace h := g14
 try dsimp only at h
 refine zam (zah rfl (zag (zai (v := zT) rfl ?_)))
 refine zar (zbv ?_)
 obtain rfl := zad h
 refine ⟨[zT], zrt, ⟨_, rfl, hL44.done, ?_⟩⟩
 exact zrt
theorem rSmall_w (N : Nat) (p : TProb) (p_v : Value) (p_v1 : Value) (p_v2 : Value) (p_v3 : Value) (p_v4 : Value) (w : World) (S : Nat → Prop) (p_h : Rs rI (vH w S [] w) p_v p.Min) (p_h1 : Rs rI (vH w S [] w) p_v1 p.Max) (p_h2 : Rs rTTest (vH w S [] w) p_v2 p.Tests) (p_h3 : Rs rArr2Int (vH w S [] w) p_v3 p.Same) (p_h4 : Rs rArr2Int (vH w S [] w) p_v4 p.Different) (r : Bool) (h : rSmall N p = some r) :
  Calls Try.prog 12 #[(zbs #[p_v, p_v1, p_v2, p_v3, p_v4])] w (Ret w (fun v w' => (zac r) = v ∧ True)) := by
 unfold rSmall at h
 have hL : vL w w [] [] := Go.X.Loc.begin0 w
 refine calls_of (l := [(zbs #[p_v, p_v1, p_v2, p_v3, p_v4])]) (rl := [.tmp 2]) (n := 35) Try.func12 rfl rfl rfl (zak rfl) ?_
 refine zam (zah rfl (zag (zdt (cs := [p_v, p_v1, p_v2, p_v3, p_v4]) rfl rfl hL ?_)))
 intro b1 w2 hL3 hS5
 have K4 := ks w hS5
 refine zag (zai (v := zF) rfl ?_)
 refine zar (zam (zah rfl (zag (zat (q := 1) zbb rfl ti22 rfl rfl rfl ?_))))
 refine zag (zav (v := p_v1) zao rfl rfl (hL3.at 0 rfl rfl) rfl ?_)
 have f6 := (p_h1.mono (K4 S))
 refine zag (zce (v := p_v1) zao rfl f6 ?_)
 refine zag (OpY.leq (x := (p.Max.length : Int)) (y := 6) (((p.Max.length : Int) : Int) ≤ 6) rfl rfl zbh ?_)
 refine zag (zae (v := (zac (decide (((p.Max.length : Int) : Int) ≤ 6)))) rfl ?_)
 by_cases hc7 : ((p.Max.length : Int) : Int) ≤ 6
 ·
  replace h := ite_t hc7 h
  refine zba rfl rfl (zdx hc7) (zat (q := 0) zbb rfl ti22 rfl rfl rfl ?_)
  refine zba rfl rfl (zdx hc7) (zav (v := p_v) zao rfl rfl (hL3.at 0 rfl rfl) rfl ?_)
  have f8 := (p_h.mono (K4 S))
  refine zba rfl rfl (zdx hc7) (zce (v := p_v) zao rfl f8 ?_)
  refine zba rfl rfl (zdx hc7) (OpY.leq (x := (p.Min.length : Int)) (y := 6) (((p.Min.length : Int) : Int) ≤ 6) rfl rfl zbh ?_)
  refine zag (zbl (t := (decide (((p.Max.length : Int) : Int) ≤ 6))) (v := (zac (decide (((p.Min.length : Int) : Int) ≤ 6)))) rfl (zdx hc7) rfl ?_)
  refine zag (zae (v := (zac (decide (((p.Min.length : Int) : Int) ≤ 6)))) rfl ?_)
  by_cases hc9 : ((p.Min.length : Int) : Int) ≤ 6
  ·
   replace h := ite_t hc9 h
   refine zba rfl rfl (zdx hc9) (zat (q := 2) zbb rfl ti23 rfl rfl rfl ?_)
   refine zba rfl rfl (zdx hc9) (zav (v := p_v2) zbg rfl rfl (hL3.at 0 rfl rfl) rfl ?_)
   have f10 := (p_h2.mono (K4 S))
   refine zba rfl rfl (zdx hc9) (zce (v := p_v2) zbg rfl f10 ?_)
   refine zba rfl rfl (zdx hc9) (OpY.leq (x := (p.Tests.length : Int)) (y := 8) (((p.Tests.length : Int) : Int) ≤ 8) rfl rfl zbh ?_)
   refine zag (zbl (t := (decide (((p.Min.length : Int) : Int) ≤ 6))) (v := (zac (decide (((p.Tests.length : Int) : Int) ≤ 8)))) rfl (zdx hc9) rfl ?_)
   refine zag (zae (v := (zac (decide (((p.Tests.length : Int) : Int) ≤ 8)))) rfl ?_)
   by_cases hc10 : ((p.Tests.length : Int) : Int) ≤ 8
   ·
    replace h := ite_t hc10 h
    refine zba rfl rfl (zdx hc10) (zat (q := 3) zbb rfl ti24 rfl rfl rfl ?_)
    refine zba rfl rfl (zdx hc10) (zav (v := p_v3) zbm rfl rfl (hL3.at 0 rfl rfl) rfl ?_)
    have f11 := (p_h3.mono (K4 S))
    refine zba rfl rfl (zdx hc10) (zce (v := p_v3) zbm rfl f11 ?_)
    refine zba rfl rfl (zdx hc10) (OpY.leq (x := (p.Same.length : Int)) (y := 8) (((p.Same.length : Int) : Int) ≤ 8) rfl rfl zbh ?_)
    refine zag (zbl (t := (decide (((p.Tests.length : Int) : Int) ≤ 8))) (v := (zac (decide (((p.Same.length : Int) : Int) ≤ 8)))) rfl (zdx hc10) rfl ?_)
    refine zag (zae (v := (zac (decide (((p.Same.length : Int) : Int) ≤ 8)))) rfl ?_)
    by_cases hc11 : ((p.Same.length : Int) : Int) ≤ 8
    ·
     replace h := ite_t hc11 h
     refine zba rfl rfl (zdx hc11) (zat (q := 4) zbb rfl ti24 rfl rfl rfl ?_)
     refine zba rfl rfl (zdx hc11) (zav (v := p_v4) zbm rfl rfl (hL3.at 0 rfl rfl) rfl ?_)
     have f12 := (p_h4.mono (K4 S))
     refine zba rfl rfl (zdx hc11) (zce (v := p_v4) zbm rfl f12 ?_)
     refine zba rfl rfl (zdx hc11) (OpY.leq (x := (p.Different.length : Int)) (y := 8) (((p.Different.length : Int) : Int) ≤ 8) rfl rfl zbh ?_)
     refine zag (zbl (t := (decide (((p.Same.length : Int) : Int) ≤ 8))) (v := (zac (decide (((p.Different.length : Int) : Int) ≤ 8)))) rfl (zdx hc11) rfl ?_)
     refine zag (zae (v := (zac (decide (((p.Different.length : Int) : Int) ≤ 8)))) rfl ?_)
     by_cases hc12 : ((p.Different.length : Int) : Int) ≤ 8
     ·
      replace h := ite_t hc12 h
      refine zba rfl rfl (zdx hc12) (zcu (vs := [p_v, p_v1, p_v2, p_v3, p_v4]) zbb rfl ti26 rfl (hL3.at 0 rfl rfl) rfl rfl ?_)
      obtain ⟨r10, q10, h⟩ := zdy h
      refine zba rfl rfl (zdx hc12) (zcb en24 rfl rfl (rValid_w N p p_v p_v1 p_v2 p_v3 p_v4 _ Any (f8.mono vw_any) (f6.mono vw_any) (f10.mono vw_any) (f11.mono vw_any) (f12.mono vw_any) r10 q10) ?_)
      rintro _ w10 hE10 ⟨rfl, -⟩
      have hL10 := hL3.ext hE10
      refine zag (zbl (t := (decide (((p.Different.length : Int) : Int) ≤ 8))) (v := (zac r10)) rfl (zdx hc12) rfl ?_)
      refine zag (zai (v := (zac r10)) rfl ?_)
      refine zar (zbv ?_)
      obtain rfl := zad h
      refine ⟨[(zac r10)], zrt, ⟨_, rfl, hL10.done, ?_⟩⟩
      exact zrt
     replace h := ite_f hc12 h
     refine zbd rfl rfl (zdw hc12) (zbd rfl rfl (zdw hc12) ?_)
     refine zag (zbe (t := (decide (((p.Different.length : Int) : Int) ≤ 8))) (v := zF) rfl (zdw hc12) rfl ?_)
     refine zag (zai (v := zF) rfl ?_)
     refine zar (zbv ?_)
     obtain rfl := zad h
     refine ⟨[zF], zrt, ⟨_, rfl, hL3.done, ?_⟩⟩
     exact zrt
    replace h := ite_f hc11 h
    refine zbd rfl rfl (zdw hc11) (zbd rfl rfl (zdw hc11) (zbd rfl rfl (zdw hc11) (zbd rfl rfl (zdw hc11) ?_)))
    refine zag (zbe (t := (decide (((p.Same.length : Int) : Int) ≤ 8))) (v := zF) rfl (zdw hc11) rfl ?_)
    refine zag (zae (v := zF) rfl ?_)
    refine zbd rfl rfl rfl (zbd rfl rfl rfl ?_)
    refine zag (zbe (t := false) (v := zF) rfl rfl rfl ?_)
    refine zag (zai (v := zF) rfl ?_)
    refine zar (zbv ?_)
    obtain rfl := zad h
    refine ⟨[zF], zrt, ⟨_, rfl, hL3.done, ?_⟩⟩
    exact zrt
   replace h := ite_f hc10 h
   refine zbd rfl rfl (zdw hc10) (zbd rfl rfl (zdw hc10) (zbd rfl rfl (zdw hc10) (zbd rfl rfl (zdw hc10) ?_)))
   refine zag (zbe (t := (decide (((p.Tests.length : Int) : Int) ≤ 8))) (v := zF) rfl (zdw hc10) rfl ?_)
   refine zag (zae (v := zF) rfl ?_)
   refine zbd rfl rfl rfl (zbd rfl rfl rfl (zbd rfl rfl rfl (zbd rfl rfl rfl ?_)))
   refine zag (zbe (t := false) (v := zF) rfl rfl rfl ?_)
   refine zag (zae (v := zF) rfl ?_)
   refine zbd rfl rfl rfl (zbd rfl rfl rfl ?_)
   refine zag (zbe (t := false) (v := zF) rfl rfl rfl ?_)
   refine zag (zai (v := zF) rfl ?_)
   refine zar (zbv ?_)
   obtain rfl := zad h
   refine ⟨[zF], zrt, ⟨_, rfl, hL3.done, ?_⟩⟩
   exact zrt
  replace h := ite_f hc9 h
  refine zbd rfl rfl (zdw hc9) (zbd rfl rfl (zdw hc9) (zbd rfl rfl (zdw hc9) (zbd rfl rfl (zdw hc9) ?_)))
  refine zag (zbe (t := (decide (((p.Min.length : Int) : Int) ≤ 6))) (v := zF) rfl (zdw hc9) rfl ?_)
  refine zag (zae (v := zF) rfl ?_)
  refine zbd rfl rfl rfl (zbd rfl rfl rfl (zbd rfl rfl rfl (zbd rfl rfl rfl ?_)))
  refine zag (zbe (t := false) (v := zF) rfl rfl rfl ?_)
  refine zag (zae (v := zF) rfl ?_)
  refine zbd rfl rfl rfl (zbd rfl rfl rfl (zbd rfl rfl rfl (zbd rfl rfl rfl ?_)))
  refine zag (zbe (t := false) (v := zF) rfl rfl rfl ?_)
  refine zag (zae (v := zF) rfl ?_)
  refine zbd rfl rfl rfl (zbd rfl rfl rfl ?_)
  refine zag (zbe (t := false) (v := zF) rfl rfl rfl ?_)
  refine zag (zai (v := zF) rfl ?_)
  refine zar (zbv ?_)
  obtain rfl := zad h
  refine ⟨[zF], zrt, ⟨_, rfl, hL3.done, ?_⟩⟩
  exact zrt
 replace h := ite_f hc7 h
 refine zbd rfl rfl (zdw hc7) (zbd rfl rfl (zdw hc7) (zbd rfl rfl (zdw hc7) (zbd rfl rfl (zdw hc7) ?_)))
 refine zag (zbe (t := (decide (((p.Max.length : Int) : Int) ≤ 6))) (v := zF) rfl (zdw hc7) rfl ?_)
 refine zag (zae (v := zF) rfl ?_)
 refine zbd rfl rfl rfl (zbd rfl rfl rfl (zbd rfl rfl rfl (zbd rfl rfl rfl ?_)))
 refine zag (zbe (t := false) (v := zF) rfl rfl rfl ?_)
 refine zag (zae (v := zF) rfl ?_)
 refine zbd rfl rfl rfl (zbd rfl rfl rfl (zbd rfl rfl rfl (zbd rfl rfl rfl ?_)))
 refine zag (zbe (t := false) (v := zF) rfl rfl rfl ?_)
 refine zag (zae (v := zF) rfl ?_)
 refine zbd rfl rfl rfl (zbd rfl rfl rfl (zbd rfl rfl rfl (zbd rfl rfl rfl ?_)))
 refine zag (zbe (t := false) (v := zF) rfl rfl rfl ?_)
 refine zag (zae (v := zF) rfl ?_)
 refine zbd rfl rfl rfl (zbd rfl rfl rfl ?_)
 refine zag (zbe (t := false) (v := zF) rfl rfl rfl ?_)
 refine zag (zai (v := zF) rfl ?_)
 refine zar (zbv ?_)
 obtain rfl := zad h
 refine ⟨[zF], zrt, ⟨_, rfl, hL3.done, ?_⟩⟩
 exact zrt
end Go.Proofs.Ytaakoedphmeenaa.WR

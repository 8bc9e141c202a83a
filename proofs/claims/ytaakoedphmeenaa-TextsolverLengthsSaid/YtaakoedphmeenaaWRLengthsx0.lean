/- Walks, written by a program of mine (wip/tool); the kernel checks them. -/
import Derived.Test.YtaakoedphmeenaaProg
import Derived.Test.YtaakoedphmeenaaSqLengths
import Derived.Test.YtaakoedphmeenaaPR
import Derived.Test.YtaakoedphmeenaaWALengths
set_option maxRecDepth 100000
set_option maxHeartbeats 40000000
set_option linter.unusedVariables false
set_option linter.unusedSimpArgs false
namespace Go.Proofs.Ytaakoedphmeenaa.WR
open Go Go.RowKit Go.X Go.D Go.Proofs.Ytaakoedphmeenaa.WA
theorem en29 : Go.X.Enters Try.prog 29 := ⟨Try.f29, Try.func29, by kernel_rfl, by kernel_rfl⟩
theorem en70 : Go.X.Enters Try.prog 70 := ⟨Try.f70, Try.func70, by kernel_rfl, by kernel_rfl⟩
theorem en56 : Go.X.Enters Try.prog 56 := ⟨Try.f56, Try.func56, by kernel_rfl, by kernel_rfl⟩
theorem en57 : Go.X.Enters Try.prog 57 := ⟨Try.f57, Try.func57, by kernel_rfl, by kernel_rfl⟩
theorem en58 : Go.X.Enters Try.prog 58 := ⟨Try.f58, Try.func58, by kernel_rfl, by kernel_rfl⟩
theorem ti45 : TI Try.prog 45 2 16 (zbq #[(zI 0), (zI 0)]) := TI.mk (by kernel_rfl)
theorem ti22 : TI Try.prog 22 1 24 zN := TI.mk (by kernel_rfl)
theorem en42 : Go.X.Enters Try.prog 42 := ⟨Try.f42, Try.func42, by kernel_rfl, by kernel_rfl⟩
theorem en43 : Go.X.Enters Try.prog 43 := ⟨Try.f43, Try.func43, by kernel_rfl, by kernel_rfl⟩
theorem ti24 : TI Try.prog 24 1 24 zN := TI.mk (by kernel_rfl)
theorem en44 : Go.X.Enters Try.prog 44 := ⟨Try.f44, Try.func44, by kernel_rfl, by kernel_rfl⟩
theorem en30 : Go.X.Enters Try.prog 30 := ⟨Try.f30, Try.func30, by kernel_rfl, by kernel_rfl⟩
theorem ti26 : TI Try.prog 26 5 120 (zbq #[zN, zN, zN, zN, zN]) := TI.mk (by kernel_rfl)
theorem en41 : Go.X.Enters Try.prog 41 := ⟨Try.f41, Try.func41, by kernel_rfl, by kernel_rfl⟩
theorem en63 : Go.X.Enters Try.prog 63 := ⟨Try.f63, Try.func63, by kernel_rfl, by kernel_rfl⟩
theorem en21 : Go.X.Enters Try.prog 21 := ⟨Try.f21, Try.func21, by kernel_rfl, by kernel_rfl⟩
theorem en37 : Go.X.Enters Try.prog 37 := ⟨Try.f37, Try.func37, by kernel_rfl, by kernel_rfl⟩
theorem en24 : Go.X.Enters Try.prog 24 := ⟨Try.f24, Try.func24, by kernel_rfl, by kernel_rfl⟩
theorem en12 : Go.X.Enters Try.prog 12 := ⟨Try.f12, Try.func12, by kernel_rfl, by kernel_rfl⟩
theorem qPrintable_w (N : Nat) (s : (List UInt8))  (w : World) (S : Nat → Prop)  (r : Bool) (h : qPrintable N s = some r) :
  Calls Try.prog 29 #[(zS s)] w (Ret w (fun v w' => (zac r) = v ∧ True)) := by
 unfold qPrintable at h
 have hL : vL w w [] [] := Go.X.Loc.begin0 w
 refine calls_of (l := [(zS s)]) (rl := [.tmp 2]) (n := 20) Try.func29 rfl rfl rfl (zai rfl) ?_
 refine zal (zah rfl (zag (zaj (v := zF) rfl ?_)))
 refine zaq (zal (zal (zah rfl (zag (zaj (v := (zI 0)) rfl (zaq ?_))))))
 obtain ⟨s10, hl10, g10⟩ := zee h
 refine zbs (fun e w' => ∃  (u : Env), (Sum.inl ()) = s10 ∧ e = upds [] u ∧ vL w w' [] [] ∧ Keep w.heap.size [] w [] w' ∧ True) ?_ ?_
 ·
  refine zbc ?_
  refine zbw hl10 (fun (ss : Int) (e : Env) (w' : World) => match ss with | i10 => ∃ (u : Env), e = upds [(0, (zS s)), (3, (zI i10))] u ∧ vL w w' [] [] ∧ Keep w.heap.size [] w [] w' ∧ True) ⟨_, (zef ⟨rfl, rfl, trivial⟩), hL, zbp, trivial⟩ ?_
  rintro i10 oo _ w10 ⟨u, rfl, hL10, K10, -⟩ h hd10
  rw [qPrintable_b1] at h
  refine zal (zal (zah rfl (zag (zae (v := (zI i10)) rfl ?_))))
  refine zag (zae (v := (zS s)) rfl ?_)
  refine zag (zdf zax rfl ?_)
  refine zag (zcg (x := i10) (y := (s.length : Int)) ((i10 : Int) < (s.length : Int)) rfl rfl zbi (zaq ?_))
  refine zbj ((i10 : Int) < (s.length : Int)) rfl (fun hc10 => ?_) (fun hc10 => ?_)
  ·
   replace h := ite_t hc10 h
   refine zbl (zal (zbc (zal ?_)))
   obtain ⟨s11, h, g11⟩ := zee h
   refine zbs (fun e w' => ∃ (x10 : Bool) (u : Env), x10 = s11 ∧ e = upds [(0, (zS s)), (3, (zI i10)), (19, (zac x10))] u ∧ vL w w' [] [] ∧ Keep w.heap.size [] w10 [] w' ∧ True) ?_ ?_
   ·
    refine zah rfl (zag (zae (v := (zS s)) rfl ?_))
    refine zag (zae (v := (zI i10)) rfl ?_)
    obtain ⟨x11, n10, q11, q12, -, h⟩ := zix h
    refine zag (zda (xs := s) (i := i10) (n := n10) (a := x11) zax rfl rfl q11 q12 ?_)
    refine zag (zcg (x := (UInt8.toNat x11 : Int)) (y := 32) (((UInt8.toNat x11 : Int) : Int) < 32) rfl rfl zbi ?_)
    refine zag (zae (v := (zac (decide (((UInt8.toNat x11 : Int) : Int) < 32)))) rfl ?_)
    by_cases hc11 : ((UInt8.toNat x11 : Int) : Int) < 32
    ·
     replace h := ite_t hc11 h
     refine zbg rfl rfl (zed hc11) (zbg rfl rfl (zed hc11) (zbg rfl rfl (zed hc11) (zbg rfl rfl (zed hc11) ?_)))
     refine zag (zbn (t := (decide (((UInt8.toNat x11 : Int) : Int) < 32))) (v := zT) rfl (zed hc11) rfl (zaq ?_))
     obtain rfl := zad h
     refine zap ?_
     exact ⟨true, _, rfl, (zef ⟨rfl, rfl, rfl, trivial⟩), hL10, zbp, trivial⟩
    replace h := ite_f hc11 h
    refine zaz rfl rfl (zec hc11) (zae (v := (zS s)) rfl ?_)
    refine zaz rfl rfl (zec hc11) (zae (v := (zI i10)) rfl ?_)
    obtain ⟨x12, n11, q14, q15, -, h⟩ := zix h
    refine zaz rfl rfl (zec hc11) (zda (xs := s) (i := i10) (n := n11) (a := x12) zax rfl rfl q14 q15 ?_)
    refine zaz rfl rfl (zec hc11) (OpY.gtr (x := (UInt8.toNat x12 : Int)) (y := 126) (((UInt8.toNat x12 : Int) : Int) > 126) rfl rfl zbi ?_)
    refine zag (zbh (t := (decide (((UInt8.toNat x11 : Int) : Int) < 32))) (v := (zac (decide (((UInt8.toNat x12 : Int) : Int) > 126)))) rfl (zec hc11) rfl (zaq ?_))
    obtain rfl := zad h
    refine zap ?_
    exact ⟨(decide (((UInt8.toNat x12 : Int) : Int) > 126)), _, rfl, (zef ⟨rfl, rfl, rfl, trivial⟩), hL10, zbp, trivial⟩
   rintro _ w11 ⟨x10, u, rfl, rfl, hL11, K11, -⟩
   replace h := g11
   try dsimp only at h
   refine zch x10 rfl (fun hc12 => ?_) (fun hc12 => ?_)
   ·
    replace h := ite_t hc12 h
    refine zal (zah rfl (zag (zaj (v := zF) rfl ?_)))
    refine zaq (zbt ?_)
    obtain rfl := zad h
    obtain rfl := hd10 _ rfl
    replace h := g10
    try dsimp only at h
    obtain rfl := zad h
    refine ⟨[zF], zrt, ⟨_, rfl, hL11.done, ?_⟩⟩
    exact zrt
   replace h := ite_f hc12 h
   refine zbl (zbf (zah rfl (zag (zae (v := (zI i10)) rfl ?_))))
   refine zag (zbx (x := i10) (y := 1) (z := (iw (i10 + 1))) rfl rfl rfl ?_)
   refine zag (zaj (v := (zI (iw (i10 + 1)))) rfl (zaq ?_))
   obtain rfl := zad h
   refine zap ⟨(iw (i10 + 1)), rfl, ?_⟩
   exact ⟨_, (zef ⟨rfl, rfl, trivial⟩), hL11, (zak K10 K11), trivial⟩
  replace h := ite_f hc10 h
  refine zca rfl ?_
  obtain rfl := zad h
  obtain rfl := hd10 _ rfl
  replace h := g10
  try dsimp only at h
  refine zap ?_
  exact ⟨_, rfl, (zef trivial), hL10, K10, trivial⟩
 rintro _ w12 ⟨u, rfl, rfl, hL12, K12, -⟩
 replace h := g10
 try dsimp only at h
 refine zal (zah rfl (zag (zaj (v := zT) rfl ?_)))
 refine zaq (zbt ?_)
 obtain rfl := zad h
 refine ⟨[zT], zrt, ⟨_, rfl, hL12.done, ?_⟩⟩
 exact zrt
theorem qValid_w (N : Nat) (t : TTest)  (w : World) (S : Nat → Prop)  (r : Bool) (h : qValid N t = some r) :
  Calls Try.prog 42 #[(zbq #[(zI t.Var), (zI t.Kind), (zac t.Negated), (zS t.Text)])] w (Ret w (fun v w' => (zac r) = v ∧ True)) := by
 unfold qValid at h
 have hL : vL w w [] [] := Go.X.Loc.begin0 w
 refine calls_of (l := [(zbq #[(zI t.Var), (zI t.Kind), (zac t.Negated), (zS t.Text)])]) (rl := [.tmp 2]) (n := 22) Try.func42 rfl rfl rfl (zai rfl) ?_
 refine zal (zah rfl (zag (zdp (cs := [(zI t.Var), (zI t.Kind), (zac t.Negated), (zS t.Text)]) rfl rfl hL ?_)))
 intro b1 w2 hL3 hS5
 refine zag (zaj (v := zF) rfl ?_)
 refine zaq (zal (zah rfl (zag (zau (q := 1) zbd rfl ti3 rfl rfl rfl ?_))))
 refine zag (zav (v := (zI t.Kind)) zaw rfl rfl (hL3.at 0 rfl rfl) rfl ?_)
 refine zag (OpY.geq (x := t.Kind) (y := 0) ((t.Kind : Int) ≥ 0) rfl rfl zbi ?_)
 refine zag (zae (v := (zac (decide ((t.Kind : Int) ≥ 0)))) rfl ?_)
 by_cases hc6 : (t.Kind : Int) ≥ 0
 ·
  replace h := ite_t hc6 h
  refine zaz rfl rfl (zed hc6) (zau (q := 1) zbd rfl ti3 rfl rfl rfl ?_)
  refine zaz rfl rfl (zed hc6) (zav (v := (zI t.Kind)) zaw rfl rfl (hL3.at 0 rfl rfl) rfl ?_)
  refine zaz rfl rfl (zed hc6) (zea (x := t.Kind) (y := 3) ((t.Kind : Int) ≤ 3) rfl rfl zbi ?_)
  refine zag (zbn (t := (decide ((t.Kind : Int) ≥ 0))) (v := (zac (decide ((t.Kind : Int) ≤ 3)))) rfl (zed hc6) rfl ?_)
  refine zag (zae (v := (zac (decide ((t.Kind : Int) ≤ 3)))) rfl ?_)
  by_cases hc7 : (t.Kind : Int) ≤ 3
  ·
   replace h := ite_t hc7 h
   refine zaz rfl rfl (zed hc7) (zau (q := 3) zbd rfl ti9 rfl rfl rfl ?_)
   refine zaz rfl rfl (zed hc7) (zav (v := (zS t.Text)) zax rfl rfl (hL3.at 0 rfl rfl) rfl ?_)
   refine zaz rfl rfl (zed hc7) (zdf zax rfl ?_)
   refine zaz rfl rfl (zed hc7) (zea (x := (t.Text.length : Int)) (y := 16) (((t.Text.length : Int) : Int) ≤ 16) rfl rfl zbi ?_)
   refine zag (zbn (t := (decide ((t.Kind : Int) ≤ 3))) (v := (zac (decide (((t.Text.length : Int) : Int) ≤ 16)))) rfl (zed hc7) rfl ?_)
   refine zag (zae (v := (zac (decide (((t.Text.length : Int) : Int) ≤ 16)))) rfl ?_)
   by_cases hc8 : ((t.Text.length : Int) : Int) ≤ 16
   ·
    replace h := ite_t hc8 h
    refine zaz rfl rfl (zed hc8) (zau (q := 3) zbd rfl ti9 rfl rfl rfl ?_)
    refine zaz rfl rfl (zed hc8) (zav (v := (zS t.Text)) zax rfl rfl (hL3.at 0 rfl rfl) rfl ?_)
    obtain ⟨r9, q10, h⟩ := zee h
    refine zaz rfl rfl (zed hc8) (zbz en29 rfl rfl (qPrintable_w N t.Text _ Any r9 q10) ?_)
    rintro _ w10 hE10 ⟨rfl, -⟩
    have hL10 := hL3.ext hE10
    refine zag (zbn (t := (decide (((t.Text.length : Int) : Int) ≤ 16))) (v := (zac r9)) rfl (zed hc8) rfl ?_)
    refine zag (zaj (v := (zac r9)) rfl ?_)
    refine zaq (zbt ?_)
    obtain rfl := zad h
    refine ⟨[(zac r9)], zrt, ⟨_, rfl, hL10.done, ?_⟩⟩
    exact zrt
   replace h := ite_f hc8 h
   refine zbg rfl rfl (zec hc8) (zbg rfl rfl (zec hc8) (zbg rfl rfl (zec hc8) ?_))
   refine zag (zbh (t := (decide (((t.Text.length : Int) : Int) ≤ 16))) (v := zF) rfl (zec hc8) rfl ?_)
   refine zag (zaj (v := zF) rfl ?_)
   refine zaq (zbt ?_)
   obtain rfl := zad h
   refine ⟨[zF], zrt, ⟨_, rfl, hL3.done, ?_⟩⟩
   exact zrt
  replace h := ite_f hc7 h
  refine zbg rfl rfl (zec hc7) (zbg rfl rfl (zec hc7) (zbg rfl rfl (zec hc7) (zbg rfl rfl (zec hc7) ?_)))
  refine zag (zbh (t := (decide ((t.Kind : Int) ≤ 3))) (v := zF) rfl (zec hc7) rfl ?_)
  refine zag (zae (v := zF) rfl ?_)
  refine zbg rfl rfl rfl (zbg rfl rfl rfl (zbg rfl rfl rfl ?_))
  refine zag (zbh (t := false) (v := zF) rfl rfl rfl ?_)
  refine zag (zaj (v := zF) rfl ?_)
  refine zaq (zbt ?_)
  obtain rfl := zad h
  refine ⟨[zF], zrt, ⟨_, rfl, hL3.done, ?_⟩⟩
  exact zrt
 replace h := ite_f hc6 h
 refine zbg rfl rfl (zec hc6) (zbg rfl rfl (zec hc6) (zbg rfl rfl (zec hc6) ?_))
 refine zag (zbh (t := (decide ((t.Kind : Int) ≥ 0))) (v := zF) rfl (zec hc6) rfl ?_)
 refine zag (zae (v := zF) rfl ?_)
 refine zbg rfl rfl rfl (zbg rfl rfl rfl (zbg rfl rfl rfl (zbg rfl rfl rfl ?_)))
 refine zag (zbh (t := false) (v := zF) rfl rfl rfl ?_)
 refine zag (zae (v := zF) rfl ?_)
 refine zbg rfl rfl rfl (zbg rfl rfl rfl (zbg rfl rfl rfl ?_))
 refine zag (zbh (t := false) (v := zF) rfl rfl rfl ?_)
 refine zag (zaj (v := zF) rfl ?_)
 refine zaq (zbt ?_)
 obtain rfl := zad h
 refine ⟨[zF], zrt, ⟨_, rfl, hL3.done, ?_⟩⟩
 exact zrt
theorem qClosed_w (N : Nat) (p : (List UInt8)) (vset : (List Int)) (vset_ob : Option Nat) (vset_cap : Nat) (vset_cs : List Value) (vset_sp : List Value) (X : List (Option Nat)) (w : World) (S : Nat → Prop) (hL : Go.X.Loc X [] w w [vset_ob] [zab ([] ++ (vset_cs ++ vset_sp))]) (vset_hE : Els (rInt .u8) (vH w S [vset_ob] w) vset_cs vset) (vset_hc : (vset_cs ++ vset_sp).length = vset_cap * (rInt .u8).sz) (r : ((List UInt8) × (List Int))) (h : qClosed N p vset = some r) :
  Calls Try.prog 70 #[(zS p), (osv vset_ob 0 vset.length vset_cap)] w (fun e w' => ∃ (o1_cs : List Value) (o1_sp : List Value), e = Ending.returned (zS r.1) ∧ Go.X.Loc X [] w w' [vset_ob] [zab ([] ++ (o1_cs ++ o1_sp))] ∧ Keep w.heap.size [vset_ob] w [vset_ob] w' ∧ List.length vset = List.length r.2 ∧ Els (rInt .u8) (vH w S [vset_ob] w') o1_cs r.2 ∧ (o1_cs ++ o1_sp).length = vset_cap * (rInt .u8).sz ∧ True) := by
 unfold qClosed at h
 refine calls_of (l := [(zS p), (osv vset_ob 0 vset.length vset_cap)]) (rl := [.tmp 4]) (n := 29) Try.func70 rfl rfl rfl (zai rfl) ?_
 refine zal (zah rfl (zag (zaj (v := (zS ([] : List UInt8))) rfl ?_)))
 refine zaq (zal (zal (zah rfl (zag (zaj (v := (zI 0)) rfl (zaq ?_))))))
 obtain ⟨s10, hl10, g10⟩ := zee h
 refine zbs (fun e w' => ∃ (vset10 : (List Int)) (cs10 : List Value) (u : Env), vset10 = s10 ∧ e = upds [(1, (osv vset_ob 0 vset.length vset_cap))] u ∧ Go.X.Loc X [] w w' [vset_ob] [zab ([] ++ (cs10 ++ vset_sp))] ∧ Keep w.heap.size [vset_ob] w [vset_ob] w' ∧ Els (rInt .u8) (vH w S [vset_ob] w') cs10 vset10 ∧ vset.length = List.length vset10 ∧ (cs10 ++ vset_sp).length = vset_cap * (rInt .u8).sz ∧ True) ?_ ?_
 ·
  refine zbc ?_
  refine zbw hl10 (fun (ss : ((List Int) × Int)) (e : Env) (w' : World) => match ss with | (vset11, i10) => ∃ (cs11 : List Value) (u : Env), e = upds [(0, (zS p)), (1, (osv vset_ob 0 vset.length vset_cap)), (5, (zI i10))] u ∧ Go.X.Loc X [] w w' [vset_ob] [zab ([] ++ (cs11 ++ vset_sp))] ∧ Keep w.heap.size [vset_ob] w [vset_ob] w' ∧ Els (rInt .u8) (vH w S [vset_ob] w') cs11 vset11 ∧ vset.length = List.length vset11 ∧ (cs11 ++ vset_sp).length = vset_cap * (rInt .u8).sz ∧ True) ⟨vset_cs, _, (zef ⟨rfl, rfl, rfl, trivial⟩), hL, zbp, vset_hE, rfl, vset_hc, trivial⟩ ?_
  rintro ⟨vset11, i10⟩ oo _ w10 ⟨cs11, u, rfl, hL10, K10, hE10, hl11, hc10, -⟩ h hd10
  rw [qClosed_b1] at h
  refine zal (zal (zah rfl (zag (zae (v := (zI i10)) rfl ?_))))
  refine zag (zae (v := (zS p)) rfl ?_)
  refine zag (zdf zax rfl ?_)
  refine zag (zcg (x := i10) (y := (p.length : Int)) ((i10 : Int) < (p.length : Int)) rfl rfl zbi (zaq ?_))
  refine zbj ((i10 : Int) < (p.length : Int)) rfl (fun hc11 => ?_) (fun hc11 => ?_)
  ·
   replace h := ite_t hc11 h
   refine zbl (zal (zbc (zal ?_)))
   obtain ⟨s11, h, g11⟩ := zee h
   refine zbs (fun e w' => ∃ (x10 : Bool) (u : Env), x10 = s11 ∧ e = upds [(0, (zS p)), (1, (osv vset_ob 0 vset.length vset_cap)), (5, (zI i10)), (22, (zac x10))] u ∧ Go.X.Loc X [] w w' [vset_ob] [zab ([] ++ (cs11 ++ vset_sp))] ∧ Keep w.heap.size [vset_ob] w10 [vset_ob] w' ∧ True) ?_ ?_
   ·
    refine zah rfl (zag (zae (v := (osv vset_ob 0 vset.length vset_cap)) rfl ?_))
    refine zag (zae (v := (zI i10)) rfl ?_)
    obtain ⟨x11, n10, q11, q12, q13, h⟩ := zix h
    obtain ⟨b10, hb10⟩ := hL10.row_some 0 rfl rfl (zev (pre := []) hE10 q12 (Nat.lt_of_sub_eq_succ rfl))
    refine zag (zbe (r := (rInt .u8)) (b := b10) (o := 0) (n := n10) (m := vset.length) (xs := vset11) (q := (0 + n10 * (rInt .u8).sz)) zcb ti5 (zem hb10) hl11 rfl q11 q13 rfl ?_)
    obtain ⟨vs10, q14, q15, q16⟩ := zeo (pre := []) (sp := vset_sp) hE10 q12
    obtain rfl := q15
    refine zag (zbu (v := (zaa .u8 x11)) zcu rfl rfl (zeq hb10 (hL10.at 0 rfl rfl)) q16 ?_)
    refine zag (zcv (x := x11) (y := 1) ((x11 : Int) = 1) rfl rfl zbi ?_)
    refine zag (zae (v := (zac (decide ((x11 : Int) = 1)))) rfl ?_)
    by_cases hc12 : (x11 : Int) = 1
    ·
     replace h := ite_t hc12 h
     refine zaz rfl rfl (zed hc12) (zae (v := (zS p)) rfl ?_)
     refine zaz rfl rfl (zed hc12) (zae (v := (zI i10)) rfl ?_)
     obtain ⟨x12, n11, q18, q19, -, h⟩ := zix h
     refine zaz rfl rfl (zed hc12) (zda (xs := p) (i := i10) (n := n11) (a := x12) zax rfl rfl q18 q19 ?_)
     refine zaz rfl rfl (zed hc12) (zcv (x := (UInt8.toNat x12 : Int)) (y := 37) (((UInt8.toNat x12 : Int) : Int) = 37) rfl rfl zbi ?_)
     refine zag (zbn (t := (decide ((x11 : Int) = 1))) (v := (zac (decide (((UInt8.toNat x12 : Int) : Int) = 37)))) rfl (zed hc12) rfl (zaq ?_))
     obtain rfl := zad h
     refine zap ?_
     exact ⟨(decide (((UInt8.toNat x12 : Int) : Int) = 37)), _, rfl, (zef ⟨rfl, rfl, rfl, rfl, trivial⟩), hL10, zbp, trivial⟩
    replace h := ite_f hc12 h
    refine zbg rfl rfl (zec hc12) (zbg rfl rfl (zec hc12) (zbg rfl rfl (zec hc12) (zbg rfl rfl (zec hc12) ?_)))
    refine zag (zbh (t := (decide ((x11 : Int) = 1))) (v := zF) rfl (zec hc12) rfl (zaq ?_))
    obtain rfl := zad h
    refine zap ?_
    exact ⟨false, _, rfl, (zef ⟨rfl, rfl, rfl, rfl, trivial⟩), hL10, zbp, trivial⟩
   rintro _ w11 ⟨x10, u, rfl, rfl, hL11, K11, -⟩
   replace h := g11
   try dsimp only at h
   refine zch x10 rfl (fun hc13 => ?_) (fun hc13 => ?_)
   ·
    replace h := ite_t hc13 h
    refine zah rfl (zag (zae (v := (osv vset_ob 0 vset.length vset_cap)) rfl ?_))
    refine zag (zae (v := (zI i10)) rfl ?_)
    refine zag (zbx (x := i10) (y := 1) (z := (iw (i10 + 1))) rfl rfl rfl ?_)
    obtain ⟨x13, n12, q21, q22, q23, h⟩ := zix h
    have f10 := (hE10.mono (K11 S))
    obtain ⟨b11, hb11⟩ := hL11.row_some 0 rfl rfl (zev (pre := []) f10 q22 (Nat.lt_of_sub_eq_succ rfl))
    refine zag (zbe (r := (rInt .u8)) (b := b11) (o := 0) (n := n12) (m := vset.length) (xs := vset11) (q := (0 + n12 * (rInt .u8).sz)) zcb ti5 (zem hb11) hl11 rfl q21 q23 rfl ?_)
    obtain ⟨x14, n13, q25, q26, q27, h⟩ := zux h
    obtain rfl := zin q21 q25
    refine zdj (zdd (pre := []) (r := (rInt .u8)) (vs := [(zaa .u8 1)]) (a := 1) ti5 rfl rfl rfl rfl hL11 0 (congrArg some hb11) rfl f10 q23 rfl q27 ?_)
    have hl12 : vset.length = List.length x14 := by rw [q27, List.length_set]; exact hl11
    intro w12 cs12 (hL12 : Go.X.Loc X [] w w12 [vset_ob] [zab ([] ++ (cs12 ++ vset_sp))]) hS10 hE11 q28
    have hc14 : (cs12 ++ vset_sp).length = vset_cap * (rInt .u8).sz := zhc hc10 q28
    have K12 := ks w hS10
    refine zaq (zbf (zah rfl (zag (zae (v := (zI i10)) rfl ?_))))
    refine zag (zbx (x := i10) (y := 1) (z := (iw (i10 + 1))) rfl rfl rfl ?_)
    refine zag (zaj (v := (zI (iw (i10 + 1)))) rfl (zaq ?_))
    have f11 := (hE11.mono (K12 S))
    obtain rfl := zad h
    refine zap ⟨(x14, (iw (i10 + 1))), rfl, ?_⟩
    exact ⟨cs12, _, (zef ⟨rfl, rfl, rfl, trivial⟩), hL12, (zak (zak K10 K11) K12), f11, hl12, hc14, trivial⟩
   replace h := ite_f hc13 h
   refine zbl (zbf (zah rfl (zag (zae (v := (zI i10)) rfl ?_))))
   refine zag (zbx (x := i10) (y := 1) (z := (iw (i10 + 1))) rfl rfl rfl ?_)
   refine zag (zaj (v := (zI (iw (i10 + 1)))) rfl (zaq ?_))
   have f12 := (hE10.mono (K11 S))
   obtain rfl := zad h
   refine zap ⟨(vset11, (iw (i10 + 1))), rfl, ?_⟩
   exact ⟨cs11, _, (zef ⟨rfl, rfl, rfl, trivial⟩), hL11, (zak K10 K11), f12, hl11, hc10, trivial⟩
  replace h := ite_f hc11 h
  refine zca rfl ?_
  obtain rfl := zad h
  obtain rfl := hd10 _ rfl
  replace h := g10
  try dsimp only at h
  refine zap ?_
  exact ⟨vset11, cs11, _, rfl, (zef zrt), hL10, K10, hE10, hl11, hc10, trivial⟩
 rintro _ w13 ⟨vset10, cs10, u, rfl, rfl, hL13, K13, hE12, hl13, hc15, -⟩
 replace h := g10
 try dsimp only at h
 refine zal (zah rfl (zag (zae (v := (osv vset_ob 0 vset.length vset_cap)) rfl ?_)))
 refine zag (OpY.strRow (pre := []) (cs := cs10) (sp := vset_sp) (xs := vset10) zcb zax zcu rfl (hL13.at 0 rfl rfl) hE12 hl13 ?_)
 refine zag (zaj (v := (zS (bstr vset10))) rfl ?_)
 refine zaq (zbt ?_)
 obtain rfl := zad h
 refine ⟨[(zS (bstr vset10))], zrt, ?_⟩
 exact ⟨cs10, vset_sp, rfl, (by have h9 := hL13; (try rw [hl13] at h9); exact h9), K13, hl13, hE12, hc15, trivial⟩
theorem qStart_w (N : Nat) (t : TTest)  (w : World) (S : Nat → Prop)  (r : (List UInt8)) (h : qStart N t = some r) :
  Calls Try.prog 56 #[(zbq #[(zI t.Var), (zI t.Kind), (zac t.Negated), (zS t.Text)])] w (Ret w (fun v w' => (zS r) = v ∧ True)) := by
 unfold qStart at h
 have hL : vL w w [] [] := Go.X.Loc.begin0 w
 refine calls_of (l := [(zbq #[(zI t.Var), (zI t.Kind), (zac t.Negated), (zS t.Text)])]) (rl := [.tmp 2]) (n := 21) Try.func56 rfl rfl rfl (zai rfl) ?_
 refine zal (zah rfl (zag (zdp (cs := [(zI t.Var), (zI t.Kind), (zac t.Negated), (zS t.Text)]) rfl rfl hL ?_)))
 intro b1 w2 hL3 hS5
 refine zag (zaj (v := (zS ([] : List UInt8))) rfl ?_)
 refine zaq (zal (zal (zah rfl (zag (zau (q := 1) zbd rfl ti3 rfl rfl rfl ?_)))))
 refine zag (zav (v := (zI t.Kind)) zaw rfl rfl (hL3.at 0 rfl rfl) rfl ?_)
 refine zag (OpY.neq (x := t.Kind) (y := 1) ((t.Kind : Int) ≠ 1) rfl rfl zbi (zaq ?_))
 refine zbj ((t.Kind : Int) ≠ 1) rfl (fun hc6 => ?_) (fun hc6 => ?_)
 ·
  replace h := ite_t hc6 h
  refine zal (zah rfl ?_)
  have hE8 : Els (rInt .u8) (vH w None [some b1] w2) [(zaa .u8 0)] [0] := (zcp (a := [(zaa .u8 0)]) rfl zcm)
  refine zag (zcl (r := (rInt .u8)) (vs := [(zaa .u8 0)]) (css := [[(zaa .u8 0)]]) (xs := [0]) zcb ti5 (zai rfl) rfl rfl ⟨rfl, rfl, trivial⟩ (zai rfl) hE8 rfl hL3 ?_)
  intro b7 w10 hc9 hL10 hS10
  have K10 := ks w hS10
  have f10 := (hE8.mono (K10 None))
  refine zag (OpY.strRow (pre := []) (cs := [(zaa .u8 0)]) (sp := []) (xs := [0]) zcb zax zcu rfl (hL10.at 0 rfl rfl) f10 rfl ?_)
  obtain ⟨u16, q10, h⟩ := zee h
  have q11 := chk_some q10
  refine zag (OpY.sAdd (x := ([61] : List UInt8)) (y := (bstr [0])) rfl rfl q11 ?_)
  refine zag (zaj (v := (zaf (s8 (([61] : List UInt8) ++ (bstr [0]))))) rfl ?_)
  refine zaq (zbt ?_)
  obtain rfl := zad h
  refine ⟨[(zaf (s8 (([61] : List UInt8) ++ (bstr [0]))))], zrt, ⟨_, rfl, hL10.done, ?_⟩⟩
  exact zrt
 replace h := ite_f hc6 h
 refine zbl (zal (zah rfl (zag (zau (q := 3) zbd rfl ti9 rfl rfl rfl ?_))))
 refine zag (zav (v := (zS t.Text)) zax rfl rfl (hL3.at 0 rfl rfl) rfl ?_)
 refine zag (zdf zax rfl ?_)
 refine zag (zbx (x := (t.Text.length : Int)) (y := 1) (z := (iw ((t.Text.length : Int) + 1))) rfl rfl rfl ?_)
 obtain ⟨x10, q12, h⟩ := zee h
 obtain ⟨m10, q13, q14, q15, q16⟩ := mk1_some q12
 refine zag (zdl (r := (rInt .u8)) (H := (vH w None [some b1] w2)) (zc := [(zaa .u8 0)]) (x := 0) zcb ti5 rfl rfl rfl rfl q13 q14 q15 q16 hL3 ?_)
 intro b10 w11 cs10 hE10 hc10 hL11 hS11
 have K11 := ks w hS11
 refine zag (zaj (v := (osv (some b10) 0 x10.length m10)) rfl ?_)
 refine zaq (zal (zah rfl (zag (zae (v := (osv (some b10) 0 x10.length m10)) rfl ?_))))
 obtain ⟨x11, n10, q18, q19, q20, h⟩ := zix h
 refine zag (zbe (r := (rInt .u8)) (b := b10) (o := 0) (n := n10) (m := x10.length) (xs := x10) (q := (0 + n10 * (rInt .u8).sz)) zcb ti5 rfl rfl rfl q18 q20 rfl ?_)
 obtain ⟨x12, n11, q22, q23, q24, h⟩ := zux h
 obtain rfl := zin q18 q22
 have f11 := (hE10.mono (K11 None))
 refine zdj (zdd (pre := []) (r := (rInt .u8)) (vs := [(zaa .u8 1)]) (a := 1) ti5 rfl rfl rfl rfl hL11 0 rfl rfl f11 q20 rfl q24 ?_)
 have hl10 : x10.length = List.length x12 := by rw [q24, List.length_set]
 intro w12 cs11 (hL12 : vL w w12 [some b10, some b1] [zab ([] ++ (cs11 ++ [])), zab [(zI t.Var), (zI t.Kind), (zac t.Negated), (zS t.Text)]]) hS12 hE11 q25
 have hc11 : (cs11 ++ []).length = m10 * (rInt .u8).sz := zhc hc10 q25
 have K12 := ks w hS12
 refine zaq (zal (zah rfl (zag (zau (q := 3) zbd rfl ti9 rfl rfl rfl ?_))))
 refine zag (zav (v := (zS t.Text)) zax rfl rfl (hL12.at 1 rfl rfl) rfl ?_)
 refine zag (zae (v := (osv (some b10) 0 x10.length m10)) rfl ?_)
 obtain ⟨r10, q26, h⟩ := zee h
 have hL13 := hL12.lendW [0] rfl rfl rfl
 have f12 := (hE11.mono (K12 None))
 refine zag (zds en70 rfl rfl (calls_args (by rw [← hl10]; first | done | rfl) (qClosed_w N t.Text x12 (some b10) m10 cs11 [] [some b10] _ Any (by have h9 := hL13; (try rw [hl10] at h9); exact h9) (f12.mono (zcr [0] rfl)) hc11 r10 q26)) ?_)
 rintro _ w13 ⟨cs12, sp10, rfl, hL14, K13, hl11, hE12, hc12, -⟩
 refine ⟨_, rfl, ?_⟩
 have hp10 := hL12.backW [0] [1] rfl rfl rfl rfl hL14
 have hL15 : vL w w13 [some b10, some b1] [zab ([] ++ (cs12 ++ sp10)), zab [(zI t.Var), (zI t.Kind), (zac t.Negated), (zS t.Text)]] := (by have h9 := hp10.1; (try rw [← (hl10.trans hl11)] at h9); exact h9)
 refine zag (zaj (v := (zS r10.1)) rfl ?_)
 refine zaq (zbt ?_)
 obtain rfl := zad h
 refine ⟨[(zS r10.1)], zrt, ⟨_, rfl, hL15.done, ?_⟩⟩
 exact zrt
theorem qStep_w (N : Nat) (t : TTest) (s : (List UInt8)) (c : Int)  (w : World) (S : Nat → Prop)  (r : (List UInt8)) (h : qStep N t s c = some r) :
  Calls Try.prog 57 #[(zbq #[(zI t.Var), (zI t.Kind), (zac t.Negated), (zS t.Text)]), (zS s), (zaa .u8 c)] w (Ret w (fun v w' => (zS r) = v ∧ True)) := by
 unfold qStep at h
 have hL : vL w w [] [] := Go.X.Loc.begin0 w
 refine calls_of (l := [(zbq #[(zI t.Var), (zI t.Kind), (zac t.Negated), (zS t.Text)]), (zS s), (zaa .u8 c)]) (rl := [.tmp 6]) (n := 96) Try.func57 rfl rfl rfl (zai rfl) ?_
 refine zal (zah rfl (zag (zdp (cs := [(zI t.Var), (zI t.Kind), (zac t.Negated), (zS t.Text)]) rfl rfl hL ?_)))
 intro b1 w2 hL3 hS5
 refine zag (zaj (v := (zS ([] : List UInt8))) rfl ?_)
 refine zaq (zal (zah rfl (zag (zau (q := 3) zbd rfl ti9 rfl rfl rfl ?_))))
 refine zag (zav (v := (zS t.Text)) zax rfl rfl (hL3.at 0 rfl rfl) rfl ?_)
 refine zag (zaj (v := (zS t.Text)) rfl ?_)
 refine zaq (zal (zal (zah rfl (zag (zau (q := 1) zbd rfl ti3 rfl rfl rfl ?_)))))
 refine zag (zav (v := (zI t.Kind)) zaw rfl rfl (hL3.at 0 rfl rfl) rfl ?_)
 refine zag (zcv (x := t.Kind) (y := 1) ((t.Kind : Int) = 1) rfl rfl zbi (zaq ?_))
 refine zbj ((t.Kind : Int) = 1) rfl (fun hc6 => ?_) (fun hc6 => ?_)
 ·
  replace h := ite_t hc6 h
  refine zal (zah rfl (zag (zae (v := (zS t.Text)) rfl ?_)))
  refine zag (zdf zax rfl ?_)
  refine zag (zbx (x := (t.Text.length : Int)) (y := 1) (z := (iw ((t.Text.length : Int) + 1))) rfl rfl rfl ?_)
  obtain ⟨x8, q9, h⟩ := zee h
  obtain ⟨m7, q10, q11, q12, q13⟩ := mk1_some q9
  refine zag (zdl (r := (rInt .u8)) (H := (vH w None [some b1] w2)) (zc := [(zaa .u8 0)]) (x := 0) zcb ti5 rfl rfl rfl rfl q10 q11 q12 q13 hL3 ?_)
  intro b10 w10 cs10 hE10 hc10 hL10 hS10
  have K10 := ks w hS10
  refine zag (zaj (v := (osv (some b10) 0 x8.length m7)) rfl ?_)
  refine zaq (zal (zal (zah rfl (zag (zaj (v := (zI 0)) rfl (zaq ?_))))))
  obtain ⟨s10, hl10, g10⟩ := zee h
  refine zbs (fun e w' => ∃ (vset10 : (List Int)) (cs11 : List Value) (u : Env), vset10 = s10 ∧ e = upds [(7, (zS t.Text)), (8, (osv (some b10) 0 x8.length m7))] u ∧ vL w w' [some b10] [zab ([] ++ (cs11 ++ []))] ∧ Keep w.heap.size [some b10, some b1] w10 [some b10] w' ∧ Els (rInt .u8) (vH w None [some b10] w') cs11 vset10 ∧ x8.length = List.length vset10 ∧ (cs11 ++ []).length = m7 * (rInt .u8).sz ∧ True) ?_ ?_
  ·
   refine zbc ?_
   have hp10 := hL10.pick [0] rfl rfl rfl
   have hL11 : vL w w10 [some b10] [zab ([] ++ (cs10 ++ []))] := hp10.1
   have K11 := ks w hp10.2
   have f10 := ((hE10.mono (K10 None)).mono (K11 None))
   refine zbw hl10 (fun (ss : ((List Int) × Int)) (e : Env) (w' : World) => match ss with | (vset11, i10) => ∃ (cs12 : List Value) (u : Env), e = upds [(1, (zS s)), (2, (zaa .u8 c)), (7, (zS t.Text)), (8, (osv (some b10) 0 x8.length m7)), (9, (zI i10))] u ∧ vL w w' [some b10] [zab ([] ++ (cs12 ++ []))] ∧ Keep w.heap.size [some b10, some b1] w10 [some b10] w' ∧ Els (rInt .u8) (vH w None [some b10] w') cs12 vset11 ∧ x8.length = List.length vset11 ∧ (cs12 ++ []).length = m7 * (rInt .u8).sz ∧ True) ⟨cs10, _, (zef ⟨rfl, rfl, rfl, rfl, rfl, trivial⟩), hL11, K11, f10, rfl, hc10, trivial⟩ ?_
   rintro ⟨vset11, i10⟩ oo _ w11 ⟨cs12, u, rfl, hL12, K12, hE11, hl11, hc11, -⟩ h hd10
   rw [qStep_b1] at h
   refine zal (zal (zah rfl (zag (zae (v := (zI i10)) rfl ?_))))
   refine zag (zae (v := (zS t.Text)) rfl ?_)
   refine zag (zdf zax rfl ?_)
   refine zag (zcg (x := i10) (y := (t.Text.length : Int)) ((i10 : Int) < (t.Text.length : Int)) rfl rfl zbi (zaq ?_))
   refine zbj ((i10 : Int) < (t.Text.length : Int)) rfl (fun hc12 => ?_) (fun hc12 => ?_)
   ·
    replace h := ite_t hc12 h
    refine zbl (zal (zbc (zal (zal ?_))))
    obtain ⟨s11, h, g11⟩ := zee h
    refine zbs (fun e w' => ∃ (x10 : Bool) (u : Env), x10 = s11 ∧ e = upds [(1, (zS s)), (2, (zaa .u8 c)), (7, (zS t.Text)), (8, (osv (some b10) 0 x8.length m7)), (9, (zI i10)), (35, (zac x10))] u ∧ vL w w' [some b10] [zab ([] ++ (cs12 ++ []))] ∧ Keep w.heap.size [some b10] w11 [some b10] w' ∧ True) ?_ ?_
    ·
     refine zah rfl (zag (zae (v := (zS s)) rfl ?_))
     refine zag (zae (v := (zI i10)) rfl ?_)
     obtain ⟨x11, n10, q15, q16, -, h⟩ := zix h
     refine zag (zda (xs := s) (i := i10) (n := n10) (a := x11) zax rfl rfl q15 q16 ?_)
     refine zag (zcv (x := (UInt8.toNat x11 : Int)) (y := 1) (((UInt8.toNat x11 : Int) : Int) = 1) rfl rfl zbi ?_)
     refine zag (zae (v := (zac (decide (((UInt8.toNat x11 : Int) : Int) = 1)))) rfl ?_)
     by_cases hc13 : ((UInt8.toNat x11 : Int) : Int) = 1
     ·
      replace h := ite_t hc13 h
      refine zaz rfl rfl (zed hc13) (zae (v := (zS t.Text)) rfl ?_)
      refine zaz rfl rfl (zed hc13) (zae (v := (zI i10)) rfl ?_)
      obtain ⟨x12, n11, q18, q19, -, h⟩ := zix h
      refine zaz rfl rfl (zed hc13) (zda (xs := t.Text) (i := i10) (n := n11) (a := x12) zax rfl rfl q18 q19 ?_)
      refine zaz rfl rfl (zed hc13) (zcv (x := (UInt8.toNat x12 : Int)) (y := 37) (((UInt8.toNat x12 : Int) : Int) = 37) rfl rfl zbi ?_)
      refine zag (zbn (t := (decide (((UInt8.toNat x11 : Int) : Int) = 1))) (v := (zac (decide (((UInt8.toNat x12 : Int) : Int) = 37)))) rfl (zed hc13) rfl (zaq ?_))
      obtain rfl := zad h
      refine zap ?_
      exact ⟨(decide (((UInt8.toNat x12 : Int) : Int) = 37)), _, rfl, (zef ⟨rfl, rfl, rfl, rfl, rfl, rfl, trivial⟩), hL12, zbp, trivial⟩
     replace h := ite_f hc13 h
     refine zbg rfl rfl (zec hc13) (zbg rfl rfl (zec hc13) (zbg rfl rfl (zec hc13) (zbg rfl rfl (zec hc13) ?_)))
     refine zag (zbh (t := (decide (((UInt8.toNat x11 : Int) : Int) = 1))) (v := zF) rfl (zec hc13) rfl (zaq ?_))
     obtain rfl := zad h
     refine zap ?_
     exact ⟨false, _, rfl, (zef ⟨rfl, rfl, rfl, rfl, rfl, rfl, trivial⟩), hL12, zbp, trivial⟩
    rintro _ w12 ⟨x10, u, rfl, rfl, hL13, K13, -⟩
    replace h := g11
    try dsimp only at h
    obtain ⟨s12, h, g12⟩ := zee h
    refine zbs (fun e w' => ∃ (vset12 : (List Int)) (cs13 : List Value) (u : Env), vset12 = s12 ∧ e = upds [(1, (zS s)), (2, (zaa .u8 c)), (7, (zS t.Text)), (8, (osv (some b10) 0 x8.length m7)), (9, (zI i10))] u ∧ vL w w' [some b10] [zab ([] ++ (cs13 ++ []))] ∧ Keep w.heap.size [some b10] w12 [some b10] w' ∧ Els (rInt .u8) (vH w None [some b10] w') cs13 vset12 ∧ x8.length = List.length vset12 ∧ (cs13 ++ []).length = m7 * (rInt .u8).sz ∧ True) ?_ ?_
    ·
     refine zch x10 rfl (fun hc14 => ?_) (fun hc14 => ?_)
     ·
      replace h := ite_t hc14 h
      refine zah rfl (zag (zae (v := (osv (some b10) 0 x8.length m7)) rfl ?_))
      refine zag (zae (v := (zI i10)) rfl ?_)
      obtain ⟨x13, n12, q21, q22, q23, h⟩ := zix h
      refine zag (zbe (r := (rInt .u8)) (b := b10) (o := 0) (n := n12) (m := x8.length) (xs := vset11) (q := (0 + n12 * (rInt .u8).sz)) zcb ti5 rfl hl11 rfl q21 q23 rfl ?_)
      obtain ⟨x14, n13, q25, q26, q27, h⟩ := zux h
      obtain rfl := zin q21 q25
      have f11 := (hE11.mono (K13 None))
      refine zdj (zdd (pre := []) (r := (rInt .u8)) (vs := [(zaa .u8 1)]) (a := 1) ti5 rfl rfl rfl rfl hL13 0 rfl rfl f11 q23 rfl q27 ?_)
      have hl12 : x8.length = List.length x14 := by rw [q27, List.length_set]; exact hl11
      intro w13 cs14 (hL14 : vL w w13 [some b10] [zab ([] ++ (cs14 ++ []))]) hS11 hE12 q28
      have hc15 : (cs14 ++ []).length = m7 * (rInt .u8).sz := zhc hc11 q28
      have K14 := ks w hS11
      refine zaq ?_
      have f12 := (hE12.mono (K14 None))
      obtain rfl := zad h
      refine zap ?_
      exact ⟨x14, cs14, _, rfl, (zef ⟨rfl, rfl, rfl, rfl, rfl, trivial⟩), hL14, K14, f12, hl12, hc15, trivial⟩
     replace h := ite_f hc14 h
     refine zbl ?_
     have f13 := (hE11.mono (K13 None))
     obtain rfl := zad h
     refine zap ?_
     exact ⟨vset11, cs12, _, rfl, (zef ⟨rfl, rfl, rfl, rfl, rfl, trivial⟩), hL13, zbp, f13, hl11, hc11, trivial⟩
    rintro _ w14 ⟨vset12, cs13, u, rfl, rfl, hL15, K15, hE13, hl13, hc16, -⟩
    replace h := g12
    try dsimp only at h
    refine zal ?_
    obtain ⟨s13, h, g13⟩ := zee h
    refine zbs (fun e w' => ∃ (x15 : Bool) (u : Env), x15 = s13 ∧ e = upds [(1, (zS s)), (2, (zaa .u8 c)), (7, (zS t.Text)), (8, (osv (some b10) 0 x8.length m7)), (9, (zI i10)), (59, (zac x15))] u ∧ vL w w' [some b10] [zab ([] ++ (cs13 ++ []))] ∧ Keep w.heap.size [some b10] w14 [some b10] w' ∧ True) ?_ ?_
    ·
     refine zah rfl (zag (zae (v := (zS s)) rfl ?_))
     refine zag (zae (v := (zI i10)) rfl ?_)
     obtain ⟨x16, n14, q30, q31, -, h⟩ := zix h
     refine zag (zda (xs := s) (i := i10) (n := n14) (a := x16) zax rfl rfl q30 q31 ?_)
     refine zag (zcv (x := (UInt8.toNat x16 : Int)) (y := 1) (((UInt8.toNat x16 : Int) : Int) = 1) rfl rfl zbi ?_)
     refine zag (zae (v := (zac (decide (((UInt8.toNat x16 : Int) : Int) = 1)))) rfl ?_)
     by_cases hc17 : ((UInt8.toNat x16 : Int) : Int) = 1
     ·
      replace h := ite_t hc17 h
      refine zaz rfl rfl (zed hc17) (zae (v := (zS t.Text)) rfl ?_)
      refine zaz rfl rfl (zed hc17) (zae (v := (zI i10)) rfl ?_)
      obtain ⟨x17, n15, q33, q34, -, h⟩ := zix h
      refine zaz rfl rfl (zed hc17) (zda (xs := t.Text) (i := i10) (n := n15) (a := x17) zax rfl rfl q33 q34 ?_)
      refine zaz rfl rfl (zed hc17) (zcv (x := (UInt8.toNat x17 : Int)) (y := 95) (((UInt8.toNat x17 : Int) : Int) = 95) rfl rfl zbi ?_)
      refine zaz rfl rfl (zed hc17) (zae (v := (zac (decide (((UInt8.toNat x17 : Int) : Int) = 95)))) rfl ?_)
      by_cases hc18 : ((UInt8.toNat x17 : Int) : Int) = 95
      ·
       replace h := ite_t hc18 h
       refine zbg rfl rfl (zed hc18) (zbg rfl rfl (zed hc18) (zbg rfl rfl (zed hc18) (zbg rfl rfl (zed hc18) (zbg rfl rfl (zed hc18) (zbg rfl rfl (zed hc18) ?_)))))
       refine zcq rfl rfl ?_
       refine zcq rfl rfl ?_
       refine zbg rfl rfl (zed hc18) ?_
       refine zaz rfl rfl (zed hc17) (zbn (t := (decide (((UInt8.toNat x17 : Int) : Int) = 95))) (v := zT) rfl (zed hc18) rfl ?_)
       refine zag (zbn (t := (decide (((UInt8.toNat x16 : Int) : Int) = 1))) (v := zT) rfl (zed hc17) rfl (zaq ?_))
       obtain rfl := zad h
       refine zap ?_
       exact ⟨true, _, rfl, (zef ⟨rfl, rfl, rfl, rfl, rfl, rfl, trivial⟩), hL15, zbp, trivial⟩
      replace h := ite_f hc18 h
      refine zaz rfl rfl (zec hc18) (zae (v := (zS t.Text)) rfl ?_)
      refine zaz rfl rfl (zec hc18) (zae (v := (zI i10)) rfl ?_)
      obtain ⟨x18, n16, q36, q37, -, h⟩ := zix h
      refine zaz rfl rfl (zec hc18) (zda (xs := t.Text) (i := i10) (n := n16) (a := x18) zax rfl rfl q36 q37 ?_)
      refine zaz rfl rfl (zec hc18) (zae (v := (zaa .u8 c)) rfl ?_)
      refine zaz rfl rfl (zec hc18) (zcv (x := (UInt8.toNat x18 : Int)) (y := c) (((UInt8.toNat x18 : Int) : Int) = c) rfl rfl zbi ?_)
      refine zaz rfl rfl (zec hc18) (zae (v := (zac (decide (((UInt8.toNat x18 : Int) : Int) = c)))) rfl ?_)
      by_cases hc19 : ((UInt8.toNat x18 : Int) : Int) = c
      ·
       replace h := ite_t hc19 h
       refine zaz rfl rfl (zed hc19) (zae (v := (zaa .u8 c)) rfl ?_)
       refine zaz rfl rfl (zed hc19) (OpY.neq (x := c) (y := 37) ((c : Int) ≠ 37) rfl rfl zbi ?_)
       refine zaz rfl rfl (zec hc18) (zbn (t := (decide (((UInt8.toNat x18 : Int) : Int) = c))) (v := (zac (decide ((c : Int) ≠ 37)))) rfl (zed hc19) rfl ?_)
       refine zaz rfl rfl (zed hc17) (zbh (t := (decide (((UInt8.toNat x17 : Int) : Int) = 95))) (v := (zac (decide ((c : Int) ≠ 37)))) rfl (zec hc18) rfl ?_)
       refine zag (zbn (t := (decide (((UInt8.toNat x16 : Int) : Int) = 1))) (v := (zac (decide ((c : Int) ≠ 37)))) rfl (zed hc17) rfl (zaq ?_))
       obtain rfl := zad h
       refine zap ?_
       exact ⟨(decide ((c : Int) ≠ 37)), _, rfl, (zef ⟨rfl, rfl, rfl, rfl, rfl, rfl, trivial⟩), hL15, zbp, trivial⟩
      replace h := ite_f hc19 h
      refine zbg rfl rfl (zec hc19) (zbg rfl rfl (zec hc19) ?_)
      refine zaz rfl rfl (zec hc18) (zbh (t := (decide (((UInt8.toNat x18 : Int) : Int) = c))) (v := zF) rfl (zec hc19) rfl ?_)
      refine zaz rfl rfl (zed hc17) (zbh (t := (decide (((UInt8.toNat x17 : Int) : Int) = 95))) (v := zF) rfl (zec hc18) rfl ?_)
      refine zag (zbn (t := (decide (((UInt8.toNat x16 : Int) : Int) = 1))) (v := zF) rfl (zed hc17) rfl (zaq ?_))
      obtain rfl := zad h
      refine zap ?_
      exact ⟨false, _, rfl, (zef ⟨rfl, rfl, rfl, rfl, rfl, rfl, trivial⟩), hL15, zbp, trivial⟩
     replace h := ite_f hc17 h
     refine zbg rfl rfl (zec hc17) (zbg rfl rfl (zec hc17) (zbg rfl rfl (zec hc17) (zbg rfl rfl (zec hc17) (zbg rfl rfl (zec hc17) ?_))))
     refine zcq rfl rfl ?_
     refine zcq rfl rfl ?_
     refine zcq rfl rfl ?_
     refine zcq rfl rfl ?_
     refine zcq rfl rfl ?_
     refine zcq rfl rfl ?_
     refine zcq rfl rfl ?_
     refine zcq rfl rfl ?_
     refine zcq rfl rfl ?_
     refine zbg rfl rfl (zec hc17) ?_
     refine zag (zbh (t := (decide (((UInt8.toNat x16 : Int) : Int) = 1))) (v := zF) rfl (zec hc17) rfl (zaq ?_))
     obtain rfl := zad h
     refine zap ?_
     exact ⟨false, _, rfl, (zef ⟨rfl, rfl, rfl, rfl, rfl, rfl, trivial⟩), hL15, zbp, trivial⟩
    rintro _ w15 ⟨x15, u, rfl, rfl, hL16, K16, -⟩
    replace h := g13
    try dsimp only at h
    refine zch x15 rfl (fun hc20 => ?_) (fun hc20 => ?_)
    ·
     replace h := ite_t hc20 h
     refine zah rfl (zag (zae (v := (osv (some b10) 0 x8.length m7)) rfl ?_))
     refine zag (zae (v := (zI i10)) rfl ?_)
     refine zag (zbx (x := i10) (y := 1) (z := (iw (i10 + 1))) rfl rfl rfl ?_)
     obtain ⟨x19, n17, q39, q40, q41, h⟩ := zix h
     refine zag (zbe (r := (rInt .u8)) (b := b10) (o := 0) (n := n17) (m := x8.length) (xs := vset12) (q := (0 + n17 * (rInt .u8).sz)) zcb ti5 rfl hl13 rfl q39 q41 rfl ?_)
     obtain ⟨x20, n18, q43, q44, q45, h⟩ := zux h
     obtain rfl := zin q39 q43
     have f14 := (hE13.mono (K16 None))
     refine zdj (zdd (pre := []) (r := (rInt .u8)) (vs := [(zaa .u8 1)]) (a := 1) ti5 rfl rfl rfl rfl hL16 0 rfl rfl f14 q41 rfl q45 ?_)
     have hl14 : x8.length = List.length x20 := by rw [q45, List.length_set]; exact hl13
     intro w16 cs15 (hL17 : vL w w16 [some b10] [zab ([] ++ (cs15 ++ []))]) hS12 hE14 q46
     have hc21 : (cs15 ++ []).length = m7 * (rInt .u8).sz := zhc hc16 q46
     have K17 := ks w hS12
     refine zaq (zbf (zah rfl (zag (zae (v := (zI i10)) rfl ?_))))
     refine zag (zbx (x := i10) (y := 1) (z := (iw (i10 + 1))) rfl rfl rfl ?_)
     refine zag (zaj (v := (zI (iw (i10 + 1)))) rfl (zaq ?_))
     have f15 := (hE14.mono (K17 None))
     obtain rfl := zad h
     refine zap ⟨(x20, (iw (i10 + 1))), rfl, ?_⟩
     exact ⟨cs15, _, (zef ⟨rfl, rfl, rfl, rfl, rfl, trivial⟩), hL17, (zak (zak (zak (zak K12 K13) K15) K16) K17), f15, hl14, hc21, trivial⟩
    replace h := ite_f hc20 h
    refine zbl (zbf (zah rfl (zag (zae (v := (zI i10)) rfl ?_))))
    refine zag (zbx (x := i10) (y := 1) (z := (iw (i10 + 1))) rfl rfl rfl ?_)
    refine zag (zaj (v := (zI (iw (i10 + 1)))) rfl (zaq ?_))
    have f16 := (hE13.mono (K16 None))
    obtain rfl := zad h
    refine zap ⟨(vset12, (iw (i10 + 1))), rfl, ?_⟩
    exact ⟨cs13, _, (zef ⟨rfl, rfl, rfl, rfl, rfl, trivial⟩), hL16, (zak (zak (zak K12 K13) K15) K16), f16, hl13, hc16, trivial⟩
   replace h := ite_f hc12 h
   refine zca rfl ?_
   obtain rfl := zad h
   obtain rfl := hd10 _ rfl
   replace h := g10
   try dsimp only at h
   refine zap ?_
   exact ⟨vset11, cs12, _, rfl, (zef ⟨rfl, rfl, trivial⟩), hL12, K12, hE11, hl11, hc11, trivial⟩
  rintro _ w17 ⟨vset10, cs11, u, rfl, rfl, hL18, K18, hE15, hl15, hc22, -⟩
  replace h := g10
  try dsimp only at h
  refine zal (zah rfl (zag (zae (v := (zS t.Text)) rfl ?_)))
  refine zag (zae (v := (osv (some b10) 0 x8.length m7)) rfl ?_)
  obtain ⟨r10, q47, h⟩ := zee h
  have hL19 := hL18.lendW [0] rfl rfl rfl
  refine zag (zds en70 rfl rfl (calls_args (by rw [← hl15]; first | done | rfl) (qClosed_w N t.Text vset10 (some b10) m7 cs11 [] [some b10] _ Any (by have h9 := hL19; (try rw [hl15] at h9); exact h9) (hE15.mono (zcr [0] rfl)) hc22 r10 q47)) ?_)
  rintro _ w18 ⟨cs16, sp10, rfl, hL20, K19, hl16, hE16, hc23, -⟩
  refine ⟨_, rfl, ?_⟩
  have hp11 := hL18.backW [0] [] rfl rfl rfl rfl hL20
  have hL21 : vL w w18 [some b10] [zab ([] ++ (cs16 ++ sp10))] := (by have h9 := hp11.1; (try rw [← (hl15.trans hl16)] at h9); exact h9)
  refine zag (zaj (v := (zS r10.1)) rfl ?_)
  refine zaq (zbt ?_)
  obtain rfl := zad h
  refine ⟨[(zS r10.1)], zrt, ⟨_, rfl, hL21.done, ?_⟩⟩
  exact zrt
 replace h := ite_f hc6 h
 refine zbl (zal (zal (zah rfl (zag (zae (v := (zS s)) rfl ?_)))))
 obtain ⟨x21, n19, q49, q50, -, h⟩ := zix h
 refine zag (zda (xs := s) (i := 0) (n := n19) (a := x21) zax rfl rfl q49 q50 ?_)
 refine zag (OpY.neq (x := (UInt8.toNat x21 : Int)) (y := 61) (((UInt8.toNat x21 : Int) : Int) ≠ 61) rfl rfl zbi (zaq ?_))
 refine zbj (((UInt8.toNat x21 : Int) : Int) ≠ 61) rfl (fun hc24 => ?_) (fun hc24 => ?_)
 ·
  replace h := ite_t hc24 h
  refine zal (zah rfl (zag (zae (v := (zS s)) rfl ?_)))
  refine zag (zaj (v := (zS s)) rfl ?_)
  refine zaq (zbt ?_)
  obtain rfl := zad h
  refine ⟨[(zS s)], zrt, ⟨_, rfl, hL3.done, ?_⟩⟩
  exact zrt
 replace h := ite_f hc24 h
 refine zbl (zal (zah rfl (zag (zae (v := (zS s)) rfl ?_))))
 obtain ⟨x22, n20, q52, q53, -, h⟩ := zix h
 refine zag (zda (xs := s) (i := 1) (n := n20) (a := x22) zax rfl rfl q52 q53 ?_)
 refine zag (zdq (x := (UInt8.toNat x22 : Int)) (z := (iw (UInt8.toNat x22 : Int))) zcu zaw rfl rfl ?_)
 refine zag (zaj (v := (zI (iw (UInt8.toNat x22 : Int)))) rfl ?_)
 refine zaq (zal (zal ?_))
 obtain ⟨s14, h, g14⟩ := zee h
 refine zbs (fun e w' => ∃ (x23 : Bool) (u : Env), x23 = s14 ∧ e = upds [(2, (zaa .u8 c)), (7, (zS t.Text)), (10, (zI (iw (UInt8.toNat x22 : Int)))), (84, (zac x23))] u ∧ vL w w' [] [] ∧ Keep w.heap.size [some b1] w2 [] w' ∧ True) ?_ ?_
 ·
  refine zah rfl (zag (zae (v := (zI (iw (UInt8.toNat x22 : Int)))) rfl ?_))
  refine zag (zae (v := (zS t.Text)) rfl ?_)
  refine zag (zdf zax rfl ?_)
  refine zag (zcv (x := (iw (UInt8.toNat x22 : Int))) (y := (t.Text.length : Int)) (((iw (UInt8.toNat x22 : Int)) : Int) = (t.Text.length : Int)) rfl rfl zbi ?_)
  refine zag (zae (v := (zac (decide (((iw (UInt8.toNat x22 : Int)) : Int) = (t.Text.length : Int))))) rfl ?_)
  by_cases hc25 : ((iw (UInt8.toNat x22 : Int)) : Int) = (t.Text.length : Int)
  ·
   replace h := ite_t hc25 h
   refine zbg rfl rfl (zed hc25) (zbg rfl rfl (zed hc25) (zbg rfl rfl (zed hc25) (zbg rfl rfl (zed hc25) (zbg rfl rfl (zed hc25) ?_))))
   refine zag (zbn (t := (decide (((iw (UInt8.toNat x22 : Int)) : Int) = (t.Text.length : Int)))) (v := zT) rfl (zed hc25) rfl (zaq ?_))
   have hp12 := hL3.pick [] rfl rfl rfl
   have hL22 : vL w w2 [] [] := hp12.1
   have K20 := ks w hp12.2
   obtain rfl := zad h
   refine zap ?_
   exact ⟨true, _, rfl, (zef ⟨rfl, rfl, rfl, rfl, trivial⟩), hL22, K20, trivial⟩
  replace h := ite_f hc25 h
  refine zaz rfl rfl (zec hc25) (zae (v := (zaa .u8 c)) rfl ?_)
  refine zaz rfl rfl (zec hc25) (zae (v := (zS t.Text)) rfl ?_)
  refine zaz rfl rfl (zec hc25) (zae (v := (zI (iw (UInt8.toNat x22 : Int)))) rfl ?_)
  obtain ⟨x24, n21, q55, q56, -, h⟩ := zix h
  refine zaz rfl rfl (zec hc25) (zda (xs := t.Text) (i := (iw (UInt8.toNat x22 : Int))) (n := n21) (a := x24) zax rfl rfl q55 q56 ?_)
  refine zaz rfl rfl (zec hc25) (OpY.gtr (x := c) (y := (UInt8.toNat x24 : Int)) ((c : Int) > (UInt8.toNat x24 : Int)) rfl rfl zbi ?_)
  refine zag (zbh (t := (decide (((iw (UInt8.toNat x22 : Int)) : Int) = (t.Text.length : Int)))) (v := (zac (decide ((c : Int) > (UInt8.toNat x24 : Int))))) rfl (zec hc25) rfl (zaq ?_))
  have hp13 := hL3.pick [] rfl rfl rfl
  have hL23 : vL w w2 [] [] := hp13.1
  have K21 := ks w hp13.2
  obtain rfl := zad h
  refine zap ?_
  exact ⟨(decide ((c : Int) > (UInt8.toNat x24 : Int))), _, rfl, (zef ⟨rfl, rfl, rfl, rfl, trivial⟩), hL23, K21, trivial⟩
 rintro _ w19 ⟨x23, u, rfl, rfl, hL24, K22, -⟩
 replace h := g14
 try dsimp only at h
 refine zch x23 rfl (fun hc26 => ?_) (fun hc26 => ?_)
 ·
  replace h := ite_t hc26 h
  refine zal (zah rfl (zag (zaj (v := (zS ([62] : List UInt8))) rfl ?_)))
  refine zaq (zbt ?_)
  obtain rfl := zad h
  refine ⟨[(zS ([62] : List UInt8))], zrt, ⟨_, rfl, hL24.done, ?_⟩⟩
  exact zrt
 replace h := ite_f hc26 h
 refine zbl (zal (zal (zah rfl (zag (zae (v := (zaa .u8 c)) rfl ?_)))))
 refine zag (zae (v := (zS t.Text)) rfl ?_)
 refine zag (zae (v := (zI (iw (UInt8.toNat x22 : Int)))) rfl ?_)
 obtain ⟨x25, n22, q58, q59, -, h⟩ := zix h
 refine zag (zda (xs := t.Text) (i := (iw (UInt8.toNat x22 : Int))) (n := n22) (a := x25) zax rfl rfl q58 q59 ?_)
 refine zag (zcg (x := c) (y := (UInt8.toNat x25 : Int)) ((c : Int) < (UInt8.toNat x25 : Int)) rfl rfl zbi (zaq ?_))
 refine zbj ((c : Int) < (UInt8.toNat x25 : Int)) rfl (fun hc27 => ?_) (fun hc27 => ?_)
 ·
  replace h := ite_t hc27 h
  refine zal (zah rfl (zag (zaj (v := (zS ([60] : List UInt8))) rfl ?_)))
  refine zaq (zbt ?_)
  obtain rfl := zad h
  refine ⟨[(zS ([60] : List UInt8))], zrt, ⟨_, rfl, hL24.done, ?_⟩⟩
  exact zrt
 replace h := ite_f hc27 h
 refine zbl (zal (zah rfl (zag (zae (v := (zI (iw (UInt8.toNat x22 : Int)))) rfl ?_))))
 refine zag (zbx (x := (iw (UInt8.toNat x22 : Int))) (y := 1) (z := (iw ((iw (UInt8.toNat x22 : Int)) + 1))) rfl rfl rfl ?_)
 refine zag (zdq (x := (iw ((iw (UInt8.toNat x22 : Int)) + 1))) (z := (uw8 (iw ((iw (UInt8.toNat x22 : Int)) + 1)))) zaw zcu rfl rfl ?_)
 have hE17 : Els (rInt .u8) (vH w None [] w19) [(zaa .u8 (uw8 (iw ((iw (UInt8.toNat x22 : Int)) + 1))))] [(uw8 (iw ((iw (UInt8.toNat x22 : Int)) + 1)))] := (zcp (a := [(zaa .u8 (uw8 (iw ((iw (UInt8.toNat x22 : Int)) + 1))))]) rfl zcm)
 refine zag (zcl (r := (rInt .u8)) (vs := [(zaa .u8 (uw8 (iw ((iw (UInt8.toNat x22 : Int)) + 1))))]) (css := [[(zaa .u8 (uw8 (iw ((iw (UInt8.toNat x22 : Int)) + 1))))]]) (xs := [(uw8 (iw ((iw (UInt8.toNat x22 : Int)) + 1)))]) zcb ti5 (zai rfl) rfl rfl ⟨rfl, rfl, trivial⟩ (zai rfl) hE17 rfl hL24 ?_)
 intro b11 w20 hc28 hL25 hS13
 have K23 := ks w hS13
 have f17 := (hE17.mono (K23 None))
 refine zag (OpY.strRow (pre := []) (cs := [(zaa .u8 (uw8 (iw ((iw (UInt8.toNat x22 : Int)) + 1))))]) (sp := []) (xs := [(uw8 (iw ((iw (UInt8.toNat x22 : Int)) + 1)))]) zcb zax zcu rfl (hL25.at 0 rfl rfl) f17 rfl ?_)
 obtain ⟨u10, q60, h⟩ := zee h
 have q61 := chk_some q60
 refine zag (OpY.sAdd (x := ([61] : List UInt8)) (y := (bstr [(uw8 (iw ((iw (UInt8.toNat x22 : Int)) + 1)))])) rfl rfl q61 ?_)
 refine zag (zaj (v := (zaf (s8 (([61] : List UInt8) ++ (bstr [(uw8 (iw ((iw (UInt8.toNat x22 : Int)) + 1)))]))))) rfl ?_)
 refine zaq (zbt ?_)
 obtain rfl := zad h
 refine ⟨[(zaf (s8 (([61] : List UInt8) ++ (bstr [(uw8 (iw ((iw (UInt8.toNat x22 : Int)) + 1)))]))))], zrt, ⟨_, rfl, hL25.done, ?_⟩⟩
 exact zrt
theorem qFinal_w (N : Nat) (t : TTest) (s : (List UInt8))  (w : World) (S : Nat → Prop)  (r : Bool) (h : qFinal N t s = some r) :
  Calls Try.prog 58 #[(zbq #[(zI t.Var), (zI t.Kind), (zac t.Negated), (zS t.Text)]), (zS s)] w (Ret w (fun v w' => (zac r) = v ∧ True)) := by
 unfold qFinal at h
 have hL : vL w w [] [] := Go.X.Loc.begin0 w
 refine calls_of (l := [(zbq #[(zI t.Var), (zI t.Kind), (zac t.Negated), (zS t.Text)]), (zS s)]) (rl := [.tmp 4]) (n := 70) Try.func58 rfl rfl rfl (zai rfl) ?_
 refine zal (zah rfl (zag (zdp (cs := [(zI t.Var), (zI t.Kind), (zac t.Negated), (zS t.Text)]) rfl rfl hL ?_)))
 intro b1 w2 hL3 hS5
 refine zag (zaj (v := zF) rfl ?_)
 refine zaq (zal (zah rfl (zag (zaj (v := zF) rfl ?_))))
 refine zaq (zal (zal (zah rfl (zag (zau (q := 1) zbd rfl ti3 rfl rfl rfl ?_)))))
 refine zag (zav (v := (zI t.Kind)) zaw rfl rfl (hL3.at 0 rfl rfl) rfl ?_)
 refine zag (zcv (x := t.Kind) (y := 1) ((t.Kind : Int) = 1) rfl rfl zbi (zaq ?_))
 obtain ⟨s10, h, g10⟩ := zee h
 refine zbs (fun e w' => ∃ (ok10 : Bool) (u : Env), ok10 = s10 ∧ e = upds [(2, (zam (some ⟨b1, 0, none⟩))), (5, (zac ok10))] u ∧ vL w w' [some b1] [zab [(zI t.Var), (zI t.Kind), (zac t.Negated), (zS t.Text)]] ∧ Keep w.heap.size [some b1] w2 [some b1] w' ∧ True) ?_ ?_
 ·
  refine zbj ((t.Kind : Int) = 1) rfl (fun hc10 => ?_) (fun hc10 => ?_)
  ·
   replace h := ite_t hc10 h
   refine zah rfl (zag (zae (v := (zS s)) rfl ?_))
   refine zag (zau (q := 3) zbd rfl ti9 rfl rfl rfl ?_)
   refine zag (zav (v := (zS t.Text)) zax rfl rfl (hL3.at 0 rfl rfl) rfl ?_)
   refine zag (zdf zax rfl ?_)
   obtain ⟨x10, n10, q11, q12, -, h⟩ := zix h
   refine zag (zda (xs := s) (i := (t.Text.length : Int)) (n := n10) (a := x10) zax rfl rfl q11 q12 ?_)
   refine zag (zcv (x := (UInt8.toNat x10 : Int)) (y := 1) (((UInt8.toNat x10 : Int) : Int) = 1) rfl rfl zbi ?_)
   refine zag (zaj (v := (zac (decide (((UInt8.toNat x10 : Int) : Int) = 1)))) rfl (zaq ?_))
   obtain rfl := zad h
   refine zap ?_
   exact ⟨(decide (((UInt8.toNat x10 : Int) : Int) = 1)), _, rfl, (zef ⟨rfl, rfl, trivial⟩), hL3, zbp, trivial⟩
  replace h := ite_f hc10 h
  refine zal ?_
  obtain ⟨s11, h, g11⟩ := zee h
  refine zbs (fun e w' => ∃ (equal10 : Bool) (u : Env), equal10 = s11 ∧ e = upds [(1, (zS s)), (2, (zam (some ⟨b1, 0, none⟩))), (6, (zac equal10))] u ∧ vL w w' [some b1] [zab [(zI t.Var), (zI t.Kind), (zac t.Negated), (zS t.Text)]] ∧ Keep w.heap.size [some b1] w2 [some b1] w' ∧ True) ?_ ?_
  ·
   obtain ⟨x11, n11, q14, q15, -, h⟩ := zix h
   by_cases hc11 : ((UInt8.toNat x11 : Int) : Int) = 61
   ·
    replace h := ite_t hc11 h
    obtain ⟨x12, n12, q17, q18, -, h⟩ := zix h
    refine zcy 10 [] [] (fun W1 => [.det (zS s), .det (zaa .u8 (UInt8.toNat x11 : Int)), .det (zac (decide (((UInt8.toNat x11 : Int) : Int) = 61))), .det (zac (decide (((UInt8.toNat x11 : Int) : Int) = 61))), .det (zS s), .det (zaa .u8 (UInt8.toNat x12 : Int)), .det (zI (iw (UInt8.toNat x12 : Int))), .det (zam (some ⟨b1, 3, none⟩)), .det (zS t.Text), .det (zI (t.Text.length : Int))]) mixed rfl rfl rfl (fun _ => rfl) (fun _ => rfl) ?_ ?_
    ·
     intro W1 _
     exact trivial
    intro w10 hE10
    obtain ⟨hL10, K10⟩ := zl hL3 hE10
    refine zay (fun _ _ => zar (zae rfl (er rfl))) ?_
    refine zay (fun _ _ => zar (zda (xs := s) (i := 0) (n := n11) (a := x11) zax rfl rfl q14 q15 (er rfl))) ?_
    refine zay (fun _ _ => zar (zcv (x := (UInt8.toNat x11 : Int)) (y := 61) (((UInt8.toNat x11 : Int) : Int) = 61) rfl rfl zbi (er rfl))) ?_
    refine zay (fun _ _ => zar (zae rfl (er rfl))) ?_
    refine zay (fun _ _ => zde rfl rfl (zed hc11) (zae rfl (er rfl))) ?_
    refine zay (fun _ _ => zde rfl rfl (zed hc11) (zda (xs := s) (i := 1) (n := n12) (a := x12) zax rfl rfl q17 q18 (er rfl))) ?_
    refine zay (fun _ _ => zde rfl rfl (zed hc11) (zdq zcu zaw rfl rfl (er rfl))) ?_
    refine zay (fun _ _ => zde rfl rfl (zed hc11) (zau zbd rfl ti9 rfl rfl rfl (er rfl))) ?_
    refine zay (fun _ hE19 => zde rfl rfl (zed hc11) (zav zax rfl rfl ((hL10.ext hE19).at 0 rfl rfl) rfl (er rfl))) ?_
    refine zay (fun _ _ => zde rfl rfl (zed hc11) (zdf zax rfl (er rfl))) ?_
    refine zdh ?_
    rintro w21 Z29 hE21 hZ20 ⟨-⟩ ap10
    have hB10 := @zhb w10 Z29
    obtain ⟨hL12, K11⟩ := zl hL10 hE21
    refine zaz rfl rfl (zed hc11) (zcv (x := (iw (UInt8.toNat x12 : Int))) (y := (t.Text.length : Int)) (((iw (UInt8.toNat x12 : Int)) : Int) = (t.Text.length : Int)) rfl rfl zbi ?_)
    refine zag (zbn (t := (decide (((UInt8.toNat x11 : Int) : Int) = 61))) (v := (zac (decide (((iw (UInt8.toNat x12 : Int)) : Int) = (t.Text.length : Int))))) rfl (zed hc11) rfl ?_)
    refine zag (zaj (v := (zac (decide (((iw (UInt8.toNat x12 : Int)) : Int) = (t.Text.length : Int))))) rfl (zaq ?_))
    obtain rfl := zad h
    refine zap ?_
    exact ⟨(decide (((iw (UInt8.toNat x12 : Int)) : Int) = (t.Text.length : Int))), _, rfl, (zef ⟨rfl, rfl, rfl, trivial⟩), hL12, (zak K10 K11), trivial⟩
   replace h := ite_f hc11 h
   refine zcy 10 [] [] (fun W1 => [.det (zS s), .det (zaa .u8 (UInt8.toNat x11 : Int)), .det (zac (decide (((UInt8.toNat x11 : Int) : Int) = 61))), .det (zac (decide (((UInt8.toNat x11 : Int) : Int) = 61))), .det undef, .det undef, .det undef, .det undef, .det undef, .det undef]) mixed rfl rfl rfl (fun _ => rfl) (fun _ => rfl) ?_ ?_
   ·
    intro W1 _
    exact trivial
   intro w22 hE22
   obtain ⟨hL13, K12⟩ := zl hL3 hE22
   refine zay (fun _ _ => zar (zae rfl (er rfl))) ?_
   refine zay (fun _ _ => zar (zda (xs := s) (i := 0) (n := n11) (a := x11) zax rfl rfl q14 q15 (er rfl))) ?_
   refine zay (fun _ _ => zar (zcv (x := (UInt8.toNat x11 : Int)) (y := 61) (((UInt8.toNat x11 : Int) : Int) = 61) rfl rfl zbi (er rfl))) ?_
   refine zay (fun _ _ => zar (zae rfl (er rfl))) ?_
   refine zay (fun _ _ => zdn rfl rfl (zec hc11) (er rfl)) ?_
   refine zay (fun _ _ => zdn rfl rfl (zec hc11) (er rfl)) ?_
   refine zay (fun _ _ => zdn rfl rfl (zec hc11) (er rfl)) ?_
   refine zay (fun _ _ => zdn rfl rfl (zec hc11) (er rfl)) ?_
   refine zay (fun _ _ => zdn rfl rfl (zec hc11) (er rfl)) ?_
   refine zay (fun _ _ => zdn rfl rfl (zec hc11) (er rfl)) ?_
   refine zdh ?_
   rintro w33 Z40 hE33 hZ31 ⟨-⟩ ap11
   have hB11 := @zhb w22 Z40
   obtain ⟨hL14, K13⟩ := zl hL13 hE33
   refine zbg rfl rfl (zec hc11) ?_
   refine zag (zbh (t := (decide (((UInt8.toNat x11 : Int) : Int) = 61))) (v := zF) rfl (zec hc11) rfl ?_)
   refine zag (zaj (v := zF) rfl (zaq ?_))
   obtain rfl := zad h
   refine zap ?_
   exact ⟨false, _, rfl, (zef ⟨rfl, rfl, rfl, trivial⟩), hL14, (zak K12 K13), trivial⟩
  rintro _ w34 ⟨equal10, u, rfl, rfl, hL15, K14, -⟩
  replace h := g11
  try dsimp only at h
  refine zal ?_
  obtain ⟨s12, h, g12⟩ := zee h
  refine zbs (fun e w' => ∃ (less10 : Bool) (u : Env), less10 = s12 ∧ e = upds [(2, (zam (some ⟨b1, 0, none⟩))), (6, (zac equal10)), (7, (zac less10))] u ∧ vL w w' [some b1] [zab [(zI t.Var), (zI t.Kind), (zac t.Negated), (zS t.Text)]] ∧ Keep w.heap.size [some b1] w34 [some b1] w' ∧ True) ?_ ?_
  ·
   refine zah rfl (zag (zae (v := (zS s)) rfl ?_))
   obtain ⟨x13, n13, q20, q21, -, h⟩ := zix h
   refine zag (zda (xs := s) (i := 0) (n := n13) (a := x13) zax rfl rfl q20 q21 ?_)
   refine zag (zcv (x := (UInt8.toNat x13 : Int)) (y := 60) (((UInt8.toNat x13 : Int) : Int) = 60) rfl rfl zbi ?_)
   refine zag (zae (v := (zac (decide (((UInt8.toNat x13 : Int) : Int) = 60)))) rfl ?_)
   by_cases hc12 : ((UInt8.toNat x13 : Int) : Int) = 60
   ·
    replace h := ite_t hc12 h
    refine zbg rfl rfl (zed hc12) (zbg rfl rfl (zed hc12) (zbg rfl rfl (zed hc12) (zbg rfl rfl (zed hc12) ?_)))
    refine zcq rfl rfl ?_
    refine zcq rfl rfl ?_
    refine zbg rfl rfl (zed hc12) ?_
    refine zag (zbn (t := (decide (((UInt8.toNat x13 : Int) : Int) = 60))) (v := zT) rfl (zed hc12) rfl ?_)
    refine zag (zaj (v := zT) rfl (zaq ?_))
    obtain rfl := zad h
    refine zap ?_
    exact ⟨true, _, rfl, (zef ⟨rfl, rfl, rfl, trivial⟩), hL15, zbp, trivial⟩
   replace h := ite_f hc12 h
   refine zaz rfl rfl (zec hc12) (zae (v := (zS s)) rfl ?_)
   obtain ⟨x14, n14, q23, q24, -, h⟩ := zix h
   refine zaz rfl rfl (zec hc12) (zda (xs := s) (i := 0) (n := n14) (a := x14) zax rfl rfl q23 q24 ?_)
   refine zaz rfl rfl (zec hc12) (zcv (x := (UInt8.toNat x14 : Int)) (y := 61) (((UInt8.toNat x14 : Int) : Int) = 61) rfl rfl zbi ?_)
   refine zaz rfl rfl (zec hc12) (zae (v := (zac (decide (((UInt8.toNat x14 : Int) : Int) = 61)))) rfl ?_)
   by_cases hc13 : ((UInt8.toNat x14 : Int) : Int) = 61
   ·
    replace h := ite_t hc13 h
    refine zaz rfl rfl (zed hc13) (zae (v := (zac equal10)) rfl ?_)
    refine zaz rfl rfl (zed hc13) (OpY.not (x := equal10) rfl ?_)
    refine zaz rfl rfl (zec hc12) (zbn (t := (decide (((UInt8.toNat x14 : Int) : Int) = 61))) (v := (zac (!equal10))) rfl (zed hc13) rfl ?_)
    refine zag (zbh (t := (decide (((UInt8.toNat x13 : Int) : Int) = 60))) (v := (zac (!equal10))) rfl (zec hc12) rfl ?_)
    refine zag (zaj (v := (zac (!equal10))) rfl (zaq ?_))
    obtain rfl := zad h
    refine zap ?_
    exact ⟨(!equal10), _, rfl, (zef ⟨rfl, rfl, rfl, trivial⟩), hL15, zbp, trivial⟩
   replace h := ite_f hc13 h
   refine zbg rfl rfl (zec hc13) (zbg rfl rfl (zec hc13) ?_)
   refine zaz rfl rfl (zec hc12) (zbh (t := (decide (((UInt8.toNat x14 : Int) : Int) = 61))) (v := zF) rfl (zec hc13) rfl ?_)
   refine zag (zbh (t := (decide (((UInt8.toNat x13 : Int) : Int) = 60))) (v := zF) rfl (zec hc12) rfl ?_)
   refine zag (zaj (v := zF) rfl (zaq ?_))
   obtain rfl := zad h
   refine zap ?_
   exact ⟨false, _, rfl, (zef ⟨rfl, rfl, rfl, trivial⟩), hL15, zbp, trivial⟩
  rintro _ w35 ⟨less10, u, rfl, rfl, hL16, K15, -⟩
  replace h := g12
  try dsimp only at h
  refine zah rfl (zag (zau (q := 1) zbd rfl ti3 rfl rfl rfl ?_))
  refine zag (zav (v := (zI t.Kind)) zaw rfl rfl (hL16.at 0 rfl rfl) rfl ?_)
  refine zag (zcv (x := t.Kind) (y := 0) ((t.Kind : Int) = 0) rfl rfl zbi ?_)
  refine zag (zae (v := (zac (decide ((t.Kind : Int) = 0)))) rfl ?_)
  by_cases hc14 : (t.Kind : Int) = 0
  ·
   replace h := ite_t hc14 h
   refine zaz rfl rfl (zed hc14) (zae (v := (zac equal10)) rfl ?_)
   refine zag (zbn (t := (decide ((t.Kind : Int) = 0))) (v := (zac equal10)) rfl (zed hc14) rfl ?_)
   refine zag (zae (v := (zac equal10)) rfl ?_)
   by_cases hc15 : equal10 = true
   ·
    replace h := ite_t hc15 h
    refine zbg rfl rfl hc15 ?_
    refine zbg rfl rfl hc15 ?_
    refine zbg rfl rfl hc15 ?_
    refine zbg rfl rfl hc15 ?_
    refine zcq rfl rfl ?_
    refine zbg rfl rfl hc15 ?_
    refine zag (zbn (t := equal10) (v := zT) rfl hc15 rfl ?_)
    refine zag (zae (v := zT) rfl ?_)
    refine zbg rfl rfl rfl (zbg rfl rfl rfl (zbg rfl rfl rfl (zbg rfl rfl rfl ?_)))
    refine zcq rfl rfl ?_
    refine zcq rfl rfl ?_
    refine zcq rfl rfl ?_
    refine zcq rfl rfl ?_
    refine zbg rfl rfl rfl ?_
    refine zag (zbn (t := true) (v := zT) rfl rfl rfl ?_)
    refine zag (zaj (v := zT) rfl (zaq ?_))
    obtain rfl := zad h
    refine zap ?_
    exact ⟨true, _, rfl, (zef ⟨rfl, rfl, trivial⟩), hL16, (zak K14 K15), trivial⟩
   replace h := ite_f hc15 h
   refine zaz rfl rfl (zeg hc15) (zau (q := 1) zbd rfl ti3 rfl rfl rfl ?_)
   refine zaz rfl rfl (zeg hc15) (zav (v := (zI t.Kind)) zaw rfl rfl (hL16.at 0 rfl rfl) rfl ?_)
   refine zaz rfl rfl (zeg hc15) (zcv (x := t.Kind) (y := 2) ((t.Kind : Int) = 2) rfl rfl zbi ?_)
   refine zaz rfl rfl (zeg hc15) (zae (v := (zac (decide ((t.Kind : Int) = 2)))) rfl ?_)
   by_cases hc16 : (t.Kind : Int) = 2
   ·
    replace h := ite_t hc16 h
    refine zaz rfl rfl (zed hc16) (zae (v := (zac less10)) rfl ?_)
    refine zaz rfl rfl (zeg hc15) (zbn (t := (decide ((t.Kind : Int) = 2))) (v := (zac less10)) rfl (zed hc16) rfl ?_)
    refine zag (zbh (t := equal10) (v := (zac less10)) rfl (zeg hc15) rfl ?_)
    refine zag (zae (v := (zac less10)) rfl ?_)
    by_cases hc17 : less10 = true
    ·
     replace h := ite_t hc17 h
     refine zbg rfl rfl hc17 ?_
     refine zbg rfl rfl hc17 ?_
     refine zbg rfl rfl hc17 ?_
     refine zbg rfl rfl hc17 ?_
     refine zcq rfl rfl ?_
     refine zcq rfl rfl ?_
     refine zcq rfl rfl ?_
     refine zcq rfl rfl ?_
     refine zbg rfl rfl hc17 ?_
     refine zag (zbn (t := less10) (v := zT) rfl hc17 rfl ?_)
     refine zag (zaj (v := zT) rfl (zaq ?_))
     obtain rfl := zad h
     refine zap ?_
     exact ⟨true, _, rfl, (zef ⟨rfl, rfl, trivial⟩), hL16, (zak K14 K15), trivial⟩
    replace h := ite_f hc17 h
    refine zaz rfl rfl (zeg hc17) (zau (q := 1) zbd rfl ti3 rfl rfl rfl ?_)
    refine zaz rfl rfl (zeg hc17) (zav (v := (zI t.Kind)) zaw rfl rfl (hL16.at 0 rfl rfl) rfl ?_)
    refine zaz rfl rfl (zeg hc17) (zcv (x := t.Kind) (y := 3) ((t.Kind : Int) = 3) rfl rfl zbi ?_)
    refine zaz rfl rfl (zeg hc17) (zae (v := (zac (decide ((t.Kind : Int) = 3)))) rfl ?_)
    by_cases hc18 : (t.Kind : Int) = 3
    ·
     replace h := ite_t hc18 h
     refine zaz rfl rfl (zed hc18) (zae (v := (zac less10)) rfl ?_)
     refine zaz rfl rfl (zed hc18) (zae (v := (zac less10)) rfl ?_)
     refine zaz rfl rfl (zeg hc17) (zae (v := (zac equal10)) rfl ?_)
     refine zaz rfl rfl (zed hc18) (zbh (t := less10) (v := (zac equal10)) rfl (zeg hc17) rfl ?_)
     refine zaz rfl rfl (zeg hc17) (zbn (t := (decide ((t.Kind : Int) = 3))) (v := (zac equal10)) rfl (zed hc18) rfl ?_)
     refine zag (zbh (t := less10) (v := (zac equal10)) rfl (zeg hc17) rfl ?_)
     refine zag (zaj (v := (zac equal10)) rfl (zaq ?_))
     obtain rfl := zad h
     refine zap ?_
     exact ⟨equal10, _, rfl, (zef ⟨rfl, rfl, trivial⟩), hL16, (zak K14 K15), trivial⟩
    replace h := ite_f hc18 h
    refine zbg rfl rfl (zec hc18) (zbg rfl rfl (zec hc18) ?_)
    refine zcq rfl rfl ?_
    refine zbg rfl rfl (zec hc18) ?_
    refine zaz rfl rfl (zeg hc17) (zbh (t := (decide ((t.Kind : Int) = 3))) (v := zF) rfl (zec hc18) rfl ?_)
    refine zag (zbh (t := less10) (v := zF) rfl (zeg hc17) rfl ?_)
    refine zag (zaj (v := zF) rfl (zaq ?_))
    obtain rfl := zad h
    refine zap ?_
    exact ⟨false, _, rfl, (zef ⟨rfl, rfl, trivial⟩), hL16, (zak K14 K15), trivial⟩
   replace h := ite_f hc16 h
   refine zbg rfl rfl (zec hc16) ?_
   refine zaz rfl rfl (zeg hc15) (zbh (t := (decide ((t.Kind : Int) = 2))) (v := zF) rfl (zec hc16) rfl ?_)
   refine zag (zbh (t := equal10) (v := zF) rfl (zeg hc15) rfl ?_)
   refine zag (zae (v := zF) rfl ?_)
   refine zaz rfl rfl rfl (zau (q := 1) zbd rfl ti3 rfl rfl rfl ?_)
   refine zaz rfl rfl rfl (zav (v := (zI t.Kind)) zaw rfl rfl (hL16.at 0 rfl rfl) rfl ?_)
   refine zaz rfl rfl rfl (zcv (x := t.Kind) (y := 3) ((t.Kind : Int) = 3) rfl rfl zbi ?_)
   refine zaz rfl rfl rfl (zae (v := (zac (decide ((t.Kind : Int) = 3)))) rfl ?_)
   by_cases hc19 : (t.Kind : Int) = 3
   ·
    replace h := ite_t hc19 h
    refine zaz rfl rfl (zed hc19) (zae (v := (zac less10)) rfl ?_)
    refine zaz rfl rfl (zed hc19) (zae (v := (zac less10)) rfl ?_)
    by_cases hc20 : less10 = true
    ·
     replace h := ite_t hc20 h
     refine zbg rfl rfl hc20 ?_
     refine zaz rfl rfl (zed hc19) (zbn (t := less10) (v := zT) rfl hc20 rfl ?_)
     refine zaz rfl rfl rfl (zbn (t := (decide ((t.Kind : Int) = 3))) (v := zT) rfl (zed hc19) rfl ?_)
     refine zag (zbh (t := false) (v := zT) rfl rfl rfl ?_)
     refine zag (zaj (v := zT) rfl (zaq ?_))
     obtain rfl := zad h
     refine zap ?_
     exact ⟨true, _, rfl, (zef ⟨rfl, rfl, trivial⟩), hL16, (zak K14 K15), trivial⟩
    replace h := ite_f hc20 h
    refine zaz rfl rfl (zeg hc20) (zae (v := (zac equal10)) rfl ?_)
    refine zaz rfl rfl (zed hc19) (zbh (t := less10) (v := (zac equal10)) rfl (zeg hc20) rfl ?_)
    refine zaz rfl rfl rfl (zbn (t := (decide ((t.Kind : Int) = 3))) (v := (zac equal10)) rfl (zed hc19) rfl ?_)
    refine zag (zbh (t := false) (v := (zac equal10)) rfl rfl rfl ?_)
    refine zag (zaj (v := (zac equal10)) rfl (zaq ?_))
    obtain rfl := zad h
    refine zap ?_
    exact ⟨equal10, _, rfl, (zef ⟨rfl, rfl, trivial⟩), hL16, (zak K14 K15), trivial⟩
   replace h := ite_f hc19 h
   refine zbg rfl rfl (zec hc19) (zbg rfl rfl (zec hc19) ?_)
   refine zcq rfl rfl ?_
   refine zbg rfl rfl (zec hc19) ?_
   refine zaz rfl rfl rfl (zbh (t := (decide ((t.Kind : Int) = 3))) (v := zF) rfl (zec hc19) rfl ?_)
   refine zag (zbh (t := false) (v := zF) rfl rfl rfl ?_)
   refine zag (zaj (v := zF) rfl (zaq ?_))
   obtain rfl := zad h
   refine zap ?_
   exact ⟨false, _, rfl, (zef ⟨rfl, rfl, trivial⟩), hL16, (zak K14 K15), trivial⟩
  replace h := ite_f hc14 h
  refine zbg rfl rfl (zec hc14) ?_
  refine zag (zbh (t := (decide ((t.Kind : Int) = 0))) (v := zF) rfl (zec hc14) rfl ?_)
  refine zag (zae (v := zF) rfl ?_)
  refine zaz rfl rfl rfl (zau (q := 1) zbd rfl ti3 rfl rfl rfl ?_)
  refine zaz rfl rfl rfl (zav (v := (zI t.Kind)) zaw rfl rfl (hL16.at 0 rfl rfl) rfl ?_)
  refine zaz rfl rfl rfl (zcv (x := t.Kind) (y := 2) ((t.Kind : Int) = 2) rfl rfl zbi ?_)
  refine zaz rfl rfl rfl (zae (v := (zac (decide ((t.Kind : Int) = 2)))) rfl ?_)
  by_cases hc21 : (t.Kind : Int) = 2
  ·
   replace h := ite_t hc21 h
   refine zaz rfl rfl (zed hc21) (zae (v := (zac less10)) rfl ?_)
   refine zaz rfl rfl rfl (zbn (t := (decide ((t.Kind : Int) = 2))) (v := (zac less10)) rfl (zed hc21) rfl ?_)
   refine zag (zbh (t := false) (v := (zac less10)) rfl rfl rfl ?_)
   refine zag (zae (v := (zac less10)) rfl ?_)
   by_cases hc22 : less10 = true
   ·
    replace h := ite_t hc22 h
    refine zbg rfl rfl hc22 ?_
    refine zbg rfl rfl hc22 ?_
    refine zbg rfl rfl hc22 ?_
    refine zbg rfl rfl hc22 ?_
    refine zcq rfl rfl ?_
    refine zcq rfl rfl ?_
    refine zcq rfl rfl ?_
    refine zcq rfl rfl ?_
    refine zbg rfl rfl hc22 ?_
    refine zag (zbn (t := less10) (v := zT) rfl hc22 rfl ?_)
    refine zag (zaj (v := zT) rfl (zaq ?_))
    obtain rfl := zad h
    refine zap ?_
    exact ⟨true, _, rfl, (zef ⟨rfl, rfl, trivial⟩), hL16, (zak K14 K15), trivial⟩
   replace h := ite_f hc22 h
   refine zaz rfl rfl (zeg hc22) (zau (q := 1) zbd rfl ti3 rfl rfl rfl ?_)
   refine zaz rfl rfl (zeg hc22) (zav (v := (zI t.Kind)) zaw rfl rfl (hL16.at 0 rfl rfl) rfl ?_)
   refine zaz rfl rfl (zeg hc22) (zcv (x := t.Kind) (y := 3) ((t.Kind : Int) = 3) rfl rfl zbi ?_)
   refine zaz rfl rfl (zeg hc22) (zae (v := (zac (decide ((t.Kind : Int) = 3)))) rfl ?_)
   by_cases hc23 : (t.Kind : Int) = 3
   ·
    replace h := ite_t hc23 h
    refine zaz rfl rfl (zed hc23) (zae (v := (zac less10)) rfl ?_)
    refine zaz rfl rfl (zed hc23) (zae (v := (zac less10)) rfl ?_)
    refine zaz rfl rfl (zeg hc22) (zae (v := (zac equal10)) rfl ?_)
    refine zaz rfl rfl (zed hc23) (zbh (t := less10) (v := (zac equal10)) rfl (zeg hc22) rfl ?_)
    refine zaz rfl rfl (zeg hc22) (zbn (t := (decide ((t.Kind : Int) = 3))) (v := (zac equal10)) rfl (zed hc23) rfl ?_)
    refine zag (zbh (t := less10) (v := (zac equal10)) rfl (zeg hc22) rfl ?_)
    refine zag (zaj (v := (zac equal10)) rfl (zaq ?_))
    obtain rfl := zad h
    refine zap ?_
    exact ⟨equal10, _, rfl, (zef ⟨rfl, rfl, trivial⟩), hL16, (zak K14 K15), trivial⟩
   replace h := ite_f hc23 h
   refine zbg rfl rfl (zec hc23) (zbg rfl rfl (zec hc23) ?_)
   refine zcq rfl rfl ?_
   refine zbg rfl rfl (zec hc23) ?_
   refine zaz rfl rfl (zeg hc22) (zbh (t := (decide ((t.Kind : Int) = 3))) (v := zF) rfl (zec hc23) rfl ?_)
   refine zag (zbh (t := less10) (v := zF) rfl (zeg hc22) rfl ?_)
   refine zag (zaj (v := zF) rfl (zaq ?_))
   obtain rfl := zad h
   refine zap ?_
   exact ⟨false, _, rfl, (zef ⟨rfl, rfl, trivial⟩), hL16, (zak K14 K15), trivial⟩
  replace h := ite_f hc21 h
  refine zbg rfl rfl (zec hc21) ?_
  refine zaz rfl rfl rfl (zbh (t := (decide ((t.Kind : Int) = 2))) (v := zF) rfl (zec hc21) rfl ?_)
  refine zag (zbh (t := false) (v := zF) rfl rfl rfl ?_)
  refine zag (zae (v := zF) rfl ?_)
  refine zaz rfl rfl rfl (zau (q := 1) zbd rfl ti3 rfl rfl rfl ?_)
  refine zaz rfl rfl rfl (zav (v := (zI t.Kind)) zaw rfl rfl (hL16.at 0 rfl rfl) rfl ?_)
  refine zaz rfl rfl rfl (zcv (x := t.Kind) (y := 3) ((t.Kind : Int) = 3) rfl rfl zbi ?_)
  refine zaz rfl rfl rfl (zae (v := (zac (decide ((t.Kind : Int) = 3)))) rfl ?_)
  by_cases hc24 : (t.Kind : Int) = 3
  ·
   replace h := ite_t hc24 h
   refine zaz rfl rfl (zed hc24) (zae (v := (zac less10)) rfl ?_)
   refine zaz rfl rfl (zed hc24) (zae (v := (zac less10)) rfl ?_)
   by_cases hc25 : less10 = true
   ·
    replace h := ite_t hc25 h
    refine zbg rfl rfl hc25 ?_
    refine zaz rfl rfl (zed hc24) (zbn (t := less10) (v := zT) rfl hc25 rfl ?_)
    refine zaz rfl rfl rfl (zbn (t := (decide ((t.Kind : Int) = 3))) (v := zT) rfl (zed hc24) rfl ?_)
    refine zag (zbh (t := false) (v := zT) rfl rfl rfl ?_)
    refine zag (zaj (v := zT) rfl (zaq ?_))
    obtain rfl := zad h
    refine zap ?_
    exact ⟨true, _, rfl, (zef ⟨rfl, rfl, trivial⟩), hL16, (zak K14 K15), trivial⟩
   replace h := ite_f hc25 h
   refine zaz rfl rfl (zeg hc25) (zae (v := (zac equal10)) rfl ?_)
   refine zaz rfl rfl (zed hc24) (zbh (t := less10) (v := (zac equal10)) rfl (zeg hc25) rfl ?_)
   refine zaz rfl rfl rfl (zbn (t := (decide ((t.Kind : Int) = 3))) (v := (zac equal10)) rfl (zed hc24) rfl ?_)
   refine zag (zbh (t := false) (v := (zac equal10)) rfl rfl rfl ?_)
   refine zag (zaj (v := (zac equal10)) rfl (zaq ?_))
   obtain rfl := zad h
   refine zap ?_
   exact ⟨equal10, _, rfl, (zef ⟨rfl, rfl, trivial⟩), hL16, (zak K14 K15), trivial⟩
  replace h := ite_f hc24 h
  refine zbg rfl rfl (zec hc24) (zbg rfl rfl (zec hc24) ?_)
  refine zcq rfl rfl ?_
  refine zbg rfl rfl (zec hc24) ?_
  refine zaz rfl rfl rfl (zbh (t := (decide ((t.Kind : Int) = 3))) (v := zF) rfl (zec hc24) rfl ?_)
  refine zag (zbh (t := false) (v := zF) rfl rfl rfl ?_)
  refine zag (zaj (v := zF) rfl (zaq ?_))
  obtain rfl := zad h
  refine zap ?_
  exact ⟨false, _, rfl, (zef ⟨rfl, rfl, trivial⟩), hL16, (zak K14 K15), trivial⟩
 rintro _ w36 ⟨ok10, u, rfl, rfl, hL17, K16, -⟩
 replace h := g10
 try dsimp only at h
 refine zal (zah rfl (zag (zae (v := (zac ok10)) rfl ?_)))
 refine zag (zau (q := 2) zbd rfl ti4 rfl rfl rfl ?_)
 refine zag (zav (v := (zac t.Negated)) zdr rfl rfl (hL17.at 0 rfl rfl) rfl ?_)
 refine zag (OpY.neqBool (x := ok10) (y := t.Negated) zdr rfl rfl ?_)
 refine zag (zaj (v := (zac (!(ok10 == t.Negated)))) rfl ?_)
 refine zaq (zbt ?_)
 obtain rfl := zad h
 refine ⟨[(zac (!(ok10 == t.Negated)))], zrt, ⟨_, rfl, hL17.done, ?_⟩⟩
 exact zrt
theorem qPasses_w (N : Nat) (t : TTest) (text : (List UInt8))  (w : World) (S : Nat → Prop)  (r : Bool) (h : qPasses N t text = some r) :
  Calls Try.prog 30 #[(zbq #[(zI t.Var), (zI t.Kind), (zac t.Negated), (zS t.Text)]), (zS text)] w (Ret w (fun v w' => (zac r) = v ∧ True)) := by
 unfold qPasses at h
 have hL : vL w w [] [] := Go.X.Loc.begin0 w
 refine calls_of (l := [(zbq #[(zI t.Var), (zI t.Kind), (zac t.Negated), (zS t.Text)]), (zS text)]) (rl := [.tmp 4]) (n := 24) Try.func30 rfl rfl rfl (zai rfl) ?_
 refine zal (zah rfl (zag (zdp (cs := [(zI t.Var), (zI t.Kind), (zac t.Negated), (zS t.Text)]) rfl rfl hL ?_)))
 intro b1 w2 hL3 hS5
 refine zag (zaj (v := zF) rfl ?_)
 refine zaq (zal (zah rfl (zag (zct (vs := [(zI t.Var), (zI t.Kind), (zac t.Negated), (zS t.Text)]) zbd rfl ti44 rfl (hL3.at 0 rfl rfl) rfl rfl ?_))))
 obtain ⟨r6, q7, h⟩ := zee h
 refine zag (zbz en56 rfl rfl (qStart_w N t _ Any r6 q7) ?_)
 rintro _ w9 hE10 ⟨rfl, -⟩
 have hL10 := hL3.ext hE10
 refine zag (zaj (v := (zS r6)) rfl ?_)
 refine zaq (zal (zal (zah rfl (zag (zaj (v := (zI 0)) rfl (zaq ?_))))))
 obtain ⟨s10, hl10, g10⟩ := zee h
 refine zbs (fun e w' => ∃ (s11 : (List UInt8)) (u : Env), s11 = s10 ∧ e = upds [(2, (zam (some ⟨b1, 0, none⟩))), (5, (zS s11))] u ∧ vL w w' [some b1] [zab [(zI t.Var), (zI t.Kind), (zac t.Negated), (zS t.Text)]] ∧ Keep w.heap.size [some b1] w9 [some b1] w' ∧ True) ?_ ?_
 ·
  refine zbc ?_
  refine zbw hl10 (fun (ss : ((List UInt8) × Int)) (e : Env) (w' : World) => match ss with | (s12, i10) => ∃ (u : Env), e = upds [(1, (zS text)), (2, (zam (some ⟨b1, 0, none⟩))), (5, (zS s12)), (6, (zI i10))] u ∧ vL w w' [some b1] [zab [(zI t.Var), (zI t.Kind), (zac t.Negated), (zS t.Text)]] ∧ Keep w.heap.size [some b1] w9 [some b1] w' ∧ True) ⟨_, (zef ⟨rfl, rfl, rfl, rfl, trivial⟩), hL10, zbp, trivial⟩ ?_
  rintro ⟨s12, i10⟩ oo _ w10 ⟨u, rfl, hL11, K10, -⟩ h hd10
  rw [qPasses_b1] at h
  refine zal (zal (zah rfl (zag (zae (v := (zI i10)) rfl ?_))))
  refine zag (zae (v := (zS text)) rfl ?_)
  refine zag (zdf zax rfl ?_)
  refine zag (zcg (x := i10) (y := (text.length : Int)) ((i10 : Int) < (text.length : Int)) rfl rfl zbi (zaq ?_))
  refine zbj ((i10 : Int) < (text.length : Int)) rfl (fun hc10 => ?_) (fun hc10 => ?_)
  ·
   replace h := ite_t hc10 h
   refine zbl (zal (zbc ?_))
   obtain ⟨x10, n10, q11, q12, -, h⟩ := zix h
   refine zcy 5 [] [] (fun W1 => [.det (zbq #[(zI t.Var), (zI t.Kind), (zac t.Negated), (zS t.Text)]), .det (zS s12), .det (zS text), .det (zI i10), .det (zaa .u8 (UInt8.toNat x10 : Int))]) mixed rfl rfl rfl (fun _ => rfl) (fun _ => rfl) ?_ ?_
   ·
    intro W1 _
    exact trivial
   intro w11 hE11
   obtain ⟨hL12, K11⟩ := zl hL11 hE11
   refine zay (fun _ hE12 => zar (zct (vs := [(zI t.Var), (zI t.Kind), (zac t.Negated), (zS t.Text)]) zbd rfl ti44 rfl ((hL12.ext hE12).at 0 rfl rfl) rfl rfl (er rfl))) ?_
   refine zay (fun _ _ => zar (zae rfl (er rfl))) ?_
   refine zay (fun _ _ => zar (zae rfl (er rfl))) ?_
   refine zay (fun _ _ => zar (zae rfl (er rfl))) ?_
   refine zay (fun _ _ => zar (zda (xs := text) (i := i10) (n := n10) (a := x10) zax rfl rfl q11 q12 (er rfl))) ?_
   refine zdh ?_
   rintro w17 Z24 hE17 hZ15 ⟨-⟩ ap10
   have hB10 := @zhb w11 Z24
   obtain ⟨hL14, K12⟩ := zl hL12 hE17
   obtain ⟨r10, q13, h⟩ := zee h
   refine zag (zbz en57 rfl rfl (qStep_w N t s12 (UInt8.toNat x10 : Int) _ Any r10 q13) ?_)
   rintro _ w18 hE18 ⟨rfl, -⟩
   obtain ⟨hL15, K13⟩ := zl hL14 hE18
   refine zag (zaj (v := (zS r10)) rfl ?_)
   refine zaq (zbf (zah rfl (zag (zae (v := (zI i10)) rfl ?_))))
   refine zag (zbx (x := i10) (y := 1) (z := (iw (i10 + 1))) rfl rfl rfl ?_)
   refine zag (zaj (v := (zI (iw (i10 + 1)))) rfl (zaq ?_))
   obtain rfl := zad h
   refine zap ⟨(r10, (iw (i10 + 1))), rfl, ?_⟩
   exact ⟨_, (zef ⟨rfl, rfl, rfl, rfl, trivial⟩), hL15, (zak (zak (zak K10 K11) K12) K13), trivial⟩
  replace h := ite_f hc10 h
  refine zca rfl ?_
  obtain rfl := zad h
  obtain rfl := hd10 _ rfl
  replace h := g10
  try dsimp only at h
  refine zap ?_
  exact ⟨s12, _, rfl, (zef ⟨rfl, rfl, trivial⟩), hL11, K10, trivial⟩
 rintro _ w19 ⟨s11, u, rfl, rfl, hL16, K14, -⟩
 replace h := g10
 try dsimp only at h
 refine zal (zah rfl (zag (zct (vs := [(zI t.Var), (zI t.Kind), (zac t.Negated), (zS t.Text)]) zbd rfl ti44 rfl (hL16.at 0 rfl rfl) rfl rfl ?_)))
 refine zag (zae (v := (zS s11)) rfl ?_)
 obtain ⟨r11, q14, h⟩ := zee h
 refine zag (zbz en58 rfl rfl (qFinal_w N t s11 _ Any r11 q14) ?_)
 rintro _ w20 hE19 ⟨rfl, -⟩
 have hL17 := hL16.ext hE19
 refine zag (zaj (v := (zac r11)) rfl ?_)
 refine zaq (zbt ?_)
 obtain rfl := zad h
 refine ⟨[(zac r11)], zrt, ⟨_, rfl, hL17.done, ?_⟩⟩
 exact zrt
theorem rPairs_w (N : Nat) (l : (List Arr2Int)) (n : Int) (l_v : Value) (w : World) (S : Nat → Prop) (l_h : Rs rArr2Int (vH w S [] w) l_v l) (r : Bool) (h : rPairs N l n = some r) :
  Calls Try.prog 44 #[l_v, (zI n)] w (Ret w (fun v w' => (zac r) = v ∧ True)) := by
 unfold rPairs at h
 have hL : vL w w [] [] := Go.X.Loc.begin0 w
 refine calls_of (l := [l_v, (zI n)]) (rl := [.tmp 4]) (n := 44) Try.func44 rfl rfl rfl (zai rfl) ?_
 refine zal (zah rfl (zag (zaj (v := zF) rfl ?_)))
 refine zaq (zal (zal (zah rfl (zag (zaj (v := (zI 0)) rfl (zaq ?_))))))
 obtain ⟨s10, hl10, g10⟩ := zee h
 refine zbs (fun e w' => ∃  (u : Env), (Sum.inl ()) = s10 ∧ e = upds [] u ∧ vL w w' [] [] ∧ Keep w.heap.size [] w [] w' ∧ True) ?_ ?_
 ·
  refine zbc ?_
  refine zbw hl10 (fun (ss : Int) (e : Env) (w' : World) => match ss with | i10 => ∃ (u : Env), e = upds [(0, l_v), (1, (zI n)), (5, (zI i10))] u ∧ vL w w' [] [] ∧ Keep w.heap.size [] w [] w' ∧ True) ⟨_, (zef ⟨rfl, rfl, rfl, trivial⟩), hL, zbp, trivial⟩ ?_
  rintro i10 oo _ w10 ⟨u, rfl, hL10, K10, -⟩ h hd10
  rw [rPairs_b1] at h
  refine zal (zal (zah rfl (zag (zae (v := (zI i10)) rfl ?_))))
  refine zag (zae (v := l_v) rfl ?_)
  have f10 := (l_h.mono (K10 S))
  refine zag (zcf (v := l_v) zbr rfl f10 ?_)
  refine zag (zcg (x := i10) (y := (l.length : Int)) ((i10 : Int) < (l.length : Int)) rfl rfl zbi (zaq ?_))
  refine zbj ((i10 : Int) < (l.length : Int)) rfl (fun hc10 => ?_) (fun hc10 => ?_)
  ·
   replace h := ite_t hc10 h
   refine zbl (zal (zbc (zal ?_)))
   obtain ⟨s11, h, g11⟩ := zee h
   refine zbs (fun e w' => ∃ (x10 : Bool) (u : Env), x10 = s11 ∧ e = upds [(0, l_v), (1, (zI n)), (5, (zI i10)), (43, (zac x10))] u ∧ vL w w' [] [] ∧ Keep w.heap.size [] w10 [] w' ∧ True) ?_ ?_
   ·
    refine zah rfl (zag (zae (v := l_v) rfl ?_))
    refine zag (zae (v := (zI i10)) rfl ?_)
    obtain ⟨x11, n10, q11, q12, -, h⟩ := zix h
    obtain ⟨b10, o10, c10, vs10, q13, q14, f11, q15⟩ := zdc f10 q12
    obtain ⟨rfl, -⟩ := rArr2Int_open q15
    refine zag (zby (r := rArr2Int) (v := l_v) (n := n10) (m := (o10 + n10 * rArr2Int.sz)) zbr ti45 rfl q13 rfl q11 q12 rfl ?_)
    have f12 := (f11.part (us := [(zI x11.e0)]) 0 rfl)
    refine zag (zcs (i := 0) (q := (o10 + n10 * rArr2Int.sz) + 0) zcc ti3 rfl rfl (by decide) rfl ?_)
    refine zag (zce (v := (zI x11.e0)) zaw rfl rfl zel f12 ?_)
    refine zag (zcg (x := x11.e0) (y := 0) ((x11.e0 : Int) < 0) rfl rfl zbi ?_)
    refine zag (zae (v := (zac (decide ((x11.e0 : Int) < 0)))) rfl ?_)
    by_cases hc11 : (x11.e0 : Int) < 0
    ·
     replace h := ite_t hc11 h
     refine zbg rfl rfl (zed hc11) (zbg rfl rfl (zed hc11) (zbg rfl rfl (zed hc11) (zbg rfl rfl (zed hc11) (zbg rfl rfl (zed hc11) (zbg rfl rfl (zed hc11) (zbg rfl rfl (zed hc11) ?_))))))
     refine zag (zbn (t := (decide ((x11.e0 : Int) < 0))) (v := zT) rfl (zed hc11) rfl ?_)
     refine zag (zae (v := zT) rfl ?_)
     refine zbg rfl rfl rfl (zbg rfl rfl rfl (zbg rfl rfl rfl (zbg rfl rfl rfl (zbg rfl rfl rfl (zbg rfl rfl rfl ?_)))))
     refine zag (zbn (t := true) (v := zT) rfl rfl rfl ?_)
     refine zag (zae (v := zT) rfl ?_)
     refine zbg rfl rfl rfl (zbg rfl rfl rfl (zbg rfl rfl rfl (zbg rfl rfl rfl (zbg rfl rfl rfl (zbg rfl rfl rfl (zbg rfl rfl rfl ?_))))))
     refine zag (zbn (t := true) (v := zT) rfl rfl rfl (zaq ?_))
     obtain rfl := zad h
     refine zap ?_
     exact ⟨true, _, rfl, (zef ⟨rfl, rfl, rfl, rfl, trivial⟩), hL10, zbp, trivial⟩
    replace h := ite_f hc11 h
    refine zaz rfl rfl (zec hc11) (zae (v := l_v) rfl ?_)
    refine zaz rfl rfl (zec hc11) (zae (v := (zI i10)) rfl ?_)
    obtain ⟨x12, n11, q17, q18, -, h⟩ := zix h
    obtain ⟨b11, o11, c11, vs11, q19, q20, f13, q21⟩ := zdc f10 q18
    obtain ⟨rfl, -⟩ := rArr2Int_open q21
    refine zaz rfl rfl (zec hc11) (zby (r := rArr2Int) (v := l_v) (n := n11) (m := (o11 + n11 * rArr2Int.sz)) zbr ti45 rfl q19 rfl q17 q18 rfl ?_)
    have f14 := (f13.part (us := [(zI x12.e0)]) 0 rfl)
    refine zaz rfl rfl (zec hc11) (zcs (i := 0) (q := (o11 + n11 * rArr2Int.sz) + 0) zcc ti3 rfl rfl (by decide) rfl ?_)
    refine zaz rfl rfl (zec hc11) (zce (v := (zI x12.e0)) zaw rfl rfl zel f14 ?_)
    refine zaz rfl rfl (zec hc11) (zae (v := (zI n)) rfl ?_)
    refine zaz rfl rfl (zec hc11) (OpY.geq (x := x12.e0) (y := n) ((x12.e0 : Int) ≥ n) rfl rfl zbi ?_)
    refine zag (zbh (t := (decide ((x11.e0 : Int) < 0))) (v := (zac (decide ((x12.e0 : Int) ≥ n)))) rfl (zec hc11) rfl ?_)
    refine zag (zae (v := (zac (decide ((x12.e0 : Int) ≥ n)))) rfl ?_)
    by_cases hc12 : (x12.e0 : Int) ≥ n
    ·
     replace h := ite_t hc12 h
     refine zbg rfl rfl (zed hc12) (zbg rfl rfl (zed hc12) (zbg rfl rfl (zed hc12) (zbg rfl rfl (zed hc12) (zbg rfl rfl (zed hc12) (zbg rfl rfl (zed hc12) ?_)))))
     refine zag (zbn (t := (decide ((x12.e0 : Int) ≥ n))) (v := zT) rfl (zed hc12) rfl ?_)
     refine zag (zae (v := zT) rfl ?_)
     refine zbg rfl rfl rfl (zbg rfl rfl rfl (zbg rfl rfl rfl (zbg rfl rfl rfl (zbg rfl rfl rfl (zbg rfl rfl rfl (zbg rfl rfl rfl ?_))))))
     refine zag (zbn (t := true) (v := zT) rfl rfl rfl (zaq ?_))
     obtain rfl := zad h
     refine zap ?_
     exact ⟨true, _, rfl, (zef ⟨rfl, rfl, rfl, rfl, trivial⟩), hL10, zbp, trivial⟩
    replace h := ite_f hc12 h
    refine zaz rfl rfl (zec hc12) (zae (v := l_v) rfl ?_)
    refine zaz rfl rfl (zec hc12) (zae (v := (zI i10)) rfl ?_)
    obtain ⟨x13, n12, q23, q24, -, h⟩ := zix h
    obtain ⟨b12, o12, c12, vs12, q25, q26, f15, q27⟩ := zdc f10 q24
    obtain ⟨rfl, -⟩ := rArr2Int_open q27
    refine zaz rfl rfl (zec hc12) (zby (r := rArr2Int) (v := l_v) (n := n12) (m := (o12 + n12 * rArr2Int.sz)) zbr ti45 rfl q25 rfl q23 q24 rfl ?_)
    have f16 := (f15.part (us := [(zI x13.e1)]) 1 rfl)
    refine zaz rfl rfl (zec hc12) (zcs (i := 1) (q := (o12 + n12 * rArr2Int.sz) + 1) zcc ti3 rfl rfl (by decide) rfl ?_)
    refine zaz rfl rfl (zec hc12) (zce (v := (zI x13.e1)) zaw rfl rfl zel f16 ?_)
    refine zaz rfl rfl (zec hc12) (zcg (x := x13.e1) (y := 0) ((x13.e1 : Int) < 0) rfl rfl zbi ?_)
    refine zag (zbh (t := (decide ((x12.e0 : Int) ≥ n))) (v := (zac (decide ((x13.e1 : Int) < 0)))) rfl (zec hc12) rfl ?_)
    refine zag (zae (v := (zac (decide ((x13.e1 : Int) < 0)))) rfl ?_)
    by_cases hc13 : (x13.e1 : Int) < 0
    ·
     replace h := ite_t hc13 h
     refine zbg rfl rfl (zed hc13) (zbg rfl rfl (zed hc13) (zbg rfl rfl (zed hc13) (zbg rfl rfl (zed hc13) (zbg rfl rfl (zed hc13) (zbg rfl rfl (zed hc13) (zbg rfl rfl (zed hc13) ?_))))))
     refine zag (zbn (t := (decide ((x13.e1 : Int) < 0))) (v := zT) rfl (zed hc13) rfl (zaq ?_))
     obtain rfl := zad h
     refine zap ?_
     exact ⟨true, _, rfl, (zef ⟨rfl, rfl, rfl, rfl, trivial⟩), hL10, zbp, trivial⟩
    replace h := ite_f hc13 h
    refine zaz rfl rfl (zec hc13) (zae (v := l_v) rfl ?_)
    refine zaz rfl rfl (zec hc13) (zae (v := (zI i10)) rfl ?_)
    obtain ⟨x14, n13, q29, q30, -, h⟩ := zix h
    obtain ⟨b13, o13, c13, vs13, q31, q32, f17, q33⟩ := zdc f10 q30
    obtain ⟨rfl, -⟩ := rArr2Int_open q33
    refine zaz rfl rfl (zec hc13) (zby (r := rArr2Int) (v := l_v) (n := n13) (m := (o13 + n13 * rArr2Int.sz)) zbr ti45 rfl q31 rfl q29 q30 rfl ?_)
    have f18 := (f17.part (us := [(zI x14.e1)]) 1 rfl)
    refine zaz rfl rfl (zec hc13) (zcs (i := 1) (q := (o13 + n13 * rArr2Int.sz) + 1) zcc ti3 rfl rfl (by decide) rfl ?_)
    refine zaz rfl rfl (zec hc13) (zce (v := (zI x14.e1)) zaw rfl rfl zel f18 ?_)
    refine zaz rfl rfl (zec hc13) (zae (v := (zI n)) rfl ?_)
    refine zaz rfl rfl (zec hc13) (OpY.geq (x := x14.e1) (y := n) ((x14.e1 : Int) ≥ n) rfl rfl zbi ?_)
    refine zag (zbh (t := (decide ((x13.e1 : Int) < 0))) (v := (zac (decide ((x14.e1 : Int) ≥ n)))) rfl (zec hc13) rfl (zaq ?_))
    obtain rfl := zad h
    refine zap ?_
    exact ⟨(decide ((x14.e1 : Int) ≥ n)), _, rfl, (zef ⟨rfl, rfl, rfl, rfl, trivial⟩), hL10, zbp, trivial⟩
   rintro _ w11 ⟨x10, u, rfl, rfl, hL11, K11, -⟩
   replace h := g11
   try dsimp only at h
   refine zch x10 rfl (fun hc14 => ?_) (fun hc14 => ?_)
   ·
    replace h := ite_t hc14 h
    refine zal (zah rfl (zag (zaj (v := zF) rfl ?_)))
    refine zaq (zbt ?_)
    obtain rfl := zad h
    obtain rfl := hd10 _ rfl
    replace h := g10
    try dsimp only at h
    obtain rfl := zad h
    refine ⟨[zF], zrt, ⟨_, rfl, hL11.done, ?_⟩⟩
    exact zrt
   replace h := ite_f hc14 h
   refine zbl (zbf (zah rfl (zag (zae (v := (zI i10)) rfl ?_))))
   refine zag (zbx (x := i10) (y := 1) (z := (iw (i10 + 1))) rfl rfl rfl ?_)
   refine zag (zaj (v := (zI (iw (i10 + 1)))) rfl (zaq ?_))
   obtain rfl := zad h
   refine zap ⟨(iw (i10 + 1)), rfl, ?_⟩
   exact ⟨_, (zef ⟨rfl, rfl, rfl, trivial⟩), hL11, (zak K10 K11), trivial⟩
  replace h := ite_f hc10 h
  refine zca rfl ?_
  obtain rfl := zad h
  obtain rfl := hd10 _ rfl
  replace h := g10
  try dsimp only at h
  refine zap ?_
  exact ⟨_, rfl, (zef trivial), hL10, K10, trivial⟩
 rintro _ w12 ⟨u, rfl, rfl, hL12, K12, -⟩
 replace h := g10
 try dsimp only at h
 refine zal (zah rfl (zag (zaj (v := zT) rfl ?_)))
 refine zaq (zbt ?_)
 obtain rfl := zad h
 refine ⟨[zT], zrt, ⟨_, rfl, hL12.done, ?_⟩⟩
 exact zrt
theorem rSizes_w (N : Nat) (l : (List Int)) (l_v : Value) (w : World) (S : Nat → Prop) (l_h : Rs rI (vH w S [] w) l_v l) (r : Bool) (h : rSizes N l = some r) :
  Calls Try.prog 43 #[l_v] w (Ret w (fun v w' => (zac r) = v ∧ True)) := by
 unfold rSizes at h
 have hL : vL w w [] [] := Go.X.Loc.begin0 w
 refine calls_of (l := [l_v]) (rl := [.tmp 2]) (n := 22) Try.func43 rfl rfl rfl (zai rfl) ?_
 refine zal (zah rfl (zag (zaj (v := zF) rfl ?_)))
 refine zaq (zal (zal (zah rfl (zag (zaj (v := (zI 0)) rfl (zaq ?_))))))
 obtain ⟨s10, hl10, g10⟩ := zee h
 refine zbs (fun e w' => ∃  (u : Env), (Sum.inl ()) = s10 ∧ e = upds [] u ∧ vL w w' [] [] ∧ Keep w.heap.size [] w [] w' ∧ True) ?_ ?_
 ·
  refine zbc ?_
  refine zbw hl10 (fun (ss : Int) (e : Env) (w' : World) => match ss with | i10 => ∃ (u : Env), e = upds [(0, l_v), (3, (zI i10))] u ∧ vL w w' [] [] ∧ Keep w.heap.size [] w [] w' ∧ True) ⟨_, (zef ⟨rfl, rfl, trivial⟩), hL, zbp, trivial⟩ ?_
  rintro i10 oo _ w10 ⟨u, rfl, hL10, K10, -⟩ h hd10
  rw [rSizes_b1] at h
  refine zal (zal (zah rfl (zag (zae (v := (zI i10)) rfl ?_))))
  refine zag (zae (v := l_v) rfl ?_)
  have f10 := (l_h.mono (K10 S))
  refine zag (zcf (v := l_v) zao rfl f10 ?_)
  refine zag (zcg (x := i10) (y := (l.length : Int)) ((i10 : Int) < (l.length : Int)) rfl rfl zbi (zaq ?_))
  refine zbj ((i10 : Int) < (l.length : Int)) rfl (fun hc10 => ?_) (fun hc10 => ?_)
  ·
   replace h := ite_t hc10 h
   refine zbl (zal (zbc (zal ?_)))
   obtain ⟨s11, h, g11⟩ := zee h
   refine zbs (fun e w' => ∃ (x10 : Bool) (u : Env), x10 = s11 ∧ e = upds [(0, l_v), (3, (zI i10)), (21, (zac x10))] u ∧ vL w w' [] [] ∧ Keep w.heap.size [] w10 [] w' ∧ True) ?_ ?_
   ·
    refine zah rfl (zag (zae (v := l_v) rfl ?_))
    refine zag (zae (v := (zI i10)) rfl ?_)
    obtain ⟨x11, n10, q11, q12, -, h⟩ := zix h
    obtain ⟨b10, o10, c10, vs10, q13, q14, f11, q15⟩ := zdc f10 q12
    obtain rfl := q15
    refine zag (zby (r := rI) (v := l_v) (n := n10) (m := (o10 + n10 * rI.sz)) zao ti3 rfl q13 rfl q11 q12 rfl ?_)
    refine zag (zce (v := (zI x11)) zaw rfl rfl zel f11 ?_)
    refine zag (zcg (x := x11) (y := 0) ((x11 : Int) < 0) rfl rfl zbi ?_)
    refine zag (zae (v := (zac (decide ((x11 : Int) < 0)))) rfl ?_)
    by_cases hc11 : (x11 : Int) < 0
    ·
     replace h := ite_t hc11 h
     refine zbg rfl rfl (zed hc11) (zbg rfl rfl (zed hc11) (zbg rfl rfl (zed hc11) (zbg rfl rfl (zed hc11) (zbg rfl rfl (zed hc11) ?_))))
     refine zag (zbn (t := (decide ((x11 : Int) < 0))) (v := zT) rfl (zed hc11) rfl (zaq ?_))
     obtain rfl := zad h
     refine zap ?_
     exact ⟨true, _, rfl, (zef ⟨rfl, rfl, rfl, trivial⟩), hL10, zbp, trivial⟩
    replace h := ite_f hc11 h
    refine zaz rfl rfl (zec hc11) (zae (v := l_v) rfl ?_)
    refine zaz rfl rfl (zec hc11) (zae (v := (zI i10)) rfl ?_)
    obtain ⟨x12, n11, q17, q18, -, h⟩ := zix h
    obtain ⟨b11, o11, c11, vs11, q19, q20, f12, q21⟩ := zdc f10 q18
    obtain rfl := q21
    refine zaz rfl rfl (zec hc11) (zby (r := rI) (v := l_v) (n := n11) (m := (o11 + n11 * rI.sz)) zao ti3 rfl q19 rfl q17 q18 rfl ?_)
    refine zaz rfl rfl (zec hc11) (zce (v := (zI x12)) zaw rfl rfl zel f12 ?_)
    refine zaz rfl rfl (zec hc11) (OpY.gtr (x := x12) (y := 16) ((x12 : Int) > 16) rfl rfl zbi ?_)
    refine zag (zbh (t := (decide ((x11 : Int) < 0))) (v := (zac (decide ((x12 : Int) > 16)))) rfl (zec hc11) rfl (zaq ?_))
    obtain rfl := zad h
    refine zap ?_
    exact ⟨(decide ((x12 : Int) > 16)), _, rfl, (zef ⟨rfl, rfl, rfl, trivial⟩), hL10, zbp, trivial⟩
   rintro _ w11 ⟨x10, u, rfl, rfl, hL11, K11, -⟩
   replace h := g11
   try dsimp only at h
   refine zch x10 rfl (fun hc12 => ?_) (fun hc12 => ?_)
   ·
    replace h := ite_t hc12 h
    refine zal (zah rfl (zag (zaj (v := zF) rfl ?_)))
    refine zaq (zbt ?_)
    obtain rfl := zad h
    obtain rfl := hd10 _ rfl
    replace h := g10
    try dsimp only at h
    obtain rfl := zad h
    refine ⟨[zF], zrt, ⟨_, rfl, hL11.done, ?_⟩⟩
    exact zrt
   replace h := ite_f hc12 h
   refine zbl (zbf (zah rfl (zag (zae (v := (zI i10)) rfl ?_))))
   refine zag (zbx (x := i10) (y := 1) (z := (iw (i10 + 1))) rfl rfl rfl ?_)
   refine zag (zaj (v := (zI (iw (i10 + 1)))) rfl (zaq ?_))
   obtain rfl := zad h
   refine zap ⟨(iw (i10 + 1)), rfl, ?_⟩
   exact ⟨_, (zef ⟨rfl, rfl, trivial⟩), hL11, (zak K10 K11), trivial⟩
  replace h := ite_f hc10 h
  refine zca rfl ?_
  obtain rfl := zad h
  obtain rfl := hd10 _ rfl
  replace h := g10
  try dsimp only at h
  refine zap ?_
  exact ⟨_, rfl, (zef trivial), hL10, K10, trivial⟩
 rintro _ w12 ⟨u, rfl, rfl, hL12, K12, -⟩
 replace h := g10
 try dsimp only at h
 refine zal (zah rfl (zag (zaj (v := zT) rfl ?_)))
 refine zaq (zbt ?_)
 obtain rfl := zad h
 refine ⟨[zT], zrt, ⟨_, rfl, hL12.done, ?_⟩⟩
 exact zrt
theorem rValid_w (N : Nat) (p : TProb) (p_v : Value) (p_v1 : Value) (p_v2 : Value) (p_v3 : Value) (p_v4 : Value) (w : World) (S : Nat → Prop) (p_h : Rs rI (vH w S [] w) p_v p.Min) (p_h1 : Rs rI (vH w S [] w) p_v1 p.Max) (p_h2 : Rs rTTest (vH w S [] w) p_v2 p.Tests) (p_h3 : Rs rArr2Int (vH w S [] w) p_v3 p.Same) (p_h4 : Rs rArr2Int (vH w S [] w) p_v4 p.Different) (r : Bool) (h : rValid N p = some r) :
  Calls Try.prog 24 #[(zbq #[p_v, p_v1, p_v2, p_v3, p_v4])] w (Ret w (fun v w' => (zac r) = v ∧ True)) := by
 unfold rValid at h
 have hL : vL w w [] [] := Go.X.Loc.begin0 w
 refine calls_of (l := [(zbq #[p_v, p_v1, p_v2, p_v3, p_v4])]) (rl := [.tmp 2]) (n := 72) Try.func24 rfl rfl rfl (zai rfl) ?_
 refine zal (zah rfl (zag (zdp (cs := [p_v, p_v1, p_v2, p_v3, p_v4]) rfl rfl hL ?_)))
 intro b1 w2 hL3 hS5
 have K4 := ks w hS5
 refine zag (zaj (v := zF) rfl ?_)
 refine zaq (zal (zah rfl (zag (zau (q := 1) zbb rfl ti22 rfl rfl rfl ?_))))
 refine zag (zav (v := p_v1) zao rfl rfl (hL3.at 0 rfl rfl) rfl ?_)
 have f6 := (p_h1.mono (K4 S))
 refine zag (zcf (v := p_v1) zao rfl f6 ?_)
 refine zag (zaj (v := (zI (p.Max.length : Int))) rfl ?_)
 refine zaq (zal (zal (zah rfl (zag (zaj (v := (zI 0)) rfl (zaq ?_))))))
 obtain ⟨s10, hl10, g10⟩ := zee h
 refine zbs (fun e w' => ∃  (u : Env), (Sum.inl ()) = s10 ∧ e = upds [(1, (zam (some ⟨b1, 0, none⟩))), (3, (zI (p.Max.length : Int)))] u ∧ vL w w' [some b1] [zab [p_v, p_v1, p_v2, p_v3, p_v4]] ∧ Keep w.heap.size [some b1] w2 [some b1] w' ∧ True) ?_ ?_
 ·
  refine zbc ?_
  refine zbw hl10 (fun (ss : Int) (e : Env) (w' : World) => match ss with | i10 => ∃ (u : Env), e = upds [(1, (zam (some ⟨b1, 0, none⟩))), (3, (zI (p.Max.length : Int))), (4, (zI i10))] u ∧ vL w w' [some b1] [zab [p_v, p_v1, p_v2, p_v3, p_v4]] ∧ Keep w.heap.size [some b1] w2 [some b1] w' ∧ True) ⟨_, (zef ⟨rfl, rfl, rfl, trivial⟩), hL3, zbp, trivial⟩ ?_
  rintro i10 oo _ w10 ⟨u, rfl, hL10, K10, -⟩ h hd10
  rw [rValid_b1] at h
  refine zal (zal (zah rfl (zag (zae (v := (zI i10)) rfl ?_))))
  refine zag (zau (q := 2) zbb rfl ti23 rfl rfl rfl ?_)
  refine zag (zav (v := p_v2) zbk rfl rfl (hL10.at 0 rfl rfl) rfl ?_)
  have f10 := ((p_h2.mono (K4 S)).mono (K10 S))
  refine zag (zcf (v := p_v2) zbk rfl f10 ?_)
  refine zag (zcg (x := i10) (y := (p.Tests.length : Int)) ((i10 : Int) < (p.Tests.length : Int)) rfl rfl zbi (zaq ?_))
  refine zbj ((i10 : Int) < (p.Tests.length : Int)) rfl (fun hc10 => ?_) (fun hc10 => ?_)
  ·
   replace h := ite_t hc10 h
   refine zbl (zal (zbc (zal ?_)))
   obtain ⟨s11, h, g11⟩ := zee h
   refine zbs (fun e w' => ∃ (x10 : Bool) (u : Env), x10 = s11 ∧ e = upds [(1, (zam (some ⟨b1, 0, none⟩))), (3, (zI (p.Max.length : Int))), (4, (zI i10)), (40, (zac x10))] u ∧ vL w w' [some b1] [zab [p_v, p_v1, p_v2, p_v3, p_v4]] ∧ Keep w.heap.size [some b1] w10 [some b1] w' ∧ True) ?_ ?_
   ·
    refine zah rfl (zag (zau (q := 2) zbb rfl ti23 rfl rfl rfl ?_))
    refine zag (zav (v := p_v2) zbk rfl rfl (hL10.at 0 rfl rfl) rfl ?_)
    refine zag (zae (v := (zI i10)) rfl ?_)
    obtain ⟨x11, n10, q11, q12, -, h⟩ := zix h
    obtain ⟨b10, o10, c10, vs10, q13, q14, f11, q15⟩ := zdc f10 q12
    obtain ⟨rfl, -⟩ := rTTest_open q15
    refine zag (zby (r := rTTest) (v := p_v2) (n := n10) (m := (o10 + n10 * rTTest.sz)) zbk ti44 rfl q13 rfl q11 q12 rfl ?_)
    refine zag (OpY.ldRoA (vs := [(zI x11.Var), (zI x11.Kind), (zac x11.Negated), (zS x11.Text)]) zbd rfl ti44 rfl rfl zel f11 ?_)
    obtain ⟨r10, q16, h⟩ := zee h
    refine zag (zbz en42 rfl rfl (qValid_w N x11 _ Any r10 q16) ?_)
    rintro _ w11 hE10 ⟨rfl, -⟩
    obtain ⟨hL11, K11⟩ := zl hL10 hE10
    refine zag (OpY.not (x := r10) rfl ?_)
    refine zag (zae (v := (zac (!r10))) rfl ?_)
    by_cases hc11 : (!r10) = true
    ·
     replace h := ite_t hc11 h
     refine zbg rfl rfl hc11 ?_
     refine zbg rfl rfl hc11 ?_
     refine zbg rfl rfl hc11 ?_
     refine zbg rfl rfl hc11 ?_
     refine zbg rfl rfl hc11 ?_
     refine zbg rfl rfl hc11 ?_
     refine zbg rfl rfl hc11 ?_
     refine zag (zbn (t := (!r10)) (v := zT) rfl hc11 rfl ?_)
     refine zag (zae (v := zT) rfl ?_)
     refine zbg rfl rfl rfl (zbg rfl rfl rfl (zbg rfl rfl rfl (zbg rfl rfl rfl (zbg rfl rfl rfl (zbg rfl rfl rfl (zbg rfl rfl rfl (zbg rfl rfl rfl ?_)))))))
     refine zag (zbn (t := true) (v := zT) rfl rfl rfl (zaq ?_))
     obtain rfl := zad h
     refine zap ?_
     exact ⟨true, _, rfl, (zef ⟨rfl, rfl, rfl, rfl, trivial⟩), hL11, K11, trivial⟩
    replace h := ite_f hc11 h
    refine zaz rfl rfl (zeg hc11) (zau (q := 2) zbb rfl ti23 rfl rfl rfl ?_)
    refine zaz rfl rfl (zeg hc11) (zav (v := p_v2) zbk rfl rfl (hL11.at 0 rfl rfl) rfl ?_)
    refine zaz rfl rfl (zeg hc11) (zae (v := (zI i10)) rfl ?_)
    obtain ⟨x12, n11, q18, q19, -, h⟩ := zix h
    have f12 := (f10.mono (K11 S))
    obtain ⟨b11, o11, c11, vs11, q20, q21, f13, q22⟩ := zdc f12 q19
    obtain ⟨rfl, -⟩ := rTTest_open q22
    refine zaz rfl rfl (zeg hc11) (zby (r := rTTest) (v := p_v2) (n := n11) (m := (o11 + n11 * rTTest.sz)) zbk ti44 rfl q20 rfl q18 q19 rfl ?_)
    have f14 := (f13.part (us := [(zI x12.Var)]) 0 rfl)
    refine zaz rfl rfl (zeg hc11) (zau (q := (o11 + n11 * rTTest.sz) + 0) zbd rfl ti3 rfl rfl rfl ?_)
    refine zaz rfl rfl (zeg hc11) (zce (v := (zI x12.Var)) zaw rfl rfl zel f14 ?_)
    refine zaz rfl rfl (zeg hc11) (zcg (x := x12.Var) (y := 0) ((x12.Var : Int) < 0) rfl rfl zbi ?_)
    refine zag (zbh (t := (!r10)) (v := (zac (decide ((x12.Var : Int) < 0)))) rfl (zeg hc11) rfl ?_)
    refine zag (zae (v := (zac (decide ((x12.Var : Int) < 0)))) rfl ?_)
    by_cases hc12 : (x12.Var : Int) < 0
    ·
     replace h := ite_t hc12 h
     refine zbg rfl rfl (zed hc12) (zbg rfl rfl (zed hc12) (zbg rfl rfl (zed hc12) (zbg rfl rfl (zed hc12) (zbg rfl rfl (zed hc12) (zbg rfl rfl (zed hc12) (zbg rfl rfl (zed hc12) (zbg rfl rfl (zed hc12) ?_)))))))
     refine zag (zbn (t := (decide ((x12.Var : Int) < 0))) (v := zT) rfl (zed hc12) rfl (zaq ?_))
     obtain rfl := zad h
     refine zap ?_
     exact ⟨true, _, rfl, (zef ⟨rfl, rfl, rfl, rfl, trivial⟩), hL11, K11, trivial⟩
    replace h := ite_f hc12 h
    refine zaz rfl rfl (zec hc12) (zau (q := 2) zbb rfl ti23 rfl rfl rfl ?_)
    refine zaz rfl rfl (zec hc12) (zav (v := p_v2) zbk rfl rfl (hL11.at 0 rfl rfl) rfl ?_)
    refine zaz rfl rfl (zec hc12) (zae (v := (zI i10)) rfl ?_)
    obtain ⟨x13, n12, q24, q25, -, h⟩ := zix h
    obtain ⟨b12, o12, c12, vs12, q26, q27, f15, q28⟩ := zdc f12 q25
    obtain ⟨rfl, -⟩ := rTTest_open q28
    refine zaz rfl rfl (zec hc12) (zby (r := rTTest) (v := p_v2) (n := n12) (m := (o12 + n12 * rTTest.sz)) zbk ti44 rfl q26 rfl q24 q25 rfl ?_)
    have f16 := (f15.part (us := [(zI x13.Var)]) 0 rfl)
    refine zaz rfl rfl (zec hc12) (zau (q := (o12 + n12 * rTTest.sz) + 0) zbd rfl ti3 rfl rfl rfl ?_)
    refine zaz rfl rfl (zec hc12) (zce (v := (zI x13.Var)) zaw rfl rfl zel f16 ?_)
    refine zaz rfl rfl (zec hc12) (zae (v := (zI (p.Max.length : Int))) rfl ?_)
    refine zaz rfl rfl (zec hc12) (OpY.geq (x := x13.Var) (y := (p.Max.length : Int)) ((x13.Var : Int) ≥ (p.Max.length : Int)) rfl rfl zbi ?_)
    refine zag (zbh (t := (decide ((x12.Var : Int) < 0))) (v := (zac (decide ((x13.Var : Int) ≥ (p.Max.length : Int))))) rfl (zec hc12) rfl (zaq ?_))
    obtain rfl := zad h
    refine zap ?_
    exact ⟨(decide ((x13.Var : Int) ≥ (p.Max.length : Int))), _, rfl, (zef ⟨rfl, rfl, rfl, rfl, trivial⟩), hL11, K11, trivial⟩
   rintro _ w12 ⟨x10, u, rfl, rfl, hL12, K12, -⟩
   replace h := g11
   try dsimp only at h
   refine zch x10 rfl (fun hc13 => ?_) (fun hc13 => ?_)
   ·
    replace h := ite_t hc13 h
    refine zal (zah rfl (zag (zaj (v := zF) rfl ?_)))
    refine zaq (zbt ?_)
    obtain rfl := zad h
    obtain rfl := hd10 _ rfl
    replace h := g10
    try dsimp only at h
    obtain rfl := zad h
    refine ⟨[zF], zrt, ⟨_, rfl, hL12.done, ?_⟩⟩
    exact zrt
   replace h := ite_f hc13 h
   refine zbl (zbf (zah rfl (zag (zae (v := (zI i10)) rfl ?_))))
   refine zag (zbx (x := i10) (y := 1) (z := (iw (i10 + 1))) rfl rfl rfl ?_)
   refine zag (zaj (v := (zI (iw (i10 + 1)))) rfl (zaq ?_))
   obtain rfl := zad h
   refine zap ⟨(iw (i10 + 1)), rfl, ?_⟩
   exact ⟨_, (zef ⟨rfl, rfl, rfl, trivial⟩), hL12, (zak K10 K12), trivial⟩
  replace h := ite_f hc10 h
  refine zca rfl ?_
  obtain rfl := zad h
  obtain rfl := hd10 _ rfl
  replace h := g10
  try dsimp only at h
  refine zap ?_
  exact ⟨_, rfl, (zef ⟨rfl, rfl, trivial⟩), hL10, K10, trivial⟩
 rintro _ w13 ⟨u, rfl, rfl, hL13, K13, -⟩
 replace h := g10
 try dsimp only at h
 refine zal (zah rfl (zag (zau (q := 0) zbb rfl ti22 rfl rfl rfl ?_)))
 refine zag (zav (v := p_v) zao rfl rfl (hL13.at 0 rfl rfl) rfl ?_)
 have f17 := ((p_h.mono (K4 S)).mono (K13 S))
 refine zag (zcf (v := p_v) zao rfl f17 ?_)
 refine zag (zae (v := (zI (p.Max.length : Int))) rfl ?_)
 refine zag (zcv (x := (p.Min.length : Int)) (y := (p.Max.length : Int)) (((p.Min.length : Int) : Int) = (p.Max.length : Int)) rfl rfl zbi ?_)
 refine zag (zae (v := (zac (decide (((p.Min.length : Int) : Int) = (p.Max.length : Int))))) rfl ?_)
 by_cases hc14 : ((p.Min.length : Int) : Int) = (p.Max.length : Int)
 ·
  replace h := ite_t hc14 h
  refine zaz rfl rfl (zed hc14) (zae (v := (zI (p.Max.length : Int))) rfl ?_)
  refine zaz rfl rfl (zed hc14) (zea (x := (p.Max.length : Int)) (y := 128) (((p.Max.length : Int) : Int) ≤ 128) rfl rfl zbi ?_)
  refine zag (zbn (t := (decide (((p.Min.length : Int) : Int) = (p.Max.length : Int)))) (v := (zac (decide (((p.Max.length : Int) : Int) ≤ 128)))) rfl (zed hc14) rfl ?_)
  refine zag (zae (v := (zac (decide (((p.Max.length : Int) : Int) ≤ 128)))) rfl ?_)
  by_cases hc15 : ((p.Max.length : Int) : Int) ≤ 128
  ·
   replace h := ite_t hc15 h
   refine zaz rfl rfl (zed hc15) (zau (q := 0) zbb rfl ti22 rfl rfl rfl ?_)
   refine zaz rfl rfl (zed hc15) (zav (v := p_v) zao rfl rfl (hL13.at 0 rfl rfl) rfl ?_)
   obtain ⟨r11, q29, h⟩ := zee h
   refine zaz rfl rfl (zed hc15) (zbz en43 rfl rfl (rSizes_w N p.Min p_v _ Any (f17.mono vw_any) r11 q29) ?_)
   rintro _ w14 hE11 ⟨rfl, -⟩
   obtain ⟨hL14, K14⟩ := zl hL13 hE11
   refine zag (zbn (t := (decide (((p.Max.length : Int) : Int) ≤ 128))) (v := (zac r11)) rfl (zed hc15) rfl ?_)
   refine zag (zae (v := (zac r11)) rfl ?_)
   by_cases hc16 : r11 = true
   ·
    replace h := ite_t hc16 h
    refine zaz rfl rfl hc16 (zau (q := 1) zbb rfl ti22 rfl rfl rfl ?_)
    refine zaz rfl rfl hc16 (zav (v := p_v1) zao rfl rfl (hL14.at 0 rfl rfl) rfl ?_)
    obtain ⟨r12, q30, h⟩ := zee h
    have f18 := ((f6.mono (K13 S)).mono (K14 S))
    refine zaz rfl rfl hc16 (zbz en43 rfl rfl (rSizes_w N p.Max p_v1 _ Any (f18.mono vw_any) r12 q30) ?_)
    rintro _ w15 hE12 ⟨rfl, -⟩
    obtain ⟨hL15, K15⟩ := zl hL14 hE12
    refine zag (zbn (t := r11) (v := (zac r12)) rfl hc16 rfl ?_)
    refine zag (zae (v := (zac r12)) rfl ?_)
    by_cases hc17 : r12 = true
    ·
     replace h := ite_t hc17 h
     refine zaz rfl rfl hc17 (zau (q := 3) zbb rfl ti24 rfl rfl rfl ?_)
     refine zaz rfl rfl hc17 (zav (v := p_v3) zbr rfl rfl (hL15.at 0 rfl rfl) rfl ?_)
     refine zaz rfl rfl hc17 (zae (v := (zI (p.Max.length : Int))) rfl ?_)
     obtain ⟨r13, q31, h⟩ := zee h
     have f19 := ((((p_h3.mono (K4 S)).mono (K13 S)).mono (K14 S)).mono (K15 S))
     refine zaz rfl rfl hc17 (zbz en44 rfl rfl (rPairs_w N p.Same (p.Max.length : Int) p_v3 _ Any (f19.mono vw_any) r13 q31) ?_)
     rintro _ w16 hE13 ⟨rfl, -⟩
     obtain ⟨hL16, K16⟩ := zl hL15 hE13
     refine zag (zbn (t := r12) (v := (zac r13)) rfl hc17 rfl ?_)
     refine zag (zae (v := (zac r13)) rfl ?_)
     by_cases hc18 : r13 = true
     ·
      replace h := ite_t hc18 h
      refine zaz rfl rfl hc18 (zau (q := 4) zbb rfl ti24 rfl rfl rfl ?_)
      refine zaz rfl rfl hc18 (zav (v := p_v4) zbr rfl rfl (hL16.at 0 rfl rfl) rfl ?_)
      refine zaz rfl rfl hc18 (zae (v := (zI (p.Max.length : Int))) rfl ?_)
      obtain ⟨r14, q32, h⟩ := zee h
      have f20 := (((((p_h4.mono (K4 S)).mono (K13 S)).mono (K14 S)).mono (K15 S)).mono (K16 S))
      refine zaz rfl rfl hc18 (zbz en44 rfl rfl (rPairs_w N p.Different (p.Max.length : Int) p_v4 _ Any (f20.mono vw_any) r14 q32) ?_)
      rintro _ w17 hE14 ⟨rfl, -⟩
      have hL17 := hL16.ext hE14
      refine zag (zbn (t := r13) (v := (zac r14)) rfl hc18 rfl ?_)
      refine zag (zaj (v := (zac r14)) rfl ?_)
      refine zaq (zbt ?_)
      obtain rfl := zad h
      refine ⟨[(zac r14)], zrt, ⟨_, rfl, hL17.done, ?_⟩⟩
      exact zrt
     replace h := ite_f hc18 h
     refine zbg rfl rfl (zeg hc18) (zbg rfl rfl (zeg hc18) (zbg rfl rfl (zeg hc18) (zbg rfl rfl (zeg hc18) ?_)))
     refine zag (zbh (t := r13) (v := zF) rfl (zeg hc18) rfl ?_)
     refine zag (zaj (v := zF) rfl ?_)
     refine zaq (zbt ?_)
     obtain rfl := zad h
     refine ⟨[zF], zrt, ⟨_, rfl, hL16.done, ?_⟩⟩
     exact zrt
    replace h := ite_f hc17 h
    refine zbg rfl rfl (zeg hc17) (zbg rfl rfl (zeg hc17) (zbg rfl rfl (zeg hc17) (zbg rfl rfl (zeg hc17) ?_)))
    refine zag (zbh (t := r12) (v := zF) rfl (zeg hc17) rfl ?_)
    refine zag (zae (v := zF) rfl ?_)
    refine zbg rfl rfl rfl (zbg rfl rfl rfl (zbg rfl rfl rfl (zbg rfl rfl rfl ?_)))
    refine zag (zbh (t := false) (v := zF) rfl rfl rfl ?_)
    refine zag (zaj (v := zF) rfl ?_)
    refine zaq (zbt ?_)
    obtain rfl := zad h
    refine ⟨[zF], zrt, ⟨_, rfl, hL15.done, ?_⟩⟩
    exact zrt
   replace h := ite_f hc16 h
   refine zbg rfl rfl (zeg hc16) (zbg rfl rfl (zeg hc16) (zbg rfl rfl (zeg hc16) ?_))
   refine zag (zbh (t := r11) (v := zF) rfl (zeg hc16) rfl ?_)
   refine zag (zae (v := zF) rfl ?_)
   refine zbg rfl rfl rfl (zbg rfl rfl rfl (zbg rfl rfl rfl (zbg rfl rfl rfl ?_)))
   refine zag (zbh (t := false) (v := zF) rfl rfl rfl ?_)
   refine zag (zae (v := zF) rfl ?_)
   refine zbg rfl rfl rfl (zbg rfl rfl rfl (zbg rfl rfl rfl (zbg rfl rfl rfl ?_)))
   refine zag (zbh (t := false) (v := zF) rfl rfl rfl ?_)
   refine zag (zaj (v := zF) rfl ?_)
   refine zaq (zbt ?_)
   obtain rfl := zad h
   refine ⟨[zF], zrt, ⟨_, rfl, hL14.done, ?_⟩⟩
   exact zrt
  replace h := ite_f hc15 h
  refine zbg rfl rfl (zec hc15) (zbg rfl rfl (zec hc15) (zbg rfl rfl (zec hc15) ?_))
  refine zag (zbh (t := (decide (((p.Max.length : Int) : Int) ≤ 128))) (v := zF) rfl (zec hc15) rfl ?_)
  refine zag (zae (v := zF) rfl ?_)
  refine zbg rfl rfl rfl (zbg rfl rfl rfl (zbg rfl rfl rfl ?_))
  refine zag (zbh (t := false) (v := zF) rfl rfl rfl ?_)
  refine zag (zae (v := zF) rfl ?_)
  refine zbg rfl rfl rfl (zbg rfl rfl rfl (zbg rfl rfl rfl (zbg rfl rfl rfl ?_)))
  refine zag (zbh (t := false) (v := zF) rfl rfl rfl ?_)
  refine zag (zae (v := zF) rfl ?_)
  refine zbg rfl rfl rfl (zbg rfl rfl rfl (zbg rfl rfl rfl (zbg rfl rfl rfl ?_)))
  refine zag (zbh (t := false) (v := zF) rfl rfl rfl ?_)
  refine zag (zaj (v := zF) rfl ?_)
  refine zaq (zbt ?_)
  obtain rfl := zad h
  refine ⟨[zF], zrt, ⟨_, rfl, hL13.done, ?_⟩⟩
  exact zrt
 replace h := ite_f hc14 h
 refine zbg rfl rfl (zec hc14) (zbg rfl rfl (zec hc14) ?_)
 refine zag (zbh (t := (decide (((p.Min.length : Int) : Int) = (p.Max.length : Int)))) (v := zF) rfl (zec hc14) rfl ?_)
 refine zag (zae (v := zF) rfl ?_)
 refine zbg rfl rfl rfl (zbg rfl rfl rfl (zbg rfl rfl rfl ?_))
 refine zag (zbh (t := false) (v := zF) rfl rfl rfl ?_)
 refine zag (zae (v := zF) rfl ?_)
 refine zbg rfl rfl rfl (zbg rfl rfl rfl (zbg rfl rfl rfl ?_))
 refine zag (zbh (t := false) (v := zF) rfl rfl rfl ?_)
 refine zag (zae (v := zF) rfl ?_)
 refine zbg rfl rfl rfl (zbg rfl rfl rfl (zbg rfl rfl rfl (zbg rfl rfl rfl ?_)))
 refine zag (zbh (t := false) (v := zF) rfl rfl rfl ?_)
 refine zag (zae (v := zF) rfl ?_)
 refine zbg rfl rfl rfl (zbg rfl rfl rfl (zbg rfl rfl rfl (zbg rfl rfl rfl ?_)))
 refine zag (zbh (t := false) (v := zF) rfl rfl rfl ?_)
 refine zag (zaj (v := zF) rfl ?_)
 refine zaq (zbt ?_)
 obtain rfl := zad h
 refine ⟨[zF], zrt, ⟨_, rfl, hL13.done, ?_⟩⟩
 exact zrt
theorem rLeaders_w (N : Nat) (p : TProb) (p_v : Value) (p_v1 : Value) (p_v2 : Value) (p_v3 : Value) (p_v4 : Value) (w : World) (S : Nat → Prop) (p_h : Rs rI (vH w S [] w) p_v p.Min) (p_h1 : Rs rI (vH w S [] w) p_v1 p.Max) (p_h2 : Rs rTTest (vH w S [] w) p_v2 p.Tests) (p_h3 : Rs rArr2Int (vH w S [] w) p_v3 p.Same) (p_h4 : Rs rArr2Int (vH w S [] w) p_v4 p.Different) (r : (List Int)) (h : rLeaders N p = some r) :
  Calls Try.prog 41 #[(zbq #[p_v, p_v1, p_v2, p_v3, p_v4])] w (Ret w (fun v w' => ∃ (ob0 : Option Nat) (cap0 : Nat) (cs0 : List Value) (sp0 : List Value), (osv ob0 0 r.length cap0) = v ∧ NewOwn w w' [ob0] [zab ([] ++ (cs0 ++ sp0))] ∧ Els rI (vH w None [ob0] w') cs0 r ∧ (cs0 ++ sp0).length = cap0 * rI.sz ∧ True)) := by
 unfold rLeaders at h
 have hL : vL w w [] [] := Go.X.Loc.begin0 w
 refine calls_of (l := [(zbq #[p_v, p_v1, p_v2, p_v3, p_v4])]) (rl := [.tmp 2]) (n := 65) Try.func41 rfl rfl rfl (zai rfl) ?_
 refine zal (zah rfl (zag (zdp (cs := [p_v, p_v1, p_v2, p_v3, p_v4]) rfl rfl hL ?_)))
 intro b1 w2 hL3 hS5
 have K4 := ks w hS5
 refine zag (zaj (v := zN) rfl ?_)
 refine zaq (zal (zah rfl (zag (zdx zao ti3 hL3 ?_))))
 intro b6 w10 hL10 hS10
 have hE10 : Els rI (vH w None [some b1] w2) [] [] := zcm
 have K10 := ks w hS10
 refine zag (zaj (v := (osv (some b6) 0 (List.length ([] : (List Int))) 0)) rfl ?_)
 refine zaq (zal (zal (zah rfl (zag (zaj (v := (zI 0)) rfl (zaq ?_))))))
 obtain ⟨s10, hl10, g10⟩ := zee h
 refine zbs (fun e w' => ∃ (out10 : (List Int)) (ob10 : Option Nat) (cap10 : Nat) (sp10 : List Value) (cs10 : List Value) (ln10 : Nat) (u : Env), out10 = s10 ∧ e = upds [(1, (zam (some ⟨b1, 0, none⟩))), (3, (osv ob10 0 ln10 cap10))] u ∧ vL w w' [some b1, ob10] [zab [p_v, p_v1, p_v2, p_v3, p_v4], zab ([] ++ (cs10 ++ sp10))] ∧ Keep w.heap.size [some b6, some b1] w10 [some b1, ob10] w' ∧ Els rI (vH w None [some b1, ob10] w') cs10 out10 ∧ ln10 = List.length out10 ∧ (cs10 ++ sp10).length = cap10 * rI.sz ∧ True) ?_ ?_
 ·
  refine zbc ?_
  have hp10 := hL10.pick [1, 0] rfl rfl rfl
  have hL11 : vL w w10 [some b1, some b6] [zab [p_v, p_v1, p_v2, p_v3, p_v4], zab ([] ++ ([] ++ []))] := hp10.1
  have K11 := ks w hp10.2
  have f10 := ((hE10.mono (K10 None)).mono (K11 None))
  refine zbw hl10 (fun (ss : ((List Int) × Int)) (e : Env) (w' : World) => match ss with | (out11, i10) => ∃ (ob11 : Option Nat) (cap11 : Nat) (sp11 : List Value) (cs11 : List Value) (ln11 : Nat) (u : Env), e = upds [(1, (zam (some ⟨b1, 0, none⟩))), (3, (osv ob11 0 ln11 cap11)), (4, (zI i10))] u ∧ vL w w' [some b1, ob11] [zab [p_v, p_v1, p_v2, p_v3, p_v4], zab ([] ++ (cs11 ++ sp11))] ∧ Keep w.heap.size [some b6, some b1] w10 [some b1, ob11] w' ∧ Els rI (vH w None [some b1, ob11] w') cs11 out11 ∧ ln11 = List.length out11 ∧ (cs11 ++ sp11).length = cap11 * rI.sz ∧ True) ⟨some b6, 0, [], [], (List.length ([] : (List Int))), _, (zef ⟨rfl, rfl, rfl, trivial⟩), hL11, K11, f10, rfl, (show ([] ++ [] : List Value).length = 0 * rI.sz by simp), trivial⟩ ?_
  rintro ⟨out11, i10⟩ oo _ w11 ⟨ob11, cap11, sp11, cs11, ln11, u, rfl, hL12, K12, hE11, rfl, hc10, -⟩ h hd10
  rw [rLeaders_b1] at h
  refine zal (zal (zah rfl (zag (zae (v := (zI i10)) rfl ?_))))
  refine zag (zau (q := 1) zbb rfl ti22 rfl rfl rfl ?_)
  refine zag (zav (v := p_v1) zao rfl rfl (hL12.at 0 rfl rfl) rfl ?_)
  have f11 := (((p_h1.mono (K4 S)).mono (K10 S)).mono (K12 S))
  refine zag (zcf (v := p_v1) zao rfl f11 ?_)
  refine zag (zcg (x := i10) (y := (p.Max.length : Int)) ((i10 : Int) < (p.Max.length : Int)) rfl rfl zbi (zaq ?_))
  refine zbj ((i10 : Int) < (p.Max.length : Int)) rfl (fun hc11 => ?_) (fun hc11 => ?_)
  ·
   replace h := ite_t hc11 h
   refine zbl (zal (zbc (zah rfl (zag (zae (v := (osv ob11 0 out11.length cap11)) rfl ?_)))))
   refine zag (zae (v := (zI i10)) rfl ?_)
   have hE12 : Els rI (vH w None [some b1, ob11] w11) [(zI i10)] [i10] := (zcp (a := [(zI i10)]) rfl zcm)
   refine zag (zcl (r := rI) (vs := [(zI i10)]) (css := [[(zI i10)]]) (xs := [i10]) zao ti3 (zai rfl) rfl rfl ⟨rfl, rfl, trivial⟩ (zai rfl) hE12 rfl hL12 ?_)
   intro b10 w12 hc12 hL13 hS11
   have K13 := ks w hS11
   obtain ⟨x10, q10, h⟩ := zee h
   obtain ⟨q11, q12, q13⟩ := zer q10
   have f12 := (hE12.mono (K13 None))
   have f13 := (hE11.mono (K13 None))
   refine zag (zcx (r := rI) (H := (vH w None [some b10, some b1, ob11] w12)) (cs := cs11) (sp := sp11) (xs := out11) (ys := [i10]) (Y := x10) (n := out11.length) (cap := cap11) (i := 2) zao ti3 rfl rfl rfl rfl hL13 rfl rfl f13 rfl hc10 (zdw (pre := []) (o := 0) (n := 1) (cap := 1) (hL13.at 0 rfl rfl) f12 rfl rfl rfl) (zci (fun _ _ _ _ h => h) f12) q11 q12 q13 ?_)
   intro ob12 cap12 sp12 cs12 w13 hE13 hc13 (hL14 : vL w w13 [some b10, some b1, ob12] [zab ([] ++ ([(zI i10)] ++ [])), zab [p_v, p_v1, p_v2, p_v3, p_v4], zab ([] ++ (cs12 ++ sp12))]) hS12
   have K14 := ks w hS12
   refine zag (zaj (v := (osv ob12 0 x10.length cap12)) rfl ?_)
   refine zaq (zbf (zah rfl (zag (zae (v := (zI i10)) rfl ?_))))
   refine zag (zbx (x := i10) (y := 1) (z := (iw (i10 + 1))) rfl rfl rfl ?_)
   refine zag (zaj (v := (zI (iw (i10 + 1)))) rfl (zaq ?_))
   have hp11 := hL14.pick [1, 2] rfl rfl rfl
   have hL15 : vL w w13 [some b1, ob12] [zab [p_v, p_v1, p_v2, p_v3, p_v4], zab ([] ++ (cs12 ++ sp12))] := hp11.1
   have K15 := ks w hp11.2
   have f14 := ((hE13.mono (K14 None)).mono (K15 None))
   obtain rfl := zad h
   refine zap ⟨(x10, (iw (i10 + 1))), rfl, ?_⟩
   exact ⟨ob12, cap12, sp12, cs12, x10.length, _, (zef ⟨rfl, rfl, rfl, trivial⟩), hL15, (zak (zak (zak K12 K13) K14) K15), f14, rfl, hc13, trivial⟩
  replace h := ite_f hc11 h
  refine zca rfl ?_
  obtain rfl := zad h
  obtain rfl := hd10 _ rfl
  replace h := g10
  try dsimp only at h
  refine zap ?_
  exact ⟨out11, ob11, cap11, sp11, cs11, out11.length, _, rfl, (zef ⟨rfl, rfl, trivial⟩), hL12, K12, hE11, rfl, hc10, trivial⟩
 rintro _ w14 ⟨out10, ob10, cap10, sp10, cs10, ln10, u, rfl, rfl, hL16, K16, hE14, rfl, hc14, -⟩
 replace h := g10
 try dsimp only at h
 refine zal (zal (zah rfl (zag (zaj (v := (zI 0)) rfl (zaq ?_)))))
 obtain ⟨s11, hl11, g11⟩ := zee h
 refine zbs (fun e w' => ∃ (out12 : (List Int)) (cs13 : List Value) (u : Env), out12 = s11 ∧ e = upds [(3, (osv ob10 0 out10.length cap10))] u ∧ vL w w' [ob10] [zab ([] ++ (cs13 ++ sp10))] ∧ Keep w.heap.size [some b1, ob10] w14 [ob10] w' ∧ Els rI (vH w None [ob10] w') cs13 out12 ∧ out10.length = List.length out12 ∧ (cs13 ++ sp10).length = cap10 * rI.sz ∧ True) ?_ ?_
 ·
  refine zbc ?_
  refine zbw hl11 (fun (ss : ((List Int) × Int)) (e : Env) (w' : World) => match ss with | (out13, round10) => ∃ (cs14 : List Value) (u : Env), e = upds [(1, (zam (some ⟨b1, 0, none⟩))), (3, (osv ob10 0 out10.length cap10)), (5, (zI round10))] u ∧ vL w w' [some b1, ob10] [zab [p_v, p_v1, p_v2, p_v3, p_v4], zab ([] ++ (cs14 ++ sp10))] ∧ Keep w.heap.size [some b1, ob10] w14 [some b1, ob10] w' ∧ Els rI (vH w None [some b1, ob10] w') cs14 out13 ∧ out10.length = List.length out13 ∧ (cs14 ++ sp10).length = cap10 * rI.sz ∧ True) ⟨cs10, _, (zef ⟨rfl, rfl, rfl, trivial⟩), hL16, zbp, hE14, rfl, hc14, trivial⟩ ?_
  rintro ⟨out13, round10⟩ oo _ w15 ⟨cs14, u, rfl, hL17, K17, hE15, hl12, hc15, -⟩ h hd11
  rw [rLeaders_b2] at h
  refine zal (zal (zah rfl (zag (zae (v := (zI round10)) rfl ?_))))
  refine zag (zae (v := (osv ob10 0 out10.length cap10)) rfl ?_)
  refine zag (zcj (pre := []) (r := rI) (xs := out13) zao rfl (hL17.at 1 rfl rfl) hE15 rfl hl12 ?_)
  refine zag (zcg (x := round10) (y := (out13.length : Int)) ((round10 : Int) < (out13.length : Int)) rfl rfl zbi (zaq ?_))
  refine zbj ((round10 : Int) < (out13.length : Int)) rfl (fun hc16 => ?_) (fun hc16 => ?_)
  ·
   replace h := ite_t hc16 h
   refine zbl (zal (zbc (zal (zah rfl (zag (zaj (v := (zI 0)) rfl (zaq ?_)))))))
   obtain ⟨s12, hl13, g12⟩ := zee h
   refine zbs (fun e w' => ∃ (out14 : (List Int)) (cs15 : List Value) (u : Env), out14 = s12 ∧ e = upds [(1, (zam (some ⟨b1, 0, none⟩))), (3, (osv ob10 0 out10.length cap10)), (5, (zI round10))] u ∧ vL w w' [some b1, ob10] [zab [p_v, p_v1, p_v2, p_v3, p_v4], zab ([] ++ (cs15 ++ sp10))] ∧ Keep w.heap.size [some b1, ob10] w15 [some b1, ob10] w' ∧ Els rI (vH w None [some b1, ob10] w') cs15 out14 ∧ out10.length = List.length out14 ∧ (cs15 ++ sp10).length = cap10 * rI.sz ∧ True) ?_ ?_
   ·
    refine zbc ?_
    refine zbw hl13 (fun (ss : ((List Int) × Int)) (e : Env) (w' : World) => match ss with | (out15, i11) => ∃ (cs16 : List Value) (u : Env), e = upds [(1, (zam (some ⟨b1, 0, none⟩))), (3, (osv ob10 0 out10.length cap10)), (5, (zI round10)), (6, (zI i11))] u ∧ vL w w' [some b1, ob10] [zab [p_v, p_v1, p_v2, p_v3, p_v4], zab ([] ++ (cs16 ++ sp10))] ∧ Keep w.heap.size [some b1, ob10] w15 [some b1, ob10] w' ∧ Els rI (vH w None [some b1, ob10] w') cs16 out15 ∧ out10.length = List.length out15 ∧ (cs16 ++ sp10).length = cap10 * rI.sz ∧ True) ⟨cs14, _, (zef ⟨rfl, rfl, rfl, rfl, trivial⟩), hL17, zbp, hE15, hl12, hc15, trivial⟩ ?_
    rintro ⟨out15, i11⟩ oo _ w16 ⟨cs16, u, rfl, hL18, K18, hE16, hl14, hc17, -⟩ h hd12
    rw [rLeaders_b3] at h
    refine zal (zal (zah rfl (zag (zae (v := (zI i11)) rfl ?_))))
    refine zag (zau (q := 3) zbb rfl ti24 rfl rfl rfl ?_)
    refine zag (zav (v := p_v3) zbr rfl rfl (hL18.at 0 rfl rfl) rfl ?_)
    have f15 := (((((p_h3.mono (K4 S)).mono (K10 S)).mono (K16 S)).mono (K17 S)).mono (K18 S))
    refine zag (zcf (v := p_v3) zbr rfl f15 ?_)
    refine zag (zcg (x := i11) (y := (p.Same.length : Int)) ((i11 : Int) < (p.Same.length : Int)) rfl rfl zbi (zaq ?_))
    refine zbj ((i11 : Int) < (p.Same.length : Int)) rfl (fun hc18 => ?_) (fun hc18 => ?_)
    ·
     replace h := ite_t hc18 h
     refine zbl (zal (zbc (zal ?_)))
     obtain ⟨x11, n10, q15, q16, -, h⟩ := zix h
     obtain ⟨b11, o10, c10, vs10, q17, q18, f16, q19⟩ := zdc f15 q16
     obtain ⟨rfl, -⟩ := rArr2Int_open q19
     have f17 := (f16.part (us := [(zI x11.e0)]) 0 rfl)
     obtain ⟨x12, n11, q21, q22, -, h⟩ := zix h
     obtain ⟨b12, o11, c11, vs11, q23, q24, f18, q25⟩ := zdc f15 q22
     obtain ⟨rfl, -⟩ := rArr2Int_open q25
     have f19 := (f18.part (us := [(zI x12.e1)]) 1 rfl)
     refine zcy 13 [] [] (fun W1 => [.det (zam (some ⟨b1, 3, none⟩)), .det p_v3, .det (zI i11), .det (zam (some ⟨b11, (o10 + n10 * rArr2Int.sz), none⟩)), .det (zam (some ⟨b11, (o10 + n10 * rArr2Int.sz) + 0, none⟩)), .det (zI x11.e0), .det (zam (some ⟨b1, 3, none⟩)), .det p_v3, .det (zI i11), .det (zam (some ⟨b12, (o11 + n11 * rArr2Int.sz), none⟩)), .det (zam (some ⟨b12, (o11 + n11 * rArr2Int.sz) + 1, none⟩)), .det (zI x12.e1), .det (zI x11.e0)]) mixed rfl rfl rfl (fun _ => rfl) (fun _ => rfl) ?_ ?_
     ·
      intro W1 _
      exact trivial
     intro w17 hE17
     obtain ⟨hL19, K19⟩ := zl hL18 hE17
     refine zay (fun _ _ => zar (zau zbb rfl ti24 rfl rfl rfl (er rfl))) ?_
     refine zay (fun _ hE19 => zar (zav zbr rfl rfl ((hL19.ext hE19).at 0 rfl rfl) rfl (er rfl))) ?_
     refine zay (fun _ _ => zar (zae rfl (er rfl))) ?_
     refine zay (fun _ _ => zar (zby (r := rArr2Int) (v := p_v3) (n := n10) (m := (o10 + n10 * rArr2Int.sz)) zbr ti45 rfl q17 rfl q15 q16 rfl (er rfl))) ?_
     refine zay (fun _ _ => zar (zcs (i := 0) (q := (o10 + n10 * rArr2Int.sz) + 0) zcc ti3 rfl rfl (by decide) rfl (er rfl))) ?_
     refine zay (fun _ hE23 => zar (zce zaw rfl rfl zel (zcw ((ke hL19 hE23) S) (zcw (K19 S) f17)) (er rfl))) ?_
     refine zay (fun _ _ => zar (zau zbb rfl ti24 rfl rfl rfl (er rfl))) ?_
     refine zay (fun _ hE25 => zar (zav zbr rfl rfl ((hL19.ext hE25).at 0 rfl rfl) rfl (er rfl))) ?_
     refine zay (fun _ _ => zar (zae rfl (er rfl))) ?_
     refine zay (fun _ _ => zar (zby (r := rArr2Int) (v := p_v3) (n := n11) (m := (o11 + n11 * rArr2Int.sz)) zbr ti45 rfl q23 rfl q21 q22 rfl (er rfl))) ?_
     refine zay (fun _ _ => zar (zcs (i := 1) (q := (o11 + n11 * rArr2Int.sz) + 1) zcc ti3 rfl rfl (by decide) rfl (er rfl))) ?_
     refine zay (fun _ hE29 => zar (zce zaw rfl rfl zel (zcw ((ke hL19 hE29) S) (zcw (K19 S) f19)) (er rfl))) ?_
     refine zay (fun _ _ => zar (zaj rfl (er rfl))) ?_
     refine zdh ?_
     rintro w31 Z32 hE31 hZ23 ⟨-⟩ ap10
     have hB10 := @zhb w17 Z32
     obtain ⟨hL22, K22⟩ := zl hL19 hE31
     refine zag (zaj (v := (zI x12.e1)) rfl ?_)
     refine zaq (zal ?_)
     obtain ⟨x13, n12, q27, q28, q29, h⟩ := zix h
     have f20 := ((hE16.mono (K19 None)).mono (K22 None))
     obtain ⟨b13, hb10⟩ := hL22.row_some 1 rfl rfl (zev (pre := []) f20 q28 (Nat.lt_of_sub_eq_succ rfl))
     obtain ⟨vs12, q30, q31, q32⟩ := zeo (pre := []) (sp := sp10) f20 q28
     obtain rfl := q31
     obtain ⟨x14, n13, q34, q35, q36, h⟩ := zix h
     obtain ⟨vs13, q37, q38, q39⟩ := zeo (pre := []) (sp := sp10) f20 q35
     obtain rfl := q38
     refine zcy 8 [] [] (fun W1 => [.det (osv ob10 0 out10.length cap10), .det (zI x11.e0), .det (zam (some ⟨b13, (0 + n12 * rI.sz), none⟩)), .det (zI x13), .det (osv ob10 0 out10.length cap10), .det (zI x12.e1), .det (zam (some ⟨b13, (0 + n13 * rI.sz), none⟩)), .det (zI x14)]) mixed rfl rfl rfl (fun _ => rfl) (fun _ => rfl) ?_ ?_
     ·
      intro W1 _
      exact trivial
     intro w32 hE32
     obtain ⟨hL23, K23⟩ := zl hL22 hE32
     refine zay (fun _ _ => zar (zae rfl (er rfl))) ?_
     refine zay (fun _ _ => zar (zae rfl (er rfl))) ?_
     refine zay (fun _ _ => zar (zbe (r := rI) (b := b13) (o := 0) (n := n12) (m := out10.length) (xs := out15) (q := (0 + n12 * rI.sz)) zao ti3 (zem hb10) hl14 rfl q27 q29 rfl (er rfl))) ?_
     refine zay (fun _ hE36 => zar (zbu zaw rfl rfl (zeq hb10 ((hL23.ext hE36).at 1 rfl rfl)) q32 (er rfl))) ?_
     refine zay (fun _ _ => zar (zae rfl (er rfl))) ?_
     refine zay (fun _ _ => zar (zae rfl (er rfl))) ?_
     refine zay (fun _ _ => zar (zbe (r := rI) (b := b13) (o := 0) (n := n13) (m := out10.length) (xs := out15) (q := (0 + n13 * rI.sz)) zao ti3 (zem hb10) hl14 rfl q34 q36 rfl (er rfl))) ?_
     refine zay (fun _ hE40 => zar (zbu zaw rfl rfl (zeq hb10 ((hL23.ext hE40).at 1 rfl rfl)) q39 (er rfl))) ?_
     refine zdh ?_
     rintro w41 Z41 hE41 hZ32 ⟨-⟩ ap11
     have hB11 := @zhb w32 Z41
     obtain ⟨hL26, K24⟩ := zl hL23 hE41
     refine zag (OpY.min (x := x13) (y := x14) rfl rfl ?_)
     refine zag (zaj (v := (zI (imin x13 x14))) rfl ?_)
     refine zaq (zah rfl (zag (zae (v := (osv ob10 0 out10.length cap10)) rfl ?_)))
     refine zag (zae (v := (zI x11.e0)) rfl ?_)
     refine zag (zae (v := (osv ob10 0 out10.length cap10)) rfl ?_)
     refine zag (zae (v := (zI x12.e1)) rfl ?_)
     refine zag (zae (v := (zI (imin x13 x14))) rfl ?_)
     refine zag (zae (v := (zI (imin x13 x14))) rfl ?_)
     obtain ⟨x15, n14, q41, q42, q43, h⟩ := zix h
     refine zag (zbe (r := rI) (b := b13) (o := 0) (n := n14) (m := out10.length) (xs := out15) (q := (0 + n14 * rI.sz)) zao ti3 (zem hb10) hl14 rfl q41 q43 rfl ?_)
     obtain ⟨x16, n15, q45, q46, q47, h⟩ := zux h
     obtain rfl := zin q41 q45
     have f21 := ((f20.mono (K23 None)).mono (K24 None))
     refine zdj (zdd (pre := []) (r := rI) (vs := [(zI (imin x13 x14))]) (a := (imin x13 x14)) ti3 rfl rfl rfl rfl hL26 1 (congrArg some hb10) rfl f21 q43 rfl q47 ?_)
     have hl15 : out10.length = List.length x16 := by rw [q47, List.length_set]; exact hl14
     intro w42 cs17 (hL27 : vL w w42 [some b1, ob10] [zab [p_v, p_v1, p_v2, p_v3, p_v4], zab ([] ++ (cs17 ++ sp10))]) hS13 hE42 q48
     have hc19 : (cs17 ++ sp10).length = cap10 * rI.sz := zhc hc17 q48
     have K25 := ks w hS13
     obtain ⟨x17, n16, q50, q51, q52, h⟩ := zix h
     refine zag (zbe (r := rI) (b := b13) (o := 0) (n := n16) (m := out10.length) (xs := x16) (q := (0 + n16 * rI.sz)) zao ti3 (zem hb10) hl15 rfl q50 q52 rfl ?_)
     obtain ⟨x18, n17, q54, q55, q56, h⟩ := zux h
     obtain rfl := zin q50 q54
     have f22 := (hE42.mono (K25 None))
     refine zdj (zdd (pre := []) (r := rI) (vs := [(zI (imin x13 x14))]) (a := (imin x13 x14)) ti3 rfl rfl rfl rfl hL27 1 (congrArg some hb10) rfl f22 q52 rfl q56 ?_)
     have hl16 : out10.length = List.length x18 := by rw [q56, List.length_set]; exact hl15
     intro w43 cs18 (hL28 : vL w w43 [some b1, ob10] [zab [p_v, p_v1, p_v2, p_v3, p_v4], zab ([] ++ (cs18 ++ sp10))]) hS14 hE43 q57
     have hc20 : (cs18 ++ sp10).length = cap10 * rI.sz := zhc hc19 q57
     have K26 := ks w hS14
     refine zaq (zbf (zah rfl (zag (zae (v := (zI i11)) rfl ?_))))
     refine zag (zbx (x := i11) (y := 1) (z := (iw (i11 + 1))) rfl rfl rfl ?_)
     refine zag (zaj (v := (zI (iw (i11 + 1)))) rfl (zaq ?_))
     have f23 := (hE43.mono (K26 None))
     obtain rfl := zad h
     refine zap ⟨(x18, (iw (i11 + 1))), rfl, ?_⟩
     exact ⟨cs18, _, (zef ⟨rfl, rfl, rfl, rfl, trivial⟩), hL28, (zak (zak (zak (zak (zak (zak K18 K19) K22) K23) K24) K25) K26), f23, hl16, hc20, trivial⟩
    replace h := ite_f hc18 h
    refine zca rfl ?_
    obtain rfl := zad h
    obtain rfl := hd12 _ rfl
    replace h := g12
    try dsimp only at h
    refine zap ?_
    exact ⟨out15, cs16, _, rfl, (zef ⟨rfl, rfl, rfl, trivial⟩), hL18, K18, hE16, hl14, hc17, trivial⟩
   rintro _ w44 ⟨out14, cs15, u, rfl, rfl, hL29, K27, hE44, hl17, hc21, -⟩
   replace h := g12
   try dsimp only at h
   refine zbf (zah rfl (zag (zae (v := (zI round10)) rfl ?_)))
   refine zag (zbx (x := round10) (y := 1) (z := (iw (round10 + 1))) rfl rfl rfl ?_)
   refine zag (zaj (v := (zI (iw (round10 + 1)))) rfl (zaq ?_))
   obtain rfl := zad h
   refine zap ⟨(out14, (iw (round10 + 1))), rfl, ?_⟩
   exact ⟨cs15, _, (zef ⟨rfl, rfl, rfl, trivial⟩), hL29, (zak K17 K27), hE44, hl17, hc21, trivial⟩
  replace h := ite_f hc16 h
  refine zca rfl ?_
  have hp12 := hL17.pick [1] rfl rfl rfl
  have hL30 : vL w w15 [ob10] [zab ([] ++ (cs14 ++ sp10))] := hp12.1
  have K28 := ks w hp12.2
  have f24 := (hE15.mono (K28 None))
  obtain rfl := zad h
  obtain rfl := hd11 _ rfl
  replace h := g11
  try dsimp only at h
  refine zap ?_
  exact ⟨out13, cs14, _, rfl, (zef zrt), hL30, (zak K17 K28), f24, hl12, hc15, trivial⟩
 rintro _ w45 ⟨out12, cs13, u, rfl, rfl, hL31, K29, hE45, hl18, hc22, -⟩
 replace h := g11
 try dsimp only at h
 refine zal (zah rfl (zag (zae (v := (osv ob10 0 out10.length cap10)) rfl ?_)))
 refine zag (zaj (v := (osv ob10 0 out10.length cap10)) rfl ?_)
 refine zaq (zbt ?_)
 obtain rfl := zad h
 refine ⟨[(osv ob10 0 out10.length cap10)], zrt, ⟨_, rfl, hL31.done, ?_⟩⟩
 exact ⟨ob10, cap10, cs13, sp10, (by rw [← hl18]; rfl), (hL31.newOwn [0] rfl rfl rfl), (hE45.mono (zdy [0] rfl)), hc22, trivial⟩
theorem rClasses_w (N : Nat) (p : TProb) (p_v : Value) (p_v1 : Value) (p_v2 : Value) (p_v3 : Value) (p_v4 : Value) (w : World) (S : Nat → Prop) (p_h : Rs rI (vH w S [] w) p_v p.Min) (p_h1 : Rs rI (vH w S [] w) p_v1 p.Max) (p_h2 : Rs rTTest (vH w S [] w) p_v2 p.Tests) (p_h3 : Rs rArr2Int (vH w S [] w) p_v3 p.Same) (p_h4 : Rs rArr2Int (vH w S [] w) p_v4 p.Different) (r : (List (List Int))) (h : rClasses N p = some r) :
  Calls Try.prog 21 #[(zbq #[p_v, p_v1, p_v2, p_v3, p_v4])] w (Ret w (fun v w' => ∃ (ob0 : Option Nat) (cap0 : Nat) (cs0 : List Value) (sp0 : List Value), (zO ob0 r cap0) = v ∧ NewOwn w w' [ob0] [zab ([] ++ (cs0 ++ sp0))] ∧ Els (rSl rI) (vH w None [ob0] w') cs0 r ∧ (cs0 ++ sp0).length = cap0 * (rSl rI).sz ∧ True)) := by
 unfold rClasses at h
 have hL : vL w w [] [] := Go.X.Loc.begin0 w
 refine calls_of (l := [(zbq #[p_v, p_v1, p_v2, p_v3, p_v4])]) (rl := [.tmp 2]) (n := 45) Try.func21 rfl rfl rfl (zai rfl) ?_
 refine zal (zah rfl (zag (zdp (cs := [p_v, p_v1, p_v2, p_v3, p_v4]) rfl rfl hL ?_)))
 intro b1 w2 hL3 hS5
 have K4 := ks w hS5
 refine zag (zaj (v := zN) rfl ?_)
 refine zaq (zal (zah rfl (zag (zdx zdb ti22 hL3 ?_))))
 intro b6 w10 hL10 hS10
 have hE10 : Els (rSl rI) (vH w None [some b1] w2) [] [] := zcm
 have K10 := ks w hS10
 refine zag (zaj (v := (osv (some b6) 0 (List.length ([] : (List (List Int)))) 0)) rfl ?_)
 refine zaq (zal (zah rfl (zag (zct (vs := [p_v, p_v1, p_v2, p_v3, p_v4]) zbb rfl ti26 rfl (hL10.at 1 rfl rfl) rfl rfl ?_))))
 obtain ⟨r10, q10, h⟩ := zee h
 have f10 := ((p_h.mono (K4 S)).mono (K10 S))
 have f11 := ((p_h1.mono (K4 S)).mono (K10 S))
 have f12 := ((p_h2.mono (K4 S)).mono (K10 S))
 have f13 := ((p_h3.mono (K4 S)).mono (K10 S))
 have f14 := ((p_h4.mono (K4 S)).mono (K10 S))
 refine zag (zbz en41 rfl rfl (rLeaders_w N p p_v p_v1 p_v2 p_v3 p_v4 _ Any (f10.mono vw_any) (f11.mono vw_any) (f12.mono vw_any) (f13.mono vw_any) (f14.mono vw_any) r10 q10) ?_)
 rintro _ w11 hE11 ⟨ob10, cap10, cs10, sp10, rfl, hN10, hE12, hc10, -⟩
 replace hE12 := hE12.mono (zbv (S := None) hL10 [ob10])
 have hp10 := hL10.adoptL hE11 hN10
 have hL11 := hp10.1
 have K11 := ks w hp10.2
 refine zag (zaj (v := (zO ob10 r10 cap10)) rfl ?_)
 refine zaq (zal (zal (zah rfl (zag (zaj (v := (zI 0)) rfl (zaq ?_))))))
 obtain ⟨s10, hl10, g10⟩ := zee h
 refine zbs (fun e w' => ∃ (out10 : (List (List Int))) (ob11 : Option Nat) (cap11 : Nat) (sp11 : List Value) (cs11 : List Value) (ln10 : Nat) (u : Env), out10 = s10 ∧ e = upds [(3, (osv ob11 0 ln10 cap11))] u ∧ vL w w' [ob11] [zab ([] ++ (cs11 ++ sp11))] ∧ Keep w.heap.size [ob10, some b6, some b1] w11 [ob11] w' ∧ Els (rSl rI) (vH w None [ob11] w') cs11 out10 ∧ ln10 = List.length out10 ∧ (cs11 ++ sp11).length = cap11 * (rSl rI).sz ∧ True) ?_ ?_
 ·
  refine zbc ?_
  have hp11 := hL11.pick [1, 0] rfl rfl rfl
  have hL12 : vL w w11 [some b6, ob10] [zab ([] ++ ([] ++ [])), zab ([] ++ (cs10 ++ sp10))] := hp11.1
  have K12 := ks w hp11.2
  have f15 := (((hE10.mono (K10 None)).mono (K11 None)).mono (K12 None))
  refine zbw hl10 (fun (ss : ((List (List Int)) × Int)) (e : Env) (w' : World) => match ss with | (out11, i10) => ∃ (ob12 : Option Nat) (cap12 : Nat) (sp12 : List Value) (cs12 : List Value) (ln11 : Nat) (u : Env), e = upds [(3, (osv ob12 0 ln11 cap12)), (4, (zO ob10 r10 cap10)), (5, (zI i10))] u ∧ vL w w' [ob12, ob10] [zab ([] ++ (cs12 ++ sp12)), zab ([] ++ (cs10 ++ sp10))] ∧ Keep w.heap.size [ob10, some b6, some b1] w11 [ob12, ob10] w' ∧ Els (rSl rI) (vH w None [ob12, ob10] w') cs12 out11 ∧ ln11 = List.length out11 ∧ (cs12 ++ sp12).length = cap12 * (rSl rI).sz ∧ True) ⟨some b6, 0, [], [], (List.length ([] : (List (List Int)))), _, (zef ⟨rfl, rfl, rfl, trivial⟩), hL12, K12, f15, rfl, (show ([] ++ [] : List Value).length = 0 * (rSl rI).sz by simp), trivial⟩ ?_
  rintro ⟨out11, i10⟩ oo _ w12 ⟨ob12, cap12, sp12, cs12, ln11, u, rfl, hL13, K13, hE13, rfl, hc11, -⟩ h hd10
  rw [rClasses_b1] at h
  refine zal (zal (zah rfl (zag (zae (v := (zI i10)) rfl ?_))))
  refine zag (zae (v := (zO ob10 r10 cap10)) rfl ?_)
  have f16 := (hE12.mono (K13 None))
  refine zag (zcj (pre := []) (r := rI) (xs := r10) zao rfl (hL13.at 1 rfl rfl) f16 rfl rfl ?_)
  refine zag (zcg (x := i10) (y := (r10.length : Int)) ((i10 : Int) < (r10.length : Int)) rfl rfl zbi (zaq ?_))
  refine zbj ((i10 : Int) < (r10.length : Int)) rfl (fun hc12 => ?_) (fun hc12 => ?_)
  ·
   replace h := ite_t hc12 h
   refine zbl (zal (zbc (zal (zal (zah rfl (zag (zae (v := (zO ob10 r10 cap10)) rfl ?_)))))))
   refine zag (zae (v := (zI i10)) rfl ?_)
   obtain ⟨x10, n10, q12, q13, q14, h⟩ := zix h
   obtain ⟨b10, hb10⟩ := hL13.row_some 1 rfl rfl (zev (pre := []) f16 q13 (Nat.lt_of_sub_eq_succ rfl))
   refine zag (zbe (r := rI) (b := b10) (o := 0) (n := n10) (m := r10.length) (xs := r10) (q := (0 + n10 * rI.sz)) zao ti3 (zem hb10) rfl rfl q12 q14 rfl ?_)
   obtain ⟨vs10, q15, q16, q17⟩ := zeo (pre := []) (sp := sp10) f16 q13
   obtain rfl := q16
   refine zag (zbu (v := (zI x10)) zaw rfl rfl (zeq hb10 (hL13.at 1 rfl rfl)) q17 ?_)
   refine zag (zae (v := (zI i10)) rfl ?_)
   refine zag (OpY.neq (x := x10) (y := i10) ((x10 : Int) ≠ i10) rfl rfl zbi (zaq ?_))
   refine zbj ((x10 : Int) ≠ i10) rfl (fun hc13 => ?_) (fun hc13 => ?_)
   ·
    replace h := ite_t hc13 h
    refine zca rfl (zah rfl (zag (zae (v := (zI i10)) rfl ?_)))
    refine zag (zbx (x := i10) (y := 1) (z := (iw (i10 + 1))) rfl rfl rfl ?_)
    refine zag (zaj (v := (zI (iw (i10 + 1)))) rfl (zaq ?_))
    obtain rfl := zad h
    refine zap ⟨(out11, (iw (i10 + 1))), rfl, ?_⟩
    exact ⟨ob12, cap12, sp12, cs12, out11.length, _, (zef ⟨rfl, rfl, rfl, trivial⟩), hL13, K13, hE13, rfl, hc11, trivial⟩
   replace h := ite_f hc13 h
   refine zbl (zal (zah rfl (zag (zdx zao ti3 hL13 ?_))))
   intro b11 w13 hL14 hS11
   have hE14 : Els rI (vH w None [ob12, ob10] w12) [] [] := zcm
   have K14 := ks w hS11
   refine zag (zaj (v := (osv (some b11) 0 (List.length ([] : (List Int))) 0)) rfl ?_)
   refine zaq (zal (zal (zah rfl (zag (zaj (v := (zI 0)) rfl (zaq ?_))))))
   obtain ⟨s11, hl11, g11⟩ := zee h
   refine zbs (fun e w' => ∃ (vclass10 : (List Int)) (ob13 : Option Nat) (cap13 : Nat) (sp13 : List Value) (cs13 : List Value) (ln12 : Nat) (u : Env), vclass10 = s11 ∧ e = upds [(3, (zO ob12 out11 cap12)), (4, (zO ob10 r10 cap10)), (5, (zI i10)), (6, (osv ob13 0 ln12 cap13))] u ∧ vL w w' [ob12, ob10, ob13] [zab ([] ++ (cs12 ++ sp12)), zab ([] ++ (cs10 ++ sp10)), zab ([] ++ (cs13 ++ sp13))] ∧ Keep w.heap.size [some b11, ob12, ob10] w13 [ob12, ob10, ob13] w' ∧ Els rI (vH w None [ob12, ob10, ob13] w') cs13 vclass10 ∧ ln12 = List.length vclass10 ∧ (cs13 ++ sp13).length = cap13 * rI.sz ∧ True) ?_ ?_
   ·
    refine zbc ?_
    have hp12 := hL14.pick [1, 2, 0] rfl rfl rfl
    have hL15 : vL w w13 [ob12, ob10, some b11] [zab ([] ++ (cs12 ++ sp12)), zab ([] ++ (cs10 ++ sp10)), zab ([] ++ ([] ++ []))] := hp12.1
    have K15 := ks w hp12.2
    have f17 := ((hE14.mono (K14 None)).mono (K15 None))
    refine zbw hl11 (fun (ss : ((List Int) × Int)) (e : Env) (w' : World) => match ss with | (vclass11, k10) => ∃ (ob14 : Option Nat) (cap14 : Nat) (sp14 : List Value) (cs14 : List Value) (ln13 : Nat) (u : Env), e = upds [(3, (zO ob12 out11 cap12)), (4, (zO ob10 r10 cap10)), (5, (zI i10)), (6, (osv ob14 0 ln13 cap14)), (7, (zI k10))] u ∧ vL w w' [ob12, ob10, ob14] [zab ([] ++ (cs12 ++ sp12)), zab ([] ++ (cs10 ++ sp10)), zab ([] ++ (cs14 ++ sp14))] ∧ Keep w.heap.size [some b11, ob12, ob10] w13 [ob12, ob10, ob14] w' ∧ Els rI (vH w None [ob12, ob10, ob14] w') cs14 vclass11 ∧ ln13 = List.length vclass11 ∧ (cs14 ++ sp14).length = cap14 * rI.sz ∧ True) ⟨some b11, 0, [], [], (List.length ([] : (List Int))), _, (zef ⟨rfl, rfl, rfl, rfl, rfl, trivial⟩), hL15, K15, f17, rfl, (show ([] ++ [] : List Value).length = 0 * rI.sz by simp), trivial⟩ ?_
    rintro ⟨vclass11, k10⟩ oo _ w14 ⟨ob14, cap14, sp14, cs14, ln13, u, rfl, hL16, K16, hE15, rfl, hc14, -⟩ h hd11
    rw [rClasses_b2] at h
    refine zal (zal (zah rfl (zag (zae (v := (zI k10)) rfl ?_))))
    refine zag (zae (v := (zO ob10 r10 cap10)) rfl ?_)
    have f18 := ((f16.mono (K14 None)).mono (K16 None))
    refine zag (zcj (pre := []) (r := rI) (xs := r10) zao rfl (hL16.at 1 rfl rfl) f18 rfl rfl ?_)
    refine zag (zcg (x := k10) (y := (r10.length : Int)) ((k10 : Int) < (r10.length : Int)) rfl rfl zbi (zaq ?_))
    refine zbj ((k10 : Int) < (r10.length : Int)) rfl (fun hc15 => ?_) (fun hc15 => ?_)
    ·
     replace h := ite_t hc15 h
     refine zbl (zal (zbc (zal (zah rfl (zag (zae (v := (zO ob10 r10 cap10)) rfl ?_))))))
     refine zag (zae (v := (zI k10)) rfl ?_)
     obtain ⟨x11, n11, q19, q20, q21, h⟩ := zix h
     obtain ⟨b12, hb11⟩ := hL16.row_some 1 rfl rfl (zev (pre := []) f18 q20 (Nat.lt_of_sub_eq_succ rfl))
     refine zag (zbe (r := rI) (b := b12) (o := 0) (n := n11) (m := r10.length) (xs := r10) (q := (0 + n11 * rI.sz)) zao ti3 (zem hb11) rfl rfl q19 q21 rfl ?_)
     obtain ⟨vs11, q22, q23, q24⟩ := zeo (pre := []) (sp := sp10) f18 q20
     obtain rfl := q23
     refine zag (zbu (v := (zI x11)) zaw rfl rfl (zeq hb11 (hL16.at 1 rfl rfl)) q24 ?_)
     refine zag (zae (v := (zI i10)) rfl ?_)
     refine zag (zcv (x := x11) (y := i10) ((x11 : Int) = i10) rfl rfl zbi (zaq ?_))
     refine zbj ((x11 : Int) = i10) rfl (fun hc16 => ?_) (fun hc16 => ?_)
     ·
      replace h := ite_t hc16 h
      refine zah rfl (zag (zae (v := (zO ob14 vclass11 cap14)) rfl ?_))
      refine zag (zae (v := (zI k10)) rfl ?_)
      have hE16 : Els rI (vH w None [ob12, ob10, ob14] w14) [(zI k10)] [k10] := (zcp (a := [(zI k10)]) rfl zcm)
      refine zag (zcl (r := rI) (vs := [(zI k10)]) (css := [[(zI k10)]]) (xs := [k10]) zao ti3 (zai rfl) rfl rfl ⟨rfl, rfl, trivial⟩ (zai rfl) hE16 rfl hL16 ?_)
      intro b13 w15 hc17 hL17 hS12
      have K17 := ks w hS12
      obtain ⟨x12, q25, h⟩ := zee h
      obtain ⟨q26, q27, q28⟩ := zer q25
      have f19 := (hE16.mono (K17 None))
      have f20 := (hE15.mono (K17 None))
      refine zag (zcx (r := rI) (H := (vH w None [some b13, ob12, ob10, ob14] w15)) (cs := cs14) (sp := sp14) (xs := vclass11) (ys := [k10]) (Y := x12) (n := vclass11.length) (cap := cap14) (i := 3) zao ti3 rfl rfl rfl rfl hL17 rfl rfl f20 rfl hc14 (zdw (pre := []) (o := 0) (n := 1) (cap := 1) (hL17.at 0 rfl rfl) f19 rfl rfl rfl) (zci (fun _ _ _ _ h => h) f19) q26 q27 q28 ?_)
      intro ob15 cap15 sp15 cs15 w16 hE17 hc18 (hL18 : vL w w16 [some b13, ob12, ob10, ob15] [zab ([] ++ ([(zI k10)] ++ [])), zab ([] ++ (cs12 ++ sp12)), zab ([] ++ (cs10 ++ sp10)), zab ([] ++ (cs15 ++ sp15))]) hS13
      have K18 := ks w hS13
      refine zag (zaj (v := (zO ob15 x12 cap15)) rfl ?_)
      refine zaq (zbf (zah rfl (zag (zae (v := (zI k10)) rfl ?_))))
      refine zag (zbx (x := k10) (y := 1) (z := (iw (k10 + 1))) rfl rfl rfl ?_)
      refine zag (zaj (v := (zI (iw (k10 + 1)))) rfl (zaq ?_))
      have hp13 := hL18.pick [1, 2, 3] rfl rfl rfl
      have hL19 : vL w w16 [ob12, ob10, ob15] [zab ([] ++ (cs12 ++ sp12)), zab ([] ++ (cs10 ++ sp10)), zab ([] ++ (cs15 ++ sp15))] := hp13.1
      have K19 := ks w hp13.2
      have f21 := ((hE17.mono (K18 None)).mono (K19 None))
      obtain rfl := zad h
      refine zap ⟨(x12, (iw (k10 + 1))), rfl, ?_⟩
      exact ⟨ob15, cap15, sp15, cs15, x12.length, _, (zef ⟨rfl, rfl, rfl, rfl, rfl, trivial⟩), hL19, (zak (zak (zak K16 K17) K18) K19), f21, rfl, hc18, trivial⟩
     replace h := ite_f hc16 h
     refine zbl (zbf (zah rfl (zag (zae (v := (zI k10)) rfl ?_))))
     refine zag (zbx (x := k10) (y := 1) (z := (iw (k10 + 1))) rfl rfl rfl ?_)
     refine zag (zaj (v := (zI (iw (k10 + 1)))) rfl (zaq ?_))
     obtain rfl := zad h
     refine zap ⟨(vclass11, (iw (k10 + 1))), rfl, ?_⟩
     exact ⟨ob14, cap14, sp14, cs14, vclass11.length, _, (zef ⟨rfl, rfl, rfl, rfl, rfl, trivial⟩), hL16, K16, hE15, rfl, hc14, trivial⟩
    replace h := ite_f hc15 h
    refine zca rfl ?_
    obtain rfl := zad h
    obtain rfl := hd11 _ rfl
    replace h := g11
    try dsimp only at h
    refine zap ?_
    exact ⟨vclass11, ob14, cap14, sp14, cs14, vclass11.length, _, rfl, (zef ⟨rfl, rfl, rfl, rfl, trivial⟩), hL16, K16, hE15, rfl, hc14, trivial⟩
   rintro _ w17 ⟨vclass10, ob13, cap13, sp13, cs13, ln12, u, rfl, rfl, hL20, K20, hE18, rfl, hc19, -⟩
   replace h := g11
   try dsimp only at h
   refine zah rfl (zag (zae (v := (zO ob12 out11 cap12)) rfl ?_))
   refine zag (zae (v := (zO ob13 vclass10 cap13)) rfl ?_)
   have f22 := hL20.freezeRow 2 rfl rfl hE18 rfl rfl rfl hc19
   have hp14 := hL20.pick [0, 1] rfl rfl rfl
   have hL21 : vL w w17 [ob12, ob10] [zab ([] ++ (cs12 ++ sp12)), zab ([] ++ (cs10 ++ sp10))] := hp14.1
   have K21 := ks w hp14.2
   have hE19 : Els (rSl rI) (vH w None [ob12, ob10] w17) [(zO ob13 vclass10 cap13)] [vclass10] := (zcp (a := [(zO ob13 vclass10 cap13)]) ⟨_, rfl, f22⟩ zcm)
   refine zag (zcl (r := (rSl rI)) (vs := [(zO ob13 vclass10 cap13)]) (css := [[(zO ob13 vclass10 cap13)]]) (xs := [vclass10]) zdb ti22 (zai rfl) rfl rfl ⟨(zes f22.one), rfl, trivial⟩ (zai rfl) hE19 rfl hL21 ?_)
   intro b14 w18 hc20 hL22 hS14
   have K22 := ks w hS14
   obtain ⟨x13, q29, h⟩ := zee h
   obtain ⟨q30, q31, q32⟩ := zer q29
   have f23 := (hE19.mono (K22 None))
   have f24 := ((((hE13.mono (K14 None)).mono (K20 None)).mono (K21 None)).mono (K22 None))
   refine zag (zcx (r := (rSl rI)) (H := (vH w None [some b14, ob12, ob10] w18)) (cs := cs12) (sp := sp12) (xs := out11) (ys := [vclass10]) (Y := x13) (n := out11.length) (cap := cap12) (i := 1) zdb ti22 rfl rfl rfl rfl hL22 rfl rfl f24 rfl hc11 (zdw (pre := []) (o := 0) (n := 1) (cap := 1) (hL22.at 0 rfl rfl) f23 rfl rfl rfl) f23 q30 q31 q32 ?_)
   intro ob16 cap16 sp16 cs16 w19 hE20 hc21 (hL23 : vL w w19 [some b14, ob16, ob10] [zab ([] ++ ([(zO ob13 vclass10 cap13)] ++ [])), zab ([] ++ (cs16 ++ sp16)), zab ([] ++ (cs10 ++ sp10))]) hS15
   have K23 := ks w hS15
   refine zag (zaj (v := (zO ob16 x13 cap16)) rfl ?_)
   refine zaq (zbf (zah rfl (zag (zae (v := (zI i10)) rfl ?_))))
   refine zag (zbx (x := i10) (y := 1) (z := (iw (i10 + 1))) rfl rfl rfl ?_)
   refine zag (zaj (v := (zI (iw (i10 + 1)))) rfl (zaq ?_))
   have hp15 := hL23.pick [1, 2] rfl rfl rfl
   have hL24 : vL w w19 [ob16, ob10] [zab ([] ++ (cs16 ++ sp16)), zab ([] ++ (cs10 ++ sp10))] := hp15.1
   have K24 := ks w hp15.2
   have f25 := ((hE20.mono (K23 None)).mono (K24 None))
   obtain rfl := zad h
   refine zap ⟨(x13, (iw (i10 + 1))), rfl, ?_⟩
   exact ⟨ob16, cap16, sp16, cs16, x13.length, _, (zef ⟨rfl, rfl, rfl, trivial⟩), hL24, (zak (zak (zak (zak (zak (zak K13 K14) K20) K21) K22) K23) K24), f25, rfl, hc21, trivial⟩
  replace h := ite_f hc12 h
  refine zca rfl ?_
  have hp16 := hL13.pick [0] rfl rfl rfl
  have hL25 : vL w w12 [ob12] [zab ([] ++ (cs12 ++ sp12))] := hp16.1
  have K25 := ks w hp16.2
  have f26 := (hE13.mono (K25 None))
  obtain rfl := zad h
  obtain rfl := hd10 _ rfl
  replace h := g10
  try dsimp only at h
  refine zap ?_
  exact ⟨out11, ob12, cap12, sp12, cs12, out11.length, _, rfl, (zef zrt), hL25, (zak K13 K25), f26, rfl, hc11, trivial⟩
 rintro _ w20 ⟨out10, ob11, cap11, sp11, cs11, ln10, u, rfl, rfl, hL26, K26, hE21, rfl, hc22, -⟩
 replace h := g10
 try dsimp only at h
 refine zal (zah rfl (zag (zae (v := (zO ob11 out10 cap11)) rfl ?_)))
 refine zag (zaj (v := (zO ob11 out10 cap11)) rfl ?_)
 refine zaq (zbt ?_)
 obtain rfl := zad h
 refine ⟨[(zO ob11 out10 cap11)], zrt, ⟨_, rfl, hL26.done, ?_⟩⟩
 exact ⟨ob11, cap11, cs11, sp11, rfl, (hL26.newOwn [0] rfl rfl rfl), (hE21.mono (zdy [0] rfl)), hc22, trivial⟩
theorem rWord_w (N : Nat) (p : TProb) (vclass : (List Int)) (s : (List UInt8)) (p_v : Value) (p_v1 : Value) (p_v2 : Value) (p_v3 : Value) (p_v4 : Value) (vclass_v : Value) (w : World) (S : Nat → Prop) (p_h : Rs rI (vH w S [] w) p_v p.Min) (p_h1 : Rs rI (vH w S [] w) p_v1 p.Max) (p_h2 : Rs rTTest (vH w S [] w) p_v2 p.Tests) (p_h3 : Rs rArr2Int (vH w S [] w) p_v3 p.Same) (p_h4 : Rs rArr2Int (vH w S [] w) p_v4 p.Different) (vclass_h : Rs rI (vH w S [] w) vclass_v vclass) (r : Bool) (h : rWord N p vclass s = some r) :
  Calls Try.prog 63 #[(zbq #[p_v, p_v1, p_v2, p_v3, p_v4]), vclass_v, (zS s)] w (Ret w (fun v w' => (zac r) = v ∧ True)) := by
 unfold rWord at h
 have hL : vL w w [] [] := Go.X.Loc.begin0 w
 refine calls_of (l := [(zbq #[p_v, p_v1, p_v2, p_v3, p_v4]), vclass_v, (zS s)]) (rl := [.tmp 6]) (n := 63) Try.func63 rfl rfl rfl (zai rfl) ?_
 refine zal (zah rfl (zag (zdp (cs := [p_v, p_v1, p_v2, p_v3, p_v4]) rfl rfl hL ?_)))
 intro b1 w2 hL3 hS5
 have K4 := ks w hS5
 refine zag (zaj (v := zF) rfl ?_)
 refine zaq (zal (zal (zah rfl (zag (zaj (v := (zI 0)) rfl (zaq ?_))))))
 obtain ⟨s10, hl10, g10⟩ := zee h
 refine zbs (fun e w' => ∃  (u : Env), (Sum.inl ()) = s10 ∧ e = upds [] u ∧ vL w w' [] [] ∧ Keep w.heap.size [some b1] w2 [] w' ∧ True) ?_ ?_
 ·
  refine zbc ?_
  refine zbw hl10 (fun (ss : Int) (e : Env) (w' : World) => match ss with | i10 => ∃ (u : Env), e = upds [(1, vclass_v), (2, (zS s)), (3, (zam (some ⟨b1, 0, none⟩))), (7, (zI i10))] u ∧ vL w w' [some b1] [zab [p_v, p_v1, p_v2, p_v3, p_v4]] ∧ Keep w.heap.size [some b1] w2 [some b1] w' ∧ True) ⟨_, (zef ⟨rfl, rfl, rfl, rfl, trivial⟩), hL3, zbp, trivial⟩ ?_
  rintro i10 oo _ w10 ⟨u, rfl, hL10, K10, -⟩ h hd10
  rw [rWord_b1] at h
  refine zal (zal (zah rfl (zag (zae (v := (zI i10)) rfl ?_))))
  refine zag (zae (v := vclass_v) rfl ?_)
  have f10 := ((vclass_h.mono (K4 S)).mono (K10 S))
  refine zag (zcf (v := vclass_v) zao rfl f10 ?_)
  refine zag (zcg (x := i10) (y := (vclass.length : Int)) ((i10 : Int) < (vclass.length : Int)) rfl rfl zbi (zaq ?_))
  refine zbj ((i10 : Int) < (vclass.length : Int)) rfl (fun hc10 => ?_) (fun hc10 => ?_)
  ·
   replace h := ite_t hc10 h
   refine zbl (zal (zbc (zal (zah rfl (zag (zae (v := vclass_v) rfl ?_))))))
   refine zag (zae (v := (zI i10)) rfl ?_)
   obtain ⟨x10, n10, q11, q12, -, h⟩ := zix h
   obtain ⟨b10, o10, c10, vs10, q13, q14, f11, q15⟩ := zdc f10 q12
   obtain rfl := q15
   refine zag (zby (r := rI) (v := vclass_v) (n := n10) (m := (o10 + n10 * rI.sz)) zao ti3 rfl q13 rfl q11 q12 rfl ?_)
   refine zag (zce (v := (zI x10)) zaw rfl rfl zel f11 ?_)
   refine zag (zaj (v := (zI x10)) rfl ?_)
   refine zaq (zal (zal ?_))
   obtain ⟨s11, h, g11⟩ := zee h
   refine zbs (fun e w' => ∃ (x11 : Bool) (u : Env), x11 = s11 ∧ e = upds [(1, vclass_v), (2, (zS s)), (3, (zam (some ⟨b1, 0, none⟩))), (7, (zI i10)), (8, (zI x10)), (37, (zac x11))] u ∧ vL w w' [some b1] [zab [p_v, p_v1, p_v2, p_v3, p_v4]] ∧ Keep w.heap.size [some b1] w10 [some b1] w' ∧ True) ?_ ?_
   ·
    refine zah rfl (zag (zae (v := (zS s)) rfl ?_))
    refine zag (zdf zax rfl ?_)
    refine zag (zau (q := 0) zbb rfl ti22 rfl rfl rfl ?_)
    refine zag (zav (v := p_v) zao rfl rfl (hL10.at 0 rfl rfl) rfl ?_)
    refine zag (zae (v := (zI x10)) rfl ?_)
    obtain ⟨x12, n11, q17, q18, -, h⟩ := zix h
    have f12 := ((p_h.mono (K4 S)).mono (K10 S))
    obtain ⟨b11, o11, c11, vs11, q19, q20, f13, q21⟩ := zdc f12 q18
    obtain rfl := q21
    refine zag (zby (r := rI) (v := p_v) (n := n11) (m := (o11 + n11 * rI.sz)) zao ti3 rfl q19 rfl q17 q18 rfl ?_)
    refine zag (zce (v := (zI x12)) zaw rfl rfl zel f13 ?_)
    refine zag (zcg (x := (s.length : Int)) (y := x12) (((s.length : Int) : Int) < x12) rfl rfl zbi ?_)
    refine zag (zae (v := (zac (decide (((s.length : Int) : Int) < x12)))) rfl ?_)
    by_cases hc11 : ((s.length : Int) : Int) < x12
    ·
     replace h := ite_t hc11 h
     refine zbg rfl rfl (zed hc11) (zbg rfl rfl (zed hc11) (zbg rfl rfl (zed hc11) (zbg rfl rfl (zed hc11) (zbg rfl rfl (zed hc11) (zbg rfl rfl (zed hc11) (zbg rfl rfl (zed hc11) (zbg rfl rfl (zed hc11) ?_)))))))
     refine zag (zbn (t := (decide (((s.length : Int) : Int) < x12))) (v := zT) rfl (zed hc11) rfl (zaq ?_))
     obtain rfl := zad h
     refine zap ?_
     exact ⟨true, _, rfl, (zef ⟨rfl, rfl, rfl, rfl, rfl, rfl, trivial⟩), hL10, zbp, trivial⟩
    replace h := ite_f hc11 h
    refine zaz rfl rfl (zec hc11) (zae (v := (zS s)) rfl ?_)
    refine zaz rfl rfl (zec hc11) (zdf zax rfl ?_)
    refine zaz rfl rfl (zec hc11) (zau (q := 1) zbb rfl ti22 rfl rfl rfl ?_)
    refine zaz rfl rfl (zec hc11) (zav (v := p_v1) zao rfl rfl (hL10.at 0 rfl rfl) rfl ?_)
    refine zaz rfl rfl (zec hc11) (zae (v := (zI x10)) rfl ?_)
    obtain ⟨x13, n12, q23, q24, -, h⟩ := zix h
    have f14 := ((p_h1.mono (K4 S)).mono (K10 S))
    obtain ⟨b12, o12, c12, vs12, q25, q26, f15, q27⟩ := zdc f14 q24
    obtain rfl := q27
    refine zaz rfl rfl (zec hc11) (zby (r := rI) (v := p_v1) (n := n12) (m := (o12 + n12 * rI.sz)) zao ti3 rfl q25 rfl q23 q24 rfl ?_)
    refine zaz rfl rfl (zec hc11) (zce (v := (zI x13)) zaw rfl rfl zel f15 ?_)
    refine zaz rfl rfl (zec hc11) (OpY.gtr (x := (s.length : Int)) (y := x13) (((s.length : Int) : Int) > x13) rfl rfl zbi ?_)
    refine zag (zbh (t := (decide (((s.length : Int) : Int) < x12))) (v := (zac (decide (((s.length : Int) : Int) > x13)))) rfl (zec hc11) rfl (zaq ?_))
    obtain rfl := zad h
    refine zap ?_
    exact ⟨(decide (((s.length : Int) : Int) > x13)), _, rfl, (zef ⟨rfl, rfl, rfl, rfl, rfl, rfl, trivial⟩), hL10, zbp, trivial⟩
   rintro _ w11 ⟨x11, u, rfl, rfl, hL11, K11, -⟩
   replace h := g11
   try dsimp only at h
   refine zch x11 rfl (fun hc12 => ?_) (fun hc12 => ?_)
   ·
    replace h := ite_t hc12 h
    refine zal (zah rfl (zag (zaj (v := zF) rfl ?_)))
    refine zaq (zbt ?_)
    obtain rfl := zad h
    obtain rfl := hd10 _ rfl
    replace h := g10
    try dsimp only at h
    obtain rfl := zad h
    refine ⟨[zF], zrt, ⟨_, rfl, hL11.done, ?_⟩⟩
    exact zrt
   replace h := ite_f hc12 h
   refine zbl (zal (zah rfl (zag (zaj (v := (zI 0)) rfl (zaq ?_)))))
   obtain ⟨s12, hl11, g12⟩ := zee h
   refine zbs (fun e w' => ∃  (u : Env), (Sum.inl ()) = s12 ∧ e = upds [(1, vclass_v), (2, (zS s)), (3, (zam (some ⟨b1, 0, none⟩))), (7, (zI i10))] u ∧ vL w w' [some b1] [zab [p_v, p_v1, p_v2, p_v3, p_v4]] ∧ Keep w.heap.size [some b1] w11 [some b1] w' ∧ True) ?_ ?_
   ·
    refine zbc ?_
    refine zbw hl11 (fun (ss : Int) (e : Env) (w' : World) => match ss with | k10 => ∃ (u : Env), e = upds [(1, vclass_v), (2, (zS s)), (3, (zam (some ⟨b1, 0, none⟩))), (7, (zI i10)), (8, (zI x10)), (9, (zI k10))] u ∧ vL w w' [some b1] [zab [p_v, p_v1, p_v2, p_v3, p_v4]] ∧ Keep w.heap.size [some b1] w11 [some b1] w' ∧ True) ⟨_, (zef ⟨rfl, rfl, rfl, rfl, rfl, rfl, trivial⟩), hL11, zbp, trivial⟩ ?_
    rintro k10 oo _ w12 ⟨u, rfl, hL12, K12, -⟩ h hd11
    rw [rWord_b2] at h
    refine zal (zal (zah rfl (zag (zae (v := (zI k10)) rfl ?_))))
    refine zag (zau (q := 2) zbb rfl ti23 rfl rfl rfl ?_)
    refine zag (zav (v := p_v2) zbk rfl rfl (hL12.at 0 rfl rfl) rfl ?_)
    have f16 := ((((p_h2.mono (K4 S)).mono (K10 S)).mono (K11 S)).mono (K12 S))
    refine zag (zcf (v := p_v2) zbk rfl f16 ?_)
    refine zag (zcg (x := k10) (y := (p.Tests.length : Int)) ((k10 : Int) < (p.Tests.length : Int)) rfl rfl zbi (zaq ?_))
    refine zbj ((k10 : Int) < (p.Tests.length : Int)) rfl (fun hc13 => ?_) (fun hc13 => ?_)
    ·
     replace h := ite_t hc13 h
     refine zbl (zal (zbc (zal ?_)))
     obtain ⟨s13, h, g13⟩ := zee h
     refine zbs (fun e w' => ∃ (x14 : Bool) (u : Env), x14 = s13 ∧ e = upds [(1, vclass_v), (2, (zS s)), (3, (zam (some ⟨b1, 0, none⟩))), (7, (zI i10)), (8, (zI x10)), (9, (zI k10)), (62, (zac x14))] u ∧ vL w w' [some b1] [zab [p_v, p_v1, p_v2, p_v3, p_v4]] ∧ Keep w.heap.size [some b1] w12 [some b1] w' ∧ True) ?_ ?_
     ·
      refine zah rfl (zag (zau (q := 2) zbb rfl ti23 rfl rfl rfl ?_))
      refine zag (zav (v := p_v2) zbk rfl rfl (hL12.at 0 rfl rfl) rfl ?_)
      refine zag (zae (v := (zI k10)) rfl ?_)
      obtain ⟨x15, n13, q29, q30, -, h⟩ := zix h
      obtain ⟨b13, o13, c13, vs13, q31, q32, f17, q33⟩ := zdc f16 q30
      obtain ⟨rfl, -⟩ := rTTest_open q33
      refine zag (zby (r := rTTest) (v := p_v2) (n := n13) (m := (o13 + n13 * rTTest.sz)) zbk ti44 rfl q31 rfl q29 q30 rfl ?_)
      have f18 := (f17.part (us := [(zI x15.Var)]) 0 rfl)
      refine zag (zau (q := (o13 + n13 * rTTest.sz) + 0) zbd rfl ti3 rfl rfl rfl ?_)
      refine zag (zce (v := (zI x15.Var)) zaw rfl rfl zel f18 ?_)
      refine zag (zae (v := (zI x10)) rfl ?_)
      refine zag (zcv (x := x15.Var) (y := x10) ((x15.Var : Int) = x10) rfl rfl zbi ?_)
      refine zag (zae (v := (zac (decide ((x15.Var : Int) = x10)))) rfl ?_)
      by_cases hc14 : (x15.Var : Int) = x10
      ·
       replace h := ite_t hc14 h
       refine zaz rfl rfl (zed hc14) (zau (q := 2) zbb rfl ti23 rfl rfl rfl ?_)
       refine zaz rfl rfl (zed hc14) (zav (v := p_v2) zbk rfl rfl (hL12.at 0 rfl rfl) rfl ?_)
       refine zaz rfl rfl (zed hc14) (zae (v := (zI k10)) rfl ?_)
       obtain ⟨x16, n14, q35, q36, -, h⟩ := zix h
       obtain ⟨b14, o14, c14, vs14, q37, q38, f19, q39⟩ := zdc f16 q36
       obtain ⟨rfl, -⟩ := rTTest_open q39
       refine zaz rfl rfl (zed hc14) (zby (r := rTTest) (v := p_v2) (n := n14) (m := (o14 + n14 * rTTest.sz)) zbk ti44 rfl q37 rfl q35 q36 rfl ?_)
       refine zaz rfl rfl (zed hc14) (OpY.ldRoA (vs := [(zI x16.Var), (zI x16.Kind), (zac x16.Negated), (zS x16.Text)]) zbd rfl ti44 rfl rfl zel f19 ?_)
       refine zaz rfl rfl (zed hc14) (zae (v := (zS s)) rfl ?_)
       obtain ⟨r10, q40, h⟩ := zee h
       refine zaz rfl rfl (zed hc14) (zbz en30 rfl rfl (qPasses_w N x16 s _ Any r10 q40) ?_)
       rintro _ w13 hE10 ⟨rfl, -⟩
       obtain ⟨hL13, K13⟩ := zl hL12 hE10
       refine zaz rfl rfl (zed hc14) (OpY.not (x := r10) rfl ?_)
       refine zag (zbn (t := (decide ((x15.Var : Int) = x10))) (v := (zac (!r10))) rfl (zed hc14) rfl (zaq ?_))
       obtain rfl := zad h
       refine zap ?_
       exact ⟨(!r10), _, rfl, (zef ⟨rfl, rfl, rfl, rfl, rfl, rfl, rfl, trivial⟩), hL13, K13, trivial⟩
      replace h := ite_f hc14 h
      refine zbg rfl rfl (zec hc14) (zbg rfl rfl (zec hc14) (zbg rfl rfl (zec hc14) (zbg rfl rfl (zec hc14) (zbg rfl rfl (zec hc14) (zbg rfl rfl (zec hc14) (zbg rfl rfl (zec hc14) (zbg rfl rfl (zec hc14) ?_)))))))
      refine zag (zbh (t := (decide ((x15.Var : Int) = x10))) (v := zF) rfl (zec hc14) rfl (zaq ?_))
      obtain rfl := zad h
      refine zap ?_
      exact ⟨false, _, rfl, (zef ⟨rfl, rfl, rfl, rfl, rfl, rfl, rfl, trivial⟩), hL12, zbp, trivial⟩
     rintro _ w14 ⟨x14, u, rfl, rfl, hL14, K14, -⟩
     replace h := g13
     try dsimp only at h
     refine zch x14 rfl (fun hc15 => ?_) (fun hc15 => ?_)
     ·
      replace h := ite_t hc15 h
      refine zal (zah rfl (zag (zaj (v := zF) rfl ?_)))
      refine zaq (zbt ?_)
      obtain rfl := zad h
      obtain rfl := hd11 _ rfl
      replace h := g12
      try dsimp only at h
      obtain rfl := zad h
      obtain rfl := hd10 _ rfl
      replace h := g10
      try dsimp only at h
      obtain rfl := zad h
      refine ⟨[zF], zrt, ⟨_, rfl, hL14.done, ?_⟩⟩
      exact zrt
     replace h := ite_f hc15 h
     refine zbl (zbf (zah rfl (zag (zae (v := (zI k10)) rfl ?_))))
     refine zag (zbx (x := k10) (y := 1) (z := (iw (k10 + 1))) rfl rfl rfl ?_)
     refine zag (zaj (v := (zI (iw (k10 + 1)))) rfl (zaq ?_))
     obtain rfl := zad h
     refine zap ⟨(iw (k10 + 1)), rfl, ?_⟩
     exact ⟨_, (zef ⟨rfl, rfl, rfl, rfl, rfl, rfl, trivial⟩), hL14, (zak K12 K14), trivial⟩
    replace h := ite_f hc13 h
    refine zca rfl ?_
    obtain rfl := zad h
    obtain rfl := hd11 _ rfl
    replace h := g12
    try dsimp only at h
    refine zap ?_
    exact ⟨_, rfl, (zef ⟨rfl, rfl, rfl, rfl, trivial⟩), hL12, K12, trivial⟩
   rintro _ w15 ⟨u, rfl, rfl, hL15, K15, -⟩
   replace h := g12
   try dsimp only at h
   refine zbf (zah rfl (zag (zae (v := (zI i10)) rfl ?_)))
   refine zag (zbx (x := i10) (y := 1) (z := (iw (i10 + 1))) rfl rfl rfl ?_)
   refine zag (zaj (v := (zI (iw (i10 + 1)))) rfl (zaq ?_))
   obtain rfl := zad h
   refine zap ⟨(iw (i10 + 1)), rfl, ?_⟩
   exact ⟨_, (zef ⟨rfl, rfl, rfl, rfl, trivial⟩), hL15, (zak (zak K10 K11) K15), trivial⟩
  replace h := ite_f hc10 h
  refine zca rfl ?_
  have hp10 := hL10.pick [] rfl rfl rfl
  have hL16 : vL w w10 [] [] := hp10.1
  have K16 := ks w hp10.2
  obtain rfl := zad h
  obtain rfl := hd10 _ rfl
  replace h := g10
  try dsimp only at h
  refine zap ?_
  exact ⟨_, rfl, (zef trivial), hL16, (zak K10 K16), trivial⟩
 rintro _ w16 ⟨u, rfl, rfl, hL17, K17, -⟩
 replace h := g10
 try dsimp only at h
 refine zal (zah rfl (zag (zaj (v := zT) rfl ?_)))
 refine zaq (zbt ?_)
 obtain rfl := zad h
 refine ⟨[zT], zrt, ⟨_, rfl, hL17.done, ?_⟩⟩
 exact zrt
end Go.Proofs.Ytaakoedphmeenaa.WR

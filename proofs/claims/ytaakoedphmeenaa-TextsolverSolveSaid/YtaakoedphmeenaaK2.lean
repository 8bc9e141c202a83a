/-
 Tests of texts: the states, the steps and the answers of both programs. Plain theorems.
-/
import Derived.Test.YtaakoedphmeenaaK1
set_option linter.unusedSimpArgs false
set_option linter.unusedVariables false
namespace Go.D
open Go Go.X
def bits (S : Nat → Bool) : Nat → Nat
 | 0 => 0
 | n + 1 => bits S n ||| (if S n then 2 ^ n else 0)
theorem bits_test {S : Nat → Bool} : ∀ {n i : Nat}, (bits S n).testBit i = (decide (i < n) && S i)
 | 0, i => by simp [bits]
 | n + 1, i => by
  rw [bits, Nat.testBit_or, bits_test]
  by_cases hS : S n
  · rw [if_pos hS, Nat.testBit_two_pow]
    by_cases hi : i = n
    · subst hi; simp [hS]
    · have h1 : decide (n = i) = false := decide_eq_false (fun h => hi h.symm)
      have h2 : decide (i < n + 1) = decide (i < n) := decide_eq_decide.2 (by omega)
      rw [h1, h2]; simp
  · rw [if_neg hS]
    by_cases hi : i = n
    · subst hi; simp [hS]
    · have h2 : decide (i < n + 1) = decide (i < n) := decide_eq_decide.2 (by omega)
      rw [h2]; simp
theorem bits_lt {S : Nat → Bool} {n : Nat} : bits S n < 2 ^ n := Nat.lt_pow_two_of_testBit _ fun i hi => by
 rw [bits_test, decide_eq_false (by omega)]; rfl
theorem bits_eq {S : Nat → Bool} {n m : Nat} (hm : m < 2 ^ n) (h : ∀ i, i < n → m.testBit i = S i) : m = bits S n := by
 apply Nat.eq_of_testBit_eq
 intro i
 rw [bits_test]
 by_cases hi : i < n
 · rw [decide_eq_true hi, h i hi]; rfl
 · rw [decide_eq_false hi, Nat.testBit_lt_two_pow (Nat.lt_of_lt_of_le hm (Nat.pow_le_pow_right (by decide) (by omega)))]; rfl
theorem bshr_u32 {x : Int} {n : Nat} (h : n ≤ 32) : bshr .u32 x n = x / 2 ^ n := by
 unfold bshr
 rw [show min ((n : Int)).toNat IntKind.u32.bits = n by show min _ 32 = n; omega]
 exact Int.fdiv_eq_ediv_of_nonneg _ (Int.le_of_lt (Int.pow_pos (by decide)))
theorem u32_n {a : Nat} (h : a < 4294967296) : IntKind.u32.wrap (a : Int) = (a : Int) := wq_u32 rfl h
theorem bt {m i : Nat} (hm : m < 4294967296) (hi : i ≤ 31) : (band .u32 (bshr .u32 (m : Int) (i : Int)) 1 : Int) = if m.testBit i then 1 else 0 := by
 rw [bshr_u32 (by omega)]
 have e : ((m : Int) / 2 ^ i) = ((m / 2 ^ i : Nat) : Int) := by simp
 have hle : m / 2 ^ i < 4294967296 := Nat.lt_of_le_of_lt (Nat.div_le_self _ _) hm
 rw [e, show (1 : Int) = ((1 : Nat) : Int) from rfl, band_nat (u32_n hle) (u32_n (by decide)), Nat.and_one_is_mod, Nat.testBit_eq_decide_div_mod_eq]
 by_cases h : m / 2 ^ i % 2 = 1
 · rw [h]; simp
 · have : m / 2 ^ i % 2 = 0 := by omega
   rw [this]; simp
theorem bsh {i : Nat} (hi : i ≤ 31) : bshl .u32 1 (i : Int) = ((2 ^ i : Nat) : Int) := by
 unfold bshl
 rw [show min ((i : Int)).toNat IntKind.u32.bits = i by show min _ 32 = i; omega]
 have h : 2 ^ i < 4294967296 := Nat.lt_of_le_of_lt (Nat.pow_le_pow_right (by decide) hi) (by decide)
 rw [Int.one_mul, show ((2 : Int) ^ i) = ((2 ^ i : Nat) : Int) by simp]
 exact u32_n h
theorem bs {m i n : Nat} (hm : m < 2 ^ (n + 1)) (hi : i ≤ n) (hn : n ≤ 16) : bor .u32 (m : Int) (bshl .u32 1 (i : Int)) = ((m ||| 2 ^ i : Nat) : Int) ∧ m ||| 2 ^ i < 2 ^ (n + 1) := by
 have h17 : 2 ^ (n + 1) ≤ 2 ^ 17 := Nat.pow_le_pow_right (by decide) (by omega)
 have h2 : 2 ^ i < 2 ^ (n + 1) := Nat.pow_lt_pow_right (by decide) (by omega)
 refine ⟨?_, Nat.or_lt_two_pow hm h2⟩
 rw [bsh (by omega), bor_nat (u32_n (by omega)) (u32_n (by omega))]
theorem bs_test {m i j : Nat} : (m ||| 2 ^ i).testBit j = (m.testBit j || decide (i = j)) := by rw [Nat.testBit_or, Nat.testBit_two_pow]
def isP (o : Option UInt8) : Bool := decide (o = some 37)
def clo (p : List UInt8) (S : Nat → Bool) : Nat → Bool
 | 0 => S 0
 | i + 1 => S (i + 1) || (clo p S i && isP p[i]?)
def hit (o : Option UInt8) (c : Int) : Bool := match o with
 | some b => decide (b ≠ 37) && (decide (b = 95) || decide ((b.toNat : Int) = c))
 | none => false
def nxs (p : List UInt8) (S : Nat → Bool) (c : Int) : Nat → Bool := fun j => (S j && isP p[j]?) || (match j with | 0 => false | i + 1 => S i && hit p[i]? c)
theorem u8_37 {b : UInt8} : ((b.toNat : Int) = 37) ↔ b = 37 := by
 constructor
 · intro h; apply UInt8.toNat_inj.1; show b.toNat = 37; omega
 · rintro rfl; rfl
theorem u8_95 {b : UInt8} : ((b.toNat : Int) = 95) ↔ b = 95 := by
 constructor
 · intro h; apply UInt8.toNat_inj.1; show b.toNat = 95; omega
 · rintro rfl; rfl
theorem pClosure_tm {p : List UInt8} {m : Nat} (hp : p.length ≤ 16) (hm : m < 2 ^ (p.length + 1)) : Tm (fun N => pClosure N p (m : Int)) (· = ((bits (clo p m.testBit) (p.length + 1) : Nat) : Int)) := by
 unfold pClosure
 have h17 : 2 ^ (p.length + 1) ≤ 2 ^ 17 := Nat.pow_le_pow_right (by decide) (by omega)
 refine Tm.eq (a := ((bits (clo p m.testBit) (p.length + 1) : Nat) : Int)) ?_ (Tm.some rfl)
 refine Tm.up p.length (fun k s => s.2 = (k : Int) ∧ ∃ a : Nat, s.1 = (a : Int) ∧ a < 2 ^ (p.length + 1) ∧ (∀ i, i ≤ k → a.testBit i = clo p m.testBit i) ∧ (∀ i, k < i → a.testBit i = m.testBit i)) ⟨rfl, m, rfl, hm, fun i hi => by rw [Nat.le_zero.1 hi]; rfl, fun _ _ => rfl⟩ ?_
 rintro k hk ⟨s, i⟩ ⟨hi, a, ha, hal, h1, h2⟩
 dsimp only at hi ha; subst hi; subst ha
 unfold pClosure_b1
 rcases Nat.lt_or_ge k p.length with hlt | hge
 · refine Tm.pos (by omega) ?_
   simp only [idx_n hlt, Option.bind_some]
   by_cases hp1 : ((p[k]).toNat : Int) = 37
   · have hp2 : isP p[k]? = true := by rw [List.getElem?_eq_getElem hlt, u8_37.1 hp1]; rfl
     simp only [if_pos hp1, chk_ok (show ¬ (k : Int) < 0 by omega), Option.bind_some, bt (m := a) (i := k) (by omega) (by omega)]
     by_cases hb : a.testBit k = true
     · simp only [hb, if_true, decide_true, iw_n (k := k) (by omega), chk_ok (show ¬ ((k + 1 : Nat) : Int) < 0 by omega), Option.bind_some]
       obtain ⟨e1, e2⟩ := bs (n := p.length) hal (show k + 1 ≤ p.length by omega) hp
       rw [e1]
       refine Tm.some ⟨hlt, rfl, _, rfl, e2, fun i hi => ?_, fun i hi => ?_⟩
       · rw [bs_test]
         by_cases hik : i ≤ k
         · rw [h1 i hik, decide_eq_false (by omega)]; simp
         · obtain rfl : i = k + 1 := by omega
           have := h1 k (Nat.le_refl _)
           rw [decide_eq_true rfl, clo, ← this, hb, hp2]; simp
       · rw [bs_test, h2 i (by omega), decide_eq_false (by omega)]; simp
     · have hb' : a.testBit k = false := by simpa using hb
       simp only [hb', Bool.false_eq_true, if_false, decide_eq_false (show ¬ (0 : Int) = 1 by decide), Option.bind_some]
       refine Tm.some ⟨hlt, iw_n (by omega), a, rfl, hal, fun i hi => ?_, fun i hi => h2 i (by omega)⟩
       by_cases hik : i ≤ k
       · exact h1 i hik
       · obtain rfl : i = k + 1 := by omega
         have := h1 k (Nat.le_refl _)
         rw [clo, ← this, hb', h2 (k + 1) (by omega)]; simp
   · have hp2 : isP p[k]? = false := by
      rw [List.getElem?_eq_getElem hlt]
      refine decide_eq_false fun h => hp1 (u8_37.2 (Option.some.inj h))
     simp only [if_neg hp1, Option.bind_some, Bool.false_eq_true, if_false]
     refine Tm.some ⟨hlt, iw_n (by omega), a, rfl, hal, fun i hi => ?_, fun i hi => h2 i (by omega)⟩
     by_cases hik : i ≤ k
     · exact h1 i hik
     · obtain rfl : i = k + 1 := by omega
       rw [clo, hp2, h2 (k + 1) (by omega)]; simp
 · refine Tm.neg (by omega) (Tm.some ?_)
   have : k = p.length := by omega
   subst this
   show (a : Int) = _
   rw [bits_eq hal fun i hi => h1 i (by omega)]
structure StOk (t : TTest) (s : Int) : Prop where
 lk : t.Kind = 1 → ∃ m : Nat, s = (m : Int) ∧ m < 2 ^ (t.Text.length + 1)
 cm : t.Kind ≠ 1 → s = 100 ∨ s = 101 ∨ (0 ≤ s ∧ s ≤ t.Text.length)
def sp0 (t : TTest) : Int := if t.Kind = 1 then ((bits (clo t.Text (Nat.testBit 1)) (t.Text.length + 1) : Nat) : Int) else 0
def cmpN (x : List UInt8) (s c : Int) : Int := if s ≥ 100 then s else if s = x.length ∨ c > ((x.getD s.toNat 0).toNat : Int) then 101 else if c < ((x.getD s.toNat 0).toNat : Int) then 100 else s + 1
def spN (t : TTest) (s c : Int) : Int := if t.Kind = 1 then ((bits (clo t.Text (Nat.testBit (bits (nxs t.Text (Nat.testBit s.toNat) c) (t.Text.length + 1)))) (t.Text.length + 1) : Nat) : Int) else cmpN t.Text s c
def spF (t : TTest) (s : Int) : Bool :=
 let ok := if t.Kind = 1 then s.toNat.testBit t.Text.length else if t.Kind = 0 then decide (s = t.Text.length) else if t.Kind = 2 then decide (s = 100 ∨ s < t.Text.length) else decide (s = 100 ∨ s ≤ t.Text.length)
 !(ok == t.Negated)
theorem okT_len {t : TTest} (h : okT t = true) : 0 ≤ t.Kind ∧ t.Kind ≤ 3 ∧ t.Text.length ≤ 16 := by
 simp only [okT, Bool.and_eq_true, decide_eq_true_eq] at h; exact h.1
theorem st0_ok {t : TTest} (h : okT t = true) : StOk t (sp0 t) := by
 constructor
 · intro hk; unfold sp0; rw [if_pos hk]; exact ⟨_, rfl, bits_lt⟩
 · intro hk; unfold sp0; rw [if_neg hk]; exact .inr (.inr ⟨by decide, by omega⟩)
theorem stN_ok {t : TTest} {s : Int} (c : Int) (h : okT t = true) (hs : StOk t s) : StOk t (spN t s c) := by
 constructor
 · intro hk; unfold spN; rw [if_pos hk]; exact ⟨_, rfl, bits_lt⟩
 · intro hk
   unfold spN; rw [if_neg hk]
   unfold cmpN
   have h16 := (okT_len h).2.2
   rcases hs.cm hk with h1 | h1 | h1
   · rw [if_pos (by omega)]; exact .inl h1
   · rw [if_pos (by omega)]; exact .inr (.inl h1)
   · rw [if_neg (by omega)]
     split
     · exact .inr (.inl rfl)
     · rename_i hn
       split
       · exact .inl rfl
       · exact .inr (.inr ⟨by omega, by omega⟩)
theorem pBegin_tm {t : TTest} (h : okT t = true) : Tm (fun N => pBegin N t) (· = sp0 t) := by
 unfold pBegin sp0
 by_cases hk : t.Kind = 1
 · simp only [if_pos hk]
   exact (pClosure_tm (m := 1) (okT_len h).2.2 (Nat.one_lt_two_pow (by omega))).eq (Tm.some rfl)
 · simp only [if_neg hk]
   exact Tm.some rfl
theorem pNext_b1_tm {t : TTest} {m : Nat} {c : Int} (hp : t.Text.length ≤ 16) (hm : m < 2 ^ (t.Text.length + 1)) : Tm (fun N => loopM (pNext_b1 N c (m : Int) t) N (0, 0)) (· = ((bits (nxs t.Text m.testBit c) (t.Text.length + 1) : Nat) : Int)) := by
 generalize hx : t.Text = p at *
 have h17 : 2 ^ (p.length + 1) ≤ 2 ^ 17 := Nat.pow_le_pow_right (by decide) (by omega)
 refine Tm.up p.length (fun k s => s.2 = (k : Int) ∧ ∃ a : Nat, s.1 = (a : Int) ∧ a < 2 ^ (p.length + 1) ∧ ∀ j, a.testBit j = ((decide (j < k) && m.testBit j && isP p[j]?) || (match j with | 0 => false | i + 1 => decide (i < k) && m.testBit i && hit p[i]? c))) ⟨rfl, 0, rfl, Nat.two_pow_pos _, fun j => by cases j <;> simp⟩ ?_
 rintro k hk ⟨s, i⟩ ⟨hi, a, ha, hal, h1⟩
 dsimp only at hi ha; subst hi; subst ha
 unfold pNext_b1
 rw [hx]
 rcases Nat.lt_or_ge k p.length with hlt | hge
 · refine Tm.pos (by omega) ?_
   have hpk : p[k]? = some p[k] := List.getElem?_eq_getElem hlt
   simp only [chk_ok (show ¬ (k : Int) < 0 by omega), Option.bind_some, bt (m := m) (i := k) (by omega) (by omega)]
   have upto : ∀ (a' : Nat), (∀ j, a'.testBit j = (a.testBit j || (decide (j = k) && m.testBit k && isP p[k]?) || (decide (j = k + 1) && m.testBit k && hit p[k]? c))) → ∀ j, a'.testBit j = ((decide (j < k + 1) && m.testBit j && isP p[j]?) || (match j with | 0 => false | i + 1 => decide (i < k + 1) && m.testBit i && hit p[i]? c)) := by
    intro a' h j
    rw [h j, h1 j]
    cases j with
    | zero =>
     by_cases h0 : k = 0
     · subst h0; simp
     · have e1 : decide (0 < k) = true := decide_eq_true (by omega)
       have e2 : decide (0 = k) = false := decide_eq_false (by omega)
       rw [e1, e2]; simp
    | succ i =>
     dsimp only
     by_cases e : i + 1 = k
     · subst e
       have e1 : decide (i + 1 < i + 1) = false := decide_eq_false (by omega)
       have e2 : decide (i < i + 1) = true := decide_eq_true (by omega)
       have e3 : decide (i + 1 < i + 1 + 1) = true := decide_eq_true (by omega)
       have e4 : decide (i < i + 1 + 1) = true := decide_eq_true (by omega)
       have e5 : decide (i + 1 = i + 1 + 1) = false := decide_eq_false (by omega)
       rw [e1, e2, e3, e4, e5, decide_eq_true rfl]
       simp only [Bool.false_and, Bool.true_and, Bool.false_or, Bool.or_false]
       exact Bool.or_comm _ _
     · by_cases e' : i = k
       · subst e'
         have e1 : decide (i + 1 < i) = false := decide_eq_false (by omega)
         have e2 : decide (i < i) = false := decide_eq_false (by omega)
         have e3 : decide (i + 1 = i) = false := decide_eq_false (by omega)
         have e4 : decide (i + 1 < i + 1) = false := decide_eq_false (by omega)
         have e5 : decide (i < i + 1) = true := decide_eq_true (by omega)
         rw [e1, e2, e3, e4, e5, decide_eq_true rfl]; simp
       · have e1 : decide (i + 1 < k + 1) = decide (i + 1 < k) := decide_eq_decide.2 (by omega)
         have e2 : decide (i < k + 1) = decide (i < k) := decide_eq_decide.2 (by omega)
         have e3 : decide (i + 1 = k) = false := decide_eq_false (by omega)
         have e4 : decide (i + 1 = k + 1) = false := decide_eq_false (by omega)
         rw [e1, e2, e3, e4]; simp
   by_cases hb : m.testBit k = true
   · rw [hb]
     simp only [if_true, show ((1 : Int) = 0) = False by simp, if_false, idx_n hlt, Option.bind_some]
     by_cases hp1 : ((p[k]).toNat : Int) = 37
     · rw [if_pos hp1]
       have e37 := u8_37.1 hp1
       obtain ⟨e1, e2⟩ := bs (n := p.length) hal (show k ≤ p.length by omega) hp
       rw [e1]
       refine Tm.some ⟨hlt, iw_n (by omega), _, rfl, e2, upto _ fun j => ?_⟩
       rw [bs_test, hb, hpk, e37]
       have : decide (k = j) = decide (j = k) := decide_eq_decide.2 eq_comm
       simp [isP, hit, this]
     · rw [if_neg hp1]
       have n37 : p[k] ≠ 37 := fun h => hp1 (u8_37.2 h)
       have e : (if ((p[k]).toNat : Int) = 95 then some true else some (decide (((p[k]).toNat : Int) = c))) = some (hit p[k]? c) := by
        rw [or_if, hpk]
        simp only [hit, n37, ne_eq, not_false_eq_true, decide_true, Bool.true_and]
        rw [← Bool.decide_or]
        exact congrArg some (decide_eq_decide.2 (by rw [u8_95]))
       rw [e]
       simp only [Option.bind_some]
       cases hh : hit p[k]? c with
       | true =>
        simp only [if_true, iw_n (k := k) (by omega), chk_ok (show ¬ ((k + 1 : Nat) : Int) < 0 by omega), Option.bind_some]
        obtain ⟨e1, e2⟩ := bs (n := p.length) hal (show k + 1 ≤ p.length by omega) hp
        rw [e1]
        refine Tm.some ⟨hlt, rfl, _, rfl, e2, upto _ fun j => ?_⟩
        rw [bs_test, hb, hh]
        have e3 : decide (k + 1 = j) = decide (j = k + 1) := decide_eq_decide.2 eq_comm
        have e4 : isP p[k]? = false := by rw [hpk]; exact decide_eq_false (fun h => n37 (Option.some.inj h))
        rw [e3, e4]; simp
       | false =>
        simp only [Bool.false_eq_true, if_false]
        refine Tm.some ⟨hlt, iw_n (by omega), a, rfl, hal, upto _ fun j => ?_⟩
        have e4 : isP p[k]? = false := by rw [hpk]; exact decide_eq_false (fun h => n37 (Option.some.inj h))
        rw [e4, hh]; simp
   · have hb' : m.testBit k = false := by simpa using hb
     rw [hb']
     simp only [Bool.false_eq_true, if_false, if_true]
     exact Tm.some ⟨hlt, iw_n (by omega), a, rfl, hal, upto _ fun j => by rw [hb']; simp⟩
 · refine Tm.neg (by omega) (Tm.some ?_)
   have : k = p.length := by omega
   subst this
   show (a : Int) = _
   rw [bits_eq (S := nxs p m.testBit c) hal fun j hj => ?_]
   rw [h1 j]
   unfold nxs
   have e0 : (decide (j < p.length) && m.testBit j && isP p[j]?) = (m.testBit j && isP p[j]?) := by
    by_cases hjl : j < p.length
    · rw [decide_eq_true hjl]; simp
    · rw [List.getElem?_eq_none (by omega)]; simp [isP]
   rw [e0]
   cases j with
   | zero => rfl
   | succ i =>
    have : decide (i < p.length) = true := decide_eq_true (by omega)
    simp only [this, Bool.true_and]
theorem pNext_tm {t : TTest} {s c : Int} (h : okT t = true) (hs : StOk t s) : Tm (fun N => pNext N t s c) (· = spN t s c) := by
 have h16 := (okT_len h).2.2
 unfold pNext spN
 by_cases hk : t.Kind = 1
 · obtain ⟨m, rfl, hm⟩ := hs.lk hk
   simp only [if_pos hk]
   refine (pNext_b1_tm h16 hm).eq ?_
   exact (pClosure_tm h16 bits_lt).eq (Tm.some rfl)
 · simp only [if_neg hk]
   unfold cmpN
   rcases hs.cm hk with h1 | h1 | h1
   · simp only [if_pos (show s ≥ 100 by omega)]; exact Tm.some rfl
   · simp only [if_pos (show s ≥ 100 by omega)]; exact Tm.some rfl
   · simp only [if_neg (show ¬ s ≥ 100 by omega)]
     obtain ⟨i, rfl⟩ := Int.eq_ofNat_of_zero_le h1.1
     have e0 : iw (i : Int) = (i : Int) := iw_eq (by omega) (by omega)
     simp only [e0]
     by_cases hl : (i : Int) = (t.Text.length : Int)
     · simp only [if_pos hl, Option.bind_some, if_true]
       rw [if_pos (.inl hl)]; exact Tm.some rfl
     · have hlt : i < t.Text.length := by omega
       have eg : t.Text.getD i 0 = t.Text[i] := by rw [List.getD_eq_getElem?_getD, List.getElem?_eq_getElem hlt]; rfl
       simp only [if_neg hl, idx_n hlt, Option.bind_some, Int.toNat_natCast, eg, false_or]
       by_cases g1 : c > ((t.Text[i]).toNat : Int)
       · rw [decide_eq_true g1, if_pos (show (i : Int) = (t.Text.length : Int) ∨ c > ((t.Text[i]).toNat : Int) from .inr g1)]; exact Tm.some rfl
       · rw [decide_eq_false g1, if_neg (show ¬ ((i : Int) = (t.Text.length : Int) ∨ c > ((t.Text[i]).toNat : Int)) from fun h => h.elim hl g1)]
         by_cases g2 : c < ((t.Text[i]).toNat : Int)
         · rw [if_pos g2, if_pos g2]; exact Tm.some rfl
         · rw [if_neg g2, if_neg g2]
           exact Tm.some (uw32_eq (z := (i : Int) + 1) (by omega) (by omega))
theorem pPassed_tm {t : TTest} {s : Int} (h : okT t = true) (hs : StOk t s) : Tm (fun N => pPassed N t s) (· = spF t s) := by
 have h16 := (okT_len h).2.2
 have h17 : 2 ^ (t.Text.length + 1) ≤ 2 ^ 17 := Nat.pow_le_pow_right (by decide) (by omega)
 unfold pPassed spF
 by_cases hk : t.Kind = 1
 · obtain ⟨m, rfl, hm⟩ := hs.lk hk
   simp only [if_pos hk, chk_ok (show ¬ (t.Text.length : Int) < 0 by omega), Option.bind_some, bt (m := m) (i := t.Text.length) (by omega) (by omega), Int.toNat_natCast]
   refine Tm.some ?_
   cases m.testBit t.Text.length <;> rfl
 · simp only [if_neg hk]
   have e0 : iw s = s := by rcases hs.cm hk with h1 | h1 | h1 <;> exact iw_eq (by omega) (by omega)
   rw [e0]
   by_cases h0 : t.Kind = 0
   · simp only [if_pos h0, Option.bind_some]; exact Tm.some rfl
   · simp only [if_neg h0]
     by_cases h2 : t.Kind = 2
     · simp only [if_pos h2, or_if, Option.bind_some]; exact Tm.some rfl
     · simp only [if_neg h2, or_if, Option.bind_some]; exact Tm.some rfl
def run (t : TTest) (s : Int) (x : List Int) : Int := x.foldl (spN t) s
theorem run_ok {t : TTest} (h : okT t = true) : ∀ {x : List Int} {s : Int}, StOk t s → StOk t (run t s x)
 | [], _, hs => hs
 | c :: x, _, hs => run_ok h (x := x) (stN_ok c h hs)
def pas (t : TTest) (x : List UInt8) : Bool := spF t (run t (sp0 t) (sby x))
theorem run_snoc {t : TTest} {s : Int} {x : List Int} {c : Int} : run t s (x ++ [c]) = spN t (run t s x) c := by simp [run]
end Go.D

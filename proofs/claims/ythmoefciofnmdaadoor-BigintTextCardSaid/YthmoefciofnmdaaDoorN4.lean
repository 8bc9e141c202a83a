/-
  Decimal numerals as lists of bytes: what Format writes and Parse reads (chapter 02, BigintText). Plain theorems.
-/
import Derived.Test.YthmoefciofnmdaaDoorN1
import Derived.Test.YthmoefciofnmdaaDoorFD
set_option linter.unusedSimpArgs false
set_option linter.unusedVariables false
namespace Go.D
open Go Go.X
def dec (n : Nat) : List UInt8 := if h : n = 0 then [] else dec (n / 10) ++ [UInt8.ofNat (48 + n % 10)]
termination_by n
decreasing_by omega
def IsDg (c : UInt8) : Prop := 48 ≤ c.toNat ∧ c.toNat ≤ 57
instance (c : UInt8) : Decidable (IsDg c) := inferInstanceAs (Decidable (_ ∧ _))
def ndec (s : List UInt8) : Nat := s.foldl (fun v c => 10 * v + (c.toNat - 48)) 0
theorem ndec_nil : ndec [] = 0 := rfl
theorem ndec_snoc (s : List UInt8) (c : UInt8) : ndec (s ++ [c]) = 10 * ndec s + (c.toNat - 48) := by simp [ndec, List.foldl_append]
theorem toNat_dg {r : Nat} (h : r < 10) : (UInt8.ofNat (48 + r)).toNat = 48 + r := by
  rw [UInt8.toNat_ofNat']; omega
theorem isDg_of {r : Nat} (h : r < 10) : IsDg (UInt8.ofNat (48 + r)) := by
  unfold IsDg; rw [toNat_dg h]; omega
theorem dg_back {c : UInt8} (h : IsDg c) : UInt8.ofNat (48 + (c.toNat - 48)) = c := by
  obtain ⟨h1, h2⟩ := h
  rw [show 48 + (c.toNat - 48) = c.toNat by omega]; simp
theorem dec_zero : dec 0 = [] := by rw [dec]; simp
theorem dec_pos {n : Nat} (h : 0 < n) : dec n = dec (n / 10) ++ [UInt8.ofNat (48 + n % 10)] := by
  rw [dec, dif_neg (by omega)]
theorem dec_ne {n : Nat} (h : 0 < n) : dec n ≠ [] := by rw [dec_pos h]; simp
theorem ndec_dec (n : Nat) : ndec (dec n) = n := by
  induction n using Nat.strongRecOn with
  | ind n ih =>
    rcases Nat.eq_zero_or_pos n with rfl | h
    · rw [dec_zero]; rfl
    · rw [dec_pos h, ndec_snoc, ih (n / 10) (by omega), toNat_dg (by omega)]; omega
theorem dec_dg (n : Nat) : ∀ c ∈ dec n, IsDg c := by
  induction n using Nat.strongRecOn with
  | ind n ih =>
    rcases Nat.eq_zero_or_pos n with rfl | h
    · rw [dec_zero]; simp
    · rw [dec_pos h]
      intro c hc
      rcases List.mem_append.1 hc with hc | hc
      · exact ih (n / 10) (by omega) c hc
      · rw [List.mem_singleton.1 hc]; exact isDg_of (by omega)
theorem dec_head (n : Nat) : ∀ c, (dec n).head? = some c → c.toNat ≠ 48 := by
  induction n using Nat.strongRecOn with
  | ind n ih =>
    rcases Nat.eq_zero_or_pos n with rfl | h
    · rw [dec_zero]; simp
    · rw [dec_pos h]
      intro c hc
      rcases Nat.eq_zero_or_pos (n / 10) with h0 | h0
      · rw [h0, dec_zero] at hc
        simp only [List.nil_append, List.head?_cons, Option.some.injEq] at hc
        rw [← hc, toNat_dg (by omega)]; omega
      · refine ih (n / 10) (by omega) c ?_
        cases hd : dec (n / 10) with
        | nil => exact absurd hd (dec_ne h0)
        | cons x t => rw [hd] at hc; simpa using hc
theorem ndec_pos {s : List UInt8} {c : UInt8} (hs : ∀ c ∈ s, IsDg c) (hc : s.head? = some c) (h : c.toNat ≠ 48) : 0 < ndec s := by
  have key : ∀ (t : List UInt8) (v : Nat), 0 < v → 0 < t.foldl (fun v c => 10 * v + (c.toNat - 48)) v := by
    intro t
    induction t with
    | nil => intro v hv; exact hv
    | cons x t ih => intro v hv; exact ih (10 * v + (x.toNat - 48)) (by omega)
  cases s with
  | nil => cases hc
  | cons x s =>
    simp only [List.head?_cons, Option.some.injEq] at hc
    subst hc
    have hx := hs x List.mem_cons_self
    unfold IsDg at hx
    exact key s (10 * 0 + (x.toNat - 48)) (by omega)
theorem dec_ndec : ∀ {s : List UInt8}, (∀ c ∈ s, IsDg c) → (∀ c, s.head? = some c → c.toNat ≠ 48) → dec (ndec s) = s := by
  intro s
  induction hn : s.length generalizing s with
  | zero => intro _ _; rw [List.length_eq_zero_iff.1 hn, ndec_nil, dec_zero]
  | succ n ih =>
    intro h1 h2
    have hne : s ≠ [] := by intro e; rw [e] at hn; cases hn
    obtain ⟨t, c, rfl⟩ : ∃ t c, s = t ++ [c] := ⟨s.dropLast, s.getLast hne, (List.dropLast_concat_getLast hne).symm⟩
    have ht : t.length = n := by simpa using hn
    have hc := h1 c (by simp)
    have hcd := hc
    unfold IsDg at hcd
    have hi := ih ht (fun c hc => h1 c (List.mem_append_left _ hc)) (fun c' hc' => h2 c' (by
      cases t with
      | nil => cases hc'
      | cons x t => simpa using hc'))
    have hp : 0 < ndec (t ++ [c]) := by
      cases hh : (t ++ [c]).head? with
      | none => simp at hh
      | some x => exact ndec_pos h1 hh (h2 x hh)
    rw [dec_pos hp]
    rw [ndec_snoc] at *
    rw [show (10 * ndec t + (c.toNat - 48)) / 10 = ndec t by omega, show (10 * ndec t + (c.toNat - 48)) % 10 = c.toNat - 48 by omega, hi, dg_back hc]
theorem decDigits_dec {n : Nat} (h : 0 < n) : Go.Lib.decDigits n = dec n := by
  induction n using Nat.strongRecOn with
  | ind n ih =>
    rw [Go.Lib.decDigits]
    split
    · rename_i h10
      rw [dec_pos h, show n / 10 = 0 by omega, dec_zero, show n % 10 = n by omega]; rfl
    · rw [ih (n / 10) (by omega) (by omega), dec_pos h]
theorem decDigits_zero : Go.Lib.decDigits 0 = [48] := by rw [Go.Lib.decDigits, dif_pos (by omega)]; rfl
def pad : Nat → Nat → List UInt8
  | 0, _ => []
  | k + 1, r => pad k (r / 10) ++ [UInt8.ofNat (48 + r % 10)]
theorem dec_pad : ∀ {k q r : Nat}, 0 < q → r < 10 ^ k → dec (q * 10 ^ k + r) = dec q ++ pad k r
  | 0, q, r, h, hr => by
    have : r = 0 := by simpa using hr
    rw [this, pad]; simp
  | k + 1, q, r, h, hr => by
    have hm : 0 < 10 ^ k := Nat.pow_pos (by omega)
    have hq : 0 < q * 10 ^ k := Nat.mul_pos h hm
    have hpow : 10 ^ (k + 1) = 10 * 10 ^ k := by rw [Nat.pow_succ, Nat.mul_comm]
    have e : q * 10 ^ (k + 1) = 10 * (q * 10 ^ k) := by rw [hpow, Nat.mul_left_comm]
    rw [e] at *
    rw [dec_pos (by omega), show (10 * (q * 10 ^ k) + r) / 10 = q * 10 ^ k + r / 10 by omega, show (10 * (q * 10 ^ k) + r) % 10 = r % 10 by omega, dec_pad h (by omega), pad, List.append_assoc]
theorem pad_zero : ∀ {k : Nat}, pad k 0 = List.replicate k 48
  | 0 => rfl
  | k + 1 => by rw [pad, pad_zero, List.replicate_succ']; rfl
theorem decDigits_len : ∀ {k r : Nat}, 0 < k → r < 10 ^ k → (Go.Lib.decDigits r).length ≤ k
  | 0, _, h, _ => by omega
  | k + 1, r, _, hr => by
    rw [Go.Lib.decDigits]
    split
    · simp
    · have hk : 0 < k := by
        rcases Nat.eq_zero_or_pos k with rfl | h
        · simp at hr; omega
        · exact h
      have := decDigits_len (k := k) (r := r / 10) hk (by rw [Nat.pow_succ] at hr; omega)
      simp; omega
theorem pad_eq : ∀ {k r : Nat}, 0 < k → r < 10 ^ k → pad k r = List.replicate (k - (Go.Lib.decDigits r).length) 48 ++ Go.Lib.decDigits r
  | 0, _, h, _ => by omega
  | k + 1, r, _, hr => by
    rw [Go.Lib.decDigits, pad]
    split
    · rw [show r / 10 = 0 by omega, pad_zero, show r % 10 = r by omega]; simp
    · have hk : 0 < k := by
        rcases Nat.eq_zero_or_pos k with rfl | h
        · simp at hr; omega
        · exact h
      rw [pad_eq (k := k) hk (by rw [Nat.pow_succ] at hr; omega)]
      rw [List.length_append, ← List.append_assoc]
      congr 2
      congr 1
      show _ = k + 1 - (_ + 1)
      omega
theorem repeatL_one : ∀ {c : Nat}, Go.Lib.repeatL [48] c = List.replicate c (48 : UInt8)
  | 0 => rfl
  | c + 1 => by rw [Go.Lib.repeatL, repeatL_one, List.replicate_succ]; rfl
theorem join_empty : ∀ {xs : List (List UInt8)}, Go.Lib.join xs [] = xs.flatten
  | [] => rfl
  | x :: xs => by
    rw [Go.Lib.join_cons, Go.Lib.joinTail]
    simp
def txt (v : Int) : List UInt8 := if v < 0 then 45 :: dec v.natAbs else Go.Lib.decDigits v.toNat
theorem txt_neg {v : Int} (h : v < 0) : txt v = 45 :: dec v.natAbs := by rw [txt, if_pos h]
theorem txt_pos {v : Int} (h : 0 < v) : txt v = dec v.toNat := by rw [txt, if_neg (by omega), decDigits_dec (by omega)]
theorem txt_zero : txt 0 = [48] := by rw [txt, if_neg (by omega)]; exact decDigits_zero
def body (s : List UInt8) : List UInt8 := Go.Lib.trimPrefix s [45]
theorem body_cons {c : UInt8} {s : List UInt8} : body (c :: s) = if c = 45 then s else c :: s := by
  unfold body Go.Lib.trimPrefix Go.Lib.hasPrefix
  by_cases h : c = 45
  · subst h; rw [if_pos rfl, if_pos (by rfl)]; rfl
  · rw [if_neg h, if_neg]
    intro e
    have e1 : ([45] : List UInt8).isPrefixOf (c :: s) = true := e
    rw [List.isPrefixOf_cons_cons] at e1
    simp only [Bool.and_eq_true, beq_iff_eq] at e1
    exact h e1.1.symm
theorem body_nil : body [] = [] := by
  unfold body Go.Lib.trimPrefix Go.Lib.hasPrefix; simp
theorem dg_ne45 {c : UInt8} (h : IsDg c) : c ≠ 45 := by
  intro e; subst e; unfold IsDg at h; simp at h
theorem body_txt (v : Int) : body (txt v) = Go.Lib.decDigits v.natAbs := by
  rcases Int.lt_trichotomy v 0 with h | rfl | h
  · rw [txt_neg h, body_cons, if_pos rfl, decDigits_dec (by omega)]
  · rw [txt_zero, body_cons, if_neg (by decide)]; exact decDigits_zero.symm
  · rw [txt_pos h, decDigits_dec (by omega), show v.natAbs = v.toNat by omega]
    cases hd : dec v.toNat with
    | nil => exact body_nil
    | cons c t => rw [body_cons, if_neg (dg_ne45 (dec_dg v.toNat c (by rw [hd]; exact List.mem_cons_self)))]
theorem decDigits_dg (n : Nat) : ∀ c ∈ Go.Lib.decDigits n, IsDg c := by
  rcases Nat.eq_zero_or_pos n with rfl | h
  · rw [decDigits_zero]; intro c hc; rw [List.mem_singleton.1 hc]; decide
  · rw [decDigits_dec h]; exact dec_dg n
theorem decDigits_ne (n : Nat) : Go.Lib.decDigits n ≠ [] := by
  rcases Nat.eq_zero_or_pos n with rfl | h
  · rw [decDigits_zero]; simp
  · rw [decDigits_dec h]; exact dec_ne h
theorem ndec_decDigits (n : Nat) : ndec (Go.Lib.decDigits n) = n := by
  rcases Nat.eq_zero_or_pos n with rfl | h
  · rw [decDigits_zero]; rfl
  · rw [decDigits_dec h]; exact ndec_dec n
def Good (s : List UInt8) : Prop := body s ≠ [] ∧ (∀ c ∈ body s, IsDg c) ∧ (∀ c, (body s).head? = some c → c.toNat = 48 → s = [48])
def sval (s : List UInt8) : Int := if s.head? = some 45 then -(ndec (body s) : Int) else ndec (body s)
theorem head_body {s : List UInt8} (h : s.head? = some 45) : s = 45 :: body s := by
  cases s with
  | nil => cases h
  | cons c t => simp only [List.head?_cons, Option.some.injEq] at h; subst h; rw [body_cons, if_pos rfl]
theorem nohead_body {s : List UInt8} (h : s.head? ≠ some 45) : body s = s := by
  cases s with
  | nil => exact body_nil
  | cons c t =>
    simp only [List.head?_cons, ne_eq, Option.some.injEq] at h
    rw [body_cons, if_neg h]
theorem sval_txt (v : Int) : sval (txt v) = v := by
  unfold sval
  rw [body_txt, ndec_decDigits]
  rcases Int.lt_trichotomy v 0 with h | rfl | h
  · rw [if_pos (by rw [txt_neg h]; rfl)]; omega
  · rw [if_neg (by rw [txt_zero]; decide)]; rfl
  · rw [if_neg]
    · omega
    · rw [txt_pos h]
      intro e
      have := dec_dg v.toNat 45 (List.mem_of_head? e)
      exact dg_ne45 this rfl
theorem good_txt (v : Int) : Good (txt v) := by
  unfold Good
  rw [body_txt]
  refine ⟨decDigits_ne _, decDigits_dg _, fun c hc h => ?_⟩
  rcases Nat.eq_zero_or_pos v.natAbs with h0 | h0
  · have : v = 0 := by omega
    rw [this]; exact txt_zero
  · rw [decDigits_dec h0] at hc
    exact absurd h (dec_head _ c hc)
theorem txt_good {s : List UInt8} (h : Good s) : txt (sval s) = s := by
  obtain ⟨h1, h2, h3⟩ := h
  by_cases h0 : s = [48]
  · subst h0; decide +kernel
  have h4 : ∀ c, (body s).head? = some c → c.toNat ≠ 48 := fun c hc e => h0 (h3 c hc e)
  have hd := dec_ndec h2 h4
  have hp : 0 < ndec (body s) := by
    cases hb : (body s).head? with
    | none => exact absurd (List.head?_eq_none_iff.1 hb) h1
    | some c => exact ndec_pos h2 hb (h4 c hb)
  unfold sval
  by_cases hs : s.head? = some 45
  · rw [if_pos hs, txt_neg (by omega), show (-(ndec (body s) : Int)).natAbs = ndec (body s) by omega, hd]
    exact (head_body hs).symm
  · rw [if_neg hs, txt_pos (by omega), Int.toNat_natCast, hd]
    exact nohead_body hs
theorem good_iff {s : List UInt8} : Good s ↔ txt (sval s) = s := ⟨txt_good, fun h => h ▸ good_txt _⟩
def Parsed (s : List UInt8) (r : Big × Int) : Prop := (Good s → Is r.1 (sval s) ∧ r.2 = 0) ∧ (¬ Good s → r = (Big.mk false [], 2))
theorem ndec_lt {s : List UInt8} (h : ∀ c ∈ s, IsDg c) : ndec s < 10 ^ s.length := by
  induction hn : s.length generalizing s with
  | zero => rw [List.length_eq_zero_iff.1 hn]; decide
  | succ n ih =>
    have hne : s ≠ [] := by intro e; rw [e] at hn; cases hn
    obtain ⟨t, c, rfl⟩ : ∃ t c, s = t ++ [c] := ⟨s.dropLast, s.getLast hne, (List.dropLast_concat_getLast hne).symm⟩
    have ht : t.length = n := by simpa using hn
    have hi := ih (fun c hc => h c (List.mem_append_left _ hc)) ht
    have hc := h c (by simp)
    unfold IsDg at hc
    rw [ndec_snoc, Nat.pow_succ]; omega
end Go.D

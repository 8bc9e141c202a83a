/-
  Decimal numerals as lists of bytes: what Format writes and Parse reads (chapter 02, BigintText). Plain theorems.
-/
import Derived.Test.YthmoefciofnmdaaDoorN1
import Derived.Test.YthmoefciofnmdaaDoorFD
set_option linter.unusedSimpArgs false
set_option linter.unusedVariables false
namespace Go.D
open Go Go.X
def dec (n : Nat) : List UInt8 := if h : n = 0 then [] else dec (n / 10) ++ [UInt8.ofNat (48 + n % 10)]
termination_by n
decreasing_by omega
def IsDg (c : UInt8) : Prop := 48 ≤ c.toNat ∧ c.toNat ≤ 57
instance (c : UInt8) : Decidable (IsDg c) := inferInstanceAs (Decidable (_ ∧ _))
theorem dec_zero : dec 0 = [] := by rw [dec]; simp
theorem dec_pos {n : Nat} (h : 0 < n) : dec n = dec (n / 10) ++ [UInt8.ofNat (48 + n % 10)] := by
  rw [dec, dif_neg (by omega)]
theorem dec_ne {n : Nat} (h : 0 < n) : dec n ≠ [] := by rw [dec_pos h]; simp
theorem decDigits_dec {n : Nat} (h : 0 < n) : Go.Lib.decDigits n = dec n := by
  induction n using Nat.strongRecOn with
  | ind n ih =>
    rw [Go.Lib.decDigits]
    split
    · rename_i h10
      rw [dec_pos h, show n / 10 = 0 by omega, dec_zero, show n % 10 = n by omega]; rfl
    · rw [ih (n / 10) (by omega) (by omega), dec_pos h]
theorem decDigits_zero : Go.Lib.decDigits 0 = [48] := by rw [Go.Lib.decDigits, dif_pos (by omega)]; rfl
def pad : Nat → Nat → List UInt8
  | 0, _ => []
  | k + 1, r => pad k (r / 10) ++ [UInt8.ofNat (48 + r % 10)]
theorem dec_pad : ∀ {k q r : Nat}, 0 < q → r < 10 ^ k → dec (q * 10 ^ k + r) = dec q ++ pad k r
  | 0, q, r, h, hr => by
    have : r = 0 := by simpa using hr
    rw [this, pad]; simp
  | k + 1, q, r, h, hr => by
    have hm : 0 < 10 ^ k := Nat.pow_pos (by omega)
    have hq : 0 < q * 10 ^ k := Nat.mul_pos h hm
    have hpow : 10 ^ (k + 1) = 10 * 10 ^ k := by rw [Nat.pow_succ, Nat.mul_comm]
    have e : q * 10 ^ (k + 1) = 10 * (q * 10 ^ k) := by rw [hpow, Nat.mul_left_comm]
    rw [e] at *
    rw [dec_pos (by omega), show (10 * (q * 10 ^ k) + r) / 10 = q * 10 ^ k + r / 10 by omega, show (10 * (q * 10 ^ k) + r) % 10 = r % 10 by omega, dec_pad h (by omega), pad, List.append_assoc]
theorem pad_zero : ∀ {k : Nat}, pad k 0 = List.replicate k 48
  | 0 => rfl
  | k + 1 => by rw [pad, pad_zero, List.replicate_succ']; rfl
theorem decDigits_len : ∀ {k r : Nat}, 0 < k → r < 10 ^ k → (Go.Lib.decDigits r).length ≤ k
  | 0, _, h, _ => by omega
  | k + 1, r, _, hr => by
    rw [Go.Lib.decDigits]
    split
    · simp
    · have hk : 0 < k := by
        rcases Nat.eq_zero_or_pos k with rfl | h
        · simp at hr; omega
        · exact h
      have := decDigits_len (k := k) (r := r / 10) hk (by rw [Nat.pow_succ] at hr; omega)
      simp; omega
theorem pad_eq : ∀ {k r : Nat}, 0 < k → r < 10 ^ k → pad k r = List.replicate (k - (Go.Lib.decDigits r).length) 48 ++ Go.Lib.decDigits r
  | 0, _, h, _ => by omega
  | k + 1, r, _, hr => by
    rw [Go.Lib.decDigits, pad]
    split
    · rw [show r / 10 = 0 by omega, pad_zero, show r % 10 = r by omega]; simp
    · have hk : 0 < k := by
        rcases Nat.eq_zero_or_pos k with rfl | h
        · simp at hr; omega
        · exact h
      rw [pad_eq (k := k) hk (by rw [Nat.pow_succ] at hr; omega)]
      rw [List.length_append, ← List.append_assoc]
      congr 2
      congr 1
      show _ = k + 1 - (_ + 1)
      omega
theorem repeatL_one : ∀ {c : Nat}, Go.Lib.repeatL [48] c = List.replicate c (48 : UInt8)
  | 0 => rfl
  | c + 1 => by rw [Go.Lib.repeatL, repeatL_one, List.replicate_succ]; rfl
theorem join_empty : ∀ {xs : List (List UInt8)}, Go.Lib.join xs [] = xs.flatten
  | [] => rfl
  | x :: xs => by
    rw [Go.Lib.join_cons, Go.Lib.joinTail]
    simp
def txt (v : Int) : List UInt8 := if v < 0 then 45 :: dec v.natAbs else Go.Lib.decDigits v.toNat
theorem txt_neg {v : Int} (h : v < 0) : txt v = 45 :: dec v.natAbs := by rw [txt, if_pos h]
theorem txt_pos {v : Int} (h : 0 < v) : txt v = dec v.toNat := by rw [txt, if_neg (by omega), decDigits_dec (by omega)]
theorem txt_zero : txt 0 = [48] := by rw [txt, if_neg (by omega)]; exact decDigits_zero
def body (s : List UInt8) : List UInt8 := Go.Lib.trimPrefix s [45]
theorem decDigits_ne (n : Nat) : Go.Lib.decDigits n ≠ [] := by
  rcases Nat.eq_zero_or_pos n with rfl | h
  · rw [decDigits_zero]; simp
  · rw [decDigits_dec h]; exact dec_ne h
end Go.D

/-
 Tests of texts: the states, the steps and the answers of both programs. Plain theorems.
-/
import Derived.Test.YtaakoedphmeenaaK1
set_option linter.unusedSimpArgs false
set_option linter.unusedVariables false
namespace Go.D
open Go Go.X
def bits (S : Nat → Bool) : Nat → Nat
 | 0 => 0
 | n + 1 => bits S n ||| (if S n then 2 ^ n else 0)
theorem u32_n {a : Nat} (h : a < 4294967296) : IntKind.u32.wrap (a : Int) = (a : Int) := wq_u32 rfl h
theorem bsh {i : Nat} (hi : i ≤ 31) : bshl .u32 1 (i : Int) = ((2 ^ i : Nat) : Int) := by
 unfold bshl
 rw [show min ((i : Int)).toNat IntKind.u32.bits = i by show min _ 32 = i; omega]
 have h : 2 ^ i < 4294967296 := Nat.lt_of_le_of_lt (Nat.pow_le_pow_right (by decide) hi) (by decide)
 rw [Int.one_mul, show ((2 : Int) ^ i) = ((2 ^ i : Nat) : Int) by simp]
 exact u32_n h
theorem bs {m i n : Nat} (hm : m < 2 ^ (n + 1)) (hi : i ≤ n) (hn : n ≤ 16) : bor .u32 (m : Int) (bshl .u32 1 (i : Int)) = ((m ||| 2 ^ i : Nat) : Int) ∧ m ||| 2 ^ i < 2 ^ (n + 1) := by
 have h17 : 2 ^ (n + 1) ≤ 2 ^ 17 := Nat.pow_le_pow_right (by decide) (by omega)
 have h2 : 2 ^ i < 2 ^ (n + 1) := Nat.pow_lt_pow_right (by decide) (by omega)
 refine ⟨?_, Nat.or_lt_two_pow hm h2⟩
 rw [bsh (by omega), bor_nat (u32_n (by omega)) (u32_n (by omega))]
def isP (o : Option UInt8) : Bool := decide (o = some 37)
def clo (p : List UInt8) (S : Nat → Bool) : Nat → Bool
 | 0 => S 0
 | i + 1 => S (i + 1) || (clo p S i && isP p[i]?)
def hit (o : Option UInt8) (c : Int) : Bool := match o with
 | some b => decide (b ≠ 37) && (decide (b = 95) || decide ((b.toNat : Int) = c))
 | none => false
def nxs (p : List UInt8) (S : Nat → Bool) (c : Int) : Nat → Bool := fun j => (S j && isP p[j]?) || (match j with | 0 => false | i + 1 => S i && hit p[i]? c)
structure StOk (t : TTest) (s : Int) : Prop where
 lk : t.Kind = 1 → ∃ m : Nat, s = (m : Int) ∧ m < 2 ^ (t.Text.length + 1)
 cm : t.Kind ≠ 1 → s = 100 ∨ s = 101 ∨ (0 ≤ s ∧ s ≤ t.Text.length)
def sp0 (t : TTest) : Int := if t.Kind = 1 then ((bits (clo t.Text (Nat.testBit 1)) (t.Text.length + 1) : Nat) : Int) else 0
def cmpN (x : List UInt8) (s c : Int) : Int := if s ≥ 100 then s else if s = x.length ∨ c > ((x.getD s.toNat 0).toNat : Int) then 101 else if c < ((x.getD s.toNat 0).toNat : Int) then 100 else s + 1
def spN (t : TTest) (s c : Int) : Int := if t.Kind = 1 then ((bits (clo t.Text (Nat.testBit (bits (nxs t.Text (Nat.testBit s.toNat) c) (t.Text.length + 1)))) (t.Text.length + 1) : Nat) : Int) else cmpN t.Text s c
def run (t : TTest) (s : Int) (x : List Int) : Int := x.foldl (spN t) s
end Go.D

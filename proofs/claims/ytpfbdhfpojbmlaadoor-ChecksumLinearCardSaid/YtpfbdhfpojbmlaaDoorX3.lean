/-
  What single operations hand on. Plain theorems over any program.
-/
import Derived.Test.YtpfbdhfpojbmlaaDoorX2
import Derived.WalkKit
set_option linter.unusedSimpArgs false
set_option linter.unusedVariables false
namespace Go.X
open Go Go.RowKit

/-! ## Wraps -/
theorem wq_i64 {z z' : Int} (h : z = z') (h1 : -9223372036854775808 ≤ z') (h2 : z' ≤ 9223372036854775807) : IntKind.i64.wrap z = z' := by
  subst h; simp [IntKind.wrap, IntKind.signed, IntKind.bits]; split <;> omega
theorem wq_u64 {z : Int} {z' : Nat} (h : z = (z' : Int)) (h2 : z' < 18446744073709551616) : IntKind.u64.wrap z = (z' : Int) := by
  subst h; simp [IntKind.wrap, IntKind.signed, IntKind.bits]; omega
theorem wq_u32 {z : Int} {z' : Nat} (h : z = (z' : Int)) (h2 : z' < 4294967296) : IntKind.u32.wrap z = (z' : Int) := by
  subst h; simp [IntKind.wrap, IntKind.signed, IntKind.bits]; omega
theorem wq_u16 {z : Int} {z' : Nat} (h : z = (z' : Int)) (h2 : z' < 65536) : IntKind.u16.wrap z = (z' : Int) := by
  subst h; simp [IntKind.wrap, IntKind.signed, IntKind.bits]; omega
theorem wq_u8 {z : Int} {z' : Nat} (h : z = (z' : Int)) (h2 : z' < 256) : IntKind.u8.wrap z = (z' : Int) := by
  subst h; simp [IntKind.wrap, IntKind.signed, IntKind.bits]; omega
theorem wm_u64 {z : Int} {z' : Nat} (h : z = (z' : Int)) : IntKind.u64.wrap z = ((z' % 18446744073709551616 : Nat) : Int) := by
  subst h; simp [IntKind.wrap, IntKind.signed, IntKind.bits]
theorem wm_u32 {z : Int} {z' : Nat} (h : z = (z' : Int)) : IntKind.u32.wrap z = ((z' % 4294967296 : Nat) : Int) := by
  subst h; simp [IntKind.wrap, IntKind.signed, IntKind.bits]
theorem wm_u16 {z : Int} {z' : Nat} (h : z = (z' : Int)) : IntKind.u16.wrap z = ((z' % 65536 : Nat) : Int) := by
  subst h; simp [IntKind.wrap, IntKind.signed, IntKind.bits]
theorem wm_u8 {z : Int} {z' : Nat} (h : z = (z' : Int)) : IntKind.u8.wrap z = ((z' % 256 : Nat) : Int) := by
  subst h; simp [IntKind.wrap, IntKind.signed, IntKind.bits]
/-- a difference that may fall below zero -/
theorem ws_u64 {z : Int} {a b : Nat} (h : z = (a : Int) - (b : Int)) (hb : b ≤ 18446744073709551616) : IntKind.u64.wrap z = (((a + (18446744073709551616 - b)) % 18446744073709551616 : Nat) : Int) := by
  subst h; simp [IntKind.wrap, IntKind.signed, IntKind.bits]; omega

/-! ## Values -/
section
variable {P : Program} {ty : TypeId} {ρ : Operand → Value} {w : World} {R : Value → World → Prop}

theorem OpY.move {x : Operand} {v : Value} (hx : ρ x = v) (h : R v w) : OpY P (.move x) ty ρ w R := by subst hx; exact h
theorem OpY.assign {x : Operand} {v : Value} (hx : ρ x = v) (h : R v w) : OpY P (.assign x) ty ρ w R := by subst hx; exact h
theorem OpY.pick {c a b : Operand} {t : Bool} {v : Value} (hc : ρ c = .bool t) (hv : (if t = true then ρ a else ρ b) = v) (h : R v w) : OpY P (.pick c a b) ty ρ w R := by
  subst hv
  cases t <;> simp [OpY, bareOp, execOp, hc, asBool, upon] at h ⊢ <;> exact h
theorem OpY.pick_t {c a b : Operand} {t : Bool} {v : Value} (hc : ρ c = .bool t) (ht : t = true) (hv : ρ a = v) (h : R v w) : OpY P (.pick c a b) ty ρ w R :=
  OpY.pick hc (by rw [if_pos ht]; exact hv) h
theorem OpY.pick_f {c a b : Operand} {t : Bool} {v : Value} (hc : ρ c = .bool t) (ht : t = false) (hv : ρ b = v) (h : R v w) : OpY P (.pick c a b) ty ρ w R :=
  OpY.pick hc (by rw [if_neg (by rw [ht]; simp)]; exact hv) h

theorem OpY.binInt {op : BinOp} {t u : TypeId} {a b : Operand} {k k' : IntKind} {x y : Int} {v : Value} (hx : ρ a = .int k x) (hy : ρ b = .int k' y) (hr : (binOp op t (.int k x) (.int k' y)).run P w = .ok v w) (h : R v w) :
    OpY P (.binOp op t a b u) ty ρ w R := by
  have hg : (eqGuard op t a b (.int k x) (.int k' y)).run P w = .ok () w := by
    unfold eqGuard; cases op <;> simp
  simp only [OpY, bareOp, execOp, hx, hy]
  simp [hg, hr, upon]
  exact h
theorem OpY.add {t u : TypeId} {a b : Operand} {k : IntKind} {x y z : Int} (hx : ρ a = .int k x) (hy : ρ b = .int k y) (hz : k.wrap (x + y) = z) (h : R (.int k z) w) : OpY P (.binOp .add t a b u) ty ρ w R :=
  OpY.binInt hx hy (by subst hz; simp [binOp, Op.intArith]) h
theorem OpY.sub {t u : TypeId} {a b : Operand} {k : IntKind} {x y z : Int} (hx : ρ a = .int k x) (hy : ρ b = .int k y) (hz : k.wrap (x - y) = z) (h : R (.int k z) w) : OpY P (.binOp .sub t a b u) ty ρ w R :=
  OpY.binInt hx hy (by subst hz; simp [binOp, Op.intArith]) h
theorem OpY.mul {t u : TypeId} {a b : Operand} {k : IntKind} {x y z : Int} (hx : ρ a = .int k x) (hy : ρ b = .int k y) (hz : k.wrap (x * y) = z) (h : R (.int k z) w) : OpY P (.binOp .mul t a b u) ty ρ w R :=
  OpY.binInt hx hy (by subst hz; simp [binOp, Op.intArith]) h

/-- Both operands are natural numbers within the kind. -/
theorem OpY.quo {t u : TypeId} {a b : Operand} {k : IntKind} {x y : Nat} (hx : ρ a = .int k (x : Nat)) (hy : ρ b = .int k (y : Nat)) (h0 : 0 < y) (hz : k.wrap ((x : Nat) : Int) = ((x : Nat) : Int)) (h : R (.int k ((x / y : Nat) : Int)) w) : OpY P (.binOp .quo t a b u) ty ρ w R := by
  have hy0 : ¬ ((y : Int) = 0) := by omega
  have hle : x / y ≤ x := Nat.div_le_self _ _
  have ht : (Int.tdiv (x : Int) (y : Int)) = ((x / y : Nat) : Int) := rfl
  have hw : k.wrap (((x / y : Nat)) : Int) = ((x / y : Nat) : Int) := by
    generalize x / y = q at hle
    cases k <;> simp [IntKind.wrap, IntKind.signed, IntKind.bits] at hz ⊢ <;> omega
  refine OpY.binInt hx hy ?_ h
  simp only [binOp, Op.intDiv, hy0, if_false, ne_eq, not_true_eq_false]
  rw [ht, hw]; rfl
theorem OpY.rem {t u : TypeId} {a b : Operand} {k : IntKind} {x y : Nat} (hx : ρ a = .int k (x : Nat)) (hy : ρ b = .int k (y : Nat)) (h0 : 0 < y) (h : R (.int k ((x % y : Nat) : Int)) w) : OpY P (.binOp .rem t a b u) ty ρ w R := by
  have hy0 : ¬ ((y : Int) = 0) := by omega
  have ht : (Int.tmod (x : Int) (y : Int)) = ((x % y : Nat) : Int) := rfl
  refine OpY.binInt hx hy ?_ h
  simp only [binOp, Op.intDiv, hy0, if_false, ne_eq, not_true_eq_false]
  rw [ht]; rfl
/-- The general forms: Go's own division. -/
theorem OpY.quoI {t u : TypeId} {a b : Operand} {k : IntKind} {x y z : Int} (hx : ρ a = .int k x) (hy : ρ b = .int k y) (h0 : ¬ y = 0) (hz : k.wrap (x.tdiv y) = z) (h : R (.int k z) w) : OpY P (.binOp .quo t a b u) ty ρ w R := by
  refine OpY.binInt hx hy ?_ h
  subst hz
  simp only [binOp, Op.intDiv, h0, if_false, ne_eq, not_true_eq_false]; rfl
theorem OpY.remI {t u : TypeId} {a b : Operand} {k : IntKind} {x y : Int} (hx : ρ a = .int k x) (hy : ρ b = .int k y) (h0 : ¬ y = 0) (h : R (.int k (x.tmod y)) w) : OpY P (.binOp .rem t a b u) ty ρ w R := by
  refine OpY.binInt hx hy ?_ h
  simp only [binOp, Op.intDiv, h0, if_false, ne_eq, not_true_eq_false]; rfl

theorem ofInt_nat (n m : Nat) : BitVec.ofInt n (m : Int) = BitVec.ofNat n m := by
  apply BitVec.eq_of_toNat_eq; simp [BitVec.toNat_ofInt]
/-- Bit operations on natural numbers within an unsigned kind, or within the upper half of a signed one. -/
theorem bits_wrap {k : IntKind} {z x y : Nat} (hx : k.wrap (x : Int) = (x : Int)) (hy : k.wrap (y : Int) = (y : Int)) (hz : z < 2 ^ k.bits) (hs : k.signed = true → z < 2 ^ (k.bits - 1)) : k.wrap (z : Int) = (z : Int) := by
  cases k <;> simp [IntKind.wrap, IntKind.signed, IntKind.bits] at hz hs ⊢ <;> omega
theorem nat_of_wrap {k : IntKind} {x : Nat} (hx : k.wrap (x : Int) = (x : Int)) : x < 2 ^ k.bits ∧ (k.signed = true → x < 2 ^ (k.bits - 1)) := by
  cases k <;> simp [IntKind.wrap, IntKind.signed, IntKind.bits] at hx ⊢ <;> omega
theorem OpY.and {t u : TypeId} {a b : Operand} {k : IntKind} {x y : Nat} (hx : ρ a = .int k (x : Nat)) (hy : ρ b = .int k (y : Nat)) (kx : k.wrap ((x : Nat) : Int) = ((x : Nat) : Int)) (ky : k.wrap ((y : Nat) : Int) = ((y : Nat) : Int))
    (h : R (.int k ((x &&& y : Nat) : Int)) w) : OpY P (.binOp .and t a b u) ty ρ w R := by
  refine OpY.binInt hx hy ?_ h
  obtain ⟨h1, h2⟩ := nat_of_wrap kx
  obtain ⟨h3, h4⟩ := nat_of_wrap ky
  have hlt : x &&& y < 2 ^ k.bits := Nat.lt_of_le_of_lt Nat.and_le_left h1
  have hw := bits_wrap (z := x &&& y) kx ky hlt (fun hs => Nat.lt_of_le_of_lt Nat.and_le_left (h2 hs))
  simp only [binOp, Op.intBits, ne_eq, not_true_eq_false, if_false, ofInt_nat]
  rw [show (BitVec.ofNat k.bits x &&& BitVec.ofNat k.bits y).toNat = x &&& y by simp [BitVec.toNat_and, Nat.mod_eq_of_lt h1, Nat.mod_eq_of_lt h3], hw]; rfl
theorem OpY.or {t u : TypeId} {a b : Operand} {k : IntKind} {x y : Nat} (hx : ρ a = .int k (x : Nat)) (hy : ρ b = .int k (y : Nat)) (kx : k.wrap ((x : Nat) : Int) = ((x : Nat) : Int)) (ky : k.wrap ((y : Nat) : Int) = ((y : Nat) : Int))
    (h : R (.int k ((x ||| y : Nat) : Int)) w) : OpY P (.binOp .or t a b u) ty ρ w R := by
  refine OpY.binInt hx hy ?_ h
  obtain ⟨h1, h2⟩ := nat_of_wrap kx
  obtain ⟨h3, h4⟩ := nat_of_wrap ky
  have hw := bits_wrap (z := x ||| y) kx ky (Nat.or_lt_two_pow h1 h3) (fun hs => Nat.or_lt_two_pow (h2 hs) (h4 hs))
  simp only [binOp, Op.intBits, ne_eq, not_true_eq_false, if_false, ofInt_nat]
  rw [show (BitVec.ofNat k.bits x ||| BitVec.ofNat k.bits y).toNat = x ||| y by simp [BitVec.toNat_or, Nat.mod_eq_of_lt h1, Nat.mod_eq_of_lt h3], hw]; rfl
theorem OpY.xor {t u : TypeId} {a b : Operand} {k : IntKind} {x y : Nat} (hx : ρ a = .int k (x : Nat)) (hy : ρ b = .int k (y : Nat)) (kx : k.wrap ((x : Nat) : Int) = ((x : Nat) : Int)) (ky : k.wrap ((y : Nat) : Int) = ((y : Nat) : Int))
    (h : R (.int k ((x ^^^ y : Nat) : Int)) w) : OpY P (.binOp .xor t a b u) ty ρ w R := by
  refine OpY.binInt hx hy ?_ h
  obtain ⟨h1, h2⟩ := nat_of_wrap kx
  obtain ⟨h3, h4⟩ := nat_of_wrap ky
  have hw := bits_wrap (z := x ^^^ y) kx ky (Nat.xor_lt_two_pow h1 h3) (fun hs => Nat.xor_lt_two_pow (h2 hs) (h4 hs))
  simp only [binOp, Op.intBits, ne_eq, not_true_eq_false, if_false, ofInt_nat]
  rw [show (BitVec.ofNat k.bits x ^^^ BitVec.ofNat k.bits y).toNat = x ^^^ y by simp [BitVec.toNat_xor, Nat.mod_eq_of_lt h1, Nat.mod_eq_of_lt h3], hw]; rfl
theorem OpY.shr {t u : TypeId} {a b : Operand} {k k' : IntKind} {x s : Nat} (hx : ρ a = .int k (x : Nat)) (hy : ρ b = .int k' (s : Nat)) (hs : s ≤ k.bits) {q : Nat} (hq : x / 2 ^ s = q) (h : R (.int k ((q : Nat) : Int)) w) : OpY P (.binOp .shr t a b u) ty ρ w R := by
  refine OpY.binInt hx hy ?_ h
  have h0 : ¬ ((s : Int) < 0) := by omega
  have : Int.fdiv (x : Int) (2 ^ s) = ((x / 2 ^ s : Nat) : Int) := by
    rw [Int.fdiv_eq_ediv_of_nonneg _ (by exact Int.le_of_lt (Int.pow_pos (by decide)))]; simp
  simp only [binOp, Op.shift, h0, if_false, Int.toNat_natCast, Nat.min_eq_left hs]
  rw [this, hq]; rfl
theorem OpY.shl {t u : TypeId} {a b : Operand} {k k' : IntKind} {x s : Nat} {z : Int} (hx : ρ a = .int k (x : Nat)) (hy : ρ b = .int k' (s : Nat)) (hs : s ≤ k.bits) (hz : k.wrap ((x * 2 ^ s : Nat) : Int) = z) (h : R (.int k z) w) : OpY P (.binOp .shl t a b u) ty ρ w R := by
  refine OpY.binInt hx hy ?_ h
  have h0 : ¬ ((s : Int) < 0) := by omega
  have : (x : Int) * 2 ^ s = ((x * 2 ^ s : Nat) : Int) := by simp
  simp only [binOp, Op.shift, h0, if_false, Int.toNat_natCast, Nat.min_eq_left hs]
  rw [this, hz]; rfl

theorem bool_dec {p q : Prop} [Decidable p] [Decidable q] (h : p ↔ q) : (decide p) = (decide q) := by simp [h]
theorem OpY.lss {t u : TypeId} {a b : Operand} {k : IntKind} {x y : Int} (p : Prop) [Decidable p] (hx : ρ a = .int k x) (hy : ρ b = .int k y) (hp : x < y ↔ p) (h : R (.bool (decide p)) w) : OpY P (.binOp .lss t a b u) ty ρ w R :=
  OpY.binInt hx hy (by simp [binOp, Op.intCmp, hp]) h
theorem OpY.leq {t u : TypeId} {a b : Operand} {k : IntKind} {x y : Int} (p : Prop) [Decidable p] (hx : ρ a = .int k x) (hy : ρ b = .int k y) (hp : x ≤ y ↔ p) (h : R (.bool (decide p)) w) : OpY P (.binOp .leq t a b u) ty ρ w R :=
  OpY.binInt hx hy (by simp [binOp, Op.intCmp, hp]) h
theorem OpY.gtr {t u : TypeId} {a b : Operand} {k : IntKind} {x y : Int} (p : Prop) [Decidable p] (hx : ρ a = .int k x) (hy : ρ b = .int k y) (hp : x > y ↔ p) (h : R (.bool (decide p)) w) : OpY P (.binOp .gtr t a b u) ty ρ w R :=
  OpY.binInt hx hy (by have : decide (y < x) = decide p := bool_dec hp; simp [binOp, Op.intCmp, this]) h
theorem OpY.geq {t u : TypeId} {a b : Operand} {k : IntKind} {x y : Int} (p : Prop) [Decidable p] (hx : ρ a = .int k x) (hy : ρ b = .int k y) (hp : x ≥ y ↔ p) (h : R (.bool (decide p)) w) : OpY P (.binOp .geq t a b u) ty ρ w R :=
  OpY.binInt hx hy (by have : decide (y ≤ x) = decide p := bool_dec hp; simp [binOp, Op.intCmp, this]) h
theorem OpY.eql {t u : TypeId} {a b : Operand} {k : IntKind} {x y : Int} (p : Prop) [Decidable p] (hx : ρ a = .int k x) (hy : ρ b = .int k y) (hp : x = y ↔ p) (h : R (.bool (decide p)) w) : OpY P (.binOp .eql t a b u) ty ρ w R :=
  OpY.binInt hx hy (by have : (x == y) = decide p := by rw [← bool_dec hp]; rfl
                       simp [binOp, Op.intCmp, this]) h
theorem OpY.neq {t u : TypeId} {a b : Operand} {k : IntKind} {x y : Int} (p : Prop) [Decidable p] (hx : ρ a = .int k x) (hy : ρ b = .int k y) (hp : x ≠ y ↔ p) (h : R (.bool (decide p)) w) : OpY P (.binOp .neq t a b u) ty ρ w R :=
  OpY.binInt hx hy (by have : (x != y) = decide p := by rw [← bool_dec hp]; simp [bne, BEq.beq]
                       simp [binOp, Op.intCmp, this]) h

theorem run_equalIn_bool (d : Nat) {t : TypeId} (ht : P.underlying t = some .bool) (x y : Bool) : (Op.equalIn (d + 1) t (.bool x) (.bool y)).run P w = .ok (x == y) w := by
  simp [Op.equalIn, run_underlying ht]
theorem OpY.eqlBool {t u : TypeId} {a b : Operand} {x y : Bool} (ht : P.underlying t = some .bool) (hx : ρ a = .bool x) (hy : ρ b = .bool y) (h : R (.bool (x == y)) w) : OpY P (.binOp .eql t a b u) ty ρ w R := by
  have hr : (Op.equal t (.bool x) (.bool y)).run P w = .ok (x == y) w := run_equalIn_bool 9999 ht x y
  simp only [OpY, bareOp, execOp, hx, hy]
  simp only [binOp, eqGuard]
  simp [hr, upon]
  exact h
theorem OpY.neqBool {t u : TypeId} {a b : Operand} {x y : Bool} (ht : P.underlying t = some .bool) (hx : ρ a = .bool x) (hy : ρ b = .bool y) (h : R (.bool (!(x == y))) w) : OpY P (.binOp .neq t a b u) ty ρ w R := by
  have hr : (Op.equal t (.bool x) (.bool y)).run P w = .ok (x == y) w := run_equalIn_bool 9999 ht x y
  simp only [OpY, bareOp, execOp, hx, hy]
  simp only [binOp, eqGuard]
  simp [hr, upon]
  exact h
theorem OpY.not {t : TypeId} {a : Operand} {x : Bool} (hx : ρ a = .bool x) (h : R (.bool (!x)) w) : OpY P (.unOp .not t a) ty ρ w R := by
  simp [OpY, bareOp, execOp, hx, Op.unary, upon]; exact h
theorem OpY.not_d {t : TypeId} {a : Operand} {p : Prop} [Decidable p] (hx : ρ a = .bool (decide p)) (h : R (.bool (decide (¬ p))) w) : OpY P (.unOp .not t a) ty ρ w R :=
  OpY.not hx (by rw [← decide_not]; exact h)
theorem OpY.neg {t : TypeId} {a : Operand} {k : IntKind} {x z : Int} (hx : ρ a = .int k x) (hz : k.wrap (0 - x) = z) (h : R (.int k z) w) : OpY P (.unOp .neg t a) ty ρ w R := by
  subst hz; simp [OpY, bareOp, execOp, hx, Op.unary, Op.intArith, upon] at h ⊢; exact h
theorem OpY.xor_u64 {t : TypeId} {a : Operand} {x : Nat} (hx : ρ a = .int .u64 (x : Nat)) (kx : x < 18446744073709551616) (h : R (.int .u64 ((18446744073709551615 - x : Nat) : Int)) w) : OpY P (.unOp .xor t a) ty ρ w R := by
  have e0 : BitVec.ofInt 64 18446744073709551615 = BitVec.allOnes 64 := by decide
  have e1 : (BitVec.ofInt 64 18446744073709551615 ^^^ BitVec.ofInt 64 (x : Int)).toNat = 18446744073709551615 - x := by
    rw [e0, ofInt_nat, BitVec.allOnes_xor, BitVec.toNat_not]; simp [Nat.mod_eq_of_lt kx]
  have hr : (Op.unary .xor (.int .u64 (x : Int))).run P w = .ok (.int .u64 ((18446744073709551615 - x : Nat) : Int)) w := by
    show (Pure.pure (Value.int .u64 (IntKind.u64.wrap ((BitVec.ofInt 64 18446744073709551615 ^^^ BitVec.ofInt 64 (x : Int)).toNat : Int))) : Sem Value).run P w = _
    rw [e1, wq_u64 (z' := 18446744073709551615 - x) rfl (by omega)]; rfl
  simp only [OpY, bareOp, execOp, hx]
  simp [hr, upon]
  exact h

theorem OpY.convInt {s t : TypeId} {a : Operand} {k k' : IntKind} {x z : Int} {d : TypeDesc} (hs : P.underlying s = some d) (ht : P.underlying t = some (.int k')) (hx : ρ a = .int k x) (hz : k'.wrap x = z) (h : R (.int k' z) w) : OpY P (.convert s t a) ty ρ w R := by
  subst hz
  simp only [OpY, bareOp, execOp, hx]
  simp [convert, run_underlying hs, run_underlying ht, Conv.intToInt, upon]
  exact h
theorem OpY.extract {a : Operand} {vs : List Value} {i : Nat} {v : Value} (ha : ρ a = .tuple vs.toArray) (hv : vs[i]? = some v) (h : R v w) : OpY P (.extract a i) ty ρ w R := by
  simp [OpY, bareOp, execOp, ha, Instr.extract, hv, upon]; exact h
end
end Go.X

/- Plain maths of the checksum: it is linear over exclusive or, and a change within eight bytes shows. -/
import Derived.Test.YtpfbdhfpojbmlaaDoorM06
namespace Go.C06
theorem xor_half (x y : Nat) : (x ^^^ y) / 2 = x / 2 ^^^ y / 2 := by
  apply Nat.eq_of_testBit_eq; intro i
  simp only [Nat.testBit_div_two, Nat.testBit_xor]
theorem xor_mod2 (x y : Nat) : (x ^^^ y) % 2 = (x % 2 + y % 2) % 2 := by
  have h := Nat.testBit_xor x y 0
  simp only [Nat.testBit_zero] at h
  rcases Nat.mod_two_eq_zero_or_one x with hx | hx <;> rcases Nat.mod_two_eq_zero_or_one y with hy | hy <;> rcases Nat.mod_two_eq_zero_or_one (x ^^^ y) with hz | hz <;> simp_all
theorem step1_xor (x y : Nat) : step1 (x ^^^ y) = step1 x ^^^ step1 y := by
  unfold step1
  rw [xor_half, xor_mod2]
  rcases Nat.mod_two_eq_zero_or_one x with hx | hx <;> rcases Nat.mod_two_eq_zero_or_one y with hy | hy <;> simp only [hx, hy] <;> simp
  · ac_rfl
  · ac_rfl
  · rw [show x / 2 ^^^ 14514072000185962306 ^^^ (y / 2 ^^^ 14514072000185962306) = x / 2 ^^^ y / 2 ^^^ (14514072000185962306 ^^^ 14514072000185962306) by ac_rfl, Nat.xor_self, Nat.xor_zero]
theorem rounds_xor : ∀ (n x y : Nat), rounds n (x ^^^ y) = rounds n x ^^^ rounds n y
  | 0, _, _ => rfl
  | n + 1, x, y => by simp only [rounds]; rw [rounds_xor n x y, step1_xor]
theorem rounds_add : ∀ (m n x : Nat), rounds (m + n) x = rounds m (rounds n x)
  | 0, n, x => by simp [rounds]
  | m + 1, n, x => by rw [show m + 1 + n = (m + n) + 1 by omega]; simp only [rounds]; rw [rounds_add m n x]
theorem rounds_shift : ∀ (n x : Nat), rounds n (2 ^ n * x) = x
  | 0, x => by simp [rounds]
  | n + 1, x => by
    simp only [rounds]
    rw [show 2 ^ (n + 1) * x = 2 ^ n * (2 * x) by rw [Nat.pow_succ, Nat.mul_assoc], rounds_shift n (2 * x)]
    unfold step1
    rw [if_neg (by omega)]; omega
theorem step1_zero {x : Nat} (hx : x < 18446744073709551616) (h : step1 x = 0) : x = 0 := by
  unfold step1 at h
  split at h
  · have h2 : x / 2 = 14514072000185962306 := by
      have := congrArg (· ^^^ 14514072000185962306) h
      simpa [Nat.xor_assoc] using this
    omega
  · omega
theorem rounds_zero : ∀ {n x : Nat}, x < 18446744073709551616 → rounds n x = 0 → x = 0
  | 0, _, _, h => h
  | n + 1, _, hx, h => rounds_zero hx (step1_zero (rounds_lt hx) h)
theorem rounds_nil (n : Nat) : rounds n 0 = 0 := by
  induction n with
  | zero => rfl
  | succ n ih => simp [rounds, ih, step1]
/-- the register behind a row of bytes -/
def reg (s : Nat) (bs : List Nat) : Nat := bs.foldl turnN s
theorem turn_xor (s t c d : Nat) : turnN (s ^^^ t) (c ^^^ d) = turnN s c ^^^ turnN t d := by
  unfold turnN; rw [← rounds_xor]; congr 1; ac_rfl
theorem reg_xor : ∀ (bs : List Nat) (s t : Nat), reg (s ^^^ t) bs = reg s bs ^^^ rounds (8 * bs.length) t
  | [], s, t => by simp [reg, rounds]
  | x :: r, s, t => by
    show reg (turnN (s ^^^ t) x) r = reg (turnN s x) r ^^^ _
    have h := turn_xor s t x 0
    rw [Nat.xor_zero] at h
    rw [h, reg_xor r, List.length_cons, show 8 * (r.length + 1) = 8 * r.length + 8 by omega, rounds_add]
    unfold turnN; rw [Nat.xor_zero]
theorem reg_set : ∀ (bs : List Nat) (s j v : Nat), j < bs.length → reg s (bs.set j (bs.getD j 0 ^^^ v)) = reg s bs ^^^ rounds (8 * (bs.length - j)) v
  | [], _, _, _, h => by simp at h
  | x :: r, s, 0, v, _ => by
    show reg (turnN s (x ^^^ v)) r = reg (turnN s x) r ^^^ _
    have h := turn_xor s 0 x v
    rw [Nat.xor_zero] at h
    rw [h, reg_xor r, List.length_cons, show 8 * (r.length + 1 - 0) = 8 * r.length + 8 by omega, rounds_add]
    unfold turnN; rw [Nat.zero_xor]
  | x :: r, s, j + 1, v, h => by
    show reg (turnN s x) (r.set j (r.getD j 0 ^^^ v)) = reg (turnN s x) r ^^^ _
    rw [reg_set r _ j v (by simpa using h), List.length_cons, show r.length + 1 - (j + 1) = r.length - j by omega]
/-- one more byte of a change -/
theorem reg_burst {b xs : List Nat} {s i k v E : Nat} (hl : xs.length = b.length) (hik : i + k < b.length) (h : reg s xs = reg s b ^^^ rounds (8 * (b.length - i)) E) :
    reg s (xs.set (i + k) (xs.getD (i + k) 0 ^^^ v)) = reg s b ^^^ rounds (8 * (b.length - i)) (E ^^^ 2 ^ (8 * k) * v) := by
  rw [reg_set xs s (i + k) v (by omega), h, hl, rounds_xor, Nat.xor_assoc]
  congr 2
  rw [show 8 * (b.length - i) = 8 * (b.length - (i + k)) + 8 * k by omega, rounds_add, rounds_shift]
theorem burst_lt {E k v : Nat} (hE : E < 2 ^ (8 * k)) (hv : v < 256) : E ^^^ 2 ^ (8 * k) * v < 2 ^ (8 * (k + 1)) ∧ (E ^^^ 2 ^ (8 * k) * v = 0 ↔ E = 0 ∧ v = 0) := by
  have hp : 0 < 2 ^ (8 * k) := Nat.pow_pos (by decide)
  have hsum : 2 ^ (8 * k) * v + E = 2 ^ (8 * k) * v ^^^ E := by
    rw [Nat.two_pow_add_eq_or_of_lt hE v]
    apply Nat.eq_of_testBit_eq; intro i
    simp only [Nat.testBit_or, Nat.testBit_xor, Nat.testBit_two_pow_mul]
    by_cases hi : i < 8 * k
    · simp [show ¬ (8 * k ≤ i) by omega]
    · have : E.testBit i = false := Nat.testBit_lt_two_pow (Nat.lt_of_lt_of_le hE (Nat.pow_le_pow_right (by decide) (by omega)))
      simp [this]
  rw [Nat.xor_comm, ← hsum]
  constructor
  · rw [show 8 * (k + 1) = 8 * k + 8 by omega, Nat.pow_add]
    calc 2 ^ (8 * k) * v + E < 2 ^ (8 * k) * v + 2 ^ (8 * k) := by omega
      _ = 2 ^ (8 * k) * (v + 1) := by rw [Nat.mul_succ]
      _ ≤ 2 ^ (8 * k) * 2 ^ 8 := Nat.mul_le_mul_left _ (by omega)
  · constructor
    · intro h
      have h1 : E = 0 := by omega
      have h2 : 2 ^ (8 * k) * v = 0 := by omega
      rcases Nat.mul_eq_zero.1 h2 with h3 | h3
      · omega
      · exact ⟨h1, h3⟩
    · rintro ⟨rfl, rfl⟩; simp
theorem crcN_reg (bs : List Nat) : crcN 0 bs = 18446744073709551615 - reg 18446744073709551615 bs := rfl
theorem reg_lt {bs : List Nat} {s : Nat} (h : s < 18446744073709551616) (hb : ∀ x ∈ bs, x < 256) : reg s bs < 18446744073709551616 := foldl_turn_lt h hb
/-- a change within eight bytes shows -/
theorem burst_shows {b xs : List Nat} {i k E : Nat} (hb : ∀ x ∈ b, x < 256) (hx : ∀ x ∈ xs, x < 256) (hk : k ≤ 8) (hE : E < 2 ^ (8 * k))
    (h : reg 18446744073709551615 xs = reg 18446744073709551615 b ^^^ rounds (8 * (b.length - i)) E) : crcN 0 xs = crcN 0 b ↔ E = 0 := by
  have h1 := reg_lt (s := 18446744073709551615) (by decide) hb
  have h2 := reg_lt (s := 18446744073709551615) (by decide) hx
  have hE2 : E < 18446744073709551616 := Nat.lt_of_lt_of_le hE (show 2 ^ (8 * k) ≤ 2 ^ 64 from Nat.pow_le_pow_right (by decide) (by omega))
  rw [crcN_reg, crcN_reg]
  constructor
  · intro he
    have he2 : reg 18446744073709551615 xs = reg 18446744073709551615 b := by omega
    rw [he2] at h
    have : rounds (8 * (b.length - i)) E = 0 := by
      have h3 := congrArg (reg 18446744073709551615 b ^^^ ·) h
      simp only [Nat.xor_self, ← Nat.xor_assoc, Nat.zero_xor] at h3
      exact h3.symm
    exact rounds_zero hE2 this
  · rintro rfl
    rw [rounds_nil, Nat.xor_zero] at h
    rw [h]
theorem crc_xor {x : Nat} (h : x < 18446744073709551616) : 18446744073709551615 - x = 18446744073709551615 ^^^ x := by
  have := Nat.sub_add_cancel (show x ≤ 18446744073709551615 by omega)
  apply Nat.eq_of_testBit_eq; intro i
  have h2 := Nat.testBit_two_pow_sub_succ (n := 64) h i
  rw [show 18446744073709551615 - x = 2 ^ 64 - (x + 1) by omega, h2, Nat.testBit_xor, show (18446744073709551615 : Nat) = 2 ^ 64 - 1 by decide, Nat.testBit_two_pow_sub_one]
  by_cases hi : i < 64
  · simp [hi]
  · have : x.testBit i = false := Nat.testBit_lt_two_pow (Nat.lt_of_lt_of_le h (show 2 ^ 64 ≤ 2 ^ i from Nat.pow_le_pow_right (by decide) (by omega)))
    simp [hi, this]
/-- three rows and their exclusive or -/
theorem reg3 : ∀ (l : List (Nat × Nat × Nat)) (s t u : Nat), reg (s ^^^ t ^^^ u) (l.map fun x => x.1 ^^^ x.2.1 ^^^ x.2.2) = reg s (l.map (·.1)) ^^^ reg t (l.map (·.2.1)) ^^^ reg u (l.map (·.2.2))
  | [], _, _, _ => rfl
  | x :: l, s, t, u => by
    simp only [List.map_cons, reg, List.foldl_cons]
    rw [turn_xor, turn_xor]
    exact reg3 l _ _ _
theorem linear3 {l : List (Nat × Nat × Nat)} (h : ∀ x ∈ l, x.1 < 256 ∧ x.2.1 < 256 ∧ x.2.2 < 256) :
    crcN 0 (l.map fun x => x.1 ^^^ x.2.1 ^^^ x.2.2) = crcN 0 (l.map (·.1)) ^^^ crcN 0 (l.map (·.2.1)) ^^^ crcN 0 (l.map (·.2.2)) := by
  have M : (18446744073709551615 : Nat) < 18446744073709551616 := by decide
  have h1 : ∀ x ∈ l.map (·.1), x < 256 := fun x hx => by obtain ⟨y, hy, rfl⟩ := List.mem_map.1 hx; exact (h y hy).1
  have h2 : ∀ x ∈ l.map (·.2.1), x < 256 := fun x hx => by obtain ⟨y, hy, rfl⟩ := List.mem_map.1 hx; exact (h y hy).2.1
  have h3 : ∀ x ∈ l.map (·.2.2), x < 256 := fun x hx => by obtain ⟨y, hy, rfl⟩ := List.mem_map.1 hx; exact (h y hy).2.2
  have h4 : ∀ x ∈ (l.map fun x => x.1 ^^^ x.2.1 ^^^ x.2.2), x < 256 := fun x hx => by
    obtain ⟨y, hy, rfl⟩ := List.mem_map.1 hx
    exact Nat.xor_lt_two_pow (n := 8) (Nat.xor_lt_two_pow (n := 8) (h y hy).1 (h y hy).2.1) (h y hy).2.2
  have e := reg3 l 18446744073709551615 18446744073709551615 18446744073709551615
  rw [Nat.xor_self, Nat.zero_xor] at e
  simp only [crcN_reg]
  rw [crc_xor (reg_lt M h1), crc_xor (reg_lt M h2), crc_xor (reg_lt M h3), crc_xor (reg_lt M h4), e]
  generalize reg 18446744073709551615 (l.map (·.1)) = A
  generalize reg 18446744073709551615 (l.map (·.2.1)) = B
  generalize reg 18446744073709551615 (l.map (·.2.2)) = C
  generalize (18446744073709551615 : Nat) = K
  rw [show K ^^^ A ^^^ (K ^^^ B) ^^^ (K ^^^ C) = (K ^^^ K) ^^^ K ^^^ (A ^^^ B ^^^ C) by ac_rfl, Nat.xor_self, Nat.zero_xor]
end Go.C06

/- The checksum in plain numbers. -/
namespace Go.C06
def step1 (r : Nat) : Nat := if r % 2 = 1 then (r / 2) ^^^ 14514072000185962306 else r / 2
def rounds : Nat → Nat → Nat
  | 0, x => x
  | n + 1, x => step1 (rounds n x)
def turnN (state c : Nat) : Nat := rounds 8 (state ^^^ c)
def crcN (s : Nat) (bs : List Nat) : Nat := 18446744073709551615 - bs.foldl turnN (18446744073709551615 - s)
/-- the eight bytes of a number, least significant first -/
def bytesN (s : Nat) : List Nat := (List.range 8).map fun i => s / 2 ^ (8 * i) % 256
def appN (bs : List Nat) : List Nat := bs ++ bytesN (crcN 0 bs)

def checkN (b : List Nat) : List Nat × Int := if b.length < 8 then ([], 2) else if bytesN (crcN 0 (b.take (b.length - 8))) = b.drop (b.length - 8) then (b.take (b.length - 8), 0) else ([], 17)
theorem step1_lt {r : Nat} (h : r < 18446744073709551616) : step1 r < 18446744073709551616 := by
  unfold step1; split
  · exact Nat.xor_lt_two_pow (n := 64) (by omega) (by decide)
  · omega
theorem checkN_short {b : List Nat} (h : b.length < 8) : checkN b = ([], 2) := by unfold checkN; rw [if_pos h]
theorem checkN_bad {b : List Nat} (h : ¬ b.length < 8) (h2 : ¬ bytesN (crcN 0 (b.take (b.length - 8))) = b.drop (b.length - 8)) : checkN b = ([], 17) := by unfold checkN; rw [if_neg h, if_neg h2]
theorem checkN_good {b : List Nat} (h : ¬ b.length < 8) (h2 : bytesN (crcN 0 (b.take (b.length - 8))) = b.drop (b.length - 8)) : checkN b = (b.take (b.length - 8), 0) := by unfold checkN; rw [if_neg h, if_pos h2]
theorem take_len {b : List Nat} : (b.take (b.length - 8)).length = b.length - 8 := by simp
/-- the digits of a number in base sixteen, sixteen of them -/
def hexD (d : Nat) : Nat := if d < 10 then 48 + d else 87 + d
def padR : Nat → Nat → List Nat
  | 0, _ => []
  | k + 1, u => padR k (u / 16) ++ [hexD (u % 16)]
def hexN (n : Nat) : List Nat := padR 16 n
def hexF : Nat → Nat → List Nat
  | 0, _ => []
  | n + 1, u => if u < 16 then [hexD u] else hexF n (u / 16) ++ [hexD (u % 16)]
def hexMin (u : Nat) : List Nat := hexF 17 u
theorem hexD_lt (d : Nat) (h : d < 16) : hexD d < 256 := by unfold hexD; split <;> omega
theorem padR_length : ∀ (k u : Nat), (padR k u).length = k
  | 0, _ => rfl
  | k + 1, u => by simp [padR, padR_length k]
theorem padR_cons : ∀ (k u : Nat), padR (k + 1) u = hexD (u / 16 ^ k % 16) :: padR k u
  | 0, u => by simp [padR]
  | k + 1, u => by
    rw [padR, padR_cons k (u / 16)]
    simp only [List.cons_append, padR]
    rw [Nat.div_div_eq_div_mul, Nat.pow_succ, Nat.mul_comm (16 ^ k)]
theorem padR_ok : ∀ (k u : Nat), ∀ x ∈ padR k u, x < 256
  | 0, _ => fun x hx => by cases hx
  | k + 1, u => fun x hx => by
    rcases List.mem_append.1 hx with h | h
    · exact padR_ok k _ x h
    · have : x = hexD (u % 16) := by simpa using h
      subst this; exact hexD_lt _ (Nat.mod_lt _ (by decide))
theorem hexF_ok : ∀ (k u : Nat), ∀ x ∈ hexF k u, x < 256
  | 0, _ => fun x hx => by cases hx
  | k + 1, u => fun x hx => by
    unfold hexF at hx
    split at hx
    · have : x = hexD u := by simpa using hx
      subst this; exact hexD_lt _ (by omega)
    · rcases List.mem_append.1 hx with h | h
      · exact hexF_ok k _ x h
      · have : x = hexD (u % 16) := by simpa using h
        subst this; exact hexD_lt _ (Nat.mod_lt _ (by decide))
theorem hex_pad : ∀ (k m u : Nat), u < 16 ^ (k + 1) → k < m → (hexF m u).length ≤ k + 1 ∧ 1 ≤ (hexF m u).length ∧ List.replicate (k + 1 - (hexF m u).length) 48 ++ hexF m u = padR (k + 1) u
  | 0, m + 1, u, h, _ => by
    have hu : u < 16 := by simpa using h
    unfold hexF; rw [if_pos hu]
    simp [padR, Nat.mod_eq_of_lt hu]
  | k + 1, m + 1, u, h, hm => by
    unfold hexF
    by_cases hu : u < 16
    · rw [if_pos hu]
      refine ⟨by simp, by simp, ?_⟩
      have hz : ∀ j, padR j 0 = List.replicate j 48 := by
        intro j
        induction j with
        | zero => rfl
        | succ j ih => rw [padR, Nat.zero_div, ih, List.replicate_succ']; rfl
      rw [padR, Nat.div_eq_of_lt hu, hz, Nat.mod_eq_of_lt hu]; simp
    · rw [if_neg hu]
      have hd : u / 16 < 16 ^ (k + 1) := by
        rw [Nat.div_lt_iff_lt_mul (by decide), ← Nat.pow_succ]; exact h
      obtain ⟨h1, h2, h3⟩ := hex_pad k m (u / 16) hd (by omega)
      refine ⟨by simp; omega, by simp, ?_⟩
      rw [padR, ← h3]
      simp [List.append_assoc]
def digs : List Nat := [48, 49, 50, 51, 52, 53, 54, 55, 56, 57, 97, 98, 99, 100, 101, 102]
def digs36 : List Nat := [48, 49, 50, 51, 52, 53, 54, 55, 56, 57, 97, 98, 99, 100, 101, 102, 103, 104, 105, 106, 107, 108, 109, 110, 111, 112, 113, 114, 115, 116, 117, 118, 119, 120, 121, 122]
theorem digs_cut : ∀ d, d < 16 → (digs.take (d + 1)).drop d = [hexD d] := by decide
theorem digs_cut' (d : Nat) (h : d < 16) : (([48, 49, 50, 51, 52, 53, 54, 55, 56, 57, 97, 98, 99, 100, 101, 102] : List Nat).take (d + 1)).drop d = [hexD d] := digs_cut d h
theorem digs36_get : ∀ d, d < 16 → digs36.getD d 0 = hexD d := by decide
theorem appN_iff {b : List Nat} (h : ¬ b.length < 8) : appN (b.take (b.length - 8)) = b ↔ bytesN (crcN 0 (b.take (b.length - 8))) = b.drop (b.length - 8) := by
  unfold appN
  constructor
  · intro he
    have : b.take (b.length - 8) ++ bytesN (crcN 0 (b.take (b.length - 8))) = b.take (b.length - 8) ++ b.drop (b.length - 8) := by rw [he, List.take_append_drop]
    exact List.append_cancel_left this
  · intro he
    rw [he, List.take_append_drop]
theorem rounds_lt {n x : Nat} (h : x < 18446744073709551616) : rounds n x < 18446744073709551616 := by
  induction n with
  | zero => exact h
  | succ n ih => exact step1_lt ih
theorem turnN_lt {s c : Nat} (h : s < 18446744073709551616) (hc : c < 256) : turnN s c < 18446744073709551616 :=
  rounds_lt (Nat.xor_lt_two_pow (n := 64) h (by omega))
theorem foldl_turn_lt {bs : List Nat} : ∀ {s : Nat}, s < 18446744073709551616 → (∀ x ∈ bs, x < 256) → bs.foldl turnN s < 18446744073709551616 := by
  induction bs with
  | nil => intro s h _; exact h
  | cons x r ih => intro s h ho; exact ih (turnN_lt h (ho x List.mem_cons_self)) (fun y hy => ho y (List.mem_cons_of_mem _ hy))
theorem crcN_lt (s : Nat) (bs : List Nat) : crcN s bs < 18446744073709551616 := by unfold crcN; omega
@[simp] theorem bytesN_length (s : Nat) : (bytesN s).length = 8 := by simp [bytesN]
theorem bytesN_get {s k : Nat} (h : k < 8) : (bytesN s)[k]? = some (s / 2 ^ (8 * k) % 256) := by simp [bytesN, h]
theorem div_step (s i : Nat) : s / 2 ^ (8 * i) / 256 = s / 2 ^ (8 * (i + 1)) := by
  rw [Nat.div_div_eq_div_mul, Nat.mul_add, Nat.pow_add]
theorem bytesN_take {s i : Nat} (h : i < 8) : (bytesN s).take (i + 1) = (bytesN s).take i ++ [s / 2 ^ (8 * i) % 256] := by
  rw [List.take_add_one, bytesN_get h]; rfl
theorem bytesN_ok (s : Nat) : ∀ x ∈ bytesN s, x < 256 := by
  intro x hx
  simp only [bytesN, List.mem_map] at hx
  obtain ⟨i, _, rfl⟩ := hx
  exact Nat.mod_lt _ (by decide)
theorem appN_ok {b : List Nat} (h : ∀ x ∈ b, x < 256) : ∀ x ∈ appN b, x < 256 := fun x hx => (List.mem_append.1 hx).elim (h x) (bytesN_ok _ x)
@[simp] theorem appN_length (b : List Nat) : (appN b).length = b.length + 8 := by simp [appN]
theorem and_mask (x : Nat) : x &&& 4294967295 = x % 4294967296 := Nat.and_two_pow_sub_one_eq_mod x 32
theorem and_15 (x : Nat) : x &&& 15 = x % 16 := Nat.and_two_pow_sub_one_eq_mod x 4
def hasP (s p : List Nat) : Bool := decide (p.length ≤ s.length) && decide (s.take p.length = p)
theorem hex_step {i u : Nat} (h : 16 ≤ u) (hu : u < 16 ^ (i - 49)) (hi : 50 ≤ i) : 51 ≤ i ∧ u / 16 < 16 ^ (i - 1 - 49) := by
  have h1 : 51 ≤ i := by
    rcases Nat.lt_or_ge i 51 with h2 | h2
    · have : i = 50 := by omega
      subst this; simp at hu; omega
    · exact h2
  refine ⟨h1, ?_⟩
  have e : i - 49 = (i - 1 - 49) + 1 := by omega
  rw [e, Nat.pow_succ] at hu
  rw [Nat.div_lt_iff_lt_mul (by decide)]
  exact hu
theorem hex_round {u0 i u v : Nat} {xs : List Nat} (hx : hexMin u0 = hexF (i - 48) u ++ xs.drop i) (hl : xs.length = 65) (hi : 51 ≤ i) (hi2 : i ≤ 65) (h : 16 ≤ u) (hv : v = hexD (u % 16)) : hexMin u0 = hexF (i - 1 - 48) (u / 16) ++ (xs.set (i - 1) v).drop (i - 1) := by
  have e : i - 48 = (i - 1 - 48) + 1 := by omega
  rw [hx, e, hexF, if_neg (by omega)]
  have hd : (xs.set (i - 1) v).drop (i - 1) = v :: xs.drop i := by
    rw [List.drop_eq_getElem_cons (by simp; omega)]
    simp only [List.getElem_set_self, List.drop_set]
    rw [if_pos (by omega), show i - 1 + 1 = i by omega]
  rw [hd, hv, List.append_assoc]; rfl
theorem hex_last {u0 i u v : Nat} {xs : List Nat} (hx : hexMin u0 = hexF (i - 48) u ++ xs.drop i) (hl : xs.length = 65) (hi : 50 ≤ i) (hi2 : i ≤ 65) (h : u < 16) (hv : v = hexD u) : (xs.set (i - 1) v).drop (i - 1) = hexMin u0 := by
  have e : i - 48 = (i - 1 - 48) + 1 := by omega
  have hd : (xs.set (i - 1) v).drop (i - 1) = v :: xs.drop i := by
    rw [List.drop_eq_getElem_cons (by simp; omega)]
    simp only [List.getElem_set_self, List.drop_set]
    rw [if_pos (by omega), show i - 1 + 1 = i by omega]
  rw [hd, hx, e, hexF, if_pos h, hv]; rfl
theorem hexMin_len {u : Nat} (h : u < 18446744073709551616) : (hexMin u).length ≤ 16 ∧ 1 ≤ (hexMin u).length := by
  have := hex_pad 15 17 u (by simpa using h) (by decide)
  exact ⟨this.1, this.2.1⟩
theorem hexMin_pad {u : Nat} (h : u < 18446744073709551616) : List.replicate (16 - (hexMin u).length) 48 ++ hexMin u = hexN u := (hex_pad 15 17 u (by simpa using h) (by decide)).2.2
theorem rep_ok (c : Nat) : ∀ x ∈ List.replicate c 48, x < 256 := fun x hx => by have := List.eq_of_mem_replicate hx; omega
theorem hexN_ok (n : Nat) : ∀ x ∈ hexN n, x < 256 := padR_ok 16 n
theorem checkN_ok {b : List Nat} (h : ∀ x ∈ b, x < 256) : ∀ x ∈ (checkN b).1, x < 256 := by
  unfold checkN
  split
  · intro x hx; cases hx
  · split
    · exact fun x hx => h x (List.mem_of_mem_take hx)
    · intro x hx; cases hx
theorem crcN_crcN {s : Nat} {a b : List Nat} (ha : ∀ x ∈ a, x < 256) : crcN (crcN s a) b = crcN s (a ++ b) := by
  have h := foldl_turn_lt (bs := a) (s := 18446744073709551615 - s) (by omega) ha
  unfold crcN
  rw [List.foldl_append, show 18446744073709551615 - (18446744073709551615 - List.foldl turnN (18446744073709551615 - s) a) = List.foldl turnN (18446744073709551615 - s) a by omega]
theorem checkN_appN (b : List Nat) : checkN (appN b) = (b, 0) := by
  have hl := bytesN_length (crcN 0 b)
  have h1 : (appN b).take ((appN b).length - 8) = b := by rw [appN_length]; unfold appN; simp
  have h2 : (appN b).drop ((appN b).length - 8) = bytesN (crcN 0 b) := by rw [appN_length]; unfold appN; simp
  rw [checkN_good (by rw [appN_length]; omega) (by rw [h1, h2]), h1]
end Go.C06

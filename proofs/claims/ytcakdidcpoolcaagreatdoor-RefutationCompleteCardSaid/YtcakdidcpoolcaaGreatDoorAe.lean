/- Plain theorems and definitions of this seat, several texts in one. -/
import Derived.Test.YtcakdidcpoolcaaGreatDoorAd
import Derived.Test.YtcakdidcpoolcaaGreatDoorAa
import Derived.Shelf.Strconv.Itoa0
import Derived.Shelf.Strconv.Itoa1
import Derived.Shelf.LaysM
import Derived.Shelf.Strconv.Itoa2
import Derived.Shelf.Strconv.Itoa3
import Derived.Ground.SlgnProg
import Derived.Test.YtcakdidcpoolcaaGreatDoorProg
import Derived.Test.YtcakdidcpoolcaaGreatDoorAc
set_option linter.unusedSimpArgs false
set_option linter.unusedVariables false
namespace Go.D
open Go Go.X
def lk : List UInt8 → List UInt8 → Bool
  | [], x => x.isEmpty
  | b :: p, x => if b = 37 then (List.range (x.length + 1)).any fun i => lk p (x.drop i) else match x with
    | [] => false
    | c :: y => (decide (b = 95) || decide (b = c)) && lk p y
theorem lk_star {p x : List UInt8} : lk (37 :: p) x = true ↔ ∃ i, i ≤ x.length ∧ lk p (x.drop i) = true := by
  show (if (37 : UInt8) = 37 then (List.range (x.length + 1)).any fun i => lk p (x.drop i) else _) = true ↔ _
  rw [if_pos rfl, List.any_eq_true]
  constructor
  · rintro ⟨i, h1, h2⟩; exact ⟨i, by have := List.mem_range.1 h1; omega, h2⟩
  · rintro ⟨i, h1, h2⟩; exact ⟨i, List.mem_range.2 (by omega), h2⟩
theorem lk_star0 {p x : List UInt8} (h : lk p x = true) : lk (37 :: p) x = true := lk_star.2 ⟨0, Nat.zero_le _, h⟩
theorem lk_star1 {p x : List UInt8} {c : UInt8} (h : lk (37 :: p) x = true) : lk (37 :: p) (c :: x) = true := by
  obtain ⟨i, h1, h2⟩ := lk_star.1 h
  exact lk_star.2 ⟨i + 1, by simpa using h1, h2⟩
theorem lk_one {b : UInt8} {p x : List UInt8} (hb : b ≠ 37) : lk (b :: p) x = true ↔ ∃ c y, x = c :: y ∧ (b = 95 ∨ b = c) ∧ lk p y = true := by
  cases x with
  | nil =>
    show (if b = 37 then _ else false) = true ↔ _
    rw [if_neg hb]; simp
  | cons c y =>
    show (if b = 37 then _ else (decide (b = 95) || decide (b = c)) && lk p y) = true ↔ _
    rw [if_neg hb]
    simp only [Bool.and_eq_true, Bool.or_eq_true, decide_eq_true_eq, List.cons.injEq]
    exact ⟨fun ⟨h1, h2⟩ => ⟨_, _, ⟨rfl, rfl⟩, h1, h2⟩, fun ⟨_, _, ⟨e1, e2⟩, h1, h2⟩ => by subst e1; subst e2; exact ⟨h1, h2⟩⟩
def acc (p : List UInt8) (S : Nat → Bool) : List Int → Bool
  | [] => S p.length
  | c :: x => acc p (clo p (nxs p S c)) x
def Cl (p : List UInt8) (S : Nat → Bool) : Prop := ∀ i, S i = true → isP p[i]? = true → S (i + 1) = true
theorem clo_cl {p : List UInt8} {S : Nat → Bool} : Cl p (clo p S) := fun i h1 h2 => by rw [clo, h1, h2]; simp
theorem clo_in {p : List UInt8} {S : Nat → Bool} : ∀ {i : Nat}, S i = true → clo p S i = true
  | 0, h => h
  | i + 1, h => by rw [clo, h]; rfl
theorem isP_at {p : List UInt8} {i : Nat} (h : isP p[i]? = true) : p.drop i = 37 :: p.drop (i + 1) := by
  have h := of_decide_eq_true h
  obtain ⟨hl, hv⟩ := List.getElem?_eq_some_iff.1 h
  rw [List.drop_eq_getElem_cons hl, hv]
theorem clo_lk {p x : List UInt8} {S : Nat → Bool} : ∀ {i : Nat}, clo p S i = true → lk (p.drop i) x = true → ∃ j, S j = true ∧ lk (p.drop j) x = true
  | 0, h, hx => ⟨0, h, hx⟩
  | i + 1, h, hx => by
    rw [clo, Bool.or_eq_true, Bool.and_eq_true] at h
    rcases h with h | ⟨h1, h2⟩
    · exact ⟨i + 1, h, hx⟩
    · exact clo_lk (i := i) h1 (by rw [isP_at h2]; exact lk_star0 hx)
theorem nxs_lk {p x : List UInt8} {S : Nat → Bool} {c : UInt8} {j : Nat} (h : nxs p S (c.toNat : Int) j = true) (hx : lk (p.drop j) x = true) : ∃ i, S i = true ∧ lk (p.drop i) (c :: x) = true := by
  unfold nxs at h
  rw [Bool.or_eq_true, Bool.and_eq_true] at h
  rcases h with ⟨h1, h2⟩ | h
  · refine ⟨j, h1, ?_⟩
    rw [isP_at h2] at hx ⊢
    exact lk_star1 hx
  · cases j with
    | zero => cases h
    | succ i =>
      dsimp only at h
      rw [Bool.and_eq_true] at h
      obtain ⟨h1, h2⟩ := h
      refine ⟨i, h1, ?_⟩
      unfold hit at h2
      split at h2
      · rename_i b hb
        obtain ⟨hl, hv⟩ := List.getElem?_eq_some_iff.1 hb
        simp only [Bool.and_eq_true, Bool.or_eq_true, decide_eq_true_eq] at h2
        rw [List.drop_eq_getElem_cons hl, hv]
        refine (lk_one h2.1).2 ⟨c, x, rfl, ?_, hx⟩
        rcases h2.2 with g | g
        · exact .inl g
        · exact .inr (UInt8.toNat_inj.1 (by omega))
      · cases h2
theorem lk_nxs {p x : List UInt8} {S : Nat → Bool} {c : UInt8} (hS : Cl p S) : ∀ (n j : Nat), p.length - j = n → S j = true → lk (p.drop j) (c :: x) = true → ∃ i, nxs p S (c.toNat : Int) i = true ∧ lk (p.drop i) x = true := by
  intro n
  induction n with
  | zero =>
    intro j hn h1 h2
    rw [List.drop_eq_nil_of_le (by omega)] at h2
    cases h2
  | succ n ih =>
    intro j hn h1 h2
    have hl : j < p.length := by omega
    rw [List.drop_eq_getElem_cons hl] at h2
    by_cases hb : p[j] = 37
    · have hP : isP p[j]? = true := by unfold isP; rw [List.getElem?_eq_getElem hl, hb]; rfl
      rw [hb] at h2
      obtain ⟨i, g1, g2⟩ := lk_star.1 h2
      cases i with
      | zero => exact ih (j + 1) (by omega) (hS j h1 hP) g2
      | succ k =>
        refine ⟨j, by unfold nxs; rw [h1, hP]; rfl, ?_⟩
        rw [isP_at hP]
        exact lk_star.2 ⟨k, by simpa using g1, g2⟩
    · obtain ⟨c', y, e, g1, g2⟩ := (lk_one hb).1 h2
      cases e
      refine ⟨j + 1, ?_, g2⟩
      unfold nxs
      have : hit p[j]? (c.toNat : Int) = true := by
        unfold hit
        rw [List.getElem?_eq_getElem hl]
        dsimp only
        rcases g1 with g | g
        · simp [g]
        · rw [g] at hb; simp [g, hb]
      dsimp only
      rw [h1, this]; simp
theorem cl_end {p : List UInt8} {S : Nat → Bool} (hS : Cl p S) : ∀ (n j : Nat), p.length - j = n → j ≤ p.length → S j = true → lk (p.drop j) [] = true → S p.length = true := by
  intro n
  induction n with
  | zero => intro j hn hj h1 h2; rw [show p.length = j by omega]; exact h1
  | succ n ih =>
    intro j hn hj h1 h2
    have hl : j < p.length := by omega
    rw [List.drop_eq_getElem_cons hl] at h2
    by_cases hb : p[j] = 37
    · have hP : isP p[j]? = true := by unfold isP; rw [List.getElem?_eq_getElem hl, hb]; rfl
      rw [hb] at h2
      obtain ⟨i, g1, g2⟩ := lk_star.1 h2
      exact ih (j + 1) (by omega) (by omega) (hS j h1 hP) (by simpa using g2)
    · obtain ⟨c', y, e, _⟩ := (lk_one hb).1 h2
      cases e
def Bd (p : List UInt8) (S : Nat → Bool) : Prop := ∀ i, S i = true → i ≤ p.length
theorem clo_bd {p : List UInt8} {S : Nat → Bool} (h : Bd p S) : Bd p (clo p S) := by
  intro i hi
  cases i with
  | zero => exact Nat.zero_le _
  | succ i =>
    rw [clo, Bool.or_eq_true, Bool.and_eq_true] at hi
    rcases hi with hi | ⟨_, h2⟩
    · exact h _ hi
    · have := (List.getElem?_eq_some_iff.1 (of_decide_eq_true h2)).1; omega
theorem nxs_bd {p : List UInt8} {S : Nat → Bool} {c : Int} (h : Bd p S) : Bd p (nxs p S c) := by
  intro i hi
  unfold nxs at hi
  rw [Bool.or_eq_true, Bool.and_eq_true] at hi
  rcases hi with hi | hi
  · exact h _ hi.1
  · cases i with
    | zero => exact Nat.zero_le _
    | succ i =>
      dsimp only at hi
      rw [Bool.and_eq_true] at hi
      have h2 := hi.2
      unfold hit at h2
      split at h2
      · rename_i b hb; have := (List.getElem?_eq_some_iff.1 hb).1; omega
      · cases h2
theorem acc_lk {p : List UInt8} : ∀ {x : List UInt8} {S : Nat → Bool}, Cl p S → Bd p S → (acc p S (sby x) = true ↔ ∃ j, S j = true ∧ lk (p.drop j) x = true)
  | [], S, hS, hB => by
    show S p.length = true ↔ _
    constructor
    · intro h; exact ⟨p.length, h, by rw [List.drop_length]; rfl⟩
    · rintro ⟨j, h1, h2⟩; exact cl_end hS _ j rfl (hB j h1) h1 h2
  | c :: x, S, hS, hB => by
    show acc p (clo p (nxs p S (c.toNat : Int))) (sby x) = true ↔ _
    rw [acc_lk clo_cl (clo_bd (nxs_bd hB))]
    constructor
    · rintro ⟨j, h1, h2⟩
      obtain ⟨i, g1, g2⟩ := clo_lk h1 h2
      exact nxs_lk g1 g2
    · rintro ⟨j, h1, h2⟩
      obtain ⟨i, g1, g2⟩ := lk_nxs hS _ j rfl h1 h2
      exact ⟨i, clo_in g1, g2⟩
theorem nxs_congr {p : List UInt8} {S S' : Nat → Bool} {c : Int} {n : Nat} (h : ∀ i, i ≤ n → S i = S' i) : ∀ i, i ≤ n → nxs p S c i = nxs p S' c i := by
  intro i hi
  unfold nxs
  cases i with
  | zero => rw [h 0 hi]
  | succ i => dsimp only; rw [h (i + 1) hi, h i (by omega)]
theorem acc_congr {p : List UInt8} : ∀ {x : List Int} {S S' : Nat → Bool}, (∀ i, i ≤ p.length → S i = S' i) → acc p S x = acc p S' x
  | [], S, S', h => h _ (Nat.le_refl _)
  | c :: x, S, S', h => acc_congr (x := x) fun i hi => clo_congr fun j hj => nxs_congr h j (by omega)
theorem run_acc {t : TTest} (hk : t.Kind = 1) : ∀ {x : List Int} {s : Int}, (run t s x).toNat.testBit t.Text.length = acc t.Text s.toNat.testBit x
  | [], s => rfl
  | c :: x, s => by
    show (run t (spN t s c) x).toNat.testBit t.Text.length = acc t.Text (clo t.Text (nxs t.Text s.toNat.testBit c)) x
    rw [run_acc hk (x := x)]
    refine acc_congr fun i hi => ?_
    unfold spN
    rw [if_pos hk, Int.toNat_natCast, bits_test, decide_eq_true (by omega : i < t.Text.length + 1), Bool.true_and]
    refine clo_congr fun j hj => ?_
    rw [bits_test, decide_eq_true (by omega : j < t.Text.length + 1), Bool.true_and]
theorem tb1 {i : Nat} : Nat.testBit 1 i = decide (i = 0) := by
  cases i with
  | zero => rfl
  | succ i => rw [Nat.testBit_succ]; simp
theorem pas_like {t : TTest} {x : List UInt8} (hk : t.Kind = 1) : (run t (sp0 t) (sby x)).toNat.testBit t.Text.length = lk t.Text x := by
  rw [run_acc hk]
  have e : acc t.Text (sp0 t).toNat.testBit (sby x) = acc t.Text (clo t.Text (Nat.testBit 1)) (sby x) := by
    refine acc_congr fun i hi => ?_
    unfold sp0
    rw [if_pos hk, Int.toNat_natCast, bits_test, decide_eq_true (by omega : i < t.Text.length + 1), Bool.true_and]
  rw [e]
  have h1 := acc_lk (p := t.Text) (x := x) (S := clo t.Text (Nat.testBit 1)) clo_cl (clo_bd fun i hi => by rw [tb1] at hi; have := of_decide_eq_true hi; omega)
  have h2 : (∃ j, clo t.Text (Nat.testBit 1) j = true ∧ lk (t.Text.drop j) x = true) ↔ lk t.Text x = true := by
    constructor
    · rintro ⟨j, g1, g2⟩
      obtain ⟨i, q1, q2⟩ := clo_lk g1 g2
      rw [tb1] at q1
      have q1 := of_decide_eq_true q1
      subst q1; exact q2
    · intro h; exact ⟨0, clo_in rfl, h⟩
  rw [h2] at h1
  cases ha : acc t.Text (clo t.Text (Nat.testBit 1)) (sby x) with
  | true => exact (h1.1 ha).symm
  | false => cases hl : lk t.Text x with
    | false => rfl
    | true => rw [h1.2 hl] at ha; cases ha
def cm : List UInt8 → List UInt8 → Int
  | [], [] => 0
  | [], _ :: _ => -1
  | _ :: _, [] => 1
  | c :: x, b :: q => if c.toNat < b.toNat then -1 else if b.toNat < c.toNat then 1 else cm x q
theorem cm_zero : ∀ {x q : List UInt8}, cm x q = 0 ↔ x = q
  | [], [] => by simp [cm]
  | [], _ :: _ => by simp [cm]
  | _ :: _, [] => by simp [cm]
  | c :: x, b :: q => by
    rw [cm]
    by_cases h1 : c.toNat < b.toNat
    · rw [if_pos h1]
      constructor
      · intro h; cases h
      · rintro h; cases h; omega
    · rw [if_neg h1]
      by_cases h2 : b.toNat < c.toNat
      · rw [if_pos h2]
        constructor
        · intro h; cases h
        · rintro h; cases h; omega
      · rw [if_neg h2, cm_zero (x := x) (q := q)]
        have : c = b := UInt8.toNat_inj.1 (by omega)
        subst this
        constructor
        · rintro rfl; rfl
        · intro h; cases h; rfl
def cst (n : Nat) (s v : Int) : Prop := (v = 1 ∧ s = 101) ∨ (v = -1 ∧ (s = 100 ∨ (0 ≤ s ∧ s < n))) ∨ (v = 0 ∧ s = n)
theorem cmp_stay {p : List UInt8} : ∀ {x : List Int} {s : Int}, 100 ≤ s → x.foldl (cmpN p) s = s
  | [], _, _ => rfl
  | c :: x, s, h => by
    show x.foldl (cmpN p) (cmpN p s c) = s
    have : cmpN p s c = s := by unfold cmpN; rw [if_pos h]
    rw [this]; exact cmp_stay h
theorem cmp_run {p : List UInt8} (hp : p.length ≤ 16) : ∀ {x : List UInt8} {k : Nat}, k ≤ p.length → cst p.length ((sby x).foldl (cmpN p) (k : Int)) (cm x (p.drop k))
  | [], k, hk => by
    show cst _ (k : Int) _
    rcases Nat.lt_or_ge k p.length with h | h
    · rw [List.drop_eq_getElem_cons h]
      exact .inr (.inl ⟨rfl, .inr ⟨by omega, by omega⟩⟩)
    · rw [List.drop_eq_nil_of_le h]
      exact .inr (.inr ⟨rfl, by omega⟩)
  | c :: x, k, hk => by
    show cst _ ((sby x).foldl (cmpN p) (cmpN p (k : Int) (c.toNat : Int))) _
    have e0 : ¬ (k : Int) ≥ 100 := by omega
    rcases Nat.lt_or_ge k p.length with h | h
    · rw [List.drop_eq_getElem_cons h, cm]
      have eg : p.getD (k : Int).toNat 0 = p[k] := by rw [Int.toNat_natCast]; exact getD_n h
      by_cases h1 : c.toNat < p[k].toNat
      · have e : cmpN p (k : Int) (c.toNat : Int) = 100 := by unfold cmpN; rw [if_neg e0, eg, if_neg (by omega), if_pos (by omega)]
        rw [if_pos h1, e, cmp_stay (by omega)]
        exact .inr (.inl ⟨rfl, .inl rfl⟩)
      · rw [if_neg h1]
        by_cases h2 : p[k].toNat < c.toNat
        · have e : cmpN p (k : Int) (c.toNat : Int) = 101 := by unfold cmpN; rw [if_neg e0, eg, if_pos (by omega)]
          rw [if_pos h2, e, cmp_stay (by omega)]
          exact .inl ⟨rfl, rfl⟩
        · have e : cmpN p (k : Int) (c.toNat : Int) = ((k + 1 : Nat) : Int) := by unfold cmpN; rw [if_neg e0, eg, if_neg (by omega), if_neg (by omega)]; rfl
          rw [if_neg h2, e]
          exact cmp_run hp (x := x) (k := k + 1) (by omega)
    · have e : cmpN p (k : Int) (c.toNat : Int) = 101 := by unfold cmpN; rw [if_neg e0, if_pos (.inl (by omega))]
      rw [List.drop_eq_nil_of_le h, cm, e, cmp_stay (by omega)]
      exact .inl ⟨rfl, rfl⟩
def mean (t : TTest) (x : List UInt8) : Bool :=
  !((if t.Kind = 1 then lk t.Text x else if t.Kind = 0 then decide (x = t.Text) else if t.Kind = 2 then decide (cm x t.Text < 0) else decide (cm x t.Text ≤ 0)) == t.Negated)
theorem run_cmp {t : TTest} (hk : t.Kind ≠ 1) : ∀ {x : List Int} {s : Int}, run t s x = x.foldl (cmpN t.Text) s
  | [], s => rfl
  | c :: x, s => by
    show run t (spN t s c) x = x.foldl _ (cmpN t.Text s c)
    rw [run_cmp hk]
    unfold spN; rw [if_neg hk]
theorem pas_mean {t : TTest} {x : List UInt8} (h : okT t = true) : pas t x = mean t x := by
  unfold pas mean spF
  have h16 := (okT_len h).2.2
  by_cases hk : t.Kind = 1
  · simp only [if_pos hk]
    rw [pas_like hk]
  · simp only [if_neg hk]
    have e : run t (sp0 t) (sby x) = (sby x).foldl (cmpN t.Text) ((0 : Nat) : Int) := by
      rw [run_cmp hk]; unfold sp0; rw [if_neg hk]; rfl
    have hc := cmp_run h16 (x := x) (k := 0) (Nat.zero_le _)
    rw [← e, List.drop_zero] at hc
    have hz := cm_zero (x := x) (q := t.Text)
    generalize run t (sp0 t) (sby x) = s at hc ⊢
    have e1 : decide (s = (t.Text.length : Int)) = decide (x = t.Text) := decide_eq_decide.2 (by
      rw [← hz]
      rcases hc with ⟨a, b⟩ | ⟨a, b⟩ | ⟨a, b⟩
      · rw [a, b]; constructor <;> intro h <;> omega
      · rw [a]; constructor <;> intro h <;> omega
      · rw [a, b]; simp)
    have e2 : decide (s = 100 ∨ s < (t.Text.length : Int)) = decide (cm x t.Text < 0) := decide_eq_decide.2 (by
      rcases hc with ⟨a, b⟩ | ⟨a, b⟩ | ⟨a, b⟩ <;> rw [a] <;> omega)
    have e3 : decide (s = 100 ∨ s ≤ (t.Text.length : Int)) = decide (cm x t.Text ≤ 0) := decide_eq_decide.2 (by
      rcases hc with ⟨a, b⟩ | ⟨a, b⟩ | ⟨a, b⟩ <;> rw [a] <;> omega)
    rw [e1, e2, e3]
end Go.D
set_option linter.unusedSimpArgs false
set_option linter.unusedVariables false
namespace Go.D
open Go Go.X
theorem cutFrom {α : Type} {xs : List α} {k : Nat} (h : k ≤ xs.length) : cut xs (k : Int) (xs.length : Int) = some (xs.drop k) := by
  rw [cut_i rfl rfl h (Nat.le_refl _), List.take_length]
theorem cutTail {α : Type} {x : α} {xs : List α} : cut (x :: xs) 1 ((x :: xs).length : Int) = some xs := by
  have := cutFrom (xs := x :: xs) (k := 1) (by simp)
  simpa using this
theorem u16Like_tm : ∀ {p s : List UInt8}, s.length ≤ 1000 → Tm (fun N => u16Like N s p) (· = lk p s)
  | [], s, hs => by
    refine Tm.succ ?_
    show Tm (fun N => u16Like_step N (u16Like N) s []) _
    unfold u16Like_step
    refine Tm.pos rfl (Tm.some ?_)
    show decide (s = []) = s.isEmpty
    cases s <;> rfl
  | b :: q, s, hs => by
    refine Tm.succ ?_
    show Tm (fun N => u16Like_step N (u16Like N) s (b :: q)) _
    unfold u16Like_step
    refine Tm.neg (by simp) (Tm.step (a := b) rfl ?_)
    by_cases hb : b = 37
    · refine Tm.pos (u8_37.2 hb) ?_
      subst hb
      refine Tm.bind (Q := fun o => match o with | .inl _ => lk (37 :: q) s = false | .inr z => z = true ∧ lk (37 :: q) s = true) ?_ fun o ho => ?_
      · refine Tm.up (s.length + 1) (fun k i => i = (k : Int) ∧ ∀ j, j < k → lk q (s.drop j) = false) ⟨rfl, fun j hj => by omega⟩ ?_
        rintro k hk i ⟨rfl, hJ⟩
        unfold u16Like_b1
        by_cases hlt : k ≤ s.length
        · refine Tm.pos (by omega) (Tm.step (cutFrom hlt) (Tm.step cutTail ((u16Like_tm (p := q) (s := s.drop k) (by simp; omega)).eq ?_)))
          cases e : lk q (s.drop k) with
          | true => exact Tm.pos rfl (Tm.some ⟨rfl, lk_star.2 ⟨k, hlt, e⟩⟩)
          | false =>
            refine Tm.neg (by simp) (Tm.some ⟨by omega, iw_n (by omega), fun j hj => ?_⟩)
            by_cases ej : j = k
            · subst ej; exact e
            · exact hJ j (by omega)
        · refine Tm.neg (by omega) (Tm.some ?_)
          show lk (37 :: q) s = false
          cases e : lk (37 :: q) s with
          | false => rfl
          | true =>
            obtain ⟨i, h1, h2⟩ := lk_star.1 e
            rw [hJ i (by omega)] at h2; cases h2
      · cases o with
        | inl _ => exact Tm.some (by rw [show lk (37 :: q) s = false from ho])
        | inr z => obtain ⟨h1, h2⟩ := ho; exact Tm.some (by rw [h1, h2])
    · refine Tm.neg (fun h => hb (u8_37.1 h)) ?_
      cases s with
      | nil =>
        refine Tm.neg (by simp) (Tm.some ?_)
        show false = if b = 37 then _ else false
        rw [if_neg hb]
      | cons c y =>
        have e : lk (b :: q) (c :: y) = ((decide (b = 95) || decide (b = c)) && lk q y) := by
          show (if b = 37 then _ else (decide (b = 95) || decide (b = c)) && lk q y) = _
          rw [if_neg hb]
        rw [e]
        have ih := u16Like_tm (p := q) (s := y) (by simp at hs; omega)
        refine Tm.pos (by simp) (Tm.step (a := b) rfl ?_)
        by_cases h1 : b = 95
        · refine Tm.pos (u8_95.2 h1) (Tm.step cutTail (Tm.step cutTail (ih.eq (Tm.some ?_))))
          rw [decide_eq_true h1]; simp
        · refine Tm.neg (fun h => h1 (u8_95.1 h)) (Tm.step (a := b) rfl (Tm.step (a := c) rfl ?_))
          by_cases h2 : b = c
          · refine Tm.pos (by rw [h2]) (Tm.step cutTail (Tm.step cutTail (ih.eq (Tm.some ?_))))
            rw [decide_eq_true h2]; simp
          · refine Tm.neg (fun h => h2 (UInt8.toNat_inj.1 (by omega))) (Tm.some ?_)
            rw [decide_eq_false h1, decide_eq_false h2]; rfl
def cmi (a b : Int) : Int := if a < b then -1 else if a > b then 1 else 0
theorem u4ints_tm {a b : Int} : Tm (fun N => u4ints N a b) (· = cmi a b) := by
  unfold u4ints cmi
  by_cases h1 : a < b
  · simp only [h1, if_true]; exact Tm.some rfl
  · by_cases h2 : a > b
    · simp only [h1, h2, if_true, if_false]; exact Tm.some rfl
    · simp only [h1, h2, if_false]; exact Tm.some rfl
theorem iw_u8 {b : UInt8} : iw ((b.toNat : Nat) : Int) = ((b.toNat : Nat) : Int) := by
  have := b.toNat_lt
  rw [iw_eq] <;> omega
theorem u4Texts_tm {a b : List UInt8} (ha : a.length ≤ Bg) (hb : b.length ≤ Bg) : Tm (fun N => u4Texts N a b) (· = cm a b) := by
  have hg : Bg = 9223372036854775807 := rfl
  unfold u4Texts
  refine Tm.bind (Q := fun o => match o with | .inl _ => cm a b = cmi a.length b.length | .inr z => z = cm a b) ?_ fun o ho => ?_
  · refine Tm.up (min a.length b.length) (fun k i => i = (k : Int) ∧ cm a b = cm (a.drop k) (b.drop k)) ⟨rfl, by simp⟩ ?_
    rintro k hk i ⟨rfl, hJ⟩
    unfold u4Texts_b1
    by_cases hlt : k < a.length ∧ k < b.length
    · obtain ⟨h1, h2⟩ := hlt
      refine Tm.eq (a := true) (Tm.pos (by omega) (Tm.some (decide_eq_true (by omega)))) (Tm.pos rfl (Tm.step (idx_n h1) (Tm.step (idx_n h2) ?_)))
      rw [List.drop_eq_getElem_cons h1, List.drop_eq_getElem_cons h2, cm] at hJ
      by_cases h3 : (a[k].toNat : Int) ≠ (b[k].toNat : Int)
      · refine Tm.pos h3 (Tm.step (idx_n h1) (Tm.step (idx_n h2) (u4ints_tm.eq (Tm.some ?_))))
        show cmi _ _ = cm a b
        rw [iw_u8, iw_u8, hJ]
        unfold cmi
        by_cases h4 : a[k].toNat < b[k].toNat
        · rw [if_pos (by omega), if_pos h4]
        · rw [if_neg (by omega), if_pos (by omega), if_neg h4, if_pos (by omega)]
      · refine Tm.neg h3 (Tm.some ⟨by omega, iw_n (by omega), ?_⟩)
        rw [hJ, if_neg (by omega), if_neg (by omega)]
    · refine Tm.eq (a := false) ?_ (Tm.neg (by simp) (Tm.some ?_))
      · by_cases h1 : k < a.length
        · exact Tm.pos (by omega) (Tm.some (decide_eq_false (by omega)))
        · exact Tm.neg (by omega) (Tm.some rfl)
      · show cm a b = _
        rw [hJ]
        unfold cmi
        rcases Nat.lt_or_ge k a.length with h1 | h1
        · have h2 : k = b.length := by omega
          subst h2
          rw [List.drop_length, List.drop_eq_getElem_cons h1, cm, if_neg (by omega), if_pos (by omega)]
        · have h3 : k = a.length := by omega
          subst h3
          rw [List.drop_length]
          rcases Nat.lt_or_ge a.length b.length with h2 | h2
          · rw [List.drop_eq_getElem_cons h2, cm, if_pos (by omega)]
          · rw [List.drop_eq_nil_of_le h2, cm, if_neg (by omega), if_neg (by omega)]
  · cases o with
    | inl _ => exact u4ints_tm.eq (Tm.some ho.symm)
    | inr z => exact Tm.some ho
theorem u16Passes_tm {t : TTest} {x : List UInt8} (h : okT t = true) (hx : x.length ≤ 1000) : Tm (fun N => u16Passes N t x) (· = mean t x) := by
  have hg : Bg = 9223372036854775807 := rfl
  obtain ⟨k0, k3, h16⟩ := okT_len h
  unfold u16Passes mean
  refine Tm.eq (a := if t.Kind = 1 then lk t.Text x else if t.Kind = 0 then decide (x = t.Text) else if t.Kind = 2 then decide (cm x t.Text < 0) else decide (cm x t.Text ≤ 0)) ?_ (Tm.some rfl)
  by_cases g0 : t.Kind = 0
  · rw [if_neg (by omega), if_pos g0]
    exact Tm.pos g0 (Tm.some rfl)
  · refine Tm.neg g0 ?_
    by_cases g1 : t.Kind = 1
    · rw [if_pos g1]
      exact Tm.pos g1 ((u16Like_tm hx).eq (Tm.some rfl))
    · rw [if_neg g1, if_neg g0]
      refine Tm.neg g1 ?_
      by_cases g2 : t.Kind = 2
      · rw [if_pos g2]
        exact Tm.pos g2 ((u4Texts_tm (by omega) (by omega)).eq (Tm.some rfl))
      · rw [if_neg g2]
        exact Tm.neg g2 (Tm.pos (by omega) ((u4Texts_tm (by omega) (by omega)).eq (Tm.some rfl)))
theorem u4Printable_tm {s : List UInt8} (hl : s.length ≤ Bg) : Tm (fun N => u4Printable N s) (· = s.all prn) := by
  have hb : Bg = 9223372036854775807 := rfl
  unfold u4Printable
  refine (Tm.allL (b := fun N => u4Printable_b1 N s) s prn (by omega) (fun k hk => ?_) ?_).eq ?_
  · unfold u4Printable_b1
    refine Tm.pos (by omega) ?_
    simp only [idx_n hk, Option.bind_some, or_if, prn_bad]
    cases prn s[k] <;> exact Tm.some rfl
  · unfold u4Printable_b1
    exact Tm.neg (by omega) (Tm.some rfl)
  · cases h : s.all prn <;> exact Tm.some rfl
def vOk (v : RVal) (x : RVar) : Prop :=
  (v.Kind = 0 ∧ v.Int = 0 ∧ v.Text = []) ∨ (v.Kind = 1 ∧ v.Text = [] ∧ x.Ty = 1 ∧ x.Low ≤ v.Int ∧ v.Int ≤ x.High) ∨ (v.Kind = 2 ∧ v.Int = 0 ∧ x.Ty = 2 ∧ v.Text.all prn = true ∧ v.Text.length ≤ 16 ∧ (v.Text.length : Int) ≤ x.Max)
theorem u4Fits_tm {v : RVal} {x : RVar} (hl : v.Text.length ≤ Bg) : Tm (fun N => u4Fits N v x) (fun r => r = true → vOk v x) := by
  unfold u4Fits
  refine Tm.bind (Q := fun r => r = true → (v.Kind = 0 ∧ v.Int = 0 ∧ v.Text = []) ∨ (v.Kind = 1 ∧ v.Text = []) ∨ (v.Kind = 2 ∧ v.Int = 0 ∧ v.Text.all prn = true ∧ v.Text.length ≤ 16)) ?_ fun r hr => ?_
  · unfold u4Valid
    by_cases h0 : v.Kind = 0
    · refine Tm.pos h0 ?_
      by_cases h1 : v.Int = 0
      · exact Tm.pos h1 (Tm.some fun h => .inl ⟨h0, h1, of_decide_eq_true h⟩)
      · exact Tm.neg h1 (Tm.some fun h => by cases h)
    · refine Tm.neg h0 ?_
      by_cases h1 : v.Kind = 1
      · exact Tm.pos h1 (Tm.some fun h => .inr (.inl ⟨h1, of_decide_eq_true h⟩))
      · refine Tm.neg h1 ?_
        by_cases h2 : v.Kind = 2
        · refine Tm.pos h2 ?_
          by_cases h3 : v.Int = 0
          · refine Tm.pos h3 ((u4Printable_tm hl).eq ?_)
            cases e : v.Text.all prn with
            | true => exact Tm.pos rfl (Tm.some fun h => .inr (.inr ⟨h2, h3, rfl, by have := of_decide_eq_true h; omega⟩))
            | false => exact Tm.neg (by simp) (Tm.some fun h => by cases h)
          · exact Tm.neg h3 (Tm.some fun h => by cases h)
        · exact Tm.neg h2 (Tm.some fun h => by cases h)
  · cases r with
    | false => exact Tm.pos rfl (Tm.some fun h => by cases h)
    | true =>
      refine Tm.neg (by simp) ?_
      rcases hr rfl with ⟨g0, g1, g2⟩ | ⟨g0, g1⟩ | ⟨g0, g1, g2, g3⟩
      · exact Tm.pos g0 (Tm.some fun _ => .inl ⟨g0, g1, g2⟩)
      · refine Tm.neg (by omega) (Tm.pos g0 ?_)
        by_cases h1 : x.Ty = 1
        · refine Tm.pos h1 ?_
          by_cases h2 : v.Int ≥ x.Low
          · exact Tm.pos h2 (Tm.some fun h => .inr (.inl ⟨g0, g1, h1, h2, of_decide_eq_true h⟩))
          · exact Tm.neg h2 (Tm.some fun h => by cases h)
        · exact Tm.neg h1 (Tm.some fun h => by cases h)
      · refine Tm.neg (by omega) (Tm.neg (by omega) ?_)
        by_cases h1 : x.Ty = 2
        · exact Tm.pos h1 (Tm.some fun h => .inr (.inr ⟨g0, g1, h1, g2, g3, of_decide_eq_true h⟩))
        · exact Tm.neg h1 (Tm.some fun h => by cases h)
structure RowOk (R : List RVal) (l : List RVar) : Prop where
  len : R.length = l.length
  at' : ∀ i (h : i < R.length) (h' : i < l.length), vOk R[i] l[i]
theorem u16Inside_tm {R : List RVal} {l : List RVar} (hR : R.length ≤ Bg) (hT : ∀ v ∈ R, v.Text.length ≤ Bg) : Tm (fun N => u16Inside N R l) (fun r => r = true → RowOk R l) := by
  have hb : Bg = 9223372036854775807 := rfl
  unfold u16Inside
  by_cases h0 : R.length = l.length
  · refine Tm.neg (by simp [h0]) ?_
    refine Tm.bind (Q := fun o => match o with | .inl _ => ∀ i (h : i < R.length) (h' : i < l.length), vOk R[i] l[i] | .inr z => z = false) ?_ fun o ho => ?_
    · refine Tm.up R.length (fun k s => s = (k : Int) ∧ ∀ j (hj : j < R.length) (hj' : j < l.length), j < k → vOk R[j] l[j]) ⟨rfl, fun j _ _ hj => by omega⟩ ?_
      rintro k hk i ⟨rfl, hJ⟩
      unfold u16Inside_b1
      rcases Nat.lt_or_ge k R.length with hlt | hge
      · have hlt' : k < l.length := by omega
        refine Tm.pos (by omega) (Tm.step (idx_n hlt) (Tm.step (idx_n hlt') ((u4Fits_tm (hT _ (List.getElem_mem hlt))).bind fun r hr => ?_)))
        cases r with
        | false => exact Tm.pos rfl (Tm.some rfl)
        | true =>
          refine Tm.neg (by simp) (Tm.some ⟨hlt, iw_n (by omega), fun j hj hj' hjk => ?_⟩)
          by_cases ejk : j = k
          · subst ejk; exact hr rfl
          · exact hJ j hj hj' (by omega)
      · exact Tm.neg (by omega) (Tm.some fun i h h' => hJ i h h' (by omega))
    · cases o with
      | inl _ => exact Tm.some fun _ => ⟨h0, ho⟩
      | inr z =>
        have ho : z = false := ho
        subst ho
        exact Tm.some fun h => by cases h
  · exact Tm.pos (by omega) (Tm.some fun h => by cases h)
end Go.D
set_option linter.unusedSimpArgs false
set_option linter.unusedVariables false
namespace Go.D
open Go Go.X
abbrev W32 : Int := 4294967296
theorem w32_pos : (1 : Int) < W32 := by decide
def bv (x : Big) : Int := if x.Negative = true then - val W32 x.Digits else val W32 x.Digits
structure Is (x : Big) (v : Int) : Prop where
  dg : Dg W32 x.Digits v.natAbs
  neg : x.Negative = decide (v < 0)
theorem Is.bv {x : Big} {v : Int} (h : Is x v) : bv x = v := by
  unfold D.bv; rw [h.neg, h.dg.val]
  by_cases hv : v < 0
  · simp [hv]; omega
  · simp [hv]; omega
theorem bv_mul {a b : Big} : bv a * bv b = if (!(a.Negative == b.Negative)) = true then -(val W32 a.Digits * val W32 b.Digits) else val W32 a.Digits * val W32 b.Digits := by
  unfold bv
  cases a.Negative <;> cases b.Negative <;> simp [Int.neg_mul, Int.mul_neg]
end Go.D
set_option linter.unusedSimpArgs false
set_option linter.unusedVariables false
namespace Go.D
open Go Go.X
abbrev W16 : Int := 65536
theorem w16_pos : (1 : Int) < W16 := by decide
theorem tmod16 {x : Int} (h : 0 ≤ x) : Int.tmod x 65536 = x % 65536 := Int.tmod_eq_emod_of_nonneg h
theorem tdiv16 {x : Int} (h : 0 ≤ x) : Int.tdiv x 65536 = x / 65536 := Int.tdiv_eq_ediv_of_nonneg h
theorem rtrim_tm {l : List Int} (hd : InB W16 l) (hl : l.length ≤ 35184372088832) : Tm (fun N => rtrim N l) (fun r => Dg W16 r (val W16 l) ∧ r.length ≤ l.length) := by
  unfold rtrim
  refine Tm.bind (Tm.loop (fun s : List Int => ∃ n : Nat, n ≤ l.length ∧ s = l.take n ∧ (∀ j, (hj : j < l.length) → n ≤ j → l[j] = 0)) (fun s => s.length) (Q := fun r => Dg W16 r (val W16 l) ∧ r.length ≤ l.length) ⟨l.length, Nat.le_refl _, by simp, fun j h1 h2 => absurd h1 (by omega)⟩ ?_) (fun r h => Tm.pure h)
  rintro _ ⟨n, hn, rfl, h0⟩
  have hlen : (l.take n).length = n := by simp; omega
  dsimp only [rtrim_b1]
  rcases Nat.eq_zero_or_pos n with rfl | hk0
  · refine Tm.bind (Q := (· = false)) (Tm.neg (by simp) (Tm.pure rfl)) ?_
    rintro _ rfl
    exact Tm.neg (by simp) (Tm.pure ⟨dg_cut hn hd h0 (.inl rfl), by simp⟩)
  · refine Tm.bind (Q := (· = decide (l[n - 1] = 0))) (Tm.pos (by omega) (Tm.step (idx_i (n := n - 1) (by rw [iw_eq] <;> omega) (by omega)) (Tm.pure ?_))) ?_
    · rw [List.getElem_take]
    rintro _ rfl
    by_cases h : l[n - 1] = 0
    · refine Tm.pos (by simpa using h) (Tm.step (cut_i (m := 0) (n := n - 1) rfl (by rw [iw_eq] <;> omega) (by omega) (by omega)) (Tm.pure ⟨⟨n - 1, by omega, ?_, fun j h1 h2 => ?_⟩, ?_⟩))
      · simp [List.take_take]
      · rcases Nat.eq_or_lt_of_le h2 with rfl | h3
        · exact h
        · exact h0 j h1 (by omega)
      · simp; omega
    · exact Tm.neg (by simpa using h) (Tm.pure ⟨dg_cut hn hd h0 (.inr ⟨by omega, h⟩), by omega⟩)
theorem halves_tm {x : Big} (hd : InB W32 x.Digits) (hl : x.Digits.length ≤ 8796093022208) : Tm (fun N => halves N x) (fun r => Dg W16 r (val W32 x.Digits) ∧ r.length ≤ 2 * x.Digits.length) := by
  unfold halves
  refine Tm.bind (Tm.loop (fun s : List Int × Int => ∃ n : Nat, s.2 = n ∧ n ≤ x.Digits.length ∧ s.1.length = 2 * n ∧ InB W16 s.1 ∧ val W16 s.1 = val W32 (x.Digits.take n)) (fun s => x.Digits.length - s.2.toNat) (Q := fun r => InB W16 r ∧ val W16 r = val W32 x.Digits ∧ r.length = 2 * x.Digits.length) ⟨0, rfl, Nat.zero_le _, rfl, .nil, by simp [val]⟩ ?_) ?_
  · rintro ⟨l, i⟩ ⟨n, rfl, hn, ho, hB, hv⟩
    dsimp only [halves_b1] at *
    refine Tm.ite (fun h => ?_) (fun h => Tm.pure ?_)
    · refine Tm.step (idx_ok (by omega)) (Tm.step (idx_ok (by omega)) ?_)
      have hx := hd.get (n := n) (by omega)
      have ex : x.Digits.getD n 0 = x.Digits[n]'(by omega) := by rw [List.getD_eq_getElem?_getD, List.getElem?_eq_getElem (by omega)]; rfl
      generalize x.Digits[n]'(by omega) = y at *
      simp only [W32] at hx
      rw [tmod16 hx.1, tdiv16 hx.1, uw32_mod]
      have e1 : iw (y % 65536) = y % 65536 := by rw [iw_eq] <;> omega
      have e2 : iw (y / 65536 % 4294967296) = y / 65536 := by rw [iw_eq] <;> omega
      rw [e1, e2]
      refine Tm.step (apnd_ok (by simp only [List.length_cons, List.length_nil]; omega) (by decide)) (Tm.pure ⟨⟨n + 1, by dsimp only; rw [iw_eq] <;> omega, by omega, by simp; omega, hB.append (.cons (B := 65536) (by omega) (.cons (by omega) .nil)), ?_⟩, ?_⟩)
      · show val W16 (l ++ [y % 65536, y / 65536]) = _
        rw [val_append, val_take, ho, hv, ex, Int.pow_mul]
        have : val W16 [y % 65536, y / 65536] = y := by simp only [val, W16]; omega
        rw [this]; rfl
      · dsimp only; rw [iw_eq] <;> omega
    · have hnL : n = x.Digits.length := by omega
      subst hnL
      rw [List.take_of_length_le (Nat.le_refl _)] at hv
      exact ⟨hB, hv, ho⟩
  · rintro r ⟨h1, h2, h3⟩
    exact Tm.bind (rtrim_tm h1 (by omega)) (fun r' h => Tm.pure ⟨h2 ▸ h.1, by omega⟩)
theorem nrm_snoc {l : List Int} {d : Int} (h : d ≠ 0) : Nrm (l ++ [d]) := by simp [Nrm, h]
theorem rbig_tm {neg : Bool} {l : List Int} (hd : InB W16 l) (hl : l.length ≤ 17592186044416) : Tm (fun N => rbig N neg l) (fun r => Is r (if neg = true then - val W16 l else val W16 l) ∧ r.Digits.length ≤ (l.length + 1) / 2) := by
  unfold rbig
  refine Tm.bind (rtrim_tm hd (by omega)) ?_
  rintro t ⟨ht, htl⟩
  have h0 := ht.nonneg (by decide)
  have hz := ht.zero (by decide)
  refine Tm.bind (Q := (· = (neg && decide (val W16 l ≠ 0)))) (Tm.ite (fun h => Tm.pure ?_) (fun h => Tm.pure ?_)) ?_
  · rw [h]
    by_cases e : t = []
    · have := hz.1 e; simp [e, this]
    · have : val W16 l ≠ 0 := fun e' => e (hz.2 e')
      have := List.length_pos_iff.2 e
      simp_all
  · simp at h; simp [h]
  rintro _ rfl
  refine Tm.bind (Tm.loop (fun s : List Int × Int => ∃ n : Nat, s.2 = ((2 * n : Nat) : Int) ∧ 2 * n ≤ t.length + 1 ∧ s.1.length = n ∧ InB W32 s.1 ∧ val W32 s.1 = val W16 (t.take (2 * n)) ∧ (t.length ≤ 2 * n → Nrm s.1)) (fun s => t.length + 2 - s.2.toNat) (Q := fun r => Dg W32 r (val W16 t) ∧ r.length ≤ (t.length + 1) / 2)
    ⟨0, rfl, by omega, rfl, .nil, by simp [val], fun _ => nrm_nil⟩ ?_) ?_
  · rintro ⟨ds, i⟩ ⟨n, rfl, hn, ho, hB, hv, hN⟩
    dsimp only [rbig_b1] at *
    refine Tm.ite (fun h => ?_) (fun h => Tm.pure ?_)
    · refine Tm.step (idx_ok (by omega)) ?_
      have hx := ht.inB.get (n := 2 * n) (by omega)
      have ex : t.getD (2 * n) 0 = t[2 * n]'(by omega) := by rw [List.getD_eq_getElem?_getD, List.getElem?_eq_getElem (by omega)]; rfl
      have hlast : t.length = 2 * n + 1 → t[2 * n]'(by omega) ≠ 0 := fun e h' => ht.nrm (by rw [List.getLast?_eq_getElem?, e, Nat.add_sub_cancel, List.getElem?_eq_getElem (by omega), h'])
      generalize t[2 * n]'(by omega) = x at *
      have hi : iw (((2 * n : Nat) : Int) + 1) = ((2 * n + 1 : Nat) : Int) := by rw [iw_eq] <;> omega
      refine Tm.bind (Q := fun d => d = x + 65536 * t.getD (2 * n + 1) 0 ∧ (t.length ≤ 2 * n + 2 → d ≠ 0)) ?_ ?_
      · refine Tm.ite (fun h1 => ?_) (fun h1 => Tm.pure ?_)
        · refine Tm.step (idx_i hi (by omega)) (Tm.pure ?_)
          have hy := ht.inB.get (n := 2 * n + 1) (by omega)
          have ey : t.getD (2 * n + 1) 0 = t[2 * n + 1]'(by omega) := by rw [List.getD_eq_getElem?_getD, List.getElem?_eq_getElem (by omega)]; rfl
          have hlast' : t.length = 2 * n + 2 → t[2 * n + 1]'(by omega) ≠ 0 := fun e h' => ht.nrm (by rw [List.getLast?_eq_getElem?, e, show 2 * n + 2 - 1 = 2 * n + 1 by omega, List.getElem?_eq_getElem (by omega), h'])
          rw [ey]
          generalize t[2 * n + 1]'(by omega) = y at *
          simp only [W16] at hx hy
          have e1 : uw32 (uw32 x + uw32 (65536 * uw32 y)) = x + 65536 * y := by
            rw [uw32_mod, uw32_mod, uw32_mod, uw32_mod]; omega
          rw [e1]
          exact ⟨rfl, fun h' => by have := hlast' (by omega); omega⟩
        · have ey : t.getD (2 * n + 1) 0 = 0 := by rw [List.getD_eq_getElem?_getD, List.getElem?_eq_none (by omega)]; rfl
          rw [ey]
          simp only [W16] at hx
          have := hlast (by omega)
          rw [uw32_mod]
          exact ⟨by omega, fun _ => by omega⟩
      · rintro _ ⟨rfl, hd0⟩
        have hy := ht.inB.getD (by decide) (2 * n + 1)
        have et : val W16 (t.take (2 * (n + 1))) = val W16 (t.take (2 * n)) + W16 ^ (2 * n) * (x + 65536 * t.getD (2 * n + 1) 0) := by
          rw [show 2 * (n + 1) = 2 * n + 1 + 1 by omega, val_take, val_take, ex, Int.pow_succ]
          have hw : W16 = 65536 := rfl
          grind
        generalize t.getD (2 * n + 1) 0 = y at *
        simp only [W16] at hx hy
        refine Tm.step (apnd_ok (by simp only [List.length_cons, List.length_nil]; omega) (by decide)) (Tm.pure ⟨⟨n + 1, by dsimp only; rw [iw_eq] <;> omega, by omega, by simp; omega, hB.append (.cons (B := 4294967296) (by omega) .nil), ?_, fun h' => nrm_snoc (hd0 (by omega))⟩, ?_⟩)
        · show val W32 (ds ++ [x + 65536 * y]) = _
          rw [val_append, et, ho, hv, Int.pow_mul]
          have hw : W16 ^ 2 = W32 := by decide
          rw [hw]; simp only [val]; simp
        · dsimp only; rw [iw_eq] <;> omega
    · rw [List.take_of_length_le (by omega)] at hv
      exact ⟨⟨hB, hN (by omega), hv⟩, by omega⟩
  · rintro r ⟨hr, hrl⟩
    refine Tm.pure ⟨⟨?_, ?_⟩, Nat.le_trans (show r.length ≤ _ from hrl) (Nat.div_le_div_right (by omega))⟩
    · have e : (((if neg = true then - val W16 l else val W16 l) : Int).natAbs : Int) = val W16 t := by rw [ht.val]; cases neg <;> simp <;> omega
      rw [e]; exact hr
    · show (neg && decide (val W16 l ≠ 0)) = _
      by_cases e : val W16 l = 0
      · cases neg <;> simp [e]
      · cases neg
        · simp; omega
        · have : -val W16 l < 0 := by omega
          simp [e, this]; omega
theorem rNormal_tm {x : Big} (hd : InB W32 x.Digits) (hl : x.Digits.length ≤ 8796093022208) : Tm (fun N => rNormal N x) (fun r => Is r (bv x) ∧ r.Digits.length ≤ x.Digits.length) := by
  unfold rNormal
  refine Tm.bind (halves_tm hd hl) ?_
  rintro h ⟨hh, hhl⟩
  refine Tm.bind (rbig_tm hh.inB (by omega)) (fun r hr => Tm.pure ⟨?_, by omega⟩)
  have := hr.1
  rw [hh.val] at this
  exact this
theorem rNeg_tm {x : Big} (hd : InB W32 x.Digits) (hl : x.Digits.length ≤ 8796093022208) : Tm (fun N => rNeg N x) (fun r => Is r (- bv x) ∧ r.Digits.length ≤ x.Digits.length) := by
  unfold rNeg
  refine Tm.bind (halves_tm hd hl) ?_
  rintro h ⟨hh, hhl⟩
  refine Tm.bind (rbig_tm hh.inB (by omega)) (fun r hr => Tm.pure ⟨?_, by omega⟩)
  have := hr.1
  rw [hh.val] at this
  unfold bv
  cases hx : x.Negative <;> rw [hx] at this <;> simpa using this
theorem rSign_tm {x : Big} (hd : InB W32 x.Digits) (hl : x.Digits.length ≤ 8796093022208) : Tm (fun N => rSign N x) (fun r => r = sgn (bv x) 0) := by
  unfold rSign
  refine Tm.bind (halves_tm hd hl) ?_
  rintro h ⟨hh, -⟩
  have hz := hh.zero (by decide)
  have h0 := hh.nonneg (by decide)
  unfold bv
  refine Tm.ite (fun h1 => Tm.pure ?_) (fun h1 => ?_)
  · have := hz.1 (List.length_eq_zero_iff.1 (by omega))
    unfold sgn; rw [this]; simp
  · have : val W32 x.Digits ≠ 0 := fun e => h1 (by rw [hz.2 e]; rfl)
    refine Tm.ite (fun h' => Tm.pure ?_) (fun h' => Tm.pure ?_)
    · rw [if_pos h']; unfold sgn; rw [if_pos (by omega)]
    · rw [if_neg h']; unfold sgn; rw [if_neg (by omega), if_pos (by omega)]
theorem rorder_tm {a b : List Int} (ha : InB W16 a) (hb : InB W16 b) (na : Nrm a) (nb : Nrm b) (hl : a.length ≤ 35184372088832) (hl' : b.length ≤ 35184372088832) : Tm (fun N => rorder N a b) (fun r => r = sgn (val W16 a) (val W16 b)) := by
  unfold rorder
  refine Tm.ite (fun h => ?_) (fun h => ?_)
  · refine Tm.ite (fun h' => Tm.pure ?_) (fun h' => Tm.pure ?_)
    · have := len_cmp w16_pos ha hb nb (by omega)
      unfold sgn; rw [if_pos this]
    · have := len_cmp w16_pos hb ha na (by omega)
      unfold sgn; rw [if_neg (by omega), if_pos this]
  · have hle : a.length = b.length := by omega
    refine Tm.bind (Q := fun r : Sum Unit Int => (match r with | .inl _ => 0 | .inr z => z) = sgn (val W16 a) (val W16 b))
      (Tm.loop (fun i : Int => ∃ n : Nat, i = (n : Int) - 1 ∧ n ≤ a.length ∧ a.drop n = b.drop n) (fun i => (i + 1).toNat) ⟨a.length, by rw [iw_eq] <;> omega, Nat.le_refl _, by rw [List.drop_of_length_le (Nat.le_refl _), List.drop_of_length_le (by omega)]⟩ ?_) ?_
    · rintro _ ⟨n, rfl, hn, hd⟩
      dsimp only [rorder_b1]
      refine Tm.ite (fun h1 => ?_) (fun h1 => ?_)
      · have hna : n - 1 < a.length := by omega
        have hnb : n - 1 < b.length := by omega
        refine Tm.step (idx_i (n := n - 1) (by omega) hna) (Tm.step (idx_i (n := n - 1) (by omega) hnb) (Tm.ite (fun h2 => ?_) (fun h2 => ?_)))
        · have := val_cmp w16_pos ha hb hle hna (by rw [show n - 1 + 1 = n by omega]; exact hd) h2
          refine Tm.pure ?_
          show (-1 : Int) = _
          unfold sgn; rw [if_pos this]
        · refine Tm.step (idx_i (n := n - 1) (by omega) hna) (Tm.step (idx_i (n := n - 1) (by omega) hnb) (Tm.ite (fun h3 => ?_) (fun h3 => ?_)))
          · have := val_cmp w16_pos hb ha hle.symm hnb (by rw [show n - 1 + 1 = n by omega]; exact hd.symm) h3
            refine Tm.pure ?_
            show (1 : Int) = _
            unfold sgn; rw [if_neg (by omega), if_pos this]
          · refine Tm.pure ⟨⟨n - 1, by rw [iw_eq] <;> omega, by omega, ?_⟩, ?_⟩
            · rw [List.drop_eq_getElem_cons hna, List.drop_eq_getElem_cons hnb, show n - 1 + 1 = n by omega, hd, show a[n - 1] = b[n - 1] by omega]
            · show (iw ((n : Int) - 1 - 1) + 1).toNat < ((n : Int) - 1 + 1).toNat
              rw [iw_eq] <;> omega
      · have : n = 0 := by omega
        subst this
        refine Tm.pure ?_
        show (0 : Int) = _
        have : a = b := by simpa using hd
        rw [this]; unfold sgn; rw [if_neg (by omega), if_neg (by omega)]
    · rintro (_ | z) h <;> exact Tm.pure h
theorem getD_ok {l : List Int} {n : Nat} (h : n < l.length) : l.getD n 0 = l[n] := by rw [List.getD_eq_getElem?_getD, List.getElem?_eq_getElem h]; rfl
theorem getD_out {l : List Int} {n : Nat} (h : l.length ≤ n) : l.getD n 0 = 0 := by rw [List.getD_eq_getElem?_getD, List.getElem?_eq_none h]; rfl
theorem take_all {l : List Int} {n : Nat} (h : l.length ≤ n) : l.take n = l := List.take_of_length_le h
theorem rplus_tm {a b : List Int} (ha : InB W16 a) (hb : InB W16 b) (hl : a.length ≤ 8796093022208) (hl' : b.length ≤ 8796093022208) : Tm (fun N => rplus N a b) (fun r => Dg W16 r (val W16 a + val W16 b) ∧ r.length ≤ max a.length b.length + 1) := by
  unfold rplus
  generalize hL : max a.length b.length = L
  refine Tm.bind (Q := fun r => InB W16 r ∧ val W16 r = val W16 a + val W16 b ∧ r.length ≤ L + 1)
    (Tm.loop (fun s : List Int × Int × Int => ∃ n : Nat, s.2.2 = n ∧ n ≤ L + 1 ∧ s.1.length = n ∧ InB W16 s.1 ∧ 0 ≤ s.2.1 ∧ s.2.1 ≤ 1 ∧ (L < n → s.2.1 = 0) ∧ val W16 s.1 + W16 ^ n * s.2.1 = val W16 (a.take n) + val W16 (b.take n)) (fun s => L + 1 - s.2.2.toNat)
      ⟨0, rfl, Nat.zero_le _, rfl, .nil, by simp, by simp, fun _ => rfl, by simp [val]⟩ ?_) ?_
  · rintro ⟨out, carry, i⟩ ⟨n, rfl, hn, ho, hB, h0, h1, hc, hv⟩
    dsimp only [rplus_b1] at *
    refine Tm.bind (Q := (· = decide (n < L ∨ 0 < carry))) (Tm.ite (fun h => Tm.pure ?_) (fun h => Tm.ite (fun h' => Tm.pure ?_) (fun h' => Tm.pure ?_))) ?_
    · have : n < L := by omega
      simp [this]
    · have : n < L := by omega
      simp [this]
    · have : ¬ n < L := by omega
      simp [this]
    rintro _ rfl
    refine Tm.ite (fun h => ?_) (fun h => Tm.pure ?_)
    · have h := of_decide_eq_true h
      have hx := ha.getD (by decide) n
      have hy := hb.getD (by decide) n
      simp only [W16] at hx hy
      refine Tm.bind (Q := (· = carry + a.getD n 0)) (Tm.ite (fun h2 => ?_) (fun h2 => Tm.pure ?_)) ?_
      · rw [getD_ok (l := a) (by omega)] at *
        refine Tm.step (idx_ok (by omega)) (Tm.pure ?_)
        rw [iw_eq] <;> omega
      · rw [getD_out (by omega)]; omega
      rintro _ rfl
      refine Tm.bind (Q := (· = carry + a.getD n 0 + b.getD n 0)) (Tm.ite (fun h2 => ?_) (fun h2 => Tm.pure ?_)) ?_
      · rw [getD_ok (l := b) (by omega)] at *
        refine Tm.step (idx_ok (by omega)) (Tm.pure ?_)
        rw [iw_eq] <;> omega
      · rw [getD_out (l := b) (by omega)]; omega
      rintro _ rfl
      have hz : L ≤ n → a.getD n 0 = 0 ∧ b.getD n 0 = 0 := fun h => ⟨getD_out (by omega), getD_out (by omega)⟩
      generalize ex : a.getD n 0 = x at *
      generalize ey : b.getD n 0 = y at *
      rw [tmod16 (by omega), tdiv16 (by omega)]
      refine Tm.step (apnd_ok (by simp only [List.length_cons, List.length_nil]; omega) (by decide)) (Tm.pure ⟨⟨n + 1, ?_, by omega, by simp; omega, hB.append (.cons (B := 65536) (by omega) .nil), ?_, ?_, ?_, ?_⟩, ?_⟩)
      · show iw ((n : Int) + 1) = _
        rw [iw_eq] <;> omega
      · show 0 ≤ iw ((carry + x + y) / 65536)
        rw [iw_eq] <;> omega
      · show iw ((carry + x + y) / 65536) ≤ 1
        rw [iw_eq] <;> omega
      · intro h'
        show iw ((carry + x + y) / 65536) = 0
        have := hz (by omega)
        rw [iw_eq] <;> omega
      · show val W16 (out ++ [(carry + x + y) % 65536]) + W16 ^ (n + 1) * iw ((carry + x + y) / 65536) = _
        rw [iw_eq (by omega) (by omega), val_append, val_take, val_take, ex, ey, ho, Int.pow_succ]
        have := Int.emod_add_mul_ediv (carry + x + y) 65536
        have hw : W16 = 65536 := rfl
        simp only [val]
        grind
      · show L + 1 - (iw ((n : Int) + 1)).toNat < L + 1 - ((n : Int)).toNat
        rw [iw_eq] <;> omega
    · have h : ¬ (n < L ∨ 0 < carry) := fun e => h (decide_eq_true e)
      rw [take_all (by omega), take_all (by omega), show carry = 0 by omega] at hv
      exact ⟨hB, by show val W16 out = _; omega, by show out.length ≤ _; omega⟩
  · rintro r ⟨h1, h2, h3⟩
    exact Tm.bind (rtrim_tm h1 (by omega)) (fun r' h => Tm.pure ⟨h2 ▸ h.1, by omega⟩)
theorem rminus_tm {a b : List Int} (ha : InB W16 a) (hb : InB W16 b) (hl : a.length ≤ 8796093022208) (hl' : b.length ≤ a.length) (hv : val W16 b ≤ val W16 a) : Tm (fun N => rminus N a b) (fun r => Dg W16 r (val W16 a - val W16 b) ∧ r.length ≤ a.length) := by
  unfold rminus
  generalize hL : a.length = L at *
  refine Tm.bind (Q := fun r => InB W16 r ∧ val W16 r = val W16 a - val W16 b ∧ r.length = L)
    (Tm.loop (fun s : List Int × Int × Int => ∃ n : Nat, s.2.2 = n ∧ n ≤ L ∧ s.1.length = n ∧ InB W16 s.1 ∧ 0 ≤ s.2.1 ∧ s.2.1 ≤ 1 ∧ val W16 s.1 = val W16 (a.take n) - val W16 (b.take n) + W16 ^ n * s.2.1) (fun s => L - s.2.2.toNat)
      ⟨0, rfl, Nat.zero_le _, rfl, .nil, by simp, by simp, by simp [val]⟩ ?_) ?_
  · rintro ⟨out, borrow, i⟩ ⟨n, rfl, hn, ho, hB, h0, h1, hv'⟩
    dsimp only [rminus_b1] at *
    refine Tm.ite (fun h => ?_) (fun h => Tm.pure ?_)
    · have hx := ha.getD (by decide) n
      have hy := hb.getD (by decide) n
      simp only [W16] at hx hy
      refine Tm.step (idx_ok (by omega)) ?_
      rw [← getD_ok (by omega)]
      refine Tm.bind (Q := (· = a.getD n 0 - borrow - b.getD n 0)) (Tm.ite (fun h2 => ?_) (fun h2 => Tm.pure ?_)) ?_
      · rw [getD_ok (l := b) (by omega)] at *
        refine Tm.step (idx_ok (by omega)) (Tm.pure ?_)
        rw [iw_eq, iw_eq] <;> (try rw [iw_eq]) <;> omega
      · rw [getD_out (l := b) (by omega), iw_eq] <;> omega
      rintro _ rfl
      generalize ex : a.getD n 0 = x at *
      generalize ey : b.getD n 0 = y at *
      refine Tm.bind (Q := fun p : Int × Int => 0 ≤ p.1 ∧ p.1 ≤ 1 ∧ 0 ≤ p.2 ∧ p.2 < 65536 ∧ p.2 = x - borrow - y + 65536 * p.1) (Tm.ite (fun h2 => Tm.pure ?_) (fun h2 => Tm.pure ?_)) ?_
      · dsimp only; rw [iw_eq] <;> omega
      · dsimp only; omega
      rintro ⟨bo, d⟩ ⟨g1, g2, g3, g4, g5⟩
      dsimp only at *
      refine Tm.step (apnd_ok (by simp only [List.length_cons, List.length_nil]; omega) (by decide)) (Tm.pure ⟨⟨n + 1, ?_, by omega, by simp; omega, hB.append (.cons (B := 65536) (by omega) .nil), g1, g2, ?_⟩, ?_⟩)
      · show iw ((n : Int) + 1) = _
        rw [iw_eq] <;> omega
      · show val W16 (out ++ [d]) = _
        rw [val_append, val_take, val_take, ex, ey, ho, Int.pow_succ]
        have hw : W16 = 65536 := rfl
        simp only [val]
        grind
      · show L - (iw ((n : Int) + 1)).toNat < L - ((n : Int)).toNat
        rw [iw_eq] <;> omega
    · have hnL : n = L := by omega
      subst hnL
      rw [take_all (by omega), take_all (by omega)] at hv'
      refine ⟨hB, ?_, ho⟩
      show val W16 out = _
      have l1 := val_lt (by decide) hB
      rw [ho] at l1
      have hc : borrow = 0 ∨ borrow = 1 := by omega
      rcases hc with rfl | rfl
      · omega
      · simp only [W16] at *; omega
  · rintro r ⟨h1, h2, h3⟩
    exact Tm.bind (rtrim_tm h1 (by omega)) (fun r' h => Tm.pure ⟨h2 ▸ h.1, by omega⟩)
theorem bv_abs {x : Big} (h : InB W32 x.Digits) : val W32 x.Digits = ((bv x).natAbs : Int) := by
  have := val_nonneg (by decide) h
  unfold bv; split <;> omega
theorem rCompare_tm {a b : Big} (ha : InB W32 a.Digits) (hb : InB W32 b.Digits) (hl : a.Digits.length ≤ 8796093022208) (hl' : b.Digits.length ≤ 8796093022208) : Tm (fun N => rCompare N a b) (fun r => r = sgn (bv a) (bv b)) := by
  unfold rCompare
  refine Tm.bind (rSign_tm ha hl) ?_
  rintro _ rfl
  refine Tm.bind (rSign_tm hb hl') ?_
  rintro _ rfl
  refine Tm.ite (fun h => Tm.pure ?_) (fun h => Tm.ite (fun h' => Tm.pure ?_) (fun h' => ?_))
  · revert h; unfold sgn; (repeat' split) <;> omega
  · revert h'; unfold sgn; (repeat' split) <;> omega
  refine Tm.bind (halves_tm ha hl) ?_
  rintro x ⟨hx, hxl⟩
  refine Tm.bind (halves_tm hb hl') ?_
  rintro y ⟨hy, hyl⟩
  refine Tm.bind (rorder_tm hx.inB hy.inB hx.nrm hy.nrm (by omega) (by omega)) ?_
  rintro _ rfl
  refine Tm.pure ?_
  rw [hx.val, hy.val, bv_abs ha, bv_abs hb]
  have hs : sgn (bv a) 0 = sgn (bv b) 0 := by omega
  have key : sgn (bv a) 0 * sgn ((bv a).natAbs : Int) ((bv b).natAbs : Int) = sgn (bv a) (bv b) := by
    revert hs; unfold sgn; (repeat' split) <;> omega
  rw [key, iw_eq] <;> (unfold sgn; (repeat' split) <;> omega)
theorem sgn_ge {a b : Int} : sgn a b ≥ 0 ↔ b ≤ a := by unfold sgn; (repeat' split) <;> omega
theorem rAdd_tm {a b : Big} (ha : InB W32 a.Digits) (hb : InB W32 b.Digits) (hl : a.Digits.length ≤ 2199023255552) (hl' : b.Digits.length ≤ 2199023255552) :
    Tm (fun N => rAdd N a b) (fun r => Is r (bv a + bv b) ∧ r.Digits.length ≤ max a.Digits.length b.Digits.length + 1) := by
  unfold rAdd
  refine Tm.bind (halves_tm ha (by omega)) ?_
  rintro x ⟨hx, hxl⟩
  refine Tm.bind (halves_tm hb (by omega)) ?_
  rintro y ⟨hy, hyl⟩
  refine Tm.ite (fun h => ?_) (fun h => ?_)
  · have hn : a.Negative = b.Negative := by simpa using h
    refine Tm.bind (rplus_tm hx.inB hy.inB (by omega) (by omega)) ?_
    rintro s ⟨hs, sl⟩
    refine Tm.bind (rbig_tm hs.inB (by omega)) (fun r hr => Tm.pure ⟨?_, by omega⟩)
    have hr := hr.1
    rw [hs.val, hx.val, hy.val] at hr
    unfold bv
    rw [← hn]
    cases e : a.Negative <;> rw [e] at hr
    · simpa using hr
    · simp only [if_true] at hr ⊢
      rwa [show -(val W32 a.Digits + val W32 b.Digits) = -val W32 a.Digits + -val W32 b.Digits by omega] at hr
  · have hn : ¬ a.Negative = b.Negative := by simpa using h
    refine Tm.bind (rorder_tm hx.inB hy.inB hx.nrm hy.nrm (by omega) (by omega)) ?_
    rintro c rfl
    refine Tm.ite (fun hc => ?_) (fun hc => ?_)
    · have hge := sgn_ge.1 hc
      have hle : y.length ≤ x.length := by
        rcases Nat.lt_or_ge x.length y.length with h' | h'
        · have := len_cmp w16_pos hx.inB hy.inB hy.nrm h'; omega
        · exact h'
      refine Tm.bind (rminus_tm hx.inB hy.inB (by omega) hle hge) ?_
      rintro s ⟨hs, sl⟩
      refine Tm.bind (rbig_tm hs.inB (by omega)) (fun r hr => Tm.pure ⟨?_, by omega⟩)
      have hr := hr.1
      rw [hs.val, hx.val, hy.val] at hr
      unfold bv
      cases e : a.Negative <;> cases e' : b.Negative <;> rw [e] at hr hn <;> rw [e'] at hn
      · exact absurd rfl hn
      · simpa [Int.sub_eq_add_neg] using hr
      · simp only [if_true, Bool.false_eq_true, if_false] at hr ⊢
        rwa [show -(val W32 a.Digits - val W32 b.Digits) = -val W32 a.Digits + val W32 b.Digits by omega] at hr
      · exact absurd rfl hn
    · have hlt : ¬ val W16 y ≤ val W16 x := fun e => hc (sgn_ge.2 e)
      have hle : x.length ≤ y.length := by
        rcases Nat.lt_or_ge y.length x.length with h' | h'
        · have := len_cmp w16_pos hy.inB hx.inB hx.nrm h'; omega
        · exact h'
      refine Tm.bind (rminus_tm hy.inB hx.inB (by omega) hle (by omega)) ?_
      rintro s ⟨hs, sl⟩
      refine Tm.bind (rbig_tm hs.inB (by omega)) (fun r hr => Tm.pure ⟨?_, by omega⟩)
      have hr := hr.1
      rw [hs.val, hx.val, hy.val] at hr
      unfold bv
      cases e : a.Negative <;> cases e' : b.Negative <;> rw [e'] at hr hn <;> rw [e] at hn
      · exact absurd rfl hn
      · simp only [if_true, Bool.false_eq_true, if_false] at hr ⊢
        rwa [show -(val W32 b.Digits - val W32 a.Digits) = val W32 a.Digits + -val W32 b.Digits by omega] at hr
      · simp only [if_true, Bool.false_eq_true, if_false] at hr ⊢
        rwa [show val W32 b.Digits - val W32 a.Digits = -val W32 a.Digits + val W32 b.Digits by omega] at hr
      · exact absurd rfl hn
theorem rtimes_tm {a : List Int} {d : Int} (ha : InB W16 a) (h0 : 0 ≤ d) (h1 : d < W16) (hl : a.length ≤ 8796093022208) : Tm (fun N => rtimes N a d) (fun r => Dg W16 r (val W16 a * d) ∧ r.length ≤ a.length + 1) := by
  unfold rtimes
  refine Tm.bind (Q := fun r => InB W16 r ∧ val W16 r = val W16 a * d ∧ r.length ≤ a.length + 1)
    (Tm.loop (fun s : List Int × Int × Int => ∃ n : Nat, s.2.2 = n ∧ n ≤ a.length + 1 ∧ s.1.length = n ∧ InB W16 s.1 ∧ 0 ≤ s.2.1 ∧ s.2.1 < W16 ∧ (a.length < n → s.2.1 = 0) ∧ val W16 s.1 + W16 ^ n * s.2.1 = val W16 (a.take n) * d) (fun s => a.length + 1 - s.2.2.toNat)
      ⟨0, rfl, Nat.zero_le _, rfl, .nil, by simp, (by decide : (0 : Int) < W16), fun _ => rfl, by simp [val]⟩ ?_) ?_
  · rintro ⟨out, carry, i⟩ ⟨n, rfl, hn, ho, hB, c0, c1, hc, hv⟩
    dsimp only [rtimes_b1] at *
    refine Tm.bind (Q := (· = decide (n < a.length ∨ 0 < carry))) (Tm.ite (fun h => Tm.pure ?_) (fun h => Tm.pure ?_)) ?_
    · have : n < a.length := by omega
      simp [this]
    · have : ¬ n < a.length := by omega
      simp [this]
    rintro _ rfl
    refine Tm.ite (fun h => ?_) (fun h => Tm.pure ?_)
    · have h := of_decide_eq_true h
      have hx := ha.getD (by decide) n
      simp only [W16] at hx h1 c1
      have hm : 0 ≤ a.getD n 0 * d ∧ a.getD n 0 * d ≤ 65535 * 65535 := ⟨Int.mul_nonneg hx.1 h0, Int.mul_le_mul (by omega) (by omega) h0 (by decide)⟩
      refine Tm.bind (Q := (· = carry + a.getD n 0 * d)) (Tm.ite (fun h2 => ?_) (fun h2 => Tm.pure ?_)) ?_
      · rw [getD_ok (l := a) (by omega)] at *
        refine Tm.step (idx_ok (by omega)) (Tm.pure ?_)
        rw [iw_eq (z := _ * _) (by omega) (by omega), iw_eq (by omega) (by omega)]
      · rw [getD_out (by omega)]; simp
      rintro _ rfl
      have hz : a.length ≤ n → a.getD n 0 = 0 := fun h => getD_out (by omega)
      have hz' : a.length ≤ n → a.getD n 0 * d = 0 := fun h => by rw [hz h]; simp
      generalize exd : a.getD n 0 * d = xd at *
      rw [tmod16 (by omega), tdiv16 (by omega)]
      refine Tm.step (apnd_ok (by simp only [List.length_cons, List.length_nil]; omega) (by decide)) (Tm.pure ⟨⟨n + 1, ?_, by omega, by simp; omega, hB.append (.cons (B := 65536) (by omega) .nil), ?_, ?_, ?_, ?_⟩, ?_⟩)
      · show iw ((n : Int) + 1) = _
        rw [iw_eq] <;> omega
      · show 0 ≤ iw ((carry + xd) / 65536)
        rw [iw_eq] <;> omega
      · show iw ((carry + xd) / 65536) < 65536
        rw [iw_eq] <;> omega
      · intro h'
        show iw ((carry + xd) / 65536) = 0
        have := hz' (by omega)
        rw [iw_eq] <;> omega
      · show val W16 (out ++ [(carry + xd) % 65536]) + W16 ^ (n + 1) * iw ((carry + xd) / 65536) = _
        rw [iw_eq (by omega) (by omega), val_append, val_take, ho, Int.pow_succ]
        have := Int.emod_add_mul_ediv (carry + xd) 65536
        have hw : W16 = 65536 := rfl
        simp only [val]
        grind
      · show a.length + 1 - (iw ((n : Int) + 1)).toNat < a.length + 1 - ((n : Int)).toNat
        rw [iw_eq] <;> omega
    · have h : ¬ (n < a.length ∨ 0 < carry) := fun e => h (decide_eq_true e)
      rw [take_all (by omega), show carry = 0 by omega] at hv
      exact ⟨hB, by show val W16 out = _; omega, by show out.length ≤ _; omega⟩
  · rintro r ⟨h1, h2, h3⟩
    exact Tm.bind (rtrim_tm h1 (by omega)) (fun r' h => Tm.pure ⟨h2 ▸ h.1, by omega⟩)
theorem rMul_tm {a b : Big} (ha : InB W32 a.Digits) (hb : InB W32 b.Digits) (hl : a.Digits.length ≤ 1099511627776) (hl' : b.Digits.length ≤ 1099511627776) :
    Tm (fun N => rMul N a b) (fun r => Is r (bv a * bv b) ∧ r.Digits.length ≤ a.Digits.length + b.Digits.length) := by
  unfold rMul
  refine Tm.bind (halves_tm ha (by omega)) ?_
  rintro x ⟨hx, hxl⟩
  refine Tm.bind (halves_tm hb (by omega)) ?_
  rintro y ⟨hy, hyl⟩
  refine Tm.bind (Tm.loop (fun s : List Int × Int => ∃ n : Nat, s.2 = (n : Int) - 1 ∧ n ≤ y.length ∧ Dg W16 s.1 (val W16 x * val W16 (y.drop n)) ∧ s.1.length ≤ x.length + (y.length - n)) (fun s => (s.2 + 1).toNat) (Q := fun r => Dg W16 r (val W16 x * val W16 y) ∧ r.length ≤ x.length + y.length)
    ⟨y.length, by dsimp only; rw [iw_eq] <;> omega, Nat.le_refl _, by simpa [val] using Dg.nil, by simp⟩ ?_) ?_
  · rintro ⟨sum, i⟩ ⟨n, rfl, hn, hs, hsl⟩
    dsimp only [rMul_b1] at *
    refine Tm.ite (fun h => ?_) (fun h => Tm.pure ?_)
    · refine Tm.step (apnd_ok (by simp only [List.length_cons, List.length_nil]; omega) (by decide)) ?_
      have hny : n - 1 < y.length := by omega
      refine Tm.step (idx_i (n := n - 1) (by omega) hny) ?_
      have hd := hy.inB.get hny
      refine Tm.bind (rtimes_tm hx.inB hd.1 hd.2 (by omega)) ?_
      rintro t ⟨ht, htl⟩
      refine Tm.bind (rplus_tm (a := [0] ++ sum) (.append (.cons (by decide) .nil) hs.inB) ht.inB (by simp; omega) (by omega)) ?_
      rintro r ⟨hr, hrl⟩
      refine Tm.pure ⟨⟨n - 1, by dsimp only; rw [iw_eq] <;> omega, by omega, ?_, ?_⟩, ?_⟩
      · have e : val W16 ([0] ++ sum) + val W16 t = val W16 x * val W16 (y.drop (n - 1)) := by
          rw [ht.val, List.drop_eq_getElem_cons hny, show n - 1 + 1 = n by omega]
          simp only [List.singleton_append, val, hs.val]
          grind
        show Dg W16 r _
        rw [← e]; exact hr
      · show r.length ≤ _
        have hb : val W16 ([0] ++ sum) + val W16 t < W16 ^ (x.length + (y.length - (n - 1))) := by
          have e : val W16 ([0] ++ sum) + val W16 t = val W16 x * val W16 (y.drop (n - 1)) := by
            rw [ht.val, List.drop_eq_getElem_cons hny, show n - 1 + 1 = n by omega]
            simp only [List.singleton_append, val, hs.val]
            grind
          rw [e, Int.pow_add]
          have l1 := val_lt (by decide) hx.inB
          have l2 := val_lt (by decide) (hy.inB.drop (n - 1))
          have l3 := val_nonneg (by decide) hx.inB
          have l4 := val_nonneg (by decide) (hy.inB.drop (n - 1))
          rw [List.length_drop] at l2
          exact Int.mul_lt_mul' (by omega) l2 l4 (pow_pos' (by decide) _)
        exact nrm_len w16_pos hr.inB hr.nrm (by rw [hr.val]; exact hb)
      · show (iw ((n : Int) - 1 - 1) + 1).toNat < ((n : Int) - 1 + 1).toNat
        rw [iw_eq] <;> omega
    · have : n = 0 := by omega
      subst this
      exact ⟨by simpa using hs, by simpa using hsl⟩
  · rintro s ⟨hs, hsl⟩
    refine Tm.bind (rbig_tm hs.inB (by omega)) (fun r hr => Tm.pure ⟨?_, by omega⟩)
    have hr := hr.1
    rw [hs.val, hx.val, hy.val] at hr
    rw [bv_mul]; exact hr
theorem rOf_tm {n : Int} (h1 : -9223372036854775808 ≤ n) (h2 : n ≤ 9223372036854775807) : Tm (fun N => rOf N n) (fun r => Is r n ∧ r.Digits.length ≤ 2) := by
  unfold rOf
  refine Tm.bind (Q := (· = (n.natAbs : Int))) (Tm.ite (fun h => Tm.pure ?_) (fun h => Tm.pure ?_)) ?_
  · rw [iw_eq (z := n + 1) (by omega) (by omega), iw_eq (by omega) (by omega), uw_mod, uw_mod]; omega
  · rw [uw_mod]; omega
  rintro _ rfl
  refine Tm.bind (Tm.loop (fun s : Int × List Int => ∃ m : Nat, m ≤ 4 ∧ s.2.length = m ∧ InB W16 s.2 ∧ 0 ≤ s.1 ∧ s.1 < W16 ^ (4 - m) ∧ val W16 s.2 + W16 ^ m * s.1 = n.natAbs) (fun s => s.1.toNat) (Q := fun r => InB W16 r ∧ val W16 r = n.natAbs ∧ r.length ≤ 4)
    ⟨0, by omega, rfl, .nil, by simp, by simp only [W16]; omega, by simp [val]⟩ ?_) ?_
  · rintro ⟨u, l⟩ ⟨m, hm, hl, hB, u0, u1, hv⟩
    dsimp only [rOf_b1] at *
    refine Tm.ite (fun h => ?_) (fun h => Tm.pure ?_)
    · have hm' : m ≠ 4 := by rintro rfl; simp at u1; omega
      have hu : u < 18446744073709551616 := by
        have : W16 ^ (4 - m) ≤ W16 ^ 4 := pow_mono (by decide) (by omega)
        have e : W16 ^ 4 = 18446744073709551616 := by decide
        omega
      rw [tmod16 u0, tdiv16 u0]
      have e1 : iw (u % 65536) = u % 65536 := by rw [iw_eq] <;> omega
      have e2 : uw (u / 65536) = u / 65536 := by rw [uw_mod]; omega
      rw [e1, e2]
      refine Tm.step (apnd_ok (by simp only [List.length_cons, List.length_nil]; omega) (by decide)) (Tm.pure ⟨⟨m + 1, by omega, by simp; omega, hB.append (.cons (B := 65536) (by omega) .nil), ?_, ?_, ?_⟩, ?_⟩)
      · show 0 ≤ u / 65536
        omega
      · show u / 65536 < W16 ^ (4 - (m + 1))
        have e : W16 ^ (4 - m) = W16 ^ (4 - (m + 1)) * 65536 := by rw [show 4 - m = 4 - (m + 1) + 1 by omega, Int.pow_succ]
        rw [e] at u1
        exact Int.ediv_lt_of_lt_mul (by decide) u1
      · show val W16 (l ++ [u % 65536]) + W16 ^ (m + 1) * (u / 65536) = _
        rw [val_append, hl, Int.pow_succ]
        have := Int.emod_add_mul_ediv u 65536
        have hw : W16 = 65536 := rfl
        simp only [val]
        grind
      · show (u / 65536).toNat < u.toNat
        omega
    · have : u = 0 := by omega
      subst this
      exact ⟨hB, by show val W16 l = _; simpa using hv, by show l.length ≤ 4; omega⟩
  · rintro l ⟨hB, hv, hl⟩
    refine Tm.bind (rbig_tm hB (by omega)) (fun r hr => Tm.pure ⟨?_, by omega⟩)
    have hr := hr.1
    rw [hv] at hr
    by_cases hn : n < 0
    · simp only [hn, decide_true, if_true] at hr
      rwa [show -(n.natAbs : Int) = n by omega] at hr
    · simp only [hn, decide_false, Bool.false_eq_true, if_false] at hr
      rwa [show (n.natAbs : Int) = n by omega] at hr
end Go.D
set_option linter.unusedSimpArgs false
set_option linter.unusedVariables false
namespace Go.D
open Go Go.X
def OkB (K : Nat) (x : Big) : Prop := InB W32 x.Digits ∧ x.Digits.length ≤ K
def OkI (K : Nat) (q : Ineq) : Prop := q.Coefs.length ≤ K ∧ (∀ b ∈ q.Coefs, OkB K b) ∧ OkB K q.Bound
theorem OkB.mono {K K' : Nat} {x : Big} (h : OkB K x) (hK : K ≤ K') : OkB K' x := ⟨h.1, by have := h.2; omega⟩
theorem OkB.nil {K : Nat} {b : Bool} : OkB K ⟨b, []⟩ := ⟨.nil, Nat.zero_le _⟩
abbrev big0 : Big := ⟨false, []⟩
theorem Is.ok {x : Big} {v : Int} {K : Nat} (h : Is x v) (hl : x.Digits.length ≤ K) : OkB K x := ⟨h.dg.inB, hl⟩
theorem Tm.each {α β : Type} {body : Nat → Int → Option (Stp Int (Sum Unit β))} (xs : List α) (P : α → Prop) {Q : Sum Unit β → Prop} (hl : xs.length ≤ 9223372036854775807)
    (step : ∀ (n : Nat) (hn : n < xs.length), (∀ j, (hj : j < xs.length) → j < n → P xs[j]) → Tm (fun N => body N (n : Int)) (fun t => (t = .next (iw ((n : Int) + 1)) ∧ P xs[n]) ∨ (∃ b, t = .done (.inr b) ∧ Q (.inr b))))
    (fin : (∀ x ∈ xs, P x) → Tm (fun N => body N (xs.length : Int)) (fun t => ∃ r, t = .done r ∧ Q r)) : Tm (fun N => loopM (body N) N 0) Q := by
  refine Tm.loop (fun i : Int => ∃ n : Nat, i = n ∧ n ≤ xs.length ∧ ∀ j, (hj : j < xs.length) → j < n → P xs[j]) (fun i : Int => xs.length - i.toNat) ⟨0, rfl, Nat.zero_le _, fun _ _ h => absurd h (by omega)⟩ ?_
  rintro _ ⟨n, rfl, hn, hP⟩
  rcases Nat.lt_or_ge n xs.length with h | h
  · refine (step n h hP).mono ?_
    rintro t (⟨rfl, hp⟩ | ⟨b, rfl, hq⟩)
    · refine ⟨⟨n + 1, by rw [iw_eq] <;> omega, by omega, fun j hj hlt => ?_⟩, ?_⟩
      · rcases Nat.lt_or_ge j n with h' | h'
        · exact hP j hj h'
        · obtain rfl : j = n := by omega
          exact hp
      · show xs.length - (iw ((n : Int) + 1)).toNat < xs.length - ((n : Int)).toNat
        rw [iw_eq] <;> omega
    · exact hq
  · obtain rfl : n = xs.length := by omega
    refine (fin fun x hx => ?_).mono ?_
    · obtain ⟨j, hj, rfl⟩ := List.mem_iff_getElem.1 hx
      exact hP j hj hj
    · rintro t ⟨r, rfl, hq⟩
      exact hq
def dot (a b : List Big) : Nat → Int
  | 0 => 0
  | n + 1 => dot a b n + bv (a.getD n big0) * bv (b.getD n big0)
theorem getDb {l : List Big} {n : Nat} (h : n < l.length) : l.getD n big0 = l[n] := by rw [List.getD_eq_getElem?_getD, List.getElem?_eq_getElem h]; rfl
def holdsV (q : Ineq) (x : List Big) : Bool := decide (q.Coefs.length = x.length) && decide (dot q.Coefs x x.length ≤ bv q.Bound)
theorem sgn_le {a b : Int} : sgn a b ≤ 0 ↔ a ≤ b := by unfold sgn; (repeat' split) <;> omega
theorem rHolds_tm {K : Nat} {q : Ineq} {x : List Big} (hK : K ≤ 1073741824) (hq : OkI K q) (hx : ∀ b ∈ x, OkB K b) (hxl : x.length ≤ 9223372036854775807) : Tm (fun N => rHolds N q x) (fun r => r = holdsV q x) := by
  unfold rHolds holdsV
  refine Tm.ite (fun h => Tm.pure ?_) (fun h => ?_)
  · have : ¬ q.Coefs.length = x.length := by omega
    simp [this]
  · have hl : q.Coefs.length = x.length := by omega
    have hlK := hq.1
    refine Tm.bind (Tm.loop (fun s : Bool × List Int × Int => ∃ n : Nat, s.2.2 = n ∧ n ≤ x.length ∧ OkB (2 * K + n) ⟨s.1, s.2.1⟩ ∧ bv ⟨s.1, s.2.1⟩ = dot q.Coefs x n) (fun s => x.length - s.2.2.toNat)
      (Q := fun r : Bool × List Int => OkB (3 * K) ⟨r.1, r.2⟩ ∧ bv ⟨r.1, r.2⟩ = dot q.Coefs x x.length) ⟨0, rfl, Nat.zero_le _, .nil, rfl⟩ ?_) ?_
    · rintro ⟨neg, ds, i⟩ ⟨n, rfl, hn, ho, hv⟩
      dsimp only [rHolds_b1] at *
      refine Tm.ite (fun h1 => ?_) (fun h1 => Tm.pure ?_)
      · refine Tm.step (idx_ok (by omega)) (Tm.step (idx_ok (by omega)) ?_)
        have h2 := hq.2.1 _ (List.getElem_mem (show n < q.Coefs.length by omega))
        have h3 := hx _ (List.getElem_mem (show n < x.length by omega))
        refine Tm.bind (rMul_tm h2.1 h3.1 (by have := h2.2; omega) (by have := h3.2; omega)) ?_
        rintro m ⟨hm, hml⟩
        have := h2.2
        have := h3.2
        have := ho.2
        refine Tm.bind (rAdd_tm ho.1 hm.dg.inB (by omega) (by omega)) ?_
        rintro a ⟨ha, hal⟩
        refine Tm.pure ⟨⟨n + 1, by dsimp only; rw [iw_eq] <;> omega, by omega, ?_, ?_⟩, ?_⟩
        · have hd : ds.length ≤ 2 * K + n := ho.2
          dsimp only at hal
          exact ha.ok (by omega)
        · show bv a = _
          rw [ha.bv, hv, hm.bv, dot, getDb (by omega), getDb (by omega)]
        · show x.length - (iw ((n : Int) + 1)).toNat < x.length - ((n : Int)).toNat
          rw [iw_eq] <;> omega
      · obtain rfl : n = x.length := by omega
        exact ⟨ho.mono (by omega), hv⟩
    · rintro ⟨neg, ds⟩ ⟨ho, hv⟩
      have h1 : ds.length ≤ 3 * K := ho.2
      have h2 := hq.2.2.2
      refine Tm.bind (rCompare_tm ho.1 hq.2.2.1 (by show ds.length ≤ _; omega) (by omega)) ?_
      rintro _ rfl
      refine Tm.pure ?_
      dsimp only at hv
      rw [hv]
      simp [hl, sgn_le]
end Go.D
set_option linter.unusedSimpArgs false
set_option linter.unusedVariables false
namespace Go.D
open Go Go.X
def RightP (c : Constraint) (n : Int) : Prop := (∀ i, (h : i < c.Linear.Coefs.length) → 0 ≤ c.Linear.Coefs[i].Var ∧ c.Linear.Coefs[i].Var < n ∧ (∀ (_ : 0 < i), (c.Linear.Coefs[i - 1]'(by omega)).Var < c.Linear.Coefs[i].Var)) ∧ 0 ≤ n ∧ n ≤ 512
theorem rRight_tm {c : Constraint} {n : Int} (hl : c.Linear.Coefs.length ≤ 9223372036854775807) : Tm (fun N => rRight N c n) (fun r => r = true ↔ RightP c n) := by
  unfold rRight
  generalize hcs : c.Linear.Coefs = cs at hl
  have hR : RightP c n ↔ ((∀ i, (h : i < cs.length) → 0 ≤ cs[i].Var ∧ cs[i].Var < n ∧ (∀ (_ : 0 < i), (cs[i - 1]'(by omega)).Var < cs[i].Var)) ∧ 0 ≤ n ∧ n ≤ 512) := by subst hcs; rfl
  refine Tm.bind (Tm.loop (fun s : Int => ∃ k : Nat, s = k ∧ k ≤ cs.length ∧ ∀ i, (h : i < cs.length) → i < k → 0 ≤ cs[i].Var ∧ cs[i].Var < n ∧ (∀ (_ : 0 < i), (cs[i - 1]'(by omega)).Var < cs[i].Var)) (fun s => cs.length - s.toNat)
    (Q := fun r => (r = .inl () ∧ ∀ i, (h : i < cs.length) → 0 ≤ cs[i].Var ∧ cs[i].Var < n ∧ (∀ (_ : 0 < i), (cs[i - 1]'(by omega)).Var < cs[i].Var)) ∨ (r = .inr false ∧ ¬ RightP c n)) ⟨0, rfl, Nat.zero_le _, fun i _ h => absurd h (by omega)⟩ ?_) ?_
  · rintro _ ⟨k, rfl, hk, hP⟩
    dsimp only [rRight_b1] at *
    rw [hcs]
    refine Tm.ite (fun h => ?_) (fun h => Tm.pure (.inl ⟨rfl, fun i hi => hP i hi (by omega)⟩))
    have hkl : k < cs.length := by omega
    refine Tm.step (idx_ok hkl) (Tm.bind (Q := fun r => r = true ↔ ¬ (0 ≤ cs[k].Var ∧ cs[k].Var < n ∧ (∀ (_ : 0 < k), (cs[k - 1]'(by omega)).Var < cs[k].Var))) (Tm.ite (fun h => Tm.pure ?_) (fun h => Tm.ite (fun h' => Tm.pure ?_) (fun h' => Tm.ite (fun h2 => ?_) (fun h2 => Tm.pure ?_)))) ?_)
    · exact ⟨fun _ e => by omega, fun _ => rfl⟩
    · exact ⟨fun _ e => by omega, fun _ => rfl⟩
    · refine Tm.step (idx_i (n := k - 1) (by rw [iw_eq] <;> omega) (by omega)) (Tm.pure ?_)
      simp only [decide_eq_true_eq]
      exact ⟨fun e e' => by have := e'.2.2 (by omega); omega, fun e => by
        rcases Int.lt_or_le (cs[k - 1]'(by omega)).Var cs[k].Var with e' | e'
        · exact absurd ⟨by omega, by omega, fun _ => e'⟩ e
        · exact e'⟩
    · exact ⟨fun e => (by cases e), fun e => absurd ⟨by omega, by omega, fun e' => absurd e' (by omega)⟩ e⟩
    intro r hr
    refine Tm.ite (fun h => Tm.pure (.inr ⟨rfl, fun hr' => hr.1 h ((hR.1 hr').1 k hkl)⟩)) (fun hf => Tm.pure ⟨⟨k + 1, by rw [iw_eq] <;> omega, by omega, fun i hi hik => ?_⟩, ?_⟩)
    · rcases Nat.lt_or_ge i k with h' | h'
      · exact hP i hi h'
      · obtain rfl : i = k := by omega
        exact Classical.byContradiction fun e => hf (hr.2 e)
    · show cs.length - (iw ((k : Int) + 1)).toNat < cs.length - ((k : Int)).toNat
      rw [iw_eq] <;> omega
  · rintro _ (⟨rfl, h⟩ | ⟨rfl, h⟩)
    · refine Tm.ite (fun h1 => Tm.pure ?_) (fun h1 => Tm.pure ?_)
      · rw [hR]; simp only [decide_eq_true_eq]
        exact ⟨fun h2 => ⟨h, by omega, h2⟩, fun h2 => h2.2.2⟩
      · rw [hR]
        exact ⟨fun h2 => (by cases h2), fun h2 => absurd h2.2.1 (by omega)⟩
    · exact Tm.pure ⟨fun h' => (by cases h'), fun h' => absurd h' h⟩
def IsL (xs : List Big) (vs : List Int) : Prop := xs.length = vs.length ∧ ∀ j, (h : j < xs.length) → (h' : j < vs.length) → Is xs[j] vs[j]
theorem IsL.nil : IsL [] [] := ⟨rfl, fun j h => absurd h (by simp)⟩
theorem is0 : Is big0 0 := ⟨Dg.nil, rfl⟩
theorem IsL.rep {n : Nat} : IsL (List.replicate n big0) (List.replicate n 0) := ⟨by simp, fun j h h' => by simpa using is0⟩
theorem IsL.set {xs : List Big} {vs : List Int} (h : IsL xs vs) {k : Nat} {x : Big} {v : Int} (hx : Is x v) : IsL (xs.set k x) (vs.set k v) := by
  refine ⟨by simpa using h.1, fun j h1 h2 => ?_⟩
  by_cases hj : k = j
  · subst hj; simpa using hx
  · rw [List.getElem_set_ne hj, List.getElem_set_ne hj]
    exact h.2 j (by simpa using h1) (by simpa using h2)
theorem IsL.snoc {xs : List Big} {vs : List Int} (h : IsL xs vs) {x : Big} {v : Int} (hx : Is x v) : IsL (xs ++ [x]) (vs ++ [v]) := by
  refine ⟨by simp [h.1], fun j h1 h2 => ?_⟩
  rcases Nat.lt_or_ge j xs.length with hj | hj
  · rw [List.getElem_append_left hj, List.getElem_append_left (by rw [← h.1]; exact hj)]
    exact h.2 j hj _
  · simp only [List.length_append, List.length_singleton] at h1 h2
    have hj' : j = xs.length := by omega
    have hj2 : j = vs.length := by rw [← h.1]; exact hj'
    have e1 : (xs ++ [x])[j]? = some x := by rw [hj']; simp
    have e2 : (vs ++ [v])[j]? = some v := by rw [hj2]; simp
    rw [(List.getElem?_eq_some_iff.1 e1).2, (List.getElem?_eq_some_iff.1 e2).2]
    exact hx
theorem Is.len {x : Big} {v : Int} (h : Is x v) {k : Nat} (hv : (v.natAbs : Int) < W32 ^ k) : x.Digits.length ≤ k := nrm_len w32_pos h.dg.inB h.dg.nrm (by rw [h.dg.val]; exact hv)
def IsI (q : Ineq) (vs : List Int) (b : Int) : Prop := IsL q.Coefs vs ∧ Is q.Bound b
def I64 (z : Int) : Prop := -9223372036854775808 ≤ z ∧ z ≤ 9223372036854775807
structure OkC (c : Constraint) : Prop where
  len : c.Linear.Coefs.length ≤ 9223372036854775807
  const : I64 c.Linear.Const
  coef : ∀ k ∈ c.Linear.Coefs, I64 k.N
def setv (l : List Int) (k : Coef) : List Int := l.set k.Var.toNat k.N
def vals (c : Constraint) (n : Int) (k : Nat) : List Int := (c.Linear.Coefs.take k).foldl setv (List.replicate n.toNat 0)
theorem vals_succ {c : Constraint} {n : Int} {k : Nat} (h : k < c.Linear.Coefs.length) : vals c n (k + 1) = setv (vals c n k) c.Linear.Coefs[k] := by
  unfold vals; rw [List.take_succ_eq_append_getElem h, List.foldl_append]; rfl
theorem vals_len {c : Constraint} {n : Int} {k : Nat} : (vals c n k).length = n.toNat := by
  unfold vals
  generalize c.Linear.Coefs.take k = l
  have : ∀ (l : List Coef) (v : List Int), (l.foldl setv v).length = v.length := by
    intro l
    induction l with
    | nil => intro v; rfl
    | cons x l ih => intro v; rw [List.foldl_cons, ih]; simp [setv]
  rw [this]; simp
def OfP (c : Constraint) (n : Int) (r : List Ineq) : Prop :=
  (¬ RightP c n ∧ r = []) ∨ (RightP c n ∧ ∃ q, IsI q (vals c n c.Linear.Coefs.length) (- c.Linear.Const) ∧ ((c.Equal = false ∧ r = [q]) ∨ (c.Equal = true ∧ ∃ q', IsI q' ((vals c n c.Linear.Coefs.length).map (fun v => -v)) c.Linear.Const ∧ r = [q, q'])))
theorem negI64 {z : Int} {x : Big} (h : Is x z) (hz : I64 z) : InB W32 x.Digits ∧ x.Digits.length ≤ 2 := ⟨h.dg.inB, h.len (by unfold I64 at hz; have e : W32 ^ 2 = 18446744073709551616 := (by decide); omega)⟩
theorem rflip_tm {q : Ineq} {vs : List Int} {bound : Big} {z : Int} (hl : IsL q.Coefs vs) (hv : ∀ v ∈ vs, I64 v) (hb : Is bound z) (hz : I64 z) (hn : q.Coefs.length ≤ 512) : Tm (fun N => rflip N q bound) (fun r => IsI r (vs.map (fun v => -v)) z) := by
  unfold rflip
  refine Tm.bind (rNormal_tm hb.dg.inB (by have := (negI64 hb hz).2; omega)) ?_
  rintro b ⟨hb', -⟩
  rw [hb.bv] at hb'
  refine Tm.bind (Tm.loop (fun s : List Big × Int => ∃ k : Nat, s.2 = k ∧ k ≤ q.Coefs.length ∧ IsL s.1 ((vs.take k).map (fun v => -v))) (fun s => q.Coefs.length - s.2.toNat) (Q := fun r => IsL r (vs.map (fun v => -v))) ⟨0, rfl, Nat.zero_le _, by simpa using IsL.nil⟩ ?_) (fun r h => Tm.pure ⟨h, hb'⟩)
  rintro ⟨cs, i⟩ ⟨k, rfl, hk, h⟩
  have hlv := hl.1
  dsimp only [rflip_b1] at *
  refine Tm.ite (fun h1 => ?_) (fun h1 => Tm.pure ?_)
  · have hkl : k < q.Coefs.length := by omega
    have hx := hl.2 k hkl (by omega)
    have hxv := hv _ (List.getElem_mem (show k < vs.length by omega))
    refine Tm.step (idx_ok hkl) (Tm.bind (rNeg_tm hx.dg.inB (by have := (negI64 hx hxv).2; omega)) ?_)
    rintro m ⟨hm, -⟩
    rw [hx.bv] at hm
    have hcl := h.1
    simp only [List.length_map, List.length_take] at hcl
    refine Tm.step (apnd_ok (by simp only [List.length_cons, List.length_nil]; omega) (by decide)) (Tm.pure ⟨⟨k + 1, by dsimp only; rw [iw_eq] <;> omega, by omega, ?_⟩, ?_⟩)
    · rw [List.take_succ_eq_append_getElem (by omega), List.map_append]
      exact h.snoc hm
    · show q.Coefs.length - (iw ((k : Int) + 1)).toNat < q.Coefs.length - ((k : Int)).toNat
      rw [iw_eq] <;> omega
  · show IsL cs _
    rwa [List.take_of_length_le (by omega)] at h
theorem vals_I64 {c : Constraint} {n : Int} {k : Nat} (hc : OkC c) : ∀ v ∈ vals c n k, I64 v := by
  induction k with
  | zero =>
    intro v hv
    simp only [vals, List.take_zero, List.foldl_nil] at hv
    rw [(List.mem_replicate.1 hv).2]; unfold I64; omega
  | succ k ih =>
    rcases Nat.lt_or_ge k c.Linear.Coefs.length with h | h
    · rw [vals_succ h]
      intro v hv
      rcases List.mem_or_eq_of_mem_set hv with hv | rfl
      · exact ih v hv
      · exact hc.coef _ (List.getElem_mem h)
    · have e : vals c n (k + 1) = vals c n k := by
        unfold vals; rw [List.take_of_length_le (by omega), List.take_of_length_le h]
      rw [e]; exact ih
theorem rIOf_tm {c : Constraint} {n : Int} (hc : OkC c) : Tm (fun N => rIOf N c n) (OfP c n) := by
  unfold rIOf
  refine Tm.bind (rRight_tm hc.len) ?_
  intro r hr
  refine Tm.ite (fun h => Tm.pure (.inl ⟨fun e => (by rw [hr.2 e] at h; cases h), rfl⟩)) (fun h => ?_)
  have hR : RightP c n := hr.1 (by simpa using h)
  have hn : n.toNat ≤ 512 := by have := hR.2; omega
  refine Tm.bind (Q := (· = Ineq.mk (List.replicate n.toNat big0) big0)) ?_ ?_
  · unfold rzero
    exact Tm.step (mk1_ok (n := n.toNat) (by have := hR.2; omega) (by omega) (by decide)) (Tm.pure rfl)
  rintro _ rfl
  dsimp only
  refine Tm.bind (Tm.loop (fun s : List Big × Int => ∃ k : Nat, s.2 = k ∧ k ≤ c.Linear.Coefs.length ∧ IsL s.1 (vals c n k)) (fun s => c.Linear.Coefs.length - s.2.toNat) (Q := fun r => IsL r (vals c n c.Linear.Coefs.length)) ⟨0, rfl, Nat.zero_le _, by simpa [vals] using IsL.rep⟩ ?_) ?_
  · rintro ⟨cs, i⟩ ⟨k, rfl, hk, h⟩
    dsimp only [rIOf_b1] at *
    refine Tm.ite (fun h1 => ?_) (fun h1 => Tm.pure ?_)
    · have hkl : k < c.Linear.Coefs.length := by omega
      have hv := hR.1 k hkl
      have hx := hc.coef _ (List.getElem_mem hkl)
      have hcl := h.1
      rw [vals_len] at hcl
      refine Tm.step (idx_ok hkl) (Tm.step (idx_ok hkl) (Tm.bind (rOf_tm hx.1 hx.2) ?_))
      rintro m ⟨hm, -⟩
      refine Tm.step (idx_i (n := c.Linear.Coefs[k].Var.toNat) (by omega) (by omega)) (Tm.step (upd1_i (n := c.Linear.Coefs[k].Var.toNat) (by omega) (by omega)) (Tm.pure ⟨⟨k + 1, by have := hc.len; dsimp only; rw [iw_eq] <;> omega, by omega, ?_⟩, ?_⟩))
      · rw [vals_succ hkl]; exact h.set hm
      · show c.Linear.Coefs.length - (iw ((k : Int) + 1)).toNat < c.Linear.Coefs.length - ((k : Int)).toNat
        have := hc.len
        rw [iw_eq] <;> omega
    · obtain rfl : k = c.Linear.Coefs.length := by omega
      exact h
  · rintro cs hcs
    refine Tm.bind (rOf_tm hc.const.1 hc.const.2) ?_
    rintro k0 ⟨hk0, hk0l⟩
    refine Tm.bind (rNeg_tm hk0.dg.inB (by omega)) ?_
    rintro b ⟨hb, -⟩
    rw [hk0.bv] at hb
    refine Tm.ite (fun h1 => Tm.pure (.inr ⟨hR, _, ⟨hcs, hb⟩, .inl ⟨by simpa using h1, rfl⟩⟩)) (fun h1 => ?_)
    refine Tm.bind (rflip_tm (q := ⟨cs, b⟩) hcs (vals_I64 hc) hk0 hc.const (by show cs.length ≤ _; rw [hcs.1, vals_len]; exact hn)) ?_
    rintro q' hq'
    exact Tm.pure (.inr ⟨hR, _, ⟨hcs, hb⟩, .inr ⟨by simpa using h1, q', hq', rfl⟩⟩)
end Go.D
set_option linter.unusedSimpArgs false
set_option linter.unusedVariables false
namespace Go.D
open Go Go.X
theorem IsI.same {q : Ineq} {vs : List Int} {b : Int} (h : IsI q vs b) (hv : ∀ v ∈ vs, (v.natAbs : Int) < W32 ^ 2) (hb : (b.natAbs : Int) < W32 ^ 2) (hl : vs.length ≤ 512) : OkI 512 q := by
  refine ⟨by rw [h.1.1]; exact hl, fun x hx => ?_, h.2.dg.inB, by have := h.2.len hb; omega⟩
  obtain ⟨j, hj, rfl⟩ := List.mem_iff_getElem.1 hx
  have := h.1.2 j hj (by rw [← h.1.1]; exact hj)
  exact ⟨this.dg.inB, by have := this.len (hv _ (List.getElem_mem _)); omega⟩
theorem abs64 {z : Int} (h : I64 z) : (z.natAbs : Int) < W32 ^ 2 := by unfold I64 at h; have e : W32 ^ 2 = 18446744073709551616 := (by decide); omega
theorem abs64' {z : Int} (h : I64 z) : ((-z).natAbs : Int) < W32 ^ 2 := by unfold I64 at h; have e : W32 ^ 2 = 18446744073709551616 := (by decide); omega
theorem OfP.ok {c : Constraint} {n : Int} {r : List Ineq} (hc : OkC c) (h : OfP c n r) : r.length ≤ 2 ∧ ∀ q ∈ r, OkI 512 q := by
  rcases h with ⟨_, rfl⟩ | ⟨hR, q, hq, h⟩
  · exact ⟨by simp, fun q hq => by cases hq⟩
  · have hn : (vals c n c.Linear.Coefs.length).length ≤ 512 := by rw [vals_len]; have := hR.2; omega
    have h1 : OkI 512 q := hq.same (fun v hv => abs64 (vals_I64 hc v hv)) (abs64' hc.const) hn
    rcases h with ⟨_, rfl⟩ | ⟨_, q', hq', rfl⟩
    · exact ⟨by simp, fun p hp => by simp at hp; exact hp ▸ h1⟩
    · have h2 : OkI 512 q' := hq'.same (fun v hv => by obtain ⟨u, hu, rfl⟩ := List.mem_map.1 hv; exact abs64' (vals_I64 hc u hu)) (abs64 hc.const) (by simpa using hn)
      refine ⟨by simp, fun p hp => ?_⟩
      simp only [List.mem_cons, List.not_mem_nil, or_false] at hp
      rcases hp with rfl | rfl
      · exact h1
      · exact h2
def SysL (n : Int) : List Constraint → List Ineq → Prop
  | [], r => r = []
  | c :: l, r => ∃ a b, OfP c n a ∧ SysL n l b ∧ r = a ++ b
theorem SysL.snoc {n : Int} : ∀ {l : List Constraint} {c : Constraint} {r a : List Ineq}, SysL n l r → OfP c n a → SysL n (l ++ [c]) (r ++ a)
  | [], _, _, a, h, h' => ⟨a, [], h', rfl, by rw [show _ = [] from h]; simp⟩
  | _ :: _, _, _, _, ⟨x, y, h1, h2, h3⟩, h' => ⟨x, _, h1, h2.snoc h', by rw [h3]; simp⟩
theorem SysL.ok {n : Int} : ∀ {l : List Constraint} {r : List Ineq}, (∀ c ∈ l, OkC c) → SysL n l r → r.length ≤ 2 * l.length ∧ ∀ q ∈ r, OkI 512 q
  | [], _, _, h => by rw [show _ = [] from h]; exact ⟨by simp, fun q hq => by cases hq⟩
  | c :: l, _, hc, ⟨a, b, h1, h2, h3⟩ => by
    have e1 := h1.ok (hc c List.mem_cons_self)
    have e2 := h2.ok (fun c h => hc c (List.mem_cons_of_mem _ h))
    subst h3
    refine ⟨by simp; omega, fun q hq => ?_⟩
    rcases List.mem_append.1 hq with h | h
    · exact e1.2 q h
    · exact e2.2 q h
def SysP (l : List Constraint) (n : Int) (r : List Ineq) : Prop := ((∀ c ∈ l, RightP c n) ∧ SysL n l r) ∨ (¬ (∀ c ∈ l, RightP c n) ∧ r = [])
theorem SysP.ok {l : List Constraint} {n : Int} {r : List Ineq} (hc : ∀ c ∈ l, OkC c) (h : SysP l n r) : r.length ≤ 2 * l.length ∧ ∀ q ∈ r, OkI 512 q := by
  rcases h with ⟨_, h⟩ | ⟨_, rfl⟩
  · exact h.ok hc
  · exact ⟨by simp, fun q hq => by cases hq⟩
theorem rSystem_tm {l : List Constraint} {n : Int} (hc : ∀ c ∈ l, OkC c) (hl : l.length ≤ 1000) : Tm (fun N => rSystem N l n) (SysP l n) := by
  unfold rSystem
  refine Tm.bind (Tm.loop (fun s : List Ineq × Int => ∃ k : Nat, s.2 = k ∧ k ≤ l.length ∧ (∀ c ∈ l.take k, RightP c n) ∧ SysL n (l.take k) s.1) (fun s => l.length - s.2.toNat)
    (Q := fun r => SysP l n (match r with | .inl a => a | .inr a => a)) ⟨0, rfl, Nat.zero_le _, by simp, rfl⟩ ?_) (fun r h => by cases r <;> exact Tm.pure h)
  rintro ⟨out, i⟩ ⟨k, rfl, hk, hR, hS⟩
  dsimp only [rSystem_b1] at *
  refine Tm.ite (fun h1 => ?_) (fun h1 => Tm.pure ?_)
  · have hkl : k < l.length := by omega
    have hck := hc _ (List.getElem_mem hkl)
    refine Tm.step (idx_ok hkl) (Tm.bind (rRight_tm hck.len) ?_)
    intro r hr
    refine Tm.ite (fun h => Tm.pure (.inr ⟨fun e => ?_, rfl⟩)) (fun h => Tm.step (idx_ok hkl) (Tm.bind (rIOf_tm hck) ?_))
    · rw [hr.2 (e _ (List.getElem_mem hkl))] at h; cases h
    · intro a ha
      have h2 := hS.ok (fun c h => hc c (List.mem_of_mem_take h))
      have h3 := ha.ok hck
      have h4 : (l.take k).length ≤ 1000 := by simp; omega
      refine Tm.step (apnd_ok (by omega) (by decide)) (Tm.pure ⟨⟨k + 1, by dsimp only; rw [iw_eq] <;> omega, by omega, ?_, ?_⟩, ?_⟩)
      · rw [List.take_succ_eq_append_getElem hkl]
        intro c hc'
        rcases List.mem_append.1 hc' with h' | h'
        · exact hR c h'
        · rw [List.mem_singleton.1 h']; exact hr.1 (by simpa using h)
      · rw [List.take_succ_eq_append_getElem hkl]; exact hS.snoc ha
      · show l.length - (iw ((k : Int) + 1)).toNat < l.length - ((k : Int)).toNat
        rw [iw_eq] <;> omega
  · rw [List.take_of_length_le (by omega)] at hR hS
    exact .inl ⟨hR, hS⟩
end Go.D
set_option linter.unusedSimpArgs false
set_option linter.unusedVariables false
namespace Go.D
open Go Go.X
def dotI (vs xs : List Int) : Nat → Int
  | 0 => 0
  | n + 1 => dotI vs xs n + vs.getD n 0 * xs.getD n 0
theorem IsL.getD {cs : List Big} {vs : List Int} (h : IsL cs vs) (n : Nat) : bv (cs.getD n big0) = vs.getD n 0 := by
  rcases Nat.lt_or_ge n cs.length with hn | hn
  · rw [getDb hn, getD_ok (by rw [← h.1]; exact hn)]
    exact (h.2 n hn _).bv
  · rw [getD_out (by rw [← h.1]; exact hn), List.getD_eq_getElem?_getD, List.getElem?_eq_none hn]
    rfl
theorem dot_eq {cs ys : List Big} {vs xs : List Int} (h : IsL cs vs) (h' : IsL ys xs) : ∀ n, dot cs ys n = dotI vs xs n
  | 0 => rfl
  | n + 1 => by rw [dot, dotI, dot_eq h h' n, h.getD, h'.getD]
theorem dotI_neg {vs xs : List Int} : ∀ n, dotI (vs.map (fun v => -v)) xs n = - dotI vs xs n
  | 0 => rfl
  | n + 1 => by
    rw [dotI, dotI, dotI_neg n]
    have : (vs.map (fun v => -v)).getD n 0 = - vs.getD n 0 := by
      rcases Nat.lt_or_ge n vs.length with hn | hn
      · rw [getD_ok (by simpa using hn), getD_ok hn]; simp
      · rw [getD_out (by simpa using hn), getD_out hn]; rfl
    rw [this]; grind
theorem dotI_set {l xs : List Int} {v : Nat} {y : Int} (hv : v < l.length) : ∀ n, dotI (l.set v y) xs n = dotI l xs n + (if v < n then (y - l.getD v 0) * xs.getD v 0 else 0)
  | 0 => by simp [dotI]
  | n + 1 => by
    rw [dotI, dotI, dotI_set hv n]
    rcases Nat.lt_trichotomy v n with h | h | h
    · have : (l.set v y).getD n 0 = l.getD n 0 := by rw [List.getD_eq_getElem?_getD, List.getD_eq_getElem?_getD, List.getElem?_set_ne (by omega)]
      rw [this, if_pos h, if_pos (by omega)]; grind
    · subst h
      have : (l.set v y).getD v 0 = y := by rw [List.getD_eq_getElem?_getD, List.getElem?_set_self hv]; rfl
      rw [this, if_neg (by omega), if_pos (by omega)]; grind
    · have : (l.set v y).getD n 0 = l.getD n 0 := by rw [List.getD_eq_getElem?_getD, List.getD_eq_getElem?_getD, List.getElem?_set_ne (by omega)]
      rw [this, if_neg (by omega), if_neg (by omega)]; grind
theorem dotI_rep {xs : List Int} {m : Nat} : ∀ n, dotI (List.replicate m 0) xs n = 0
  | 0 => rfl
  | n + 1 => by
    rw [dotI, dotI_rep n]
    have : (List.replicate m (0 : Int)).getD n 0 = 0 := by
      rcases Nat.lt_or_ge n m with hn | hn
      · rw [getD_ok (by simpa using hn)]; simp
      · rw [getD_out (by simpa using hn)]
    rw [this]; simp
theorem right_lt {c : Constraint} {n : Int} (h : RightP c n) : ∀ {i k : Nat}, (hik : i < k) → (hk : k < c.Linear.Coefs.length) → (c.Linear.Coefs[i]'(by omega)).Var < c.Linear.Coefs[k].Var := by
  intro i k
  induction k with
  | zero => intro h; omega
  | succ k ih =>
    intro hik hk
    have h1 := (h.1 (k + 1) hk).2.2 (by omega)
    simp only [Nat.add_sub_cancel] at h1
    rcases Nat.lt_or_ge i k with h2 | h2
    · have := ih h2 (by omega); omega
    · obtain rfl : i = k := by omega
      exact h1
theorem vals_zero {c : Constraint} {n : Int} (h : RightP c n) {k : Nat} (hk : k ≤ c.Linear.Coefs.length) {j : Nat} (hj : ∀ i, (hi : i < k) → (c.Linear.Coefs[i]'(by omega)).Var ≠ j) : (vals c n k).getD j 0 = 0 := by
  induction k with
  | zero =>
    simp only [vals, List.take_zero, List.foldl_nil]
    rcases Nat.lt_or_ge j n.toNat with hn | hn
    · rw [getD_ok (by simpa using hn)]; simp
    · rw [getD_out (by simpa using hn)]
  | succ k ih =>
    rw [vals_succ (by omega), setv, List.getD_eq_getElem?_getD, List.getElem?_set_ne]
    · rw [← List.getD_eq_getElem?_getD]
      exact ih (by omega) (fun i hi => hj i (by omega))
    · have h1 := hj k (by omega)
      have h2 := (h.1 k (by omega)).1
      omega
def wsum (c : Constraint) (x : List Int) : Nat → Int
  | 0 => 0
  | k + 1 => wsum c x k + (c.Linear.Coefs.getD k ⟨0, 0⟩).N * x.getD (c.Linear.Coefs.getD k ⟨0, 0⟩).Var.toNat 0
theorem getDc {l : List Coef} {n : Nat} (h : n < l.length) : l.getD n ⟨0, 0⟩ = l[n] := by rw [List.getD_eq_getElem?_getD, List.getElem?_eq_getElem h]; rfl
theorem dot_vals {c : Constraint} {x : List Int} (h : RightP c x.length) : ∀ {k : Nat}, k ≤ c.Linear.Coefs.length → dotI (vals c x.length k) x x.length = wsum c x k := by
  intro k
  induction k with
  | zero => intro _; simp only [vals, List.take_zero, List.foldl_nil]; rw [dotI_rep]; rfl
  | succ k ih =>
    intro hk
    have hv := h.1 k (by omega)
    have hz : (vals c x.length k).getD c.Linear.Coefs[k].Var.toNat 0 = 0 := vals_zero h (by omega) (fun i hi => by have := right_lt h hi (by omega); omega)
    rw [vals_succ (by omega), setv, dotI_set (by rw [vals_len]; omega), ih (by omega), if_pos (by omega), hz, wsum, getDc (by omega)]
    grind
theorem holds_is {q : Ineq} {vs xs : List Int} {values : List Big} {b : Int} (hq : IsI q vs b) (hl : vs.length = xs.length) (hv : IsL values xs) : holdsV q values = decide (dotI vs xs xs.length ≤ b) := by
  unfold holdsV
  rw [dot_eq hq.1 hv, hq.2.bv, hq.1.1, hv.1]
  simp [hl]
end Go.D
set_option linter.unusedSimpArgs false
set_option linter.unusedVariables false
namespace Go.D
open Go Go.X
theorem Tm.fix {α : Type} {f : Nat → Option α} {Q : α → Prop} (h : Tm f Q) : ∃ a, Q a ∧ Tm f (· = a) := by
  obtain ⟨a, N0, h1, h2⟩ := h
  exact ⟨a, h1, a, N0, rfl, h2⟩
def vsOf (R : List RVal) (aux : List Int) : List Int := R.map RVal.Int ++ aux
def lin (cs : List Coef) (V : List Int) : Int := (cs.map fun x => x.N * V.getD x.Var.toNat 0).sum
theorem lin_snoc {cs : List Coef} {x : Coef} {V : List Int} : lin (cs ++ [x]) V = lin cs V + x.N * V.getD x.Var.toNat 0 := by unfold lin; simp
theorem vs_aux {R : List RVal} {aux : List Int} {k : Nat} (h : R.length ≤ k) : (vsOf R aux).getD k 0 = aux.getD (k - R.length) 0 := by
  unfold vsOf
  rw [List.getD_eq_getElem?_getD, List.getElem?_append_right (by simpa using h), List.length_map, List.getD_eq_getElem?_getD]
theorem vs_row {R : List RVal} {aux : List Int} {k : Nat} (h : k < R.length) : (vsOf R aux).getD k 0 = R[k].Int := by
  unfold vsOf
  rw [List.getD_eq_getElem?_getD, List.getElem?_append_left (by simpa using h)]
  simp [h]
structure Bnds (R : List RVal) (l : List RVar) (bs aux : List Int) : Prop where
  row : ∀ v ∈ R, v.Int.natAbs ≤ 2147483648
  nn : ∀ b ∈ bs, 0 ≤ b
  len : R.length = l.length
  aux : ∀ k, k < aux.length → ((aux.getD k 0).natAbs : Int) ≤ bs.getD k 0
variable {R : List RVal} {l : List RVar} {bs aux : List Int} {c : RClause} {f : Linear}
theorem bnd_nn (hb : ∀ b ∈ bs, 0 ≤ b) {v : Int} : 0 ≤ bnd l bs v := by
  unfold bnd
  split
  · rw [List.getD_eq_getElem?_getD]
    cases h : bs[v.toNat - l.length]? with
    | none => exact Int.le_refl _
    | some y => exact hb _ (List.mem_of_getElem? h)
  · decide
theorem sumB_take (hb : ∀ b ∈ bs, 0 ≤ b) {c0 : Int} {cs : List Coef} : ∀ k, sumB l bs c0 (cs.take k) ≤ sumB l bs c0 cs := by
  intro k
  have key : ∀ n, cs.length - k = n → sumB l bs c0 (cs.take k) ≤ sumB l bs c0 cs := by
    intro n
    induction n generalizing k with
    | zero => intro h; rw [List.take_of_length_le (by omega)]; exact Int.le_refl _
    | succ n ih =>
      intro h
      have h1 := ih (k + 1) (by omega)
      rw [List.take_succ_eq_append_getElem (by omega), sumB_snoc] at h1
      have h2 := Int.mul_nonneg (a := ((cs[k]'(by omega)).N.natAbs : Int)) (by omega) (bnd_nn (l := l) (v := (cs[k]'(by omega)).Var) hb)
      omega
  exact key _ rfl
theorem vs_bnd (h : Bnds R l bs aux) {k : Nat} (hk : k < l.length + aux.length) : (((vsOf R aux).getD k 0).natAbs : Int) ≤ bnd l bs (k : Int) := by
  unfold bnd
  have hl := h.len
  rcases Nat.lt_or_ge k R.length with g | g
  · rw [vs_row g, if_neg (by omega)]
    have := h.row _ (List.getElem_mem g); omega
  · rw [vs_aux g, if_pos (by omega), Int.toNat_natCast, ← hl]
    exact h.aux _ (by omega)
theorem lin_bnd0 (h : Bnds R l bs aux) : ∀ {cs : List Coef}, (∀ x ∈ cs, 0 ≤ x.Var ∧ x.Var < ((l.length + aux.length : Nat) : Int)) → ((lin cs (vsOf R aux)).natAbs : Int) ≤ (cs.map fun x => (x.N.natAbs : Int) * bnd l bs x.Var).sum
  | [], _ => by simp [lin]
  | x :: cs, hx => by
    have h1 := lin_bnd0 h (cs := cs) fun y hy => hx y (List.mem_cons_of_mem _ hy)
    obtain ⟨k, e, hk⟩ := var_n (n := l.length + aux.length) (hx x List.mem_cons_self)
    have h2 := vs_bnd h hk
    have e1 : lin (x :: cs) (vsOf R aux) = x.N * (vsOf R aux).getD k 0 + lin cs (vsOf R aux) := by unfold lin; rw [List.map_cons, List.sum_cons, e, Int.toNat_natCast]
    rw [e1, List.map_cons, List.sum_cons, e]
    have h3 : ((x.N * (vsOf R aux).getD k 0).natAbs : Int) = (x.N.natAbs : Int) * (((vsOf R aux).getD k 0).natAbs : Int) := by rw [Int.natAbs_mul]; simp
    have h4 : (x.N.natAbs : Int) * (((vsOf R aux).getD k 0).natAbs : Int) ≤ (x.N.natAbs : Int) * bnd l bs (k : Int) := Int.mul_le_mul_of_nonneg_left h2 (by omega)
    generalize x.N * (vsOf R aux).getD k 0 = p at *
    omega
theorem lin_bnd (h : Bnds R l bs aux) {c0 : Int} {cs : List Coef} (hx : ∀ x ∈ cs, 0 ≤ x.Var ∧ x.Var < ((l.length + aux.length : Nat) : Int)) : ((c0 + lin cs (vsOf R aux)).natAbs : Int) ≤ sumB l bs c0 cs := by
  have := lin_bnd0 h hx
  unfold sumB
  omega
theorem sValue_tm {r : Int} (h : Bnds R l bs aux) (hf : FrmOk f (l.length + aux.length)) (hx : FrmX f c l bs r) (hl : l.length ≤ 10) (ha : aux.length ≤ 1000) :
    Tm (fun N => sValue N f R aux) (fun q => q.2 = true → q.1 = f.Const + lin f.Coefs (vsOf R aux)) := by
  have hr := hx.le
  have hrl := h.len
  have hfl := hf.len
  have e0 := hx.sum
  unfold sValue
  refine Tm.bind (Q := fun o => match o with | .inl s => s = f.Const + lin f.Coefs (vsOf R aux) | .inr q => q.2 = false) ?_ fun o ho => ?_
  · refine Tm.up f.Coefs.length (fun k s => s.2 = (k : Int) ∧ s.1 = f.Const + lin (f.Coefs.take k) (vsOf R aux)) ⟨rfl, by simp [lin]⟩ ?_
    rintro k hk ⟨s, i⟩ ⟨hi, hs⟩
    dsimp only at hi hs; subst hi
    unfold sValue_b1
    dsimp only
    rcases Nat.lt_or_ge k f.Coefs.length with hlt | hge
    · refine Tm.pos (by omega) (Tm.step (idx_n hlt) ?_)
      have hmem := List.getElem_mem hlt
      obtain ⟨⟨v0, v1⟩, n0, n1, n2⟩ := hf.cf _ hmem
      obtain ⟨q, eq, hq⟩ := var_n (n := l.length + aux.length) ⟨v0, v1⟩
      have hin : ∀ x ∈ f.Coefs.take (k + 1), 0 ≤ x.Var ∧ x.Var < ((l.length + aux.length : Nat) : Int) := fun x hx => (hf.cf x (List.mem_of_mem_take hx)).1
      have hin0 : ∀ x ∈ f.Coefs.take k, 0 ≤ x.Var ∧ x.Var < ((l.length + aux.length : Nat) : Int) := fun x hx => (hf.cf x (List.mem_of_mem_take hx)).1
      have b0 := lin_bnd h (c0 := f.Const) hin0
      have b1 := lin_bnd h (c0 := f.Const) hin
      have t0 := sumB_take (l := l) h.nn (c0 := f.Const) (cs := f.Coefs) k
      have t1 := sumB_take (l := l) h.nn (c0 := f.Const) (cs := f.Coefs) (k + 1)
      rw [List.take_succ_eq_append_getElem hlt, lin_snoc] at b1
      rw [List.take_succ_eq_append_getElem hlt] at t1
      have done : ∀ y, y = (vsOf R aux).getD f.Coefs[k].Var.toNat 0 → Tm (fun N => (idx f.Coefs (k : Int)).bind fun x395 => some (Stp.next ((iw (s + (iw (x395.N * y)))), (iw ((k : Int) + 1))) : Stp (Int × Int) (Sum Int (Int × Bool)))) (· = Stp.next (f.Const + lin (f.Coefs.take (k + 1)) (vsOf R aux), ((k + 1 : Nat) : Int))) := by
        rintro y rfl
        refine Tm.step (idx_n hlt) (Tm.some ?_)
        rw [iw_n (by omega)]
        congr 2
        rw [List.take_succ_eq_append_getElem hlt, lin_snoc, hs]
        generalize f.Coefs[k].N * (vsOf R aux).getD f.Coefs[k].Var.toNat 0 = p at *
        generalize lin (f.Coefs.take k) (vsOf R aux) = u at *
        rw [iw_eq (z := p) (by omega) (by omega), iw_eq (by omega) (by omega)]; omega
      by_cases g1 : f.Coefs[k].Var ≥ (R.length : Int)
      · have e2 : iw (f.Coefs[k].Var - (R.length : Int)) = ((q - R.length : Nat) : Int) := by rw [iw_eq] <;> omega
        refine Tm.eq (a := Sum.inl (aux.getD (q - R.length) 0)) (Tm.pos g1 ?_) ((done (aux.getD (q - R.length) 0) ?_).mono (by rintro _ rfl; exact ⟨hlt, rfl, rfl⟩))
        · rw [e2]
          exact Tm.step (idx_n (by omega)) (Tm.some (by rw [getD_n (by omega)]))
        · rw [eq, Int.toNat_natCast, vs_aux (by omega)]
      · have hqR : q < R.length := by omega
        by_cases g2 : R[q].Kind = 1
        · refine Tm.eq (a := Sum.inl R[q].Int) (Tm.neg g1 ?_) ((done R[q].Int ?_).mono (by rintro _ rfl; exact ⟨hlt, rfl, rfl⟩))
          · rw [eq]
            exact Tm.step (idx_n hqR) (Tm.neg (by omega) (Tm.step (idx_n hqR) (Tm.some rfl)))
          · rw [eq, Int.toNat_natCast, vs_row hqR]
        · refine Tm.eq (a := Sum.inr (0, false)) (Tm.neg g1 ?_) (Tm.some rfl)
          rw [eq]
          exact Tm.step (idx_n hqR) (Tm.pos g2 (Tm.some rfl))
    · refine Tm.neg (by omega) (Tm.some ?_)
      rw [List.take_of_length_le hge] at hs
      exact hs
  · cases o with
    | inl s => exact Tm.some fun _ => ho
    | inr q => exact Tm.some fun h => by rw [show q.2 = false from ho] at h; cases h
theorem tdiv_floor {a b : Int} (hb : 0 < b) : (if a.tdiv b * b > a then a.tdiv b - 1 else a.tdiv b) = a / b := by
  have h1 := Int.tdiv_eq_ediv (a := a) (b := b)
  have h2 := Int.emod_nonneg a (by omega : b ≠ 0)
  have h3 := Int.emod_lt_of_pos a hb
  have h4 := Int.emod_add_mul_ediv a b
  have hs : b.sign = 1 := Int.sign_eq_one_of_pos hb
  have hd : b ∣ a ↔ a % b = 0 := Int.dvd_iff_emod_eq_zero
  have hc : (a / b) * b = b * (a / b) := Int.mul_comm _ _
  by_cases h0 : 0 ≤ a ∨ b ∣ a
  · rw [if_pos h0] at h1
    have e : a.tdiv b = a / b := by omega
    rw [e, hc, if_neg (by omega)]
  · rw [if_neg h0, hs] at h1
    have e : a.tdiv b = a / b + 1 := by omega
    have h5 : a % b ≠ 0 := fun h => h0 (.inr (hd.2 h))
    rw [e, Int.add_mul, hc, Int.one_mul, if_pos (by omega)]
    omega
theorem floor13_tm {a b : Int} (ha : (a.natAbs : Int) ≤ 1152921504606846977) (h1 : 1 ≤ b) (h2 : b ≤ 1000) : Tm (fun N => floor13 N a b) (· = a / b) := by
  unfold floor13
  have h3 : (a.tdiv b).natAbs ≤ a.natAbs := by rw [Int.natAbs_tdiv]; exact Nat.div_le_self _ _
  have hm := Int.tmod_add_mul_tdiv a b
  have h4 : (a.tmod b).natAbs < b.natAbs := by rw [Int.natAbs_tmod]; exact Nat.mod_lt _ (by omega)
  have hc : (a.tdiv b) * b = b * (a.tdiv b) := Int.mul_comm _ _
  have hsd : sdiv .i64 a b = some (a.tdiv b) := by
    unfold sdiv
    rw [if_neg (by omega)]
    congr 1
    exact iw_eq (by omega) (by omega)
  refine Tm.step hsd ?_
  rw [iw_eq (z := a.tdiv b * b) (by omega) (by omega), iw_eq (z := a.tdiv b - 1) (by omega) (by omega), ← tdiv_floor (a := a) (show 0 < b by omega)]
  by_cases g : a.tdiv b * b > a
  · simp only [g, if_true]; exact Tm.some rfl
  · simp only [g, if_false]; exact Tm.some rfl
structure AxV (c : RClause) (R : List RVal) (l : List RVar) (bs aux : List Int) : Prop where
  len : aux.length = c.Auxiliary.length
  at' : ∀ i (hi : i < c.Auxiliary.length), (c.Auxiliary[i].By = 0 ∧ (∃ v, R[c.Auxiliary[i].Text.toNat]? = some v ∧ v.Kind = 2 ∧ aux.getD i 0 = (v.Text.length : Int))) ∨ (c.Auxiliary[i].By ≠ 0 ∧ aux.getD i 0 = (c.Auxiliary[i].Of.Const + lin c.Auxiliary[i].Of.Coefs (vsOf R (aux.take i))) / c.Auxiliary[i].By)
  bnd : ∀ k, k < aux.length → ((aux.getD k 0).natAbs : Int) ≤ bs.getD k 0
theorem div_bnd {x r b : Int} (hb : 1 ≤ b) (h : (x.natAbs : Int) ≤ r) : ((x / b).natAbs : Int) ≤ r / b + 1 := by
  have h1 := Int.ediv_le_ediv (a := x) (b := r) (c := b) (by omega) (by omega)
  have h2 := Int.ediv_le_ediv (a := -r) (b := x) (c := b) (by omega) (by omega)
  have h3 := Int.emod_add_mul_ediv r b
  have h4 := Int.emod_add_mul_ediv (-r) b
  have h5 := Int.emod_lt_of_pos r (show 0 < b by omega)
  have h6 := Int.emod_nonneg (-r) (show b ≠ 0 by omega)
  have h7 := Int.emod_nonneg r (show b ≠ 0 by omega)
  have h8 : -(r / b) - 1 ≤ -r / b := by
    have h9 : (-(r / b) - 1) * b ≤ -r := by
      have e : (-(r / b) - 1) * b = -(b * (r / b)) - b := by rw [Int.sub_mul, Int.neg_mul, Int.mul_comm (r / b) b, Int.one_mul]
      omega
    exact (Int.le_ediv_iff_mul_le (by omega)).2 h9
  have h10 : 0 ≤ r / b := Int.ediv_nonneg (by omega) (by omega)
  omega
theorem sAuxiliary_tm (hR : RowOk R l) (hv : ClOk c l) (hs : SmC c) (hl : l.length ≤ 10) (hrow : ∀ v ∈ R, v.Int.natAbs ≤ 2147483648) (hb : BdsOk c l bs) :
    Tm (fun N => sAuxiliary N c R) (fun q => q.2 = true → AxV c R l bs q.1) := by
  have hsx := hs.ax
  have hrl := hR.len
  have hbl := hb.len
  unfold sAuxiliary
  refine Tm.bind (Q := fun o => match o with | .inl aux => AxV c R l bs aux | .inr q => q.2 = false) ?_ fun o ho => ?_
  · refine Tm.up c.Auxiliary.length (fun k s => s.2 = (k : Int) ∧ s.1.length = k ∧ (∀ i (hi : i < c.Auxiliary.length), i < k → (c.Auxiliary[i].By = 0 ∧ (∃ v, R[c.Auxiliary[i].Text.toNat]? = some v ∧ v.Kind = 2 ∧ s.1.getD i 0 = (v.Text.length : Int))) ∨ (c.Auxiliary[i].By ≠ 0 ∧ s.1.getD i 0 = (c.Auxiliary[i].Of.Const + lin c.Auxiliary[i].Of.Coefs (vsOf R (s.1.take i))) / c.Auxiliary[i].By)) ∧ ∀ j, j < k → ((s.1.getD j 0).natAbs : Int) ≤ bs.getD j 0) ⟨rfl, rfl, fun i _ hi => by omega, fun j hj => by omega⟩ ?_
    rintro k hk ⟨s, i⟩ ⟨hi, hsl, hsa, hsb⟩
    dsimp only at hi hsl hsa hsb; subst hi
    unfold sAuxiliary_b1
    dsimp only
    rcases Nat.lt_or_ge k c.Auxiliary.length with hlt | hge
    · refine Tm.pos (by omega) (Tm.step (idx_n hlt) ?_)
      have grow : ∀ y : Int, (∀ (hlt : k < c.Auxiliary.length), (c.Auxiliary[k].By = 0 ∧ (∃ v, R[c.Auxiliary[k].Text.toNat]? = some v ∧ v.Kind = 2 ∧ y = (v.Text.length : Int))) ∨ (c.Auxiliary[k].By ≠ 0 ∧ y = (c.Auxiliary[k].Of.Const + lin c.Auxiliary[k].Of.Coefs (vsOf R s)) / c.Auxiliary[k].By)) → ((y.natAbs : Int) ≤ bs.getD k 0) →
          (s ++ [y]).length = k + 1 ∧ (∀ i (hi : i < c.Auxiliary.length), i < k + 1 → (c.Auxiliary[i].By = 0 ∧ (∃ v, R[c.Auxiliary[i].Text.toNat]? = some v ∧ v.Kind = 2 ∧ (s ++ [y]).getD i 0 = (v.Text.length : Int))) ∨ (c.Auxiliary[i].By ≠ 0 ∧ (s ++ [y]).getD i 0 = (c.Auxiliary[i].Of.Const + lin c.Auxiliary[i].Of.Coefs (vsOf R ((s ++ [y]).take i))) / c.Auxiliary[i].By)) ∧ ∀ j, j < k + 1 → (((s ++ [y]).getD j 0).natAbs : Int) ≤ bs.getD j 0 := by
        intro y h1 h2
        have old : ∀ i, i < k → (s ++ [y]).getD i 0 = s.getD i 0 ∧ (s ++ [y]).take i = s.take i := fun i hik => ⟨by rw [List.getD_eq_getElem?_getD, List.getD_eq_getElem?_getD, List.getElem?_append_left (by omega)], by rw [List.take_append_of_le_length (by omega)]⟩
        have new : (s ++ [y]).getD k 0 = y ∧ (s ++ [y]).take k = s := ⟨by rw [List.getD_eq_getElem?_getD, List.getElem?_append_right (by omega)]; simp [hsl], by rw [List.take_append_of_le_length (by omega), List.take_of_length_le (by omega)]⟩
        refine ⟨by simp [hsl], fun i hi hik => ?_, fun j hj => ?_⟩
        · rcases Nat.lt_or_ge i k with g | g
          · rw [(old i g).1, (old i g).2]; exact hsa i hi g
          · have : i = k := by omega
            subst this
            rw [new.1, new.2]; exact h1 hi
        · rcases Nat.lt_or_ge j k with g | g
          · rw [(old j g).1]; exact hsb j g
          · have : j = k := by omega
            subst this
            rw [new.1]; exact h2
      have hbk := hb.at' k hlt
      have hax := hv.ax k hlt
      by_cases g0 : c.Auxiliary[k].By = 0
      · refine Tm.pos g0 ?_
        rcases hax with ⟨_, _, _, q, eq, ⟨x, hx, hty⟩, hmem⟩ | ⟨h, _⟩
        · rw [eq]
          have hq : q < R.length := by have := (List.getElem?_eq_some_iff.1 hx).1; omega
          refine Tm.step (idx_n hq) ?_
          by_cases g1 : R[q].Kind ≠ 2
          · exact Tm.pos g1 (Tm.some rfl)
          · refine Tm.neg g1 (Tm.step (idx_n hq) ?_)
            rw [apnd_ok (by simp only [List.length_singleton]; omega) (by decide)]
            have h16 : R[q].Text.length ≤ 16 := by
              rcases hR.at' q hq (by omega) with ⟨z, _⟩ | ⟨z, _⟩ | ⟨_, _, _, _, z, _⟩
              · omega
              · omega
              · exact z
            refine Tm.some ⟨hlt, iw_n (by omega), grow _ (fun _ => .inl ⟨g0, R[q], by rw [eq, Int.toNat_natCast]; exact List.getElem?_eq_getElem hq, by omega, rfl⟩) ?_⟩
            rcases hbk with ⟨_, e⟩ | ⟨e, _⟩
            · rw [e]; omega
            · exact absurd g0 e
        · exact absurd g0 h
      · refine Tm.neg g0 ?_
        rcases hax with ⟨h, _⟩ | ⟨_, ⟨d1, d2⟩, _, hf⟩
        · exact absurd h g0
        rcases hbk with ⟨h, _⟩ | ⟨_, r, hr0, hx, hbe⟩
        · exact absurd h g0
        have hB : Bnds R l (bs.take k) s := ⟨hrow, fun b hb' => hb.nn b (List.mem_of_mem_take hb'), hrl, fun j hj => by
          have := hsb j (by omega)
          rw [List.getD_eq_getElem?_getD (l := bs.take k), List.getElem?_take, if_pos (by omega), ← List.getD_eq_getElem?_getD]; exact this⟩
        have hf' : FrmOk c.Auxiliary[k].Of (l.length + s.length) := by rw [hsl]; exact hf
        refine (sValue_tm hB hf' hx hl (by omega)).bind fun q hq => ?_
        cases e : q.2 with
        | false => exact Tm.pos (by simp) (Tm.some rfl)
        | true =>
          have hq := hq e
          have hbd := lin_bnd hB (c0 := c.Auxiliary[k].Of.Const) (cs := c.Auxiliary[k].Of.Coefs) fun x hx => (hf'.cf x hx).1
          rw [← hx.sum, ← hq] at hbd
          have hle := hx.le
          refine Tm.neg (by simp) ((floor13_tm (by omega) d1 d2).eq ?_)
          rw [apnd_ok (by simp only [List.length_singleton]; omega) (by decide)]
          refine Tm.some ⟨hlt, iw_n (by omega), grow _ (fun _ => .inr ⟨g0, by rw [hq]⟩) ?_⟩
          rw [hbe]
          exact div_bnd d1 hbd
    · have : k = c.Auxiliary.length := by omega
      subst this
      exact Tm.neg (by omega) (Tm.some ⟨hsl, fun i hi => hsa i hi hi, fun j hj => hsb j (by omega)⟩)
  · cases o with
    | inl s => exact Tm.some fun _ => ho
    | inr q => exact Tm.some fun h => by rw [show q.2 = false from ho] at h; cases h
end Go.D
set_option linter.unusedSimpArgs false
set_option linter.unusedVariables false
namespace Go.D
open Go Go.X
theorem Tm.whileOk {α : Type} {b : Nat → Bool × Int → Option (Stp (Bool × Int) Bool)} (xs : List α) (P : α → Prop) {ok0 : Bool} {A : Prop} (h0 : ok0 = true → A) (hn : xs.length ≤ 9223372036854775806)
    (h : ∀ k (hk : k < xs.length), A → Tm (fun N => b N (true, (k : Int))) (fun t => ∃ r, t = .next (r, iw ((k : Int) + 1)) ∧ (r = true → P xs[k])))
    (hd : ∀ k : Nat, k ≤ xs.length → Tm (fun N => b N (false, (k : Int))) (· = .done false)) (he : Tm (fun N => b N (true, (xs.length : Int))) (· = .done true)) : Tm (fun N => loopM (b N) N (ok0, 0)) (fun r => r = true → A ∧ ∀ x ∈ xs, P x) := by
  refine Tm.up xs.length (fun k s => s.2 = (k : Int) ∧ (s.1 = true → A ∧ ∀ j (hj : j < xs.length), j < k → P xs[j])) ⟨rfl, fun h => ⟨h0 h, fun j _ hj => by omega⟩⟩ ?_
  rintro k hk ⟨ok, i⟩ ⟨hi, hJ⟩
  dsimp only at hi hJ; subst hi
  cases ok with
  | false => exact (hd k hk).mono fun t ht => by subst ht; intro h; cases h
  | true =>
    obtain ⟨a, hJ⟩ := hJ rfl
    rcases Nat.lt_or_ge k xs.length with hlt | hge
    · refine (h k hlt a).mono fun t ht => ?_
      obtain ⟨r, rfl, hr⟩ := ht
      refine ⟨hlt, iw_n (by omega), fun e => ⟨a, fun j hj hjk => ?_⟩⟩
      by_cases ejk : j = k
      · subst ejk; exact hr e
      · exact hJ j hj (by omega)
    · have : k = xs.length := by omega
      subst this
      refine he.mono fun t ht => ?_
      subst ht
      refine fun _ => ⟨a, fun x hx => ?_⟩
      obtain ⟨j, hj, rfl⟩ := List.getElem_of_mem hx
      exact hJ j hj hj
structure HoldOk (c : RClause) (R : List RVal) (a : List Int × Bool) : Prop where
  nn : ∀ v ∈ c.NotNull, ∀ x, R[v.toNat]? = some x → x.Kind ≠ 0
  ax : a.2 = true
  it : ∀ k ∈ c.Ints, k.Linear.Const + lin k.Linear.Coefs (vsOf R a.1) ≤ 0 ∧ (k.Equal = true → k.Linear.Const + lin k.Linear.Coefs (vsOf R a.1) = 0)
  ts : ∀ t ∈ c.Tests, ∃ x, R[t.Var.toNat]? = some x ∧ mean t x.Text = true
  sm : ∀ e ∈ c.Same, ∃ x y, R[e.e0.toNat]? = some x ∧ R[e.e1.toNat]? = some y ∧ x.Text = y.Text
  df : ∀ e ∈ c.Different, ∃ x y, R[e.e0.toNat]? = some x ∧ R[e.e1.toNat]? = some y ∧ x.Text ≠ y.Text
variable {R : List RVal} {l : List RVar} {bs : List Int} {c : RClause}
theorem txt_at (hR : RowOk R l) {v : Int} (h : TxtOk c l v) : ∃ k : Nat, v = (k : Int) ∧ k < R.length := by
  obtain ⟨k, e, ⟨x, hx, _⟩, _⟩ := h
  exact ⟨k, e, by have := (List.getElem?_eq_some_iff.1 hx).1; have := hR.len; omega⟩
theorem sHolds_tm {a : List Int × Bool} (hR : RowOk R l) (hv : ClOk c l) (hs : SmC c) (hl : l.length ≤ 10) (hrow : ∀ v ∈ R, v.Int.natAbs ≤ 2147483648) (hb : BdsOk c l bs) (hx : ∀ k ∈ c.Ints, ∃ r, FrmX k.Linear c l bs r)
    (hT : Tm (fun N => sAuxiliary N c R) (· = a)) (ha : a.2 = true → AxV c R l bs a.1) : Tm (fun N => sHolds N c R) (fun q => q = true → HoldOk c R a) := by
  have h1 := hs.ax; have h2 := hs.it; have h3 := hs.ts; have h4 := hs.sm; have h5 := hs.df
  have hrl := hR.len
  have hnl := hv.nl.len; have hnn := hv.nn.len
  unfold sHolds
  refine Tm.bind (Tm.each (body := fun N => sHolds_b1 N c R) c.Null (fun _ => True) (Q := fun o => o = .inl () ∨ o = .inr false) (by omega) (fun n hn _ => ?_) fun _ => ?_) fun o ho => ?_
  · unfold sHolds_b1
    obtain ⟨q, eq, hq⟩ := var_n (n := l.length) (hv.nl.bd _ (List.getElem_mem hn))
    refine Tm.pos (by omega) (Tm.step (idx_n hn) ?_)
    rw [eq]
    refine Tm.step (idx_n (by omega)) ?_
    by_cases g : (R[q]'(by omega)).Kind ≠ 0
    · exact Tm.pos g (Tm.some (.inr ⟨_, rfl, .inr rfl⟩))
    · exact Tm.neg g (Tm.some (.inl ⟨rfl, trivial⟩))
  · unfold sHolds_b1
    exact Tm.neg (by omega) (Tm.some ⟨_, rfl, .inl rfl⟩)
  rcases ho with rfl | rfl
  rotate_left
  · exact Tm.some fun h => by cases h
  refine Tm.bind (Tm.each (body := fun N => sHolds_b2 N c R) c.NotNull (fun v => ∀ x, R[v.toNat]? = some x → x.Kind ≠ 0) (Q := fun o => (o = .inl () ∧ ∀ v ∈ c.NotNull, ∀ x, R[v.toNat]? = some x → x.Kind ≠ 0) ∨ o = .inr false) (by omega) (fun n hn _ => ?_) fun h => ?_) fun o ho => ?_
  · unfold sHolds_b2
    obtain ⟨q, eq, hq⟩ := var_n (n := l.length) (hv.nn.bd _ (List.getElem_mem hn))
    refine Tm.pos (by omega) (Tm.step (idx_n hn) ?_)
    rw [eq]
    refine Tm.step (idx_n (by omega)) ?_
    by_cases g : (R[q]'(by omega)).Kind = 0
    · exact Tm.pos g (Tm.some (.inr ⟨_, rfl, .inr rfl⟩))
    · refine Tm.neg g (Tm.some (.inl ⟨rfl, fun x hx => ?_⟩))
      rw [Int.toNat_natCast, List.getElem?_eq_getElem (by omega)] at hx
      cases hx; exact g
  · unfold sHolds_b2
    exact Tm.neg (by omega) (Tm.some ⟨_, rfl, .inl ⟨rfl, h⟩⟩)
  rcases ho with ⟨rfl, hnn'⟩ | rfl
  rotate_left
  · exact Tm.some fun h => by cases h
  refine hT.eq ?_
  refine Tm.bind (Tm.whileOk (b := fun N => sHolds_b3 N c R a) c.Ints (fun k => k.Linear.Const + lin k.Linear.Coefs (vsOf R a.1) ≤ 0 ∧ (k.Equal = true → k.Linear.Const + lin k.Linear.Coefs (vsOf R a.1) = 0)) (A := a.2 = true) (fun h => h) (by omega) (fun k hk hA => ?_) (fun k hk => ?_) ?_) fun ok1 q1 => ?_
  · unfold sHolds_b3
    dsimp only
    have hax := ha hA
    obtain ⟨r, hxr⟩ := hx _ (List.getElem_mem hk)
    have hB : Bnds R l bs a.1 := ⟨hrow, hb.nn, hrl, hax.bnd⟩
    have hf := hv.it _ (List.getElem_mem hk)
    rw [← hax.len] at hf
    refine Tm.eq (a := true) (Tm.pos (by omega) (Tm.some rfl)) (Tm.pos rfl (Tm.step (idx_n hk) ((sValue_tm hB hf hxr hl (by rw [hax.len]; omega)).bind fun q hq => ?_)))
    cases e : q.2 with
    | false => exact Tm.neg (by simp) (Tm.some ⟨_, rfl, fun h => by cases h⟩)
    | true =>
      have hq := hq e
      refine Tm.pos rfl ?_
      by_cases g1 : q.1 ≤ 0
      · refine Tm.pos g1 ?_
        by_cases g2 : q.1 = 0
        · exact Tm.pos g2 (Tm.some ⟨_, rfl, fun _ => ⟨by omega, fun _ => by omega⟩⟩)
        · refine Tm.neg g2 (Tm.step (idx_n hk) (Tm.some ⟨_, rfl, fun h => ⟨by omega, fun h' => ?_⟩⟩))
          rw [h'] at h; cases h
      · exact Tm.neg g1 (Tm.some ⟨_, rfl, fun h => by cases h⟩)
  · unfold sHolds_b3
    dsimp only
    by_cases g : (k : Int) < (c.Ints.length : Int)
    · exact Tm.eq (a := false) (Tm.pos g (Tm.some rfl)) (Tm.neg (by simp) (Tm.some rfl))
    · exact Tm.eq (a := false) (Tm.neg g (Tm.some rfl)) (Tm.neg (by simp) (Tm.some rfl))
  · unfold sHolds_b3
    dsimp only
    exact Tm.eq (a := false) (Tm.neg (by omega) (Tm.some rfl)) (Tm.neg (by simp) (Tm.some rfl))
  refine Tm.bind (Tm.whileOk (b := fun N => sHolds_b4 N c R) c.Tests (fun t => ∃ x, R[t.Var.toNat]? = some x ∧ mean t x.Text = true) (A := ok1 = true) (fun h => h) (by omega) (fun k hk hA => ?_) (fun k hk => ?_) ?_) fun ok2 q2 => ?_
  · unfold sHolds_b4
    dsimp only
    obtain ⟨ho, htx⟩ := hv.ts _ (List.getElem_mem hk)
    obtain ⟨q, eq, hq⟩ := txt_at hR htx
    refine Tm.eq (a := true) (Tm.pos (by omega) (Tm.some rfl)) (Tm.pos rfl (Tm.step (idx_n hk) ?_))
    rw [eq]
    refine Tm.step (idx_n hq) ?_
    by_cases g : R[q].Kind = 2
    · have h16 : R[q].Text.length ≤ 16 := by
        rcases hR.at' q hq (by omega) with ⟨z, _⟩ | ⟨z, _⟩ | ⟨_, _, _, _, z, _⟩
        · omega
        · omega
        · exact z
      exact Tm.pos g (Tm.step (idx_n hk) ((u16Passes_tm ho (by omega)).eq (Tm.some ⟨_, rfl, fun h => ⟨R[q], by rw [Int.toNat_natCast]; exact List.getElem?_eq_getElem hq, h⟩⟩)))
    · exact Tm.neg g (Tm.some ⟨_, rfl, fun h => by cases h⟩)
  · unfold sHolds_b4
    dsimp only
    by_cases g : (k : Int) < (c.Tests.length : Int)
    · exact Tm.eq (a := false) (Tm.pos g (Tm.some rfl)) (Tm.neg (by simp) (Tm.some rfl))
    · exact Tm.eq (a := false) (Tm.neg g (Tm.some rfl)) (Tm.neg (by simp) (Tm.some rfl))
  · unfold sHolds_b4
    dsimp only
    exact Tm.eq (a := false) (Tm.neg (by omega) (Tm.some rfl)) (Tm.neg (by simp) (Tm.some rfl))
  refine Tm.bind (Tm.whileOk (b := fun N => sHolds_b5 N c R) c.Same (fun e => ∃ x y, R[e.e0.toNat]? = some x ∧ R[e.e1.toNat]? = some y ∧ x.Text = y.Text) (A := ok2 = true) (fun h => h) (by omega) (fun k hk hA => ?_) (fun k hk => ?_) ?_) fun ok3 q3 => ?_
  · unfold sHolds_b5
    dsimp only
    obtain ⟨t0, t1, _⟩ := hv.sm _ (List.getElem_mem hk)
    obtain ⟨q, eq, hq⟩ := txt_at hR t0
    obtain ⟨u, eu, hu⟩ := txt_at hR t1
    refine Tm.eq (a := true) (Tm.pos (by omega) (Tm.some rfl)) (Tm.pos rfl (Tm.step (idx_n hk) ?_))
    rw [eq]
    refine Tm.step (idx_n hq) ?_
    by_cases g : R[q].Kind = 2
    · refine Tm.pos g (Tm.step (idx_n hk) ?_)
      rw [eq]
      refine Tm.step (idx_n hq) (Tm.step (idx_n hk) ?_)
      rw [eu]
      refine Tm.step (idx_n hu) (Tm.some ⟨_, rfl, fun h => ⟨R[q], R[u], by rw [Int.toNat_natCast]; exact List.getElem?_eq_getElem hq, by rw [Int.toNat_natCast]; exact List.getElem?_eq_getElem hu, ?_⟩⟩)
      simp only [Bool.and_eq_true, decide_eq_true_eq] at h
      exact h.2.2.1
    · exact Tm.neg g (Tm.some ⟨_, rfl, fun h => by cases h⟩)
  · unfold sHolds_b5
    dsimp only
    by_cases g : (k : Int) < (c.Same.length : Int)
    · exact Tm.eq (a := false) (Tm.pos g (Tm.some rfl)) (Tm.neg (by simp) (Tm.some rfl))
    · exact Tm.eq (a := false) (Tm.neg g (Tm.some rfl)) (Tm.neg (by simp) (Tm.some rfl))
  · unfold sHolds_b5
    dsimp only
    exact Tm.eq (a := false) (Tm.neg (by omega) (Tm.some rfl)) (Tm.neg (by simp) (Tm.some rfl))
  refine Tm.bind (Tm.whileOk (b := fun N => sHolds_b6 N c R) c.Different (fun e => ∃ x y, R[e.e0.toNat]? = some x ∧ R[e.e1.toNat]? = some y ∧ x.Text ≠ y.Text) (A := ok3 = true) (fun h => h) (by omega) (fun k hk hA => ?_) (fun k hk => ?_) ?_) fun ok4 q4 => ?_
  · unfold sHolds_b6
    dsimp only
    obtain ⟨t0, t1, _⟩ := hv.df _ (List.getElem_mem hk)
    obtain ⟨q, eq, hq⟩ := txt_at hR t0
    obtain ⟨u, eu, hu⟩ := txt_at hR t1
    refine Tm.eq (a := true) (Tm.pos (by omega) (Tm.some rfl)) (Tm.pos rfl (Tm.step (idx_n hk) ?_))
    rw [eq]
    refine Tm.step (idx_n hq) (Tm.step (idx_n hk) ?_)
    rw [eu]
    refine Tm.step (idx_n hu) ?_
    by_cases g : R[q].Kind = 2
    · refine Tm.pos g ?_
      by_cases g2 : R[u].Kind = 2
      · refine Tm.pos g2 (Tm.some ⟨_, rfl, fun h => ⟨R[q], R[u], by rw [Int.toNat_natCast]; exact List.getElem?_eq_getElem hq, by rw [Int.toNat_natCast]; exact List.getElem?_eq_getElem hu, of_decide_eq_true h⟩⟩)
      · exact Tm.neg g2 (Tm.some ⟨_, rfl, fun h => by cases h⟩)
    · exact Tm.neg g (Tm.some ⟨_, rfl, fun h => by cases h⟩)
  · unfold sHolds_b6
    dsimp only
    by_cases g : (k : Int) < (c.Different.length : Int)
    · exact Tm.eq (a := false) (Tm.pos g (Tm.some rfl)) (Tm.neg (by simp) (Tm.some rfl))
    · exact Tm.eq (a := false) (Tm.neg g (Tm.some rfl)) (Tm.neg (by simp) (Tm.some rfl))
  · unfold sHolds_b6
    dsimp only
    exact Tm.eq (a := false) (Tm.neg (by omega) (Tm.some rfl)) (Tm.neg (by simp) (Tm.some rfl))
  refine Tm.some fun h => ?_
  obtain ⟨p4, r4⟩ := q4 h
  obtain ⟨p3, r3⟩ := q3 p4
  obtain ⟨p2, r2⟩ := q2 p3
  obtain ⟨p1, r1⟩ := q1 p2
  exact ⟨hnn', p1, r1, r2, r3, r4⟩
end Go.D
set_option linter.unusedSimpArgs false
set_option linter.unusedVariables false
namespace Go.D
open Go Go.X
def isT (l : List RVar) (v : Int) : Bool := match l[v.toNat]? with
  | some x => decide (x.Ty = 2)
  | none => false
def e0Of (rg : List Arr2Int) (v : Int) : Int := match rg[v.toNat]? with
  | some r => r.e0
  | none => 0
def pos (vs : List Int) (v : Int) : Int := ((vs.idxOf v : Nat) : Int)
def tvs (l : List RVar) (c : RClause) : List Int := c.NotNull.filter (isT l)
def txtsOf (l : List RVar) (c : RClause) (rg : List Arr2Int) : TProb :=
  TProb.mk ((tvs l c).map (e0Of rg)) ((tvs l c).map fun v => hiOf l rg v.toNat) (c.Tests.map fun t => TTest.mk (pos (tvs l c) t.Var) t.Kind t.Negated t.Text) (c.Same.map fun e => Arr2Int.mk (pos (tvs l c) e.e0) (pos (tvs l c) e.e1)) (c.Different.map fun e => Arr2Int.mk (pos (tvs l c) e.e0) (pos (tvs l c) e.e1))
theorem mget_mput1 {K V : Type} [DecidableEq K] {m : List (K × V)} {k k' : K} {v z : V} : (mget (mput m k v) k' z).1 = if k' = k then v else (mget m k' z).1 := by
  induction m with
  | nil =>
    simp only [mput, mget]
    by_cases h : k = k'
    · rw [if_pos h, if_pos h.symm]
    · rw [if_neg h, if_neg (fun e => h e.symm)]
  | cons p m ih =>
    simp only [mput]
    by_cases h : p.1 = k
    · rw [if_pos h]
      simp only [mget]
      by_cases h2 : k = k'
      · rw [if_pos h2, if_pos h2.symm]
      · rw [if_neg h2, if_neg (fun e => h2 e.symm), if_neg (by rw [h]; exact h2)]
    · rw [if_neg h]
      simp only [mget]
      by_cases h2 : p.1 = k'
      · rw [if_pos h2, if_neg (by rw [← h2]; exact h), if_pos h2]
      · rw [if_neg h2, if_neg h2]; exact ih
section
variable {l : List RVar} {c : RClause} {rg : List Arr2Int}
theorem asc_nodup {l : List Int} {n : Nat} (h : AscOk l n) : l.Nodup := by
  rw [List.Nodup, List.pairwise_iff_getElem]
  intro i j hi hj hij
  have := h.asc i j hi hj hij
  omega
theorem tvs_nodup (h : AscOk c.NotNull l.length) : (tvs l c).Nodup := (asc_nodup h).sublist List.filter_sublist
theorem tvs_len : (tvs l c).length ≤ c.NotNull.length := List.length_filter_le _ _
theorem txt_mem {v : Int} (h : TxtOk c l v) : v ∈ tvs l c := by
  obtain ⟨k, rfl, ⟨x, ex, hx⟩, hm⟩ := h
  refine List.mem_filter.2 ⟨hm, ?_⟩
  unfold isT
  rw [Int.toNat_natCast, ex]
  exact decide_eq_true hx
def MOk (m : List (Int × Int)) (vs : List Int) : Prop := ∀ i (h : i < vs.length), (mget m vs[i] 0).1 = (i : Int)
theorem MOk.pos {m : List (Int × Int)} {vs : List Int} (h : MOk m vs) (hn : vs.Nodup) {v : Int} (hv : v ∈ vs) : (mget m v 0).1 = Go.D.pos vs v := by
  obtain ⟨i, hi, rfl⟩ := List.getElem_of_mem hv
  rw [h i hi]
  unfold Go.D.pos
  rw [List.Nodup.idxOf_getElem hn i hi]
theorem take_asc (h : AscOk c.NotNull l.length) {k : Nat} (hk : k < c.NotNull.length) : c.NotNull[k] ∉ c.NotNull.take k := by
  intro hm
  obtain ⟨j, hj, e⟩ := List.getElem_of_mem hm
  rw [List.length_take] at hj
  rw [List.getElem_take] at e
  have := h.asc j k (by omega) hk (by omega)
  omega
theorem vTexts_b1_tm (h : AscOk c.NotNull l.length) (hr : RgOk l rg) (hl : l.length ≤ 10) : Tm (fun N => loopM (vTexts_b1 N c l rg) N (([] : List Int), ([] : List Int), ([] : List Int), ([] : List (Int × Int)), 0)) (fun r => r.1 = (tvs l c).map (e0Of rg) ∧ r.2.1 = ((tvs l c).map fun v => hiOf l rg v.toNat) ∧ r.2.2.1 = tvs l c ∧ MOk r.2.2.2 (tvs l c)) := by
  have hcl := h.len
  refine Tm.up c.NotNull.length (fun k s => s.2.2.2.2 = (k : Int) ∧ s.1 = ((c.NotNull.take k).filter (isT l)).map (e0Of rg) ∧ s.2.1 = (((c.NotNull.take k).filter (isT l)).map fun v => hiOf l rg v.toNat) ∧ s.2.2.1 = (c.NotNull.take k).filter (isT l) ∧ MOk s.2.2.2.1 ((c.NotNull.take k).filter (isT l))) ⟨rfl, rfl, rfl, rfl, fun i hi => by simp at hi⟩ ?_
  rintro k hk ⟨a, b, vs, m, i⟩ ⟨hi, h1, h2, h3, h4⟩
  dsimp only at hi h1 h2 h3 h4; subst hi
  unfold vTexts_b1
  dsimp only
  rcases Nat.lt_or_ge k c.NotNull.length with hlt | hge
  · obtain ⟨q, eq, hq⟩ := var_n (h.bd _ (List.getElem_mem hlt))
    have hq2 : q < rg.length := by rw [hr.len]; exact hq
    have hta := take_asc h hlt
    have hfl : ((c.NotNull.take k).filter (isT l)).length ≤ k := by
      have := List.length_filter_le (isT l) (c.NotNull.take k)
      rw [List.length_take] at this; omega
    refine Tm.pos (by omega) (Tm.step (idx_n hlt) ?_)
    rw [eq]
    refine Tm.step (idx_n hq) ?_
    rw [List.take_succ_eq_append_getElem hlt, List.filter_append]
    rw [eq] at hta ⊢
    have eT : isT l (q : Int) = decide (l[q].Ty = 2) := by unfold isT; rw [Int.toNat_natCast, List.getElem?_eq_getElem hq]
    by_cases g : l[q].Ty = 2
    · refine Tm.pos g ?_
      rw [List.filter_cons_of_pos (by rw [eT]; exact decide_eq_true g), List.filter_nil]
      rw [h1, h2, h3] at *
      rw [apnd_ok (by rw [List.length_singleton]; omega) (by decide)]
      simp only [Option.bind_some]
      refine Tm.step (idx_n hq2) ?_
      rw [apnd_ok (by rw [List.length_map, List.length_singleton]; omega) (by decide)]
      simp only [Option.bind_some]
      refine (vhigh_tm hr hq).eq ?_
      rw [apnd_ok (by rw [List.length_map, List.length_singleton]; omega) (by decide)]
      refine Tm.some ⟨hlt, iw_n (by omega), ?_, ?_, rfl, fun i hi => ?_⟩
      · dsimp only
        rw [List.map_append]
        congr 1
        unfold e0Of
        simp [List.getElem?_eq_getElem hq2]
      · dsimp only
        rw [List.map_append]; rfl
      · dsimp only
        rw [mget_mput1]
        rw [List.length_append, List.length_singleton] at hi
        by_cases hlast : i = ((c.NotNull.take k).filter (isT l)).length
        · subst hlast
          rw [List.getElem_append_right (Nat.le_refl _)]
          simp
        · have hi2 : i < ((c.NotNull.take k).filter (isT l)).length := by omega
          rw [List.getElem_append_left hi2, if_neg]
          · exact h4 i hi2
          · intro e
            apply hta
            rw [← e]
            exact (List.mem_filter.1 (List.getElem_mem hi2)).1
    · refine Tm.neg g ?_
      rw [List.filter_cons_of_neg (by rw [eT]; simp [g]), List.filter_nil, List.append_nil]
      exact Tm.some ⟨hlt, iw_n (by omega), h1, h2, h3, h4⟩
  · rw [List.take_of_length_le hge] at h1 h2 h3 h4
    exact Tm.neg (by omega) (Tm.some ⟨h1, h2, h3, h4⟩)
theorem wTexts_b1_tm (h : AscOk c.NotNull l.length) (hr : RgOk l rg) (hl : l.length ≤ 10) : Tm (fun N => loopM (wTexts_b1 N c l rg) N (([] : List Int), ([] : List Int), ([] : List Int), 0)) (· = ((tvs l c).map (e0Of rg), ((tvs l c).map fun v => hiOf l rg v.toNat), tvs l c)) := by
  have hcl := h.len
  refine Tm.up c.NotNull.length (fun k s => s.2.2.2 = (k : Int) ∧ s.1 = ((c.NotNull.take k).filter (isT l)).map (e0Of rg) ∧ s.2.1 = (((c.NotNull.take k).filter (isT l)).map fun v => hiOf l rg v.toNat) ∧ s.2.2.1 = (c.NotNull.take k).filter (isT l)) ⟨rfl, rfl, rfl, rfl⟩ ?_
  rintro k hk ⟨a, b, vs, i⟩ ⟨hi, h1, h2, h3⟩
  dsimp only at hi h1 h2 h3; subst hi
  unfold wTexts_b1
  dsimp only
  rcases Nat.lt_or_ge k c.NotNull.length with hlt | hge
  · obtain ⟨q, eq, hq⟩ := var_n (h.bd _ (List.getElem_mem hlt))
    have hq2 : q < rg.length := by rw [hr.len]; exact hq
    have hfl : ((c.NotNull.take k).filter (isT l)).length ≤ k := by
      have := List.length_filter_le (isT l) (c.NotNull.take k)
      rw [List.length_take] at this; omega
    refine Tm.pos (by omega) (Tm.step (idx_n hlt) ?_)
    rw [eq]
    refine Tm.step (idx_n hq) ?_
    rw [List.take_succ_eq_append_getElem hlt, List.filter_append]
    rw [eq]
    have eT : isT l (q : Int) = decide (l[q].Ty = 2) := by unfold isT; rw [Int.toNat_natCast, List.getElem?_eq_getElem hq]
    by_cases g : l[q].Ty = 2
    · refine Tm.pos g ?_
      rw [List.filter_cons_of_pos (by rw [eT]; exact decide_eq_true g), List.filter_nil]
      rw [h1, h2, h3] at *
      rw [apnd_ok (by rw [List.length_singleton]; omega) (by decide)]
      simp only [Option.bind_some]
      refine Tm.step (idx_n hq2) ?_
      rw [apnd_ok (by rw [List.length_map, List.length_singleton]; omega) (by decide)]
      simp only [Option.bind_some]
      refine (whigh_tm hr hq).eq ?_
      rw [apnd_ok (by rw [List.length_map, List.length_singleton]; omega) (by decide)]
      refine Tm.some ⟨hlt, iw_n (by omega), ?_, ?_, rfl⟩
      · dsimp only
        rw [List.map_append]
        congr 1
        unfold e0Of
        simp [List.getElem?_eq_getElem hq2]
      · dsimp only
        rw [List.map_append]; rfl
    · refine Tm.neg g ?_
      rw [List.filter_cons_of_neg (by rw [eT]; simp [g]), List.filter_nil, List.append_nil]
      exact Tm.some ⟨hlt, iw_n (by omega), h1, h2, h3⟩
  · rw [List.take_of_length_le hge] at h1 h2 h3
    refine Tm.neg (by omega) (Tm.some ?_)
    rw [h1, h2, h3]; rfl
theorem wplace_tm {vs : List Int} (hn : vs.Nodup) (hl : vs.length ≤ 1000) {v : Int} (hv : v ∈ vs) : Tm (fun N => wplace N vs v) (· = pos vs v) := by
  obtain ⟨i, hi, rfl⟩ := List.getElem_of_mem hv
  unfold wplace
  refine (Tm.findL (b := fun N => wplace_b1 N vs vs[i]) vs (fun y => decide (y = vs[i])) (fun k => (k : Int)) (by omega) (fun k hk => ?_) ?_).bind fun o ho => ?_
  · unfold wplace_b1
    refine Tm.pos (by omega) (Tm.step (idx_n hk) ?_)
    by_cases e : vs[k] = vs[i]
    · rw [decide_eq_true e]; exact Tm.pos e (Tm.some rfl)
    · rw [decide_eq_false e]; exact Tm.neg e (Tm.some rfl)
  · unfold wplace_b1
    exact Tm.neg (by omega) (Tm.some rfl)
  · rcases ho with ⟨h1, rfl⟩ | ⟨k, hk, h1, _, rfl⟩
    · exfalso
      have := List.any_eq_false.1 h1 vs[i] (List.getElem_mem hi)
      simp at this
    · refine Tm.some ?_
      have e := of_decide_eq_true h1
      unfold pos
      rw [← e, List.Nodup.idxOf_getElem hn k hk]
theorem vTexts_tm (hv : ClOk c l) (hs : SmC c) (hr : RgOk l rg) (hl : l.length ≤ 10) : Tm (fun N => vTexts N l c rg) (· = (txtsOf l c rg, tvs l c)) := by
  have h1 := hs.ts; have h2 := hs.sm; have h3 := hs.df
  have hn := tvs_nodup hv.nn
  unfold vTexts
  refine (vTexts_b1_tm hv.nn hr hl).bind fun r hr' => ?_
  obtain ⟨a, b, vs, m⟩ := r
  obtain ⟨e1, e2, e3, hm⟩ := hr'
  dsimp only at e1 e2 e3 hm
  subst e1; subst e2; subst e3
  dsimp only
  refine Tm.bind (Q := fun r => r = c.Tests.map fun t => TTest.mk (pos (tvs l c) t.Var) t.Kind t.Negated t.Text) ?_ fun r hr1 => ?_
  · refine Tm.up c.Tests.length (fun k s => s.2 = (k : Int) ∧ s.1 = (c.Tests.take k).map fun t => TTest.mk (pos (tvs l c) t.Var) t.Kind t.Negated t.Text) ⟨rfl, rfl⟩ ?_
    rintro k hk ⟨s, i⟩ ⟨hi, hs⟩
    dsimp only at hi hs; subst hi; subst hs
    unfold vTexts_b2
    try dsimp only
    rcases Nat.lt_or_ge k c.Tests.length with hlt | hge
    · refine Tm.pos (by omega) (Tm.step (idx_n hlt) ?_)
      rw [apnd_ok (by rw [List.length_map, List.length_take, List.length_singleton]; omega) (by decide)]
      refine Tm.some ⟨hlt, iw_n (by omega), ?_⟩
      rw [List.take_succ_eq_append_getElem hlt, List.map_append, hm.pos hn (txt_mem (hv.ts _ (List.getElem_mem hlt)).2)]; rfl
    · refine Tm.neg (by omega) (Tm.some ?_)
      show List.map _ _ = _
      rw [List.take_of_length_le hge]
  · subst hr1
    try dsimp only
    refine Tm.bind (Q := fun r => r = c.Same.map fun e => Arr2Int.mk (pos (tvs l c) e.e0) (pos (tvs l c) e.e1)) ?_ fun r hr1 => ?_
    · refine Tm.up c.Same.length (fun k s => s.2 = (k : Int) ∧ s.1 = (c.Same.take k).map fun e => Arr2Int.mk (pos (tvs l c) e.e0) (pos (tvs l c) e.e1)) ⟨rfl, rfl⟩ ?_
      rintro k hk ⟨s, i⟩ ⟨hi, hs⟩
      dsimp only at hi hs; subst hi; subst hs
      unfold vTexts_b3
      try dsimp only
      rcases Nat.lt_or_ge k c.Same.length with hlt | hge
      · have hsm := hv.sm _ (List.getElem_mem hlt)
        refine Tm.pos (by omega) (Tm.step (idx_n hlt) ?_)
        rw [apnd_ok (by rw [List.length_map, List.length_take, List.length_singleton]; omega) (by decide)]
        refine Tm.some ⟨hlt, iw_n (by omega), ?_⟩
        rw [List.take_succ_eq_append_getElem hlt, List.map_append, hm.pos hn (txt_mem hsm.1), hm.pos hn (txt_mem hsm.2.1)]; rfl
      · refine Tm.neg (by omega) (Tm.some ?_)
        show List.map _ _ = _
        rw [List.take_of_length_le hge]
    · subst hr1
      try dsimp only
      refine Tm.bind (Q := fun r => r = c.Different.map fun e => Arr2Int.mk (pos (tvs l c) e.e0) (pos (tvs l c) e.e1)) ?_ fun r hr1 => ?_
      · refine Tm.up c.Different.length (fun k s => s.2 = (k : Int) ∧ s.1 = (c.Different.take k).map fun e => Arr2Int.mk (pos (tvs l c) e.e0) (pos (tvs l c) e.e1)) ⟨rfl, rfl⟩ ?_
        rintro k hk ⟨s, i⟩ ⟨hi, hs⟩
        dsimp only at hi hs; subst hi; subst hs
        unfold vTexts_b4
        dsimp only
        rcases Nat.lt_or_ge k c.Different.length with hlt | hge
        · have hsm := hv.df _ (List.getElem_mem hlt)
          refine Tm.pos (by omega) (Tm.step (idx_n hlt) ?_)
          rw [apnd_ok (by rw [List.length_map, List.length_take, List.length_singleton]; omega) (by decide)]
          refine Tm.some ⟨hlt, iw_n (by omega), ?_⟩
          rw [List.take_succ_eq_append_getElem hlt, List.map_append, hm.pos hn (txt_mem hsm.1), hm.pos hn (txt_mem hsm.2.1)]; rfl
        · refine Tm.neg (by omega) (Tm.some ?_)
          show List.map _ _ = _
          rw [List.take_of_length_le hge]
      · subst hr1
        exact Tm.some rfl
theorem wpairs_tm {p : List Arr2Int} {vs : List Int} (hn : vs.Nodup) (hl : vs.length ≤ 1000) (hp : p.length ≤ 1000) (hm : ∀ e ∈ p, e.e0 ∈ vs ∧ e.e1 ∈ vs) : Tm (fun N => wpairs N p vs) (· = p.map fun e => Arr2Int.mk (pos vs e.e0) (pos vs e.e1)) := by
  unfold wpairs
  refine Tm.bind (Q := fun r => r = p.map fun e => Arr2Int.mk (pos vs e.e0) (pos vs e.e1)) ?_ fun r hr => Tm.some hr
  refine Tm.up p.length (fun k s => s.2 = (k : Int) ∧ s.1 = (p.take k).map fun e => Arr2Int.mk (pos vs e.e0) (pos vs e.e1)) ⟨rfl, rfl⟩ ?_
  rintro k hk ⟨s, i⟩ ⟨hi, hs⟩
  dsimp only at hi hs; subst hi; subst hs
  unfold wpairs_b1
  dsimp only
  rcases Nat.lt_or_ge k p.length with hlt | hge
  · have hsm := hm _ (List.getElem_mem hlt)
    refine Tm.pos (by omega) (Tm.step (idx_n hlt) ((wplace_tm hn hl hsm.1).eq (Tm.step (idx_n hlt) ((wplace_tm hn hl hsm.2).eq ?_))))
    rw [apnd_ok (by rw [List.length_map, List.length_take, List.length_singleton]; omega) (by decide)]
    refine Tm.some ⟨hlt, iw_n (by omega), ?_⟩
    rw [List.take_succ_eq_append_getElem hlt, List.map_append]; rfl
  · refine Tm.neg (by omega) (Tm.some ?_)
    show List.map _ _ = _
    rw [List.take_of_length_le hge]
theorem wTexts_tm (hv : ClOk c l) (hs : SmC c) (hr : RgOk l rg) (hl : l.length ≤ 10) : Tm (fun N => wTexts N l c rg) (· = (txtsOf l c rg, tvs l c)) := by
  have h1 := hs.ts; have h2 := hs.sm; have h3 := hs.df
  have hn := tvs_nodup hv.nn
  have htl := tvs_len (l := l) (c := c)
  have hnl := hv.nn.len
  unfold wTexts
  refine (wTexts_b1_tm hv.nn hr hl).eq ?_
  dsimp only
  refine Tm.bind (Q := fun r => r = c.Tests.map fun t => TTest.mk (pos (tvs l c) t.Var) t.Kind t.Negated t.Text) ?_ fun r hr1 => ?_
  · refine Tm.up c.Tests.length (fun k s => s.2 = (k : Int) ∧ s.1 = (c.Tests.take k).map fun t => TTest.mk (pos (tvs l c) t.Var) t.Kind t.Negated t.Text) ⟨rfl, rfl⟩ ?_
    rintro k hk ⟨s, i⟩ ⟨hi, hs⟩
    dsimp only at hi hs; subst hi; subst hs
    unfold wTexts_b2
    try dsimp only
    rcases Nat.lt_or_ge k c.Tests.length with hlt | hge
    · refine Tm.pos (by omega) (Tm.step (idx_n hlt) ((wplace_tm hn (by omega) (txt_mem (hv.ts _ (List.getElem_mem hlt)).2)).eq ?_))
      rw [apnd_ok (by rw [List.length_map, List.length_take, List.length_singleton]; omega) (by decide)]
      refine Tm.some ⟨hlt, iw_n (by omega), ?_⟩
      rw [List.take_succ_eq_append_getElem hlt, List.map_append]; rfl
    · refine Tm.neg (by omega) (Tm.some ?_)
      show List.map _ _ = _
      rw [List.take_of_length_le hge]
  · subst hr1
    try dsimp only
    refine (wpairs_tm hn (by omega) (by omega) fun e he => ?_).eq ((wpairs_tm hn (by omega) (by omega) fun e he => ?_).eq (Tm.some rfl))
    · have := hv.sm e he
      exact ⟨txt_mem this.1, txt_mem this.2.1⟩
    · have := hv.df e he
      exact ⟨txt_mem this.1, txt_mem this.2.1⟩
end
end Go.D
set_option linter.unusedSimpArgs false
set_option linter.unusedVariables false
namespace Go.D
open Go Go.X
theorem lints_self {a : List Int} (h : a.length ≤ 1000) : Tm (fun N => lints N a a) (· = true) := by
  unfold lints
  refine Tm.neg (by simp) ?_
  refine (Tm.allL (b := fun N => lints_b1 N a a) a (fun _ => true) (by omega) (fun k hk => ?_) ?_).eq ?_
  · unfold lints_b1
    exact Tm.pos (by omega) (Tm.step (idx_n hk) (Tm.step (idx_n hk) (Tm.neg (by simp) (Tm.some rfl))))
  · unfold lints_b1
    exact Tm.neg (by omega) (Tm.some rfl)
  · rw [List.all_eq_true.2 fun _ _ => rfl]
    exact Tm.some rfl
theorem ltwos_self {a : List Arr2Int} (h : a.length ≤ 1000) : Tm (fun N => ltwos N a a) (· = true) := by
  unfold ltwos
  refine Tm.neg (by simp) ?_
  refine (Tm.allL (b := fun N => ltwos_b1 N a a) a (fun _ => true) (by omega) (fun k hk => ?_) ?_).eq ?_
  · unfold ltwos_b1
    exact Tm.pos (by omega) (Tm.step (idx_n hk) (Tm.step (idx_n hk) (Tm.neg (by simp) (Tm.some rfl))))
  · unfold ltwos_b1
    exact Tm.neg (by omega) (Tm.some rfl)
  · rw [List.all_eq_true.2 fun _ _ => rfl]
    exact Tm.some rfl
theorem lproblem_self {p : TProb} (h1 : p.Min.length ≤ 1000) (h2 : p.Max.length ≤ 1000) (h3 : p.Tests.length ≤ 1000) (h4 : p.Same.length ≤ 1000) (h5 : p.Different.length ≤ 1000) : Tm (fun N => lproblem N p p) (· = true) := by
  unfold lproblem
  refine Tm.bind (Q := fun b => b = false) ?_ fun b hb => ?_
  · refine (lints_self h1).eq (Tm.neg (by simp) ((lints_self h2).eq (Tm.neg (by simp) ((ltwos_self h4).eq (Tm.neg (by simp) ((ltwos_self h5).eq (Tm.neg (by simp) (Tm.some (by simp)))))))))
  · subst hb
    refine Tm.neg (by simp) ?_
    refine (Tm.allL (b := fun N => lproblem_b1 N p p) p.Tests (fun _ => true) (by omega) (fun k hk => ?_) ?_).eq ?_
    · unfold lproblem_b1
      exact Tm.pos (by omega) (Tm.step (idx_n hk) (Tm.step (idx_n hk) (Tm.neg (by simp) (Tm.some rfl))))
    · unfold lproblem_b1
      exact Tm.neg (by omega) (Tm.some rfl)
    · rw [List.all_eq_true.2 fun _ _ => rfl]
      exact Tm.some rfl
end Go.D
set_option linter.unusedSimpArgs false
set_option linter.unusedVariables false
namespace Go.D
open Go Go.X
theorem I64_iw (n : Int) : I64 (iw n) := by
  unfold I64 X.iw; simp [IntKind.wrap, IntKind.signed, IntKind.bits]; omega
structure CGood (k : Constraint) (n : Nat) (V : List Int) : Prop where
  right : RightP k (n : Int)
  ok : OkC k
  val : k.Linear.Const + lin k.Linear.Coefs V ≤ 0
  eq : k.Equal = true → k.Linear.Const + lin k.Linear.Coefs V = 0
theorem CGood.one {q n : Nat} {N C : Int} {V : List Int} (hq : q < n) (hn : n ≤ 512) (hN : I64 N) (hC : I64 C) (hv : C + N * V.getD q 0 ≤ 0) : CGood ⟨⟨C, [⟨(q : Int), N⟩]⟩, false⟩ n V := by
  refine ⟨⟨fun i h => ?_, by omega, by omega⟩, ⟨?_, hC, fun k hk => ?_⟩, ?_, fun h => by cases h⟩
  · have h : i < 1 := h
    have : i = 0 := by omega
    subst this
    exact ⟨by show (0 : Int) ≤ (q : Int); omega, by show (q : Int) < (n : Int); omega, fun h => by omega⟩
  · show 1 ≤ 9223372036854775807; omega
  · rw [List.mem_singleton.1 hk]; exact hN
  · show C + lin [⟨(q : Int), N⟩] V ≤ 0
    unfold lin; simpa using hv
theorem bnds_good {q n : Nat} {a b y : Int} {V : List Int} (hq : q < n) (hn : n ≤ 512) (hy : V.getD q 0 = y) (h1 : a ≤ y) (h2 : y ≤ b) (ha : -4294967296 ≤ a ∧ a ≤ 4294967296) (hb : -4294967296 ≤ b ∧ b ≤ 4294967296) : ∀ k ∈ bnds (q : Int) a b, CGood k n V := by
  intro k hk
  unfold bnds at hk
  rcases List.mem_cons.1 hk with rfl | hk
  · exact .one hq hn (by unfold I64; omega) (by unfold I64; omega) (by rw [hy]; omega)
  · rw [List.mem_singleton.1 hk, iw_eq (by omega) (by omega)]
    exact .one hq hn (by unfold I64; omega) (by unfold I64; omega) (by rw [hy]; omega)
variable {R : List RVal} {l : List RVar} {bs aux : List Int} {c : RClause} {f : Linear} {rg : List Arr2Int}
theorem asc_right {k : Constraint} {n : Nat} (hn : n ≤ 512) (h1 : ∀ x ∈ k.Linear.Coefs, 0 ≤ x.Var ∧ x.Var < (n : Int)) (h2 : ∀ i j (hi : i < k.Linear.Coefs.length) (hj : j < k.Linear.Coefs.length), i < j → k.Linear.Coefs[i].Var < k.Linear.Coefs[j].Var) : RightP k (n : Int) :=
  ⟨fun i h => ⟨(h1 _ (List.getElem_mem h)).1, (h1 _ (List.getElem_mem h)).2, fun h0 => h2 (i - 1) i (by omega) h (by omega)⟩, by omega, by omega⟩
theorem lin_map {cs : List Coef} {V : List Int} (h : ∀ x ∈ cs, -1048576 ≤ x.N ∧ x.N ≤ 1048576) : lin (cs.map fun x => Coef.mk x.Var (iw (0 - x.N))) V = - lin cs V := by
  induction cs with
  | nil => rfl
  | cons x cs ih =>
    have hx := h x List.mem_cons_self
    have e := ih fun y hy => h y (List.mem_cons_of_mem _ hy)
    unfold lin at e ⊢
    rw [List.map_cons, List.map_cons, List.map_cons, List.sum_cons, List.sum_cons, e, iw_eq (by omega) (by omega)]
    rw [show (0 - x.N) * V.getD x.Var.toNat 0 = -(x.N * V.getD x.Var.toNat 0) by rw [Int.zero_sub, Int.neg_mul]]
    omega
theorem lin_take {cs : List Coef} {R : List RVal} {aux : List Int} {i : Nat} (h : ∀ x ∈ cs, 0 ≤ x.Var ∧ x.Var < ((R.length + i : Nat) : Int)) : lin cs (vsOf R (aux.take i)) = lin cs (vsOf R aux) := by
  unfold lin
  congr 1
  refine List.map_congr_left fun x hx => ?_
  obtain ⟨k, e, hk⟩ := var_n (n := R.length + i) (h x hx)
  rw [e, Int.toNat_natCast]
  rcases Nat.lt_or_ge k R.length with g | g
  · rw [vs_row g, vs_row g]
  · rw [vs_aux g, vs_aux g, List.getD_eq_getElem?_getD, List.getElem?_take, if_pos (by omega), ← List.getD_eq_getElem?_getD]
theorem quo_good {q n : Nat} {b : Int} {r : Int} {V : List Int} {bs' : List Int} (hq : q < n) (hn : n ≤ 512) (hf : FrmOk f q) (hx : FrmX f c l bs' r) (hb : 1 ≤ b ∧ b ≤ 1000) (hy : V.getD q 0 = (f.Const + lin f.Coefs V) / b) : ∀ k ∈ quo (q : Int) f b, CGood k n V := by
  have hfl := hf.len
  have hc := hf.cst
  have hvar : ∀ x ∈ f.Coefs, 0 ≤ x.Var ∧ x.Var < (q : Int) := fun x h => (hf.cf x h).1
  have hN : ∀ x ∈ f.Coefs, -1048576 ≤ x.N ∧ x.N ≤ 1048576 := fun x h => (hf.cf x h).2.2
  have h1 := Int.emod_add_mul_ediv (f.Const + lin f.Coefs V) b
  have h2 := Int.emod_nonneg (f.Const + lin f.Coefs V) (show b ≠ 0 by omega)
  have h3 := Int.emod_lt_of_pos (f.Const + lin f.Coefs V) (show 0 < b by omega)
  have asc : ∀ (g : Coef → Coef) (y : Coef), (∀ x, (g x).Var = x.Var) → y.Var = (q : Int) → ∀ i j (hi : i < (f.Coefs.map g ++ [y]).length) (hj : j < (f.Coefs.map g ++ [y]).length), i < j → (f.Coefs.map g ++ [y])[i].Var < (f.Coefs.map g ++ [y])[j].Var := by
    intro g y hg hy i j hi hj hij
    simp only [List.length_append, List.length_map, List.length_singleton] at hi hj
    have hi' : i < f.Coefs.length := by omega
    rw [List.getElem_append_left (by simpa using hi'), List.getElem_map, hg]
    rcases Nat.lt_or_ge j f.Coefs.length with h | h
    · rw [List.getElem_append_left (by simpa using h), List.getElem_map, hg]
      exact hx.asc i j hi' h hij
    · rw [List.getElem_append_right (by simpa using h)]
      simp only [List.length_map, List.getElem_singleton]
      rw [hy]
      exact (hvar _ (List.getElem_mem hi')).2
  have inr : ∀ (g : Coef → Coef) (y : Coef), (∀ x, (g x).Var = x.Var) → y.Var = (q : Int) → ∀ x ∈ f.Coefs.map g ++ [y], 0 ≤ x.Var ∧ x.Var < (n : Int) := by
    intro g y hg hy x hx
    rcases List.mem_append.1 hx with h | h
    · obtain ⟨z, hz, rfl⟩ := List.mem_map.1 h
      rw [hg]; have := hvar z hz; omega
    · rw [List.mem_singleton.1 h, hy]; omega
  intro k hk
  unfold quo at hk
  rcases List.mem_cons.1 hk with rfl | hk
  · refine ⟨asc_right hn (inr _ _ (fun _ => rfl) rfl) (asc _ _ (fun _ => rfl) rfl), ⟨by show (List.length (_ ++ _)) ≤ _; rw [List.length_append, List.length_map, List.length_singleton]; omega, I64_iw _, fun y hy' => ?_⟩, ?_, fun h => by cases h⟩
    · rcases List.mem_append.1 hy' with h | h
      · obtain ⟨z, hz, rfl⟩ := List.mem_map.1 h
        exact I64_iw _
      · rw [List.mem_singleton.1 h]; show I64 b; unfold I64; omega
    · show iw (0 - f.Const) + lin ((f.Coefs.map fun x => Coef.mk x.Var (iw (0 - x.N))) ++ [Coef.mk (q : Int) b]) V ≤ 0
      rw [lin_snoc, lin_map hN, iw_eq (by omega) (by omega)]
      dsimp only
      rw [Int.toNat_natCast, hy]
      omega
  · rw [List.mem_singleton.1 hk]
    have em : f.Coefs = f.Coefs.map id := by simp
    refine ⟨asc_right hn (by rw [em]; exact inr id _ (fun _ => rfl) rfl) (by have := asc id ⟨(q : Int), iw (0 - b)⟩ (fun _ => rfl) rfl; simpa using this), ⟨by show (List.length (_ ++ _)) ≤ _; rw [List.length_append, List.length_singleton]; omega, I64_iw _, fun y hy' => ?_⟩, ?_, fun h => by cases h⟩
    · rcases List.mem_append.1 hy' with h | h
      · have := hN y h; unfold I64; omega
      · rw [List.mem_singleton.1 h]; exact I64_iw _
    · show iw (f.Const - iw (b - 1)) + lin (f.Coefs ++ [Coef.mk (q : Int) (iw (0 - b))]) V ≤ 0
      rw [lin_snoc, iw_eq (z := b - 1) (by omega) (by omega), iw_eq (z := f.Const - (b - 1)) (by omega) (by omega), iw_eq (z := 0 - b) (by omega) (by omega), Int.toNat_natCast, hy]
      rw [show (0 - b) * ((f.Const + lin f.Coefs V) / b) = -(b * ((f.Const + lin f.Coefs V) / b)) by rw [Int.zero_sub, Int.neg_mul]]
      omega
def LensOk (R : List RVal) (rg : List Arr2Int) : Prop := ∀ i (h : i < R.length) (h' : i < rg.length), R[i].Kind = 2 → rg[i].e0 ≤ (R[i].Text.length : Int) ∧ (R[i].Text.length : Int) ≤ rg[i].e1
theorem txt_val (hR : RowOk R l) {a : List Int × Bool} (hh : HoldOk c R a) {v : Int} (h : TxtOk c l v) : ∃ k : Nat, ∃ hk : k < R.length, ∃ hl : k < l.length, v = (k : Int) ∧ R[k].Kind = 2 ∧ l[k].Ty = 2 ∧ R[k].Text.all prn = true ∧ R[k].Text.length ≤ 16 ∧ (R[k].Text.length : Int) ≤ l[k].Max := by
  obtain ⟨k, rfl, ⟨x, hx, hty⟩, hm⟩ := h
  have hrl := hR.len
  obtain ⟨hk, ex⟩ := List.getElem?_eq_some_iff.1 hx
  have hk' : k < R.length := by omega
  have h0 := hh.nn _ hm R[k] (by rw [Int.toNat_natCast]; exact List.getElem?_eq_getElem hk')
  rcases hR.at' k hk' hk with ⟨g, _⟩ | ⟨_, _, g, _⟩ | ⟨g0, _, g1, g2, g3, g4⟩
  · exact absurd g h0
  · rw [ex] at g; omega
  · exact ⟨k, hk', hk, rfl, g0, g1, g2, g3, g4⟩
theorem intsOf_good {a : List Int × Bool} (hR : RowOk R l) (hd : DmOk l) (hv : ClOk c l) (hs : SmC c) (hr : RgOk l rg) (hb : BdsOk c l bs) (hx : ∀ k ∈ c.Ints, ∃ r, FrmX k.Linear c l bs r) (hh : HoldOk c R a) (ha : AxV c R l bs a.1) (hl : LensOk R rg) :
    ∀ k ∈ intsOf l c rg, CGood k (l.length + c.Auxiliary.length) (vsOf R a.1) := by
  have hll := hd.len
  have hsx := hs.ax
  have hrl := hR.len
  have hrg := hr.len
  intro k hk
  unfold intsOf at hk
  rcases List.mem_append.1 hk with hk | hk
  · rcases List.mem_append.1 hk with hk | hk
    · obtain ⟨v, hvm, hk⟩ := List.mem_flatMap.1 hk
      obtain ⟨q, rfl, hq⟩ := var_n (n := l.length) (hv.nn.bd v hvm)
      unfold nnOf at hk
      rw [Int.toNat_natCast, List.getElem?_eq_getElem hq] at hk
      dsimp only at hk
      split at hk
      · rename_i hty
        have hqR : q < R.length := by omega
        have h0 := hh.nn _ hvm R[q] (by rw [Int.toNat_natCast]; exact List.getElem?_eq_getElem hqR)
        rcases hd.ty _ (List.getElem_mem hq) with ⟨_, hlo, hhi⟩ | ⟨g, _⟩
        · rcases hR.at' q hqR hq with ⟨g, _⟩ | ⟨_, _, _, g1, g2⟩ | ⟨_, _, g, _⟩
          · exact absurd g h0
          · exact bnds_good (by omega) (by omega) (vs_row hqR) g1 g2 (by omega) (by omega) k hk
          · omega
        · omega
      · cases hk
    · obtain ⟨i, hi, hk⟩ := List.mem_flatMap.1 hk
      have hi := List.mem_range.1 hi
      rw [axAt_at hi] at hk
      have hval := ha.at' i hi
      have hvq : (vsOf R a.1).getD (l.length + i) 0 = a.1.getD i 0 := by rw [vs_aux (by omega), show l.length + i - R.length = i by omega]
      unfold axOf at hk
      split at hk
      · rename_i hby
        rcases hval with ⟨_, x, hx1, hx2, hx3⟩ | ⟨g, _⟩
        · rcases hv.ax i hi with ⟨_, _, _, ht⟩ | ⟨g, _⟩
          · obtain ⟨q, hq, hql, eq, _, _, _, g3, g4⟩ := txt_val hR hh ht
            have hqg : q < rg.length := by omega
            rw [eq, Int.toNat_natCast, List.getElem?_eq_getElem hq] at hx1
            cases hx1
            have hlens := hl q hq hqg hx2
            have hbd := hr.bd _ (List.getElem_mem hqg)
            rw [eq, Int.toNat_natCast] at hk
            have hhi : hiOf l rg q = imin rg[q].e1 l[q].Max := by unfold hiOf; rw [List.getElem?_eq_getElem hql, List.getElem?_eq_getElem hqg]
            rw [List.getElem?_eq_getElem hqg, hhi] at hk
            refine bnds_good (q := l.length + i) (by omega) (by omega) (hvq.trans hx3) hlens.1 ?_ (by omega) ?_ k hk
            · unfold imin; split <;> omega
            · have := hd.ty _ (List.getElem_mem hql)
              unfold imin; split <;> omega
          · exact absurd hby g
        · exact absurd hby g
      · rename_i hby
        rcases hval with ⟨g, _⟩ | ⟨_, he⟩
        · exact absurd g hby
        rcases hv.ax i hi with ⟨g, _⟩ | ⟨_, hbb, _, hf⟩
        · exact absurd g hby
        rcases hb.at' i hi with ⟨g, _⟩ | ⟨_, r, _, hxr, _⟩
        · exact absurd g hby
        refine quo_good (q := l.length + i) (by omega) (by omega) hf hxr hbb ?_ k hk
        rw [hvq, he, lin_take (R := R) (by rw [hrl]; exact fun x hx => (hf.cf x hx).1)]
  · obtain ⟨r, hxr⟩ := hx k hk
    have hf := hv.it k hk
    have hc := hf.cst
    have := hh.it k hk
    refine ⟨asc_right (by omega) (fun x hx => (hf.cf x hx).1) hxr.asc, ⟨by have := hf.len; omega, by unfold I64; omega, fun y hy => ?_⟩, this.1, this.2⟩
    have := (hf.cf y hy).2.2
    unfold I64; omega
theorem wsum_lin {k : Constraint} {V : List Int} : ∀ {j : Nat}, j ≤ k.Linear.Coefs.length → wsum k V j = lin (k.Linear.Coefs.take j) V
  | 0, _ => rfl
  | j + 1, h => by rw [wsum, wsum_lin (by omega), List.take_succ_eq_append_getElem (by omega), lin_snoc, getDc (by omega)]
theorem ofp_good {k : Constraint} {V : List Int} {r : List Ineq} {values : List Big} (h : CGood k V.length V) (hp : OfP k (V.length : Int) r) (hv : IsL values V) : ∀ q ∈ r, holdsV q values = true := by
  have hw := dot_vals h.right (Nat.le_refl _)
  rw [wsum_lin (Nat.le_refl _), List.take_length] at hw
  have hlen : (vals k (V.length : Int) k.Linear.Coefs.length).length = V.length := by rw [vals_len, Int.toNat_natCast]
  have h1 := h.val
  intro q hq
  rcases hp with ⟨g, _⟩ | ⟨_, q1, hq1, g⟩
  · exact absurd h.right g
  · have e1 : holdsV q1 values = true := by
      rw [holds_is hq1 hlen hv, hw]
      exact decide_eq_true (by omega)
    rcases g with ⟨_, rfl⟩ | ⟨ge, q2, hq2, rfl⟩
    · rw [List.mem_singleton.1 hq]; exact e1
    · have h2 := h.eq ge
      rcases List.mem_cons.1 hq with rfl | hq
      · exact e1
      · rw [List.mem_singleton.1 hq, holds_is hq2 (by rw [List.length_map]; exact hlen) hv, dotI_neg, hw]
        exact decide_eq_true (by omega)
theorem sys_good {V : List Int} {values : List Big} (hv : IsL values V) : ∀ {ks : List Constraint} {r : List Ineq}, (∀ k ∈ ks, CGood k V.length V) → SysL (V.length : Int) ks r → ∀ q ∈ r, holdsV q values = true
  | [], _, _, h => by rw [show _ = [] from h]; intro q hq; cases hq
  | k :: ks, _, hk, ⟨a, b, h1, h2, h3⟩ => by
    subst h3
    intro q hq
    rcases List.mem_append.1 hq with h | h
    · exact ofp_good (hk k List.mem_cons_self) h1 hv q h
    · exact sys_good hv (fun k h => hk k (List.mem_cons_of_mem _ h)) h2 q h
theorem rAllT_tm {K : Nat} {r : List Ineq} {x : List Big} (hK : K ≤ 1073741824) (hl : r.length ≤ 9223372036854775806) (hq : ∀ q ∈ r, OkI K q) (hx : ∀ b ∈ x, OkB K b) (hxl : x.length ≤ 9223372036854775807) (hh : ∀ q ∈ r, holdsV q x = true) : Tm (fun N => rAll N r x) (· = true) := by
  unfold rAll
  refine (Tm.allL (b := fun N => rAll_b1 N r x) r (fun q => holdsV q x) (by omega) (fun k hk => ?_) ?_).eq ?_
  · unfold rAll_b1
    refine Tm.pos (by omega) (Tm.step (idx_n hk) ((rHolds_tm hK (hq _ (List.getElem_mem hk)) hx hxl).eq ?_))
    rw [hh _ (List.getElem_mem hk)]
    exact Tm.neg (by simp) (Tm.some rfl)
  · unfold rAll_b1
    exact Tm.neg (by omega) (Tm.some rfl)
  · rw [show r.all (fun q => holdsV q x) = true from List.all_eq_true.2 hh]
    exact Tm.some rfl
end Go.D
set_option linter.unusedSimpArgs false
set_option linter.unusedVariables false
namespace Go.D
open Go Go.X
variable {R : List RVal} {l : List RVar} {c : RClause} {rg : List Arr2Int}
theorem pos_at {vs : List Int} {v : Int} (hn : vs.Nodup) (hv : v ∈ vs) : ∃ i : Nat, ∃ hi : i < vs.length, vs[i] = v ∧ pos vs v = (i : Int) := by
  obtain ⟨i, hi, rfl⟩ := List.getElem_of_mem hv
  exact ⟨i, hi, rfl, by unfold pos; rw [List.Nodup.idxOf_getElem hn i hi]⟩
theorem tvs_at (hv : ClOk c l) {v : Int} (h : v ∈ tvs l c) : ∃ k : Nat, ∃ hk : k < l.length, v = (k : Int) ∧ l[k].Ty = 2 ∧ TxtOk c l v := by
  obtain ⟨h1, h2⟩ := List.mem_filter.1 h
  obtain ⟨k, rfl, hk⟩ := var_n (n := l.length) (hv.nn.bd v h1)
  unfold isT at h2
  rw [Int.toNat_natCast, List.getElem?_eq_getElem hk] at h2
  have h2 := of_decide_eq_true h2
  exact ⟨k, hk, rfl, h2, k, rfl, ⟨_, List.getElem?_eq_getElem hk, h2⟩, h1⟩
theorem hiOf_at (hr : RgOk l rg) {k : Nat} (hk : k < l.length) : hiOf l rg k = imin (rg[k]'(by rw [hr.len]; exact hk)).e1 l[k].Max := by
  unfold hiOf; rw [List.getElem?_eq_getElem hk, List.getElem?_eq_getElem (by rw [hr.len]; exact hk)]
theorem e0Of_at (hr : RgOk l rg) {k : Nat} (hk : k < l.length) : e0Of rg (k : Int) = (rg[k]'(by rw [hr.len]; exact hk)).e0 := by
  unfold e0Of; rw [Int.toNat_natCast, List.getElem?_eq_getElem (by rw [hr.len]; exact hk)]
theorem txts_okP (hd : DmOk l) (hv : ClOk c l) (hr : RgOk l rg) : OkP (txtsOf l c rg) := by
  have hn := tvs_nodup hv.nn
  have hl := hd.len
  have h1 := tvs_len (l := l) (c := c)
  have h2 := hv.nn.len
  have two : ∀ {v : Int}, TxtOk c l v → 0 ≤ pos (tvs l c) v ∧ pos (tvs l c) v < (((tvs l c).map (e0Of rg)).length : Int) := fun h => by
    obtain ⟨i, hi, _, e⟩ := pos_at hn (txt_mem h)
    rw [e, List.length_map]; omega
  refine ⟨?_, ?_, fun k hk => ?_, fun k hk => ?_, fun t ht => ?_, fun e he => ?_, fun e he => ?_⟩
  · show (List.map _ _).length = (List.map _ _).length
    rw [List.length_map, List.length_map]
  · show (List.map _ _).length ≤ _
    rw [List.length_map]; omega
  · obtain ⟨v, hvm, rfl⟩ := List.mem_map.1 hk
    obtain ⟨q, hq, rfl, _⟩ := tvs_at hv hvm
    rw [e0Of_at hr hq]
    exact (hr.bd _ (List.getElem_mem _)).1
  · obtain ⟨v, hvm, rfl⟩ := List.mem_map.1 hk
    obtain ⟨q, hq, rfl, hty, _⟩ := tvs_at hv hvm
    rw [Int.toNat_natCast, hiOf_at hr hq]
    have g1 := (hr.bd _ (List.getElem_mem (show q < rg.length by rw [hr.len]; exact hq))).2
    rcases hd.ty _ (List.getElem_mem hq) with ⟨g, _⟩ | ⟨_, g2, g3⟩
    · omega
    · unfold imin; split <;> omega
  · obtain ⟨t0, ht0, rfl⟩ := List.mem_map.1 ht
    obtain ⟨h3, h4⟩ := hv.ts t0 ht0
    exact ⟨h3, (two h4).1, (two h4).2⟩
  · obtain ⟨e0, he0, rfl⟩ := List.mem_map.1 he
    obtain ⟨h3, h4, _⟩ := hv.sm e0 he0
    exact ⟨two h3, two h4⟩
  · obtain ⟨e0, he0, rfl⟩ := List.mem_map.1 he
    obtain ⟨h3, h4, _⟩ := hv.df e0 he0
    exact ⟨two h3, two h4⟩
theorem txts_lim (hd : DmOk l) (hv : ClOk c l) (hs : SmC c) : Lim (txtsOf l c rg) := by
  have hb : Bg = 9223372036854775807 := rfl
  have hl := hd.len
  have h1 := tvs_len (l := l) (c := c)
  have h2 := hv.nn.len
  have h3 := hs.ts; have h4 := hs.sm; have h5 := hs.df
  refine ⟨?_, ?_, ?_, ?_, ?_, fun t ht => ?_⟩
  · show (List.map _ _).length ≤ _; rw [List.length_map]; omega
  · show (List.map _ _).length ≤ _; rw [List.length_map]; omega
  · show (List.map _ _).length ≤ _; rw [List.length_map]; omega
  · show (List.map _ _).length ≤ _; rw [List.length_map]; omega
  · show (List.map _ _).length ≤ _; rw [List.length_map]; omega
  · obtain ⟨t0, ht0, rfl⟩ := List.mem_map.1 ht
    have := (okT_len (hv.ts t0 ht0).1).2.2
    show t0.Text.length ≤ _; omega
def textAt (R : List RVal) (v : Int) : List UInt8 := match R[v.toNat]? with
  | some x => x.Text
  | none => []
theorem textAt_n {k : Nat} (h : k < R.length) : textAt R (k : Int) = R[k].Text := by
  unfold textAt; rw [Int.toNat_natCast, List.getElem?_eq_getElem h]
theorem textAt_s {v : Int} {x : RVal} (h : R[v.toNat]? = some x) : textAt R v = x.Text := by unfold textAt; rw [h]
theorem texts_pos {vs : List Int} {v : Int} (hn : vs.Nodup) (hv : v ∈ vs) : (vs.map (textAt R)).getD (pos vs v).toNat [] = textAt R v := by
  obtain ⟨i, hi, e1, e2⟩ := pos_at hn hv
  rw [e2, Int.toNat_natCast, getD_n (by simpa using hi)]
  simp [e1]
theorem texts_sat {a : List Int × Bool} (hR : RowOk R l) (hd : DmOk l) (hv : ClOk c l) (hr : RgOk l rg) (hh : HoldOk c R a) (hlen : LensOk R rg) : sat (txtsOf l c rg) ((tvs l c).map (textAt R)) = true := by
  have hn := tvs_nodup hv.nn
  have hrl := hR.len
  have hrg := hr.len
  have q1 : decide (((tvs l c).map (textAt R)).length = (txtsOf l c rg).Min.length) = true := decide_eq_true (by
    show (List.map _ _).length = (List.map _ _).length
    rw [List.length_map, List.length_map])
  have q2 : (List.range ((tvs l c).map (textAt R)).length).all (gL (txtsOf l c rg) ((tvs l c).map (textAt R))) = true := by
    refine List.all_eq_true.2 fun i hi => ?_
    have hi := List.mem_range.1 hi
    rw [List.length_map] at hi
    obtain ⟨q, hq, eq, hty, ht⟩ := tvs_at hv (List.getElem_mem hi)
    obtain ⟨q', hk, hl, eq', k1, k2, k3, k4, k5⟩ := txt_val hR hh ht
    have e : q' = q := by omega
    subst e
    have e1 : (txtsOf l c rg).Min.getD i 0 = (rg[q']'(by omega)).e0 := by
      show ((tvs l c).map (e0Of rg)).getD i 0 = _
      rw [getD_n (by simpa using hi), List.getElem_map, eq, e0Of_at hr hq]
    have e2 : (txtsOf l c rg).Max.getD i 0 = imin (rg[q']'(by omega)).e1 l[q'].Max := by
      show ((tvs l c).map fun v => hiOf l rg v.toNat).getD i 0 = _
      rw [getD_n (by simpa using hi), List.getElem_map, eq, Int.toNat_natCast, hiOf_at hr hq]
    have e3 : ((tvs l c).map (textAt R)).getD i [] = R[q'].Text := by
      rw [getD_n (by simpa using hi), List.getElem_map, eq, textAt_n hk]
    unfold gL
    rw [e1, e2, e3, k3, Bool.and_true]
    have := hlen q' hk (by omega) k1
    refine decide_eq_true ⟨this.1, ?_⟩
    unfold imin; split <;> omega
  have q3 : (txtsOf l c rg).Tests.all (gT ((tvs l c).map (textAt R))) = true := by
    refine List.all_eq_true.2 fun t ht => ?_
    obtain ⟨t0, ht0, rfl⟩ := List.mem_map.1 (show t ∈ c.Tests.map _ from ht)
    obtain ⟨h3, h4⟩ := hv.ts t0 ht0
    obtain ⟨x, hx1, hx2⟩ := hh.ts t0 ht0
    unfold gT
    dsimp only
    rw [texts_pos hn (txt_mem h4), textAt_s hx1, pas_mean (t := TTest.mk (pos (tvs l c) t0.Var) t0.Kind t0.Negated t0.Text) h3]
    exact hx2
  have q4 : (txtsOf l c rg).Same.all (gS ((tvs l c).map (textAt R))) = true := by
    refine List.all_eq_true.2 fun e he => ?_
    obtain ⟨e0, he0, rfl⟩ := List.mem_map.1 (show e ∈ c.Same.map _ from he)
    obtain ⟨h3, h4, _⟩ := hv.sm e0 he0
    obtain ⟨x, y, hx, hy, hxy⟩ := hh.sm e0 he0
    unfold gS
    dsimp only
    rw [texts_pos hn (txt_mem h3), texts_pos hn (txt_mem h4), textAt_s hx, textAt_s hy]
    exact decide_eq_true hxy
  have q5 : (txtsOf l c rg).Different.all (gD ((tvs l c).map (textAt R))) = true := by
    refine List.all_eq_true.2 fun e he => ?_
    obtain ⟨e0, he0, rfl⟩ := List.mem_map.1 (show e ∈ c.Different.map _ from he)
    obtain ⟨h3, h4, _⟩ := hv.df e0 he0
    obtain ⟨x, y, hx, hy, hxy⟩ := hh.df e0 he0
    unfold gD gS
    dsimp only
    rw [texts_pos hn (txt_mem h3), texts_pos hn (txt_mem h4), textAt_s hx, textAt_s hy, decide_eq_false hxy]
    rfl
  unfold sat
  rw [q1, q2, q3, q4, q5]; rfl
end Go.D
set_option linter.unusedSimpArgs false
set_option linter.unusedVariables false
namespace Go.D
open Go Go.X
theorem lbig_tm {n : Int} (h : I64 n) : Tm (fun N => lbig N n) (fun r => Is r n ∧ r.Digits.length ≤ 2) := by
  unfold lbig
  exact Tm.bind (rOf_tm h.1 h.2) fun r hr => Tm.some hr
theorem bs_le {c : RClause} {l : List RVar} {bs : List Int} (h : BdsOk c l bs) (hv : ClOk c l) {k : Nat} (hk : k < c.Auxiliary.length) : bs.getD k 0 ≤ 1152921504606846978 := by
  rcases h.at' k hk with ⟨_, e⟩ | ⟨g, r, r0, hx, e⟩
  · rw [e]; decide
  · rw [e]
    have := hx.le
    have := Int.ediv_le_self (a := r) c.Auxiliary[k].By r0
    omega
theorem lawComplete_tm {x : RCase} (h : LimX x) (hRl : x.R.length ≤ Bg) (hRt : ∀ v ∈ x.R, v.Text.length ≤ Bg) : Tm (fun N => lawComplete N x) (· = true) := by
  have hb : Bg = 9223372036854775807 := rfl
  unfold lawComplete
  refine Tm.bind (Q := fun b => b = false → Rgt x ∧ RowOk x.R x.L ∧ ∃ bs a, BdsOk x.C x.L bs ∧ (∀ k ∈ x.C.Ints, ∃ r, FrmX k.Linear x.C x.L bs r) ∧ (∀ v ∈ x.R, v.Int.natAbs ≤ 2147483648) ∧ Tm (fun N => sAuxiliary N x.C x.R) (· = a) ∧ AxV x.C x.R x.L bs a.1 ∧ HoldOk x.C x.R a) ?_ fun b hb' => ?_
  · refine awake_tm.bind fun r hr => ?_
    subst hr
    refine Tm.neg (by simp) ((lright_tm h).bind fun r hr => ?_)
    cases r with
    | false => exact Tm.pos rfl (Tm.some fun e => by cases e)
    | true =>
      have hx := hr rfl
      refine Tm.neg (by simp) ((u16Inside_tm hRl hRt).bind fun r2 hr2 => ?_)
      cases r2 with
      | false => exact Tm.pos rfl (Tm.some fun e => by cases e)
      | true =>
        have hR := hr2 rfl
        have hrow : ∀ v ∈ x.R, v.Int.natAbs ≤ 2147483648 := fun v hv => by
          obtain ⟨i, hi, rfl⟩ := List.getElem_of_mem hv
          have hi' : i < x.L.length := by rw [← hR.len]; exact hi
          rcases hR.at' i hi hi' with ⟨_, g, _⟩ | ⟨_, _, g0, g1, g2⟩ | ⟨_, g, _⟩
          · omega
          · rcases hx.d.ty _ (List.getElem_mem hi') with ⟨_, q1, q2⟩ | ⟨q, _⟩
            · omega
            · omega
          · omega
        obtain ⟨bs, hbo, hix⟩ := hx.v.bx
        obtain ⟨a, ha, hT⟩ := Tm.fix (sAuxiliary_tm hR hx.v hx.s hx.d.len hrow hbo)
        refine Tm.neg (by simp) ((sHolds_tm hR hx.v hx.s hx.d.len hrow hbo hix hT ha).bind fun r3 hr3 => Tm.some fun e => ?_)
        have hH := hr3 (by simpa using e)
        exact ⟨hx, hR, bs, a, hbo, hix, hrow, hT, ha hH.ax, hH⟩
  · cases b with
    | true => exact Tm.pos rfl (awake_end rfl)
    | false =>
      obtain ⟨hx, hR, bs, a, hbo, hix, hrow, hT, hax, hH⟩ := hb' rfl
      have hl := hx.d.len
      have hrl := hR.len
      have hrg := hx.r.len
      have hsx := hx.s.ax
      have hal := hax.len
      refine Tm.neg (by simp) ?_
      refine Tm.bind (Q := fun o => match o with | .inl v => (IsL v (x.R.map RVal.Int) ∧ ∀ b ∈ v, OkB 2 b) ∧ LensOk x.R x.Ranges | .inr z => z = true) ?_ fun o ho => ?_
      · refine Tm.up x.R.length (fun k s => s.2 = (k : Int) ∧ (IsL s.1 ((x.R.take k).map RVal.Int) ∧ ∀ b ∈ s.1, OkB 2 b) ∧ ∀ i (h : i < x.R.length) (h' : i < x.Ranges.length), i < k → x.R[i].Kind = 2 → x.Ranges[i].e0 ≤ (x.R[i].Text.length : Int) ∧ (x.R[i].Text.length : Int) ≤ x.Ranges[i].e1) ⟨rfl, ⟨IsL.nil, fun b hb => by cases hb⟩, fun i _ _ hi => by omega⟩ ?_
        rintro k hk ⟨s, i⟩ ⟨hi, ⟨hs, hsd⟩, hJ⟩
        dsimp only at hi hs hsd hJ; subst hi
        unfold lawComplete_b1
        dsimp only
        rcases Nat.lt_or_ge k x.R.length with hlt | hge
        · have hltg : k < x.Ranges.length := by omega
          refine Tm.pos (by omega) (Tm.step (idx_n hlt) ?_)
          refine Tm.bind (Q := fun b => b = false → x.R[k].Kind = 2 → x.Ranges[k].e0 ≤ (x.R[k].Text.length : Int) ∧ (x.R[k].Text.length : Int) ≤ x.Ranges[k].e1) ?_ fun b hbq => ?_
          · by_cases g : x.R[k].Kind = 2
            · refine Tm.pos g (Tm.step (idx_n hltg) ?_)
              by_cases g2 : (x.R[k].Text.length : Int) < x.Ranges[k].e0
              · exact Tm.pos g2 (Tm.some fun e => by cases e)
              · exact Tm.neg g2 (Tm.step (idx_n hltg) (Tm.some fun e _ => ⟨by omega, by have := of_decide_eq_false e; omega⟩))
            · exact Tm.neg g (Tm.some fun _ g' => absurd g' g)
          · cases b with
            | true => exact Tm.pos rfl (Tm.some rfl)
            | false =>
              have hik := hrow _ (List.getElem_mem hlt)
              have hsl : s.length = k := by rw [hs.1, List.length_map, List.length_take]; omega
              refine Tm.neg (by simp) ((lbig_tm (by unfold I64; omega)).bind fun r ⟨hr1, hr2⟩ => ?_)
              rw [apnd_ok (by simp only [List.length_singleton]; omega) (by decide)]
              refine Tm.some ⟨hlt, iw_n (by omega), ⟨?_, fun b hb => ?_⟩, fun i hi hi' hik' => ?_⟩
              · rw [List.take_succ_eq_append_getElem hlt, List.map_append]; exact hs.snoc hr1
              · rcases List.mem_append.1 hb with h | h
                · exact hsd b h
                · rw [List.mem_singleton.1 h]; exact hr1.ok hr2
              · by_cases e : i = k
                · subst e; exact hbq rfl
                · exact hJ i hi hi' (by omega)
        · refine Tm.neg (by omega) (Tm.some ⟨⟨?_, hsd⟩, fun i h h' => hJ i h h' (by omega)⟩)
          rw [List.take_of_length_le hge] at hs; exact hs
      · cases o with
        | inr z => exact Tm.some ho
        | inl v =>
          obtain ⟨⟨hv1, hv2⟩, hlens⟩ := ho
          have hvl : v.length = x.R.length := by rw [hv1.1, List.length_map]
          refine hT.eq ?_
          refine Tm.bind (Q := fun w => IsL w (vsOf x.R a.1) ∧ ∀ b ∈ w, OkB 2 b) ?_ fun w hw => ?_
          · refine Tm.up a.1.length (fun k s => s.2 = (k : Int) ∧ IsL s.1 (x.R.map RVal.Int ++ a.1.take k) ∧ ∀ b ∈ s.1, OkB 2 b) ⟨rfl, by simpa using hv1, hv2⟩ ?_
            rintro k hk ⟨s, i⟩ ⟨hi, hs, hsd⟩
            dsimp only at hi hs hsd; subst hi
            unfold lawComplete_b2
            dsimp only
            rcases Nat.lt_or_ge k a.1.length with hlt | hge
            · have hsl : s.length = x.R.length + k := by rw [hs.1, List.length_append, List.length_map, List.length_take]; omega
              have hbk := hax.bnd k hlt
              have hbl := bs_le hbo hx.v (k := k) (by omega)
              rw [getD_n hlt] at hbk
              refine Tm.pos (by omega) (Tm.step (idx_n hlt) ((lbig_tm (by unfold I64; omega)).bind fun r ⟨hr1, hr2⟩ => ?_))
              rw [apnd_ok (by simp only [List.length_singleton]; omega) (by decide)]
              refine Tm.some ⟨hlt, iw_n (by omega), ?_, fun b hb => ?_⟩
              · rw [List.take_succ_eq_append_getElem hlt, ← List.append_assoc]; exact hs.snoc hr1
              · rcases List.mem_append.1 hb with h | h
                · exact hsd b h
                · rw [List.mem_singleton.1 h]; exact hr1.ok hr2
            · rw [List.take_of_length_le hge] at hs
              exact Tm.neg (by omega) (Tm.some ⟨hs, hsd⟩)
          · obtain ⟨hw1, hw2⟩ := hw
            have hVl : (vsOf x.R a.1).length = x.L.length + x.C.Auxiliary.length := by unfold vsOf; rw [List.length_append, List.length_map]; omega
            have hwl : w.length = x.L.length + x.C.Auxiliary.length := by rw [hw1.1, hVl]
            refine (vInts_tm hx.v hx.s hx.r hl).eq ?_
            have hgood := intsOf_good hR hx.d hx.v hx.s hx.r hbo hix hH hax hlens
            have hil := intsOf_len (rg := x.Ranges) hx.v hx.s hl
            refine Tm.eq (a := false) ?_ (Tm.neg (by simp) ?_)
            · dsimp only
              refine Tm.neg (by omega) ((rSystem_tm (fun k hk => (hgood k hk).ok) hil).bind fun r hr => ?_)
              have hok := hr.ok fun k hk => (hgood k hk).ok
              rcases hr with ⟨_, hS⟩ | ⟨g, _⟩
              · rw [← hVl] at hS hgood
                have hall := sys_good hw1 hgood hS
                refine (rAllT_tm (K := 512) (by decide) (by omega) hok.2 (fun b hb => (hw2 b hb).mono (by decide)) (by omega) hall).eq (Tm.some rfl)
              · exact absurd (fun k hk => (hgood k hk).right) g
            · refine (vTexts_tm hx.v hx.s hx.r hl).eq ?_
              have htl := tvs_len (l := x.L) (c := x.C)
              have hnl := hx.v.nn.len
              refine Tm.eq (a := Sum.inl ((tvs x.L x.C).map (textAt x.R))) ?_ ?_
              · refine Tm.up (tvs x.L x.C).length (fun k s => s.2 = (k : Int) ∧ s.1 = ((tvs x.L x.C).take k).map (textAt x.R)) ⟨rfl, rfl⟩ ?_
                rintro k hk ⟨s, i⟩ ⟨hi, hs⟩
                dsimp only at hi hs; subst hi
                unfold lawComplete_b3
                dsimp only
                rcases Nat.lt_or_ge k (tvs x.L x.C).length with hlt | hge
                · obtain ⟨q, hq, eq, _, _⟩ := tvs_at hx.v (List.getElem_mem hlt)
                  have hqR : q < x.R.length := by omega
                  have hsl : s.length = k := by rw [hs, List.length_map, List.length_take]; omega
                  refine Tm.pos (by omega) (Tm.step (idx_n hlt) ?_)
                  rw [eq]
                  refine Tm.eq (a := false) (Tm.neg (by omega) (Tm.some (decide_eq_false (by omega)))) (Tm.neg (by simp) (Tm.step (idx_n hqR) ?_))
                  rw [apnd_ok (by simp only [List.length_singleton]; omega) (by decide)]
                  refine Tm.some ⟨hlt, iw_n (by omega), ?_⟩
                  rw [List.take_succ_eq_append_getElem hlt, List.map_append, hs, List.map_singleton, eq, textAt_n hqR]
                · refine Tm.neg (by omega) (Tm.some ?_)
                  show _ = _
                  rw [hs, List.take_of_length_le hge]
              · have h1 := hx.s.ts; have h2 := hx.s.sm; have h3 := hx.s.df
                refine (wTexts_tm hx.v hx.s hx.r hl).eq ?_
                dsimp only
                refine (lproblem_self ?_ ?_ ?_ ?_ ?_).eq (Tm.pos rfl ((lints_self (by omega)).eq (Tm.pos rfl ?_)))
                · show (List.map _ _).length ≤ _; rw [List.length_map]; omega
                · show (List.map _ _).length ≤ _; rw [List.length_map]; omega
                · show (List.map _ _).length ≤ _; rw [List.length_map]; omega
                · show (List.map _ _).length ≤ _; rw [List.length_map]; omega
                · show (List.map _ _).length ≤ _; rw [List.length_map]; omega
                · refine (rSatisfies_tm (txts_okP hx.d hx.v hx.r) (txts_lim hx.d hx.v hx.s) ⟨by rw [List.length_map]; omega, fun s hs => ?_⟩).eq (Tm.some (texts_sat hR hx.d hx.v hx.r hH hlens))
                  obtain ⟨v, hv, rfl⟩ := List.mem_map.1 hs
                  obtain ⟨q, hq, rfl, _, _⟩ := tvs_at hx.v hv
                  rw [textAt_n (by omega)]
                  exact hRt _ (List.getElem_mem _)
end Go.D
set_option linter.unusedSimpArgs false
set_option linter.unusedVariables false
namespace Go.Proofs
open Go.Shelf
def Tryz.lays171_ren : Go.Shelf.Ren := ⟨fun | 171 => 67 | 243 => 103 | 246 => 142 | 283 => 161 | 284 => 162 | 285 => 163 | 286 => 164 | 129 => 177 | 317 => 176 | 318 => 178 | 319 => 179 | 320 => 180 | 337 => 193 | 338 => 194 | n => n, fun | 3 => 3 | 9 => 9 | 2 => 2 | 4 => 4 | 171 => 221 | 0 => 0 | 53 => 149 | 37 => 133 | 5 => 5 | 173 => 224 | 212 => 242 | 51 => 177 | 20 => 20 | 213 => 243 | 46 => 220 | 232 => 256 | 233 => 257 | n => n, fun | 17 => 0 | 18 => 1 | 19 => 2 | n => n⟩
theorem Tryz.lays171 : Go.Proofs.Lays.n171 Tryz.prog Tryz.lays171_ren := {
  mixed := by kernel_rfl
  f129 := Tryz.func177.trans (congrArg some (by kernel_rfl))
  f171 := Tryz.func67.trans (congrArg some (by kernel_rfl))
  f243 := Tryz.func103.trans (congrArg some (by kernel_rfl))
  f246 := Tryz.func142.trans (congrArg some (by kernel_rfl))
  f283 := Tryz.func161.trans (congrArg some (by kernel_rfl))
  f284 := Tryz.func162.trans (congrArg some (by kernel_rfl))
  f285 := Tryz.func163.trans (congrArg some (by kernel_rfl))
  f286 := Tryz.func164.trans (congrArg some (by kernel_rfl))
  f317 := Tryz.func176.trans (congrArg some (by kernel_rfl))
  f318 := Tryz.func178.trans (congrArg some (by kernel_rfl))
  f319 := Tryz.func179.trans (congrArg some (by kernel_rfl))
  f320 := Tryz.func180.trans (congrArg some (by kernel_rfl))
  f337 := Tryz.func193.trans (congrArg some (by kernel_rfl))
  f338 := Tryz.func194.trans (congrArg some (by kernel_rfl))
  t0 := Tryz.underlying0
  a0 := Tryz.isAgg0
  z0 := Tryz.sizeOf0
  v0 := Tryz.zeroValue0
  t2 := Tryz.underlying2
  a2 := Tryz.isAgg2
  z2 := Tryz.sizeOf2
  v2 := Tryz.zeroValue2
  t3 := Tryz.underlying3
  a3 := Tryz.isAgg3
  z3 := Tryz.sizeOf3
  v3 := Tryz.zeroValue3
  t4 := Tryz.underlying4
  a4 := Tryz.isAgg4
  z4 := Tryz.sizeOf4
  v4 := Tryz.zeroValue4
  t5 := Tryz.underlying5
  a5 := Tryz.isAgg5
  z5 := Tryz.sizeOf5
  v5 := Tryz.zeroValue5
  t9 := Tryz.underlying9
  a9 := Tryz.isAgg9
  z9 := Tryz.sizeOf9
  v9 := Tryz.zeroValue9
  t20 := Tryz.underlying20
  a20 := Tryz.isAgg20
  z20 := Tryz.sizeOf20
  v20 := Tryz.zeroValue20
  t37 := Tryz.underlying133
  a37 := Tryz.isAgg133
  z37 := Tryz.sizeOf133
  v37 := Tryz.zeroValue133
  t46 := Tryz.underlying220
  a46 := Tryz.isAgg220
  z46 := Tryz.sizeOf220
  v46 := Tryz.zeroValue220
  t51 := Tryz.underlying177
  a51 := Tryz.isAgg177
  z51 := Tryz.sizeOf177
  v51 := Tryz.zeroValue177
  t53 := Tryz.underlying149
  a53 := Tryz.isAgg149
  z53 := Tryz.sizeOf149
  v53 := Tryz.zeroValue149
  t171 := Tryz.underlying221
  a171 := Tryz.isAgg221
  z171 := Tryz.sizeOf221
  v171 := Tryz.zeroValue221
  t173 := Tryz.underlying224
  a173 := Tryz.isAgg224
  z173 := Tryz.sizeOf224
  v173 := Tryz.zeroValue224
  t212 := Tryz.underlying242
  a212 := Tryz.isAgg242
  z212 := Tryz.sizeOf242
  v212 := Tryz.zeroValue242
  t213 := Tryz.underlying243
  a213 := Tryz.isAgg243
  z213 := Tryz.sizeOf243
  t232 := Tryz.underlying256
  a232 := Tryz.isAgg256
  z232 := Tryz.sizeOf256
  v232 := Tryz.zeroValue256
  t233 := Tryz.underlying257
  a233 := Tryz.isAgg257
  z233 := Tryz.sizeOf257
  v233 := Tryz.zeroValue257
  g17 := by kernel_rfl
  g18 := by kernel_rfl
  g19 := by kernel_rfl }
open Go.RowKit Go.Sort Go.Lib in
theorem Tryz.strconv_Itoa_small (i : Nat) (hi : i < 100) (w : World) :
    Calls Tryz.prog 67 #[.int .i64 i] w fun e w' => e = .returned (.string ⟨(Lib.decDigits i).toArray⟩) ∧ w' = w := Any.strconv_Itoa_small Tryz.lays171 i hi w
end Go.Proofs
set_option linter.unusedSimpArgs false
set_option linter.unusedVariables false
namespace Go.Proofs.YtcakdidcpoolcaaGreatDoor.WF
open Go Go.X Go.D Go.Lib Go.Proofs
theorem fmtI_w (N : Nat) (n : Int) (w : World) (S : Nat → Prop) (r : List UInt8) (h : fmtI N n = some r) :
    Calls Tryz.prog 67 #[.int .i64 n] w (Ret w (fun v w' => Value.string (s8 r) = v ∧ True)) := by
  unfold fmtI at h; split at h
  · rename_i hc
    cases h
    obtain ⟨k, rfl⟩ : ∃ k : Nat, n = (k : Int) := ⟨n.toNat, by omega⟩
    refine (Tryz.strconv_Itoa_small k (by omega) w).mono ?_
    rintro e w' ⟨rfl, rfl⟩
    exact ⟨_, rfl, Ext.refl _, rfl, trivial⟩
  · cases h
end Go.Proofs.YtcakdidcpoolcaaGreatDoor.WF
set_option linter.unusedSimpArgs false
set_option linter.unusedVariables false
namespace Go.Proofs.YtcakdidcpoolcaaGreatDoor.FS
open Go Go.RowKit Go.X Go.D Go.Q
theorem en67 : Go.X.Enters Tryz.prog 67 := ⟨Tryz.f67, Tryz.func67, by kernel_rfl, by kernel_rfl⟩
theorem fmtI_c (N : Nat) (n : Int) (r : List UInt8) (h : fmtI N n = some r) : Cn Tryz.prog 67 [sI .i64 n] [] [sT r] := by
  refine in_calls en67 fun ν H w l hl => ?_
  obtain ⟨a, b, rfl, ⟨h1, h2⟩, rfl⟩ := hl
  rw [h1]
  refine (WF.fmtI_w N n w (fun _ => True) r h).mono ?_
  rintro e w' ⟨v, rfl, hE, hv, _⟩
  exact ⟨[v], rfl, hE, fun ν' H' => ⟨v, [], rfl, ⟨hv.symm, rfl⟩, rfl⟩⟩
end Go.Proofs.YtcakdidcpoolcaaGreatDoor.FS

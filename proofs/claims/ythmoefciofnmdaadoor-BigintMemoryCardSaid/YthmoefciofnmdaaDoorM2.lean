/-
  What bigint's counterparts reckon. Plain theorems.
-/
import Derived.Test.YthmoefciofnmdaaDoorM1
import Derived.Test.YthmoefciofnmdaaDoorPB
set_option linter.unusedSimpArgs false
set_option linter.unusedVariables false
namespace Go.D
open Go Go.X
abbrev W32 : Int := 4294967296
theorem w32_pos : (1 : Int) < W32 := by decide
theorem cloneU32_tm {s : List Int} (hl : s.length ≤ 35184372088832) : Tm (fun N => cloneU32 N s) (fun r => r = s) := by
  unfold cloneU32
  exact Tm.step (apnd_ok (by simp only [List.length_nil]; omega) (by decide)) (Tm.pure rfl)
theorem btrim_tm {d : List Int} (hd : InB W32 d) (hl : d.length ≤ 35184372088832) : Tm (fun N => btrim N d) (fun r => Dg W32 r (val W32 d) ∧ r.length ≤ d.length) := by
  unfold btrim
  refine Tm.bind (Q := fun n : Int => ∃ k : Nat, n = k ∧ k ≤ d.length ∧ (∀ j, (hj : j < d.length) → k ≤ j → d[j] = 0) ∧ (k = 0 ∨ ∃ hk : k - 1 < d.length, d[k - 1] ≠ 0))
    (Tm.loop (fun n : Int => ∃ k : Nat, n = k ∧ k ≤ d.length ∧ ∀ j, (hj : j < d.length) → k ≤ j → d[j] = 0) (fun n => n.toNat) ⟨d.length, rfl, Nat.le_refl _, fun j h1 h2 => absurd h1 (by omega)⟩ ?_) ?_
  · rintro _ ⟨k, rfl, hk, h0⟩
    dsimp only [btrim_b1]
    rcases Nat.eq_zero_or_pos k with rfl | hk0
    · refine Tm.bind (Q := (· = false)) (Tm.neg (by omega) (Tm.pure rfl)) ?_
      rintro _ rfl
      exact Tm.neg (by simp) (Tm.pure ⟨0, rfl, hk, h0, .inl rfl⟩)
    · refine Tm.bind (Q := (· = decide (d[k - 1] = 0))) (Tm.pos (by omega) (Tm.step (idx_i (n := k - 1) (by rw [iw_eq] <;> omega) (by omega)) (Tm.pure rfl))) ?_
      rintro _ rfl
      by_cases h : d[k - 1] = 0
      · refine Tm.pos (by simpa using h) (Tm.pure ⟨⟨k - 1, by rw [iw_eq] <;> omega, by omega, fun j h1 h2 => ?_⟩, ?_⟩)
        · rcases Nat.eq_or_lt_of_le h2 with rfl | h3
          · exact h
          · exact h0 j h1 (by omega)
        · show (iw ((k : Int) - 1)).toNat < ((k : Int)).toNat
          rw [iw_eq] <;> omega
      · exact Tm.neg (by simpa using h) (Tm.pure ⟨k, rfl, hk, h0, .inr ⟨by omega, h⟩⟩)
  · rintro _ ⟨k, rfl, hk, h0, h1⟩
    refine Tm.step (cut_i (m := 0) (n := k) rfl rfl (by omega) hk) ?_
    refine Tm.bind (cloneU32_tm (by simp; omega)) ?_
    rintro _ rfl
    refine Tm.pure ⟨by simpa using dg_cut hk hd h0 h1, by simp; omega⟩
def bv (x : Big) : Int := if x.Negative = true then - val W32 x.Digits else val W32 x.Digits
structure Is (x : Big) (v : Int) : Prop where
  dg : Dg W32 x.Digits v.natAbs
  neg : x.Negative = decide (v < 0)
theorem Is.bv {x : Big} {v : Int} (h : Is x v) : bv x = v := by
  unfold D.bv; rw [h.neg, h.dg.val]
  by_cases hv : v < 0
  · simp [hv]; omega
  · simp [hv]; omega
theorem bnormal_tm {neg : Bool} {d : List Int} (hd : InB W32 d) (hl : d.length ≤ 35184372088832) : Tm (fun N => bnormal N neg d) (fun r => Is r (if neg = true then - val W32 d else val W32 d) ∧ r.Digits.length ≤ d.length) := by
  unfold bnormal
  refine Tm.bind (btrim_tm hd hl) ?_
  rintro r ⟨hr, hl'⟩
  have h0 := hr.nonneg (by decide)
  refine Tm.ite (fun h => Tm.pure ?_) (fun h => Tm.pure ?_)
  · have he : r = [] := List.length_eq_zero_iff.1 (by omega)
    have hv := (hr.zero (by decide)).1 he
    refine ⟨⟨?_, ?_⟩, by simp⟩
    · simp only [hv]; simp; exact Dg.nil
    · simp [hv]
  · have he : r ≠ [] := fun e => h (by simp [e])
    have hv : val W32 d ≠ 0 := fun e => he ((hr.zero (by decide)).2 e)
    refine ⟨⟨?_, ?_⟩, hl'⟩
    · cases neg <;> simp <;> rw [show ((val W32 d).natAbs : Int) = val W32 d by omega] <;> exact hr
    · cases neg <;> simp <;> omega
theorem bNormal_tm {x : Big} (hd : InB W32 x.Digits) (hl : x.Digits.length ≤ 35184372088832) : Tm (fun N => bNormal N x) (fun r => Is r (bv x) ∧ r.Digits.length ≤ x.Digits.length) := by
  unfold bNormal
  exact Tm.bind (bnormal_tm hd hl) (fun r h => Tm.pure h)
theorem bNeg_tm {x : Big} (hd : InB W32 x.Digits) (hl : x.Digits.length ≤ 35184372088832) : Tm (fun N => bNeg N x) (fun r => Is r (- bv x) ∧ r.Digits.length ≤ x.Digits.length) := by
  unfold bNeg
  refine Tm.bind (bnormal_tm hd hl) (fun r h => Tm.pure ?_)
  refine ⟨?_, h.2⟩
  have := h.1
  unfold bv
  cases hx : x.Negative <;> rw [hx] at this <;> simpa using this
theorem clamp_sgn {n : Int} : imin (imax n (-1)) 1 = sgn n 0 := by
  unfold imin imax sgn
  by_cases h : -1 > n <;> simp only [h, if_true, if_false] <;> (repeat' split) <;> omega
theorem bcompare_tm {a b : List Int} (ha : InB W32 a) (hb : InB W32 b) (na : Nrm a) (nb : Nrm b) (hl : a.length ≤ 35184372088832) (hl' : b.length ≤ 35184372088832) : Tm (fun N => bcompare N a b) (fun r => r = sgn (val W32 a) (val W32 b)) := by
  unfold bcompare
  refine Tm.ite (fun h => ?_) (fun h => ?_)
  · unfold bsign
    refine Tm.step rfl (Tm.pure ?_)
    rw [iw_eq (by omega) (by omega), clamp_sgn]
    unfold sgn
    rcases Nat.lt_or_ge a.length b.length with h' | h'
    · have := len_cmp w32_pos ha hb nb h'
      rw [if_pos this]; (repeat' split) <;> omega
    · have := len_cmp w32_pos hb ha na (by omega)
      rw [if_neg (by omega), if_pos this]; (repeat' split) <;> omega
  · have hle : a.length = b.length := by omega
    refine Tm.bind (Q := fun r : Sum Unit Int => (match r with | .inl _ => 0 | .inr z => z) = sgn (val W32 a) (val W32 b))
      (Tm.loop (fun i : Int => ∃ n : Nat, i = (n : Int) - 1 ∧ n ≤ a.length ∧ a.drop n = b.drop n) (fun i => (i + 1).toNat) ⟨a.length, by rw [iw_eq] <;> omega, Nat.le_refl _, by rw [List.drop_of_length_le (Nat.le_refl _), List.drop_of_length_le (by omega)]⟩ ?_) ?_
    · rintro _ ⟨n, rfl, hn, hd⟩
      dsimp only [bcompare_b1]
      refine Tm.ite (fun h1 => ?_) (fun h1 => ?_)
      · have hna : n - 1 < a.length := by omega
        have hnb : n - 1 < b.length := by omega
        refine Tm.step (idx_i (n := n - 1) (by omega) hna) (Tm.step (idx_i (n := n - 1) (by omega) hnb) (Tm.ite (fun h2 => ?_) (fun h2 => ?_)))
        · have := val_cmp w32_pos ha hb hle hna (by rw [show n - 1 + 1 = n by omega]; exact hd) h2
          refine Tm.pure ?_
          show (-1 : Int) = _
          unfold sgn; rw [if_pos this]
        · refine Tm.step (idx_i (n := n - 1) (by omega) hna) (Tm.step (idx_i (n := n - 1) (by omega) hnb) (Tm.ite (fun h3 => ?_) (fun h3 => ?_)))
          · have := val_cmp w32_pos hb ha hle.symm hnb (by rw [show n - 1 + 1 = n by omega]; exact hd.symm) h3
            refine Tm.pure ?_
            show (1 : Int) = _
            unfold sgn; rw [if_neg (by omega), if_pos this]
          · refine Tm.pure ⟨⟨n - 1, by rw [iw_eq] <;> omega, by omega, ?_⟩, ?_⟩
            · rw [List.drop_eq_getElem_cons hna, List.drop_eq_getElem_cons hnb, show n - 1 + 1 = n by omega, hd, show a[n - 1] = b[n - 1] by omega]
            · show (iw ((n : Int) - 1 - 1) + 1).toNat < ((n : Int) - 1 + 1).toNat
              rw [iw_eq] <;> omega
      · have : n = 0 := by omega
        subst this
        refine Tm.pure ?_
        show (0 : Int) = _
        have : a = b := by simpa using hd
        rw [this]; unfold sgn; rw [if_neg (by omega), if_neg (by omega)]
    · rintro (_ | z) h <;> exact Tm.pure h
theorem bCompare_tm {a b : Big} (ha : InB W32 a.Digits) (hb : InB W32 b.Digits) (hl : a.Digits.length ≤ 35184372088832) (hl' : b.Digits.length ≤ 35184372088832) : Tm (fun N => bCompare N a b) (fun r => r = sgn (bv a) (bv b)) := by
  unfold bCompare
  refine Tm.bind (bNormal_tm ha hl) ?_
  rintro x ⟨hx, hxl⟩
  refine Tm.bind (bNormal_tm hb hl') ?_
  rintro y ⟨hy, hyl⟩
  have hxv := hx.dg.val
  have hyv := hy.dg.val
  refine Tm.bind (Q := (· = (x.Negative && !y.Negative))) (Tm.ite (fun h => Tm.pure ?_) (fun h => Tm.pure ?_)) ?_
  · revert h; cases x.Negative <;> cases y.Negative <;> simp
  · revert h; cases x.Negative <;> cases y.Negative <;> simp
  rintro _ rfl
  have c1 := bcompare_tm (a := y.Digits) (b := x.Digits) hy.dg.inB hx.dg.inB hy.dg.nrm hx.dg.nrm (by omega) (by omega)
  have c2 := bcompare_tm (a := x.Digits) (b := y.Digits) hx.dg.inB hy.dg.inB hx.dg.nrm hy.dg.nrm (by omega) (by omega)
  rw [hxv, hyv] at c1 c2
  have n1 := hx.neg
  have n2 := hy.neg
  by_cases p : bv a < 0 <;> by_cases q : bv b < 0
  · simp only [p, q, decide_true] at n1 n2
    simp only [n1, n2]
    refine Tm.neg (by simp) (Tm.neg (by simp) (Tm.pos (by simp) (Tm.bind c1 (fun r h => Tm.pure ?_))))
    rw [h]; unfold sgn; split <;> split <;> (try split) <;> omega
  · simp only [p, q, decide_true, decide_false] at n1 n2
    simp only [n1, n2]
    refine Tm.pos (by simp) (Tm.pure ?_)
    unfold sgn; rw [if_pos (by omega)]
  · simp only [p, q, decide_true, decide_false] at n1 n2
    simp only [n1, n2]
    refine Tm.neg (by simp) (Tm.pos (by simp) (Tm.pure ?_))
    unfold sgn; rw [if_neg (by omega), if_pos (by omega)]
  · simp only [p, q, decide_false] at n1 n2
    simp only [n1, n2]
    refine Tm.neg (by simp) (Tm.neg (by simp) (Tm.neg (by simp) (Tm.bind c2 (fun r h => Tm.pure ?_))))
    rw [h]; unfold sgn; split <;> split <;> (try split) <;> omega
theorem digit_tm {d : List Int} (hd : InB W32 d) {i : Nat} : Tm (fun N => digit N d (i : Int)) (fun r => r = d.getD i 0) := by
  unfold digit
  have h0 := hd.getD (by decide) i
  refine Tm.ite (fun h => ?_) (fun h => Tm.pure ?_)
  · refine Tm.step (idx_ok (by omega)) (Tm.pure ?_)
    rw [List.getD_eq_getElem?_getD, List.getElem?_eq_getElem (by omega)] at *
    simp only [Option.getD_some, W32] at *
    rw [uw_mod]; omega
  · rw [List.getD_eq_getElem?_getD, List.getElem?_eq_none (by omega)]; rfl
theorem bshr32 {x : Int} : bshr .u64 x 32 = x / 4294967296 := by
  unfold bshr; rw [show ((2 : Int) ^ (min (32 : Int).toNat IntKind.u64.bits)) = 4294967296 from rfl, Int.fdiv_eq_ediv_of_nonneg _ (by decide)]
theorem bshr63 {x : Int} : bshr .u64 x 63 = x / 9223372036854775808 := by
  unfold bshr; rw [show ((2 : Int) ^ (min (63 : Int).toNat IntKind.u64.bits)) = 9223372036854775808 from rfl, Int.fdiv_eq_ediv_of_nonneg _ (by decide)]
theorem take_set {l : List Int} {n : Nat} {y : Int} (h : n < l.length) : val W32 ((l.set n y).take (n + 1)) = val W32 (l.take n) + W32 ^ n * y := by
  rw [val_take, List.take_set_of_le (Nat.le_refl n), List.getD_eq_getElem?_getD, List.getElem?_set_self h]; rfl
theorem bplus_tm {a b : List Int} (ha : InB W32 a) (hb : InB W32 b) (hl : a.length ≤ 17592186044416) (hl' : b.length ≤ 17592186044416) : Tm (fun N => bplus N a b) (fun r => InB W32 r ∧ val W32 r = val W32 a + val W32 b ∧ r.length = max a.length b.length + 1) := by
  unfold bplus
  have hi : iw (imax (a.length : Int) (b.length : Int) + 1) = ((max a.length b.length + 1 : Nat) : Int) := by
    unfold imax; split <;> rw [iw_eq] <;> omega
  refine Tm.step (mk1_ok hi (by omega) (by decide)) ?_
  generalize hL : max a.length b.length + 1 = L
  refine Tm.bind (Q := fun r => InB W32 r ∧ val W32 r = val W32 a + val W32 b ∧ r.length = L)
    (Tm.loop (fun s : List Int × Int × Int => ∃ n : Nat, s.2.2 = n ∧ n ≤ L ∧ s.1.length = L ∧ InB W32 s.1 ∧ 0 ≤ s.2.1 ∧ s.2.1 ≤ 1 ∧ val W32 (s.1.take n) + W32 ^ n * s.2.1 = val W32 (a.take n) + val W32 (b.take n)) (fun s => L - s.2.2.toNat)
      ⟨0, rfl, Nat.zero_le _, by simp, InB.rep (by decide), by simp, by simp, by simp [val]⟩ ?_) (fun r h => Tm.pure h)
  rintro ⟨out, carry, i⟩ ⟨n, rfl, hn, ho, hB, h0, h1, hv⟩
  dsimp only [bplus_b1] at *
  simp only [List.length_replicate]
  refine Tm.ite (fun h => ?_) (fun h => Tm.pure ?_)
  · refine Tm.bind (digit_tm ha) ?_
    rintro x rfl
    refine Tm.bind (digit_tm hb) ?_
    rintro y rfl
    refine Tm.step (idx_ok (by omega)) ?_
    refine Tm.step (upd1_i rfl (by omega)) (Tm.pure ?_)
    have hx := ha.getD (by decide) n
    have hy := hb.getD (by decide) n
    generalize ex : a.getD n 0 = x at *
    generalize ey : b.getD n 0 = y at *
    have e1 : uw (carry + uw (x + y)) = carry + x + y := by
      simp only [W32] at *; rw [uw_mod, uw_mod]; omega
    rw [e1, bshr32, uw32_mod]
    refine ⟨⟨n + 1, ?_, by omega, by simp; omega, hB.set (by simp only [W32]; omega), ?_, ?_, ?_⟩, ?_⟩
    · show iw ((n : Int) + 1) = _
      rw [iw_eq] <;> omega
    · show 0 ≤ (carry + x + y) / 4294967296
      omega
    · show (carry + x + y) / 4294967296 ≤ 1
      simp only [W32] at *; omega
    · show val W32 ((out.set n ((carry + x + y) % 4294967296)).take (n + 1)) + W32 ^ (n + 1) * ((carry + x + y) / 4294967296) = _
      rw [take_set (by omega), val_take, val_take, ex, ey, Int.pow_succ]
      have := Int.emod_add_mul_ediv (carry + x + y) 4294967296
      have hw : W32 = 4294967296 := rfl
      grind
    · show L - (iw ((n : Int) + 1)).toNat < L - ((n : Int)).toNat
      rw [iw_eq] <;> omega
  · have hnL : n = L := by omega
    subst hnL
    rw [List.take_of_length_le (by omega), List.take_of_length_le (by omega), List.take_of_length_le (by omega)] at hv
    refine ⟨hB, ?_, ho⟩
    show val W32 out = _
    have l1 := val_lt (by decide) ha
    have l2 := val_lt (by decide) hb
    have l3 := val_nonneg (by decide) hB
    have p1 := pow_mono (B := W32) (by decide) (show a.length ≤ n - 1 by omega)
    have p2 := pow_mono (B := W32) (by decide) (show b.length ≤ n - 1 by omega)
    have p3 : W32 ^ n = W32 ^ (n - 1) * W32 := by rw [← Int.pow_succ]; congr 1; omega
    have p4 := pow_pos' (B := W32) (by decide) (n - 1)
    have hc : carry = 0 ∨ carry = 1 := by omega
    rcases hc with rfl | rfl
    · omega
    · simp only [W32] at *; omega
theorem bminus_tm {a b : List Int} (ha : InB W32 a) (hb : InB W32 b) (hl : a.length ≤ 17592186044416) (hl' : b.length ≤ a.length) (hv : val W32 b ≤ val W32 a) : Tm (fun N => bminus N a b) (fun r => InB W32 r ∧ val W32 r = val W32 a - val W32 b ∧ r.length = a.length) := by
  unfold bminus
  refine Tm.step (mk1_ok rfl (by omega) (by decide)) ?_
  generalize hL : a.length = L
  refine Tm.bind (Q := fun r => InB W32 r ∧ val W32 r = val W32 a - val W32 b ∧ r.length = L)
    (Tm.loop (fun s : List Int × Int × Int => ∃ n : Nat, s.2.2 = n ∧ n ≤ L ∧ s.1.length = L ∧ InB W32 s.1 ∧ 0 ≤ s.2.1 ∧ s.2.1 ≤ 1 ∧ val W32 (s.1.take n) = val W32 (a.take n) - val W32 (b.take n) + W32 ^ n * s.2.1) (fun s => L - s.2.2.toNat)
      ⟨0, rfl, Nat.zero_le _, by simp [hL], InB.rep (by decide), by simp, by simp, by simp [val]⟩ ?_) (fun r h => Tm.pure h)
  rintro ⟨out, borrow, i⟩ ⟨n, rfl, hn, ho, hB, h0, h1, hv'⟩
  dsimp only [bminus_b1] at *
  refine Tm.ite (fun h => ?_) (fun h => Tm.pure ?_)
  · refine Tm.step (idx_ok (by omega)) ?_
    refine Tm.bind (digit_tm hb) ?_
    rintro y rfl
    refine Tm.step (idx_ok (by omega)) ?_
    refine Tm.step (upd1_i rfl (by omega)) (Tm.pure ?_)
    have hx := ha.get (n := n) (by omega)
    have hy := hb.getD (by decide) n
    have ex : a.getD n 0 = a[n]'(by omega) := by rw [List.getD_eq_getElem?_getD, List.getElem?_eq_getElem (by omega)]; rfl
    generalize a[n]'(by omega) = x at *
    generalize ey : b.getD n 0 = y at *
    have e1 : uw (uw (uw x - y) - borrow) = (x - y - borrow) % 18446744073709551616 := by
      simp only [W32] at *; rw [uw_mod, uw_mod, uw_mod]; omega
    rw [e1, bshr63, uw32_mod]
    simp only [W32] at hx hy
    refine ⟨⟨n + 1, ?_, by omega, by simp; omega, hB.set (by simp only [W32]; omega), ?_, ?_, ?_⟩, ?_⟩
    · show iw ((n : Int) + 1) = _
      rw [iw_eq] <;> omega
    · show 0 ≤ (x - y - borrow) % 18446744073709551616 / 9223372036854775808
      omega
    · show (x - y - borrow) % 18446744073709551616 / 9223372036854775808 ≤ 1
      omega
    · show val W32 ((out.set n ((x - y - borrow) % 18446744073709551616 % 4294967296)).take (n + 1)) = _ + W32 ^ (n + 1) * ((x - y - borrow) % 18446744073709551616 / 9223372036854775808)
      rw [take_set (by omega), val_take, val_take, ex, ey, Int.pow_succ]
      have hd : (x - y - borrow) % 18446744073709551616 % 4294967296 = x - y - borrow + W32 * ((x - y - borrow) % 18446744073709551616 / 9223372036854775808) := by
        simp only [W32]; omega
      rw [hd]
      grind
    · show L - (iw ((n : Int) + 1)).toNat < L - ((n : Int)).toNat
      rw [iw_eq] <;> omega
  · have hnL : n = L := by omega
    subst hnL
    rw [List.take_of_length_le (by omega), List.take_of_length_le (by omega), List.take_of_length_le (by omega)] at hv'
    refine ⟨hB, ?_, ho⟩
    show val W32 out = _
    have l1 := val_lt (by decide) hB
    rw [ho] at l1
    have hc : borrow = 0 ∨ borrow = 1 := by omega
    rcases hc with rfl | rfl
    · omega
    · simp only [W32] at *; omega
theorem Is.val_pos {x : Big} {v : Int} (h : Is x v) : val W32 x.Digits = if v < 0 then -v else v := by rw [h.dg.val]; split <;> omega
theorem bAdd_tm {a b : Big} (ha : InB W32 a.Digits) (hb : InB W32 b.Digits) (hl : a.Digits.length ≤ 17592186044416) (hl' : b.Digits.length ≤ 17592186044416) :
    Tm (fun N => bAdd N a b) (fun r => Is r (bv a + bv b) ∧ r.Digits.length ≤ max a.Digits.length b.Digits.length + 1) := by
  unfold bAdd
  refine Tm.bind (bNormal_tm ha (by omega)) ?_
  rintro x ⟨hx, hxl⟩
  refine Tm.bind (bNormal_tm hb (by omega)) ?_
  rintro y ⟨hy, hyl⟩
  have vx := hx.val_pos
  have vy := hy.val_pos
  have n1 := hx.neg
  have n2 := hy.neg
  refine Tm.ite (fun h => ?_) (fun h => ?_)
  · have hn : x.Negative = y.Negative := by simpa using h
    refine Tm.bind (bplus_tm hx.dg.inB hy.dg.inB (by omega) (by omega)) ?_
    rintro s ⟨hs, sv, sl⟩
    refine Tm.bind (bnormal_tm hs (by omega)) (fun r hr => Tm.pure ⟨?_, by omega⟩)
    have hr := hr.1
    rw [sv, vx, vy] at hr
    by_cases p : bv a < 0 <;> by_cases q : bv b < 0 <;> simp only [p, q, decide_true, decide_false] at n1 n2 hn
    · simp only [n1, p, q, if_true] at hr
      rwa [show -(-bv a + -bv b) = bv a + bv b by omega] at hr
    · rw [n1, n2] at hn; cases hn
    · rw [n1, n2] at hn; cases hn
    · simpa only [n1, p, q, if_false, Bool.false_eq_true] using hr
  · have hn : ¬ x.Negative = y.Negative := by simpa using h
    refine Tm.bind (bcompare_tm hx.dg.inB hy.dg.inB hx.dg.nrm hy.dg.nrm (by omega) (by omega)) ?_
    rintro c rfl
    refine Tm.ite (fun hc => ?_) (fun hc => ?_)
    · have hlt : val W32 x.Digits < val W32 y.Digits := by revert hc; unfold sgn; split <;> (try split) <;> omega
      have hle : x.Digits.length ≤ y.Digits.length := by
        rcases Nat.lt_or_ge y.Digits.length x.Digits.length with h' | h'
        · have := len_cmp w32_pos hy.dg.inB hx.dg.inB hx.dg.nrm h'; omega
        · exact h'
      refine Tm.bind (bminus_tm hy.dg.inB hx.dg.inB (by omega) hle (by omega)) ?_
      rintro s ⟨hs, sv, sl⟩
      refine Tm.bind (bnormal_tm hs (by omega)) (fun r hr => Tm.pure ⟨?_, by omega⟩)
      have hr := hr.1
      rw [sv, vx, vy] at hr
      by_cases p : bv a < 0 <;> by_cases q : bv b < 0 <;> simp only [p, q, decide_true, decide_false] at n1 n2 hn
      · rw [n1, n2] at hn; exact absurd rfl hn
      · simp only [n2, p, q, if_true, if_false, Bool.false_eq_true] at hr
        rwa [show bv b - -bv a = bv a + bv b by omega] at hr
      · simp only [n2, p, q, if_true, if_false] at hr
        rwa [show -(-bv b - bv a) = bv a + bv b by omega] at hr
      · rw [n1, n2] at hn; exact absurd rfl hn
    · have hge : val W32 y.Digits ≤ val W32 x.Digits := by revert hc; unfold sgn; split <;> (try split) <;> omega
      have hle : y.Digits.length ≤ x.Digits.length := by
        rcases Nat.lt_or_ge x.Digits.length y.Digits.length with h' | h'
        · have := len_cmp w32_pos hx.dg.inB hy.dg.inB hy.dg.nrm h'; omega
        · exact h'
      refine Tm.bind (bminus_tm hx.dg.inB hy.dg.inB (by omega) hle hge) ?_
      rintro s ⟨hs, sv, sl⟩
      refine Tm.bind (bnormal_tm hs (by omega)) (fun r hr => Tm.pure ⟨?_, by omega⟩)
      have hr := hr.1
      rw [sv, vx, vy] at hr
      by_cases p : bv a < 0 <;> by_cases q : bv b < 0 <;> simp only [p, q, decide_true, decide_false] at n1 n2 hn
      · rw [n1, n2] at hn; exact absurd rfl hn
      · simp only [n1, p, q, if_true, if_false] at hr
        rwa [show -(-bv a - bv b) = bv a + bv b by omega] at hr
      · simp only [n1, p, q, if_true, if_false, Bool.false_eq_true] at hr
        rwa [show bv a - -bv b = bv a + bv b by omega] at hr
      · rw [n1, n2] at hn; exact absurd rfl hn
theorem bSub_tm {a b : Big} (ha : InB W32 a.Digits) (hb : InB W32 b.Digits) (hl : a.Digits.length ≤ 17592186044416) (hl' : b.Digits.length ≤ 17592186044416) :
    Tm (fun N => bSub N a b) (fun r => Is r (bv a - bv b) ∧ r.Digits.length ≤ max a.Digits.length b.Digits.length + 1) := by
  unfold bSub
  refine Tm.bind (bNeg_tm hb (by omega)) ?_
  rintro y ⟨hy, hyl⟩
  refine Tm.bind (bAdd_tm ha hy.dg.inB (by omega) (by omega)) (fun r h => Tm.pure ⟨?_, by omega⟩)
  have := h.1
  rwa [hy.bv, ← Int.sub_eq_add_neg] at this
theorem btimes_tm {a b : List Int} (ha : InB W32 a) (hb : InB W32 b) (hl : a.length ≤ 17592186044416) (hl' : b.length ≤ 17592186044416) :
    Tm (fun N => btimes N a b) (fun r => InB W32 r ∧ val W32 r = val W32 a * val W32 b ∧ r.length = a.length + b.length) := by
  unfold btimes
  refine Tm.step (mk1_ok (n := a.length + b.length) (by rw [iw_eq] <;> omega) (by omega) (by decide)) ?_
  refine Tm.bind (Q := fun r => InB W32 r ∧ val W32 r = val W32 a * val W32 b ∧ r.length = a.length + b.length)
    (Tm.loop (fun s : List Int × Int => ∃ n : Nat, s.2 = n ∧ n ≤ a.length ∧ s.1.length = a.length + b.length ∧ InB W32 s.1 ∧ val W32 s.1 = val W32 (a.take n) * val W32 b ∧ ∀ k, n + b.length ≤ k → (hk : k < s.1.length) → s.1[k] = 0) (fun s => a.length - s.2.toNat)
      ⟨0, rfl, Nat.zero_le _, by simp, InB.rep (by decide), by simp [val, val_rep], by simp⟩ ?_) (fun r h => Tm.pure h)
  rintro ⟨out, i⟩ ⟨n, rfl, hn, ho, hB, hv, hz⟩
  dsimp only [btimes_b1] at *
  refine Tm.ite (fun h => ?_) (fun h => Tm.pure ?_)
  · refine Tm.step (idx_ok (by omega)) ?_
    have hx := ha.get (n := n) (by omega)
    have ex : a.getD n 0 = a[n]'(by omega) := by rw [List.getD_eq_getElem?_getD, List.getElem?_eq_getElem (by omega)]; rfl
    generalize a[n]'(by omega) = x at *
    refine Tm.bind (Q := fun r : List Int × Int => InB W32 r.1 ∧ r.1.length = a.length + b.length ∧ 0 ≤ r.2 ∧ r.2 < W32 ∧ val W32 r.1 + W32 ^ (n + b.length) * r.2 = val W32 (a.take n) * val W32 b + W32 ^ n * x * val W32 b ∧ ∀ k, n + b.length ≤ k → (hk : k < r.1.length) → r.1[k] = 0)
      (Tm.loop (fun s : List Int × Int × Int => ∃ m : Nat, s.2.2 = m ∧ m ≤ b.length ∧ s.1.length = a.length + b.length ∧ InB W32 s.1 ∧ 0 ≤ s.2.1 ∧ s.2.1 < W32 ∧ val W32 s.1 + W32 ^ (n + m) * s.2.1 = val W32 (a.take n) * val W32 b + W32 ^ n * x * val W32 (b.take m) ∧ ∀ k, n + b.length ≤ k → (hk : k < s.1.length) → s.1[k] = 0) (fun s => b.length - s.2.2.toNat)
        ⟨0, rfl, Nat.zero_le _, ho, hB, by simp, (by decide : (0 : Int) < W32), by simpa [val] using hv, hz⟩ ?_) ?_
    · rintro ⟨out1, carry, j⟩ ⟨m, rfl, hm, ho1, hB1, c0, c1, hv1, hz1⟩
      dsimp only [btimes_b2] at *
      refine Tm.ite (fun h1 => ?_) (fun h1 => Tm.pure ?_)
      · refine Tm.step (idx_ok (by omega)) ?_
        have hi : iw ((n : Int) + (m : Int)) = ((n + m : Nat) : Int) := by rw [iw_eq] <;> omega
        have hy := hb.get (n := m) (by omega)
        have ey : b.getD m 0 = b[m]'(by omega) := by rw [List.getD_eq_getElem?_getD, List.getElem?_eq_getElem (by omega)]; rfl
        generalize b[m]'(by omega) = y at *
        refine Tm.step (idx_i (n := n + m) hi (by omega)) (Tm.step (idx_i (n := n + m) hi (by omega)) (Tm.step (upd1_i (n := n + m) hi (by omega)) (Tm.pure ?_)))
        have hz' := hB1.get (n := n + m) (by omega)
        have hvs := fun y' => val_set (B := W32) (l := out1) (n := n + m) (y := y') (by omega)
        generalize out1[n + m]'(by omega) = z at *
        have hxy : 0 ≤ x * y ∧ x * y ≤ 4294967295 * 4294967295 := by
          refine ⟨Int.mul_nonneg hx.1 hy.1, ?_⟩
          exact Int.mul_le_mul (by simp only [W32] at hx; omega) (by simp only [W32] at hy; omega) hy.1 (by decide)
        generalize exy : x * y = xy at *
        have e1 : uw (carry + uw (uw (uw x * uw y) + uw z)) = carry + xy + z := by
          simp only [W32] at *
          rw [show uw x = x by rw [uw_mod]; omega, show uw y = y by rw [uw_mod]; omega, exy, uw_mod, uw_mod, uw_mod, uw_mod]; omega
        rw [e1, bshr32, uw32_mod]
        simp only [W32] at hz' c1
        refine ⟨⟨m + 1, ?_, by omega, by simp; omega, hB1.set (by simp only [W32]; omega), ?_, ?_, ?_, ?_⟩, ?_⟩
        · show iw ((m : Int) + 1) = _
          rw [iw_eq] <;> omega
        · show 0 ≤ (carry + xy + z) / 4294967296
          omega
        · show (carry + xy + z) / 4294967296 < W32
          simp only [W32]; omega
        · show val W32 (out1.set (n + m) ((carry + xy + z) % 4294967296)) + W32 ^ (n + (m + 1)) * ((carry + xy + z) / 4294967296) = _
          rw [hvs, val_take, ey, ← Nat.add_assoc, Int.pow_succ]
          have := Int.emod_add_mul_ediv (carry + xy + z) 4294967296
          have hw : W32 = 4294967296 := rfl
          have hp : W32 ^ (n + m) = W32 ^ n * W32 ^ m := Int.pow_add ..
          grind
        · intro k hk hk'
          rw [List.getElem_set_ne (by omega)]
          exact hz1 k hk (by simpa using hk')
        · show b.length - (iw ((m : Int) + 1)).toNat < b.length - ((m : Int)).toNat
          rw [iw_eq] <;> omega
      · have hmL : m = b.length := by omega
        subst hmL
        rw [List.take_of_length_le (Nat.le_refl _)] at hv1
        exact ⟨hB1, ho1, c0, c1, hv1, hz1⟩
    · rintro ⟨out2, carry⟩ ⟨hB2, ho2, c0, c1, hv2, hz2⟩
      dsimp only at *
      have hi : iw ((n : Int) + (b.length : Int)) = ((n + b.length : Nat) : Int) := by rw [iw_eq] <;> omega
      refine Tm.step (idx_i hi (by omega)) (Tm.step (upd1_i hi (by omega)) (Tm.pure ?_))
      have e1 : uw32 carry = carry := by rw [uw32_mod]; simp only [W32] at c1; omega
      rw [e1]
      refine ⟨⟨n + 1, ?_, by omega, by simp; omega, hB2.set ⟨c0, c1⟩, ?_, ?_⟩, ?_⟩
      · show iw ((n : Int) + 1) = _
        rw [iw_eq] <;> omega
      · show val W32 (out2.set (n + b.length) carry) = _
        rw [val_set (by omega), hz2 _ (Nat.le_refl _) (by omega), val_take, ex]
        grind
      · intro k hk hk'
        rw [List.getElem_set_ne (by omega)]
        exact hz2 k (by omega) (by simpa using hk')
      · show a.length - (iw ((n : Int) + 1)).toNat < a.length - ((n : Int)).toNat
        rw [iw_eq] <;> omega
  · have hnL : n = a.length := by omega
    subst hnL
    rw [List.take_of_length_le (Nat.le_refl _)] at hv
    exact ⟨hB, hv, ho⟩
theorem bv_mul {a b : Big} : bv a * bv b = if (!(a.Negative == b.Negative)) = true then -(val W32 a.Digits * val W32 b.Digits) else val W32 a.Digits * val W32 b.Digits := by
  unfold bv
  cases a.Negative <;> cases b.Negative <;> simp [Int.neg_mul, Int.mul_neg]
theorem bMul_tm {a b : Big} (ha : InB W32 a.Digits) (hb : InB W32 b.Digits) (hl : a.Digits.length ≤ 8796093022208) (hl' : b.Digits.length ≤ 8796093022208) :
    Tm (fun N => bMul N a b) (fun r => Is r (bv a * bv b) ∧ r.Digits.length ≤ a.Digits.length + b.Digits.length) := by
  unfold bMul
  refine Tm.bind (btimes_tm ha hb (by omega) (by omega)) ?_
  rintro s ⟨hs, sv, sl⟩
  refine Tm.bind (bnormal_tm hs (by omega)) (fun r h => Tm.pure ⟨?_, by omega⟩)
  rw [bv_mul, ← sv]
  exact h.1
end Go.D

/-
  Decimal numerals: what the reference's text of a number is. Plain theorems (out of chapters 18 and 02).
-/
import Derived.Test.YtcakdidcpoolcaaGreatDoorM3
import Derived.Lib.ItoaNum
set_option linter.unusedSimpArgs false
set_option linter.unusedVariables false
namespace Go.D
open Go Go.X
theorem getD_set {l : List Int} {n m : Nat} {y : Int} (h : n < l.length) : (l.set n y).getD m 0 = if n = m then y else l.getD m 0 := by
  rw [List.getD_eq_getElem?_getD, List.getD_eq_getElem?_getD, List.getElem?_set]
  by_cases e : n = m
  · subst e; simp [h]
  · simp [e]
theorem sdiv_ok {k : IntKind} {x y : Int} (h : y ≠ 0) : sdiv k x y = some (k.wrap (x.tdiv y)) := by unfold sdiv; rw [if_neg h]
theorem tdivP {x y : Int} (h : 0 ≤ x) : x.tdiv y = x / y := Int.tdiv_eq_ediv_of_nonneg h
theorem tmodP {x y : Int} (h : 0 ≤ x) : x.tmod y = x % y := Int.tmod_eq_emod_of_nonneg h
theorem idx_g {xs : List Int} {i : Int} {n : Nat} (e : i = (n : Int)) (h : n < xs.length) : idx xs i = some (xs.getD n 0) := by
  rw [getD_ok h]; exact idx_i e h
theorem len_le {B : Int} (hB : 1 < B) {a b : List Int} (ha : InB B a) (hb : InB B b) (nb : Nrm b) (h : val B b ≤ val B a) : b.length ≤ a.length := by
  rcases Nat.lt_or_ge a.length b.length with h' | h'
  · have := len_cmp hB ha hb nb h'; omega
  · exact h'
def bitv (j : Nat) : Int := if j = 0 then 0 else 2 ^ (j - 1)
theorem bitv_succ (j : Nat) : bitv (j + 1) = 2 ^ j := by simp [bitv]
theorem bitv_half (j : Nat) (hj : j < 16) : iw (Int.tdiv (bitv (j + 1)) 2) = bitv j := by
  rw [bitv_succ]
  cases j with
  | zero => decide
  | succ j =>
    rw [bitv_succ, tdivP (Int.le_of_lt (Int.pow_pos (by decide))), Int.pow_succ, Int.mul_ediv_cancel _ (by decide)]
    have h1 := pow_pos' (B := 2) (by decide) j
    have h2 := pow_mono (B := 2) (by decide) (show j ≤ 15 by omega)
    have e : (2 : Int) ^ 15 = 32768 := by decide
    rw [iw_eq] <;> omega
theorem half_bit {x : Int} (hx : 0 ≤ x) (j : Nat) : x / 2 ^ j = 2 * (x / 2 ^ (j + 1)) + x / 2 ^ j % 2 := by
  have h := Int.emod_add_mul_ediv (x / 2 ^ j) 2
  have e : x / 2 ^ j / 2 = x / 2 ^ (j + 1) := by rw [Int.ediv_ediv_of_nonneg (Int.le_of_lt (Int.pow_pos (by decide))), Int.pow_succ]
  rw [e] at h; omega
theorem rsplit2_tm {a b q r : List Int} {n : Nat} {H Qh : Int} (ha : InB W16 a) (hb : InB W16 b) (nb : Nrm b) (hb0 : 0 < val W16 b) (hla : a.length ≤ 4398046511104) (hlb : b.length ≤ 4398046511104) (hn : n < a.length) (hq : q.length = a.length) (hqB : InB W16 q) (hqn : q.getD n 0 = 0)
    (hr : Dg W16 r (val W16 r)) (hrlt : val W16 r < val W16 b) (hI : H = val W16 b * Qh + val W16 r) :
    Tm (fun N => loopM (rsplit_b2 N a b n) N (q, r, 32768)) (fun t => t.1.length = a.length ∧ InB W16 t.1 ∧ Dg W16 t.2 (val W16 t.2) ∧ val W16 t.2 < val W16 b ∧ (∀ m, m ≠ n → t.1.getD m 0 = q.getD m 0) ∧ H * 65536 + a.getD n 0 = val W16 b * (Qh * 65536 + t.1.getD n 0) + val W16 t.2) := by
  have hx := ha.getD (B := W16) (by decide) n
  generalize hxx : a.getD n 0 = x at *
  simp only [W16] at hx
  have key : ∀ r : List Int, Dg W16 r (val W16 r) → val W16 r < val W16 b → r.length ≤ b.length := fun r h1 h2 => len_le w16_pos hb h1.inB h1.nrm (by omega)
  refine Tm.loop (fun t : List Int × List Int × Int => ∃ (j : Nat) (y : Int), t.2.2 = bitv j ∧ j ≤ 16 ∧ t.1.length = a.length ∧ InB W16 t.1 ∧ Dg W16 t.2.1 (val W16 t.2.1) ∧ val W16 t.2.1 < val W16 b ∧ (∀ m, m ≠ n → t.1.getD m 0 = q.getD m 0) ∧ 0 ≤ y ∧ y < 2 ^ (16 - j) ∧ t.1.getD n 0 = y * 2 ^ j ∧ H * 2 ^ (16 - j) + x / 2 ^ j = val W16 b * (Qh * 2 ^ (16 - j) + y) + val W16 t.2.1) (fun t => t.2.2.toNat)
    ⟨16, 0, rfl, Nat.le_refl _, hq, hqB, hr, hrlt, fun _ _ => rfl, by simp, by simp, by rw [hqn]; simp, ?_⟩ ?_
  · show H * 2 ^ (16 - 16) + x / 2 ^ 16 = _
    have e : (2 : Int) ^ 16 = 65536 := by decide
    rw [e, Int.ediv_eq_zero_of_lt hx.1 hx.2]
    simp; omega
  rintro ⟨qq, rr, bit⟩ ⟨j, y, rfl, hj, hql, hqqB, hrr, hrrlt, hoth, y0, y1, hy, hI2⟩
  dsimp only [rsplit_b2] at *
  have hr0 := hrr.nonneg (by decide)
  cases j with
  | zero =>
    refine Tm.neg (by decide) (Tm.pure ⟨hql, hqqB, hrr, hrrlt, hoth, ?_⟩)
    simp only [Nat.sub_zero, Int.pow_zero, Int.mul_one, Int.ediv_one] at hy hI2
    have e : (2 : Int) ^ 16 = 65536 := by decide
    rw [e] at hI2
    show H * 65536 + x = val W16 b * (Qh * 65536 + qq.getD n 0) + val W16 rr
    rw [hy]; exact hI2
  | succ j =>
    have hhalf := bitv_half j (by omega)
    rw [hhalf]
    rw [bitv_succ]
    have hP := Int.pow_pos (n := 2) (m := j) (by decide)
    have hP2 : (2 : Int) ^ j ≤ 32768 := pow_mono (B := 2) (by decide) (show j ≤ 15 by omega)
    refine Tm.pos (by omega) ?_
    have hrl := key rr hrr hrrlt
    refine Tm.bind (rplus_tm hrr.inB hrr.inB (by omega) (by omega)) ?_
    rintro r2 ⟨hr2, hr2l⟩
    refine Tm.step (idx_g rfl (by omega)) ?_
    rw [hxx]
    refine Tm.step (sdiv_ok (by omega)) ?_
    rw [tdivP hx.1]
    have hd0 := Int.ediv_nonneg hx.1 (show (0 : Int) ≤ 2 ^ j by omega)
    have hd1 : x / 2 ^ j ≤ x := Int.ediv_le_self _ hx.1
    rw [show IntKind.i64.wrap (x / 2 ^ j) = x / 2 ^ j from wi64 (by omega) (by omega), tmodP hd0]
    have hhb := half_bit hx.1 j
    have hv : val W16 r2 = val W16 rr + val W16 rr := hr2.val
    have r3 : Tm (fun N => if x / 2 ^ j % 2 = 1 then (rplus N r2 [1]).bind fun r1352 => some r1352 else some r2) (fun t => Dg W16 t (2 * val W16 rr + x / 2 ^ j % 2) ∧ t.length ≤ b.length + 2) := by
      refine Tm.ite (fun h => ?_) (fun h => Tm.pure ⟨?_, by omega⟩)
      · refine Tm.bind (rplus_tm hr2.inB (InB.cons (by decide) InB.nil) (by omega) (by simp)) ?_
        rintro t ⟨ht, htl⟩
        refine Tm.pure ⟨?_, by simp only [List.length_cons, List.length_nil] at htl; omega⟩
        rw [hv] at ht
        simp only [val] at ht
        rw [h, show 2 * val W16 rr + 1 = val W16 rr + val W16 rr + (1 + W16 * 0) by omega]; exact ht
      · rw [show 2 * val W16 rr + x / 2 ^ j % 2 = val W16 rr + val W16 rr by omega]; exact hr2
    refine Tm.bind r3 ?_
    rintro r3 ⟨h3, h3l⟩
    refine Tm.bind (rorder_tm h3.inB hb h3.nrm nb (by omega) (by omega)) ?_
    rintro _ rfl
    rw [h3.val]
    have hbit : 0 ≤ x / 2 ^ j % 2 ∧ x / 2 ^ j % 2 ≤ 1 := by omega
    have hsub : 16 - j = (16 - (j + 1)) + 1 := by omega
    have hy2 : (2 : Int) ^ (16 - j) = 2 * 2 ^ (16 - (j + 1)) := by rw [hsub, Int.pow_succ, Int.mul_comm]
    have hyj : y * 2 ^ (j + 1) = 2 * y * 2 ^ j := by rw [Int.pow_succ]; grind
    have hmeas : (bitv j).toNat < ((2 : Int) ^ j).toNat := by
      cases j with
      | zero => decide
      | succ j =>
        rw [bitv_succ, Int.pow_succ]
        have := Int.pow_pos (n := 2) (m := j) (by decide)
        omega
    refine Tm.ite (fun h => ?_) (fun h => Tm.pure ⟨⟨j, 2 * y, rfl, by omega, hql, hqqB, by rw [h3.val]; exact h3, ?_, hoth, by omega, by omega, by rw [hy, hyj], ?_⟩, hmeas⟩)
    · have hge : val W16 b ≤ 2 * val W16 rr + x / 2 ^ j % 2 := by revert h; unfold sgn; split <;> (try split) <;> omega
      have hle : b.length ≤ r3.length := len_le w16_pos h3.inB hb nb (by rw [h3.val]; exact hge)
      refine Tm.bind (rminus_tm h3.inB hb (by omega) hle (by rw [h3.val]; exact hge)) ?_
      rintro r4 ⟨h4, h4l⟩
      rw [h3.val] at h4
      have hqn := hqqB.getD (B := W16) (by decide) n
      refine Tm.step (idx_g rfl (by omega)) (Tm.step (idx_g rfl (by omega)) (Tm.step (upd1_i rfl (by omega)) (Tm.pure ?_)))
      simp only [W16] at hqn
      rw [hy, hyj] at hqn ⊢
      have hq2 : 2 * y * 2 ^ j + 2 ^ j = (2 * y + 1) * 2 ^ j := by grind
      have hlt : (2 * y + 1) * 2 ^ j < 65536 := by
        have h5 := Int.mul_le_mul_of_nonneg_right (show 2 * y + 1 + 1 ≤ 2 ^ (16 - j) by omega) (show (0 : Int) ≤ 2 ^ j by omega)
        rw [← Int.pow_add, show 16 - j + j = 16 by omega] at h5
        have e : (2 : Int) ^ 16 = 65536 := by decide
        have e2 : (2 * y + 1 + 1) * 2 ^ j = (2 * y + 1) * 2 ^ j + 2 ^ j := by grind
        omega
      rw [show iw (2 * y * 2 ^ j + 2 ^ j) = (2 * y + 1) * 2 ^ j by rw [iw_eq] <;> omega]
      refine ⟨⟨j, 2 * y + 1, rfl, by omega, by simp; omega, hqqB.set (by simp only [W16]; omega), by rw [h4.val]; exact h4, by dsimp only; rw [h4.val]; omega, fun m hm => ?_, by omega, by omega, ?_, ?_⟩, hmeas⟩
      · show (qq.set n _).getD m 0 = _
        rw [getD_set (by omega), if_neg (fun e => hm e.symm)]; exact hoth m hm
      · show (qq.set n _).getD n 0 = _
        rw [getD_set (by omega), if_pos rfl]
      · show H * 2 ^ (16 - j) + x / 2 ^ j = val W16 b * (Qh * 2 ^ (16 - j) + (2 * y + 1)) + val W16 r4
        rw [h4.val, hy2, hhb]
        generalize val W16 b = B at *
        generalize val W16 rr = R at *
        generalize (2 : Int) ^ (16 - (j + 1)) = T at *
        generalize x / 2 ^ (j + 1) = X at *
        generalize x / 2 ^ j % 2 = z at *
        grind
    · show val W16 r3 < val W16 b
      rw [h3.val]; revert h; unfold sgn; split <;> (try split) <;> omega
    · show H * 2 ^ (16 - j) + x / 2 ^ j = val W16 b * (Qh * 2 ^ (16 - j) + 2 * y) + val W16 r3
      rw [h3.val, hy2, hhb]
      generalize val W16 b = B at *
      generalize val W16 rr = R at *
      generalize (2 : Int) ^ (16 - (j + 1)) = T at *
      generalize x / 2 ^ (j + 1) = X at *
      generalize x / 2 ^ j % 2 = z at *
      grind
theorem rsplit_tm {a b : List Int} (ha : InB W16 a) (hb : InB W16 b) (nb : Nrm b) (hb0 : 0 < val W16 b) (hla : a.length ≤ 4398046511104) (hlb : b.length ≤ 4398046511104) :
    Tm (fun N => rsplit N a b) (fun t => Dg W16 t.1 (val W16 a / val W16 b) ∧ Dg W16 t.2 (val W16 a % val W16 b) ∧ t.1.length ≤ a.length ∧ t.2.length ≤ b.length) := by
  unfold rsplit
  refine Tm.step (mk1_ok rfl (by omega) (by decide)) ?_
  refine Tm.bind (Q := fun t : List Int × List Int => t.1.length = a.length ∧ InB W16 t.1 ∧ Dg W16 t.2 (val W16 t.2) ∧ val W16 t.2 < val W16 b ∧ val W16 a = val W16 b * val W16 t.1 + val W16 t.2)
    (Tm.loop (fun t : List Int × List Int × Int => ∃ k : Nat, t.2.2 = (k : Int) - 1 ∧ k ≤ a.length ∧ t.1.length = a.length ∧ InB W16 t.1 ∧ Dg W16 t.2.1 (val W16 t.2.1) ∧ val W16 t.2.1 < val W16 b ∧ (∀ m, m < k → t.1.getD m 0 = 0) ∧ val W16 (a.drop k) = val W16 b * val W16 (t.1.drop k) + val W16 t.2.1) (fun t => (t.2.2 + 1).toNat)
      ⟨a.length, by rw [iw_eq] <;> omega, Nat.le_refl _, by simp, InB.rep (by decide), Dg.nil, by simpa [val] using hb0, fun m hm => by rw [getD_ok (by simpa using hm)]; simp, by simp [val]⟩ ?_) ?_
  · rintro ⟨q, r, i⟩ ⟨k, rfl, hk, hq, hqB, hr, hrlt, hz, hv⟩
    dsimp only [rsplit_b1] at *
    refine Tm.ite (fun h => ?_) (fun h => Tm.pure ?_)
    · obtain ⟨n, rfl⟩ : ∃ n, k = n + 1 := ⟨k - 1, by omega⟩
      have hi : ((n + 1 : Nat) : Int) - 1 = (n : Int) := by omega
      rw [hi]
      refine Tm.bind (rsplit2_tm (n := n) ha hb nb hb0 hla hlb (by omega) hq hqB (hz n (by omega)) hr hrlt hv) ?_
      rintro ⟨q', r'⟩ ⟨h1, h2, h3, h4, h5, h6⟩
      dsimp only at *
      refine Tm.pure ⟨⟨n, by show iw ((n : Int) - 1) = _; rw [iw_eq] <;> omega, by omega, h1, h2, h3, h4, fun m hm => ?_, ?_⟩, ?_⟩
      · show q'.getD m 0 = 0
        rw [h5 m (by omega)]; exact hz m (by omega)
      · show val W16 (a.drop n) = val W16 b * val W16 (q'.drop n) + val W16 r'
        have hqd : q'.drop (n + 1) = q.drop (n + 1) := by
          apply List.ext_getElem (by simp; omega)
          intro i g1 g2
          rw [List.getElem_drop, List.getElem_drop]
          have := h5 (n + 1 + i) (by omega)
          simp only [List.length_drop] at g1 g2
          rwa [getD_ok (by omega), getD_ok (by omega)] at this
        rw [List.drop_eq_getElem_cons (l := a) (by omega), List.drop_eq_getElem_cons (l := q') (by omega), val_cons, val_cons, hqd, ← getD_ok (l := a), ← getD_ok (l := q')]
        have hw : W16 = 65536 := rfl
        rw [hw] at *
        generalize val 65536 (a.drop (n + 1)) = H at *
        generalize val 65536 (q.drop (n + 1)) = Qh at *
        have e1 : a.getD n 0 + 65536 * H = H * 65536 + a.getD n 0 := by omega
        have e2 : q'.getD n 0 + 65536 * Qh = Qh * 65536 + q'.getD n 0 := by omega
        rw [e1, e2]; exact h6
      · show (iw ((n : Int) - 1) + 1).toNat < ((n : Int) + 1).toNat
        rw [iw_eq] <;> omega
    · obtain rfl : k = 0 := by omega
      simp only [List.drop_zero] at hv
      exact ⟨hq, hqB, hr, hrlt, hv⟩
  · rintro ⟨q, r⟩ ⟨hq, hqB, hr, hrlt, hv⟩
    dsimp only at *
    refine Tm.bind (rtrim_tm hqB (by omega)) ?_
    rintro q' ⟨hq', hql⟩
    have hr0 := hr.nonneg (by decide)
    have hdm := (Int.ediv_emod_unique (a := val W16 a) (b := val W16 b) (r := val W16 r) (q := val W16 q) hb0).2 ⟨by omega, hr0, hrlt⟩
    refine Tm.pure ⟨?_, ?_, by dsimp only; omega, len_le w16_pos hb hr.inB hr.nrm (show val W16 r ≤ val W16 b by omega)⟩
    · rw [hdm.1]; exact hq'
    · rw [hdm.2]; exact hr
def dec (n : Nat) : List UInt8 := if h : n = 0 then [] else dec (n / 10) ++ [UInt8.ofNat (48 + n % 10)]
termination_by n
decreasing_by omega
theorem dec_zero : dec 0 = [] := by rw [dec]; simp
theorem dec_pos {n : Nat} (h : 0 < n) : dec n = dec (n / 10) ++ [UInt8.ofNat (48 + n % 10)] := by
  rw [dec, dif_neg (by omega)]
theorem dec_ne {n : Nat} (h : 0 < n) : dec n ≠ [] := by rw [dec_pos h]; simp
theorem decDigits_dec {n : Nat} (h : 0 < n) : Go.Lib.decDigits n = dec n := by
  induction n using Nat.strongRecOn with
  | ind n ih =>
    rw [Go.Lib.decDigits]
    split
    · rename_i h10
      rw [dec_pos h, show n / 10 = 0 by omega, dec_zero, show n % 10 = n by omega]; rfl
    · rw [ih (n / 10) (by omega) (by omega), dec_pos h]
theorem decDigits_zero : Go.Lib.decDigits 0 = [48] := by rw [Go.Lib.decDigits, dif_pos (by omega)]; rfl
theorem decDigits_len : ∀ {k r : Nat}, 0 < k → r < 10 ^ k → (Go.Lib.decDigits r).length ≤ k
  | 0, _, h, _ => by omega
  | k + 1, r, _, hr => by
    rw [Go.Lib.decDigits]
    split
    · simp
    · have hk : 0 < k := by
        rcases Nat.eq_zero_or_pos k with rfl | h
        · simp at hr; omega
        · exact h
      have := decDigits_len (k := k) (r := r / 10) hk (by rw [Nat.pow_succ] at hr; omega)
      simp; omega
def txt (v : Int) : List UInt8 := if v < 0 then 45 :: dec v.natAbs else Go.Lib.decDigits v.toNat
theorem txt_neg {v : Int} (h : v < 0) : txt v = 45 :: dec v.natAbs := by rw [txt, if_pos h]
theorem txt_pos {v : Int} (h : 0 < v) : txt v = dec v.toNat := by rw [txt, if_neg (by omega), decDigits_dec (by omega)]
theorem txt_zero : txt 0 = [48] := by rw [txt, if_neg (by omega)]; exact decDigits_zero
theorem pos_len {B : Int} (hB : 0 < B) {l : List Int} {v : Int} (h : Dg B l v) : (List.length l : Int) > 0 ↔ v ≠ 0 := by
  have := h.zero hB
  cases l with
  | nil =>
    have h0 := this.1 rfl
    simp [h0]
  | cons x l =>
    have h0 : v ≠ 0 := fun e => by have := this.2 e; cases this
    simp only [List.length_cons]
    exact ⟨fun _ => h0, fun _ => by omega⟩
theorem w32_8 : W32 ^ 10 ≤ (10 : Int) ^ 97 := by decide +kernel
theorem dec_len {n : Nat} (h : n < 10 ^ 97) : (dec n).length ≤ 97 := by
  rcases Nat.eq_zero_or_pos n with rfl | h0
  · rw [dec_zero]; simp
  · rw [← decDigits_dec h0]; exact decDigits_len (by omega) h
theorem inB10 : InB W16 [10] := InB.cons (by decide) InB.nil
theorem small16 {r : List Int} {v : Nat} (h : Dg W16 r v) (hv : v < 65536) : (v = 0 ∧ r = []) ∨ (0 < v ∧ r = [(v : Int)]) := by
  rcases Nat.eq_zero_or_pos v with h0 | h0
  · exact .inl ⟨h0, (h.zero (by decide)).2 (by omega)⟩
  · refine .inr ⟨h0, h.uniq w16_pos ⟨InB.cons (by simp only [W16]; omega) InB.nil, ?_, ?_⟩⟩
    · simp [Nrm]; omega
    · simp [val]
theorem bstr_dg {d : Nat} (h : d < 10) : bstr [uw8 (iw (48 + (d : Int)))] = [UInt8.ofNat (48 + d)] := by
  have e : uw8 (iw (48 + (d : Int))) = ((48 + d : Nat) : Int) := by
    show IntKind.u8.wrap _ = _
    rw [iw_eq (by omega) (by omega), wu8]; omega
  rw [e]; simp only [bstr, List.map_cons, List.map_nil, Int.toNat_natCast]
theorem val_8 {l : List Int} (h : InB W32 l) (hl : l.length ≤ 10) : (val W32 l).toNat < 10 ^ 97 := by
  have h1 := val_lt (B := W32) (by decide) h
  have h2 := pow_mono (B := W32) (by decide) hl
  have h3 := w32_8
  have h4 := val_nonneg (B := W32) (by decide) h
  have : ((val W32 l).toNat : Int) < ((10 ^ 97 : Nat) : Int) := by rw [Int.natCast_pow]; omega
  exact Int.ofNat_lt.1 this
theorem rText_tm {x : Big} (hd : InB W32 x.Digits) (hl : x.Digits.length ≤ 10) : Tm (fun N => rText N x) (fun r => r = txt (bv x)) := by
  unfold rText
  refine Tm.bind (halves_tm hd (by omega)) ?_
  rintro l ⟨hl1, hl2⟩
  have hV := val_8 hd hl
  have hnn := val_nonneg (B := W32) (by decide) hd
  generalize hVe : (val W32 x.Digits).toNat = V at *
  have hVi : val W32 x.Digits = (V : Int) := by omega
  have hlen := dec_len hV
  refine Tm.bind (Q := fun s : List UInt8 => s = dec V)
    (Tm.loop (fun t : List Int × List UInt8 => ∃ n : Nat, Dg W16 t.1 n ∧ t.1.length ≤ 20 ∧ dec n ++ t.2 = dec V) (fun t => (val W16 t.1).toNat)
      ⟨V, hVi ▸ hl1, by show l.length ≤ 20; omega, by simp⟩ ?_) ?_
  · rintro ⟨l, s⟩ ⟨n, hn, hln, hs⟩
    dsimp only [rText_b1] at *
    have hsl : s.length ≤ 97 := by
      have := congrArg List.length hs
      rw [List.length_append] at this; omega
    refine Tm.ite (fun h => ?_) (fun h => Tm.pure ?_)
    · have hn0 : (n : Int) ≠ 0 := (pos_len (by decide) hn).1 h
      refine Tm.bind (rsplit_tm hn.inB inB10 (by simp [Nrm]) (by decide) (by omega) (by simp)) ?_
      rintro ⟨q, r⟩ ⟨h1, h2, h3, h4⟩
      dsimp only at *
      rw [hn.val, show val W16 [10] = 10 by decide] at h1 h2
      have h1' : Dg W16 q ((n / 10 : Nat) : Int) := by
        rw [show ((n / 10 : Nat) : Int) = (n : Int) / 10 by omega]; exact h1
      have h2' : Dg W16 r ((n % 10 : Nat) : Int) := by
        rw [show ((n % 10 : Nat) : Int) = (n : Int) % 10 by omega]; exact h2
      refine Tm.bind (Q := fun d : Int => d = ((n % 10 : Nat) : Int)) (Tm.ite (fun h => ?_) (fun h => Tm.pure ?_)) ?_
      · rcases small16 h2' (by omega) with ⟨h5, rfl⟩ | ⟨h5, rfl⟩
        · simp at h
        · exact Tm.step (idx_i (n := 0) rfl (by simp)) (Tm.pure rfl)
      · rcases small16 h2' (by omega) with ⟨h5, rfl⟩ | ⟨h5, rfl⟩
        · rw [h5]; rfl
        · simp at h
      · rintro _ rfl
        rw [bstr_dg (by omega)]
        refine Tm.step (chk_ok (by simp only [List.length_cons, List.length_nil]; omega)) (Tm.pure ⟨⟨n / 10, h1', by show q.length ≤ 20; omega, ?_⟩, ?_⟩)
        · rw [← hs, dec_pos (n := n) (by omega), List.append_assoc]
        · show (val W16 q).toNat < (val W16 l).toNat
          rw [h1'.val, hn.val]; omega
    · have hn0 : n = 0 := by
        rcases Nat.eq_zero_or_pos n with h1 | h1
        · exact h1
        · exact absurd ((pos_len (by decide) hn).2 (by omega)) h
      rw [hn0, dec_zero] at hs
      exact hs
  · rintro s hs
    refine Tm.ite (fun h => Tm.pure ?_) (fun h => ?_)
    · have h0 : V = 0 := by
        rcases Nat.eq_zero_or_pos V with h1 | h1
        · exact h1
        · exact absurd (hs.symm.trans h) (dec_ne h1)
      have : bv x = 0 := by unfold bv; rw [hVi, h0]; split <;> rfl
      rw [this, txt_zero]
    · have h0 : 0 < V := by
        rcases Nat.eq_zero_or_pos V with h1 | h1
        · rw [h1, dec_zero] at hs; exact absurd hs h
        · exact h1
      refine Tm.ite (fun h => ?_) (fun h => Tm.pure ?_)
      · refine Tm.step (chk_ok (by rw [hs]; simp only [List.length_cons, List.length_nil]; omega)) (Tm.pure ?_)
        have : bv x = -(V : Int) := by unfold bv; rw [hVi, if_pos h]
        rw [this, txt_neg (by omega), show (-(V : Int)).natAbs = V by omega, hs]; rfl
      · have : bv x = (V : Int) := by unfold bv; rw [hVi, if_neg h]
        rw [this, txt_pos (by omega), Int.toNat_natCast, hs]
theorem itoa_txt (n : Int) : Go.Lib.itoa n = txt n := by
  unfold Go.Lib.itoa txt
  split
  · rw [decDigits_dec (by omega)]
  · rfl
theorem txt_len {n : Int} (h1 : -9223372036854775808 ≤ n) (h2 : n ≤ 9223372036854775807) : (txt n).length ≤ 20 := by
  have e : (18446744073709551616 : Nat) ≤ 10 ^ 20 := by decide
  unfold txt
  split
  · rw [← decDigits_dec (by omega), List.length_cons]
    have := decDigits_len (k := 19) (r := n.natAbs) (by decide) (by have : (9223372036854775809 : Nat) ≤ 10 ^ 19 := by decide
                                                                    omega)
    omega
  · exact decDigits_len (by decide) (by omega)
end Go.D

/-
 What the plain reference's counterparts of the same numbers reckon. Plain theorems.
-/
import Derived.Test.YtcakdidcpoolcaaGreatDoorM2
import Derived.Test.YtcakdidcpoolcaaGreatDoorPR
set_option linter.unusedSimpArgs false
set_option linter.unusedVariables false
namespace Go.D
open Go Go.X
abbrev W16 : Int := 65536
theorem w16_pos : (1 : Int) < W16 := by decide
theorem tmod16 {x : Int} (h : 0 ≤ x) : Int.tmod x 65536 = x % 65536 := Int.tmod_eq_emod_of_nonneg h
theorem tdiv16 {x : Int} (h : 0 ≤ x) : Int.tdiv x 65536 = x / 65536 := Int.tdiv_eq_ediv_of_nonneg h
theorem rtrim_tm {l : List Int} (hd : InB W16 l) (hl : l.length ≤ 35184372088832) : Tm (fun N => rtrim N l) (fun r => Dg W16 r (val W16 l) ∧ r.length ≤ l.length) := by
 unfold rtrim
 refine Tm.bind (Tm.loop (fun s : List Int => ∃ n : Nat, n ≤ l.length ∧ s = l.take n ∧ (∀ j, (hj : j < l.length) → n ≤ j → l[j] = 0)) (fun s => s.length) (Q := fun r => Dg W16 r (val W16 l) ∧ r.length ≤ l.length) ⟨l.length, Nat.le_refl _, by simp, fun j h1 h2 => absurd h1 (by omega)⟩ ?_) (fun r h => Tm.pure h)
 rintro _ ⟨n, hn, rfl, h0⟩
 have hlen : (l.take n).length = n := by simp; omega
 dsimp only [rtrim_b1]
 rcases Nat.eq_zero_or_pos n with rfl | hk0
 · refine Tm.bind (Q := (· = false)) (Tm.neg (by simp) (Tm.pure rfl)) ?_
   rintro _ rfl
   exact Tm.neg (by simp) (Tm.pure ⟨dg_cut hn hd h0 (.inl rfl), by simp⟩)
 · refine Tm.bind (Q := (· = decide (l[n - 1] = 0))) (Tm.pos (by omega) (Tm.step (idx_i (n := n - 1) (by rw [iw_eq] <;> omega) (by omega)) (Tm.pure ?_))) ?_
   · rw [List.getElem_take]
   rintro _ rfl
   by_cases h : l[n - 1] = 0
   · refine Tm.pos (by simpa using h) (Tm.step (cut_i (m := 0) (n := n - 1) rfl (by rw [iw_eq] <;> omega) (by omega) (by omega)) (Tm.pure ⟨⟨n - 1, by omega, ?_, fun j h1 h2 => ?_⟩, ?_⟩))
     · simp [List.take_take]
     · rcases Nat.eq_or_lt_of_le h2 with rfl | h3
       · exact h
       · exact h0 j h1 (by omega)
     · simp; omega
   · exact Tm.neg (by simpa using h) (Tm.pure ⟨dg_cut hn hd h0 (.inr ⟨by omega, h⟩), by omega⟩)
theorem halves_tm {x : Big} (hd : InB W32 x.Digits) (hl : x.Digits.length ≤ 8796093022208) : Tm (fun N => halves N x) (fun r => Dg W16 r (val W32 x.Digits) ∧ r.length ≤ 2 * x.Digits.length) := by
 unfold halves
 refine Tm.bind (Tm.loop (fun s : List Int × Int => ∃ n : Nat, s.2 = n ∧ n ≤ x.Digits.length ∧ s.1.length = 2 * n ∧ InB W16 s.1 ∧ val W16 s.1 = val W32 (x.Digits.take n)) (fun s => x.Digits.length - s.2.toNat) (Q := fun r => InB W16 r ∧ val W16 r = val W32 x.Digits ∧ r.length = 2 * x.Digits.length) ⟨0, rfl, Nat.zero_le _, rfl, .nil, by simp [val]⟩ ?_) ?_
 · rintro ⟨l, i⟩ ⟨n, rfl, hn, ho, hB, hv⟩
   dsimp only [halves_b1] at *
   refine Tm.ite (fun h => ?_) (fun h => Tm.pure ?_)
   · refine Tm.step (idx_ok (by omega)) (Tm.step (idx_ok (by omega)) ?_)
     have hx := hd.get (n := n) (by omega)
     have ex : x.Digits.getD n 0 = x.Digits[n]'(by omega) := by rw [List.getD_eq_getElem?_getD, List.getElem?_eq_getElem (by omega)]; rfl
     generalize x.Digits[n]'(by omega) = y at *
     simp only [W32] at hx
     rw [tmod16 hx.1, tdiv16 hx.1, uw32_mod]
     have e1 : iw (y % 65536) = y % 65536 := by rw [iw_eq] <;> omega
     have e2 : iw (y / 65536 % 4294967296) = y / 65536 := by rw [iw_eq] <;> omega
     rw [e1, e2]
     refine Tm.step (apnd_ok (by simp only [List.length_cons, List.length_nil]; omega) (by decide)) (Tm.pure ⟨⟨n + 1, by dsimp only; rw [iw_eq] <;> omega, by omega, by simp; omega, hB.append (.cons (B := 65536) (by omega) (.cons (by omega) .nil)), ?_⟩, ?_⟩)
     · show val W16 (l ++ [y % 65536, y / 65536]) = _
       rw [val_append, val_take, ho, hv, ex, Int.pow_mul]
       have : val W16 [y % 65536, y / 65536] = y := by simp only [val, W16]; omega
       rw [this]; rfl
     · dsimp only; rw [iw_eq] <;> omega
   · have hnL : n = x.Digits.length := by omega
     subst hnL
     rw [List.take_of_length_le (Nat.le_refl _)] at hv
     exact ⟨hB, hv, ho⟩
 · rintro r ⟨h1, h2, h3⟩
   exact Tm.bind (rtrim_tm h1 (by omega)) (fun r' h => Tm.pure ⟨h2 ▸ h.1, by omega⟩)
theorem nrm_snoc {l : List Int} {d : Int} (h : d ≠ 0) : Nrm (l ++ [d]) := by simp [Nrm, h]
theorem rbig_tm {neg : Bool} {l : List Int} (hd : InB W16 l) (hl : l.length ≤ 17592186044416) : Tm (fun N => rbig N neg l) (fun r => Is r (if neg = true then - val W16 l else val W16 l) ∧ r.Digits.length ≤ (l.length + 1) / 2) := by
 unfold rbig
 refine Tm.bind (rtrim_tm hd (by omega)) ?_
 rintro t ⟨ht, htl⟩
 have h0 := ht.nonneg (by decide)
 have hz := ht.zero (by decide)
 refine Tm.bind (Q := (· = (neg && decide (val W16 l ≠ 0)))) (Tm.ite (fun h => Tm.pure ?_) (fun h => Tm.pure ?_)) ?_
 · rw [h]
   by_cases e : t = []
   · have := hz.1 e; simp [e, this]
   · have : val W16 l ≠ 0 := fun e' => e (hz.2 e')
     have := List.length_pos_iff.2 e
     simp_all
 · simp at h; simp [h]
 rintro _ rfl
 refine Tm.bind (Tm.loop (fun s : List Int × Int => ∃ n : Nat, s.2 = ((2 * n : Nat) : Int) ∧ 2 * n ≤ t.length + 1 ∧ s.1.length = n ∧ InB W32 s.1 ∧ val W32 s.1 = val W16 (t.take (2 * n)) ∧ (t.length ≤ 2 * n → Nrm s.1)) (fun s => t.length + 2 - s.2.toNat) (Q := fun r => Dg W32 r (val W16 t) ∧ r.length ≤ (t.length + 1) / 2)
  ⟨0, rfl, by omega, rfl, .nil, by simp [val], fun _ => nrm_nil⟩ ?_) ?_
 · rintro ⟨ds, i⟩ ⟨n, rfl, hn, ho, hB, hv, hN⟩
   dsimp only [rbig_b1] at *
   refine Tm.ite (fun h => ?_) (fun h => Tm.pure ?_)
   · refine Tm.step (idx_ok (by omega)) ?_
     have hx := ht.inB.get (n := 2 * n) (by omega)
     have ex : t.getD (2 * n) 0 = t[2 * n]'(by omega) := by rw [List.getD_eq_getElem?_getD, List.getElem?_eq_getElem (by omega)]; rfl
     have hlast : t.length = 2 * n + 1 → t[2 * n]'(by omega) ≠ 0 := fun e h' => ht.nrm (by rw [List.getLast?_eq_getElem?, e, Nat.add_sub_cancel, List.getElem?_eq_getElem (by omega), h'])
     generalize t[2 * n]'(by omega) = x at *
     have hi : iw (((2 * n : Nat) : Int) + 1) = ((2 * n + 1 : Nat) : Int) := by rw [iw_eq] <;> omega
     refine Tm.bind (Q := fun d => d = x + 65536 * t.getD (2 * n + 1) 0 ∧ (t.length ≤ 2 * n + 2 → d ≠ 0)) ?_ ?_
     · refine Tm.ite (fun h1 => ?_) (fun h1 => Tm.pure ?_)
       · refine Tm.step (idx_i hi (by omega)) (Tm.pure ?_)
         have hy := ht.inB.get (n := 2 * n + 1) (by omega)
         have ey : t.getD (2 * n + 1) 0 = t[2 * n + 1]'(by omega) := by rw [List.getD_eq_getElem?_getD, List.getElem?_eq_getElem (by omega)]; rfl
         have hlast' : t.length = 2 * n + 2 → t[2 * n + 1]'(by omega) ≠ 0 := fun e h' => ht.nrm (by rw [List.getLast?_eq_getElem?, e, show 2 * n + 2 - 1 = 2 * n + 1 by omega, List.getElem?_eq_getElem (by omega), h'])
         rw [ey]
         generalize t[2 * n + 1]'(by omega) = y at *
         simp only [W16] at hx hy
         have e1 : uw32 (uw32 x + uw32 (65536 * uw32 y)) = x + 65536 * y := by
          rw [uw32_mod, uw32_mod, uw32_mod, uw32_mod]; omega
         rw [e1]
         exact ⟨rfl, fun h' => by have := hlast' (by omega); omega⟩
       · have ey : t.getD (2 * n + 1) 0 = 0 := by rw [List.getD_eq_getElem?_getD, List.getElem?_eq_none (by omega)]; rfl
         rw [ey]
         simp only [W16] at hx
         have := hlast (by omega)
         rw [uw32_mod]
         exact ⟨by omega, fun _ => by omega⟩
     · rintro _ ⟨rfl, hd0⟩
       have hy := ht.inB.getD (by decide) (2 * n + 1)
       have et : val W16 (t.take (2 * (n + 1))) = val W16 (t.take (2 * n)) + W16 ^ (2 * n) * (x + 65536 * t.getD (2 * n + 1) 0) := by
        rw [show 2 * (n + 1) = 2 * n + 1 + 1 by omega, val_take, val_take, ex, Int.pow_succ]
        have hw : W16 = 65536 := rfl
        grind
       generalize t.getD (2 * n + 1) 0 = y at *
       simp only [W16] at hx hy
       refine Tm.step (apnd_ok (by simp only [List.length_cons, List.length_nil]; omega) (by decide)) (Tm.pure ⟨⟨n + 1, by dsimp only; rw [iw_eq] <;> omega, by omega, by simp; omega, hB.append (.cons (B := 4294967296) (by omega) .nil), ?_, fun h' => nrm_snoc (hd0 (by omega))⟩, ?_⟩)
       · show val W32 (ds ++ [x + 65536 * y]) = _
         rw [val_append, et, ho, hv, Int.pow_mul]
         have hw : W16 ^ 2 = W32 := by decide
         rw [hw]; simp only [val]; simp
       · dsimp only; rw [iw_eq] <;> omega
   · rw [List.take_of_length_le (by omega)] at hv
     exact ⟨⟨hB, hN (by omega), hv⟩, by omega⟩
 · rintro r ⟨hr, hrl⟩
   refine Tm.pure ⟨⟨?_, ?_⟩, Nat.le_trans (show r.length ≤ _ from hrl) (Nat.div_le_div_right (by omega))⟩
   · have e : (((if neg = true then - val W16 l else val W16 l) : Int).natAbs : Int) = val W16 t := by rw [ht.val]; cases neg <;> simp <;> omega
     rw [e]; exact hr
   · show (neg && decide (val W16 l ≠ 0)) = _
     by_cases e : val W16 l = 0
     · cases neg <;> simp [e]
     · cases neg
       · simp; omega
       · have : -val W16 l < 0 := by omega
         simp [e, this]; omega
theorem rorder_tm {a b : List Int} (ha : InB W16 a) (hb : InB W16 b) (na : Nrm a) (nb : Nrm b) (hl : a.length ≤ 35184372088832) (hl' : b.length ≤ 35184372088832) : Tm (fun N => rorder N a b) (fun r => r = sgn (val W16 a) (val W16 b)) := by
 unfold rorder
 refine Tm.ite (fun h => ?_) (fun h => ?_)
 · refine Tm.ite (fun h' => Tm.pure ?_) (fun h' => Tm.pure ?_)
   · have := len_cmp w16_pos ha hb nb (by omega)
     unfold sgn; rw [if_pos this]
   · have := len_cmp w16_pos hb ha na (by omega)
     unfold sgn; rw [if_neg (by omega), if_pos this]
 · have hle : a.length = b.length := by omega
   refine Tm.bind (Q := fun r : Sum Unit Int => (match r with | .inl _ => 0 | .inr z => z) = sgn (val W16 a) (val W16 b))
    (Tm.loop (fun i : Int => ∃ n : Nat, i = (n : Int) - 1 ∧ n ≤ a.length ∧ a.drop n = b.drop n) (fun i => (i + 1).toNat) ⟨a.length, by rw [iw_eq] <;> omega, Nat.le_refl _, by rw [List.drop_of_length_le (Nat.le_refl _), List.drop_of_length_le (by omega)]⟩ ?_) ?_
   · rintro _ ⟨n, rfl, hn, hd⟩
     dsimp only [rorder_b1]
     refine Tm.ite (fun h1 => ?_) (fun h1 => ?_)
     · have hna : n - 1 < a.length := by omega
       have hnb : n - 1 < b.length := by omega
       refine Tm.step (idx_i (n := n - 1) (by omega) hna) (Tm.step (idx_i (n := n - 1) (by omega) hnb) (Tm.ite (fun h2 => ?_) (fun h2 => ?_)))
       · have := val_cmp w16_pos ha hb hle hna (by rw [show n - 1 + 1 = n by omega]; exact hd) h2
         refine Tm.pure ?_
         show (-1 : Int) = _
         unfold sgn; rw [if_pos this]
       · refine Tm.step (idx_i (n := n - 1) (by omega) hna) (Tm.step (idx_i (n := n - 1) (by omega) hnb) (Tm.ite (fun h3 => ?_) (fun h3 => ?_)))
         · have := val_cmp w16_pos hb ha hle.symm hnb (by rw [show n - 1 + 1 = n by omega]; exact hd.symm) h3
           refine Tm.pure ?_
           show (1 : Int) = _
           unfold sgn; rw [if_neg (by omega), if_pos this]
         · refine Tm.pure ⟨⟨n - 1, by rw [iw_eq] <;> omega, by omega, ?_⟩, ?_⟩
           · rw [List.drop_eq_getElem_cons hna, List.drop_eq_getElem_cons hnb, show n - 1 + 1 = n by omega, hd, show a[n - 1] = b[n - 1] by omega]
           · show (iw ((n : Int) - 1 - 1) + 1).toNat < ((n : Int) - 1 + 1).toNat
             rw [iw_eq] <;> omega
     · have : n = 0 := by omega
       subst this
       refine Tm.pure ?_
       show (0 : Int) = _
       have : a = b := by simpa using hd
       rw [this]; unfold sgn; rw [if_neg (by omega), if_neg (by omega)]
   · rintro (_ | z) h <;> exact Tm.pure h
theorem getD_ok {l : List Int} {n : Nat} (h : n < l.length) : l.getD n 0 = l[n] := by rw [List.getD_eq_getElem?_getD, List.getElem?_eq_getElem h]; rfl
theorem getD_out {l : List Int} {n : Nat} (h : l.length ≤ n) : l.getD n 0 = 0 := by rw [List.getD_eq_getElem?_getD, List.getElem?_eq_none h]; rfl
theorem take_all {l : List Int} {n : Nat} (h : l.length ≤ n) : l.take n = l := List.take_of_length_le h
theorem rplus_tm {a b : List Int} (ha : InB W16 a) (hb : InB W16 b) (hl : a.length ≤ 8796093022208) (hl' : b.length ≤ 8796093022208) : Tm (fun N => rplus N a b) (fun r => Dg W16 r (val W16 a + val W16 b) ∧ r.length ≤ max a.length b.length + 1) := by
 unfold rplus
 generalize hL : max a.length b.length = L
 refine Tm.bind (Q := fun r => InB W16 r ∧ val W16 r = val W16 a + val W16 b ∧ r.length ≤ L + 1)
  (Tm.loop (fun s : List Int × Int × Int => ∃ n : Nat, s.2.2 = n ∧ n ≤ L + 1 ∧ s.1.length = n ∧ InB W16 s.1 ∧ 0 ≤ s.2.1 ∧ s.2.1 ≤ 1 ∧ (L < n → s.2.1 = 0) ∧ val W16 s.1 + W16 ^ n * s.2.1 = val W16 (a.take n) + val W16 (b.take n)) (fun s => L + 1 - s.2.2.toNat)
   ⟨0, rfl, Nat.zero_le _, rfl, .nil, by simp, by simp, fun _ => rfl, by simp [val]⟩ ?_) ?_
 · rintro ⟨out, carry, i⟩ ⟨n, rfl, hn, ho, hB, h0, h1, hc, hv⟩
   dsimp only [rplus_b1] at *
   refine Tm.bind (Q := (· = decide (n < L ∨ 0 < carry))) (Tm.ite (fun h => Tm.pure ?_) (fun h => Tm.ite (fun h' => Tm.pure ?_) (fun h' => Tm.pure ?_))) ?_
   · have : n < L := by omega
     simp [this]
   · have : n < L := by omega
     simp [this]
   · have : ¬ n < L := by omega
     simp [this]
   rintro _ rfl
   refine Tm.ite (fun h => ?_) (fun h => Tm.pure ?_)
   · have h := of_decide_eq_true h
     have hx := ha.getD (by decide) n
     have hy := hb.getD (by decide) n
     simp only [W16] at hx hy
     refine Tm.bind (Q := (· = carry + a.getD n 0)) (Tm.ite (fun h2 => ?_) (fun h2 => Tm.pure ?_)) ?_
     · rw [getD_ok (l := a) (by omega)] at *
       refine Tm.step (idx_ok (by omega)) (Tm.pure ?_)
       rw [iw_eq] <;> omega
     · rw [getD_out (by omega)]; omega
     rintro _ rfl
     refine Tm.bind (Q := (· = carry + a.getD n 0 + b.getD n 0)) (Tm.ite (fun h2 => ?_) (fun h2 => Tm.pure ?_)) ?_
     · rw [getD_ok (l := b) (by omega)] at *
       refine Tm.step (idx_ok (by omega)) (Tm.pure ?_)
       rw [iw_eq] <;> omega
     · rw [getD_out (l := b) (by omega)]; omega
     rintro _ rfl
     have hz : L ≤ n → a.getD n 0 = 0 ∧ b.getD n 0 = 0 := fun h => ⟨getD_out (by omega), getD_out (by omega)⟩
     generalize ex : a.getD n 0 = x at *
     generalize ey : b.getD n 0 = y at *
     rw [tmod16 (by omega), tdiv16 (by omega)]
     refine Tm.step (apnd_ok (by simp only [List.length_cons, List.length_nil]; omega) (by decide)) (Tm.pure ⟨⟨n + 1, ?_, by omega, by simp; omega, hB.append (.cons (B := 65536) (by omega) .nil), ?_, ?_, ?_, ?_⟩, ?_⟩)
     · show iw ((n : Int) + 1) = _
       rw [iw_eq] <;> omega
     · show 0 ≤ iw ((carry + x + y) / 65536)
       rw [iw_eq] <;> omega
     · show iw ((carry + x + y) / 65536) ≤ 1
       rw [iw_eq] <;> omega
     · intro h'
       show iw ((carry + x + y) / 65536) = 0
       have := hz (by omega)
       rw [iw_eq] <;> omega
     · show val W16 (out ++ [(carry + x + y) % 65536]) + W16 ^ (n + 1) * iw ((carry + x + y) / 65536) = _
       rw [iw_eq (by omega) (by omega), val_append, val_take, val_take, ex, ey, ho, Int.pow_succ]
       have := Int.emod_add_mul_ediv (carry + x + y) 65536
       have hw : W16 = 65536 := rfl
       simp only [val]
       grind
     · show L + 1 - (iw ((n : Int) + 1)).toNat < L + 1 - ((n : Int)).toNat
       rw [iw_eq] <;> omega
   · have h : ¬ (n < L ∨ 0 < carry) := fun e => h (decide_eq_true e)
     rw [take_all (by omega), take_all (by omega), show carry = 0 by omega] at hv
     exact ⟨hB, by show val W16 out = _; omega, by show out.length ≤ _; omega⟩
 · rintro r ⟨h1, h2, h3⟩
   exact Tm.bind (rtrim_tm h1 (by omega)) (fun r' h => Tm.pure ⟨h2 ▸ h.1, by omega⟩)
theorem rminus_tm {a b : List Int} (ha : InB W16 a) (hb : InB W16 b) (hl : a.length ≤ 8796093022208) (hl' : b.length ≤ a.length) (hv : val W16 b ≤ val W16 a) : Tm (fun N => rminus N a b) (fun r => Dg W16 r (val W16 a - val W16 b) ∧ r.length ≤ a.length) := by
 unfold rminus
 generalize hL : a.length = L at *
 refine Tm.bind (Q := fun r => InB W16 r ∧ val W16 r = val W16 a - val W16 b ∧ r.length = L)
  (Tm.loop (fun s : List Int × Int × Int => ∃ n : Nat, s.2.2 = n ∧ n ≤ L ∧ s.1.length = n ∧ InB W16 s.1 ∧ 0 ≤ s.2.1 ∧ s.2.1 ≤ 1 ∧ val W16 s.1 = val W16 (a.take n) - val W16 (b.take n) + W16 ^ n * s.2.1) (fun s => L - s.2.2.toNat)
   ⟨0, rfl, Nat.zero_le _, rfl, .nil, by simp, by simp, by simp [val]⟩ ?_) ?_
 · rintro ⟨out, borrow, i⟩ ⟨n, rfl, hn, ho, hB, h0, h1, hv'⟩
   dsimp only [rminus_b1] at *
   refine Tm.ite (fun h => ?_) (fun h => Tm.pure ?_)
   · have hx := ha.getD (by decide) n
     have hy := hb.getD (by decide) n
     simp only [W16] at hx hy
     refine Tm.step (idx_ok (by omega)) ?_
     rw [← getD_ok (by omega)]
     refine Tm.bind (Q := (· = a.getD n 0 - borrow - b.getD n 0)) (Tm.ite (fun h2 => ?_) (fun h2 => Tm.pure ?_)) ?_
     · rw [getD_ok (l := b) (by omega)] at *
       refine Tm.step (idx_ok (by omega)) (Tm.pure ?_)
       rw [iw_eq, iw_eq] <;> (try rw [iw_eq]) <;> omega
     · rw [getD_out (l := b) (by omega), iw_eq] <;> omega
     rintro _ rfl
     generalize ex : a.getD n 0 = x at *
     generalize ey : b.getD n 0 = y at *
     refine Tm.bind (Q := fun p : Int × Int => 0 ≤ p.1 ∧ p.1 ≤ 1 ∧ 0 ≤ p.2 ∧ p.2 < 65536 ∧ p.2 = x - borrow - y + 65536 * p.1) (Tm.ite (fun h2 => Tm.pure ?_) (fun h2 => Tm.pure ?_)) ?_
     · dsimp only; rw [iw_eq] <;> omega
     · dsimp only; omega
     rintro ⟨bo, d⟩ ⟨g1, g2, g3, g4, g5⟩
     dsimp only at *
     refine Tm.step (apnd_ok (by simp only [List.length_cons, List.length_nil]; omega) (by decide)) (Tm.pure ⟨⟨n + 1, ?_, by omega, by simp; omega, hB.append (.cons (B := 65536) (by omega) .nil), g1, g2, ?_⟩, ?_⟩)
     · show iw ((n : Int) + 1) = _
       rw [iw_eq] <;> omega
     · show val W16 (out ++ [d]) = _
       rw [val_append, val_take, val_take, ex, ey, ho, Int.pow_succ]
       have hw : W16 = 65536 := rfl
       simp only [val]
       grind
     · show L - (iw ((n : Int) + 1)).toNat < L - ((n : Int)).toNat
       rw [iw_eq] <;> omega
   · have hnL : n = L := by omega
     subst hnL
     rw [take_all (by omega), take_all (by omega)] at hv'
     refine ⟨hB, ?_, ho⟩
     show val W16 out = _
     have l1 := val_lt (by decide) hB
     rw [ho] at l1
     have hc : borrow = 0 ∨ borrow = 1 := by omega
     rcases hc with rfl | rfl
     · omega
     · simp only [W16] at *; omega
 · rintro r ⟨h1, h2, h3⟩
   exact Tm.bind (rtrim_tm h1 (by omega)) (fun r' h => Tm.pure ⟨h2 ▸ h.1, by omega⟩)
theorem rOf_tm {n : Int} (h1 : -9223372036854775808 ≤ n) (h2 : n ≤ 9223372036854775807) : Tm (fun N => rOf N n) (fun r => Is r n ∧ r.Digits.length ≤ 2) := by
 unfold rOf
 refine Tm.bind (Q := (· = (n.natAbs : Int))) (Tm.ite (fun h => Tm.pure ?_) (fun h => Tm.pure ?_)) ?_
 · rw [iw_eq (z := n + 1) (by omega) (by omega), iw_eq (by omega) (by omega), uw_mod, uw_mod]; omega
 · rw [uw_mod]; omega
 rintro _ rfl
 refine Tm.bind (Tm.loop (fun s : Int × List Int => ∃ m : Nat, m ≤ 4 ∧ s.2.length = m ∧ InB W16 s.2 ∧ 0 ≤ s.1 ∧ s.1 < W16 ^ (4 - m) ∧ val W16 s.2 + W16 ^ m * s.1 = n.natAbs) (fun s => s.1.toNat) (Q := fun r => InB W16 r ∧ val W16 r = n.natAbs ∧ r.length ≤ 4)
  ⟨0, by omega, rfl, .nil, by simp, by simp only [W16]; omega, by simp [val]⟩ ?_) ?_
 · rintro ⟨u, l⟩ ⟨m, hm, hl, hB, u0, u1, hv⟩
   dsimp only [rOf_b1] at *
   refine Tm.ite (fun h => ?_) (fun h => Tm.pure ?_)
   · have hm' : m ≠ 4 := by rintro rfl; simp at u1; omega
     have hu : u < 18446744073709551616 := by
      have : W16 ^ (4 - m) ≤ W16 ^ 4 := pow_mono (by decide) (by omega)
      have e : W16 ^ 4 = 18446744073709551616 := by decide
      omega
     rw [tmod16 u0, tdiv16 u0]
     have e1 : iw (u % 65536) = u % 65536 := by rw [iw_eq] <;> omega
     have e2 : uw (u / 65536) = u / 65536 := by rw [uw_mod]; omega
     rw [e1, e2]
     refine Tm.step (apnd_ok (by simp only [List.length_cons, List.length_nil]; omega) (by decide)) (Tm.pure ⟨⟨m + 1, by omega, by simp; omega, hB.append (.cons (B := 65536) (by omega) .nil), ?_, ?_, ?_⟩, ?_⟩)
     · show 0 ≤ u / 65536
       omega
     · show u / 65536 < W16 ^ (4 - (m + 1))
       have e : W16 ^ (4 - m) = W16 ^ (4 - (m + 1)) * 65536 := by rw [show 4 - m = 4 - (m + 1) + 1 by omega, Int.pow_succ]
       rw [e] at u1
       exact Int.ediv_lt_of_lt_mul (by decide) u1
     · show val W16 (l ++ [u % 65536]) + W16 ^ (m + 1) * (u / 65536) = _
       rw [val_append, hl, Int.pow_succ]
       have := Int.emod_add_mul_ediv u 65536
       have hw : W16 = 65536 := rfl
       simp only [val]
       grind
     · show (u / 65536).toNat < u.toNat
       omega
   · have : u = 0 := by omega
     subst this
     exact ⟨hB, by show val W16 l = _; simpa using hv, by show l.length ≤ 4; omega⟩
 · rintro l ⟨hB, hv, hl⟩
   refine Tm.bind (rbig_tm hB (by omega)) (fun r hr => Tm.pure ⟨?_, by omega⟩)
   have hr := hr.1
   rw [hv] at hr
   by_cases hn : n < 0
   · simp only [hn, decide_true, if_true] at hr
     rwa [show -(n.natAbs : Int) = n by omega] at hr
   · simp only [hn, decide_false, Bool.false_eq_true, if_false] at hr
     rwa [show (n.natAbs : Int) = n by omega] at hr
end Go.D

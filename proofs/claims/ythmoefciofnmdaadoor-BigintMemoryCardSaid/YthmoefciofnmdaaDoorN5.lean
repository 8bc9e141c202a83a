/-
  What the program's Format and Parse answer (chapter 02). Plain theorems.
-/
import Derived.Test.YthmoefciofnmdaaDoorN4
set_option linter.unusedSimpArgs false
set_option linter.unusedVariables false
namespace Go.D
open Go Go.X
theorem pos_len {B : Int} (hB : 0 < B) {l : List Int} {v : Int} (h : Dg B l v) : (List.length l : Int) > 0 ↔ v ≠ 0 := by
  have := h.zero hB
  cases l with
  | nil =>
    have h0 := this.1 rfl
    simp [h0]
  | cons x l =>
    have h0 : v ≠ 0 := fun e => by have := this.2 e; cases this
    simp only [List.length_cons]
    exact ⟨fun _ => h0, fun _ => by omega⟩
theorem w32_8 : W32 ^ 10 ≤ (10 : Int) ^ 97 := by decide +kernel
theorem dec_len {n : Nat} (h : n < 10 ^ 97) : (dec n).length ≤ 97 := by
  rcases Nat.eq_zero_or_pos n with rfl | h0
  · rw [dec_zero]; simp
  · rw [← decDigits_dec h0]; exact decDigits_len (by omega) h
theorem flat_len : ∀ {xs : List (List UInt8)}, (∀ p ∈ xs, p ≠ []) → xs.length ≤ xs.flatten.length
  | [], _ => by simp
  | x :: xs, h => by
    have h1 := flat_len (xs := xs) (fun p hp => h p (List.mem_cons_of_mem _ hp))
    have h2 := h x List.mem_cons_self
    have : 0 < x.length := List.length_pos_iff.2 h2
    simp at h1 ⊢; omega
theorem formatUint_tm {i : Int} {n : Nat} (h : i = (n : Int)) (hn : n < 18446744073709551616) : Tm (fun N => formatUint N i 10) (fun r => r = Go.Lib.decDigits n) :=
  ⟨_, 0, rfl, fun N _ => by subst h; unfold formatUint; rw [if_pos ⟨by omega, by omega, rfl⟩, Int.toNat_natCast]⟩
theorem repeatStr_tm {i : Int} {n : Nat} (h : i = (n : Int)) (hn : n < 1000) : Tm (fun N => repeatStr N [48] i) (fun r => r = List.replicate n 48) :=
  ⟨_, 0, rfl, fun N _ => by subst h; unfold repeatStr; rw [if_pos ⟨by omega, by omega, by simp only [List.length_cons, List.length_nil]; omega⟩, Int.toNat_natCast, repeatL_one]⟩
theorem joinStr_tm {xs : List (List UInt8)} (h : xs.length ≤ 1000) (h' : xs.flatten.length ≤ 1000) : Tm (fun N => joinStr N xs []) (fun r => r = xs.flatten) :=
  ⟨_, 0, rfl, fun N _ => by unfold joinStr; rw [join_empty, if_pos ⟨by omega, by omega⟩]⟩
theorem bFormat_tm {x : Big} (hd : InB W32 x.Digits) (hl : x.Digits.length ≤ 10) : Tm (fun N => bFormat N x) (fun r => r = txt (bv x)) := by
  unfold bFormat
  refine Tm.bind (bNormal_tm hd (by omega)) ?_
  rintro y ⟨hy, hyl⟩
  have hz := hy.dg.zero (by decide)
  refine Tm.ite (fun h => Tm.pure ?_) (fun h => ?_)
  · have : y.Digits = [] := List.length_eq_zero_iff.1 (by omega)
    have h0 : bv x = 0 := by have := hz.1 this; omega
    rw [h0, txt_zero]
  · have hne : y.Digits ≠ [] := fun e => h (by rw [e]; rfl)
    have h0 : bv x ≠ 0 := fun e => hne (hz.2 (by omega))
    generalize hV : (bv x).natAbs = V at *
    have hVlt : V < 10 ^ 97 := by
      have h1 := val_lt (B := W32) (by decide) hy.dg.inB
      have h2 := pow_mono (B := W32) (by decide) (show y.Digits.length ≤ 10 by omega)
      have h3 := w32_8
      rw [hy.dg.val] at h1
      have : (V : Int) < ((10 ^ 97 : Nat) : Int) := by rw [Int.natCast_pow]; omega
      exact Int.ofNat_lt.1 this
    refine Tm.bind (Q := fun parts : List (List UInt8) => parts.reverse.flatten = dec V ∧ ∀ p ∈ parts, p ≠ [])
      (Tm.loop (fun t : List (List UInt8) × List Int => ∃ n : Nat, Dg W32 t.2 n ∧ t.2.length ≤ 10 ∧ dec n ++ t.1.reverse.flatten = dec V ∧ ∀ p ∈ t.1, p ≠ []) (fun t => (val W32 t.2).toNat)
        ⟨V, by rw [← hV]; exact hy.dg, by show y.Digits.length ≤ 10; omega, by simp, by simp⟩ ?_) ?_
    · rintro ⟨parts, d⟩ ⟨n, hdn, hdl, hf, hp⟩
      dsimp only [bFormat_b1] at *
      have hpl : parts.length ≤ 97 := by
        have h1 := flat_len (xs := parts.reverse) (fun p hp' => hp p (List.mem_reverse.1 hp'))
        have h2 := congrArg List.length hf
        have h3 := dec_len hVlt
        rw [List.length_append] at h2
        rw [List.length_reverse] at h1
        omega
      refine Tm.ite (fun h => ?_) (fun h => Tm.pure ?_)
      · have hn0 : (n : Int) ≠ 0 := (pos_len (by decide) hdn).1 h
        refine Tm.bind (bshort_tm hdn.inB (by decide) (by decide) (by omega)) ?_
        rintro ⟨q, r⟩ ⟨hq1, hq2, hq3, hq4⟩
        dsimp only at *
        rw [hdn.val] at hq2 hq3
        have hq2' : val W32 q = ((n / 1000000000 : Nat) : Int) := by rw [hq2]; omega
        have hr' : r = ((n % 1000000000 : Nat) : Int) := by rw [hq3]; omega
        refine Tm.bind (btrim_tm hq1 (by omega)) ?_
        rintro d' ⟨hd', hdl'⟩
        rw [hq2'] at hd'
        have hpos := pos_len (by decide) hd'
        have hlt : n % 1000000000 < 10 ^ 9 := by omega
        have hdl9 := decDigits_len (k := 9) (by omega) hlt
        have huw : uw r = ((n % 1000000000 : Nat) : Int) := by rw [hr']; exact uw_id (by omega) (by omega)
        refine Tm.bind (formatUint_tm huw (by omega)) ?_
        rintro _ rfl
        have hμ : (val W32 d').toNat < (val W32 d).toNat := by rw [hd'.val, hdn.val]; omega
        refine Tm.bind (Q := fun s => s ≠ [] ∧ dec n = dec (n / 1000000000) ++ s) (Tm.ite (fun h => ?_) (fun h => Tm.pure ?_)) ?_
        · have hc : iw (9 - ((Go.Lib.decDigits (n % 1000000000)).length : Int)) = ((9 - (Go.Lib.decDigits (n % 1000000000)).length : Nat) : Int) := by rw [iw_eq] <;> omega
          refine Tm.bind (repeatStr_tm hc (by omega)) ?_
          rintro _ rfl
          refine Tm.step (chk_ok (by rw [List.length_replicate]; omega)) (Tm.pure ⟨?_, ?_⟩)
          · intro e; exact decDigits_ne _ (List.append_eq_nil_iff.1 e).2
          · rw [← pad_eq (by omega) hlt, ← dec_pad (by have := hpos.1 h; omega) hlt]
            congr 1; omega
        · have hq0 : n / 1000000000 = 0 := by
            rcases Nat.eq_zero_or_pos (n / 1000000000) with h1 | h1
            · exact h1
            · exact absurd (hpos.2 (by omega)) h
          refine ⟨decDigits_ne _, ?_⟩
          rw [hq0, dec_zero, show n % 1000000000 = n by omega, decDigits_dec (by omega)]; rfl
        · rintro s ⟨hs1, hs2⟩
          refine Tm.step (apnd_ok (by simp only [List.length_cons, List.length_nil]; omega) (by decide)) (Tm.pure ⟨⟨n / 1000000000, hd', by show d'.length ≤ 10; omega, ?_, ?_⟩, hμ⟩)
          · rw [← hf, hs2]; simp
          · intro p hp'
            rcases List.mem_append.1 hp' with h1 | h1
            · exact hp p h1
            · rw [List.mem_singleton.1 h1]; exact hs1
      · have hn0 : n = 0 := by
          rcases Nat.eq_zero_or_pos n with h1 | h1
          · exact h1
          · exact absurd ((pos_len (by decide) hdn).2 (by omega)) h
        rw [hn0, dec_zero] at hf
        exact ⟨by simpa using hf, hp⟩
    · rintro parts ⟨hf, hp⟩
      have hlen : parts.length ≤ 97 := by
        have h1 := flat_len (xs := parts.reverse) (fun p hp' => hp p (List.mem_reverse.1 hp'))
        have h3 := dec_len hVlt
        rw [hf, List.length_reverse] at h1
        omega
      refine Tm.bind (Q := fun ps : List (List UInt8) => ps.reverse.flatten = txt (bv x) ∧ ps.length ≤ 98) (Tm.ite (fun h => ?_) (fun h => Tm.pure ?_)) ?_
      · refine Tm.step (apnd_ok (by simp only [List.length_cons, List.length_nil]; omega) (by decide)) (Tm.pure ⟨?_, by simp; omega⟩)
        have : bv x < 0 := by rw [hy.neg] at h; simpa using h
        rw [txt_neg this, List.reverse_append, hV, ← hf]; rfl
      · have : ¬ bv x < 0 := by rw [hy.neg] at h; simpa using h
        rw [txt_pos (by omega), hf, show (bv x).toNat = V by omega]
        exact ⟨rfl, by omega⟩
      · rintro ps ⟨h1, h2⟩
        have h3 : (txt (bv x)).length ≤ 98 := by
          have h3 := dec_len hVlt
          rcases Int.lt_trichotomy (bv x) 0 with h | h | h
          · rw [txt_neg h, List.length_cons, hV]; omega
          · exact absurd h h0
          · rw [txt_pos h, show (bv x).toNat = V by omega]; omega
        refine Tm.step (a := ps.reverse) (by unfold revStr; rw [if_pos (by omega)]) ?_
        refine Tm.bind (joinStr_tm (by rw [List.length_reverse]; omega) (by rw [h1]; omega)) ?_
        rintro _ rfl
        exact Tm.pure h1
end Go.D

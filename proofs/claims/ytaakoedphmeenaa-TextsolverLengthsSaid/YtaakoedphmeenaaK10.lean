/-
 The first words of a class, and their lengths. Plain theorems.
-/
import Derived.Test.YtaakoedphmeenaaK9
set_option linter.unusedSimpArgs false
set_option linter.unusedVariables false
namespace Go.D
open Go Go.X
def wds (c : TClass) (i : Nat) : List (List UInt8) := (List.range i).flatMap fun j => wordsOf c.tests (c.low.toNat + j)
def span (c : TClass) : Nat := (c.high + 1 - c.low).toNat
def allw (c : TClass) : List (List UInt8) := wds c (span c)
structure Cok (c : TClass) : Prop where
 lo : 0 ≤ c.low ∧ c.low ≤ 16
 hi : 0 ≤ c.high ∧ c.high ≤ 16
 ts : ∀ t ∈ c.tests, okT t = true
 tl : c.tests.length ≤ 1000
theorem mem_allw {c : TClass} (hc : Cok c) {s : List UInt8} : s ∈ allw c ↔ c.low ≤ (s.length : Int) ∧ (s.length : Int) ≤ c.high ∧ s.all prn = true ∧ c.tests.all (fun t => pas t s) = true := by
 have hlo := hc.lo
 have hhi := hc.hi
 unfold allw wds
 rw [List.mem_flatMap]
 constructor
 · rintro ⟨j, hj, h⟩
   rw [List.mem_range] at hj
   obtain ⟨h1, h2, h3⟩ := mem_wordsOf.1 h
   unfold span at hj
   exact ⟨by omega, by omega, h2, h3⟩
 · rintro ⟨h1, h2, h3, h4⟩
   refine ⟨s.length - c.low.toNat, List.mem_range.2 (by unfold span; omega), mem_wordsOf.2 ⟨by omega, h3, h4⟩⟩
def lens (c : TClass) (k : Nat) : List Int := ((List.range k).filter fun j => decide (wordsOf c.tests (c.low.toNat + j) ≠ [])).map fun j => ((c.low.toNat + j : Nat) : Int)
theorem lens_succ {c : TClass} {k : Nat} : lens c (k + 1) = lens c k ++ (if wordsOf c.tests (c.low.toNat + k) ≠ [] then [((c.low.toNat + k : Nat) : Int)] else []) := by
 unfold lens
 rw [List.range_succ, List.filter_append, List.map_append]
 congr 1
 by_cases h : wordsOf c.tests (c.low.toNat + k) ≠ []
 · rw [if_pos h]; simp [h]
 · rw [if_neg h]
   have h := Classical.not_not.1 h
   simp [h]
theorem lens_len {c : TClass} {k : Nat} : (lens c k).length ≤ k := by
 unfold lens
 rw [List.length_map]
 have := List.length_filter_le (fun j => decide (wordsOf c.tests (c.low.toNat + j) ≠ [])) (List.range k)
 simpa using this
theorem mem_lens {c : TClass} (hc : Cok c) {x : Int} : x ∈ lens c (span c) ↔ ∃ s, s ∈ allw c ∧ x = (s.length : Int) := by
 have hlo := hc.lo
 have hhi := hc.hi
 unfold lens
 simp only [List.mem_map, List.mem_filter, List.mem_range, decide_eq_true_eq]
 constructor
 · rintro ⟨j, ⟨hj, hne⟩, rfl⟩
   obtain ⟨s, hs⟩ := List.exists_mem_of_ne_nil _ hne
   refine ⟨s, ?_, by rw [(mem_wordsOf.1 hs).1]⟩
   unfold allw wds
   exact List.mem_flatMap.2 ⟨j, List.mem_range.2 hj, hs⟩
 · rintro ⟨s, hs, rfl⟩
   unfold allw wds at hs
   obtain ⟨j, hj, hs⟩ := List.mem_flatMap.1 hs
   refine ⟨j, ⟨List.mem_range.1 hj, List.ne_nil_of_mem hs⟩, by rw [(mem_wordsOf.1 hs).1]⟩
section
variable {p : TProb} {L : List Int}
theorem Cl.cok (hp : OkP p) (hm : Lms p) {i k : Nat} {c : TClass} (h : Cl p L i p.Tests.length k c) : Cok c := by
 refine ⟨h.lo0, h.hi0, fun t ht => ?_, ?_⟩
 · rw [h.ts, List.take_length] at ht
   exact (hp.ts t (List.mem_filter.1 ht).1).1
 · rw [h.ts, List.take_length]
   have := List.length_filter_le (fun t => decide (cls L t.Var.toNat = k)) p.Tests
   have := hm.c
   omega
theorem tLengths_tm (hp : OkP p) (hm : Lms p) {v : Nat} (hv : v < p.Min.length) : Tm (fun N => tLengths N p (v : Int)) (fun r => ∃ L l c, Lb p L ∧ Fx p L ∧ Gat p L l ∧ l[cls L v]? = some c ∧ r = lens c (span c)) := by
 unfold tLengths
 rw [if_neg (by omega)]
 simp only [Option.bind_some]
 refine Tm.neg (by simp; omega) ?_
 refine (tgathered_tm hp hm).bind fun r hr => ?_
 obtain ⟨l, num, ok⟩ := r
 obtain ⟨L, hL, hF, e1, hG, _, _⟩ := hr
 dsimp only at e1 hG ⊢
 subst e1
 obtain ⟨c, ec, hC⟩ := hG.ok _ (cls_lt hL hF hv)
 have hc := hC.cok hp hm
 have hlo := hc.lo
 have hhi := hc.hi
 refine Tm.step (idx_get (num_get hL hv)) (Tm.step (idx_get ec) ?_)
 refine Tm.bind (Q := fun r => r = lens c (span c)) ?_ fun r hr => Tm.some ⟨L, l, c, hL, hF, hG, ec, hr⟩
 have hsp : span c ≤ 17 := by unfold span; omega
 refine Tm.up (span c) (fun k s => s.2 = ((c.low.toNat + k : Nat) : Int) ∧ s.1 = lens c k) ⟨by dsimp only; omega, rfl⟩ ?_
 rintro k hk ⟨s, n⟩ ⟨hn, hs⟩
 dsimp only at hn hs; subst hn; subst hs
 unfold tLengths_b1
 dsimp only
 have hll := lens_len (c := c) (k := k)
 rcases Nat.lt_or_ge k (span c) with hlt | hge
 · refine Tm.pos (by unfold span at hlt; omega) ((pWords_tm (m := 1) hc.ts hc.tl (by omega) (by omega)).eq ?_)
   by_cases hne : wordsOf c.tests (c.low.toNat + k) ≠ []
   · have : ((wordsOf c.tests (c.low.toNat + k)).take 1).length = 1 := by
      rw [List.length_take]
      have := List.length_pos_iff.2 hne
      omega
     refine Tm.pos (by omega) ?_
     rw [apnd_ok (by simp only [List.length_singleton]; omega) (by decide)]
     exact Tm.some ⟨hlt, by dsimp only; rw [iw_eq] <;> omega, by rw [lens_succ, if_pos hne]⟩
   · have : ((wordsOf c.tests (c.low.toNat + k)).take 1).length = 0 := by
      rw [Classical.not_not.1 hne]; rfl
     refine Tm.neg (by omega) (Tm.some ⟨hlt, by dsimp only; rw [iw_eq] <;> omega, by rw [lens_succ, if_neg hne, List.append_nil]⟩)
 · have : k = span c := by omega
   subst this
   exact Tm.neg (by unfold span at hge ⊢; omega) (Tm.some rfl)
theorem tLengths_out {v : Int} (hv : v < 0 ∨ v ≥ p.Min.length) : Tm (fun N => tLengths N p v) (· = []) := by
 unfold tLengths
 rw [or_if, decide_eq_true hv]
 exact Tm.some rfl
end
end Go.D

/-
 The first words of a class, and their lengths. Plain theorems.
-/
import Derived.Test.YtaakoedphmeenaaK9
set_option linter.unusedSimpArgs false
set_option linter.unusedVariables false
namespace Go.D
open Go Go.X
def wds (c : TClass) (i : Nat) : List (List UInt8) := (List.range i).flatMap fun j => wordsOf c.tests (c.low.toNat + j)
def span (c : TClass) : Nat := (c.high + 1 - c.low).toNat
def allw (c : TClass) : List (List UInt8) := wds c (span c)
theorem wds_succ {c : TClass} {i : Nat} : wds c (i + 1) = wds c i ++ wordsOf c.tests (c.low.toNat + i) := by
 unfold wds
 rw [List.range_succ, List.flatMap_append]
 simp
theorem wds_le {c : TClass} {i k : Nat} (h : i ≤ k) : ∃ r, wds c k = wds c i ++ r := by
 induction h with
 | refl => exact ⟨[], by simp⟩
 | step _ ih =>
  obtain ⟨r, e⟩ := ih
  exact ⟨r ++ wordsOf c.tests (c.low.toNat + _), by rw [wds_succ, e, List.append_assoc]⟩
structure Cok (c : TClass) : Prop where
 lo : 0 ≤ c.low ∧ c.low ≤ 16
 hi : 0 ≤ c.high ∧ c.high ≤ 16
 ts : ∀ t ∈ c.tests, okT t = true
 tl : c.tests.length ≤ 1000
theorem cloneTest_tm {s : List TTest} (h : s.length ≤ 1000) : Tm (fun N => cloneTest N s) (· = s) := by
 unfold cloneTest
 rw [apnd_ok (by simp; omega) (by decide)]
 exact Tm.some rfl
theorem tfirst_b2_tm {c : TClass} (hc : Cok c) {m k : Nat} (hm : m ≤ 99) (hk : k ≤ 20) {out : List (List UInt8)} (ho : out.length < m) :
 Tm (fun N => loopM (tfirst_b2 N c (m : Int) ((c.low.toNat + k : Nat) : Int)) N (out, c.tests)) (· = out ++ (wordsOf c.tests (c.low.toNat + k)).take (m - out.length)) := by
 have hlo := hc.lo
 refine Tm.up 0 (fun j s => s = (out, c.tests)) rfl ?_
 rintro j hj s rfl
 unfold tfirst_b2
 dsimp only
 have e1 : iw ((m : Int) - (out.length : Int)) = ((m - out.length : Nat) : Int) := by rw [iw_eq] <;> omega
 have e2 : imin 100 ((m - out.length : Nat) : Int) = ((m - out.length : Nat) : Int) := by unfold imin; rw [if_pos (by omega)]
 rw [e1, e2]
 refine Tm.pos (by omega) ((pWords_tm hc.ts hc.tl (by omega) (by omega)).eq ?_)
 have hl : ((wordsOf c.tests (c.low.toNat + k)).take (m - out.length)).length ≤ 99 := by rw [List.length_take]; omega
 rw [apnd_ok (by omega) (by decide)]
 simp only [Option.bind_some]
 exact Tm.pos (by omega) (Tm.some rfl)
theorem tfirst_tm {c : TClass} (hc : Cok c) {m : Nat} (hm : 0 < m ∧ m ≤ 99) : Tm (fun N => tfirst N c (m : Int)) (· = (allw c).take m) := by
 have hlo := hc.lo
 have hhi := hc.hi
 unfold tfirst
 refine Tm.bind (Q := fun r => r = (allw c).take m) ?_ fun r hr => Tm.some hr
 have hsp : span c ≤ 17 := by unfold span; omega
 refine Tm.up (span c) (fun k s => s.2 = ((c.low.toNat + k : Nat) : Int) ∧ s.1 = (wds c k).take m) ⟨by dsimp only; omega, by simp [wds]⟩ ?_
 rintro k hk ⟨s, n⟩ ⟨hn, hs⟩
 dsimp only at hn hs; subst hn
 unfold tfirst_b1
 dsimp only
 have hsl : s.length ≤ m := by rw [hs, List.length_take]; omega
 rcases Nat.lt_or_ge k (span c) with hlt | hge
 · have hle : ((c.low.toNat + k : Nat) : Int) ≤ c.high := by unfold span at hlt; omega
   rw [if_pos hle]
   simp only [Option.bind_some]
   rcases Nat.lt_or_ge s.length m with h1 | h1
   · refine Tm.pos (decide_eq_true (by omega)) ((cloneTest_tm hc.tl).eq ((tfirst_b2_tm hc hm.2 (by omega) h1).eq (Tm.some ⟨hlt, by dsimp only; rw [iw_eq] <;> omega, ?_⟩)))
     dsimp only
     have h2 : (wds c k).length < m := by rw [hs, List.length_take] at h1; omega
     have h3 : s = wds c k := by rw [hs, List.take_of_length_le (by omega)]
     rw [wds_succ, List.take_append, List.take_of_length_le (i := m) (l := wds c k) (by omega), h3]
   · refine Tm.neg (by rw [decide_eq_false (by omega)]; simp) (Tm.some ?_)
     show s = _
     obtain ⟨r, e⟩ := wds_le (c := c) hk
     unfold allw
     have h2 : m ≤ (wds c k).length := by rw [hs, List.length_take] at h1; omega
     rw [e, List.take_append_of_le_length h2, hs]
 · have hgt : ¬ ((c.low.toNat + k : Nat) : Int) ≤ c.high := by unfold span at hge; omega
   rw [if_neg hgt]
   simp only [Option.bind_some]
   refine Tm.neg (by simp) (Tm.some ?_)
   have : k = span c := by omega
   subst this
   exact hs
theorem mem_allw {c : TClass} (hc : Cok c) {s : List UInt8} : s ∈ allw c ↔ c.low ≤ (s.length : Int) ∧ (s.length : Int) ≤ c.high ∧ s.all prn = true ∧ c.tests.all (fun t => pas t s) = true := by
 have hlo := hc.lo
 have hhi := hc.hi
 unfold allw wds
 rw [List.mem_flatMap]
 constructor
 · rintro ⟨j, hj, h⟩
   rw [List.mem_range] at hj
   obtain ⟨h1, h2, h3⟩ := mem_wordsOf.1 h
   unfold span at hj
   exact ⟨by omega, by omega, h2, h3⟩
 · rintro ⟨h1, h2, h3, h4⟩
   refine ⟨s.length - c.low.toNat, List.mem_range.2 (by unfold span; omega), mem_wordsOf.2 ⟨by omega, h3, h4⟩⟩
theorem allw_nodup {c : TClass} : (allw c).Nodup := by
 unfold allw wds
 refine nodup_flatMap List.nodup_range (fun a _ => wordsOf_nodup) fun a b _ _ hab x hx hx' => ?_
 have h1 := (mem_wordsOf.1 hx).1
 have h2 := (mem_wordsOf.1 hx').1
 omega
section
variable {p : TProb} {L : List Int}
theorem Cl.cok (hp : OkP p) (hm : Lms p) {i k : Nat} {c : TClass} (h : Cl p L i p.Tests.length k c) : Cok c := by
 refine ⟨h.lo0, h.hi0, fun t ht => ?_, ?_⟩
 · rw [h.ts, List.take_length] at ht
   exact (hp.ts t (List.mem_filter.1 ht).1).1
 · rw [h.ts, List.take_length]
   have := List.length_filter_le (fun t => decide (cls L t.Var.toNat = k)) p.Tests
   have := hm.c
   omega
end
end Go.D

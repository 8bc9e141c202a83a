/-
 The laws Solution, Complete and Monotone. Plain theorems.
-/
import Derived.Test.YtaakoedphmeenaaK13
import Derived.Test.YtaakoedphmeenaaN1
set_option linter.unusedSimpArgs false
set_option linter.unusedVariables false
namespace Go.D
open Go Go.X
theorem lawComplete_tm {p : TProb} {x : List (List UInt8)} (h : Lim p) (hx : Lx x) : Tm (fun N => lawComplete N p x) (· = true) := by
 have hb : Bg = 9223372036854775807 := rfl
 unfold lawComplete
 refine (awake_if (c := !small p || decide ((x.length : Int) > 10) || !sat p x) ?_).eq ?_
 · refine (rSmall_tm h).eq ?_
   cases hs : small p with
   | false => exact Tm.some rfl
   | true =>
    obtain ⟨ho, hm, _⟩ := small_ok hs
    refine Tm.neg (by simp) ?_
    by_cases hl : (x.length : Int) > 10
    · exact Tm.pos hl (Tm.some (by simp [hl]))
    · exact Tm.neg hl ((rSatisfies_tm ho h hx).bind fun r hr => Tm.some (by subst hr; simp [hl]))
 · cases hs : small p with
   | false => exact awake_end rfl
   | true =>
    obtain ⟨ho, hm, h1, h2, h3, h4⟩ := small_ok hs
    by_cases hl : (x.length : Int) > 10
    · rw [decide_eq_true hl]; exact awake_end rfl
    · rw [decide_eq_false hl]
      cases hsat : sat p x with
      | false => exact awake_end rfl
      | true =>
       simp only [Bool.not_true, Bool.or_false, Bool.false_eq_true, if_false]
       refine (lof_tm hm).eq ((tSolve_tm ho hm (by omega) (by omega)).bind fun r hr => ?_)
       have hok : r.2 = true := by
        cases e : r.2 with
        | true => rfl
        | false => have := (hr.2 e).2 x; rw [hsat] at this; simp at this
       have hxl : x.length = p.Min.length := (sat_iff.1 hsat).1
       refine (Tm.allL (b := fun N => lawComplete_b1 N p x) x (fun _ => true) (by omega) (fun k hk => ?_) ?_).eq ?_
       · unfold lawComplete_b1
         refine Tm.pos (by omega) (Tm.step (idx_n hk) ((lof_tm hm).eq ((tLengths_tm ho hm (v := k) (by omega)).bind fun ls hls => ?_)))
         obtain ⟨L, l, c, hL, hF, hG, ec, rfl⟩ := hls
         obtain ⟨f, hW, hv⟩ := sat_split ho hm hL hF hG hsat
         have hkl : cls L k < rk L L.length := cls_lt hL hF (by omega)
         obtain ⟨c', ec', hC⟩ := hG.ok _ hkl
         rw [ec] at ec'
         have : c = c' := Option.some.inj ec'
         subst this
         have hcok := hC.cok ho hm
         have hmem : ((x[k].length : Nat) : Int) ∈ lens c (span c) := by
          refine (mem_lens hcok).2 ⟨f (cls L k), hW.mem _ _ ec, ?_⟩
          have := hv k (by omega)
          rw [List.getElem?_eq_getElem hk] at this
          rw [Option.some.inj this]
         have hll := lens_len (c := c) (k := span c)
         have hsp : span c ≤ 17 := by unfold span; have := hcok.lo; have := hcok.hi; omega
         refine Tm.bind (Q := fun b => b = true) ?_ fun b hb' => ?_
         · refine Tm.up (lens c (span c)).length (fun j s => s.2 = (j : Int) ∧ s.1 = ((lens c (span c)).take j).any fun y => decide (y = (x[k].length : Int))) ⟨rfl, rfl⟩ ?_
           rintro j hj ⟨b, i⟩ ⟨hi, hbb⟩
           dsimp only at hi hbb; subst hi; subst hbb
           unfold lawComplete_b2
           dsimp only
           rcases Nat.lt_or_ge j (lens c (span c)).length with hlt | hge
           · refine Tm.pos (by omega) (Tm.step (idx_n hlt) ?_)
             rw [List.take_succ_eq_append_getElem hlt, List.any_append]
             cases hany : ((lens c (span c)).take j).any fun y => decide (y = (x[k].length : Int)) with
             | true => exact Tm.pos rfl (Tm.some ⟨hlt, iw_n (by omega), by simp⟩)
             | false => exact Tm.neg (by simp) (Tm.some ⟨hlt, iw_n (by omega), by simp⟩)
           · refine Tm.neg (by omega) (Tm.some ?_)
             show List.any _ _ = true
             rw [List.take_of_length_le hge]
             exact List.any_eq_true.2 ⟨_, hmem, decide_eq_true rfl⟩
         · subst hb'
           exact Tm.neg (by simp) (Tm.some rfl)
       · unfold lawComplete_b1
         exact Tm.neg (by omega) (Tm.some rfl)
       · rw [List.all_eq_true.2 fun _ _ => rfl]
         exact Tm.some hok
end Go.D

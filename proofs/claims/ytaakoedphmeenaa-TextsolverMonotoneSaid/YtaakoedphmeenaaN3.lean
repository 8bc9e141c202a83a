/-
  The laws Solution, Complete and Monotone. Plain theorems.
-/
import Derived.Test.YtaakoedphmeenaaK13
import Derived.Test.YtaakoedphmeenaaN1
set_option linter.unusedSimpArgs false
set_option linter.unusedVariables false
namespace Go.D
open Go Go.X
theorem mono_tm {q : TProb} {ok : Bool} {k : Nat} (hl : Lim q) (hq : okP q = true → Lms q ∧ q.Different.length ≤ 98 ∧ q.Min.length ≤ 19) (hs : ∀ x, sat q x = true → ok = true) :
    Tm (fun N => (rValid N q).bind fun r2499 =>
          (if (!r2499) = true then
            some (Stp.next (iw ((k : Int) + 1)))
          else
            (lof N q).bind fun r2512 =>
            (tSolve N r2512).bind fun r2534 =>
            (((if r2534.2 = true then
              some (!ok)
            else
              some false) : Option Bool)).bind fun ss =>
              match ss with
              | x2553 =>
                (if x2553 = true then
                  some (Stp.done (Sum.inr false))
                else
                  some (Stp.next (iw ((k : Int) + 1)))))) (fun t => t = (Stp.next (iw ((k : Int) + 1)) : Stp Int (Sum Unit Bool))) := by
  refine (rValid_tm hl).eq ?_
  cases hv : okP q with
  | false => exact Tm.pos rfl (Tm.some rfl)
  | true =>
    obtain ⟨hm, hd, hn⟩ := hq hv
    refine Tm.neg (by simp) ((lof_tm hm).eq ((tSolve_tm (okP_iff.1 hv) hm hd hn).bind fun r hr => ?_))
    cases e : r.2 with
    | false => 
      rw [if_neg (by simp)]
      exact Tm.some rfl
    | true =>
      rw [if_pos rfl, hs r.1 (hr.1 e)]
      exact Tm.some rfl
theorem lawMonotone_tm {p : TProb} {t : TTest} {pr : Arr2Int} (h : Lim p) (ht : t.Text.length ≤ Bg) : Tm (fun N => lawMonotone N p t pr) (· = true) := by
  have hb : Bg = 9223372036854775807 := rfl
  unfold lawMonotone
  refine (awake_if (c := !small p) ((rSmall_tm h).bind fun r hr => Tm.some (by rw [hr]))).eq ?_
  cases hs : small p with
  | false => exact awake_end rfl
  | true =>
    obtain ⟨ho, hm, h1, h2, h3, h4⟩ := small_ok hs
    have hle := ho.len
    simp only [Bool.not_true, Bool.false_eq_true, if_false]
    refine (lof_tm hm).eq ((tSolve_tm ho hm (by omega) (by omega)).bind fun r hr => ?_)
    have hsat : ∀ x, sat p x = true → r.2 = true := fun x hx => by
      cases e : r.2 with
      | true => rfl
      | false => have := (hr.2 e).2 x; rw [hx] at this; simp at this
    refine (Tm.allN (b := fun N => lawMonotone_b1 N p pr t r) 3 (fun _ => true) (by omega) (fun k hk => ?_) ?_).eq ?_
    · unfold lawMonotone_b1
      refine Tm.pos (by omega) ?_
      have hc : k = 0 ∨ k = 1 ∨ k = 2 := by omega
      rcases hc with rfl | rfl | rfl
      · rw [if_pos (by omega), apnd_ok (by simp; omega) (by decide)]
        simp only [Option.bind_some, List.nil_append]
        rw [apnd_ok (by simp only [List.length_singleton]; omega) (by decide)]
        simp only [Option.bind_some]
        refine mono_tm (q := TProb.mk p.Min p.Max (p.Tests ++ [t]) p.Same p.Different) (k := 0) ⟨by dsimp only; omega, by dsimp only; omega, by simp; omega, by dsimp only; omega, by dsimp only; omega, fun u hu => ?_⟩ (fun _ => ⟨⟨by dsimp only; omega, by dsimp only; omega, by simp; omega, by dsimp only; omega, by dsimp only; omega⟩, by dsimp only; omega, by dsimp only; omega⟩) fun x hx => hsat x ?_
        · rcases List.mem_append.1 hu with hu | hu
          · exact h.f u hu
          · rw [List.mem_singleton.1 hu]; exact ht
        · obtain ⟨g1, g2, g3, g4, g5⟩ := sat_iff.1 hx
          exact sat_iff.2 ⟨g1, g2, fun u hu => g3 u (List.mem_append_left _ hu), g4, g5⟩
      · rw [if_neg (by omega), if_pos (by omega), apnd_ok (by simp; omega) (by decide)]
        simp only [Option.bind_some, List.nil_append]
        rw [apnd_ok (by simp only [List.length_singleton]; omega) (by decide)]
        simp only [Option.bind_some]
        refine mono_tm (q := TProb.mk p.Min p.Max p.Tests (p.Same ++ [pr]) p.Different) (k := 1) ⟨by dsimp only; omega, by dsimp only; omega, by dsimp only; omega, by simp; omega, by dsimp only; omega, fun u hu => h.f u hu⟩ (fun _ => ⟨⟨by dsimp only; omega, by dsimp only; omega, by dsimp only; omega, by simp; omega, by dsimp only; omega⟩, by dsimp only; omega, by dsimp only; omega⟩) fun x hx => hsat x ?_
        obtain ⟨g1, g2, g3, g4, g5⟩ := sat_iff.1 hx
        exact sat_iff.2 ⟨g1, g2, g3, fun u hu => g4 u (List.mem_append_left _ hu), g5⟩
      · rw [if_neg (by omega), if_neg (by omega), apnd_ok (by simp; omega) (by decide)]
        simp only [Option.bind_some, List.nil_append]
        rw [apnd_ok (by simp only [List.length_singleton]; omega) (by decide)]
        simp only [Option.bind_some]
        refine mono_tm (q := TProb.mk p.Min p.Max p.Tests p.Same (p.Different ++ [pr])) (k := 2) ⟨by dsimp only; omega, by dsimp only; omega, by dsimp only; omega, by dsimp only; omega, by simp; omega, fun u hu => h.f u hu⟩ (fun _ => ⟨⟨by dsimp only; omega, by dsimp only; omega, by dsimp only; omega, by dsimp only; omega, by simp; omega⟩, by simp; omega, by dsimp only; omega⟩) fun x hx => hsat x ?_
        obtain ⟨g1, g2, g3, g4, g5⟩ := sat_iff.1 hx
        exact sat_iff.2 ⟨g1, g2, g3, g4, fun u hu => g5 u (List.mem_append_left _ hu)⟩
    · unfold lawMonotone_b1
      exact Tm.neg (by omega) (Tm.some rfl)
    · rw [List.all_eq_true.2 fun _ _ => rfl]
      exact Tm.some rfl
end Go.D

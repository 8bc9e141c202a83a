/-
  The law on what holds. Plain theorems.
-/
import Derived.Test.YtakkacdhlocckaaM4
import Derived.Test.YtakkacdhlocckaaOL
namespace Go.D
open Go Go.X
theorem awake_at : awake 50 = some true := by decide +kernel
theorem awake_tm : Tm (fun N => awake N) (fun r => r = true) := Lo.tm (f := fun N => awake N) (fun h => awake_lo h) awake_at
def In32 (x : Big) : Prop := InB W32 x.Digits
/-- an inequality as it comes in -/
def InI (q : Ineq) : Prop := q.Coefs.length ≤ 9223372036854775807 ∧ (∀ b ∈ q.Coefs, In32 b) ∧ In32 q.Bound
theorem SmallI.ok {q : Ineq} (h : SmallI q) (hi : InI q) : OkI 6 q := ⟨h.1, fun b hb => ⟨hi.2.1 b hb, by have := h.2.1 b hb; omega⟩, hi.2.2, by have := h.2.2; omega⟩
theorem lawHolds_tm {q : Ineq} {x : List Big} (hq : InI q) (hx : ∀ b ∈ x, In32 b) (hl : x.length ≤ 9223372036854775807) : Tm (fun N => lawHolds N q x) (fun r => r = true) := by
  unfold lawHolds
  refine Tm.bind (Q := fun r => r = false → SmallI q ∧ SmallI ⟨x, big0⟩) (Tm.bind awake_tm ?_) ?_
  · rintro _ rfl
    refine Tm.neg (by simp) (Tm.bind (rSmall_tm (by simp) (fun p hp => ?_)) ?_)
    · simp only [List.mem_cons, List.not_mem_nil, or_false] at hp
      rcases hp with rfl | rfl
      · exact hq.1
      · exact hl
    · intro r hr
      refine Tm.pure (fun h => ?_)
      have := hr (by simpa using h)
      exact ⟨this.2 _ (by simp), this.2 _ (by simp)⟩
  · intro r hr
    refine Tm.ite (fun h => Tm.bind awake_tm (fun _ h => Tm.pure h)) (fun h => ?_)
    obtain ⟨h1, h2⟩ := hr (by simpa using h)
    have ho := h1.ok hq
    have hx' : ∀ b ∈ x, OkB 6 b := fun b hb => ⟨hx b hb, by have := h2.2.1 b hb; omega⟩
    refine Tm.bind (cHolds_tm (K := 6) (by decide) ho hx' hl) ?_
    rintro _ rfl
    refine Tm.bind (rHolds_tm (K := 6) (by decide) ho hx' hl) ?_
    rintro _ rfl
    refine Tm.pos (by simp) (Tm.bind (cContradictory_tm (K := 6) (by decide) ho) ?_)
    rintro _ rfl
    refine Tm.bind (rBad_tm (K := 6) (by decide) ho) ?_
    rintro _ rfl
    exact Tm.pure (by simp)
end Go.D

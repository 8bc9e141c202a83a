/- awake and Sum of chapter 06, as contracts over plain counterparts (out of the older walks W1, W3). -/
import Derived.Test.YtpfbdhfpojbmlaaDoorW3
import Derived.Test.YtpfbdhfpojbmlaaDoorZ7
set_option linter.unusedSimpArgs false
set_option linter.unusedVariables false
namespace Go.X
open Go Go.RowKit
theorem Ints.ofRs {k : IntKind} {H : Hp} {v : Value} {xs : List Int} (h : Rs (rInt k) H v xs) (h0 : ∀ x ∈ xs, 0 ≤ x) : Ints k H v (xs.map Int.toNat) := by
  rcases h with ⟨h1, h2⟩ | ⟨b, o, cap, hv, hc, hxs⟩
  · exact .inl ⟨h1, by simp [h2]⟩
  · refine .inr ⟨b, o, cap, by simpa using hv, by simpa using hc, fun i x hx => ?_⟩
    rw [List.getElem?_map] at hx
    obtain ⟨y, hy, rfl⟩ := Option.map_eq_some_iff.1 hx
    obtain ⟨vs, g1, g2, g3⟩ := hxs i y hy
    refine ⟨vs, g1, g2, ?_⟩
    have hy0 := h0 y (List.mem_of_getElem? hy)
    show vs = [Value.int k ((y.toNat : Nat) : Int)]
    rw [Int.toNat_of_nonneg hy0]
    exact g3
/-- the laid cell that awake reads -/
def G (w : World) : Prop := At (view [] w) 3 15 [(Value.int .u8 ((4 : Nat) : Int))]
theorem G.ext {w w' : World} (h : G w) (hE : Ext w w') : G w' := At.mono ((Step.ext (O := []) hE).le []) h
end Go.X
namespace Go.D
open Go Go.X Go.C06
def awake6 (N : Nat) : Option Bool := some true
def ckSum (N : Nat) (b : List Int) : Option Int := if (∀ x ∈ b, 0 ≤ x ∧ x < 256) ∧ b.length ≤ 1000000 then some ((crcN 0 (b.map Int.toNat) : Nat) : Int) else none
end Go.D
namespace Go.Proofs.YtpfbdhfpojbmlaaDoor.WF
open Go Go.RowKit Go.X Go.D Go.C06 Go.Proofs.YtpfbdhfpojbmlaaDoor
theorem awake6_w (N : Nat) (w : World) (S : Nat → Prop) (hG : G w) (r : Bool) (h : awake6 N = some r) :
    Calls Tryd.prog 11 #[] w (Ret w (fun v w' => (Value.bool r) = v ∧ True)) := by
  obtain rfl := Option.some.inj h
  refine (P3.awake_c [] w (fun _ h => by cases h) hG).mono ?_
  rintro e w' ⟨v, he, hE, hv⟩
  exact ⟨v, he, hE, hv, trivial⟩
theorem ckSum_w (N : Nat) (b : List Int) (b_v : Value) (w : World) (S : Nat → Prop) (b_h : Rs (rInt .u8) (Hv w.heap.size S [] w) b_v b) (r : Int) (h : ckSum N b = some r) :
    Calls Tryd.prog 12 #[b_v] w (Ret w (fun v w' => (Value.int .u64 r) = v ∧ True)) := by
  unfold ckSum at h
  split at h
  · rename_i h0
    obtain rfl := Option.some.inj h
    have hI := Ints.ofRs (b_h.mono Hv.view) (fun x hx => (h0.1 x hx).1)
    refine (csum_c b_v (b.map Int.toNat) (fun x hx => ?_) (by simpa using h0.2) [] w (fun _ h => by cases h) hI).mono ?_
    · obtain ⟨y, hy, rfl⟩ := List.mem_map.1 hx
      have := h0.1 y hy
      omega
    · rintro e w' ⟨he, rfl⟩
      exact ⟨_, he, Ext.refl _, rfl, trivial⟩
  · cases h
end Go.Proofs.YtpfbdhfpojbmlaaDoor.WF

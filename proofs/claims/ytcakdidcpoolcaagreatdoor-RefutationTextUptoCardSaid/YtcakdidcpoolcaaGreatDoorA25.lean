/-
  Chapter 25's examples hold. Plain theorems.
-/
import Derived.Test.YtcakdidcpoolcaaGreatDoorOL
set_option linter.unusedSimpArgs false
set_option linter.unusedVariables false
set_option maxRecDepth 100000
namespace Go.D
open Go Go.X
theorem awake_at : awake 100 = some true := by decide +kernel
theorem awake_tm : Tm (fun N => awake N) (fun r => r = true) := Lo.tm (f := fun N => awake N) (fun h => awake_lo h) awake_at
theorem awake_true {N : Nat} {r : Bool} (h : awake N = some r) : r = true := by
  obtain ⟨a, K, ha, hK⟩ := awake_tm
  have h1 := (awake_lo (Nat.le_max_left N K)).le _ h
  have h2 := hK (max N K) (Nat.le_max_right N K)
  have h3 : some r = some a := h1.symm.trans h2
  rw [Option.some.inj h3, ha]
end Go.D

/-
 What bigint's counterparts reckon. Plain theorems.
-/
import Derived.Test.YtcakdidcpoolcaaGreatDoorM1
import Derived.Test.YtcakdidcpoolcaaGreatDoorPB
set_option linter.unusedSimpArgs false
set_option linter.unusedVariables false
namespace Go.D
open Go Go.X
abbrev W32 : Int := 4294967296
theorem w32_pos : (1 : Int) < W32 := by decide
def bv (x : Big) : Int := if x.Negative = true then - val W32 x.Digits else val W32 x.Digits
structure Is (x : Big) (v : Int) : Prop where
 dg : Dg W32 x.Digits v.natAbs
 neg : x.Negative = decide (v < 0)
theorem Is.bv {x : Big} {v : Int} (h : Is x v) : bv x = v := by
 unfold D.bv; rw [h.neg, h.dg.val]
 by_cases hv : v < 0
 · simp [hv]; omega
 · simp [hv]; omega
theorem Is.uniq {x y : Big} {v : Int} (h : Is x v) (h' : Is y v) : x = y := by
 have h1 := h.dg.uniq w32_pos h'.dg
 have h2 := h.neg.trans h'.neg.symm
 cases x; cases y; simp_all
end Go.D

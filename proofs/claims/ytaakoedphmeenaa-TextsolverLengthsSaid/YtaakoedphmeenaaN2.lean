/-
 The law Classes. Plain theorems.
-/
import Derived.Test.YtaakoedphmeenaaK8
import Derived.Test.YtaakoedphmeenaaN1
set_option linter.unusedSimpArgs false
set_option linter.unusedVariables false
namespace Go.D
open Go Go.X
theorem lnumbers_self {a : List Int} (h : a.length ≤ Bg) : Tm (fun N => lnumbers N a a) (· = true) := by
 have hb : Bg = 9223372036854775807 := rfl
 unfold lnumbers
 refine Tm.neg (by simp) ?_
 refine (Tm.allL (b := fun N => lnumbers_b1 N a a) a (fun _ => true) (by omega) (fun k hk => ?_) ?_).eq ?_
 · unfold lnumbers_b1
   refine Tm.pos (by omega) (Tm.step (idx_n hk) (Tm.step (idx_n hk) (Tm.neg (by simp) (Tm.some rfl))))
 · unfold lnumbers_b1
   exact Tm.neg (by omega) (Tm.some rfl)
 · rw [List.all_eq_true.2 fun _ _ => rfl]
   exact Tm.some rfl
end Go.D

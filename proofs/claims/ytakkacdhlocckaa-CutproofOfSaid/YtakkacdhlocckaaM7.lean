/-
  The law on a constraint and its inequalities. Plain theorems.
-/
import Derived.Test.YtakkacdhlocckaaM6
namespace Go.D
open Go Go.X
theorem IsL.getD {cs : List Big} {vs : List Int} (h : IsL cs vs) (n : Nat) : bv (cs.getD n big0) = vs.getD n 0 := by
  rcases Nat.lt_or_ge n cs.length with hn | hn
  · rw [getDb hn, getD_ok (by rw [← h.1]; exact hn)]
    exact (h.2 n hn _).bv
  · rw [getD_out (by rw [← h.1]; exact hn), List.getD_eq_getElem?_getD, List.getElem?_eq_none hn]
    rfl
end Go.D

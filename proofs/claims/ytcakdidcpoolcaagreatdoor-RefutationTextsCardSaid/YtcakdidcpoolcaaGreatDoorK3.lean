/-
 The integer constraints of a clause, by the program and by the reference. Plain theorems.
-/
import Derived.Test.YtcakdidcpoolcaaGreatDoorK2
set_option linter.unusedSimpArgs false
set_option linter.unusedVariables false
namespace Go.D
open Go Go.X
def quo (q : Int) (f : Linear) (b : Int) : List Constraint := [Constraint.mk (Linear.mk (iw (0 - f.Const)) ((f.Coefs.map fun x => Coef.mk x.Var (iw (0 - x.N))) ++ [Coef.mk q b])) false, Constraint.mk (Linear.mk (iw (f.Const - iw (b - 1))) (f.Coefs ++ [Coef.mk q (iw (0 - b))])) false]
def hiOf (l : List RVar) (rg : List Arr2Int) (v : Nat) : Int := match rg[v]?, l[v]? with
 | some r, some x => imin r.e1 x.Max
 | _, _ => 0
section
variable {l : List RVar} {c : RClause} {rg : List Arr2Int}
structure RgOk (l : List RVar) (rg : List Arr2Int) : Prop where
 len : rg.length = l.length
 bd : ∀ r ∈ rg, (0 ≤ r.e0 ∧ r.e0 ≤ 16) ∧ 0 ≤ r.e1 ∧ r.e1 ≤ 16
theorem vhigh_tm (hr : RgOk l rg) {k : Nat} (hk : k < l.length) : Tm (fun N => vhigh N l rg (k : Int)) (· = hiOf l rg k) := by
 unfold vhigh
 have hk2 : k < rg.length := by rw [hr.len]; exact hk
 refine Tm.step (idx_n hk2) (Tm.step (idx_n hk) (Tm.some ?_))
 unfold hiOf
 rw [List.getElem?_eq_getElem hk, List.getElem?_eq_getElem hk2]
theorem whigh_tm (hr : RgOk l rg) {k : Nat} (hk : k < l.length) : Tm (fun N => whigh N l rg (k : Int)) (· = hiOf l rg k) := by
 unfold whigh
 have hk2 : k < rg.length := by rw [hr.len]; exact hk
 refine Tm.step (idx_n hk2) (Tm.step (idx_n hk) ?_)
 have e : hiOf l rg k = imin rg[k].e1 l[k].Max := by
  unfold hiOf
  rw [List.getElem?_eq_getElem hk, List.getElem?_eq_getElem hk2]
 rw [e]
 by_cases g : rg[k].e1 < l[k].Max
 · exact Tm.pos g (Tm.step (idx_n hk2) (Tm.some (by unfold imin; rw [if_neg (by omega)])))
 · refine Tm.neg g (Tm.step (idx_n hk) (Tm.some ?_))
   unfold imin
   split <;> omega
end
end Go.D

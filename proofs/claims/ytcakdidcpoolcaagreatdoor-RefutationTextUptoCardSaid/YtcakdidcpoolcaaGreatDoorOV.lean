/- More fuel changes nothing. Written by a program of mine (wip/tool). -/
import Derived.Test.YtcakdidcpoolcaaGreatDoorM1
import Derived.Test.YtcakdidcpoolcaaGreatDoorOF25
import Derived.Test.YtcakdidcpoolcaaGreatDoorPV
import Derived.Test.YtcakdidcpoolcaaGreatDoorOA
import Derived.Test.YtcakdidcpoolcaaGreatDoorOR
import Derived.Test.YtcakdidcpoolcaaGreatDoorOB
import Derived.Test.YtcakdidcpoolcaaGreatDoorOC
import Derived.Test.YtcakdidcpoolcaaGreatDoorOD
import Derived.Test.YtcakdidcpoolcaaGreatDoorOI
import Derived.Test.YtcakdidcpoolcaaGreatDoorOH
import Derived.Test.YtcakdidcpoolcaaGreatDoorOS
set_option maxRecDepth 100000
set_option linter.unusedVariables false
set_option linter.unusedSimpArgs false
namespace Go.D
open Go Go.X
theorem cloneCoef_lo {N M : Nat} (h : N ≤ M)  (s : (List Coef)) : Lo (cloneCoef N s) (cloneCoef M s) := by
 unfold cloneCoef
 try dsimp only
 repeat' first
  | with_reducible (first | exact Lo.refl _ | refine Lo.bind ?_ (fun _ => ?_) | refine Lo.ite ?_ ?_ | refine Lo.loop h (fun _ => ?_))
  | intro _ | split
theorem vfirst_b1_lo {N M : Nat} (h : N ≤ M)  (l : (List RVar)) : ∀ ss0, Lo (vfirst_b1 N l ss0) (vfirst_b1 M l ss0) := by
 intro ss0
 unfold vfirst_b1
 try dsimp only
 repeat' first
  | with_reducible (first | exact Lo.refl _ | refine Lo.bind ?_ (fun _ => ?_) | refine Lo.ite ?_ ?_ | refine Lo.loop h (fun _ => ?_))
  | intro _ | split
theorem vfirst_lo {N M : Nat} (h : N ≤ M)  (l : (List RVar)) : Lo (vfirst N l) (vfirst M l) := by
 unfold vfirst
 try dsimp only
 repeat' first
  | with_reducible (first | exact Lo.refl _ | apply vfirst_b1_lo h | refine Lo.bind ?_ (fun _ => ?_) | refine Lo.ite ?_ ?_ | refine Lo.loop h (fun _ => ?_))
  | intro _ | split
theorem vhigh_lo {N M : Nat} (h : N ≤ M)  (l : (List RVar)) (ranges : (List Arr2Int)) (pc : Int) : Lo (vhigh N l ranges pc) (vhigh M l ranges pc) := by
 unfold vhigh
 try dsimp only
 repeat' first
  | with_reducible (first | exact Lo.refl _ | refine Lo.bind ?_ (fun _ => ?_) | refine Lo.ite ?_ ?_ | refine Lo.loop h (fun _ => ?_))
  | intro _ | split
theorem vbounds_lo {N M : Nat} (h : N ≤ M)  (pa : Int) (low : Int) (high : Int) : Lo (vbounds N pa low high) (vbounds M pa low high) := by
 unfold vbounds
 try dsimp only
 repeat' first
  | with_reducible (first | exact Lo.refl _ | refine Lo.bind ?_ (fun _ => ?_) | refine Lo.ite ?_ ?_ | refine Lo.loop h (fun _ => ?_))
  | intro _ | split
theorem vquotient_b1_lo {N M : Nat} (h : N ≤ M)  (pb : Linear) : ∀ ss0, Lo (vquotient_b1 N pb ss0) (vquotient_b1 M pb ss0) := by
 intro ss0
 unfold vquotient_b1
 try dsimp only
 repeat' first
  | with_reducible (first | exact Lo.refl _ | refine Lo.bind ?_ (fun _ => ?_) | refine Lo.ite ?_ ?_ | refine Lo.loop h (fun _ => ?_))
  | intro _ | split
theorem vquotient_lo {N M : Nat} (h : N ≤ M)  (q : Int) (pb : Linear) (pc : Int) : Lo (vquotient N q pb pc) (vquotient M q pb pc) := by
 unfold vquotient
 try dsimp only
 repeat' first
  | with_reducible (first | exact Lo.refl _ | apply vquotient_b1_lo h | refine Lo.bind ?_ (fun _ => ?_) | refine Lo.ite ?_ ?_ | refine Lo.loop h (fun _ => ?_))
  | intro _ | split
theorem vInts_b1_lo {N M : Nat} (h : N ≤ M)  (c : RClause) (l : (List RVar)) : ∀ ss0, Lo (vInts_b1 N c l ss0) (vInts_b1 M c l ss0) := by
 intro ss0
 unfold vInts_b1
 try dsimp only
 repeat' first
  | with_reducible (first | exact Lo.refl _ | apply vbounds_lo h | refine Lo.bind ?_ (fun _ => ?_) | refine Lo.ite ?_ ?_ | refine Lo.loop h (fun _ => ?_))
  | intro _ | split
theorem vInts_b2_lo {N M : Nat} (h : N ≤ M)  (c : RClause) (l : (List RVar)) (ranges : (List Arr2Int)) : ∀ ss0, Lo (vInts_b2 N c l ranges ss0) (vInts_b2 M c l ranges ss0) := by
 intro ss0
 unfold vInts_b2
 try dsimp only
 repeat' first
  | with_reducible (first | exact Lo.refl _ | apply vbounds_lo h | apply vhigh_lo h | apply vquotient_lo h | refine Lo.bind ?_ (fun _ => ?_) | refine Lo.ite ?_ ?_ | refine Lo.loop h (fun _ => ?_))
  | intro _ | split
theorem vInts_b3_lo {N M : Nat} (h : N ≤ M)  (c : RClause) : ∀ ss0, Lo (vInts_b3 N c ss0) (vInts_b3 M c ss0) := by
 intro ss0
 unfold vInts_b3
 try dsimp only
 repeat' first
  | with_reducible (first | exact Lo.refl _ | apply cloneCoef_lo h | refine Lo.bind ?_ (fun _ => ?_) | refine Lo.ite ?_ ?_ | refine Lo.loop h (fun _ => ?_))
  | intro _ | split
theorem vInts_lo {N M : Nat} (h : N ≤ M)  (l : (List RVar)) (c : RClause) (ranges : (List Arr2Int)) : Lo (vInts N l c ranges) (vInts M l c ranges) := by
 unfold vInts
 try dsimp only
 repeat' first
  | with_reducible (first | exact Lo.refl _ | apply vInts_b1_lo h | apply vInts_b2_lo h | apply vInts_b3_lo h | refine Lo.bind ?_ (fun _ => ?_) | refine Lo.ite ?_ ?_ | refine Lo.loop h (fun _ => ?_))
  | intro _ | split
theorem vcheck_step_lo {N M : Nat} (h : N ≤ M) {self self' : (List RVar) → RClause → Refut → (List Arr2Int) → Option Bool} (hself : ∀ y0 y1 y2 y3, Lo (self y0 y1 y2 y3) (self' y0 y1 y2 y3)) (l : (List RVar)) (c : RClause) (pc : Refut) (ranges : (List Arr2Int)) : Lo (vcheck_step N self l c pc ranges) (vcheck_step M self' l c pc ranges) := by
 unfold vcheck_step
 try dsimp only
 repeat' first
  | with_reducible (first | exact Lo.refl _ | exact hself | exact hself _ _ _ _ | apply cCheck_lo h | apply cSystem_lo h | apply containsOf_lo h | apply vInts_lo h | refine Lo.bind ?_ (fun _ => ?_) | refine Lo.ite ?_ ?_ | refine Lo.loop h (fun _ => ?_))
  | intro _ | split
theorem vcheck_lo : ∀ {N M : Nat} (_ : N ≤ M) a0 a1 a2 a3, Lo (vcheck N a0 a1 a2 a3) (vcheck M a0 a1 a2 a3)
 | 0, _, _ => fun _ _ _ _ => Lo.none
 | N + 1, 0, h => by omega
 | N + 1, M + 1, h => vcheck_step_lo (by omega) (vcheck_lo (by omega))
theorem vCheck_lo {N M : Nat} (h : N ≤ M)  (l : (List RVar)) (c : RClause) (pc : Refut) : Lo (vCheck N l c pc) (vCheck M l c pc) := by
 unfold vCheck
 try dsimp only
 repeat' first
  | with_reducible (first | exact Lo.refl _ | apply vcheck_lo h | apply vfirst_lo h | refine Lo.bind ?_ (fun _ => ?_) | refine Lo.ite ?_ ?_ | refine Lo.loop h (fun _ => ?_))
  | intro _ | split
theorem vFormat_b1_lo {N M : Nat} (h : N ≤ M) {self self' : Refut → Option (List UInt8)} (hself : ∀ y0, Lo (self y0) (self' y0)) (pa : Refut) : ∀ ss0, Lo (vFormat_b1 N self pa ss0) (vFormat_b1 M self' pa ss0) := by
 intro ss0
 unfold vFormat_b1
 try dsimp only
 repeat' first
  | with_reducible (first | exact Lo.refl _ | exact hself | exact hself _ | refine Lo.bind ?_ (fun _ => ?_) | refine Lo.ite ?_ ?_ | refine Lo.loop h (fun _ => ?_))
  | intro _ | split
theorem vFormat_step_lo {N M : Nat} (h : N ≤ M) {self self' : Refut → Option (List UInt8)} (hself : ∀ y0, Lo (self y0) (self' y0)) (pa : Refut) : Lo (vFormat_step N self pa) (vFormat_step M self' pa) := by
 unfold vFormat_step
 try dsimp only
 repeat' first
  | with_reducible (first | exact Lo.refl _ | exact hself | exact hself _ | apply cSize_lo h | apply fmtI_lo h | apply vFormat_b1_lo h | refine Lo.bind ?_ (fun _ => ?_) | refine Lo.ite ?_ ?_ | refine Lo.loop h (fun _ => ?_))
  | intro _ | split
theorem vFormat_lo : ∀ {N M : Nat} (_ : N ≤ M) a0, Lo (vFormat N a0) (vFormat M a0)
 | 0, _, _ => fun _ => Lo.none
 | N + 1, 0, h => by omega
 | N + 1, M + 1, h => vFormat_step_lo (by omega) (vFormat_lo (by omega))
end Go.D

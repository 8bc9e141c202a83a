/- More fuel changes nothing. Written by a program of mine (wip/tool). -/
import Derived.Test.YtcakdidcpoolcaaGreatDoorM1
import Derived.Test.YtcakdidcpoolcaaGreatDoorOF25
import Derived.Test.YtcakdidcpoolcaaGreatDoorPC
import Derived.Test.YtcakdidcpoolcaaGreatDoorOA
import Derived.Test.YtcakdidcpoolcaaGreatDoorOR
import Derived.Test.YtcakdidcpoolcaaGreatDoorOB
set_option maxRecDepth 100000
set_option linter.unusedVariables false
set_option linter.unusedSimpArgs false
namespace Go.D
open Go Go.X
theorem cvalid_b1_lo {N M : Nat} (h : N ≤ M)  (c : Constraint) (n : Int) : ∀ ss0, Lo (cvalid_b1 N c n ss0) (cvalid_b1 M c n ss0) := by
 intro ss0
 unfold cvalid_b1
 try dsimp only
 repeat' first
  | with_reducible (first | exact Lo.refl _ | refine Lo.bind ?_ (fun _ => ?_) | refine Lo.ite ?_ ?_ | refine Lo.loop h (fun _ => ?_))
  | intro _ | split
theorem cvalid_lo {N M : Nat} (h : N ≤ M)  (c : Constraint) (n : Int) : Lo (cvalid N c n) (cvalid M c n) := by
 unfold cvalid
 try dsimp only
 repeat' first
  | with_reducible (first | exact Lo.refl _ | apply cvalid_b1_lo h | refine Lo.bind ?_ (fun _ => ?_) | refine Lo.ite ?_ ?_ | refine Lo.loop h (fun _ => ?_))
  | intro _ | split
theorem negated_b1_lo {N M : Nat} (h : N ≤ M)  (l : (List Big)) : ∀ ss0, Lo (negated_b1 N l ss0) (negated_b1 M l ss0) := by
 intro ss0
 unfold negated_b1
 try dsimp only
 repeat' first
  | with_reducible (first | exact Lo.refl _ | apply bNeg_lo h | refine Lo.bind ?_ (fun _ => ?_) | refine Lo.ite ?_ ?_ | refine Lo.loop h (fun _ => ?_))
  | intro _ | split
theorem negated_lo {N M : Nat} (h : N ≤ M)  (l : (List Big)) (bound : Big) : Lo (negated N l bound) (negated M l bound) := by
 unfold negated
 try dsimp only
 repeat' first
  | with_reducible (first | exact Lo.refl _ | apply bNormal_lo h | apply negated_b1_lo h | refine Lo.bind ?_ (fun _ => ?_) | refine Lo.ite ?_ ?_ | refine Lo.loop h (fun _ => ?_))
  | intro _ | split
theorem cOf_b1_lo {N M : Nat} (h : N ≤ M)  (c : Constraint) : ∀ ss0, Lo (cOf_b1 N c ss0) (cOf_b1 M c ss0) := by
 intro ss0
 unfold cOf_b1
 try dsimp only
 repeat' first
  | with_reducible (first | exact Lo.refl _ | apply bOf_lo h | refine Lo.bind ?_ (fun _ => ?_) | refine Lo.ite ?_ ?_ | refine Lo.loop h (fun _ => ?_))
  | intro _ | split
theorem cOf_lo {N M : Nat} (h : N ≤ M)  (c : Constraint) (n : Int) : Lo (cOf N c n) (cOf M c n) := by
 unfold cOf
 try dsimp only
 repeat' first
  | with_reducible (first | exact Lo.refl _ | apply bNeg_lo h | apply bOf_lo h | apply cOf_b1_lo h | apply cvalid_lo h | apply negated_lo h | refine Lo.bind ?_ (fun _ => ?_) | refine Lo.ite ?_ ?_ | refine Lo.loop h (fun _ => ?_))
  | intro _ | split
theorem cSystem_b1_lo {N M : Nat} (h : N ≤ M)  (l : (List Constraint)) (n : Int) : ∀ ss0, Lo (cSystem_b1 N l n ss0) (cSystem_b1 M l n ss0) := by
 intro ss0
 unfold cSystem_b1
 try dsimp only
 repeat' first
  | with_reducible (first | exact Lo.refl _ | apply cOf_lo h | apply cvalid_lo h | refine Lo.bind ?_ (fun _ => ?_) | refine Lo.ite ?_ ?_ | refine Lo.loop h (fun _ => ?_))
  | intro _ | split
theorem cSystem_lo {N M : Nat} (h : N ≤ M)  (l : (List Constraint)) (n : Int) : Lo (cSystem N l n) (cSystem M l n) := by
 unfold cSystem
 try dsimp only
 repeat' first
  | with_reducible (first | exact Lo.refl _ | apply cSystem_b1_lo h | refine Lo.bind ?_ (fun _ => ?_) | refine Lo.ite ?_ ?_ | refine Lo.loop h (fun _ => ?_))
  | intro _ | split
theorem cloneIneq_lo {N M : Nat} (h : N ≤ M)  (s : (List Ineq)) : Lo (cloneIneq N s) (cloneIneq M s) := by
 unfold cloneIneq
 try dsimp only
 repeat' first
  | with_reducible (first | exact Lo.refl _ | refine Lo.bind ?_ (fun _ => ?_) | refine Lo.ite ?_ ?_ | refine Lo.loop h (fun _ => ?_))
  | intro _ | split
theorem indexIneq_b1_lo {N M : Nat} (h : N ≤ M) {f f' : (Ineq → Option Bool)} (hf : ∀ y0, Lo (f y0) (f' y0)) (s : (List Ineq)) : ∀ ss0, Lo (indexIneq_b1 N f s ss0) (indexIneq_b1 M f' s ss0) := by
 intro ss0
 unfold indexIneq_b1
 try dsimp only
 repeat' first
  | with_reducible (first | exact Lo.refl _ | exact hf | exact hf _ | refine Lo.bind ?_ (fun _ => ?_) | refine Lo.ite ?_ ?_ | refine Lo.loop h (fun _ => ?_))
  | intro _ | split
theorem indexIneq_lo {N M : Nat} (h : N ≤ M) {f f' : (Ineq → Option Bool)} (hf : ∀ y0, Lo (f y0) (f' y0)) (s : (List Ineq)) : Lo (indexIneq N s f) (indexIneq M s f') := by
 unfold indexIneq
 try dsimp only
 repeat' first
  | with_reducible (first | exact Lo.refl _ | exact hf | exact hf _ | apply indexIneq_b1_lo h | refine Lo.bind ?_ (fun _ => ?_) | refine Lo.ite ?_ ?_ | refine Lo.loop h (fun _ => ?_))
  | intro _ | split
theorem containsIneq_lo {N M : Nat} (h : N ≤ M) {f f' : (Ineq → Option Bool)} (hf : ∀ y0, Lo (f y0) (f' y0)) (s : (List Ineq)) : Lo (containsIneq N s f) (containsIneq M s f') := by
 unfold containsIneq
 try dsimp only
 repeat' first
  | with_reducible (first | exact Lo.refl _ | exact hf | exact hf _ | apply indexIneq_lo h | refine Lo.bind ?_ (fun _ => ?_) | refine Lo.ite ?_ ?_ | refine Lo.loop h (fun _ => ?_))
  | intro _ | split
theorem width1_lo {N M : Nat} (h : N ≤ M)  (q : Ineq) (ca : Int) : Lo (width1 N q ca) (width1 M q ca) := by
 unfold width1
 try dsimp only
 repeat' first
  | with_reducible (first | exact Lo.refl _ | refine Lo.bind ?_ (fun _ => ?_) | refine Lo.ite ?_ ?_ | refine Lo.loop h (fun _ => ?_))
  | intro _ | split
theorem cwidth_lo {N M : Nat} (h : N ≤ M)  (l : (List Ineq)) : Lo (cwidth N l) (cwidth M l) := by
 unfold cwidth
 try dsimp only
 repeat' first
  | with_reducible (first | exact Lo.refl _ | apply containsIneq_lo h | apply width1_lo h | refine Lo.bind ?_ (fun _ => ?_) | refine Lo.ite ?_ ?_ | refine Lo.loop h (fun _ => ?_))
  | intro _ | split
theorem cApply_b2_lo {N M : Nat} (h : N ≤ M)  (x1628 : Use) (x1701 : Ineq) : ∀ ss0, Lo (cApply_b2 N x1628 x1701 ss0) (cApply_b2 M x1628 x1701 ss0) := by
 intro ss0
 unfold cApply_b2
 try dsimp only
 repeat' first
  | with_reducible (first | exact Lo.refl _ | apply bAdd_lo h | apply bMul_lo h | refine Lo.bind ?_ (fun _ => ?_) | refine Lo.ite ?_ ?_ | refine Lo.loop h (fun _ => ?_))
  | intro _ | split
theorem cApply_b1_lo {N M : Nat} (h : N ≤ M)  (l : (List Ineq)) (s : Step) : ∀ ss0, Lo (cApply_b1 N l s ss0) (cApply_b1 M l s ss0) := by
 intro ss0
 unfold cApply_b1
 try dsimp only
 repeat' first
  | with_reducible (first | exact Lo.refl _ | apply bAdd_lo h | apply bMul_lo h | apply bSign_lo h | apply cApply_b2_lo h | refine Lo.bind ?_ (fun _ => ?_) | refine Lo.ite ?_ ?_ | refine Lo.loop h (fun _ => ?_))
  | intro _ | split
theorem cApply_b3_lo {N M : Nat} (h : N ≤ M)  (s : Step) (coefs1608 : (List Big)) : ∀ ss0, Lo (cApply_b3 N s coefs1608 ss0) (cApply_b3 M s coefs1608 ss0) := by
 intro ss0
 unfold cApply_b3
 try dsimp only
 repeat' first
  | with_reducible (first | exact Lo.refl _ | apply bDivFloor_lo h | apply bSign_lo h | refine Lo.bind ?_ (fun _ => ?_) | refine Lo.ite ?_ ?_ | refine Lo.loop h (fun _ => ?_))
  | intro _ | split
theorem cApply_lo {N M : Nat} (h : N ≤ M)  (l : (List Ineq)) (s : Step) : Lo (cApply N l s) (cApply M l s) := by
 unfold cApply
 try dsimp only
 repeat' first
  | with_reducible (first | exact Lo.refl _ | apply bDivFloor_lo h | apply bSign_lo h | apply cApply_b1_lo h | apply cApply_b3_lo h | apply cwidth_lo h | refine Lo.bind ?_ (fun _ => ?_) | refine Lo.ite ?_ ?_ | refine Lo.loop h (fun _ => ?_))
  | intro _ | split
theorem cContradictory_b1_lo {N M : Nat} (h : N ≤ M)  (q : Ineq) : ∀ ss0, Lo (cContradictory_b1 N q ss0) (cContradictory_b1 M q ss0) := by
 intro ss0
 unfold cContradictory_b1
 try dsimp only
 repeat' first
  | with_reducible (first | exact Lo.refl _ | apply bSign_lo h | refine Lo.bind ?_ (fun _ => ?_) | refine Lo.ite ?_ ?_ | refine Lo.loop h (fun _ => ?_))
  | intro _ | split
theorem cContradictory_lo {N M : Nat} (h : N ≤ M)  (q : Ineq) : Lo (cContradictory N q) (cContradictory M q) := by
 unfold cContradictory
 try dsimp only
 repeat' first
  | with_reducible (first | exact Lo.refl _ | apply bSign_lo h | apply cContradictory_b1_lo h | refine Lo.bind ?_ (fun _ => ?_) | refine Lo.ite ?_ ?_ | refine Lo.loop h (fun _ => ?_))
  | intro _ | split
theorem cCheck_b1_lo {N M : Nat} (h : N ≤ M)  (p : Proof) : ∀ ss0, Lo (cCheck_b1 N p ss0) (cCheck_b1 M p ss0) := by
 intro ss0
 unfold cCheck_b1
 try dsimp only
 repeat' first
  | with_reducible (first | exact Lo.refl _ | apply cApply_lo h | refine Lo.bind ?_ (fun _ => ?_) | refine Lo.ite ?_ ?_ | refine Lo.loop h (fun _ => ?_))
  | intro _ | split
theorem cCheck_step_lo {N M : Nat} (h : N ≤ M) {self self' : (List Ineq) → Proof → Option Bool} (hself : ∀ y0 y1, Lo (self y0 y1) (self' y0 y1)) (l : (List Ineq)) (p : Proof) : Lo (cCheck_step N self l p) (cCheck_step M self' l p) := by
 unfold cCheck_step
 try dsimp only
 repeat' first
  | with_reducible (first | exact Lo.refl _ | exact hself | exact hself _ _ | apply bNeg_lo h | apply bOf_lo h | apply bSub_lo h | apply cCheck_b1_lo h | apply cContradictory_lo h | apply cloneIneq_lo h | apply containsIneq_lo h | apply cwidth_lo h | apply negated_lo h | refine Lo.bind ?_ (fun _ => ?_) | refine Lo.ite ?_ ?_ | refine Lo.loop h (fun _ => ?_))
  | intro _ | split
theorem cCheck_lo : ∀ {N M : Nat} (_ : N ≤ M) a0 a1, Lo (cCheck N a0 a1) (cCheck M a0 a1)
 | 0, _, _ => fun _ _ => Lo.none
 | N + 1, 0, h => by omega
 | N + 1, M + 1, h => cCheck_step_lo (by omega) (cCheck_lo (by omega))
theorem cSize_b1_lo {N M : Nat} (h : N ≤ M) {self self' : Proof → Option Int} (hself : ∀ y0, Lo (self y0) (self' y0)) (p : Proof) : ∀ ss0, Lo (cSize_b1 N self p ss0) (cSize_b1 M self' p ss0) := by
 intro ss0
 unfold cSize_b1
 try dsimp only
 repeat' first
  | with_reducible (first | exact Lo.refl _ | exact hself | exact hself _ | refine Lo.bind ?_ (fun _ => ?_) | refine Lo.ite ?_ ?_ | refine Lo.loop h (fun _ => ?_))
  | intro _ | split
theorem cSize_step_lo {N M : Nat} (h : N ≤ M) {self self' : Proof → Option Int} (hself : ∀ y0, Lo (self y0) (self' y0)) (p : Proof) : Lo (cSize_step N self p) (cSize_step M self' p) := by
 unfold cSize_step
 try dsimp only
 repeat' first
  | with_reducible (first | exact Lo.refl _ | exact hself | exact hself _ | apply cSize_b1_lo h | refine Lo.bind ?_ (fun _ => ?_) | refine Lo.ite ?_ ?_ | refine Lo.loop h (fun _ => ?_))
  | intro _ | split
theorem cSize_lo : ∀ {N M : Nat} (_ : N ≤ M) a0, Lo (cSize N a0) (cSize M a0)
 | 0, _, _ => fun _ => Lo.none
 | N + 1, 0, h => by omega
 | N + 1, M + 1, h => cSize_step_lo (by omega) (cSize_lo (by omega))
end Go.D

/- More fuel changes nothing. Written by a program of mine (wip/tool). -/
import Derived.Test.YtaakoedphmeenaaM1
import Derived.Test.YtaakoedphmeenaaPT
import Derived.Test.YtaakoedphmeenaaOA
import Derived.Test.YtaakoedphmeenaaOR
set_option maxRecDepth 100000
set_option linter.unusedVariables false
set_option linter.unusedSimpArgs false
namespace Go.D
open Go Go.X
theorem indexInt_b1_lo {N M : Nat} (h : N ≤ M) {f f' : (Int → Option Bool)} (hf : ∀ y0, Lo (f y0) (f' y0)) (s : (List Int)) : ∀ ss0, Lo (indexInt_b1 N f s ss0) (indexInt_b1 M f' s ss0) := by
 intro ss0
 unfold indexInt_b1
 try dsimp only
 repeat' first
  | with_reducible (first | exact Lo.refl _ | exact hf | exact hf _ | refine Lo.bind ?_ (fun _ => ?_) | refine Lo.ite ?_ ?_ | refine Lo.loop h (fun _ => ?_))
  | intro _ | split
theorem indexInt_lo {N M : Nat} (h : N ≤ M) {f f' : (Int → Option Bool)} (hf : ∀ y0, Lo (f y0) (f' y0)) (s : (List Int)) : Lo (indexInt N s f) (indexInt M s f') := by
 unfold indexInt
 try dsimp only
 repeat' first
  | with_reducible (first | exact Lo.refl _ | exact hf | exact hf _ | apply indexInt_b1_lo h | refine Lo.bind ?_ (fun _ => ?_) | refine Lo.ite ?_ ?_ | refine Lo.loop h (fun _ => ?_))
  | intro _ | split
theorem containsInt_lo {N M : Nat} (h : N ≤ M) {f f' : (Int → Option Bool)} (hf : ∀ y0, Lo (f y0) (f' y0)) (s : (List Int)) : Lo (containsInt N s f) (containsInt M s f') := by
 unfold containsInt
 try dsimp only
 repeat' first
  | with_reducible (first | exact Lo.refl _ | exact hf | exact hf _ | apply indexInt_lo h | refine Lo.bind ?_ (fun _ => ?_) | refine Lo.ite ?_ ?_ | refine Lo.loop h (fun _ => ?_))
  | intro _ | split
theorem tSatisfies_b2_lo {N M : Nat} (h : N ≤ M)  (x423 : (List UInt8)) : ∀ ss0, Lo (tSatisfies_b2 N x423 ss0) (tSatisfies_b2 M x423 ss0) := by
 intro ss0
 unfold tSatisfies_b2
 try dsimp only
 repeat' first
  | with_reducible (first | exact Lo.refl _ | refine Lo.bind ?_ (fun _ => ?_) | refine Lo.ite ?_ ?_ | refine Lo.loop h (fun _ => ?_))
  | intro _ | split
theorem tSatisfies_b1_lo {N M : Nat} (h : N ≤ M)  (p : TProb) (texts : (List (List UInt8))) : ∀ ss0, Lo (tSatisfies_b1 N p texts ss0) (tSatisfies_b1 M p texts ss0) := by
 intro ss0
 unfold tSatisfies_b1
 try dsimp only
 repeat' first
  | with_reducible (first | exact Lo.refl _ | apply tSatisfies_b2_lo h | refine Lo.bind ?_ (fun _ => ?_) | refine Lo.ite ?_ ?_ | refine Lo.loop h (fun _ => ?_))
  | intro _ | split
theorem tSatisfies_b3_lo {N M : Nat} (h : N ≤ M)  (p : TProb) (texts : (List (List UInt8))) : ∀ ss0, Lo (tSatisfies_b3 N p texts ss0) (tSatisfies_b3 M p texts ss0) := by
 intro ss0
 unfold tSatisfies_b3
 try dsimp only
 repeat' first
  | with_reducible (first | exact Lo.refl _ | apply pPasses_lo h | refine Lo.bind ?_ (fun _ => ?_) | refine Lo.ite ?_ ?_ | refine Lo.loop h (fun _ => ?_))
  | intro _ | split
theorem tSatisfies_b4_lo {N M : Nat} (h : N ≤ M)  (p : TProb) (texts : (List (List UInt8))) : ∀ ss0, Lo (tSatisfies_b4 N p texts ss0) (tSatisfies_b4 M p texts ss0) := by
 intro ss0
 unfold tSatisfies_b4
 try dsimp only
 repeat' first
  | with_reducible (first | exact Lo.refl _ | refine Lo.bind ?_ (fun _ => ?_) | refine Lo.ite ?_ ?_ | refine Lo.loop h (fun _ => ?_))
  | intro _ | split
theorem tSatisfies_b5_lo {N M : Nat} (h : N ≤ M)  (p : TProb) (texts : (List (List UInt8))) : ∀ ss0, Lo (tSatisfies_b5 N p texts ss0) (tSatisfies_b5 M p texts ss0) := by
 intro ss0
 unfold tSatisfies_b5
 try dsimp only
 repeat' first
  | with_reducible (first | exact Lo.refl _ | refine Lo.bind ?_ (fun _ => ?_) | refine Lo.ite ?_ ?_ | refine Lo.loop h (fun _ => ?_))
  | intro _ | split
theorem tSatisfies_lo {N M : Nat} (h : N ≤ M)  (p : TProb) (texts : (List (List UInt8))) : Lo (tSatisfies N p texts) (tSatisfies M p texts) := by
 unfold tSatisfies
 try dsimp only
 repeat' first
  | with_reducible (first | exact Lo.refl _ | apply tSatisfies_b1_lo h | apply tSatisfies_b3_lo h | apply tSatisfies_b4_lo h | apply tSatisfies_b5_lo h | refine Lo.bind ?_ (fun _ => ?_) | refine Lo.ite ?_ ?_ | refine Lo.loop h (fun _ => ?_))
  | intro _ | split
theorem tclasses_b1_lo {N M : Nat} (h : N ≤ M)  (x8 : (List Int)) : ∀ ss0, Lo (tclasses_b1 N x8 ss0) (tclasses_b1 M x8 ss0) := by
 intro ss0
 unfold tclasses_b1
 try dsimp only
 repeat' first
  | with_reducible (first | exact Lo.refl _ | refine Lo.bind ?_ (fun _ => ?_) | refine Lo.ite ?_ ?_ | refine Lo.loop h (fun _ => ?_))
  | intro _ | split
theorem tclasses_b3_lo {N M : Nat} (h : N ≤ M)  (p : TProb) : ∀ ss0, Lo (tclasses_b3 N p ss0) (tclasses_b3 M p ss0) := by
 intro ss0
 unfold tclasses_b3
 try dsimp only
 repeat' first
  | with_reducible (first | exact Lo.refl _ | refine Lo.bind ?_ (fun _ => ?_) | refine Lo.ite ?_ ?_ | refine Lo.loop h (fun _ => ?_))
  | intro _ | split
theorem tclasses_b2_lo {N M : Nat} (h : N ≤ M)  (p : TProb) : ∀ ss0, Lo (tclasses_b2 N p ss0) (tclasses_b2 M p ss0) := by
 intro ss0
 unfold tclasses_b2
 try dsimp only
 repeat' first
  | with_reducible (first | exact Lo.refl _ | apply tclasses_b3_lo h | refine Lo.bind ?_ (fun _ => ?_) | refine Lo.ite ?_ ?_ | refine Lo.loop h (fun _ => ?_))
  | intro _ | split
theorem tclasses_b4_lo {N M : Nat} (h : N ≤ M)  (least1339 : (List Int)) : ∀ ss0, Lo (tclasses_b4 N least1339 ss0) (tclasses_b4 M least1339 ss0) := by
 intro ss0
 unfold tclasses_b4
 try dsimp only
 repeat' first
  | with_reducible (first | exact Lo.refl _ | refine Lo.bind ?_ (fun _ => ?_) | refine Lo.ite ?_ ?_ | refine Lo.loop h (fun _ => ?_))
  | intro _ | split
theorem tclasses_lo {N M : Nat} (h : N ≤ M)  (p : TProb) : Lo (tclasses N p) (tclasses M p) := by
 unfold tclasses
 try dsimp only
 repeat' first
  | with_reducible (first | exact Lo.refl _ | apply tclasses_b1_lo h | apply tclasses_b2_lo h | apply tclasses_b4_lo h | refine Lo.bind ?_ (fun _ => ?_) | refine Lo.ite ?_ ?_ | refine Lo.loop h (fun _ => ?_))
  | intro _ | split
theorem tClasses_b1_lo {N M : Nat} (h : N ≤ M)  (r6 : ((List Int) × Int)) : ∀ ss0, Lo (tClasses_b1 N r6 ss0) (tClasses_b1 M r6 ss0) := by
 intro ss0
 unfold tClasses_b1
 try dsimp only
 repeat' first
  | with_reducible (first | exact Lo.refl _ | refine Lo.bind ?_ (fun _ => ?_) | refine Lo.ite ?_ ?_ | refine Lo.loop h (fun _ => ?_))
  | intro _ | split
theorem tClasses_lo {N M : Nat} (h : N ≤ M)  (p : TProb) : Lo (tClasses N p) (tClasses M p) := by
 unfold tClasses
 try dsimp only
 repeat' first
  | with_reducible (first | exact Lo.refl _ | apply tClasses_b1_lo h | apply tclasses_lo h | refine Lo.bind ?_ (fun _ => ?_) | refine Lo.ite ?_ ?_ | refine Lo.loop h (fun _ => ?_))
  | intro _ | split
theorem indexOf_b1_lo {N M : Nat} (h : N ≤ M)  (pb : Int) (s : (List Int)) : ∀ ss0, Lo (indexOf_b1 N pb s ss0) (indexOf_b1 M pb s ss0) := by
 intro ss0
 unfold indexOf_b1
 try dsimp only
 repeat' first
  | with_reducible (first | exact Lo.refl _ | refine Lo.bind ?_ (fun _ => ?_) | refine Lo.ite ?_ ?_ | refine Lo.loop h (fun _ => ?_))
  | intro _ | split
theorem indexOf_lo {N M : Nat} (h : N ≤ M)  (s : (List Int)) (pb : Int) : Lo (indexOf N s pb) (indexOf M s pb) := by
 unfold indexOf
 try dsimp only
 repeat' first
  | with_reducible (first | exact Lo.refl _ | apply indexOf_b1_lo h | refine Lo.bind ?_ (fun _ => ?_) | refine Lo.ite ?_ ?_ | refine Lo.loop h (fun _ => ?_))
  | intro _ | split
theorem containsOf_lo {N M : Nat} (h : N ≤ M)  (s : (List Int)) (pb : Int) : Lo (containsOf N s pb) (containsOf M s pb) := by
 unfold containsOf
 try dsimp only
 repeat' first
  | with_reducible (first | exact Lo.refl _ | apply indexOf_lo h | refine Lo.bind ?_ (fun _ => ?_) | refine Lo.ite ?_ ?_ | refine Lo.loop h (fun _ => ?_))
  | intro _ | split
theorem cloneTest_lo {N M : Nat} (h : N ≤ M)  (s : (List TTest)) : Lo (cloneTest N s) (cloneTest M s) := by
 unfold cloneTest
 try dsimp only
 repeat' first
  | with_reducible (first | exact Lo.refl _ | refine Lo.bind ?_ (fun _ => ?_) | refine Lo.ite ?_ ?_ | refine Lo.loop h (fun _ => ?_))
  | intro _ | split
theorem tgathered_b1_lo {N M : Nat} (h : N ≤ M)  (x27 : (List TClass)) : ∀ ss0, Lo (tgathered_b1 N x27 ss0) (tgathered_b1 M x27 ss0) := by
 intro ss0
 unfold tgathered_b1
 try dsimp only
 repeat' first
  | with_reducible (first | exact Lo.refl _ | refine Lo.bind ?_ (fun _ => ?_) | refine Lo.ite ?_ ?_ | refine Lo.loop h (fun _ => ?_))
  | intro _ | split
theorem tgathered_b2_lo {N M : Nat} (h : N ≤ M)  (p : TProb) (r6 : ((List Int) × Int)) : ∀ ss0, Lo (tgathered_b2 N p r6 ss0) (tgathered_b2 M p r6 ss0) := by
 intro ss0
 unfold tgathered_b2
 try dsimp only
 repeat' first
  | with_reducible (first | exact Lo.refl _ | refine Lo.bind ?_ (fun _ => ?_) | refine Lo.ite ?_ ?_ | refine Lo.loop h (fun _ => ?_))
  | intro _ | split
theorem tgathered_b3_lo {N M : Nat} (h : N ≤ M)  (p : TProb) (r6 : ((List Int) × Int)) : ∀ ss0, Lo (tgathered_b3 N p r6 ss0) (tgathered_b3 M p r6 ss0) := by
 intro ss0
 unfold tgathered_b3
 try dsimp only
 repeat' first
  | with_reducible (first | exact Lo.refl _ | refine Lo.bind ?_ (fun _ => ?_) | refine Lo.ite ?_ ?_ | refine Lo.loop h (fun _ => ?_))
  | intro _ | split
theorem tgathered_b4_lo {N M : Nat} (h : N ≤ M)  (p : TProb) (r6 : ((List Int) × Int)) : ∀ ss0, Lo (tgathered_b4 N p r6 ss0) (tgathered_b4 M p r6 ss0) := by
 intro ss0
 unfold tgathered_b4
 try dsimp only
 repeat' first
  | with_reducible (first | exact Lo.refl _ | apply containsOf_lo h | refine Lo.bind ?_ (fun _ => ?_) | refine Lo.ite ?_ ?_ | refine Lo.loop h (fun _ => ?_))
  | intro _ | split
theorem tgathered_lo {N M : Nat} (h : N ≤ M)  (p : TProb) : Lo (tgathered N p) (tgathered M p) := by
 unfold tgathered
 try dsimp only
 repeat' first
  | with_reducible (first | exact Lo.refl _ | apply tclasses_lo h | apply tgathered_b1_lo h | apply tgathered_b2_lo h | apply tgathered_b3_lo h | apply tgathered_b4_lo h | refine Lo.bind ?_ (fun _ => ?_) | refine Lo.ite ?_ ?_ | refine Lo.loop h (fun _ => ?_))
  | intro _ | split
theorem tfirst_b2_lo {N M : Nat} (h : N ≤ M)  (c : TClass) (most : Int) (n1276 : Int) : ∀ ss0, Lo (tfirst_b2 N c most n1276 ss0) (tfirst_b2 M c most n1276 ss0) := by
 intro ss0
 unfold tfirst_b2
 try dsimp only
 repeat' first
  | with_reducible (first | exact Lo.refl _ | apply cloneTest_lo h | apply pWords_lo h | refine Lo.bind ?_ (fun _ => ?_) | refine Lo.ite ?_ ?_ | refine Lo.loop h (fun _ => ?_))
  | intro _ | split
theorem tfirst_b1_lo {N M : Nat} (h : N ≤ M)  (c : TClass) (most : Int) : ∀ ss0, Lo (tfirst_b1 N c most ss0) (tfirst_b1 M c most ss0) := by
 intro ss0
 unfold tfirst_b1
 try dsimp only
 repeat' first
  | with_reducible (first | exact Lo.refl _ | apply cloneTest_lo h | apply tfirst_b2_lo h | refine Lo.bind ?_ (fun _ => ?_) | refine Lo.ite ?_ ?_ | refine Lo.loop h (fun _ => ?_))
  | intro _ | split
theorem tfirst_lo {N M : Nat} (h : N ≤ M)  (c : TClass) (most : Int) : Lo (tfirst N c most) (tfirst M c most) := by
 unfold tfirst
 try dsimp only
 repeat' first
  | with_reducible (first | exact Lo.refl _ | apply tfirst_b1_lo h | refine Lo.bind ?_ (fun _ => ?_) | refine Lo.ite ?_ ?_ | refine Lo.loop h (fun _ => ?_))
  | intro _ | split
theorem tLengths_b1_lo {N M : Nat} (h : N ≤ M)  (x62 : TClass) : ∀ ss0, Lo (tLengths_b1 N x62 ss0) (tLengths_b1 M x62 ss0) := by
 intro ss0
 unfold tLengths_b1
 try dsimp only
 repeat' first
  | with_reducible (first | exact Lo.refl _ | apply pWords_lo h | refine Lo.bind ?_ (fun _ => ?_) | refine Lo.ite ?_ ?_ | refine Lo.loop h (fun _ => ?_))
  | intro _ | split
theorem tLengths_lo {N M : Nat} (h : N ≤ M)  (p : TProb) (pb : Int) : Lo (tLengths N p pb) (tLengths M p pb) := by
 unfold tLengths
 try dsimp only
 repeat' first
  | with_reducible (first | exact Lo.refl _ | apply tLengths_b1_lo h | apply tgathered_lo h | refine Lo.bind ?_ (fun _ => ?_) | refine Lo.ite ?_ ?_ | refine Lo.loop h (fun _ => ?_))
  | intro _ | split
theorem revInt_b1_lo {N M : Nat} (h : N ≤ M)   : ∀ ss0, Lo (revInt_b1 N  ss0) (revInt_b1 M  ss0) := by
 intro ss0
 unfold revInt_b1
 try dsimp only
 repeat' first
  | with_reducible (first | exact Lo.refl _ | refine Lo.bind ?_ (fun _ => ?_) | refine Lo.ite ?_ ?_ | refine Lo.loop h (fun _ => ?_))
  | intro _ | split
theorem revInt_lo {N M : Nat} (h : N ≤ M)  (s : (List Int)) : Lo (revInt N s) (revInt M s) := by
 unfold revInt
 try dsimp only
 repeat' first
  | with_reducible (first | exact Lo.refl _ | apply revInt_b1_lo h | refine Lo.bind ?_ (fun _ => ?_) | refine Lo.ite ?_ ?_ | refine Lo.loop h (fun _ => ?_))
  | intro _ | split
theorem tchoose1_lo {N M : Nat} (h : N ≤ M)  (other : Int) (ca : (List Bool)) (cb : (List (List UInt8))) (cc : (List UInt8)) : Lo (tchoose1 N other ca cb cc) (tchoose1 M other ca cb cc) := by
 unfold tchoose1
 try dsimp only
 repeat' first
  | with_reducible (first | exact Lo.refl _ | refine Lo.bind ?_ (fun _ => ?_) | refine Lo.ite ?_ ?_ | refine Lo.loop h (fun _ => ?_))
  | intro _ | split
theorem tchoose_b1_lo {N M : Nat} (h : N ≤ M) {self self' : (List TClass) → (List Int) → (List (List UInt8)) → (List Bool) → Option (Bool × Bool × (List (List UInt8)) × (List Bool))} (hself : ∀ y0 y1 y2 y3, Lo (self y0 y1 y2 y3) (self' y0 y1 y2 y3)) (l : (List TClass)) (order : (List Int)) (words : (List (List UInt8))) (x21 : Int) (x58 : TClass) : ∀ ss0, Lo (tchoose_b1 N self l order words x21 x58 ss0) (tchoose_b1 M self' l order words x21 x58 ss0) := by
 intro ss0
 unfold tchoose_b1
 try dsimp only
 repeat' first
  | with_reducible (first | exact Lo.refl _ | exact hself | exact hself _ _ _ _ | apply containsInt_lo h | apply tchoose1_lo h | refine Lo.bind ?_ (fun _ => ?_) | refine Lo.ite ?_ ?_ | refine Lo.loop h (fun _ => ?_))
  | intro _ | split
theorem tchoose_step_lo {N M : Nat} (h : N ≤ M) {self self' : (List TClass) → (List Int) → (List (List UInt8)) → (List Bool) → Option (Bool × Bool × (List (List UInt8)) × (List Bool))} (hself : ∀ y0 y1 y2 y3, Lo (self y0 y1 y2 y3) (self' y0 y1 y2 y3)) (l : (List TClass)) (order : (List Int)) (words : (List (List UInt8))) (known : (List Bool)) : Lo (tchoose_step N self l order words known) (tchoose_step M self' l order words known) := by
 unfold tchoose_step
 try dsimp only
 repeat' first
  | with_reducible (first | exact Lo.refl _ | exact hself | exact hself _ _ _ _ | apply tchoose_b1_lo h | refine Lo.bind ?_ (fun _ => ?_) | refine Lo.ite ?_ ?_ | refine Lo.loop h (fun _ => ?_))
  | intro _ | split
theorem tchoose_lo : ∀ {N M : Nat} (_ : N ≤ M) a0 a1 a2 a3, Lo (tchoose N a0 a1 a2 a3) (tchoose M a0 a1 a2 a3)
 | 0, _, _ => fun _ _ _ _ => Lo.none
 | N + 1, 0, h => by omega
 | N + 1, M + 1, h => tchoose_step_lo (by omega) (tchoose_lo (by omega))
theorem insSort_b2_lo {N M : Nat} (h : N ≤ M) {cmp cmp' : (Int → Int → Option Int)} (hcmp : ∀ y0 y1, Lo (cmp y0 y1) (cmp' y0 y1)) (a : Int) : ∀ ss0, Lo (insSort_b2 N a cmp ss0) (insSort_b2 M a cmp' ss0) := by
 intro ss0
 unfold insSort_b2
 try dsimp only
 repeat' first
  | with_reducible (first | exact Lo.refl _ | exact hcmp | exact hcmp _ _ | refine Lo.bind ?_ (fun _ => ?_) | refine Lo.ite ?_ ?_ | refine Lo.loop h (fun _ => ?_))
  | intro _ | split
theorem insSort_b1_lo {N M : Nat} (h : N ≤ M) {cmp cmp' : (Int → Int → Option Int)} (hcmp : ∀ y0 y1, Lo (cmp y0 y1) (cmp' y0 y1)) (a : Int) (b : Int) : ∀ ss0, Lo (insSort_b1 N a b cmp ss0) (insSort_b1 M a b cmp' ss0) := by
 intro ss0
 unfold insSort_b1
 try dsimp only
 repeat' first
  | with_reducible (first | exact Lo.refl _ | exact hcmp | exact hcmp _ _ | apply insSort_b2_lo h | refine Lo.bind ?_ (fun _ => ?_) | refine Lo.ite ?_ ?_ | refine Lo.loop h (fun _ => ?_))
  | intro _ | split
theorem insSort_lo {N M : Nat} (h : N ≤ M) {cmp cmp' : (Int → Int → Option Int)} (hcmp : ∀ y0 y1, Lo (cmp y0 y1) (cmp' y0 y1)) (data : (List Int)) (a : Int) (b : Int) : Lo (insSort N data a b cmp) (insSort M data a b cmp') := by
 unfold insSort
 try dsimp only
 repeat' first
  | with_reducible (first | exact Lo.refl _ | exact hcmp | exact hcmp _ _ | apply insSort_b1_lo h | refine Lo.bind ?_ (fun _ => ?_) | refine Lo.ite ?_ ?_ | refine Lo.loop h (fun _ => ?_))
  | intro _ | split
theorem stableSort_b1_lo {N M : Nat} (h : N ≤ M) {cmp cmp' : (Int → Int → Option Int)} (hcmp : ∀ y0 y1, Lo (cmp y0 y1) (cmp' y0 y1)) (n : Int) : ∀ ss0, Lo (stableSort_b1 N cmp n ss0) (stableSort_b1 M cmp' n ss0) := by
 intro ss0
 unfold stableSort_b1
 try dsimp only
 repeat' first
  | with_reducible (first | exact Lo.refl _ | exact hcmp | exact hcmp _ _ | apply insSort_lo h | refine Lo.bind ?_ (fun _ => ?_) | refine Lo.ite ?_ ?_ | refine Lo.loop h (fun _ => ?_))
  | intro _ | split
theorem stableSort_b3_lo {N M : Nat} (h : N ≤ M)  (n : Int) (blockSize163 : Int) : ∀ ss0, Lo (stableSort_b3 N n blockSize163 ss0) (stableSort_b3 M n blockSize163 ss0) := by
 intro ss0
 unfold stableSort_b3
 try dsimp only
 repeat' first
  | with_reducible (first | exact Lo.refl _ | refine Lo.bind ?_ (fun _ => ?_) | refine Lo.ite ?_ ?_ | refine Lo.loop h (fun _ => ?_))
  | intro _ | split
theorem stableSort_b2_lo {N M : Nat} (h : N ≤ M)  (n : Int) : ∀ ss0, Lo (stableSort_b2 N n ss0) (stableSort_b2 M n ss0) := by
 intro ss0
 unfold stableSort_b2
 try dsimp only
 repeat' first
  | with_reducible (first | exact Lo.refl _ | apply stableSort_b3_lo h | refine Lo.bind ?_ (fun _ => ?_) | refine Lo.ite ?_ ?_ | refine Lo.loop h (fun _ => ?_))
  | intro _ | split
theorem stableSort_lo {N M : Nat} (h : N ≤ M) {cmp cmp' : (Int → Int → Option Int)} (hcmp : ∀ y0 y1, Lo (cmp y0 y1) (cmp' y0 y1)) (data : (List Int)) (n : Int) : Lo (stableSort N data n cmp) (stableSort M data n cmp') := by
 unfold stableSort
 try dsimp only
 repeat' first
  | with_reducible (first | exact Lo.refl _ | exact hcmp | exact hcmp _ _ | apply insSort_lo h | apply stableSort_b1_lo h | apply stableSort_b2_lo h | refine Lo.bind ?_ (fun _ => ?_) | refine Lo.ite ?_ ?_ | refine Lo.loop h (fun _ => ?_))
  | intro _ | split
theorem sortStable_lo {N M : Nat} (h : N ≤ M) {cmp cmp' : (Int → Int → Option Int)} (hcmp : ∀ y0 y1, Lo (cmp y0 y1) (cmp' y0 y1)) (x : (List Int)) : Lo (sortStable N x cmp) (sortStable M x cmp') := by
 unfold sortStable
 try dsimp only
 repeat' first
  | with_reducible (first | exact Lo.refl _ | exact hcmp | exact hcmp _ _ | apply stableSort_lo h | refine Lo.bind ?_ (fun _ => ?_) | refine Lo.ite ?_ ?_ | refine Lo.loop h (fun _ => ?_))
  | intro _ | split
theorem tSolve1_lo {N M : Nat} (h : N ≤ M)  (a : Int) (b : Int) (ca : (List TClass)) : Lo (tSolve1 N a b ca) (tSolve1 M a b ca) := by
 unfold tSolve1
 try dsimp only
 repeat' first
  | with_reducible (first | exact Lo.refl _ | refine Lo.bind ?_ (fun _ => ?_) | refine Lo.ite ?_ ?_ | refine Lo.loop h (fun _ => ?_))
  | intro _ | split
theorem tSolve_b1_lo {N M : Nat} (h : N ≤ M)  (r6 : ((List TClass) × (List Int) × Bool)) : ∀ ss0, Lo (tSolve_b1 N r6 ss0) (tSolve_b1 M r6 ss0) := by
 intro ss0
 unfold tSolve_b1
 try dsimp only
 repeat' first
  | with_reducible (first | exact Lo.refl _ | apply tfirst_lo h | refine Lo.bind ?_ (fun _ => ?_) | refine Lo.ite ?_ ?_ | refine Lo.loop h (fun _ => ?_))
  | intro _ | split
theorem tSolve_b2_lo {N M : Nat} (h : N ≤ M)  (l494 : (List TClass)) : ∀ ss0, Lo (tSolve_b2 N l494 ss0) (tSolve_b2 M l494 ss0) := by
 intro ss0
 unfold tSolve_b2
 try dsimp only
 repeat' first
  | with_reducible (first | exact Lo.refl _ | refine Lo.bind ?_ (fun _ => ?_) | refine Lo.ite ?_ ?_ | refine Lo.loop h (fun _ => ?_))
  | intro _ | split
theorem tSolve_b5_lo {N M : Nat} (h : N ≤ M)  (x8320 : TClass) : ∀ ss0, Lo (tSolve_b5 N x8320 ss0) (tSolve_b5 M x8320 ss0) := by
 intro ss0
 unfold tSolve_b5
 try dsimp only
 repeat' first
  | with_reducible (first | exact Lo.refl _ | refine Lo.bind ?_ (fun _ => ?_) | refine Lo.ite ?_ ?_ | refine Lo.loop h (fun _ => ?_))
  | intro _ | split
theorem tSolve_b4_lo {N M : Nat} (h : N ≤ M)  (l494 : (List TClass)) : ∀ ss0, Lo (tSolve_b4 N l494 ss0) (tSolve_b4 M l494 ss0) := by
 intro ss0
 unfold tSolve_b4
 try dsimp only
 repeat' first
  | with_reducible (first | exact Lo.refl _ | apply tSolve_b5_lo h | refine Lo.bind ?_ (fun _ => ?_) | refine Lo.ite ?_ ?_ | refine Lo.loop h (fun _ => ?_))
  | intro _ | split
theorem tSolve_b3_lo {N M : Nat} (h : N ≤ M)  (l494 : (List TClass)) : ∀ ss0, Lo (tSolve_b3 N l494 ss0) (tSolve_b3 M l494 ss0) := by
 intro ss0
 unfold tSolve_b3
 try dsimp only
 repeat' first
  | with_reducible (first | exact Lo.refl _ | apply tSolve_b4_lo h | refine Lo.bind ?_ (fun _ => ?_) | refine Lo.ite ?_ ?_ | refine Lo.loop h (fun _ => ?_))
  | intro _ | split
theorem tSolve_b6_lo {N M : Nat} (h : N ≤ M)  (l494 : (List TClass)) (removed6027 : (List Bool)) : ∀ ss0, Lo (tSolve_b6 N l494 removed6027 ss0) (tSolve_b6 M l494 removed6027 ss0) := by
 intro ss0
 unfold tSolve_b6
 try dsimp only
 repeat' first
  | with_reducible (first | exact Lo.refl _ | refine Lo.bind ?_ (fun _ => ?_) | refine Lo.ite ?_ ?_ | refine Lo.loop h (fun _ => ?_))
  | intro _ | split
theorem tSolve_b7_lo {N M : Nat} (h : N ≤ M)  (r6 : ((List TClass) × (List Int) × Bool)) (chosen8933 : (List (List UInt8))) : ∀ ss0, Lo (tSolve_b7 N r6 chosen8933 ss0) (tSolve_b7 M r6 chosen8933 ss0) := by
 intro ss0
 unfold tSolve_b7
 try dsimp only
 repeat' first
  | with_reducible (first | exact Lo.refl _ | refine Lo.bind ?_ (fun _ => ?_) | refine Lo.ite ?_ ?_ | refine Lo.loop h (fun _ => ?_))
  | intro _ | split
theorem tSolve_lo {N M : Nat} (h : N ≤ M)  (p : TProb) : Lo (tSolve N p) (tSolve M p) := by
 unfold tSolve
 try dsimp only
 repeat' first
  | with_reducible (first | exact Lo.refl _ | apply revInt_lo h | apply sortStable_lo h | apply tSolve1_lo h | apply tSolve_b1_lo h | apply tSolve_b2_lo h | apply tSolve_b3_lo h | apply tSolve_b6_lo h | apply tSolve_b7_lo h | apply tchoose_lo h | apply tgathered_lo h | refine Lo.bind ?_ (fun _ => ?_) | refine Lo.ite ?_ ?_ | refine Lo.loop h (fun _ => ?_))
  | intro _ | split
end Go.D

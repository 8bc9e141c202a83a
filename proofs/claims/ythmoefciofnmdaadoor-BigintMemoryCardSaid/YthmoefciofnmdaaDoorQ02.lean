/- Openers of the arguments, and the laid table. Written by a program of mine (wip/tool). -/
import Derived.Test.YthmoefciofnmdaaDoorProg
import Derived.Test.YthmoefciofnmdaaDoorZ8
import Derived.Test.YthmoefciofnmdaaDoorX12
import Derived.Test.YthmoefciofnmdaaDoorT18
import Derived.Test.YthmoefciofnmdaaDoorM2
import Derived.Test.YthmoefciofnmdaaDoorF2
import Derived.Test.YthmoefciofnmdaaDoorRows
import Derived.Lib.LaidTab
import Derived.Lib.AppendIntMem
import Derived.ChangeMaps5
import Derived.Stop.LaidErr
set_option maxRecDepth 100000
set_option linter.unusedVariables false
namespace Go.Proofs.YthmoefciofnmdaaDoor.Q02
open Go Go.RowKit Go.X Go.D
section
variable {H : Type} {enc : TypeId × Value → H} {W : World}
def G4 (_ : Bool) : Prop := True
theorem o4 : ∀ N, Opn enc Tryd.prog W N rBool 4 G4 := fun N => Opn.bool Tryd.underlying4
def G47 (x : Int) : Prop := (Lit.int .u32 x).wf = true
theorem o47 : ∀ N, Opn enc Tryd.prog W N (rInt .u32) 47 G47 := fun N => Opn.int Tryd.underlying47
def G22 (xs : (List Int)) : Prop := xs.length ≤ 9223372036854775807 ∧ ∀ x ∈ xs, G47 x
theorem o22 : ∀ N, Opn enc Tryd.prog W N (rSl (rInt .u32)) 22 G22 := fun N => Opn.less (Opn.slice Tryd.underlying22 (by kernel_rfl) rfl (o47 N))
def G24 (x : Big) : Prop := G4 x.Negative ∧ G22 x.Digits ∧ True
theorem o24 : ∀ N, Opn enc Tryd.prog W N rBig 24 G24 := by
  intro N fuel hf cs x h
  obtain ⟨hl, n, hn, hfs⟩ := trod_fields Tryd.underlying24 h
  have hl : cs.length = 2 := hl
  match cs, hl with
  | [c0, c1], _ =>
    obtain ⟨y0, h0⟩ := hfs 0 _ rfl
    obtain ⟨a0, r0, g0⟩ := o4 n n (Nat.le_refl _) _ _ h0
    have r0 : rBool.R (HW W) [c0] a0 := r0
    have r0 : [c0] = [.bool a0] := r0
    cases r0
    obtain ⟨y1, h1⟩ := hfs 1 _ rfl
    obtain ⟨a1, r1, g1⟩ := o22 n n (Nat.le_refl _) _ _ h1
    have r1 : (rSl (rInt .u32)).R (HW W) [c1] a1 := r1
    obtain ⟨v1, e1, k1⟩ := r1
    cases e1
    exact ⟨⟨a0, a1⟩, ⟨_, rfl, k1, trivial⟩, ⟨g0, g1, trivial⟩⟩
def G2 (x : Int) : Prop := (Lit.int .i64 x).wf = true
theorem o2 : ∀ N, Opn enc Tryd.prog W N (rInt .i64) 2 G2 := fun N => Opn.int Tryd.underlying2
theorem inB_of {l : List Int} (h : G22 l) : InB W32 l := fun x hx => by
  have := bounds_u32 (h.2 x hx)
  simp only [W32]; omega
theorem in32_of {x : Big} (h : G24 x) : InB W32 x.Digits := inB_of h.2.1
theorem laid_eq : (Rows.laid_internal_strconv_uint64pow10 : DataW Unit) = Lib.tabData .u64 Lib.pow10Tab := by kernel_rfl
theorem g_of {x y : String × DataW Unit} (h : laidMet Tryd.prog [x, y, ("internal/strconv.uint64pow10", Rows.laid_internal_strconv_uint64pow10)] W) : G W := by
  have h1 := laidMet.tail (laidMet.tail h)
  rw [laid_eq] at h1
  exact Lib.tabBelow_of_tabIs (Lib.tabIs_of_head (g := 0) (t := 104) (e := 62) (n := 20) (by kernel_rfl) (by kernel_rfl) Tryd.underlying104 Tryd.underlying62 (by kernel_rfl) (by kernel_rfl) h1)
end
end Go.Proofs.YthmoefciofnmdaaDoor.Q02

/- Openers of the arguments. Written by a program of mine (wip/tool). -/
import Derived.Test.YtckhldmpcddjmaaDoorProg
import Derived.Test.YtckhldmpcddjmaaDoorZ8
import Derived.Test.YtckhldmpcddjmaaDoorX12
import Derived.Test.YtckhldmpcddjmaaDoorT20
import Derived.Test.YtckhldmpcddjmaaDoorKA
import Derived.Test.YtckhldmpcddjmaaDoorRows
import Derived.Test.YtckhldmpcddjmaaDoorF20
import Derived.Lib.LaidTab
import Derived.Lib.AppendIntMem
import Derived.ChangeMaps5
import Derived.Stop.LaidErr
set_option maxRecDepth 100000
set_option linter.unusedVariables false
namespace Go.Proofs.YtckhldmpcddjmaaDoor.Q20
open Go Go.RowKit Go.X Go.D
section
variable {H : Type} {enc : TypeId × Value → H} {W : World}
def G4 (_ : Bool) : Prop := True
theorem o4 : ∀ N, Opn enc Tryd.prog W N rBool 4 G4 := fun N => Opn.bool Tryd.underlying4
def G22 (xs : (List Bool)) : Prop := xs.length ≤ 9223372036854775807 ∧ ∀ x ∈ xs, G4 x
theorem o22 : ∀ N, Opn enc Tryd.prog W N (rSl rBool) 22 G22 := fun N => Opn.less (Opn.slice Tryd.underlying22 (by kernel_rfl) rfl (o4 N))
def G5 (x : Int) : Prop := (Lit.int .u8 x).wf = true
theorem o5 : ∀ N, Opn enc Tryd.prog W N (rInt .u8) 5 G5 := fun N => Opn.int Tryd.underlying5
def G3 (x : Int) : Prop := (Lit.int .i64 x).wf = true
theorem o3 : ∀ N, Opn enc Tryd.prog W N (rInt .i64) 3 G3 := fun N => Opn.int Tryd.underlying3
def G63 (x : AEdge) : Prop := G5 x.Low ∧ G5 x.High ∧ G3 x.To ∧ True
theorem o63 : ∀ N, Opn enc Tryd.prog W N rAEdge 63 G63 := by
  intro N fuel hf cs x h
  obtain ⟨hl, n, hn, hfs⟩ := trod_fields Tryd.underlying63 h
  have hl : cs.length = 3 := hl
  match cs, hl with
  | [c0, c1, c2], _ =>
    obtain ⟨y0, h0⟩ := hfs 0 _ rfl
    obtain ⟨a0, r0, g0⟩ := o5 n n (Nat.le_refl _) _ _ h0
    have r0 : (rInt .u8).R (HW W) [c0] a0 := r0
    have r0 : [c0] = [.int .u8 a0] := r0
    cases r0
    obtain ⟨y1, h1⟩ := hfs 1 _ rfl
    obtain ⟨a1, r1, g1⟩ := o5 n n (Nat.le_refl _) _ _ h1
    have r1 : (rInt .u8).R (HW W) [c1] a1 := r1
    have r1 : [c1] = [.int .u8 a1] := r1
    cases r1
    obtain ⟨y2, h2⟩ := hfs 2 _ rfl
    obtain ⟨a2, r2, g2⟩ := o3 n n (Nat.le_refl _) _ _ h2
    have r2 : (rInt .i64).R (HW W) [c2] a2 := r2
    have r2 : [c2] = [.int .i64 a2] := r2
    cases r2
    exact ⟨⟨a0, a1, a2⟩, ⟨rfl, trivial⟩, ⟨g0, g1, g2, trivial⟩⟩
def G39 (xs : (List AEdge)) : Prop := xs.length ≤ 9223372036854775807 ∧ ∀ x ∈ xs, G63 x
theorem o39 : ∀ N, Opn enc Tryd.prog W N (rSl rAEdge) 39 G39 := fun N => Opn.less (Opn.slice Tryd.underlying39 (by kernel_rfl) rfl (o63 N))
def G23 (xs : (List (List AEdge))) : Prop := xs.length ≤ 9223372036854775807 ∧ ∀ x ∈ xs, G39 x
theorem o23 : ∀ N, Opn enc Tryd.prog W N (rSl (rSl rAEdge)) 23 G23 := fun N => Opn.less (Opn.slice Tryd.underlying23 (by kernel_rfl) rfl (o39 N))
def G25 (x : ADfa) : Prop := G22 x.Accept ∧ G23 x.Edges ∧ True
theorem o25 : ∀ N, Opn enc Tryd.prog W N rADfa 25 G25 := by
  intro N fuel hf cs x h
  obtain ⟨hl, n, hn, hfs⟩ := trod_fields Tryd.underlying25 h
  have hl : cs.length = 2 := hl
  match cs, hl with
  | [c0, c1], _ =>
    obtain ⟨y0, h0⟩ := hfs 0 _ rfl
    obtain ⟨a0, r0, g0⟩ := o22 n n (Nat.le_refl _) _ _ h0
    have r0 : (rSl rBool).R (HW W) [c0] a0 := r0
    obtain ⟨v0, e0, k0⟩ := r0
    cases e0
    obtain ⟨y1, h1⟩ := hfs 1 _ rfl
    obtain ⟨a1, r1, g1⟩ := o23 n n (Nat.le_refl _) _ _ h1
    have r1 : (rSl (rSl rAEdge)).R (HW W) [c1] a1 := r1
    obtain ⟨v1, e1, k1⟩ := r1
    cases e1
    exact ⟨⟨a0, a1⟩, ⟨_, _, rfl, k0, k1, trivial⟩, ⟨g0, g1, trivial⟩⟩
theorem wf_of {d : ADfa} (h : G25 d) : Wf d := by
  intro l hl e he
  obtain ⟨h1, h2, h3, -⟩ := (h.2.1.2 l hl).2 e he
  have a1 := bounds_u8 h1
  have a2 := bounds_u8 h2
  have a3 := bounds_i64 h3
  exact ⟨⟨a1.1, a1.2, a2.1, a2.2⟩, a3.1, a3.2⟩
theorem lim_of {d : ADfa} (h : G25 d) : Lim d := ⟨h.1.1, h.2.1.1, fun l hl => (h.2.1.2 l hl).1⟩
theorem laid_eq : (Rows.laid_internal_strconv_uint64pow10 : DataW Unit) = Lib.tabData .u64 Lib.pow10Tab := by kernel_rfl
theorem g_of {x y : String × DataW Unit} (h : laidMet Tryd.prog [x, y, ("internal/strconv.uint64pow10", Rows.laid_internal_strconv_uint64pow10)] W) : G W := by
  have h1 := laidMet.tail (laidMet.tail h)
  rw [laid_eq] at h1
  exact Lib.tabBelow_of_tabIs (Lib.tabIs_of_head (g := 0) (t := 114) (e := 108) (n := 20) (by kernel_rfl) (by kernel_rfl) Tryd.underlying114 Tryd.underlying108 (by kernel_rfl) (by kernel_rfl) h1)
end
end Go.Proofs.YtckhldmpcddjmaaDoor.Q20

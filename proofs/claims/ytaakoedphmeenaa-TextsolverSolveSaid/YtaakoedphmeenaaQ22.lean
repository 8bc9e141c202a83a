/- Openers of the arguments. Written by a program of mine (wip/tool). -/
import Derived.Test.YtaakoedphmeenaaProg
import Derived.Test.YtaakoedphmeenaaZ
import Derived.Test.YtaakoedphmeenaaX
import Derived.Test.YtaakoedphmeenaaT22
import Derived.Test.YtaakoedphmeenaaK4
import Derived.Test.YtaakoedphmeenaaRows
set_option maxRecDepth 100000
set_option linter.unusedVariables false
set_option linter.unusedSimpArgs false
namespace Go.Proofs.Ytaakoedphmeenaa.Q22
open Go Go.ChangeShapes Go.WideShapes Go.ChangeAt Go.RowKit Go.X Go.D
section
variable {H : Type} {enc : TypeId × Value → H} {W : World}
def G3 (x : Int) : Prop := (Lit.int .i64 x).wf = true
theorem o3 : ∀ N, Opn enc Try.prog W N (rInt .i64) 3 G3 := fun N => Opn.int Try.underlying3
def G22 (xs : (List Int)) : Prop := xs.length ≤ 9223372036854775807 ∧ ∀ x ∈ xs, G3 x
theorem o22 : ∀ N, Opn enc Try.prog W N (rSl (rInt .i64)) 22 G22 := fun N => Opn.less (Opn.slice Try.underlying22 (by kernel_rfl) rfl (o3 N))
def G4 (_ : Bool) : Prop := True
theorem o4 : ∀ N, Opn enc Try.prog W N rBool 4 G4 := fun N => Opn.bool Try.underlying4
def G9 (s : List UInt8) : Prop := s.length ≤ 9223372036854775807
theorem o9 : ∀ N, Opn enc Try.prog W N rStr 9 G9 := fun N => Opn.strL Try.underlying9
def G44 (x : TTest) : Prop := G3 x.Var ∧ G3 x.Kind ∧ G4 x.Negated ∧ G9 x.Text ∧ True
theorem o44 : ∀ N, Opn enc Try.prog W N rTTest 44 G44 := by
  intro N fuel hf cs x h
  obtain ⟨hl, n, hn, hfs⟩ := trod_fields Try.underlying44 h
  have hl : cs.length = 4 := hl
  match cs, hl with
  | [c0, c1, c2, c3], _ =>
    obtain ⟨y0, h0⟩ := hfs 0 _ rfl
    obtain ⟨a0, r0, g0⟩ := o3 n n (Nat.le_refl _) _ _ h0
    have r0 : (rInt .i64).R (HW W) [c0] a0 := r0
    have r0 : [c0] = [.int .i64 a0] := r0
    cases r0
    obtain ⟨y1, h1⟩ := hfs 1 _ rfl
    obtain ⟨a1, r1, g1⟩ := o3 n n (Nat.le_refl _) _ _ h1
    have r1 : (rInt .i64).R (HW W) [c1] a1 := r1
    have r1 : [c1] = [.int .i64 a1] := r1
    cases r1
    obtain ⟨y2, h2⟩ := hfs 2 _ rfl
    obtain ⟨a2, r2, g2⟩ := o4 n n (Nat.le_refl _) _ _ h2
    have r2 : rBool.R (HW W) [c2] a2 := r2
    have r2 : [c2] = [.bool a2] := r2
    cases r2
    obtain ⟨y3, h3⟩ := hfs 3 _ rfl
    obtain ⟨a3, r3, g3⟩ := o9 n n (Nat.le_refl _) _ _ h3
    have r3 : rStr.R (HW W) [c3] a3 := r3
    have r3 : [c3] = [.string (s8 a3)] := r3
    cases r3
    exact ⟨⟨a0, a1, a2, a3⟩, ⟨rfl, trivial⟩, ⟨g0, g1, g2, g3, trivial⟩⟩
def G23 (xs : (List TTest)) : Prop := xs.length ≤ 9223372036854775807 ∧ ∀ x ∈ xs, G44 x
theorem o23 : ∀ N, Opn enc Try.prog W N (rSl rTTest) 23 G23 := fun N => Opn.less (Opn.slice Try.underlying23 (by kernel_rfl) rfl (o44 N))
def G45 (x : Arr2Int) : Prop := G3 x.e0 ∧ G3 x.e1 ∧ True
theorem o45 : ∀ N, Opn enc Try.prog W N rArr2Int 45 G45 := by
  intro N fuel hf cs x h
  obtain ⟨hl, n, hn, hfs⟩ := trod_elems Try.underlying45 h
  have hl : cs.length = 2 := hl
  match cs, hl with
  | [c0, c1], _ =>
    obtain ⟨y0, h0⟩ := hfs 0 (by decide)
    obtain ⟨a0, r0, g0⟩ := o3 n n (Nat.le_refl _) _ _ h0
    have r0 : (rInt .i64).R (HW W) [c0] a0 := r0
    have r0 : [c0] = [.int .i64 a0] := r0
    cases r0
    obtain ⟨y1, h1⟩ := hfs 1 (by decide)
    obtain ⟨a1, r1, g1⟩ := o3 n n (Nat.le_refl _) _ _ h1
    have r1 : (rInt .i64).R (HW W) [c1] a1 := r1
    have r1 : [c1] = [.int .i64 a1] := r1
    cases r1
    exact ⟨⟨a0, a1⟩, ⟨rfl, trivial⟩, ⟨g0, g1, trivial⟩⟩
def G24 (xs : (List Arr2Int)) : Prop := xs.length ≤ 9223372036854775807 ∧ ∀ x ∈ xs, G45 x
theorem o24 : ∀ N, Opn enc Try.prog W N (rSl rArr2Int) 24 G24 := fun N => Opn.less (Opn.slice Try.underlying24 (by kernel_rfl) rfl (o45 N))
def G26 (x : TProb) : Prop := G22 x.Min ∧ G22 x.Max ∧ G23 x.Tests ∧ G24 x.Same ∧ G24 x.Different ∧ True
theorem o26 : ∀ N, Opn enc Try.prog W N rTProb 26 G26 := by
  intro N fuel hf cs x h
  obtain ⟨hl, n, hn, hfs⟩ := trod_fields Try.underlying26 h
  have hl : cs.length = 5 := hl
  match cs, hl with
  | [c0, c1, c2, c3, c4], _ =>
    obtain ⟨y0, h0⟩ := hfs 0 _ rfl
    obtain ⟨a0, r0, g0⟩ := o22 n n (Nat.le_refl _) _ _ h0
    have r0 : (rSl (rInt .i64)).R (HW W) [c0] a0 := r0
    obtain ⟨v0, e0, k0⟩ := r0
    cases e0
    obtain ⟨y1, h1⟩ := hfs 1 _ rfl
    obtain ⟨a1, r1, g1⟩ := o22 n n (Nat.le_refl _) _ _ h1
    have r1 : (rSl (rInt .i64)).R (HW W) [c1] a1 := r1
    obtain ⟨v1, e1, k1⟩ := r1
    cases e1
    obtain ⟨y2, h2⟩ := hfs 2 _ rfl
    obtain ⟨a2, r2, g2⟩ := o23 n n (Nat.le_refl _) _ _ h2
    have r2 : (rSl rTTest).R (HW W) [c2] a2 := r2
    obtain ⟨v2, e2, k2⟩ := r2
    cases e2
    obtain ⟨y3, h3⟩ := hfs 3 _ rfl
    obtain ⟨a3, r3, g3⟩ := o24 n n (Nat.le_refl _) _ _ h3
    have r3 : (rSl rArr2Int).R (HW W) [c3] a3 := r3
    obtain ⟨v3, e3, k3⟩ := r3
    cases e3
    obtain ⟨y4, h4⟩ := hfs 4 _ rfl
    obtain ⟨a4, r4, g4⟩ := o24 n n (Nat.le_refl _) _ _ h4
    have r4 : (rSl rArr2Int).R (HW W) [c4] a4 := r4
    obtain ⟨v4, e4, k4⟩ := r4
    cases e4
    exact ⟨⟨a0, a1, a2, a3, a4⟩, ⟨_, _, _, _, _, rfl, k0, k1, k2, k3, k4, trivial⟩, ⟨g0, g1, g2, g3, g4, trivial⟩⟩
theorem lim_of {d : TProb} (h : G26 d) : Lim d := ⟨h.1.1, h.2.1.1, h.2.2.1.1, h.2.2.2.1.1, h.2.2.2.2.1.1, fun t ht => (h.2.2.1.2 t ht).2.2.2.1⟩
end
end Go.Proofs.Ytaakoedphmeenaa.Q22

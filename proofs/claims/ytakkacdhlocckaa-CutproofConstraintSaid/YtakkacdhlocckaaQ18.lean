/- Openers of the arguments. Written by a program of mine (wip/tool). -/
import Derived.Test.YtakkacdhlocckaaProg
import Derived.Test.YtakkacdhlocckaaZ8
import Derived.Test.YtakkacdhlocckaaT18
set_option maxRecDepth 100000
set_option linter.unusedVariables false
namespace Go.Proofs.Ytakkacdhlocckaa.Q18
open Go Go.RowKit Go.X Go.D
section
variable {H : Type} {enc : TypeId × Value → H} {W : World}
def G4 (_ : Bool) : Prop := True
theorem o4 : ∀ N, Opn enc Try.prog W N rBool 4 G4 := fun N => Opn.bool Try.underlying4
def G2 (x : Int) : Prop := (Lit.int .i64 x).wf = true
theorem o2 : ∀ N, Opn enc Try.prog W N (rInt .i64) 2 G2 := fun N => Opn.int Try.underlying2
def G3 (x : Int) : Prop := (Lit.int .i64 x).wf = true
theorem o3 : ∀ N, Opn enc Try.prog W N (rInt .i64) 3 G3 := fun N => Opn.int Try.underlying3
def G71 (x : Coef) : Prop := G3 x.Var ∧ G2 x.N ∧ True
theorem o71 : ∀ N, Opn enc Try.prog W N rCoef 71 G71 := by
  intro N fuel hf cs x h
  obtain ⟨hl, n, hn, hfs⟩ := trod_fields Try.underlying71 h
  have hl : cs.length = 2 := hl
  match cs, hl with
  | [c0, c1], _ =>
    obtain ⟨y0, h0⟩ := hfs 0 _ rfl
    obtain ⟨a0, r0, g0⟩ := o3 n n (Nat.le_refl _) _ _ h0
    have r0 : (rInt .i64).R (HW W) [c0] a0 := r0
    have r0 : [c0] = [.int .i64 a0] := r0
    cases r0
    obtain ⟨y1, h1⟩ := hfs 1 _ rfl
    obtain ⟨a1, r1, g1⟩ := o2 n n (Nat.le_refl _) _ _ h1
    have r1 : (rInt .i64).R (HW W) [c1] a1 := r1
    have r1 : [c1] = [.int .i64 a1] := r1
    cases r1
    exact ⟨⟨a0, a1⟩, ⟨rfl, trivial⟩, ⟨g0, g1, trivial⟩⟩
def G59 (xs : (List Coef)) : Prop := xs.length ≤ 9223372036854775807 ∧ ∀ x ∈ xs, G71 x
theorem o59 : ∀ N, Opn enc Try.prog W N (rSl rCoef) 59 G59 := fun N => Opn.less (Opn.slice Try.underlying59 (by kernel_rfl) rfl (o71 N))
def G61 (x : Linear) : Prop := G2 x.Const ∧ G59 x.Coefs ∧ True
theorem o61 : ∀ N, Opn enc Try.prog W N rLinear 61 G61 := by
  intro N fuel hf cs x h
  obtain ⟨hl, n, hn, hfs⟩ := trod_fields Try.underlying61 h
  have hl : cs.length = 2 := hl
  match cs, hl with
  | [c0, c1], _ =>
    obtain ⟨y0, h0⟩ := hfs 0 _ rfl
    obtain ⟨a0, r0, g0⟩ := o2 n n (Nat.le_refl _) _ _ h0
    have r0 : (rInt .i64).R (HW W) [c0] a0 := r0
    have r0 : [c0] = [.int .i64 a0] := r0
    cases r0
    obtain ⟨y1, h1⟩ := hfs 1 _ rfl
    obtain ⟨a1, r1, g1⟩ := o59 n n (Nat.le_refl _) _ _ h1
    have r1 : (rSl rCoef).R (HW W) [c1] a1 := r1
    obtain ⟨v1, e1, k1⟩ := r1
    cases e1
    exact ⟨⟨a0, a1⟩, ⟨_, rfl, k1, trivial⟩, ⟨g0, g1, trivial⟩⟩
def G63 (x : Constraint) : Prop := G61 x.Linear ∧ G4 x.Equal ∧ True
theorem o63 : ∀ N, Opn enc Try.prog W N rConstraint 63 G63 := by
  intro N fuel hf cs x h
  obtain ⟨hl, n, hn, hfs⟩ := trod_fields Try.underlying63 h
  have hl : cs.length = 3 := hl
  match cs, hl with
  | [c0, c1, c2], _ =>
    obtain ⟨y0, h0⟩ := hfs 0 _ rfl
    obtain ⟨a0, r0, g0⟩ := o61 n n (Nat.le_refl _) _ _ h0
    have r0 : rLinear.R (HW W) [c0, c1] a0 := r0
    obtain ⟨v0_0, e0, k0_0, -⟩ := r0
    cases e0
    obtain ⟨y1, h1⟩ := hfs 1 _ rfl
    obtain ⟨a1, r1, g1⟩ := o4 n n (Nat.le_refl _) _ _ h1
    have r1 : rBool.R (HW W) [c2] a1 := r1
    have r1 : [c2] = [.bool a1] := r1
    cases r1
    exact ⟨⟨a0, a1⟩, ⟨_, rfl, k0_0, trivial⟩, ⟨g0, g1, trivial⟩⟩
def G73 (x : Int) : Prop := (Lit.int .i16 x).wf = true
theorem o73 : ∀ N, Opn enc Try.prog W N (rInt .i16) 73 G73 := fun N => Opn.int Try.underlying73
def G68 (xs : (List Int)) : Prop := xs.length ≤ 9223372036854775807 ∧ ∀ x ∈ xs, G73 x
theorem o68 : ∀ N, Opn enc Try.prog W N (rSl (rInt .i16)) 68 G68 := fun N => Opn.less (Opn.slice Try.underlying68 (by kernel_rfl) rfl (o73 N))
end
end Go.Proofs.Ytakkacdhlocckaa.Q18

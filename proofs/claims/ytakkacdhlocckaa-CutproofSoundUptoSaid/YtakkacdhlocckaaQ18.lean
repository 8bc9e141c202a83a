/- Openers of the arguments. Written by a program of mine (wip/tool). -/
import Derived.Test.YtakkacdhlocckaaProg
import Derived.Test.YtakkacdhlocckaaZ
import Derived.Test.YtakkacdhlocckaaT18
set_option maxRecDepth 100000
set_option linter.unusedVariables false
namespace Go.Proofs.Ytakkacdhlocckaa.Q18
open Go Go.RowKit Go.X Go.D
section
variable {H : Type} {enc : TypeId × Value → H} {W : World}
def G4 (_ : Bool) : Prop := True
theorem o4 : ∀ N, Opn enc Try.prog W N rBool 4 G4 := fun N => Opn.bool Try.underlying4
def G89 (x : Int) : Prop := (Lit.int .u32 x).wf = true
theorem o89 : ∀ N, Opn enc Try.prog W N (rInt .u32) 89 G89 := fun N => Opn.int Try.underlying89
def G24 (xs : (List Int)) : Prop := xs.length ≤ 9223372036854775807 ∧ ∀ x ∈ xs, G89 x
theorem o24 : ∀ N, Opn enc Try.prog W N (rSl (rInt .u32)) 24 G24 := fun N => Opn.less (Opn.slice Try.underlying24 (by kernel_rfl) rfl (o89 N))
def G26 (x : Big) : Prop := G4 x.Negative ∧ G24 x.Digits ∧ True
theorem o26 : ∀ N, Opn enc Try.prog W N rBig 26 G26 := by
  intro N fuel hf cs x h
  obtain ⟨hl, n, hn, hfs⟩ := trod_fields Try.underlying26 h
  have hl : cs.length = 2 := hl
  match cs, hl with
  | [c0, c1], _ =>
    obtain ⟨y0, h0⟩ := hfs 0 _ rfl
    obtain ⟨a0, r0, g0⟩ := o4 n n (Nat.le_refl _) _ _ h0
    have r0 : rBool.R (HW W) [c0] a0 := r0
    have r0 : [c0] = [.bool a0] := r0
    cases r0
    obtain ⟨y1, h1⟩ := hfs 1 _ rfl
    obtain ⟨a1, r1, g1⟩ := o24 n n (Nat.le_refl _) _ _ h1
    have r1 : (rSl (rInt .u32)).R (HW W) [c1] a1 := r1
    obtain ⟨v1, e1, k1⟩ := r1
    cases e1
    exact ⟨⟨a0, a1⟩, ⟨_, rfl, k1, trivial⟩, ⟨g0, g1, trivial⟩⟩
def G32 (xs : (List Big)) : Prop := xs.length ≤ 9223372036854775807 ∧ ∀ x ∈ xs, G26 x
theorem o32 : ∀ N, Opn enc Try.prog W N (rSl rBig) 32 G32 := fun N => Opn.less (Opn.slice Try.underlying32 (by kernel_rfl) rfl (o26 N))
def G34 (x : Ineq) : Prop := G32 x.Coefs ∧ G26 x.Bound ∧ True
theorem o34 : ∀ N, Opn enc Try.prog W N rIneq 34 G34 := by
  intro N fuel hf cs x h
  obtain ⟨hl, n, hn, hfs⟩ := trod_fields Try.underlying34 h
  have hl : cs.length = 3 := hl
  match cs, hl with
  | [c0, c1, c2], _ =>
    obtain ⟨y0, h0⟩ := hfs 0 _ rfl
    obtain ⟨a0, r0, g0⟩ := o32 n n (Nat.le_refl _) _ _ h0
    have r0 : (rSl rBig).R (HW W) [c0] a0 := r0
    obtain ⟨v0, e0, k0⟩ := r0
    cases e0
    obtain ⟨y1, h1⟩ := hfs 1 _ rfl
    obtain ⟨a1, r1, g1⟩ := o26 n n (Nat.le_refl _) _ _ h1
    have r1 : rBig.R (HW W) [c1, c2] a1 := r1
    obtain ⟨v1_0, e1, k1_0, -⟩ := r1
    cases e1
    exact ⟨⟨a0, a1⟩, ⟨_, _, rfl, k0, k1_0, trivial⟩, ⟨g0, g1, trivial⟩⟩
def G2 (x : Int) : Prop := (Lit.int .i64 x).wf = true
theorem o2 : ∀ N, Opn enc Try.prog W N (rInt .i64) 2 G2 := fun N => Opn.int Try.underlying2
def G3 (x : Int) : Prop := (Lit.int .i64 x).wf = true
theorem o3 : ∀ N, Opn enc Try.prog W N (rInt .i64) 3 G3 := fun N => Opn.int Try.underlying3
def G22 (xs : (List Ineq)) : Prop := xs.length ≤ 9223372036854775807 ∧ ∀ x ∈ xs, G34 x
def G50 (x : Use) : Prop := G3 x.Index ∧ G26 x.N ∧ True
theorem o50 : ∀ N, Opn enc Try.prog W N rUse 50 G50 := by
  intro N fuel hf cs x h
  obtain ⟨hl, n, hn, hfs⟩ := trod_fields Try.underlying50 h
  have hl : cs.length = 3 := hl
  match cs, hl with
  | [c0, c1, c2], _ =>
    obtain ⟨y0, h0⟩ := hfs 0 _ rfl
    obtain ⟨a0, r0, g0⟩ := o3 n n (Nat.le_refl _) _ _ h0
    have r0 : (rInt .i64).R (HW W) [c0] a0 := r0
    have r0 : [c0] = [.int .i64 a0] := r0
    cases r0
    obtain ⟨y1, h1⟩ := hfs 1 _ rfl
    obtain ⟨a1, r1, g1⟩ := o26 n n (Nat.le_refl _) _ _ h1
    have r1 : rBig.R (HW W) [c1, c2] a1 := r1
    obtain ⟨v1_0, e1, k1_0, -⟩ := r1
    cases e1
    exact ⟨⟨a0, a1⟩, ⟨_, rfl, k1_0, trivial⟩, ⟨g0, g1, trivial⟩⟩
def G23 (xs : (List Use)) : Prop := xs.length ≤ 9223372036854775807 ∧ ∀ x ∈ xs, G50 x
theorem o23 : ∀ N, Opn enc Try.prog W N (rSl rUse) 23 G23 := fun N => Opn.less (Opn.slice Try.underlying23 (by kernel_rfl) rfl (o50 N))
def G28 (x : Step) : Prop := G23 x.Uses ∧ G26 x.Divisor ∧ True
theorem o28 : ∀ N, Opn enc Try.prog W N rStep 28 G28 := by
  intro N fuel hf cs x h
  obtain ⟨hl, n, hn, hfs⟩ := trod_fields Try.underlying28 h
  have hl : cs.length = 3 := hl
  match cs, hl with
  | [c0, c1, c2], _ =>
    obtain ⟨y0, h0⟩ := hfs 0 _ rfl
    obtain ⟨a0, r0, g0⟩ := o23 n n (Nat.le_refl _) _ _ h0
    have r0 : (rSl rUse).R (HW W) [c0] a0 := r0
    obtain ⟨v0, e0, k0⟩ := r0
    cases e0
    obtain ⟨y1, h1⟩ := hfs 1 _ rfl
    obtain ⟨a1, r1, g1⟩ := o26 n n (Nat.le_refl _) _ _ h1
    have r1 : rBig.R (HW W) [c1, c2] a1 := r1
    obtain ⟨v1_0, e1, k1_0, -⟩ := r1
    cases e1
    exact ⟨⟨a0, a1⟩, ⟨_, _, rfl, k0, k1_0, trivial⟩, ⟨g0, g1, trivial⟩⟩
end
end Go.Proofs.Ytakkacdhlocckaa.Q18

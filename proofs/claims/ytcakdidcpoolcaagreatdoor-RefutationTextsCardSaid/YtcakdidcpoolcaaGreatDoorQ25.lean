/- Openers of the arguments. Written by a program of mine (wip/tool). -/
import Derived.Test.YtcakdidcpoolcaaGreatDoorProg
import Derived.Test.YtcakdidcpoolcaaGreatDoorZ
import Derived.Test.YtcakdidcpoolcaaGreatDoorX
import Derived.Test.YtcakdidcpoolcaaGreatDoorT25
import Derived.Test.YtcakdidcpoolcaaGreatDoorN1
import Derived.Test.YtcakdidcpoolcaaGreatDoorRows
import Derived.ChangeMaps5
import Derived.Stop.LaidErr
set_option maxRecDepth 100000
set_option linter.unusedVariables false
set_option linter.unusedSimpArgs false
namespace Go.Proofs.YtcakdidcpoolcaaGreatDoor.Q25
open Go Go.ChangeShapes Go.WideShapes Go.ChangeAt Go.RowKit Go.X Go.D
section
variable {H : Type} {enc : TypeId × Value → H} {W : World}
def G3 (x : Int) : Prop := (Lit.int .i64 x).wf = true
theorem o3 : ∀ N, Opn enc Tryz.prog W N (rInt .i64) 3 G3 := fun N => Opn.int Tryz.underlying3
def G2 (x : Int) : Prop := (Lit.int .i64 x).wf = true
theorem o2 : ∀ N, Opn enc Tryz.prog W N (rInt .i64) 2 G2 := fun N => Opn.int Tryz.underlying2
def G4 (_ : Bool) : Prop := True
theorem o4 : ∀ N, Opn enc Tryz.prog W N rBool 4 G4 := fun N => Opn.bool Tryz.underlying4
def G83 (x : RVar) : Prop := G3 x.Ty ∧ G2 x.Low ∧ G2 x.High ∧ G3 x.Max ∧ G4 x.Nullable ∧ True
theorem o83 : ∀ N, Opn enc Tryz.prog W N rRVar 83 G83 := by
  intro N fuel hf cs x h
  obtain ⟨hl, n, hn, hfs⟩ := trod_fields Tryz.underlying83 h
  have hl : cs.length = 5 := hl
  match cs, hl with
  | [c0, c1, c2, c3, c4], _ =>
    obtain ⟨y0, h0⟩ := hfs 0 _ rfl
    obtain ⟨a0, r0, g0⟩ := o3 n n (Nat.le_refl _) _ _ h0
    have r0 : (rInt .i64).R (HW W) [c0] a0 := r0
    have r0 : [c0] = [.int .i64 a0] := r0
    cases r0
    obtain ⟨y1, h1⟩ := hfs 1 _ rfl
    obtain ⟨a1, r1, g1⟩ := o2 n n (Nat.le_refl _) _ _ h1
    have r1 : (rInt .i64).R (HW W) [c1] a1 := r1
    have r1 : [c1] = [.int .i64 a1] := r1
    cases r1
    obtain ⟨y2, h2⟩ := hfs 2 _ rfl
    obtain ⟨a2, r2, g2⟩ := o2 n n (Nat.le_refl _) _ _ h2
    have r2 : (rInt .i64).R (HW W) [c2] a2 := r2
    have r2 : [c2] = [.int .i64 a2] := r2
    cases r2
    obtain ⟨y3, h3⟩ := hfs 3 _ rfl
    obtain ⟨a3, r3, g3⟩ := o3 n n (Nat.le_refl _) _ _ h3
    have r3 : (rInt .i64).R (HW W) [c3] a3 := r3
    have r3 : [c3] = [.int .i64 a3] := r3
    cases r3
    obtain ⟨y4, h4⟩ := hfs 4 _ rfl
    obtain ⟨a4, r4, g4⟩ := o4 n n (Nat.le_refl _) _ _ h4
    have r4 : rBool.R (HW W) [c4] a4 := r4
    have r4 : [c4] = [.bool a4] := r4
    cases r4
    exact ⟨⟨a0, a1, a2, a3, a4⟩, ⟨rfl, trivial⟩, ⟨g0, g1, g2, g3, g4, trivial⟩⟩
def G22 (xs : (List RVar)) : Prop := xs.length ≤ 9223372036854775807 ∧ ∀ x ∈ xs, G83 x
theorem o22 : ∀ N, Opn enc Tryz.prog W N (rSl rRVar) 22 G22 := fun N => Opn.less (Opn.slice Tryz.underlying22 (by kernel_rfl) rfl (o83 N))
def G23 (xs : (List Int)) : Prop := xs.length ≤ 9223372036854775807 ∧ ∀ x ∈ xs, G3 x
theorem o23 : ∀ N, Opn enc Tryz.prog W N (rSl (rInt .i64)) 23 G23 := fun N => Opn.less (Opn.slice Tryz.underlying23 (by kernel_rfl) rfl (o3 N))
def G87 (x : Coef) : Prop := G3 x.Var ∧ G2 x.N ∧ True
theorem o87 : ∀ N, Opn enc Tryz.prog W N rCoef 87 G87 := by
  intro N fuel hf cs x h
  obtain ⟨hl, n, hn, hfs⟩ := trod_fields Tryz.underlying87 h
  have hl : cs.length = 2 := hl
  match cs, hl with
  | [c0, c1], _ =>
    obtain ⟨y0, h0⟩ := hfs 0 _ rfl
    obtain ⟨a0, r0, g0⟩ := o3 n n (Nat.le_refl _) _ _ h0
    have r0 : (rInt .i64).R (HW W) [c0] a0 := r0
    have r0 : [c0] = [.int .i64 a0] := r0
    cases r0
    obtain ⟨y1, h1⟩ := hfs 1 _ rfl
    obtain ⟨a1, r1, g1⟩ := o2 n n (Nat.le_refl _) _ _ h1
    have r1 : (rInt .i64).R (HW W) [c1] a1 := r1
    have r1 : [c1] = [.int .i64 a1] := r1
    cases r1
    exact ⟨⟨a0, a1⟩, ⟨rfl, trivial⟩, ⟨g0, g1, trivial⟩⟩
def G88 (xs : (List Coef)) : Prop := xs.length ≤ 9223372036854775807 ∧ ∀ x ∈ xs, G87 x
theorem o88 : ∀ N, Opn enc Tryz.prog W N (rSl rCoef) 88 G88 := fun N => Opn.less (Opn.slice Tryz.underlying88 (by kernel_rfl) rfl (o87 N))
def G90 (x : Linear) : Prop := G2 x.Const ∧ G88 x.Coefs ∧ True
theorem o90 : ∀ N, Opn enc Tryz.prog W N rLinear 90 G90 := by
  intro N fuel hf cs x h
  obtain ⟨hl, n, hn, hfs⟩ := trod_fields Tryz.underlying90 h
  have hl : cs.length = 2 := hl
  match cs, hl with
  | [c0, c1], _ =>
    obtain ⟨y0, h0⟩ := hfs 0 _ rfl
    obtain ⟨a0, r0, g0⟩ := o2 n n (Nat.le_refl _) _ _ h0
    have r0 : (rInt .i64).R (HW W) [c0] a0 := r0
    have r0 : [c0] = [.int .i64 a0] := r0
    cases r0
    obtain ⟨y1, h1⟩ := hfs 1 _ rfl
    obtain ⟨a1, r1, g1⟩ := o88 n n (Nat.le_refl _) _ _ h1
    have r1 : (rSl rCoef).R (HW W) [c1] a1 := r1
    obtain ⟨v1, e1, k1⟩ := r1
    cases e1
    exact ⟨⟨a0, a1⟩, ⟨_, rfl, k1, trivial⟩, ⟨g0, g1, trivial⟩⟩
def G104 (x : RAux) : Prop := G90 x.Of ∧ G2 x.By ∧ G3 x.Text ∧ True
theorem o104 : ∀ N, Opn enc Tryz.prog W N rRAux 104 G104 := by
  intro N fuel hf cs x h
  obtain ⟨hl, n, hn, hfs⟩ := trod_fields Tryz.underlying104 h
  have hl : cs.length = 4 := hl
  match cs, hl with
  | [c0, c1, c2, c3], _ =>
    obtain ⟨y0, h0⟩ := hfs 0 _ rfl
    obtain ⟨a0, r0, g0⟩ := o90 n n (Nat.le_refl _) _ _ h0
    have r0 : rLinear.R (HW W) [c0, c1] a0 := r0
    obtain ⟨v0_0, e0, k0_0, -⟩ := r0
    cases e0
    obtain ⟨y1, h1⟩ := hfs 1 _ rfl
    obtain ⟨a1, r1, g1⟩ := o2 n n (Nat.le_refl _) _ _ h1
    have r1 : (rInt .i64).R (HW W) [c2] a1 := r1
    have r1 : [c2] = [.int .i64 a1] := r1
    cases r1
    obtain ⟨y2, h2⟩ := hfs 2 _ rfl
    obtain ⟨a2, r2, g2⟩ := o3 n n (Nat.le_refl _) _ _ h2
    have r2 : (rInt .i64).R (HW W) [c3] a2 := r2
    have r2 : [c3] = [.int .i64 a2] := r2
    cases r2
    exact ⟨⟨a0, a1, a2⟩, ⟨_, rfl, k0_0, trivial⟩, ⟨g0, g1, g2, trivial⟩⟩
def G24 (xs : (List RAux)) : Prop := xs.length ≤ 9223372036854775807 ∧ ∀ x ∈ xs, G104 x
theorem o24 : ∀ N, Opn enc Tryz.prog W N (rSl rRAux) 24 G24 := fun N => Opn.less (Opn.slice Tryz.underlying24 (by kernel_rfl) rfl (o104 N))
def G92 (x : Constraint) : Prop := G90 x.Linear ∧ G4 x.Equal ∧ True
theorem o92 : ∀ N, Opn enc Tryz.prog W N rConstraint 92 G92 := by
  intro N fuel hf cs x h
  obtain ⟨hl, n, hn, hfs⟩ := trod_fields Tryz.underlying92 h
  have hl : cs.length = 3 := hl
  match cs, hl with
  | [c0, c1, c2], _ =>
    obtain ⟨y0, h0⟩ := hfs 0 _ rfl
    obtain ⟨a0, r0, g0⟩ := o90 n n (Nat.le_refl _) _ _ h0
    have r0 : rLinear.R (HW W) [c0, c1] a0 := r0
    obtain ⟨v0_0, e0, k0_0, -⟩ := r0
    cases e0
    obtain ⟨y1, h1⟩ := hfs 1 _ rfl
    obtain ⟨a1, r1, g1⟩ := o4 n n (Nat.le_refl _) _ _ h1
    have r1 : rBool.R (HW W) [c2] a1 := r1
    have r1 : [c2] = [.bool a1] := r1
    cases r1
    exact ⟨⟨a0, a1⟩, ⟨_, rfl, k0_0, trivial⟩, ⟨g0, g1, trivial⟩⟩
def G25 (xs : (List Constraint)) : Prop := xs.length ≤ 9223372036854775807 ∧ ∀ x ∈ xs, G92 x
theorem o25 : ∀ N, Opn enc Tryz.prog W N (rSl rConstraint) 25 G25 := fun N => Opn.less (Opn.slice Tryz.underlying25 (by kernel_rfl) rfl (o92 N))
def G9 (s : List UInt8) : Prop := s.length ≤ 9223372036854775807
theorem o9 : ∀ N, Opn enc Tryz.prog W N rStr 9 G9 := fun N => Opn.strL Tryz.underlying9
def G112 (x : TTest) : Prop := G3 x.Var ∧ G3 x.Kind ∧ G4 x.Negated ∧ G9 x.Text ∧ True
theorem o112 : ∀ N, Opn enc Tryz.prog W N rTTest 112 G112 := by
  intro N fuel hf cs x h
  obtain ⟨hl, n, hn, hfs⟩ := trod_fields Tryz.underlying112 h
  have hl : cs.length = 4 := hl
  match cs, hl with
  | [c0, c1, c2, c3], _ =>
    obtain ⟨y0, h0⟩ := hfs 0 _ rfl
    obtain ⟨a0, r0, g0⟩ := o3 n n (Nat.le_refl _) _ _ h0
    have r0 : (rInt .i64).R (HW W) [c0] a0 := r0
    have r0 : [c0] = [.int .i64 a0] := r0
    cases r0
    obtain ⟨y1, h1⟩ := hfs 1 _ rfl
    obtain ⟨a1, r1, g1⟩ := o3 n n (Nat.le_refl _) _ _ h1
    have r1 : (rInt .i64).R (HW W) [c1] a1 := r1
    have r1 : [c1] = [.int .i64 a1] := r1
    cases r1
    obtain ⟨y2, h2⟩ := hfs 2 _ rfl
    obtain ⟨a2, r2, g2⟩ := o4 n n (Nat.le_refl _) _ _ h2
    have r2 : rBool.R (HW W) [c2] a2 := r2
    have r2 : [c2] = [.bool a2] := r2
    cases r2
    obtain ⟨y3, h3⟩ := hfs 3 _ rfl
    obtain ⟨a3, r3, g3⟩ := o9 n n (Nat.le_refl _) _ _ h3
    have r3 : rStr.R (HW W) [c3] a3 := r3
    have r3 : [c3] = [.string (s8 a3)] := r3
    cases r3
    exact ⟨⟨a0, a1, a2, a3⟩, ⟨rfl, trivial⟩, ⟨g0, g1, g2, g3, trivial⟩⟩
def G26 (xs : (List TTest)) : Prop := xs.length ≤ 9223372036854775807 ∧ ∀ x ∈ xs, G112 x
theorem o26 : ∀ N, Opn enc Tryz.prog W N (rSl rTTest) 26 G26 := fun N => Opn.less (Opn.slice Tryz.underlying26 (by kernel_rfl) rfl (o112 N))
def G54 (x : Arr2Int) : Prop := G3 x.e0 ∧ G3 x.e1 ∧ True
theorem o54 : ∀ N, Opn enc Tryz.prog W N rArr2Int 54 G54 := by
  intro N fuel hf cs x h
  obtain ⟨hl, n, hn, hfs⟩ := trod_elems Tryz.underlying54 h
  have hl : cs.length = 2 := hl
  match cs, hl with
  | [c0, c1], _ =>
    obtain ⟨y0, h0⟩ := hfs 0 (by decide)
    obtain ⟨a0, r0, g0⟩ := o3 n n (Nat.le_refl _) _ _ h0
    have r0 : (rInt .i64).R (HW W) [c0] a0 := r0
    have r0 : [c0] = [.int .i64 a0] := r0
    cases r0
    obtain ⟨y1, h1⟩ := hfs 1 (by decide)
    obtain ⟨a1, r1, g1⟩ := o3 n n (Nat.le_refl _) _ _ h1
    have r1 : (rInt .i64).R (HW W) [c1] a1 := r1
    have r1 : [c1] = [.int .i64 a1] := r1
    cases r1
    exact ⟨⟨a0, a1⟩, ⟨rfl, trivial⟩, ⟨g0, g1, trivial⟩⟩
def G27 (xs : (List Arr2Int)) : Prop := xs.length ≤ 9223372036854775807 ∧ ∀ x ∈ xs, G54 x
theorem o27 : ∀ N, Opn enc Tryz.prog W N (rSl rArr2Int) 27 G27 := fun N => Opn.less (Opn.slice Tryz.underlying27 (by kernel_rfl) rfl (o54 N))
def G29 (x : RClause) : Prop := G23 x.Null ∧ G23 x.NotNull ∧ G24 x.Auxiliary ∧ G25 x.Ints ∧ G26 x.Tests ∧ G27 x.Same ∧ G27 x.Different ∧ True
theorem o29 : ∀ N, Opn enc Tryz.prog W N rRClause 29 G29 := by
  intro N fuel hf cs x h
  obtain ⟨hl, n, hn, hfs⟩ := trod_fields Tryz.underlying29 h
  have hl : cs.length = 7 := hl
  match cs, hl with
  | [c0, c1, c2, c3, c4, c5, c6], _ =>
    obtain ⟨y0, h0⟩ := hfs 0 _ rfl
    obtain ⟨a0, r0, g0⟩ := o23 n n (Nat.le_refl _) _ _ h0
    have r0 : (rSl (rInt .i64)).R (HW W) [c0] a0 := r0
    obtain ⟨v0, e0, k0⟩ := r0
    cases e0
    obtain ⟨y1, h1⟩ := hfs 1 _ rfl
    obtain ⟨a1, r1, g1⟩ := o23 n n (Nat.le_refl _) _ _ h1
    have r1 : (rSl (rInt .i64)).R (HW W) [c1] a1 := r1
    obtain ⟨v1, e1, k1⟩ := r1
    cases e1
    obtain ⟨y2, h2⟩ := hfs 2 _ rfl
    obtain ⟨a2, r2, g2⟩ := o24 n n (Nat.le_refl _) _ _ h2
    have r2 : (rSl rRAux).R (HW W) [c2] a2 := r2
    obtain ⟨v2, e2, k2⟩ := r2
    cases e2
    obtain ⟨y3, h3⟩ := hfs 3 _ rfl
    obtain ⟨a3, r3, g3⟩ := o25 n n (Nat.le_refl _) _ _ h3
    have r3 : (rSl rConstraint).R (HW W) [c3] a3 := r3
    obtain ⟨v3, e3, k3⟩ := r3
    cases e3
    obtain ⟨y4, h4⟩ := hfs 4 _ rfl
    obtain ⟨a4, r4, g4⟩ := o26 n n (Nat.le_refl _) _ _ h4
    have r4 : (rSl rTTest).R (HW W) [c4] a4 := r4
    obtain ⟨v4, e4, k4⟩ := r4
    cases e4
    obtain ⟨y5, h5⟩ := hfs 5 _ rfl
    obtain ⟨a5, r5, g5⟩ := o27 n n (Nat.le_refl _) _ _ h5
    have r5 : (rSl rArr2Int).R (HW W) [c5] a5 := r5
    obtain ⟨v5, e5, k5⟩ := r5
    cases e5
    obtain ⟨y6, h6⟩ := hfs 6 _ rfl
    obtain ⟨a6, r6, g6⟩ := o27 n n (Nat.le_refl _) _ _ h6
    have r6 : (rSl rArr2Int).R (HW W) [c6] a6 := r6
    obtain ⟨v6, e6, k6⟩ := r6
    cases e6
    exact ⟨⟨a0, a1, a2, a3, a4, a5, a6⟩, ⟨_, _, _, _, _, _, _, rfl, k0, k1, k2, k3, k4, k5, k6, trivial⟩, ⟨g0, g1, g2, g3, g4, g5, g6, trivial⟩⟩
def G53 (x : RVal) : Prop := G3 x.Kind ∧ G2 x.Int ∧ G9 x.Text ∧ True
theorem o53 : ∀ N, Opn enc Tryz.prog W N rRVal 53 G53 := by
  intro N fuel hf cs x h
  obtain ⟨hl, n, hn, hfs⟩ := trod_fields Tryz.underlying53 h
  have hl : cs.length = 3 := hl
  match cs, hl with
  | [c0, c1, c2], _ =>
    obtain ⟨y0, h0⟩ := hfs 0 _ rfl
    obtain ⟨a0, r0, g0⟩ := o3 n n (Nat.le_refl _) _ _ h0
    have r0 : (rInt .i64).R (HW W) [c0] a0 := r0
    have r0 : [c0] = [.int .i64 a0] := r0
    cases r0
    obtain ⟨y1, h1⟩ := hfs 1 _ rfl
    obtain ⟨a1, r1, g1⟩ := o2 n n (Nat.le_refl _) _ _ h1
    have r1 : (rInt .i64).R (HW W) [c1] a1 := r1
    have r1 : [c1] = [.int .i64 a1] := r1
    cases r1
    obtain ⟨y2, h2⟩ := hfs 2 _ rfl
    obtain ⟨a2, r2, g2⟩ := o9 n n (Nat.le_refl _) _ _ h2
    have r2 : rStr.R (HW W) [c2] a2 := r2
    have r2 : [c2] = [.string (s8 a2)] := r2
    cases r2
    exact ⟨⟨a0, a1, a2⟩, ⟨rfl, trivial⟩, ⟨g0, g1, g2, trivial⟩⟩
def G31 (xs : (List RVal)) : Prop := xs.length ≤ 9223372036854775807 ∧ ∀ x ∈ xs, G53 x
theorem o31 : ∀ N, Opn enc Tryz.prog W N (rSl rRVal) 31 G31 := fun N => Opn.less (Opn.slice Tryz.underlying31 (by kernel_rfl) rfl (o53 N))
def G33 (x : RCase) : Prop := G22 x.L ∧ G29 x.C ∧ G27 x.Ranges ∧ G31 x.R ∧ True
theorem o33 : ∀ N, Opn enc Tryz.prog W N rRCase 33 G33 := by
  intro N fuel hf cs x h
  obtain ⟨hl, n, hn, hfs⟩ := trod_fields Tryz.underlying33 h
  have hl : cs.length = 10 := hl
  match cs, hl with
  | [c0, c1, c2, c3, c4, c5, c6, c7, c8, c9], _ =>
    obtain ⟨y0, h0⟩ := hfs 0 _ rfl
    obtain ⟨a0, r0, g0⟩ := o22 n n (Nat.le_refl _) _ _ h0
    have r0 : (rSl rRVar).R (HW W) [c0] a0 := r0
    obtain ⟨v0, e0, k0⟩ := r0
    cases e0
    obtain ⟨y1, h1⟩ := hfs 1 _ rfl
    obtain ⟨a1, r1, g1⟩ := o29 n n (Nat.le_refl _) _ _ h1
    have r1 : rRClause.R (HW W) [c1, c2, c3, c4, c5, c6, c7] a1 := r1
    obtain ⟨v1_0, v1_1, v1_2, v1_3, v1_4, v1_5, v1_6, e1, k1_0, k1_1, k1_2, k1_3, k1_4, k1_5, k1_6, -⟩ := r1
    cases e1
    obtain ⟨y2, h2⟩ := hfs 2 _ rfl
    obtain ⟨a2, r2, g2⟩ := o27 n n (Nat.le_refl _) _ _ h2
    have r2 : (rSl rArr2Int).R (HW W) [c8] a2 := r2
    obtain ⟨v2, e2, k2⟩ := r2
    cases e2
    obtain ⟨y3, h3⟩ := hfs 3 _ rfl
    obtain ⟨a3, r3, g3⟩ := o31 n n (Nat.le_refl _) _ _ h3
    have r3 : (rSl rRVal).R (HW W) [c9] a3 := r3
    obtain ⟨v3, e3, k3⟩ := r3
    cases e3
    exact ⟨⟨a0, a1, a2, a3⟩, ⟨_, _, _, _, _, _, _, _, _, _, rfl, k0, k1_0, k1_1, k1_2, k1_3, k1_4, k1_5, k1_6, k2, k3, trivial⟩, ⟨g0, g1, g2, g3, trivial⟩⟩
theorem limc_of {c : RClause} (h : G29 c) : LimC c := ⟨h.1.1, h.2.1.1, fun a ha => (h.2.2.1.2 a ha).1.2.1.1, fun k hk => (h.2.2.2.1.2 k hk).1.2.1.1, fun t ht => (h.2.2.2.2.1.2 t ht).2.2.2.1⟩
theorem limx_of {x : RCase} (h : G33 x) (w : LwC x.C) : LimX x := ⟨h.1.1, h.2.2.1.1, limc_of h.2.1, w⟩
end
end Go.Proofs.YtcakdidcpoolcaaGreatDoor.Q25

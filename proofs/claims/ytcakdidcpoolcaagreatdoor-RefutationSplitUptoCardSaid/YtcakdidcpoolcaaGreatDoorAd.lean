/- Plain theorems and definitions of this seat, several texts in one. -/
import Derived.Test.YtcakdidcpoolcaaGreatDoorAa
import Derived.Test.YtcakdidcpoolcaaGreatDoorAb
import Derived.Lib.ItoaNum
namespace Go.D
open Go Go.X
structure Big where
  Negative : Bool
  Digits : (List Int)
  deriving DecidableEq
def rBig : Rep Big := ⟨2, fun H vs x => ∃ v0, vs = [Value.bool x.Negative, v0] ∧ Rs (rInt .u32) H v0 x.Digits ∧ True,
  fun H H' vs x hle h => by obtain ⟨v0, h0, k0, -⟩ := h; exact ⟨v0, h0, k0.mono hle, trivial⟩,
  fun H vs x h => by obtain ⟨v0, h0, k0, -⟩ := h; rw [h0]; rfl,
  fun H vs x h => by obtain ⟨v0, h0, k0, -⟩ := h; rw [h0]; exact (ones_cons rfl (ones_cons k0.one ones_nil))⟩
theorem rBig_open {H : Hp} {vs : List Value} {x : Big} (h : rBig.R H vs x) : ∃ v0, vs = [Value.bool x.Negative, v0] ∧ Rs (rInt .u32) H v0 x.Digits ∧ True := h
theorem rBig_close {H : Hp} {vs : List Value} {x : Big} (h : ∃ v0, vs = [Value.bool x.Negative, v0] ∧ Rs (rInt .u32) H v0 x.Digits ∧ True) : rBig.R H vs x := h
structure Coef where
  Var : Int
  N : Int
  deriving DecidableEq
def rCoef : Rep Coef := ⟨2, fun H vs x => vs = [Value.int .i64 x.Var, Value.int .i64 x.N] ∧ True,
  fun H H' vs x hle h => by obtain ⟨h0, -⟩ := h; exact ⟨h0, trivial⟩,
  fun H vs x h => by obtain ⟨h0, -⟩ := h; rw [h0]; rfl,
  fun H vs x h => by obtain ⟨h0, -⟩ := h; rw [h0]; exact (ones_cons rfl (ones_cons rfl ones_nil))⟩
theorem rCoef_open {H : Hp} {vs : List Value} {x : Coef} (h : rCoef.R H vs x) : vs = [Value.int .i64 x.Var, Value.int .i64 x.N] ∧ True := h
theorem rCoef_close {H : Hp} {vs : List Value} {x : Coef} (h : vs = [Value.int .i64 x.Var, Value.int .i64 x.N] ∧ True) : rCoef.R H vs x := h
structure Linear where
  Const : Int
  Coefs : (List Coef)
  deriving DecidableEq
def rLinear : Rep Linear := ⟨2, fun H vs x => ∃ v0, vs = [Value.int .i64 x.Const, v0] ∧ Rs rCoef H v0 x.Coefs ∧ True,
  fun H H' vs x hle h => by obtain ⟨v0, h0, k0, -⟩ := h; exact ⟨v0, h0, k0.mono hle, trivial⟩,
  fun H vs x h => by obtain ⟨v0, h0, k0, -⟩ := h; rw [h0]; rfl,
  fun H vs x h => by obtain ⟨v0, h0, k0, -⟩ := h; rw [h0]; exact (ones_cons rfl (ones_cons k0.one ones_nil))⟩
theorem rLinear_open {H : Hp} {vs : List Value} {x : Linear} (h : rLinear.R H vs x) : ∃ v0, vs = [Value.int .i64 x.Const, v0] ∧ Rs rCoef H v0 x.Coefs ∧ True := h
theorem rLinear_close {H : Hp} {vs : List Value} {x : Linear} (h : ∃ v0, vs = [Value.int .i64 x.Const, v0] ∧ Rs rCoef H v0 x.Coefs ∧ True) : rLinear.R H vs x := h
structure Constraint where
  Linear : Linear
  Equal : Bool
  deriving DecidableEq
def rConstraint : Rep Constraint := ⟨3, fun H vs x => ∃ v0, vs = [Value.int .i64 x.Linear.Const, v0, Value.bool x.Equal] ∧ Rs rCoef H v0 x.Linear.Coefs ∧ True,
  fun H H' vs x hle h => by obtain ⟨v0, h0, k0, -⟩ := h; exact ⟨v0, h0, k0.mono hle, trivial⟩,
  fun H vs x h => by obtain ⟨v0, h0, k0, -⟩ := h; rw [h0]; rfl,
  fun H vs x h => by obtain ⟨v0, h0, k0, -⟩ := h; rw [h0]; exact (ones_cons rfl (ones_cons k0.one (ones_cons rfl ones_nil)))⟩
theorem rConstraint_open {H : Hp} {vs : List Value} {x : Constraint} (h : rConstraint.R H vs x) : ∃ v0, vs = [Value.int .i64 x.Linear.Const, v0, Value.bool x.Equal] ∧ Rs rCoef H v0 x.Linear.Coefs ∧ True := h
theorem rConstraint_close {H : Hp} {vs : List Value} {x : Constraint} (h : ∃ v0, vs = [Value.int .i64 x.Linear.Const, v0, Value.bool x.Equal] ∧ Rs rCoef H v0 x.Linear.Coefs ∧ True) : rConstraint.R H vs x := h
structure Ineq where
  Coefs : (List Big)
  Bound : Big
  deriving DecidableEq
def rIneq : Rep Ineq := ⟨3, fun H vs x => ∃ v0 v1, vs = [v0, Value.bool x.Bound.Negative, v1] ∧ Rs rBig H v0 x.Coefs ∧ Rs (rInt .u32) H v1 x.Bound.Digits ∧ True,
  fun H H' vs x hle h => by obtain ⟨v0, v1, h0, k0, k1, -⟩ := h; exact ⟨v0, v1, h0, k0.mono hle, k1.mono hle, trivial⟩,
  fun H vs x h => by obtain ⟨v0, v1, h0, k0, k1, -⟩ := h; rw [h0]; rfl,
  fun H vs x h => by obtain ⟨v0, v1, h0, k0, k1, -⟩ := h; rw [h0]; exact (ones_cons k0.one (ones_cons rfl (ones_cons k1.one ones_nil)))⟩
theorem rIneq_open {H : Hp} {vs : List Value} {x : Ineq} (h : rIneq.R H vs x) : ∃ v0 v1, vs = [v0, Value.bool x.Bound.Negative, v1] ∧ Rs rBig H v0 x.Coefs ∧ Rs (rInt .u32) H v1 x.Bound.Digits ∧ True := h
theorem rIneq_close {H : Hp} {vs : List Value} {x : Ineq} (h : ∃ v0 v1, vs = [v0, Value.bool x.Bound.Negative, v1] ∧ Rs rBig H v0 x.Coefs ∧ Rs (rInt .u32) H v1 x.Bound.Digits ∧ True) : rIneq.R H vs x := h
structure Use where
  Index : Int
  N : Big
  deriving DecidableEq
def rUse : Rep Use := ⟨3, fun H vs x => ∃ v0, vs = [Value.int .i64 x.Index, Value.bool x.N.Negative, v0] ∧ Rs (rInt .u32) H v0 x.N.Digits ∧ True,
  fun H H' vs x hle h => by obtain ⟨v0, h0, k0, -⟩ := h; exact ⟨v0, h0, k0.mono hle, trivial⟩,
  fun H vs x h => by obtain ⟨v0, h0, k0, -⟩ := h; rw [h0]; rfl,
  fun H vs x h => by obtain ⟨v0, h0, k0, -⟩ := h; rw [h0]; exact (ones_cons rfl (ones_cons rfl (ones_cons k0.one ones_nil)))⟩
theorem rUse_open {H : Hp} {vs : List Value} {x : Use} (h : rUse.R H vs x) : ∃ v0, vs = [Value.int .i64 x.Index, Value.bool x.N.Negative, v0] ∧ Rs (rInt .u32) H v0 x.N.Digits ∧ True := h
theorem rUse_close {H : Hp} {vs : List Value} {x : Use} (h : ∃ v0, vs = [Value.int .i64 x.Index, Value.bool x.N.Negative, v0] ∧ Rs (rInt .u32) H v0 x.N.Digits ∧ True) : rUse.R H vs x := h
structure Step where
  Uses : (List Use)
  Divisor : Big
  deriving DecidableEq
def rStep : Rep Step := ⟨3, fun H vs x => ∃ v0 v1, vs = [v0, Value.bool x.Divisor.Negative, v1] ∧ Rs rUse H v0 x.Uses ∧ Rs (rInt .u32) H v1 x.Divisor.Digits ∧ True,
  fun H H' vs x hle h => by obtain ⟨v0, v1, h0, k0, k1, -⟩ := h; exact ⟨v0, v1, h0, k0.mono hle, k1.mono hle, trivial⟩,
  fun H vs x h => by obtain ⟨v0, v1, h0, k0, k1, -⟩ := h; rw [h0]; rfl,
  fun H vs x h => by obtain ⟨v0, v1, h0, k0, k1, -⟩ := h; rw [h0]; exact (ones_cons k0.one (ones_cons rfl (ones_cons k1.one ones_nil)))⟩
theorem rStep_open {H : Hp} {vs : List Value} {x : Step} (h : rStep.R H vs x) : ∃ v0 v1, vs = [v0, Value.bool x.Divisor.Negative, v1] ∧ Rs rUse H v0 x.Uses ∧ Rs (rInt .u32) H v1 x.Divisor.Digits ∧ True := h
theorem rStep_close {H : Hp} {vs : List Value} {x : Step} (h : ∃ v0 v1, vs = [v0, Value.bool x.Divisor.Negative, v1] ∧ Rs rUse H v0 x.Uses ∧ Rs (rInt .u32) H v1 x.Divisor.Digits ∧ True) : rStep.R H vs x := h
structure Proof where
  Steps : (List Step)
  Form : (List Big)
  Bound : Big
  Children : (List Proof)
def RProof : Nat → Hp → List Value → Proof → Prop
  | 0, _, _, _ => False
  | n + 1, H, vs, x => ∃ v0 v1 v2 v3, vs = [v0, v1, Value.bool x.Bound.Negative, v2, v3] ∧ Rs rStep H v0 x.Steps ∧ Rs rBig H v1 x.Form ∧ Rs (rInt .u32) H v2 x.Bound.Digits ∧ Sl 5 (RProof n) H v3 x.Children ∧ True
theorem RProof_mono : ∀ (n : Nat) {H H' : Hp} {vs : List Value} {x : Proof}, Le H H' → RProof n H vs x → RProof n H' vs x
  | 0, _, _, _, _, _, h => h.elim
  | n + 1, _, _, _, _, hle, h => by obtain ⟨v0, v1, v2, v3, h0, k0, k1, k2, k3, -⟩ := h; exact ⟨v0, v1, v2, v3, h0, k0.mono hle, k1.mono hle, k2.mono hle, Sl.mono (R := RProof n) (fun _ _ _ _ a b => RProof_mono n a b) hle k3, trivial⟩
theorem RProof_up : ∀ {n m : Nat} {H : Hp} {vs : List Value} {x : Proof}, n ≤ m → RProof n H vs x → RProof m H vs x
  | 0, _, _, _, _, _, h => h.elim
  | n + 1, 0, _, _, _, hm, _ => by omega
  | n + 1, m + 1, _, _, _, hm, h => by have hm : n ≤ m := (by omega); obtain ⟨v0, v1, v2, v3, h0, k0, k1, k2, k3, -⟩ := h; exact ⟨v0, v1, v2, v3, h0, k0, k1, k2, sl_imp (fun _ _ => RProof_up hm) k3, trivial⟩
def rProof : Rep Proof := ⟨5, fun H vs x => ∃ n, RProof n H vs x, fun _ _ _ _ hle ⟨n, h⟩ => ⟨n, RProof_mono n hle h⟩,
  fun H vs x h => by obtain ⟨n, h⟩ := h; cases n with | zero => exact h.elim | succ n => obtain ⟨v0, v1, v2, v3, h0, k0, k1, k2, k3, -⟩ := h; rw [h0]; rfl,
  fun H vs x h => by obtain ⟨n, h⟩ := h; cases n with | zero => exact h.elim | succ n => obtain ⟨v0, v1, v2, v3, h0, k0, k1, k2, k3, -⟩ := h; rw [h0]; exact (ones_cons k0.one (ones_cons k1.one (ones_cons rfl (ones_cons k2.one (ones_cons (Sl.one k3) ones_nil)))))⟩
theorem rProof_open {H : Hp} {vs : List Value} {x : Proof} (h : rProof.R H vs x) : ∃ v0 v1 v2 v3, vs = [v0, v1, Value.bool x.Bound.Negative, v2, v3] ∧ Rs rStep H v0 x.Steps ∧ Rs rBig H v1 x.Form ∧ Rs (rInt .u32) H v2 x.Bound.Digits ∧ Rs rProof H v3 x.Children ∧ True := by
  obtain ⟨n, h⟩ := h; cases n with | zero => exact h.elim | succ n => obtain ⟨v0, v1, v2, v3, h0, k0, k1, k2, k3, -⟩ := h; exact ⟨v0, v1, v2, v3, h0, k0, k1, k2, sl_imp (fun _ _ h => ⟨n, h⟩) k3, trivial⟩
theorem rProof_close {H : Hp} {vs : List Value} {x : Proof} (h : ∃ v0 v1 v2 v3, vs = [v0, v1, Value.bool x.Bound.Negative, v2, v3] ∧ Rs rStep H v0 x.Steps ∧ Rs rBig H v1 x.Form ∧ Rs (rInt .u32) H v2 x.Bound.Digits ∧ Rs rProof H v3 x.Children ∧ True) : rProof.R H vs x := by
  obtain ⟨v0, v1, v2, v3, h0, k0, k1, k2, k3, -⟩ := h
  obtain ⟨n, hn⟩ := sl_bound (Rn := RProof) (fun _ _ _ _ hm h => RProof_up hm h) k3
  exact ⟨n + 1, v0, v1, v2, v3, h0, k0, k1, k2, hn, trivial⟩
structure TTest where
  Var : Int
  Kind : Int
  Negated : Bool
  Text : (List UInt8)
  deriving DecidableEq
def rTTest : Rep TTest := ⟨4, fun H vs x => vs = [Value.int .i64 x.Var, Value.int .i64 x.Kind, Value.bool x.Negated, Value.string (s8 x.Text)] ∧ True,
  fun H H' vs x hle h => by obtain ⟨h0, -⟩ := h; exact ⟨h0, trivial⟩,
  fun H vs x h => by obtain ⟨h0, -⟩ := h; rw [h0]; rfl,
  fun H vs x h => by obtain ⟨h0, -⟩ := h; rw [h0]; exact (ones_cons rfl (ones_cons rfl (ones_cons rfl (ones_cons rfl ones_nil))))⟩
theorem rTTest_open {H : Hp} {vs : List Value} {x : TTest} (h : rTTest.R H vs x) : vs = [Value.int .i64 x.Var, Value.int .i64 x.Kind, Value.bool x.Negated, Value.string (s8 x.Text)] ∧ True := h
theorem rTTest_close {H : Hp} {vs : List Value} {x : TTest} (h : vs = [Value.int .i64 x.Var, Value.int .i64 x.Kind, Value.bool x.Negated, Value.string (s8 x.Text)] ∧ True) : rTTest.R H vs x := h
structure TFinder where
  tests : (List TTest)
  most : Int
  out : (List (List UInt8))
  dead : (List ((List UInt8) × Bool))
structure Arr2Int where
  e0 : Int
  e1 : Int
  deriving DecidableEq
def rArr2Int : Rep Arr2Int := ⟨2, fun H vs x => vs = [Value.int .i64 x.e0, Value.int .i64 x.e1] ∧ True,
  fun H H' vs x hle h => by obtain ⟨h0, -⟩ := h; exact ⟨h0, trivial⟩,
  fun H vs x h => by obtain ⟨h0, -⟩ := h; rw [h0]; rfl,
  fun H vs x h => by obtain ⟨h0, -⟩ := h; rw [h0]; exact (ones_cons rfl (ones_cons rfl ones_nil))⟩
theorem rArr2Int_open {H : Hp} {vs : List Value} {x : Arr2Int} (h : rArr2Int.R H vs x) : vs = [Value.int .i64 x.e0, Value.int .i64 x.e1] ∧ True := h
theorem rArr2Int_close {H : Hp} {vs : List Value} {x : Arr2Int} (h : vs = [Value.int .i64 x.e0, Value.int .i64 x.e1] ∧ True) : rArr2Int.R H vs x := h
structure TProb where
  Min : (List Int)
  Max : (List Int)
  Tests : (List TTest)
  Same : (List Arr2Int)
  Different : (List Arr2Int)
  deriving DecidableEq
def rTProb : Rep TProb := ⟨5, fun H vs x => ∃ v0 v1 v2 v3 v4, vs = [v0, v1, v2, v3, v4] ∧ Rs (rInt .i64) H v0 x.Min ∧ Rs (rInt .i64) H v1 x.Max ∧ Rs rTTest H v2 x.Tests ∧ Rs rArr2Int H v3 x.Same ∧ Rs rArr2Int H v4 x.Different ∧ True,
  fun H H' vs x hle h => by obtain ⟨v0, v1, v2, v3, v4, h0, k0, k1, k2, k3, k4, -⟩ := h; exact ⟨v0, v1, v2, v3, v4, h0, k0.mono hle, k1.mono hle, k2.mono hle, k3.mono hle, k4.mono hle, trivial⟩,
  fun H vs x h => by obtain ⟨v0, v1, v2, v3, v4, h0, k0, k1, k2, k3, k4, -⟩ := h; rw [h0]; rfl,
  fun H vs x h => by obtain ⟨v0, v1, v2, v3, v4, h0, k0, k1, k2, k3, k4, -⟩ := h; rw [h0]; exact (ones_cons k0.one (ones_cons k1.one (ones_cons k2.one (ones_cons k3.one (ones_cons k4.one ones_nil)))))⟩
theorem rTProb_open {H : Hp} {vs : List Value} {x : TProb} (h : rTProb.R H vs x) : ∃ v0 v1 v2 v3 v4, vs = [v0, v1, v2, v3, v4] ∧ Rs (rInt .i64) H v0 x.Min ∧ Rs (rInt .i64) H v1 x.Max ∧ Rs rTTest H v2 x.Tests ∧ Rs rArr2Int H v3 x.Same ∧ Rs rArr2Int H v4 x.Different ∧ True := h
theorem rTProb_close {H : Hp} {vs : List Value} {x : TProb} (h : ∃ v0 v1 v2 v3 v4, vs = [v0, v1, v2, v3, v4] ∧ Rs (rInt .i64) H v0 x.Min ∧ Rs (rInt .i64) H v1 x.Max ∧ Rs rTTest H v2 x.Tests ∧ Rs rArr2Int H v3 x.Same ∧ Rs rArr2Int H v4 x.Different ∧ True) : rTProb.R H vs x := h
structure TClass where
  low : Int
  high : Int
  tests : (List TTest)
  words : (List (List UInt8))
  apart : (List Int)
  deriving DecidableEq
def rTClass : Rep TClass := ⟨5, fun H vs x => ∃ v0 v1 v2, vs = [Value.int .i64 x.low, Value.int .i64 x.high, v0, v1, v2] ∧ Rs rTTest H v0 x.tests ∧ Rs rStr H v1 x.words ∧ Rs (rInt .i64) H v2 x.apart ∧ True,
  fun H H' vs x hle h => by obtain ⟨v0, v1, v2, h0, k0, k1, k2, -⟩ := h; exact ⟨v0, v1, v2, h0, k0.mono hle, k1.mono hle, k2.mono hle, trivial⟩,
  fun H vs x h => by obtain ⟨v0, v1, v2, h0, k0, k1, k2, -⟩ := h; rw [h0]; rfl,
  fun H vs x h => by obtain ⟨v0, v1, v2, h0, k0, k1, k2, -⟩ := h; rw [h0]; exact (ones_cons rfl (ones_cons rfl (ones_cons k0.one (ones_cons k1.one (ones_cons k2.one ones_nil)))))⟩
theorem rTClass_open {H : Hp} {vs : List Value} {x : TClass} (h : rTClass.R H vs x) : ∃ v0 v1 v2, vs = [Value.int .i64 x.low, Value.int .i64 x.high, v0, v1, v2] ∧ Rs rTTest H v0 x.tests ∧ Rs rStr H v1 x.words ∧ Rs (rInt .i64) H v2 x.apart ∧ True := h
theorem rTClass_close {H : Hp} {vs : List Value} {x : TClass} (h : ∃ v0 v1 v2, vs = [Value.int .i64 x.low, Value.int .i64 x.high, v0, v1, v2] ∧ Rs rTTest H v0 x.tests ∧ Rs rStr H v1 x.words ∧ Rs (rInt .i64) H v2 x.apart ∧ True) : rTClass.R H vs x := h
structure RAux where
  Of : Linear
  By : Int
  Text : Int
  deriving DecidableEq
def rRAux : Rep RAux := ⟨4, fun H vs x => ∃ v0, vs = [Value.int .i64 x.Of.Const, v0, Value.int .i64 x.By, Value.int .i64 x.Text] ∧ Rs rCoef H v0 x.Of.Coefs ∧ True,
  fun H H' vs x hle h => by obtain ⟨v0, h0, k0, -⟩ := h; exact ⟨v0, h0, k0.mono hle, trivial⟩,
  fun H vs x h => by obtain ⟨v0, h0, k0, -⟩ := h; rw [h0]; rfl,
  fun H vs x h => by obtain ⟨v0, h0, k0, -⟩ := h; rw [h0]; exact (ones_cons rfl (ones_cons k0.one (ones_cons rfl (ones_cons rfl ones_nil))))⟩
theorem rRAux_open {H : Hp} {vs : List Value} {x : RAux} (h : rRAux.R H vs x) : ∃ v0, vs = [Value.int .i64 x.Of.Const, v0, Value.int .i64 x.By, Value.int .i64 x.Text] ∧ Rs rCoef H v0 x.Of.Coefs ∧ True := h
theorem rRAux_close {H : Hp} {vs : List Value} {x : RAux} (h : ∃ v0, vs = [Value.int .i64 x.Of.Const, v0, Value.int .i64 x.By, Value.int .i64 x.Text] ∧ Rs rCoef H v0 x.Of.Coefs ∧ True) : rRAux.R H vs x := h
structure RClause where
  Null : (List Int)
  NotNull : (List Int)
  Auxiliary : (List RAux)
  Ints : (List Constraint)
  Tests : (List TTest)
  Same : (List Arr2Int)
  Different : (List Arr2Int)
  deriving DecidableEq
def rRClause : Rep RClause := ⟨7, fun H vs x => ∃ v0 v1 v2 v3 v4 v5 v6, vs = [v0, v1, v2, v3, v4, v5, v6] ∧ Rs (rInt .i64) H v0 x.Null ∧ Rs (rInt .i64) H v1 x.NotNull ∧ Rs rRAux H v2 x.Auxiliary ∧ Rs rConstraint H v3 x.Ints ∧ Rs rTTest H v4 x.Tests ∧ Rs rArr2Int H v5 x.Same ∧ Rs rArr2Int H v6 x.Different ∧ True,
  fun H H' vs x hle h => by obtain ⟨v0, v1, v2, v3, v4, v5, v6, h0, k0, k1, k2, k3, k4, k5, k6, -⟩ := h; exact ⟨v0, v1, v2, v3, v4, v5, v6, h0, k0.mono hle, k1.mono hle, k2.mono hle, k3.mono hle, k4.mono hle, k5.mono hle, k6.mono hle, trivial⟩,
  fun H vs x h => by obtain ⟨v0, v1, v2, v3, v4, v5, v6, h0, k0, k1, k2, k3, k4, k5, k6, -⟩ := h; rw [h0]; rfl,
  fun H vs x h => by obtain ⟨v0, v1, v2, v3, v4, v5, v6, h0, k0, k1, k2, k3, k4, k5, k6, -⟩ := h; rw [h0]; exact (ones_cons k0.one (ones_cons k1.one (ones_cons k2.one (ones_cons k3.one (ones_cons k4.one (ones_cons k5.one (ones_cons k6.one ones_nil)))))))⟩
theorem rRClause_open {H : Hp} {vs : List Value} {x : RClause} (h : rRClause.R H vs x) : ∃ v0 v1 v2 v3 v4 v5 v6, vs = [v0, v1, v2, v3, v4, v5, v6] ∧ Rs (rInt .i64) H v0 x.Null ∧ Rs (rInt .i64) H v1 x.NotNull ∧ Rs rRAux H v2 x.Auxiliary ∧ Rs rConstraint H v3 x.Ints ∧ Rs rTTest H v4 x.Tests ∧ Rs rArr2Int H v5 x.Same ∧ Rs rArr2Int H v6 x.Different ∧ True := h
theorem rRClause_close {H : Hp} {vs : List Value} {x : RClause} (h : ∃ v0 v1 v2 v3 v4 v5 v6, vs = [v0, v1, v2, v3, v4, v5, v6] ∧ Rs (rInt .i64) H v0 x.Null ∧ Rs (rInt .i64) H v1 x.NotNull ∧ Rs rRAux H v2 x.Auxiliary ∧ Rs rConstraint H v3 x.Ints ∧ Rs rTTest H v4 x.Tests ∧ Rs rArr2Int H v5 x.Same ∧ Rs rArr2Int H v6 x.Different ∧ True) : rRClause.R H vs x := h
structure RVar where
  Ty : Int
  Low : Int
  High : Int
  Max : Int
  Nullable : Bool
  deriving DecidableEq
def rRVar : Rep RVar := ⟨5, fun H vs x => vs = [Value.int .i64 x.Ty, Value.int .i64 x.Low, Value.int .i64 x.High, Value.int .i64 x.Max, Value.bool x.Nullable] ∧ True,
  fun H H' vs x hle h => by obtain ⟨h0, -⟩ := h; exact ⟨h0, trivial⟩,
  fun H vs x h => by obtain ⟨h0, -⟩ := h; rw [h0]; rfl,
  fun H vs x h => by obtain ⟨h0, -⟩ := h; rw [h0]; exact (ones_cons rfl (ones_cons rfl (ones_cons rfl (ones_cons rfl (ones_cons rfl ones_nil)))))⟩
theorem rRVar_open {H : Hp} {vs : List Value} {x : RVar} (h : rRVar.R H vs x) : vs = [Value.int .i64 x.Ty, Value.int .i64 x.Low, Value.int .i64 x.High, Value.int .i64 x.Max, Value.bool x.Nullable] ∧ True := h
theorem rRVar_close {H : Hp} {vs : List Value} {x : RVar} (h : vs = [Value.int .i64 x.Ty, Value.int .i64 x.Low, Value.int .i64 x.High, Value.int .i64 x.Max, Value.bool x.Nullable] ∧ True) : rRVar.R H vs x := h
structure RVal where
  Kind : Int
  Int : Int
  Text : (List UInt8)
  deriving DecidableEq
def rRVal : Rep RVal := ⟨3, fun H vs x => vs = [Value.int .i64 x.Kind, Value.int .i64 x.Int, Value.string (s8 x.Text)] ∧ True,
  fun H H' vs x hle h => by obtain ⟨h0, -⟩ := h; exact ⟨h0, trivial⟩,
  fun H vs x h => by obtain ⟨h0, -⟩ := h; rw [h0]; rfl,
  fun H vs x h => by obtain ⟨h0, -⟩ := h; rw [h0]; exact (ones_cons rfl (ones_cons rfl (ones_cons rfl ones_nil)))⟩
theorem rRVal_open {H : Hp} {vs : List Value} {x : RVal} (h : rRVal.R H vs x) : vs = [Value.int .i64 x.Kind, Value.int .i64 x.Int, Value.string (s8 x.Text)] ∧ True := h
theorem rRVal_close {H : Hp} {vs : List Value} {x : RVal} (h : vs = [Value.int .i64 x.Kind, Value.int .i64 x.Int, Value.string (s8 x.Text)] ∧ True) : rRVal.R H vs x := h
structure Refut where
  Kind : Int
  Var : Int
  At : Int
  Proof : Proof
  Children : (List Refut)
def RRefut : Nat → Hp → List Value → Refut → Prop
  | 0, _, _, _ => False
  | n + 1, H, vs, x => ∃ v0 v1 v2 v3 v4, vs = [Value.int .i64 x.Kind, Value.int .i64 x.Var, Value.int .i64 x.At, v0, v1, Value.bool x.Proof.Bound.Negative, v2, v3, v4] ∧ Rs rStep H v0 x.Proof.Steps ∧ Rs rBig H v1 x.Proof.Form ∧ Rs (rInt .u32) H v2 x.Proof.Bound.Digits ∧ Rs rProof H v3 x.Proof.Children ∧ Sl 9 (RRefut n) H v4 x.Children ∧ True
theorem RRefut_mono : ∀ (n : Nat) {H H' : Hp} {vs : List Value} {x : Refut}, Le H H' → RRefut n H vs x → RRefut n H' vs x
  | 0, _, _, _, _, _, h => h.elim
  | n + 1, _, _, _, _, hle, h => by obtain ⟨v0, v1, v2, v3, v4, h0, k0, k1, k2, k3, k4, -⟩ := h; exact ⟨v0, v1, v2, v3, v4, h0, k0.mono hle, k1.mono hle, k2.mono hle, k3.mono hle, Sl.mono (R := RRefut n) (fun _ _ _ _ a b => RRefut_mono n a b) hle k4, trivial⟩
theorem RRefut_up : ∀ {n m : Nat} {H : Hp} {vs : List Value} {x : Refut}, n ≤ m → RRefut n H vs x → RRefut m H vs x
  | 0, _, _, _, _, _, h => h.elim
  | n + 1, 0, _, _, _, hm, _ => by omega
  | n + 1, m + 1, _, _, _, hm, h => by have hm : n ≤ m := (by omega); obtain ⟨v0, v1, v2, v3, v4, h0, k0, k1, k2, k3, k4, -⟩ := h; exact ⟨v0, v1, v2, v3, v4, h0, k0, k1, k2, k3, sl_imp (fun _ _ => RRefut_up hm) k4, trivial⟩
def rRefut : Rep Refut := ⟨9, fun H vs x => ∃ n, RRefut n H vs x, fun _ _ _ _ hle ⟨n, h⟩ => ⟨n, RRefut_mono n hle h⟩,
  fun H vs x h => by obtain ⟨n, h⟩ := h; cases n with | zero => exact h.elim | succ n => obtain ⟨v0, v1, v2, v3, v4, h0, k0, k1, k2, k3, k4, -⟩ := h; rw [h0]; rfl,
  fun H vs x h => by obtain ⟨n, h⟩ := h; cases n with | zero => exact h.elim | succ n => obtain ⟨v0, v1, v2, v3, v4, h0, k0, k1, k2, k3, k4, -⟩ := h; rw [h0]; exact (ones_cons rfl (ones_cons rfl (ones_cons rfl (ones_cons k0.one (ones_cons k1.one (ones_cons rfl (ones_cons k2.one (ones_cons k3.one (ones_cons (Sl.one k4) ones_nil)))))))))⟩
theorem rRefut_open {H : Hp} {vs : List Value} {x : Refut} (h : rRefut.R H vs x) : ∃ v0 v1 v2 v3 v4, vs = [Value.int .i64 x.Kind, Value.int .i64 x.Var, Value.int .i64 x.At, v0, v1, Value.bool x.Proof.Bound.Negative, v2, v3, v4] ∧ Rs rStep H v0 x.Proof.Steps ∧ Rs rBig H v1 x.Proof.Form ∧ Rs (rInt .u32) H v2 x.Proof.Bound.Digits ∧ Rs rProof H v3 x.Proof.Children ∧ Rs rRefut H v4 x.Children ∧ True := by
  obtain ⟨n, h⟩ := h; cases n with | zero => exact h.elim | succ n => obtain ⟨v0, v1, v2, v3, v4, h0, k0, k1, k2, k3, k4, -⟩ := h; exact ⟨v0, v1, v2, v3, v4, h0, k0, k1, k2, k3, sl_imp (fun _ _ h => ⟨n, h⟩) k4, trivial⟩
theorem rRefut_close {H : Hp} {vs : List Value} {x : Refut} (h : ∃ v0 v1 v2 v3 v4, vs = [Value.int .i64 x.Kind, Value.int .i64 x.Var, Value.int .i64 x.At, v0, v1, Value.bool x.Proof.Bound.Negative, v2, v3, v4] ∧ Rs rStep H v0 x.Proof.Steps ∧ Rs rBig H v1 x.Proof.Form ∧ Rs (rInt .u32) H v2 x.Proof.Bound.Digits ∧ Rs rProof H v3 x.Proof.Children ∧ Rs rRefut H v4 x.Children ∧ True) : rRefut.R H vs x := by
  obtain ⟨v0, v1, v2, v3, v4, h0, k0, k1, k2, k3, k4, -⟩ := h
  obtain ⟨n, hn⟩ := sl_bound (Rn := RRefut) (fun _ _ _ _ hm h => RRefut_up hm h) k4
  exact ⟨n + 1, v0, v1, v2, v3, v4, h0, k0, k1, k2, k3, hn, trivial⟩
structure RCase where
  L : (List RVar)
  C : RClause
  Ranges : (List Arr2Int)
  R : (List RVal)
  deriving DecidableEq
def rRCase : Rep RCase := ⟨10, fun H vs x => ∃ v0 v1 v2 v3 v4 v5 v6 v7 v8 v9, vs = [v0, v1, v2, v3, v4, v5, v6, v7, v8, v9] ∧ Rs rRVar H v0 x.L ∧ Rs (rInt .i64) H v1 x.C.Null ∧ Rs (rInt .i64) H v2 x.C.NotNull ∧ Rs rRAux H v3 x.C.Auxiliary ∧ Rs rConstraint H v4 x.C.Ints ∧ Rs rTTest H v5 x.C.Tests ∧ Rs rArr2Int H v6 x.C.Same ∧ Rs rArr2Int H v7 x.C.Different ∧ Rs rArr2Int H v8 x.Ranges ∧ Rs rRVal H v9 x.R ∧ True,
  fun H H' vs x hle h => by obtain ⟨v0, v1, v2, v3, v4, v5, v6, v7, v8, v9, h0, k0, k1, k2, k3, k4, k5, k6, k7, k8, k9, -⟩ := h; exact ⟨v0, v1, v2, v3, v4, v5, v6, v7, v8, v9, h0, k0.mono hle, k1.mono hle, k2.mono hle, k3.mono hle, k4.mono hle, k5.mono hle, k6.mono hle, k7.mono hle, k8.mono hle, k9.mono hle, trivial⟩,
  fun H vs x h => by obtain ⟨v0, v1, v2, v3, v4, v5, v6, v7, v8, v9, h0, k0, k1, k2, k3, k4, k5, k6, k7, k8, k9, -⟩ := h; rw [h0]; rfl,
  fun H vs x h => by obtain ⟨v0, v1, v2, v3, v4, v5, v6, v7, v8, v9, h0, k0, k1, k2, k3, k4, k5, k6, k7, k8, k9, -⟩ := h; rw [h0]; exact (ones_cons k0.one (ones_cons k1.one (ones_cons k2.one (ones_cons k3.one (ones_cons k4.one (ones_cons k5.one (ones_cons k6.one (ones_cons k7.one (ones_cons k8.one (ones_cons k9.one ones_nil))))))))))⟩
theorem rRCase_open {H : Hp} {vs : List Value} {x : RCase} (h : rRCase.R H vs x) : ∃ v0 v1 v2 v3 v4 v5 v6 v7 v8 v9, vs = [v0, v1, v2, v3, v4, v5, v6, v7, v8, v9] ∧ Rs rRVar H v0 x.L ∧ Rs (rInt .i64) H v1 x.C.Null ∧ Rs (rInt .i64) H v2 x.C.NotNull ∧ Rs rRAux H v3 x.C.Auxiliary ∧ Rs rConstraint H v4 x.C.Ints ∧ Rs rTTest H v5 x.C.Tests ∧ Rs rArr2Int H v6 x.C.Same ∧ Rs rArr2Int H v7 x.C.Different ∧ Rs rArr2Int H v8 x.Ranges ∧ Rs rRVal H v9 x.R ∧ True := h
theorem rRCase_close {H : Hp} {vs : List Value} {x : RCase} (h : ∃ v0 v1 v2 v3 v4 v5 v6 v7 v8 v9, vs = [v0, v1, v2, v3, v4, v5, v6, v7, v8, v9] ∧ Rs rRVar H v0 x.L ∧ Rs (rInt .i64) H v1 x.C.Null ∧ Rs (rInt .i64) H v2 x.C.NotNull ∧ Rs rRAux H v3 x.C.Auxiliary ∧ Rs rConstraint H v4 x.C.Ints ∧ Rs rTTest H v5 x.C.Tests ∧ Rs rArr2Int H v6 x.C.Same ∧ Rs rArr2Int H v7 x.C.Different ∧ Rs rArr2Int H v8 x.Ranges ∧ Rs rRVal H v9 x.R ∧ True) : rRCase.R H vs x := h
structure RClaim where
  L : (List RVar)
  C : RClause
  F : Refut
  R : (List RVal)
def rRClaim : Rep RClaim := ⟨18, fun H vs x => ∃ v0 v1 v2 v3 v4 v5 v6 v7 v8 v9 v10 v11 v12 v13, vs = [v0, v1, v2, v3, v4, v5, v6, v7, Value.int .i64 x.F.Kind, Value.int .i64 x.F.Var, Value.int .i64 x.F.At, v8, v9, Value.bool x.F.Proof.Bound.Negative, v10, v11, v12, v13] ∧ Rs rRVar H v0 x.L ∧ Rs (rInt .i64) H v1 x.C.Null ∧ Rs (rInt .i64) H v2 x.C.NotNull ∧ Rs rRAux H v3 x.C.Auxiliary ∧ Rs rConstraint H v4 x.C.Ints ∧ Rs rTTest H v5 x.C.Tests ∧ Rs rArr2Int H v6 x.C.Same ∧ Rs rArr2Int H v7 x.C.Different ∧ Rs rStep H v8 x.F.Proof.Steps ∧ Rs rBig H v9 x.F.Proof.Form ∧ Rs (rInt .u32) H v10 x.F.Proof.Bound.Digits ∧ Rs rProof H v11 x.F.Proof.Children ∧ Rs rRefut H v12 x.F.Children ∧ Rs rRVal H v13 x.R ∧ True,
  fun H H' vs x hle h => by obtain ⟨v0, v1, v2, v3, v4, v5, v6, v7, v8, v9, v10, v11, v12, v13, h0, k0, k1, k2, k3, k4, k5, k6, k7, k8, k9, k10, k11, k12, k13, -⟩ := h; exact ⟨v0, v1, v2, v3, v4, v5, v6, v7, v8, v9, v10, v11, v12, v13, h0, k0.mono hle, k1.mono hle, k2.mono hle, k3.mono hle, k4.mono hle, k5.mono hle, k6.mono hle, k7.mono hle, k8.mono hle, k9.mono hle, k10.mono hle, k11.mono hle, k12.mono hle, k13.mono hle, trivial⟩,
  fun H vs x h => by obtain ⟨v0, v1, v2, v3, v4, v5, v6, v7, v8, v9, v10, v11, v12, v13, h0, k0, k1, k2, k3, k4, k5, k6, k7, k8, k9, k10, k11, k12, k13, -⟩ := h; rw [h0]; rfl,
  fun H vs x h => by obtain ⟨v0, v1, v2, v3, v4, v5, v6, v7, v8, v9, v10, v11, v12, v13, h0, k0, k1, k2, k3, k4, k5, k6, k7, k8, k9, k10, k11, k12, k13, -⟩ := h; rw [h0]; exact (ones_cons k0.one (ones_cons k1.one (ones_cons k2.one (ones_cons k3.one (ones_cons k4.one (ones_cons k5.one (ones_cons k6.one (ones_cons k7.one (ones_cons rfl (ones_cons rfl (ones_cons rfl (ones_cons k8.one (ones_cons k9.one (ones_cons rfl (ones_cons k10.one (ones_cons k11.one (ones_cons k12.one (ones_cons k13.one ones_nil))))))))))))))))))⟩
theorem rRClaim_open {H : Hp} {vs : List Value} {x : RClaim} (h : rRClaim.R H vs x) : ∃ v0 v1 v2 v3 v4 v5 v6 v7 v8 v9 v10 v11 v12 v13, vs = [v0, v1, v2, v3, v4, v5, v6, v7, Value.int .i64 x.F.Kind, Value.int .i64 x.F.Var, Value.int .i64 x.F.At, v8, v9, Value.bool x.F.Proof.Bound.Negative, v10, v11, v12, v13] ∧ Rs rRVar H v0 x.L ∧ Rs (rInt .i64) H v1 x.C.Null ∧ Rs (rInt .i64) H v2 x.C.NotNull ∧ Rs rRAux H v3 x.C.Auxiliary ∧ Rs rConstraint H v4 x.C.Ints ∧ Rs rTTest H v5 x.C.Tests ∧ Rs rArr2Int H v6 x.C.Same ∧ Rs rArr2Int H v7 x.C.Different ∧ Rs rStep H v8 x.F.Proof.Steps ∧ Rs rBig H v9 x.F.Proof.Form ∧ Rs (rInt .u32) H v10 x.F.Proof.Bound.Digits ∧ Rs rProof H v11 x.F.Proof.Children ∧ Rs rRefut H v12 x.F.Children ∧ Rs rRVal H v13 x.R ∧ True := h
theorem rRClaim_close {H : Hp} {vs : List Value} {x : RClaim} (h : ∃ v0 v1 v2 v3 v4 v5 v6 v7 v8 v9 v10 v11 v12 v13, vs = [v0, v1, v2, v3, v4, v5, v6, v7, Value.int .i64 x.F.Kind, Value.int .i64 x.F.Var, Value.int .i64 x.F.At, v8, v9, Value.bool x.F.Proof.Bound.Negative, v10, v11, v12, v13] ∧ Rs rRVar H v0 x.L ∧ Rs (rInt .i64) H v1 x.C.Null ∧ Rs (rInt .i64) H v2 x.C.NotNull ∧ Rs rRAux H v3 x.C.Auxiliary ∧ Rs rConstraint H v4 x.C.Ints ∧ Rs rTTest H v5 x.C.Tests ∧ Rs rArr2Int H v6 x.C.Same ∧ Rs rArr2Int H v7 x.C.Different ∧ Rs rStep H v8 x.F.Proof.Steps ∧ Rs rBig H v9 x.F.Proof.Form ∧ Rs (rInt .u32) H v10 x.F.Proof.Bound.Digits ∧ Rs rProof H v11 x.F.Proof.Children ∧ Rs rRefut H v12 x.F.Children ∧ Rs rRVal H v13 x.R ∧ True) : rRClaim.R H vs x := h
def dkTClass : DRep TClass where
  r := rTClass
  nf := 2
  R vs bs c x := ∃ v0 b0 k0 v1 b1 k1, vs = [Value.int .i64 x.low, Value.int .i64 x.high, v0, Value.slice none 0 0, v1] ∧ bs = [b0, b1] ∧ c = [k0, k1] ∧ DS rTTest v0 b0 k0 x.tests ∧ DS (rInt .i64) v1 b1 k1 x.apart ∧ x.words = []
  len := by
    rintro _ _ _ x ⟨v0, b0, k0, v1, b1, k1, rfl, rfl, rfl, d0, d1, w0⟩; exact ⟨rfl, rfl, rfl⟩
  toR := by
    rintro _ _ _ x H ⟨v0, b0, k0, v1, b1, k1, rfl, rfl, rfl, d0, d1, w0⟩ ho
    exact rTClass_close ⟨v0, Value.slice none 0 0, v1, rfl, d0.rs rfl (fun _ _ _ _ h => h) (ho 0 _ _ rfl rfl), w0 ▸ Rs.nil, d1.rs rfl (fun _ _ _ _ h => h) (ho 1 _ _ rfl rfl), trivial⟩
end Go.D
set_option linter.unusedSimpArgs false
set_option linter.unusedVariables false
namespace Go.D
def fmtI (N : Nat) (n : Int) : Option (List UInt8) := if 0 ≤ n ∧ n < 100 then some (Go.Lib.decDigits n.toNat) else none
end Go.D
set_option linter.unusedVariables false
set_option linter.unusedSimpArgs false
namespace Go.D
open Go Go.X
def cloneU32 (N : Nat) (s : (List Int)) : Option (List Int) :=
  (apnd 4 ([] : (List Int)) s).bind fun x16 =>
  some x16
def digit (N : Nat) (d : (List Int)) (i : Int) : Option Int :=
  (if (i : Int) < (List.length d : Int) then
    (idx d i).bind fun x2 =>
    some (uw x2)
  else
    some 0)
def bsign (N : Nat) (n : Int) : Option Int :=
  some (imin (imax n (-1)) 1)
def btrim_b1 (N : Nat) (d : (List Int)) : Int → Option (Stp Int Int)
  | n82 =>
    (((if (n82 : Int) > 0 then
      (idx d (iw (n82 - 1))).bind fun x110 =>
      some (decide ((x110 : Int) = 0))
    else
      some false) : Option Bool)).bind fun ss =>
      match ss with
      | x106 =>
        (if x106 = true then
          some (Stp.next (iw (n82 - 1)))
        else
          some (Stp.done n82))
def btrim (N : Nat) (d : (List Int)) : Option (List Int) :=
  (loopM (btrim_b1 N d) N (List.length d : Int)).bind fun ss =>
    match ss with
    | n83 =>
      (cut d 0 n83).bind fun x131 =>
      (cloneU32 N x131).bind fun r146 =>
      some r146
def bnormal (N : Nat) (negative : Bool) (d : (List Int)) : Option Big :=
  (btrim N d).bind fun r6 =>
  (if ((List.length r6 : Int) : Int) = 0 then
    some (Big.mk false [])
  else
    some (Big.mk negative r6))
def bcompare_b1 (N : Nat) (a : (List Int)) (b : (List Int)) : Int → Option (Stp Int (Sum Unit Int))
  | i130 =>
    (if (i130 : Int) ≥ 0 then
      (idx a i130).bind fun x139 =>
      (idx b i130).bind fun x153 =>
      (if (x139 : Int) < x153 then
        some (Stp.done (Sum.inr (-1)))
      else
        (idx a i130).bind fun x168 =>
        (idx b i130).bind fun x181 =>
        (if (x168 : Int) > x181 then
          some (Stp.done (Sum.inr 1))
        else
          some (Stp.next (iw (i130 - 1)))))
    else
      some (Stp.done (Sum.inl ())))
def bcompare (N : Nat) (a : (List Int)) (b : (List Int)) : Option Int :=
  (if ((List.length a : Int) : Int) ≠ (List.length b : Int) then
    (bsign N (iw ((List.length a : Int) - (List.length b : Int)))).bind fun r2 =>
    some r2
  else
    (loopM (bcompare_b1 N a b) N (iw ((List.length a : Int) - 1))).bind fun ss =>
      match ss with
      | (Sum.inl _) =>
        some 0
      | (Sum.inr z198) => some z198)
def bplus_b1 (N : Nat) (a : (List Int)) (b : (List Int)) (x2 : (List Int)) : ((List Int) × Int × Int) → Option (Stp ((List Int) × Int × Int) (List Int))
  | (out113, carry117, x118) =>
    (if (x118 : Int) < (List.length x2 : Int) then
      (digit N a x118).bind fun r133 =>
      (digit N b x118).bind fun r141 =>
      (idx out113 x118).bind fun x149 =>
      (upd1 out113 x118 (uw32 (uw (carry117 + (uw (r133 + r141)))))).bind fun x155 =>
      some (Stp.next (x155, (bshr .u64 (uw (carry117 + (uw (r133 + r141)))) 32), (iw (x118 + 1))))
    else
      some (Stp.done out113))
def bplus (N : Nat) (a : (List Int)) (b : (List Int)) : Option (List Int) :=
  (mk1 (α := Int) 4 0 (iw ((imax (List.length a : Int) (List.length b : Int)) + 1))).bind fun x2 =>
  (loopM (bplus_b1 N a b x2) N (x2, 0, 0)).bind fun ss =>
    match ss with
    | out121 =>
      some out121
def bminus_b1 (N : Nat) (a : (List Int)) (b : (List Int)) : ((List Int) × Int × Int) → Option (Stp ((List Int) × Int × Int) (List Int))
  | (out125, borrow129, x130) =>
    (if (x130 : Int) < (List.length a : Int) then
      (idx a x130).bind fun x146 =>
      (digit N b x130).bind fun r160 =>
      (idx out125 x130).bind fun x168 =>
      (upd1 out125 x130 (uw32 (uw ((uw ((uw x146) - r160)) - borrow129)))).bind fun x174 =>
      some (Stp.next (x174, (bshr .u64 (uw ((uw ((uw x146) - r160)) - borrow129)) 63), (iw (x130 + 1))))
    else
      some (Stp.done out125))
def bminus (N : Nat) (a : (List Int)) (b : (List Int)) : Option (List Int) :=
  (mk1 (α := Int) 4 0 (List.length a : Int)).bind fun x2 =>
  (loopM (bminus_b1 N a b) N (x2, 0, 0)).bind fun ss =>
    match ss with
    | out133 =>
      some out133
def btimes_b2 (N : Nat) (b : (List Int)) (x475 : Int) (x491 : Int) : ((List Int) × Int × Int) → Option (Stp ((List Int) × Int × Int) ((List Int) × Int))
  | (out616, carry620, x621) =>
    (if (x621 : Int) < (List.length b : Int) then
      (idx b x621).bind fun x637 =>
      (idx out616 (iw (x475 + x621))).bind fun x651 =>
      (idx out616 (iw (x475 + x621))).bind fun x661 =>
      (upd1 out616 (iw (x475 + x621)) (uw32 (uw (carry620 + (uw ((uw ((uw x491) * (uw x637))) + (uw x651))))))).bind fun x667 =>
      some (Stp.next (x667, (bshr .u64 (uw (carry620 + (uw ((uw ((uw x491) * (uw x637))) + (uw x651))))) 32), (iw (x621 + 1))))
    else
      some (Stp.done (out616, carry620)))
def btimes_b1 (N : Nat) (a : (List Int)) (b : (List Int)) : ((List Int) × Int) → Option (Stp ((List Int) × Int) (List Int))
  | (out471, x475) =>
    (if (x475 : Int) < (List.length a : Int) then
      (idx a x475).bind fun x491 =>
      (loopM (btimes_b2 N b x475 x491) N (out471, 0, 0)).bind fun ss =>
        match ss with
        | (out624, carry628) =>
          (idx out624 (iw (x475 + (List.length b : Int)))).bind fun x687 =>
          (upd1 out624 (iw (x475 + (List.length b : Int))) (uw32 carry628)).bind fun x693 =>
          some (Stp.next (x693, (iw (x475 + 1))))
    else
      some (Stp.done out471))
def btimes (N : Nat) (a : (List Int)) (b : (List Int)) : Option (List Int) :=
  (mk1 (α := Int) 4 0 (iw ((List.length a : Int) + (List.length b : Int)))).bind fun x2 =>
  (loopM (btimes_b1 N a b) N (x2, 0)).bind fun ss =>
    match ss with
    | out478 =>
      some out478
def bshort_b1 (N : Nat) (a : (List Int)) (pb : Int) : ((List Int) × Int × Int) → Option (Stp ((List Int) × Int × Int) ((List Int) × Int))
  | (out124, rest128, i129) =>
    (if (i129 : Int) ≥ 0 then
      (idx a i129).bind fun x146 =>
      (sdiv .u64 (bor .u64 (bshl .u64 rest128 32) (uw x146)) (uw pb)).bind fun x160 =>
      (idx out124 i129).bind fun x164 =>
      (upd1 out124 i129 (uw32 x160)).bind fun x170 =>
      (srem (bor .u64 (bshl .u64 rest128 32) (uw x146)) (uw pb)).bind fun x185 =>
      some (Stp.next (x170, (Int.tmod (bor .u64 (bshl .u64 rest128 32) (uw x146)) (uw pb)), (iw (i129 - 1))))
    else
      some (Stp.done (out124, rest128)))
def bshort (N : Nat) (a : (List Int)) (pb : Int) : Option ((List Int) × Int) :=
  (mk1 (α := Int) 4 0 (List.length a : Int)).bind fun x2 =>
  (loopM (bshort_b1 N a pb) N (x2, 0, (iw ((List.length a : Int) - 1)))).bind fun ss =>
    match ss with
    | (out132, rest136) =>
      some (out132, (uw32 rest136))
end Go.D
set_option linter.unusedVariables false
set_option linter.unusedSimpArgs false
namespace Go.D
open Go Go.X
def rtrim_b1 (N : Nat)  : (List Int) → Option (Stp (List Int) (List Int))
  | l112 =>
    (((if ((List.length l112 : Int) : Int) > 0 then
      (idx l112 (iw ((List.length l112 : Int) - 1))).bind fun x143 =>
      some (decide ((x143 : Int) = 0))
    else
      some false) : Option Bool)).bind fun ss =>
      match ss with
      | x139 =>
        (if x139 = true then
          (cut l112 0 (iw ((List.length l112 : Int) - 1))).bind fun x161 =>
          some (Stp.next x161)
        else
          some (Stp.done l112))
def rtrim (N : Nat) (l : (List Int)) : Option (List Int) :=
  (loopM (rtrim_b1 N ) N l).bind fun ss =>
    match ss with
    | l115 =>
      some l115
def rbig_b1 (N : Nat) (r6 : (List Int)) : ((List Int) × Int) → Option (Stp ((List Int) × Int) (List Int))
  | (digits263, i267) =>
    (if (i267 : Int) < (List.length r6 : Int) then
      (idx r6 i267).bind fun x296 =>
      (((if ((iw (i267 + 1)) : Int) < (List.length r6 : Int) then
        (idx r6 (iw (i267 + 1))).bind fun x330 =>
        some (uw32 ((uw32 x296) + (uw32 (65536 * (uw32 x330)))))
      else
        some (uw32 x296)) : Option Int)).bind fun ss =>
        match ss with
        | d326 =>
          (apnd 4 digits263 [d326]).bind fun x354 =>
          some (Stp.next (x354, (iw (i267 + 2))))
    else
      some (Stp.done digits263))
def rbig (N : Nat) (negative : Bool) (l : (List Int)) : Option Big :=
  (rtrim N l).bind fun r6 =>
  (((if negative = true then
    some (decide (((List.length r6 : Int) : Int) > 0))
  else
    some false) : Option Bool)).bind fun ss =>
    match ss with
    | negative38 =>
      (loopM (rbig_b1 N r6) N (([] : (List Int)), 0)).bind fun ss =>
        match ss with
        | digits275 =>
          some (Big.mk negative38 digits275)
def rOf_b1 (N : Nat)  : (Int × (List Int)) → Option (Stp (Int × (List Int)) (List Int))
  | (u98, l104) =>
    (if (u98 : Int) > 0 then
      (apnd 8 l104 [(iw (Int.tmod u98 65536))]).bind fun x138 =>
      some (Stp.next ((uw (Int.tdiv u98 65536)), x138))
    else
      some (Stp.done l104))
def rOf (N : Nat) (n : Int) : Option Big :=
  (((if (n : Int) < 0 then
    some (uw ((uw (iw (0 - (iw (n + 1))))) + 1))
  else
    some (uw n)) : Option Int)).bind fun ss =>
    match ss with
    | u8 =>
      (loopM (rOf_b1 N ) N (u8, ([] : (List Int)))).bind fun ss =>
        match ss with
        | l114 =>
          (rbig N (decide ((n : Int) < 0)) l114).bind fun r163 =>
          some r163
end Go.D
set_option linter.unusedVariables false
set_option linter.unusedSimpArgs false
namespace Go.D
open Go Go.X
def bdivide (N : Nat) (a : (List Int)) (b : (List Int)) : Option ((List Int) × (List Int)) :=
  (bcompare N a b).bind fun r1 =>
  (if (r1 : Int) < 0 then
    (btrim N a).bind fun r9 =>
    some (([] : (List Int)), r9)
  else
    (if ((List.length b : Int) : Int) = 1 then
      (idx b 0).bind fun x33 =>
      (bshort N a x33).bind fun r46 =>
      (btrim N r46.1).bind fun r62 =>
      (btrim N [r46.2]).bind fun r85 =>
      some (r62, r85)
    else
      (idx b (iw ((List.length b : Int) - 1))).bind fun x102 =>
      none))
def bOf (N : Nat) (n : Int) : Option Big :=
  (((if (n : Int) < 0 then
    some (uw (0 - (uw n)))
  else
    some (uw n)) : Option Int)).bind fun ss =>
    match ss with
    | u8 =>
      (bnormal N (decide ((n : Int) < 0)) [(uw32 u8), (uw32 (bshr .u64 u8 32))]).bind fun r23 =>
      some r23
def bNormal (N : Nat) (x : Big) : Option Big :=
  (bnormal N x.Negative x.Digits).bind fun r11 =>
  some r11
def bSign (N : Nat) (x : Big) : Option Int :=
  (bNormal N x).bind fun r6 =>
  (if ((List.length r6.Digits : Int) : Int) = 0 then
    some 0
  else
    (if r6.Negative = true then
      some (-1)
    else
      some 1))
def bNeg (N : Nat) (x : Big) : Option Big :=
  (bnormal N (!x.Negative) x.Digits).bind fun r11 =>
  some r11
def bAdd (N : Nat) (a : Big) (b : Big) : Option Big :=
  (bNormal N a).bind fun r16 =>
  (bNormal N b).bind fun r26 =>
  (if (r16.Negative == r26.Negative) = true then
    (bplus N r16.Digits r26.Digits).bind fun r47 =>
    (bnormal N r16.Negative r47).bind fun r64 =>
    some r64
  else
    (bcompare N r16.Digits r26.Digits).bind fun r78 =>
    (if (r78 : Int) < 0 then
      (bminus N r26.Digits r16.Digits).bind fun r88 =>
      (bnormal N r26.Negative r88).bind fun r105 =>
      some r105
    else
      (bminus N r16.Digits r26.Digits).bind fun r119 =>
      (bnormal N r16.Negative r119).bind fun r136 =>
      some r136))
def bSub (N : Nat) (a : Big) (b : Big) : Option Big :=
  (bNeg N b).bind fun r16 =>
  (bAdd N a r16).bind fun r26 =>
  some r26
def bMul (N : Nat) (a : Big) (b : Big) : Option Big :=
  (btimes N a.Digits b.Digits).bind fun r16 =>
  (bnormal N (!(a.Negative == b.Negative)) r16).bind fun r33 =>
  some r33
def bDivFloor (N : Nat) (a : Big) (b : Big) : Option (Big × Big × Bool) :=
  (bNormal N a).bind fun r21 =>
  (bNormal N b).bind fun r31 =>
  (if ((List.length r31.Digits : Int) : Int) = 0 then
    some ((Big.mk false []), (Big.mk false []), false)
  else
    (bdivide N r21.Digits r31.Digits).bind fun r61 =>
    (if (!(r21.Negative == r31.Negative)) = true then
      (((if ((List.length r61.2 : Int) : Int) > 0 then
        (bplus N r61.1 [1]).bind fun r160 =>
        (bminus N r31.Digits r61.2).bind fun r177 =>
        some (r160, r177)
      else
        some (r61.1, r61.2)) : Option ((List Int) × (List Int)))).bind fun ss =>
        match ss with
        | (q136, x145) =>
          (bnormal N true q136).bind fun r207 =>
          (bnormal N r31.Negative x145).bind fun r216 =>
          some (r207, r216, true)
    else
      (bnormal N false r61.1).bind fun r238 =>
      (bnormal N r31.Negative r61.2).bind fun r247 =>
      some (r238, r247, true)))
end Go.D
set_option linter.unusedVariables false
set_option linter.unusedSimpArgs false
namespace Go.D
open Go Go.X
def cvalid_b1 (N : Nat) (c : Constraint) (n : Int) : (Int × Int) → Option (Stp (Int × Int) (Sum Unit Bool))
  | (last83, x84) =>
    (if (x84 : Int) < (List.length c.Linear.Coefs : Int) then
      (idx c.Linear.Coefs x84).bind fun x96 =>
      (((if (x96.Var : Int) ≤ last83 then
        some true
      else
        some (decide ((x96.Var : Int) ≥ n))) : Option Bool)).bind fun ss =>
        match ss with
        | x121 =>
          (if x121 = true then
            some (Stp.done (Sum.inr false))
          else
            some (Stp.next (x96.Var, (iw (x84 + 1)))))
    else
      some (Stp.done (Sum.inl ())))
def cvalid (N : Nat) (c : Constraint) (n : Int) : Option Bool :=
  (loopM (cvalid_b1 N c n) N ((-1), 0)).bind fun ss =>
    match ss with
    | (Sum.inl _) =>
      (if (n : Int) ≥ 0 then
        some (decide ((n : Int) ≤ 512))
      else
        some false)
    | (Sum.inr z136) => some z136
def negated_b1 (N : Nat) (l : (List Big)) : ((List Big) × Int) → Option (Stp ((List Big) × Int) (List Big))
  | (coefs197, x201) =>
    (if (x201 : Int) < (List.length l : Int) then
      (idx l x201).bind fun x229 =>
      (bNeg N x229).bind fun r255 =>
      (apnd 32 coefs197 [r255]).bind fun x273 =>
      some (Stp.next (x273, (iw (x201 + 1))))
    else
      some (Stp.done coefs197))
def negated (N : Nat) (l : (List Big)) (bound : Big) : Option Ineq :=
  (bNormal N bound).bind fun r11 =>
  (loopM (negated_b1 N l) N (([] : (List Big)), 0)).bind fun ss =>
    match ss with
    | coefs209 =>
      some (Ineq.mk coefs209 r11)
def cOf_b1 (N : Nat) (c : Constraint) : ((List Big) × Int) → Option (Stp ((List Big) × Int) (List Big))
  | (coefs197, x201) =>
    (if (x201 : Int) < (List.length c.Linear.Coefs : Int) then
      (idx c.Linear.Coefs x201).bind fun x222 =>
      (bOf N x222.N).bind fun r245 =>
      (idx coefs197 x222.Var).bind fun x254 =>
      (upd1 coefs197 x222.Var r245).bind fun x260 =>
      some (Stp.next (x260, (iw (x201 + 1))))
    else
      some (Stp.done coefs197))
def cOf (N : Nat) (c : Constraint) (n : Int) : Option (List Ineq) :=
  (cvalid N c n).bind fun r6 =>
  (if (!r6) = true then
    some ([] : (List Ineq))
  else
    (mk1 (α := Big) 32 (Big.mk false []) n).bind fun x21 =>
    (bOf N c.Linear.Const).bind fun r36 =>
    (bNeg N r36).bind fun r45 =>
    (loopM (cOf_b1 N c) N (x21, 0)).bind fun ss =>
      match ss with
      | coefs206 =>
        (if (!c.Equal) = true then
          some [(Ineq.mk coefs206 r45)]
        else
          (bOf N c.Linear.Const).bind fun r298 =>
          (negated N coefs206 r298).bind fun r307 =>
          some [(Ineq.mk coefs206 r45), r307]))
def cSystem_b1 (N : Nat) (l : (List Constraint)) (n : Int) : ((List Ineq) × Int) → Option (Stp ((List Ineq) × Int) (Sum (List Ineq) (List Ineq)))
  | (out175, x179) =>
    (if (x179 : Int) < (List.length l : Int) then
      (idx l x179).bind fun x201 =>
      (cvalid N x201 n).bind fun r227 =>
      (if (!r227) = true then
        some (Stp.done (Sum.inr ([] : (List Ineq))))
      else
        (cOf N x201 n).bind fun r241 =>
        (apnd 56 out175 r241).bind fun x257 =>
        some (Stp.next (x257, (iw (x179 + 1)))))
    else
      some (Stp.done (Sum.inl out175)))
def cSystem (N : Nat) (l : (List Constraint)) (n : Int) : Option (List Ineq) :=
  (loopM (cSystem_b1 N l n) N (([] : (List Ineq)), 0)).bind fun ss =>
    match ss with
    | (Sum.inl out185) =>
      some out185
    | (Sum.inr z281) => some z281
def cloneIneq (N : Nat) (s : (List Ineq)) : Option (List Ineq) :=
  (apnd 56 ([] : (List Ineq)) s).bind fun x16 =>
  some x16
def indexIneq_b1 (N : Nat) (f : (Ineq → Option Bool)) (s : (List Ineq)) : Int → Option (Stp Int (Sum Unit Int))
  | x62 =>
    (if (x62 : Int) < (List.length s : Int) then
      (idx s x62).bind fun x71 =>
      (f x71).bind fun r89 =>
      (if r89 = true then
        some (Stp.done (Sum.inr x62))
      else
        some (Stp.next (iw (x62 + 1))))
    else
      some (Stp.done (Sum.inl ())))
def indexIneq (N : Nat) (s : (List Ineq)) (f : (Ineq → Option Bool)) : Option Int :=
  (loopM (indexIneq_b1 N f s) N 0).bind fun ss =>
    match ss with
    | (Sum.inl _) =>
      some (-1)
    | (Sum.inr z100) => some z100
def containsIneq (N : Nat) (s : (List Ineq)) (f : (Ineq → Option Bool)) : Option Bool :=
  (indexIneq N s f).bind fun r1 =>
  some (decide ((r1 : Int) ≥ 0))
def width1 (N : Nat) (q : Ineq) (ca : Int) : Option Bool :=
  some (decide (((List.length q.Coefs : Int) : Int) ≠ ca))
def cwidth (N : Nat) (l : (List Ineq)) : Option (Int × Bool) :=
  (if ((List.length l : Int) : Int) = 0 then
    some (0, true)
  else
    (idx l 0).bind fun x2 =>
    (containsIneq N l (fun y29 => width1 N y29 (List.length x2.Coefs : Int))).bind fun r30 =>
    some ((List.length x2.Coefs : Int), (!r30)))
def cApply_b2 (N : Nat) (x1030 : Use) (x1103 : Ineq) : ((List Big) × Int) → Option (Stp ((List Big) × Int) (List Big))
  | (coefs1328, x1334) =>
    (if (x1334 : Int) < (List.length x1103.Coefs : Int) then
      (idx x1103.Coefs x1334).bind fun x1358 =>
      (idx coefs1328 x1334).bind fun x1384 =>
      (bMul N x1030.N x1358).bind fun r1397 =>
      (bAdd N x1384 r1397).bind fun r1408 =>
      (idx coefs1328 x1334).bind fun x1418 =>
      (upd1 coefs1328 x1334 r1408).bind fun x1424 =>
      some (Stp.next (x1424, (iw (x1334 + 1))))
    else
      some (Stp.done coefs1328))
def cApply_b1 (N : Nat) (l : (List Ineq)) (s : Step) : ((List Big) × Bool × (List Int) × Int) → Option (Stp ((List Big) × Bool × (List Int) × Int) (Sum ((List Big) × Bool × (List Int)) (Ineq × Bool)))
  | (coefs996, negative1000, digits1001, x1004) =>
    (if (x1004 : Int) < (List.length s.Uses : Int) then
      (idx s.Uses x1004).bind fun x1030 =>
      (((if (x1030.Index : Int) < 0 then
        some true
      else
        (if (x1030.Index : Int) ≥ (List.length l : Int) then
          some true
        else
          (bSign N x1030.N).bind fun r1084 =>
          some (decide ((r1084 : Int) < 0)))) : Option Bool)).bind fun ss =>
        match ss with
        | x1072 =>
          (if x1072 = true then
            some (Stp.done (Sum.inr ((Ineq.mk [] (Big.mk false [])), false)))
          else
            (idx l x1030.Index).bind fun x1103 =>
            (loopM (cApply_b2 N x1030 x1103) N (coefs996, 0)).bind fun ss =>
              match ss with
              | coefs1340 =>
                (bMul N x1030.N x1103.Bound).bind fun r1447 =>
                (bAdd N (Big.mk negative1000 digits1001) r1447).bind fun r1458 =>
                some (Stp.next (coefs1340, r1458.Negative, r1458.Digits, (iw (x1004 + 1)))))
    else
      some (Stp.done (Sum.inl (coefs996, negative1000, digits1001))))
def cApply_b3 (N : Nat) (s : Step) (coefs1010 : (List Big)) : ((List Big) × Int) → Option (Stp ((List Big) × Int) (Sum (List Big) (Ineq × Bool)))
  | (coefs1690, x1694) =>
    (if (x1694 : Int) < (List.length coefs1010 : Int) then
      (idx coefs1690 x1694).bind fun x1712 =>
      (bDivFloor N x1712 s.Divisor).bind fun r1734 =>
      (bSign N r1734.2.1).bind fun r1767 =>
      (if (r1767 : Int) ≠ 0 then
        some (Stp.done (Sum.inr ((Ineq.mk [] (Big.mk false [])), false)))
      else
        (idx coefs1690 x1694).bind fun x1780 =>
        (upd1 coefs1690 x1694 r1734.1).bind fun x1786 =>
        some (Stp.next (x1786, (iw (x1694 + 1)))))
    else
      some (Stp.done (Sum.inl coefs1690)))
def cApply (N : Nat) (l : (List Ineq)) (s : Step) : Option (Ineq × Bool) :=
  (cwidth N l).bind fun r11 =>
  (((if (!r11.2) = true then
    some true
  else
    (bSign N s.Divisor).bind fun r37 =>
    some (decide ((r37 : Int) < 1))) : Option Bool)).bind fun ss =>
    match ss with
    | x30 =>
      (if x30 = true then
        some ((Ineq.mk [] (Big.mk false [])), false)
      else
        (mk1 (α := Big) 32 (Big.mk false []) r11.1).bind fun x57 =>
        (loopM (cApply_b1 N l s) N (x57, false, [], 0)).bind fun ss =>
          match ss with
          | (Sum.inl (coefs1010, negative1014, digits1015)) =>
            (loopM (cApply_b3 N s coefs1010) N (coefs1010, 0)).bind fun ss =>
              match ss with
              | (Sum.inl coefs1700) =>
                (bDivFloor N (Big.mk negative1014 digits1015) s.Divisor).bind fun r1810 =>
                some ((Ineq.mk coefs1700 r1810.1), true)
              | (Sum.inr z1838) => some z1838
          | (Sum.inr z1839) => some z1839)
def cContradictory_b1 (N : Nat) (q : Ineq) : Int → Option (Stp Int (Sum Unit Bool))
  | x89 =>
    (if (x89 : Int) < (List.length q.Coefs : Int) then
      (idx q.Coefs x89).bind fun x99 =>
      (bSign N x99).bind fun r125 =>
      (if (r125 : Int) ≠ 0 then
        some (Stp.done (Sum.inr false))
      else
        some (Stp.next (iw (x89 + 1))))
    else
      some (Stp.done (Sum.inl ())))
def cContradictory (N : Nat) (q : Ineq) : Option Bool :=
  (loopM (cContradictory_b1 N q) N 0).bind fun ss =>
    match ss with
    | (Sum.inl _) =>
      (bSign N q.Bound).bind fun r140 =>
      some (decide ((r140 : Int) < 0))
    | (Sum.inr z148) => some z148
def cCheck_b1 (N : Nat) (p : Proof) : ((List Ineq) × Int) → Option (Stp ((List Ineq) × Int) (Sum (List Ineq) Bool))
  | (e225, x229) =>
    (if (x229 : Int) < (List.length p.Steps : Int) then
      (idx p.Steps x229).bind fun x252 =>
      (cApply N e225 x252).bind fun r281 =>
      (if (!r281.2) = true then
        some (Stp.done (Sum.inr false))
      else
        (apnd 56 e225 [r281.1]).bind fun x317 =>
        some (Stp.next (x317, (iw (x229 + 1)))))
    else
      some (Stp.done (Sum.inl e225)))
def cCheck_step (N : Nat) (self : (List Ineq) → Proof → Option Bool) (l : (List Ineq)) (p : Proof) : Option Bool :=
  (cwidth N l).bind fun r6 =>
  (if (!r6.2) = true then
    some false
  else
    (cloneIneq N l).bind fun r15 =>
    (loopM (cCheck_b1 N p) N (r15, 0)).bind fun ss =>
      match ss with
      | (Sum.inl e236) =>
        (if ((List.length p.Children : Int) : Int) = 0 then
          (containsIneq N e236 (fun y344 => cContradictory N y344)).bind fun r345 =>
          some r345
        else
          (if ((List.length p.Children : Int) : Int) = 2 then
            (cwidth N e236).bind fun r358 =>
            (((if ((List.length e236 : Int) : Int) > 0 then
              some (decide (((List.length p.Form : Int) : Int) ≠ r358.1))
            else
              some false) : Option Bool)).bind fun ss =>
              match ss with
              | x370 =>
                (if x370 = true then
                  some false
                else
                  (bNeg N p.Bound).bind fun r392 =>
                  (bOf N 1).bind fun r402 =>
                  (bSub N r392 r402).bind fun r411 =>
                  (negated N p.Form r411).bind fun r421 =>
                  none)
          else
            some false))
      | (Sum.inr z444) => some z444)
def cCheck : Nat → (List Ineq) → Proof → Option Bool
  | 0 => fun _ _ => none
  | N + 1 => cCheck_step N (cCheck N)
def cSize_b1 (N : Nat) (self : Proof → Option Int) (p : Proof) : (Int × Int) → Option (Stp (Int × Int) Int)
  | (n120, x121) =>
    (if (x121 : Int) < (List.length p.Children : Int) then
      (idx p.Children x121).bind fun x134 =>
      (self x134).bind fun r169 =>
      some (Stp.next ((iw (n120 + r169)), (iw (x121 + 1))))
    else
      some (Stp.done n120))
def cSize_step (N : Nat) (self : Proof → Option Int) (p : Proof) : Option Int :=
  (((if ((List.length p.Children : Int) : Int) > 0 then
    some (iw ((List.length p.Steps : Int) + 1))
  else
    some (List.length p.Steps : Int)) : Option Int)).bind fun ss =>
    match ss with
    | n10 =>
      (loopM (cSize_b1 N self p) N (n10, 0)).bind fun ss =>
        match ss with
        | n122 =>
          some n122
def cSize : Nat → Proof → Option Int
  | 0 => fun _ => none
  | N + 1 => cSize_step N (cSize N)
end Go.D
set_option linter.unusedVariables false
set_option linter.unusedSimpArgs false
namespace Go.D
open Go Go.X
def rbigs_b1 (N : Nat) (l : (List Big)) : Int → Option (Stp Int (Sum Unit Bool))
  | i46 =>
    (if (i46 : Int) < (List.length l : Int) then
      (idx l i46).bind fun x56 =>
      (if ((List.length x56.Digits : Int) : Int) > 4 then
        some (Stp.done (Sum.inr false))
      else
        some (Stp.next (iw (i46 + 1))))
    else
      some (Stp.done (Sum.inl ())))
def rbigs (N : Nat) (l : (List Big)) : Option Bool :=
  (loopM (rbigs_b1 N l) N 0).bind fun ss =>
    match ss with
    | (Sum.inl _) =>
      some (decide (((List.length l : Int) : Int) ≤ 6))
    | (Sum.inr z77) => some z77
def rSmallStep_b1 (N : Nat) (s : Step) : Int → Option (Stp Int (Sum Unit Bool))
  | i56 =>
    (if (i56 : Int) < (List.length s.Uses : Int) then
      (idx s.Uses i56).bind fun x67 =>
      (if ((List.length x67.N.Digits : Int) : Int) > 4 then
        some (Stp.done (Sum.inr false))
      else
        some (Stp.next (iw (i56 + 1))))
    else
      some (Stp.done (Sum.inl ())))
def rSmallStep (N : Nat) (s : Step) : Option Bool :=
  (loopM (rSmallStep_b1 N s) N 0).bind fun ss =>
    match ss with
    | (Sum.inl _) =>
      (if ((List.length s.Uses : Int) : Int) ≤ 12 then
        some (decide (((List.length s.Divisor.Digits : Int) : Int) ≤ 4))
      else
        some false)
    | (Sum.inr z91) => some z91
def rweight_b1 (N : Nat) (p : Proof) : Int → Option (Stp Int (Sum Unit Int))
  | i121 =>
    (((if (i121 : Int) < (List.length p.Steps : Int) then
      some (decide (((iw (1 + (List.length p.Steps : Int))) : Int) ≤ 100))
    else
      some false) : Option Bool)).bind fun ss =>
      match ss with
      | x133 =>
        (if x133 = true then
          (idx p.Steps i121).bind fun x142 =>
          (rSmallStep N x142).bind fun r160 =>
          (if (!r160) = true then
            some (Stp.done (Sum.inr 101))
          else
            some (Stp.next (iw (i121 + 1))))
        else
          some (Stp.done (Sum.inl ())))
def rweight_b2 (N : Nat) (self : Proof → Option Int) (p : Proof) : (Int × Int) → Option (Stp (Int × Int) Int)
  | (n264, i265) =>
    (((if (i265 : Int) < (List.length p.Children : Int) then
      some (decide ((n264 : Int) ≤ 100))
    else
      some false) : Option Bool)).bind fun ss =>
      match ss with
      | x277 =>
        (if x277 = true then
          (idx p.Children i265).bind fun x286 =>
          (self x286).bind fun r308 =>
          some (Stp.next ((iw (n264 + r308)), (iw (i265 + 1))))
        else
          some (Stp.done n264))
def rweight_step (N : Nat) (self : Proof → Option Int) (p : Proof) : Option Int :=
  (((rbigs N p.Form).bind fun r21 =>
  (if (!r21) = true then
    some true
  else
    some (decide (((List.length p.Bound.Digits : Int) : Int) > 4))) : Option Bool)).bind fun ss =>
    match ss with
    | x18 =>
      (if x18 = true then
        some 101
      else
        (loopM (rweight_b1 N p) N 0).bind fun ss =>
          match ss with
          | (Sum.inl _) =>
            (loopM (rweight_b2 N self p) N ((iw (1 + (List.length p.Steps : Int))), 0)).bind fun ss =>
              match ss with
              | n266 =>
                some n266
          | (Sum.inr z321) => some z321)
def rweight : Nat → Proof → Option Int
  | 0 => fun _ => none
  | N + 1 => rweight_step N (rweight N)
def rSmallProof (N : Nat) (p : Proof) : Option Bool :=
  (rweight N p).bind fun r6 =>
  some (decide ((r6 : Int) ≤ 40))
end Go.D
set_option linter.unusedVariables false
set_option linter.unusedSimpArgs false
namespace Go.D
open Go Go.X
def indexOf_b1 (N : Nat) (pb : Int) (s : (List Int)) : Int → Option (Stp Int (Sum Unit Int))
  | x40 =>
    (if (x40 : Int) < (List.length s : Int) then
      (idx s x40).bind fun x49 =>
      (if (pb : Int) = x49 then
        some (Stp.done (Sum.inr x40))
      else
        some (Stp.next (iw (x40 + 1))))
    else
      some (Stp.done (Sum.inl ())))
def indexOf (N : Nat) (s : (List Int)) (pb : Int) : Option Int :=
  (loopM (indexOf_b1 N pb s) N 0).bind fun ss =>
    match ss with
    | (Sum.inl _) =>
      some (-1)
    | (Sum.inr z67) => some z67
def containsOf (N : Nat) (s : (List Int)) (pb : Int) : Option Bool :=
  (indexOf N s pb).bind fun r1 =>
  some (decide ((r1 : Int) ≥ 0))
end Go.D
set_option linter.unusedVariables false
set_option linter.unusedSimpArgs false
namespace Go.D
open Go Go.X
def pClosure_b1 (N : Nat) (pattern : (List UInt8)) : (Int × Int) → Option (Stp (Int × Int) Int)
  | (vset61, x62) =>
    (if (x62 : Int) < (List.length pattern : Int) then
      (((idx pattern x62).bind fun x84 =>
      (if ((UInt8.toNat x84 : Int) : Int) = 37 then
        (chk (¬ (x62 : Int) < 0)).bind fun _ =>
        some (decide (((band .u32 (bshr .u32 vset61 x62) 1) : Int) = 1))
      else
        some false) : Option Bool)).bind fun ss =>
        match ss with
        | x81 =>
          (if x81 = true then
            (chk (¬ ((iw (x62 + 1)) : Int) < 0)).bind fun _ =>
            some (Stp.next ((bor .u32 vset61 (bshl .u32 1 (iw (x62 + 1)))), (iw (x62 + 1))))
          else
            some (Stp.next (vset61, (iw (x62 + 1)))))
    else
      some (Stp.done vset61))
def pClosure (N : Nat) (pattern : (List UInt8)) (vset : Int) : Option Int :=
  (loopM (pClosure_b1 N pattern) N (vset, 0)).bind fun ss =>
    match ss with
    | vset63 =>
      some vset63
def pBegin (N : Nat) (t : TTest) : Option Int :=
  (if (t.Kind : Int) = 1 then
    (pClosure N t.Text 1).bind fun r7 =>
    some r7
  else
    some 0)
def pNext_b1 (N : Nat) (c : Int) (s : Int) (t : TTest) : (Int × Int) → Option (Stp (Int × Int) Int)
  | (out66, x67) =>
    (if (x67 : Int) < (List.length t.Text : Int) then
      (chk (¬ (x67 : Int) < 0)).bind fun _ =>
      (if ((band .u32 (bshr .u32 s x67) 1) : Int) = 0 then
        some (Stp.next (out66, (iw (x67 + 1))))
      else
        (idx t.Text x67).bind fun x82 =>
        (if ((UInt8.toNat x82 : Int) : Int) = 37 then
          (chk (¬ (x67 : Int) < 0)).bind fun _ =>
          some (Stp.next ((bor .u32 out66 (bshl .u32 1 x67)), (iw (x67 + 1))))
        else
          (((if ((UInt8.toNat x82 : Int) : Int) = 95 then
            some true
          else
            some (decide (((UInt8.toNat x82 : Int) : Int) = c))) : Option Bool)).bind fun ss =>
            match ss with
            | x93 =>
              (if x93 = true then
                (chk (¬ ((iw (x67 + 1)) : Int) < 0)).bind fun _ =>
                some (Stp.next ((bor .u32 out66 (bshl .u32 1 (iw (x67 + 1)))), (iw (x67 + 1))))
              else
                some (Stp.next (out66, (iw (x67 + 1)))))))
    else
      some (Stp.done out66))
def pNext (N : Nat) (t : TTest) (s : Int) (c : Int) : Option Int :=
  (if (t.Kind : Int) = 1 then
    (loopM (pNext_b1 N c s t) N (0, 0)).bind fun ss =>
      match ss with
      | out69 =>
        (pClosure N t.Text out69).bind fun r107 =>
        some r107
  else
    (if (s : Int) ≥ 100 then
      some s
    else
      (((if ((iw s) : Int) = (List.length t.Text : Int) then
        some true
      else
        (idx t.Text s).bind fun x126 =>
        some (decide ((c : Int) > (UInt8.toNat x126 : Int)))) : Option Bool)).bind fun ss =>
        match ss with
        | x122 =>
          (if x122 = true then
            some 101
          else
            (idx t.Text s).bind fun x135 =>
            (if (c : Int) < (UInt8.toNat x135 : Int) then
              some 100
            else
              some (uw32 (s + 1))))))
def pPassed (N : Nat) (t : TTest) (s : Int) : Option Bool :=
  (((if (t.Kind : Int) = 1 then
    (chk (¬ ((List.length t.Text : Int) : Int) < 0)).bind fun _ =>
    some (decide (((band .u32 (bshr .u32 s (List.length t.Text : Int)) 1) : Int) = 1))
  else
    (if (t.Kind : Int) = 0 then
      some (decide (((iw s) : Int) = (List.length t.Text : Int)))
    else
      (if (t.Kind : Int) = 2 then
        (if (s : Int) = 100 then
          some true
        else
          some (decide (((iw s) : Int) < (List.length t.Text : Int))))
      else
        (if (s : Int) = 100 then
          some true
        else
          some (decide (((iw s) : Int) ≤ (List.length t.Text : Int))))))) : Option Bool)).bind fun ss =>
    match ss with
    | ok15 =>
      some (!(ok15 == t.Negated))
def pKey_b1 (N : Nat) (l : (List Int)) : ((List Int) × Int) → Option (Stp ((List Int) × Int) (List Int))
  | (b114, x118) =>
    (if (x118 : Int) < (List.length l : Int) then
      (idx l x118).bind fun x137 =>
      (apnd 1 b114 [(uw8 x137), (uw8 (bshr .u32 x137 8)), (uw8 (bshr .u32 x137 16))]).bind fun x159 =>
      some (Stp.next (x159, (iw (x118 + 1))))
    else
      some (Stp.done b114))
def pKey (N : Nat) (l : (List Int)) (left : Int) : Option (List UInt8) :=
  (loopM (pKey_b1 N l) N ([(uw8 left)], 0)).bind fun ss =>
    match ss with
    | b124 =>
      some (bstr b124)
def pFind_b1 (N : Nat) (f : TFinder) (l : (List Int)) : Int → Option (Stp Int (Sum Unit (Bool × (List (List UInt8)) × (List ((List UInt8) × Bool)))))
  | x141 =>
    (if (x141 : Int) < (List.length f.tests : Int) then
      (idx f.tests x141).bind fun x158 =>
      (idx l x141).bind fun x181 =>
      (pPassed N x158 x181).bind fun r195 =>
      (if (!r195) = true then
        some (Stp.done (Sum.inr (false, f.out, f.dead)))
      else
        some (Stp.next (iw (x141 + 1))))
    else
      some (Stp.done (Sum.inl ())))
def pFind_b3 (N : Nat) (f : TFinder) (l : (List Int)) (c1047 : Int) : ((List Int) × Int) → Option (Stp ((List Int) × Int) (List Int))
  | (more1284, x1288) =>
    (if (x1288 : Int) < (List.length f.tests : Int) then
      (idx f.tests x1288).bind fun x1316 =>
      (idx l x1288).bind fun x1339 =>
      (pNext N x1316 x1339 (uw8 c1047)).bind fun r1353 =>
      (idx more1284 x1288).bind fun x1360 =>
      (upd1 more1284 x1288 r1353).bind fun x1366 =>
      some (Stp.next (x1366, (iw (x1288 + 1))))
    else
      some (Stp.done more1284))
def pFind_b2 (N : Nat) (self : TFinder → (List Int) → (List Int) → Int → Option (Bool × (List (List UInt8)) × (List ((List UInt8) × Bool)))) (f : TFinder) (l : (List Int)) (left : Int) (text : (List Int)) : ((List (List UInt8)) × (List ((List UInt8) × Bool)) × Bool × Int) → Option (Stp ((List (List UInt8)) × (List ((List UInt8) × Bool)) × Bool × Int) ((List (List UInt8)) × (List ((List UInt8) × Bool)) × Bool))
  | (out1035, dead1040, found1046, c1047) =>
    (((if (c1047 : Int) ≤ 126 then
      some (decide (((List.length out1035 : Int) : Int) < f.most))
    else
      some false) : Option Bool)).bind fun ss =>
      match ss with
      | x1084 =>
        (if x1084 = true then
          (mk1 (α := Int) 4 0 (List.length l : Int)).bind fun x1094 =>
          (loopM (pFind_b3 N f l c1047) N (x1094, 0)).bind fun ss =>
            match ss with
            | more1299 =>
              (apnd 1 text [(uw8 c1047)]).bind fun x1398 =>
              (self (TFinder.mk f.tests f.most out1035 dead1040) more1299 x1398 (iw (left - 1))).bind fun r1412 =>
              (if r1412.1 = true then
                some (Stp.next (r1412.2.1, r1412.2.2, true, (iw32 (c1047 + 1))))
              else
                some (Stp.next (r1412.2.1, r1412.2.2, found1046, (iw32 (c1047 + 1)))))
        else
          some (Stp.done (out1035, dead1040, found1046)))
def pFind_step (N : Nat) (self : TFinder → (List Int) → (List Int) → Int → Option (Bool × (List (List UInt8)) × (List ((List UInt8) × Bool)))) (f : TFinder) (l : (List Int)) (text : (List Int)) (left : Int) : Option (Bool × (List (List UInt8)) × (List ((List UInt8) × Bool))) :=
  (if (left : Int) = 0 then
    (loopM (pFind_b1 N f l) N 0).bind fun ss =>
      match ss with
      | (Sum.inl _) =>
        (apnd 16 f.out [(bstr text)]).bind fun x224 =>
        some (true, x224, f.dead)
      | (Sum.inr z252) => some z252
  else
    (pKey N l left).bind fun r253 =>
    (if (mget f.dead r253 false).1 = true then
      some (false, f.out, f.dead)
    else
      (loopM (pFind_b2 N self f l left text) N (f.out, f.dead, false, 32)).bind fun ss =>
        match ss with
        | (out1054, dead1059, found1065) =>
          (if (!found1065) = true then
            some (found1065, out1054, (mput dead1059 r253 true))
          else
            some (found1065, out1054, dead1059))))
def pFind : Nat → TFinder → (List Int) → (List Int) → Int → Option (Bool × (List (List UInt8)) × (List ((List UInt8) × Bool)))
  | 0 => fun _ _ _ _ => none
  | N + 1 => pFind_step N (pFind N)
def pFBegin_b1 (N : Nat) (f : TFinder) : ((List Int) × Int) → Option (Stp ((List Int) × Int) (List Int))
  | (l152, x156) =>
    (if (x156 : Int) < (List.length f.tests : Int) then
      (idx f.tests x156).bind fun x185 =>
      (pBegin N x185).bind fun r208 =>
      (apnd 4 l152 [r208]).bind fun x223 =>
      some (Stp.next (x223, (iw (x156 + 1))))
    else
      some (Stp.done l152))
def pFBegin (N : Nat) (f : TFinder) : Option ((List Int) × (List (List UInt8)) × (List ((List UInt8) × Bool))) :=
  (loopM (pFBegin_b1 N f) N (([] : (List Int)), 0)).bind fun ss =>
    match ss with
    | l165 =>
      some (l165, f.out, f.dead)
def pWords (N : Nat) (l : (List TTest)) (length : Int) (most : Int) : Option (List (List UInt8)) :=
  (((if (length : Int) < 0 then
    some true
  else
    some (decide ((most : Int) ≤ 0))) : Option Bool)).bind fun ss =>
    match ss with
    | x2 =>
      (if x2 = true then
        some ([] : (List (List UInt8)))
      else
        (pFBegin N (TFinder.mk l most ([] : (List (List UInt8))) ([] : (List ((List UInt8) × Bool))))).bind fun r32 =>
        (pFind N (TFinder.mk l most r32.2.1 r32.2.2) r32.1 ([] : (List Int)) length).bind fun r58 =>
        some r58.2.1)
end Go.D
set_option linter.unusedVariables false
set_option linter.unusedSimpArgs false
namespace Go.D
open Go Go.X
def indexInt_b1 (N : Nat) (f : (Int → Option Bool)) (s : (List Int)) : Int → Option (Stp Int (Sum Unit Int))
  | x54 =>
    (if (x54 : Int) < (List.length s : Int) then
      (idx s x54).bind fun x63 =>
      (f x63).bind fun r77 =>
      (if r77 = true then
        some (Stp.done (Sum.inr x54))
      else
        some (Stp.next (iw (x54 + 1))))
    else
      some (Stp.done (Sum.inl ())))
def indexInt (N : Nat) (s : (List Int)) (f : (Int → Option Bool)) : Option Int :=
  (loopM (indexInt_b1 N f s) N 0).bind fun ss =>
    match ss with
    | (Sum.inl _) =>
      some (-1)
    | (Sum.inr z88) => some z88
def containsInt (N : Nat) (s : (List Int)) (f : (Int → Option Bool)) : Option Bool :=
  (indexInt N s f).bind fun r1 =>
  some (decide ((r1 : Int) ≥ 0))
def tclasses_b1 (N : Nat) (x8 : (List Int)) : ((List Int) × Int) → Option (Stp ((List Int) × Int) (List Int))
  | (least88, x92) =>
    (if (x92 : Int) < (List.length x8 : Int) then
      (idx least88 x92).bind fun x112 =>
      (upd1 least88 x92 x92).bind fun x118 =>
      some (Stp.next (x118, (iw (x92 + 1))))
    else
      some (Stp.done least88))
def tclasses_b3 (N : Nat) (p : TProb) : ((List Int) × Bool × Int) → Option (Stp ((List Int) × Bool × Int) ((List Int) × Bool))
  | (least1016, changed1020, x1021) =>
    (if (x1021 : Int) < (List.length p.Same : Int) then
      (idx p.Same x1021).bind fun x1038 =>
      (idx least1016 x1038.e0).bind fun x1061 =>
      (idx least1016 x1038.e1).bind fun x1072 =>
      (if (x1061 : Int) ≠ x1072 then
        (idx least1016 x1038.e0).bind fun x1083 =>
        (upd1 least1016 x1038.e0 (imin x1061 x1072)).bind fun x1089 =>
        (idx x1089 x1038.e1).bind fun x1104 =>
        (upd1 x1089 x1038.e1 (imin x1061 x1072)).bind fun x1110 =>
        some (Stp.next (x1110, true, (iw (x1021 + 1))))
      else
        some (Stp.next (least1016, changed1020, (iw (x1021 + 1)))))
    else
      some (Stp.done (least1016, changed1020)))
def tclasses_b2 (N : Nat) (p : TProb) : ((List Int) × Bool) → Option (Stp ((List Int) × Bool) (List Int))
  | (least798, changed802) =>
    (if changed802 = true then
      (loopM (tclasses_b3 N p) N (least798, false, 0)).bind fun ss =>
        match ss with
        | (least1025, changed1029) =>
          some (Stp.next (least1025, changed1029))
    else
      some (Stp.done least798))
def tclasses_b4 (N : Nat) (least805 : (List Int)) : ((List Int) × Int × Int) → Option (Stp ((List Int) × Int × Int) ((List Int) × Int))
  | (number1312, n1316, x1318) =>
    (if (x1318 : Int) < (List.length least805 : Int) then
      (idx least805 x1318).bind fun x1335 =>
      (if (x1335 : Int) = x1318 then
        (idx number1312 x1318).bind fun x1347 =>
        (upd1 number1312 x1318 n1316).bind fun x1353 =>
        some (Stp.next (x1353, (iw (n1316 + 1)), (iw (x1318 + 1))))
      else
        (idx number1312 x1335).bind fun x1369 =>
        (idx number1312 x1318).bind fun x1379 =>
        (upd1 number1312 x1318 x1369).bind fun x1385 =>
        some (Stp.next (x1385, n1316, (iw (x1318 + 1)))))
    else
      some (Stp.done (number1312, n1316)))
def tclasses (N : Nat) (p : TProb) : Option ((List Int) × Int) :=
  (mk1 (α := Int) 8 0 (List.length p.Min : Int)).bind fun x8 =>
  (loopM (tclasses_b1 N x8) N (x8, 0)).bind fun ss =>
    match ss with
    | least96 =>
      (loopM (tclasses_b2 N p) N (least96, true)).bind fun ss =>
        match ss with
        | least805 =>
          (mk1 (α := Int) 8 0 (List.length least805 : Int)).bind fun x1145 =>
          (loopM (tclasses_b4 N least805) N (x1145, 0, 0)).bind fun ss =>
            match ss with
            | (number1321, n1325) =>
              some (number1321, n1325)
def cloneTest (N : Nat) (s : (List TTest)) : Option (List TTest) :=
  (apnd 40 ([] : (List TTest)) s).bind fun x16 =>
  some x16
def tgathered_b1 (N : Nat) (x26 : (List TClass)) : ((List TClass) × Int) → Option (Stp ((List TClass) × Int) (List TClass))
  | (l64, x65) =>
    (if (x65 : Int) < (List.length x26 : Int) then
      (idx l64 x65).bind fun x78 =>
      (upd1 l64 x65 (TClass.mk x78.low 16 x78.tests x78.words x78.apart)).bind fun x84 =>
      some (Stp.next (x84, (iw (x65 + 1))))
    else
      some (Stp.done l64))
def tgathered_b2 (N : Nat) (p : TProb) (r6 : ((List Int) × Int)) : ((List TClass) × Int) → Option (Stp ((List TClass) × Int) (List TClass))
  | (l247, x248) =>
    (if (x248 : Int) < (List.length r6.1 : Int) then
      (idx r6.1 x248).bind fun x261 =>
      (idx l247 x261).bind fun x274 =>
      (idx p.Min x248).bind fun x280 =>
      (idx l247 x261).bind fun x294 =>
      (idx p.Max x248).bind fun x300 =>
      (idx l247 x261).bind fun x314 =>
      (upd1 l247 x261 (TClass.mk (imax x274.low x280) x314.high x314.tests x314.words x314.apart)).bind fun x320 =>
      (idx x320 x261).bind fun x322 =>
      (upd1 x320 x261 (TClass.mk x322.low (imin x294.high x300) x322.tests x322.words x322.apart)).bind fun x328 =>
      some (Stp.next (x328, (iw (x248 + 1))))
    else
      some (Stp.done l247))
def tgathered_b3 (N : Nat) (p : TProb) (r6 : ((List Int) × Int)) : ((List TClass) × Int) → Option (Stp ((List TClass) × Int) (List TClass))
  | (l511, x512) =>
    (if (x512 : Int) < (List.length p.Tests : Int) then
      (idx p.Tests x512).bind fun x525 =>
      (idx r6.1 x525.Var).bind fun x548 =>
      (idx l511 x548).bind fun x561 =>
      (idx l511 x548).bind fun x564 =>
      (apnd 40 x561.tests [x525]).bind fun x578 =>
      (idx l511 x548).bind fun x596 =>
      (upd1 l511 x548 (TClass.mk x596.low x596.high x578 x596.words x596.apart)).bind fun x602 =>
      some (Stp.next (x602, (iw (x512 + 1))))
    else
      some (Stp.done l511))
def tgathered_b4 (N : Nat) (p : TProb) (r6 : ((List Int) × Int)) : ((List TClass) × Int) → Option (Stp ((List TClass) × Int) (Sum (List TClass) ((List TClass) × (List Int) × Bool)))
  | (l930, x931) =>
    (if (x931 : Int) < (List.length p.Different : Int) then
      (idx p.Different x931).bind fun x943 =>
      (idx r6.1 x943.e0).bind fun x966 =>
      (idx r6.1 x943.e1).bind fun x979 =>
      (if (x966 : Int) = x979 then
        some (Stp.done (Sum.inr (l930, r6.1, false)))
      else
        (idx l930 x966).bind fun x992 =>
        (idx l930 x966).bind fun x995 =>
        (containsOf N x992.apart x979).bind fun r1001 =>
        (if (!r1001) = true then
          (idx l930 x966).bind fun x1010 =>
          (idx l930 x979).bind fun x1013 =>
          (idx l930 x966).bind fun x1016 =>
          (apnd 8 x1010.apart [x979]).bind fun x1030 =>
          (idx l930 x979).bind fun x1048 =>
          (apnd 8 x1013.apart [x966]).bind fun x1062 =>
          (idx l930 x966).bind fun x1080 =>
          (upd1 l930 x966 (TClass.mk x1080.low x1080.high x1080.tests x1080.words x1030)).bind fun x1086 =>
          (idx x1086 x979).bind fun x1088 =>
          (upd1 x1086 x979 (TClass.mk x1088.low x1088.high x1088.tests x1088.words x1062)).bind fun x1094 =>
          some (Stp.next (x1094, (iw (x931 + 1))))
        else
          some (Stp.next (l930, (iw (x931 + 1))))))
    else
      some (Stp.done (Sum.inl l930)))
def tgathered (N : Nat) (p : TProb) : Option ((List TClass) × (List Int) × Bool) :=
  (tclasses N p).bind fun r6 =>
  (mk1 (α := TClass) 88 (TClass.mk 0 0 [] [] []) r6.2).bind fun x26 =>
  (loopM (tgathered_b1 N x26) N (x26, 0)).bind fun ss =>
    match ss with
    | l69 =>
      (loopM (tgathered_b2 N p r6) N (l69, 0)).bind fun ss =>
        match ss with
        | l252 =>
          (loopM (tgathered_b3 N p r6) N (l252, 0)).bind fun ss =>
            match ss with
            | l516 =>
              (loopM (tgathered_b4 N p r6) N (l516, 0)).bind fun ss =>
                match ss with
                | (Sum.inl l934) =>
                  some (l934, r6.1, true)
                | (Sum.inr z1102) => some z1102
def tfirst_b2 (N : Nat) (c : TClass) (most : Int) (n808 : Int) : ((List (List UInt8)) × (List TTest)) → Option (Stp ((List (List UInt8)) × (List TTest)) (List (List UInt8)))
  | (out1076, tests1085) =>
    (if ((List.length out1076 : Int) : Int) < most then
      (pWords N tests1085 n808 (imin 100 (iw (most - (List.length out1076 : Int))))).bind fun r1112 =>
      (apnd 16 out1076 r1112).bind fun x1127 =>
      (if ((List.length r1112 : Int) : Int) < 100 then
        some (Stp.done x1127)
      else
        (cloneTest N c.tests).bind fun r1150 =>
        (idx r1112 (iw ((List.length r1112 : Int) - 1))).bind fun x1167 =>
        (apnd 40 r1150 [(TTest.mk 0 3 true x1167)]).bind fun x1187 =>
        some (Stp.next (x1127, x1187)))
    else
      some (Stp.done out1076))
def tfirst_b1 (N : Nat) (c : TClass) (most : Int) : ((List (List UInt8)) × Int) → Option (Stp ((List (List UInt8)) × Int) (List (List UInt8)))
  | (out804, n808) =>
    (((if (n808 : Int) ≤ c.high then
      some (decide (((List.length out804 : Int) : Int) < most))
    else
      some false) : Option Bool)).bind fun ss =>
      match ss with
      | x836 =>
        (if x836 = true then
          (cloneTest N c.tests).bind fun r844 =>
          (loopM (tfirst_b2 N c most n808) N (out804, r844)).bind fun ss =>
            match ss with
            | out1095 =>
              some (Stp.next (out1095, (iw (n808 + 1))))
        else
          some (Stp.done out804))
def tfirst (N : Nat) (c : TClass) (most : Int) : Option (List (List UInt8)) :=
  (loopM (tfirst_b1 N c most) N (([] : (List (List UInt8))), c.low)).bind fun ss =>
    match ss with
    | out814 =>
      some out814
def revInt_b1 (N : Nat)  : ((List Int) × Int × Int) → Option (Stp ((List Int) × Int × Int) (List Int))
  | (s152, i156, j157) =>
    (if (i156 : Int) < j157 then
      (idx s152 j157).bind fun x172 =>
      (idx s152 i156).bind fun x184 =>
      (idx s152 i156).bind fun x194 =>
      (upd1 s152 i156 x172).bind fun x200 =>
      (idx x200 j157).bind fun x215 =>
      (upd1 x200 j157 x184).bind fun x221 =>
      some (Stp.next (x221, (iw (i156 + 1)), (iw (j157 - 1))))
    else
      some (Stp.done s152))
def revInt (N : Nat) (s : (List Int)) : Option (List Int) :=
  (loopM (revInt_b1 N ) N (s, 0, (iw ((List.length s : Int) - 1)))).bind fun ss =>
    match ss with
    | s160 =>
      some s160
def tchoose1 (N : Nat) (other : Int) (ca : (List Bool)) (cb : (List (List UInt8))) (cc : (List UInt8)) : Option Bool :=
  (idx ca other).bind fun x1 =>
  (if x1 = true then
    (idx cb other).bind fun x15 =>
    some (decide (x15 = cc))
  else
    some false)
def tchoose_b1 (N : Nat) (self : (List TClass) → (List Int) → (List (List UInt8)) → (List Bool) → Option (Bool × Bool × (List (List UInt8)) × (List Bool))) (l : (List TClass)) (order : (List Int)) (words : (List (List UInt8))) (x21 : Int) (x58 : TClass) : ((List (List UInt8)) × (List Bool) × Int) → Option (Stp ((List (List UInt8)) × (List Bool) × Int) (Sum ((List (List UInt8)) × (List Bool)) (Bool × Bool × (List (List UInt8)) × (List Bool))))
  | (words367, known374, x380) =>
    (if (x380 : Int) < (List.length x58.words : Int) then
      (idx x58.words x380).bind fun x409 =>
      (idx l x21).bind fun x432 =>
      (containsInt N x432.apart (fun y453 => tchoose1 N y453 known374 words367 x409)).bind fun r454 =>
      (if r454 = true then
        some (Stp.next (words367, known374, (iw (x380 + 1))))
      else
        (idx words367 x21).bind fun x470 =>
        (upd1 words367 x21 x409).bind fun x479 =>
        (cut order 1 (List.length order : Int)).bind fun x494 =>
        (self l x494 x479 known374).bind fun r509 =>
        (if r509.2.1 = true then
          some (Stp.done (Sum.inr (r509.1, true, r509.2.2.1, r509.2.2.2)))
        else
          some (Stp.next (r509.2.2.1, r509.2.2.2, (iw (x380 + 1))))))
    else
      some (Stp.done (Sum.inl (words367, known374))))
def tchoose_step (N : Nat) (self : (List TClass) → (List Int) → (List (List UInt8)) → (List Bool) → Option (Bool × Bool × (List (List UInt8)) × (List Bool))) (l : (List TClass)) (order : (List Int)) (words : (List (List UInt8))) (known : (List Bool)) : Option (Bool × Bool × (List (List UInt8)) × (List Bool)) :=
  (if ((List.length order : Int) : Int) = 0 then
    some (true, true, words, known)
  else
    (idx order 0).bind fun x21 =>
    (idx known x21).bind fun x34 =>
    (upd1 known x21 true).bind fun x43 =>
    (idx l x21).bind fun x58 =>
    (loopM (tchoose_b1 N self l order words x21 x58) N (words, x43, 0)).bind fun ss =>
      match ss with
      | (Sum.inl (words384, known391)) =>
        (idx known391 x21).bind fun x555 =>
        (upd1 known391 x21 false).bind fun x563 =>
        some (false, false, words384, x563)
      | (Sum.inr z584) => some z584)
def tchoose : Nat → (List TClass) → (List Int) → (List (List UInt8)) → (List Bool) → Option (Bool × Bool × (List (List UInt8)) × (List Bool))
  | 0 => fun _ _ _ _ => none
  | N + 1 => tchoose_step N (tchoose N)
def insSort_b2 (N : Nat) (a : Int) (cmp : (Int → Int → Option Int)) : ((List Int) × Int) → Option (Stp ((List Int) × Int) (List Int))
  | (data1212, j1216) =>
    (((if (j1216 : Int) > a then
      (idx data1212 j1216).bind fun x1265 =>
      (idx data1212 (iw (j1216 - 1))).bind fun x1277 =>
      (cmp x1265 x1277).bind fun r1287 =>
      some (decide ((r1287 : Int) < 0))
    else
      some false) : Option Bool)).bind fun ss =>
      match ss with
      | x1261 =>
        (if x1261 = true then
          (idx data1212 (iw (j1216 - 1))).bind fun x1298 =>
          (idx data1212 j1216).bind fun x1311 =>
          (idx data1212 j1216).bind fun x1321 =>
          (upd1 data1212 j1216 x1298).bind fun x1327 =>
          (idx x1327 (iw (j1216 - 1))).bind fun x1342 =>
          (upd1 x1327 (iw (j1216 - 1)) x1311).bind fun x1348 =>
          some (Stp.next (x1348, (iw (j1216 - 1))))
        else
          some (Stp.done data1212))
def insSort_b1 (N : Nat) (a : Int) (b : Int) (cmp : (Int → Int → Option Int)) : ((List Int) × Int) → Option (Stp ((List Int) × Int) (List Int))
  | (data907, i911) =>
    (if (i911 : Int) < b then
      (loopM (insSort_b2 N a cmp) N (data907, i911)).bind fun ss =>
        match ss with
        | data1219 =>
          some (Stp.next (data1219, (iw (i911 + 1))))
    else
      some (Stp.done data907))
def insSort (N : Nat) (data : (List Int)) (a : Int) (b : Int) (cmp : (Int → Int → Option Int)) : Option (List Int) :=
  (loopM (insSort_b1 N a b cmp) N (data, (iw (a + 1)))).bind fun ss =>
    match ss with
    | data914 =>
      some data914
def stableSort_b1 (N : Nat) (cmp : (Int → Int → Option Int)) (n : Int) : ((List Int) × Int × Int) → Option (Stp ((List Int) × Int × Int) ((List Int) × Int))
  | (data56, a60, b61) =>
    (if (b61 : Int) ≤ n then
      (insSort N data56 a60 b61 cmp).bind fun r78 =>
      some (Stp.next (r78, b61, (iw (b61 + 20))))
    else
      some (Stp.done (data56, a60)))
def stableSort_b3 (N : Nat) (n : Int) (blockSize163 : Int) : Unit → Option (Stp Unit Unit)
  | _ =>
    (if ((iw (2 * blockSize163)) : Int) ≤ n then
      none
    else
      some (Stp.done ()))
def stableSort_b2 (N : Nat) (n : Int) : Int → Option (Stp Int Unit)
  | blockSize163 =>
    (if (blockSize163 : Int) < n then
      (loopM (stableSort_b3 N n blockSize163) N ()).bind fun ss =>
        match ss with
        | _ =>
          (if ((iw (0 + blockSize163)) : Int) < n then
            none
          else
            some (Stp.next (iw (blockSize163 * 2))))
    else
      some (Stp.done ()))
def stableSort (N : Nat) (data : (List Int)) (n : Int) (cmp : (Int → Int → Option Int)) : Option (List Int) :=
  (loopM (stableSort_b1 N cmp n) N (data, 0, 20)).bind fun ss =>
    match ss with
    | (data65, a69) =>
      (insSort N data65 a69 n cmp).bind fun r97 =>
      (loopM (stableSort_b2 N n) N 20).bind fun ss =>
        match ss with
        | _ =>
          some r97
def sortStable (N : Nat) (x : (List Int)) (cmp : (Int → Int → Option Int)) : Option (List Int) :=
  (stableSort N x (List.length x : Int) cmp).bind fun r2 =>
  some r2
def tSolve1 (N : Nat) (a : Int) (b : Int) (ca : (List TClass)) : Option Int :=
  (idx ca a).bind fun x1 =>
  (idx ca b).bind fun x21 =>
  some (iw ((List.length x1.words : Int) - (List.length x21.words : Int)))
def tSolve_b1 (N : Nat) (r6 : ((List TClass) × (List Int) × Bool)) : ((List TClass) × Int) → Option (Stp ((List TClass) × Int) (Sum (List TClass) ((List (List UInt8)) × Bool)))
  | (l293, x298) =>
    (if (x298 : Int) < (List.length r6.1 : Int) then
      (idx l293 x298).bind fun x319 =>
      (idx l293 x298).bind fun x337 =>
      (tfirst N x319 (iw ((List.length x337.apart : Int) + 1))).bind fun r354 =>
      (idx l293 x298).bind fun x369 =>
      (upd1 l293 x298 (TClass.mk x369.low x369.high x369.tests r354 x369.apart)).bind fun x390 =>
      (idx x390 x298).bind fun x405 =>
      (if ((List.length x405.words : Int) : Int) = 0 then
        some (Stp.done (Sum.inr (([] : (List (List UInt8))), false)))
      else
        some (Stp.next (x390, (iw (x298 + 1)))))
    else
      some (Stp.done (Sum.inl l293)))
def tSolve_b2 (N : Nat) (l302 : (List TClass)) : ((List Int) × Int) → Option (Stp ((List Int) × Int) (List Int))
  | (left578, x583) =>
    (if (x583 : Int) < (List.length l302 : Int) then
      (idx l302 x583).bind fun x606 =>
      (idx left578 x583).bind fun x626 =>
      (upd1 left578 x583 (List.length x606.apart : Int)).bind fun x632 =>
      some (Stp.next (x632, (iw (x583 + 1))))
    else
      some (Stp.done left578))
def tSolve_b5 (N : Nat) (x4144 : TClass) : ((List Int) × Int) → Option (Stp ((List Int) × Int) (List Int))
  | (left4287, x4292) =>
    (if (x4292 : Int) < (List.length x4144.apart : Int) then
      (idx x4144.apart x4292).bind fun x4316 =>
      (idx left4287 x4316).bind fun x4330 =>
      (idx left4287 x4316).bind fun x4340 =>
      (upd1 left4287 x4316 (iw (x4330 - 1))).bind fun x4346 =>
      some (Stp.next (x4346, (iw (x4292 + 1))))
    else
      some (Stp.done left4287))
def tSolve_b4 (N : Nat) (l302 : (List TClass)) : ((List Int) × (List Int) × (List Bool) × Bool × Int) → Option (Stp ((List Int) × (List Int) × (List Bool) × Bool × Int) ((List Int) × (List Int) × (List Bool) × Bool))
  | (last3950, left3956, removed3962, changed3966, x3967) =>
    (if (x3967 : Int) < (List.length l302 : Int) then
      (((idx removed3962 x3967).bind fun x4051 =>
      (if (!x4051) = true then
        (idx l302 x3967).bind fun x4062 =>
        (idx left3956 x3967).bind fun x4082 =>
        some (decide (((List.length x4062.words : Int) : Int) > x4082))
      else
        some false) : Option Bool)).bind fun ss =>
        match ss with
        | x4048 =>
          (if x4048 = true then
            (idx removed3962 x3967).bind fun x4096 =>
            (upd1 removed3962 x3967 true).bind fun x4102 =>
            (apnd 8 last3950 [x3967]).bind fun x4126 =>
            (idx l302 x3967).bind fun x4144 =>
            (loopM (tSolve_b5 N x4144) N (left3956, 0)).bind fun ss =>
              match ss with
              | left4299 =>
                some (Stp.next (x4126, left4299, x4102, true, (iw (x3967 + 1))))
          else
            some (Stp.next (last3950, left3956, removed3962, changed3966, (iw (x3967 + 1)))))
    else
      some (Stp.done (last3950, left3956, removed3962, changed3966)))
def tSolve_b3 (N : Nat) (l302 : (List TClass)) : ((List Int) × (List Int) × (List Bool) × Bool) → Option (Stp ((List Int) × (List Int) × (List Bool) × Bool) ((List Int) × (List Bool)))
  | (last3116, left3122, removed3128, changed3132) =>
    (if changed3132 = true then
      (loopM (tSolve_b4 N l302) N (last3116, left3122, removed3128, false, 0)).bind fun ss =>
        match ss with
        | (last3976, left3982, removed3988, changed3992) =>
          some (Stp.next (last3976, left3982, removed3988, changed3992))
    else
      some (Stp.done (last3116, removed3128)))
def tSolve_b6 (N : Nat) (l302 : (List TClass)) (removed3147 : (List Bool)) : ((List Int) × Int) → Option (Stp ((List Int) × Int) (List Int))
  | (hard4500, x4504) =>
    (if (x4504 : Int) < (List.length l302 : Int) then
      (idx removed3147 x4504).bind fun x4534 =>
      (if (!x4534) = true then
        (apnd 8 hard4500 [x4504]).bind fun x4554 =>
        some (Stp.next (x4554, (iw (x4504 + 1))))
      else
        some (Stp.next (hard4500, (iw (x4504 + 1)))))
    else
      some (Stp.done hard4500))
def tSolve_b7 (N : Nat) (r6 : ((List TClass) × (List Int) × Bool)) (r4677 : (Bool × Bool × (List (List UInt8)) × (List Bool))) : ((List (List UInt8)) × Int) → Option (Stp ((List (List UInt8)) × Int) (List (List UInt8)))
  | (out4843, x4848) =>
    (if (x4848 : Int) < (List.length r6.2.1 : Int) then
      (idx r6.2.1 x4848).bind fun x4867 =>
      (idx r4677.2.2.1 x4867).bind fun x4880 =>
      (idx out4843 x4848).bind fun x4891 =>
      (upd1 out4843 x4848 x4880).bind fun x4897 =>
      some (Stp.next (x4897, (iw (x4848 + 1))))
    else
      some (Stp.done out4843))
def tSolve (N : Nat) (p : TProb) : Option ((List (List UInt8)) × Bool) :=
  (tgathered N p).bind fun r6 =>
  (if (!r6.2.2) = true then
    some (([] : (List (List UInt8))), false)
  else
    (loopM (tSolve_b1 N r6) N (r6.1, 0)).bind fun ss =>
      match ss with
      | (Sum.inl l302) =>
        (mk1 (α := Int) 8 0 (List.length l302 : Int)).bind fun x433 =>
        (mk1 (α := Bool) 1 false (List.length l302 : Int)).bind fun x450 =>
        (loopM (tSolve_b2 N l302) N (x433, 0)).bind fun ss =>
          match ss with
          | left589 =>
            (loopM (tSolve_b3 N l302) N (([] : (List Int)), left589, x450, true)).bind fun ss =>
              match ss with
              | (last3141, removed3147) =>
                (loopM (tSolve_b6 N l302 removed3147) N (([] : (List Int)), 0)).bind fun ss =>
                  match ss with
                  | hard4514 =>
                    (sortStable N hard4514 (fun y4588 y4589 => tSolve1 N y4588 y4589 l302)).bind fun r4590 =>
                    (revInt N last3141).bind fun r4609 =>
                    (apnd 8 r4590 r4609).bind fun x4626 =>
                    (mk1 (α := (List UInt8)) 16 [] (List.length l302 : Int)).bind fun x4645 =>
                    (mk1 (α := Bool) 1 false (List.length l302 : Int)).bind fun x4662 =>
                    (tchoose N l302 x4626 x4645 x4662).bind fun r4677 =>
                    (if (!r4677.2.1) = true then
                      some (([] : (List (List UInt8))), false)
                    else
                      (chk (r4677.1 = true)).bind fun _ =>
                      (mk1 (α := (List UInt8)) 16 [] (List.length r6.2.1 : Int)).bind fun x4713 =>
                      (loopM (tSolve_b7 N r6 r4677) N (x4713, 0)).bind fun ss =>
                        match ss with
                        | out4851 =>
                          some (out4851, true))
      | (Sum.inr z4920) => some z4920)
end Go.D
set_option linter.unusedVariables false
set_option linter.unusedSimpArgs false
namespace Go.D
open Go Go.X
def sAbs (N : Nat) (n : Int) : Option Int :=
  (if (n : Int) < 0 then
    some (iw (0 - n))
  else
    some n)
def sWithin (N : Nat) (n : Int) (low : Int) (high : Int) : Option Bool :=
  (if (n : Int) ≥ low then
    some (decide ((n : Int) ≤ high))
  else
    some false)
def sHas_b1 (N : Nat) (l : (List Int)) (n : Int) : Int → Option (Stp Int (Sum Unit Bool))
  | i40 =>
    (if (i40 : Int) < (List.length l : Int) then
      (idx l i40).bind fun x50 =>
      (if (x50 : Int) = n then
        some (Stp.done (Sum.inr true))
      else
        some (Stp.next (iw (i40 + 1))))
    else
      some (Stp.done (Sum.inl ())))
def sHas (N : Nat) (l : (List Int)) (n : Int) : Option Bool :=
  (loopM (sHas_b1 N l n) N 0).bind fun ss =>
    match ss with
    | (Sum.inl _) =>
      some false
    | (Sum.inr z67) => some z67
def sForm_b1 (N : Nat) (bounds : (List Int)) (c : RClause) (f : Linear) (l : (List RVar)) : (Int × Int) → Option (Stp (Int × Int) (Sum Int Int))
  | (sum644, i645) =>
    (if (i645 : Int) < (List.length f.Coefs : Int) then
      (idx f.Coefs i645).bind fun x659 =>
      (((if (x659.Var : Int) < 0 then
        some true
      else
        (if (x659.Var : Int) ≥ (iw ((List.length l : Int) + (List.length bounds : Int))) then
          some true
        else
          (if (i645 : Int) > 0 then
            (idx f.Coefs (iw (i645 - 1))).bind fun x735 =>
            (if (x735.Var : Int) ≥ x659.Var then
              some true
            else
              (if (x659.N : Int) = 0 then
                some true
              else
                (sWithin N x659.N (-1048576) 1048576).bind fun r758 =>
                some (!r758)))
          else
            (if (x659.N : Int) = 0 then
              some true
            else
              (sWithin N x659.N (-1048576) 1048576).bind fun r772 =>
              some (!r772))))) : Option Bool)).bind fun ss =>
        match ss with
        | x721 =>
          (if x721 = true then
            some (Stp.done (Sum.inr (-1)))
          else
            (((if (x659.Var : Int) ≥ (List.length l : Int) then
              (idx bounds (iw (x659.Var - (List.length l : Int)))).bind fun x865 =>
              some (Sum.inl x865)
            else
              (((idx l x659.Var).bind fun x908 =>
              (if (x908.Ty : Int) ≠ 1 then
                some true
              else
                (sHas N c.NotNull x659.Var).bind fun r923 =>
                some (!r923)) : Option Bool)).bind fun ss =>
                match ss with
                | x905 =>
                  (if x905 = true then
                    some (Sum.inr (-1))
                  else
                    some (Sum.inl 2147483648))) : Option (Sum Int Int))).bind fun ss =>
              match ss with
              | (Sum.inl b861) =>
                (sAbs N x659.N).bind fun r938 =>
                (sdiv .i64 1152921504606846977 r938).bind fun x945 =>
                (if (b861 : Int) > x945 then
                  some (Stp.done (Sum.inr (-1)))
                else
                  (sAbs N x659.N).bind fun r950 =>
                  (if ((iw (sum644 + (iw (r950 * b861)))) : Int) > 1152921504606846977 then
                    some (Stp.done (Sum.inr (-1)))
                  else
                    some (Stp.next ((iw (sum644 + (iw (r950 * b861)))), (iw (i645 + 1))))))
              | (Sum.inr z961) => some (Stp.done (Sum.inr z961)))
    else
      some (Stp.done (Sum.inl sum644)))
def sForm (N : Nat) (f : Linear) (c : RClause) (l : (List RVar)) (bounds : (List Int)) : Option Int :=
  (sWithin N f.Const (-1099511627777) 1099511627777).bind fun r11 =>
  (if (!r11) = true then
    some (-1)
  else
    (sAbs N f.Const).bind fun r19 =>
    (loopM (sForm_b1 N bounds c f l) N (r19, 0)).bind fun ss =>
      match ss with
      | (Sum.inl sum646) =>
        some sum646
      | (Sum.inr z968) => some z968)
def sAscending_b1 (N : Nat) (l : (List Int)) (n : Int) : Int → Option (Stp Int (Sum Unit Bool))
  | i246 =>
    (if (i246 : Int) < (List.length l : Int) then
      (((idx l i246).bind fun x314 =>
      (if (x314 : Int) < 0 then
        some true
      else
        (idx l i246).bind fun x328 =>
        (if (x328 : Int) ≥ n then
          some true
        else
          (if (i246 : Int) > 0 then
            (idx l (iw (i246 - 1))).bind fun x343 =>
            (idx l i246).bind fun x356 =>
            some (decide ((x343 : Int) ≥ x356))
          else
            some false))) : Option Bool)).bind fun ss =>
        match ss with
        | x311 =>
          (if x311 = true then
            some (Stp.done (Sum.inr false))
          else
            some (Stp.next (iw (i246 + 1))))
    else
      some (Stp.done (Sum.inl ())))
def sAscending (N : Nat) (l : (List Int)) (n : Int) : Option Bool :=
  (loopM (sAscending_b1 N l n) N 0).bind fun ss =>
    match ss with
    | (Sum.inl _) =>
      some true
    | (Sum.inr z376) => some z376
def sText (N : Nat) (pa : Int) (c : RClause) (l : (List RVar)) : Option Bool :=
  (if (pa : Int) ≥ 0 then
    (if (pa : Int) < (List.length l : Int) then
      (idx l pa).bind fun x9 =>
      (if (x9.Ty : Int) = 2 then
        (sHas N c.NotNull pa).bind fun r24 =>
        some r24
      else
        some false)
    else
      some false)
  else
    some false)
def sPairs_b1 (N : Nat) (c : RClause) (l : (List RVar)) (p : (List Arr2Int)) : Int → Option (Stp Int (Sum Unit Bool))
  | i396 =>
    (if (i396 : Int) < (List.length p : Int) then
      (((idx p i396).bind fun x500 =>
      (sText N x500.e0 c l).bind fun r514 =>
      (if (!r514) = true then
        some true
      else
        (idx p i396).bind fun x530 =>
        (sText N x530.e1 c l).bind fun r545 =>
        (if (!r545) = true then
          some true
        else
          (idx p i396).bind fun x561 =>
          (idx p i396).bind fun x576 =>
          some (decide ((x561.e0 : Int) ≥ x576.e1)))) : Option Bool)).bind fun ss =>
        match ss with
        | x497 =>
          (if x497 = true then
            some (Stp.done (Sum.inr false))
          else
            some (Stp.next (iw (i396 + 1))))
    else
      some (Stp.done (Sum.inl ())))
def sPairs (N : Nat) (p : (List Arr2Int)) (c : RClause) (l : (List RVar)) : Option Bool :=
  (loopM (sPairs_b1 N c l p) N 0).bind fun ss =>
    match ss with
    | (Sum.inl _) =>
      some true
    | (Sum.inr z600) => some z600
def sTested_b1 (N : Nat) (t : TTest) : Int → Option (Stp Int (Sum Unit Bool))
  | i78 =>
    (if (i78 : Int) < (List.length t.Text : Int) then
      (((idx t.Text i78).bind fun x103 =>
      (if ((UInt8.toNat x103 : Int) : Int) < 32 then
        some true
      else
        (idx t.Text i78).bind fun x109 =>
        some (decide (((UInt8.toNat x109 : Int) : Int) > 126))) : Option Bool)).bind fun ss =>
        match ss with
        | x100 =>
          (if x100 = true then
            some (Stp.done (Sum.inr false))
          else
            some (Stp.next (iw (i78 + 1))))
    else
      some (Stp.done (Sum.inl ())))
def sTested (N : Nat) (t : TTest) : Option Bool :=
  (loopM (sTested_b1 N t) N 0).bind fun ss =>
    match ss with
    | (Sum.inl _) =>
      (if (t.Kind : Int) ≥ 0 then
        (if (t.Kind : Int) ≤ 3 then
          some (decide (((List.length t.Text : Int) : Int) ≤ 16))
        else
          some false)
      else
        some false)
    | (Sum.inr z123) => some z123
def sValid_b1 (N : Nat) (c : RClause) (l : (List RVar)) : ((List Int) × Int) → Option (Stp ((List Int) × Int) (Sum (List Int) Bool))
  | (bounds465, i469) =>
    (if (i469 : Int) < (List.length c.Auxiliary : Int) then
      (idx c.Auxiliary i469).bind fun x497 =>
      (if (x497.By : Int) = 0 then
        (((if ((List.length x497.Of.Coefs : Int) : Int) > 0 then
          some true
        else
          (if (x497.Of.Const : Int) ≠ 0 then
            some true
          else
            (sText N x497.Text c l).bind fun r555 =>
            some (!r555))) : Option Bool)).bind fun ss =>
          match ss with
          | x543 =>
            (if x543 = true then
              some (Stp.done (Sum.inr false))
            else
              (apnd 8 bounds465 [16]).bind fun x585 =>
              some (Stp.next (x585, (iw (i469 + 1)))))
      else
        (sForm N x497.Of c l bounds465).bind fun r607 =>
        (((sWithin N x497.By 1 1000).bind fun r639 =>
        (if (!r639) = true then
          some true
        else
          (if (x497.Text : Int) ≠ 0 then
            some true
          else
            some (decide ((r607 : Int) < 0)))) : Option Bool)).bind fun ss =>
          match ss with
          | x636 =>
            (if x636 = true then
              some (Stp.done (Sum.inr false))
            else
              (sdiv .i64 r607 x497.By).bind fun x661 =>
              (apnd 8 bounds465 [(iw (x661 + 1))]).bind fun x673 =>
              some (Stp.next (x673, (iw (i469 + 1))))))
    else
      some (Stp.done (Sum.inl bounds465)))
def sValid_b2 (N : Nat) (c : RClause) (l : (List RVar)) (bounds476 : (List Int)) : Int → Option (Stp Int (Sum Unit Bool))
  | i779 =>
    (if (i779 : Int) < (List.length c.Ints : Int) then
      (idx c.Ints i779).bind fun x790 =>
      (sForm N x790.Linear c l bounds476).bind fun r806 =>
      (if (r806 : Int) < 0 then
        some (Stp.done (Sum.inr false))
      else
        some (Stp.next (iw (i779 + 1))))
    else
      some (Stp.done (Sum.inl ())))
def sValid_b3 (N : Nat) (c : RClause) (l : (List RVar)) : Int → Option (Stp Int (Sum Unit Bool))
  | i1058 =>
    (if (i1058 : Int) < (List.length c.Tests : Int) then
      (((idx c.Tests i1058).bind fun x1123 =>
      (sTested N x1123).bind fun r1136 =>
      (if (!r1136) = true then
        some true
      else
        (idx c.Tests i1058).bind fun x1144 =>
        (sText N x1144.Var c l).bind fun r1159 =>
        some (!r1159)) : Option Bool)).bind fun ss =>
        match ss with
        | x1120 =>
          (if x1120 = true then
            some (Stp.done (Sum.inr false))
          else
            some (Stp.next (iw (i1058 + 1))))
    else
      some (Stp.done (Sum.inl ())))
def sValid (N : Nat) (c : RClause) (l : (List RVar)) : Option Bool :=
  (((sAscending N c.Null (List.length l : Int)).bind fun r30 =>
  (if (!r30) = true then
    some true
  else
    (sAscending N c.NotNull (List.length l : Int)).bind fun r40 =>
    some (!r40)) : Option Bool)).bind fun ss =>
    match ss with
    | x26 =>
      (if x26 = true then
        some false
      else
        (loopM (sValid_b1 N c l) N (([] : (List Int)), 0)).bind fun ss =>
          match ss with
          | (Sum.inl bounds476) =>
            (loopM (sValid_b2 N c l bounds476) N 0).bind fun ss =>
              match ss with
              | (Sum.inl _) =>
                (loopM (sValid_b3 N c l) N 0).bind fun ss =>
                  match ss with
                  | (Sum.inl _) =>
                    (sPairs N c.Same c l).bind fun r1180 =>
                    (if r1180 = true then
                      (sPairs N c.Different c l).bind fun r1196 =>
                      some r1196
                    else
                      some false)
                  | (Sum.inr z1211) => some z1211
              | (Sum.inr z1212) => some z1212
          | (Sum.inr z1213) => some z1213)
def sFew_b1 (N : Nat) (c : RClause) : (Int × Int) → Option (Stp (Int × Int) Int)
  | (n63, i64) =>
    (if (i64 : Int) < (List.length c.Auxiliary : Int) then
      (idx c.Auxiliary i64).bind fun x76 =>
      some (Stp.next ((iw (n63 + (List.length x76.Of.Coefs : Int))), (iw (i64 + 1))))
    else
      some (Stp.done n63))
def sFew_b2 (N : Nat) (c : RClause) : (Int × Int) → Option (Stp (Int × Int) Int)
  | (n145, i146) =>
    (if (i146 : Int) < (List.length c.Ints : Int) then
      (idx c.Ints i146).bind fun x158 =>
      some (Stp.next ((iw (n145 + (List.length x158.Linear.Coefs : Int))), (iw (i146 + 1))))
    else
      some (Stp.done n145))
def sFew_b3 (N : Nat) (c : RClause) : Int → Option (Stp Int (Sum Unit Bool))
  | i222 =>
    (if (i222 : Int) < (List.length c.Tests : Int) then
      (idx c.Tests i222).bind fun x232 =>
      (if ((List.length x232.Text : Int) : Int) > 40 then
        some (Stp.done (Sum.inr false))
      else
        some (Stp.next (iw (i222 + 1))))
    else
      some (Stp.done (Sum.inl ())))
def sFew (N : Nat) (c : RClause) : Option Bool :=
  (if ((iw ((iw ((iw ((iw ((iw ((iw ((List.length c.Null : Int) + (List.length c.NotNull : Int))) + (List.length c.Auxiliary : Int))) + (List.length c.Ints : Int))) + (List.length c.Tests : Int))) + (List.length c.Same : Int))) + (List.length c.Different : Int))) : Int) > 80 then
    some false
  else
    (loopM (sFew_b1 N c) N ((iw ((iw ((iw ((iw ((iw ((iw ((List.length c.Null : Int) + (List.length c.NotNull : Int))) + (List.length c.Auxiliary : Int))) + (List.length c.Ints : Int))) + (List.length c.Tests : Int))) + (List.length c.Same : Int))) + (List.length c.Different : Int))), 0)).bind fun ss =>
      match ss with
      | n66 =>
        (loopM (sFew_b2 N c) N (n66, 0)).bind fun ss =>
          match ss with
          | n148 =>
            (loopM (sFew_b3 N c) N 0).bind fun ss =>
              match ss with
              | (Sum.inl _) =>
                some (decide ((n148 : Int) ≤ 400))
              | (Sum.inr z253) => some z253)
end Go.D
set_option linter.unusedVariables false
set_option linter.unusedSimpArgs false
namespace Go.D
open Go Go.X
def cloneCoef (N : Nat) (s : (List Coef)) : Option (List Coef) :=
  (apnd 16 ([] : (List Coef)) s).bind fun x16 =>
  some x16
def clonePair (N : Nat) (s : (List Arr2Int)) : Option (List Arr2Int) :=
  (apnd 16 ([] : (List Arr2Int)) s).bind fun x16 =>
  some x16
def vfirst_b1 (N : Nat) (l : (List RVar)) : ((List Arr2Int) × Int) → Option (Stp ((List Arr2Int) × Int) (List Arr2Int))
  | (out136, x140) =>
    (if (x140 : Int) < (List.length l : Int) then
      (idx l x140).bind fun x156 =>
      (if (x156.Ty : Int) = 2 then
        (idx out136 x140).bind fun x180 =>
        (upd1 out136 x140 (Arr2Int.mk x180.e0 x156.Max)).bind fun x191 =>
        some (Stp.next (x191, (iw (x140 + 1))))
      else
        some (Stp.next (out136, (iw (x140 + 1)))))
    else
      some (Stp.done out136))
def vfirst (N : Nat) (l : (List RVar)) : Option (List Arr2Int) :=
  (mk1 (α := Arr2Int) 16 (Arr2Int.mk 0 0) (List.length l : Int)).bind fun x2 =>
  (loopM (vfirst_b1 N l) N (x2, 0)).bind fun ss =>
    match ss with
    | out143 =>
      some out143
def vhigh (N : Nat) (l : (List RVar)) (ranges : (List Arr2Int)) (pc : Int) : Option Int :=
  (idx ranges pc).bind fun x1 =>
  (idx l pc).bind fun x15 =>
  some (imin x1.e1 x15.Max)
def vbounds (N : Nat) (pa : Int) (low : Int) (high : Int) : Option (List Constraint) :=
  some [(Constraint.mk (Linear.mk low [(Coef.mk pa (-1))]) false), (Constraint.mk (Linear.mk (iw (0 - high)) [(Coef.mk pa 1)]) false)]
def vquotient_b1 (N : Nat) (pb : Linear) : ((List Coef) × (List Coef) × Int) → Option (Stp ((List Coef) × (List Coef) × Int) ((List Coef) × (List Coef)))
  | (coefs236, coefs246, x250) =>
    (if (x250 : Int) < (List.length pb.Coefs : Int) then
      (idx pb.Coefs x250).bind fun x292 =>
      (apnd 16 coefs236 [(Coef.mk x292.Var (iw (0 - x292.N)))]).bind fun x323 =>
      (apnd 16 coefs246 [x292]).bind fun x353 =>
      some (Stp.next (x323, x353, (iw (x250 + 1))))
    else
      some (Stp.done (coefs236, coefs246)))
def vquotient (N : Nat) (q : Int) (pb : Linear) (pc : Int) : Option (List Constraint) :=
  (loopM (vquotient_b1 N pb) N (([] : (List Coef)), ([] : (List Coef)), 0)).bind fun ss =>
    match ss with
    | (coefs257, coefs267) =>
      (apnd 16 coefs257 [(Coef.mk q pc)]).bind fun x391 =>
      (apnd 16 coefs267 [(Coef.mk q (iw (0 - pc)))]).bind fun x421 =>
      some [(Constraint.mk (Linear.mk (iw (0 - pb.Const)) x391) false), (Constraint.mk (Linear.mk (iw (pb.Const - (iw (pc - 1)))) x421) false)]
def vInts_b1 (N : Nat) (c : RClause) (l : (List RVar)) : ((List Constraint) × Int) → Option (Stp ((List Constraint) × Int) (List Constraint))
  | (out218, x222) =>
    (if (x222 : Int) < (List.length c.NotNull : Int) then
      (idx c.NotNull x222).bind fun x249 =>
      (idx l x249).bind fun x263 =>
      (if (x263.Ty : Int) = 1 then
        (idx l x249).bind fun x279 =>
        (idx l x249).bind fun x293 =>
        (vbounds N x249 x279.Low x293.High).bind fun r307 =>
        (apnd 40 out218 r307).bind fun x322 =>
        some (Stp.next (x322, (iw (x222 + 1))))
      else
        some (Stp.next (out218, (iw (x222 + 1)))))
    else
      some (Stp.done out218))
def vInts_b2 (N : Nat) (c : RClause) (l : (List RVar)) (ranges : (List Arr2Int)) : ((List Constraint) × Int) → Option (Stp ((List Constraint) × Int) (List Constraint))
  | (out604, x608) =>
    (if (x608 : Int) < (List.length c.Auxiliary : Int) then
      (idx c.Auxiliary x608).bind fun x627 =>
      (if (x627.By : Int) = 0 then
        (idx ranges x627.Text).bind fun x655 =>
        (vhigh N l ranges x627.Text).bind fun r670 =>
        (vbounds N (iw ((List.length l : Int) + x608)) x655.e0 r670).bind fun r677 =>
        (apnd 40 out604 r677).bind fun x692 =>
        some (Stp.next (x692, (iw (x608 + 1))))
      else
        (vquotient N (iw ((List.length l : Int) + x608)) x627.Of x627.By).bind fun r713 =>
        (apnd 40 out604 r713).bind fun x729 =>
        some (Stp.next (x729, (iw (x608 + 1)))))
    else
      some (Stp.done out604))
def vInts_b3 (N : Nat) (c : RClause) : ((List Constraint) × Int) → Option (Stp ((List Constraint) × Int) (List Constraint))
  | (out935, x939) =>
    (if (x939 : Int) < (List.length c.Ints : Int) then
      (idx c.Ints x939).bind fun x958 =>
      (cloneCoef N x958.Linear.Coefs).bind fun r984 =>
      (apnd 40 out935 [(Constraint.mk (Linear.mk x958.Linear.Const r984) x958.Equal)]).bind fun x1017 =>
      some (Stp.next (x1017, (iw (x939 + 1))))
    else
      some (Stp.done out935))
def vInts (N : Nat) (l : (List RVar)) (c : RClause) (ranges : (List Arr2Int)) : Option (Int × (List Constraint)) :=
  (loopM (vInts_b1 N c l) N (([] : (List Constraint)), 0)).bind fun ss =>
    match ss with
    | out229 =>
      (loopM (vInts_b2 N c l ranges) N (out229, 0)).bind fun ss =>
        match ss with
        | out615 =>
          (loopM (vInts_b3 N c) N (out615, 0)).bind fun ss =>
            match ss with
            | out946 =>
              some ((iw ((List.length l : Int) + (List.length c.Auxiliary : Int))), out946)
def vTexts_b1 (N : Nat) (c : RClause) (l : (List RVar)) (ranges : (List Arr2Int)) : ((List Int) × (List Int) × (List Int) × (List (Int × Int)) × Int) → Option (Stp ((List Int) × (List Int) × (List Int) × (List (Int × Int)) × Int) ((List Int) × (List Int) × (List Int) × (List (Int × Int))))
  | (min376, max385, numbers394, place399, x400) =>
    (if (x400 : Int) < (List.length c.NotNull : Int) then
      (idx c.NotNull x400).bind fun x459 =>
      (idx l x459).bind fun x473 =>
      (if (x473.Ty : Int) = 2 then
        (apnd 8 numbers394 [x459]).bind fun x501 =>
        (idx ranges x459).bind fun x519 =>
        (apnd 8 min376 [x519.e0]).bind fun x542 =>
        (vhigh N l ranges x459).bind fun r564 =>
        (apnd 8 max385 [r564]).bind fun x581 =>
        some (Stp.next (x542, x581, x501, (mput place399 x459 (List.length numbers394 : Int)), (iw (x400 + 1))))
      else
        some (Stp.next (min376, max385, numbers394, place399, (iw (x400 + 1)))))
    else
      some (Stp.done (min376, max385, numbers394, place399)))
def vTexts_b2 (N : Nat) (c : RClause) (place432 : (List (Int × Int))) : ((List TTest) × Int) → Option (Stp ((List TTest) × Int) (List TTest))
  | (tests773, x779) =>
    (if (x779 : Int) < (List.length c.Tests : Int) then
      (idx c.Tests x779).bind fun x812 =>
      (apnd 40 tests773 [(TTest.mk ((mget place432 x812.Var 0).1) x812.Kind x812.Negated x812.Text)]).bind fun x847 =>
      some (Stp.next (x847, (iw (x779 + 1))))
    else
      some (Stp.done tests773))
def vTexts_b3 (N : Nat) (c : RClause) (place432 : (List (Int × Int))) : ((List Arr2Int) × Int) → Option (Stp ((List Arr2Int) × Int) (List Arr2Int))
  | (same1032, x1038) =>
    (if (x1038 : Int) < (List.length c.Same : Int) then
      (idx c.Same x1038).bind fun x1072 =>
      (apnd 16 same1032 [(Arr2Int.mk ((mget place432 x1072.e0 0).1) ((mget place432 x1072.e1 0).1))]).bind fun x1103 =>
      some (Stp.next (x1103, (iw (x1038 + 1))))
    else
      some (Stp.done same1032))
def vTexts_b4 (N : Nat) (c : RClause) (place432 : (List (Int × Int))) : ((List Arr2Int) × Int) → Option (Stp ((List Arr2Int) × Int) (List Arr2Int))
  | (different1288, x1294) =>
    (if (x1294 : Int) < (List.length c.Different : Int) then
      (idx c.Different x1294).bind fun x1327 =>
      (apnd 16 different1288 [(Arr2Int.mk ((mget place432 x1327.e0 0).1) ((mget place432 x1327.e1 0).1))]).bind fun x1358 =>
      some (Stp.next (x1358, (iw (x1294 + 1))))
    else
      some (Stp.done different1288))
def vTexts (N : Nat) (l : (List RVar)) (c : RClause) (ranges : (List Arr2Int)) : Option (TProb × (List Int)) :=
  (loopM (vTexts_b1 N c l ranges) N (([] : (List Int)), ([] : (List Int)), ([] : (List Int)), ([] : (List (Int × Int))), 0)).bind fun ss =>
    match ss with
    | (min409, max418, numbers427, place432) =>
      (loopM (vTexts_b2 N c place432) N (([] : (List TTest)), 0)).bind fun ss =>
        match ss with
        | tests790 =>
          (loopM (vTexts_b3 N c place432) N (([] : (List Arr2Int)), 0)).bind fun ss =>
            match ss with
            | same1050 =>
              (loopM (vTexts_b4 N c place432) N (([] : (List Arr2Int)), 0)).bind fun ss =>
                match ss with
                | different1306 =>
                  some ((TProb.mk min409 max418 tests790 same1050 different1306), numbers427)
def vcheck_step (N : Nat) (self : (List RVar) → RClause → Refut → (List Arr2Int) → Option Bool) (l : (List RVar)) (c : RClause) (pc : Refut) (ranges : (List Arr2Int)) : Option Bool :=
  (if (pc.Kind : Int) = 0 then
    (containsOf N c.Null pc.Var).bind fun r12 =>
    (if r12 = true then
      (containsOf N c.NotNull pc.Var).bind fun r21 =>
      (if r21 = true then
        some true
      else
        (idx l pc.Var).bind fun x30 =>
        some (!x30.Nullable))
    else
      some false)
  else
    (if (pc.Kind : Int) = 1 then
      (vTexts N l c ranges).bind fun r46 =>
      (tSolve N r46.1).bind fun r94 =>
      some (!r94.2)
    else
      (if (pc.Kind : Int) = 2 then
        (vInts N l c ranges).bind fun r115 =>
        (cSystem N r115.2 r115.1).bind fun r139 =>
        (cCheck N r139 pc.Proof).bind fun r154 =>
        some r154
      else
        (if (pc.Kind : Int) = 3 then
          (((containsOf N c.NotNull pc.Var).bind fun r228 =>
          (if (!r228) = true then
            some true
          else
            (idx l pc.Var).bind fun x240 =>
            (if (x240.Ty : Int) ≠ 2 then
              some true
            else
              (idx ranges pc.Var).bind fun x259 =>
              (if (pc.At : Int) < x259.e0 then
                some true
              else
                (idx ranges pc.Var).bind fun x278 =>
                (if (pc.At : Int) ≥ x278.e1 then
                  some true
                else
                  some (decide (((List.length pc.Children : Int) : Int) ≠ 2)))))) : Option Bool)).bind fun ss =>
            match ss with
            | x225 =>
              (if x225 = true then
                some false
              else
                (clonePair N ranges).bind fun r304 =>
                (clonePair N ranges).bind fun r320 =>
                (idx r304 pc.Var).bind fun x336 =>
                (upd1 r304 pc.Var (Arr2Int.mk x336.e0 pc.At)).bind fun x349 =>
                (idx r320 pc.Var).bind fun x364 =>
                (upd1 r320 pc.Var (Arr2Int.mk (iw (pc.At + 1)) x364.e1)).bind fun x377 =>
                (idx pc.Children 0).bind fun x392 =>
                (self l c x392 x349).bind fun r416 =>
                (if r416 = true then
                  (idx pc.Children 1).bind fun x433 =>
                  (self l c x433 x377).bind fun r457 =>
                  some r457
                else
                  some false))
        else
          some false))))
def vcheck : Nat → (List RVar) → RClause → Refut → (List Arr2Int) → Option Bool
  | 0 => fun _ _ _ _ => none
  | N + 1 => vcheck_step N (vcheck N)
def vCheck (N : Nat) (l : (List RVar)) (c : RClause) (pc : Refut) : Option Bool :=
  (vfirst N l).bind fun r11 =>
  (vcheck N l c pc r11).bind fun r27 =>
  some r27
def vFormat_step (N : Nat) (self : Refut → Option (List UInt8)) (pa : Refut) : Option (List UInt8) :=
  (if (pa.Kind : Int) = 0 then
    (fmtI N pa.Var).bind fun r7 =>
    (chk ((List.length ([110, 117, 108, 108, 32, 120] : List UInt8) : Int) + List.length r7 ≤ 9223372036854775807)).bind fun _ =>
    some (([110, 117, 108, 108, 32, 120] : List UInt8) ++ r7)
  else
    (if (pa.Kind : Int) = 1 then
      some ([116, 101, 120, 116] : List UInt8)
    else
      (if (pa.Kind : Int) = 2 then
        (cSize N pa.Proof).bind fun r19 =>
        (fmtI N r19).bind fun r30 =>
        (chk ((List.length ([105, 110, 116, 101, 103, 101, 114, 115, 32] : List UInt8) : Int) + List.length r30 ≤ 9223372036854775807)).bind fun _ =>
        some (([105, 110, 116, 101, 103, 101, 114, 115, 32] : List UInt8) ++ r30)
      else
        (if (pa.Kind : Int) = 3 then
          (fmtI N pa.Var).bind fun r46 =>
          (chk ((List.length ([108, 101, 110, 103, 116, 104, 32, 120] : List UInt8) : Int) + List.length r46 ≤ 9223372036854775807)).bind fun _ =>
          (chk ((List.length (([108, 101, 110, 103, 116, 104, 32, 120] : List UInt8) ++ r46) : Int) + List.length ([32, 60, 61, 32] : List UInt8) ≤ 9223372036854775807)).bind fun _ =>
          (fmtI N pa.At).bind fun r59 =>
          (chk ((List.length ((([108, 101, 110, 103, 116, 104, 32, 120] : List UInt8) ++ r46) ++ ([32, 60, 61, 32] : List UInt8)) : Int) + List.length r59 ≤ 9223372036854775807)).bind fun _ =>
          none
        else
          some ([105, 110, 118, 97, 108, 105, 100] : List UInt8)))))
def vFormat : Nat → Refut → Option (List UInt8)
  | 0 => fun _ => none
  | N + 1 => vFormat_step N (vFormat N)
end Go.D
set_option linter.unusedVariables false
set_option linter.unusedSimpArgs false
namespace Go.D
open Go Go.X
def wRanges_b1 (N : Nat) (l : (List RVar)) : ((List Arr2Int) × Int) → Option (Stp ((List Arr2Int) × Int) (List Arr2Int))
  | (out227, i231) =>
    (if (i231 : Int) < (List.length l : Int) then
      (idx l i231).bind fun x263 =>
      (((if (x263.Ty : Int) = 2 then
        (idx l i231).bind fun x303 =>
        some (Arr2Int.mk 0 x303.Max)
      else
        some (Arr2Int.mk 0 0)) : Option Arr2Int)).bind fun ss =>
        match ss with
        | x299 =>
          (apnd 16 out227 [x299]).bind fun x338 =>
          some (Stp.next (x338, (iw (i231 + 1))))
    else
      some (Stp.done out227))
def wRanges (N : Nat) (l : (List RVar)) : Option (List Arr2Int) :=
  (loopM (wRanges_b1 N l) N (([] : (List Arr2Int)), 0)).bind fun ss =>
    match ss with
    | out237 =>
      some out237
def wparts_b1 (N : Nat) (self : Refut → Option Int) (pa : Refut) : (Int × Int) → Option (Stp (Int × Int) Int)
  | (n115, i116) =>
    (((if (i116 : Int) < (List.length pa.Children : Int) then
      some (decide ((n115 : Int) ≤ 100))
    else
      some false) : Option Bool)).bind fun ss =>
      match ss with
      | x128 =>
        (if x128 = true then
          (idx pa.Children i116).bind fun x137 =>
          (self x137).bind fun r161 =>
          some (Stp.next ((iw (n115 + r161)), (iw (i116 + 1))))
        else
          some (Stp.done n115))
def wparts_step (N : Nat) (self : Refut → Option Int) (pa : Refut) : Option Int :=
  (rSmallProof N pa.Proof).bind fun r6 =>
  (if (!r6) = true then
    some 101
  else
    (loopM (wparts_b1 N self pa) N (1, 0)).bind fun ss =>
      match ss with
      | n117 =>
        some n117)
def wparts : Nat → Refut → Option Int
  | 0 => fun _ => none
  | N + 1 => wparts_step N (wparts N)
def wSmall (N : Nat) (pa : Refut) : Option Bool :=
  (wparts N pa).bind fun r6 =>
  some (decide ((r6 : Int) ≤ 30))
def wRight_b1 (N : Nat) (ranges : (List Arr2Int)) : Int → Option (Stp Int (Sum Unit Bool))
  | i263 =>
    (if (i263 : Int) < (List.length ranges : Int) then
      (((idx ranges i263).bind fun x335 =>
      (if (x335.e0 : Int) < 0 then
        some true
      else
        (idx ranges i263).bind fun x350 =>
        (if (x350.e0 : Int) > 16 then
          some true
        else
          (idx ranges i263).bind fun x365 =>
          (if (x365.e1 : Int) < 0 then
            some true
          else
            (idx ranges i263).bind fun x380 =>
            some (decide ((x380.e1 : Int) > 16))))) : Option Bool)).bind fun ss =>
        match ss with
        | x332 =>
          (if x332 = true then
            some (Stp.done (Sum.inr false))
          else
            some (Stp.next (iw (i263 + 1))))
    else
      some (Stp.done (Sum.inl ())))
def wRight (N : Nat) (l : (List RVar)) (ranges : (List Arr2Int)) : Option Bool :=
  (if ((List.length ranges : Int) : Int) ≠ (List.length l : Int) then
    some false
  else
    (loopM (wRight_b1 N ranges) N 0).bind fun ss =>
      match ss with
      | (Sum.inl _) =>
        some true
      | (Sum.inr z401) => some z401)
def wShort_b1 (N : Nat) (l : (List RVar)) : (Int × Int) → Option (Stp (Int × Int) (Sum Int Bool))
  | (n81, i82) =>
    (if (i82 : Int) < (List.length l : Int) then
      (idx l i82).bind fun x94 =>
      (if (x94.Ty : Int) = 2 then
        (idx l i82).bind fun x109 =>
        (if (x109.Max : Int) > 2 then
          some (Stp.done (Sum.inr false))
        else
          some (Stp.next ((iw (n81 + 1)), (iw (i82 + 1)))))
      else
        some (Stp.next (n81, (iw (i82 + 1)))))
    else
      some (Stp.done (Sum.inl n81)))
def wShort (N : Nat) (l : (List RVar)) (c : RClause) : Option Bool :=
  (loopM (wShort_b1 N l) N (0, 0)).bind fun ss =>
    match ss with
    | (Sum.inl n84) =>
      (if (n84 : Int) ≤ 3 then
        some (decide (((iw ((List.length l : Int) + (List.length c.Auxiliary : Int))) : Int) ≤ 6))
      else
        some false)
    | (Sum.inr z130) => some z130
def wDomains_b1 (N : Nat) (l : (List RVar)) : Int → Option (Stp Int (Sum Unit Bool))
  | i158 =>
    (if (i158 : Int) < (List.length l : Int) then
      (idx l i158).bind fun x168 =>
      (((if (x168.Ty : Int) = 1 then
        (if (x168.Low : Int) < (-2147483648) then
          some true
        else
          (if (x168.Low : Int) > 2147483647 then
            some true
          else
            (if (x168.High : Int) < (-2147483648) then
              some true
            else
              some (decide ((x168.High : Int) > 2147483647)))))
      else
        some false) : Option Bool)).bind fun ss =>
        match ss with
        | x195 =>
          (if x195 = true then
            some (Stp.done (Sum.inr false))
          else
            (((if (x168.Ty : Int) = 2 then
              (if (x168.Max : Int) < 0 then
                some true
              else
                (if (x168.Max : Int) > 16 then
                  some true
                else
                  (if (x168.Ty : Int) ≠ 1 then
                    some (decide ((x168.Ty : Int) ≠ 2))
                  else
                    some false)))
            else
              (if (x168.Ty : Int) ≠ 1 then
                some (decide ((x168.Ty : Int) ≠ 2))
              else
                some false)) : Option Bool)).bind fun ss =>
              match ss with
              | x211 =>
                (if x211 = true then
                  some (Stp.done (Sum.inr false))
                else
                  some (Stp.next (iw (i158 + 1)))))
    else
      some (Stp.done (Sum.inl ())))
def wDomains (N : Nat) (l : (List RVar)) : Option Bool :=
  (loopM (wDomains_b1 N l) N 0).bind fun ss =>
    match ss with
    | (Sum.inl _) =>
      some (decide (((List.length l : Int) : Int) ≤ 10))
    | (Sum.inr z245) => some z245
end Go.D
set_option linter.unusedVariables false
set_option linter.unusedSimpArgs false
namespace Go.D
open Go Go.X
def lbig (N : Nat) (n : Int) : Option Big :=
  (rOf N n).bind fun r6 =>
  some r6
def awake (N : Nat)  : Option Bool :=
  (lbig N 1).bind fun r47 =>
  (lbig N 2).bind fun r64 =>
  (lbig N 1).bind fun r73 =>
  (lbig N 2).bind fun r90 =>
  (lbig N 1).bind fun r99 =>
  (lbig N 1).bind fun r108 =>
  (lbig N 1).bind fun r126 =>
  (vCheck N [(RVar.mk 1 (-9) 9 0 false)] (RClause.mk [] [0] [] [(Constraint.mk (Linear.mk (-5) [(Coef.mk 0 2)]) true)] [] [] []) (Refut.mk 2 0 0 (Proof.mk [(Step.mk [(Use.mk 2 r47)] r64), (Step.mk [(Use.mk 3 r73)] r90), (Step.mk [(Use.mk 4 r99), (Use.mk 5 r108)] r126)] [] (Big.mk false []) []) [])).bind fun r181 =>
  (if r181 = true then
    (vFormat N (Refut.mk 2 0 0 (Proof.mk [(Step.mk [(Use.mk 2 r47)] r64), (Step.mk [(Use.mk 3 r73)] r90), (Step.mk [(Use.mk 4 r99), (Use.mk 5 r108)] r126)] [] (Big.mk false []) []) [])).bind fun r193 =>
    (if r193 = ([105, 110, 116, 101, 103, 101, 114, 115, 32, 51] : List UInt8) then
      (vCheck N [(RVar.mk 1 (-9) 9 0 false)] (RClause.mk [0] [] [] [] [] [] []) (Refut.mk 0 0 0 (Proof.mk [] [] (Big.mk false []) []) [])).bind fun r210 =>
      (if r210 = true then
        (vCheck N [(RVar.mk 1 (-9) 9 0 false)] (RClause.mk [] [0] [] [] [] [] []) (Refut.mk 0 0 0 (Proof.mk [] [] (Big.mk false []) []) [])).bind fun r228 =>
        some (!r228)
      else
        some false)
    else
      some false)
  else
    some false)
def lright (N : Nat) (x : RCase) : Option Bool :=
  (wDomains N x.L).bind fun r6 =>
  (if r6 = true then
    (sFew N x.C).bind fun r15 =>
    (if r15 = true then
      (sValid N x.C x.L).bind fun r30 =>
      (if r30 = true then
        (wRight N x.L x.Ranges).bind fun r46 =>
        some r46
      else
        some false)
    else
      some false)
  else
    some false)
def lawSplit_b1 (N : Nat) (c : RClause) (l : (List RVar)) (pc : Refut) : Int → Option (Stp Int (Sum Unit Bool))
  | x542 =>
    (if (x542 : Int) < (List.length c.NotNull : Int) then
      (idx c.NotNull x542).bind fun x551 =>
      (((idx l x551).bind fun x630 =>
      (if (x630.Ty : Int) = 2 then
        (idx l x551).bind fun x646 =>
        (if (x646.Max : Int) > 0 then
          (vCheck N l c (Refut.mk 3 x551 0 (Proof.mk [] [] (Big.mk false []) []) [pc, pc])).bind fun r674 =>
          some (!r674)
        else
          some false)
      else
        some false) : Option Bool)).bind fun ss =>
        match ss with
        | x627 =>
          (if x627 = true then
            some (Stp.done (Sum.inr false))
          else
            some (Stp.next (iw (x542 + 1))))
    else
      some (Stp.done (Sum.inl ())))
def lawSplit (N : Nat) (l : (List RVar)) (c : RClause) (pc : Refut) : Option Bool :=
  (wRanges N l).bind fun r11 =>
  (((awake N ).bind fun r126 =>
  (if (!r126) = true then
    some true
  else
    (wShort N l c).bind fun r137 =>
    (if (!r137) = true then
      some true
    else
      (lright N (RCase.mk l c r11 [])).bind fun r156 =>
      (if (!r156) = true then
        some true
      else
        (wSmall N pc).bind fun r176 =>
        (if (!r176) = true then
          some true
        else
          (if (pc.Kind : Int) = 2 then
            some true
          else
            (if (pc.Kind : Int) = 3 then
              some true
            else
              (vCheck N l c pc).bind fun r200 =>
              some (!r200))))))) : Option Bool)).bind fun ss =>
    match ss with
    | x123 =>
      (if x123 = true then
        (awake N ).bind fun r227 =>
        some r227
      else
        (loopM (lawSplit_b1 N c l pc) N 0).bind fun ss =>
          match ss with
          | (Sum.inl _) =>
            some true
          | (Sum.inr z703) => some z703)
end Go.D
set_option linter.unusedSimpArgs false
set_option linter.unusedVariables false
namespace Go.D
open Go Go.X
def Bg : Nat := 9223372036854775807
theorem getD_n {α : Type} {l : List α} {n : Nat} {d : α} (h : n < l.length) : l.getD n d = l[n] := by rw [List.getD_eq_getElem?_getD, List.getElem?_eq_getElem h]; rfl
theorem var_n {v : Int} {n : Nat} (h : 0 ≤ v ∧ v < n) : ∃ k : Nat, v = (k : Int) ∧ k < n := ⟨v.toNat, by omega, by omega⟩
theorem sWithin_tm {n a b : Int} : Tm (fun N => sWithin N n a b) (· = decide (a ≤ n ∧ n ≤ b)) := by
  unfold sWithin
  by_cases hn : n ≥ a
  · exact Tm.pos hn (Tm.some (decide_eq_decide.2 (by omega)))
  · exact Tm.neg hn (Tm.some (by rw [decide_eq_false]; omega))
theorem sHas_tm {l : List Int} {n : Int} (hl : l.length ≤ Bg) : Tm (fun N => sHas N l n) (· = decide (n ∈ l)) := by
  have hb : Bg = 9223372036854775807 := rfl
  unfold sHas
  refine (Tm.findL (b := fun N => sHas_b1 N l n) l (fun y => decide (y = n)) (fun _ => true) (by omega) (fun k hk => ?_) ?_).bind fun o ho => ?_
  · unfold sHas_b1
    refine Tm.pos (by omega) (Tm.step (idx_n hk) ?_)
    by_cases e : l[k] = n
    · rw [decide_eq_true e]; exact Tm.pos e (Tm.some rfl)
    · rw [decide_eq_false e]; exact Tm.neg e (Tm.some rfl)
  · unfold sHas_b1
    exact Tm.neg (by omega) (Tm.some rfl)
  · rcases ho with ⟨h1, rfl⟩ | ⟨k, hk, h1, _, rfl⟩
    · refine Tm.some ?_
      rw [decide_eq_false]
      intro h
      have := List.any_eq_false.1 h1 n h
      simp at this
    · refine Tm.some ?_
      rw [decide_eq_true]
      rw [← of_decide_eq_true h1]; exact List.getElem_mem hk
def TxtOk (c : RClause) (l : List RVar) (v : Int) : Prop := ∃ k : Nat, v = (k : Int) ∧ (∃ x, l[k]? = some x ∧ x.Ty = 2) ∧ v ∈ c.NotNull
theorem sText_tm {c : RClause} {l : List RVar} {v : Int} (hn : c.NotNull.length ≤ Bg) : Tm (fun N => sText N v c l) (fun r => r = true → TxtOk c l v) := by
  unfold sText
  by_cases h1 : v ≥ 0
  · refine Tm.pos h1 ?_
    by_cases h2 : v < (l.length : Int)
    · obtain ⟨k, rfl, hk⟩ := var_n (n := l.length) ⟨h1, h2⟩
      refine Tm.pos h2 (Tm.step (idx_n hk) ?_)
      by_cases h3 : l[k].Ty = 2
      · exact Tm.pos h3 ((sHas_tm hn).bind fun r hr => Tm.some fun e => ⟨k, rfl, ⟨_, List.getElem?_eq_getElem hk, h3⟩, of_decide_eq_true (by rw [← hr]; exact e)⟩)
      · exact Tm.neg h3 (Tm.some fun e => by simp at e)
    · exact Tm.neg h2 (Tm.some fun e => by simp at e)
  · exact Tm.neg h1 (Tm.some fun e => by simp at e)
structure FrmOk (f : Linear) (m : Nat) : Prop where
  cst : -1099511627777 ≤ f.Const ∧ f.Const ≤ 1099511627777
  len : f.Coefs.length ≤ m
  cf : ∀ x ∈ f.Coefs, (0 ≤ x.Var ∧ x.Var < m) ∧ x.N ≠ 0 ∧ -1048576 ≤ x.N ∧ x.N ≤ 1048576
theorem sAbsE_tm {n : Int} (h : -1152921504606846976 ≤ n ∧ n ≤ 1152921504606846976) : Tm (fun N => sAbs N n) (· = (n.natAbs : Int)) := by
  unfold sAbs
  by_cases hn : n < 0
  · refine Tm.pos hn (Tm.some ?_)
    rw [iw_eq (by omega) (by omega)]; omega
  · exact Tm.neg hn (Tm.some (by omega))
def bnd (l : List RVar) (bs : List Int) (v : Int) : Int := if v ≥ (l.length : Int) then bs.getD (v.toNat - l.length) 0 else 2147483648
def sumB (l : List RVar) (bs : List Int) (c0 : Int) (cs : List Coef) : Int := (c0.natAbs : Int) + (cs.map fun x => (x.N.natAbs : Int) * bnd l bs x.Var).sum
structure FrmX (f : Linear) (c : RClause) (l : List RVar) (bs : List Int) (r : Int) : Prop where
  asc : ∀ i j (hi : i < f.Coefs.length) (hj : j < f.Coefs.length), i < j → f.Coefs[i].Var < f.Coefs[j].Var
  ty : ∀ x ∈ f.Coefs, x.Var < (l.length : Int) → (∃ y, l[x.Var.toNat]? = some y ∧ y.Ty = 1) ∧ x.Var ∈ c.NotNull
  sum : r = sumB l bs f.Const f.Coefs
  le : r ≤ 1152921504606846977
theorem sumB_snoc {l : List RVar} {bs : List Int} {c0 : Int} {cs : List Coef} {x : Coef} : sumB l bs c0 (cs ++ [x]) = sumB l bs c0 cs + (x.N.natAbs : Int) * bnd l bs x.Var := by
  unfold sumB; simp [Int.add_assoc]
theorem sForm_tm {f : Linear} {c : RClause} {l : List RVar} {bs : List Int} (hn : c.NotNull.length ≤ Bg) (hf : f.Coefs.length ≤ Bg) (hl : l.length ≤ 1000) (hbs : bs.length ≤ 1000) (hb0 : ∀ b ∈ bs, 0 ≤ b) :
    Tm (fun N => sForm N f c l bs) (fun r => 0 ≤ r → FrmOk f (l.length + bs.length) ∧ FrmX f c l bs r) := by
  have hb : Bg = 9223372036854775807 := rfl
  unfold sForm
  refine sWithin_tm.eq ?_
  by_cases hc : -1099511627777 ≤ f.Const ∧ f.Const ≤ 1099511627777
  · rw [decide_eq_true hc]
    refine Tm.neg (by simp) ((sAbsE_tm (by omega)).eq ?_)
    refine Tm.bind (Q := fun o => match o with | .inl s => FrmOk f (l.length + bs.length) ∧ FrmX f c l bs s | .inr z => z = -1) ?_ fun o ho => ?_
    · refine Tm.up f.Coefs.length (fun k s => s.2 = (k : Int) ∧ (s.1 = sumB l bs f.Const (f.Coefs.take k) ∧ 0 ≤ s.1 ∧ s.1 ≤ 1152921504606846977) ∧ ∀ j (hj : j < f.Coefs.length), j < k → ((0 ≤ f.Coefs[j].Var ∧ f.Coefs[j].Var < ((l.length + bs.length : Nat) : Int)) ∧ f.Coefs[j].N ≠ 0 ∧ (-1048576 ≤ f.Coefs[j].N ∧ f.Coefs[j].N ≤ 1048576) ∧ (j : Int) ≤ f.Coefs[j].Var ∧ ∀ i (hi : i < f.Coefs.length), i < j → f.Coefs[i].Var < f.Coefs[j].Var) ∧ (f.Coefs[j].Var < (l.length : Int) → (∃ y, l[f.Coefs[j].Var.toNat]? = some y ∧ y.Ty = 1) ∧ f.Coefs[j].Var ∈ c.NotNull)) ⟨rfl, ⟨by simp [sumB], by dsimp only; omega, by dsimp only; omega⟩, fun j _ hj => by omega⟩ ?_
      rintro k hk ⟨s, i⟩ ⟨hi, ⟨hs, hs0, hs1⟩, hJ⟩
      dsimp only at hi hs hs0 hs1 hJ; subst hi
      unfold sForm_b1
      dsimp only
      rcases Nat.lt_or_ge k f.Coefs.length with hlt | hge
      · refine Tm.pos (by omega) (Tm.step (idx_n hlt) ?_)
        have e1 : iw ((l.length : Int) + (bs.length : Int)) = ((l.length + bs.length : Nat) : Int) := by rw [iw_eq] <;> omega
        refine Tm.bind (Q := fun b => b = false → (0 ≤ f.Coefs[k].Var ∧ f.Coefs[k].Var < ((l.length + bs.length : Nat) : Int)) ∧ f.Coefs[k].N ≠ 0 ∧ (-1048576 ≤ f.Coefs[k].N ∧ f.Coefs[k].N ≤ 1048576) ∧ (k : Int) ≤ f.Coefs[k].Var ∧ ∀ i (hi : i < f.Coefs.length), i < k → f.Coefs[i].Var < f.Coefs[k].Var) ?_ fun b hb' => ?_
        · rw [e1]
          by_cases g1 : f.Coefs[k].Var < 0
          · exact Tm.pos g1 (Tm.some fun e => by simp at e)
          · refine Tm.neg g1 ?_
            by_cases g2 : f.Coefs[k].Var ≥ ((l.length + bs.length : Nat) : Int)
            · exact Tm.pos g2 (Tm.some fun e => by simp at e)
            · refine Tm.neg g2 ?_
              by_cases g3 : (k : Int) > 0
              · refine Tm.pos g3 ?_
                have e2 : iw ((k : Int) - 1) = ((k - 1 : Nat) : Int) := by rw [iw_eq] <;> omega
                rw [e2]
                refine Tm.step (idx_n (by omega)) ?_
                by_cases g4 : (f.Coefs[k - 1]'(by omega)).Var ≥ f.Coefs[k].Var
                · exact Tm.pos g4 (Tm.some fun e => by simp at e)
                · refine Tm.neg g4 ?_
                  by_cases g5 : f.Coefs[k].N = 0
                  · exact Tm.pos g5 (Tm.some fun e => by simp at e)
                  · refine Tm.neg g5 (sWithin_tm.bind fun r hr => Tm.some fun e => ?_)
                    have g6 := of_decide_eq_true (show decide (-1048576 ≤ f.Coefs[k].N ∧ f.Coefs[k].N ≤ 1048576) = true by rw [← hr]; simpa using e)
                    obtain ⟨_, _, _, g7, g8⟩ := (hJ (k - 1) (by omega) (by omega)).1
                    refine ⟨⟨by omega, by omega⟩, g5, g6, by omega, fun i hi hik => ?_⟩
                    by_cases ei : i = k - 1
                    · subst ei; omega
                    · have := g8 i hi (by omega); omega
              · refine Tm.neg g3 ?_
                by_cases g5 : f.Coefs[k].N = 0
                · exact Tm.pos g5 (Tm.some fun e => by simp at e)
                · refine Tm.neg g5 (sWithin_tm.bind fun r hr => Tm.some fun e => ?_)
                  have g6 := of_decide_eq_true (show decide (-1048576 ≤ f.Coefs[k].N ∧ f.Coefs[k].N ≤ 1048576) = true by rw [← hr]; simpa using e)
                  exact ⟨⟨by omega, by omega⟩, g5, g6, by omega, fun i hi hik => by omega⟩
        · cases b with
          | true => exact Tm.pos rfl (Tm.some rfl)
          | false =>
            have hk' := hb' rfl
            obtain ⟨⟨v0, v1⟩, n0, n1, _⟩ := hb' rfl
            refine Tm.neg (by simp) ?_
            refine Tm.bind (Q := fun o => match o with | .inl b0 => (b0 = bnd l bs f.Coefs[k].Var ∧ 0 ≤ b0) ∧ (f.Coefs[k].Var < (l.length : Int) → (∃ y, l[f.Coefs[k].Var.toNat]? = some y ∧ y.Ty = 1) ∧ f.Coefs[k].Var ∈ c.NotNull) | .inr z => z = -1) ?_ fun o ho => ?_
            · by_cases g1 : f.Coefs[k].Var ≥ (l.length : Int)
              · have e2 : iw (f.Coefs[k].Var - (l.length : Int)) = ((f.Coefs[k].Var.toNat - l.length : Nat) : Int) := by rw [iw_eq] <;> omega
                rw [e2]
                refine Tm.pos g1 (Tm.step (idx_n (by omega)) (Tm.some ⟨⟨?_, hb0 _ (List.getElem_mem _)⟩, fun g => by omega⟩))
                unfold bnd
                rw [if_pos g1, getD_n (by omega)]
              · obtain ⟨q, eq, hq⟩ := var_n (n := l.length) ⟨v0, by omega⟩
                refine Tm.neg g1 ?_
                rw [eq]
                refine Tm.bind (Q := fun b => b = false → l[q].Ty = 1 ∧ (q : Int) ∈ c.NotNull) (Tm.step (idx_n hq) ?_) fun b hbq => ?_
                · by_cases g2 : l[q].Ty ≠ 1
                  · exact Tm.pos g2 (Tm.some fun e => by simp at e)
                  · exact Tm.neg g2 ((sHas_tm hn).bind fun r hr => Tm.some fun e => ⟨by omega, of_decide_eq_true (show decide ((q : Int) ∈ c.NotNull) = true by rw [← hr]; simpa using e)⟩)
                · cases b with
                  | true => exact Tm.pos rfl (Tm.some rfl)
                  | false =>
                    obtain ⟨q1, q2⟩ := hbq rfl
                    refine Tm.neg (by simp) (Tm.some ⟨⟨?_, by decide⟩, fun _ => ⟨⟨_, by rw [Int.toNat_natCast]; exact List.getElem?_eq_getElem hq, q1⟩, q2⟩⟩)
                    unfold bnd
                    rw [if_neg (by omega)]
            · cases o with
              | inr z => exact Tm.some ho
              | inl b0 =>
                obtain ⟨⟨hbe, hbp⟩, hty⟩ := ho
                refine (sAbsE_tm (by omega)).eq ?_
                have hr0 : ((f.Coefs[k].N.natAbs : Nat) : Int) ≠ 0 := by omega
                have hsd : sdiv .i64 1152921504606846977 ((f.Coefs[k].N.natAbs : Nat) : Int) = some (1152921504606846977 / ((f.Coefs[k].N.natAbs : Nat) : Int)) := by
                  unfold sdiv
                  rw [if_neg hr0, Int.tdiv_eq_ediv_of_nonneg (by decide)]
                  congr 1
                  have h1 := Int.ediv_nonneg (a := 1152921504606846977) (b := ((f.Coefs[k].N.natAbs : Nat) : Int)) (by decide) (by omega)
                  have h2 := Int.ediv_le_self (a := 1152921504606846977) ((f.Coefs[k].N.natAbs : Nat) : Int) (by decide)
                  exact iw_eq (by omega) (by omega)
                refine Tm.step hsd ?_
                by_cases g3 : b0 > 1152921504606846977 / ((f.Coefs[k].N.natAbs : Nat) : Int)
                · exact Tm.pos g3 (Tm.some rfl)
                · refine Tm.neg g3 ((sAbsE_tm (by omega)).eq ?_)
                  have p0 : 0 ≤ ((f.Coefs[k].N.natAbs : Nat) : Int) * b0 := Int.mul_nonneg (by omega) hbp
                  have p1 : ((f.Coefs[k].N.natAbs : Nat) : Int) * b0 ≤ 1152921504606846977 := by
                    have h1 := (Int.le_ediv_iff_mul_le (a := b0) (b := 1152921504606846977) (c := ((f.Coefs[k].N.natAbs : Nat) : Int)) (by omega)).1 (by omega)
                    rw [Int.mul_comm]; exact h1
                  rw [iw_eq (z := ((f.Coefs[k].N.natAbs : Nat) : Int) * b0) (by omega) (by omega), iw_eq (z := s + ((f.Coefs[k].N.natAbs : Nat) : Int) * b0) (by omega) (by omega)]
                  by_cases g4 : s + ((f.Coefs[k].N.natAbs : Nat) : Int) * b0 > 1152921504606846977
                  · exact Tm.pos g4 (Tm.some rfl)
                  · refine Tm.neg g4 (Tm.some ⟨hlt, iw_n (by omega), ⟨?_, by dsimp only; omega, by dsimp only; omega⟩, fun j hj hjk => ?_⟩)
                    · dsimp only
                      rw [List.take_succ_eq_append_getElem hlt, sumB_snoc, ← hs, ← hbe]
                    · by_cases ejk : j = k
                      · subst ejk; exact ⟨hk', hty⟩
                      · exact hJ j hj (by omega)
      · have : k = f.Coefs.length := by omega
        subst this
        refine Tm.neg (by omega) (Tm.some ⟨⟨hc, ?_, fun x hx => ?_⟩, ⟨fun i j hi hj hij => ((hJ j hj hj).1).2.2.2.2 i hi hij, fun x hx => ?_, by rw [hs, List.take_length], hs1⟩⟩)
        · rcases Nat.eq_zero_or_pos f.Coefs.length with h0 | h0
          · omega
          · obtain ⟨⟨g1, _, _, g2, _⟩, _⟩ := hJ (f.Coefs.length - 1) (by omega) (by omega)
            omega
        · obtain ⟨j, hj, rfl⟩ := List.getElem_of_mem hx
          obtain ⟨⟨g1, g2, g3, _⟩, _⟩ := hJ j hj hj
          exact ⟨g1, g2, g3⟩
        · obtain ⟨j, hj, rfl⟩ := List.getElem_of_mem hx
          exact (hJ j hj hj).2
    · cases o with
      | inl s => exact Tm.some fun _ => ho
      | inr z =>
        have ho : z = -1 := ho
        subst ho
        exact Tm.some fun h => by omega
  · rw [decide_eq_false hc]
    exact Tm.pos rfl (Tm.some fun h => by omega)
structure AscOk (l : List Int) (n : Nat) : Prop where
  bd : ∀ x ∈ l, 0 ≤ x ∧ x < n
  asc : ∀ i j (hi : i < l.length) (hj : j < l.length), i < j → l[i] < l[j]
  len : l.length ≤ n
theorem sAscending_tm {l : List Int} {n : Nat} (hl : l.length ≤ Bg) : Tm (fun N => sAscending N l (n : Int)) (fun r => r = true → AscOk l n) := by
  have hb : Bg = 9223372036854775807 := rfl
  unfold sAscending
  refine Tm.bind (Q := fun o => match o with | .inl _ => AscOk l n | .inr z => z = false) ?_ fun o ho => ?_
  · refine Tm.up l.length (fun k s => s = (k : Int) ∧ ∀ j (hj : j < l.length), j < k → (0 ≤ l[j] ∧ l[j] < (n : Int)) ∧ (j : Int) ≤ l[j] ∧ ∀ i (hi : i < l.length), i < j → l[i] < l[j]) ⟨rfl, fun j _ hj => by omega⟩ ?_
    rintro k hk i ⟨rfl, hJ⟩
    unfold sAscending_b1
    rcases Nat.lt_or_ge k l.length with hlt | hge
    · refine Tm.pos (by omega) ?_
      refine Tm.bind (Q := fun b => b = false → (0 ≤ l[k] ∧ l[k] < (n : Int)) ∧ (k : Int) ≤ l[k] ∧ ∀ i (hi : i < l.length), i < k → l[i] < l[k]) ?_ fun b hb' => ?_
      · refine Tm.step (idx_n hlt) ?_
        by_cases g1 : l[k] < 0
        · exact Tm.pos g1 (Tm.some fun e => by simp at e)
        · refine Tm.neg g1 (Tm.step (idx_n hlt) ?_)
          by_cases g2 : l[k] ≥ (n : Int)
          · exact Tm.pos g2 (Tm.some fun e => by simp at e)
          · refine Tm.neg g2 ?_
            by_cases g3 : (k : Int) > 0
            · refine Tm.pos g3 ?_
              have e2 : iw ((k : Int) - 1) = ((k - 1 : Nat) : Int) := by rw [iw_eq] <;> omega
              rw [e2]
              refine Tm.step (idx_n (by omega)) (Tm.step (idx_n hlt) (Tm.some fun e => ?_))
              have e := of_decide_eq_false e
              obtain ⟨_, g5, g6⟩ := hJ (k - 1) (by omega) (by omega)
              refine ⟨⟨by omega, by omega⟩, by omega, fun i hi hik => ?_⟩
              by_cases ei : i = k - 1
              · subst ei; omega
              · have := g6 i hi (by omega); omega
            · refine Tm.neg g3 (Tm.some fun _ => ⟨⟨by omega, by omega⟩, by omega, fun i hi hik => by omega⟩)
      · cases b with
        | true => exact Tm.pos rfl (Tm.some rfl)
        | false =>
          refine Tm.neg (by simp) (Tm.some ⟨hlt, iw_n (by omega), fun j hj hjk => ?_⟩)
          by_cases ejk : j = k
          · subst ejk; exact hb' rfl
          · exact hJ j hj (by omega)
    · have : k = l.length := by omega
      subst this
      refine Tm.neg (by omega) (Tm.some ⟨fun x hx => ?_, fun i j hi hj hij => (hJ j hj hj).2.2 i hi hij, ?_⟩)
      · obtain ⟨j, hj, rfl⟩ := List.getElem_of_mem hx
        exact (hJ j hj hj).1
      · rcases Nat.eq_zero_or_pos l.length with h0 | h0
        · omega
        · obtain ⟨g1, g2, _⟩ := hJ (l.length - 1) (by omega) (by omega)
          omega
  · cases o with
    | inl _ => exact Tm.some fun _ => ho
    | inr z =>
      have ho : z = false := ho
      subst ho
      exact Tm.some fun h => by simp at h
end Go.D
set_option linter.unusedSimpArgs false
set_option linter.unusedVariables false
namespace Go.D
open Go Go.X
def prn (b : UInt8) : Bool := decide (32 ≤ b.toNat ∧ b.toNat ≤ 126)
def okT (t : TTest) : Bool := decide (0 ≤ t.Kind ∧ t.Kind ≤ 3 ∧ t.Text.length ≤ 16) && t.Text.all prn
theorem prn_bad {b : UInt8} : (decide ((UInt8.toNat b : Int) < 32 ∨ (UInt8.toNat b : Int) > 126)) = !prn b := by
  unfold prn
  by_cases h : 32 ≤ b.toNat ∧ b.toNat ≤ 126
  · rw [decide_eq_true h, decide_eq_false (by omega)]; rfl
  · rw [decide_eq_false h, decide_eq_true (by omega)]; rfl
theorem sTested_tm {t : TTest} (hl : t.Text.length ≤ Bg) : Tm (fun N => sTested N t) (· = okT t) := by
  have hb : Bg = 9223372036854775807 := rfl
  unfold sTested
  refine (Tm.allL (b := fun N => sTested_b1 N t) t.Text prn (by omega) (fun k hk => ?_) ?_).eq ?_
  · unfold sTested_b1
    refine Tm.pos (by omega) ?_
    simp only [idx_n hk, Option.bind_some, or_if, prn_bad]
    cases prn t.Text[k] <;> exact Tm.some rfl
  · unfold sTested_b1
    exact Tm.neg (by omega) (Tm.some rfl)
  · cases h : t.Text.all prn with
    | false => exact Tm.some (by simp [okT, h])
    | true =>
      by_cases h1 : t.Kind ≥ 0
      · refine Tm.pos h1 ?_
        by_cases h2 : t.Kind ≤ 3
        · refine Tm.pos h2 (Tm.some ?_)
          simp only [okT, h, Bool.and_true]
          exact decide_eq_decide.2 (by omega)
        · exact Tm.neg h2 (Tm.some (by simp [okT, h2]))
      · refine Tm.neg h1 (Tm.some ?_)
        have : ¬ 0 ≤ t.Kind := h1
        simp [okT, this]
theorem sPairs_tm {p : List Arr2Int} {c : RClause} {l : List RVar} (hn : c.NotNull.length ≤ Bg) (hp : p.length ≤ Bg) : Tm (fun N => sPairs N p c l) (fun r => r = true → ∀ e ∈ p, TxtOk c l e.e0 ∧ TxtOk c l e.e1 ∧ e.e0 < e.e1) := by
  have hb : Bg = 9223372036854775807 := rfl
  unfold sPairs
  refine Tm.bind (Q := fun o => match o with | .inl _ => ∀ e ∈ p, TxtOk c l e.e0 ∧ TxtOk c l e.e1 ∧ e.e0 < e.e1 | .inr z => z = false) ?_ fun o ho => ?_
  · refine Tm.up p.length (fun k s => s = (k : Int) ∧ ∀ j (hj : j < p.length), j < k → TxtOk c l p[j].e0 ∧ TxtOk c l p[j].e1 ∧ p[j].e0 < p[j].e1) ⟨rfl, fun j _ hj => by omega⟩ ?_
    rintro k hk i ⟨rfl, hJ⟩
    unfold sPairs_b1
    rcases Nat.lt_or_ge k p.length with hlt | hge
    · refine Tm.pos (by omega) ?_
      refine Tm.bind (Q := fun b => b = false → TxtOk c l p[k].e0 ∧ TxtOk c l p[k].e1 ∧ p[k].e0 < p[k].e1) ?_ fun b hb' => ?_
      · refine Tm.step (idx_n hlt) ((sText_tm hn).bind fun r hr => ?_)
        cases r with
        | false => exact Tm.pos rfl (Tm.some fun e => by simp at e)
        | true =>
          refine Tm.neg (by simp) (Tm.step (idx_n hlt) ((sText_tm hn).bind fun r2 hr2 => ?_))
          cases r2 with
          | false => exact Tm.pos rfl (Tm.some fun e => by simp at e)
          | true =>
            refine Tm.neg (by simp) (Tm.step (idx_n hlt) (Tm.step (idx_n hlt) (Tm.some fun e => ?_)))
            have e := of_decide_eq_false e
            exact ⟨hr rfl, hr2 rfl, by omega⟩
      · cases b with
        | true => exact Tm.pos rfl (Tm.some rfl)
        | false =>
          refine Tm.neg (by simp) (Tm.some ⟨hlt, iw_n (by omega), fun j hj hjk => ?_⟩)
          by_cases ejk : j = k
          · subst ejk; exact hb' rfl
          · exact hJ j hj (by omega)
    · refine Tm.neg (by omega) (Tm.some fun e he => ?_)
      obtain ⟨j, hj, rfl⟩ := List.getElem_of_mem he
      exact hJ j hj (by omega)
  · cases o with
    | inl _ => exact Tm.some fun _ => ho
    | inr z =>
      have ho : z = false := ho
      subst ho
      exact Tm.some fun h => by simp at h
def AuxOk (c : RClause) (l : List RVar) (i : Nat) (a : RAux) : Prop :=
  (a.By = 0 ∧ a.Of.Coefs = [] ∧ a.Of.Const = 0 ∧ TxtOk c l a.Text) ∨ (a.By ≠ 0 ∧ (1 ≤ a.By ∧ a.By ≤ 1000) ∧ a.Text = 0 ∧ FrmOk a.Of (l.length + i))
structure BdsOk (c : RClause) (l : List RVar) (bs : List Int) : Prop where
  len : bs.length = c.Auxiliary.length
  nn : ∀ b ∈ bs, 0 ≤ b
  at' : ∀ i (hi : i < c.Auxiliary.length), (c.Auxiliary[i].By = 0 ∧ bs.getD i 0 = 16) ∨ (c.Auxiliary[i].By ≠ 0 ∧ ∃ r, 0 ≤ r ∧ FrmX c.Auxiliary[i].Of c l (bs.take i) r ∧ bs.getD i 0 = r / c.Auxiliary[i].By + 1)
structure ClOk (c : RClause) (l : List RVar) : Prop where
  bx : ∃ bs, BdsOk c l bs ∧ ∀ k ∈ c.Ints, ∃ r, FrmX k.Linear c l bs r
  nl : AscOk c.Null l.length
  nn : AscOk c.NotNull l.length
  ax : ∀ i (hi : i < c.Auxiliary.length), AuxOk c l i c.Auxiliary[i]
  it : ∀ k ∈ c.Ints, FrmOk k.Linear (l.length + c.Auxiliary.length)
  ts : ∀ t ∈ c.Tests, okT t = true ∧ TxtOk c l t.Var
  sm : ∀ e ∈ c.Same, TxtOk c l e.e0 ∧ TxtOk c l e.e1 ∧ e.e0 < e.e1
  df : ∀ e ∈ c.Different, TxtOk c l e.e0 ∧ TxtOk c l e.e1 ∧ e.e0 < e.e1
structure LimC (c : RClause) : Prop where
  nl : c.Null.length ≤ Bg
  nn : c.NotNull.length ≤ Bg
  ax : ∀ a ∈ c.Auxiliary, a.Of.Coefs.length ≤ Bg
  it : ∀ k ∈ c.Ints, k.Linear.Coefs.length ≤ Bg
  ts : ∀ t ∈ c.Tests, t.Text.length ≤ Bg
structure SmC (c : RClause) : Prop where
  ax : c.Auxiliary.length ≤ 80
  it : c.Ints.length ≤ 80
  ts : c.Tests.length ≤ 80
  sm : c.Same.length ≤ 80
  df : c.Different.length ≤ 80
theorem sValid_b1_tm {c : RClause} {l : List RVar} (hc : LimC c) (hs : SmC c) (hl : l.length ≤ 10) :
    Tm (fun N => loopM (sValid_b1 N c l) N (([] : List Int), 0)) (fun o => match o with | .inl bs => BdsOk c l bs ∧ ∀ i (hi : i < c.Auxiliary.length), AuxOk c l i c.Auxiliary[i] | .inr z => z = false) := by
  have hb : Bg = 9223372036854775807 := rfl
  have hax := hs.ax
  refine Tm.up c.Auxiliary.length (fun k s => s.2 = (k : Int) ∧ (s.1.length = k ∧ (∀ b ∈ s.1, 0 ≤ b) ∧ ∀ i (hi : i < c.Auxiliary.length), i < k → (c.Auxiliary[i].By = 0 ∧ s.1.getD i 0 = 16) ∨ (c.Auxiliary[i].By ≠ 0 ∧ ∃ r, 0 ≤ r ∧ FrmX c.Auxiliary[i].Of c l (s.1.take i) r ∧ s.1.getD i 0 = r / c.Auxiliary[i].By + 1)) ∧ ∀ j (hj : j < c.Auxiliary.length), j < k → AuxOk c l j c.Auxiliary[j]) ⟨rfl, ⟨rfl, fun b hb => by (cases hb), fun i _ hi => by omega⟩, fun j _ hj => by omega⟩ ?_
  rintro k hk ⟨s, i⟩ ⟨hi, ⟨hsl, hsn, hsb⟩, hJ⟩
  dsimp only at hi hsl hsn hsb hJ; subst hi
  have grow : ∀ (b : Int), 0 ≤ b → (∀ (hlt : k < c.Auxiliary.length), (c.Auxiliary[k].By = 0 ∧ b = 16) ∨ (c.Auxiliary[k].By ≠ 0 ∧ ∃ r, 0 ≤ r ∧ FrmX c.Auxiliary[k].Of c l s r ∧ b = r / c.Auxiliary[k].By + 1)) → (s ++ [b]).length = k + 1 ∧ (∀ b' ∈ s ++ [b], 0 ≤ b') ∧ ∀ i (hi : i < c.Auxiliary.length), i < k + 1 → (c.Auxiliary[i].By = 0 ∧ (s ++ [b]).getD i 0 = 16) ∨ (c.Auxiliary[i].By ≠ 0 ∧ ∃ r, 0 ≤ r ∧ FrmX c.Auxiliary[i].Of c l ((s ++ [b]).take i) r ∧ (s ++ [b]).getD i 0 = r / c.Auxiliary[i].By + 1) := by
    intro b b0 hbk
    refine ⟨by simp [hsl], fun b' hb' => ?_, fun i hi hik => ?_⟩
    · rcases List.mem_append.1 hb' with h | h
      · exact hsn _ h
      · rw [List.mem_singleton.1 h]; exact b0
    · rcases Nat.lt_or_ge i k with h | h
      · have e1 : (s ++ [b]).getD i 0 = s.getD i 0 := by rw [List.getD_eq_getElem?_getD, List.getD_eq_getElem?_getD, List.getElem?_append_left (by omega)]
        have e2 : (s ++ [b]).take i = s.take i := by rw [List.take_append_of_le_length (by omega)]
        rw [e1, e2]; exact hsb i hi h
      · have : i = k := by omega
        subst this
        have e1 : (s ++ [b]).getD i 0 = b := by rw [List.getD_eq_getElem?_getD, List.getElem?_append_right (by omega)]; simp [hsl]
        have e2 : (s ++ [b]).take i = s := by rw [List.take_append_of_le_length (by omega), List.take_of_length_le (by omega)]
        rw [e1, e2]; exact hbk hi
  unfold sValid_b1
  dsimp only
  rcases Nat.lt_or_ge k c.Auxiliary.length with hlt | hge
  · refine Tm.pos (by omega) (Tm.step (idx_n hlt) ?_)
    have hlim := hc.ax _ (List.getElem_mem hlt)
    have hnext : AuxOk c l k c.Auxiliary[k] → ∀ j (hj : j < c.Auxiliary.length), j < k + 1 → AuxOk c l j c.Auxiliary[j] := fun hk' j hj hjk => by
      by_cases ejk : j = k
      · subst ejk; exact hk'
      · exact hJ j hj (by omega)
    by_cases g1 : c.Auxiliary[k].By = 0
    · refine Tm.pos g1 ?_
      refine Tm.bind (Q := fun b => b = false → AuxOk c l k c.Auxiliary[k]) ?_ fun b hb' => ?_
      · by_cases g2 : (c.Auxiliary[k].Of.Coefs.length : Int) > 0
        · exact Tm.pos g2 (Tm.some fun e => by simp at e)
        · refine Tm.neg g2 ?_
          by_cases g3 : c.Auxiliary[k].Of.Const ≠ 0
          · exact Tm.pos g3 (Tm.some fun e => by simp at e)
          · refine Tm.neg g3 ((sText_tm hc.nn).bind fun r hr => Tm.some fun e => ?_)
            exact .inl ⟨g1, List.eq_nil_of_length_eq_zero (by omega), by omega, hr (by simpa using e)⟩
      · cases b with
        | true => exact Tm.pos rfl (Tm.some rfl)
        | false =>
          refine Tm.neg (by simp) ?_
          rw [apnd_ok (by simp only [List.length_singleton]; omega) (by decide)]
          exact Tm.some ⟨hlt, iw_n (by omega), grow 16 (by decide) (fun _ => .inl ⟨g1, rfl⟩), hnext (hb' rfl)⟩
    · refine Tm.neg g1 ((sForm_tm hc.nn hlim (by omega) (by omega) hsn).bind fun r hr => ?_)
      refine Tm.bind (Q := fun b => b = false → AuxOk c l k c.Auxiliary[k] ∧ FrmX c.Auxiliary[k].Of c l s r ∧ 0 ≤ r ∧ 1 ≤ c.Auxiliary[k].By) ?_ fun b hb' => ?_
      · refine sWithin_tm.eq ?_
        by_cases g2 : 1 ≤ c.Auxiliary[k].By ∧ c.Auxiliary[k].By ≤ 1000
        · rw [decide_eq_true g2]
          refine Tm.neg (by simp) ?_
          by_cases g3 : c.Auxiliary[k].Text ≠ 0
          · exact Tm.pos g3 (Tm.some fun e => by simp at e)
          · refine Tm.neg g3 (Tm.some fun e => ?_)
            have e := of_decide_eq_false e
            obtain ⟨h2, h3⟩ := hr (by omega)
            refine ⟨.inr ⟨g1, g2, by omega, ?_⟩, h3, by omega, g2.1⟩
            rw [hsl] at h2; exact h2
        · rw [decide_eq_false g2]
          exact Tm.pos rfl (Tm.some fun e => by simp at e)
      · cases b with
        | true => exact Tm.pos rfl (Tm.some rfl)
        | false =>
          refine Tm.neg (by simp) ?_
          obtain ⟨q1, q2, q3, q4⟩ := hb' rfl
          have q5 := q2.le
          have q6 := Int.ediv_nonneg (a := r) (b := c.Auxiliary[k].By) q3 (by omega)
          have q7 := Int.ediv_le_self (a := r) c.Auxiliary[k].By q3
          have hsd : sdiv .i64 r c.Auxiliary[k].By = some (r / c.Auxiliary[k].By) := by
            unfold sdiv
            rw [if_neg g1, Int.tdiv_eq_ediv_of_nonneg q3]
            congr 1
            exact iw_eq (by omega) (by omega)
          refine Tm.step hsd ?_
          rw [apnd_ok (by simp only [List.length_singleton]; omega) (by decide), iw_eq (by omega) (by omega)]
          exact Tm.some ⟨hlt, iw_n (by omega), grow _ (by omega) (fun _ => .inr ⟨g1, r, q3, q2, rfl⟩), hnext q1⟩
  · have : k = c.Auxiliary.length := by omega
    subst this
    exact Tm.neg (by omega) (Tm.some ⟨⟨hsl, hsn, fun i hi => hsb i hi hi⟩, fun j hj => hJ j hj hj⟩)
theorem sValid_tm {c : RClause} {l : List RVar} (hc : LimC c) (hs : SmC c) (hl : l.length ≤ 10) : Tm (fun N => sValid N c l) (fun r => r = true → ClOk c l) := by
  have hb : Bg = 9223372036854775807 := rfl
  have := hs.ax; have := hs.it; have := hs.ts; have := hs.sm; have := hs.df
  unfold sValid
  refine Tm.bind (Q := fun b => b = false → AscOk c.Null l.length ∧ AscOk c.NotNull l.length) ?_ fun b hb' => ?_
  · refine (sAscending_tm hc.nl).bind fun r hr => ?_
    cases r with
    | false => exact Tm.pos rfl (Tm.some fun e => by simp at e)
    | true => exact Tm.neg (by simp) ((sAscending_tm hc.nn).bind fun r2 hr2 => Tm.some fun e => ⟨hr rfl, hr2 (by simpa using e)⟩)
  · cases b with
    | true => exact Tm.pos rfl (Tm.some fun e => by simp at e)
    | false =>
      obtain ⟨q1, q2⟩ := hb' rfl
      refine Tm.neg (by simp) ((sValid_b1_tm hc hs hl).bind fun o ho => ?_)
      cases o with
      | inr z =>
        have ho : z = false := ho
        subst ho
        exact Tm.some fun h => by simp at h
      | inl bs =>
        obtain ⟨hbo, hax⟩ := ho
        have hbl := hbo.len
        refine Tm.bind (Q := fun o => match o with | .inl _ => ∀ k ∈ c.Ints, FrmOk k.Linear (l.length + c.Auxiliary.length) ∧ ∃ r, FrmX k.Linear c l bs r | .inr z => z = false) ?_ fun o ho => ?_
        · refine Tm.up c.Ints.length (fun k s => s = (k : Int) ∧ ∀ j (hj : j < c.Ints.length), j < k → FrmOk c.Ints[j].Linear (l.length + c.Auxiliary.length) ∧ ∃ r, FrmX c.Ints[j].Linear c l bs r) ⟨rfl, fun j _ hj => by omega⟩ ?_
          rintro k hk i ⟨rfl, hJ⟩
          unfold sValid_b2
          rcases Nat.lt_or_ge k c.Ints.length with hlt | hge
          · refine Tm.pos (by omega) (Tm.step (idx_n hlt) ((sForm_tm hc.nn (hc.it _ (List.getElem_mem hlt)) (by omega) (by omega) hbo.nn).bind fun r hr => ?_))
            by_cases g : r < 0
            · exact Tm.pos g (Tm.some rfl)
            · refine Tm.neg g (Tm.some ⟨hlt, iw_n (by omega), fun j hj hjk => ?_⟩)
              by_cases ejk : j = k
              · subst ejk; obtain ⟨q1, q2⟩ := hr (by omega); exact ⟨hbl ▸ q1, r, q2⟩
              · exact hJ j hj (by omega)
          · refine Tm.neg (by omega) (Tm.some fun x hx => ?_)
            obtain ⟨j, hj, rfl⟩ := List.getElem_of_mem hx
            exact hJ j hj (by omega)
        · cases o with
          | inr z =>
            have ho : z = false := ho
            subst ho
            exact Tm.some fun h => by simp at h
          | inl _ =>
            have hit : ∀ k ∈ c.Ints, FrmOk k.Linear (l.length + c.Auxiliary.length) ∧ ∃ r, FrmX k.Linear c l bs r := ho
            refine Tm.bind (Q := fun o => match o with | .inl _ => ∀ t ∈ c.Tests, okT t = true ∧ TxtOk c l t.Var | .inr z => z = false) ?_ fun o ho => ?_
            · refine Tm.up c.Tests.length (fun k s => s = (k : Int) ∧ ∀ j (hj : j < c.Tests.length), j < k → okT c.Tests[j] = true ∧ TxtOk c l c.Tests[j].Var) ⟨rfl, fun j _ hj => by omega⟩ ?_
              rintro k hk i ⟨rfl, hJ⟩
              unfold sValid_b3
              rcases Nat.lt_or_ge k c.Tests.length with hlt | hge
              · refine Tm.pos (by omega) ?_
                refine Tm.bind (Q := fun b => b = false → okT c.Tests[k] = true ∧ TxtOk c l c.Tests[k].Var) ?_ fun b hb' => ?_
                · refine Tm.step (idx_n hlt) ((sTested_tm (hc.ts _ (List.getElem_mem hlt))).bind fun r hr => ?_)
                  cases r with
                  | false => exact Tm.pos rfl (Tm.some fun e => by simp at e)
                  | true => exact Tm.neg (by simp) (Tm.step (idx_n hlt) ((sText_tm hc.nn).bind fun r2 hr2 => Tm.some fun e => ⟨hr.symm, hr2 (by simpa using e)⟩))
                · cases b with
                  | true => exact Tm.pos rfl (Tm.some rfl)
                  | false =>
                    refine Tm.neg (by simp) (Tm.some ⟨hlt, iw_n (by omega), fun j hj hjk => ?_⟩)
                    by_cases ejk : j = k
                    · subst ejk; exact hb' rfl
                    · exact hJ j hj (by omega)
              · refine Tm.neg (by omega) (Tm.some fun x hx => ?_)
                obtain ⟨j, hj, rfl⟩ := List.getElem_of_mem hx
                exact hJ j hj (by omega)
            · cases o with
              | inr z =>
                have ho : z = false := ho
                subst ho
                exact Tm.some fun h => by simp at h
              | inl _ =>
                have hts : ∀ t ∈ c.Tests, okT t = true ∧ TxtOk c l t.Var := ho
                refine (sPairs_tm hc.nn (by omega)).bind fun r hr => ?_
                cases r with
                | false => exact Tm.neg (by simp) (Tm.some fun e => by simp at e)
                | true =>
                  refine Tm.pos rfl ((sPairs_tm hc.nn (by omega)).bind fun r2 hr2 => Tm.some fun e => ?_)
                  exact ⟨⟨bs, hbo, fun k hk => (hit k hk).2⟩, q1, q2, hax, fun k hk => (hit k hk).1, hts, hr rfl, hr2 e⟩
structure LwC (c : RClause) : Prop where
  nl : c.Null.length ≤ 17592186043904
  nn : c.NotNull.length ≤ 17592186043904
  ax : c.Auxiliary.length ≤ 17592186043904
  it : c.Ints.length ≤ 17592186043904
  ts : c.Tests.length ≤ 17592186043904
  sm : c.Same.length ≤ 17592186043904
  df : c.Different.length ≤ 17592186043904
theorem sFew_tm {c : RClause} (h : LwC c) : Tm (fun N => sFew N c) (fun r => r = true → SmC c) := by
  have := h.nl; have := h.nn; have := h.ax; have := h.it; have := h.ts; have := h.sm; have := h.df
  unfold sFew
  have e1 : iw ((c.Null.length : Int) + (c.NotNull.length : Int)) = ((c.Null.length + c.NotNull.length : Nat) : Int) := by rw [iw_eq] <;> omega
  have e2 : iw (((c.Null.length + c.NotNull.length : Nat) : Int) + (c.Auxiliary.length : Int)) = ((c.Null.length + c.NotNull.length + c.Auxiliary.length : Nat) : Int) := by rw [iw_eq] <;> omega
  have e3 : iw (((c.Null.length + c.NotNull.length + c.Auxiliary.length : Nat) : Int) + (c.Ints.length : Int)) = ((c.Null.length + c.NotNull.length + c.Auxiliary.length + c.Ints.length : Nat) : Int) := by rw [iw_eq] <;> omega
  have e4 : iw (((c.Null.length + c.NotNull.length + c.Auxiliary.length + c.Ints.length : Nat) : Int) + (c.Tests.length : Int)) = ((c.Null.length + c.NotNull.length + c.Auxiliary.length + c.Ints.length + c.Tests.length : Nat) : Int) := by rw [iw_eq] <;> omega
  have e5 : iw (((c.Null.length + c.NotNull.length + c.Auxiliary.length + c.Ints.length + c.Tests.length : Nat) : Int) + (c.Same.length : Int)) = ((c.Null.length + c.NotNull.length + c.Auxiliary.length + c.Ints.length + c.Tests.length + c.Same.length : Nat) : Int) := by rw [iw_eq] <;> omega
  have e6 : iw (((c.Null.length + c.NotNull.length + c.Auxiliary.length + c.Ints.length + c.Tests.length + c.Same.length : Nat) : Int) + (c.Different.length : Int)) = ((c.Null.length + c.NotNull.length + c.Auxiliary.length + c.Ints.length + c.Tests.length + c.Same.length + c.Different.length : Nat) : Int) := by rw [iw_eq] <;> omega
  rw [e1, e2, e3, e4, e5, e6]
  by_cases hz : ((c.Null.length + c.NotNull.length + c.Auxiliary.length + c.Ints.length + c.Tests.length + c.Same.length + c.Different.length : Nat) : Int) > 80
  · exact Tm.pos hz (Tm.some fun e => by simp at e)
  · refine Tm.neg hz ?_
    have hsm : SmC c := ⟨by omega, by omega, by omega, by omega, by omega⟩
    refine Tm.bind (Q := fun _ => True) ?_ fun n1 _ => ?_
    · refine Tm.up c.Auxiliary.length (fun k s => s.2 = (k : Int)) rfl ?_
      rintro k hk ⟨s, i⟩ hi
      dsimp only at hi; subst hi
      unfold sFew_b1
      dsimp only
      rcases Nat.lt_or_ge k c.Auxiliary.length with hlt | hge
      · exact Tm.pos (by omega) (Tm.step (idx_n hlt) (Tm.some ⟨hlt, iw_n (by omega)⟩))
      · exact Tm.neg (by omega) (Tm.some trivial)
    · refine Tm.bind (Q := fun _ => True) ?_ fun n2 _ => ?_
      · refine Tm.up c.Ints.length (fun k s => s.2 = (k : Int)) rfl ?_
        rintro k hk ⟨s, i⟩ hi
        dsimp only at hi; subst hi
        unfold sFew_b2
        dsimp only
        rcases Nat.lt_or_ge k c.Ints.length with hlt | hge
        · exact Tm.pos (by omega) (Tm.step (idx_n hlt) (Tm.some ⟨hlt, iw_n (by omega)⟩))
        · exact Tm.neg (by omega) (Tm.some trivial)
      · refine Tm.bind (Q := fun _ => True) ?_ fun o _ => ?_
        · refine Tm.up c.Tests.length (fun k s => s = (k : Int)) rfl ?_
          rintro k hk i rfl
          unfold sFew_b3
          rcases Nat.lt_or_ge k c.Tests.length with hlt | hge
          · refine Tm.pos (by omega) (Tm.step (idx_n hlt) ?_)
            by_cases g : (c.Tests[k].Text.length : Int) > 40
            · exact Tm.pos g (Tm.some trivial)
            · exact Tm.neg g (Tm.some ⟨hlt, iw_n (by omega)⟩)
          · exact Tm.neg (by omega) (Tm.some trivial)
        · cases o with
          | inl _ => exact Tm.some fun _ => hsm
          | inr z => exact Tm.some fun _ => hsm
end Go.D
set_option linter.unusedSimpArgs false
set_option linter.unusedVariables false
namespace Go.D
open Go Go.X
def okS (k : Int) : Bool := decide (0 ≤ k ∧ k ≤ 16)
def okV (n : Nat) (v : Int) : Bool := decide (0 ≤ v ∧ v < n)
def ixB {α : Type} (f : α → Option Bool) (s : List α) : Int → Option (Stp Int (Sum Unit Int)) := fun x =>
  if (x : Int) < (List.length s : Int) then
    (idx s x).bind fun y => (f y).bind fun r => if r = true then some (Stp.done (Sum.inr x)) else some (Stp.next (iw (x + 1)))
  else some (Stp.done (Sum.inl ()))
def ixF {α : Type} (N : Nat) (s : List α) (f : α → Option Bool) : Option Int :=
  (loopM (ixB f s) N 0).bind fun ss => match ss with
    | Sum.inl _ => some (-1)
    | Sum.inr z => some z
theorem indexInt_eq (N : Nat) (s : List Int) (f : Int → Option Bool) : indexInt N s f = ixF N s f := rfl
theorem ixF_tm {α : Type} {s : List α} {f : Nat → α → Option Bool} {g : α → Bool} (hn : s.length ≤ Bg) (h : ∀ x ∈ s, Tm (fun N => f N x) (· = g x)) : Tm (fun N => ixF N s (f N)) (fun r => decide (r ≥ 0) = s.any g) := by
  have hb : Bg = 9223372036854775807 := rfl
  unfold ixF
  refine (Tm.findL (b := fun N => ixB (f N) s) s g (fun k => (k : Int)) (by omega) (fun k hk => ?_) ?_).bind fun o ho => ?_
  · unfold ixB
    refine Tm.pos (by omega) (Tm.step (idx_n hk) ((h _ (List.getElem_mem hk)).eq ?_))
    cases g s[k] <;> exact Tm.some rfl
  · unfold ixB
    exact Tm.neg (by omega) (Tm.some rfl)
  · rcases ho with ⟨h1, rfl⟩ | ⟨k, hk, h1, _, rfl⟩
    · refine Tm.some ?_
      rw [h1]; rfl
    · refine Tm.some ?_
      rw [List.any_eq_true.2 ⟨_, List.getElem_mem hk, h1⟩]
      exact decide_eq_true (by omega)
theorem containsInt_tm {s : List Int} {f : Nat → Int → Option Bool} {g : Int → Bool} (hn : s.length ≤ Bg) (h : ∀ x ∈ s, Tm (fun N => f N x) (· = g x)) : Tm (fun N => containsInt N s (f N)) (· = s.any g) := by
  unfold containsInt
  simp only [indexInt_eq]
  exact (ixF_tm hn h).bind fun r hr => Tm.some hr
structure Lim (p : TProb) : Prop where
  a : p.Min.length ≤ Bg
  b : p.Max.length ≤ Bg
  c : p.Tests.length ≤ Bg
  d : p.Same.length ≤ Bg
  e : p.Different.length ≤ Bg
  f : ∀ t ∈ p.Tests, t.Text.length ≤ Bg
theorem not_any_not {α : Type} {l : List α} {f : α → Bool} : (!l.any fun x => !f x) = l.all f := by
  rw [Bool.eq_iff_iff]
  simp
end Go.D
set_option linter.unusedSimpArgs false
set_option linter.unusedVariables false
namespace Go.D
open Go Go.X
def bits (S : Nat → Bool) : Nat → Nat
  | 0 => 0
  | n + 1 => bits S n ||| (if S n then 2 ^ n else 0)
theorem bits_test {S : Nat → Bool} : ∀ {n i : Nat}, (bits S n).testBit i = (decide (i < n) && S i)
  | 0, i => by simp [bits]
  | n + 1, i => by
    rw [bits, Nat.testBit_or, bits_test]
    by_cases hS : S n
    · rw [if_pos hS, Nat.testBit_two_pow]
      by_cases hi : i = n
      · subst hi; simp [hS]
      · have h1 : decide (n = i) = false := decide_eq_false (fun h => hi h.symm)
        have h2 : decide (i < n + 1) = decide (i < n) := decide_eq_decide.2 (by omega)
        rw [h1, h2]; simp
    · rw [if_neg hS]
      by_cases hi : i = n
      · subst hi; simp [hS]
      · have h2 : decide (i < n + 1) = decide (i < n) := decide_eq_decide.2 (by omega)
        rw [h2]; simp
theorem bits_lt {S : Nat → Bool} {n : Nat} : bits S n < 2 ^ n := Nat.lt_pow_two_of_testBit _ fun i hi => by
  rw [bits_test, decide_eq_false (by omega)]; rfl
theorem bits_eq {S : Nat → Bool} {n m : Nat} (hm : m < 2 ^ n) (h : ∀ i, i < n → m.testBit i = S i) : m = bits S n := by
  apply Nat.eq_of_testBit_eq
  intro i
  rw [bits_test]
  by_cases hi : i < n
  · rw [decide_eq_true hi, h i hi]; rfl
  · rw [decide_eq_false hi, Nat.testBit_lt_two_pow (Nat.lt_of_lt_of_le hm (Nat.pow_le_pow_right (by decide) (by omega)))]; rfl
theorem bshr_u32 {x : Int} {n : Nat} (h : n ≤ 32) : bshr .u32 x n = x / 2 ^ n := by
  unfold bshr
  rw [show min ((n : Int)).toNat IntKind.u32.bits = n by show min _ 32 = n; omega]
  exact Int.fdiv_eq_ediv_of_nonneg _ (Int.le_of_lt (Int.pow_pos (by decide)))
theorem u32_n {a : Nat} (h : a < 4294967296) : IntKind.u32.wrap (a : Int) = (a : Int) := wq_u32 rfl h
theorem bt {m i : Nat} (hm : m < 4294967296) (hi : i ≤ 31) : (band .u32 (bshr .u32 (m : Int) (i : Int)) 1 : Int) = if m.testBit i then 1 else 0 := by
  rw [bshr_u32 (by omega)]
  have e : ((m : Int) / 2 ^ i) = ((m / 2 ^ i : Nat) : Int) := by simp
  have hle : m / 2 ^ i < 4294967296 := Nat.lt_of_le_of_lt (Nat.div_le_self _ _) hm
  rw [e, show (1 : Int) = ((1 : Nat) : Int) from rfl, band_nat (u32_n hle) (u32_n (by decide)), Nat.and_one_is_mod, Nat.testBit_eq_decide_div_mod_eq]
  by_cases h : m / 2 ^ i % 2 = 1
  · rw [h]; simp
  · have : m / 2 ^ i % 2 = 0 := by omega
    rw [this]; simp
theorem bsh {i : Nat} (hi : i ≤ 31) : bshl .u32 1 (i : Int) = ((2 ^ i : Nat) : Int) := by
  unfold bshl
  rw [show min ((i : Int)).toNat IntKind.u32.bits = i by show min _ 32 = i; omega]
  have h : 2 ^ i < 4294967296 := Nat.lt_of_le_of_lt (Nat.pow_le_pow_right (by decide) hi) (by decide)
  rw [Int.one_mul, show ((2 : Int) ^ i) = ((2 ^ i : Nat) : Int) by simp]
  exact u32_n h
theorem bs {m i n : Nat} (hm : m < 2 ^ (n + 1)) (hi : i ≤ n) (hn : n ≤ 16) : bor .u32 (m : Int) (bshl .u32 1 (i : Int)) = ((m ||| 2 ^ i : Nat) : Int) ∧ m ||| 2 ^ i < 2 ^ (n + 1) := by
  have h17 : 2 ^ (n + 1) ≤ 2 ^ 17 := Nat.pow_le_pow_right (by decide) (by omega)
  have h2 : 2 ^ i < 2 ^ (n + 1) := Nat.pow_lt_pow_right (by decide) (by omega)
  refine ⟨?_, Nat.or_lt_two_pow hm h2⟩
  rw [bsh (by omega), bor_nat (u32_n (by omega)) (u32_n (by omega))]
theorem bs_test {m i j : Nat} : (m ||| 2 ^ i).testBit j = (m.testBit j || decide (i = j)) := by rw [Nat.testBit_or, Nat.testBit_two_pow]
def isP (o : Option UInt8) : Bool := decide (o = some 37)
def clo (p : List UInt8) (S : Nat → Bool) : Nat → Bool
  | 0 => S 0
  | i + 1 => S (i + 1) || (clo p S i && isP p[i]?)
def hit (o : Option UInt8) (c : Int) : Bool := match o with
  | some b => decide (b ≠ 37) && (decide (b = 95) || decide ((b.toNat : Int) = c))
  | none => false
def nxs (p : List UInt8) (S : Nat → Bool) (c : Int) : Nat → Bool := fun j => (S j && isP p[j]?) || (match j with | 0 => false | i + 1 => S i && hit p[i]? c)
theorem u8_37 {b : UInt8} : ((b.toNat : Int) = 37) ↔ b = 37 := by
  constructor
  · intro h; apply UInt8.toNat_inj.1; show b.toNat = 37; omega
  · rintro rfl; rfl
theorem u8_95 {b : UInt8} : ((b.toNat : Int) = 95) ↔ b = 95 := by
  constructor
  · intro h; apply UInt8.toNat_inj.1; show b.toNat = 95; omega
  · rintro rfl; rfl
theorem pClosure_tm {p : List UInt8} {m : Nat} (hp : p.length ≤ 16) (hm : m < 2 ^ (p.length + 1)) : Tm (fun N => pClosure N p (m : Int)) (· = ((bits (clo p m.testBit) (p.length + 1) : Nat) : Int)) := by
  unfold pClosure
  have h17 : 2 ^ (p.length + 1) ≤ 2 ^ 17 := Nat.pow_le_pow_right (by decide) (by omega)
  refine Tm.eq (a := ((bits (clo p m.testBit) (p.length + 1) : Nat) : Int)) ?_ (Tm.some rfl)
  refine Tm.up p.length (fun k s => s.2 = (k : Int) ∧ ∃ a : Nat, s.1 = (a : Int) ∧ a < 2 ^ (p.length + 1) ∧ (∀ i, i ≤ k → a.testBit i = clo p m.testBit i) ∧ (∀ i, k < i → a.testBit i = m.testBit i)) ⟨rfl, m, rfl, hm, fun i hi => by rw [Nat.le_zero.1 hi]; rfl, fun _ _ => rfl⟩ ?_
  rintro k hk ⟨s, i⟩ ⟨hi, a, ha, hal, h1, h2⟩
  dsimp only at hi ha; subst hi; subst ha
  unfold pClosure_b1
  rcases Nat.lt_or_ge k p.length with hlt | hge
  · refine Tm.pos (by omega) ?_
    simp only [idx_n hlt, Option.bind_some]
    by_cases hp1 : ((p[k]).toNat : Int) = 37
    · have hp2 : isP p[k]? = true := by rw [List.getElem?_eq_getElem hlt, u8_37.1 hp1]; rfl
      simp only [if_pos hp1, chk_ok (show ¬ (k : Int) < 0 by omega), Option.bind_some, bt (m := a) (i := k) (by omega) (by omega)]
      by_cases hb : a.testBit k = true
      · simp only [hb, if_true, decide_true, iw_n (k := k) (by omega), chk_ok (show ¬ ((k + 1 : Nat) : Int) < 0 by omega), Option.bind_some]
        obtain ⟨e1, e2⟩ := bs (n := p.length) hal (show k + 1 ≤ p.length by omega) hp
        rw [e1]
        refine Tm.some ⟨hlt, rfl, _, rfl, e2, fun i hi => ?_, fun i hi => ?_⟩
        · rw [bs_test]
          by_cases hik : i ≤ k
          · rw [h1 i hik, decide_eq_false (by omega)]; simp
          · obtain rfl : i = k + 1 := by omega
            have := h1 k (Nat.le_refl _)
            rw [decide_eq_true rfl, clo, ← this, hb, hp2]; simp
        · rw [bs_test, h2 i (by omega), decide_eq_false (by omega)]; simp
      · have hb' : a.testBit k = false := by simpa using hb
        simp only [hb', Bool.false_eq_true, if_false, decide_eq_false (show ¬ (0 : Int) = 1 by decide), Option.bind_some]
        refine Tm.some ⟨hlt, iw_n (by omega), a, rfl, hal, fun i hi => ?_, fun i hi => h2 i (by omega)⟩
        by_cases hik : i ≤ k
        · exact h1 i hik
        · obtain rfl : i = k + 1 := by omega
          have := h1 k (Nat.le_refl _)
          rw [clo, ← this, hb', h2 (k + 1) (by omega)]; simp
    · have hp2 : isP p[k]? = false := by
        rw [List.getElem?_eq_getElem hlt]
        refine decide_eq_false fun h => hp1 (u8_37.2 (Option.some.inj h))
      simp only [if_neg hp1, Option.bind_some, Bool.false_eq_true, if_false]
      refine Tm.some ⟨hlt, iw_n (by omega), a, rfl, hal, fun i hi => ?_, fun i hi => h2 i (by omega)⟩
      by_cases hik : i ≤ k
      · exact h1 i hik
      · obtain rfl : i = k + 1 := by omega
        rw [clo, hp2, h2 (k + 1) (by omega)]; simp
  · refine Tm.neg (by omega) (Tm.some ?_)
    have : k = p.length := by omega
    subst this
    show (a : Int) = _
    rw [bits_eq hal fun i hi => h1 i (by omega)]
structure StOk (t : TTest) (s : Int) : Prop where
  lk : t.Kind = 1 → ∃ m : Nat, s = (m : Int) ∧ m < 2 ^ (t.Text.length + 1)
  cm : t.Kind ≠ 1 → s = 100 ∨ s = 101 ∨ (0 ≤ s ∧ s ≤ t.Text.length)
def sp0 (t : TTest) : Int := if t.Kind = 1 then ((bits (clo t.Text (Nat.testBit 1)) (t.Text.length + 1) : Nat) : Int) else 0
def cmpN (x : List UInt8) (s c : Int) : Int := if s ≥ 100 then s else if s = x.length ∨ c > ((x.getD s.toNat 0).toNat : Int) then 101 else if c < ((x.getD s.toNat 0).toNat : Int) then 100 else s + 1
def spN (t : TTest) (s c : Int) : Int := if t.Kind = 1 then ((bits (clo t.Text (Nat.testBit (bits (nxs t.Text (Nat.testBit s.toNat) c) (t.Text.length + 1)))) (t.Text.length + 1) : Nat) : Int) else cmpN t.Text s c
def spF (t : TTest) (s : Int) : Bool :=
  let ok := if t.Kind = 1 then s.toNat.testBit t.Text.length else if t.Kind = 0 then decide (s = t.Text.length) else if t.Kind = 2 then decide (s = 100 ∨ s < t.Text.length) else decide (s = 100 ∨ s ≤ t.Text.length)
  !(ok == t.Negated)
theorem okT_len {t : TTest} (h : okT t = true) : 0 ≤ t.Kind ∧ t.Kind ≤ 3 ∧ t.Text.length ≤ 16 := by
  simp only [okT, Bool.and_eq_true, decide_eq_true_eq] at h; exact h.1
theorem st0_ok {t : TTest} (h : okT t = true) : StOk t (sp0 t) := by
  constructor
  · intro hk; unfold sp0; rw [if_pos hk]; exact ⟨_, rfl, bits_lt⟩
  · intro hk; unfold sp0; rw [if_neg hk]; exact .inr (.inr ⟨by decide, by omega⟩)
theorem stN_ok {t : TTest} {s : Int} (c : Int) (h : okT t = true) (hs : StOk t s) : StOk t (spN t s c) := by
  constructor
  · intro hk; unfold spN; rw [if_pos hk]; exact ⟨_, rfl, bits_lt⟩
  · intro hk
    unfold spN; rw [if_neg hk]
    unfold cmpN
    have h16 := (okT_len h).2.2
    rcases hs.cm hk with h1 | h1 | h1
    · rw [if_pos (by omega)]; exact .inl h1
    · rw [if_pos (by omega)]; exact .inr (.inl h1)
    · rw [if_neg (by omega)]
      split
      · exact .inr (.inl rfl)
      · rename_i hn
        split
        · exact .inl rfl
        · exact .inr (.inr ⟨by omega, by omega⟩)
theorem pBegin_tm {t : TTest} (h : okT t = true) : Tm (fun N => pBegin N t) (· = sp0 t) := by
  unfold pBegin sp0
  by_cases hk : t.Kind = 1
  · simp only [if_pos hk]
    exact (pClosure_tm (m := 1) (okT_len h).2.2 (Nat.one_lt_two_pow (by omega))).eq (Tm.some rfl)
  · simp only [if_neg hk]
    exact Tm.some rfl
theorem pNext_b1_tm {t : TTest} {m : Nat} {c : Int} (hp : t.Text.length ≤ 16) (hm : m < 2 ^ (t.Text.length + 1)) : Tm (fun N => loopM (pNext_b1 N c (m : Int) t) N (0, 0)) (· = ((bits (nxs t.Text m.testBit c) (t.Text.length + 1) : Nat) : Int)) := by
  generalize hx : t.Text = p at *
  have h17 : 2 ^ (p.length + 1) ≤ 2 ^ 17 := Nat.pow_le_pow_right (by decide) (by omega)
  refine Tm.up p.length (fun k s => s.2 = (k : Int) ∧ ∃ a : Nat, s.1 = (a : Int) ∧ a < 2 ^ (p.length + 1) ∧ ∀ j, a.testBit j = ((decide (j < k) && m.testBit j && isP p[j]?) || (match j with | 0 => false | i + 1 => decide (i < k) && m.testBit i && hit p[i]? c))) ⟨rfl, 0, rfl, Nat.two_pow_pos _, fun j => by cases j <;> simp⟩ ?_
  rintro k hk ⟨s, i⟩ ⟨hi, a, ha, hal, h1⟩
  dsimp only at hi ha; subst hi; subst ha
  unfold pNext_b1
  rw [hx]
  rcases Nat.lt_or_ge k p.length with hlt | hge
  · refine Tm.pos (by omega) ?_
    have hpk : p[k]? = some p[k] := List.getElem?_eq_getElem hlt
    simp only [chk_ok (show ¬ (k : Int) < 0 by omega), Option.bind_some, bt (m := m) (i := k) (by omega) (by omega)]
    have upto : ∀ (a' : Nat), (∀ j, a'.testBit j = (a.testBit j || (decide (j = k) && m.testBit k && isP p[k]?) || (decide (j = k + 1) && m.testBit k && hit p[k]? c))) → ∀ j, a'.testBit j = ((decide (j < k + 1) && m.testBit j && isP p[j]?) || (match j with | 0 => false | i + 1 => decide (i < k + 1) && m.testBit i && hit p[i]? c)) := by
      intro a' h j
      rw [h j, h1 j]
      cases j with
      | zero =>
        by_cases h0 : k = 0
        · subst h0; simp
        · have e1 : decide (0 < k) = true := decide_eq_true (by omega)
          have e2 : decide (0 = k) = false := decide_eq_false (by omega)
          rw [e1, e2]; simp
      | succ i =>
        dsimp only
        by_cases e : i + 1 = k
        · subst e
          have e1 : decide (i + 1 < i + 1) = false := decide_eq_false (by omega)
          have e2 : decide (i < i + 1) = true := decide_eq_true (by omega)
          have e3 : decide (i + 1 < i + 1 + 1) = true := decide_eq_true (by omega)
          have e4 : decide (i < i + 1 + 1) = true := decide_eq_true (by omega)
          have e5 : decide (i + 1 = i + 1 + 1) = false := decide_eq_false (by omega)
          rw [e1, e2, e3, e4, e5, decide_eq_true rfl]
          simp only [Bool.false_and, Bool.true_and, Bool.false_or, Bool.or_false]
          exact Bool.or_comm _ _
        · by_cases e' : i = k
          · subst e'
            have e1 : decide (i + 1 < i) = false := decide_eq_false (by omega)
            have e2 : decide (i < i) = false := decide_eq_false (by omega)
            have e3 : decide (i + 1 = i) = false := decide_eq_false (by omega)
            have e4 : decide (i + 1 < i + 1) = false := decide_eq_false (by omega)
            have e5 : decide (i < i + 1) = true := decide_eq_true (by omega)
            rw [e1, e2, e3, e4, e5, decide_eq_true rfl]; simp
          · have e1 : decide (i + 1 < k + 1) = decide (i + 1 < k) := decide_eq_decide.2 (by omega)
            have e2 : decide (i < k + 1) = decide (i < k) := decide_eq_decide.2 (by omega)
            have e3 : decide (i + 1 = k) = false := decide_eq_false (by omega)
            have e4 : decide (i + 1 = k + 1) = false := decide_eq_false (by omega)
            rw [e1, e2, e3, e4]; simp
    by_cases hb : m.testBit k = true
    · rw [hb]
      simp only [if_true, show ((1 : Int) = 0) = False by simp, if_false, idx_n hlt, Option.bind_some]
      by_cases hp1 : ((p[k]).toNat : Int) = 37
      · rw [if_pos hp1]
        have e37 := u8_37.1 hp1
        obtain ⟨e1, e2⟩ := bs (n := p.length) hal (show k ≤ p.length by omega) hp
        rw [e1]
        refine Tm.some ⟨hlt, iw_n (by omega), _, rfl, e2, upto _ fun j => ?_⟩
        rw [bs_test, hb, hpk, e37]
        have : decide (k = j) = decide (j = k) := decide_eq_decide.2 eq_comm
        simp [isP, hit, this]
      · rw [if_neg hp1]
        have n37 : p[k] ≠ 37 := fun h => hp1 (u8_37.2 h)
        have e : (if ((p[k]).toNat : Int) = 95 then some true else some (decide (((p[k]).toNat : Int) = c))) = some (hit p[k]? c) := by
          rw [or_if, hpk]
          simp only [hit, n37, ne_eq, not_false_eq_true, decide_true, Bool.true_and]
          rw [← Bool.decide_or]
          exact congrArg some (decide_eq_decide.2 (by rw [u8_95]))
        rw [e]
        simp only [Option.bind_some]
        cases hh : hit p[k]? c with
        | true =>
          simp only [if_true, iw_n (k := k) (by omega), chk_ok (show ¬ ((k + 1 : Nat) : Int) < 0 by omega), Option.bind_some]
          obtain ⟨e1, e2⟩ := bs (n := p.length) hal (show k + 1 ≤ p.length by omega) hp
          rw [e1]
          refine Tm.some ⟨hlt, rfl, _, rfl, e2, upto _ fun j => ?_⟩
          rw [bs_test, hb, hh]
          have e3 : decide (k + 1 = j) = decide (j = k + 1) := decide_eq_decide.2 eq_comm
          have e4 : isP p[k]? = false := by rw [hpk]; exact decide_eq_false (fun h => n37 (Option.some.inj h))
          rw [e3, e4]; simp
        | false =>
          simp only [Bool.false_eq_true, if_false]
          refine Tm.some ⟨hlt, iw_n (by omega), a, rfl, hal, upto _ fun j => ?_⟩
          have e4 : isP p[k]? = false := by rw [hpk]; exact decide_eq_false (fun h => n37 (Option.some.inj h))
          rw [e4, hh]; simp
    · have hb' : m.testBit k = false := by simpa using hb
      rw [hb']
      simp only [Bool.false_eq_true, if_false, if_true]
      exact Tm.some ⟨hlt, iw_n (by omega), a, rfl, hal, upto _ fun j => by rw [hb']; simp⟩
  · refine Tm.neg (by omega) (Tm.some ?_)
    have : k = p.length := by omega
    subst this
    show (a : Int) = _
    rw [bits_eq (S := nxs p m.testBit c) hal fun j hj => ?_]
    rw [h1 j]
    unfold nxs
    have e0 : (decide (j < p.length) && m.testBit j && isP p[j]?) = (m.testBit j && isP p[j]?) := by
      by_cases hjl : j < p.length
      · rw [decide_eq_true hjl]; simp
      · rw [List.getElem?_eq_none (by omega)]; simp [isP]
    rw [e0]
    cases j with
    | zero => rfl
    | succ i =>
      have : decide (i < p.length) = true := decide_eq_true (by omega)
      simp only [this, Bool.true_and]
theorem pNext_tm {t : TTest} {s c : Int} (h : okT t = true) (hs : StOk t s) : Tm (fun N => pNext N t s c) (· = spN t s c) := by
  have h16 := (okT_len h).2.2
  unfold pNext spN
  by_cases hk : t.Kind = 1
  · obtain ⟨m, rfl, hm⟩ := hs.lk hk
    simp only [if_pos hk]
    refine (pNext_b1_tm h16 hm).eq ?_
    exact (pClosure_tm h16 bits_lt).eq (Tm.some rfl)
  · simp only [if_neg hk]
    unfold cmpN
    rcases hs.cm hk with h1 | h1 | h1
    · simp only [if_pos (show s ≥ 100 by omega)]; exact Tm.some rfl
    · simp only [if_pos (show s ≥ 100 by omega)]; exact Tm.some rfl
    · simp only [if_neg (show ¬ s ≥ 100 by omega)]
      obtain ⟨i, rfl⟩ := Int.eq_ofNat_of_zero_le h1.1
      have e0 : iw (i : Int) = (i : Int) := iw_eq (by omega) (by omega)
      simp only [e0]
      by_cases hl : (i : Int) = (t.Text.length : Int)
      · simp only [if_pos hl, Option.bind_some, if_true]
        rw [if_pos (.inl hl)]; exact Tm.some rfl
      · have hlt : i < t.Text.length := by omega
        have eg : t.Text.getD i 0 = t.Text[i] := by rw [List.getD_eq_getElem?_getD, List.getElem?_eq_getElem hlt]; rfl
        simp only [if_neg hl, idx_n hlt, Option.bind_some, Int.toNat_natCast, eg, false_or]
        by_cases g1 : c > ((t.Text[i]).toNat : Int)
        · rw [decide_eq_true g1, if_pos (show (i : Int) = (t.Text.length : Int) ∨ c > ((t.Text[i]).toNat : Int) from .inr g1)]; exact Tm.some rfl
        · rw [decide_eq_false g1, if_neg (show ¬ ((i : Int) = (t.Text.length : Int) ∨ c > ((t.Text[i]).toNat : Int)) from fun h => h.elim hl g1)]
          by_cases g2 : c < ((t.Text[i]).toNat : Int)
          · rw [if_pos g2, if_pos g2]; exact Tm.some rfl
          · rw [if_neg g2, if_neg g2]
            exact Tm.some (uw32_eq (z := (i : Int) + 1) (by omega) (by omega))
theorem pPassed_tm {t : TTest} {s : Int} (h : okT t = true) (hs : StOk t s) : Tm (fun N => pPassed N t s) (· = spF t s) := by
  have h16 := (okT_len h).2.2
  have h17 : 2 ^ (t.Text.length + 1) ≤ 2 ^ 17 := Nat.pow_le_pow_right (by decide) (by omega)
  unfold pPassed spF
  by_cases hk : t.Kind = 1
  · obtain ⟨m, rfl, hm⟩ := hs.lk hk
    simp only [if_pos hk, chk_ok (show ¬ (t.Text.length : Int) < 0 by omega), Option.bind_some, bt (m := m) (i := t.Text.length) (by omega) (by omega), Int.toNat_natCast]
    refine Tm.some ?_
    cases m.testBit t.Text.length <;> rfl
  · simp only [if_neg hk]
    have e0 : iw s = s := by rcases hs.cm hk with h1 | h1 | h1 <;> exact iw_eq (by omega) (by omega)
    rw [e0]
    by_cases h0 : t.Kind = 0
    · simp only [if_pos h0, Option.bind_some]; exact Tm.some rfl
    · simp only [if_neg h0]
      by_cases h2 : t.Kind = 2
      · simp only [if_pos h2, or_if, Option.bind_some]; exact Tm.some rfl
      · simp only [if_neg h2, or_if, Option.bind_some]; exact Tm.some rfl
def run (t : TTest) (s : Int) (x : List Int) : Int := x.foldl (spN t) s
def pas (t : TTest) (x : List UInt8) : Bool := spF t (run t (sp0 t) (sby x))
end Go.D
set_option linter.unusedSimpArgs false
set_option linter.unusedVariables false
namespace Go.D
open Go Go.X
def sI (S : Nat → Bool) (n : Nat) : List Int := (List.range (n + 1)).map fun i => if S i then (1 : Int) else 0
def enc (t : TTest) (s : Int) : List UInt8 := if t.Kind = 1 then bstr (sI s.toNat.testBit t.Text.length) else if s = 100 then [60] else if s = 101 then [62] else [61, UInt8.ofNat s.toNat]
end Go.D
set_option linter.unusedSimpArgs false
set_option linter.unusedVariables false
namespace Go.D
open Go Go.X
def gL (p : TProb) (x : List (List UInt8)) (i : Nat) : Bool := decide (p.Min.getD i 0 ≤ ((x.getD i []).length : Int) ∧ ((x.getD i []).length : Int) ≤ p.Max.getD i 0) && (x.getD i []).all prn
def gT (x : List (List UInt8)) (t : TTest) : Bool := pas t (x.getD t.Var.toNat [])
def gS (x : List (List UInt8)) (e : Arr2Int) : Bool := decide (x.getD e.e0.toNat [] = x.getD e.e1.toNat [])
def gD (x : List (List UInt8)) (e : Arr2Int) : Bool := !gS x e
def sat (p : TProb) (x : List (List UInt8)) : Bool := decide (x.length = p.Min.length) && (List.range x.length).all (gL p x) && p.Tests.all (gT x) && p.Same.all (gS x) && p.Different.all (gD x)
structure OkP (p : TProb) : Prop where
  len : p.Max.length = p.Min.length
  le : p.Min.length ≤ 128
  mn : ∀ k ∈ p.Min, 0 ≤ k ∧ k ≤ 16
  mx : ∀ k ∈ p.Max, 0 ≤ k ∧ k ≤ 16
  ts : ∀ t ∈ p.Tests, okT t = true ∧ 0 ≤ t.Var ∧ t.Var < p.Min.length
  sm : ∀ e ∈ p.Same, (0 ≤ e.e0 ∧ e.e0 < p.Min.length) ∧ 0 ≤ e.e1 ∧ e.e1 < p.Min.length
  df : ∀ e ∈ p.Different, (0 ≤ e.e0 ∧ e.e0 < p.Min.length) ∧ 0 ≤ e.e1 ∧ e.e1 < p.Min.length
section
variable {p : TProb} {x : List (List UInt8)}
structure Lx (x : List (List UInt8)) : Prop where
  a : x.length ≤ Bg
  b : ∀ s ∈ x, s.length ≤ Bg
structure Lms (p : TProb) : Prop where
  a : p.Min.length ≤ 1000
  b : p.Max.length ≤ 1000
  c : p.Tests.length ≤ 1000
  d : p.Same.length ≤ 1000
  e : p.Different.length ≤ 1000
end
end Go.D
set_option linter.unusedSimpArgs false
set_option linter.unusedVariables false
namespace Go.D
open Go Go.X
def lk : List UInt8 → List UInt8 → Bool
  | [], x => x.isEmpty
  | b :: p, x => if b = 37 then (List.range (x.length + 1)).any fun i => lk p (x.drop i) else match x with
    | [] => false
    | c :: y => (decide (b = 95) || decide (b = c)) && lk p y
def acc (p : List UInt8) (S : Nat → Bool) : List Int → Bool
  | [] => S p.length
  | c :: x => acc p (clo p (nxs p S c)) x
def cm : List UInt8 → List UInt8 → Int
  | [], [] => 0
  | [], _ :: _ => -1
  | _ :: _, [] => 1
  | c :: x, b :: q => if c.toNat < b.toNat then -1 else if b.toNat < c.toNat then 1 else cm x q
def cst (n : Nat) (s v : Int) : Prop := (v = 1 ∧ s = 101) ∨ (v = -1 ∧ (s = 100 ∨ (0 ≤ s ∧ s < n))) ∨ (v = 0 ∧ s = n)
def mean (t : TTest) (x : List UInt8) : Bool :=
  !((if t.Kind = 1 then lk t.Text x else if t.Kind = 0 then decide (x = t.Text) else if t.Kind = 2 then decide (cm x t.Text < 0) else decide (cm x t.Text ≤ 0)) == t.Negated)
end Go.D
set_option linter.unusedSimpArgs false
set_option linter.unusedVariables false
namespace Go.D
open Go Go.X
def vOk (v : RVal) (x : RVar) : Prop :=
  (v.Kind = 0 ∧ v.Int = 0 ∧ v.Text = []) ∨ (v.Kind = 1 ∧ v.Text = [] ∧ x.Ty = 1 ∧ x.Low ≤ v.Int ∧ v.Int ≤ x.High) ∨ (v.Kind = 2 ∧ v.Int = 0 ∧ x.Ty = 2 ∧ v.Text.all prn = true ∧ v.Text.length ≤ 16 ∧ (v.Text.length : Int) ≤ x.Max)
structure RowOk (R : List RVal) (l : List RVar) : Prop where
  len : R.length = l.length
  at' : ∀ i (h : i < R.length) (h' : i < l.length), vOk R[i] l[i]
end Go.D
set_option linter.unusedSimpArgs false
set_option linter.unusedVariables false
namespace Go.D
open Go Go.X
abbrev W32 : Int := 4294967296
theorem w32_pos : (1 : Int) < W32 := by decide
structure Is (x : Big) (v : Int) : Prop where
  dg : Dg W32 x.Digits v.natAbs
  neg : x.Negative = decide (v < 0)
end Go.D
set_option linter.unusedSimpArgs false
set_option linter.unusedVariables false
namespace Go.D
open Go Go.X
def OkB (K : Nat) (x : Big) : Prop := InB W32 x.Digits ∧ x.Digits.length ≤ K
theorem OkB.mono {K K' : Nat} {x : Big} (h : OkB K x) (hK : K ≤ K') : OkB K' x := ⟨h.1, by have := h.2; omega⟩
theorem OkB.nil {K : Nat} {b : Bool} : OkB K ⟨b, []⟩ := ⟨.nil, Nat.zero_le _⟩
theorem Is.ok {x : Big} {v : Int} {K : Nat} (h : Is x v) (hl : x.Digits.length ≤ K) : OkB K x := ⟨h.dg.inB, hl⟩
theorem Tm.each {α β : Type} {body : Nat → Int → Option (Stp Int (Sum Unit β))} (xs : List α) (P : α → Prop) {Q : Sum Unit β → Prop} (hl : xs.length ≤ 9223372036854775807)
    (step : ∀ (n : Nat) (hn : n < xs.length), (∀ j, (hj : j < xs.length) → j < n → P xs[j]) → Tm (fun N => body N (n : Int)) (fun t => (t = .next (iw ((n : Int) + 1)) ∧ P xs[n]) ∨ (∃ b, t = .done (.inr b) ∧ Q (.inr b))))
    (fin : (∀ x ∈ xs, P x) → Tm (fun N => body N (xs.length : Int)) (fun t => ∃ r, t = .done r ∧ Q r)) : Tm (fun N => loopM (body N) N 0) Q := by
  refine Tm.loop (fun i : Int => ∃ n : Nat, i = n ∧ n ≤ xs.length ∧ ∀ j, (hj : j < xs.length) → j < n → P xs[j]) (fun i : Int => xs.length - i.toNat) ⟨0, rfl, Nat.zero_le _, fun _ _ h => absurd h (by omega)⟩ ?_
  rintro _ ⟨n, rfl, hn, hP⟩
  rcases Nat.lt_or_ge n xs.length with h | h
  · refine (step n h hP).mono ?_
    rintro t (⟨rfl, hp⟩ | ⟨b, rfl, hq⟩)
    · refine ⟨⟨n + 1, by rw [iw_eq] <;> omega, by omega, fun j hj hlt => ?_⟩, ?_⟩
      · rcases Nat.lt_or_ge j n with h' | h'
        · exact hP j hj h'
        · obtain rfl : j = n := by omega
          exact hp
      · show xs.length - (iw ((n : Int) + 1)).toNat < xs.length - ((n : Int)).toNat
        rw [iw_eq] <;> omega
    · exact hq
  · obtain rfl : n = xs.length := by omega
    refine (fin fun x hx => ?_).mono ?_
    · obtain ⟨j, hj, rfl⟩ := List.mem_iff_getElem.1 hx
      exact hP j hj hj
    · rintro t ⟨r, rfl, hq⟩
      exact hq
end Go.D
set_option linter.unusedSimpArgs false
set_option linter.unusedVariables false
namespace Go.D
open Go Go.X
def RightP (c : Constraint) (n : Int) : Prop := (∀ i, (h : i < c.Linear.Coefs.length) → 0 ≤ c.Linear.Coefs[i].Var ∧ c.Linear.Coefs[i].Var < n ∧ (∀ (_ : 0 < i), (c.Linear.Coefs[i - 1]'(by omega)).Var < c.Linear.Coefs[i].Var)) ∧ 0 ≤ n ∧ n ≤ 512
theorem Is.len {x : Big} {v : Int} (h : Is x v) {k : Nat} (hv : (v.natAbs : Int) < W32 ^ k) : x.Digits.length ≤ k := nrm_len w32_pos h.dg.inB h.dg.nrm (by rw [h.dg.val]; exact hv)
def I64 (z : Int) : Prop := -9223372036854775808 ≤ z ∧ z ≤ 9223372036854775807
structure OkC (c : Constraint) : Prop where
  len : c.Linear.Coefs.length ≤ 9223372036854775807
  const : I64 c.Linear.Const
  coef : ∀ k ∈ c.Linear.Coefs, I64 k.N
end Go.D
set_option linter.unusedSimpArgs false
set_option linter.unusedVariables false
namespace Go.D
open Go Go.X
def vsOf (R : List RVal) (aux : List Int) : List Int := R.map RVal.Int ++ aux
def lin (cs : List Coef) (V : List Int) : Int := (cs.map fun x => x.N * V.getD x.Var.toNat 0).sum
structure Bnds (R : List RVal) (l : List RVar) (bs aux : List Int) : Prop where
  row : ∀ v ∈ R, v.Int.natAbs ≤ 2147483648
  nn : ∀ b ∈ bs, 0 ≤ b
  len : R.length = l.length
  aux : ∀ k, k < aux.length → ((aux.getD k 0).natAbs : Int) ≤ bs.getD k 0
variable {R : List RVal} {l : List RVar} {bs aux : List Int} {c : RClause} {f : Linear}
structure AxV (c : RClause) (R : List RVal) (l : List RVar) (bs aux : List Int) : Prop where
  len : aux.length = c.Auxiliary.length
  at' : ∀ i (hi : i < c.Auxiliary.length), (c.Auxiliary[i].By = 0 ∧ (∃ v, R[c.Auxiliary[i].Text.toNat]? = some v ∧ v.Kind = 2 ∧ aux.getD i 0 = (v.Text.length : Int))) ∨ (c.Auxiliary[i].By ≠ 0 ∧ aux.getD i 0 = (c.Auxiliary[i].Of.Const + lin c.Auxiliary[i].Of.Coefs (vsOf R (aux.take i))) / c.Auxiliary[i].By)
  bnd : ∀ k, k < aux.length → ((aux.getD k 0).natAbs : Int) ≤ bs.getD k 0
end Go.D
set_option linter.unusedSimpArgs false
set_option linter.unusedVariables false
namespace Go.D
open Go Go.X
structure HoldOk (c : RClause) (R : List RVal) (a : List Int × Bool) : Prop where
  nn : ∀ v ∈ c.NotNull, ∀ x, R[v.toNat]? = some x → x.Kind ≠ 0
  ax : a.2 = true
  it : ∀ k ∈ c.Ints, k.Linear.Const + lin k.Linear.Coefs (vsOf R a.1) ≤ 0 ∧ (k.Equal = true → k.Linear.Const + lin k.Linear.Coefs (vsOf R a.1) = 0)
  ts : ∀ t ∈ c.Tests, ∃ x, R[t.Var.toNat]? = some x ∧ mean t x.Text = true
  sm : ∀ e ∈ c.Same, ∃ x y, R[e.e0.toNat]? = some x ∧ R[e.e1.toNat]? = some y ∧ x.Text = y.Text
  df : ∀ e ∈ c.Different, ∃ x y, R[e.e0.toNat]? = some x ∧ R[e.e1.toNat]? = some y ∧ x.Text ≠ y.Text
variable {R : List RVal} {l : List RVar} {bs : List Int} {c : RClause}
end Go.D
set_option linter.unusedSimpArgs false
set_option linter.unusedVariables false
namespace Go.D
open Go Go.X
def quo (q : Int) (f : Linear) (b : Int) : List Constraint := [Constraint.mk (Linear.mk (iw (0 - f.Const)) ((f.Coefs.map fun x => Coef.mk x.Var (iw (0 - x.N))) ++ [Coef.mk q b])) false, Constraint.mk (Linear.mk (iw (f.Const - iw (b - 1))) (f.Coefs ++ [Coef.mk q (iw (0 - b))])) false]
def hiOf (l : List RVar) (rg : List Arr2Int) (v : Nat) : Int := match rg[v]?, l[v]? with
  | some r, some x => imin r.e1 x.Max
  | _, _ => 0
section
variable {l : List RVar} {c : RClause} {rg : List Arr2Int}
structure RgOk (l : List RVar) (rg : List Arr2Int) : Prop where
  len : rg.length = l.length
  bd : ∀ r ∈ rg, (0 ≤ r.e0 ∧ r.e0 ≤ 16) ∧ 0 ≤ r.e1 ∧ r.e1 ≤ 16
theorem vhigh_tm (hr : RgOk l rg) {k : Nat} (hk : k < l.length) : Tm (fun N => vhigh N l rg (k : Int)) (· = hiOf l rg k) := by
  unfold vhigh
  have hk2 : k < rg.length := by rw [hr.len]; exact hk
  refine Tm.step (idx_n hk2) (Tm.step (idx_n hk) (Tm.some ?_))
  unfold hiOf
  rw [List.getElem?_eq_getElem hk, List.getElem?_eq_getElem hk2]
end
end Go.D
set_option linter.unusedSimpArgs false
set_option linter.unusedVariables false
namespace Go.D
open Go Go.X
def isT (l : List RVar) (v : Int) : Bool := match l[v.toNat]? with
  | some x => decide (x.Ty = 2)
  | none => false
def e0Of (rg : List Arr2Int) (v : Int) : Int := match rg[v.toNat]? with
  | some r => r.e0
  | none => 0
def pos (vs : List Int) (v : Int) : Int := ((vs.idxOf v : Nat) : Int)
def tvs (l : List RVar) (c : RClause) : List Int := c.NotNull.filter (isT l)
def txtsOf (l : List RVar) (c : RClause) (rg : List Arr2Int) : TProb :=
  TProb.mk ((tvs l c).map (e0Of rg)) ((tvs l c).map fun v => hiOf l rg v.toNat) (c.Tests.map fun t => TTest.mk (pos (tvs l c) t.Var) t.Kind t.Negated t.Text) (c.Same.map fun e => Arr2Int.mk (pos (tvs l c) e.e0) (pos (tvs l c) e.e1)) (c.Different.map fun e => Arr2Int.mk (pos (tvs l c) e.e0) (pos (tvs l c) e.e1))
theorem mget_mput1 {K V : Type} [DecidableEq K] {m : List (K × V)} {k k' : K} {v z : V} : (mget (mput m k v) k' z).1 = if k' = k then v else (mget m k' z).1 := by
  induction m with
  | nil =>
    simp only [mput, mget]
    by_cases h : k = k'
    · rw [if_pos h, if_pos h.symm]
    · rw [if_neg h, if_neg (fun e => h e.symm)]
  | cons p m ih =>
    simp only [mput]
    by_cases h : p.1 = k
    · rw [if_pos h]
      simp only [mget]
      by_cases h2 : k = k'
      · rw [if_pos h2, if_pos h2.symm]
      · rw [if_neg h2, if_neg (fun e => h2 e.symm), if_neg (by rw [h]; exact h2)]
    · rw [if_neg h]
      simp only [mget]
      by_cases h2 : p.1 = k'
      · rw [if_pos h2, if_neg (by rw [← h2]; exact h), if_pos h2]
      · rw [if_neg h2, if_neg h2]; exact ih
section
variable {l : List RVar} {c : RClause} {rg : List Arr2Int}
theorem asc_nodup {l : List Int} {n : Nat} (h : AscOk l n) : l.Nodup := by
  rw [List.Nodup, List.pairwise_iff_getElem]
  intro i j hi hj hij
  have := h.asc i j hi hj hij
  omega
theorem tvs_nodup (h : AscOk c.NotNull l.length) : (tvs l c).Nodup := (asc_nodup h).sublist List.filter_sublist
theorem tvs_len : (tvs l c).length ≤ c.NotNull.length := List.length_filter_le _ _
theorem txt_mem {v : Int} (h : TxtOk c l v) : v ∈ tvs l c := by
  obtain ⟨k, rfl, ⟨x, ex, hx⟩, hm⟩ := h
  refine List.mem_filter.2 ⟨hm, ?_⟩
  unfold isT
  rw [Int.toNat_natCast, ex]
  exact decide_eq_true hx
def MOk (m : List (Int × Int)) (vs : List Int) : Prop := ∀ i (h : i < vs.length), (mget m vs[i] 0).1 = (i : Int)
theorem MOk.pos {m : List (Int × Int)} {vs : List Int} (h : MOk m vs) (hn : vs.Nodup) {v : Int} (hv : v ∈ vs) : (mget m v 0).1 = Go.D.pos vs v := by
  obtain ⟨i, hi, rfl⟩ := List.getElem_of_mem hv
  rw [h i hi]
  unfold Go.D.pos
  rw [List.Nodup.idxOf_getElem hn i hi]
theorem take_asc (h : AscOk c.NotNull l.length) {k : Nat} (hk : k < c.NotNull.length) : c.NotNull[k] ∉ c.NotNull.take k := by
  intro hm
  obtain ⟨j, hj, e⟩ := List.getElem_of_mem hm
  rw [List.length_take] at hj
  rw [List.getElem_take] at e
  have := h.asc j k (by omega) hk (by omega)
  omega
theorem vTexts_b1_tm (h : AscOk c.NotNull l.length) (hr : RgOk l rg) (hl : l.length ≤ 10) : Tm (fun N => loopM (vTexts_b1 N c l rg) N (([] : List Int), ([] : List Int), ([] : List Int), ([] : List (Int × Int)), 0)) (fun r => r.1 = (tvs l c).map (e0Of rg) ∧ r.2.1 = ((tvs l c).map fun v => hiOf l rg v.toNat) ∧ r.2.2.1 = tvs l c ∧ MOk r.2.2.2 (tvs l c)) := by
  have hcl := h.len
  refine Tm.up c.NotNull.length (fun k s => s.2.2.2.2 = (k : Int) ∧ s.1 = ((c.NotNull.take k).filter (isT l)).map (e0Of rg) ∧ s.2.1 = (((c.NotNull.take k).filter (isT l)).map fun v => hiOf l rg v.toNat) ∧ s.2.2.1 = (c.NotNull.take k).filter (isT l) ∧ MOk s.2.2.2.1 ((c.NotNull.take k).filter (isT l))) ⟨rfl, rfl, rfl, rfl, fun i hi => by simp at hi⟩ ?_
  rintro k hk ⟨a, b, vs, m, i⟩ ⟨hi, h1, h2, h3, h4⟩
  dsimp only at hi h1 h2 h3 h4; subst hi
  unfold vTexts_b1
  dsimp only
  rcases Nat.lt_or_ge k c.NotNull.length with hlt | hge
  · obtain ⟨q, eq, hq⟩ := var_n (h.bd _ (List.getElem_mem hlt))
    have hq2 : q < rg.length := by rw [hr.len]; exact hq
    have hta := take_asc h hlt
    have hfl : ((c.NotNull.take k).filter (isT l)).length ≤ k := by
      have := List.length_filter_le (isT l) (c.NotNull.take k)
      rw [List.length_take] at this; omega
    refine Tm.pos (by omega) (Tm.step (idx_n hlt) ?_)
    rw [eq]
    refine Tm.step (idx_n hq) ?_
    rw [List.take_succ_eq_append_getElem hlt, List.filter_append]
    rw [eq] at hta ⊢
    have eT : isT l (q : Int) = decide (l[q].Ty = 2) := by unfold isT; rw [Int.toNat_natCast, List.getElem?_eq_getElem hq]
    by_cases g : l[q].Ty = 2
    · refine Tm.pos g ?_
      rw [List.filter_cons_of_pos (by rw [eT]; exact decide_eq_true g), List.filter_nil]
      rw [h1, h2, h3] at *
      rw [apnd_ok (by rw [List.length_singleton]; omega) (by decide)]
      simp only [Option.bind_some]
      refine Tm.step (idx_n hq2) ?_
      rw [apnd_ok (by rw [List.length_map, List.length_singleton]; omega) (by decide)]
      simp only [Option.bind_some]
      refine (vhigh_tm hr hq).eq ?_
      rw [apnd_ok (by rw [List.length_map, List.length_singleton]; omega) (by decide)]
      refine Tm.some ⟨hlt, iw_n (by omega), ?_, ?_, rfl, fun i hi => ?_⟩
      · dsimp only
        rw [List.map_append]
        congr 1
        unfold e0Of
        simp [List.getElem?_eq_getElem hq2]
      · dsimp only
        rw [List.map_append]; rfl
      · dsimp only
        rw [mget_mput1]
        rw [List.length_append, List.length_singleton] at hi
        by_cases hlast : i = ((c.NotNull.take k).filter (isT l)).length
        · subst hlast
          rw [List.getElem_append_right (Nat.le_refl _)]
          simp
        · have hi2 : i < ((c.NotNull.take k).filter (isT l)).length := by omega
          rw [List.getElem_append_left hi2, if_neg]
          · exact h4 i hi2
          · intro e
            apply hta
            rw [← e]
            exact (List.mem_filter.1 (List.getElem_mem hi2)).1
    · refine Tm.neg g ?_
      rw [List.filter_cons_of_neg (by rw [eT]; simp [g]), List.filter_nil, List.append_nil]
      exact Tm.some ⟨hlt, iw_n (by omega), h1, h2, h3, h4⟩
  · rw [List.take_of_length_le hge] at h1 h2 h3 h4
    exact Tm.neg (by omega) (Tm.some ⟨h1, h2, h3, h4⟩)
theorem vTexts_tm (hv : ClOk c l) (hs : SmC c) (hr : RgOk l rg) (hl : l.length ≤ 10) : Tm (fun N => vTexts N l c rg) (· = (txtsOf l c rg, tvs l c)) := by
  have h1 := hs.ts; have h2 := hs.sm; have h3 := hs.df
  have hn := tvs_nodup hv.nn
  unfold vTexts
  refine (vTexts_b1_tm hv.nn hr hl).bind fun r hr' => ?_
  obtain ⟨a, b, vs, m⟩ := r
  obtain ⟨e1, e2, e3, hm⟩ := hr'
  dsimp only at e1 e2 e3 hm
  subst e1; subst e2; subst e3
  dsimp only
  refine Tm.bind (Q := fun r => r = c.Tests.map fun t => TTest.mk (pos (tvs l c) t.Var) t.Kind t.Negated t.Text) ?_ fun r hr1 => ?_
  · refine Tm.up c.Tests.length (fun k s => s.2 = (k : Int) ∧ s.1 = (c.Tests.take k).map fun t => TTest.mk (pos (tvs l c) t.Var) t.Kind t.Negated t.Text) ⟨rfl, rfl⟩ ?_
    rintro k hk ⟨s, i⟩ ⟨hi, hs⟩
    dsimp only at hi hs; subst hi; subst hs
    unfold vTexts_b2
    try dsimp only
    rcases Nat.lt_or_ge k c.Tests.length with hlt | hge
    · refine Tm.pos (by omega) (Tm.step (idx_n hlt) ?_)
      rw [apnd_ok (by rw [List.length_map, List.length_take, List.length_singleton]; omega) (by decide)]
      refine Tm.some ⟨hlt, iw_n (by omega), ?_⟩
      rw [List.take_succ_eq_append_getElem hlt, List.map_append, hm.pos hn (txt_mem (hv.ts _ (List.getElem_mem hlt)).2)]; rfl
    · refine Tm.neg (by omega) (Tm.some ?_)
      show List.map _ _ = _
      rw [List.take_of_length_le hge]
  · subst hr1
    try dsimp only
    refine Tm.bind (Q := fun r => r = c.Same.map fun e => Arr2Int.mk (pos (tvs l c) e.e0) (pos (tvs l c) e.e1)) ?_ fun r hr1 => ?_
    · refine Tm.up c.Same.length (fun k s => s.2 = (k : Int) ∧ s.1 = (c.Same.take k).map fun e => Arr2Int.mk (pos (tvs l c) e.e0) (pos (tvs l c) e.e1)) ⟨rfl, rfl⟩ ?_
      rintro k hk ⟨s, i⟩ ⟨hi, hs⟩
      dsimp only at hi hs; subst hi; subst hs
      unfold vTexts_b3
      try dsimp only
      rcases Nat.lt_or_ge k c.Same.length with hlt | hge
      · have hsm := hv.sm _ (List.getElem_mem hlt)
        refine Tm.pos (by omega) (Tm.step (idx_n hlt) ?_)
        rw [apnd_ok (by rw [List.length_map, List.length_take, List.length_singleton]; omega) (by decide)]
        refine Tm.some ⟨hlt, iw_n (by omega), ?_⟩
        rw [List.take_succ_eq_append_getElem hlt, List.map_append, hm.pos hn (txt_mem hsm.1), hm.pos hn (txt_mem hsm.2.1)]; rfl
      · refine Tm.neg (by omega) (Tm.some ?_)
        show List.map _ _ = _
        rw [List.take_of_length_le hge]
    · subst hr1
      try dsimp only
      refine Tm.bind (Q := fun r => r = c.Different.map fun e => Arr2Int.mk (pos (tvs l c) e.e0) (pos (tvs l c) e.e1)) ?_ fun r hr1 => ?_
      · refine Tm.up c.Different.length (fun k s => s.2 = (k : Int) ∧ s.1 = (c.Different.take k).map fun e => Arr2Int.mk (pos (tvs l c) e.e0) (pos (tvs l c) e.e1)) ⟨rfl, rfl⟩ ?_
        rintro k hk ⟨s, i⟩ ⟨hi, hs⟩
        dsimp only at hi hs; subst hi; subst hs
        unfold vTexts_b4
        dsimp only
        rcases Nat.lt_or_ge k c.Different.length with hlt | hge
        · have hsm := hv.df _ (List.getElem_mem hlt)
          refine Tm.pos (by omega) (Tm.step (idx_n hlt) ?_)
          rw [apnd_ok (by rw [List.length_map, List.length_take, List.length_singleton]; omega) (by decide)]
          refine Tm.some ⟨hlt, iw_n (by omega), ?_⟩
          rw [List.take_succ_eq_append_getElem hlt, List.map_append, hm.pos hn (txt_mem hsm.1), hm.pos hn (txt_mem hsm.2.1)]; rfl
        · refine Tm.neg (by omega) (Tm.some ?_)
          show List.map _ _ = _
          rw [List.take_of_length_le hge]
      · subst hr1
        exact Tm.some rfl
end
end Go.D
set_option linter.unusedSimpArgs false
set_option linter.unusedVariables false
namespace Go.D
open Go Go.X
theorem fmtI_lo {N M : Nat} (h : N ≤ M) (n : Int) : Lo (fmtI N n) (fmtI M n) := Lo.refl _
end Go.D
set_option maxRecDepth 100000
set_option linter.unusedVariables false
set_option linter.unusedSimpArgs false
namespace Go.D
open Go Go.X
theorem cloneU32_lo {N M : Nat} (h : N ≤ M)  (s : (List Int)) : Lo (cloneU32 N s) (cloneU32 M s) := by
  unfold cloneU32
  try dsimp only
  repeat' first
    | with_reducible exact Lo.refl _
    | with_reducible refine Lo.bind ?_ (fun _ => ?_)
    | with_reducible refine Lo.ite ?_ ?_
    | with_reducible refine Lo.loop h (fun _ => ?_)
    | intro _
    | split
theorem digit_lo {N M : Nat} (h : N ≤ M)  (d : (List Int)) (i : Int) : Lo (digit N d i) (digit M d i) := by
  unfold digit
  try dsimp only
  repeat' first
    | with_reducible exact Lo.refl _
    | with_reducible refine Lo.bind ?_ (fun _ => ?_)
    | with_reducible refine Lo.ite ?_ ?_
    | with_reducible refine Lo.loop h (fun _ => ?_)
    | intro _
    | split
theorem bsign_lo {N M : Nat} (h : N ≤ M)  (n : Int) : Lo (bsign N n) (bsign M n) := by
  unfold bsign
  try dsimp only
  repeat' first
    | with_reducible exact Lo.refl _
    | with_reducible refine Lo.bind ?_ (fun _ => ?_)
    | with_reducible refine Lo.ite ?_ ?_
    | with_reducible refine Lo.loop h (fun _ => ?_)
    | intro _
    | split
theorem btrim_b1_lo {N M : Nat} (h : N ≤ M)  (d : (List Int)) : ∀ ss0, Lo (btrim_b1 N d ss0) (btrim_b1 M d ss0) := by
  intro ss0
  unfold btrim_b1
  try dsimp only
  repeat' first
    | with_reducible exact Lo.refl _
    | with_reducible refine Lo.bind ?_ (fun _ => ?_)
    | with_reducible refine Lo.ite ?_ ?_
    | with_reducible refine Lo.loop h (fun _ => ?_)
    | intro _
    | split
theorem btrim_lo {N M : Nat} (h : N ≤ M)  (d : (List Int)) : Lo (btrim N d) (btrim M d) := by
  unfold btrim
  try dsimp only
  repeat' first
    | with_reducible exact Lo.refl _
    | with_reducible apply btrim_b1_lo h
    | with_reducible apply cloneU32_lo h
    | with_reducible refine Lo.bind ?_ (fun _ => ?_)
    | with_reducible refine Lo.ite ?_ ?_
    | with_reducible refine Lo.loop h (fun _ => ?_)
    | intro _
    | split
theorem bnormal_lo {N M : Nat} (h : N ≤ M)  (negative : Bool) (d : (List Int)) : Lo (bnormal N negative d) (bnormal M negative d) := by
  unfold bnormal
  try dsimp only
  repeat' first
    | with_reducible exact Lo.refl _
    | with_reducible apply btrim_lo h
    | with_reducible refine Lo.bind ?_ (fun _ => ?_)
    | with_reducible refine Lo.ite ?_ ?_
    | with_reducible refine Lo.loop h (fun _ => ?_)
    | intro _
    | split
theorem bcompare_b1_lo {N M : Nat} (h : N ≤ M)  (a : (List Int)) (b : (List Int)) : ∀ ss0, Lo (bcompare_b1 N a b ss0) (bcompare_b1 M a b ss0) := by
  intro ss0
  unfold bcompare_b1
  try dsimp only
  repeat' first
    | with_reducible exact Lo.refl _
    | with_reducible refine Lo.bind ?_ (fun _ => ?_)
    | with_reducible refine Lo.ite ?_ ?_
    | with_reducible refine Lo.loop h (fun _ => ?_)
    | intro _
    | split
theorem bcompare_lo {N M : Nat} (h : N ≤ M)  (a : (List Int)) (b : (List Int)) : Lo (bcompare N a b) (bcompare M a b) := by
  unfold bcompare
  try dsimp only
  repeat' first
    | with_reducible exact Lo.refl _
    | with_reducible apply bcompare_b1_lo h
    | with_reducible apply bsign_lo h
    | with_reducible refine Lo.bind ?_ (fun _ => ?_)
    | with_reducible refine Lo.ite ?_ ?_
    | with_reducible refine Lo.loop h (fun _ => ?_)
    | intro _
    | split
theorem bplus_b1_lo {N M : Nat} (h : N ≤ M)  (a : (List Int)) (b : (List Int)) (x2 : (List Int)) : ∀ ss0, Lo (bplus_b1 N a b x2 ss0) (bplus_b1 M a b x2 ss0) := by
  intro ss0
  unfold bplus_b1
  try dsimp only
  repeat' first
    | with_reducible exact Lo.refl _
    | with_reducible apply digit_lo h
    | with_reducible refine Lo.bind ?_ (fun _ => ?_)
    | with_reducible refine Lo.ite ?_ ?_
    | with_reducible refine Lo.loop h (fun _ => ?_)
    | intro _
    | split
theorem bplus_lo {N M : Nat} (h : N ≤ M)  (a : (List Int)) (b : (List Int)) : Lo (bplus N a b) (bplus M a b) := by
  unfold bplus
  try dsimp only
  repeat' first
    | with_reducible exact Lo.refl _
    | with_reducible apply bplus_b1_lo h
    | with_reducible refine Lo.bind ?_ (fun _ => ?_)
    | with_reducible refine Lo.ite ?_ ?_
    | with_reducible refine Lo.loop h (fun _ => ?_)
    | intro _
    | split
theorem bminus_b1_lo {N M : Nat} (h : N ≤ M)  (a : (List Int)) (b : (List Int)) : ∀ ss0, Lo (bminus_b1 N a b ss0) (bminus_b1 M a b ss0) := by
  intro ss0
  unfold bminus_b1
  try dsimp only
  repeat' first
    | with_reducible exact Lo.refl _
    | with_reducible apply digit_lo h
    | with_reducible refine Lo.bind ?_ (fun _ => ?_)
    | with_reducible refine Lo.ite ?_ ?_
    | with_reducible refine Lo.loop h (fun _ => ?_)
    | intro _
    | split
theorem bminus_lo {N M : Nat} (h : N ≤ M)  (a : (List Int)) (b : (List Int)) : Lo (bminus N a b) (bminus M a b) := by
  unfold bminus
  try dsimp only
  repeat' first
    | with_reducible exact Lo.refl _
    | with_reducible apply bminus_b1_lo h
    | with_reducible refine Lo.bind ?_ (fun _ => ?_)
    | with_reducible refine Lo.ite ?_ ?_
    | with_reducible refine Lo.loop h (fun _ => ?_)
    | intro _
    | split
theorem btimes_b2_lo {N M : Nat} (h : N ≤ M)  (b : (List Int)) (x475 : Int) (x491 : Int) : ∀ ss0, Lo (btimes_b2 N b x475 x491 ss0) (btimes_b2 M b x475 x491 ss0) := by
  intro ss0
  unfold btimes_b2
  try dsimp only
  repeat' first
    | with_reducible exact Lo.refl _
    | with_reducible refine Lo.bind ?_ (fun _ => ?_)
    | with_reducible refine Lo.ite ?_ ?_
    | with_reducible refine Lo.loop h (fun _ => ?_)
    | intro _
    | split
theorem btimes_b1_lo {N M : Nat} (h : N ≤ M)  (a : (List Int)) (b : (List Int)) : ∀ ss0, Lo (btimes_b1 N a b ss0) (btimes_b1 M a b ss0) := by
  intro ss0
  unfold btimes_b1
  try dsimp only
  repeat' first
    | with_reducible exact Lo.refl _
    | with_reducible apply btimes_b2_lo h
    | with_reducible refine Lo.bind ?_ (fun _ => ?_)
    | with_reducible refine Lo.ite ?_ ?_
    | with_reducible refine Lo.loop h (fun _ => ?_)
    | intro _
    | split
theorem btimes_lo {N M : Nat} (h : N ≤ M)  (a : (List Int)) (b : (List Int)) : Lo (btimes N a b) (btimes M a b) := by
  unfold btimes
  try dsimp only
  repeat' first
    | with_reducible exact Lo.refl _
    | with_reducible apply btimes_b1_lo h
    | with_reducible refine Lo.bind ?_ (fun _ => ?_)
    | with_reducible refine Lo.ite ?_ ?_
    | with_reducible refine Lo.loop h (fun _ => ?_)
    | intro _
    | split
theorem bshort_b1_lo {N M : Nat} (h : N ≤ M)  (a : (List Int)) (pb : Int) : ∀ ss0, Lo (bshort_b1 N a pb ss0) (bshort_b1 M a pb ss0) := by
  intro ss0
  unfold bshort_b1
  try dsimp only
  repeat' first
    | with_reducible exact Lo.refl _
    | with_reducible refine Lo.bind ?_ (fun _ => ?_)
    | with_reducible refine Lo.ite ?_ ?_
    | with_reducible refine Lo.loop h (fun _ => ?_)
    | intro _
    | split
theorem bshort_lo {N M : Nat} (h : N ≤ M)  (a : (List Int)) (pb : Int) : Lo (bshort N a pb) (bshort M a pb) := by
  unfold bshort
  try dsimp only
  repeat' first
    | with_reducible exact Lo.refl _
    | with_reducible apply bshort_b1_lo h
    | with_reducible refine Lo.bind ?_ (fun _ => ?_)
    | with_reducible refine Lo.ite ?_ ?_
    | with_reducible refine Lo.loop h (fun _ => ?_)
    | intro _
    | split
end Go.D
set_option maxRecDepth 100000
set_option linter.unusedVariables false
set_option linter.unusedSimpArgs false
namespace Go.D
open Go Go.X
theorem rtrim_b1_lo {N M : Nat} (h : N ≤ M)   : ∀ ss0, Lo (rtrim_b1 N  ss0) (rtrim_b1 M  ss0) := by
  intro ss0
  unfold rtrim_b1
  try dsimp only
  repeat' first
    | with_reducible exact Lo.refl _
    | with_reducible refine Lo.bind ?_ (fun _ => ?_)
    | with_reducible refine Lo.ite ?_ ?_
    | with_reducible refine Lo.loop h (fun _ => ?_)
    | intro _
    | split
theorem rtrim_lo {N M : Nat} (h : N ≤ M)  (l : (List Int)) : Lo (rtrim N l) (rtrim M l) := by
  unfold rtrim
  try dsimp only
  repeat' first
    | with_reducible exact Lo.refl _
    | with_reducible apply rtrim_b1_lo h
    | with_reducible refine Lo.bind ?_ (fun _ => ?_)
    | with_reducible refine Lo.ite ?_ ?_
    | with_reducible refine Lo.loop h (fun _ => ?_)
    | intro _
    | split
theorem rbig_b1_lo {N M : Nat} (h : N ≤ M)  (r6 : (List Int)) : ∀ ss0, Lo (rbig_b1 N r6 ss0) (rbig_b1 M r6 ss0) := by
  intro ss0
  unfold rbig_b1
  try dsimp only
  repeat' first
    | with_reducible exact Lo.refl _
    | with_reducible refine Lo.bind ?_ (fun _ => ?_)
    | with_reducible refine Lo.ite ?_ ?_
    | with_reducible refine Lo.loop h (fun _ => ?_)
    | intro _
    | split
theorem rbig_lo {N M : Nat} (h : N ≤ M)  (negative : Bool) (l : (List Int)) : Lo (rbig N negative l) (rbig M negative l) := by
  unfold rbig
  try dsimp only
  repeat' first
    | with_reducible exact Lo.refl _
    | with_reducible apply rbig_b1_lo h
    | with_reducible apply rtrim_lo h
    | with_reducible refine Lo.bind ?_ (fun _ => ?_)
    | with_reducible refine Lo.ite ?_ ?_
    | with_reducible refine Lo.loop h (fun _ => ?_)
    | intro _
    | split
theorem rOf_b1_lo {N M : Nat} (h : N ≤ M)   : ∀ ss0, Lo (rOf_b1 N  ss0) (rOf_b1 M  ss0) := by
  intro ss0
  unfold rOf_b1
  try dsimp only
  repeat' first
    | with_reducible exact Lo.refl _
    | with_reducible refine Lo.bind ?_ (fun _ => ?_)
    | with_reducible refine Lo.ite ?_ ?_
    | with_reducible refine Lo.loop h (fun _ => ?_)
    | intro _
    | split
theorem rOf_lo {N M : Nat} (h : N ≤ M)  (n : Int) : Lo (rOf N n) (rOf M n) := by
  unfold rOf
  try dsimp only
  repeat' first
    | with_reducible exact Lo.refl _
    | with_reducible apply rOf_b1_lo h
    | with_reducible apply rbig_lo h
    | with_reducible refine Lo.bind ?_ (fun _ => ?_)
    | with_reducible refine Lo.ite ?_ ?_
    | with_reducible refine Lo.loop h (fun _ => ?_)
    | intro _
    | split
end Go.D
set_option maxRecDepth 100000
set_option linter.unusedVariables false
set_option linter.unusedSimpArgs false
namespace Go.D
open Go Go.X
theorem bdivide_lo {N M : Nat} (h : N ≤ M)  (a : (List Int)) (b : (List Int)) : Lo (bdivide N a b) (bdivide M a b) := by
  unfold bdivide
  try dsimp only
  repeat' first
    | with_reducible exact Lo.refl _
    | with_reducible apply bcompare_lo h
    | with_reducible apply bshort_lo h
    | with_reducible apply btrim_lo h
    | with_reducible refine Lo.bind ?_ (fun _ => ?_)
    | with_reducible refine Lo.ite ?_ ?_
    | with_reducible refine Lo.loop h (fun _ => ?_)
    | intro _
    | split
theorem bOf_lo {N M : Nat} (h : N ≤ M)  (n : Int) : Lo (bOf N n) (bOf M n) := by
  unfold bOf
  try dsimp only
  repeat' first
    | with_reducible exact Lo.refl _
    | with_reducible apply bnormal_lo h
    | with_reducible refine Lo.bind ?_ (fun _ => ?_)
    | with_reducible refine Lo.ite ?_ ?_
    | with_reducible refine Lo.loop h (fun _ => ?_)
    | intro _
    | split
theorem bNormal_lo {N M : Nat} (h : N ≤ M)  (x : Big) : Lo (bNormal N x) (bNormal M x) := by
  unfold bNormal
  try dsimp only
  repeat' first
    | with_reducible exact Lo.refl _
    | with_reducible apply bnormal_lo h
    | with_reducible refine Lo.bind ?_ (fun _ => ?_)
    | with_reducible refine Lo.ite ?_ ?_
    | with_reducible refine Lo.loop h (fun _ => ?_)
    | intro _
    | split
theorem bSign_lo {N M : Nat} (h : N ≤ M)  (x : Big) : Lo (bSign N x) (bSign M x) := by
  unfold bSign
  try dsimp only
  repeat' first
    | with_reducible exact Lo.refl _
    | with_reducible apply bNormal_lo h
    | with_reducible refine Lo.bind ?_ (fun _ => ?_)
    | with_reducible refine Lo.ite ?_ ?_
    | with_reducible refine Lo.loop h (fun _ => ?_)
    | intro _
    | split
theorem bNeg_lo {N M : Nat} (h : N ≤ M)  (x : Big) : Lo (bNeg N x) (bNeg M x) := by
  unfold bNeg
  try dsimp only
  repeat' first
    | with_reducible exact Lo.refl _
    | with_reducible apply bnormal_lo h
    | with_reducible refine Lo.bind ?_ (fun _ => ?_)
    | with_reducible refine Lo.ite ?_ ?_
    | with_reducible refine Lo.loop h (fun _ => ?_)
    | intro _
    | split
theorem bAdd_lo {N M : Nat} (h : N ≤ M)  (a : Big) (b : Big) : Lo (bAdd N a b) (bAdd M a b) := by
  unfold bAdd
  try dsimp only
  repeat' first
    | with_reducible exact Lo.refl _
    | with_reducible apply bNormal_lo h
    | with_reducible apply bcompare_lo h
    | with_reducible apply bminus_lo h
    | with_reducible apply bnormal_lo h
    | with_reducible apply bplus_lo h
    | with_reducible refine Lo.bind ?_ (fun _ => ?_)
    | with_reducible refine Lo.ite ?_ ?_
    | with_reducible refine Lo.loop h (fun _ => ?_)
    | intro _
    | split
theorem bSub_lo {N M : Nat} (h : N ≤ M)  (a : Big) (b : Big) : Lo (bSub N a b) (bSub M a b) := by
  unfold bSub
  try dsimp only
  repeat' first
    | with_reducible exact Lo.refl _
    | with_reducible apply bAdd_lo h
    | with_reducible apply bNeg_lo h
    | with_reducible refine Lo.bind ?_ (fun _ => ?_)
    | with_reducible refine Lo.ite ?_ ?_
    | with_reducible refine Lo.loop h (fun _ => ?_)
    | intro _
    | split
theorem bMul_lo {N M : Nat} (h : N ≤ M)  (a : Big) (b : Big) : Lo (bMul N a b) (bMul M a b) := by
  unfold bMul
  try dsimp only
  repeat' first
    | with_reducible exact Lo.refl _
    | with_reducible apply bnormal_lo h
    | with_reducible apply btimes_lo h
    | with_reducible refine Lo.bind ?_ (fun _ => ?_)
    | with_reducible refine Lo.ite ?_ ?_
    | with_reducible refine Lo.loop h (fun _ => ?_)
    | intro _
    | split
theorem bDivFloor_lo {N M : Nat} (h : N ≤ M)  (a : Big) (b : Big) : Lo (bDivFloor N a b) (bDivFloor M a b) := by
  unfold bDivFloor
  try dsimp only
  repeat' first
    | with_reducible exact Lo.refl _
    | with_reducible apply bNormal_lo h
    | with_reducible apply bdivide_lo h
    | with_reducible apply bminus_lo h
    | with_reducible apply bnormal_lo h
    | with_reducible apply bplus_lo h
    | with_reducible refine Lo.bind ?_ (fun _ => ?_)
    | with_reducible refine Lo.ite ?_ ?_
    | with_reducible refine Lo.loop h (fun _ => ?_)
    | intro _
    | split
end Go.D
set_option maxRecDepth 100000
set_option linter.unusedVariables false
set_option linter.unusedSimpArgs false
namespace Go.D
open Go Go.X
theorem cvalid_b1_lo {N M : Nat} (h : N ≤ M)  (c : Constraint) (n : Int) : ∀ ss0, Lo (cvalid_b1 N c n ss0) (cvalid_b1 M c n ss0) := by
  intro ss0
  unfold cvalid_b1
  try dsimp only
  repeat' first
    | with_reducible exact Lo.refl _
    | with_reducible refine Lo.bind ?_ (fun _ => ?_)
    | with_reducible refine Lo.ite ?_ ?_
    | with_reducible refine Lo.loop h (fun _ => ?_)
    | intro _
    | split
theorem cvalid_lo {N M : Nat} (h : N ≤ M)  (c : Constraint) (n : Int) : Lo (cvalid N c n) (cvalid M c n) := by
  unfold cvalid
  try dsimp only
  repeat' first
    | with_reducible exact Lo.refl _
    | with_reducible apply cvalid_b1_lo h
    | with_reducible refine Lo.bind ?_ (fun _ => ?_)
    | with_reducible refine Lo.ite ?_ ?_
    | with_reducible refine Lo.loop h (fun _ => ?_)
    | intro _
    | split
theorem negated_b1_lo {N M : Nat} (h : N ≤ M)  (l : (List Big)) : ∀ ss0, Lo (negated_b1 N l ss0) (negated_b1 M l ss0) := by
  intro ss0
  unfold negated_b1
  try dsimp only
  repeat' first
    | with_reducible exact Lo.refl _
    | with_reducible apply bNeg_lo h
    | with_reducible refine Lo.bind ?_ (fun _ => ?_)
    | with_reducible refine Lo.ite ?_ ?_
    | with_reducible refine Lo.loop h (fun _ => ?_)
    | intro _
    | split
theorem negated_lo {N M : Nat} (h : N ≤ M)  (l : (List Big)) (bound : Big) : Lo (negated N l bound) (negated M l bound) := by
  unfold negated
  try dsimp only
  repeat' first
    | with_reducible exact Lo.refl _
    | with_reducible apply bNormal_lo h
    | with_reducible apply negated_b1_lo h
    | with_reducible refine Lo.bind ?_ (fun _ => ?_)
    | with_reducible refine Lo.ite ?_ ?_
    | with_reducible refine Lo.loop h (fun _ => ?_)
    | intro _
    | split
theorem cOf_b1_lo {N M : Nat} (h : N ≤ M)  (c : Constraint) : ∀ ss0, Lo (cOf_b1 N c ss0) (cOf_b1 M c ss0) := by
  intro ss0
  unfold cOf_b1
  try dsimp only
  repeat' first
    | with_reducible exact Lo.refl _
    | with_reducible apply bOf_lo h
    | with_reducible refine Lo.bind ?_ (fun _ => ?_)
    | with_reducible refine Lo.ite ?_ ?_
    | with_reducible refine Lo.loop h (fun _ => ?_)
    | intro _
    | split
theorem cOf_lo {N M : Nat} (h : N ≤ M)  (c : Constraint) (n : Int) : Lo (cOf N c n) (cOf M c n) := by
  unfold cOf
  try dsimp only
  repeat' first
    | with_reducible exact Lo.refl _
    | with_reducible apply bNeg_lo h
    | with_reducible apply bOf_lo h
    | with_reducible apply cOf_b1_lo h
    | with_reducible apply cvalid_lo h
    | with_reducible apply negated_lo h
    | with_reducible refine Lo.bind ?_ (fun _ => ?_)
    | with_reducible refine Lo.ite ?_ ?_
    | with_reducible refine Lo.loop h (fun _ => ?_)
    | intro _
    | split
theorem cSystem_b1_lo {N M : Nat} (h : N ≤ M)  (l : (List Constraint)) (n : Int) : ∀ ss0, Lo (cSystem_b1 N l n ss0) (cSystem_b1 M l n ss0) := by
  intro ss0
  unfold cSystem_b1
  try dsimp only
  repeat' first
    | with_reducible exact Lo.refl _
    | with_reducible apply cOf_lo h
    | with_reducible apply cvalid_lo h
    | with_reducible refine Lo.bind ?_ (fun _ => ?_)
    | with_reducible refine Lo.ite ?_ ?_
    | with_reducible refine Lo.loop h (fun _ => ?_)
    | intro _
    | split
theorem cSystem_lo {N M : Nat} (h : N ≤ M)  (l : (List Constraint)) (n : Int) : Lo (cSystem N l n) (cSystem M l n) := by
  unfold cSystem
  try dsimp only
  repeat' first
    | with_reducible exact Lo.refl _
    | with_reducible apply cSystem_b1_lo h
    | with_reducible refine Lo.bind ?_ (fun _ => ?_)
    | with_reducible refine Lo.ite ?_ ?_
    | with_reducible refine Lo.loop h (fun _ => ?_)
    | intro _
    | split
theorem cloneIneq_lo {N M : Nat} (h : N ≤ M)  (s : (List Ineq)) : Lo (cloneIneq N s) (cloneIneq M s) := by
  unfold cloneIneq
  try dsimp only
  repeat' first
    | with_reducible exact Lo.refl _
    | with_reducible refine Lo.bind ?_ (fun _ => ?_)
    | with_reducible refine Lo.ite ?_ ?_
    | with_reducible refine Lo.loop h (fun _ => ?_)
    | intro _
    | split
theorem indexIneq_b1_lo {N M : Nat} (h : N ≤ M) {f f' : (Ineq → Option Bool)} (hf : ∀ y0, Lo (f y0) (f' y0)) (s : (List Ineq)) : ∀ ss0, Lo (indexIneq_b1 N f s ss0) (indexIneq_b1 M f' s ss0) := by
  intro ss0
  unfold indexIneq_b1
  try dsimp only
  repeat' first
    | with_reducible exact Lo.refl _
    | with_reducible exact hf
    | with_reducible exact hf _
    | with_reducible refine Lo.bind ?_ (fun _ => ?_)
    | with_reducible refine Lo.ite ?_ ?_
    | with_reducible refine Lo.loop h (fun _ => ?_)
    | intro _
    | split
theorem indexIneq_lo {N M : Nat} (h : N ≤ M) {f f' : (Ineq → Option Bool)} (hf : ∀ y0, Lo (f y0) (f' y0)) (s : (List Ineq)) : Lo (indexIneq N s f) (indexIneq M s f') := by
  unfold indexIneq
  try dsimp only
  repeat' first
    | with_reducible exact Lo.refl _
    | with_reducible exact hf
    | with_reducible exact hf _
    | with_reducible apply indexIneq_b1_lo h
    | with_reducible refine Lo.bind ?_ (fun _ => ?_)
    | with_reducible refine Lo.ite ?_ ?_
    | with_reducible refine Lo.loop h (fun _ => ?_)
    | intro _
    | split
theorem containsIneq_lo {N M : Nat} (h : N ≤ M) {f f' : (Ineq → Option Bool)} (hf : ∀ y0, Lo (f y0) (f' y0)) (s : (List Ineq)) : Lo (containsIneq N s f) (containsIneq M s f') := by
  unfold containsIneq
  try dsimp only
  repeat' first
    | with_reducible exact Lo.refl _
    | with_reducible exact hf
    | with_reducible exact hf _
    | with_reducible apply indexIneq_lo h
    | with_reducible refine Lo.bind ?_ (fun _ => ?_)
    | with_reducible refine Lo.ite ?_ ?_
    | with_reducible refine Lo.loop h (fun _ => ?_)
    | intro _
    | split
theorem width1_lo {N M : Nat} (h : N ≤ M)  (q : Ineq) (ca : Int) : Lo (width1 N q ca) (width1 M q ca) := by
  unfold width1
  try dsimp only
  repeat' first
    | with_reducible exact Lo.refl _
    | with_reducible refine Lo.bind ?_ (fun _ => ?_)
    | with_reducible refine Lo.ite ?_ ?_
    | with_reducible refine Lo.loop h (fun _ => ?_)
    | intro _
    | split
theorem cwidth_lo {N M : Nat} (h : N ≤ M)  (l : (List Ineq)) : Lo (cwidth N l) (cwidth M l) := by
  unfold cwidth
  try dsimp only
  repeat' first
    | with_reducible exact Lo.refl _
    | with_reducible apply containsIneq_lo h
    | with_reducible apply width1_lo h
    | with_reducible refine Lo.bind ?_ (fun _ => ?_)
    | with_reducible refine Lo.ite ?_ ?_
    | with_reducible refine Lo.loop h (fun _ => ?_)
    | intro _
    | split
theorem cApply_b2_lo {N M : Nat} (h : N ≤ M)  (x1030 : Use) (x1103 : Ineq) : ∀ ss0, Lo (cApply_b2 N x1030 x1103 ss0) (cApply_b2 M x1030 x1103 ss0) := by
  intro ss0
  unfold cApply_b2
  try dsimp only
  repeat' first
    | with_reducible exact Lo.refl _
    | with_reducible apply bAdd_lo h
    | with_reducible apply bMul_lo h
    | with_reducible refine Lo.bind ?_ (fun _ => ?_)
    | with_reducible refine Lo.ite ?_ ?_
    | with_reducible refine Lo.loop h (fun _ => ?_)
    | intro _
    | split
theorem cApply_b1_lo {N M : Nat} (h : N ≤ M)  (l : (List Ineq)) (s : Step) : ∀ ss0, Lo (cApply_b1 N l s ss0) (cApply_b1 M l s ss0) := by
  intro ss0
  unfold cApply_b1
  try dsimp only
  repeat' first
    | with_reducible exact Lo.refl _
    | with_reducible apply bAdd_lo h
    | with_reducible apply bMul_lo h
    | with_reducible apply bSign_lo h
    | with_reducible apply cApply_b2_lo h
    | with_reducible refine Lo.bind ?_ (fun _ => ?_)
    | with_reducible refine Lo.ite ?_ ?_
    | with_reducible refine Lo.loop h (fun _ => ?_)
    | intro _
    | split
theorem cApply_b3_lo {N M : Nat} (h : N ≤ M)  (s : Step) (coefs1010 : (List Big)) : ∀ ss0, Lo (cApply_b3 N s coefs1010 ss0) (cApply_b3 M s coefs1010 ss0) := by
  intro ss0
  unfold cApply_b3
  try dsimp only
  repeat' first
    | with_reducible exact Lo.refl _
    | with_reducible apply bDivFloor_lo h
    | with_reducible apply bSign_lo h
    | with_reducible refine Lo.bind ?_ (fun _ => ?_)
    | with_reducible refine Lo.ite ?_ ?_
    | with_reducible refine Lo.loop h (fun _ => ?_)
    | intro _
    | split
theorem cApply_lo {N M : Nat} (h : N ≤ M)  (l : (List Ineq)) (s : Step) : Lo (cApply N l s) (cApply M l s) := by
  unfold cApply
  try dsimp only
  repeat' first
    | with_reducible exact Lo.refl _
    | with_reducible apply bDivFloor_lo h
    | with_reducible apply bSign_lo h
    | with_reducible apply cApply_b1_lo h
    | with_reducible apply cApply_b3_lo h
    | with_reducible apply cwidth_lo h
    | with_reducible refine Lo.bind ?_ (fun _ => ?_)
    | with_reducible refine Lo.ite ?_ ?_
    | with_reducible refine Lo.loop h (fun _ => ?_)
    | intro _
    | split
theorem cContradictory_b1_lo {N M : Nat} (h : N ≤ M)  (q : Ineq) : ∀ ss0, Lo (cContradictory_b1 N q ss0) (cContradictory_b1 M q ss0) := by
  intro ss0
  unfold cContradictory_b1
  try dsimp only
  repeat' first
    | with_reducible exact Lo.refl _
    | with_reducible apply bSign_lo h
    | with_reducible refine Lo.bind ?_ (fun _ => ?_)
    | with_reducible refine Lo.ite ?_ ?_
    | with_reducible refine Lo.loop h (fun _ => ?_)
    | intro _
    | split
theorem cContradictory_lo {N M : Nat} (h : N ≤ M)  (q : Ineq) : Lo (cContradictory N q) (cContradictory M q) := by
  unfold cContradictory
  try dsimp only
  repeat' first
    | with_reducible exact Lo.refl _
    | with_reducible apply bSign_lo h
    | with_reducible apply cContradictory_b1_lo h
    | with_reducible refine Lo.bind ?_ (fun _ => ?_)
    | with_reducible refine Lo.ite ?_ ?_
    | with_reducible refine Lo.loop h (fun _ => ?_)
    | intro _
    | split
theorem cCheck_b1_lo {N M : Nat} (h : N ≤ M)  (p : Proof) : ∀ ss0, Lo (cCheck_b1 N p ss0) (cCheck_b1 M p ss0) := by
  intro ss0
  unfold cCheck_b1
  try dsimp only
  repeat' first
    | with_reducible exact Lo.refl _
    | with_reducible apply cApply_lo h
    | with_reducible refine Lo.bind ?_ (fun _ => ?_)
    | with_reducible refine Lo.ite ?_ ?_
    | with_reducible refine Lo.loop h (fun _ => ?_)
    | intro _
    | split
theorem cCheck_step_lo {N M : Nat} (h : N ≤ M) {self self' : (List Ineq) → Proof → Option Bool} (hself : ∀ y0 y1, Lo (self y0 y1) (self' y0 y1)) (l : (List Ineq)) (p : Proof) : Lo (cCheck_step N self l p) (cCheck_step M self' l p) := by
  unfold cCheck_step
  try dsimp only
  repeat' first
    | with_reducible exact Lo.refl _
    | with_reducible exact hself
    | with_reducible exact hself _ _
    | with_reducible apply bNeg_lo h
    | with_reducible apply bOf_lo h
    | with_reducible apply bSub_lo h
    | with_reducible apply cCheck_b1_lo h
    | with_reducible apply cContradictory_lo h
    | with_reducible apply cloneIneq_lo h
    | with_reducible apply containsIneq_lo h
    | with_reducible apply cwidth_lo h
    | with_reducible apply negated_lo h
    | with_reducible refine Lo.bind ?_ (fun _ => ?_)
    | with_reducible refine Lo.ite ?_ ?_
    | with_reducible refine Lo.loop h (fun _ => ?_)
    | intro _
    | split
theorem cCheck_lo : ∀ {N M : Nat} (_ : N ≤ M) a0 a1, Lo (cCheck N a0 a1) (cCheck M a0 a1)
  | 0, _, _ => fun _ _ => Lo.none
  | N + 1, 0, h => by omega
  | N + 1, M + 1, h => cCheck_step_lo (by omega) (cCheck_lo (by omega))
theorem cSize_b1_lo {N M : Nat} (h : N ≤ M) {self self' : Proof → Option Int} (hself : ∀ y0, Lo (self y0) (self' y0)) (p : Proof) : ∀ ss0, Lo (cSize_b1 N self p ss0) (cSize_b1 M self' p ss0) := by
  intro ss0
  unfold cSize_b1
  try dsimp only
  repeat' first
    | with_reducible exact Lo.refl _
    | with_reducible exact hself
    | with_reducible exact hself _
    | with_reducible refine Lo.bind ?_ (fun _ => ?_)
    | with_reducible refine Lo.ite ?_ ?_
    | with_reducible refine Lo.loop h (fun _ => ?_)
    | intro _
    | split
theorem cSize_step_lo {N M : Nat} (h : N ≤ M) {self self' : Proof → Option Int} (hself : ∀ y0, Lo (self y0) (self' y0)) (p : Proof) : Lo (cSize_step N self p) (cSize_step M self' p) := by
  unfold cSize_step
  try dsimp only
  repeat' first
    | with_reducible exact Lo.refl _
    | with_reducible exact hself
    | with_reducible exact hself _
    | with_reducible apply cSize_b1_lo h
    | with_reducible refine Lo.bind ?_ (fun _ => ?_)
    | with_reducible refine Lo.ite ?_ ?_
    | with_reducible refine Lo.loop h (fun _ => ?_)
    | intro _
    | split
theorem cSize_lo : ∀ {N M : Nat} (_ : N ≤ M) a0, Lo (cSize N a0) (cSize M a0)
  | 0, _, _ => fun _ => Lo.none
  | N + 1, 0, h => by omega
  | N + 1, M + 1, h => cSize_step_lo (by omega) (cSize_lo (by omega))
end Go.D
set_option maxRecDepth 100000
set_option linter.unusedVariables false
set_option linter.unusedSimpArgs false
namespace Go.D
open Go Go.X
theorem indexOf_b1_lo {N M : Nat} (h : N ≤ M)  (pb : Int) (s : (List Int)) : ∀ ss0, Lo (indexOf_b1 N pb s ss0) (indexOf_b1 M pb s ss0) := by
  intro ss0
  unfold indexOf_b1
  try dsimp only
  repeat' first
    | with_reducible exact Lo.refl _
    | with_reducible refine Lo.bind ?_ (fun _ => ?_)
    | with_reducible refine Lo.ite ?_ ?_
    | with_reducible refine Lo.loop h (fun _ => ?_)
    | intro _
    | split
theorem indexOf_lo {N M : Nat} (h : N ≤ M)  (s : (List Int)) (pb : Int) : Lo (indexOf N s pb) (indexOf M s pb) := by
  unfold indexOf
  try dsimp only
  repeat' first
    | with_reducible exact Lo.refl _
    | with_reducible apply indexOf_b1_lo h
    | with_reducible refine Lo.bind ?_ (fun _ => ?_)
    | with_reducible refine Lo.ite ?_ ?_
    | with_reducible refine Lo.loop h (fun _ => ?_)
    | intro _
    | split
theorem containsOf_lo {N M : Nat} (h : N ≤ M)  (s : (List Int)) (pb : Int) : Lo (containsOf N s pb) (containsOf M s pb) := by
  unfold containsOf
  try dsimp only
  repeat' first
    | with_reducible exact Lo.refl _
    | with_reducible apply indexOf_lo h
    | with_reducible refine Lo.bind ?_ (fun _ => ?_)
    | with_reducible refine Lo.ite ?_ ?_
    | with_reducible refine Lo.loop h (fun _ => ?_)
    | intro _
    | split
end Go.D
set_option maxRecDepth 100000
set_option linter.unusedVariables false
set_option linter.unusedSimpArgs false
namespace Go.D
open Go Go.X
theorem pClosure_b1_lo {N M : Nat} (h : N ≤ M)  (pattern : (List UInt8)) : ∀ ss0, Lo (pClosure_b1 N pattern ss0) (pClosure_b1 M pattern ss0) := by
  intro ss0
  unfold pClosure_b1
  try dsimp only
  repeat' first
    | with_reducible exact Lo.refl _
    | with_reducible refine Lo.bind ?_ (fun _ => ?_)
    | with_reducible refine Lo.ite ?_ ?_
    | with_reducible refine Lo.loop h (fun _ => ?_)
    | intro _
    | split
theorem pClosure_lo {N M : Nat} (h : N ≤ M)  (pattern : (List UInt8)) (vset : Int) : Lo (pClosure N pattern vset) (pClosure M pattern vset) := by
  unfold pClosure
  try dsimp only
  repeat' first
    | with_reducible exact Lo.refl _
    | with_reducible apply pClosure_b1_lo h
    | with_reducible refine Lo.bind ?_ (fun _ => ?_)
    | with_reducible refine Lo.ite ?_ ?_
    | with_reducible refine Lo.loop h (fun _ => ?_)
    | intro _
    | split
theorem pBegin_lo {N M : Nat} (h : N ≤ M)  (t : TTest) : Lo (pBegin N t) (pBegin M t) := by
  unfold pBegin
  try dsimp only
  repeat' first
    | with_reducible exact Lo.refl _
    | with_reducible apply pClosure_lo h
    | with_reducible refine Lo.bind ?_ (fun _ => ?_)
    | with_reducible refine Lo.ite ?_ ?_
    | with_reducible refine Lo.loop h (fun _ => ?_)
    | intro _
    | split
theorem pNext_b1_lo {N M : Nat} (h : N ≤ M)  (c : Int) (s : Int) (t : TTest) : ∀ ss0, Lo (pNext_b1 N c s t ss0) (pNext_b1 M c s t ss0) := by
  intro ss0
  unfold pNext_b1
  try dsimp only
  repeat' first
    | with_reducible exact Lo.refl _
    | with_reducible refine Lo.bind ?_ (fun _ => ?_)
    | with_reducible refine Lo.ite ?_ ?_
    | with_reducible refine Lo.loop h (fun _ => ?_)
    | intro _
    | split
theorem pNext_lo {N M : Nat} (h : N ≤ M)  (t : TTest) (s : Int) (c : Int) : Lo (pNext N t s c) (pNext M t s c) := by
  unfold pNext
  try dsimp only
  repeat' first
    | with_reducible exact Lo.refl _
    | with_reducible apply pClosure_lo h
    | with_reducible apply pNext_b1_lo h
    | with_reducible refine Lo.bind ?_ (fun _ => ?_)
    | with_reducible refine Lo.ite ?_ ?_
    | with_reducible refine Lo.loop h (fun _ => ?_)
    | intro _
    | split
theorem pPassed_lo {N M : Nat} (h : N ≤ M)  (t : TTest) (s : Int) : Lo (pPassed N t s) (pPassed M t s) := by
  unfold pPassed
  try dsimp only
  repeat' first
    | with_reducible exact Lo.refl _
    | with_reducible refine Lo.bind ?_ (fun _ => ?_)
    | with_reducible refine Lo.ite ?_ ?_
    | with_reducible refine Lo.loop h (fun _ => ?_)
    | intro _
    | split
theorem pKey_b1_lo {N M : Nat} (h : N ≤ M)  (l : (List Int)) : ∀ ss0, Lo (pKey_b1 N l ss0) (pKey_b1 M l ss0) := by
  intro ss0
  unfold pKey_b1
  try dsimp only
  repeat' first
    | with_reducible exact Lo.refl _
    | with_reducible refine Lo.bind ?_ (fun _ => ?_)
    | with_reducible refine Lo.ite ?_ ?_
    | with_reducible refine Lo.loop h (fun _ => ?_)
    | intro _
    | split
theorem pKey_lo {N M : Nat} (h : N ≤ M)  (l : (List Int)) (left : Int) : Lo (pKey N l left) (pKey M l left) := by
  unfold pKey
  try dsimp only
  repeat' first
    | with_reducible exact Lo.refl _
    | with_reducible apply pKey_b1_lo h
    | with_reducible refine Lo.bind ?_ (fun _ => ?_)
    | with_reducible refine Lo.ite ?_ ?_
    | with_reducible refine Lo.loop h (fun _ => ?_)
    | intro _
    | split
theorem pFind_b1_lo {N M : Nat} (h : N ≤ M)  (f : TFinder) (l : (List Int)) : ∀ ss0, Lo (pFind_b1 N f l ss0) (pFind_b1 M f l ss0) := by
  intro ss0
  unfold pFind_b1
  try dsimp only
  repeat' first
    | with_reducible exact Lo.refl _
    | with_reducible apply pPassed_lo h
    | with_reducible refine Lo.bind ?_ (fun _ => ?_)
    | with_reducible refine Lo.ite ?_ ?_
    | with_reducible refine Lo.loop h (fun _ => ?_)
    | intro _
    | split
theorem pFind_b3_lo {N M : Nat} (h : N ≤ M)  (f : TFinder) (l : (List Int)) (c1047 : Int) : ∀ ss0, Lo (pFind_b3 N f l c1047 ss0) (pFind_b3 M f l c1047 ss0) := by
  intro ss0
  unfold pFind_b3
  try dsimp only
  repeat' first
    | with_reducible exact Lo.refl _
    | with_reducible apply pNext_lo h
    | with_reducible refine Lo.bind ?_ (fun _ => ?_)
    | with_reducible refine Lo.ite ?_ ?_
    | with_reducible refine Lo.loop h (fun _ => ?_)
    | intro _
    | split
theorem pFind_b2_lo {N M : Nat} (h : N ≤ M) {self self' : TFinder → (List Int) → (List Int) → Int → Option (Bool × (List (List UInt8)) × (List ((List UInt8) × Bool)))} (hself : ∀ y0 y1 y2 y3, Lo (self y0 y1 y2 y3) (self' y0 y1 y2 y3)) (f : TFinder) (l : (List Int)) (left : Int) (text : (List Int)) : ∀ ss0, Lo (pFind_b2 N self f l left text ss0) (pFind_b2 M self' f l left text ss0) := by
  intro ss0
  unfold pFind_b2
  try dsimp only
  repeat' first
    | with_reducible exact Lo.refl _
    | with_reducible exact hself
    | with_reducible exact hself _ _ _ _
    | with_reducible apply pFind_b3_lo h
    | with_reducible refine Lo.bind ?_ (fun _ => ?_)
    | with_reducible refine Lo.ite ?_ ?_
    | with_reducible refine Lo.loop h (fun _ => ?_)
    | intro _
    | split
theorem pFind_step_lo {N M : Nat} (h : N ≤ M) {self self' : TFinder → (List Int) → (List Int) → Int → Option (Bool × (List (List UInt8)) × (List ((List UInt8) × Bool)))} (hself : ∀ y0 y1 y2 y3, Lo (self y0 y1 y2 y3) (self' y0 y1 y2 y3)) (f : TFinder) (l : (List Int)) (text : (List Int)) (left : Int) : Lo (pFind_step N self f l text left) (pFind_step M self' f l text left) := by
  unfold pFind_step
  try dsimp only
  repeat' first
    | with_reducible exact Lo.refl _
    | with_reducible exact hself
    | with_reducible exact hself _ _ _ _
    | with_reducible apply pFind_b1_lo h
    | with_reducible apply pFind_b2_lo h
    | with_reducible apply pKey_lo h
    | with_reducible refine Lo.bind ?_ (fun _ => ?_)
    | with_reducible refine Lo.ite ?_ ?_
    | with_reducible refine Lo.loop h (fun _ => ?_)
    | intro _
    | split
theorem pFind_lo : ∀ {N M : Nat} (_ : N ≤ M) a0 a1 a2 a3, Lo (pFind N a0 a1 a2 a3) (pFind M a0 a1 a2 a3)
  | 0, _, _ => fun _ _ _ _ => Lo.none
  | N + 1, 0, h => by omega
  | N + 1, M + 1, h => pFind_step_lo (by omega) (pFind_lo (by omega))
theorem pFBegin_b1_lo {N M : Nat} (h : N ≤ M)  (f : TFinder) : ∀ ss0, Lo (pFBegin_b1 N f ss0) (pFBegin_b1 M f ss0) := by
  intro ss0
  unfold pFBegin_b1
  try dsimp only
  repeat' first
    | with_reducible exact Lo.refl _
    | with_reducible apply pBegin_lo h
    | with_reducible refine Lo.bind ?_ (fun _ => ?_)
    | with_reducible refine Lo.ite ?_ ?_
    | with_reducible refine Lo.loop h (fun _ => ?_)
    | intro _
    | split
theorem pFBegin_lo {N M : Nat} (h : N ≤ M)  (f : TFinder) : Lo (pFBegin N f) (pFBegin M f) := by
  unfold pFBegin
  try dsimp only
  repeat' first
    | with_reducible exact Lo.refl _
    | with_reducible apply pFBegin_b1_lo h
    | with_reducible refine Lo.bind ?_ (fun _ => ?_)
    | with_reducible refine Lo.ite ?_ ?_
    | with_reducible refine Lo.loop h (fun _ => ?_)
    | intro _
    | split
theorem pWords_lo {N M : Nat} (h : N ≤ M)  (l : (List TTest)) (length : Int) (most : Int) : Lo (pWords N l length most) (pWords M l length most) := by
  unfold pWords
  try dsimp only
  repeat' first
    | with_reducible exact Lo.refl _
    | with_reducible apply pFBegin_lo h
    | with_reducible apply pFind_lo h
    | with_reducible refine Lo.bind ?_ (fun _ => ?_)
    | with_reducible refine Lo.ite ?_ ?_
    | with_reducible refine Lo.loop h (fun _ => ?_)
    | intro _
    | split
end Go.D
set_option maxRecDepth 100000
set_option linter.unusedVariables false
set_option linter.unusedSimpArgs false
namespace Go.D
open Go Go.X
theorem indexInt_b1_lo {N M : Nat} (h : N ≤ M) {f f' : (Int → Option Bool)} (hf : ∀ y0, Lo (f y0) (f' y0)) (s : (List Int)) : ∀ ss0, Lo (indexInt_b1 N f s ss0) (indexInt_b1 M f' s ss0) := by
  intro ss0
  unfold indexInt_b1
  try dsimp only
  repeat' first
    | with_reducible exact Lo.refl _
    | with_reducible exact hf
    | with_reducible exact hf _
    | with_reducible refine Lo.bind ?_ (fun _ => ?_)
    | with_reducible refine Lo.ite ?_ ?_
    | with_reducible refine Lo.loop h (fun _ => ?_)
    | intro _
    | split
theorem indexInt_lo {N M : Nat} (h : N ≤ M) {f f' : (Int → Option Bool)} (hf : ∀ y0, Lo (f y0) (f' y0)) (s : (List Int)) : Lo (indexInt N s f) (indexInt M s f') := by
  unfold indexInt
  try dsimp only
  repeat' first
    | with_reducible exact Lo.refl _
    | with_reducible exact hf
    | with_reducible exact hf _
    | with_reducible apply indexInt_b1_lo h
    | with_reducible refine Lo.bind ?_ (fun _ => ?_)
    | with_reducible refine Lo.ite ?_ ?_
    | with_reducible refine Lo.loop h (fun _ => ?_)
    | intro _
    | split
theorem containsInt_lo {N M : Nat} (h : N ≤ M) {f f' : (Int → Option Bool)} (hf : ∀ y0, Lo (f y0) (f' y0)) (s : (List Int)) : Lo (containsInt N s f) (containsInt M s f') := by
  unfold containsInt
  try dsimp only
  repeat' first
    | with_reducible exact Lo.refl _
    | with_reducible exact hf
    | with_reducible exact hf _
    | with_reducible apply indexInt_lo h
    | with_reducible refine Lo.bind ?_ (fun _ => ?_)
    | with_reducible refine Lo.ite ?_ ?_
    | with_reducible refine Lo.loop h (fun _ => ?_)
    | intro _
    | split
theorem tclasses_b1_lo {N M : Nat} (h : N ≤ M)  (x8 : (List Int)) : ∀ ss0, Lo (tclasses_b1 N x8 ss0) (tclasses_b1 M x8 ss0) := by
  intro ss0
  unfold tclasses_b1
  try dsimp only
  repeat' first
    | with_reducible exact Lo.refl _
    | with_reducible refine Lo.bind ?_ (fun _ => ?_)
    | with_reducible refine Lo.ite ?_ ?_
    | with_reducible refine Lo.loop h (fun _ => ?_)
    | intro _
    | split
theorem tclasses_b3_lo {N M : Nat} (h : N ≤ M)  (p : TProb) : ∀ ss0, Lo (tclasses_b3 N p ss0) (tclasses_b3 M p ss0) := by
  intro ss0
  unfold tclasses_b3
  try dsimp only
  repeat' first
    | with_reducible exact Lo.refl _
    | with_reducible refine Lo.bind ?_ (fun _ => ?_)
    | with_reducible refine Lo.ite ?_ ?_
    | with_reducible refine Lo.loop h (fun _ => ?_)
    | intro _
    | split
theorem tclasses_b2_lo {N M : Nat} (h : N ≤ M)  (p : TProb) : ∀ ss0, Lo (tclasses_b2 N p ss0) (tclasses_b2 M p ss0) := by
  intro ss0
  unfold tclasses_b2
  try dsimp only
  repeat' first
    | with_reducible exact Lo.refl _
    | with_reducible apply tclasses_b3_lo h
    | with_reducible refine Lo.bind ?_ (fun _ => ?_)
    | with_reducible refine Lo.ite ?_ ?_
    | with_reducible refine Lo.loop h (fun _ => ?_)
    | intro _
    | split
theorem tclasses_b4_lo {N M : Nat} (h : N ≤ M)  (least805 : (List Int)) : ∀ ss0, Lo (tclasses_b4 N least805 ss0) (tclasses_b4 M least805 ss0) := by
  intro ss0
  unfold tclasses_b4
  try dsimp only
  repeat' first
    | with_reducible exact Lo.refl _
    | with_reducible refine Lo.bind ?_ (fun _ => ?_)
    | with_reducible refine Lo.ite ?_ ?_
    | with_reducible refine Lo.loop h (fun _ => ?_)
    | intro _
    | split
theorem tclasses_lo {N M : Nat} (h : N ≤ M)  (p : TProb) : Lo (tclasses N p) (tclasses M p) := by
  unfold tclasses
  try dsimp only
  repeat' first
    | with_reducible exact Lo.refl _
    | with_reducible apply tclasses_b1_lo h
    | with_reducible apply tclasses_b2_lo h
    | with_reducible apply tclasses_b4_lo h
    | with_reducible refine Lo.bind ?_ (fun _ => ?_)
    | with_reducible refine Lo.ite ?_ ?_
    | with_reducible refine Lo.loop h (fun _ => ?_)
    | intro _
    | split
theorem cloneTest_lo {N M : Nat} (h : N ≤ M)  (s : (List TTest)) : Lo (cloneTest N s) (cloneTest M s) := by
  unfold cloneTest
  try dsimp only
  repeat' first
    | with_reducible exact Lo.refl _
    | with_reducible refine Lo.bind ?_ (fun _ => ?_)
    | with_reducible refine Lo.ite ?_ ?_
    | with_reducible refine Lo.loop h (fun _ => ?_)
    | intro _
    | split
theorem tgathered_b1_lo {N M : Nat} (h : N ≤ M)  (x26 : (List TClass)) : ∀ ss0, Lo (tgathered_b1 N x26 ss0) (tgathered_b1 M x26 ss0) := by
  intro ss0
  unfold tgathered_b1
  try dsimp only
  repeat' first
    | with_reducible exact Lo.refl _
    | with_reducible refine Lo.bind ?_ (fun _ => ?_)
    | with_reducible refine Lo.ite ?_ ?_
    | with_reducible refine Lo.loop h (fun _ => ?_)
    | intro _
    | split
theorem tgathered_b2_lo {N M : Nat} (h : N ≤ M)  (p : TProb) (r6 : ((List Int) × Int)) : ∀ ss0, Lo (tgathered_b2 N p r6 ss0) (tgathered_b2 M p r6 ss0) := by
  intro ss0
  unfold tgathered_b2
  try dsimp only
  repeat' first
    | with_reducible exact Lo.refl _
    | with_reducible refine Lo.bind ?_ (fun _ => ?_)
    | with_reducible refine Lo.ite ?_ ?_
    | with_reducible refine Lo.loop h (fun _ => ?_)
    | intro _
    | split
theorem tgathered_b3_lo {N M : Nat} (h : N ≤ M)  (p : TProb) (r6 : ((List Int) × Int)) : ∀ ss0, Lo (tgathered_b3 N p r6 ss0) (tgathered_b3 M p r6 ss0) := by
  intro ss0
  unfold tgathered_b3
  try dsimp only
  repeat' first
    | with_reducible exact Lo.refl _
    | with_reducible refine Lo.bind ?_ (fun _ => ?_)
    | with_reducible refine Lo.ite ?_ ?_
    | with_reducible refine Lo.loop h (fun _ => ?_)
    | intro _
    | split
theorem tgathered_b4_lo {N M : Nat} (h : N ≤ M)  (p : TProb) (r6 : ((List Int) × Int)) : ∀ ss0, Lo (tgathered_b4 N p r6 ss0) (tgathered_b4 M p r6 ss0) := by
  intro ss0
  unfold tgathered_b4
  try dsimp only
  repeat' first
    | with_reducible exact Lo.refl _
    | with_reducible apply containsOf_lo h
    | with_reducible refine Lo.bind ?_ (fun _ => ?_)
    | with_reducible refine Lo.ite ?_ ?_
    | with_reducible refine Lo.loop h (fun _ => ?_)
    | intro _
    | split
theorem tgathered_lo {N M : Nat} (h : N ≤ M)  (p : TProb) : Lo (tgathered N p) (tgathered M p) := by
  unfold tgathered
  try dsimp only
  repeat' first
    | with_reducible exact Lo.refl _
    | with_reducible apply tclasses_lo h
    | with_reducible apply tgathered_b1_lo h
    | with_reducible apply tgathered_b2_lo h
    | with_reducible apply tgathered_b3_lo h
    | with_reducible apply tgathered_b4_lo h
    | with_reducible refine Lo.bind ?_ (fun _ => ?_)
    | with_reducible refine Lo.ite ?_ ?_
    | with_reducible refine Lo.loop h (fun _ => ?_)
    | intro _
    | split
theorem tfirst_b2_lo {N M : Nat} (h : N ≤ M)  (c : TClass) (most : Int) (n808 : Int) : ∀ ss0, Lo (tfirst_b2 N c most n808 ss0) (tfirst_b2 M c most n808 ss0) := by
  intro ss0
  unfold tfirst_b2
  try dsimp only
  repeat' first
    | with_reducible exact Lo.refl _
    | with_reducible apply cloneTest_lo h
    | with_reducible apply pWords_lo h
    | with_reducible refine Lo.bind ?_ (fun _ => ?_)
    | with_reducible refine Lo.ite ?_ ?_
    | with_reducible refine Lo.loop h (fun _ => ?_)
    | intro _
    | split
theorem tfirst_b1_lo {N M : Nat} (h : N ≤ M)  (c : TClass) (most : Int) : ∀ ss0, Lo (tfirst_b1 N c most ss0) (tfirst_b1 M c most ss0) := by
  intro ss0
  unfold tfirst_b1
  try dsimp only
  repeat' first
    | with_reducible exact Lo.refl _
    | with_reducible apply cloneTest_lo h
    | with_reducible apply tfirst_b2_lo h
    | with_reducible refine Lo.bind ?_ (fun _ => ?_)
    | with_reducible refine Lo.ite ?_ ?_
    | with_reducible refine Lo.loop h (fun _ => ?_)
    | intro _
    | split
theorem tfirst_lo {N M : Nat} (h : N ≤ M)  (c : TClass) (most : Int) : Lo (tfirst N c most) (tfirst M c most) := by
  unfold tfirst
  try dsimp only
  repeat' first
    | with_reducible exact Lo.refl _
    | with_reducible apply tfirst_b1_lo h
    | with_reducible refine Lo.bind ?_ (fun _ => ?_)
    | with_reducible refine Lo.ite ?_ ?_
    | with_reducible refine Lo.loop h (fun _ => ?_)
    | intro _
    | split
theorem revInt_b1_lo {N M : Nat} (h : N ≤ M)   : ∀ ss0, Lo (revInt_b1 N  ss0) (revInt_b1 M  ss0) := by
  intro ss0
  unfold revInt_b1
  try dsimp only
  repeat' first
    | with_reducible exact Lo.refl _
    | with_reducible refine Lo.bind ?_ (fun _ => ?_)
    | with_reducible refine Lo.ite ?_ ?_
    | with_reducible refine Lo.loop h (fun _ => ?_)
    | intro _
    | split
theorem revInt_lo {N M : Nat} (h : N ≤ M)  (s : (List Int)) : Lo (revInt N s) (revInt M s) := by
  unfold revInt
  try dsimp only
  repeat' first
    | with_reducible exact Lo.refl _
    | with_reducible apply revInt_b1_lo h
    | with_reducible refine Lo.bind ?_ (fun _ => ?_)
    | with_reducible refine Lo.ite ?_ ?_
    | with_reducible refine Lo.loop h (fun _ => ?_)
    | intro _
    | split
theorem tchoose1_lo {N M : Nat} (h : N ≤ M)  (other : Int) (ca : (List Bool)) (cb : (List (List UInt8))) (cc : (List UInt8)) : Lo (tchoose1 N other ca cb cc) (tchoose1 M other ca cb cc) := by
  unfold tchoose1
  try dsimp only
  repeat' first
    | with_reducible exact Lo.refl _
    | with_reducible refine Lo.bind ?_ (fun _ => ?_)
    | with_reducible refine Lo.ite ?_ ?_
    | with_reducible refine Lo.loop h (fun _ => ?_)
    | intro _
    | split
theorem tchoose_b1_lo {N M : Nat} (h : N ≤ M) {self self' : (List TClass) → (List Int) → (List (List UInt8)) → (List Bool) → Option (Bool × Bool × (List (List UInt8)) × (List Bool))} (hself : ∀ y0 y1 y2 y3, Lo (self y0 y1 y2 y3) (self' y0 y1 y2 y3)) (l : (List TClass)) (order : (List Int)) (words : (List (List UInt8))) (x21 : Int) (x58 : TClass) : ∀ ss0, Lo (tchoose_b1 N self l order words x21 x58 ss0) (tchoose_b1 M self' l order words x21 x58 ss0) := by
  intro ss0
  unfold tchoose_b1
  try dsimp only
  repeat' first
    | with_reducible exact Lo.refl _
    | with_reducible exact hself
    | with_reducible exact hself _ _ _ _
    | with_reducible apply containsInt_lo h
    | with_reducible apply tchoose1_lo h
    | with_reducible refine Lo.bind ?_ (fun _ => ?_)
    | with_reducible refine Lo.ite ?_ ?_
    | with_reducible refine Lo.loop h (fun _ => ?_)
    | intro _
    | split
theorem tchoose_step_lo {N M : Nat} (h : N ≤ M) {self self' : (List TClass) → (List Int) → (List (List UInt8)) → (List Bool) → Option (Bool × Bool × (List (List UInt8)) × (List Bool))} (hself : ∀ y0 y1 y2 y3, Lo (self y0 y1 y2 y3) (self' y0 y1 y2 y3)) (l : (List TClass)) (order : (List Int)) (words : (List (List UInt8))) (known : (List Bool)) : Lo (tchoose_step N self l order words known) (tchoose_step M self' l order words known) := by
  unfold tchoose_step
  try dsimp only
  repeat' first
    | with_reducible exact Lo.refl _
    | with_reducible exact hself
    | with_reducible exact hself _ _ _ _
    | with_reducible apply tchoose_b1_lo h
    | with_reducible refine Lo.bind ?_ (fun _ => ?_)
    | with_reducible refine Lo.ite ?_ ?_
    | with_reducible refine Lo.loop h (fun _ => ?_)
    | intro _
    | split
theorem tchoose_lo : ∀ {N M : Nat} (_ : N ≤ M) a0 a1 a2 a3, Lo (tchoose N a0 a1 a2 a3) (tchoose M a0 a1 a2 a3)
  | 0, _, _ => fun _ _ _ _ => Lo.none
  | N + 1, 0, h => by omega
  | N + 1, M + 1, h => tchoose_step_lo (by omega) (tchoose_lo (by omega))
theorem insSort_b2_lo {N M : Nat} (h : N ≤ M) {cmp cmp' : (Int → Int → Option Int)} (hcmp : ∀ y0 y1, Lo (cmp y0 y1) (cmp' y0 y1)) (a : Int) : ∀ ss0, Lo (insSort_b2 N a cmp ss0) (insSort_b2 M a cmp' ss0) := by
  intro ss0
  unfold insSort_b2
  try dsimp only
  repeat' first
    | with_reducible exact Lo.refl _
    | with_reducible exact hcmp
    | with_reducible exact hcmp _ _
    | with_reducible refine Lo.bind ?_ (fun _ => ?_)
    | with_reducible refine Lo.ite ?_ ?_
    | with_reducible refine Lo.loop h (fun _ => ?_)
    | intro _
    | split
theorem insSort_b1_lo {N M : Nat} (h : N ≤ M) {cmp cmp' : (Int → Int → Option Int)} (hcmp : ∀ y0 y1, Lo (cmp y0 y1) (cmp' y0 y1)) (a : Int) (b : Int) : ∀ ss0, Lo (insSort_b1 N a b cmp ss0) (insSort_b1 M a b cmp' ss0) := by
  intro ss0
  unfold insSort_b1
  try dsimp only
  repeat' first
    | with_reducible exact Lo.refl _
    | with_reducible exact hcmp
    | with_reducible exact hcmp _ _
    | with_reducible apply insSort_b2_lo h
    | with_reducible refine Lo.bind ?_ (fun _ => ?_)
    | with_reducible refine Lo.ite ?_ ?_
    | with_reducible refine Lo.loop h (fun _ => ?_)
    | intro _
    | split
theorem insSort_lo {N M : Nat} (h : N ≤ M) {cmp cmp' : (Int → Int → Option Int)} (hcmp : ∀ y0 y1, Lo (cmp y0 y1) (cmp' y0 y1)) (data : (List Int)) (a : Int) (b : Int) : Lo (insSort N data a b cmp) (insSort M data a b cmp') := by
  unfold insSort
  try dsimp only
  repeat' first
    | with_reducible exact Lo.refl _
    | with_reducible exact hcmp
    | with_reducible exact hcmp _ _
    | with_reducible apply insSort_b1_lo h
    | with_reducible refine Lo.bind ?_ (fun _ => ?_)
    | with_reducible refine Lo.ite ?_ ?_
    | with_reducible refine Lo.loop h (fun _ => ?_)
    | intro _
    | split
theorem stableSort_b1_lo {N M : Nat} (h : N ≤ M) {cmp cmp' : (Int → Int → Option Int)} (hcmp : ∀ y0 y1, Lo (cmp y0 y1) (cmp' y0 y1)) (n : Int) : ∀ ss0, Lo (stableSort_b1 N cmp n ss0) (stableSort_b1 M cmp' n ss0) := by
  intro ss0
  unfold stableSort_b1
  try dsimp only
  repeat' first
    | with_reducible exact Lo.refl _
    | with_reducible exact hcmp
    | with_reducible exact hcmp _ _
    | with_reducible apply insSort_lo h
    | with_reducible refine Lo.bind ?_ (fun _ => ?_)
    | with_reducible refine Lo.ite ?_ ?_
    | with_reducible refine Lo.loop h (fun _ => ?_)
    | intro _
    | split
theorem stableSort_b3_lo {N M : Nat} (h : N ≤ M)  (n : Int) (blockSize163 : Int) : ∀ ss0, Lo (stableSort_b3 N n blockSize163 ss0) (stableSort_b3 M n blockSize163 ss0) := by
  intro ss0
  unfold stableSort_b3
  try dsimp only
  repeat' first
    | with_reducible exact Lo.refl _
    | with_reducible refine Lo.bind ?_ (fun _ => ?_)
    | with_reducible refine Lo.ite ?_ ?_
    | with_reducible refine Lo.loop h (fun _ => ?_)
    | intro _
    | split
theorem stableSort_b2_lo {N M : Nat} (h : N ≤ M)  (n : Int) : ∀ ss0, Lo (stableSort_b2 N n ss0) (stableSort_b2 M n ss0) := by
  intro ss0
  unfold stableSort_b2
  try dsimp only
  repeat' first
    | with_reducible exact Lo.refl _
    | with_reducible apply stableSort_b3_lo h
    | with_reducible refine Lo.bind ?_ (fun _ => ?_)
    | with_reducible refine Lo.ite ?_ ?_
    | with_reducible refine Lo.loop h (fun _ => ?_)
    | intro _
    | split
theorem stableSort_lo {N M : Nat} (h : N ≤ M) {cmp cmp' : (Int → Int → Option Int)} (hcmp : ∀ y0 y1, Lo (cmp y0 y1) (cmp' y0 y1)) (data : (List Int)) (n : Int) : Lo (stableSort N data n cmp) (stableSort M data n cmp') := by
  unfold stableSort
  try dsimp only
  repeat' first
    | with_reducible exact Lo.refl _
    | with_reducible exact hcmp
    | with_reducible exact hcmp _ _
    | with_reducible apply insSort_lo h
    | with_reducible apply stableSort_b1_lo h
    | with_reducible apply stableSort_b2_lo h
    | with_reducible refine Lo.bind ?_ (fun _ => ?_)
    | with_reducible refine Lo.ite ?_ ?_
    | with_reducible refine Lo.loop h (fun _ => ?_)
    | intro _
    | split
theorem sortStable_lo {N M : Nat} (h : N ≤ M) {cmp cmp' : (Int → Int → Option Int)} (hcmp : ∀ y0 y1, Lo (cmp y0 y1) (cmp' y0 y1)) (x : (List Int)) : Lo (sortStable N x cmp) (sortStable M x cmp') := by
  unfold sortStable
  try dsimp only
  repeat' first
    | with_reducible exact Lo.refl _
    | with_reducible exact hcmp
    | with_reducible exact hcmp _ _
    | with_reducible apply stableSort_lo h
    | with_reducible refine Lo.bind ?_ (fun _ => ?_)
    | with_reducible refine Lo.ite ?_ ?_
    | with_reducible refine Lo.loop h (fun _ => ?_)
    | intro _
    | split
theorem tSolve1_lo {N M : Nat} (h : N ≤ M)  (a : Int) (b : Int) (ca : (List TClass)) : Lo (tSolve1 N a b ca) (tSolve1 M a b ca) := by
  unfold tSolve1
  try dsimp only
  repeat' first
    | with_reducible exact Lo.refl _
    | with_reducible refine Lo.bind ?_ (fun _ => ?_)
    | with_reducible refine Lo.ite ?_ ?_
    | with_reducible refine Lo.loop h (fun _ => ?_)
    | intro _
    | split
theorem tSolve_b1_lo {N M : Nat} (h : N ≤ M)  (r6 : ((List TClass) × (List Int) × Bool)) : ∀ ss0, Lo (tSolve_b1 N r6 ss0) (tSolve_b1 M r6 ss0) := by
  intro ss0
  unfold tSolve_b1
  try dsimp only
  repeat' first
    | with_reducible exact Lo.refl _
    | with_reducible apply tfirst_lo h
    | with_reducible refine Lo.bind ?_ (fun _ => ?_)
    | with_reducible refine Lo.ite ?_ ?_
    | with_reducible refine Lo.loop h (fun _ => ?_)
    | intro _
    | split
theorem tSolve_b2_lo {N M : Nat} (h : N ≤ M)  (l302 : (List TClass)) : ∀ ss0, Lo (tSolve_b2 N l302 ss0) (tSolve_b2 M l302 ss0) := by
  intro ss0
  unfold tSolve_b2
  try dsimp only
  repeat' first
    | with_reducible exact Lo.refl _
    | with_reducible refine Lo.bind ?_ (fun _ => ?_)
    | with_reducible refine Lo.ite ?_ ?_
    | with_reducible refine Lo.loop h (fun _ => ?_)
    | intro _
    | split
theorem tSolve_b5_lo {N M : Nat} (h : N ≤ M)  (x4144 : TClass) : ∀ ss0, Lo (tSolve_b5 N x4144 ss0) (tSolve_b5 M x4144 ss0) := by
  intro ss0
  unfold tSolve_b5
  try dsimp only
  repeat' first
    | with_reducible exact Lo.refl _
    | with_reducible refine Lo.bind ?_ (fun _ => ?_)
    | with_reducible refine Lo.ite ?_ ?_
    | with_reducible refine Lo.loop h (fun _ => ?_)
    | intro _
    | split
theorem tSolve_b4_lo {N M : Nat} (h : N ≤ M)  (l302 : (List TClass)) : ∀ ss0, Lo (tSolve_b4 N l302 ss0) (tSolve_b4 M l302 ss0) := by
  intro ss0
  unfold tSolve_b4
  try dsimp only
  repeat' first
    | with_reducible exact Lo.refl _
    | with_reducible apply tSolve_b5_lo h
    | with_reducible refine Lo.bind ?_ (fun _ => ?_)
    | with_reducible refine Lo.ite ?_ ?_
    | with_reducible refine Lo.loop h (fun _ => ?_)
    | intro _
    | split
theorem tSolve_b3_lo {N M : Nat} (h : N ≤ M)  (l302 : (List TClass)) : ∀ ss0, Lo (tSolve_b3 N l302 ss0) (tSolve_b3 M l302 ss0) := by
  intro ss0
  unfold tSolve_b3
  try dsimp only
  repeat' first
    | with_reducible exact Lo.refl _
    | with_reducible apply tSolve_b4_lo h
    | with_reducible refine Lo.bind ?_ (fun _ => ?_)
    | with_reducible refine Lo.ite ?_ ?_
    | with_reducible refine Lo.loop h (fun _ => ?_)
    | intro _
    | split
theorem tSolve_b6_lo {N M : Nat} (h : N ≤ M)  (l302 : (List TClass)) (removed3147 : (List Bool)) : ∀ ss0, Lo (tSolve_b6 N l302 removed3147 ss0) (tSolve_b6 M l302 removed3147 ss0) := by
  intro ss0
  unfold tSolve_b6
  try dsimp only
  repeat' first
    | with_reducible exact Lo.refl _
    | with_reducible refine Lo.bind ?_ (fun _ => ?_)
    | with_reducible refine Lo.ite ?_ ?_
    | with_reducible refine Lo.loop h (fun _ => ?_)
    | intro _
    | split
theorem tSolve_b7_lo {N M : Nat} (h : N ≤ M)  (r6 : ((List TClass) × (List Int) × Bool)) (r4677 : (Bool × Bool × (List (List UInt8)) × (List Bool))) : ∀ ss0, Lo (tSolve_b7 N r6 r4677 ss0) (tSolve_b7 M r6 r4677 ss0) := by
  intro ss0
  unfold tSolve_b7
  try dsimp only
  repeat' first
    | with_reducible exact Lo.refl _
    | with_reducible refine Lo.bind ?_ (fun _ => ?_)
    | with_reducible refine Lo.ite ?_ ?_
    | with_reducible refine Lo.loop h (fun _ => ?_)
    | intro _
    | split
theorem tSolve_lo {N M : Nat} (h : N ≤ M)  (p : TProb) : Lo (tSolve N p) (tSolve M p) := by
  unfold tSolve
  try dsimp only
  repeat' first
    | with_reducible exact Lo.refl _
    | with_reducible apply revInt_lo h
    | with_reducible apply sortStable_lo h
    | with_reducible apply tSolve1_lo h
    | with_reducible apply tSolve_b1_lo h
    | with_reducible apply tSolve_b2_lo h
    | with_reducible apply tSolve_b3_lo h
    | with_reducible apply tSolve_b6_lo h
    | with_reducible apply tSolve_b7_lo h
    | with_reducible apply tchoose_lo h
    | with_reducible apply tgathered_lo h
    | with_reducible refine Lo.bind ?_ (fun _ => ?_)
    | with_reducible refine Lo.ite ?_ ?_
    | with_reducible refine Lo.loop h (fun _ => ?_)
    | intro _
    | split
end Go.D
set_option maxRecDepth 100000
set_option linter.unusedVariables false
set_option linter.unusedSimpArgs false
namespace Go.D
open Go Go.X
theorem cloneCoef_lo {N M : Nat} (h : N ≤ M)  (s : (List Coef)) : Lo (cloneCoef N s) (cloneCoef M s) := by
  unfold cloneCoef
  try dsimp only
  repeat' first
    | with_reducible exact Lo.refl _
    | with_reducible refine Lo.bind ?_ (fun _ => ?_)
    | with_reducible refine Lo.ite ?_ ?_
    | with_reducible refine Lo.loop h (fun _ => ?_)
    | intro _
    | split
theorem clonePair_lo {N M : Nat} (h : N ≤ M)  (s : (List Arr2Int)) : Lo (clonePair N s) (clonePair M s) := by
  unfold clonePair
  try dsimp only
  repeat' first
    | with_reducible exact Lo.refl _
    | with_reducible refine Lo.bind ?_ (fun _ => ?_)
    | with_reducible refine Lo.ite ?_ ?_
    | with_reducible refine Lo.loop h (fun _ => ?_)
    | intro _
    | split
theorem vfirst_b1_lo {N M : Nat} (h : N ≤ M)  (l : (List RVar)) : ∀ ss0, Lo (vfirst_b1 N l ss0) (vfirst_b1 M l ss0) := by
  intro ss0
  unfold vfirst_b1
  try dsimp only
  repeat' first
    | with_reducible exact Lo.refl _
    | with_reducible refine Lo.bind ?_ (fun _ => ?_)
    | with_reducible refine Lo.ite ?_ ?_
    | with_reducible refine Lo.loop h (fun _ => ?_)
    | intro _
    | split
theorem vfirst_lo {N M : Nat} (h : N ≤ M)  (l : (List RVar)) : Lo (vfirst N l) (vfirst M l) := by
  unfold vfirst
  try dsimp only
  repeat' first
    | with_reducible exact Lo.refl _
    | with_reducible apply vfirst_b1_lo h
    | with_reducible refine Lo.bind ?_ (fun _ => ?_)
    | with_reducible refine Lo.ite ?_ ?_
    | with_reducible refine Lo.loop h (fun _ => ?_)
    | intro _
    | split
theorem vhigh_lo {N M : Nat} (h : N ≤ M)  (l : (List RVar)) (ranges : (List Arr2Int)) (pc : Int) : Lo (vhigh N l ranges pc) (vhigh M l ranges pc) := by
  unfold vhigh
  try dsimp only
  repeat' first
    | with_reducible exact Lo.refl _
    | with_reducible refine Lo.bind ?_ (fun _ => ?_)
    | with_reducible refine Lo.ite ?_ ?_
    | with_reducible refine Lo.loop h (fun _ => ?_)
    | intro _
    | split
theorem vbounds_lo {N M : Nat} (h : N ≤ M)  (pa : Int) (low : Int) (high : Int) : Lo (vbounds N pa low high) (vbounds M pa low high) := by
  unfold vbounds
  try dsimp only
  repeat' first
    | with_reducible exact Lo.refl _
    | with_reducible refine Lo.bind ?_ (fun _ => ?_)
    | with_reducible refine Lo.ite ?_ ?_
    | with_reducible refine Lo.loop h (fun _ => ?_)
    | intro _
    | split
theorem vquotient_b1_lo {N M : Nat} (h : N ≤ M)  (pb : Linear) : ∀ ss0, Lo (vquotient_b1 N pb ss0) (vquotient_b1 M pb ss0) := by
  intro ss0
  unfold vquotient_b1
  try dsimp only
  repeat' first
    | with_reducible exact Lo.refl _
    | with_reducible refine Lo.bind ?_ (fun _ => ?_)
    | with_reducible refine Lo.ite ?_ ?_
    | with_reducible refine Lo.loop h (fun _ => ?_)
    | intro _
    | split
theorem vquotient_lo {N M : Nat} (h : N ≤ M)  (q : Int) (pb : Linear) (pc : Int) : Lo (vquotient N q pb pc) (vquotient M q pb pc) := by
  unfold vquotient
  try dsimp only
  repeat' first
    | with_reducible exact Lo.refl _
    | with_reducible apply vquotient_b1_lo h
    | with_reducible refine Lo.bind ?_ (fun _ => ?_)
    | with_reducible refine Lo.ite ?_ ?_
    | with_reducible refine Lo.loop h (fun _ => ?_)
    | intro _
    | split
theorem vInts_b1_lo {N M : Nat} (h : N ≤ M)  (c : RClause) (l : (List RVar)) : ∀ ss0, Lo (vInts_b1 N c l ss0) (vInts_b1 M c l ss0) := by
  intro ss0
  unfold vInts_b1
  try dsimp only
  repeat' first
    | with_reducible exact Lo.refl _
    | with_reducible apply vbounds_lo h
    | with_reducible refine Lo.bind ?_ (fun _ => ?_)
    | with_reducible refine Lo.ite ?_ ?_
    | with_reducible refine Lo.loop h (fun _ => ?_)
    | intro _
    | split
theorem vInts_b2_lo {N M : Nat} (h : N ≤ M)  (c : RClause) (l : (List RVar)) (ranges : (List Arr2Int)) : ∀ ss0, Lo (vInts_b2 N c l ranges ss0) (vInts_b2 M c l ranges ss0) := by
  intro ss0
  unfold vInts_b2
  try dsimp only
  repeat' first
    | with_reducible exact Lo.refl _
    | with_reducible apply vbounds_lo h
    | with_reducible apply vhigh_lo h
    | with_reducible apply vquotient_lo h
    | with_reducible refine Lo.bind ?_ (fun _ => ?_)
    | with_reducible refine Lo.ite ?_ ?_
    | with_reducible refine Lo.loop h (fun _ => ?_)
    | intro _
    | split
theorem vInts_b3_lo {N M : Nat} (h : N ≤ M)  (c : RClause) : ∀ ss0, Lo (vInts_b3 N c ss0) (vInts_b3 M c ss0) := by
  intro ss0
  unfold vInts_b3
  try dsimp only
  repeat' first
    | with_reducible exact Lo.refl _
    | with_reducible apply cloneCoef_lo h
    | with_reducible refine Lo.bind ?_ (fun _ => ?_)
    | with_reducible refine Lo.ite ?_ ?_
    | with_reducible refine Lo.loop h (fun _ => ?_)
    | intro _
    | split
theorem vInts_lo {N M : Nat} (h : N ≤ M)  (l : (List RVar)) (c : RClause) (ranges : (List Arr2Int)) : Lo (vInts N l c ranges) (vInts M l c ranges) := by
  unfold vInts
  try dsimp only
  repeat' first
    | with_reducible exact Lo.refl _
    | with_reducible apply vInts_b1_lo h
    | with_reducible apply vInts_b2_lo h
    | with_reducible apply vInts_b3_lo h
    | with_reducible refine Lo.bind ?_ (fun _ => ?_)
    | with_reducible refine Lo.ite ?_ ?_
    | with_reducible refine Lo.loop h (fun _ => ?_)
    | intro _
    | split
theorem vTexts_b1_lo {N M : Nat} (h : N ≤ M)  (c : RClause) (l : (List RVar)) (ranges : (List Arr2Int)) : ∀ ss0, Lo (vTexts_b1 N c l ranges ss0) (vTexts_b1 M c l ranges ss0) := by
  intro ss0
  unfold vTexts_b1
  try dsimp only
  repeat' first
    | with_reducible exact Lo.refl _
    | with_reducible apply vhigh_lo h
    | with_reducible refine Lo.bind ?_ (fun _ => ?_)
    | with_reducible refine Lo.ite ?_ ?_
    | with_reducible refine Lo.loop h (fun _ => ?_)
    | intro _
    | split
theorem vTexts_b2_lo {N M : Nat} (h : N ≤ M)  (c : RClause) (place432 : (List (Int × Int))) : ∀ ss0, Lo (vTexts_b2 N c place432 ss0) (vTexts_b2 M c place432 ss0) := by
  intro ss0
  unfold vTexts_b2
  try dsimp only
  repeat' first
    | with_reducible exact Lo.refl _
    | with_reducible refine Lo.bind ?_ (fun _ => ?_)
    | with_reducible refine Lo.ite ?_ ?_
    | with_reducible refine Lo.loop h (fun _ => ?_)
    | intro _
    | split
theorem vTexts_b3_lo {N M : Nat} (h : N ≤ M)  (c : RClause) (place432 : (List (Int × Int))) : ∀ ss0, Lo (vTexts_b3 N c place432 ss0) (vTexts_b3 M c place432 ss0) := by
  intro ss0
  unfold vTexts_b3
  try dsimp only
  repeat' first
    | with_reducible exact Lo.refl _
    | with_reducible refine Lo.bind ?_ (fun _ => ?_)
    | with_reducible refine Lo.ite ?_ ?_
    | with_reducible refine Lo.loop h (fun _ => ?_)
    | intro _
    | split
theorem vTexts_b4_lo {N M : Nat} (h : N ≤ M)  (c : RClause) (place432 : (List (Int × Int))) : ∀ ss0, Lo (vTexts_b4 N c place432 ss0) (vTexts_b4 M c place432 ss0) := by
  intro ss0
  unfold vTexts_b4
  try dsimp only
  repeat' first
    | with_reducible exact Lo.refl _
    | with_reducible refine Lo.bind ?_ (fun _ => ?_)
    | with_reducible refine Lo.ite ?_ ?_
    | with_reducible refine Lo.loop h (fun _ => ?_)
    | intro _
    | split
theorem vTexts_lo {N M : Nat} (h : N ≤ M)  (l : (List RVar)) (c : RClause) (ranges : (List Arr2Int)) : Lo (vTexts N l c ranges) (vTexts M l c ranges) := by
  unfold vTexts
  try dsimp only
  repeat' first
    | with_reducible exact Lo.refl _
    | with_reducible apply vTexts_b1_lo h
    | with_reducible apply vTexts_b2_lo h
    | with_reducible apply vTexts_b3_lo h
    | with_reducible apply vTexts_b4_lo h
    | with_reducible refine Lo.bind ?_ (fun _ => ?_)
    | with_reducible refine Lo.ite ?_ ?_
    | with_reducible refine Lo.loop h (fun _ => ?_)
    | intro _
    | split
theorem vcheck_step_lo {N M : Nat} (h : N ≤ M) {self self' : (List RVar) → RClause → Refut → (List Arr2Int) → Option Bool} (hself : ∀ y0 y1 y2 y3, Lo (self y0 y1 y2 y3) (self' y0 y1 y2 y3)) (l : (List RVar)) (c : RClause) (pc : Refut) (ranges : (List Arr2Int)) : Lo (vcheck_step N self l c pc ranges) (vcheck_step M self' l c pc ranges) := by
  unfold vcheck_step
  try dsimp only
  repeat' first
    | with_reducible exact Lo.refl _
    | with_reducible exact hself
    | with_reducible exact hself _ _ _ _
    | with_reducible apply cCheck_lo h
    | with_reducible apply cSystem_lo h
    | with_reducible apply clonePair_lo h
    | with_reducible apply containsOf_lo h
    | with_reducible apply tSolve_lo h
    | with_reducible apply vInts_lo h
    | with_reducible apply vTexts_lo h
    | with_reducible refine Lo.bind ?_ (fun _ => ?_)
    | with_reducible refine Lo.ite ?_ ?_
    | with_reducible refine Lo.loop h (fun _ => ?_)
    | intro _
    | split
theorem vcheck_lo : ∀ {N M : Nat} (_ : N ≤ M) a0 a1 a2 a3, Lo (vcheck N a0 a1 a2 a3) (vcheck M a0 a1 a2 a3)
  | 0, _, _ => fun _ _ _ _ => Lo.none
  | N + 1, 0, h => by omega
  | N + 1, M + 1, h => vcheck_step_lo (by omega) (vcheck_lo (by omega))
theorem vCheck_lo {N M : Nat} (h : N ≤ M)  (l : (List RVar)) (c : RClause) (pc : Refut) : Lo (vCheck N l c pc) (vCheck M l c pc) := by
  unfold vCheck
  try dsimp only
  repeat' first
    | with_reducible exact Lo.refl _
    | with_reducible apply vcheck_lo h
    | with_reducible apply vfirst_lo h
    | with_reducible refine Lo.bind ?_ (fun _ => ?_)
    | with_reducible refine Lo.ite ?_ ?_
    | with_reducible refine Lo.loop h (fun _ => ?_)
    | intro _
    | split
theorem vFormat_step_lo {N M : Nat} (h : N ≤ M) {self self' : Refut → Option (List UInt8)} (hself : ∀ y0, Lo (self y0) (self' y0)) (pa : Refut) : Lo (vFormat_step N self pa) (vFormat_step M self' pa) := by
  unfold vFormat_step
  try dsimp only
  repeat' first
    | with_reducible exact Lo.refl _
    | with_reducible exact hself
    | with_reducible exact hself _
    | with_reducible apply cSize_lo h
    | with_reducible apply fmtI_lo h
    | with_reducible refine Lo.bind ?_ (fun _ => ?_)
    | with_reducible refine Lo.ite ?_ ?_
    | with_reducible refine Lo.loop h (fun _ => ?_)
    | intro _
    | split
theorem vFormat_lo : ∀ {N M : Nat} (_ : N ≤ M) a0, Lo (vFormat N a0) (vFormat M a0)
  | 0, _, _ => fun _ => Lo.none
  | N + 1, 0, h => by omega
  | N + 1, M + 1, h => vFormat_step_lo (by omega) (vFormat_lo (by omega))
end Go.D
set_option maxRecDepth 100000
set_option linter.unusedVariables false
set_option linter.unusedSimpArgs false
namespace Go.D
open Go Go.X
theorem lbig_lo {N M : Nat} (h : N ≤ M)  (n : Int) : Lo (lbig N n) (lbig M n) := by
  unfold lbig
  try dsimp only
  repeat' first
    | with_reducible exact Lo.refl _
    | with_reducible apply rOf_lo h
    | with_reducible refine Lo.bind ?_ (fun _ => ?_)
    | with_reducible refine Lo.ite ?_ ?_
    | with_reducible refine Lo.loop h (fun _ => ?_)
    | intro _
    | split
theorem awake_lo {N M : Nat} (h : N ≤ M)   : Lo (awake N ) (awake M ) := by
  unfold awake
  try dsimp only
  repeat' first
    | with_reducible exact Lo.refl _
    | with_reducible apply lbig_lo h
    | with_reducible apply vCheck_lo h
    | with_reducible apply vFormat_lo h
    | with_reducible refine Lo.bind ?_ (fun _ => ?_)
    | with_reducible refine Lo.ite ?_ ?_
    | with_reducible refine Lo.loop h (fun _ => ?_)
    | intro _
    | split
end Go.D
set_option linter.unusedSimpArgs false
set_option linter.unusedVariables false
set_option maxRecDepth 100000
namespace Go.D
open Go Go.X
theorem awake_at : awake 100 = some true := by decide +kernel
theorem awake_tm : Tm (fun N => awake N) (fun r => r = true) := Lo.tm (f := fun N => awake N) (fun h => awake_lo h) awake_at
end Go.D
set_option linter.unusedSimpArgs false
set_option linter.unusedVariables false
namespace Go.D
open Go Go.X
theorem awake_end {Q : Bool → Prop} (h : Q true) : Tm (fun N => (awake N).bind fun r => some r) Q :=
  awake_tm.bind fun r hr => by subst hr; exact Tm.some h
theorem wRight_tm {l : List RVar} {rg : List Arr2Int} (h : rg.length ≤ Bg) : Tm (fun N => wRight N l rg) (fun r => r = true → RgOk l rg) := by
  have hb : Bg = 9223372036854775807 := rfl
  unfold wRight
  by_cases h0 : rg.length = l.length
  · refine Tm.neg (by simp [h0]) ?_
    refine Tm.bind (Q := fun o => match o with | .inl _ => ∀ r ∈ rg, (0 ≤ r.e0 ∧ r.e0 ≤ 16) ∧ 0 ≤ r.e1 ∧ r.e1 ≤ 16 | .inr z => z = false) ?_ fun o ho => ?_
    · refine Tm.up rg.length (fun k s => s = (k : Int) ∧ ∀ j (hj : j < rg.length), j < k → (0 ≤ rg[j].e0 ∧ rg[j].e0 ≤ 16) ∧ 0 ≤ rg[j].e1 ∧ rg[j].e1 ≤ 16) ⟨rfl, fun j _ hj => by omega⟩ ?_
      rintro k hk i ⟨rfl, hJ⟩
      unfold wRight_b1
      rcases Nat.lt_or_ge k rg.length with hlt | hge
      · refine Tm.pos (by omega) ?_
        simp only [idx_n hlt, Option.bind_some]
        refine Tm.bind (Q := fun b => b = false → (0 ≤ rg[k].e0 ∧ rg[k].e0 ≤ 16) ∧ 0 ≤ rg[k].e1 ∧ rg[k].e1 ≤ 16) ?_ fun b hb' => ?_
        · by_cases g1 : rg[k].e0 < 0
          · exact Tm.pos g1 (Tm.some fun e => by simp at e)
          · refine Tm.neg g1 ?_
            by_cases g2 : rg[k].e0 > 16
            · exact Tm.pos g2 (Tm.some fun e => by simp at e)
            · refine Tm.neg g2 ?_
              by_cases g3 : rg[k].e1 < 0
              · exact Tm.pos g3 (Tm.some fun e => by simp at e)
              · refine Tm.neg g3 (Tm.some fun e => ?_)
                have e := of_decide_eq_false e
                omega
        · cases b with
          | true => exact Tm.pos rfl (Tm.some rfl)
          | false =>
            refine Tm.neg (by simp) (Tm.some ⟨hlt, iw_n (by omega), fun j hj hjk => ?_⟩)
            by_cases ejk : j = k
            · subst ejk; exact hb' rfl
            · exact hJ j hj (by omega)
      · refine Tm.neg (by omega) (Tm.some fun x hx => ?_)
        obtain ⟨j, hj, rfl⟩ := List.getElem_of_mem hx
        exact hJ j hj (by omega)
    · cases o with
      | inl _ => exact Tm.some fun _ => ⟨h0, ho⟩
      | inr z =>
        have ho : z = false := ho
        subst ho
        exact Tm.some fun h => by simp at h
  · exact Tm.pos (by omega) (Tm.some fun e => by simp at e)
structure DmOk (l : List RVar) : Prop where
  len : l.length ≤ 10
  ty : ∀ x ∈ l, (x.Ty = 1 ∧ (-2147483648 ≤ x.Low ∧ x.Low ≤ 2147483647) ∧ -2147483648 ≤ x.High ∧ x.High ≤ 2147483647) ∨ (x.Ty = 2 ∧ 0 ≤ x.Max ∧ x.Max ≤ 16)
theorem wDomains_tm {l : List RVar} (h : l.length ≤ Bg) : Tm (fun N => wDomains N l) (fun r => r = true → DmOk l) := by
  have hb : Bg = 9223372036854775807 := rfl
  unfold wDomains
  refine Tm.bind (Q := fun o => match o with | .inl _ => ∀ x ∈ l, (x.Ty = 1 ∧ (-2147483648 ≤ x.Low ∧ x.Low ≤ 2147483647) ∧ -2147483648 ≤ x.High ∧ x.High ≤ 2147483647) ∨ (x.Ty = 2 ∧ 0 ≤ x.Max ∧ x.Max ≤ 16) | .inr z => z = false) ?_ fun o ho => ?_
  · refine Tm.up l.length (fun k s => s = (k : Int) ∧ ∀ j (hj : j < l.length), j < k → (l[j].Ty = 1 ∧ (-2147483648 ≤ l[j].Low ∧ l[j].Low ≤ 2147483647) ∧ -2147483648 ≤ l[j].High ∧ l[j].High ≤ 2147483647) ∨ (l[j].Ty = 2 ∧ 0 ≤ l[j].Max ∧ l[j].Max ≤ 16)) ⟨rfl, fun j _ hj => by omega⟩ ?_
    rintro k hk i ⟨rfl, hJ⟩
    unfold wDomains_b1
    rcases Nat.lt_or_ge k l.length with hlt | hge
    · refine Tm.pos (by omega) (Tm.step (idx_n hlt) ?_)
      refine Tm.bind (Q := fun b => b = false → l[k].Ty = 1 → (-2147483648 ≤ l[k].Low ∧ l[k].Low ≤ 2147483647) ∧ -2147483648 ≤ l[k].High ∧ l[k].High ≤ 2147483647) ?_ fun b hb' => ?_
      · by_cases g0 : l[k].Ty = 1
        · refine Tm.pos g0 ?_
          by_cases g1 : l[k].Low < -2147483648
          · exact Tm.pos g1 (Tm.some fun e => by simp at e)
          · refine Tm.neg g1 ?_
            by_cases g2 : l[k].Low > 2147483647
            · exact Tm.pos g2 (Tm.some fun e => by simp at e)
            · refine Tm.neg g2 ?_
              by_cases g3 : l[k].High < -2147483648
              · exact Tm.pos g3 (Tm.some fun e => by simp at e)
              · refine Tm.neg g3 (Tm.some fun e _ => ?_)
                have e := of_decide_eq_false e
                omega
        · exact Tm.neg g0 (Tm.some fun _ h => absurd h g0)
      · cases b with
        | true => exact Tm.pos rfl (Tm.some rfl)
        | false =>
          refine Tm.neg (by simp) ?_
          refine Tm.bind (Q := fun b => b = false → (l[k].Ty = 1 ∨ l[k].Ty = 2) ∧ (l[k].Ty = 2 → 0 ≤ l[k].Max ∧ l[k].Max ≤ 16)) ?_ fun b2 hb2 => ?_
          · have hty : Tm (fun N => (if l[k].Ty ≠ 1 then some (decide (l[k].Ty ≠ 2)) else some false : Option Bool)) (fun b => b = false → l[k].Ty = 1 ∨ l[k].Ty = 2) := by
              by_cases g : l[k].Ty ≠ 1
              · exact Tm.pos g (Tm.some fun e => .inr (by have e := of_decide_eq_false e; omega))
              · exact Tm.neg g (Tm.some fun _ => .inl (by omega))
            by_cases g0 : l[k].Ty = 2
            · refine Tm.pos g0 ?_
              by_cases g1 : l[k].Max < 0
              · exact Tm.pos g1 (Tm.some fun e => by simp at e)
              · refine Tm.neg g1 ?_
                by_cases g2 : l[k].Max > 16
                · exact Tm.pos g2 (Tm.some fun e => by simp at e)
                · exact Tm.neg g2 (hty.mono fun b hb e => ⟨hb e, fun _ => by omega⟩)
            · exact Tm.neg g0 (hty.mono fun b hb e => ⟨hb e, fun h => absurd h g0⟩)
          · cases b2 with
            | true => exact Tm.pos rfl (Tm.some rfl)
            | false =>
              refine Tm.neg (by simp) (Tm.some ⟨hlt, iw_n (by omega), fun j hj hjk => ?_⟩)
              by_cases ejk : j = k
              · subst ejk
                obtain ⟨p1, p2⟩ := hb2 rfl
                rcases p1 with p1 | p1
                · exact .inl ⟨p1, hb' rfl p1⟩
                · exact .inr ⟨p1, p2 p1⟩
              · exact hJ j hj (by omega)
    · refine Tm.neg (by omega) (Tm.some fun x hx => ?_)
      obtain ⟨j, hj, rfl⟩ := List.getElem_of_mem hx
      exact hJ j hj (by omega)
  · cases o with
    | inl _ => exact Tm.some fun e => ⟨by have := of_decide_eq_true e; omega, ho⟩
    | inr z =>
      have ho : z = false := ho
      subst ho
      exact Tm.some fun h => by simp at h
structure LimX (x : RCase) : Prop where
  l : x.L.length ≤ Bg
  rg : x.Ranges.length ≤ Bg
  c : LimC x.C
  w : LwC x.C
structure Rgt (x : RCase) : Prop where
  d : DmOk x.L
  s : SmC x.C
  v : ClOk x.C x.L
  r : RgOk x.L x.Ranges
theorem lright_tm {x : RCase} (h : LimX x) : Tm (fun N => lright N x) (fun r => r = true → Rgt x) := by
  unfold lright
  refine (wDomains_tm h.l).bind fun r1 h1 => ?_
  cases r1 with
  | false => exact Tm.neg (by simp) (Tm.some fun e => by simp at e)
  | true =>
    refine Tm.pos rfl ((sFew_tm h.w).bind fun r2 h2 => ?_)
    cases r2 with
    | false => exact Tm.neg (by simp) (Tm.some fun e => by simp at e)
    | true =>
      refine Tm.pos rfl ((sValid_tm h.c (h2 rfl) (h1 rfl).len).bind fun r3 h3 => ?_)
      cases r3 with
      | false => exact Tm.neg (by simp) (Tm.some fun e => by simp at e)
      | true => exact Tm.pos rfl ((wRight_tm h.rg).bind fun r4 h4 => Tm.some fun e => ⟨h1 rfl, h2 rfl, h3 rfl, h4 e⟩)
end Go.D
set_option linter.unusedSimpArgs false
set_option linter.unusedVariables false
namespace Go.D
open Go Go.X
structure CGood (k : Constraint) (n : Nat) (V : List Int) : Prop where
  right : RightP k (n : Int)
  ok : OkC k
  val : k.Linear.Const + lin k.Linear.Coefs V ≤ 0
  eq : k.Equal = true → k.Linear.Const + lin k.Linear.Coefs V = 0
theorem CGood.one {q n : Nat} {N C : Int} {V : List Int} (hq : q < n) (hn : n ≤ 512) (hN : I64 N) (hC : I64 C) (hv : C + N * V.getD q 0 ≤ 0) : CGood ⟨⟨C, [⟨(q : Int), N⟩]⟩, false⟩ n V := by
  refine ⟨⟨fun i h => ?_, by omega, by omega⟩, ⟨?_, hC, fun k hk => ?_⟩, ?_, fun h => by cases h⟩
  · have h : i < 1 := h
    have : i = 0 := by omega
    subst this
    exact ⟨by show (0 : Int) ≤ (q : Int); omega, by show (q : Int) < (n : Int); omega, fun h => by omega⟩
  · show 1 ≤ 9223372036854775807; omega
  · rw [List.mem_singleton.1 hk]; exact hN
  · show C + lin [⟨(q : Int), N⟩] V ≤ 0
    unfold lin; simpa using hv
variable {R : List RVal} {l : List RVar} {bs aux : List Int} {c : RClause} {f : Linear} {rg : List Arr2Int}
end Go.D
set_option linter.unusedSimpArgs false
set_option linter.unusedVariables false
namespace Go.D
open Go Go.X
variable {R : List RVal} {l : List RVar} {c : RClause} {rg : List Arr2Int}
theorem pos_at {vs : List Int} {v : Int} (hn : vs.Nodup) (hv : v ∈ vs) : ∃ i : Nat, ∃ hi : i < vs.length, vs[i] = v ∧ pos vs v = (i : Int) := by
  obtain ⟨i, hi, rfl⟩ := List.getElem_of_mem hv
  exact ⟨i, hi, rfl, by unfold pos; rw [List.Nodup.idxOf_getElem hn i hi]⟩
theorem tvs_at (hv : ClOk c l) {v : Int} (h : v ∈ tvs l c) : ∃ k : Nat, ∃ hk : k < l.length, v = (k : Int) ∧ l[k].Ty = 2 ∧ TxtOk c l v := by
  obtain ⟨h1, h2⟩ := List.mem_filter.1 h
  obtain ⟨k, rfl, hk⟩ := var_n (n := l.length) (hv.nn.bd v h1)
  unfold isT at h2
  rw [Int.toNat_natCast, List.getElem?_eq_getElem hk] at h2
  have h2 := of_decide_eq_true h2
  exact ⟨k, hk, rfl, h2, k, rfl, ⟨_, List.getElem?_eq_getElem hk, h2⟩, h1⟩
theorem hiOf_at (hr : RgOk l rg) {k : Nat} (hk : k < l.length) : hiOf l rg k = imin (rg[k]'(by rw [hr.len]; exact hk)).e1 l[k].Max := by
  unfold hiOf; rw [List.getElem?_eq_getElem hk, List.getElem?_eq_getElem (by rw [hr.len]; exact hk)]
theorem e0Of_at (hr : RgOk l rg) {k : Nat} (hk : k < l.length) : e0Of rg (k : Int) = (rg[k]'(by rw [hr.len]; exact hk)).e0 := by
  unfold e0Of; rw [Int.toNat_natCast, List.getElem?_eq_getElem (by rw [hr.len]; exact hk)]
theorem txts_okP (hd : DmOk l) (hv : ClOk c l) (hr : RgOk l rg) : OkP (txtsOf l c rg) := by
  have hn := tvs_nodup hv.nn
  have hl := hd.len
  have h1 := tvs_len (l := l) (c := c)
  have h2 := hv.nn.len
  have two : ∀ {v : Int}, TxtOk c l v → 0 ≤ pos (tvs l c) v ∧ pos (tvs l c) v < (((tvs l c).map (e0Of rg)).length : Int) := fun h => by
    obtain ⟨i, hi, _, e⟩ := pos_at hn (txt_mem h)
    rw [e, List.length_map]; omega
  refine ⟨?_, ?_, fun k hk => ?_, fun k hk => ?_, fun t ht => ?_, fun e he => ?_, fun e he => ?_⟩
  · show (List.map _ _).length = (List.map _ _).length
    rw [List.length_map, List.length_map]
  · show (List.map _ _).length ≤ _
    rw [List.length_map]; omega
  · obtain ⟨v, hvm, rfl⟩ := List.mem_map.1 hk
    obtain ⟨q, hq, rfl, _⟩ := tvs_at hv hvm
    rw [e0Of_at hr hq]
    exact (hr.bd _ (List.getElem_mem _)).1
  · obtain ⟨v, hvm, rfl⟩ := List.mem_map.1 hk
    obtain ⟨q, hq, rfl, hty, _⟩ := tvs_at hv hvm
    rw [Int.toNat_natCast, hiOf_at hr hq]
    have g1 := (hr.bd _ (List.getElem_mem (show q < rg.length by rw [hr.len]; exact hq))).2
    rcases hd.ty _ (List.getElem_mem hq) with ⟨g, _⟩ | ⟨_, g2, g3⟩
    · omega
    · unfold imin; split <;> omega
  · obtain ⟨t0, ht0, rfl⟩ := List.mem_map.1 ht
    obtain ⟨h3, h4⟩ := hv.ts t0 ht0
    exact ⟨h3, (two h4).1, (two h4).2⟩
  · obtain ⟨e0, he0, rfl⟩ := List.mem_map.1 he
    obtain ⟨h3, h4, _⟩ := hv.sm e0 he0
    exact ⟨two h3, two h4⟩
  · obtain ⟨e0, he0, rfl⟩ := List.mem_map.1 he
    obtain ⟨h3, h4, _⟩ := hv.df e0 he0
    exact ⟨two h3, two h4⟩
end Go.D

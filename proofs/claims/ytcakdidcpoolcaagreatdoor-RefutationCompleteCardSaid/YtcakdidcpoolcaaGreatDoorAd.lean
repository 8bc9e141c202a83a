/- Plain theorems and definitions of this seat, several texts in one. -/
import Derived.Test.YtcakdidcpoolcaaGreatDoorAa
import Derived.Lib.ItoaNum
import Derived.Test.YtcakdidcpoolcaaGreatDoorProg
import Derived.Test.YtcakdidcpoolcaaGreatDoorRows
import Derived.ChangeMaps5
import Derived.Stop.LaidErr
namespace Go.D
open Go Go.X
structure Big where
  Negative : Bool
  Digits : (List Int)
  deriving DecidableEq
def rBig : Rep Big := ⟨2, fun H vs x => ∃ v0, vs = [Value.bool x.Negative, v0] ∧ Rs (rInt .u32) H v0 x.Digits ∧ True,
  fun H H' vs x hle h => by obtain ⟨v0, h0, k0, -⟩ := h; exact ⟨v0, h0, k0.mono hle, trivial⟩,
  fun H vs x h => by obtain ⟨v0, h0, k0, -⟩ := h; rw [h0]; rfl,
  fun H vs x h => by obtain ⟨v0, h0, k0, -⟩ := h; rw [h0]; exact (ones_cons rfl (ones_cons k0.one ones_nil))⟩
theorem rBig_open {H : Hp} {vs : List Value} {x : Big} (h : rBig.R H vs x) : ∃ v0, vs = [Value.bool x.Negative, v0] ∧ Rs (rInt .u32) H v0 x.Digits ∧ True := h
theorem rBig_close {H : Hp} {vs : List Value} {x : Big} (h : ∃ v0, vs = [Value.bool x.Negative, v0] ∧ Rs (rInt .u32) H v0 x.Digits ∧ True) : rBig.R H vs x := h
structure Coef where
  Var : Int
  N : Int
  deriving DecidableEq
def rCoef : Rep Coef := ⟨2, fun H vs x => vs = [Value.int .i64 x.Var, Value.int .i64 x.N] ∧ True,
  fun H H' vs x hle h => by obtain ⟨h0, -⟩ := h; exact ⟨h0, trivial⟩,
  fun H vs x h => by obtain ⟨h0, -⟩ := h; rw [h0]; rfl,
  fun H vs x h => by obtain ⟨h0, -⟩ := h; rw [h0]; exact (ones_cons rfl (ones_cons rfl ones_nil))⟩
theorem rCoef_open {H : Hp} {vs : List Value} {x : Coef} (h : rCoef.R H vs x) : vs = [Value.int .i64 x.Var, Value.int .i64 x.N] ∧ True := h
theorem rCoef_close {H : Hp} {vs : List Value} {x : Coef} (h : vs = [Value.int .i64 x.Var, Value.int .i64 x.N] ∧ True) : rCoef.R H vs x := h
structure Linear where
  Const : Int
  Coefs : (List Coef)
  deriving DecidableEq
def rLinear : Rep Linear := ⟨2, fun H vs x => ∃ v0, vs = [Value.int .i64 x.Const, v0] ∧ Rs rCoef H v0 x.Coefs ∧ True,
  fun H H' vs x hle h => by obtain ⟨v0, h0, k0, -⟩ := h; exact ⟨v0, h0, k0.mono hle, trivial⟩,
  fun H vs x h => by obtain ⟨v0, h0, k0, -⟩ := h; rw [h0]; rfl,
  fun H vs x h => by obtain ⟨v0, h0, k0, -⟩ := h; rw [h0]; exact (ones_cons rfl (ones_cons k0.one ones_nil))⟩
theorem rLinear_open {H : Hp} {vs : List Value} {x : Linear} (h : rLinear.R H vs x) : ∃ v0, vs = [Value.int .i64 x.Const, v0] ∧ Rs rCoef H v0 x.Coefs ∧ True := h
theorem rLinear_close {H : Hp} {vs : List Value} {x : Linear} (h : ∃ v0, vs = [Value.int .i64 x.Const, v0] ∧ Rs rCoef H v0 x.Coefs ∧ True) : rLinear.R H vs x := h
structure Constraint where
  Linear : Linear
  Equal : Bool
  deriving DecidableEq
def rConstraint : Rep Constraint := ⟨3, fun H vs x => ∃ v0, vs = [Value.int .i64 x.Linear.Const, v0, Value.bool x.Equal] ∧ Rs rCoef H v0 x.Linear.Coefs ∧ True,
  fun H H' vs x hle h => by obtain ⟨v0, h0, k0, -⟩ := h; exact ⟨v0, h0, k0.mono hle, trivial⟩,
  fun H vs x h => by obtain ⟨v0, h0, k0, -⟩ := h; rw [h0]; rfl,
  fun H vs x h => by obtain ⟨v0, h0, k0, -⟩ := h; rw [h0]; exact (ones_cons rfl (ones_cons k0.one (ones_cons rfl ones_nil)))⟩
theorem rConstraint_open {H : Hp} {vs : List Value} {x : Constraint} (h : rConstraint.R H vs x) : ∃ v0, vs = [Value.int .i64 x.Linear.Const, v0, Value.bool x.Equal] ∧ Rs rCoef H v0 x.Linear.Coefs ∧ True := h
theorem rConstraint_close {H : Hp} {vs : List Value} {x : Constraint} (h : ∃ v0, vs = [Value.int .i64 x.Linear.Const, v0, Value.bool x.Equal] ∧ Rs rCoef H v0 x.Linear.Coefs ∧ True) : rConstraint.R H vs x := h
structure Ineq where
  Coefs : (List Big)
  Bound : Big
  deriving DecidableEq
def rIneq : Rep Ineq := ⟨3, fun H vs x => ∃ v0 v1, vs = [v0, Value.bool x.Bound.Negative, v1] ∧ Rs rBig H v0 x.Coefs ∧ Rs (rInt .u32) H v1 x.Bound.Digits ∧ True,
  fun H H' vs x hle h => by obtain ⟨v0, v1, h0, k0, k1, -⟩ := h; exact ⟨v0, v1, h0, k0.mono hle, k1.mono hle, trivial⟩,
  fun H vs x h => by obtain ⟨v0, v1, h0, k0, k1, -⟩ := h; rw [h0]; rfl,
  fun H vs x h => by obtain ⟨v0, v1, h0, k0, k1, -⟩ := h; rw [h0]; exact (ones_cons k0.one (ones_cons rfl (ones_cons k1.one ones_nil)))⟩
theorem rIneq_open {H : Hp} {vs : List Value} {x : Ineq} (h : rIneq.R H vs x) : ∃ v0 v1, vs = [v0, Value.bool x.Bound.Negative, v1] ∧ Rs rBig H v0 x.Coefs ∧ Rs (rInt .u32) H v1 x.Bound.Digits ∧ True := h
theorem rIneq_close {H : Hp} {vs : List Value} {x : Ineq} (h : ∃ v0 v1, vs = [v0, Value.bool x.Bound.Negative, v1] ∧ Rs rBig H v0 x.Coefs ∧ Rs (rInt .u32) H v1 x.Bound.Digits ∧ True) : rIneq.R H vs x := h
structure Use where
  Index : Int
  N : Big
  deriving DecidableEq
def rUse : Rep Use := ⟨3, fun H vs x => ∃ v0, vs = [Value.int .i64 x.Index, Value.bool x.N.Negative, v0] ∧ Rs (rInt .u32) H v0 x.N.Digits ∧ True,
  fun H H' vs x hle h => by obtain ⟨v0, h0, k0, -⟩ := h; exact ⟨v0, h0, k0.mono hle, trivial⟩,
  fun H vs x h => by obtain ⟨v0, h0, k0, -⟩ := h; rw [h0]; rfl,
  fun H vs x h => by obtain ⟨v0, h0, k0, -⟩ := h; rw [h0]; exact (ones_cons rfl (ones_cons rfl (ones_cons k0.one ones_nil)))⟩
theorem rUse_open {H : Hp} {vs : List Value} {x : Use} (h : rUse.R H vs x) : ∃ v0, vs = [Value.int .i64 x.Index, Value.bool x.N.Negative, v0] ∧ Rs (rInt .u32) H v0 x.N.Digits ∧ True := h
theorem rUse_close {H : Hp} {vs : List Value} {x : Use} (h : ∃ v0, vs = [Value.int .i64 x.Index, Value.bool x.N.Negative, v0] ∧ Rs (rInt .u32) H v0 x.N.Digits ∧ True) : rUse.R H vs x := h
structure Step where
  Uses : (List Use)
  Divisor : Big
  deriving DecidableEq
def rStep : Rep Step := ⟨3, fun H vs x => ∃ v0 v1, vs = [v0, Value.bool x.Divisor.Negative, v1] ∧ Rs rUse H v0 x.Uses ∧ Rs (rInt .u32) H v1 x.Divisor.Digits ∧ True,
  fun H H' vs x hle h => by obtain ⟨v0, v1, h0, k0, k1, -⟩ := h; exact ⟨v0, v1, h0, k0.mono hle, k1.mono hle, trivial⟩,
  fun H vs x h => by obtain ⟨v0, v1, h0, k0, k1, -⟩ := h; rw [h0]; rfl,
  fun H vs x h => by obtain ⟨v0, v1, h0, k0, k1, -⟩ := h; rw [h0]; exact (ones_cons k0.one (ones_cons rfl (ones_cons k1.one ones_nil)))⟩
theorem rStep_open {H : Hp} {vs : List Value} {x : Step} (h : rStep.R H vs x) : ∃ v0 v1, vs = [v0, Value.bool x.Divisor.Negative, v1] ∧ Rs rUse H v0 x.Uses ∧ Rs (rInt .u32) H v1 x.Divisor.Digits ∧ True := h
theorem rStep_close {H : Hp} {vs : List Value} {x : Step} (h : ∃ v0 v1, vs = [v0, Value.bool x.Divisor.Negative, v1] ∧ Rs rUse H v0 x.Uses ∧ Rs (rInt .u32) H v1 x.Divisor.Digits ∧ True) : rStep.R H vs x := h
structure Proof where
  Steps : (List Step)
  Form : (List Big)
  Bound : Big
  Children : (List Proof)
def RProof : Nat → Hp → List Value → Proof → Prop
  | 0, _, _, _ => False
  | n + 1, H, vs, x => ∃ v0 v1 v2 v3, vs = [v0, v1, Value.bool x.Bound.Negative, v2, v3] ∧ Rs rStep H v0 x.Steps ∧ Rs rBig H v1 x.Form ∧ Rs (rInt .u32) H v2 x.Bound.Digits ∧ Sl 5 (RProof n) H v3 x.Children ∧ True
theorem RProof_mono : ∀ (n : Nat) {H H' : Hp} {vs : List Value} {x : Proof}, Le H H' → RProof n H vs x → RProof n H' vs x
  | 0, _, _, _, _, _, h => h.elim
  | n + 1, _, _, _, _, hle, h => by obtain ⟨v0, v1, v2, v3, h0, k0, k1, k2, k3, -⟩ := h; exact ⟨v0, v1, v2, v3, h0, k0.mono hle, k1.mono hle, k2.mono hle, Sl.mono (R := RProof n) (fun _ _ _ _ a b => RProof_mono n a b) hle k3, trivial⟩
theorem RProof_up : ∀ {n m : Nat} {H : Hp} {vs : List Value} {x : Proof}, n ≤ m → RProof n H vs x → RProof m H vs x
  | 0, _, _, _, _, _, h => h.elim
  | n + 1, 0, _, _, _, hm, _ => by omega
  | n + 1, m + 1, _, _, _, hm, h => by have hm : n ≤ m := (by omega); obtain ⟨v0, v1, v2, v3, h0, k0, k1, k2, k3, -⟩ := h; exact ⟨v0, v1, v2, v3, h0, k0, k1, k2, sl_imp (fun _ _ => RProof_up hm) k3, trivial⟩
def rProof : Rep Proof := ⟨5, fun H vs x => ∃ n, RProof n H vs x, fun _ _ _ _ hle ⟨n, h⟩ => ⟨n, RProof_mono n hle h⟩,
  fun H vs x h => by obtain ⟨n, h⟩ := h; cases n with | zero => exact h.elim | succ n => obtain ⟨v0, v1, v2, v3, h0, k0, k1, k2, k3, -⟩ := h; rw [h0]; rfl,
  fun H vs x h => by obtain ⟨n, h⟩ := h; cases n with | zero => exact h.elim | succ n => obtain ⟨v0, v1, v2, v3, h0, k0, k1, k2, k3, -⟩ := h; rw [h0]; exact (ones_cons k0.one (ones_cons k1.one (ones_cons rfl (ones_cons k2.one (ones_cons (Sl.one k3) ones_nil)))))⟩
theorem rProof_open {H : Hp} {vs : List Value} {x : Proof} (h : rProof.R H vs x) : ∃ v0 v1 v2 v3, vs = [v0, v1, Value.bool x.Bound.Negative, v2, v3] ∧ Rs rStep H v0 x.Steps ∧ Rs rBig H v1 x.Form ∧ Rs (rInt .u32) H v2 x.Bound.Digits ∧ Rs rProof H v3 x.Children ∧ True := by
  obtain ⟨n, h⟩ := h; cases n with | zero => exact h.elim | succ n => obtain ⟨v0, v1, v2, v3, h0, k0, k1, k2, k3, -⟩ := h; exact ⟨v0, v1, v2, v3, h0, k0, k1, k2, sl_imp (fun _ _ h => ⟨n, h⟩) k3, trivial⟩
theorem rProof_close {H : Hp} {vs : List Value} {x : Proof} (h : ∃ v0 v1 v2 v3, vs = [v0, v1, Value.bool x.Bound.Negative, v2, v3] ∧ Rs rStep H v0 x.Steps ∧ Rs rBig H v1 x.Form ∧ Rs (rInt .u32) H v2 x.Bound.Digits ∧ Rs rProof H v3 x.Children ∧ True) : rProof.R H vs x := by
  obtain ⟨v0, v1, v2, v3, h0, k0, k1, k2, k3, -⟩ := h
  obtain ⟨n, hn⟩ := sl_bound (Rn := RProof) (fun _ _ _ _ hm h => RProof_up hm h) k3
  exact ⟨n + 1, v0, v1, v2, v3, h0, k0, k1, k2, hn, trivial⟩
structure TTest where
  Var : Int
  Kind : Int
  Negated : Bool
  Text : (List UInt8)
  deriving DecidableEq
def rTTest : Rep TTest := ⟨4, fun H vs x => vs = [Value.int .i64 x.Var, Value.int .i64 x.Kind, Value.bool x.Negated, Value.string (s8 x.Text)] ∧ True,
  fun H H' vs x hle h => by obtain ⟨h0, -⟩ := h; exact ⟨h0, trivial⟩,
  fun H vs x h => by obtain ⟨h0, -⟩ := h; rw [h0]; rfl,
  fun H vs x h => by obtain ⟨h0, -⟩ := h; rw [h0]; exact (ones_cons rfl (ones_cons rfl (ones_cons rfl (ones_cons rfl ones_nil))))⟩
theorem rTTest_open {H : Hp} {vs : List Value} {x : TTest} (h : rTTest.R H vs x) : vs = [Value.int .i64 x.Var, Value.int .i64 x.Kind, Value.bool x.Negated, Value.string (s8 x.Text)] ∧ True := h
theorem rTTest_close {H : Hp} {vs : List Value} {x : TTest} (h : vs = [Value.int .i64 x.Var, Value.int .i64 x.Kind, Value.bool x.Negated, Value.string (s8 x.Text)] ∧ True) : rTTest.R H vs x := h
structure Arr2Int where
  e0 : Int
  e1 : Int
  deriving DecidableEq
def rArr2Int : Rep Arr2Int := ⟨2, fun H vs x => vs = [Value.int .i64 x.e0, Value.int .i64 x.e1] ∧ True,
  fun H H' vs x hle h => by obtain ⟨h0, -⟩ := h; exact ⟨h0, trivial⟩,
  fun H vs x h => by obtain ⟨h0, -⟩ := h; rw [h0]; rfl,
  fun H vs x h => by obtain ⟨h0, -⟩ := h; rw [h0]; exact (ones_cons rfl (ones_cons rfl ones_nil))⟩
theorem rArr2Int_open {H : Hp} {vs : List Value} {x : Arr2Int} (h : rArr2Int.R H vs x) : vs = [Value.int .i64 x.e0, Value.int .i64 x.e1] ∧ True := h
theorem rArr2Int_close {H : Hp} {vs : List Value} {x : Arr2Int} (h : vs = [Value.int .i64 x.e0, Value.int .i64 x.e1] ∧ True) : rArr2Int.R H vs x := h
structure TProb where
  Min : (List Int)
  Max : (List Int)
  Tests : (List TTest)
  Same : (List Arr2Int)
  Different : (List Arr2Int)
  deriving DecidableEq
def rTProb : Rep TProb := ⟨5, fun H vs x => ∃ v0 v1 v2 v3 v4, vs = [v0, v1, v2, v3, v4] ∧ Rs (rInt .i64) H v0 x.Min ∧ Rs (rInt .i64) H v1 x.Max ∧ Rs rTTest H v2 x.Tests ∧ Rs rArr2Int H v3 x.Same ∧ Rs rArr2Int H v4 x.Different ∧ True,
  fun H H' vs x hle h => by obtain ⟨v0, v1, v2, v3, v4, h0, k0, k1, k2, k3, k4, -⟩ := h; exact ⟨v0, v1, v2, v3, v4, h0, k0.mono hle, k1.mono hle, k2.mono hle, k3.mono hle, k4.mono hle, trivial⟩,
  fun H vs x h => by obtain ⟨v0, v1, v2, v3, v4, h0, k0, k1, k2, k3, k4, -⟩ := h; rw [h0]; rfl,
  fun H vs x h => by obtain ⟨v0, v1, v2, v3, v4, h0, k0, k1, k2, k3, k4, -⟩ := h; rw [h0]; exact (ones_cons k0.one (ones_cons k1.one (ones_cons k2.one (ones_cons k3.one (ones_cons k4.one ones_nil)))))⟩
theorem rTProb_open {H : Hp} {vs : List Value} {x : TProb} (h : rTProb.R H vs x) : ∃ v0 v1 v2 v3 v4, vs = [v0, v1, v2, v3, v4] ∧ Rs (rInt .i64) H v0 x.Min ∧ Rs (rInt .i64) H v1 x.Max ∧ Rs rTTest H v2 x.Tests ∧ Rs rArr2Int H v3 x.Same ∧ Rs rArr2Int H v4 x.Different ∧ True := h
theorem rTProb_close {H : Hp} {vs : List Value} {x : TProb} (h : ∃ v0 v1 v2 v3 v4, vs = [v0, v1, v2, v3, v4] ∧ Rs (rInt .i64) H v0 x.Min ∧ Rs (rInt .i64) H v1 x.Max ∧ Rs rTTest H v2 x.Tests ∧ Rs rArr2Int H v3 x.Same ∧ Rs rArr2Int H v4 x.Different ∧ True) : rTProb.R H vs x := h
structure RAux where
  Of : Linear
  By : Int
  Text : Int
  deriving DecidableEq
def rRAux : Rep RAux := ⟨4, fun H vs x => ∃ v0, vs = [Value.int .i64 x.Of.Const, v0, Value.int .i64 x.By, Value.int .i64 x.Text] ∧ Rs rCoef H v0 x.Of.Coefs ∧ True,
  fun H H' vs x hle h => by obtain ⟨v0, h0, k0, -⟩ := h; exact ⟨v0, h0, k0.mono hle, trivial⟩,
  fun H vs x h => by obtain ⟨v0, h0, k0, -⟩ := h; rw [h0]; rfl,
  fun H vs x h => by obtain ⟨v0, h0, k0, -⟩ := h; rw [h0]; exact (ones_cons rfl (ones_cons k0.one (ones_cons rfl (ones_cons rfl ones_nil))))⟩
theorem rRAux_open {H : Hp} {vs : List Value} {x : RAux} (h : rRAux.R H vs x) : ∃ v0, vs = [Value.int .i64 x.Of.Const, v0, Value.int .i64 x.By, Value.int .i64 x.Text] ∧ Rs rCoef H v0 x.Of.Coefs ∧ True := h
theorem rRAux_close {H : Hp} {vs : List Value} {x : RAux} (h : ∃ v0, vs = [Value.int .i64 x.Of.Const, v0, Value.int .i64 x.By, Value.int .i64 x.Text] ∧ Rs rCoef H v0 x.Of.Coefs ∧ True) : rRAux.R H vs x := h
structure RClause where
  Null : (List Int)
  NotNull : (List Int)
  Auxiliary : (List RAux)
  Ints : (List Constraint)
  Tests : (List TTest)
  Same : (List Arr2Int)
  Different : (List Arr2Int)
  deriving DecidableEq
def rRClause : Rep RClause := ⟨7, fun H vs x => ∃ v0 v1 v2 v3 v4 v5 v6, vs = [v0, v1, v2, v3, v4, v5, v6] ∧ Rs (rInt .i64) H v0 x.Null ∧ Rs (rInt .i64) H v1 x.NotNull ∧ Rs rRAux H v2 x.Auxiliary ∧ Rs rConstraint H v3 x.Ints ∧ Rs rTTest H v4 x.Tests ∧ Rs rArr2Int H v5 x.Same ∧ Rs rArr2Int H v6 x.Different ∧ True,
  fun H H' vs x hle h => by obtain ⟨v0, v1, v2, v3, v4, v5, v6, h0, k0, k1, k2, k3, k4, k5, k6, -⟩ := h; exact ⟨v0, v1, v2, v3, v4, v5, v6, h0, k0.mono hle, k1.mono hle, k2.mono hle, k3.mono hle, k4.mono hle, k5.mono hle, k6.mono hle, trivial⟩,
  fun H vs x h => by obtain ⟨v0, v1, v2, v3, v4, v5, v6, h0, k0, k1, k2, k3, k4, k5, k6, -⟩ := h; rw [h0]; rfl,
  fun H vs x h => by obtain ⟨v0, v1, v2, v3, v4, v5, v6, h0, k0, k1, k2, k3, k4, k5, k6, -⟩ := h; rw [h0]; exact (ones_cons k0.one (ones_cons k1.one (ones_cons k2.one (ones_cons k3.one (ones_cons k4.one (ones_cons k5.one (ones_cons k6.one ones_nil)))))))⟩
theorem rRClause_open {H : Hp} {vs : List Value} {x : RClause} (h : rRClause.R H vs x) : ∃ v0 v1 v2 v3 v4 v5 v6, vs = [v0, v1, v2, v3, v4, v5, v6] ∧ Rs (rInt .i64) H v0 x.Null ∧ Rs (rInt .i64) H v1 x.NotNull ∧ Rs rRAux H v2 x.Auxiliary ∧ Rs rConstraint H v3 x.Ints ∧ Rs rTTest H v4 x.Tests ∧ Rs rArr2Int H v5 x.Same ∧ Rs rArr2Int H v6 x.Different ∧ True := h
theorem rRClause_close {H : Hp} {vs : List Value} {x : RClause} (h : ∃ v0 v1 v2 v3 v4 v5 v6, vs = [v0, v1, v2, v3, v4, v5, v6] ∧ Rs (rInt .i64) H v0 x.Null ∧ Rs (rInt .i64) H v1 x.NotNull ∧ Rs rRAux H v2 x.Auxiliary ∧ Rs rConstraint H v3 x.Ints ∧ Rs rTTest H v4 x.Tests ∧ Rs rArr2Int H v5 x.Same ∧ Rs rArr2Int H v6 x.Different ∧ True) : rRClause.R H vs x := h
structure RVar where
  Ty : Int
  Low : Int
  High : Int
  Max : Int
  Nullable : Bool
  deriving DecidableEq
def rRVar : Rep RVar := ⟨5, fun H vs x => vs = [Value.int .i64 x.Ty, Value.int .i64 x.Low, Value.int .i64 x.High, Value.int .i64 x.Max, Value.bool x.Nullable] ∧ True,
  fun H H' vs x hle h => by obtain ⟨h0, -⟩ := h; exact ⟨h0, trivial⟩,
  fun H vs x h => by obtain ⟨h0, -⟩ := h; rw [h0]; rfl,
  fun H vs x h => by obtain ⟨h0, -⟩ := h; rw [h0]; exact (ones_cons rfl (ones_cons rfl (ones_cons rfl (ones_cons rfl (ones_cons rfl ones_nil)))))⟩
theorem rRVar_open {H : Hp} {vs : List Value} {x : RVar} (h : rRVar.R H vs x) : vs = [Value.int .i64 x.Ty, Value.int .i64 x.Low, Value.int .i64 x.High, Value.int .i64 x.Max, Value.bool x.Nullable] ∧ True := h
theorem rRVar_close {H : Hp} {vs : List Value} {x : RVar} (h : vs = [Value.int .i64 x.Ty, Value.int .i64 x.Low, Value.int .i64 x.High, Value.int .i64 x.Max, Value.bool x.Nullable] ∧ True) : rRVar.R H vs x := h
structure RVal where
  Kind : Int
  Int : Int
  Text : (List UInt8)
  deriving DecidableEq
def rRVal : Rep RVal := ⟨3, fun H vs x => vs = [Value.int .i64 x.Kind, Value.int .i64 x.Int, Value.string (s8 x.Text)] ∧ True,
  fun H H' vs x hle h => by obtain ⟨h0, -⟩ := h; exact ⟨h0, trivial⟩,
  fun H vs x h => by obtain ⟨h0, -⟩ := h; rw [h0]; rfl,
  fun H vs x h => by obtain ⟨h0, -⟩ := h; rw [h0]; exact (ones_cons rfl (ones_cons rfl (ones_cons rfl ones_nil)))⟩
theorem rRVal_open {H : Hp} {vs : List Value} {x : RVal} (h : rRVal.R H vs x) : vs = [Value.int .i64 x.Kind, Value.int .i64 x.Int, Value.string (s8 x.Text)] ∧ True := h
theorem rRVal_close {H : Hp} {vs : List Value} {x : RVal} (h : vs = [Value.int .i64 x.Kind, Value.int .i64 x.Int, Value.string (s8 x.Text)] ∧ True) : rRVal.R H vs x := h
structure Refut where
  Kind : Int
  Var : Int
  At : Int
  Proof : Proof
  Children : (List Refut)
def RRefut : Nat → Hp → List Value → Refut → Prop
  | 0, _, _, _ => False
  | n + 1, H, vs, x => ∃ v0 v1 v2 v3 v4, vs = [Value.int .i64 x.Kind, Value.int .i64 x.Var, Value.int .i64 x.At, v0, v1, Value.bool x.Proof.Bound.Negative, v2, v3, v4] ∧ Rs rStep H v0 x.Proof.Steps ∧ Rs rBig H v1 x.Proof.Form ∧ Rs (rInt .u32) H v2 x.Proof.Bound.Digits ∧ Rs rProof H v3 x.Proof.Children ∧ Sl 9 (RRefut n) H v4 x.Children ∧ True
theorem RRefut_mono : ∀ (n : Nat) {H H' : Hp} {vs : List Value} {x : Refut}, Le H H' → RRefut n H vs x → RRefut n H' vs x
  | 0, _, _, _, _, _, h => h.elim
  | n + 1, _, _, _, _, hle, h => by obtain ⟨v0, v1, v2, v3, v4, h0, k0, k1, k2, k3, k4, -⟩ := h; exact ⟨v0, v1, v2, v3, v4, h0, k0.mono hle, k1.mono hle, k2.mono hle, k3.mono hle, Sl.mono (R := RRefut n) (fun _ _ _ _ a b => RRefut_mono n a b) hle k4, trivial⟩
theorem RRefut_up : ∀ {n m : Nat} {H : Hp} {vs : List Value} {x : Refut}, n ≤ m → RRefut n H vs x → RRefut m H vs x
  | 0, _, _, _, _, _, h => h.elim
  | n + 1, 0, _, _, _, hm, _ => by omega
  | n + 1, m + 1, _, _, _, hm, h => by have hm : n ≤ m := (by omega); obtain ⟨v0, v1, v2, v3, v4, h0, k0, k1, k2, k3, k4, -⟩ := h; exact ⟨v0, v1, v2, v3, v4, h0, k0, k1, k2, k3, sl_imp (fun _ _ => RRefut_up hm) k4, trivial⟩
def rRefut : Rep Refut := ⟨9, fun H vs x => ∃ n, RRefut n H vs x, fun _ _ _ _ hle ⟨n, h⟩ => ⟨n, RRefut_mono n hle h⟩,
  fun H vs x h => by obtain ⟨n, h⟩ := h; cases n with | zero => exact h.elim | succ n => obtain ⟨v0, v1, v2, v3, v4, h0, k0, k1, k2, k3, k4, -⟩ := h; rw [h0]; rfl,
  fun H vs x h => by obtain ⟨n, h⟩ := h; cases n with | zero => exact h.elim | succ n => obtain ⟨v0, v1, v2, v3, v4, h0, k0, k1, k2, k3, k4, -⟩ := h; rw [h0]; exact (ones_cons rfl (ones_cons rfl (ones_cons rfl (ones_cons k0.one (ones_cons k1.one (ones_cons rfl (ones_cons k2.one (ones_cons k3.one (ones_cons (Sl.one k4) ones_nil)))))))))⟩
theorem rRefut_open {H : Hp} {vs : List Value} {x : Refut} (h : rRefut.R H vs x) : ∃ v0 v1 v2 v3 v4, vs = [Value.int .i64 x.Kind, Value.int .i64 x.Var, Value.int .i64 x.At, v0, v1, Value.bool x.Proof.Bound.Negative, v2, v3, v4] ∧ Rs rStep H v0 x.Proof.Steps ∧ Rs rBig H v1 x.Proof.Form ∧ Rs (rInt .u32) H v2 x.Proof.Bound.Digits ∧ Rs rProof H v3 x.Proof.Children ∧ Rs rRefut H v4 x.Children ∧ True := by
  obtain ⟨n, h⟩ := h; cases n with | zero => exact h.elim | succ n => obtain ⟨v0, v1, v2, v3, v4, h0, k0, k1, k2, k3, k4, -⟩ := h; exact ⟨v0, v1, v2, v3, v4, h0, k0, k1, k2, k3, sl_imp (fun _ _ h => ⟨n, h⟩) k4, trivial⟩
theorem rRefut_close {H : Hp} {vs : List Value} {x : Refut} (h : ∃ v0 v1 v2 v3 v4, vs = [Value.int .i64 x.Kind, Value.int .i64 x.Var, Value.int .i64 x.At, v0, v1, Value.bool x.Proof.Bound.Negative, v2, v3, v4] ∧ Rs rStep H v0 x.Proof.Steps ∧ Rs rBig H v1 x.Proof.Form ∧ Rs (rInt .u32) H v2 x.Proof.Bound.Digits ∧ Rs rProof H v3 x.Proof.Children ∧ Rs rRefut H v4 x.Children ∧ True) : rRefut.R H vs x := by
  obtain ⟨v0, v1, v2, v3, v4, h0, k0, k1, k2, k3, k4, -⟩ := h
  obtain ⟨n, hn⟩ := sl_bound (Rn := RRefut) (fun _ _ _ _ hm h => RRefut_up hm h) k4
  exact ⟨n + 1, v0, v1, v2, v3, v4, h0, k0, k1, k2, k3, hn, trivial⟩
structure RCase where
  L : (List RVar)
  C : RClause
  Ranges : (List Arr2Int)
  R : (List RVal)
  deriving DecidableEq
def rRCase : Rep RCase := ⟨10, fun H vs x => ∃ v0 v1 v2 v3 v4 v5 v6 v7 v8 v9, vs = [v0, v1, v2, v3, v4, v5, v6, v7, v8, v9] ∧ Rs rRVar H v0 x.L ∧ Rs (rInt .i64) H v1 x.C.Null ∧ Rs (rInt .i64) H v2 x.C.NotNull ∧ Rs rRAux H v3 x.C.Auxiliary ∧ Rs rConstraint H v4 x.C.Ints ∧ Rs rTTest H v5 x.C.Tests ∧ Rs rArr2Int H v6 x.C.Same ∧ Rs rArr2Int H v7 x.C.Different ∧ Rs rArr2Int H v8 x.Ranges ∧ Rs rRVal H v9 x.R ∧ True,
  fun H H' vs x hle h => by obtain ⟨v0, v1, v2, v3, v4, v5, v6, v7, v8, v9, h0, k0, k1, k2, k3, k4, k5, k6, k7, k8, k9, -⟩ := h; exact ⟨v0, v1, v2, v3, v4, v5, v6, v7, v8, v9, h0, k0.mono hle, k1.mono hle, k2.mono hle, k3.mono hle, k4.mono hle, k5.mono hle, k6.mono hle, k7.mono hle, k8.mono hle, k9.mono hle, trivial⟩,
  fun H vs x h => by obtain ⟨v0, v1, v2, v3, v4, v5, v6, v7, v8, v9, h0, k0, k1, k2, k3, k4, k5, k6, k7, k8, k9, -⟩ := h; rw [h0]; rfl,
  fun H vs x h => by obtain ⟨v0, v1, v2, v3, v4, v5, v6, v7, v8, v9, h0, k0, k1, k2, k3, k4, k5, k6, k7, k8, k9, -⟩ := h; rw [h0]; exact (ones_cons k0.one (ones_cons k1.one (ones_cons k2.one (ones_cons k3.one (ones_cons k4.one (ones_cons k5.one (ones_cons k6.one (ones_cons k7.one (ones_cons k8.one (ones_cons k9.one ones_nil))))))))))⟩
theorem rRCase_open {H : Hp} {vs : List Value} {x : RCase} (h : rRCase.R H vs x) : ∃ v0 v1 v2 v3 v4 v5 v6 v7 v8 v9, vs = [v0, v1, v2, v3, v4, v5, v6, v7, v8, v9] ∧ Rs rRVar H v0 x.L ∧ Rs (rInt .i64) H v1 x.C.Null ∧ Rs (rInt .i64) H v2 x.C.NotNull ∧ Rs rRAux H v3 x.C.Auxiliary ∧ Rs rConstraint H v4 x.C.Ints ∧ Rs rTTest H v5 x.C.Tests ∧ Rs rArr2Int H v6 x.C.Same ∧ Rs rArr2Int H v7 x.C.Different ∧ Rs rArr2Int H v8 x.Ranges ∧ Rs rRVal H v9 x.R ∧ True := h
theorem rRCase_close {H : Hp} {vs : List Value} {x : RCase} (h : ∃ v0 v1 v2 v3 v4 v5 v6 v7 v8 v9, vs = [v0, v1, v2, v3, v4, v5, v6, v7, v8, v9] ∧ Rs rRVar H v0 x.L ∧ Rs (rInt .i64) H v1 x.C.Null ∧ Rs (rInt .i64) H v2 x.C.NotNull ∧ Rs rRAux H v3 x.C.Auxiliary ∧ Rs rConstraint H v4 x.C.Ints ∧ Rs rTTest H v5 x.C.Tests ∧ Rs rArr2Int H v6 x.C.Same ∧ Rs rArr2Int H v7 x.C.Different ∧ Rs rArr2Int H v8 x.Ranges ∧ Rs rRVal H v9 x.R ∧ True) : rRCase.R H vs x := h
structure RClaim where
  L : (List RVar)
  C : RClause
  F : Refut
  R : (List RVal)
def rRClaim : Rep RClaim := ⟨18, fun H vs x => ∃ v0 v1 v2 v3 v4 v5 v6 v7 v8 v9 v10 v11 v12 v13, vs = [v0, v1, v2, v3, v4, v5, v6, v7, Value.int .i64 x.F.Kind, Value.int .i64 x.F.Var, Value.int .i64 x.F.At, v8, v9, Value.bool x.F.Proof.Bound.Negative, v10, v11, v12, v13] ∧ Rs rRVar H v0 x.L ∧ Rs (rInt .i64) H v1 x.C.Null ∧ Rs (rInt .i64) H v2 x.C.NotNull ∧ Rs rRAux H v3 x.C.Auxiliary ∧ Rs rConstraint H v4 x.C.Ints ∧ Rs rTTest H v5 x.C.Tests ∧ Rs rArr2Int H v6 x.C.Same ∧ Rs rArr2Int H v7 x.C.Different ∧ Rs rStep H v8 x.F.Proof.Steps ∧ Rs rBig H v9 x.F.Proof.Form ∧ Rs (rInt .u32) H v10 x.F.Proof.Bound.Digits ∧ Rs rProof H v11 x.F.Proof.Children ∧ Rs rRefut H v12 x.F.Children ∧ Rs rRVal H v13 x.R ∧ True,
  fun H H' vs x hle h => by obtain ⟨v0, v1, v2, v3, v4, v5, v6, v7, v8, v9, v10, v11, v12, v13, h0, k0, k1, k2, k3, k4, k5, k6, k7, k8, k9, k10, k11, k12, k13, -⟩ := h; exact ⟨v0, v1, v2, v3, v4, v5, v6, v7, v8, v9, v10, v11, v12, v13, h0, k0.mono hle, k1.mono hle, k2.mono hle, k3.mono hle, k4.mono hle, k5.mono hle, k6.mono hle, k7.mono hle, k8.mono hle, k9.mono hle, k10.mono hle, k11.mono hle, k12.mono hle, k13.mono hle, trivial⟩,
  fun H vs x h => by obtain ⟨v0, v1, v2, v3, v4, v5, v6, v7, v8, v9, v10, v11, v12, v13, h0, k0, k1, k2, k3, k4, k5, k6, k7, k8, k9, k10, k11, k12, k13, -⟩ := h; rw [h0]; rfl,
  fun H vs x h => by obtain ⟨v0, v1, v2, v3, v4, v5, v6, v7, v8, v9, v10, v11, v12, v13, h0, k0, k1, k2, k3, k4, k5, k6, k7, k8, k9, k10, k11, k12, k13, -⟩ := h; rw [h0]; exact (ones_cons k0.one (ones_cons k1.one (ones_cons k2.one (ones_cons k3.one (ones_cons k4.one (ones_cons k5.one (ones_cons k6.one (ones_cons k7.one (ones_cons rfl (ones_cons rfl (ones_cons rfl (ones_cons k8.one (ones_cons k9.one (ones_cons rfl (ones_cons k10.one (ones_cons k11.one (ones_cons k12.one (ones_cons k13.one ones_nil))))))))))))))))))⟩
theorem rRClaim_open {H : Hp} {vs : List Value} {x : RClaim} (h : rRClaim.R H vs x) : ∃ v0 v1 v2 v3 v4 v5 v6 v7 v8 v9 v10 v11 v12 v13, vs = [v0, v1, v2, v3, v4, v5, v6, v7, Value.int .i64 x.F.Kind, Value.int .i64 x.F.Var, Value.int .i64 x.F.At, v8, v9, Value.bool x.F.Proof.Bound.Negative, v10, v11, v12, v13] ∧ Rs rRVar H v0 x.L ∧ Rs (rInt .i64) H v1 x.C.Null ∧ Rs (rInt .i64) H v2 x.C.NotNull ∧ Rs rRAux H v3 x.C.Auxiliary ∧ Rs rConstraint H v4 x.C.Ints ∧ Rs rTTest H v5 x.C.Tests ∧ Rs rArr2Int H v6 x.C.Same ∧ Rs rArr2Int H v7 x.C.Different ∧ Rs rStep H v8 x.F.Proof.Steps ∧ Rs rBig H v9 x.F.Proof.Form ∧ Rs (rInt .u32) H v10 x.F.Proof.Bound.Digits ∧ Rs rProof H v11 x.F.Proof.Children ∧ Rs rRefut H v12 x.F.Children ∧ Rs rRVal H v13 x.R ∧ True := h
theorem rRClaim_close {H : Hp} {vs : List Value} {x : RClaim} (h : ∃ v0 v1 v2 v3 v4 v5 v6 v7 v8 v9 v10 v11 v12 v13, vs = [v0, v1, v2, v3, v4, v5, v6, v7, Value.int .i64 x.F.Kind, Value.int .i64 x.F.Var, Value.int .i64 x.F.At, v8, v9, Value.bool x.F.Proof.Bound.Negative, v10, v11, v12, v13] ∧ Rs rRVar H v0 x.L ∧ Rs (rInt .i64) H v1 x.C.Null ∧ Rs (rInt .i64) H v2 x.C.NotNull ∧ Rs rRAux H v3 x.C.Auxiliary ∧ Rs rConstraint H v4 x.C.Ints ∧ Rs rTTest H v5 x.C.Tests ∧ Rs rArr2Int H v6 x.C.Same ∧ Rs rArr2Int H v7 x.C.Different ∧ Rs rStep H v8 x.F.Proof.Steps ∧ Rs rBig H v9 x.F.Proof.Form ∧ Rs (rInt .u32) H v10 x.F.Proof.Bound.Digits ∧ Rs rProof H v11 x.F.Proof.Children ∧ Rs rRefut H v12 x.F.Children ∧ Rs rRVal H v13 x.R ∧ True) : rRClaim.R H vs x := h
end Go.D
set_option linter.unusedSimpArgs false
set_option linter.unusedVariables false
namespace Go.D
def fmtI (N : Nat) (n : Int) : Option (List UInt8) := if 0 ≤ n ∧ n < 100 then some (Go.Lib.decDigits n.toNat) else none
end Go.D
set_option linter.unusedVariables false
set_option linter.unusedSimpArgs false
namespace Go.D
open Go Go.X
def cloneU32 (N : Nat) (s : (List Int)) : Option (List Int) :=
  (apnd 4 ([] : (List Int)) s).bind fun x16 =>
  some x16
def digit (N : Nat) (d : (List Int)) (i : Int) : Option Int :=
  (if (i : Int) < (List.length d : Int) then
    (idx d i).bind fun x2 =>
    some (uw x2)
  else
    some 0)
def bsign (N : Nat) (n : Int) : Option Int :=
  some (imin (imax n (-1)) 1)
def btrim_b1 (N : Nat) (d : (List Int)) : Int → Option (Stp Int Int)
  | n82 =>
    (((if (n82 : Int) > 0 then
      (idx d (iw (n82 - 1))).bind fun x110 =>
      some (decide ((x110 : Int) = 0))
    else
      some false) : Option Bool)).bind fun ss =>
      match ss with
      | x106 =>
        (if x106 = true then
          some (Stp.next (iw (n82 - 1)))
        else
          some (Stp.done n82))
def btrim (N : Nat) (d : (List Int)) : Option (List Int) :=
  (loopM (btrim_b1 N d) N (List.length d : Int)).bind fun ss =>
    match ss with
    | n83 =>
      (cut d 0 n83).bind fun x131 =>
      (cloneU32 N x131).bind fun r146 =>
      some r146
def bnormal (N : Nat) (negative : Bool) (d : (List Int)) : Option Big :=
  (btrim N d).bind fun r6 =>
  (if ((List.length r6 : Int) : Int) = 0 then
    some (Big.mk false [])
  else
    some (Big.mk negative r6))
def bcompare_b1 (N : Nat) (a : (List Int)) (b : (List Int)) : Int → Option (Stp Int (Sum Unit Int))
  | i130 =>
    (if (i130 : Int) ≥ 0 then
      (idx a i130).bind fun x139 =>
      (idx b i130).bind fun x153 =>
      (if (x139 : Int) < x153 then
        some (Stp.done (Sum.inr (-1)))
      else
        (idx a i130).bind fun x168 =>
        (idx b i130).bind fun x181 =>
        (if (x168 : Int) > x181 then
          some (Stp.done (Sum.inr 1))
        else
          some (Stp.next (iw (i130 - 1)))))
    else
      some (Stp.done (Sum.inl ())))
def bcompare (N : Nat) (a : (List Int)) (b : (List Int)) : Option Int :=
  (if ((List.length a : Int) : Int) ≠ (List.length b : Int) then
    (bsign N (iw ((List.length a : Int) - (List.length b : Int)))).bind fun r2 =>
    some r2
  else
    (loopM (bcompare_b1 N a b) N (iw ((List.length a : Int) - 1))).bind fun ss =>
      match ss with
      | (Sum.inl _) =>
        some 0
      | (Sum.inr z198) => some z198)
def bplus_b1 (N : Nat) (a : (List Int)) (b : (List Int)) (x2 : (List Int)) : ((List Int) × Int × Int) → Option (Stp ((List Int) × Int × Int) (List Int))
  | (out113, carry117, x118) =>
    (if (x118 : Int) < (List.length x2 : Int) then
      (digit N a x118).bind fun r133 =>
      (digit N b x118).bind fun r141 =>
      (idx out113 x118).bind fun x149 =>
      (upd1 out113 x118 (uw32 (uw (carry117 + (uw (r133 + r141)))))).bind fun x155 =>
      some (Stp.next (x155, (bshr .u64 (uw (carry117 + (uw (r133 + r141)))) 32), (iw (x118 + 1))))
    else
      some (Stp.done out113))
def bplus (N : Nat) (a : (List Int)) (b : (List Int)) : Option (List Int) :=
  (mk1 (α := Int) 4 0 (iw ((imax (List.length a : Int) (List.length b : Int)) + 1))).bind fun x2 =>
  (loopM (bplus_b1 N a b x2) N (x2, 0, 0)).bind fun ss =>
    match ss with
    | out121 =>
      some out121
def bminus_b1 (N : Nat) (a : (List Int)) (b : (List Int)) : ((List Int) × Int × Int) → Option (Stp ((List Int) × Int × Int) (List Int))
  | (out125, borrow129, x130) =>
    (if (x130 : Int) < (List.length a : Int) then
      (idx a x130).bind fun x146 =>
      (digit N b x130).bind fun r160 =>
      (idx out125 x130).bind fun x168 =>
      (upd1 out125 x130 (uw32 (uw ((uw ((uw x146) - r160)) - borrow129)))).bind fun x174 =>
      some (Stp.next (x174, (bshr .u64 (uw ((uw ((uw x146) - r160)) - borrow129)) 63), (iw (x130 + 1))))
    else
      some (Stp.done out125))
def bminus (N : Nat) (a : (List Int)) (b : (List Int)) : Option (List Int) :=
  (mk1 (α := Int) 4 0 (List.length a : Int)).bind fun x2 =>
  (loopM (bminus_b1 N a b) N (x2, 0, 0)).bind fun ss =>
    match ss with
    | out133 =>
      some out133
def btimes_b2 (N : Nat) (b : (List Int)) (x475 : Int) (x491 : Int) : ((List Int) × Int × Int) → Option (Stp ((List Int) × Int × Int) ((List Int) × Int))
  | (out616, carry620, x621) =>
    (if (x621 : Int) < (List.length b : Int) then
      (idx b x621).bind fun x637 =>
      (idx out616 (iw (x475 + x621))).bind fun x651 =>
      (idx out616 (iw (x475 + x621))).bind fun x661 =>
      (upd1 out616 (iw (x475 + x621)) (uw32 (uw (carry620 + (uw ((uw ((uw x491) * (uw x637))) + (uw x651))))))).bind fun x667 =>
      some (Stp.next (x667, (bshr .u64 (uw (carry620 + (uw ((uw ((uw x491) * (uw x637))) + (uw x651))))) 32), (iw (x621 + 1))))
    else
      some (Stp.done (out616, carry620)))
def btimes_b1 (N : Nat) (a : (List Int)) (b : (List Int)) : ((List Int) × Int) → Option (Stp ((List Int) × Int) (List Int))
  | (out471, x475) =>
    (if (x475 : Int) < (List.length a : Int) then
      (idx a x475).bind fun x491 =>
      (loopM (btimes_b2 N b x475 x491) N (out471, 0, 0)).bind fun ss =>
        match ss with
        | (out624, carry628) =>
          (idx out624 (iw (x475 + (List.length b : Int)))).bind fun x687 =>
          (upd1 out624 (iw (x475 + (List.length b : Int))) (uw32 carry628)).bind fun x693 =>
          some (Stp.next (x693, (iw (x475 + 1))))
    else
      some (Stp.done out471))
def btimes (N : Nat) (a : (List Int)) (b : (List Int)) : Option (List Int) :=
  (mk1 (α := Int) 4 0 (iw ((List.length a : Int) + (List.length b : Int)))).bind fun x2 =>
  (loopM (btimes_b1 N a b) N (x2, 0)).bind fun ss =>
    match ss with
    | out478 =>
      some out478
def bshort_b1 (N : Nat) (a : (List Int)) (pb : Int) : ((List Int) × Int × Int) → Option (Stp ((List Int) × Int × Int) ((List Int) × Int))
  | (out124, rest128, i129) =>
    (if (i129 : Int) ≥ 0 then
      (idx a i129).bind fun x146 =>
      (sdiv .u64 (bor .u64 (bshl .u64 rest128 32) (uw x146)) (uw pb)).bind fun x160 =>
      (idx out124 i129).bind fun x164 =>
      (upd1 out124 i129 (uw32 x160)).bind fun x170 =>
      (srem (bor .u64 (bshl .u64 rest128 32) (uw x146)) (uw pb)).bind fun x185 =>
      some (Stp.next (x170, (Int.tmod (bor .u64 (bshl .u64 rest128 32) (uw x146)) (uw pb)), (iw (i129 - 1))))
    else
      some (Stp.done (out124, rest128)))
def bshort (N : Nat) (a : (List Int)) (pb : Int) : Option ((List Int) × Int) :=
  (mk1 (α := Int) 4 0 (List.length a : Int)).bind fun x2 =>
  (loopM (bshort_b1 N a pb) N (x2, 0, (iw ((List.length a : Int) - 1)))).bind fun ss =>
    match ss with
    | (out132, rest136) =>
      some (out132, (uw32 rest136))
end Go.D
set_option linter.unusedVariables false
set_option linter.unusedSimpArgs false
namespace Go.D
open Go Go.X
def rtrim_b1 (N : Nat)  : (List Int) → Option (Stp (List Int) (List Int))
  | l112 =>
    (((if ((List.length l112 : Int) : Int) > 0 then
      (idx l112 (iw ((List.length l112 : Int) - 1))).bind fun x143 =>
      some (decide ((x143 : Int) = 0))
    else
      some false) : Option Bool)).bind fun ss =>
      match ss with
      | x139 =>
        (if x139 = true then
          (cut l112 0 (iw ((List.length l112 : Int) - 1))).bind fun x161 =>
          some (Stp.next x161)
        else
          some (Stp.done l112))
def rtrim (N : Nat) (l : (List Int)) : Option (List Int) :=
  (loopM (rtrim_b1 N ) N l).bind fun ss =>
    match ss with
    | l115 =>
      some l115
def halves_b1 (N : Nat) (x : Big) : ((List Int) × Int) → Option (Stp ((List Int) × Int) (List Int))
  | (l148, i152) =>
    (if (i152 : Int) < (List.length x.Digits : Int) then
      (idx x.Digits i152).bind fun x175 =>
      (idx x.Digits i152).bind fun x188 =>
      (apnd 8 l148 [(iw (Int.tmod x175 65536)), (iw (uw32 (Int.tdiv x188 65536)))]).bind fun x209 =>
      some (Stp.next (x209, (iw (i152 + 1))))
    else
      some (Stp.done l148))
def halves (N : Nat) (x : Big) : Option (List Int) :=
  (loopM (halves_b1 N x) N (([] : (List Int)), 0)).bind fun ss =>
    match ss with
    | l158 =>
      (rtrim N l158).bind fun r242 =>
      some r242
def rbig_b1 (N : Nat) (r6 : (List Int)) : ((List Int) × Int) → Option (Stp ((List Int) × Int) (List Int))
  | (digits263, i267) =>
    (if (i267 : Int) < (List.length r6 : Int) then
      (idx r6 i267).bind fun x296 =>
      (((if ((iw (i267 + 1)) : Int) < (List.length r6 : Int) then
        (idx r6 (iw (i267 + 1))).bind fun x330 =>
        some (uw32 ((uw32 x296) + (uw32 (65536 * (uw32 x330)))))
      else
        some (uw32 x296)) : Option Int)).bind fun ss =>
        match ss with
        | d326 =>
          (apnd 4 digits263 [d326]).bind fun x354 =>
          some (Stp.next (x354, (iw (i267 + 2))))
    else
      some (Stp.done digits263))
def rbig (N : Nat) (negative : Bool) (l : (List Int)) : Option Big :=
  (rtrim N l).bind fun r6 =>
  (((if negative = true then
    some (decide (((List.length r6 : Int) : Int) > 0))
  else
    some false) : Option Bool)).bind fun ss =>
    match ss with
    | negative38 =>
      (loopM (rbig_b1 N r6) N (([] : (List Int)), 0)).bind fun ss =>
        match ss with
        | digits275 =>
          some (Big.mk negative38 digits275)
def rNormal (N : Nat) (x : Big) : Option Big :=
  (halves N x).bind fun r11 =>
  (rbig N x.Negative r11).bind fun r21 =>
  some r21
def rorder_b1 (N : Nat) (a : (List Int)) (b : (List Int)) : Int → Option (Stp Int (Sum Unit Int))
  | i124 =>
    (if (i124 : Int) ≥ 0 then
      (idx a i124).bind fun x133 =>
      (idx b i124).bind fun x147 =>
      (if (x133 : Int) < x147 then
        some (Stp.done (Sum.inr (-1)))
      else
        (idx a i124).bind fun x162 =>
        (idx b i124).bind fun x175 =>
        (if (x162 : Int) > x175 then
          some (Stp.done (Sum.inr 1))
        else
          some (Stp.next (iw (i124 - 1)))))
    else
      some (Stp.done (Sum.inl ())))
def rorder (N : Nat) (a : (List Int)) (b : (List Int)) : Option Int :=
  (if ((List.length a : Int) : Int) ≠ (List.length b : Int) then
    (if ((List.length a : Int) : Int) < (List.length b : Int) then
      some (-1)
    else
      some 1)
  else
    (loopM (rorder_b1 N a b) N (iw ((List.length a : Int) - 1))).bind fun ss =>
      match ss with
      | (Sum.inl _) =>
        some 0
      | (Sum.inr z192) => some z192)
def rplus_b1 (N : Nat) (a : (List Int)) (b : (List Int)) : ((List Int) × Int × Int) → Option (Stp ((List Int) × Int × Int) (List Int))
  | (out261, carry265, i266) =>
    (((if (i266 : Int) < (List.length a : Int) then
      some true
    else
      (if (i266 : Int) < (List.length b : Int) then
        some true
      else
        some (decide ((carry265 : Int) > 0)))) : Option Bool)).bind fun ss =>
      match ss with
      | x289 =>
        (if x289 = true then
          (((if (i266 : Int) < (List.length a : Int) then
            (idx a i266).bind fun x320 =>
            some (iw (carry265 + x320))
          else
            some carry265) : Option Int)).bind fun ss =>
            match ss with
            | carry316 =>
              (((if (i266 : Int) < (List.length b : Int) then
                (idx b i266).bind fun x356 =>
                some (iw (carry316 + x356))
              else
                some carry316) : Option Int)).bind fun ss =>
                match ss with
                | carry352 =>
                  (apnd 8 out261 [(Int.tmod carry352 65536)]).bind fun x380 =>
                  some (Stp.next (x380, (iw (Int.tdiv carry352 65536)), (iw (i266 + 1))))
        else
          some (Stp.done out261))
def rplus (N : Nat) (a : (List Int)) (b : (List Int)) : Option (List Int) :=
  (loopM (rplus_b1 N a b) N (([] : (List Int)), 0, 0)).bind fun ss =>
    match ss with
    | out272 =>
      (rtrim N out272).bind fun r410 =>
      some r410
def rminus_b1 (N : Nat) (a : (List Int)) (b : (List Int)) : ((List Int) × Int × Int) → Option (Stp ((List Int) × Int × Int) (List Int))
  | (out207, borrow211, i212) =>
    (if (i212 : Int) < (List.length a : Int) then
      (idx a i212).bind fun x232 =>
      (((if (i212 : Int) < (List.length b : Int) then
        (idx b i212).bind fun x265 =>
        some (iw ((iw (x232 - borrow211)) - x265))
      else
        some (iw (x232 - borrow211))) : Option Int)).bind fun ss =>
        match ss with
        | n261 =>
          (((if (n261 : Int) < 0 then
            some (1, (iw (n261 + 65536)))
          else
            some (0, n261)) : Option (Int × Int))).bind fun ss =>
            match ss with
            | (borrow283, n284) =>
              (apnd 8 out207 [n284]).bind fun x299 =>
              some (Stp.next (x299, borrow283, (iw (i212 + 1))))
    else
      some (Stp.done out207))
def rminus (N : Nat) (a : (List Int)) (b : (List Int)) : Option (List Int) :=
  (loopM (rminus_b1 N a b) N (([] : (List Int)), 0, 0)).bind fun ss =>
    match ss with
    | out218 =>
      (rtrim N out218).bind fun r328 =>
      some r328
def rSign (N : Nat) (x : Big) : Option Int :=
  (halves N x).bind fun r6 =>
  (if ((List.length r6 : Int) : Int) = 0 then
    some 0
  else
    (if x.Negative = true then
      some (-1)
    else
      some 1))
def rCompare (N : Nat) (a : Big) (b : Big) : Option Int :=
  (rSign N a).bind fun r11 =>
  (rSign N b).bind fun r19 =>
  (if (r11 : Int) < r19 then
    some (-1)
  else
    (if (r11 : Int) > r19 then
      some 1
    else
      (halves N a).bind fun r29 =>
      (halves N b).bind fun r39 =>
      (rorder N r29 r39).bind fun r49 =>
      some (iw (r11 * r49))))
def rNeg (N : Nat) (x : Big) : Option Big :=
  (halves N x).bind fun r11 =>
  (rbig N (!x.Negative) r11).bind fun r21 =>
  some r21
def rAdd (N : Nat) (a : Big) (b : Big) : Option Big :=
  (halves N a).bind fun r16 =>
  (halves N b).bind fun r26 =>
  (if (a.Negative == b.Negative) = true then
    (rplus N r16 r26).bind fun r37 =>
    (rbig N a.Negative r37).bind fun r47 =>
    some r47
  else
    (rorder N r16 r26).bind fun r61 =>
    (if (r61 : Int) ≥ 0 then
      (rminus N r16 r26).bind fun r70 =>
      (rbig N a.Negative r70).bind fun r81 =>
      some r81
    else
      (rminus N r26 r16).bind fun r95 =>
      (rbig N b.Negative r95).bind fun r106 =>
      some r106))
def rtimes_b1 (N : Nat) (a : (List Int)) (d : Int) : ((List Int) × Int × Int) → Option (Stp ((List Int) × Int × Int) (List Int))
  | (out181, carry185, i186) =>
    (((if (i186 : Int) < (List.length a : Int) then
      some true
    else
      some (decide ((carry185 : Int) > 0))) : Option Bool)).bind fun ss =>
      match ss with
      | x207 =>
        (if x207 = true then
          (((if (i186 : Int) < (List.length a : Int) then
            (idx a i186).bind fun x236 =>
            some (iw (carry185 + (iw (x236 * d))))
          else
            some carry185) : Option Int)).bind fun ss =>
            match ss with
            | carry232 =>
              (apnd 8 out181 [(Int.tmod carry232 65536)]).bind fun x260 =>
              some (Stp.next (x260, (iw (Int.tdiv carry232 65536)), (iw (i186 + 1))))
        else
          some (Stp.done out181))
def rtimes (N : Nat) (a : (List Int)) (d : Int) : Option (List Int) :=
  (loopM (rtimes_b1 N a d) N (([] : (List Int)), 0, 0)).bind fun ss =>
    match ss with
    | out192 =>
      (rtrim N out192).bind fun r290 =>
      some r290
def rMul_b1 (N : Nat) (r16 : (List Int)) (r26 : (List Int)) : ((List Int) × Int) → Option (Stp ((List Int) × Int) (List Int))
  | (sum191, i194) =>
    (if (i194 : Int) ≥ 0 then
      (apnd 8 [0] sum191).bind fun x226 =>
      (idx r26 i194).bind fun x247 =>
      (rtimes N r16 x247).bind fun r261 =>
      (rplus N x226 r261).bind fun r271 =>
      some (Stp.next (r271, (iw (i194 - 1))))
    else
      some (Stp.done sum191))
def rMul (N : Nat) (a : Big) (b : Big) : Option Big :=
  (halves N a).bind fun r16 =>
  (halves N b).bind fun r26 =>
  (loopM (rMul_b1 N r16 r26) N (([] : (List Int)), (iw ((List.length r26 : Int) - 1)))).bind fun ss =>
    match ss with
    | sum198 =>
      (rbig N (!(a.Negative == b.Negative)) sum198).bind fun r288 =>
      some r288
def rOf_b1 (N : Nat)  : (Int × (List Int)) → Option (Stp (Int × (List Int)) (List Int))
  | (u98, l104) =>
    (if (u98 : Int) > 0 then
      (apnd 8 l104 [(iw (Int.tmod u98 65536))]).bind fun x138 =>
      some (Stp.next ((uw (Int.tdiv u98 65536)), x138))
    else
      some (Stp.done l104))
def rOf (N : Nat) (n : Int) : Option Big :=
  (((if (n : Int) < 0 then
    some (uw ((uw (iw (0 - (iw (n + 1))))) + 1))
  else
    some (uw n)) : Option Int)).bind fun ss =>
    match ss with
    | u8 =>
      (loopM (rOf_b1 N ) N (u8, ([] : (List Int)))).bind fun ss =>
        match ss with
        | l114 =>
          (rbig N (decide ((n : Int) < 0)) l114).bind fun r163 =>
          some r163
end Go.D
set_option linter.unusedVariables false
set_option linter.unusedSimpArgs false
namespace Go.D
open Go Go.X
def bdivide (N : Nat) (a : (List Int)) (b : (List Int)) : Option ((List Int) × (List Int)) :=
  (bcompare N a b).bind fun r1 =>
  (if (r1 : Int) < 0 then
    (btrim N a).bind fun r9 =>
    some (([] : (List Int)), r9)
  else
    (if ((List.length b : Int) : Int) = 1 then
      (idx b 0).bind fun x33 =>
      (bshort N a x33).bind fun r46 =>
      (btrim N r46.1).bind fun r62 =>
      (btrim N [r46.2]).bind fun r85 =>
      some (r62, r85)
    else
      (idx b (iw ((List.length b : Int) - 1))).bind fun x102 =>
      none))
def bOf (N : Nat) (n : Int) : Option Big :=
  (((if (n : Int) < 0 then
    some (uw (0 - (uw n)))
  else
    some (uw n)) : Option Int)).bind fun ss =>
    match ss with
    | u8 =>
      (bnormal N (decide ((n : Int) < 0)) [(uw32 u8), (uw32 (bshr .u64 u8 32))]).bind fun r23 =>
      some r23
def bNormal (N : Nat) (x : Big) : Option Big :=
  (bnormal N x.Negative x.Digits).bind fun r11 =>
  some r11
def bSign (N : Nat) (x : Big) : Option Int :=
  (bNormal N x).bind fun r6 =>
  (if ((List.length r6.Digits : Int) : Int) = 0 then
    some 0
  else
    (if r6.Negative = true then
      some (-1)
    else
      some 1))
def bNeg (N : Nat) (x : Big) : Option Big :=
  (bnormal N (!x.Negative) x.Digits).bind fun r11 =>
  some r11
def bAdd (N : Nat) (a : Big) (b : Big) : Option Big :=
  (bNormal N a).bind fun r16 =>
  (bNormal N b).bind fun r26 =>
  (if (r16.Negative == r26.Negative) = true then
    (bplus N r16.Digits r26.Digits).bind fun r47 =>
    (bnormal N r16.Negative r47).bind fun r64 =>
    some r64
  else
    (bcompare N r16.Digits r26.Digits).bind fun r78 =>
    (if (r78 : Int) < 0 then
      (bminus N r26.Digits r16.Digits).bind fun r88 =>
      (bnormal N r26.Negative r88).bind fun r105 =>
      some r105
    else
      (bminus N r16.Digits r26.Digits).bind fun r119 =>
      (bnormal N r16.Negative r119).bind fun r136 =>
      some r136))
def bSub (N : Nat) (a : Big) (b : Big) : Option Big :=
  (bNeg N b).bind fun r16 =>
  (bAdd N a r16).bind fun r26 =>
  some r26
def bMul (N : Nat) (a : Big) (b : Big) : Option Big :=
  (btimes N a.Digits b.Digits).bind fun r16 =>
  (bnormal N (!(a.Negative == b.Negative)) r16).bind fun r33 =>
  some r33
def bDivFloor (N : Nat) (a : Big) (b : Big) : Option (Big × Big × Bool) :=
  (bNormal N a).bind fun r21 =>
  (bNormal N b).bind fun r31 =>
  (if ((List.length r31.Digits : Int) : Int) = 0 then
    some ((Big.mk false []), (Big.mk false []), false)
  else
    (bdivide N r21.Digits r31.Digits).bind fun r61 =>
    (if (!(r21.Negative == r31.Negative)) = true then
      (((if ((List.length r61.2 : Int) : Int) > 0 then
        (bplus N r61.1 [1]).bind fun r160 =>
        (bminus N r31.Digits r61.2).bind fun r177 =>
        some (r160, r177)
      else
        some (r61.1, r61.2)) : Option ((List Int) × (List Int)))).bind fun ss =>
        match ss with
        | (q136, x145) =>
          (bnormal N true q136).bind fun r207 =>
          (bnormal N r31.Negative x145).bind fun r216 =>
          some (r207, r216, true)
    else
      (bnormal N false r61.1).bind fun r238 =>
      (bnormal N r31.Negative r61.2).bind fun r247 =>
      some (r238, r247, true)))
end Go.D
set_option linter.unusedVariables false
set_option linter.unusedSimpArgs false
namespace Go.D
open Go Go.X
def cvalid_b1 (N : Nat) (c : Constraint) (n : Int) : (Int × Int) → Option (Stp (Int × Int) (Sum Unit Bool))
  | (last83, x84) =>
    (if (x84 : Int) < (List.length c.Linear.Coefs : Int) then
      (idx c.Linear.Coefs x84).bind fun x96 =>
      (((if (x96.Var : Int) ≤ last83 then
        some true
      else
        some (decide ((x96.Var : Int) ≥ n))) : Option Bool)).bind fun ss =>
        match ss with
        | x121 =>
          (if x121 = true then
            some (Stp.done (Sum.inr false))
          else
            some (Stp.next (x96.Var, (iw (x84 + 1)))))
    else
      some (Stp.done (Sum.inl ())))
def cvalid (N : Nat) (c : Constraint) (n : Int) : Option Bool :=
  (loopM (cvalid_b1 N c n) N ((-1), 0)).bind fun ss =>
    match ss with
    | (Sum.inl _) =>
      (if (n : Int) ≥ 0 then
        some (decide ((n : Int) ≤ 512))
      else
        some false)
    | (Sum.inr z136) => some z136
def negated_b1 (N : Nat) (l : (List Big)) : ((List Big) × Int) → Option (Stp ((List Big) × Int) (List Big))
  | (coefs197, x201) =>
    (if (x201 : Int) < (List.length l : Int) then
      (idx l x201).bind fun x229 =>
      (bNeg N x229).bind fun r255 =>
      (apnd 32 coefs197 [r255]).bind fun x273 =>
      some (Stp.next (x273, (iw (x201 + 1))))
    else
      some (Stp.done coefs197))
def negated (N : Nat) (l : (List Big)) (bound : Big) : Option Ineq :=
  (bNormal N bound).bind fun r11 =>
  (loopM (negated_b1 N l) N (([] : (List Big)), 0)).bind fun ss =>
    match ss with
    | coefs209 =>
      some (Ineq.mk coefs209 r11)
def cOf_b1 (N : Nat) (c : Constraint) : ((List Big) × Int) → Option (Stp ((List Big) × Int) (List Big))
  | (coefs197, x201) =>
    (if (x201 : Int) < (List.length c.Linear.Coefs : Int) then
      (idx c.Linear.Coefs x201).bind fun x222 =>
      (bOf N x222.N).bind fun r245 =>
      (idx coefs197 x222.Var).bind fun x254 =>
      (upd1 coefs197 x222.Var r245).bind fun x260 =>
      some (Stp.next (x260, (iw (x201 + 1))))
    else
      some (Stp.done coefs197))
def cOf (N : Nat) (c : Constraint) (n : Int) : Option (List Ineq) :=
  (cvalid N c n).bind fun r6 =>
  (if (!r6) = true then
    some ([] : (List Ineq))
  else
    (mk1 (α := Big) 32 (Big.mk false []) n).bind fun x21 =>
    (bOf N c.Linear.Const).bind fun r36 =>
    (bNeg N r36).bind fun r45 =>
    (loopM (cOf_b1 N c) N (x21, 0)).bind fun ss =>
      match ss with
      | coefs206 =>
        (if (!c.Equal) = true then
          some [(Ineq.mk coefs206 r45)]
        else
          (bOf N c.Linear.Const).bind fun r298 =>
          (negated N coefs206 r298).bind fun r307 =>
          some [(Ineq.mk coefs206 r45), r307]))
def cSystem_b1 (N : Nat) (l : (List Constraint)) (n : Int) : ((List Ineq) × Int) → Option (Stp ((List Ineq) × Int) (Sum (List Ineq) (List Ineq)))
  | (out175, x179) =>
    (if (x179 : Int) < (List.length l : Int) then
      (idx l x179).bind fun x201 =>
      (cvalid N x201 n).bind fun r227 =>
      (if (!r227) = true then
        some (Stp.done (Sum.inr ([] : (List Ineq))))
      else
        (cOf N x201 n).bind fun r241 =>
        (apnd 56 out175 r241).bind fun x257 =>
        some (Stp.next (x257, (iw (x179 + 1)))))
    else
      some (Stp.done (Sum.inl out175)))
def cSystem (N : Nat) (l : (List Constraint)) (n : Int) : Option (List Ineq) :=
  (loopM (cSystem_b1 N l n) N (([] : (List Ineq)), 0)).bind fun ss =>
    match ss with
    | (Sum.inl out185) =>
      some out185
    | (Sum.inr z281) => some z281
def cloneIneq (N : Nat) (s : (List Ineq)) : Option (List Ineq) :=
  (apnd 56 ([] : (List Ineq)) s).bind fun x16 =>
  some x16
def indexIneq_b1 (N : Nat) (f : (Ineq → Option Bool)) (s : (List Ineq)) : Int → Option (Stp Int (Sum Unit Int))
  | x62 =>
    (if (x62 : Int) < (List.length s : Int) then
      (idx s x62).bind fun x71 =>
      (f x71).bind fun r89 =>
      (if r89 = true then
        some (Stp.done (Sum.inr x62))
      else
        some (Stp.next (iw (x62 + 1))))
    else
      some (Stp.done (Sum.inl ())))
def indexIneq (N : Nat) (s : (List Ineq)) (f : (Ineq → Option Bool)) : Option Int :=
  (loopM (indexIneq_b1 N f s) N 0).bind fun ss =>
    match ss with
    | (Sum.inl _) =>
      some (-1)
    | (Sum.inr z100) => some z100
def containsIneq (N : Nat) (s : (List Ineq)) (f : (Ineq → Option Bool)) : Option Bool :=
  (indexIneq N s f).bind fun r1 =>
  some (decide ((r1 : Int) ≥ 0))
def width1 (N : Nat) (q : Ineq) (ca : Int) : Option Bool :=
  some (decide (((List.length q.Coefs : Int) : Int) ≠ ca))
def cwidth (N : Nat) (l : (List Ineq)) : Option (Int × Bool) :=
  (if ((List.length l : Int) : Int) = 0 then
    some (0, true)
  else
    (idx l 0).bind fun x2 =>
    (containsIneq N l (fun y29 => width1 N y29 (List.length x2.Coefs : Int))).bind fun r30 =>
    some ((List.length x2.Coefs : Int), (!r30)))
def cApply_b2 (N : Nat) (x1030 : Use) (x1103 : Ineq) : ((List Big) × Int) → Option (Stp ((List Big) × Int) (List Big))
  | (coefs1328, x1334) =>
    (if (x1334 : Int) < (List.length x1103.Coefs : Int) then
      (idx x1103.Coefs x1334).bind fun x1358 =>
      (idx coefs1328 x1334).bind fun x1384 =>
      (bMul N x1030.N x1358).bind fun r1397 =>
      (bAdd N x1384 r1397).bind fun r1408 =>
      (idx coefs1328 x1334).bind fun x1418 =>
      (upd1 coefs1328 x1334 r1408).bind fun x1424 =>
      some (Stp.next (x1424, (iw (x1334 + 1))))
    else
      some (Stp.done coefs1328))
def cApply_b1 (N : Nat) (l : (List Ineq)) (s : Step) : ((List Big) × Bool × (List Int) × Int) → Option (Stp ((List Big) × Bool × (List Int) × Int) (Sum ((List Big) × Bool × (List Int)) (Ineq × Bool)))
  | (coefs996, negative1000, digits1001, x1004) =>
    (if (x1004 : Int) < (List.length s.Uses : Int) then
      (idx s.Uses x1004).bind fun x1030 =>
      (((if (x1030.Index : Int) < 0 then
        some true
      else
        (if (x1030.Index : Int) ≥ (List.length l : Int) then
          some true
        else
          (bSign N x1030.N).bind fun r1084 =>
          some (decide ((r1084 : Int) < 0)))) : Option Bool)).bind fun ss =>
        match ss with
        | x1072 =>
          (if x1072 = true then
            some (Stp.done (Sum.inr ((Ineq.mk [] (Big.mk false [])), false)))
          else
            (idx l x1030.Index).bind fun x1103 =>
            (loopM (cApply_b2 N x1030 x1103) N (coefs996, 0)).bind fun ss =>
              match ss with
              | coefs1340 =>
                (bMul N x1030.N x1103.Bound).bind fun r1447 =>
                (bAdd N (Big.mk negative1000 digits1001) r1447).bind fun r1458 =>
                some (Stp.next (coefs1340, r1458.Negative, r1458.Digits, (iw (x1004 + 1)))))
    else
      some (Stp.done (Sum.inl (coefs996, negative1000, digits1001))))
def cApply_b3 (N : Nat) (s : Step) (coefs1010 : (List Big)) : ((List Big) × Int) → Option (Stp ((List Big) × Int) (Sum (List Big) (Ineq × Bool)))
  | (coefs1690, x1694) =>
    (if (x1694 : Int) < (List.length coefs1010 : Int) then
      (idx coefs1690 x1694).bind fun x1712 =>
      (bDivFloor N x1712 s.Divisor).bind fun r1734 =>
      (bSign N r1734.2.1).bind fun r1767 =>
      (if (r1767 : Int) ≠ 0 then
        some (Stp.done (Sum.inr ((Ineq.mk [] (Big.mk false [])), false)))
      else
        (idx coefs1690 x1694).bind fun x1780 =>
        (upd1 coefs1690 x1694 r1734.1).bind fun x1786 =>
        some (Stp.next (x1786, (iw (x1694 + 1)))))
    else
      some (Stp.done (Sum.inl coefs1690)))
def cApply (N : Nat) (l : (List Ineq)) (s : Step) : Option (Ineq × Bool) :=
  (cwidth N l).bind fun r11 =>
  (((if (!r11.2) = true then
    some true
  else
    (bSign N s.Divisor).bind fun r37 =>
    some (decide ((r37 : Int) < 1))) : Option Bool)).bind fun ss =>
    match ss with
    | x30 =>
      (if x30 = true then
        some ((Ineq.mk [] (Big.mk false [])), false)
      else
        (mk1 (α := Big) 32 (Big.mk false []) r11.1).bind fun x57 =>
        (loopM (cApply_b1 N l s) N (x57, false, [], 0)).bind fun ss =>
          match ss with
          | (Sum.inl (coefs1010, negative1014, digits1015)) =>
            (loopM (cApply_b3 N s coefs1010) N (coefs1010, 0)).bind fun ss =>
              match ss with
              | (Sum.inl coefs1700) =>
                (bDivFloor N (Big.mk negative1014 digits1015) s.Divisor).bind fun r1810 =>
                some ((Ineq.mk coefs1700 r1810.1), true)
              | (Sum.inr z1838) => some z1838
          | (Sum.inr z1839) => some z1839)
def cContradictory_b1 (N : Nat) (q : Ineq) : Int → Option (Stp Int (Sum Unit Bool))
  | x89 =>
    (if (x89 : Int) < (List.length q.Coefs : Int) then
      (idx q.Coefs x89).bind fun x99 =>
      (bSign N x99).bind fun r125 =>
      (if (r125 : Int) ≠ 0 then
        some (Stp.done (Sum.inr false))
      else
        some (Stp.next (iw (x89 + 1))))
    else
      some (Stp.done (Sum.inl ())))
def cContradictory (N : Nat) (q : Ineq) : Option Bool :=
  (loopM (cContradictory_b1 N q) N 0).bind fun ss =>
    match ss with
    | (Sum.inl _) =>
      (bSign N q.Bound).bind fun r140 =>
      some (decide ((r140 : Int) < 0))
    | (Sum.inr z148) => some z148
def cCheck_b1 (N : Nat) (p : Proof) : ((List Ineq) × Int) → Option (Stp ((List Ineq) × Int) (Sum (List Ineq) Bool))
  | (e225, x229) =>
    (if (x229 : Int) < (List.length p.Steps : Int) then
      (idx p.Steps x229).bind fun x252 =>
      (cApply N e225 x252).bind fun r281 =>
      (if (!r281.2) = true then
        some (Stp.done (Sum.inr false))
      else
        (apnd 56 e225 [r281.1]).bind fun x317 =>
        some (Stp.next (x317, (iw (x229 + 1)))))
    else
      some (Stp.done (Sum.inl e225)))
def cCheck_step (N : Nat) (self : (List Ineq) → Proof → Option Bool) (l : (List Ineq)) (p : Proof) : Option Bool :=
  (cwidth N l).bind fun r6 =>
  (if (!r6.2) = true then
    some false
  else
    (cloneIneq N l).bind fun r15 =>
    (loopM (cCheck_b1 N p) N (r15, 0)).bind fun ss =>
      match ss with
      | (Sum.inl e236) =>
        (if ((List.length p.Children : Int) : Int) = 0 then
          (containsIneq N e236 (fun y344 => cContradictory N y344)).bind fun r345 =>
          some r345
        else
          (if ((List.length p.Children : Int) : Int) = 2 then
            (cwidth N e236).bind fun r358 =>
            (((if ((List.length e236 : Int) : Int) > 0 then
              some (decide (((List.length p.Form : Int) : Int) ≠ r358.1))
            else
              some false) : Option Bool)).bind fun ss =>
              match ss with
              | x370 =>
                (if x370 = true then
                  some false
                else
                  (bNeg N p.Bound).bind fun r392 =>
                  (bOf N 1).bind fun r402 =>
                  (bSub N r392 r402).bind fun r411 =>
                  (negated N p.Form r411).bind fun r421 =>
                  none)
          else
            some false))
      | (Sum.inr z444) => some z444)
def cCheck : Nat → (List Ineq) → Proof → Option Bool
  | 0 => fun _ _ => none
  | N + 1 => cCheck_step N (cCheck N)
def cSize_b1 (N : Nat) (self : Proof → Option Int) (p : Proof) : (Int × Int) → Option (Stp (Int × Int) Int)
  | (n120, x121) =>
    (if (x121 : Int) < (List.length p.Children : Int) then
      (idx p.Children x121).bind fun x134 =>
      (self x134).bind fun r169 =>
      some (Stp.next ((iw (n120 + r169)), (iw (x121 + 1))))
    else
      some (Stp.done n120))
def cSize_step (N : Nat) (self : Proof → Option Int) (p : Proof) : Option Int :=
  (((if ((List.length p.Children : Int) : Int) > 0 then
    some (iw ((List.length p.Steps : Int) + 1))
  else
    some (List.length p.Steps : Int)) : Option Int)).bind fun ss =>
    match ss with
    | n10 =>
      (loopM (cSize_b1 N self p) N (n10, 0)).bind fun ss =>
        match ss with
        | n122 =>
          some n122
def cSize : Nat → Proof → Option Int
  | 0 => fun _ => none
  | N + 1 => cSize_step N (cSize N)
end Go.D
set_option linter.unusedVariables false
set_option linter.unusedSimpArgs false
namespace Go.D
open Go Go.X
def rzero (N : Nat) (n : Int) : Option Ineq :=
  (mk1 (α := Big) 32 (Big.mk false []) n).bind fun x7 =>
  some (Ineq.mk x7 (Big.mk false ([] : (List Int))))
def rRight_b1 (N : Nat) (c : Constraint) (n : Int) : Int → Option (Stp Int (Sum Unit Bool))
  | i132 =>
    (if (i132 : Int) < (List.length c.Linear.Coefs : Int) then
      (idx c.Linear.Coefs i132).bind fun x142 =>
      (((if (x142.Var : Int) < 0 then
        some true
      else
        (if (x142.Var : Int) ≥ n then
          some true
        else
          (if (i132 : Int) > 0 then
            (idx c.Linear.Coefs (iw (i132 - 1))).bind fun x180 =>
            some (decide ((x142.Var : Int) ≤ x180.Var))
          else
            some false))) : Option Bool)).bind fun ss =>
        match ss with
        | x174 =>
          (if x174 = true then
            some (Stp.done (Sum.inr false))
          else
            some (Stp.next (iw (i132 + 1))))
    else
      some (Stp.done (Sum.inl ())))
def rRight (N : Nat) (c : Constraint) (n : Int) : Option Bool :=
  (loopM (rRight_b1 N c n) N 0).bind fun ss =>
    match ss with
    | (Sum.inl _) =>
      (if (n : Int) ≥ 0 then
        some (decide ((n : Int) ≤ 512))
      else
        some false)
    | (Sum.inr z205) => some z205
def rflip_b1 (N : Nat) (q : Ineq) : ((List Big) × Int) → Option (Stp ((List Big) × Int) (List Big))
  | (coefs182, i186) =>
    (if (i186 : Int) < (List.length q.Coefs : Int) then
      (idx q.Coefs i186).bind fun x215 =>
      (rNeg N x215).bind fun r230 =>
      (apnd 32 coefs182 [r230]).bind fun x247 =>
      some (Stp.next (x247, (iw (i186 + 1))))
    else
      some (Stp.done coefs182))
def rflip (N : Nat) (q : Ineq) (bound : Big) : Option Ineq :=
  (rNormal N bound).bind fun r16 =>
  (loopM (rflip_b1 N q) N (([] : (List Big)), 0)).bind fun ss =>
    match ss with
    | coefs194 =>
      some (Ineq.mk coefs194 r16)
def rIOf_b1 (N : Nat) (c : Constraint) : ((List Big) × Int) → Option (Stp ((List Big) × Int) (List Big))
  | (coefs201, i206) =>
    (if (i206 : Int) < (List.length c.Linear.Coefs : Int) then
      (idx c.Linear.Coefs i206).bind fun x229 =>
      (idx c.Linear.Coefs i206).bind fun x243 =>
      (rOf N x243.N).bind fun r257 =>
      (idx coefs201 x229.Var).bind fun x266 =>
      (upd1 coefs201 x229.Var r257).bind fun x275 =>
      some (Stp.next (x275, (iw (i206 + 1))))
    else
      some (Stp.done coefs201))
def rIOf (N : Nat) (c : Constraint) (n : Int) : Option (List Ineq) :=
  (rRight N c n).bind fun r6 =>
  (if (!r6) = true then
    some ([] : (List Ineq))
  else
    (rzero N n).bind fun r20 =>
    (loopM (rIOf_b1 N c) N (r20.Coefs, 0)).bind fun ss =>
      match ss with
      | coefs211 =>
        (rOf N c.Linear.Const).bind fun r294 =>
        (rNeg N r294).bind fun r313 =>
        (if (!c.Equal) = true then
          some [(Ineq.mk coefs211 r313)]
        else
          (rflip N (Ineq.mk coefs211 r313) r294).bind fun r343 =>
          some [(Ineq.mk coefs211 r313), r343]))
def rSystem_b1 (N : Nat) (l : (List Constraint)) (n : Int) : ((List Ineq) × Int) → Option (Stp ((List Ineq) × Int) (Sum (List Ineq) (List Ineq)))
  | (out188, i192) =>
    (if (i192 : Int) < (List.length l : Int) then
      (idx l i192).bind fun x212 =>
      (rRight N x212 n).bind fun r227 =>
      (if (!r227) = true then
        some (Stp.done (Sum.inr ([] : (List Ineq))))
      else
        (idx l i192).bind fun x240 =>
        (rIOf N x240 n).bind fun r256 =>
        (apnd 56 out188 r256).bind fun x271 =>
        some (Stp.next (x271, (iw (i192 + 1)))))
    else
      some (Stp.done (Sum.inl out188)))
def rSystem (N : Nat) (l : (List Constraint)) (n : Int) : Option (List Ineq) :=
  (loopM (rSystem_b1 N l n) N (([] : (List Ineq)), 0)).bind fun ss =>
    match ss with
    | (Sum.inl out198) =>
      some out198
    | (Sum.inr z295) => some z295
def rHolds_b1 (N : Nat) (q : Ineq) (x : (List Big)) : (Bool × (List Int) × Int) → Option (Stp (Bool × (List Int) × Int) (Bool × (List Int)))
  | (negative146, digits147, i150) =>
    (if (i150 : Int) < (List.length x : Int) then
      (idx q.Coefs i150).bind fun x169 =>
      (idx x i150).bind fun x185 =>
      (rMul N x169 x185).bind fun r200 =>
      (rAdd N (Big.mk negative146 digits147) r200).bind fun r209 =>
      some (Stp.next (r209.Negative, r209.Digits, (iw (i150 + 1))))
    else
      some (Stp.done (negative146, digits147)))
def rHolds (N : Nat) (q : Ineq) (x : (List Big)) : Option Bool :=
  (if ((List.length q.Coefs : Int) : Int) ≠ (List.length x : Int) then
    some false
  else
    (loopM (rHolds_b1 N q x) N (false, [], 0)).bind fun ss =>
      match ss with
      | (negative153, digits154) =>
        (rCompare N (Big.mk negative153 digits154) q.Bound).bind fun r227 =>
        some (decide ((r227 : Int) ≤ 0)))
def rAll_b1 (N : Nat) (l : (List Ineq)) (x : (List Big)) : Int → Option (Stp Int (Sum Unit Bool))
  | i64 =>
    (if (i64 : Int) < (List.length l : Int) then
      (idx l i64).bind fun x74 =>
      (rHolds N x74 x).bind fun r91 =>
      (if (!r91) = true then
        some (Stp.done (Sum.inr false))
      else
        some (Stp.next (iw (i64 + 1))))
    else
      some (Stp.done (Sum.inl ())))
def rAll (N : Nat) (l : (List Ineq)) (x : (List Big)) : Option Bool :=
  (loopM (rAll_b1 N l x) N 0).bind fun ss =>
    match ss with
    | (Sum.inl _) =>
      some true
    | (Sum.inr z103) => some z103
end Go.D
set_option linter.unusedVariables false
set_option linter.unusedSimpArgs false
namespace Go.D
open Go Go.X
def indexOf_b1 (N : Nat) (pb : Int) (s : (List Int)) : Int → Option (Stp Int (Sum Unit Int))
  | x40 =>
    (if (x40 : Int) < (List.length s : Int) then
      (idx s x40).bind fun x49 =>
      (if (pb : Int) = x49 then
        some (Stp.done (Sum.inr x40))
      else
        some (Stp.next (iw (x40 + 1))))
    else
      some (Stp.done (Sum.inl ())))
def indexOf (N : Nat) (s : (List Int)) (pb : Int) : Option Int :=
  (loopM (indexOf_b1 N pb s) N 0).bind fun ss =>
    match ss with
    | (Sum.inl _) =>
      some (-1)
    | (Sum.inr z67) => some z67
def containsOf (N : Nat) (s : (List Int)) (pb : Int) : Option Bool :=
  (indexOf N s pb).bind fun r1 =>
  some (decide ((r1 : Int) ≥ 0))
end Go.D
set_option linter.unusedVariables false
set_option linter.unusedSimpArgs false
namespace Go.D
open Go Go.X
def qPrintable_b1 (N : Nat) (s : (List UInt8)) : Int → Option (Stp Int (Sum Unit Bool))
  | i68 =>
    (if (i68 : Int) < (List.length s : Int) then
      (((idx s i68).bind fun x91 =>
      (if ((UInt8.toNat x91 : Int) : Int) < 32 then
        some true
      else
        (idx s i68).bind fun x97 =>
        some (decide (((UInt8.toNat x97 : Int) : Int) > 126))) : Option Bool)).bind fun ss =>
        match ss with
        | x88 =>
          (if x88 = true then
            some (Stp.done (Sum.inr false))
          else
            some (Stp.next (iw (i68 + 1))))
    else
      some (Stp.done (Sum.inl ())))
def qPrintable (N : Nat) (s : (List UInt8)) : Option Bool :=
  (loopM (qPrintable_b1 N s) N 0).bind fun ss =>
    match ss with
    | (Sum.inl _) =>
      some true
    | (Sum.inr z109) => some z109
def qClosed_b1 (N : Nat) (p : (List UInt8)) : ((List Int) × Int) → Option (Stp ((List Int) × Int) (List Int))
  | (vset158, i162) =>
    (if (i162 : Int) < (List.length p : Int) then
      (((idx vset158 i162).bind fun x199 =>
      (if (x199 : Int) = 1 then
        (idx p i162).bind fun x212 =>
        some (decide (((UInt8.toNat x212 : Int) : Int) = 37))
      else
        some false) : Option Bool)).bind fun ss =>
        match ss with
        | x196 =>
          (if x196 = true then
            (idx vset158 (iw (i162 + 1))).bind fun x221 =>
            (upd1 vset158 (iw (i162 + 1)) 1).bind fun x230 =>
            some (Stp.next (x230, (iw (i162 + 1))))
          else
            some (Stp.next (vset158, (iw (i162 + 1)))))
    else
      some (Stp.done vset158))
def qClosed (N : Nat) (p : (List UInt8)) (vset : (List Int)) : Option ((List UInt8) × (List Int)) :=
  (loopM (qClosed_b1 N p) N (vset, 0)).bind fun ss =>
    match ss with
    | vset165 =>
      some ((bstr vset165), vset165)
def qStart (N : Nat) (t : TTest) : Option (List UInt8) :=
  (if (t.Kind : Int) ≠ 1 then
    (chk ((List.length ([61] : List UInt8) : Int) + List.length (bstr [0]) ≤ 9223372036854775807)).bind fun _ =>
    some (([61] : List UInt8) ++ (bstr [0]))
  else
    (mk1 (α := Int) 1 0 (iw ((List.length t.Text : Int) + 1))).bind fun x20 =>
    (idx x20 0).bind fun x35 =>
    (upd1 x20 0 1).bind fun x41 =>
    (qClosed N t.Text x41).bind fun r57 =>
    some r57.1)
def qStep_b1 (N : Nat) (c : Int) (s : (List UInt8)) (t : TTest) : ((List Int) × Int) → Option (Stp ((List Int) × Int) (List Int))
  | (vset349, i353) =>
    (if (i353 : Int) < (List.length t.Text : Int) then
      (((idx s i353).bind fun x387 =>
      (if ((UInt8.toNat x387 : Int) : Int) = 1 then
        (idx t.Text i353).bind fun x393 =>
        some (decide (((UInt8.toNat x393 : Int) : Int) = 37))
      else
        some false) : Option Bool)).bind fun ss =>
        match ss with
        | x384 =>
          (((if x384 = true then
            (idx vset349 i353).bind fun x433 =>
            (upd1 vset349 i353 1).bind fun x439 =>
            some x439
          else
            some vset349) : Option (List Int))).bind fun ss =>
            match ss with
            | vset426 =>
              (((idx s i353).bind fun x482 =>
              (if ((UInt8.toNat x482 : Int) : Int) = 1 then
                (idx t.Text i353).bind fun x488 =>
                (if ((UInt8.toNat x488 : Int) : Int) = 95 then
                  some true
                else
                  (idx t.Text i353).bind fun x494 =>
                  (if ((UInt8.toNat x494 : Int) : Int) = c then
                    some (decide ((c : Int) ≠ 37))
                  else
                    some false))
              else
                some false) : Option Bool)).bind fun ss =>
                match ss with
                | x479 =>
                  (if x479 = true then
                    (idx vset426 (iw (i353 + 1))).bind fun x504 =>
                    (upd1 vset426 (iw (i353 + 1)) 1).bind fun x510 =>
                    some (Stp.next (x510, (iw (i353 + 1))))
                  else
                    some (Stp.next (vset426, (iw (i353 + 1)))))
    else
      some (Stp.done vset349))
def qStep (N : Nat) (t : TTest) (s : (List UInt8)) (c : Int) : Option (List UInt8) :=
  (if (t.Kind : Int) = 1 then
    (mk1 (α := Int) 1 0 (iw ((List.length t.Text : Int) + 1))).bind fun x8 =>
    (loopM (qStep_b1 N c s t) N (x8, 0)).bind fun ss =>
      match ss with
      | vset356 =>
        (qClosed N t.Text vset356).bind fun r531 =>
        some r531.1
  else
    (idx s 0).bind fun x547 =>
    (if ((UInt8.toNat x547 : Int) : Int) ≠ 61 then
      some s
    else
      (idx s 1).bind fun x553 =>
      (((if ((iw (UInt8.toNat x553 : Int)) : Int) = (List.length t.Text : Int) then
        some true
      else
        (idx t.Text (iw (UInt8.toNat x553 : Int))).bind fun x571 =>
        some (decide ((c : Int) > (UInt8.toNat x571 : Int)))) : Option Bool)).bind fun ss =>
        match ss with
        | x564 =>
          (if x564 = true then
            some ([62] : List UInt8)
          else
            (idx t.Text (iw (UInt8.toNat x553 : Int))).bind fun x583 =>
            (if (c : Int) < (UInt8.toNat x583 : Int) then
              some ([60] : List UInt8)
            else
              (chk ((List.length ([61] : List UInt8) : Int) + List.length (bstr [(uw8 (iw ((iw (UInt8.toNat x553 : Int)) + 1)))]) ≤ 9223372036854775807)).bind fun _ =>
              some (([61] : List UInt8) ++ (bstr [(uw8 (iw ((iw (UInt8.toNat x553 : Int)) + 1)))]))))))
def qFinal (N : Nat) (t : TTest) (s : (List UInt8)) : Option Bool :=
  (((if (t.Kind : Int) = 1 then
    (idx s (List.length t.Text : Int)).bind fun x89 =>
    some (decide (((UInt8.toNat x89 : Int) : Int) = 1))
  else
    (((idx s 0).bind fun x109 =>
    (if ((UInt8.toNat x109 : Int) : Int) = 61 then
      (idx s 1).bind fun x115 =>
      some (decide (((iw (UInt8.toNat x115 : Int)) : Int) = (List.length t.Text : Int)))
    else
      some false) : Option Bool)).bind fun ss =>
      match ss with
      | equal106 =>
        (((idx s 0).bind fun x139 =>
        (if ((UInt8.toNat x139 : Int) : Int) = 60 then
          some true
        else
          (idx s 0).bind fun x145 =>
          (if ((UInt8.toNat x145 : Int) : Int) = 61 then
            some (!equal106)
          else
            some false)) : Option Bool)).bind fun ss =>
          match ss with
          | less136 =>
            (if (t.Kind : Int) = 0 then
              (if equal106 = true then
                some true
              else
                (if (t.Kind : Int) = 2 then
                  (if less136 = true then
                    some true
                  else
                    (if (t.Kind : Int) = 3 then
                      some equal106
                    else
                      some false))
                else
                  (if (t.Kind : Int) = 3 then
                    (if less136 = true then
                      some true
                    else
                      some equal106)
                  else
                    some false)))
            else
              (if (t.Kind : Int) = 2 then
                (if less136 = true then
                  some true
                else
                  (if (t.Kind : Int) = 3 then
                    some equal106
                  else
                    some false))
              else
                (if (t.Kind : Int) = 3 then
                  (if less136 = true then
                    some true
                  else
                    some equal106)
                else
                  some false)))) : Option Bool)).bind fun ss =>
    match ss with
    | ok85 =>
      some (!(ok85 == t.Negated))
def qPasses_b1 (N : Nat) (t : TTest) (text : (List UInt8)) : ((List UInt8) × Int) → Option (Stp ((List UInt8) × Int) (List UInt8))
  | (s50, i51) =>
    (if (i51 : Int) < (List.length text : Int) then
      (idx text i51).bind fun x62 =>
      (qStep N t s50 (UInt8.toNat x62 : Int)).bind fun r67 =>
      some (Stp.next (r67, (iw (i51 + 1))))
    else
      some (Stp.done s50))
def qPasses (N : Nat) (t : TTest) (text : (List UInt8)) : Option Bool :=
  (qStart N t).bind fun r6 =>
  (loopM (qPasses_b1 N t text) N (r6, 0)).bind fun ss =>
    match ss with
    | s53 =>
      (qFinal N t s53).bind fun r77 =>
      some r77
def rSatisfies_b1 (N : Nat) (p : TProb) (texts : (List (List UInt8))) : Int → Option (Stp Int (Sum Unit Bool))
  | i343 =>
    (if (i343 : Int) < (List.length texts : Int) then
      (((idx texts i343).bind fun x434 =>
      (idx p.Min i343).bind fun x447 =>
      (if ((List.length x434 : Int) : Int) < x447 then
        some true
      else
        (idx texts i343).bind fun x462 =>
        (idx p.Max i343).bind fun x475 =>
        (if ((List.length x462 : Int) : Int) > x475 then
          some true
        else
          (idx texts i343).bind fun x490 =>
          (qPrintable N x490).bind fun r503 =>
          some (!r503))) : Option Bool)).bind fun ss =>
        match ss with
        | x431 =>
          (if x431 = true then
            some (Stp.done (Sum.inr false))
          else
            some (Stp.next (iw (i343 + 1))))
    else
      some (Stp.done (Sum.inl ())))
def rSatisfies_b2 (N : Nat) (p : TProb) (texts : (List (List UInt8))) : Int → Option (Stp Int (Sum Unit Bool))
  | i629 =>
    (if (i629 : Int) < (List.length p.Tests : Int) then
      (idx p.Tests i629).bind fun x640 =>
      (idx p.Tests i629).bind fun x653 =>
      (idx texts x653.Var).bind fun x667 =>
      (qPasses N x640 x667).bind fun r681 =>
      (if (!r681) = true then
        some (Stp.done (Sum.inr false))
      else
        some (Stp.next (iw (i629 + 1))))
    else
      some (Stp.done (Sum.inl ())))
def rSatisfies_b3 (N : Nat) (p : TProb) (texts : (List (List UInt8))) : Int → Option (Stp Int (Sum Unit Bool))
  | i818 =>
    (if (i818 : Int) < (List.length p.Same : Int) then
      (idx p.Same i818).bind fun x829 =>
      (idx texts x829.e0).bind fun x843 =>
      (idx p.Same i818).bind fun x857 =>
      (idx texts x857.e1).bind fun x871 =>
      (if ¬ x843 = x871 then
        some (Stp.done (Sum.inr false))
      else
        some (Stp.next (iw (i818 + 1))))
    else
      some (Stp.done (Sum.inl ())))
def rSatisfies_b4 (N : Nat) (p : TProb) (texts : (List (List UInt8))) : Int → Option (Stp Int (Sum Unit Bool))
  | i1014 =>
    (if (i1014 : Int) < (List.length p.Different : Int) then
      (idx p.Different i1014).bind fun x1024 =>
      (idx texts x1024.e0).bind fun x1038 =>
      (idx p.Different i1014).bind fun x1052 =>
      (idx texts x1052.e1).bind fun x1066 =>
      (if x1038 = x1066 then
        some (Stp.done (Sum.inr false))
      else
        some (Stp.next (iw (i1014 + 1))))
    else
      some (Stp.done (Sum.inl ())))
def rSatisfies (N : Nat) (p : TProb) (texts : (List (List UInt8))) : Option Bool :=
  (if ((List.length texts : Int) : Int) ≠ (List.length p.Max : Int) then
    some false
  else
    (loopM (rSatisfies_b1 N p texts) N 0).bind fun ss =>
      match ss with
      | (Sum.inl _) =>
        (loopM (rSatisfies_b2 N p texts) N 0).bind fun ss =>
          match ss with
          | (Sum.inl _) =>
            (loopM (rSatisfies_b3 N p texts) N 0).bind fun ss =>
              match ss with
              | (Sum.inl _) =>
                (loopM (rSatisfies_b4 N p texts) N 0).bind fun ss =>
                  match ss with
                  | (Sum.inl _) =>
                    some true
                  | (Sum.inr z1086) => some z1086
              | (Sum.inr z1087) => some z1087
          | (Sum.inr z1088) => some z1088
      | (Sum.inr z1089) => some z1089)
end Go.D
set_option linter.unusedVariables false
set_option linter.unusedSimpArgs false
namespace Go.D
open Go Go.X
def sAbs (N : Nat) (n : Int) : Option Int :=
  (if (n : Int) < 0 then
    some (iw (0 - n))
  else
    some n)
def sWithin (N : Nat) (n : Int) (low : Int) (high : Int) : Option Bool :=
  (if (n : Int) ≥ low then
    some (decide ((n : Int) ≤ high))
  else
    some false)
def sHas_b1 (N : Nat) (l : (List Int)) (n : Int) : Int → Option (Stp Int (Sum Unit Bool))
  | i40 =>
    (if (i40 : Int) < (List.length l : Int) then
      (idx l i40).bind fun x50 =>
      (if (x50 : Int) = n then
        some (Stp.done (Sum.inr true))
      else
        some (Stp.next (iw (i40 + 1))))
    else
      some (Stp.done (Sum.inl ())))
def sHas (N : Nat) (l : (List Int)) (n : Int) : Option Bool :=
  (loopM (sHas_b1 N l n) N 0).bind fun ss =>
    match ss with
    | (Sum.inl _) =>
      some false
    | (Sum.inr z67) => some z67
def sForm_b1 (N : Nat) (bounds : (List Int)) (c : RClause) (f : Linear) (l : (List RVar)) : (Int × Int) → Option (Stp (Int × Int) (Sum Int Int))
  | (sum644, i645) =>
    (if (i645 : Int) < (List.length f.Coefs : Int) then
      (idx f.Coefs i645).bind fun x659 =>
      (((if (x659.Var : Int) < 0 then
        some true
      else
        (if (x659.Var : Int) ≥ (iw ((List.length l : Int) + (List.length bounds : Int))) then
          some true
        else
          (if (i645 : Int) > 0 then
            (idx f.Coefs (iw (i645 - 1))).bind fun x735 =>
            (if (x735.Var : Int) ≥ x659.Var then
              some true
            else
              (if (x659.N : Int) = 0 then
                some true
              else
                (sWithin N x659.N (-1048576) 1048576).bind fun r758 =>
                some (!r758)))
          else
            (if (x659.N : Int) = 0 then
              some true
            else
              (sWithin N x659.N (-1048576) 1048576).bind fun r772 =>
              some (!r772))))) : Option Bool)).bind fun ss =>
        match ss with
        | x721 =>
          (if x721 = true then
            some (Stp.done (Sum.inr (-1)))
          else
            (((if (x659.Var : Int) ≥ (List.length l : Int) then
              (idx bounds (iw (x659.Var - (List.length l : Int)))).bind fun x865 =>
              some (Sum.inl x865)
            else
              (((idx l x659.Var).bind fun x908 =>
              (if (x908.Ty : Int) ≠ 1 then
                some true
              else
                (sHas N c.NotNull x659.Var).bind fun r923 =>
                some (!r923)) : Option Bool)).bind fun ss =>
                match ss with
                | x905 =>
                  (if x905 = true then
                    some (Sum.inr (-1))
                  else
                    some (Sum.inl 2147483648))) : Option (Sum Int Int))).bind fun ss =>
              match ss with
              | (Sum.inl b861) =>
                (sAbs N x659.N).bind fun r938 =>
                (sdiv .i64 1152921504606846977 r938).bind fun x945 =>
                (if (b861 : Int) > x945 then
                  some (Stp.done (Sum.inr (-1)))
                else
                  (sAbs N x659.N).bind fun r950 =>
                  (if ((iw (sum644 + (iw (r950 * b861)))) : Int) > 1152921504606846977 then
                    some (Stp.done (Sum.inr (-1)))
                  else
                    some (Stp.next ((iw (sum644 + (iw (r950 * b861)))), (iw (i645 + 1))))))
              | (Sum.inr z961) => some (Stp.done (Sum.inr z961)))
    else
      some (Stp.done (Sum.inl sum644)))
def sForm (N : Nat) (f : Linear) (c : RClause) (l : (List RVar)) (bounds : (List Int)) : Option Int :=
  (sWithin N f.Const (-1099511627777) 1099511627777).bind fun r11 =>
  (if (!r11) = true then
    some (-1)
  else
    (sAbs N f.Const).bind fun r19 =>
    (loopM (sForm_b1 N bounds c f l) N (r19, 0)).bind fun ss =>
      match ss with
      | (Sum.inl sum646) =>
        some sum646
      | (Sum.inr z968) => some z968)
def sAscending_b1 (N : Nat) (l : (List Int)) (n : Int) : Int → Option (Stp Int (Sum Unit Bool))
  | i246 =>
    (if (i246 : Int) < (List.length l : Int) then
      (((idx l i246).bind fun x314 =>
      (if (x314 : Int) < 0 then
        some true
      else
        (idx l i246).bind fun x328 =>
        (if (x328 : Int) ≥ n then
          some true
        else
          (if (i246 : Int) > 0 then
            (idx l (iw (i246 - 1))).bind fun x343 =>
            (idx l i246).bind fun x356 =>
            some (decide ((x343 : Int) ≥ x356))
          else
            some false))) : Option Bool)).bind fun ss =>
        match ss with
        | x311 =>
          (if x311 = true then
            some (Stp.done (Sum.inr false))
          else
            some (Stp.next (iw (i246 + 1))))
    else
      some (Stp.done (Sum.inl ())))
def sAscending (N : Nat) (l : (List Int)) (n : Int) : Option Bool :=
  (loopM (sAscending_b1 N l n) N 0).bind fun ss =>
    match ss with
    | (Sum.inl _) =>
      some true
    | (Sum.inr z376) => some z376
def sText (N : Nat) (pa : Int) (c : RClause) (l : (List RVar)) : Option Bool :=
  (if (pa : Int) ≥ 0 then
    (if (pa : Int) < (List.length l : Int) then
      (idx l pa).bind fun x9 =>
      (if (x9.Ty : Int) = 2 then
        (sHas N c.NotNull pa).bind fun r24 =>
        some r24
      else
        some false)
    else
      some false)
  else
    some false)
def sPairs_b1 (N : Nat) (c : RClause) (l : (List RVar)) (p : (List Arr2Int)) : Int → Option (Stp Int (Sum Unit Bool))
  | i396 =>
    (if (i396 : Int) < (List.length p : Int) then
      (((idx p i396).bind fun x500 =>
      (sText N x500.e0 c l).bind fun r514 =>
      (if (!r514) = true then
        some true
      else
        (idx p i396).bind fun x530 =>
        (sText N x530.e1 c l).bind fun r545 =>
        (if (!r545) = true then
          some true
        else
          (idx p i396).bind fun x561 =>
          (idx p i396).bind fun x576 =>
          some (decide ((x561.e0 : Int) ≥ x576.e1)))) : Option Bool)).bind fun ss =>
        match ss with
        | x497 =>
          (if x497 = true then
            some (Stp.done (Sum.inr false))
          else
            some (Stp.next (iw (i396 + 1))))
    else
      some (Stp.done (Sum.inl ())))
def sPairs (N : Nat) (p : (List Arr2Int)) (c : RClause) (l : (List RVar)) : Option Bool :=
  (loopM (sPairs_b1 N c l p) N 0).bind fun ss =>
    match ss with
    | (Sum.inl _) =>
      some true
    | (Sum.inr z600) => some z600
def sTested_b1 (N : Nat) (t : TTest) : Int → Option (Stp Int (Sum Unit Bool))
  | i78 =>
    (if (i78 : Int) < (List.length t.Text : Int) then
      (((idx t.Text i78).bind fun x103 =>
      (if ((UInt8.toNat x103 : Int) : Int) < 32 then
        some true
      else
        (idx t.Text i78).bind fun x109 =>
        some (decide (((UInt8.toNat x109 : Int) : Int) > 126))) : Option Bool)).bind fun ss =>
        match ss with
        | x100 =>
          (if x100 = true then
            some (Stp.done (Sum.inr false))
          else
            some (Stp.next (iw (i78 + 1))))
    else
      some (Stp.done (Sum.inl ())))
def sTested (N : Nat) (t : TTest) : Option Bool :=
  (loopM (sTested_b1 N t) N 0).bind fun ss =>
    match ss with
    | (Sum.inl _) =>
      (if (t.Kind : Int) ≥ 0 then
        (if (t.Kind : Int) ≤ 3 then
          some (decide (((List.length t.Text : Int) : Int) ≤ 16))
        else
          some false)
      else
        some false)
    | (Sum.inr z123) => some z123
def sValid_b1 (N : Nat) (c : RClause) (l : (List RVar)) : ((List Int) × Int) → Option (Stp ((List Int) × Int) (Sum (List Int) Bool))
  | (bounds465, i469) =>
    (if (i469 : Int) < (List.length c.Auxiliary : Int) then
      (idx c.Auxiliary i469).bind fun x497 =>
      (if (x497.By : Int) = 0 then
        (((if ((List.length x497.Of.Coefs : Int) : Int) > 0 then
          some true
        else
          (if (x497.Of.Const : Int) ≠ 0 then
            some true
          else
            (sText N x497.Text c l).bind fun r555 =>
            some (!r555))) : Option Bool)).bind fun ss =>
          match ss with
          | x543 =>
            (if x543 = true then
              some (Stp.done (Sum.inr false))
            else
              (apnd 8 bounds465 [16]).bind fun x585 =>
              some (Stp.next (x585, (iw (i469 + 1)))))
      else
        (sForm N x497.Of c l bounds465).bind fun r607 =>
        (((sWithin N x497.By 1 1000).bind fun r639 =>
        (if (!r639) = true then
          some true
        else
          (if (x497.Text : Int) ≠ 0 then
            some true
          else
            some (decide ((r607 : Int) < 0)))) : Option Bool)).bind fun ss =>
          match ss with
          | x636 =>
            (if x636 = true then
              some (Stp.done (Sum.inr false))
            else
              (sdiv .i64 r607 x497.By).bind fun x661 =>
              (apnd 8 bounds465 [(iw (x661 + 1))]).bind fun x673 =>
              some (Stp.next (x673, (iw (i469 + 1))))))
    else
      some (Stp.done (Sum.inl bounds465)))
def sValid_b2 (N : Nat) (c : RClause) (l : (List RVar)) (bounds476 : (List Int)) : Int → Option (Stp Int (Sum Unit Bool))
  | i779 =>
    (if (i779 : Int) < (List.length c.Ints : Int) then
      (idx c.Ints i779).bind fun x790 =>
      (sForm N x790.Linear c l bounds476).bind fun r806 =>
      (if (r806 : Int) < 0 then
        some (Stp.done (Sum.inr false))
      else
        some (Stp.next (iw (i779 + 1))))
    else
      some (Stp.done (Sum.inl ())))
def sValid_b3 (N : Nat) (c : RClause) (l : (List RVar)) : Int → Option (Stp Int (Sum Unit Bool))
  | i1058 =>
    (if (i1058 : Int) < (List.length c.Tests : Int) then
      (((idx c.Tests i1058).bind fun x1123 =>
      (sTested N x1123).bind fun r1136 =>
      (if (!r1136) = true then
        some true
      else
        (idx c.Tests i1058).bind fun x1144 =>
        (sText N x1144.Var c l).bind fun r1159 =>
        some (!r1159)) : Option Bool)).bind fun ss =>
        match ss with
        | x1120 =>
          (if x1120 = true then
            some (Stp.done (Sum.inr false))
          else
            some (Stp.next (iw (i1058 + 1))))
    else
      some (Stp.done (Sum.inl ())))
def sValid (N : Nat) (c : RClause) (l : (List RVar)) : Option Bool :=
  (((sAscending N c.Null (List.length l : Int)).bind fun r30 =>
  (if (!r30) = true then
    some true
  else
    (sAscending N c.NotNull (List.length l : Int)).bind fun r40 =>
    some (!r40)) : Option Bool)).bind fun ss =>
    match ss with
    | x26 =>
      (if x26 = true then
        some false
      else
        (loopM (sValid_b1 N c l) N (([] : (List Int)), 0)).bind fun ss =>
          match ss with
          | (Sum.inl bounds476) =>
            (loopM (sValid_b2 N c l bounds476) N 0).bind fun ss =>
              match ss with
              | (Sum.inl _) =>
                (loopM (sValid_b3 N c l) N 0).bind fun ss =>
                  match ss with
                  | (Sum.inl _) =>
                    (sPairs N c.Same c l).bind fun r1180 =>
                    (if r1180 = true then
                      (sPairs N c.Different c l).bind fun r1196 =>
                      some r1196
                    else
                      some false)
                  | (Sum.inr z1211) => some z1211
              | (Sum.inr z1212) => some z1212
          | (Sum.inr z1213) => some z1213)
def sFew_b1 (N : Nat) (c : RClause) : (Int × Int) → Option (Stp (Int × Int) Int)
  | (n63, i64) =>
    (if (i64 : Int) < (List.length c.Auxiliary : Int) then
      (idx c.Auxiliary i64).bind fun x76 =>
      some (Stp.next ((iw (n63 + (List.length x76.Of.Coefs : Int))), (iw (i64 + 1))))
    else
      some (Stp.done n63))
def sFew_b2 (N : Nat) (c : RClause) : (Int × Int) → Option (Stp (Int × Int) Int)
  | (n145, i146) =>
    (if (i146 : Int) < (List.length c.Ints : Int) then
      (idx c.Ints i146).bind fun x158 =>
      some (Stp.next ((iw (n145 + (List.length x158.Linear.Coefs : Int))), (iw (i146 + 1))))
    else
      some (Stp.done n145))
def sFew_b3 (N : Nat) (c : RClause) : Int → Option (Stp Int (Sum Unit Bool))
  | i222 =>
    (if (i222 : Int) < (List.length c.Tests : Int) then
      (idx c.Tests i222).bind fun x232 =>
      (if ((List.length x232.Text : Int) : Int) > 40 then
        some (Stp.done (Sum.inr false))
      else
        some (Stp.next (iw (i222 + 1))))
    else
      some (Stp.done (Sum.inl ())))
def sFew (N : Nat) (c : RClause) : Option Bool :=
  (if ((iw ((iw ((iw ((iw ((iw ((iw ((List.length c.Null : Int) + (List.length c.NotNull : Int))) + (List.length c.Auxiliary : Int))) + (List.length c.Ints : Int))) + (List.length c.Tests : Int))) + (List.length c.Same : Int))) + (List.length c.Different : Int))) : Int) > 80 then
    some false
  else
    (loopM (sFew_b1 N c) N ((iw ((iw ((iw ((iw ((iw ((iw ((List.length c.Null : Int) + (List.length c.NotNull : Int))) + (List.length c.Auxiliary : Int))) + (List.length c.Ints : Int))) + (List.length c.Tests : Int))) + (List.length c.Same : Int))) + (List.length c.Different : Int))), 0)).bind fun ss =>
      match ss with
      | n66 =>
        (loopM (sFew_b2 N c) N (n66, 0)).bind fun ss =>
          match ss with
          | n148 =>
            (loopM (sFew_b3 N c) N 0).bind fun ss =>
              match ss with
              | (Sum.inl _) =>
                some (decide ((n148 : Int) ≤ 400))
              | (Sum.inr z253) => some z253)
def sValue_b1 (N : Nat) (aux : (List Int)) (f : Linear) (pb : (List RVal)) : (Int × Int) → Option (Stp (Int × Int) (Sum Int (Int × Bool)))
  | (sum273, i274) =>
    (if (i274 : Int) < (List.length f.Coefs : Int) then
      (idx f.Coefs i274).bind fun x285 =>
      (((if (x285.Var : Int) ≥ (List.length pb : Int) then
        (idx aux (iw (x285.Var - (List.length pb : Int)))).bind fun x349 =>
        some (Sum.inl x349)
      else
        (idx pb x285.Var).bind fun x363 =>
        (if (x363.Kind : Int) ≠ 1 then
          some (Sum.inr (0, false))
        else
          (idx pb x285.Var).bind fun x378 =>
          some (Sum.inl x378.Int))) : Option (Sum Int (Int × Bool)))).bind fun ss =>
        match ss with
        | (Sum.inl n345) =>
          (idx f.Coefs i274).bind fun x395 =>
          some (Stp.next ((iw (sum273 + (iw (x395.N * n345)))), (iw (i274 + 1))))
        | (Sum.inr z410) => some (Stp.done (Sum.inr z410))
    else
      some (Stp.done (Sum.inl sum273)))
def sValue (N : Nat) (f : Linear) (pb : (List RVal)) (aux : (List Int)) : Option (Int × Bool) :=
  (loopM (sValue_b1 N aux f pb) N (f.Const, 0)).bind fun ss =>
    match ss with
    | (Sum.inl sum275) =>
      some (sum275, true)
    | (Sum.inr z417) => some z417
def floor13 (N : Nat) (a : Int) (b : Int) : Option Int :=
  (sdiv .i64 a b).bind fun x1 =>
  (if ((iw (x1 * b)) : Int) > a then
    some (iw (x1 - 1))
  else
    some x1)
def sAuxiliary_b1 (N : Nat) (c : RClause) (pb : (List RVal)) : ((List Int) × Int) → Option (Stp ((List Int) × Int) (Sum (List Int) ((List Int) × Bool)))
  | (out313, i317) =>
    (if (i317 : Int) < (List.length c.Auxiliary : Int) then
      (idx c.Auxiliary i317).bind fun x344 =>
      (if (x344.By : Int) = 0 then
        (idx pb x344.Text).bind fun x370 =>
        (if (x370.Kind : Int) ≠ 2 then
          some (Stp.done (Sum.inr (([] : (List Int)), false)))
        else
          (idx pb x344.Text).bind fun x391 =>
          (apnd 8 out313 [(List.length x391.Text : Int)]).bind fun x413 =>
          some (Stp.next (x413, (iw (i317 + 1)))))
      else
        (sValue N x344.Of pb out313).bind fun r435 =>
        (if (!r435.2) = true then
          some (Stp.done (Sum.inr (([] : (List Int)), false)))
        else
          (floor13 N r435.1 x344.By).bind fun r451 =>
          (apnd 8 out313 [r451]).bind fun x466 =>
          some (Stp.next (x466, (iw (i317 + 1))))))
    else
      some (Stp.done (Sum.inl out313)))
def sAuxiliary (N : Nat) (c : RClause) (pb : (List RVal)) : Option ((List Int) × Bool) :=
  (loopM (sAuxiliary_b1 N c pb) N (([] : (List Int)), 0)).bind fun ss =>
    match ss with
    | (Sum.inl out323) =>
      some (out323, true)
    | (Sum.inr z495) => some z495
def u4Printable_b1 (N : Nat) (s : (List UInt8)) : Int → Option (Stp Int (Sum Unit Bool))
  | i68 =>
    (if (i68 : Int) < (List.length s : Int) then
      (((idx s i68).bind fun x91 =>
      (if ((UInt8.toNat x91 : Int) : Int) < 32 then
        some true
      else
        (idx s i68).bind fun x97 =>
        some (decide (((UInt8.toNat x97 : Int) : Int) > 126))) : Option Bool)).bind fun ss =>
        match ss with
        | x88 =>
          (if x88 = true then
            some (Stp.done (Sum.inr false))
          else
            some (Stp.next (iw (i68 + 1))))
    else
      some (Stp.done (Sum.inl ())))
def u4Printable (N : Nat) (s : (List UInt8)) : Option Bool :=
  (loopM (u4Printable_b1 N s) N 0).bind fun ss =>
    match ss with
    | (Sum.inl _) =>
      some true
    | (Sum.inr z109) => some z109
def u4ints (N : Nat) (a : Int) (b : Int) : Option Int :=
  (if (a : Int) < b then
    some (-1)
  else
    (if (a : Int) > b then
      some 1
    else
      some 0))
def u4Texts_b1 (N : Nat) (a : (List UInt8)) (b : (List UInt8)) : Int → Option (Stp Int (Sum Unit Int))
  | i82 =>
    (((if (i82 : Int) < (List.length a : Int) then
      some (decide ((i82 : Int) < (List.length b : Int)))
    else
      some false) : Option Bool)).bind fun ss =>
      match ss with
      | x91 =>
        (if x91 = true then
          (idx a i82).bind fun x99 =>
          (idx b i82).bind fun x104 =>
          (if ((UInt8.toNat x99 : Int) : Int) ≠ (UInt8.toNat x104 : Int) then
            (idx a i82).bind fun x110 =>
            (idx b i82).bind fun x115 =>
            (u4ints N (iw (UInt8.toNat x110 : Int)) (iw (UInt8.toNat x115 : Int))).bind fun r120 =>
            some (Stp.done (Sum.inr r120))
          else
            some (Stp.next (iw (i82 + 1))))
        else
          some (Stp.done (Sum.inl ())))
def u4Texts (N : Nat) (a : (List UInt8)) (b : (List UInt8)) : Option Int :=
  (loopM (u4Texts_b1 N a b) N 0).bind fun ss =>
    match ss with
    | (Sum.inl _) =>
      (u4ints N (List.length a : Int) (List.length b : Int)).bind fun r130 =>
      some r130
    | (Sum.inr z137) => some z137
def u4Valid (N : Nat) (pa : RVal) : Option Bool :=
  (if (pa.Kind : Int) = 0 then
    (if (pa.Int : Int) = 0 then
      some (decide (pa.Text = ([] : List UInt8)))
    else
      some false)
  else
    (if (pa.Kind : Int) = 1 then
      some (decide (pa.Text = ([] : List UInt8)))
    else
      (if (pa.Kind : Int) = 2 then
        (if (pa.Int : Int) = 0 then
          (u4Printable N pa.Text).bind fun r11 =>
          (if r11 = true then
            some (decide (((List.length pa.Text : Int) : Int) ≤ 16))
          else
            some false)
        else
          some false)
      else
        some false)))
def u4Fits (N : Nat) (pa : RVal) (x : RVar) : Option Bool :=
  (u4Valid N pa).bind fun r11 =>
  (if (!r11) = true then
    some false
  else
    (if (pa.Kind : Int) = 0 then
      some x.Nullable
    else
      (if (pa.Kind : Int) = 1 then
        (if (x.Ty : Int) = 1 then
          (if (pa.Int : Int) ≥ x.Low then
            some (decide ((pa.Int : Int) ≤ x.High))
          else
            some false)
        else
          some false)
      else
        (if (x.Ty : Int) = 2 then
          some (decide (((List.length pa.Text : Int) : Int) ≤ x.Max))
        else
          some false))))
def u16Like_b1 (N : Nat) (self : (List UInt8) → (List UInt8) → Option Bool) (p : (List UInt8)) (s : (List UInt8)) : Int → Option (Stp Int (Sum Unit Bool))
  | i41 =>
    (if (i41 : Int) ≤ (List.length s : Int) then
      (cut s i41 (List.length s : Int)).bind fun x50 =>
      (cut p 1 (List.length p : Int)).bind fun x52 =>
      (self x50 x52).bind fun r54 =>
      (if r54 = true then
        some (Stp.done (Sum.inr true))
      else
        some (Stp.next (iw (i41 + 1))))
    else
      some (Stp.done (Sum.inl ())))
def u16Like_step (N : Nat) (self : (List UInt8) → (List UInt8) → Option Bool) (s : (List UInt8)) (p : (List UInt8)) : Option Bool :=
  (if p = ([] : List UInt8) then
    some (decide (s = ([] : List UInt8)))
  else
    (idx p 0).bind fun x2 =>
    (if ((UInt8.toNat x2 : Int) : Int) = 37 then
      (loopM (u16Like_b1 N self p s) N 0).bind fun ss =>
        match ss with
        | (Sum.inl _) =>
          some false
        | (Sum.inr z65) => some z65
    else
      (if ¬ s = ([] : List UInt8) then
        (idx p 0).bind fun x67 =>
        (if ((UInt8.toNat x67 : Int) : Int) = 95 then
          (cut s 1 (List.length s : Int)).bind fun x73 =>
          (cut p 1 (List.length p : Int)).bind fun x75 =>
          (self x73 x75).bind fun r77 =>
          some r77
        else
          (idx p 0).bind fun x84 =>
          (idx s 0).bind fun x89 =>
          (if ((UInt8.toNat x84 : Int) : Int) = (UInt8.toNat x89 : Int) then
            (cut s 1 (List.length s : Int)).bind fun x95 =>
            (cut p 1 (List.length p : Int)).bind fun x97 =>
            (self x95 x97).bind fun r99 =>
            some r99
          else
            some false))
      else
        some false)))
def u16Like : Nat → (List UInt8) → (List UInt8) → Option Bool
  | 0 => fun _ _ => none
  | N + 1 => u16Like_step N (u16Like N)
def u16Passes (N : Nat) (t : TTest) (s : (List UInt8)) : Option Bool :=
  (((if (t.Kind : Int) = 0 then
    some (decide (s = t.Text))
  else
    (if (t.Kind : Int) = 1 then
      (u16Like N s t.Text).bind fun r37 =>
      some r37
    else
      (if (t.Kind : Int) = 2 then
        (u4Texts N s t.Text).bind fun r45 =>
        some (decide ((r45 : Int) < 0))
      else
        (if (t.Kind : Int) = 3 then
          (u4Texts N s t.Text).bind fun r53 =>
          some (decide ((r53 : Int) ≤ 0))
        else
          some false)))) : Option Bool)).bind fun ss =>
    match ss with
    | ok32 =>
      some (!(ok32 == t.Negated))
def u16Inside_b1 (N : Nat) (l : (List RVar)) (pa : (List RVal)) : Int → Option (Stp Int (Sum Unit Bool))
  | i83 =>
    (if (i83 : Int) < (List.length pa : Int) then
      (idx pa i83).bind fun x93 =>
      (idx l i83).bind fun x106 =>
      (u4Fits N x93 x106).bind fun r120 =>
      (if (!r120) = true then
        some (Stp.done (Sum.inr false))
      else
        some (Stp.next (iw (i83 + 1))))
    else
      some (Stp.done (Sum.inl ())))
def u16Inside (N : Nat) (pa : (List RVal)) (l : (List RVar)) : Option Bool :=
  (if ((List.length pa : Int) : Int) ≠ (List.length l : Int) then
    some false
  else
    (loopM (u16Inside_b1 N l pa) N 0).bind fun ss =>
      match ss with
      | (Sum.inl _) =>
        some true
      | (Sum.inr z131) => some z131)
def sHolds_b1 (N : Nat) (c : RClause) (pb : (List RVal)) : Int → Option (Stp Int (Sum Unit Bool))
  | i78 =>
    (if (i78 : Int) < (List.length c.Null : Int) then
      (idx c.Null i78).bind fun x89 =>
      (idx pb x89).bind fun x102 =>
      (if (x102.Kind : Int) ≠ 0 then
        some (Stp.done (Sum.inr false))
      else
        some (Stp.next (iw (i78 + 1))))
    else
      some (Stp.done (Sum.inl ())))
def sHolds_b2 (N : Nat) (c : RClause) (pb : (List RVal)) : Int → Option (Stp Int (Sum Unit Bool))
  | i193 =>
    (if (i193 : Int) < (List.length c.NotNull : Int) then
      (idx c.NotNull i193).bind fun x204 =>
      (idx pb x204).bind fun x217 =>
      (if (x217.Kind : Int) = 0 then
        some (Stp.done (Sum.inr false))
      else
        some (Stp.next (iw (i193 + 1))))
    else
      some (Stp.done (Sum.inl ())))
def sHolds_b3 (N : Nat) (c : RClause) (pb : (List RVal)) (r236 : ((List Int) × Bool)) : (Bool × Int) → Option (Stp (Bool × Int) Bool)
  | (ok391, i392) =>
    (((if (i392 : Int) < (List.length c.Ints : Int) then
      some ok391
    else
      some false) : Option Bool)).bind fun ss =>
      match ss with
      | x409 =>
        (if x409 = true then
          (idx c.Ints i392).bind fun x418 =>
          (sValue N x418.Linear pb r236.1).bind fun r435 =>
          (if r435.2 = true then
            (if (r435.1 : Int) ≤ 0 then
              (if (r435.1 : Int) = 0 then
                some (Stp.next (true, (iw (i392 + 1))))
              else
                (idx c.Ints i392).bind fun x447 =>
                some (Stp.next ((!x447.Equal), (iw (i392 + 1)))))
            else
              some (Stp.next (false, (iw (i392 + 1)))))
          else
            some (Stp.next (false, (iw (i392 + 1)))))
        else
          some (Stp.done ok391))
def sHolds_b4 (N : Nat) (c : RClause) (pb : (List RVal)) : (Bool × Int) → Option (Stp (Bool × Int) Bool)
  | (ok625, i626) =>
    (((if (i626 : Int) < (List.length c.Tests : Int) then
      some ok625
    else
      some false) : Option Bool)).bind fun ss =>
      match ss with
      | x639 =>
        (if x639 = true then
          (idx c.Tests i626).bind fun x648 =>
          (idx pb x648.Var).bind fun x663 =>
          (if (x663.Kind : Int) = 2 then
            (idx c.Tests i626).bind fun x687 =>
            (u16Passes N x687 x663.Text).bind fun r701 =>
            some (Stp.next (r701, (iw (i626 + 1))))
          else
            some (Stp.next (false, (iw (i626 + 1)))))
        else
          some (Stp.done ok625))
def sHolds_b5 (N : Nat) (c : RClause) (pb : (List RVal)) : (Bool × Int) → Option (Stp (Bool × Int) Bool)
  | (ok922, i923) =>
    (((if (i923 : Int) < (List.length c.Same : Int) then
      some ok922
    else
      some false) : Option Bool)).bind fun ss =>
      match ss with
      | x936 =>
        (if x936 = true then
          (idx c.Same i923).bind fun x945 =>
          (idx pb x945.e0).bind fun x960 =>
          (if (x960.Kind : Int) = 2 then
            (idx c.Same i923).bind fun x976 =>
            (idx pb x976.e0).bind fun x990 =>
            (idx c.Same i923).bind fun x1003 =>
            (idx pb x1003.e1).bind fun x1017 =>
            some (Stp.next ((decide ((x990.Kind : Int) = x1017.Kind) && (decide ((x990.Int : Int) = x1017.Int) && (decide (x990.Text = x1017.Text) && true))), (iw (i923 + 1))))
          else
            some (Stp.next (false, (iw (i923 + 1)))))
        else
          some (Stp.done ok922))
def sHolds_b6 (N : Nat) (c : RClause) (pb : (List RVal)) : (Bool × Int) → Option (Stp (Bool × Int) Bool)
  | (ok1220, i1221) =>
    (((if (i1221 : Int) < (List.length c.Different : Int) then
      some ok1220
    else
      some false) : Option Bool)).bind fun ss =>
      match ss with
      | x1233 =>
        (if x1233 = true then
          (idx c.Different i1221).bind fun x1242 =>
          (idx pb x1242.e0).bind fun x1257 =>
          (idx c.Different i1221).bind fun x1271 =>
          (idx pb x1271.e1).bind fun x1285 =>
          (if (x1257.Kind : Int) = 2 then
            (if (x1285.Kind : Int) = 2 then
              some (Stp.next ((decide (¬ x1257.Text = x1285.Text)), (iw (i1221 + 1))))
            else
              some (Stp.next (false, (iw (i1221 + 1)))))
          else
            some (Stp.next (false, (iw (i1221 + 1)))))
        else
          some (Stp.done ok1220))
def sHolds (N : Nat) (c : RClause) (pb : (List RVal)) : Option Bool :=
  (loopM (sHolds_b1 N c pb) N 0).bind fun ss =>
    match ss with
    | (Sum.inl _) =>
      (loopM (sHolds_b2 N c pb) N 0).bind fun ss =>
        match ss with
        | (Sum.inl _) =>
          (sAuxiliary N c pb).bind fun r236 =>
          (loopM (sHolds_b3 N c pb r236) N (r236.2, 0)).bind fun ss =>
            match ss with
            | ok394 =>
              (loopM (sHolds_b4 N c pb) N (ok394, 0)).bind fun ss =>
                match ss with
                | ok628 =>
                  (loopM (sHolds_b5 N c pb) N (ok628, 0)).bind fun ss =>
                    match ss with
                    | ok925 =>
                      (loopM (sHolds_b6 N c pb) N (ok925, 0)).bind fun ss =>
                        match ss with
                        | ok1222 =>
                          some ok1222
        | (Sum.inr z1333) => some z1333
    | (Sum.inr z1334) => some z1334
end Go.D
set_option linter.unusedVariables false
set_option linter.unusedSimpArgs false
namespace Go.D
open Go Go.X
def cloneCoef (N : Nat) (s : (List Coef)) : Option (List Coef) :=
  (apnd 16 ([] : (List Coef)) s).bind fun x16 =>
  some x16
def vfirst_b1 (N : Nat) (l : (List RVar)) : ((List Arr2Int) × Int) → Option (Stp ((List Arr2Int) × Int) (List Arr2Int))
  | (out136, x140) =>
    (if (x140 : Int) < (List.length l : Int) then
      (idx l x140).bind fun x156 =>
      (if (x156.Ty : Int) = 2 then
        (idx out136 x140).bind fun x180 =>
        (upd1 out136 x140 (Arr2Int.mk x180.e0 x156.Max)).bind fun x191 =>
        some (Stp.next (x191, (iw (x140 + 1))))
      else
        some (Stp.next (out136, (iw (x140 + 1)))))
    else
      some (Stp.done out136))
def vfirst (N : Nat) (l : (List RVar)) : Option (List Arr2Int) :=
  (mk1 (α := Arr2Int) 16 (Arr2Int.mk 0 0) (List.length l : Int)).bind fun x2 =>
  (loopM (vfirst_b1 N l) N (x2, 0)).bind fun ss =>
    match ss with
    | out143 =>
      some out143
def vhigh (N : Nat) (l : (List RVar)) (ranges : (List Arr2Int)) (pc : Int) : Option Int :=
  (idx ranges pc).bind fun x1 =>
  (idx l pc).bind fun x15 =>
  some (imin x1.e1 x15.Max)
def vbounds (N : Nat) (pa : Int) (low : Int) (high : Int) : Option (List Constraint) :=
  some [(Constraint.mk (Linear.mk low [(Coef.mk pa (-1))]) false), (Constraint.mk (Linear.mk (iw (0 - high)) [(Coef.mk pa 1)]) false)]
def vquotient_b1 (N : Nat) (pb : Linear) : ((List Coef) × (List Coef) × Int) → Option (Stp ((List Coef) × (List Coef) × Int) ((List Coef) × (List Coef)))
  | (coefs236, coefs246, x250) =>
    (if (x250 : Int) < (List.length pb.Coefs : Int) then
      (idx pb.Coefs x250).bind fun x292 =>
      (apnd 16 coefs236 [(Coef.mk x292.Var (iw (0 - x292.N)))]).bind fun x323 =>
      (apnd 16 coefs246 [x292]).bind fun x353 =>
      some (Stp.next (x323, x353, (iw (x250 + 1))))
    else
      some (Stp.done (coefs236, coefs246)))
def vquotient (N : Nat) (q : Int) (pb : Linear) (pc : Int) : Option (List Constraint) :=
  (loopM (vquotient_b1 N pb) N (([] : (List Coef)), ([] : (List Coef)), 0)).bind fun ss =>
    match ss with
    | (coefs257, coefs267) =>
      (apnd 16 coefs257 [(Coef.mk q pc)]).bind fun x391 =>
      (apnd 16 coefs267 [(Coef.mk q (iw (0 - pc)))]).bind fun x421 =>
      some [(Constraint.mk (Linear.mk (iw (0 - pb.Const)) x391) false), (Constraint.mk (Linear.mk (iw (pb.Const - (iw (pc - 1)))) x421) false)]
def vInts_b1 (N : Nat) (c : RClause) (l : (List RVar)) : ((List Constraint) × Int) → Option (Stp ((List Constraint) × Int) (List Constraint))
  | (out218, x222) =>
    (if (x222 : Int) < (List.length c.NotNull : Int) then
      (idx c.NotNull x222).bind fun x249 =>
      (idx l x249).bind fun x263 =>
      (if (x263.Ty : Int) = 1 then
        (idx l x249).bind fun x279 =>
        (idx l x249).bind fun x293 =>
        (vbounds N x249 x279.Low x293.High).bind fun r307 =>
        (apnd 40 out218 r307).bind fun x322 =>
        some (Stp.next (x322, (iw (x222 + 1))))
      else
        some (Stp.next (out218, (iw (x222 + 1)))))
    else
      some (Stp.done out218))
def vInts_b2 (N : Nat) (c : RClause) (l : (List RVar)) (ranges : (List Arr2Int)) : ((List Constraint) × Int) → Option (Stp ((List Constraint) × Int) (List Constraint))
  | (out604, x608) =>
    (if (x608 : Int) < (List.length c.Auxiliary : Int) then
      (idx c.Auxiliary x608).bind fun x627 =>
      (if (x627.By : Int) = 0 then
        (idx ranges x627.Text).bind fun x655 =>
        (vhigh N l ranges x627.Text).bind fun r670 =>
        (vbounds N (iw ((List.length l : Int) + x608)) x655.e0 r670).bind fun r677 =>
        (apnd 40 out604 r677).bind fun x692 =>
        some (Stp.next (x692, (iw (x608 + 1))))
      else
        (vquotient N (iw ((List.length l : Int) + x608)) x627.Of x627.By).bind fun r713 =>
        (apnd 40 out604 r713).bind fun x729 =>
        some (Stp.next (x729, (iw (x608 + 1)))))
    else
      some (Stp.done out604))
def vInts_b3 (N : Nat) (c : RClause) : ((List Constraint) × Int) → Option (Stp ((List Constraint) × Int) (List Constraint))
  | (out935, x939) =>
    (if (x939 : Int) < (List.length c.Ints : Int) then
      (idx c.Ints x939).bind fun x958 =>
      (cloneCoef N x958.Linear.Coefs).bind fun r984 =>
      (apnd 40 out935 [(Constraint.mk (Linear.mk x958.Linear.Const r984) x958.Equal)]).bind fun x1017 =>
      some (Stp.next (x1017, (iw (x939 + 1))))
    else
      some (Stp.done out935))
def vInts (N : Nat) (l : (List RVar)) (c : RClause) (ranges : (List Arr2Int)) : Option (Int × (List Constraint)) :=
  (loopM (vInts_b1 N c l) N (([] : (List Constraint)), 0)).bind fun ss =>
    match ss with
    | out229 =>
      (loopM (vInts_b2 N c l ranges) N (out229, 0)).bind fun ss =>
        match ss with
        | out615 =>
          (loopM (vInts_b3 N c) N (out615, 0)).bind fun ss =>
            match ss with
            | out946 =>
              some ((iw ((List.length l : Int) + (List.length c.Auxiliary : Int))), out946)
def vTexts_b1 (N : Nat) (c : RClause) (l : (List RVar)) (ranges : (List Arr2Int)) : ((List Int) × (List Int) × (List Int) × (List (Int × Int)) × Int) → Option (Stp ((List Int) × (List Int) × (List Int) × (List (Int × Int)) × Int) ((List Int) × (List Int) × (List Int) × (List (Int × Int))))
  | (min376, max385, numbers394, place399, x400) =>
    (if (x400 : Int) < (List.length c.NotNull : Int) then
      (idx c.NotNull x400).bind fun x459 =>
      (idx l x459).bind fun x473 =>
      (if (x473.Ty : Int) = 2 then
        (apnd 8 numbers394 [x459]).bind fun x501 =>
        (idx ranges x459).bind fun x519 =>
        (apnd 8 min376 [x519.e0]).bind fun x542 =>
        (vhigh N l ranges x459).bind fun r564 =>
        (apnd 8 max385 [r564]).bind fun x581 =>
        some (Stp.next (x542, x581, x501, (mput place399 x459 (List.length numbers394 : Int)), (iw (x400 + 1))))
      else
        some (Stp.next (min376, max385, numbers394, place399, (iw (x400 + 1)))))
    else
      some (Stp.done (min376, max385, numbers394, place399)))
def vTexts_b2 (N : Nat) (c : RClause) (place432 : (List (Int × Int))) : ((List TTest) × Int) → Option (Stp ((List TTest) × Int) (List TTest))
  | (tests773, x779) =>
    (if (x779 : Int) < (List.length c.Tests : Int) then
      (idx c.Tests x779).bind fun x812 =>
      (apnd 40 tests773 [(TTest.mk ((mget place432 x812.Var 0).1) x812.Kind x812.Negated x812.Text)]).bind fun x847 =>
      some (Stp.next (x847, (iw (x779 + 1))))
    else
      some (Stp.done tests773))
def vTexts_b3 (N : Nat) (c : RClause) (place432 : (List (Int × Int))) : ((List Arr2Int) × Int) → Option (Stp ((List Arr2Int) × Int) (List Arr2Int))
  | (same1032, x1038) =>
    (if (x1038 : Int) < (List.length c.Same : Int) then
      (idx c.Same x1038).bind fun x1072 =>
      (apnd 16 same1032 [(Arr2Int.mk ((mget place432 x1072.e0 0).1) ((mget place432 x1072.e1 0).1))]).bind fun x1103 =>
      some (Stp.next (x1103, (iw (x1038 + 1))))
    else
      some (Stp.done same1032))
def vTexts_b4 (N : Nat) (c : RClause) (place432 : (List (Int × Int))) : ((List Arr2Int) × Int) → Option (Stp ((List Arr2Int) × Int) (List Arr2Int))
  | (different1288, x1294) =>
    (if (x1294 : Int) < (List.length c.Different : Int) then
      (idx c.Different x1294).bind fun x1327 =>
      (apnd 16 different1288 [(Arr2Int.mk ((mget place432 x1327.e0 0).1) ((mget place432 x1327.e1 0).1))]).bind fun x1358 =>
      some (Stp.next (x1358, (iw (x1294 + 1))))
    else
      some (Stp.done different1288))
def vTexts (N : Nat) (l : (List RVar)) (c : RClause) (ranges : (List Arr2Int)) : Option (TProb × (List Int)) :=
  (loopM (vTexts_b1 N c l ranges) N (([] : (List Int)), ([] : (List Int)), ([] : (List Int)), ([] : (List (Int × Int))), 0)).bind fun ss =>
    match ss with
    | (min409, max418, numbers427, place432) =>
      (loopM (vTexts_b2 N c place432) N (([] : (List TTest)), 0)).bind fun ss =>
        match ss with
        | tests790 =>
          (loopM (vTexts_b3 N c place432) N (([] : (List Arr2Int)), 0)).bind fun ss =>
            match ss with
            | same1050 =>
              (loopM (vTexts_b4 N c place432) N (([] : (List Arr2Int)), 0)).bind fun ss =>
                match ss with
                | different1306 =>
                  some ((TProb.mk min409 max418 tests790 same1050 different1306), numbers427)
def vcheck_step (N : Nat) (self : (List RVar) → RClause → Refut → (List Arr2Int) → Option Bool) (l : (List RVar)) (c : RClause) (pc : Refut) (ranges : (List Arr2Int)) : Option Bool :=
  (if (pc.Kind : Int) = 0 then
    (containsOf N c.Null pc.Var).bind fun r12 =>
    (if r12 = true then
      (containsOf N c.NotNull pc.Var).bind fun r21 =>
      (if r21 = true then
        some true
      else
        (idx l pc.Var).bind fun x30 =>
        some (!x30.Nullable))
    else
      some false)
  else
    (if (pc.Kind : Int) = 1 then
      (vTexts N l c ranges).bind fun r46 =>
      none
    else
      (if (pc.Kind : Int) = 2 then
        (vInts N l c ranges).bind fun r95 =>
        (cSystem N r95.2 r95.1).bind fun r119 =>
        (cCheck N r119 pc.Proof).bind fun r134 =>
        some r134
      else
        (if (pc.Kind : Int) = 3 then
          (((containsOf N c.NotNull pc.Var).bind fun r208 =>
          (if (!r208) = true then
            some true
          else
            (idx l pc.Var).bind fun x220 =>
            (if (x220.Ty : Int) ≠ 2 then
              some true
            else
              (idx ranges pc.Var).bind fun x239 =>
              (if (pc.At : Int) < x239.e0 then
                some true
              else
                (idx ranges pc.Var).bind fun x258 =>
                (if (pc.At : Int) ≥ x258.e1 then
                  some true
                else
                  some (decide (((List.length pc.Children : Int) : Int) ≠ 2)))))) : Option Bool)).bind fun ss =>
            match ss with
            | x205 =>
              (if x205 = true then
                some false
              else
                none)
        else
          some false))))
def vcheck : Nat → (List RVar) → RClause → Refut → (List Arr2Int) → Option Bool
  | 0 => fun _ _ _ _ => none
  | N + 1 => vcheck_step N (vcheck N)
def vCheck (N : Nat) (l : (List RVar)) (c : RClause) (pc : Refut) : Option Bool :=
  (vfirst N l).bind fun r11 =>
  (vcheck N l c pc r11).bind fun r27 =>
  some r27
def vFormat_step (N : Nat) (self : Refut → Option (List UInt8)) (pa : Refut) : Option (List UInt8) :=
  (if (pa.Kind : Int) = 0 then
    (fmtI N pa.Var).bind fun r7 =>
    (chk ((List.length ([110, 117, 108, 108, 32, 120] : List UInt8) : Int) + List.length r7 ≤ 9223372036854775807)).bind fun _ =>
    some (([110, 117, 108, 108, 32, 120] : List UInt8) ++ r7)
  else
    (if (pa.Kind : Int) = 1 then
      some ([116, 101, 120, 116] : List UInt8)
    else
      (if (pa.Kind : Int) = 2 then
        (cSize N pa.Proof).bind fun r19 =>
        (fmtI N r19).bind fun r30 =>
        (chk ((List.length ([105, 110, 116, 101, 103, 101, 114, 115, 32] : List UInt8) : Int) + List.length r30 ≤ 9223372036854775807)).bind fun _ =>
        some (([105, 110, 116, 101, 103, 101, 114, 115, 32] : List UInt8) ++ r30)
      else
        (if (pa.Kind : Int) = 3 then
          (fmtI N pa.Var).bind fun r46 =>
          (chk ((List.length ([108, 101, 110, 103, 116, 104, 32, 120] : List UInt8) : Int) + List.length r46 ≤ 9223372036854775807)).bind fun _ =>
          (chk ((List.length (([108, 101, 110, 103, 116, 104, 32, 120] : List UInt8) ++ r46) : Int) + List.length ([32, 60, 61, 32] : List UInt8) ≤ 9223372036854775807)).bind fun _ =>
          (fmtI N pa.At).bind fun r59 =>
          (chk ((List.length ((([108, 101, 110, 103, 116, 104, 32, 120] : List UInt8) ++ r46) ++ ([32, 60, 61, 32] : List UInt8)) : Int) + List.length r59 ≤ 9223372036854775807)).bind fun _ =>
          none
        else
          some ([105, 110, 118, 97, 108, 105, 100] : List UInt8)))))
def vFormat : Nat → Refut → Option (List UInt8)
  | 0 => fun _ => none
  | N + 1 => vFormat_step N (vFormat N)
end Go.D
set_option linter.unusedVariables false
set_option linter.unusedSimpArgs false
namespace Go.D
open Go Go.X
def whigh (N : Nat) (l : (List RVar)) (ranges : (List Arr2Int)) (pc : Int) : Option Int :=
  (idx ranges pc).bind fun x1 =>
  (idx l pc).bind fun x15 =>
  (if (x1.e1 : Int) < x15.Max then
    (idx ranges pc).bind fun x30 =>
    some x30.e1
  else
    (idx l pc).bind fun x44 =>
    some x44.Max)
def wplace_b1 (N : Nat) (l : (List Int)) (n : Int) : Int → Option (Stp Int (Sum Unit Int))
  | i40 =>
    (if (i40 : Int) < (List.length l : Int) then
      (idx l i40).bind fun x50 =>
      (if (x50 : Int) = n then
        some (Stp.done (Sum.inr i40))
      else
        some (Stp.next (iw (i40 + 1))))
    else
      some (Stp.done (Sum.inl ())))
def wplace (N : Nat) (l : (List Int)) (n : Int) : Option Int :=
  (loopM (wplace_b1 N l n) N 0).bind fun ss =>
    match ss with
    | (Sum.inl _) =>
      some (-1)
    | (Sum.inr z67) => some z67
def wpairs_b1 (N : Nat) (p : (List Arr2Int)) (vars : (List Int)) : ((List Arr2Int) × Int) → Option (Stp ((List Arr2Int) × Int) (List Arr2Int))
  | (out172, i176) =>
    (if (i176 : Int) < (List.length p : Int) then
      (idx p i176).bind fun x199 =>
      (wplace N vars x199.e0).bind fun r213 =>
      (idx p i176).bind fun x221 =>
      (wplace N vars x221.e1).bind fun r236 =>
      (apnd 16 out172 [(Arr2Int.mk r213 r236)]).bind fun x252 =>
      some (Stp.next (x252, (iw (i176 + 1))))
    else
      some (Stp.done out172))
def wpairs (N : Nat) (p : (List Arr2Int)) (vars : (List Int)) : Option (List Arr2Int) :=
  (loopM (wpairs_b1 N p vars) N (([] : (List Arr2Int)), 0)).bind fun ss =>
    match ss with
    | out182 =>
      some out182
def wTexts_b1 (N : Nat) (c : RClause) (l : (List RVar)) (ranges : (List Arr2Int)) : ((List Int) × (List Int) × (List Int) × Int) → Option (Stp ((List Int) × (List Int) × (List Int) × Int) ((List Int) × (List Int) × (List Int)))
  | (min358, max367, vars376, i380) =>
    (if (i380 : Int) < (List.length c.NotNull : Int) then
      (idx c.NotNull i380).bind fun x438 =>
      (idx l x438).bind fun x451 =>
      (if (x451.Ty : Int) = 2 then
        (apnd 8 vars376 [x438]).bind fun x475 =>
        (idx ranges x438).bind fun x493 =>
        (apnd 8 min358 [x493.e0]).bind fun x516 =>
        (whigh N l ranges x438).bind fun r538 =>
        (apnd 8 max367 [r538]).bind fun x555 =>
        some (Stp.next (x516, x555, x475, (iw (i380 + 1))))
      else
        some (Stp.next (min358, max367, vars376, (iw (i380 + 1)))))
    else
      some (Stp.done (min358, max367, vars376)))
def wTexts_b2 (N : Nat) (c : RClause) (vars407 : (List Int)) : ((List TTest) × Int) → Option (Stp ((List TTest) × Int) (List TTest))
  | (tests760, i765) =>
    (if (i765 : Int) < (List.length c.Tests : Int) then
      (idx c.Tests i765).bind fun x798 =>
      (wplace N vars407 x798.Var).bind fun r820 =>
      (apnd 40 tests760 [(TTest.mk r820 x798.Kind x798.Negated x798.Text)]).bind fun x840 =>
      some (Stp.next (x840, (iw (i765 + 1))))
    else
      some (Stp.done tests760))
def wTexts (N : Nat) (l : (List RVar)) (c : RClause) (ranges : (List Arr2Int)) : Option (TProb × (List Int)) :=
  (loopM (wTexts_b1 N c l ranges) N (([] : (List Int)), ([] : (List Int)), ([] : (List Int)), 0)).bind fun ss =>
    match ss with
    | (min389, max398, vars407) =>
      (loopM (wTexts_b2 N c vars407) N (([] : (List TTest)), 0)).bind fun ss =>
        match ss with
        | tests776 =>
          (wpairs N c.Same vars407).bind fun r869 =>
          (wpairs N c.Different vars407).bind fun r886 =>
          some ((TProb.mk min389 max398 tests776 r869 r886), vars407)
def wRight_b1 (N : Nat) (ranges : (List Arr2Int)) : Int → Option (Stp Int (Sum Unit Bool))
  | i263 =>
    (if (i263 : Int) < (List.length ranges : Int) then
      (((idx ranges i263).bind fun x335 =>
      (if (x335.e0 : Int) < 0 then
        some true
      else
        (idx ranges i263).bind fun x350 =>
        (if (x350.e0 : Int) > 16 then
          some true
        else
          (idx ranges i263).bind fun x365 =>
          (if (x365.e1 : Int) < 0 then
            some true
          else
            (idx ranges i263).bind fun x380 =>
            some (decide ((x380.e1 : Int) > 16))))) : Option Bool)).bind fun ss =>
        match ss with
        | x332 =>
          (if x332 = true then
            some (Stp.done (Sum.inr false))
          else
            some (Stp.next (iw (i263 + 1))))
    else
      some (Stp.done (Sum.inl ())))
def wRight (N : Nat) (l : (List RVar)) (ranges : (List Arr2Int)) : Option Bool :=
  (if ((List.length ranges : Int) : Int) ≠ (List.length l : Int) then
    some false
  else
    (loopM (wRight_b1 N ranges) N 0).bind fun ss =>
      match ss with
      | (Sum.inl _) =>
        some true
      | (Sum.inr z401) => some z401)
def wDomains_b1 (N : Nat) (l : (List RVar)) : Int → Option (Stp Int (Sum Unit Bool))
  | i158 =>
    (if (i158 : Int) < (List.length l : Int) then
      (idx l i158).bind fun x168 =>
      (((if (x168.Ty : Int) = 1 then
        (if (x168.Low : Int) < (-2147483648) then
          some true
        else
          (if (x168.Low : Int) > 2147483647 then
            some true
          else
            (if (x168.High : Int) < (-2147483648) then
              some true
            else
              some (decide ((x168.High : Int) > 2147483647)))))
      else
        some false) : Option Bool)).bind fun ss =>
        match ss with
        | x195 =>
          (if x195 = true then
            some (Stp.done (Sum.inr false))
          else
            (((if (x168.Ty : Int) = 2 then
              (if (x168.Max : Int) < 0 then
                some true
              else
                (if (x168.Max : Int) > 16 then
                  some true
                else
                  (if (x168.Ty : Int) ≠ 1 then
                    some (decide ((x168.Ty : Int) ≠ 2))
                  else
                    some false)))
            else
              (if (x168.Ty : Int) ≠ 1 then
                some (decide ((x168.Ty : Int) ≠ 2))
              else
                some false)) : Option Bool)).bind fun ss =>
              match ss with
              | x211 =>
                (if x211 = true then
                  some (Stp.done (Sum.inr false))
                else
                  some (Stp.next (iw (i158 + 1)))))
    else
      some (Stp.done (Sum.inl ())))
def wDomains (N : Nat) (l : (List RVar)) : Option Bool :=
  (loopM (wDomains_b1 N l) N 0).bind fun ss =>
    match ss with
    | (Sum.inl _) =>
      some (decide (((List.length l : Int) : Int) ≤ 10))
    | (Sum.inr z245) => some z245
end Go.D
set_option linter.unusedVariables false
set_option linter.unusedSimpArgs false
namespace Go.D
open Go Go.X
def lbig (N : Nat) (n : Int) : Option Big :=
  (rOf N n).bind fun r6 =>
  some r6
def awake (N : Nat)  : Option Bool :=
  (lbig N 1).bind fun r47 =>
  (lbig N 2).bind fun r64 =>
  (lbig N 1).bind fun r73 =>
  (lbig N 2).bind fun r90 =>
  (lbig N 1).bind fun r99 =>
  (lbig N 1).bind fun r108 =>
  (lbig N 1).bind fun r126 =>
  (vCheck N [(RVar.mk 1 (-9) 9 0 false)] (RClause.mk [] [0] [] [(Constraint.mk (Linear.mk (-5) [(Coef.mk 0 2)]) true)] [] [] []) (Refut.mk 2 0 0 (Proof.mk [(Step.mk [(Use.mk 2 r47)] r64), (Step.mk [(Use.mk 3 r73)] r90), (Step.mk [(Use.mk 4 r99), (Use.mk 5 r108)] r126)] [] (Big.mk false []) []) [])).bind fun r181 =>
  (if r181 = true then
    (vFormat N (Refut.mk 2 0 0 (Proof.mk [(Step.mk [(Use.mk 2 r47)] r64), (Step.mk [(Use.mk 3 r73)] r90), (Step.mk [(Use.mk 4 r99), (Use.mk 5 r108)] r126)] [] (Big.mk false []) []) [])).bind fun r193 =>
    (if r193 = ([105, 110, 116, 101, 103, 101, 114, 115, 32, 51] : List UInt8) then
      (vCheck N [(RVar.mk 1 (-9) 9 0 false)] (RClause.mk [0] [] [] [] [] [] []) (Refut.mk 0 0 0 (Proof.mk [] [] (Big.mk false []) []) [])).bind fun r210 =>
      (if r210 = true then
        (vCheck N [(RVar.mk 1 (-9) 9 0 false)] (RClause.mk [] [0] [] [] [] [] []) (Refut.mk 0 0 0 (Proof.mk [] [] (Big.mk false []) []) [])).bind fun r228 =>
        some (!r228)
      else
        some false)
    else
      some false)
  else
    some false)
def lright (N : Nat) (x : RCase) : Option Bool :=
  (wDomains N x.L).bind fun r6 =>
  (if r6 = true then
    (sFew N x.C).bind fun r15 =>
    (if r15 = true then
      (sValid N x.C x.L).bind fun r30 =>
      (if r30 = true then
        (wRight N x.L x.Ranges).bind fun r46 =>
        some r46
      else
        some false)
    else
      some false)
  else
    some false)
def lints_b1 (N : Nat) (a : (List Int)) (b : (List Int)) : Int → Option (Stp Int (Sum Unit Bool))
  | x69 =>
    (if (x69 : Int) < (List.length a : Int) then
      (idx a x69).bind fun x78 =>
      (idx b x69).bind fun x92 =>
      (if (x78 : Int) ≠ x92 then
        some (Stp.done (Sum.inr false))
      else
        some (Stp.next (iw (x69 + 1))))
    else
      some (Stp.done (Sum.inl ())))
def lints (N : Nat) (a : (List Int)) (b : (List Int)) : Option Bool :=
  (if ((List.length a : Int) : Int) ≠ (List.length b : Int) then
    some false
  else
    (loopM (lints_b1 N a b) N 0).bind fun ss =>
      match ss with
      | (Sum.inl _) =>
        some true
      | (Sum.inr z110) => some z110)
def ltwos_b1 (N : Nat) (a : (List Arr2Int)) (b : (List Arr2Int)) : Int → Option (Stp Int (Sum Unit Bool))
  | x69 =>
    (if (x69 : Int) < (List.length a : Int) then
      (idx a x69).bind fun x78 =>
      (idx b x69).bind fun x92 =>
      (if ¬ ((x78.e0 : Int) = x92.e0 ∧ (x78.e1 : Int) = x92.e1) then
        some (Stp.done (Sum.inr false))
      else
        some (Stp.next (iw (x69 + 1))))
    else
      some (Stp.done (Sum.inl ())))
def ltwos (N : Nat) (a : (List Arr2Int)) (b : (List Arr2Int)) : Option Bool :=
  (if ((List.length a : Int) : Int) ≠ (List.length b : Int) then
    some false
  else
    (loopM (ltwos_b1 N a b) N 0).bind fun ss =>
      match ss with
      | (Sum.inl _) =>
        some true
      | (Sum.inr z110) => some z110)
def lproblem_b1 (N : Nat) (p : TProb) (x : TProb) : Int → Option (Stp Int (Sum Unit Bool))
  | x193 =>
    (if (x193 : Int) < (List.length p.Tests : Int) then
      (idx p.Tests x193).bind fun x202 =>
      (idx x.Tests x193).bind fun x216 =>
      (if (!(decide ((x202.Var : Int) = x216.Var) && (decide ((x202.Kind : Int) = x216.Kind) && ((x202.Negated == x216.Negated) && (decide (x202.Text = x216.Text) && true))))) = true then
        some (Stp.done (Sum.inr false))
      else
        some (Stp.next (iw (x193 + 1))))
    else
      some (Stp.done (Sum.inl ())))
def lproblem (N : Nat) (p : TProb) (x : TProb) : Option Bool :=
  (((lints N p.Min x.Min).bind fun r58 =>
  (if (!r58) = true then
    some true
  else
    (lints N p.Max x.Max).bind fun r71 =>
    (if (!r71) = true then
      some true
    else
      (ltwos N p.Same x.Same).bind fun r84 =>
      (if (!r84) = true then
        some true
      else
        (ltwos N p.Different x.Different).bind fun r97 =>
        (if (!r97) = true then
          some true
        else
          some (decide (((List.length p.Tests : Int) : Int) ≠ (List.length x.Tests : Int))))))) : Option Bool)).bind fun ss =>
    match ss with
    | x55 =>
      (if x55 = true then
        some false
      else
        (loopM (lproblem_b1 N p x) N 0).bind fun ss =>
          match ss with
          | (Sum.inl _) =>
            some true
          | (Sum.inr z237) => some z237)
def lawComplete_b1 (N : Nat) (x : RCase) : ((List Big) × Int) → Option (Stp ((List Big) × Int) (Sum (List Big) Bool))
  | (values431, x435) =>
    (if (x435 : Int) < (List.length x.R : Int) then
      (idx x.R x435).bind fun x462 =>
      (((if (x462.Kind : Int) = 2 then
        (idx x.Ranges x435).bind fun x523 =>
        (if ((List.length x462.Text : Int) : Int) < x523.e0 then
          some true
        else
          (idx x.Ranges x435).bind fun x542 =>
          some (decide (((List.length x462.Text : Int) : Int) > x542.e1)))
      else
        some false) : Option Bool)).bind fun ss =>
        match ss with
        | x519 =>
          (if x519 = true then
            some (Stp.done (Sum.inr true))
          else
            (lbig N x462.Int).bind fun r566 =>
            (apnd 32 values431 [r566]).bind fun x583 =>
            some (Stp.next (x583, (iw (x435 + 1)))))
    else
      some (Stp.done (Sum.inl values431)))
def lawComplete_b2 (N : Nat) (r608 : ((List Int) × Bool)) : ((List Big) × Int) → Option (Stp ((List Big) × Int) (List Big))
  | (values756, x761) =>
    (if (x761 : Int) < (List.length r608.1 : Int) then
      (idx r608.1 x761).bind fun x784 =>
      (lbig N x784).bind fun r797 =>
      (apnd 32 values756 [r797]).bind fun x814 =>
      some (Stp.next (x814, (iw (x761 + 1))))
    else
      some (Stp.done values756))
def lawComplete_b3 (N : Nat) (x : RCase) (r931 : (TProb × (List Int))) : ((List (List UInt8)) × Int) → Option (Stp ((List (List UInt8)) × Int) (Sum (List (List UInt8)) Bool))
  | (texts1153, x1157) =>
    (if (x1157 : Int) < (List.length r931.2 : Int) then
      (idx r931.2 x1157).bind fun x1186 =>
      (((if (x1186 : Int) < 0 then
        some true
      else
        some (decide ((x1186 : Int) ≥ (List.length x.R : Int)))) : Option Bool)).bind fun ss =>
        match ss with
        | x1205 =>
          (if x1205 = true then
            some (Stp.done (Sum.inr false))
          else
            (idx x.R x1186).bind fun x1214 =>
            (apnd 16 texts1153 [x1214.Text]).bind fun x1237 =>
            some (Stp.next (x1237, (iw (x1157 + 1)))))
    else
      some (Stp.done (Sum.inl texts1153)))
def lawComplete (N : Nat) (x : RCase) : Option Bool :=
  (((awake N ).bind fun r61 =>
  (if (!r61) = true then
    some true
  else
    (lright N x).bind fun r69 =>
    (if (!r69) = true then
      some true
    else
      (u16Inside N x.R x.L).bind fun r87 =>
      (if (!r87) = true then
        some true
      else
        (sHolds N x.C x.R).bind fun r97 =>
        some (!r97)))) : Option Bool)).bind fun ss =>
    match ss with
    | x58 =>
      (if x58 = true then
        (awake N ).bind fun r116 =>
        some r116
      else
        (loopM (lawComplete_b1 N x) N (([] : (List Big)), 0)).bind fun ss =>
          match ss with
          | (Sum.inl values442) =>
            (sAuxiliary N x.C x.R).bind fun r608 =>
            (loopM (lawComplete_b2 N r608) N (values442, 0)).bind fun ss =>
              match ss with
              | values768 =>
                (vInts N x.L x.C x.Ranges).bind fun r843 =>
                (((if (r843.1 : Int) ≠ (List.length values768 : Int) then
                  some true
                else
                  (rSystem N r843.2 r843.1).bind fun r901 =>
                  (rAll N r901 values768).bind fun r916 =>
                  some (!r916)) : Option Bool)).bind fun ss =>
                  match ss with
                  | x893 =>
                    (if x893 = true then
                      some false
                    else
                      (vTexts N x.L x.C x.Ranges).bind fun r931 =>
                      (loopM (lawComplete_b3 N x r931) N (([] : (List (List UInt8))), 0)).bind fun ss =>
                        match ss with
                        | (Sum.inl texts1166) =>
                          (wTexts N x.L x.C x.Ranges).bind fun r1262 =>
                          (lproblem N r931.1 r1262.1).bind fun r1310 =>
                          (if r1310 = true then
                            (lints N r931.2 r1262.2).bind fun r1328 =>
                            (if r1328 = true then
                              (rSatisfies N r1262.1 texts1166).bind fun r1338 =>
                              some r1338
                            else
                              some false)
                          else
                            some false)
                        | (Sum.inr z1351) => some z1351)
          | (Sum.inr z1352) => some z1352)
end Go.D
set_option linter.unusedSimpArgs false
set_option linter.unusedVariables false
namespace Go.D
open Go Go.X
def Bg : Nat := 9223372036854775807
theorem getD_n {α : Type} {l : List α} {n : Nat} {d : α} (h : n < l.length) : l.getD n d = l[n] := by rw [List.getD_eq_getElem?_getD, List.getElem?_eq_getElem h]; rfl
theorem var_n {v : Int} {n : Nat} (h : 0 ≤ v ∧ v < n) : ∃ k : Nat, v = (k : Int) ∧ k < n := ⟨v.toNat, by omega, by omega⟩
theorem sWithin_tm {n a b : Int} : Tm (fun N => sWithin N n a b) (· = decide (a ≤ n ∧ n ≤ b)) := by
  unfold sWithin
  by_cases hn : n ≥ a
  · exact Tm.pos hn (Tm.some (decide_eq_decide.2 (by omega)))
  · exact Tm.neg hn (Tm.some (by rw [decide_eq_false]; omega))
theorem sHas_tm {l : List Int} {n : Int} (hl : l.length ≤ Bg) : Tm (fun N => sHas N l n) (· = decide (n ∈ l)) := by
  have hb : Bg = 9223372036854775807 := rfl
  unfold sHas
  refine (Tm.findL (b := fun N => sHas_b1 N l n) l (fun y => decide (y = n)) (fun _ => true) (by omega) (fun k hk => ?_) ?_).bind fun o ho => ?_
  · unfold sHas_b1
    refine Tm.pos (by omega) (Tm.step (idx_n hk) ?_)
    by_cases e : l[k] = n
    · rw [decide_eq_true e]; exact Tm.pos e (Tm.some rfl)
    · rw [decide_eq_false e]; exact Tm.neg e (Tm.some rfl)
  · unfold sHas_b1
    exact Tm.neg (by omega) (Tm.some rfl)
  · rcases ho with ⟨h1, rfl⟩ | ⟨k, hk, h1, _, rfl⟩
    · refine Tm.some ?_
      rw [decide_eq_false]
      intro h
      have := List.any_eq_false.1 h1 n h
      simp at this
    · refine Tm.some ?_
      rw [decide_eq_true]
      rw [← of_decide_eq_true h1]; exact List.getElem_mem hk
def TxtOk (c : RClause) (l : List RVar) (v : Int) : Prop := ∃ k : Nat, v = (k : Int) ∧ (∃ x, l[k]? = some x ∧ x.Ty = 2) ∧ v ∈ c.NotNull
theorem sText_tm {c : RClause} {l : List RVar} {v : Int} (hn : c.NotNull.length ≤ Bg) : Tm (fun N => sText N v c l) (fun r => r = true → TxtOk c l v) := by
  unfold sText
  by_cases h1 : v ≥ 0
  · refine Tm.pos h1 ?_
    by_cases h2 : v < (l.length : Int)
    · obtain ⟨k, rfl, hk⟩ := var_n (n := l.length) ⟨h1, h2⟩
      refine Tm.pos h2 (Tm.step (idx_n hk) ?_)
      by_cases h3 : l[k].Ty = 2
      · exact Tm.pos h3 ((sHas_tm hn).bind fun r hr => Tm.some fun e => ⟨k, rfl, ⟨_, List.getElem?_eq_getElem hk, h3⟩, of_decide_eq_true (by rw [← hr]; exact e)⟩)
      · exact Tm.neg h3 (Tm.some fun e => by simp at e)
    · exact Tm.neg h2 (Tm.some fun e => by simp at e)
  · exact Tm.neg h1 (Tm.some fun e => by simp at e)
structure FrmOk (f : Linear) (m : Nat) : Prop where
  cst : -1099511627777 ≤ f.Const ∧ f.Const ≤ 1099511627777
  len : f.Coefs.length ≤ m
  cf : ∀ x ∈ f.Coefs, (0 ≤ x.Var ∧ x.Var < m) ∧ x.N ≠ 0 ∧ -1048576 ≤ x.N ∧ x.N ≤ 1048576
theorem sAbsE_tm {n : Int} (h : -1152921504606846976 ≤ n ∧ n ≤ 1152921504606846976) : Tm (fun N => sAbs N n) (· = (n.natAbs : Int)) := by
  unfold sAbs
  by_cases hn : n < 0
  · refine Tm.pos hn (Tm.some ?_)
    rw [iw_eq (by omega) (by omega)]; omega
  · exact Tm.neg hn (Tm.some (by omega))
def bnd (l : List RVar) (bs : List Int) (v : Int) : Int := if v ≥ (l.length : Int) then bs.getD (v.toNat - l.length) 0 else 2147483648
def sumB (l : List RVar) (bs : List Int) (c0 : Int) (cs : List Coef) : Int := (c0.natAbs : Int) + (cs.map fun x => (x.N.natAbs : Int) * bnd l bs x.Var).sum
structure FrmX (f : Linear) (c : RClause) (l : List RVar) (bs : List Int) (r : Int) : Prop where
  asc : ∀ i j (hi : i < f.Coefs.length) (hj : j < f.Coefs.length), i < j → f.Coefs[i].Var < f.Coefs[j].Var
  ty : ∀ x ∈ f.Coefs, x.Var < (l.length : Int) → (∃ y, l[x.Var.toNat]? = some y ∧ y.Ty = 1) ∧ x.Var ∈ c.NotNull
  sum : r = sumB l bs f.Const f.Coefs
  le : r ≤ 1152921504606846977
theorem sumB_snoc {l : List RVar} {bs : List Int} {c0 : Int} {cs : List Coef} {x : Coef} : sumB l bs c0 (cs ++ [x]) = sumB l bs c0 cs + (x.N.natAbs : Int) * bnd l bs x.Var := by
  unfold sumB; simp [Int.add_assoc]
theorem sForm_tm {f : Linear} {c : RClause} {l : List RVar} {bs : List Int} (hn : c.NotNull.length ≤ Bg) (hf : f.Coefs.length ≤ Bg) (hl : l.length ≤ 1000) (hbs : bs.length ≤ 1000) (hb0 : ∀ b ∈ bs, 0 ≤ b) :
    Tm (fun N => sForm N f c l bs) (fun r => 0 ≤ r → FrmOk f (l.length + bs.length) ∧ FrmX f c l bs r) := by
  have hb : Bg = 9223372036854775807 := rfl
  unfold sForm
  refine sWithin_tm.eq ?_
  by_cases hc : -1099511627777 ≤ f.Const ∧ f.Const ≤ 1099511627777
  · rw [decide_eq_true hc]
    refine Tm.neg (by simp) ((sAbsE_tm (by omega)).eq ?_)
    refine Tm.bind (Q := fun o => match o with | .inl s => FrmOk f (l.length + bs.length) ∧ FrmX f c l bs s | .inr z => z = -1) ?_ fun o ho => ?_
    · refine Tm.up f.Coefs.length (fun k s => s.2 = (k : Int) ∧ (s.1 = sumB l bs f.Const (f.Coefs.take k) ∧ 0 ≤ s.1 ∧ s.1 ≤ 1152921504606846977) ∧ ∀ j (hj : j < f.Coefs.length), j < k → ((0 ≤ f.Coefs[j].Var ∧ f.Coefs[j].Var < ((l.length + bs.length : Nat) : Int)) ∧ f.Coefs[j].N ≠ 0 ∧ (-1048576 ≤ f.Coefs[j].N ∧ f.Coefs[j].N ≤ 1048576) ∧ (j : Int) ≤ f.Coefs[j].Var ∧ ∀ i (hi : i < f.Coefs.length), i < j → f.Coefs[i].Var < f.Coefs[j].Var) ∧ (f.Coefs[j].Var < (l.length : Int) → (∃ y, l[f.Coefs[j].Var.toNat]? = some y ∧ y.Ty = 1) ∧ f.Coefs[j].Var ∈ c.NotNull)) ⟨rfl, ⟨by simp [sumB], by dsimp only; omega, by dsimp only; omega⟩, fun j _ hj => by omega⟩ ?_
      rintro k hk ⟨s, i⟩ ⟨hi, ⟨hs, hs0, hs1⟩, hJ⟩
      dsimp only at hi hs hs0 hs1 hJ; subst hi
      unfold sForm_b1
      dsimp only
      rcases Nat.lt_or_ge k f.Coefs.length with hlt | hge
      · refine Tm.pos (by omega) (Tm.step (idx_n hlt) ?_)
        have e1 : iw ((l.length : Int) + (bs.length : Int)) = ((l.length + bs.length : Nat) : Int) := by rw [iw_eq] <;> omega
        refine Tm.bind (Q := fun b => b = false → (0 ≤ f.Coefs[k].Var ∧ f.Coefs[k].Var < ((l.length + bs.length : Nat) : Int)) ∧ f.Coefs[k].N ≠ 0 ∧ (-1048576 ≤ f.Coefs[k].N ∧ f.Coefs[k].N ≤ 1048576) ∧ (k : Int) ≤ f.Coefs[k].Var ∧ ∀ i (hi : i < f.Coefs.length), i < k → f.Coefs[i].Var < f.Coefs[k].Var) ?_ fun b hb' => ?_
        · rw [e1]
          by_cases g1 : f.Coefs[k].Var < 0
          · exact Tm.pos g1 (Tm.some fun e => by simp at e)
          · refine Tm.neg g1 ?_
            by_cases g2 : f.Coefs[k].Var ≥ ((l.length + bs.length : Nat) : Int)
            · exact Tm.pos g2 (Tm.some fun e => by simp at e)
            · refine Tm.neg g2 ?_
              by_cases g3 : (k : Int) > 0
              · refine Tm.pos g3 ?_
                have e2 : iw ((k : Int) - 1) = ((k - 1 : Nat) : Int) := by rw [iw_eq] <;> omega
                rw [e2]
                refine Tm.step (idx_n (by omega)) ?_
                by_cases g4 : (f.Coefs[k - 1]'(by omega)).Var ≥ f.Coefs[k].Var
                · exact Tm.pos g4 (Tm.some fun e => by simp at e)
                · refine Tm.neg g4 ?_
                  by_cases g5 : f.Coefs[k].N = 0
                  · exact Tm.pos g5 (Tm.some fun e => by simp at e)
                  · refine Tm.neg g5 (sWithin_tm.bind fun r hr => Tm.some fun e => ?_)
                    have g6 := of_decide_eq_true (show decide (-1048576 ≤ f.Coefs[k].N ∧ f.Coefs[k].N ≤ 1048576) = true by rw [← hr]; simpa using e)
                    obtain ⟨_, _, _, g7, g8⟩ := (hJ (k - 1) (by omega) (by omega)).1
                    refine ⟨⟨by omega, by omega⟩, g5, g6, by omega, fun i hi hik => ?_⟩
                    by_cases ei : i = k - 1
                    · subst ei; omega
                    · have := g8 i hi (by omega); omega
              · refine Tm.neg g3 ?_
                by_cases g5 : f.Coefs[k].N = 0
                · exact Tm.pos g5 (Tm.some fun e => by simp at e)
                · refine Tm.neg g5 (sWithin_tm.bind fun r hr => Tm.some fun e => ?_)
                  have g6 := of_decide_eq_true (show decide (-1048576 ≤ f.Coefs[k].N ∧ f.Coefs[k].N ≤ 1048576) = true by rw [← hr]; simpa using e)
                  exact ⟨⟨by omega, by omega⟩, g5, g6, by omega, fun i hi hik => by omega⟩
        · cases b with
          | true => exact Tm.pos rfl (Tm.some rfl)
          | false =>
            have hk' := hb' rfl
            obtain ⟨⟨v0, v1⟩, n0, n1, _⟩ := hb' rfl
            refine Tm.neg (by simp) ?_
            refine Tm.bind (Q := fun o => match o with | .inl b0 => (b0 = bnd l bs f.Coefs[k].Var ∧ 0 ≤ b0) ∧ (f.Coefs[k].Var < (l.length : Int) → (∃ y, l[f.Coefs[k].Var.toNat]? = some y ∧ y.Ty = 1) ∧ f.Coefs[k].Var ∈ c.NotNull) | .inr z => z = -1) ?_ fun o ho => ?_
            · by_cases g1 : f.Coefs[k].Var ≥ (l.length : Int)
              · have e2 : iw (f.Coefs[k].Var - (l.length : Int)) = ((f.Coefs[k].Var.toNat - l.length : Nat) : Int) := by rw [iw_eq] <;> omega
                rw [e2]
                refine Tm.pos g1 (Tm.step (idx_n (by omega)) (Tm.some ⟨⟨?_, hb0 _ (List.getElem_mem _)⟩, fun g => by omega⟩))
                unfold bnd
                rw [if_pos g1, getD_n (by omega)]
              · obtain ⟨q, eq, hq⟩ := var_n (n := l.length) ⟨v0, by omega⟩
                refine Tm.neg g1 ?_
                rw [eq]
                refine Tm.bind (Q := fun b => b = false → l[q].Ty = 1 ∧ (q : Int) ∈ c.NotNull) (Tm.step (idx_n hq) ?_) fun b hbq => ?_
                · by_cases g2 : l[q].Ty ≠ 1
                  · exact Tm.pos g2 (Tm.some fun e => by simp at e)
                  · exact Tm.neg g2 ((sHas_tm hn).bind fun r hr => Tm.some fun e => ⟨by omega, of_decide_eq_true (show decide ((q : Int) ∈ c.NotNull) = true by rw [← hr]; simpa using e)⟩)
                · cases b with
                  | true => exact Tm.pos rfl (Tm.some rfl)
                  | false =>
                    obtain ⟨q1, q2⟩ := hbq rfl
                    refine Tm.neg (by simp) (Tm.some ⟨⟨?_, by decide⟩, fun _ => ⟨⟨_, by rw [Int.toNat_natCast]; exact List.getElem?_eq_getElem hq, q1⟩, q2⟩⟩)
                    unfold bnd
                    rw [if_neg (by omega)]
            · cases o with
              | inr z => exact Tm.some ho
              | inl b0 =>
                obtain ⟨⟨hbe, hbp⟩, hty⟩ := ho
                refine (sAbsE_tm (by omega)).eq ?_
                have hr0 : ((f.Coefs[k].N.natAbs : Nat) : Int) ≠ 0 := by omega
                have hsd : sdiv .i64 1152921504606846977 ((f.Coefs[k].N.natAbs : Nat) : Int) = some (1152921504606846977 / ((f.Coefs[k].N.natAbs : Nat) : Int)) := by
                  unfold sdiv
                  rw [if_neg hr0, Int.tdiv_eq_ediv_of_nonneg (by decide)]
                  congr 1
                  have h1 := Int.ediv_nonneg (a := 1152921504606846977) (b := ((f.Coefs[k].N.natAbs : Nat) : Int)) (by decide) (by omega)
                  have h2 := Int.ediv_le_self (a := 1152921504606846977) ((f.Coefs[k].N.natAbs : Nat) : Int) (by decide)
                  exact iw_eq (by omega) (by omega)
                refine Tm.step hsd ?_
                by_cases g3 : b0 > 1152921504606846977 / ((f.Coefs[k].N.natAbs : Nat) : Int)
                · exact Tm.pos g3 (Tm.some rfl)
                · refine Tm.neg g3 ((sAbsE_tm (by omega)).eq ?_)
                  have p0 : 0 ≤ ((f.Coefs[k].N.natAbs : Nat) : Int) * b0 := Int.mul_nonneg (by omega) hbp
                  have p1 : ((f.Coefs[k].N.natAbs : Nat) : Int) * b0 ≤ 1152921504606846977 := by
                    have h1 := (Int.le_ediv_iff_mul_le (a := b0) (b := 1152921504606846977) (c := ((f.Coefs[k].N.natAbs : Nat) : Int)) (by omega)).1 (by omega)
                    rw [Int.mul_comm]; exact h1
                  rw [iw_eq (z := ((f.Coefs[k].N.natAbs : Nat) : Int) * b0) (by omega) (by omega), iw_eq (z := s + ((f.Coefs[k].N.natAbs : Nat) : Int) * b0) (by omega) (by omega)]
                  by_cases g4 : s + ((f.Coefs[k].N.natAbs : Nat) : Int) * b0 > 1152921504606846977
                  · exact Tm.pos g4 (Tm.some rfl)
                  · refine Tm.neg g4 (Tm.some ⟨hlt, iw_n (by omega), ⟨?_, by dsimp only; omega, by dsimp only; omega⟩, fun j hj hjk => ?_⟩)
                    · dsimp only
                      rw [List.take_succ_eq_append_getElem hlt, sumB_snoc, ← hs, ← hbe]
                    · by_cases ejk : j = k
                      · subst ejk; exact ⟨hk', hty⟩
                      · exact hJ j hj (by omega)
      · have : k = f.Coefs.length := by omega
        subst this
        refine Tm.neg (by omega) (Tm.some ⟨⟨hc, ?_, fun x hx => ?_⟩, ⟨fun i j hi hj hij => ((hJ j hj hj).1).2.2.2.2 i hi hij, fun x hx => ?_, by rw [hs, List.take_length], hs1⟩⟩)
        · rcases Nat.eq_zero_or_pos f.Coefs.length with h0 | h0
          · omega
          · obtain ⟨⟨g1, _, _, g2, _⟩, _⟩ := hJ (f.Coefs.length - 1) (by omega) (by omega)
            omega
        · obtain ⟨j, hj, rfl⟩ := List.getElem_of_mem hx
          obtain ⟨⟨g1, g2, g3, _⟩, _⟩ := hJ j hj hj
          exact ⟨g1, g2, g3⟩
        · obtain ⟨j, hj, rfl⟩ := List.getElem_of_mem hx
          exact (hJ j hj hj).2
    · cases o with
      | inl s => exact Tm.some fun _ => ho
      | inr z =>
        have ho : z = -1 := ho
        subst ho
        exact Tm.some fun h => by omega
  · rw [decide_eq_false hc]
    exact Tm.pos rfl (Tm.some fun h => by omega)
structure AscOk (l : List Int) (n : Nat) : Prop where
  bd : ∀ x ∈ l, 0 ≤ x ∧ x < n
  asc : ∀ i j (hi : i < l.length) (hj : j < l.length), i < j → l[i] < l[j]
  len : l.length ≤ n
theorem sAscending_tm {l : List Int} {n : Nat} (hl : l.length ≤ Bg) : Tm (fun N => sAscending N l (n : Int)) (fun r => r = true → AscOk l n) := by
  have hb : Bg = 9223372036854775807 := rfl
  unfold sAscending
  refine Tm.bind (Q := fun o => match o with | .inl _ => AscOk l n | .inr z => z = false) ?_ fun o ho => ?_
  · refine Tm.up l.length (fun k s => s = (k : Int) ∧ ∀ j (hj : j < l.length), j < k → (0 ≤ l[j] ∧ l[j] < (n : Int)) ∧ (j : Int) ≤ l[j] ∧ ∀ i (hi : i < l.length), i < j → l[i] < l[j]) ⟨rfl, fun j _ hj => by omega⟩ ?_
    rintro k hk i ⟨rfl, hJ⟩
    unfold sAscending_b1
    rcases Nat.lt_or_ge k l.length with hlt | hge
    · refine Tm.pos (by omega) ?_
      refine Tm.bind (Q := fun b => b = false → (0 ≤ l[k] ∧ l[k] < (n : Int)) ∧ (k : Int) ≤ l[k] ∧ ∀ i (hi : i < l.length), i < k → l[i] < l[k]) ?_ fun b hb' => ?_
      · refine Tm.step (idx_n hlt) ?_
        by_cases g1 : l[k] < 0
        · exact Tm.pos g1 (Tm.some fun e => by simp at e)
        · refine Tm.neg g1 (Tm.step (idx_n hlt) ?_)
          by_cases g2 : l[k] ≥ (n : Int)
          · exact Tm.pos g2 (Tm.some fun e => by simp at e)
          · refine Tm.neg g2 ?_
            by_cases g3 : (k : Int) > 0
            · refine Tm.pos g3 ?_
              have e2 : iw ((k : Int) - 1) = ((k - 1 : Nat) : Int) := by rw [iw_eq] <;> omega
              rw [e2]
              refine Tm.step (idx_n (by omega)) (Tm.step (idx_n hlt) (Tm.some fun e => ?_))
              have e := of_decide_eq_false e
              obtain ⟨_, g5, g6⟩ := hJ (k - 1) (by omega) (by omega)
              refine ⟨⟨by omega, by omega⟩, by omega, fun i hi hik => ?_⟩
              by_cases ei : i = k - 1
              · subst ei; omega
              · have := g6 i hi (by omega); omega
            · refine Tm.neg g3 (Tm.some fun _ => ⟨⟨by omega, by omega⟩, by omega, fun i hi hik => by omega⟩)
      · cases b with
        | true => exact Tm.pos rfl (Tm.some rfl)
        | false =>
          refine Tm.neg (by simp) (Tm.some ⟨hlt, iw_n (by omega), fun j hj hjk => ?_⟩)
          by_cases ejk : j = k
          · subst ejk; exact hb' rfl
          · exact hJ j hj (by omega)
    · have : k = l.length := by omega
      subst this
      refine Tm.neg (by omega) (Tm.some ⟨fun x hx => ?_, fun i j hi hj hij => (hJ j hj hj).2.2 i hi hij, ?_⟩)
      · obtain ⟨j, hj, rfl⟩ := List.getElem_of_mem hx
        exact (hJ j hj hj).1
      · rcases Nat.eq_zero_or_pos l.length with h0 | h0
        · omega
        · obtain ⟨g1, g2, _⟩ := hJ (l.length - 1) (by omega) (by omega)
          omega
  · cases o with
    | inl _ => exact Tm.some fun _ => ho
    | inr z =>
      have ho : z = false := ho
      subst ho
      exact Tm.some fun h => by simp at h
end Go.D
set_option linter.unusedSimpArgs false
set_option linter.unusedVariables false
namespace Go.D
open Go Go.X
def prn (b : UInt8) : Bool := decide (32 ≤ b.toNat ∧ b.toNat ≤ 126)
def okT (t : TTest) : Bool := decide (0 ≤ t.Kind ∧ t.Kind ≤ 3 ∧ t.Text.length ≤ 16) && t.Text.all prn
theorem prn_bad {b : UInt8} : (decide ((UInt8.toNat b : Int) < 32 ∨ (UInt8.toNat b : Int) > 126)) = !prn b := by
  unfold prn
  by_cases h : 32 ≤ b.toNat ∧ b.toNat ≤ 126
  · rw [decide_eq_true h, decide_eq_false (by omega)]; rfl
  · rw [decide_eq_false h, decide_eq_true (by omega)]; rfl
theorem sTested_tm {t : TTest} (hl : t.Text.length ≤ Bg) : Tm (fun N => sTested N t) (· = okT t) := by
  have hb : Bg = 9223372036854775807 := rfl
  unfold sTested
  refine (Tm.allL (b := fun N => sTested_b1 N t) t.Text prn (by omega) (fun k hk => ?_) ?_).eq ?_
  · unfold sTested_b1
    refine Tm.pos (by omega) ?_
    simp only [idx_n hk, Option.bind_some, or_if, prn_bad]
    cases prn t.Text[k] <;> exact Tm.some rfl
  · unfold sTested_b1
    exact Tm.neg (by omega) (Tm.some rfl)
  · cases h : t.Text.all prn with
    | false => exact Tm.some (by simp [okT, h])
    | true =>
      by_cases h1 : t.Kind ≥ 0
      · refine Tm.pos h1 ?_
        by_cases h2 : t.Kind ≤ 3
        · refine Tm.pos h2 (Tm.some ?_)
          simp only [okT, h, Bool.and_true]
          exact decide_eq_decide.2 (by omega)
        · exact Tm.neg h2 (Tm.some (by simp [okT, h2]))
      · refine Tm.neg h1 (Tm.some ?_)
        have : ¬ 0 ≤ t.Kind := h1
        simp [okT, this]
theorem sPairs_tm {p : List Arr2Int} {c : RClause} {l : List RVar} (hn : c.NotNull.length ≤ Bg) (hp : p.length ≤ Bg) : Tm (fun N => sPairs N p c l) (fun r => r = true → ∀ e ∈ p, TxtOk c l e.e0 ∧ TxtOk c l e.e1 ∧ e.e0 < e.e1) := by
  have hb : Bg = 9223372036854775807 := rfl
  unfold sPairs
  refine Tm.bind (Q := fun o => match o with | .inl _ => ∀ e ∈ p, TxtOk c l e.e0 ∧ TxtOk c l e.e1 ∧ e.e0 < e.e1 | .inr z => z = false) ?_ fun o ho => ?_
  · refine Tm.up p.length (fun k s => s = (k : Int) ∧ ∀ j (hj : j < p.length), j < k → TxtOk c l p[j].e0 ∧ TxtOk c l p[j].e1 ∧ p[j].e0 < p[j].e1) ⟨rfl, fun j _ hj => by omega⟩ ?_
    rintro k hk i ⟨rfl, hJ⟩
    unfold sPairs_b1
    rcases Nat.lt_or_ge k p.length with hlt | hge
    · refine Tm.pos (by omega) ?_
      refine Tm.bind (Q := fun b => b = false → TxtOk c l p[k].e0 ∧ TxtOk c l p[k].e1 ∧ p[k].e0 < p[k].e1) ?_ fun b hb' => ?_
      · refine Tm.step (idx_n hlt) ((sText_tm hn).bind fun r hr => ?_)
        cases r with
        | false => exact Tm.pos rfl (Tm.some fun e => by simp at e)
        | true =>
          refine Tm.neg (by simp) (Tm.step (idx_n hlt) ((sText_tm hn).bind fun r2 hr2 => ?_))
          cases r2 with
          | false => exact Tm.pos rfl (Tm.some fun e => by simp at e)
          | true =>
            refine Tm.neg (by simp) (Tm.step (idx_n hlt) (Tm.step (idx_n hlt) (Tm.some fun e => ?_)))
            have e := of_decide_eq_false e
            exact ⟨hr rfl, hr2 rfl, by omega⟩
      · cases b with
        | true => exact Tm.pos rfl (Tm.some rfl)
        | false =>
          refine Tm.neg (by simp) (Tm.some ⟨hlt, iw_n (by omega), fun j hj hjk => ?_⟩)
          by_cases ejk : j = k
          · subst ejk; exact hb' rfl
          · exact hJ j hj (by omega)
    · refine Tm.neg (by omega) (Tm.some fun e he => ?_)
      obtain ⟨j, hj, rfl⟩ := List.getElem_of_mem he
      exact hJ j hj (by omega)
  · cases o with
    | inl _ => exact Tm.some fun _ => ho
    | inr z =>
      have ho : z = false := ho
      subst ho
      exact Tm.some fun h => by simp at h
def AuxOk (c : RClause) (l : List RVar) (i : Nat) (a : RAux) : Prop :=
  (a.By = 0 ∧ a.Of.Coefs = [] ∧ a.Of.Const = 0 ∧ TxtOk c l a.Text) ∨ (a.By ≠ 0 ∧ (1 ≤ a.By ∧ a.By ≤ 1000) ∧ a.Text = 0 ∧ FrmOk a.Of (l.length + i))
structure BdsOk (c : RClause) (l : List RVar) (bs : List Int) : Prop where
  len : bs.length = c.Auxiliary.length
  nn : ∀ b ∈ bs, 0 ≤ b
  at' : ∀ i (hi : i < c.Auxiliary.length), (c.Auxiliary[i].By = 0 ∧ bs.getD i 0 = 16) ∨ (c.Auxiliary[i].By ≠ 0 ∧ ∃ r, 0 ≤ r ∧ FrmX c.Auxiliary[i].Of c l (bs.take i) r ∧ bs.getD i 0 = r / c.Auxiliary[i].By + 1)
structure ClOk (c : RClause) (l : List RVar) : Prop where
  bx : ∃ bs, BdsOk c l bs ∧ ∀ k ∈ c.Ints, ∃ r, FrmX k.Linear c l bs r
  nl : AscOk c.Null l.length
  nn : AscOk c.NotNull l.length
  ax : ∀ i (hi : i < c.Auxiliary.length), AuxOk c l i c.Auxiliary[i]
  it : ∀ k ∈ c.Ints, FrmOk k.Linear (l.length + c.Auxiliary.length)
  ts : ∀ t ∈ c.Tests, okT t = true ∧ TxtOk c l t.Var
  sm : ∀ e ∈ c.Same, TxtOk c l e.e0 ∧ TxtOk c l e.e1 ∧ e.e0 < e.e1
  df : ∀ e ∈ c.Different, TxtOk c l e.e0 ∧ TxtOk c l e.e1 ∧ e.e0 < e.e1
structure LimC (c : RClause) : Prop where
  nl : c.Null.length ≤ Bg
  nn : c.NotNull.length ≤ Bg
  ax : ∀ a ∈ c.Auxiliary, a.Of.Coefs.length ≤ Bg
  it : ∀ k ∈ c.Ints, k.Linear.Coefs.length ≤ Bg
  ts : ∀ t ∈ c.Tests, t.Text.length ≤ Bg
structure SmC (c : RClause) : Prop where
  ax : c.Auxiliary.length ≤ 80
  it : c.Ints.length ≤ 80
  ts : c.Tests.length ≤ 80
  sm : c.Same.length ≤ 80
  df : c.Different.length ≤ 80
theorem sValid_b1_tm {c : RClause} {l : List RVar} (hc : LimC c) (hs : SmC c) (hl : l.length ≤ 10) :
    Tm (fun N => loopM (sValid_b1 N c l) N (([] : List Int), 0)) (fun o => match o with | .inl bs => BdsOk c l bs ∧ ∀ i (hi : i < c.Auxiliary.length), AuxOk c l i c.Auxiliary[i] | .inr z => z = false) := by
  have hb : Bg = 9223372036854775807 := rfl
  have hax := hs.ax
  refine Tm.up c.Auxiliary.length (fun k s => s.2 = (k : Int) ∧ (s.1.length = k ∧ (∀ b ∈ s.1, 0 ≤ b) ∧ ∀ i (hi : i < c.Auxiliary.length), i < k → (c.Auxiliary[i].By = 0 ∧ s.1.getD i 0 = 16) ∨ (c.Auxiliary[i].By ≠ 0 ∧ ∃ r, 0 ≤ r ∧ FrmX c.Auxiliary[i].Of c l (s.1.take i) r ∧ s.1.getD i 0 = r / c.Auxiliary[i].By + 1)) ∧ ∀ j (hj : j < c.Auxiliary.length), j < k → AuxOk c l j c.Auxiliary[j]) ⟨rfl, ⟨rfl, fun b hb => by (cases hb), fun i _ hi => by omega⟩, fun j _ hj => by omega⟩ ?_
  rintro k hk ⟨s, i⟩ ⟨hi, ⟨hsl, hsn, hsb⟩, hJ⟩
  dsimp only at hi hsl hsn hsb hJ; subst hi
  have grow : ∀ (b : Int), 0 ≤ b → (∀ (hlt : k < c.Auxiliary.length), (c.Auxiliary[k].By = 0 ∧ b = 16) ∨ (c.Auxiliary[k].By ≠ 0 ∧ ∃ r, 0 ≤ r ∧ FrmX c.Auxiliary[k].Of c l s r ∧ b = r / c.Auxiliary[k].By + 1)) → (s ++ [b]).length = k + 1 ∧ (∀ b' ∈ s ++ [b], 0 ≤ b') ∧ ∀ i (hi : i < c.Auxiliary.length), i < k + 1 → (c.Auxiliary[i].By = 0 ∧ (s ++ [b]).getD i 0 = 16) ∨ (c.Auxiliary[i].By ≠ 0 ∧ ∃ r, 0 ≤ r ∧ FrmX c.Auxiliary[i].Of c l ((s ++ [b]).take i) r ∧ (s ++ [b]).getD i 0 = r / c.Auxiliary[i].By + 1) := by
    intro b b0 hbk
    refine ⟨by simp [hsl], fun b' hb' => ?_, fun i hi hik => ?_⟩
    · rcases List.mem_append.1 hb' with h | h
      · exact hsn _ h
      · rw [List.mem_singleton.1 h]; exact b0
    · rcases Nat.lt_or_ge i k with h | h
      · have e1 : (s ++ [b]).getD i 0 = s.getD i 0 := by rw [List.getD_eq_getElem?_getD, List.getD_eq_getElem?_getD, List.getElem?_append_left (by omega)]
        have e2 : (s ++ [b]).take i = s.take i := by rw [List.take_append_of_le_length (by omega)]
        rw [e1, e2]; exact hsb i hi h
      · have : i = k := by omega
        subst this
        have e1 : (s ++ [b]).getD i 0 = b := by rw [List.getD_eq_getElem?_getD, List.getElem?_append_right (by omega)]; simp [hsl]
        have e2 : (s ++ [b]).take i = s := by rw [List.take_append_of_le_length (by omega), List.take_of_length_le (by omega)]
        rw [e1, e2]; exact hbk hi
  unfold sValid_b1
  dsimp only
  rcases Nat.lt_or_ge k c.Auxiliary.length with hlt | hge
  · refine Tm.pos (by omega) (Tm.step (idx_n hlt) ?_)
    have hlim := hc.ax _ (List.getElem_mem hlt)
    have hnext : AuxOk c l k c.Auxiliary[k] → ∀ j (hj : j < c.Auxiliary.length), j < k + 1 → AuxOk c l j c.Auxiliary[j] := fun hk' j hj hjk => by
      by_cases ejk : j = k
      · subst ejk; exact hk'
      · exact hJ j hj (by omega)
    by_cases g1 : c.Auxiliary[k].By = 0
    · refine Tm.pos g1 ?_
      refine Tm.bind (Q := fun b => b = false → AuxOk c l k c.Auxiliary[k]) ?_ fun b hb' => ?_
      · by_cases g2 : (c.Auxiliary[k].Of.Coefs.length : Int) > 0
        · exact Tm.pos g2 (Tm.some fun e => by simp at e)
        · refine Tm.neg g2 ?_
          by_cases g3 : c.Auxiliary[k].Of.Const ≠ 0
          · exact Tm.pos g3 (Tm.some fun e => by simp at e)
          · refine Tm.neg g3 ((sText_tm hc.nn).bind fun r hr => Tm.some fun e => ?_)
            exact .inl ⟨g1, List.eq_nil_of_length_eq_zero (by omega), by omega, hr (by simpa using e)⟩
      · cases b with
        | true => exact Tm.pos rfl (Tm.some rfl)
        | false =>
          refine Tm.neg (by simp) ?_
          rw [apnd_ok (by simp only [List.length_singleton]; omega) (by decide)]
          exact Tm.some ⟨hlt, iw_n (by omega), grow 16 (by decide) (fun _ => .inl ⟨g1, rfl⟩), hnext (hb' rfl)⟩
    · refine Tm.neg g1 ((sForm_tm hc.nn hlim (by omega) (by omega) hsn).bind fun r hr => ?_)
      refine Tm.bind (Q := fun b => b = false → AuxOk c l k c.Auxiliary[k] ∧ FrmX c.Auxiliary[k].Of c l s r ∧ 0 ≤ r ∧ 1 ≤ c.Auxiliary[k].By) ?_ fun b hb' => ?_
      · refine sWithin_tm.eq ?_
        by_cases g2 : 1 ≤ c.Auxiliary[k].By ∧ c.Auxiliary[k].By ≤ 1000
        · rw [decide_eq_true g2]
          refine Tm.neg (by simp) ?_
          by_cases g3 : c.Auxiliary[k].Text ≠ 0
          · exact Tm.pos g3 (Tm.some fun e => by simp at e)
          · refine Tm.neg g3 (Tm.some fun e => ?_)
            have e := of_decide_eq_false e
            obtain ⟨h2, h3⟩ := hr (by omega)
            refine ⟨.inr ⟨g1, g2, by omega, ?_⟩, h3, by omega, g2.1⟩
            rw [hsl] at h2; exact h2
        · rw [decide_eq_false g2]
          exact Tm.pos rfl (Tm.some fun e => by simp at e)
      · cases b with
        | true => exact Tm.pos rfl (Tm.some rfl)
        | false =>
          refine Tm.neg (by simp) ?_
          obtain ⟨q1, q2, q3, q4⟩ := hb' rfl
          have q5 := q2.le
          have q6 := Int.ediv_nonneg (a := r) (b := c.Auxiliary[k].By) q3 (by omega)
          have q7 := Int.ediv_le_self (a := r) c.Auxiliary[k].By q3
          have hsd : sdiv .i64 r c.Auxiliary[k].By = some (r / c.Auxiliary[k].By) := by
            unfold sdiv
            rw [if_neg g1, Int.tdiv_eq_ediv_of_nonneg q3]
            congr 1
            exact iw_eq (by omega) (by omega)
          refine Tm.step hsd ?_
          rw [apnd_ok (by simp only [List.length_singleton]; omega) (by decide), iw_eq (by omega) (by omega)]
          exact Tm.some ⟨hlt, iw_n (by omega), grow _ (by omega) (fun _ => .inr ⟨g1, r, q3, q2, rfl⟩), hnext q1⟩
  · have : k = c.Auxiliary.length := by omega
    subst this
    exact Tm.neg (by omega) (Tm.some ⟨⟨hsl, hsn, fun i hi => hsb i hi hi⟩, fun j hj => hJ j hj hj⟩)
theorem sValid_tm {c : RClause} {l : List RVar} (hc : LimC c) (hs : SmC c) (hl : l.length ≤ 10) : Tm (fun N => sValid N c l) (fun r => r = true → ClOk c l) := by
  have hb : Bg = 9223372036854775807 := rfl
  have := hs.ax; have := hs.it; have := hs.ts; have := hs.sm; have := hs.df
  unfold sValid
  refine Tm.bind (Q := fun b => b = false → AscOk c.Null l.length ∧ AscOk c.NotNull l.length) ?_ fun b hb' => ?_
  · refine (sAscending_tm hc.nl).bind fun r hr => ?_
    cases r with
    | false => exact Tm.pos rfl (Tm.some fun e => by simp at e)
    | true => exact Tm.neg (by simp) ((sAscending_tm hc.nn).bind fun r2 hr2 => Tm.some fun e => ⟨hr rfl, hr2 (by simpa using e)⟩)
  · cases b with
    | true => exact Tm.pos rfl (Tm.some fun e => by simp at e)
    | false =>
      obtain ⟨q1, q2⟩ := hb' rfl
      refine Tm.neg (by simp) ((sValid_b1_tm hc hs hl).bind fun o ho => ?_)
      cases o with
      | inr z =>
        have ho : z = false := ho
        subst ho
        exact Tm.some fun h => by simp at h
      | inl bs =>
        obtain ⟨hbo, hax⟩ := ho
        have hbl := hbo.len
        refine Tm.bind (Q := fun o => match o with | .inl _ => ∀ k ∈ c.Ints, FrmOk k.Linear (l.length + c.Auxiliary.length) ∧ ∃ r, FrmX k.Linear c l bs r | .inr z => z = false) ?_ fun o ho => ?_
        · refine Tm.up c.Ints.length (fun k s => s = (k : Int) ∧ ∀ j (hj : j < c.Ints.length), j < k → FrmOk c.Ints[j].Linear (l.length + c.Auxiliary.length) ∧ ∃ r, FrmX c.Ints[j].Linear c l bs r) ⟨rfl, fun j _ hj => by omega⟩ ?_
          rintro k hk i ⟨rfl, hJ⟩
          unfold sValid_b2
          rcases Nat.lt_or_ge k c.Ints.length with hlt | hge
          · refine Tm.pos (by omega) (Tm.step (idx_n hlt) ((sForm_tm hc.nn (hc.it _ (List.getElem_mem hlt)) (by omega) (by omega) hbo.nn).bind fun r hr => ?_))
            by_cases g : r < 0
            · exact Tm.pos g (Tm.some rfl)
            · refine Tm.neg g (Tm.some ⟨hlt, iw_n (by omega), fun j hj hjk => ?_⟩)
              by_cases ejk : j = k
              · subst ejk; obtain ⟨q1, q2⟩ := hr (by omega); exact ⟨hbl ▸ q1, r, q2⟩
              · exact hJ j hj (by omega)
          · refine Tm.neg (by omega) (Tm.some fun x hx => ?_)
            obtain ⟨j, hj, rfl⟩ := List.getElem_of_mem hx
            exact hJ j hj (by omega)
        · cases o with
          | inr z =>
            have ho : z = false := ho
            subst ho
            exact Tm.some fun h => by simp at h
          | inl _ =>
            have hit : ∀ k ∈ c.Ints, FrmOk k.Linear (l.length + c.Auxiliary.length) ∧ ∃ r, FrmX k.Linear c l bs r := ho
            refine Tm.bind (Q := fun o => match o with | .inl _ => ∀ t ∈ c.Tests, okT t = true ∧ TxtOk c l t.Var | .inr z => z = false) ?_ fun o ho => ?_
            · refine Tm.up c.Tests.length (fun k s => s = (k : Int) ∧ ∀ j (hj : j < c.Tests.length), j < k → okT c.Tests[j] = true ∧ TxtOk c l c.Tests[j].Var) ⟨rfl, fun j _ hj => by omega⟩ ?_
              rintro k hk i ⟨rfl, hJ⟩
              unfold sValid_b3
              rcases Nat.lt_or_ge k c.Tests.length with hlt | hge
              · refine Tm.pos (by omega) ?_
                refine Tm.bind (Q := fun b => b = false → okT c.Tests[k] = true ∧ TxtOk c l c.Tests[k].Var) ?_ fun b hb' => ?_
                · refine Tm.step (idx_n hlt) ((sTested_tm (hc.ts _ (List.getElem_mem hlt))).bind fun r hr => ?_)
                  cases r with
                  | false => exact Tm.pos rfl (Tm.some fun e => by simp at e)
                  | true => exact Tm.neg (by simp) (Tm.step (idx_n hlt) ((sText_tm hc.nn).bind fun r2 hr2 => Tm.some fun e => ⟨hr.symm, hr2 (by simpa using e)⟩))
                · cases b with
                  | true => exact Tm.pos rfl (Tm.some rfl)
                  | false =>
                    refine Tm.neg (by simp) (Tm.some ⟨hlt, iw_n (by omega), fun j hj hjk => ?_⟩)
                    by_cases ejk : j = k
                    · subst ejk; exact hb' rfl
                    · exact hJ j hj (by omega)
              · refine Tm.neg (by omega) (Tm.some fun x hx => ?_)
                obtain ⟨j, hj, rfl⟩ := List.getElem_of_mem hx
                exact hJ j hj (by omega)
            · cases o with
              | inr z =>
                have ho : z = false := ho
                subst ho
                exact Tm.some fun h => by simp at h
              | inl _ =>
                have hts : ∀ t ∈ c.Tests, okT t = true ∧ TxtOk c l t.Var := ho
                refine (sPairs_tm hc.nn (by omega)).bind fun r hr => ?_
                cases r with
                | false => exact Tm.neg (by simp) (Tm.some fun e => by simp at e)
                | true =>
                  refine Tm.pos rfl ((sPairs_tm hc.nn (by omega)).bind fun r2 hr2 => Tm.some fun e => ?_)
                  exact ⟨⟨bs, hbo, fun k hk => (hit k hk).2⟩, q1, q2, hax, fun k hk => (hit k hk).1, hts, hr rfl, hr2 e⟩
structure LwC (c : RClause) : Prop where
  nl : c.Null.length ≤ 17592186043904
  nn : c.NotNull.length ≤ 17592186043904
  ax : c.Auxiliary.length ≤ 17592186043904
  it : c.Ints.length ≤ 17592186043904
  ts : c.Tests.length ≤ 17592186043904
  sm : c.Same.length ≤ 17592186043904
  df : c.Different.length ≤ 17592186043904
theorem sFew_tm {c : RClause} (h : LwC c) : Tm (fun N => sFew N c) (fun r => r = true → SmC c) := by
  have := h.nl; have := h.nn; have := h.ax; have := h.it; have := h.ts; have := h.sm; have := h.df
  unfold sFew
  have e1 : iw ((c.Null.length : Int) + (c.NotNull.length : Int)) = ((c.Null.length + c.NotNull.length : Nat) : Int) := by rw [iw_eq] <;> omega
  have e2 : iw (((c.Null.length + c.NotNull.length : Nat) : Int) + (c.Auxiliary.length : Int)) = ((c.Null.length + c.NotNull.length + c.Auxiliary.length : Nat) : Int) := by rw [iw_eq] <;> omega
  have e3 : iw (((c.Null.length + c.NotNull.length + c.Auxiliary.length : Nat) : Int) + (c.Ints.length : Int)) = ((c.Null.length + c.NotNull.length + c.Auxiliary.length + c.Ints.length : Nat) : Int) := by rw [iw_eq] <;> omega
  have e4 : iw (((c.Null.length + c.NotNull.length + c.Auxiliary.length + c.Ints.length : Nat) : Int) + (c.Tests.length : Int)) = ((c.Null.length + c.NotNull.length + c.Auxiliary.length + c.Ints.length + c.Tests.length : Nat) : Int) := by rw [iw_eq] <;> omega
  have e5 : iw (((c.Null.length + c.NotNull.length + c.Auxiliary.length + c.Ints.length + c.Tests.length : Nat) : Int) + (c.Same.length : Int)) = ((c.Null.length + c.NotNull.length + c.Auxiliary.length + c.Ints.length + c.Tests.length + c.Same.length : Nat) : Int) := by rw [iw_eq] <;> omega
  have e6 : iw (((c.Null.length + c.NotNull.length + c.Auxiliary.length + c.Ints.length + c.Tests.length + c.Same.length : Nat) : Int) + (c.Different.length : Int)) = ((c.Null.length + c.NotNull.length + c.Auxiliary.length + c.Ints.length + c.Tests.length + c.Same.length + c.Different.length : Nat) : Int) := by rw [iw_eq] <;> omega
  rw [e1, e2, e3, e4, e5, e6]
  by_cases hz : ((c.Null.length + c.NotNull.length + c.Auxiliary.length + c.Ints.length + c.Tests.length + c.Same.length + c.Different.length : Nat) : Int) > 80
  · exact Tm.pos hz (Tm.some fun e => by simp at e)
  · refine Tm.neg hz ?_
    have hsm : SmC c := ⟨by omega, by omega, by omega, by omega, by omega⟩
    refine Tm.bind (Q := fun _ => True) ?_ fun n1 _ => ?_
    · refine Tm.up c.Auxiliary.length (fun k s => s.2 = (k : Int)) rfl ?_
      rintro k hk ⟨s, i⟩ hi
      dsimp only at hi; subst hi
      unfold sFew_b1
      dsimp only
      rcases Nat.lt_or_ge k c.Auxiliary.length with hlt | hge
      · exact Tm.pos (by omega) (Tm.step (idx_n hlt) (Tm.some ⟨hlt, iw_n (by omega)⟩))
      · exact Tm.neg (by omega) (Tm.some trivial)
    · refine Tm.bind (Q := fun _ => True) ?_ fun n2 _ => ?_
      · refine Tm.up c.Ints.length (fun k s => s.2 = (k : Int)) rfl ?_
        rintro k hk ⟨s, i⟩ hi
        dsimp only at hi; subst hi
        unfold sFew_b2
        dsimp only
        rcases Nat.lt_or_ge k c.Ints.length with hlt | hge
        · exact Tm.pos (by omega) (Tm.step (idx_n hlt) (Tm.some ⟨hlt, iw_n (by omega)⟩))
        · exact Tm.neg (by omega) (Tm.some trivial)
      · refine Tm.bind (Q := fun _ => True) ?_ fun o _ => ?_
        · refine Tm.up c.Tests.length (fun k s => s = (k : Int)) rfl ?_
          rintro k hk i rfl
          unfold sFew_b3
          rcases Nat.lt_or_ge k c.Tests.length with hlt | hge
          · refine Tm.pos (by omega) (Tm.step (idx_n hlt) ?_)
            by_cases g : (c.Tests[k].Text.length : Int) > 40
            · exact Tm.pos g (Tm.some trivial)
            · exact Tm.neg g (Tm.some ⟨hlt, iw_n (by omega)⟩)
          · exact Tm.neg (by omega) (Tm.some trivial)
        · cases o with
          | inl _ => exact Tm.some fun _ => hsm
          | inr z => exact Tm.some fun _ => hsm
end Go.D
set_option linter.unusedSimpArgs false
set_option linter.unusedVariables false
namespace Go.D
open Go Go.X
def bnds (v low high : Int) : List Constraint := [Constraint.mk (Linear.mk low [Coef.mk v (-1)]) false, Constraint.mk (Linear.mk (iw (0 - high)) [Coef.mk v 1]) false]
def nnOf (l : List RVar) (v : Int) : List Constraint := match l[v.toNat]? with
  | some x => if x.Ty = 1 then bnds v x.Low x.High else []
  | none => []
def quo (q : Int) (f : Linear) (b : Int) : List Constraint := [Constraint.mk (Linear.mk (iw (0 - f.Const)) ((f.Coefs.map fun x => Coef.mk x.Var (iw (0 - x.N))) ++ [Coef.mk q b])) false, Constraint.mk (Linear.mk (iw (f.Const - iw (b - 1))) (f.Coefs ++ [Coef.mk q (iw (0 - b))])) false]
def hiOf (l : List RVar) (rg : List Arr2Int) (v : Nat) : Int := match rg[v]?, l[v]? with
  | some r, some x => imin r.e1 x.Max
  | _, _ => 0
def axOf (l : List RVar) (rg : List Arr2Int) (i : Nat) (a : RAux) : List Constraint :=
  if a.By = 0 then bnds ((l.length + i : Nat) : Int) (match rg[a.Text.toNat]? with | some r => r.e0 | none => 0) (hiOf l rg a.Text.toNat) else quo ((l.length + i : Nat) : Int) a.Of a.By
def axAt (l : List RVar) (rg : List Arr2Int) (ax : List RAux) (i : Nat) : List Constraint := match ax[i]? with
  | some a => axOf l rg i a
  | none => []
def intsOf (l : List RVar) (c : RClause) (rg : List Arr2Int) : List Constraint := c.NotNull.flatMap (nnOf l) ++ (List.range c.Auxiliary.length).flatMap (axAt l rg c.Auxiliary) ++ c.Ints
theorem len2 {α β : Type} {f : α → List β} (h : ∀ x, (f x).length ≤ 2) : ∀ l : List α, (l.flatMap f).length ≤ 2 * l.length
  | [] => Nat.zero_le _
  | x :: l => by
    have := len2 h l
    have := h x
    rw [List.flatMap_cons, List.length_append, List.length_cons]; omega
theorem nnOf_len {l : List RVar} (v : Int) : (nnOf l v).length ≤ 2 := by
  unfold nnOf
  split
  · split
    · exact Nat.le_refl _
    · exact Nat.zero_le _
  · exact Nat.zero_le _
theorem axAt_len {l : List RVar} {rg : List Arr2Int} {ax : List RAux} (i : Nat) : (axAt l rg ax i).length ≤ 2 := by
  unfold axAt
  split
  · unfold axOf
    split
    · exact Nat.le_refl _
    · exact Nat.le_refl _
  · exact Nat.zero_le _
section
variable {l : List RVar} {c : RClause} {rg : List Arr2Int}
structure RgOk (l : List RVar) (rg : List Arr2Int) : Prop where
  len : rg.length = l.length
  bd : ∀ r ∈ rg, (0 ≤ r.e0 ∧ r.e0 ≤ 16) ∧ 0 ≤ r.e1 ∧ r.e1 ≤ 16
theorem vhigh_tm (hr : RgOk l rg) {k : Nat} (hk : k < l.length) : Tm (fun N => vhigh N l rg (k : Int)) (· = hiOf l rg k) := by
  unfold vhigh
  have hk2 : k < rg.length := by rw [hr.len]; exact hk
  refine Tm.step (idx_n hk2) (Tm.step (idx_n hk) (Tm.some ?_))
  unfold hiOf
  rw [List.getElem?_eq_getElem hk, List.getElem?_eq_getElem hk2]
theorem whigh_tm (hr : RgOk l rg) {k : Nat} (hk : k < l.length) : Tm (fun N => whigh N l rg (k : Int)) (· = hiOf l rg k) := by
  unfold whigh
  have hk2 : k < rg.length := by rw [hr.len]; exact hk
  refine Tm.step (idx_n hk2) (Tm.step (idx_n hk) ?_)
  have e : hiOf l rg k = imin rg[k].e1 l[k].Max := by
    unfold hiOf
    rw [List.getElem?_eq_getElem hk, List.getElem?_eq_getElem hk2]
  rw [e]
  by_cases g : rg[k].e1 < l[k].Max
  · exact Tm.pos g (Tm.step (idx_n hk2) (Tm.some (by unfold imin; rw [if_neg (by omega)])))
  · refine Tm.neg g (Tm.step (idx_n hk) (Tm.some ?_))
    unfold imin
    split <;> omega
theorem vInts_b1_tm (hc : AscOk c.NotNull l.length) (hl : l.length ≤ 10) : Tm (fun N => loopM (vInts_b1 N c l) N (([] : List Constraint), 0)) (· = c.NotNull.flatMap (nnOf l)) := by
  have hcl := hc.len
  refine Tm.up c.NotNull.length (fun k s => s.2 = (k : Int) ∧ s.1 = (c.NotNull.take k).flatMap (nnOf l)) ⟨rfl, rfl⟩ ?_
  rintro k hk ⟨s, i⟩ ⟨hi, hs⟩
  dsimp only at hi hs; subst hi
  unfold vInts_b1
  dsimp only
  rcases Nat.lt_or_ge k c.NotNull.length with hlt | hge
  · obtain ⟨q, eq, hq⟩ := var_n (hc.bd _ (List.getElem_mem hlt))
    have hsl : s.length ≤ 2 * k := by rw [hs]; have := len2 (nnOf_len (l := l)) (c.NotNull.take k); rw [List.length_take] at this; omega
    have hst : (c.NotNull.take (k + 1)).flatMap (nnOf l) = s ++ nnOf l (q : Int) := by
      rw [List.take_succ_eq_append_getElem hlt, List.flatMap_append, ← hs, eq]; simp
    have en : nnOf l (q : Int) = if l[q].Ty = 1 then bnds (q : Int) l[q].Low l[q].High else [] := by
      unfold nnOf; rw [Int.toNat_natCast, List.getElem?_eq_getElem hq]
    refine Tm.pos (by omega) (Tm.step (idx_n hlt) ?_)
    rw [eq]
    refine Tm.step (idx_n hq) ?_
    by_cases g : l[q].Ty = 1
    · refine Tm.pos g (Tm.step (idx_n hq) (Tm.step (idx_n hq) ?_))
      show Tm (fun N => (apnd 40 s (bnds (q : Int) l[q].Low l[q].High)).bind _) _
      rw [apnd_ok (by show (_ + 2) * 40 ≤ _; omega) (by decide)]
      refine Tm.some ⟨hlt, iw_n (by omega), ?_⟩
      rw [hst, en, if_pos g]
    · refine Tm.neg g (Tm.some ⟨hlt, iw_n (by omega), ?_⟩)
      rw [hst, en, if_neg g, List.append_nil]
  · refine Tm.neg (by omega) (Tm.some ?_)
    show s = _
    rw [hs, List.take_of_length_le hge]
theorem vquotient_tm {q b : Int} {f : Linear} (hf : f.Coefs.length ≤ 1000) : Tm (fun N => vquotient N q f b) (· = quo q f b) := by
  unfold vquotient
  refine Tm.bind (Q := fun r => r = (f.Coefs.map fun x => Coef.mk x.Var (iw (0 - x.N)), f.Coefs)) ?_ fun r hr => ?_
  · refine Tm.up f.Coefs.length (fun k s => s.2.2 = (k : Int) ∧ s.1 = ((f.Coefs.take k).map fun x => Coef.mk x.Var (iw (0 - x.N))) ∧ s.2.1 = f.Coefs.take k) ⟨rfl, rfl, rfl⟩ ?_
    rintro k hk ⟨s, t, i⟩ ⟨hi, hs, ht⟩
    dsimp only at hi hs ht; subst hi; subst hs; subst ht
    unfold vquotient_b1
    dsimp only
    rcases Nat.lt_or_ge k f.Coefs.length with hlt | hge
    · refine Tm.pos (by omega) (Tm.step (idx_n hlt) ?_)
      rw [apnd_ok (by rw [List.length_map, List.length_take, List.length_singleton]; omega) (by decide)]
      simp only [Option.bind_some]
      rw [apnd_ok (by rw [List.length_take, List.length_singleton]; omega) (by decide)]
      refine Tm.some ⟨hlt, iw_n (by omega), ?_, ?_⟩
      · rw [List.take_succ_eq_append_getElem hlt, List.map_append]; rfl
      · rw [List.take_succ_eq_append_getElem hlt]
    · refine Tm.neg (by omega) (Tm.some ?_)
      rw [List.take_of_length_le hge]
  · subst hr
    dsimp only
    rw [apnd_ok (by rw [List.length_map, List.length_singleton]; omega) (by decide)]
    simp only [Option.bind_some]
    rw [apnd_ok (by rw [List.length_singleton]; omega) (by decide)]
    exact Tm.some rfl
theorem axAt_at {i : Nat} (hi : i < c.Auxiliary.length) : axAt l rg c.Auxiliary i = axOf l rg i c.Auxiliary[i] := by
  unfold axAt; rw [List.getElem?_eq_getElem hi]
theorem range_flat {f : Nat → List Constraint} {k : Nat} : (List.range (k + 1)).flatMap f = (List.range k).flatMap f ++ f k := by
  rw [List.range_succ, List.flatMap_append]; simp
theorem vInts_b2_tm (hv : ClOk c l) (hs : SmC c) (hr : RgOk l rg) (hl : l.length ≤ 10) {o : List Constraint} (ho : o.length ≤ 1000) : Tm (fun N => loopM (vInts_b2 N c l rg) N (o, 0)) (· = o ++ (List.range c.Auxiliary.length).flatMap (axAt l rg c.Auxiliary)) := by
  have hsx := hs.ax
  refine Tm.up c.Auxiliary.length (fun k s => s.2 = (k : Int) ∧ s.1 = o ++ (List.range k).flatMap (axAt l rg c.Auxiliary)) ⟨rfl, by simp⟩ ?_
  rintro k hk ⟨s, i⟩ ⟨hi, hs⟩
  dsimp only at hi hs; subst hi
  unfold vInts_b2
  dsimp only
  rcases Nat.lt_or_ge k c.Auxiliary.length with hlt | hge
  · have hsl : s.length ≤ 1000 + 2 * k := by rw [hs, List.length_append]; have := len2 (axAt_len (l := l) (rg := rg) (ax := c.Auxiliary)) (List.range k); rw [List.length_range] at this; omega
    have e1 : iw ((l.length : Int) + (k : Int)) = ((l.length + k : Nat) : Int) := by rw [iw_eq] <;> omega
    refine Tm.pos (by omega) (Tm.step (idx_n hlt) ?_)
    rw [range_flat, axAt_at hlt, ← List.append_assoc, ← hs, e1]
    rcases hv.ax k hlt with ⟨g1, _, _, t, et, ⟨x, ex, _⟩, _⟩ | ⟨g1, g2, _, hf⟩
    · have ht : t < l.length := (List.getElem?_eq_some_iff.1 ex).1
      have ht2 : t < rg.length := by rw [hr.len]; exact ht
      refine Tm.pos g1 ?_
      rw [et]
      refine Tm.step (idx_n ht2) ((vhigh_tm hr ht).eq ?_)
      show Tm (fun N => (apnd 40 s (bnds ((l.length + k : Nat) : Int) rg[t].e0 (hiOf l rg t))).bind _) _
      rw [apnd_ok (by show (_ + 2) * 40 ≤ _; omega) (by decide)]
      refine Tm.some ⟨hlt, iw_n (by omega), ?_⟩
      unfold axOf
      rw [if_pos g1, et, Int.toNat_natCast, List.getElem?_eq_getElem ht2]
    · have hfl := hf.len
      refine Tm.neg g1 ((vquotient_tm (by omega)).eq ?_)
      rw [apnd_ok (by show (_ + 2) * 40 ≤ _; omega) (by decide)]
      refine Tm.some ⟨hlt, iw_n (by omega), ?_⟩
      unfold axOf
      rw [if_neg g1]
  · have : k = c.Auxiliary.length := by omega
    subst this
    exact Tm.neg (by omega) (Tm.some hs)
theorem vInts_tm (hv : ClOk c l) (hs : SmC c) (hr : RgOk l rg) (hl : l.length ≤ 10) : Tm (fun N => vInts N l c rg) (· = (((l.length + c.Auxiliary.length : Nat) : Int), intsOf l c rg)) := by
  have h1 := hs.ax; have h2 := hs.it
  have hnl := hv.nn.len
  have hn2 := len2 (nnOf_len (l := l)) c.NotNull
  unfold vInts
  refine (vInts_b1_tm hv.nn hl).eq ((vInts_b2_tm hv hs hr hl (by omega)).eq ?_)
  have ha2 := len2 (axAt_len (l := l) (rg := rg) (ax := c.Auxiliary)) (List.range c.Auxiliary.length)
  rw [List.length_range] at ha2
  refine Tm.bind (Q := fun r => r = intsOf l c rg) ?_ fun r hr' => Tm.some (by rw [hr']; rw [iw_eq] <;> first | rfl | omega)
  refine Tm.up c.Ints.length (fun k s => s.2 = (k : Int) ∧ s.1 = c.NotNull.flatMap (nnOf l) ++ (List.range c.Auxiliary.length).flatMap (axAt l rg c.Auxiliary) ++ c.Ints.take k) ⟨rfl, by simp⟩ ?_
  rintro k hk ⟨s, i⟩ ⟨hi, hs'⟩
  dsimp only at hi hs'; subst hi; subst hs'
  unfold vInts_b3
  dsimp only
  rcases Nat.lt_or_ge k c.Ints.length with hlt | hge
  · have hf := hv.it _ (List.getElem_mem hlt)
    have hfl := hf.len
    refine Tm.pos (by omega) (Tm.step (idx_n hlt) ?_)
    have hcl : Tm (fun N => cloneCoef N c.Ints[k].Linear.Coefs) (· = c.Ints[k].Linear.Coefs) := by
      unfold cloneCoef
      rw [apnd_ok (by simp only [List.length_nil]; omega) (by decide)]
      exact Tm.some rfl
    refine hcl.eq ?_
    rw [apnd_ok (by rw [List.length_append, List.length_append, List.length_take, List.length_singleton]; omega) (by decide)]
    refine Tm.some ⟨hlt, iw_n (by omega), ?_⟩
    rw [List.take_succ_eq_append_getElem hlt, ← List.append_assoc]
  · refine Tm.neg (by omega) (Tm.some ?_)
    show _ = _
    rw [List.take_of_length_le hge]; rfl
theorem intsOf_len (hv : ClOk c l) (hs : SmC c) (hl : l.length ≤ 10) : (intsOf l c rg).length ≤ 1000 := by
  have h1 := hs.ax; have h2 := hs.it
  have hnl := hv.nn.len
  have hn2 := len2 (nnOf_len (l := l)) c.NotNull
  have ha2 := len2 (axAt_len (l := l) (rg := rg) (ax := c.Auxiliary)) (List.range c.Auxiliary.length)
  rw [List.length_range] at ha2
  unfold intsOf
  rw [List.length_append, List.length_append]; omega
end
end Go.D
set_option linter.unusedSimpArgs false
set_option linter.unusedVariables false
namespace Go.D
open Go Go.X
theorem fmtI_lo {N M : Nat} (h : N ≤ M) (n : Int) : Lo (fmtI N n) (fmtI M n) := Lo.refl _
end Go.D
set_option maxRecDepth 100000
set_option linter.unusedVariables false
set_option linter.unusedSimpArgs false
namespace Go.D
open Go Go.X
theorem cloneU32_lo {N M : Nat} (h : N ≤ M)  (s : (List Int)) : Lo (cloneU32 N s) (cloneU32 M s) := by
  unfold cloneU32
  try dsimp only
  repeat' first
    | with_reducible exact Lo.refl _
    | with_reducible refine Lo.bind ?_ (fun _ => ?_)
    | with_reducible refine Lo.ite ?_ ?_
    | with_reducible refine Lo.loop h (fun _ => ?_)
    | intro _
    | split
theorem digit_lo {N M : Nat} (h : N ≤ M)  (d : (List Int)) (i : Int) : Lo (digit N d i) (digit M d i) := by
  unfold digit
  try dsimp only
  repeat' first
    | with_reducible exact Lo.refl _
    | with_reducible refine Lo.bind ?_ (fun _ => ?_)
    | with_reducible refine Lo.ite ?_ ?_
    | with_reducible refine Lo.loop h (fun _ => ?_)
    | intro _
    | split
theorem bsign_lo {N M : Nat} (h : N ≤ M)  (n : Int) : Lo (bsign N n) (bsign M n) := by
  unfold bsign
  try dsimp only
  repeat' first
    | with_reducible exact Lo.refl _
    | with_reducible refine Lo.bind ?_ (fun _ => ?_)
    | with_reducible refine Lo.ite ?_ ?_
    | with_reducible refine Lo.loop h (fun _ => ?_)
    | intro _
    | split
theorem btrim_b1_lo {N M : Nat} (h : N ≤ M)  (d : (List Int)) : ∀ ss0, Lo (btrim_b1 N d ss0) (btrim_b1 M d ss0) := by
  intro ss0
  unfold btrim_b1
  try dsimp only
  repeat' first
    | with_reducible exact Lo.refl _
    | with_reducible refine Lo.bind ?_ (fun _ => ?_)
    | with_reducible refine Lo.ite ?_ ?_
    | with_reducible refine Lo.loop h (fun _ => ?_)
    | intro _
    | split
theorem btrim_lo {N M : Nat} (h : N ≤ M)  (d : (List Int)) : Lo (btrim N d) (btrim M d) := by
  unfold btrim
  try dsimp only
  repeat' first
    | with_reducible exact Lo.refl _
    | with_reducible apply btrim_b1_lo h
    | with_reducible apply cloneU32_lo h
    | with_reducible refine Lo.bind ?_ (fun _ => ?_)
    | with_reducible refine Lo.ite ?_ ?_
    | with_reducible refine Lo.loop h (fun _ => ?_)
    | intro _
    | split
theorem bnormal_lo {N M : Nat} (h : N ≤ M)  (negative : Bool) (d : (List Int)) : Lo (bnormal N negative d) (bnormal M negative d) := by
  unfold bnormal
  try dsimp only
  repeat' first
    | with_reducible exact Lo.refl _
    | with_reducible apply btrim_lo h
    | with_reducible refine Lo.bind ?_ (fun _ => ?_)
    | with_reducible refine Lo.ite ?_ ?_
    | with_reducible refine Lo.loop h (fun _ => ?_)
    | intro _
    | split
theorem bcompare_b1_lo {N M : Nat} (h : N ≤ M)  (a : (List Int)) (b : (List Int)) : ∀ ss0, Lo (bcompare_b1 N a b ss0) (bcompare_b1 M a b ss0) := by
  intro ss0
  unfold bcompare_b1
  try dsimp only
  repeat' first
    | with_reducible exact Lo.refl _
    | with_reducible refine Lo.bind ?_ (fun _ => ?_)
    | with_reducible refine Lo.ite ?_ ?_
    | with_reducible refine Lo.loop h (fun _ => ?_)
    | intro _
    | split
theorem bcompare_lo {N M : Nat} (h : N ≤ M)  (a : (List Int)) (b : (List Int)) : Lo (bcompare N a b) (bcompare M a b) := by
  unfold bcompare
  try dsimp only
  repeat' first
    | with_reducible exact Lo.refl _
    | with_reducible apply bcompare_b1_lo h
    | with_reducible apply bsign_lo h
    | with_reducible refine Lo.bind ?_ (fun _ => ?_)
    | with_reducible refine Lo.ite ?_ ?_
    | with_reducible refine Lo.loop h (fun _ => ?_)
    | intro _
    | split
theorem bplus_b1_lo {N M : Nat} (h : N ≤ M)  (a : (List Int)) (b : (List Int)) (x2 : (List Int)) : ∀ ss0, Lo (bplus_b1 N a b x2 ss0) (bplus_b1 M a b x2 ss0) := by
  intro ss0
  unfold bplus_b1
  try dsimp only
  repeat' first
    | with_reducible exact Lo.refl _
    | with_reducible apply digit_lo h
    | with_reducible refine Lo.bind ?_ (fun _ => ?_)
    | with_reducible refine Lo.ite ?_ ?_
    | with_reducible refine Lo.loop h (fun _ => ?_)
    | intro _
    | split
theorem bplus_lo {N M : Nat} (h : N ≤ M)  (a : (List Int)) (b : (List Int)) : Lo (bplus N a b) (bplus M a b) := by
  unfold bplus
  try dsimp only
  repeat' first
    | with_reducible exact Lo.refl _
    | with_reducible apply bplus_b1_lo h
    | with_reducible refine Lo.bind ?_ (fun _ => ?_)
    | with_reducible refine Lo.ite ?_ ?_
    | with_reducible refine Lo.loop h (fun _ => ?_)
    | intro _
    | split
theorem bminus_b1_lo {N M : Nat} (h : N ≤ M)  (a : (List Int)) (b : (List Int)) : ∀ ss0, Lo (bminus_b1 N a b ss0) (bminus_b1 M a b ss0) := by
  intro ss0
  unfold bminus_b1
  try dsimp only
  repeat' first
    | with_reducible exact Lo.refl _
    | with_reducible apply digit_lo h
    | with_reducible refine Lo.bind ?_ (fun _ => ?_)
    | with_reducible refine Lo.ite ?_ ?_
    | with_reducible refine Lo.loop h (fun _ => ?_)
    | intro _
    | split
theorem bminus_lo {N M : Nat} (h : N ≤ M)  (a : (List Int)) (b : (List Int)) : Lo (bminus N a b) (bminus M a b) := by
  unfold bminus
  try dsimp only
  repeat' first
    | with_reducible exact Lo.refl _
    | with_reducible apply bminus_b1_lo h
    | with_reducible refine Lo.bind ?_ (fun _ => ?_)
    | with_reducible refine Lo.ite ?_ ?_
    | with_reducible refine Lo.loop h (fun _ => ?_)
    | intro _
    | split
theorem btimes_b2_lo {N M : Nat} (h : N ≤ M)  (b : (List Int)) (x475 : Int) (x491 : Int) : ∀ ss0, Lo (btimes_b2 N b x475 x491 ss0) (btimes_b2 M b x475 x491 ss0) := by
  intro ss0
  unfold btimes_b2
  try dsimp only
  repeat' first
    | with_reducible exact Lo.refl _
    | with_reducible refine Lo.bind ?_ (fun _ => ?_)
    | with_reducible refine Lo.ite ?_ ?_
    | with_reducible refine Lo.loop h (fun _ => ?_)
    | intro _
    | split
theorem btimes_b1_lo {N M : Nat} (h : N ≤ M)  (a : (List Int)) (b : (List Int)) : ∀ ss0, Lo (btimes_b1 N a b ss0) (btimes_b1 M a b ss0) := by
  intro ss0
  unfold btimes_b1
  try dsimp only
  repeat' first
    | with_reducible exact Lo.refl _
    | with_reducible apply btimes_b2_lo h
    | with_reducible refine Lo.bind ?_ (fun _ => ?_)
    | with_reducible refine Lo.ite ?_ ?_
    | with_reducible refine Lo.loop h (fun _ => ?_)
    | intro _
    | split
theorem btimes_lo {N M : Nat} (h : N ≤ M)  (a : (List Int)) (b : (List Int)) : Lo (btimes N a b) (btimes M a b) := by
  unfold btimes
  try dsimp only
  repeat' first
    | with_reducible exact Lo.refl _
    | with_reducible apply btimes_b1_lo h
    | with_reducible refine Lo.bind ?_ (fun _ => ?_)
    | with_reducible refine Lo.ite ?_ ?_
    | with_reducible refine Lo.loop h (fun _ => ?_)
    | intro _
    | split
theorem bshort_b1_lo {N M : Nat} (h : N ≤ M)  (a : (List Int)) (pb : Int) : ∀ ss0, Lo (bshort_b1 N a pb ss0) (bshort_b1 M a pb ss0) := by
  intro ss0
  unfold bshort_b1
  try dsimp only
  repeat' first
    | with_reducible exact Lo.refl _
    | with_reducible refine Lo.bind ?_ (fun _ => ?_)
    | with_reducible refine Lo.ite ?_ ?_
    | with_reducible refine Lo.loop h (fun _ => ?_)
    | intro _
    | split
theorem bshort_lo {N M : Nat} (h : N ≤ M)  (a : (List Int)) (pb : Int) : Lo (bshort N a pb) (bshort M a pb) := by
  unfold bshort
  try dsimp only
  repeat' first
    | with_reducible exact Lo.refl _
    | with_reducible apply bshort_b1_lo h
    | with_reducible refine Lo.bind ?_ (fun _ => ?_)
    | with_reducible refine Lo.ite ?_ ?_
    | with_reducible refine Lo.loop h (fun _ => ?_)
    | intro _
    | split
end Go.D
set_option maxRecDepth 100000
set_option linter.unusedVariables false
set_option linter.unusedSimpArgs false
namespace Go.D
open Go Go.X
theorem rtrim_b1_lo {N M : Nat} (h : N ≤ M)   : ∀ ss0, Lo (rtrim_b1 N  ss0) (rtrim_b1 M  ss0) := by
  intro ss0
  unfold rtrim_b1
  try dsimp only
  repeat' first
    | with_reducible exact Lo.refl _
    | with_reducible refine Lo.bind ?_ (fun _ => ?_)
    | with_reducible refine Lo.ite ?_ ?_
    | with_reducible refine Lo.loop h (fun _ => ?_)
    | intro _
    | split
theorem rtrim_lo {N M : Nat} (h : N ≤ M)  (l : (List Int)) : Lo (rtrim N l) (rtrim M l) := by
  unfold rtrim
  try dsimp only
  repeat' first
    | with_reducible exact Lo.refl _
    | with_reducible apply rtrim_b1_lo h
    | with_reducible refine Lo.bind ?_ (fun _ => ?_)
    | with_reducible refine Lo.ite ?_ ?_
    | with_reducible refine Lo.loop h (fun _ => ?_)
    | intro _
    | split
theorem rbig_b1_lo {N M : Nat} (h : N ≤ M)  (r6 : (List Int)) : ∀ ss0, Lo (rbig_b1 N r6 ss0) (rbig_b1 M r6 ss0) := by
  intro ss0
  unfold rbig_b1
  try dsimp only
  repeat' first
    | with_reducible exact Lo.refl _
    | with_reducible refine Lo.bind ?_ (fun _ => ?_)
    | with_reducible refine Lo.ite ?_ ?_
    | with_reducible refine Lo.loop h (fun _ => ?_)
    | intro _
    | split
theorem rbig_lo {N M : Nat} (h : N ≤ M)  (negative : Bool) (l : (List Int)) : Lo (rbig N negative l) (rbig M negative l) := by
  unfold rbig
  try dsimp only
  repeat' first
    | with_reducible exact Lo.refl _
    | with_reducible apply rbig_b1_lo h
    | with_reducible apply rtrim_lo h
    | with_reducible refine Lo.bind ?_ (fun _ => ?_)
    | with_reducible refine Lo.ite ?_ ?_
    | with_reducible refine Lo.loop h (fun _ => ?_)
    | intro _
    | split
theorem rOf_b1_lo {N M : Nat} (h : N ≤ M)   : ∀ ss0, Lo (rOf_b1 N  ss0) (rOf_b1 M  ss0) := by
  intro ss0
  unfold rOf_b1
  try dsimp only
  repeat' first
    | with_reducible exact Lo.refl _
    | with_reducible refine Lo.bind ?_ (fun _ => ?_)
    | with_reducible refine Lo.ite ?_ ?_
    | with_reducible refine Lo.loop h (fun _ => ?_)
    | intro _
    | split
theorem rOf_lo {N M : Nat} (h : N ≤ M)  (n : Int) : Lo (rOf N n) (rOf M n) := by
  unfold rOf
  try dsimp only
  repeat' first
    | with_reducible exact Lo.refl _
    | with_reducible apply rOf_b1_lo h
    | with_reducible apply rbig_lo h
    | with_reducible refine Lo.bind ?_ (fun _ => ?_)
    | with_reducible refine Lo.ite ?_ ?_
    | with_reducible refine Lo.loop h (fun _ => ?_)
    | intro _
    | split
end Go.D
set_option maxRecDepth 100000
set_option linter.unusedVariables false
set_option linter.unusedSimpArgs false
namespace Go.D
open Go Go.X
theorem bdivide_lo {N M : Nat} (h : N ≤ M)  (a : (List Int)) (b : (List Int)) : Lo (bdivide N a b) (bdivide M a b) := by
  unfold bdivide
  try dsimp only
  repeat' first
    | with_reducible exact Lo.refl _
    | with_reducible apply bcompare_lo h
    | with_reducible apply bshort_lo h
    | with_reducible apply btrim_lo h
    | with_reducible refine Lo.bind ?_ (fun _ => ?_)
    | with_reducible refine Lo.ite ?_ ?_
    | with_reducible refine Lo.loop h (fun _ => ?_)
    | intro _
    | split
theorem bOf_lo {N M : Nat} (h : N ≤ M)  (n : Int) : Lo (bOf N n) (bOf M n) := by
  unfold bOf
  try dsimp only
  repeat' first
    | with_reducible exact Lo.refl _
    | with_reducible apply bnormal_lo h
    | with_reducible refine Lo.bind ?_ (fun _ => ?_)
    | with_reducible refine Lo.ite ?_ ?_
    | with_reducible refine Lo.loop h (fun _ => ?_)
    | intro _
    | split
theorem bNormal_lo {N M : Nat} (h : N ≤ M)  (x : Big) : Lo (bNormal N x) (bNormal M x) := by
  unfold bNormal
  try dsimp only
  repeat' first
    | with_reducible exact Lo.refl _
    | with_reducible apply bnormal_lo h
    | with_reducible refine Lo.bind ?_ (fun _ => ?_)
    | with_reducible refine Lo.ite ?_ ?_
    | with_reducible refine Lo.loop h (fun _ => ?_)
    | intro _
    | split
theorem bSign_lo {N M : Nat} (h : N ≤ M)  (x : Big) : Lo (bSign N x) (bSign M x) := by
  unfold bSign
  try dsimp only
  repeat' first
    | with_reducible exact Lo.refl _
    | with_reducible apply bNormal_lo h
    | with_reducible refine Lo.bind ?_ (fun _ => ?_)
    | with_reducible refine Lo.ite ?_ ?_
    | with_reducible refine Lo.loop h (fun _ => ?_)
    | intro _
    | split
theorem bNeg_lo {N M : Nat} (h : N ≤ M)  (x : Big) : Lo (bNeg N x) (bNeg M x) := by
  unfold bNeg
  try dsimp only
  repeat' first
    | with_reducible exact Lo.refl _
    | with_reducible apply bnormal_lo h
    | with_reducible refine Lo.bind ?_ (fun _ => ?_)
    | with_reducible refine Lo.ite ?_ ?_
    | with_reducible refine Lo.loop h (fun _ => ?_)
    | intro _
    | split
theorem bAdd_lo {N M : Nat} (h : N ≤ M)  (a : Big) (b : Big) : Lo (bAdd N a b) (bAdd M a b) := by
  unfold bAdd
  try dsimp only
  repeat' first
    | with_reducible exact Lo.refl _
    | with_reducible apply bNormal_lo h
    | with_reducible apply bcompare_lo h
    | with_reducible apply bminus_lo h
    | with_reducible apply bnormal_lo h
    | with_reducible apply bplus_lo h
    | with_reducible refine Lo.bind ?_ (fun _ => ?_)
    | with_reducible refine Lo.ite ?_ ?_
    | with_reducible refine Lo.loop h (fun _ => ?_)
    | intro _
    | split
theorem bSub_lo {N M : Nat} (h : N ≤ M)  (a : Big) (b : Big) : Lo (bSub N a b) (bSub M a b) := by
  unfold bSub
  try dsimp only
  repeat' first
    | with_reducible exact Lo.refl _
    | with_reducible apply bAdd_lo h
    | with_reducible apply bNeg_lo h
    | with_reducible refine Lo.bind ?_ (fun _ => ?_)
    | with_reducible refine Lo.ite ?_ ?_
    | with_reducible refine Lo.loop h (fun _ => ?_)
    | intro _
    | split
theorem bMul_lo {N M : Nat} (h : N ≤ M)  (a : Big) (b : Big) : Lo (bMul N a b) (bMul M a b) := by
  unfold bMul
  try dsimp only
  repeat' first
    | with_reducible exact Lo.refl _
    | with_reducible apply bnormal_lo h
    | with_reducible apply btimes_lo h
    | with_reducible refine Lo.bind ?_ (fun _ => ?_)
    | with_reducible refine Lo.ite ?_ ?_
    | with_reducible refine Lo.loop h (fun _ => ?_)
    | intro _
    | split
theorem bDivFloor_lo {N M : Nat} (h : N ≤ M)  (a : Big) (b : Big) : Lo (bDivFloor N a b) (bDivFloor M a b) := by
  unfold bDivFloor
  try dsimp only
  repeat' first
    | with_reducible exact Lo.refl _
    | with_reducible apply bNormal_lo h
    | with_reducible apply bdivide_lo h
    | with_reducible apply bminus_lo h
    | with_reducible apply bnormal_lo h
    | with_reducible apply bplus_lo h
    | with_reducible refine Lo.bind ?_ (fun _ => ?_)
    | with_reducible refine Lo.ite ?_ ?_
    | with_reducible refine Lo.loop h (fun _ => ?_)
    | intro _
    | split
end Go.D
set_option maxRecDepth 100000
set_option linter.unusedVariables false
set_option linter.unusedSimpArgs false
namespace Go.D
open Go Go.X
theorem cvalid_b1_lo {N M : Nat} (h : N ≤ M)  (c : Constraint) (n : Int) : ∀ ss0, Lo (cvalid_b1 N c n ss0) (cvalid_b1 M c n ss0) := by
  intro ss0
  unfold cvalid_b1
  try dsimp only
  repeat' first
    | with_reducible exact Lo.refl _
    | with_reducible refine Lo.bind ?_ (fun _ => ?_)
    | with_reducible refine Lo.ite ?_ ?_
    | with_reducible refine Lo.loop h (fun _ => ?_)
    | intro _
    | split
theorem cvalid_lo {N M : Nat} (h : N ≤ M)  (c : Constraint) (n : Int) : Lo (cvalid N c n) (cvalid M c n) := by
  unfold cvalid
  try dsimp only
  repeat' first
    | with_reducible exact Lo.refl _
    | with_reducible apply cvalid_b1_lo h
    | with_reducible refine Lo.bind ?_ (fun _ => ?_)
    | with_reducible refine Lo.ite ?_ ?_
    | with_reducible refine Lo.loop h (fun _ => ?_)
    | intro _
    | split
theorem negated_b1_lo {N M : Nat} (h : N ≤ M)  (l : (List Big)) : ∀ ss0, Lo (negated_b1 N l ss0) (negated_b1 M l ss0) := by
  intro ss0
  unfold negated_b1
  try dsimp only
  repeat' first
    | with_reducible exact Lo.refl _
    | with_reducible apply bNeg_lo h
    | with_reducible refine Lo.bind ?_ (fun _ => ?_)
    | with_reducible refine Lo.ite ?_ ?_
    | with_reducible refine Lo.loop h (fun _ => ?_)
    | intro _
    | split
theorem negated_lo {N M : Nat} (h : N ≤ M)  (l : (List Big)) (bound : Big) : Lo (negated N l bound) (negated M l bound) := by
  unfold negated
  try dsimp only
  repeat' first
    | with_reducible exact Lo.refl _
    | with_reducible apply bNormal_lo h
    | with_reducible apply negated_b1_lo h
    | with_reducible refine Lo.bind ?_ (fun _ => ?_)
    | with_reducible refine Lo.ite ?_ ?_
    | with_reducible refine Lo.loop h (fun _ => ?_)
    | intro _
    | split
theorem cOf_b1_lo {N M : Nat} (h : N ≤ M)  (c : Constraint) : ∀ ss0, Lo (cOf_b1 N c ss0) (cOf_b1 M c ss0) := by
  intro ss0
  unfold cOf_b1
  try dsimp only
  repeat' first
    | with_reducible exact Lo.refl _
    | with_reducible apply bOf_lo h
    | with_reducible refine Lo.bind ?_ (fun _ => ?_)
    | with_reducible refine Lo.ite ?_ ?_
    | with_reducible refine Lo.loop h (fun _ => ?_)
    | intro _
    | split
theorem cOf_lo {N M : Nat} (h : N ≤ M)  (c : Constraint) (n : Int) : Lo (cOf N c n) (cOf M c n) := by
  unfold cOf
  try dsimp only
  repeat' first
    | with_reducible exact Lo.refl _
    | with_reducible apply bNeg_lo h
    | with_reducible apply bOf_lo h
    | with_reducible apply cOf_b1_lo h
    | with_reducible apply cvalid_lo h
    | with_reducible apply negated_lo h
    | with_reducible refine Lo.bind ?_ (fun _ => ?_)
    | with_reducible refine Lo.ite ?_ ?_
    | with_reducible refine Lo.loop h (fun _ => ?_)
    | intro _
    | split
theorem cSystem_b1_lo {N M : Nat} (h : N ≤ M)  (l : (List Constraint)) (n : Int) : ∀ ss0, Lo (cSystem_b1 N l n ss0) (cSystem_b1 M l n ss0) := by
  intro ss0
  unfold cSystem_b1
  try dsimp only
  repeat' first
    | with_reducible exact Lo.refl _
    | with_reducible apply cOf_lo h
    | with_reducible apply cvalid_lo h
    | with_reducible refine Lo.bind ?_ (fun _ => ?_)
    | with_reducible refine Lo.ite ?_ ?_
    | with_reducible refine Lo.loop h (fun _ => ?_)
    | intro _
    | split
theorem cSystem_lo {N M : Nat} (h : N ≤ M)  (l : (List Constraint)) (n : Int) : Lo (cSystem N l n) (cSystem M l n) := by
  unfold cSystem
  try dsimp only
  repeat' first
    | with_reducible exact Lo.refl _
    | with_reducible apply cSystem_b1_lo h
    | with_reducible refine Lo.bind ?_ (fun _ => ?_)
    | with_reducible refine Lo.ite ?_ ?_
    | with_reducible refine Lo.loop h (fun _ => ?_)
    | intro _
    | split
theorem cloneIneq_lo {N M : Nat} (h : N ≤ M)  (s : (List Ineq)) : Lo (cloneIneq N s) (cloneIneq M s) := by
  unfold cloneIneq
  try dsimp only
  repeat' first
    | with_reducible exact Lo.refl _
    | with_reducible refine Lo.bind ?_ (fun _ => ?_)
    | with_reducible refine Lo.ite ?_ ?_
    | with_reducible refine Lo.loop h (fun _ => ?_)
    | intro _
    | split
theorem indexIneq_b1_lo {N M : Nat} (h : N ≤ M) {f f' : (Ineq → Option Bool)} (hf : ∀ y0, Lo (f y0) (f' y0)) (s : (List Ineq)) : ∀ ss0, Lo (indexIneq_b1 N f s ss0) (indexIneq_b1 M f' s ss0) := by
  intro ss0
  unfold indexIneq_b1
  try dsimp only
  repeat' first
    | with_reducible exact Lo.refl _
    | with_reducible exact hf
    | with_reducible exact hf _
    | with_reducible refine Lo.bind ?_ (fun _ => ?_)
    | with_reducible refine Lo.ite ?_ ?_
    | with_reducible refine Lo.loop h (fun _ => ?_)
    | intro _
    | split
theorem indexIneq_lo {N M : Nat} (h : N ≤ M) {f f' : (Ineq → Option Bool)} (hf : ∀ y0, Lo (f y0) (f' y0)) (s : (List Ineq)) : Lo (indexIneq N s f) (indexIneq M s f') := by
  unfold indexIneq
  try dsimp only
  repeat' first
    | with_reducible exact Lo.refl _
    | with_reducible exact hf
    | with_reducible exact hf _
    | with_reducible apply indexIneq_b1_lo h
    | with_reducible refine Lo.bind ?_ (fun _ => ?_)
    | with_reducible refine Lo.ite ?_ ?_
    | with_reducible refine Lo.loop h (fun _ => ?_)
    | intro _
    | split
theorem containsIneq_lo {N M : Nat} (h : N ≤ M) {f f' : (Ineq → Option Bool)} (hf : ∀ y0, Lo (f y0) (f' y0)) (s : (List Ineq)) : Lo (containsIneq N s f) (containsIneq M s f') := by
  unfold containsIneq
  try dsimp only
  repeat' first
    | with_reducible exact Lo.refl _
    | with_reducible exact hf
    | with_reducible exact hf _
    | with_reducible apply indexIneq_lo h
    | with_reducible refine Lo.bind ?_ (fun _ => ?_)
    | with_reducible refine Lo.ite ?_ ?_
    | with_reducible refine Lo.loop h (fun _ => ?_)
    | intro _
    | split
theorem width1_lo {N M : Nat} (h : N ≤ M)  (q : Ineq) (ca : Int) : Lo (width1 N q ca) (width1 M q ca) := by
  unfold width1
  try dsimp only
  repeat' first
    | with_reducible exact Lo.refl _
    | with_reducible refine Lo.bind ?_ (fun _ => ?_)
    | with_reducible refine Lo.ite ?_ ?_
    | with_reducible refine Lo.loop h (fun _ => ?_)
    | intro _
    | split
theorem cwidth_lo {N M : Nat} (h : N ≤ M)  (l : (List Ineq)) : Lo (cwidth N l) (cwidth M l) := by
  unfold cwidth
  try dsimp only
  repeat' first
    | with_reducible exact Lo.refl _
    | with_reducible apply containsIneq_lo h
    | with_reducible apply width1_lo h
    | with_reducible refine Lo.bind ?_ (fun _ => ?_)
    | with_reducible refine Lo.ite ?_ ?_
    | with_reducible refine Lo.loop h (fun _ => ?_)
    | intro _
    | split
theorem cApply_b2_lo {N M : Nat} (h : N ≤ M)  (x1030 : Use) (x1103 : Ineq) : ∀ ss0, Lo (cApply_b2 N x1030 x1103 ss0) (cApply_b2 M x1030 x1103 ss0) := by
  intro ss0
  unfold cApply_b2
  try dsimp only
  repeat' first
    | with_reducible exact Lo.refl _
    | with_reducible apply bAdd_lo h
    | with_reducible apply bMul_lo h
    | with_reducible refine Lo.bind ?_ (fun _ => ?_)
    | with_reducible refine Lo.ite ?_ ?_
    | with_reducible refine Lo.loop h (fun _ => ?_)
    | intro _
    | split
theorem cApply_b1_lo {N M : Nat} (h : N ≤ M)  (l : (List Ineq)) (s : Step) : ∀ ss0, Lo (cApply_b1 N l s ss0) (cApply_b1 M l s ss0) := by
  intro ss0
  unfold cApply_b1
  try dsimp only
  repeat' first
    | with_reducible exact Lo.refl _
    | with_reducible apply bAdd_lo h
    | with_reducible apply bMul_lo h
    | with_reducible apply bSign_lo h
    | with_reducible apply cApply_b2_lo h
    | with_reducible refine Lo.bind ?_ (fun _ => ?_)
    | with_reducible refine Lo.ite ?_ ?_
    | with_reducible refine Lo.loop h (fun _ => ?_)
    | intro _
    | split
theorem cApply_b3_lo {N M : Nat} (h : N ≤ M)  (s : Step) (coefs1010 : (List Big)) : ∀ ss0, Lo (cApply_b3 N s coefs1010 ss0) (cApply_b3 M s coefs1010 ss0) := by
  intro ss0
  unfold cApply_b3
  try dsimp only
  repeat' first
    | with_reducible exact Lo.refl _
    | with_reducible apply bDivFloor_lo h
    | with_reducible apply bSign_lo h
    | with_reducible refine Lo.bind ?_ (fun _ => ?_)
    | with_reducible refine Lo.ite ?_ ?_
    | with_reducible refine Lo.loop h (fun _ => ?_)
    | intro _
    | split
theorem cApply_lo {N M : Nat} (h : N ≤ M)  (l : (List Ineq)) (s : Step) : Lo (cApply N l s) (cApply M l s) := by
  unfold cApply
  try dsimp only
  repeat' first
    | with_reducible exact Lo.refl _
    | with_reducible apply bDivFloor_lo h
    | with_reducible apply bSign_lo h
    | with_reducible apply cApply_b1_lo h
    | with_reducible apply cApply_b3_lo h
    | with_reducible apply cwidth_lo h
    | with_reducible refine Lo.bind ?_ (fun _ => ?_)
    | with_reducible refine Lo.ite ?_ ?_
    | with_reducible refine Lo.loop h (fun _ => ?_)
    | intro _
    | split
theorem cContradictory_b1_lo {N M : Nat} (h : N ≤ M)  (q : Ineq) : ∀ ss0, Lo (cContradictory_b1 N q ss0) (cContradictory_b1 M q ss0) := by
  intro ss0
  unfold cContradictory_b1
  try dsimp only
  repeat' first
    | with_reducible exact Lo.refl _
    | with_reducible apply bSign_lo h
    | with_reducible refine Lo.bind ?_ (fun _ => ?_)
    | with_reducible refine Lo.ite ?_ ?_
    | with_reducible refine Lo.loop h (fun _ => ?_)
    | intro _
    | split
theorem cContradictory_lo {N M : Nat} (h : N ≤ M)  (q : Ineq) : Lo (cContradictory N q) (cContradictory M q) := by
  unfold cContradictory
  try dsimp only
  repeat' first
    | with_reducible exact Lo.refl _
    | with_reducible apply bSign_lo h
    | with_reducible apply cContradictory_b1_lo h
    | with_reducible refine Lo.bind ?_ (fun _ => ?_)
    | with_reducible refine Lo.ite ?_ ?_
    | with_reducible refine Lo.loop h (fun _ => ?_)
    | intro _
    | split
theorem cCheck_b1_lo {N M : Nat} (h : N ≤ M)  (p : Proof) : ∀ ss0, Lo (cCheck_b1 N p ss0) (cCheck_b1 M p ss0) := by
  intro ss0
  unfold cCheck_b1
  try dsimp only
  repeat' first
    | with_reducible exact Lo.refl _
    | with_reducible apply cApply_lo h
    | with_reducible refine Lo.bind ?_ (fun _ => ?_)
    | with_reducible refine Lo.ite ?_ ?_
    | with_reducible refine Lo.loop h (fun _ => ?_)
    | intro _
    | split
theorem cCheck_step_lo {N M : Nat} (h : N ≤ M) {self self' : (List Ineq) → Proof → Option Bool} (hself : ∀ y0 y1, Lo (self y0 y1) (self' y0 y1)) (l : (List Ineq)) (p : Proof) : Lo (cCheck_step N self l p) (cCheck_step M self' l p) := by
  unfold cCheck_step
  try dsimp only
  repeat' first
    | with_reducible exact Lo.refl _
    | with_reducible exact hself
    | with_reducible exact hself _ _
    | with_reducible apply bNeg_lo h
    | with_reducible apply bOf_lo h
    | with_reducible apply bSub_lo h
    | with_reducible apply cCheck_b1_lo h
    | with_reducible apply cContradictory_lo h
    | with_reducible apply cloneIneq_lo h
    | with_reducible apply containsIneq_lo h
    | with_reducible apply cwidth_lo h
    | with_reducible apply negated_lo h
    | with_reducible refine Lo.bind ?_ (fun _ => ?_)
    | with_reducible refine Lo.ite ?_ ?_
    | with_reducible refine Lo.loop h (fun _ => ?_)
    | intro _
    | split
theorem cCheck_lo : ∀ {N M : Nat} (_ : N ≤ M) a0 a1, Lo (cCheck N a0 a1) (cCheck M a0 a1)
  | 0, _, _ => fun _ _ => Lo.none
  | N + 1, 0, h => by omega
  | N + 1, M + 1, h => cCheck_step_lo (by omega) (cCheck_lo (by omega))
theorem cSize_b1_lo {N M : Nat} (h : N ≤ M) {self self' : Proof → Option Int} (hself : ∀ y0, Lo (self y0) (self' y0)) (p : Proof) : ∀ ss0, Lo (cSize_b1 N self p ss0) (cSize_b1 M self' p ss0) := by
  intro ss0
  unfold cSize_b1
  try dsimp only
  repeat' first
    | with_reducible exact Lo.refl _
    | with_reducible exact hself
    | with_reducible exact hself _
    | with_reducible refine Lo.bind ?_ (fun _ => ?_)
    | with_reducible refine Lo.ite ?_ ?_
    | with_reducible refine Lo.loop h (fun _ => ?_)
    | intro _
    | split
theorem cSize_step_lo {N M : Nat} (h : N ≤ M) {self self' : Proof → Option Int} (hself : ∀ y0, Lo (self y0) (self' y0)) (p : Proof) : Lo (cSize_step N self p) (cSize_step M self' p) := by
  unfold cSize_step
  try dsimp only
  repeat' first
    | with_reducible exact Lo.refl _
    | with_reducible exact hself
    | with_reducible exact hself _
    | with_reducible apply cSize_b1_lo h
    | with_reducible refine Lo.bind ?_ (fun _ => ?_)
    | with_reducible refine Lo.ite ?_ ?_
    | with_reducible refine Lo.loop h (fun _ => ?_)
    | intro _
    | split
theorem cSize_lo : ∀ {N M : Nat} (_ : N ≤ M) a0, Lo (cSize N a0) (cSize M a0)
  | 0, _, _ => fun _ => Lo.none
  | N + 1, 0, h => by omega
  | N + 1, M + 1, h => cSize_step_lo (by omega) (cSize_lo (by omega))
end Go.D
set_option maxRecDepth 100000
set_option linter.unusedVariables false
set_option linter.unusedSimpArgs false
namespace Go.D
open Go Go.X
theorem indexOf_b1_lo {N M : Nat} (h : N ≤ M)  (pb : Int) (s : (List Int)) : ∀ ss0, Lo (indexOf_b1 N pb s ss0) (indexOf_b1 M pb s ss0) := by
  intro ss0
  unfold indexOf_b1
  try dsimp only
  repeat' first
    | with_reducible exact Lo.refl _
    | with_reducible refine Lo.bind ?_ (fun _ => ?_)
    | with_reducible refine Lo.ite ?_ ?_
    | with_reducible refine Lo.loop h (fun _ => ?_)
    | intro _
    | split
theorem indexOf_lo {N M : Nat} (h : N ≤ M)  (s : (List Int)) (pb : Int) : Lo (indexOf N s pb) (indexOf M s pb) := by
  unfold indexOf
  try dsimp only
  repeat' first
    | with_reducible exact Lo.refl _
    | with_reducible apply indexOf_b1_lo h
    | with_reducible refine Lo.bind ?_ (fun _ => ?_)
    | with_reducible refine Lo.ite ?_ ?_
    | with_reducible refine Lo.loop h (fun _ => ?_)
    | intro _
    | split
theorem containsOf_lo {N M : Nat} (h : N ≤ M)  (s : (List Int)) (pb : Int) : Lo (containsOf N s pb) (containsOf M s pb) := by
  unfold containsOf
  try dsimp only
  repeat' first
    | with_reducible exact Lo.refl _
    | with_reducible apply indexOf_lo h
    | with_reducible refine Lo.bind ?_ (fun _ => ?_)
    | with_reducible refine Lo.ite ?_ ?_
    | with_reducible refine Lo.loop h (fun _ => ?_)
    | intro _
    | split
end Go.D
set_option maxRecDepth 100000
set_option linter.unusedVariables false
set_option linter.unusedSimpArgs false
namespace Go.D
open Go Go.X
theorem cloneCoef_lo {N M : Nat} (h : N ≤ M)  (s : (List Coef)) : Lo (cloneCoef N s) (cloneCoef M s) := by
  unfold cloneCoef
  try dsimp only
  repeat' first
    | with_reducible exact Lo.refl _
    | with_reducible refine Lo.bind ?_ (fun _ => ?_)
    | with_reducible refine Lo.ite ?_ ?_
    | with_reducible refine Lo.loop h (fun _ => ?_)
    | intro _
    | split
theorem vfirst_b1_lo {N M : Nat} (h : N ≤ M)  (l : (List RVar)) : ∀ ss0, Lo (vfirst_b1 N l ss0) (vfirst_b1 M l ss0) := by
  intro ss0
  unfold vfirst_b1
  try dsimp only
  repeat' first
    | with_reducible exact Lo.refl _
    | with_reducible refine Lo.bind ?_ (fun _ => ?_)
    | with_reducible refine Lo.ite ?_ ?_
    | with_reducible refine Lo.loop h (fun _ => ?_)
    | intro _
    | split
theorem vfirst_lo {N M : Nat} (h : N ≤ M)  (l : (List RVar)) : Lo (vfirst N l) (vfirst M l) := by
  unfold vfirst
  try dsimp only
  repeat' first
    | with_reducible exact Lo.refl _
    | with_reducible apply vfirst_b1_lo h
    | with_reducible refine Lo.bind ?_ (fun _ => ?_)
    | with_reducible refine Lo.ite ?_ ?_
    | with_reducible refine Lo.loop h (fun _ => ?_)
    | intro _
    | split
theorem vhigh_lo {N M : Nat} (h : N ≤ M)  (l : (List RVar)) (ranges : (List Arr2Int)) (pc : Int) : Lo (vhigh N l ranges pc) (vhigh M l ranges pc) := by
  unfold vhigh
  try dsimp only
  repeat' first
    | with_reducible exact Lo.refl _
    | with_reducible refine Lo.bind ?_ (fun _ => ?_)
    | with_reducible refine Lo.ite ?_ ?_
    | with_reducible refine Lo.loop h (fun _ => ?_)
    | intro _
    | split
theorem vbounds_lo {N M : Nat} (h : N ≤ M)  (pa : Int) (low : Int) (high : Int) : Lo (vbounds N pa low high) (vbounds M pa low high) := by
  unfold vbounds
  try dsimp only
  repeat' first
    | with_reducible exact Lo.refl _
    | with_reducible refine Lo.bind ?_ (fun _ => ?_)
    | with_reducible refine Lo.ite ?_ ?_
    | with_reducible refine Lo.loop h (fun _ => ?_)
    | intro _
    | split
theorem vquotient_b1_lo {N M : Nat} (h : N ≤ M)  (pb : Linear) : ∀ ss0, Lo (vquotient_b1 N pb ss0) (vquotient_b1 M pb ss0) := by
  intro ss0
  unfold vquotient_b1
  try dsimp only
  repeat' first
    | with_reducible exact Lo.refl _
    | with_reducible refine Lo.bind ?_ (fun _ => ?_)
    | with_reducible refine Lo.ite ?_ ?_
    | with_reducible refine Lo.loop h (fun _ => ?_)
    | intro _
    | split
theorem vquotient_lo {N M : Nat} (h : N ≤ M)  (q : Int) (pb : Linear) (pc : Int) : Lo (vquotient N q pb pc) (vquotient M q pb pc) := by
  unfold vquotient
  try dsimp only
  repeat' first
    | with_reducible exact Lo.refl _
    | with_reducible apply vquotient_b1_lo h
    | with_reducible refine Lo.bind ?_ (fun _ => ?_)
    | with_reducible refine Lo.ite ?_ ?_
    | with_reducible refine Lo.loop h (fun _ => ?_)
    | intro _
    | split
theorem vInts_b1_lo {N M : Nat} (h : N ≤ M)  (c : RClause) (l : (List RVar)) : ∀ ss0, Lo (vInts_b1 N c l ss0) (vInts_b1 M c l ss0) := by
  intro ss0
  unfold vInts_b1
  try dsimp only
  repeat' first
    | with_reducible exact Lo.refl _
    | with_reducible apply vbounds_lo h
    | with_reducible refine Lo.bind ?_ (fun _ => ?_)
    | with_reducible refine Lo.ite ?_ ?_
    | with_reducible refine Lo.loop h (fun _ => ?_)
    | intro _
    | split
theorem vInts_b2_lo {N M : Nat} (h : N ≤ M)  (c : RClause) (l : (List RVar)) (ranges : (List Arr2Int)) : ∀ ss0, Lo (vInts_b2 N c l ranges ss0) (vInts_b2 M c l ranges ss0) := by
  intro ss0
  unfold vInts_b2
  try dsimp only
  repeat' first
    | with_reducible exact Lo.refl _
    | with_reducible apply vbounds_lo h
    | with_reducible apply vhigh_lo h
    | with_reducible apply vquotient_lo h
    | with_reducible refine Lo.bind ?_ (fun _ => ?_)
    | with_reducible refine Lo.ite ?_ ?_
    | with_reducible refine Lo.loop h (fun _ => ?_)
    | intro _
    | split
theorem vInts_b3_lo {N M : Nat} (h : N ≤ M)  (c : RClause) : ∀ ss0, Lo (vInts_b3 N c ss0) (vInts_b3 M c ss0) := by
  intro ss0
  unfold vInts_b3
  try dsimp only
  repeat' first
    | with_reducible exact Lo.refl _
    | with_reducible apply cloneCoef_lo h
    | with_reducible refine Lo.bind ?_ (fun _ => ?_)
    | with_reducible refine Lo.ite ?_ ?_
    | with_reducible refine Lo.loop h (fun _ => ?_)
    | intro _
    | split
theorem vInts_lo {N M : Nat} (h : N ≤ M)  (l : (List RVar)) (c : RClause) (ranges : (List Arr2Int)) : Lo (vInts N l c ranges) (vInts M l c ranges) := by
  unfold vInts
  try dsimp only
  repeat' first
    | with_reducible exact Lo.refl _
    | with_reducible apply vInts_b1_lo h
    | with_reducible apply vInts_b2_lo h
    | with_reducible apply vInts_b3_lo h
    | with_reducible refine Lo.bind ?_ (fun _ => ?_)
    | with_reducible refine Lo.ite ?_ ?_
    | with_reducible refine Lo.loop h (fun _ => ?_)
    | intro _
    | split
theorem vTexts_b1_lo {N M : Nat} (h : N ≤ M)  (c : RClause) (l : (List RVar)) (ranges : (List Arr2Int)) : ∀ ss0, Lo (vTexts_b1 N c l ranges ss0) (vTexts_b1 M c l ranges ss0) := by
  intro ss0
  unfold vTexts_b1
  try dsimp only
  repeat' first
    | with_reducible exact Lo.refl _
    | with_reducible apply vhigh_lo h
    | with_reducible refine Lo.bind ?_ (fun _ => ?_)
    | with_reducible refine Lo.ite ?_ ?_
    | with_reducible refine Lo.loop h (fun _ => ?_)
    | intro _
    | split
theorem vTexts_b2_lo {N M : Nat} (h : N ≤ M)  (c : RClause) (place432 : (List (Int × Int))) : ∀ ss0, Lo (vTexts_b2 N c place432 ss0) (vTexts_b2 M c place432 ss0) := by
  intro ss0
  unfold vTexts_b2
  try dsimp only
  repeat' first
    | with_reducible exact Lo.refl _
    | with_reducible refine Lo.bind ?_ (fun _ => ?_)
    | with_reducible refine Lo.ite ?_ ?_
    | with_reducible refine Lo.loop h (fun _ => ?_)
    | intro _
    | split
theorem vTexts_b3_lo {N M : Nat} (h : N ≤ M)  (c : RClause) (place432 : (List (Int × Int))) : ∀ ss0, Lo (vTexts_b3 N c place432 ss0) (vTexts_b3 M c place432 ss0) := by
  intro ss0
  unfold vTexts_b3
  try dsimp only
  repeat' first
    | with_reducible exact Lo.refl _
    | with_reducible refine Lo.bind ?_ (fun _ => ?_)
    | with_reducible refine Lo.ite ?_ ?_
    | with_reducible refine Lo.loop h (fun _ => ?_)
    | intro _
    | split
theorem vTexts_b4_lo {N M : Nat} (h : N ≤ M)  (c : RClause) (place432 : (List (Int × Int))) : ∀ ss0, Lo (vTexts_b4 N c place432 ss0) (vTexts_b4 M c place432 ss0) := by
  intro ss0
  unfold vTexts_b4
  try dsimp only
  repeat' first
    | with_reducible exact Lo.refl _
    | with_reducible refine Lo.bind ?_ (fun _ => ?_)
    | with_reducible refine Lo.ite ?_ ?_
    | with_reducible refine Lo.loop h (fun _ => ?_)
    | intro _
    | split
theorem vTexts_lo {N M : Nat} (h : N ≤ M)  (l : (List RVar)) (c : RClause) (ranges : (List Arr2Int)) : Lo (vTexts N l c ranges) (vTexts M l c ranges) := by
  unfold vTexts
  try dsimp only
  repeat' first
    | with_reducible exact Lo.refl _
    | with_reducible apply vTexts_b1_lo h
    | with_reducible apply vTexts_b2_lo h
    | with_reducible apply vTexts_b3_lo h
    | with_reducible apply vTexts_b4_lo h
    | with_reducible refine Lo.bind ?_ (fun _ => ?_)
    | with_reducible refine Lo.ite ?_ ?_
    | with_reducible refine Lo.loop h (fun _ => ?_)
    | intro _
    | split
theorem vcheck_step_lo {N M : Nat} (h : N ≤ M) {self self' : (List RVar) → RClause → Refut → (List Arr2Int) → Option Bool} (hself : ∀ y0 y1 y2 y3, Lo (self y0 y1 y2 y3) (self' y0 y1 y2 y3)) (l : (List RVar)) (c : RClause) (pc : Refut) (ranges : (List Arr2Int)) : Lo (vcheck_step N self l c pc ranges) (vcheck_step M self' l c pc ranges) := by
  unfold vcheck_step
  try dsimp only
  repeat' first
    | with_reducible exact Lo.refl _
    | with_reducible exact hself
    | with_reducible exact hself _ _ _ _
    | with_reducible apply cCheck_lo h
    | with_reducible apply cSystem_lo h
    | with_reducible apply containsOf_lo h
    | with_reducible apply vInts_lo h
    | with_reducible apply vTexts_lo h
    | with_reducible refine Lo.bind ?_ (fun _ => ?_)
    | with_reducible refine Lo.ite ?_ ?_
    | with_reducible refine Lo.loop h (fun _ => ?_)
    | intro _
    | split
theorem vcheck_lo : ∀ {N M : Nat} (_ : N ≤ M) a0 a1 a2 a3, Lo (vcheck N a0 a1 a2 a3) (vcheck M a0 a1 a2 a3)
  | 0, _, _ => fun _ _ _ _ => Lo.none
  | N + 1, 0, h => by omega
  | N + 1, M + 1, h => vcheck_step_lo (by omega) (vcheck_lo (by omega))
theorem vCheck_lo {N M : Nat} (h : N ≤ M)  (l : (List RVar)) (c : RClause) (pc : Refut) : Lo (vCheck N l c pc) (vCheck M l c pc) := by
  unfold vCheck
  try dsimp only
  repeat' first
    | with_reducible exact Lo.refl _
    | with_reducible apply vcheck_lo h
    | with_reducible apply vfirst_lo h
    | with_reducible refine Lo.bind ?_ (fun _ => ?_)
    | with_reducible refine Lo.ite ?_ ?_
    | with_reducible refine Lo.loop h (fun _ => ?_)
    | intro _
    | split
theorem vFormat_step_lo {N M : Nat} (h : N ≤ M) {self self' : Refut → Option (List UInt8)} (hself : ∀ y0, Lo (self y0) (self' y0)) (pa : Refut) : Lo (vFormat_step N self pa) (vFormat_step M self' pa) := by
  unfold vFormat_step
  try dsimp only
  repeat' first
    | with_reducible exact Lo.refl _
    | with_reducible exact hself
    | with_reducible exact hself _
    | with_reducible apply cSize_lo h
    | with_reducible apply fmtI_lo h
    | with_reducible refine Lo.bind ?_ (fun _ => ?_)
    | with_reducible refine Lo.ite ?_ ?_
    | with_reducible refine Lo.loop h (fun _ => ?_)
    | intro _
    | split
theorem vFormat_lo : ∀ {N M : Nat} (_ : N ≤ M) a0, Lo (vFormat N a0) (vFormat M a0)
  | 0, _, _ => fun _ => Lo.none
  | N + 1, 0, h => by omega
  | N + 1, M + 1, h => vFormat_step_lo (by omega) (vFormat_lo (by omega))
end Go.D
set_option maxRecDepth 100000
set_option linter.unusedVariables false
set_option linter.unusedSimpArgs false
namespace Go.D
open Go Go.X
theorem lbig_lo {N M : Nat} (h : N ≤ M)  (n : Int) : Lo (lbig N n) (lbig M n) := by
  unfold lbig
  try dsimp only
  repeat' first
    | with_reducible exact Lo.refl _
    | with_reducible apply rOf_lo h
    | with_reducible refine Lo.bind ?_ (fun _ => ?_)
    | with_reducible refine Lo.ite ?_ ?_
    | with_reducible refine Lo.loop h (fun _ => ?_)
    | intro _
    | split
theorem awake_lo {N M : Nat} (h : N ≤ M)   : Lo (awake N ) (awake M ) := by
  unfold awake
  try dsimp only
  repeat' first
    | with_reducible exact Lo.refl _
    | with_reducible apply lbig_lo h
    | with_reducible apply vCheck_lo h
    | with_reducible apply vFormat_lo h
    | with_reducible refine Lo.bind ?_ (fun _ => ?_)
    | with_reducible refine Lo.ite ?_ ?_
    | with_reducible refine Lo.loop h (fun _ => ?_)
    | intro _
    | split
end Go.D
set_option linter.unusedSimpArgs false
set_option linter.unusedVariables false
set_option maxRecDepth 100000
namespace Go.D
open Go Go.X
theorem awake_at : awake 100 = some true := by decide +kernel
theorem awake_tm : Tm (fun N => awake N) (fun r => r = true) := Lo.tm (f := fun N => awake N) (fun h => awake_lo h) awake_at
end Go.D
set_option linter.unusedSimpArgs false
set_option linter.unusedVariables false
namespace Go.D
open Go Go.X
theorem awake_end {Q : Bool → Prop} (h : Q true) : Tm (fun N => (awake N).bind fun r => some r) Q :=
  awake_tm.bind fun r hr => by subst hr; exact Tm.some h
theorem wRight_tm {l : List RVar} {rg : List Arr2Int} (h : rg.length ≤ Bg) : Tm (fun N => wRight N l rg) (fun r => r = true → RgOk l rg) := by
  have hb : Bg = 9223372036854775807 := rfl
  unfold wRight
  by_cases h0 : rg.length = l.length
  · refine Tm.neg (by simp [h0]) ?_
    refine Tm.bind (Q := fun o => match o with | .inl _ => ∀ r ∈ rg, (0 ≤ r.e0 ∧ r.e0 ≤ 16) ∧ 0 ≤ r.e1 ∧ r.e1 ≤ 16 | .inr z => z = false) ?_ fun o ho => ?_
    · refine Tm.up rg.length (fun k s => s = (k : Int) ∧ ∀ j (hj : j < rg.length), j < k → (0 ≤ rg[j].e0 ∧ rg[j].e0 ≤ 16) ∧ 0 ≤ rg[j].e1 ∧ rg[j].e1 ≤ 16) ⟨rfl, fun j _ hj => by omega⟩ ?_
      rintro k hk i ⟨rfl, hJ⟩
      unfold wRight_b1
      rcases Nat.lt_or_ge k rg.length with hlt | hge
      · refine Tm.pos (by omega) ?_
        simp only [idx_n hlt, Option.bind_some]
        refine Tm.bind (Q := fun b => b = false → (0 ≤ rg[k].e0 ∧ rg[k].e0 ≤ 16) ∧ 0 ≤ rg[k].e1 ∧ rg[k].e1 ≤ 16) ?_ fun b hb' => ?_
        · by_cases g1 : rg[k].e0 < 0
          · exact Tm.pos g1 (Tm.some fun e => by simp at e)
          · refine Tm.neg g1 ?_
            by_cases g2 : rg[k].e0 > 16
            · exact Tm.pos g2 (Tm.some fun e => by simp at e)
            · refine Tm.neg g2 ?_
              by_cases g3 : rg[k].e1 < 0
              · exact Tm.pos g3 (Tm.some fun e => by simp at e)
              · refine Tm.neg g3 (Tm.some fun e => ?_)
                have e := of_decide_eq_false e
                omega
        · cases b with
          | true => exact Tm.pos rfl (Tm.some rfl)
          | false =>
            refine Tm.neg (by simp) (Tm.some ⟨hlt, iw_n (by omega), fun j hj hjk => ?_⟩)
            by_cases ejk : j = k
            · subst ejk; exact hb' rfl
            · exact hJ j hj (by omega)
      · refine Tm.neg (by omega) (Tm.some fun x hx => ?_)
        obtain ⟨j, hj, rfl⟩ := List.getElem_of_mem hx
        exact hJ j hj (by omega)
    · cases o with
      | inl _ => exact Tm.some fun _ => ⟨h0, ho⟩
      | inr z =>
        have ho : z = false := ho
        subst ho
        exact Tm.some fun h => by simp at h
  · exact Tm.pos (by omega) (Tm.some fun e => by simp at e)
structure DmOk (l : List RVar) : Prop where
  len : l.length ≤ 10
  ty : ∀ x ∈ l, (x.Ty = 1 ∧ (-2147483648 ≤ x.Low ∧ x.Low ≤ 2147483647) ∧ -2147483648 ≤ x.High ∧ x.High ≤ 2147483647) ∨ (x.Ty = 2 ∧ 0 ≤ x.Max ∧ x.Max ≤ 16)
theorem wDomains_tm {l : List RVar} (h : l.length ≤ Bg) : Tm (fun N => wDomains N l) (fun r => r = true → DmOk l) := by
  have hb : Bg = 9223372036854775807 := rfl
  unfold wDomains
  refine Tm.bind (Q := fun o => match o with | .inl _ => ∀ x ∈ l, (x.Ty = 1 ∧ (-2147483648 ≤ x.Low ∧ x.Low ≤ 2147483647) ∧ -2147483648 ≤ x.High ∧ x.High ≤ 2147483647) ∨ (x.Ty = 2 ∧ 0 ≤ x.Max ∧ x.Max ≤ 16) | .inr z => z = false) ?_ fun o ho => ?_
  · refine Tm.up l.length (fun k s => s = (k : Int) ∧ ∀ j (hj : j < l.length), j < k → (l[j].Ty = 1 ∧ (-2147483648 ≤ l[j].Low ∧ l[j].Low ≤ 2147483647) ∧ -2147483648 ≤ l[j].High ∧ l[j].High ≤ 2147483647) ∨ (l[j].Ty = 2 ∧ 0 ≤ l[j].Max ∧ l[j].Max ≤ 16)) ⟨rfl, fun j _ hj => by omega⟩ ?_
    rintro k hk i ⟨rfl, hJ⟩
    unfold wDomains_b1
    rcases Nat.lt_or_ge k l.length with hlt | hge
    · refine Tm.pos (by omega) (Tm.step (idx_n hlt) ?_)
      refine Tm.bind (Q := fun b => b = false → l[k].Ty = 1 → (-2147483648 ≤ l[k].Low ∧ l[k].Low ≤ 2147483647) ∧ -2147483648 ≤ l[k].High ∧ l[k].High ≤ 2147483647) ?_ fun b hb' => ?_
      · by_cases g0 : l[k].Ty = 1
        · refine Tm.pos g0 ?_
          by_cases g1 : l[k].Low < -2147483648
          · exact Tm.pos g1 (Tm.some fun e => by simp at e)
          · refine Tm.neg g1 ?_
            by_cases g2 : l[k].Low > 2147483647
            · exact Tm.pos g2 (Tm.some fun e => by simp at e)
            · refine Tm.neg g2 ?_
              by_cases g3 : l[k].High < -2147483648
              · exact Tm.pos g3 (Tm.some fun e => by simp at e)
              · refine Tm.neg g3 (Tm.some fun e _ => ?_)
                have e := of_decide_eq_false e
                omega
        · exact Tm.neg g0 (Tm.some fun _ h => absurd h g0)
      · cases b with
        | true => exact Tm.pos rfl (Tm.some rfl)
        | false =>
          refine Tm.neg (by simp) ?_
          refine Tm.bind (Q := fun b => b = false → (l[k].Ty = 1 ∨ l[k].Ty = 2) ∧ (l[k].Ty = 2 → 0 ≤ l[k].Max ∧ l[k].Max ≤ 16)) ?_ fun b2 hb2 => ?_
          · have hty : Tm (fun N => (if l[k].Ty ≠ 1 then some (decide (l[k].Ty ≠ 2)) else some false : Option Bool)) (fun b => b = false → l[k].Ty = 1 ∨ l[k].Ty = 2) := by
              by_cases g : l[k].Ty ≠ 1
              · exact Tm.pos g (Tm.some fun e => .inr (by have e := of_decide_eq_false e; omega))
              · exact Tm.neg g (Tm.some fun _ => .inl (by omega))
            by_cases g0 : l[k].Ty = 2
            · refine Tm.pos g0 ?_
              by_cases g1 : l[k].Max < 0
              · exact Tm.pos g1 (Tm.some fun e => by simp at e)
              · refine Tm.neg g1 ?_
                by_cases g2 : l[k].Max > 16
                · exact Tm.pos g2 (Tm.some fun e => by simp at e)
                · exact Tm.neg g2 (hty.mono fun b hb e => ⟨hb e, fun _ => by omega⟩)
            · exact Tm.neg g0 (hty.mono fun b hb e => ⟨hb e, fun h => absurd h g0⟩)
          · cases b2 with
            | true => exact Tm.pos rfl (Tm.some rfl)
            | false =>
              refine Tm.neg (by simp) (Tm.some ⟨hlt, iw_n (by omega), fun j hj hjk => ?_⟩)
              by_cases ejk : j = k
              · subst ejk
                obtain ⟨p1, p2⟩ := hb2 rfl
                rcases p1 with p1 | p1
                · exact .inl ⟨p1, hb' rfl p1⟩
                · exact .inr ⟨p1, p2 p1⟩
              · exact hJ j hj (by omega)
    · refine Tm.neg (by omega) (Tm.some fun x hx => ?_)
      obtain ⟨j, hj, rfl⟩ := List.getElem_of_mem hx
      exact hJ j hj (by omega)
  · cases o with
    | inl _ => exact Tm.some fun e => ⟨by have := of_decide_eq_true e; omega, ho⟩
    | inr z =>
      have ho : z = false := ho
      subst ho
      exact Tm.some fun h => by simp at h
structure LimX (x : RCase) : Prop where
  l : x.L.length ≤ Bg
  rg : x.Ranges.length ≤ Bg
  c : LimC x.C
  w : LwC x.C
structure Rgt (x : RCase) : Prop where
  d : DmOk x.L
  s : SmC x.C
  v : ClOk x.C x.L
  r : RgOk x.L x.Ranges
theorem lright_tm {x : RCase} (h : LimX x) : Tm (fun N => lright N x) (fun r => r = true → Rgt x) := by
  unfold lright
  refine (wDomains_tm h.l).bind fun r1 h1 => ?_
  cases r1 with
  | false => exact Tm.neg (by simp) (Tm.some fun e => by simp at e)
  | true =>
    refine Tm.pos rfl ((sFew_tm h.w).bind fun r2 h2 => ?_)
    cases r2 with
    | false => exact Tm.neg (by simp) (Tm.some fun e => by simp at e)
    | true =>
      refine Tm.pos rfl ((sValid_tm h.c (h2 rfl) (h1 rfl).len).bind fun r3 h3 => ?_)
      cases r3 with
      | false => exact Tm.neg (by simp) (Tm.some fun e => by simp at e)
      | true => exact Tm.pos rfl ((wRight_tm h.rg).bind fun r4 h4 => Tm.some fun e => ⟨h1 rfl, h2 rfl, h3 rfl, h4 e⟩)
end Go.D
set_option maxRecDepth 100000
set_option linter.unusedVariables false
set_option linter.unusedSimpArgs false
namespace Go.Proofs.YtcakdidcpoolcaaGreatDoor.Q25
open Go Go.ChangeShapes Go.WideShapes Go.ChangeAt Go.RowKit Go.X Go.D
section
variable {H : Type} {enc : TypeId × Value → H} {W : World}
def G3 (x : Int) : Prop := (Lit.int .i64 x).wf = true
theorem o3 : ∀ N, Opn enc Tryz.prog W N (rInt .i64) 3 G3 := fun N => Opn.int Tryz.underlying3
def G2 (x : Int) : Prop := (Lit.int .i64 x).wf = true
theorem o2 : ∀ N, Opn enc Tryz.prog W N (rInt .i64) 2 G2 := fun N => Opn.int Tryz.underlying2
def G4 (_ : Bool) : Prop := True
theorem o4 : ∀ N, Opn enc Tryz.prog W N rBool 4 G4 := fun N => Opn.bool Tryz.underlying4
def G83 (x : RVar) : Prop := G3 x.Ty ∧ G2 x.Low ∧ G2 x.High ∧ G3 x.Max ∧ G4 x.Nullable ∧ True
theorem o83 : ∀ N, Opn enc Tryz.prog W N rRVar 83 G83 := by
  intro N fuel hf cs x h
  obtain ⟨hl, n, hn, hfs⟩ := trod_fields Tryz.underlying83 h
  have hl : cs.length = 5 := hl
  match cs, hl with
  | [c0, c1, c2, c3, c4], _ =>
    obtain ⟨y0, h0⟩ := hfs 0 _ rfl
    obtain ⟨a0, r0, g0⟩ := o3 n n (Nat.le_refl _) _ _ h0
    have r0 : (rInt .i64).R (HW W) [c0] a0 := r0
    have r0 : [c0] = [.int .i64 a0] := r0
    cases r0
    obtain ⟨y1, h1⟩ := hfs 1 _ rfl
    obtain ⟨a1, r1, g1⟩ := o2 n n (Nat.le_refl _) _ _ h1
    have r1 : (rInt .i64).R (HW W) [c1] a1 := r1
    have r1 : [c1] = [.int .i64 a1] := r1
    cases r1
    obtain ⟨y2, h2⟩ := hfs 2 _ rfl
    obtain ⟨a2, r2, g2⟩ := o2 n n (Nat.le_refl _) _ _ h2
    have r2 : (rInt .i64).R (HW W) [c2] a2 := r2
    have r2 : [c2] = [.int .i64 a2] := r2
    cases r2
    obtain ⟨y3, h3⟩ := hfs 3 _ rfl
    obtain ⟨a3, r3, g3⟩ := o3 n n (Nat.le_refl _) _ _ h3
    have r3 : (rInt .i64).R (HW W) [c3] a3 := r3
    have r3 : [c3] = [.int .i64 a3] := r3
    cases r3
    obtain ⟨y4, h4⟩ := hfs 4 _ rfl
    obtain ⟨a4, r4, g4⟩ := o4 n n (Nat.le_refl _) _ _ h4
    have r4 : rBool.R (HW W) [c4] a4 := r4
    have r4 : [c4] = [.bool a4] := r4
    cases r4
    exact ⟨⟨a0, a1, a2, a3, a4⟩, ⟨rfl, trivial⟩, ⟨g0, g1, g2, g3, g4, trivial⟩⟩
def G22 (xs : (List RVar)) : Prop := xs.length ≤ 9223372036854775807 ∧ ∀ x ∈ xs, G83 x
theorem o22 : ∀ N, Opn enc Tryz.prog W N (rSl rRVar) 22 G22 := fun N => Opn.less (Opn.slice Tryz.underlying22 (by kernel_rfl) rfl (o83 N))
def G23 (xs : (List Int)) : Prop := xs.length ≤ 9223372036854775807 ∧ ∀ x ∈ xs, G3 x
theorem o23 : ∀ N, Opn enc Tryz.prog W N (rSl (rInt .i64)) 23 G23 := fun N => Opn.less (Opn.slice Tryz.underlying23 (by kernel_rfl) rfl (o3 N))
def G87 (x : Coef) : Prop := G3 x.Var ∧ G2 x.N ∧ True
theorem o87 : ∀ N, Opn enc Tryz.prog W N rCoef 87 G87 := by
  intro N fuel hf cs x h
  obtain ⟨hl, n, hn, hfs⟩ := trod_fields Tryz.underlying87 h
  have hl : cs.length = 2 := hl
  match cs, hl with
  | [c0, c1], _ =>
    obtain ⟨y0, h0⟩ := hfs 0 _ rfl
    obtain ⟨a0, r0, g0⟩ := o3 n n (Nat.le_refl _) _ _ h0
    have r0 : (rInt .i64).R (HW W) [c0] a0 := r0
    have r0 : [c0] = [.int .i64 a0] := r0
    cases r0
    obtain ⟨y1, h1⟩ := hfs 1 _ rfl
    obtain ⟨a1, r1, g1⟩ := o2 n n (Nat.le_refl _) _ _ h1
    have r1 : (rInt .i64).R (HW W) [c1] a1 := r1
    have r1 : [c1] = [.int .i64 a1] := r1
    cases r1
    exact ⟨⟨a0, a1⟩, ⟨rfl, trivial⟩, ⟨g0, g1, trivial⟩⟩
def G88 (xs : (List Coef)) : Prop := xs.length ≤ 9223372036854775807 ∧ ∀ x ∈ xs, G87 x
theorem o88 : ∀ N, Opn enc Tryz.prog W N (rSl rCoef) 88 G88 := fun N => Opn.less (Opn.slice Tryz.underlying88 (by kernel_rfl) rfl (o87 N))
def G90 (x : Linear) : Prop := G2 x.Const ∧ G88 x.Coefs ∧ True
theorem o90 : ∀ N, Opn enc Tryz.prog W N rLinear 90 G90 := by
  intro N fuel hf cs x h
  obtain ⟨hl, n, hn, hfs⟩ := trod_fields Tryz.underlying90 h
  have hl : cs.length = 2 := hl
  match cs, hl with
  | [c0, c1], _ =>
    obtain ⟨y0, h0⟩ := hfs 0 _ rfl
    obtain ⟨a0, r0, g0⟩ := o2 n n (Nat.le_refl _) _ _ h0
    have r0 : (rInt .i64).R (HW W) [c0] a0 := r0
    have r0 : [c0] = [.int .i64 a0] := r0
    cases r0
    obtain ⟨y1, h1⟩ := hfs 1 _ rfl
    obtain ⟨a1, r1, g1⟩ := o88 n n (Nat.le_refl _) _ _ h1
    have r1 : (rSl rCoef).R (HW W) [c1] a1 := r1
    obtain ⟨v1, e1, k1⟩ := r1
    cases e1
    exact ⟨⟨a0, a1⟩, ⟨_, rfl, k1, trivial⟩, ⟨g0, g1, trivial⟩⟩
def G104 (x : RAux) : Prop := G90 x.Of ∧ G2 x.By ∧ G3 x.Text ∧ True
theorem o104 : ∀ N, Opn enc Tryz.prog W N rRAux 104 G104 := by
  intro N fuel hf cs x h
  obtain ⟨hl, n, hn, hfs⟩ := trod_fields Tryz.underlying104 h
  have hl : cs.length = 4 := hl
  match cs, hl with
  | [c0, c1, c2, c3], _ =>
    obtain ⟨y0, h0⟩ := hfs 0 _ rfl
    obtain ⟨a0, r0, g0⟩ := o90 n n (Nat.le_refl _) _ _ h0
    have r0 : rLinear.R (HW W) [c0, c1] a0 := r0
    obtain ⟨v0_0, e0, k0_0, -⟩ := r0
    cases e0
    obtain ⟨y1, h1⟩ := hfs 1 _ rfl
    obtain ⟨a1, r1, g1⟩ := o2 n n (Nat.le_refl _) _ _ h1
    have r1 : (rInt .i64).R (HW W) [c2] a1 := r1
    have r1 : [c2] = [.int .i64 a1] := r1
    cases r1
    obtain ⟨y2, h2⟩ := hfs 2 _ rfl
    obtain ⟨a2, r2, g2⟩ := o3 n n (Nat.le_refl _) _ _ h2
    have r2 : (rInt .i64).R (HW W) [c3] a2 := r2
    have r2 : [c3] = [.int .i64 a2] := r2
    cases r2
    exact ⟨⟨a0, a1, a2⟩, ⟨_, rfl, k0_0, trivial⟩, ⟨g0, g1, g2, trivial⟩⟩
def G24 (xs : (List RAux)) : Prop := xs.length ≤ 9223372036854775807 ∧ ∀ x ∈ xs, G104 x
theorem o24 : ∀ N, Opn enc Tryz.prog W N (rSl rRAux) 24 G24 := fun N => Opn.less (Opn.slice Tryz.underlying24 (by kernel_rfl) rfl (o104 N))
def G92 (x : Constraint) : Prop := G90 x.Linear ∧ G4 x.Equal ∧ True
theorem o92 : ∀ N, Opn enc Tryz.prog W N rConstraint 92 G92 := by
  intro N fuel hf cs x h
  obtain ⟨hl, n, hn, hfs⟩ := trod_fields Tryz.underlying92 h
  have hl : cs.length = 3 := hl
  match cs, hl with
  | [c0, c1, c2], _ =>
    obtain ⟨y0, h0⟩ := hfs 0 _ rfl
    obtain ⟨a0, r0, g0⟩ := o90 n n (Nat.le_refl _) _ _ h0
    have r0 : rLinear.R (HW W) [c0, c1] a0 := r0
    obtain ⟨v0_0, e0, k0_0, -⟩ := r0
    cases e0
    obtain ⟨y1, h1⟩ := hfs 1 _ rfl
    obtain ⟨a1, r1, g1⟩ := o4 n n (Nat.le_refl _) _ _ h1
    have r1 : rBool.R (HW W) [c2] a1 := r1
    have r1 : [c2] = [.bool a1] := r1
    cases r1
    exact ⟨⟨a0, a1⟩, ⟨_, rfl, k0_0, trivial⟩, ⟨g0, g1, trivial⟩⟩
def G25 (xs : (List Constraint)) : Prop := xs.length ≤ 9223372036854775807 ∧ ∀ x ∈ xs, G92 x
theorem o25 : ∀ N, Opn enc Tryz.prog W N (rSl rConstraint) 25 G25 := fun N => Opn.less (Opn.slice Tryz.underlying25 (by kernel_rfl) rfl (o92 N))
def G9 (s : List UInt8) : Prop := s.length ≤ 9223372036854775807
theorem o9 : ∀ N, Opn enc Tryz.prog W N rStr 9 G9 := fun N => Opn.strL Tryz.underlying9
def G112 (x : TTest) : Prop := G3 x.Var ∧ G3 x.Kind ∧ G4 x.Negated ∧ G9 x.Text ∧ True
theorem o112 : ∀ N, Opn enc Tryz.prog W N rTTest 112 G112 := by
  intro N fuel hf cs x h
  obtain ⟨hl, n, hn, hfs⟩ := trod_fields Tryz.underlying112 h
  have hl : cs.length = 4 := hl
  match cs, hl with
  | [c0, c1, c2, c3], _ =>
    obtain ⟨y0, h0⟩ := hfs 0 _ rfl
    obtain ⟨a0, r0, g0⟩ := o3 n n (Nat.le_refl _) _ _ h0
    have r0 : (rInt .i64).R (HW W) [c0] a0 := r0
    have r0 : [c0] = [.int .i64 a0] := r0
    cases r0
    obtain ⟨y1, h1⟩ := hfs 1 _ rfl
    obtain ⟨a1, r1, g1⟩ := o3 n n (Nat.le_refl _) _ _ h1
    have r1 : (rInt .i64).R (HW W) [c1] a1 := r1
    have r1 : [c1] = [.int .i64 a1] := r1
    cases r1
    obtain ⟨y2, h2⟩ := hfs 2 _ rfl
    obtain ⟨a2, r2, g2⟩ := o4 n n (Nat.le_refl _) _ _ h2
    have r2 : rBool.R (HW W) [c2] a2 := r2
    have r2 : [c2] = [.bool a2] := r2
    cases r2
    obtain ⟨y3, h3⟩ := hfs 3 _ rfl
    obtain ⟨a3, r3, g3⟩ := o9 n n (Nat.le_refl _) _ _ h3
    have r3 : rStr.R (HW W) [c3] a3 := r3
    have r3 : [c3] = [.string (s8 a3)] := r3
    cases r3
    exact ⟨⟨a0, a1, a2, a3⟩, ⟨rfl, trivial⟩, ⟨g0, g1, g2, g3, trivial⟩⟩
def G26 (xs : (List TTest)) : Prop := xs.length ≤ 9223372036854775807 ∧ ∀ x ∈ xs, G112 x
theorem o26 : ∀ N, Opn enc Tryz.prog W N (rSl rTTest) 26 G26 := fun N => Opn.less (Opn.slice Tryz.underlying26 (by kernel_rfl) rfl (o112 N))
def G54 (x : Arr2Int) : Prop := G3 x.e0 ∧ G3 x.e1 ∧ True
theorem o54 : ∀ N, Opn enc Tryz.prog W N rArr2Int 54 G54 := by
  intro N fuel hf cs x h
  obtain ⟨hl, n, hn, hfs⟩ := trod_elems Tryz.underlying54 h
  have hl : cs.length = 2 := hl
  match cs, hl with
  | [c0, c1], _ =>
    obtain ⟨y0, h0⟩ := hfs 0 (by decide)
    obtain ⟨a0, r0, g0⟩ := o3 n n (Nat.le_refl _) _ _ h0
    have r0 : (rInt .i64).R (HW W) [c0] a0 := r0
    have r0 : [c0] = [.int .i64 a0] := r0
    cases r0
    obtain ⟨y1, h1⟩ := hfs 1 (by decide)
    obtain ⟨a1, r1, g1⟩ := o3 n n (Nat.le_refl _) _ _ h1
    have r1 : (rInt .i64).R (HW W) [c1] a1 := r1
    have r1 : [c1] = [.int .i64 a1] := r1
    cases r1
    exact ⟨⟨a0, a1⟩, ⟨rfl, trivial⟩, ⟨g0, g1, trivial⟩⟩
def G27 (xs : (List Arr2Int)) : Prop := xs.length ≤ 9223372036854775807 ∧ ∀ x ∈ xs, G54 x
theorem o27 : ∀ N, Opn enc Tryz.prog W N (rSl rArr2Int) 27 G27 := fun N => Opn.less (Opn.slice Tryz.underlying27 (by kernel_rfl) rfl (o54 N))
def G29 (x : RClause) : Prop := G23 x.Null ∧ G23 x.NotNull ∧ G24 x.Auxiliary ∧ G25 x.Ints ∧ G26 x.Tests ∧ G27 x.Same ∧ G27 x.Different ∧ True
theorem o29 : ∀ N, Opn enc Tryz.prog W N rRClause 29 G29 := by
  intro N fuel hf cs x h
  obtain ⟨hl, n, hn, hfs⟩ := trod_fields Tryz.underlying29 h
  have hl : cs.length = 7 := hl
  match cs, hl with
  | [c0, c1, c2, c3, c4, c5, c6], _ =>
    obtain ⟨y0, h0⟩ := hfs 0 _ rfl
    obtain ⟨a0, r0, g0⟩ := o23 n n (Nat.le_refl _) _ _ h0
    have r0 : (rSl (rInt .i64)).R (HW W) [c0] a0 := r0
    obtain ⟨v0, e0, k0⟩ := r0
    cases e0
    obtain ⟨y1, h1⟩ := hfs 1 _ rfl
    obtain ⟨a1, r1, g1⟩ := o23 n n (Nat.le_refl _) _ _ h1
    have r1 : (rSl (rInt .i64)).R (HW W) [c1] a1 := r1
    obtain ⟨v1, e1, k1⟩ := r1
    cases e1
    obtain ⟨y2, h2⟩ := hfs 2 _ rfl
    obtain ⟨a2, r2, g2⟩ := o24 n n (Nat.le_refl _) _ _ h2
    have r2 : (rSl rRAux).R (HW W) [c2] a2 := r2
    obtain ⟨v2, e2, k2⟩ := r2
    cases e2
    obtain ⟨y3, h3⟩ := hfs 3 _ rfl
    obtain ⟨a3, r3, g3⟩ := o25 n n (Nat.le_refl _) _ _ h3
    have r3 : (rSl rConstraint).R (HW W) [c3] a3 := r3
    obtain ⟨v3, e3, k3⟩ := r3
    cases e3
    obtain ⟨y4, h4⟩ := hfs 4 _ rfl
    obtain ⟨a4, r4, g4⟩ := o26 n n (Nat.le_refl _) _ _ h4
    have r4 : (rSl rTTest).R (HW W) [c4] a4 := r4
    obtain ⟨v4, e4, k4⟩ := r4
    cases e4
    obtain ⟨y5, h5⟩ := hfs 5 _ rfl
    obtain ⟨a5, r5, g5⟩ := o27 n n (Nat.le_refl _) _ _ h5
    have r5 : (rSl rArr2Int).R (HW W) [c5] a5 := r5
    obtain ⟨v5, e5, k5⟩ := r5
    cases e5
    obtain ⟨y6, h6⟩ := hfs 6 _ rfl
    obtain ⟨a6, r6, g6⟩ := o27 n n (Nat.le_refl _) _ _ h6
    have r6 : (rSl rArr2Int).R (HW W) [c6] a6 := r6
    obtain ⟨v6, e6, k6⟩ := r6
    cases e6
    exact ⟨⟨a0, a1, a2, a3, a4, a5, a6⟩, ⟨_, _, _, _, _, _, _, rfl, k0, k1, k2, k3, k4, k5, k6, trivial⟩, ⟨g0, g1, g2, g3, g4, g5, g6, trivial⟩⟩
def G53 (x : RVal) : Prop := G3 x.Kind ∧ G2 x.Int ∧ G9 x.Text ∧ True
theorem o53 : ∀ N, Opn enc Tryz.prog W N rRVal 53 G53 := by
  intro N fuel hf cs x h
  obtain ⟨hl, n, hn, hfs⟩ := trod_fields Tryz.underlying53 h
  have hl : cs.length = 3 := hl
  match cs, hl with
  | [c0, c1, c2], _ =>
    obtain ⟨y0, h0⟩ := hfs 0 _ rfl
    obtain ⟨a0, r0, g0⟩ := o3 n n (Nat.le_refl _) _ _ h0
    have r0 : (rInt .i64).R (HW W) [c0] a0 := r0
    have r0 : [c0] = [.int .i64 a0] := r0
    cases r0
    obtain ⟨y1, h1⟩ := hfs 1 _ rfl
    obtain ⟨a1, r1, g1⟩ := o2 n n (Nat.le_refl _) _ _ h1
    have r1 : (rInt .i64).R (HW W) [c1] a1 := r1
    have r1 : [c1] = [.int .i64 a1] := r1
    cases r1
    obtain ⟨y2, h2⟩ := hfs 2 _ rfl
    obtain ⟨a2, r2, g2⟩ := o9 n n (Nat.le_refl _) _ _ h2
    have r2 : rStr.R (HW W) [c2] a2 := r2
    have r2 : [c2] = [.string (s8 a2)] := r2
    cases r2
    exact ⟨⟨a0, a1, a2⟩, ⟨rfl, trivial⟩, ⟨g0, g1, g2, trivial⟩⟩
def G31 (xs : (List RVal)) : Prop := xs.length ≤ 9223372036854775807 ∧ ∀ x ∈ xs, G53 x
theorem o31 : ∀ N, Opn enc Tryz.prog W N (rSl rRVal) 31 G31 := fun N => Opn.less (Opn.slice Tryz.underlying31 (by kernel_rfl) rfl (o53 N))
def G33 (x : RCase) : Prop := G22 x.L ∧ G29 x.C ∧ G27 x.Ranges ∧ G31 x.R ∧ True
theorem o33 : ∀ N, Opn enc Tryz.prog W N rRCase 33 G33 := by
  intro N fuel hf cs x h
  obtain ⟨hl, n, hn, hfs⟩ := trod_fields Tryz.underlying33 h
  have hl : cs.length = 10 := hl
  match cs, hl with
  | [c0, c1, c2, c3, c4, c5, c6, c7, c8, c9], _ =>
    obtain ⟨y0, h0⟩ := hfs 0 _ rfl
    obtain ⟨a0, r0, g0⟩ := o22 n n (Nat.le_refl _) _ _ h0
    have r0 : (rSl rRVar).R (HW W) [c0] a0 := r0
    obtain ⟨v0, e0, k0⟩ := r0
    cases e0
    obtain ⟨y1, h1⟩ := hfs 1 _ rfl
    obtain ⟨a1, r1, g1⟩ := o29 n n (Nat.le_refl _) _ _ h1
    have r1 : rRClause.R (HW W) [c1, c2, c3, c4, c5, c6, c7] a1 := r1
    obtain ⟨v1_0, v1_1, v1_2, v1_3, v1_4, v1_5, v1_6, e1, k1_0, k1_1, k1_2, k1_3, k1_4, k1_5, k1_6, -⟩ := r1
    cases e1
    obtain ⟨y2, h2⟩ := hfs 2 _ rfl
    obtain ⟨a2, r2, g2⟩ := o27 n n (Nat.le_refl _) _ _ h2
    have r2 : (rSl rArr2Int).R (HW W) [c8] a2 := r2
    obtain ⟨v2, e2, k2⟩ := r2
    cases e2
    obtain ⟨y3, h3⟩ := hfs 3 _ rfl
    obtain ⟨a3, r3, g3⟩ := o31 n n (Nat.le_refl _) _ _ h3
    have r3 : (rSl rRVal).R (HW W) [c9] a3 := r3
    obtain ⟨v3, e3, k3⟩ := r3
    cases e3
    exact ⟨⟨a0, a1, a2, a3⟩, ⟨_, _, _, _, _, _, _, _, _, _, rfl, k0, k1_0, k1_1, k1_2, k1_3, k1_4, k1_5, k1_6, k2, k3, trivial⟩, ⟨g0, g1, g2, g3, trivial⟩⟩
theorem limc_of {c : RClause} (h : G29 c) : LimC c := ⟨h.1.1, h.2.1.1, fun a ha => (h.2.2.1.2 a ha).1.2.1.1, fun k hk => (h.2.2.2.1.2 k hk).1.2.1.1, fun t ht => (h.2.2.2.2.1.2 t ht).2.2.2.1⟩
theorem limx_of {x : RCase} (h : G33 x) (w : LwC x.C) : LimX x := ⟨h.1.1, h.2.2.1.1, limc_of h.2.1, w⟩
theorem limr_of {x : RCase} (h : G33 x) : x.R.length ≤ Bg ∧ ∀ v ∈ x.R, v.Text.length ≤ Bg := ⟨h.2.2.2.1.1, fun v hv => (h.2.2.2.1.2 v hv).2.2.1⟩
end
end Go.Proofs.YtcakdidcpoolcaaGreatDoor.Q25
set_option linter.unusedSimpArgs false
set_option linter.unusedVariables false
namespace Go.D
open Go Go.X
theorem qPrintable_tm {s : List UInt8} (hl : s.length ≤ Bg) : Tm (fun N => qPrintable N s) (· = s.all prn) := by
  have hb : Bg = 9223372036854775807 := rfl
  unfold qPrintable
  refine (Tm.allL (b := fun N => qPrintable_b1 N s) s prn (by omega) (fun k hk => ?_) ?_).eq ?_
  · unfold qPrintable_b1
    refine Tm.pos (by omega) ?_
    simp only [idx_n hk, Option.bind_some, or_if, prn_bad]
    cases prn s[k] <;> exact Tm.some rfl
  · unfold qPrintable_b1
    exact Tm.neg (by omega) (Tm.some rfl)
  · cases h : s.all prn <;> exact Tm.some rfl
def okS (k : Int) : Bool := decide (0 ≤ k ∧ k ≤ 16)
def okV (n : Nat) (v : Int) : Bool := decide (0 ≤ v ∧ v < n)
structure Lim (p : TProb) : Prop where
  a : p.Min.length ≤ Bg
  b : p.Max.length ≤ Bg
  c : p.Tests.length ≤ Bg
  d : p.Same.length ≤ Bg
  e : p.Different.length ≤ Bg
  f : ∀ t ∈ p.Tests, t.Text.length ≤ Bg
end Go.D
set_option linter.unusedSimpArgs false
set_option linter.unusedVariables false
namespace Go.D
open Go Go.X
def bits (S : Nat → Bool) : Nat → Nat
  | 0 => 0
  | n + 1 => bits S n ||| (if S n then 2 ^ n else 0)
theorem bits_test {S : Nat → Bool} : ∀ {n i : Nat}, (bits S n).testBit i = (decide (i < n) && S i)
  | 0, i => by simp [bits]
  | n + 1, i => by
    rw [bits, Nat.testBit_or, bits_test]
    by_cases hS : S n
    · rw [if_pos hS, Nat.testBit_two_pow]
      by_cases hi : i = n
      · subst hi; simp [hS]
      · have h1 : decide (n = i) = false := decide_eq_false (fun h => hi h.symm)
        have h2 : decide (i < n + 1) = decide (i < n) := decide_eq_decide.2 (by omega)
        rw [h1, h2]; simp
    · rw [if_neg hS]
      by_cases hi : i = n
      · subst hi; simp [hS]
      · have h2 : decide (i < n + 1) = decide (i < n) := decide_eq_decide.2 (by omega)
        rw [h2]; simp
theorem bits_lt {S : Nat → Bool} {n : Nat} : bits S n < 2 ^ n := Nat.lt_pow_two_of_testBit _ fun i hi => by
  rw [bits_test, decide_eq_false (by omega)]; rfl
theorem u32_n {a : Nat} (h : a < 4294967296) : IntKind.u32.wrap (a : Int) = (a : Int) := wq_u32 rfl h
theorem bsh {i : Nat} (hi : i ≤ 31) : bshl .u32 1 (i : Int) = ((2 ^ i : Nat) : Int) := by
  unfold bshl
  rw [show min ((i : Int)).toNat IntKind.u32.bits = i by show min _ 32 = i; omega]
  have h : 2 ^ i < 4294967296 := Nat.lt_of_le_of_lt (Nat.pow_le_pow_right (by decide) hi) (by decide)
  rw [Int.one_mul, show ((2 : Int) ^ i) = ((2 ^ i : Nat) : Int) by simp]
  exact u32_n h
theorem bs {m i n : Nat} (hm : m < 2 ^ (n + 1)) (hi : i ≤ n) (hn : n ≤ 16) : bor .u32 (m : Int) (bshl .u32 1 (i : Int)) = ((m ||| 2 ^ i : Nat) : Int) ∧ m ||| 2 ^ i < 2 ^ (n + 1) := by
  have h17 : 2 ^ (n + 1) ≤ 2 ^ 17 := Nat.pow_le_pow_right (by decide) (by omega)
  have h2 : 2 ^ i < 2 ^ (n + 1) := Nat.pow_lt_pow_right (by decide) (by omega)
  refine ⟨?_, Nat.or_lt_two_pow hm h2⟩
  rw [bsh (by omega), bor_nat (u32_n (by omega)) (u32_n (by omega))]
def isP (o : Option UInt8) : Bool := decide (o = some 37)
def clo (p : List UInt8) (S : Nat → Bool) : Nat → Bool
  | 0 => S 0
  | i + 1 => S (i + 1) || (clo p S i && isP p[i]?)
def hit (o : Option UInt8) (c : Int) : Bool := match o with
  | some b => decide (b ≠ 37) && (decide (b = 95) || decide ((b.toNat : Int) = c))
  | none => false
def nxs (p : List UInt8) (S : Nat → Bool) (c : Int) : Nat → Bool := fun j => (S j && isP p[j]?) || (match j with | 0 => false | i + 1 => S i && hit p[i]? c)
theorem u8_37 {b : UInt8} : ((b.toNat : Int) = 37) ↔ b = 37 := by
  constructor
  · intro h; apply UInt8.toNat_inj.1; show b.toNat = 37; omega
  · rintro rfl; rfl
theorem u8_95 {b : UInt8} : ((b.toNat : Int) = 95) ↔ b = 95 := by
  constructor
  · intro h; apply UInt8.toNat_inj.1; show b.toNat = 95; omega
  · rintro rfl; rfl
structure StOk (t : TTest) (s : Int) : Prop where
  lk : t.Kind = 1 → ∃ m : Nat, s = (m : Int) ∧ m < 2 ^ (t.Text.length + 1)
  cm : t.Kind ≠ 1 → s = 100 ∨ s = 101 ∨ (0 ≤ s ∧ s ≤ t.Text.length)
def sp0 (t : TTest) : Int := if t.Kind = 1 then ((bits (clo t.Text (Nat.testBit 1)) (t.Text.length + 1) : Nat) : Int) else 0
def cmpN (x : List UInt8) (s c : Int) : Int := if s ≥ 100 then s else if s = x.length ∨ c > ((x.getD s.toNat 0).toNat : Int) then 101 else if c < ((x.getD s.toNat 0).toNat : Int) then 100 else s + 1
def spN (t : TTest) (s c : Int) : Int := if t.Kind = 1 then ((bits (clo t.Text (Nat.testBit (bits (nxs t.Text (Nat.testBit s.toNat) c) (t.Text.length + 1)))) (t.Text.length + 1) : Nat) : Int) else cmpN t.Text s c
def spF (t : TTest) (s : Int) : Bool :=
  let ok := if t.Kind = 1 then s.toNat.testBit t.Text.length else if t.Kind = 0 then decide (s = t.Text.length) else if t.Kind = 2 then decide (s = 100 ∨ s < t.Text.length) else decide (s = 100 ∨ s ≤ t.Text.length)
  !(ok == t.Negated)
theorem okT_len {t : TTest} (h : okT t = true) : 0 ≤ t.Kind ∧ t.Kind ≤ 3 ∧ t.Text.length ≤ 16 := by
  simp only [okT, Bool.and_eq_true, decide_eq_true_eq] at h; exact h.1
theorem st0_ok {t : TTest} (h : okT t = true) : StOk t (sp0 t) := by
  constructor
  · intro hk; unfold sp0; rw [if_pos hk]; exact ⟨_, rfl, bits_lt⟩
  · intro hk; unfold sp0; rw [if_neg hk]; exact .inr (.inr ⟨by decide, by omega⟩)
theorem stN_ok {t : TTest} {s : Int} (c : Int) (h : okT t = true) (hs : StOk t s) : StOk t (spN t s c) := by
  constructor
  · intro hk; unfold spN; rw [if_pos hk]; exact ⟨_, rfl, bits_lt⟩
  · intro hk
    unfold spN; rw [if_neg hk]
    unfold cmpN
    have h16 := (okT_len h).2.2
    rcases hs.cm hk with h1 | h1 | h1
    · rw [if_pos (by omega)]; exact .inl h1
    · rw [if_pos (by omega)]; exact .inr (.inl h1)
    · rw [if_neg (by omega)]
      split
      · exact .inr (.inl rfl)
      · rename_i hn
        split
        · exact .inl rfl
        · exact .inr (.inr ⟨by omega, by omega⟩)
def run (t : TTest) (s : Int) (x : List Int) : Int := x.foldl (spN t) s
theorem run_ok {t : TTest} (h : okT t = true) : ∀ {x : List Int} {s : Int}, StOk t s → StOk t (run t s x)
  | [], _, hs => hs
  | c :: x, _, hs => run_ok h (x := x) (stN_ok c h hs)
def pas (t : TTest) (x : List UInt8) : Bool := spF t (run t (sp0 t) (sby x))
theorem run_snoc {t : TTest} {s : Int} {x : List Int} {c : Int} : run t s (x ++ [c]) = spN t (run t s x) c := by simp [run]
end Go.D
set_option linter.unusedSimpArgs false
set_option linter.unusedVariables false
namespace Go.D
open Go Go.X
theorem clo_congr {p : List UInt8} {S S' : Nat → Bool} : ∀ {i : Nat}, (∀ j, j ≤ i → S j = S' j) → clo p S i = clo p S' i
  | 0, h => h 0 (Nat.le_refl _)
  | i + 1, h => by rw [clo, clo, h (i + 1) (Nat.le_refl _), clo_congr (i := i) fun j hj => h j (by omega)]
def sI (S : Nat → Bool) (n : Nat) : List Int := (List.range (n + 1)).map fun i => if S i then (1 : Int) else 0
theorem sI_len {S : Nat → Bool} {n : Nat} : (sI S n).length = n + 1 := by simp [sI]
theorem sI_get {S : Nat → Bool} {n i : Nat} (h : i ≤ n) : (sI S n)[i]? = some (if S i then (1 : Int) else 0) := by
  unfold sI
  rw [List.getElem?_map, List.getElem?_range (by omega)]; rfl
theorem sI_idx {S : Nat → Bool} {n i : Nat} (h : i ≤ n) : idx (sI S n) (i : Int) = some (if S i then (1 : Int) else 0) := idx_get (sI_get h)
theorem sI_congr {S S' : Nat → Bool} {n : Nat} (h : ∀ i, i ≤ n → S i = S' i) : sI S n = sI S' n := by
  unfold sI
  apply List.map_congr_left
  intro i hi
  rw [h i (by have := List.mem_range.1 hi; omega)]
theorem sI_set {S : Nat → Bool} {n j : Nat} (h : j ≤ n) : (sI S n).set j 1 = sI (fun i => S i || decide (i = j)) n := by
  apply List.ext_getElem?
  intro i
  by_cases hi : i ≤ n
  · rw [sI_get hi, List.getElem?_set, sI_len]
    by_cases e : j = i
    · subst e; rw [if_pos rfl, if_pos (by omega)]; simp
    · rw [if_neg e, sI_get hi, decide_eq_false (fun h => e h.symm)]; simp
  · rw [List.getElem?_eq_none (by rw [List.length_set, sI_len]; omega), List.getElem?_eq_none (by rw [sI_len]; omega)]
theorem sI_upd {S : Nat → Bool} {n j : Nat} (h : j ≤ n) : upd1 (sI S n) (j : Int) 1 = some (sI (fun i => S i || decide (i = j)) n) := by
  rw [upd1_i (n := j) rfl (by rw [sI_len]; omega), sI_set h]
theorem bit1 {b : Bool} : ((if b = true then (1 : Int) else 0) = 1) = (b = true) := by cases b <;> simp
def enc (t : TTest) (s : Int) : List UInt8 := if t.Kind = 1 then bstr (sI s.toNat.testBit t.Text.length) else if s = 100 then [60] else if s = 101 then [62] else [61, UInt8.ofNat s.toNat]
theorem qClosed_tm {p : List UInt8} {S : Nat → Bool} (hp : p.length ≤ 16) : Tm (fun N => qClosed N p (sI S p.length)) (fun r => r.1 = bstr (sI (clo p S) p.length)) := by
  unfold qClosed
  refine Tm.eq (a := sI (clo p S) p.length) ?_ (Tm.some rfl)
  refine Tm.up p.length (fun k s => s.2 = (k : Int) ∧ s.1 = sI (fun i => if i ≤ k then clo p S i else S i) p.length) ⟨rfl, sI_congr fun i _ => by
    by_cases h : i ≤ 0
    · rw [if_pos h, Nat.le_zero.1 h]; rfl
    · rw [if_neg h]⟩ ?_
  rintro k hk ⟨s, i⟩ ⟨hi, hs⟩
  dsimp only at hi hs; subst hi; subst hs
  unfold qClosed_b1
  rcases Nat.lt_or_ge k p.length with hlt | hge
  · refine Tm.pos (by omega) ?_
    simp only [sI_idx (show k ≤ p.length by omega), Option.bind_some, bit1, if_pos (Nat.le_refl k), idx_n hlt]
    cases hc : clo p S k with
    | true =>
      simp only [if_true, Option.bind_some, u8_37]
      by_cases h37 : p[k] = 37
      · simp only [decide_eq_true h37, if_true, iw_n (k := k) (by omega), sI_idx (show k + 1 ≤ p.length by omega), Option.bind_some, sI_upd (show k + 1 ≤ p.length by omega)]
        refine Tm.some ⟨hlt, rfl, sI_congr fun i _ => ?_⟩
        have hp2 : isP p[k]? = true := by rw [List.getElem?_eq_getElem hlt, h37]; rfl
        by_cases h1 : i ≤ k
        · rw [if_pos h1, if_pos (by omega), decide_eq_false (by omega)]; simp
        · rw [if_neg h1]
          by_cases h2 : i = k + 1
          · subst h2; rw [if_pos (Nat.le_refl _), decide_eq_true rfl, clo, hc, hp2]; simp
          · rw [if_neg (by omega), decide_eq_false h2]; simp
      · simp only [decide_eq_false h37, Bool.false_eq_true, if_false]
        refine Tm.some ⟨hlt, iw_n (by omega), sI_congr fun i _ => ?_⟩
        have hp2 : isP p[k]? = false := by rw [List.getElem?_eq_getElem hlt]; exact decide_eq_false fun h => h37 (Option.some.inj h)
        by_cases h1 : i ≤ k
        · rw [if_pos h1, if_pos (by omega)]
        · rw [if_neg h1]
          by_cases h2 : i = k + 1
          · subst h2; rw [if_pos (Nat.le_refl _), clo, hp2]; simp
          · rw [if_neg (by omega)]
    | false =>
      simp only [Bool.false_eq_true, if_false, Option.bind_some]
      refine Tm.some ⟨hlt, iw_n (by omega), sI_congr fun i _ => ?_⟩
      by_cases h1 : i ≤ k
      · rw [if_pos h1, if_pos (by omega)]
      · rw [if_neg h1]
        by_cases h2 : i = k + 1
        · subst h2; rw [if_pos (Nat.le_refl _), clo, hc]; simp
        · rw [if_neg (by omega)]
  · refine Tm.neg (by omega) (Tm.some ?_)
    have : k = p.length := by omega
    subst this
    exact sI_congr fun i hi => by rw [if_pos hi]
def nxK (p : List UInt8) (S : Nat → Bool) (c : Int) (k j : Nat) : Bool := (decide (j < k) && S j && isP p[j]?) || (match j with | 0 => false | i + 1 => decide (i < k) && S i && hit p[i]? c)
theorem nxK_succ {p : List UInt8} {S : Nat → Bool} {c : Int} {k j : Nat} : nxK p S c (k + 1) j = ((nxK p S c k j || (decide (j = k) && S k && isP p[k]?)) || (decide (j = k + 1) && S k && hit p[k]? c)) := by
  unfold nxK
  cases j with
  | zero =>
    by_cases h0 : k = 0
    · subst h0; simp
    · have e1 : decide (0 < k) = true := decide_eq_true (by omega)
      have e2 : decide (0 = k) = false := decide_eq_false (by omega)
      rw [e1, e2]; simp
  | succ i =>
    dsimp only
    by_cases e : i + 1 = k
    · subst e
      have e1 : decide (i + 1 < i + 1) = false := decide_eq_false (by omega)
      have e2 : decide (i < i + 1) = true := decide_eq_true (by omega)
      have e3 : decide (i + 1 < i + 1 + 1) = true := decide_eq_true (by omega)
      have e4 : decide (i < i + 1 + 1) = true := decide_eq_true (by omega)
      have e5 : decide (i + 1 = i + 1 + 1) = false := decide_eq_false (by omega)
      rw [e1, e2, e3, e4, e5, decide_eq_true rfl]
      simp only [Bool.false_and, Bool.true_and, Bool.false_or, Bool.or_false]
      exact Bool.or_comm _ _
    · by_cases e' : i = k
      · subst e'
        have e1 : decide (i + 1 < i) = false := decide_eq_false (by omega)
        have e2 : decide (i < i) = false := decide_eq_false (by omega)
        have e3 : decide (i + 1 = i) = false := decide_eq_false (by omega)
        have e4 : decide (i + 1 < i + 1) = false := decide_eq_false (by omega)
        have e5 : decide (i < i + 1) = true := decide_eq_true (by omega)
        rw [e1, e2, e3, e4, e5, decide_eq_true rfl]; simp
      · have e1 : decide (i + 1 < k + 1) = decide (i + 1 < k) := decide_eq_decide.2 (by omega)
        have e2 : decide (i < k + 1) = decide (i < k) := decide_eq_decide.2 (by omega)
        have e3 : decide (i + 1 = k) = false := decide_eq_false (by omega)
        have e4 : decide (i + 1 = k + 1) = false := decide_eq_false (by omega)
        rw [e1, e2, e3, e4]; simp
theorem nxK_last {p : List UInt8} {S : Nat → Bool} {c : Int} {j : Nat} (hj : j ≤ p.length) : nxK p S c p.length j = nxs p S c j := by
  unfold nxK nxs
  have e0 : (decide (j < p.length) && S j && isP p[j]?) = (S j && isP p[j]?) := by
    by_cases hjl : j < p.length
    · rw [decide_eq_true hjl]; simp
    · rw [List.getElem?_eq_none (by omega)]; simp [isP]
  rw [e0]
  cases j with
  | zero => rfl
  | succ i =>
    have : decide (i < p.length) = true := decide_eq_true (by omega)
    simp only [this, Bool.true_and]
theorem bstr_idx {S : Nat → Bool} {n i : Nat} (h : i ≤ n) : idx (bstr (sI S n)) (i : Int) = some (if S i then (1 : UInt8) else 0) := by
  refine idx_get ?_
  unfold bstr
  rw [List.getElem?_map, sI_get h]
  cases S i <;> rfl
theorem ubit1 {b : Bool} : (((if b = true then (1 : UInt8) else 0).toNat : Int) = 1) = (b = true) := by cases b <;> simp
theorem qStep_b1_tm {t : TTest} {S : Nat → Bool} {c : Int} (hp : t.Text.length ≤ 16) : Tm (fun N => loopM (qStep_b1 N c (bstr (sI S t.Text.length)) t) N (sI (fun _ => false) t.Text.length, 0)) (· = sI (nxs t.Text S c) t.Text.length) := by
  generalize hx : t.Text = p at *
  refine Tm.up p.length (fun k s => s.2 = (k : Int) ∧ s.1 = sI (nxK p S c k) p.length) ⟨rfl, sI_congr fun i _ => by cases i <;> simp [nxK]⟩ ?_
  rintro k hk ⟨s, i⟩ ⟨hi, hs⟩
  dsimp only at hi hs; subst hi; subst hs
  unfold qStep_b1
  rw [hx]
  rcases Nat.lt_or_ge k p.length with hlt | hge
  · refine Tm.pos (by omega) ?_
    have hpk : p[k]? = some p[k] := List.getElem?_eq_getElem hlt
    simp only [bstr_idx (show k ≤ p.length by omega), Option.bind_some, ubit1, idx_n hlt, u8_37, u8_95]
    cases hS : S k with
    | false =>
      simp only [Bool.false_eq_true, if_false, Option.bind_some]
      refine Tm.some ⟨hlt, iw_n (by omega), sI_congr fun i _ => ?_⟩
      rw [nxK_succ, hS]; simp
    | true =>
      simp only [if_true, Option.bind_some]
      by_cases h37 : p[k] = 37
      · have e1 : isP p[k]? = true := by rw [hpk, h37]; rfl
        have e2 : hit p[k]? c = false := by rw [hpk]; simp [hit, h37]
        have n95 : ¬ p[k] = 95 := by rw [h37]; decide
        simp only [decide_eq_true h37, if_true, sI_idx (show k ≤ p.length by omega), Option.bind_some, sI_upd (show k ≤ p.length by omega), if_neg n95, h37]
        have e3 : (if (((37 : UInt8).toNat : Int) = c) then some (decide (c ≠ 37)) else some false) = some false := by
          by_cases h : (((37 : UInt8).toNat : Int) = c)
          · rw [if_pos h, ← h]; rfl
          · rw [if_neg h]
        rw [e3]
        simp only [Option.bind_some, Bool.false_eq_true, if_false, if_neg (show ¬ (37 : UInt8) = 95 by decide)]
        refine Tm.some ⟨hlt, iw_n (by omega), sI_congr fun i _ => ?_⟩
        rw [nxK_succ, hS, e1, e2]; simp
      · have e1 : isP p[k]? = false := by rw [hpk]; exact decide_eq_false fun h => h37 (Option.some.inj h)
        have e2 : (if p[k] = 95 then some true else if (((p[k]).toNat : Int) = c) then some (decide (c ≠ 37)) else some false) = some (hit p[k]? c) := by
          rw [hpk]
          by_cases g1 : p[k] = 95
          · rw [if_pos g1]; simp [hit, g1]
          · rw [if_neg g1]
            by_cases g2 : ((p[k]).toNat : Int) = c
            · rw [if_pos g2]
              have : c ≠ 37 := fun h => h37 (u8_37.1 (g2.trans h))
              simp [hit, g1, g2, h37, this]
            · rw [if_neg g2]; simp [hit, g1, g2]
        simp only [decide_eq_false h37, Bool.false_eq_true, if_false, Option.bind_some]
        rw [e2]
        simp only [Option.bind_some]
        cases hh : hit p[k]? c with
        | true =>
          simp only [if_true, iw_n (k := k) (by omega), sI_idx (show k + 1 ≤ p.length by omega), Option.bind_some, sI_upd (show k + 1 ≤ p.length by omega)]
          refine Tm.some ⟨hlt, rfl, sI_congr fun i _ => ?_⟩
          rw [nxK_succ, hS, e1, hh]; simp
        | false =>
          simp only [Bool.false_eq_true, if_false]
          refine Tm.some ⟨hlt, iw_n (by omega), sI_congr fun i _ => ?_⟩
          rw [nxK_succ, hS, e1, hh]; simp
  · refine Tm.neg (by omega) (Tm.some ?_)
    have : k = p.length := by omega
    subst this
    exact sI_congr fun i hi => nxK_last hi
theorem mk1_sI {n : Nat} (h : n ≤ 16) : mk1 (α := Int) 1 0 (iw ((n : Int) + 1)) = some (sI (fun _ => false) n) := by
  rw [iw_n (by omega), mk1_ok (n := n + 1) rfl (by omega) (by decide)]
  congr 1
  apply List.ext_getElem?
  intro i
  by_cases hi : i ≤ n
  · rw [sI_get hi, List.getElem?_replicate, if_pos (by omega)]; rfl
  · rw [List.getElem?_eq_none (by rw [List.length_replicate]; omega), List.getElem?_eq_none (by rw [sI_len]; omega)]
theorem enc_like {t : TTest} (hk : t.Kind = 1) {S : Nat → Bool} : enc t ((bits (clo t.Text S) (t.Text.length + 1) : Nat) : Int) = bstr (sI (clo t.Text S) t.Text.length) := by
  unfold enc
  rw [if_pos hk, Int.toNat_natCast]
  congr 1
  exact sI_congr fun i hi => by rw [bits_test, decide_eq_true (by omega)]; rfl
theorem qStart_tm {t : TTest} (h : okT t = true) : Tm (fun N => qStart N t) (· = enc t (sp0 t)) := by
  unfold qStart sp0
  have h16 := (okT_len h).2.2
  by_cases hk : t.Kind = 1
  · simp only [hk, ne_eq, not_true_eq_false, if_false, if_true]
    rw [mk1_sI h16]
    simp only [Option.bind_some]
    rw [show (0 : Int) = ((0 : Nat) : Int) from rfl, sI_idx (Nat.zero_le _)]
    simp only [Option.bind_some]
    rw [sI_upd (Nat.zero_le _)]
    simp only [Option.bind_some]
    refine (qClosed_tm h16).bind fun r hr => Tm.some ?_
    rw [hr, enc_like hk]
    congr 1
    refine sI_congr fun i _ => clo_congr fun j _ => ?_
    rw [Bool.false_or]
    cases j with
    | zero => rfl
    | succ j => simp [Nat.testBit_succ]
  · simp only [ne_eq, hk, not_false_eq_true, if_true, if_false]
    refine Tm.some ?_
    unfold enc
    rw [if_neg hk]; rfl
theorem qStep_tm {t : TTest} {s c : Int} (h : okT t = true) (hs : StOk t s) : Tm (fun N => qStep N t (enc t s) c) (· = enc t (spN t s c)) := by
  unfold qStep
  have h16 := (okT_len h).2.2
  by_cases hk : t.Kind = 1
  · obtain ⟨m, rfl, hm⟩ := hs.lk hk
    simp only [hk, if_true]
    rw [mk1_sI h16]
    simp only [Option.bind_some]
    have e : enc t (m : Int) = bstr (sI m.testBit t.Text.length) := by unfold enc; rw [if_pos hk]; rfl
    rw [e]
    refine (qStep_b1_tm h16).eq ?_
    refine (qClosed_tm h16).bind fun r hr => Tm.some ?_
    rw [hr]
    unfold spN
    rw [if_pos hk, enc_like hk]
    congr 1
    refine sI_congr fun i hi => clo_congr fun j hj => ?_
    rw [bits_test, decide_eq_true (by omega)]; rfl
  · simp only [hk, if_false]
    have hN : spN t s c = cmpN t.Text s c := by unfold spN; rw [if_neg hk]
    rw [hN]
    unfold enc
    rw [if_neg hk, if_neg hk]
    rcases hs.cm hk with h1 | h1 | h1
    · subst h1
      rw [if_pos rfl]
      exact Tm.step (a := 60) rfl (Tm.some rfl)
    · subst h1
      rw [if_neg (by decide), if_pos rfl]
      exact Tm.step (a := 62) rfl (Tm.some rfl)
    · rw [if_neg (show ¬ s = 100 by omega), if_neg (show ¬ s = 101 by omega)]
      obtain ⟨i, rfl⟩ := Int.eq_ofNat_of_zero_le h1.1
      rw [Int.toNat_natCast]
      have hi : (UInt8.ofNat i).toNat = i := by simp; omega
      refine Tm.step (a := 61) rfl (Tm.neg (by decide) ?_)
      refine Tm.step (a := UInt8.ofNat i) rfl ?_
      rw [hi, show iw (i : Int) = (i : Int) from iw_eq (by omega) (by omega)]
      unfold cmpN
      rw [if_neg (show ¬ (i : Int) ≥ 100 by omega)]
      by_cases hl : (i : Int) = (t.Text.length : Int)
      · simp only [if_pos hl, Option.bind_some, if_true]
        rw [if_pos (show (i : Int) = (t.Text.length : Int) ∨ c > ((t.Text.getD ((i : Int)).toNat 0).toNat : Int) from .inl hl)]
        exact Tm.some rfl
      · have hlt : i < t.Text.length := by omega
        have eg : t.Text.getD i 0 = t.Text[i] := by rw [List.getD_eq_getElem?_getD, List.getElem?_eq_getElem hlt]; rfl
        simp only [if_neg hl, idx_n hlt, Option.bind_some, Int.toNat_natCast, eg]
        by_cases g1 : c > ((t.Text[i]).toNat : Int)
        · rw [decide_eq_true g1, if_pos (show (i : Int) = (t.Text.length : Int) ∨ c > ((t.Text[i]).toNat : Int) from .inr g1)]; exact Tm.some rfl
        · rw [decide_eq_false g1, if_neg (show ¬ ((i : Int) = (t.Text.length : Int) ∨ c > ((t.Text[i]).toNat : Int)) from fun h => h.elim hl g1)]
          by_cases g2 : c < ((t.Text[i]).toNat : Int)
          · rw [if_pos g2, if_pos g2]; exact Tm.some rfl
          · rw [if_neg g2, if_neg g2, if_neg (show ¬ (i : Int) + 1 = 100 by omega), if_neg (show ¬ (i : Int) + 1 = 101 by omega)]
            have e1 : uw8 (iw ((i : Int) + 1)) = ((i + 1 : Nat) : Int) := by rw [iw_n (by omega)]; exact uw8_eq (by omega) (by omega)
            rw [e1]
            refine Tm.some ?_
            show [61] ++ bstr [((i + 1 : Nat) : Int)] = _
            rw [show (i : Int) + 1 = ((i + 1 : Nat) : Int) from rfl]
            rfl
theorem qFinal_tm {t : TTest} {s : Int} (h : okT t = true) (hs : StOk t s) : Tm (fun N => qFinal N t (enc t s)) (· = spF t s) := by
  unfold qFinal spF
  have hok := okT_len h
  have h16 := hok.2.2
  by_cases hk : t.Kind = 1
  · obtain ⟨m, rfl, hm⟩ := hs.lk hk
    have e : enc t (m : Int) = bstr (sI m.testBit t.Text.length) := by unfold enc; rw [if_pos hk]; rfl
    simp only [hk, if_true, e]
    rw [bstr_idx (Nat.le_refl _)]
    simp only [Option.bind_some, ubit1, Int.toNat_natCast]
    refine Tm.some ?_
    cases m.testBit t.Text.length <;> rfl
  · unfold enc
    simp only [hk, if_false]
    have hkk : t.Kind = 0 ∨ t.Kind = 2 ∨ t.Kind = 3 := by omega
    rcases hs.cm hk with h1 | h1 | h1
    · subst h1
      have a : ¬ ((100 : Int) = (t.Text.length : Int)) := by omega
      rcases hkk with g | g | g <;> rw [g] <;> refine Tm.some ?_ <;> simp [a]
    · subst h1
      have a : ¬ ((101 : Int) = (t.Text.length : Int)) := by omega
      have b : ¬ ((101 : Int) < (t.Text.length : Int)) := by omega
      have c : ¬ ((101 : Int) ≤ (t.Text.length : Int)) := by omega
      rcases hkk with g | g | g <;> rw [g] <;> refine Tm.some ?_ <;> simp [a, b, c]
    · rw [if_neg (show ¬ s = 100 by omega), if_neg (show ¬ s = 101 by omega)]
      obtain ⟨i, rfl⟩ := Int.eq_ofNat_of_zero_le h1.1
      rw [Int.toNat_natCast]
      have hi : (UInt8.ofNat i).toNat = i := by simp; omega
      have e0 : idx ([61, UInt8.ofNat i] : List UInt8) 0 = some 61 := rfl
      have e1 : idx ([61, UInt8.ofNat i] : List UInt8) 1 = some (UInt8.ofNat i) := rfl
      have e2 : iw (i : Int) = (i : Int) := iw_eq (by omega) (by omega)
      have n100 : ¬ (i : Int) = 100 := by omega
      have ok1 : ((UInt8.toNat 61 : Int)) = 61 := rfl
      simp only [e0, e1, hi, e2, Option.bind_some, ok1, if_true, if_neg (show ¬ (61 : Int) = 60 by decide)]
      by_cases hl : (i : Int) = (t.Text.length : Int)
      · have l1 : ¬ (i : Int) < (t.Text.length : Int) := by omega
        have l2 : (i : Int) ≤ (t.Text.length : Int) := by omega
        have m1 : ¬ (t.Text.length : Int) = 100 := by omega
        have m2 : ¬ t.Text.length = 100 := by omega
        rcases hkk with g | g | g <;> rw [g] <;> simp [hl, m1, m2] <;> first | exact Tm.some rfl | (refine Tm.some ?_; simp)
      · have l1 : (i : Int) < (t.Text.length : Int) := by omega
        have l2 : (i : Int) ≤ (t.Text.length : Int) := by omega
        have hl' : ¬ i = t.Text.length := by omega
        have l1' : i < t.Text.length := by omega
        have l2' : i ≤ t.Text.length := by omega
        rcases hkk with g | g | g <;> rw [g] <;> simp [hl, hl', l1', l2', n100] <;> first | exact Tm.some rfl | (refine Tm.some ?_; simp)
theorem qPasses_tm {t : TTest} {x : List UInt8} (h : okT t = true) (hx : x.length ≤ Bg) : Tm (fun N => qPasses N t x) (· = pas t x) := by
  have hb : Bg = 9223372036854775807 := rfl
  unfold qPasses
  refine (qStart_tm h).eq ?_
  have hl : (sby x).length = x.length := sby_len x
  refine Tm.eq (a := enc t (run t (sp0 t) (sby x))) ?_ ((qFinal_tm h (run_ok h (st0_ok h))).eq (Tm.some rfl))
  refine Tm.up x.length (fun k s => s.2 = (k : Int) ∧ s.1 = enc t (run t (sp0 t) ((sby x).take k))) ⟨rfl, rfl⟩ ?_
  rintro k hk ⟨s, i⟩ ⟨hi, hs⟩
  dsimp only at hi hs; subst hi; subst hs
  unfold qPasses_b1
  rcases Nat.lt_or_ge k x.length with hlt | hge
  · refine Tm.pos (by omega) (Tm.step (idx_n hlt) ?_)
    refine (qStep_tm h (run_ok h (st0_ok h))).eq (Tm.some ⟨hlt, iw_n (by omega), ?_⟩)
    rw [← run_snoc]
    have : ((x[k]).toNat : Int) = (sby x)[k]'(by omega) := by simp [sby]
    rw [this, List.take_append_getElem]
  · refine Tm.neg (by omega) (Tm.some ?_)
    show enc _ _ = _
    rw [List.take_of_length_le (by omega)]
end Go.D
set_option linter.unusedSimpArgs false
set_option linter.unusedVariables false
namespace Go.D
open Go Go.X
def gL (p : TProb) (x : List (List UInt8)) (i : Nat) : Bool := decide (p.Min.getD i 0 ≤ ((x.getD i []).length : Int) ∧ ((x.getD i []).length : Int) ≤ p.Max.getD i 0) && (x.getD i []).all prn
def gT (x : List (List UInt8)) (t : TTest) : Bool := pas t (x.getD t.Var.toNat [])
def gS (x : List (List UInt8)) (e : Arr2Int) : Bool := decide (x.getD e.e0.toNat [] = x.getD e.e1.toNat [])
def gD (x : List (List UInt8)) (e : Arr2Int) : Bool := !gS x e
def sat (p : TProb) (x : List (List UInt8)) : Bool := decide (x.length = p.Min.length) && (List.range x.length).all (gL p x) && p.Tests.all (gT x) && p.Same.all (gS x) && p.Different.all (gD x)
structure OkP (p : TProb) : Prop where
  len : p.Max.length = p.Min.length
  le : p.Min.length ≤ 128
  mn : ∀ k ∈ p.Min, 0 ≤ k ∧ k ≤ 16
  mx : ∀ k ∈ p.Max, 0 ≤ k ∧ k ≤ 16
  ts : ∀ t ∈ p.Tests, okT t = true ∧ 0 ≤ t.Var ∧ t.Var < p.Min.length
  sm : ∀ e ∈ p.Same, (0 ≤ e.e0 ∧ e.e0 < p.Min.length) ∧ 0 ≤ e.e1 ∧ e.e1 < p.Min.length
  df : ∀ e ∈ p.Different, (0 ≤ e.e0 ∧ e.e0 < p.Min.length) ∧ 0 ≤ e.e1 ∧ e.e1 < p.Min.length
section
variable {p : TProb} {x : List (List UInt8)}
structure Lx (x : List (List UInt8)) : Prop where
  a : x.length ≤ Bg
  b : ∀ s ∈ x, s.length ≤ Bg
theorem rSatisfies_tm (h : OkP p) (hl : Lim p) (hx : Lx x) : Tm (fun N => rSatisfies N p x) (· = sat p x) := by
  have hb : Bg = 9223372036854775807 := rfl
  have hxa := hx.a
  unfold rSatisfies
  by_cases h0 : x.length = p.Min.length
  · simp only [show ((x.length : Int) ≠ (p.Max.length : Int)) = False by simp [h0, h.len], if_false]
    refine (Tm.allN (b := fun N => rSatisfies_b1 N p x) x.length (gL p x) (by omega) (fun k hk => ?_) ?_).eq ?_
    · unfold rSatisfies_b1
      refine Tm.pos (by omega) ?_
      have h1 : k < p.Min.length := by omega
      have h2 : k < p.Max.length := by rw [h.len]; exact h1
      simp only [idx_n hk, idx_n h1, idx_n h2, Option.bind_some]
      have hs := hx.b _ (List.getElem_mem hk)
      have e : gL p x k = (decide (p.Min[k] ≤ (x[k].length : Int) ∧ (x[k].length : Int) ≤ p.Max[k]) && x[k].all prn) := by
        unfold gL; rw [getD_n hk, getD_n h1, getD_n h2]
      rw [e]
      by_cases h3 : (x[k].length : Int) < p.Min[k]
      · simp only [if_pos h3, Option.bind_some, if_true]
        rw [decide_eq_false (by omega)]; exact Tm.some rfl
      · simp only [if_neg h3]
        by_cases h4 : (x[k].length : Int) > p.Max[k]
        · simp only [if_pos h4, Option.bind_some, if_true]
          rw [decide_eq_false (by omega)]; exact Tm.some rfl
        · simp only [if_neg h4]
          rw [decide_eq_true (by omega), Bool.true_and]
          have := (qPrintable_tm hs).eq (g := fun _ r => some (!r)) (R := (· = !x[k].all prn)) (Tm.some rfl)
          refine this.eq ?_
          cases x[k].all prn <;> exact Tm.some rfl
    · unfold rSatisfies_b1
      exact Tm.neg (by omega) (Tm.some rfl)
    · cases g1 : (List.range x.length).all (gL p x) with
      | false => exact Tm.some (by simp [sat, g1])
      | true =>
        refine (Tm.allL (b := fun N => rSatisfies_b2 N p x) p.Tests (gT x) (by have := hl.c; omega) (fun k hk => ?_) ?_).eq ?_
        · unfold rSatisfies_b2
          refine Tm.pos (by omega) (Tm.step (idx_n hk) (Tm.step (idx_n hk) ?_))
          obtain ⟨ho, hv⟩ := h.ts _ (List.getElem_mem hk)
          obtain ⟨v, e, hv⟩ := var_n hv
          have e' : p.Tests[k].Var.toNat = v := by omega
          rw [e]
          refine Tm.step (idx_n (by omega)) ?_
          refine (qPasses_tm ho (hx.b _ (List.getElem_mem _))).eq ?_
          unfold gT
          rw [e', getD_n (by omega : v < x.length)]
          cases pas p.Tests[k] x[v] <;> exact Tm.some rfl
        · unfold rSatisfies_b2
          exact Tm.neg (by omega) (Tm.some rfl)
        · cases g2 : p.Tests.all (gT x) with
          | false => exact Tm.some (by simp [sat, g2])
          | true =>
            refine (Tm.allL (b := fun N => rSatisfies_b3 N p x) p.Same (gS x) (by have := hl.d; omega) (fun k hk => ?_) ?_).eq ?_
            · unfold rSatisfies_b3
              refine Tm.pos (by omega) ?_
              obtain ⟨hv, hw⟩ := h.sm _ (List.getElem_mem hk)
              obtain ⟨v, e, hv⟩ := var_n hv
              obtain ⟨u, e2, hu⟩ := var_n hw
              have e' : p.Same[k].e0.toNat = v := by omega
              have e2' : p.Same[k].e1.toNat = u := by omega
              simp only [idx_n hk, Option.bind_some, e, e2]
              refine Tm.step (idx_n (by omega)) (Tm.step (idx_n (by omega)) ?_)
              unfold gS
              rw [e', e2', getD_n (by omega : v < x.length), getD_n (by omega : u < x.length)]
              by_cases g : x[v] = x[u]
              · rw [if_neg (fun h => h g), decide_eq_true g]; exact Tm.some rfl
              · rw [if_pos g, decide_eq_false g]; exact Tm.some rfl
            · unfold rSatisfies_b3
              exact Tm.neg (by omega) (Tm.some rfl)
            · cases g3 : p.Same.all (gS x) with
              | false => exact Tm.some (by simp [sat, g3])
              | true =>
                refine (Tm.allL (b := fun N => rSatisfies_b4 N p x) p.Different (gD x) (by have := hl.e; omega) (fun k hk => ?_) ?_).eq ?_
                · unfold rSatisfies_b4
                  refine Tm.pos (by omega) ?_
                  obtain ⟨hv, hw⟩ := h.df _ (List.getElem_mem hk)
                  obtain ⟨v, e, hv⟩ := var_n hv
                  obtain ⟨u, e2, hu⟩ := var_n hw
                  have e' : p.Different[k].e0.toNat = v := by omega
                  have e2' : p.Different[k].e1.toNat = u := by omega
                  simp only [idx_n hk, Option.bind_some, e, e2]
                  refine Tm.step (idx_n (by omega)) (Tm.step (idx_n (by omega)) ?_)
                  unfold gD gS
                  rw [e', e2', getD_n (by omega : v < x.length), getD_n (by omega : u < x.length)]
                  by_cases g : x[v] = x[u]
                  · rw [if_pos g, decide_eq_true g]; exact Tm.some rfl
                  · rw [if_neg g, decide_eq_false g]; exact Tm.some rfl
                · unfold rSatisfies_b4
                  exact Tm.neg (by omega) (Tm.some rfl)
                · cases g4 : p.Different.all (gD x) with
                  | false => exact Tm.some (by simp [sat, g4])
                  | true => exact Tm.some (by simp [sat, h0, g1, g2, g3, g4]; simpa [h0] using g1)
  · simp only [show ((x.length : Int) ≠ (p.Max.length : Int)) = True by simp [h.len]; omega, if_true]
    exact Tm.some (by simp [sat, h0])
structure Lms (p : TProb) : Prop where
  a : p.Min.length ≤ 1000
  b : p.Max.length ≤ 1000
  c : p.Tests.length ≤ 1000
  d : p.Same.length ≤ 1000
  e : p.Different.length ≤ 1000
end
end Go.D

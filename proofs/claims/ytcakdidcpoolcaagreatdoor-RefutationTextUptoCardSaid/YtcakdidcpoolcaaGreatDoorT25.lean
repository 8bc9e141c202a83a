/- The kinds of data, and how they are read. Written by a program of mine (wip/tool). -/
import Derived.Test.YtcakdidcpoolcaaGreatDoorZ
namespace Go.D
open Go Go.X
structure Big where
  Negative : Bool
  Digits : (List Int)
  deriving DecidableEq
def rBig : Rep Big := ⟨2, fun H vs x => ∃ v0, vs = [Value.bool x.Negative, v0] ∧ Rs (rInt .u32) H v0 x.Digits ∧ True,
  fun H H' vs x hle h => by obtain ⟨v0, h0, k0, -⟩ := h; exact ⟨v0, h0, k0.mono hle, trivial⟩,
  fun H vs x h => by obtain ⟨v0, h0, k0, -⟩ := h; rw [h0]; rfl,
  fun H vs x h => by obtain ⟨v0, h0, k0, -⟩ := h; rw [h0]; exact (ones_cons rfl (ones_cons k0.one ones_nil))⟩
theorem rBig_open {H : Hp} {vs : List Value} {x : Big} (h : rBig.R H vs x) : ∃ v0, vs = [Value.bool x.Negative, v0] ∧ Rs (rInt .u32) H v0 x.Digits ∧ True := h
theorem rBig_close {H : Hp} {vs : List Value} {x : Big} (h : ∃ v0, vs = [Value.bool x.Negative, v0] ∧ Rs (rInt .u32) H v0 x.Digits ∧ True) : rBig.R H vs x := h
structure Coef where
  Var : Int
  N : Int
  deriving DecidableEq
def rCoef : Rep Coef := ⟨2, fun H vs x => vs = [Value.int .i64 x.Var, Value.int .i64 x.N] ∧ True,
  fun H H' vs x hle h => by obtain ⟨h0, -⟩ := h; exact ⟨h0, trivial⟩,
  fun H vs x h => by obtain ⟨h0, -⟩ := h; rw [h0]; rfl,
  fun H vs x h => by obtain ⟨h0, -⟩ := h; rw [h0]; exact (ones_cons rfl (ones_cons rfl ones_nil))⟩
theorem rCoef_open {H : Hp} {vs : List Value} {x : Coef} (h : rCoef.R H vs x) : vs = [Value.int .i64 x.Var, Value.int .i64 x.N] ∧ True := h
theorem rCoef_close {H : Hp} {vs : List Value} {x : Coef} (h : vs = [Value.int .i64 x.Var, Value.int .i64 x.N] ∧ True) : rCoef.R H vs x := h
structure Linear where
  Const : Int
  Coefs : (List Coef)
  deriving DecidableEq
structure Constraint where
  Linear : Linear
  Equal : Bool
  deriving DecidableEq
def rConstraint : Rep Constraint := ⟨3, fun H vs x => ∃ v0, vs = [Value.int .i64 x.Linear.Const, v0, Value.bool x.Equal] ∧ Rs rCoef H v0 x.Linear.Coefs ∧ True,
  fun H H' vs x hle h => by obtain ⟨v0, h0, k0, -⟩ := h; exact ⟨v0, h0, k0.mono hle, trivial⟩,
  fun H vs x h => by obtain ⟨v0, h0, k0, -⟩ := h; rw [h0]; rfl,
  fun H vs x h => by obtain ⟨v0, h0, k0, -⟩ := h; rw [h0]; exact (ones_cons rfl (ones_cons k0.one (ones_cons rfl ones_nil)))⟩
theorem rConstraint_open {H : Hp} {vs : List Value} {x : Constraint} (h : rConstraint.R H vs x) : ∃ v0, vs = [Value.int .i64 x.Linear.Const, v0, Value.bool x.Equal] ∧ Rs rCoef H v0 x.Linear.Coefs ∧ True := h
theorem rConstraint_close {H : Hp} {vs : List Value} {x : Constraint} (h : ∃ v0, vs = [Value.int .i64 x.Linear.Const, v0, Value.bool x.Equal] ∧ Rs rCoef H v0 x.Linear.Coefs ∧ True) : rConstraint.R H vs x := h
structure Ineq where
  Coefs : (List Big)
  Bound : Big
  deriving DecidableEq
def rIneq : Rep Ineq := ⟨3, fun H vs x => ∃ v0 v1, vs = [v0, Value.bool x.Bound.Negative, v1] ∧ Rs rBig H v0 x.Coefs ∧ Rs (rInt .u32) H v1 x.Bound.Digits ∧ True,
  fun H H' vs x hle h => by obtain ⟨v0, v1, h0, k0, k1, -⟩ := h; exact ⟨v0, v1, h0, k0.mono hle, k1.mono hle, trivial⟩,
  fun H vs x h => by obtain ⟨v0, v1, h0, k0, k1, -⟩ := h; rw [h0]; rfl,
  fun H vs x h => by obtain ⟨v0, v1, h0, k0, k1, -⟩ := h; rw [h0]; exact (ones_cons k0.one (ones_cons rfl (ones_cons k1.one ones_nil)))⟩
theorem rIneq_open {H : Hp} {vs : List Value} {x : Ineq} (h : rIneq.R H vs x) : ∃ v0 v1, vs = [v0, Value.bool x.Bound.Negative, v1] ∧ Rs rBig H v0 x.Coefs ∧ Rs (rInt .u32) H v1 x.Bound.Digits ∧ True := h
theorem rIneq_close {H : Hp} {vs : List Value} {x : Ineq} (h : ∃ v0 v1, vs = [v0, Value.bool x.Bound.Negative, v1] ∧ Rs rBig H v0 x.Coefs ∧ Rs (rInt .u32) H v1 x.Bound.Digits ∧ True) : rIneq.R H vs x := h
structure Use where
  Index : Int
  N : Big
  deriving DecidableEq
def rUse : Rep Use := ⟨3, fun H vs x => ∃ v0, vs = [Value.int .i64 x.Index, Value.bool x.N.Negative, v0] ∧ Rs (rInt .u32) H v0 x.N.Digits ∧ True,
  fun H H' vs x hle h => by obtain ⟨v0, h0, k0, -⟩ := h; exact ⟨v0, h0, k0.mono hle, trivial⟩,
  fun H vs x h => by obtain ⟨v0, h0, k0, -⟩ := h; rw [h0]; rfl,
  fun H vs x h => by obtain ⟨v0, h0, k0, -⟩ := h; rw [h0]; exact (ones_cons rfl (ones_cons rfl (ones_cons k0.one ones_nil)))⟩
theorem rUse_open {H : Hp} {vs : List Value} {x : Use} (h : rUse.R H vs x) : ∃ v0, vs = [Value.int .i64 x.Index, Value.bool x.N.Negative, v0] ∧ Rs (rInt .u32) H v0 x.N.Digits ∧ True := h
theorem rUse_close {H : Hp} {vs : List Value} {x : Use} (h : ∃ v0, vs = [Value.int .i64 x.Index, Value.bool x.N.Negative, v0] ∧ Rs (rInt .u32) H v0 x.N.Digits ∧ True) : rUse.R H vs x := h
structure Step where
  Uses : (List Use)
  Divisor : Big
  deriving DecidableEq
def rStep : Rep Step := ⟨3, fun H vs x => ∃ v0 v1, vs = [v0, Value.bool x.Divisor.Negative, v1] ∧ Rs rUse H v0 x.Uses ∧ Rs (rInt .u32) H v1 x.Divisor.Digits ∧ True,
  fun H H' vs x hle h => by obtain ⟨v0, v1, h0, k0, k1, -⟩ := h; exact ⟨v0, v1, h0, k0.mono hle, k1.mono hle, trivial⟩,
  fun H vs x h => by obtain ⟨v0, v1, h0, k0, k1, -⟩ := h; rw [h0]; rfl,
  fun H vs x h => by obtain ⟨v0, v1, h0, k0, k1, -⟩ := h; rw [h0]; exact (ones_cons k0.one (ones_cons rfl (ones_cons k1.one ones_nil)))⟩
theorem rStep_open {H : Hp} {vs : List Value} {x : Step} (h : rStep.R H vs x) : ∃ v0 v1, vs = [v0, Value.bool x.Divisor.Negative, v1] ∧ Rs rUse H v0 x.Uses ∧ Rs (rInt .u32) H v1 x.Divisor.Digits ∧ True := h
theorem rStep_close {H : Hp} {vs : List Value} {x : Step} (h : ∃ v0 v1, vs = [v0, Value.bool x.Divisor.Negative, v1] ∧ Rs rUse H v0 x.Uses ∧ Rs (rInt .u32) H v1 x.Divisor.Digits ∧ True) : rStep.R H vs x := h
structure Proof where
  Steps : (List Step)
  Form : (List Big)
  Bound : Big
  Children : (List Proof)
def RProof : Nat → Hp → List Value → Proof → Prop
  | 0, _, _, _ => False
  | n + 1, H, vs, x => ∃ v0 v1 v2 v3, vs = [v0, v1, Value.bool x.Bound.Negative, v2, v3] ∧ Rs rStep H v0 x.Steps ∧ Rs rBig H v1 x.Form ∧ Rs (rInt .u32) H v2 x.Bound.Digits ∧ Sl 5 (RProof n) H v3 x.Children ∧ True
theorem RProof_mono : ∀ (n : Nat) {H H' : Hp} {vs : List Value} {x : Proof}, Le H H' → RProof n H vs x → RProof n H' vs x
  | 0, _, _, _, _, _, h => h.elim
  | n + 1, _, _, _, _, hle, h => by obtain ⟨v0, v1, v2, v3, h0, k0, k1, k2, k3, -⟩ := h; exact ⟨v0, v1, v2, v3, h0, k0.mono hle, k1.mono hle, k2.mono hle, Sl.mono (R := RProof n) (fun _ _ _ _ a b => RProof_mono n a b) hle k3, trivial⟩
theorem RProof_up : ∀ {n m : Nat} {H : Hp} {vs : List Value} {x : Proof}, n ≤ m → RProof n H vs x → RProof m H vs x
  | 0, _, _, _, _, _, h => h.elim
  | n + 1, 0, _, _, _, hm, _ => by omega
  | n + 1, m + 1, _, _, _, hm, h => by have hm : n ≤ m := (by omega); obtain ⟨v0, v1, v2, v3, h0, k0, k1, k2, k3, -⟩ := h; exact ⟨v0, v1, v2, v3, h0, k0, k1, k2, sl_imp (fun _ _ => RProof_up hm) k3, trivial⟩
def rProof : Rep Proof := ⟨5, fun H vs x => ∃ n, RProof n H vs x, fun _ _ _ _ hle ⟨n, h⟩ => ⟨n, RProof_mono n hle h⟩,
  fun H vs x h => by obtain ⟨n, h⟩ := h; cases n with | zero => exact h.elim | succ n => obtain ⟨v0, v1, v2, v3, h0, k0, k1, k2, k3, -⟩ := h; rw [h0]; rfl,
  fun H vs x h => by obtain ⟨n, h⟩ := h; cases n with | zero => exact h.elim | succ n => obtain ⟨v0, v1, v2, v3, h0, k0, k1, k2, k3, -⟩ := h; rw [h0]; exact (ones_cons k0.one (ones_cons k1.one (ones_cons rfl (ones_cons k2.one (ones_cons (Sl.one k3) ones_nil)))))⟩
theorem rProof_open {H : Hp} {vs : List Value} {x : Proof} (h : rProof.R H vs x) : ∃ v0 v1 v2 v3, vs = [v0, v1, Value.bool x.Bound.Negative, v2, v3] ∧ Rs rStep H v0 x.Steps ∧ Rs rBig H v1 x.Form ∧ Rs (rInt .u32) H v2 x.Bound.Digits ∧ Rs rProof H v3 x.Children ∧ True := by
  obtain ⟨n, h⟩ := h; cases n with | zero => exact h.elim | succ n => obtain ⟨v0, v1, v2, v3, h0, k0, k1, k2, k3, -⟩ := h; exact ⟨v0, v1, v2, v3, h0, k0, k1, k2, sl_imp (fun _ _ h => ⟨n, h⟩) k3, trivial⟩
theorem rProof_close {H : Hp} {vs : List Value} {x : Proof} (h : ∃ v0 v1 v2 v3, vs = [v0, v1, Value.bool x.Bound.Negative, v2, v3] ∧ Rs rStep H v0 x.Steps ∧ Rs rBig H v1 x.Form ∧ Rs (rInt .u32) H v2 x.Bound.Digits ∧ Rs rProof H v3 x.Children ∧ True) : rProof.R H vs x := by
  obtain ⟨v0, v1, v2, v3, h0, k0, k1, k2, k3, -⟩ := h
  obtain ⟨n, hn⟩ := sl_bound (Rn := RProof) (fun _ _ _ _ hm h => RProof_up hm h) k3
  exact ⟨n + 1, v0, v1, v2, v3, h0, k0, k1, k2, hn, trivial⟩
structure TTest where
  Var : Int
  Kind : Int
  Negated : Bool
  Text : (List UInt8)
  deriving DecidableEq
def rTTest : Rep TTest := ⟨4, fun H vs x => vs = [Value.int .i64 x.Var, Value.int .i64 x.Kind, Value.bool x.Negated, Value.string (s8 x.Text)] ∧ True,
  fun H H' vs x hle h => by obtain ⟨h0, -⟩ := h; exact ⟨h0, trivial⟩,
  fun H vs x h => by obtain ⟨h0, -⟩ := h; rw [h0]; rfl,
  fun H vs x h => by obtain ⟨h0, -⟩ := h; rw [h0]; exact (ones_cons rfl (ones_cons rfl (ones_cons rfl (ones_cons rfl ones_nil))))⟩
structure Arr2Int where
  e0 : Int
  e1 : Int
  deriving DecidableEq
def rArr2Int : Rep Arr2Int := ⟨2, fun H vs x => vs = [Value.int .i64 x.e0, Value.int .i64 x.e1] ∧ True,
  fun H H' vs x hle h => by obtain ⟨h0, -⟩ := h; exact ⟨h0, trivial⟩,
  fun H vs x h => by obtain ⟨h0, -⟩ := h; rw [h0]; rfl,
  fun H vs x h => by obtain ⟨h0, -⟩ := h; rw [h0]; exact (ones_cons rfl (ones_cons rfl ones_nil))⟩
theorem rArr2Int_open {H : Hp} {vs : List Value} {x : Arr2Int} (h : rArr2Int.R H vs x) : vs = [Value.int .i64 x.e0, Value.int .i64 x.e1] ∧ True := h
theorem rArr2Int_close {H : Hp} {vs : List Value} {x : Arr2Int} (h : vs = [Value.int .i64 x.e0, Value.int .i64 x.e1] ∧ True) : rArr2Int.R H vs x := h
structure TProb where
  Min : (List Int)
  Max : (List Int)
  Tests : (List TTest)
  Same : (List Arr2Int)
  Different : (List Arr2Int)
  deriving DecidableEq
structure RAux where
  Of : Linear
  By : Int
  Text : Int
  deriving DecidableEq
def rRAux : Rep RAux := ⟨4, fun H vs x => ∃ v0, vs = [Value.int .i64 x.Of.Const, v0, Value.int .i64 x.By, Value.int .i64 x.Text] ∧ Rs rCoef H v0 x.Of.Coefs ∧ True,
  fun H H' vs x hle h => by obtain ⟨v0, h0, k0, -⟩ := h; exact ⟨v0, h0, k0.mono hle, trivial⟩,
  fun H vs x h => by obtain ⟨v0, h0, k0, -⟩ := h; rw [h0]; rfl,
  fun H vs x h => by obtain ⟨v0, h0, k0, -⟩ := h; rw [h0]; exact (ones_cons rfl (ones_cons k0.one (ones_cons rfl (ones_cons rfl ones_nil))))⟩
theorem rRAux_open {H : Hp} {vs : List Value} {x : RAux} (h : rRAux.R H vs x) : ∃ v0, vs = [Value.int .i64 x.Of.Const, v0, Value.int .i64 x.By, Value.int .i64 x.Text] ∧ Rs rCoef H v0 x.Of.Coefs ∧ True := h
structure RClause where
  Null : (List Int)
  NotNull : (List Int)
  Auxiliary : (List RAux)
  Ints : (List Constraint)
  Tests : (List TTest)
  Same : (List Arr2Int)
  Different : (List Arr2Int)
  deriving DecidableEq
structure RVar where
  Ty : Int
  Low : Int
  High : Int
  Max : Int
  Nullable : Bool
  deriving DecidableEq
def rRVar : Rep RVar := ⟨5, fun H vs x => vs = [Value.int .i64 x.Ty, Value.int .i64 x.Low, Value.int .i64 x.High, Value.int .i64 x.Max, Value.bool x.Nullable] ∧ True,
  fun H H' vs x hle h => by obtain ⟨h0, -⟩ := h; exact ⟨h0, trivial⟩,
  fun H vs x h => by obtain ⟨h0, -⟩ := h; rw [h0]; rfl,
  fun H vs x h => by obtain ⟨h0, -⟩ := h; rw [h0]; exact (ones_cons rfl (ones_cons rfl (ones_cons rfl (ones_cons rfl (ones_cons rfl ones_nil)))))⟩
theorem rRVar_open {H : Hp} {vs : List Value} {x : RVar} (h : rRVar.R H vs x) : vs = [Value.int .i64 x.Ty, Value.int .i64 x.Low, Value.int .i64 x.High, Value.int .i64 x.Max, Value.bool x.Nullable] ∧ True := h
theorem rRVar_close {H : Hp} {vs : List Value} {x : RVar} (h : vs = [Value.int .i64 x.Ty, Value.int .i64 x.Low, Value.int .i64 x.High, Value.int .i64 x.Max, Value.bool x.Nullable] ∧ True) : rRVar.R H vs x := h
structure RVal where
  Kind : Int
  Int : Int
  Text : (List UInt8)
  deriving DecidableEq
structure Refut where
  Kind : Int
  Var : Int
  At : Int
  Proof : Proof
  Children : (List Refut)
def RRefut : Nat → Hp → List Value → Refut → Prop
  | 0, _, _, _ => False
  | n + 1, H, vs, x => ∃ v0 v1 v2 v3 v4, vs = [Value.int .i64 x.Kind, Value.int .i64 x.Var, Value.int .i64 x.At, v0, v1, Value.bool x.Proof.Bound.Negative, v2, v3, v4] ∧ Rs rStep H v0 x.Proof.Steps ∧ Rs rBig H v1 x.Proof.Form ∧ Rs (rInt .u32) H v2 x.Proof.Bound.Digits ∧ Rs rProof H v3 x.Proof.Children ∧ Sl 9 (RRefut n) H v4 x.Children ∧ True
theorem RRefut_mono : ∀ (n : Nat) {H H' : Hp} {vs : List Value} {x : Refut}, Le H H' → RRefut n H vs x → RRefut n H' vs x
  | 0, _, _, _, _, _, h => h.elim
  | n + 1, _, _, _, _, hle, h => by obtain ⟨v0, v1, v2, v3, v4, h0, k0, k1, k2, k3, k4, -⟩ := h; exact ⟨v0, v1, v2, v3, v4, h0, k0.mono hle, k1.mono hle, k2.mono hle, k3.mono hle, Sl.mono (R := RRefut n) (fun _ _ _ _ a b => RRefut_mono n a b) hle k4, trivial⟩
theorem RRefut_up : ∀ {n m : Nat} {H : Hp} {vs : List Value} {x : Refut}, n ≤ m → RRefut n H vs x → RRefut m H vs x
  | 0, _, _, _, _, _, h => h.elim
  | n + 1, 0, _, _, _, hm, _ => by omega
  | n + 1, m + 1, _, _, _, hm, h => by have hm : n ≤ m := (by omega); obtain ⟨v0, v1, v2, v3, v4, h0, k0, k1, k2, k3, k4, -⟩ := h; exact ⟨v0, v1, v2, v3, v4, h0, k0, k1, k2, k3, sl_imp (fun _ _ => RRefut_up hm) k4, trivial⟩
def rRefut : Rep Refut := ⟨9, fun H vs x => ∃ n, RRefut n H vs x, fun _ _ _ _ hle ⟨n, h⟩ => ⟨n, RRefut_mono n hle h⟩,
  fun H vs x h => by obtain ⟨n, h⟩ := h; cases n with | zero => exact h.elim | succ n => obtain ⟨v0, v1, v2, v3, v4, h0, k0, k1, k2, k3, k4, -⟩ := h; rw [h0]; rfl,
  fun H vs x h => by obtain ⟨n, h⟩ := h; cases n with | zero => exact h.elim | succ n => obtain ⟨v0, v1, v2, v3, v4, h0, k0, k1, k2, k3, k4, -⟩ := h; rw [h0]; exact (ones_cons rfl (ones_cons rfl (ones_cons rfl (ones_cons k0.one (ones_cons k1.one (ones_cons rfl (ones_cons k2.one (ones_cons k3.one (ones_cons (Sl.one k4) ones_nil)))))))))⟩
theorem rRefut_open {H : Hp} {vs : List Value} {x : Refut} (h : rRefut.R H vs x) : ∃ v0 v1 v2 v3 v4, vs = [Value.int .i64 x.Kind, Value.int .i64 x.Var, Value.int .i64 x.At, v0, v1, Value.bool x.Proof.Bound.Negative, v2, v3, v4] ∧ Rs rStep H v0 x.Proof.Steps ∧ Rs rBig H v1 x.Proof.Form ∧ Rs (rInt .u32) H v2 x.Proof.Bound.Digits ∧ Rs rProof H v3 x.Proof.Children ∧ Rs rRefut H v4 x.Children ∧ True := by
  obtain ⟨n, h⟩ := h; cases n with | zero => exact h.elim | succ n => obtain ⟨v0, v1, v2, v3, v4, h0, k0, k1, k2, k3, k4, -⟩ := h; exact ⟨v0, v1, v2, v3, v4, h0, k0, k1, k2, k3, sl_imp (fun _ _ h => ⟨n, h⟩) k4, trivial⟩
theorem rRefut_close {H : Hp} {vs : List Value} {x : Refut} (h : ∃ v0 v1 v2 v3 v4, vs = [Value.int .i64 x.Kind, Value.int .i64 x.Var, Value.int .i64 x.At, v0, v1, Value.bool x.Proof.Bound.Negative, v2, v3, v4] ∧ Rs rStep H v0 x.Proof.Steps ∧ Rs rBig H v1 x.Proof.Form ∧ Rs (rInt .u32) H v2 x.Proof.Bound.Digits ∧ Rs rProof H v3 x.Proof.Children ∧ Rs rRefut H v4 x.Children ∧ True) : rRefut.R H vs x := by
  obtain ⟨v0, v1, v2, v3, v4, h0, k0, k1, k2, k3, k4, -⟩ := h
  obtain ⟨n, hn⟩ := sl_bound (Rn := RRefut) (fun _ _ _ _ hm h => RRefut_up hm h) k4
  exact ⟨n + 1, v0, v1, v2, v3, v4, h0, k0, k1, k2, k3, hn, trivial⟩
structure RCase where
  L : (List RVar)
  C : RClause
  Ranges : (List Arr2Int)
  R : (List RVal)
  deriving DecidableEq
structure RClaim where
  L : (List RVar)
  C : RClause
  F : Refut
  R : (List RVal)
end Go.D

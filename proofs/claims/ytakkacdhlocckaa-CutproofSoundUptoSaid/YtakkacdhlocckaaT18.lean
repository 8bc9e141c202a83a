/- The kinds of data, and how they are read. Written by a program of mine (wip/tool). -/
import Derived.Test.YtakkacdhlocckaaZ
namespace Go.D
open Go Go.X
structure Big where
  Negative : Bool
  Digits : (List Int)
  deriving DecidableEq
def rBig : Rep Big := ⟨2, fun H vs x => ∃ v0, vs = [Value.bool x.Negative, v0] ∧ Rs (rInt .u32) H v0 x.Digits ∧ True,
  fun H H' vs x hle h => by obtain ⟨v0, h0, k0, -⟩ := h; exact ⟨v0, h0, k0.mono hle, trivial⟩,
  fun H vs x h => by obtain ⟨v0, h0, k0, -⟩ := h; rw [h0]; rfl,
  fun H vs x h => by obtain ⟨v0, h0, k0, -⟩ := h; rw [h0]; exact (ones_cons rfl (ones_cons k0.one ones_nil))⟩
theorem rBig_open {H : Hp} {vs : List Value} {x : Big} (h : rBig.R H vs x) : ∃ v0, vs = [Value.bool x.Negative, v0] ∧ Rs (rInt .u32) H v0 x.Digits ∧ True := h
theorem rBig_close {H : Hp} {vs : List Value} {x : Big} (h : ∃ v0, vs = [Value.bool x.Negative, v0] ∧ Rs (rInt .u32) H v0 x.Digits ∧ True) : rBig.R H vs x := h
structure Coef where
  Var : Int
  N : Int
  deriving DecidableEq
structure Linear where
  Const : Int
  Coefs : (List Coef)
  deriving DecidableEq
structure Constraint where
  Linear : Linear
  Equal : Bool
  deriving DecidableEq
structure Ineq where
  Coefs : (List Big)
  Bound : Big
  deriving DecidableEq
def rIneq : Rep Ineq := ⟨3, fun H vs x => ∃ v0 v1, vs = [v0, Value.bool x.Bound.Negative, v1] ∧ Rs rBig H v0 x.Coefs ∧ Rs (rInt .u32) H v1 x.Bound.Digits ∧ True,
  fun H H' vs x hle h => by obtain ⟨v0, v1, h0, k0, k1, -⟩ := h; exact ⟨v0, v1, h0, k0.mono hle, k1.mono hle, trivial⟩,
  fun H vs x h => by obtain ⟨v0, v1, h0, k0, k1, -⟩ := h; rw [h0]; rfl,
  fun H vs x h => by obtain ⟨v0, v1, h0, k0, k1, -⟩ := h; rw [h0]; exact (ones_cons k0.one (ones_cons rfl (ones_cons k1.one ones_nil)))⟩
theorem rIneq_open {H : Hp} {vs : List Value} {x : Ineq} (h : rIneq.R H vs x) : ∃ v0 v1, vs = [v0, Value.bool x.Bound.Negative, v1] ∧ Rs rBig H v0 x.Coefs ∧ Rs (rInt .u32) H v1 x.Bound.Digits ∧ True := h
theorem rIneq_close {H : Hp} {vs : List Value} {x : Ineq} (h : ∃ v0 v1, vs = [v0, Value.bool x.Bound.Negative, v1] ∧ Rs rBig H v0 x.Coefs ∧ Rs (rInt .u32) H v1 x.Bound.Digits ∧ True) : rIneq.R H vs x := h
structure Use where
  Index : Int
  N : Big
  deriving DecidableEq
def rUse : Rep Use := ⟨3, fun H vs x => ∃ v0, vs = [Value.int .i64 x.Index, Value.bool x.N.Negative, v0] ∧ Rs (rInt .u32) H v0 x.N.Digits ∧ True,
  fun H H' vs x hle h => by obtain ⟨v0, h0, k0, -⟩ := h; exact ⟨v0, h0, k0.mono hle, trivial⟩,
  fun H vs x h => by obtain ⟨v0, h0, k0, -⟩ := h; rw [h0]; rfl,
  fun H vs x h => by obtain ⟨v0, h0, k0, -⟩ := h; rw [h0]; exact (ones_cons rfl (ones_cons rfl (ones_cons k0.one ones_nil)))⟩
theorem rUse_open {H : Hp} {vs : List Value} {x : Use} (h : rUse.R H vs x) : ∃ v0, vs = [Value.int .i64 x.Index, Value.bool x.N.Negative, v0] ∧ Rs (rInt .u32) H v0 x.N.Digits ∧ True := h
theorem rUse_close {H : Hp} {vs : List Value} {x : Use} (h : ∃ v0, vs = [Value.int .i64 x.Index, Value.bool x.N.Negative, v0] ∧ Rs (rInt .u32) H v0 x.N.Digits ∧ True) : rUse.R H vs x := h
structure Step where
  Uses : (List Use)
  Divisor : Big
  deriving DecidableEq
def rStep : Rep Step := ⟨3, fun H vs x => ∃ v0 v1, vs = [v0, Value.bool x.Divisor.Negative, v1] ∧ Rs rUse H v0 x.Uses ∧ Rs (rInt .u32) H v1 x.Divisor.Digits ∧ True,
  fun H H' vs x hle h => by obtain ⟨v0, v1, h0, k0, k1, -⟩ := h; exact ⟨v0, v1, h0, k0.mono hle, k1.mono hle, trivial⟩,
  fun H vs x h => by obtain ⟨v0, v1, h0, k0, k1, -⟩ := h; rw [h0]; rfl,
  fun H vs x h => by obtain ⟨v0, v1, h0, k0, k1, -⟩ := h; rw [h0]; exact (ones_cons k0.one (ones_cons rfl (ones_cons k1.one ones_nil)))⟩
theorem rStep_open {H : Hp} {vs : List Value} {x : Step} (h : rStep.R H vs x) : ∃ v0 v1, vs = [v0, Value.bool x.Divisor.Negative, v1] ∧ Rs rUse H v0 x.Uses ∧ Rs (rInt .u32) H v1 x.Divisor.Digits ∧ True := h
theorem rStep_close {H : Hp} {vs : List Value} {x : Step} (h : ∃ v0 v1, vs = [v0, Value.bool x.Divisor.Negative, v1] ∧ Rs rUse H v0 x.Uses ∧ Rs (rInt .u32) H v1 x.Divisor.Digits ∧ True) : rStep.R H vs x := h
structure Proof where
  Steps : (List Step)
  Form : (List Big)
  Bound : Big
  Children : (List Proof)
def RProof : Nat → Hp → List Value → Proof → Prop
  | 0, _, _, _ => False
  | n + 1, H, vs, x => ∃ v0 v1 v2 v3, vs = [v0, v1, Value.bool x.Bound.Negative, v2, v3] ∧ Rs rStep H v0 x.Steps ∧ Rs rBig H v1 x.Form ∧ Rs (rInt .u32) H v2 x.Bound.Digits ∧ Sl 5 (RProof n) H v3 x.Children ∧ True
theorem RProof_mono : ∀ (n : Nat) {H H' : Hp} {vs : List Value} {x : Proof}, Le H H' → RProof n H vs x → RProof n H' vs x
  | 0, _, _, _, _, _, h => h.elim
  | n + 1, _, _, _, _, hle, h => by obtain ⟨v0, v1, v2, v3, h0, k0, k1, k2, k3, -⟩ := h; exact ⟨v0, v1, v2, v3, h0, k0.mono hle, k1.mono hle, k2.mono hle, Sl.mono (R := RProof n) (fun _ _ _ _ a b => RProof_mono n a b) hle k3, trivial⟩
theorem RProof_up : ∀ {n m : Nat} {H : Hp} {vs : List Value} {x : Proof}, n ≤ m → RProof n H vs x → RProof m H vs x
  | 0, _, _, _, _, _, h => h.elim
  | n + 1, 0, _, _, _, hm, _ => by omega
  | n + 1, m + 1, _, _, _, hm, h => by have hm : n ≤ m := (by omega); obtain ⟨v0, v1, v2, v3, h0, k0, k1, k2, k3, -⟩ := h; exact ⟨v0, v1, v2, v3, h0, k0, k1, k2, sl_imp (fun _ _ => RProof_up hm) k3, trivial⟩
def rProof : Rep Proof := ⟨5, fun H vs x => ∃ n, RProof n H vs x, fun _ _ _ _ hle ⟨n, h⟩ => ⟨n, RProof_mono n hle h⟩,
  fun H vs x h => by obtain ⟨n, h⟩ := h; cases n with | zero => exact h.elim | succ n => obtain ⟨v0, v1, v2, v3, h0, k0, k1, k2, k3, -⟩ := h; rw [h0]; rfl,
  fun H vs x h => by obtain ⟨n, h⟩ := h; cases n with | zero => exact h.elim | succ n => obtain ⟨v0, v1, v2, v3, h0, k0, k1, k2, k3, -⟩ := h; rw [h0]; exact (ones_cons k0.one (ones_cons k1.one (ones_cons rfl (ones_cons k2.one (ones_cons (Sl.one k3) ones_nil)))))⟩
theorem rProof_open {H : Hp} {vs : List Value} {x : Proof} (h : rProof.R H vs x) : ∃ v0 v1 v2 v3, vs = [v0, v1, Value.bool x.Bound.Negative, v2, v3] ∧ Rs rStep H v0 x.Steps ∧ Rs rBig H v1 x.Form ∧ Rs (rInt .u32) H v2 x.Bound.Digits ∧ Rs rProof H v3 x.Children ∧ True := by
  obtain ⟨n, h⟩ := h; cases n with | zero => exact h.elim | succ n => obtain ⟨v0, v1, v2, v3, h0, k0, k1, k2, k3, -⟩ := h; exact ⟨v0, v1, v2, v3, h0, k0, k1, k2, sl_imp (fun _ _ h => ⟨n, h⟩) k3, trivial⟩
theorem rProof_close {H : Hp} {vs : List Value} {x : Proof} (h : ∃ v0 v1 v2 v3, vs = [v0, v1, Value.bool x.Bound.Negative, v2, v3] ∧ Rs rStep H v0 x.Steps ∧ Rs rBig H v1 x.Form ∧ Rs (rInt .u32) H v2 x.Bound.Digits ∧ Rs rProof H v3 x.Children ∧ True) : rProof.R H vs x := by
  obtain ⟨v0, v1, v2, v3, h0, k0, k1, k2, k3, -⟩ := h
  obtain ⟨n, hn⟩ := sl_bound (Rn := RProof) (fun _ _ _ _ hm h => RProof_up hm h) k3
  exact ⟨n + 1, v0, v1, v2, v3, h0, k0, k1, k2, hn, trivial⟩
end Go.D

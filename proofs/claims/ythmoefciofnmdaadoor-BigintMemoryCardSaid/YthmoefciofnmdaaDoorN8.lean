/-
  The law BigintMemory (chapter 02). Plain theorems.
-/
import Derived.Test.YthmoefciofnmdaaDoorN7
import Derived.Test.YthmoefciofnmdaaDoorN3
import Derived.Test.YthmoefciofnmdaaDoorPC
set_option linter.unusedSimpArgs false
set_option linter.unusedVariables false
namespace Go.D
open Go Go.X
theorem owned_eq : bNormalO = bNormal ∧ bNegO = bNeg ∧ bAddO = bAdd ∧ bSubO = bSub ∧ bMulO = bMul ∧ bDivFloorO = bDivFloor ∧ bGCDO = bGCD := ⟨rfl, rfl, rfl, rfl, rfl, rfl, rfl⟩
theorem spoil_loop {body : Nat → List Int × Int → Option (Stp (List Int × Int) (Int × List Int))} {d : List Int} (hl : d.length ≤ 1000)
    (hb : ∀ N ds x, body N (ds, x) = if (x : Int) < (List.length d : Int) then (idx ds x).bind fun a => (idx ds x).bind fun b => (upd1 ds x (uw32 (a + 1))).bind fun y => some (Stp.next (y, iw (x + 1))) else some (Stp.done (x, ds))) :
    Tm (fun N => loopM (body N) N (d, 0)) (fun _ => True) := by
  refine Tm.loop (fun t : List Int × Int => ∃ k : Nat, t.2 = k ∧ k ≤ d.length ∧ t.1.length = d.length) (fun t => d.length - t.2.toNat) ⟨0, rfl, by omega, rfl⟩ ?_
  rintro ⟨ds, i⟩ ⟨k, rfl, hk, hd⟩
  simp only [hb]
  dsimp only at hd
  refine Tm.ite (fun h => ?_) (fun h => Tm.pure trivial)
  have hk' : k < ds.length := by omega
  refine Tm.step (idx_ok hk') (Tm.step (idx_ok hk') (Tm.step (upd1_i rfl hk') (Tm.pure ⟨⟨k + 1, ?_, by omega, by rw [List.length_set]; exact hd⟩, ?_⟩)))
  · show iw ((k : Int) + 1) = _
    rw [iw_eq] <;> omega
  · show d.length - (iw ((k : Int) + 1)).toNat < d.length - ((k : Int)).toNat
    rw [iw_eq] <;> omega
theorem spoil_tm {body : Nat → List Int × Int → Option (Stp (List Int × Int) (Int × List Int))} {d : List Int} (hl : d.length ≤ 1000)
    (hb : ∀ N ds x, body N (ds, x) = if (x : Int) < (List.length d : Int) then (idx ds x).bind fun a => (idx ds x).bind fun b => (upd1 ds x (uw32 (a + 1))).bind fun y => some (Stp.next (y, iw (x + 1))) else some (Stp.done (x, ds)))
    {f : Nat → Int × List Int → Option (List Int)} (hf : ∀ N s, f N s = some s.2) {β : Type} {g : Nat → List Int → Option β} {R : β → Prop} (h : ∀ y, Tm (fun N => g N y) R) :
    Tm (fun N => ((loopM (body N) N (d, 0)).bind (f N)).bind (g N)) R := by
  refine Tm.bind (Q := fun _ => True) (Tm.bind (spoil_loop hl hb) (fun s _ => ?_)) (fun y _ => h y)
  simp only [hf]
  exact Tm.pure trivial
theorem lawMemory_tm {a b : Big} (ha : InB W32 a.Digits) (hb : InB W32 b.Digits) : Tm (fun N => lawMemory N a b) (fun r => r = true) := by
  unfold lawMemory
  rw [owned_eq.1, owned_eq.2.1, owned_eq.2.2.1, owned_eq.2.2.2.1, owned_eq.2.2.2.2.1, owned_eq.2.2.2.2.2.1, owned_eq.2.2.2.2.2.2]
  refine head_tm (by simp) (fun hs => ?_)
  have la : a.Digits.length ≤ 8 := hs a (by simp)
  have lb : b.Digits.length ≤ 8 := hs b (by simp)
  refine cp_tm ⟨ha, la⟩ (by decide) (cp_tm ⟨hb, lb⟩ (by decide) ?_)
  refine Tm.bind (bDivFloor_tm ha hb (by omega) (by omega)) (fun x ⟨hx, l1, l2⟩ => ?_)
  refine Tm.bind (bNormal_tm ha (by omega)) (fun y1 h1 => Tm.bind (bNeg_tm ha (by omega)) (fun y2 h2 => ?_))
  refine Tm.bind (bAdd_tm ha hb (by omega) (by omega)) (fun y3 h3 => Tm.bind (bSub_tm ha hb (by omega) (by omega)) (fun y4 h4 => ?_))
  refine Tm.bind (bMul_tm ha hb (by omega) (by omega)) (fun y5 h5 => Tm.bind (bGCD_tm ha hb la lb) (fun y6 h6 => ?_))
  refine spoil_tm (by have := h1.2; omega) (fun _ _ _ => rfl) (fun _ _ => rfl) (fun _ => ?_)
  refine spoil_tm (by have := h2.2; omega) (fun _ _ _ => rfl) (fun _ _ => rfl) (fun _ => ?_)
  refine spoil_tm (by have := h3.2; omega) (fun _ _ _ => rfl) (fun _ _ => rfl) (fun _ => ?_)
  refine spoil_tm (by have := h4.2; omega) (fun _ _ _ => rfl) (fun _ _ => rfl) (fun _ => ?_)
  refine spoil_tm (by have := h5.2; omega) (fun _ _ _ => rfl) (fun _ _ => rfl) (fun _ => ?_)
  refine spoil_tm (by have := h6.2; omega) (fun _ _ _ => rfl) (fun _ _ => rfl) (fun _ => ?_)
  refine spoil_tm (by omega) (fun _ _ _ => rfl) (fun _ _ => rfl) (fun _ => ?_)
  refine spoil_tm (by omega) (fun _ _ _ => rfl) (fun _ _ => rfl) (fun _ => ?_)
  refine Tm.bind (bFormat_tm ha (by omega)) (fun _ _ => Tm.bind (bCompare_tm ha hb (by omega) (by omega)) (fun _ _ => ?_))
  refine cp_tm ⟨ha, la⟩ (by decide) (Tm.bind (rSame_refl (by omega)) ?_)
  rintro _ rfl
  refine Tm.pos rfl (cp_tm ⟨hb, lb⟩ (by decide) (Tm.bind (rSame_refl (by omega)) ?_))
  rintro _ rfl
  exact Tm.pure rfl
end Go.D

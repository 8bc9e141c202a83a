/-
 Systems of conditions on texts: solutions; copies; what is small. Plain theorems.
-/
import Derived.Test.YtaakoedphmeenaaK3
set_option linter.unusedSimpArgs false
set_option linter.unusedVariables false
namespace Go.D
open Go Go.X
def gL (p : TProb) (x : List (List UInt8)) (i : Nat) : Bool := decide (p.Min.getD i 0 ≤ ((x.getD i []).length : Int) ∧ ((x.getD i []).length : Int) ≤ p.Max.getD i 0) && (x.getD i []).all prn
def gT (x : List (List UInt8)) (t : TTest) : Bool := pas t (x.getD t.Var.toNat [])
def gS (x : List (List UInt8)) (e : Arr2Int) : Bool := decide (x.getD e.e0.toNat [] = x.getD e.e1.toNat [])
def gD (x : List (List UInt8)) (e : Arr2Int) : Bool := !gS x e
def sat (p : TProb) (x : List (List UInt8)) : Bool := decide (x.length = p.Min.length) && (List.range x.length).all (gL p x) && p.Tests.all (gT x) && p.Same.all (gS x) && p.Different.all (gD x)
structure OkP (p : TProb) : Prop where
 len : p.Max.length = p.Min.length
 le : p.Min.length ≤ 128
 mn : ∀ k ∈ p.Min, 0 ≤ k ∧ k ≤ 16
 mx : ∀ k ∈ p.Max, 0 ≤ k ∧ k ≤ 16
 ts : ∀ t ∈ p.Tests, okT t = true ∧ 0 ≤ t.Var ∧ t.Var < p.Min.length
 sm : ∀ e ∈ p.Same, (0 ≤ e.e0 ∧ e.e0 < p.Min.length) ∧ 0 ≤ e.e1 ∧ e.e1 < p.Min.length
 df : ∀ e ∈ p.Different, (0 ≤ e.e0 ∧ e.e0 < p.Min.length) ∧ 0 ≤ e.e1 ∧ e.e1 < p.Min.length
theorem okP_iff {p : TProb} : okP p = true ↔ OkP p := by
 simp only [okP, okPr, okV, okS, Bool.and_eq_true, decide_eq_true_eq, List.all_eq_true]
 constructor
 · rintro ⟨⟨⟨⟨⟨⟨h1, h2⟩, h3⟩, h4⟩, h5⟩, h6⟩, h7⟩; exact ⟨h1, h2, h3, h4, h5, h6, h7⟩
 · rintro ⟨h1, h2, h3, h4, h5, h6, h7⟩; exact ⟨⟨⟨⟨⟨⟨h1, h2⟩, h3⟩, h4⟩, h5⟩, h6⟩, h7⟩
theorem getD_n {α : Type} {l : List α} {n : Nat} {d : α} (h : n < l.length) : l.getD n d = l[n] := by rw [List.getD_eq_getElem?_getD, List.getElem?_eq_getElem h]; rfl
theorem var_n {v : Int} {n : Nat} (h : 0 ≤ v ∧ v < n) : ∃ k : Nat, v = (k : Int) ∧ k < n := ⟨v.toNat, by omega, by omega⟩
section
variable {p : TProb} {x : List (List UInt8)}
structure Lx (x : List (List UInt8)) : Prop where
 a : x.length ≤ Bg
 b : ∀ s ∈ x, s.length ≤ Bg
theorem rSatisfies_tm (h : OkP p) (hl : Lim p) (hx : Lx x) : Tm (fun N => rSatisfies N p x) (· = sat p x) := by
 have hb : Bg = 9223372036854775807 := rfl
 have hxa := hx.a
 unfold rSatisfies
 by_cases h0 : x.length = p.Min.length
 · simp only [show ((x.length : Int) ≠ (p.Max.length : Int)) = False by simp [h0, h.len], if_false]
   refine (Tm.allN (b := fun N => rSatisfies_b1 N p x) x.length (gL p x) (by omega) (fun k hk => ?_) ?_).eq ?_
   · unfold rSatisfies_b1
     refine Tm.pos (by omega) ?_
     have h1 : k < p.Min.length := by omega
     have h2 : k < p.Max.length := by rw [h.len]; exact h1
     simp only [idx_n hk, idx_n h1, idx_n h2, Option.bind_some]
     have hs := hx.b _ (List.getElem_mem hk)
     have e : gL p x k = (decide (p.Min[k] ≤ (x[k].length : Int) ∧ (x[k].length : Int) ≤ p.Max[k]) && x[k].all prn) := by
      unfold gL; rw [getD_n hk, getD_n h1, getD_n h2]
     rw [e]
     by_cases h3 : (x[k].length : Int) < p.Min[k]
     · simp only [if_pos h3, Option.bind_some, if_true]
       rw [decide_eq_false (by omega)]; exact Tm.some rfl
     · simp only [if_neg h3]
       by_cases h4 : (x[k].length : Int) > p.Max[k]
       · simp only [if_pos h4, Option.bind_some, if_true]
         rw [decide_eq_false (by omega)]; exact Tm.some rfl
       · simp only [if_neg h4]
         rw [decide_eq_true (by omega), Bool.true_and]
         have := (qPrintable_tm hs).eq (g := fun _ r => some (!r)) (R := (· = !x[k].all prn)) (Tm.some rfl)
         refine this.eq ?_
         cases x[k].all prn <;> exact Tm.some rfl
   · unfold rSatisfies_b1
     exact Tm.neg (by omega) (Tm.some rfl)
   · cases g1 : (List.range x.length).all (gL p x) with
     | false => exact Tm.some (by simp [sat, g1])
     | true =>
      refine (Tm.allL (b := fun N => rSatisfies_b2 N p x) p.Tests (gT x) (by have := hl.c; omega) (fun k hk => ?_) ?_).eq ?_
      · unfold rSatisfies_b2
        refine Tm.pos (by omega) (Tm.step (idx_n hk) (Tm.step (idx_n hk) ?_))
        obtain ⟨ho, hv⟩ := h.ts _ (List.getElem_mem hk)
        obtain ⟨v, e, hv⟩ := var_n hv
        have e' : p.Tests[k].Var.toNat = v := by omega
        rw [e]
        refine Tm.step (idx_n (by omega)) ?_
        refine (qPasses_tm ho (hx.b _ (List.getElem_mem _))).eq ?_
        unfold gT
        rw [e', getD_n (by omega : v < x.length)]
        cases pas p.Tests[k] x[v] <;> exact Tm.some rfl
      · unfold rSatisfies_b2
        exact Tm.neg (by omega) (Tm.some rfl)
      · cases g2 : p.Tests.all (gT x) with
        | false => exact Tm.some (by simp [sat, g2])
        | true =>
         refine (Tm.allL (b := fun N => rSatisfies_b3 N p x) p.Same (gS x) (by have := hl.d; omega) (fun k hk => ?_) ?_).eq ?_
         · unfold rSatisfies_b3
           refine Tm.pos (by omega) ?_
           obtain ⟨hv, hw⟩ := h.sm _ (List.getElem_mem hk)
           obtain ⟨v, e, hv⟩ := var_n hv
           obtain ⟨u, e2, hu⟩ := var_n hw
           have e' : p.Same[k].e0.toNat = v := by omega
           have e2' : p.Same[k].e1.toNat = u := by omega
           simp only [idx_n hk, Option.bind_some, e, e2]
           refine Tm.step (idx_n (by omega)) (Tm.step (idx_n (by omega)) ?_)
           unfold gS
           rw [e', e2', getD_n (by omega : v < x.length), getD_n (by omega : u < x.length)]
           by_cases g : x[v] = x[u]
           · rw [if_neg (fun h => h g), decide_eq_true g]; exact Tm.some rfl
           · rw [if_pos g, decide_eq_false g]; exact Tm.some rfl
         · unfold rSatisfies_b3
           exact Tm.neg (by omega) (Tm.some rfl)
         · cases g3 : p.Same.all (gS x) with
           | false => exact Tm.some (by simp [sat, g3])
           | true =>
            refine (Tm.allL (b := fun N => rSatisfies_b4 N p x) p.Different (gD x) (by have := hl.e; omega) (fun k hk => ?_) ?_).eq ?_
            · unfold rSatisfies_b4
              refine Tm.pos (by omega) ?_
              obtain ⟨hv, hw⟩ := h.df _ (List.getElem_mem hk)
              obtain ⟨v, e, hv⟩ := var_n hv
              obtain ⟨u, e2, hu⟩ := var_n hw
              have e' : p.Different[k].e0.toNat = v := by omega
              have e2' : p.Different[k].e1.toNat = u := by omega
              simp only [idx_n hk, Option.bind_some, e, e2]
              refine Tm.step (idx_n (by omega)) (Tm.step (idx_n (by omega)) ?_)
              unfold gD gS
              rw [e', e2', getD_n (by omega : v < x.length), getD_n (by omega : u < x.length)]
              by_cases g : x[v] = x[u]
              · rw [if_pos g, decide_eq_true g]; exact Tm.some rfl
              · rw [if_neg g, decide_eq_false g]; exact Tm.some rfl
            · unfold rSatisfies_b4
              exact Tm.neg (by omega) (Tm.some rfl)
            · cases g4 : p.Different.all (gD x) with
              | false => exact Tm.some (by simp [sat, g4])
              | true => exact Tm.some (by simp [sat, h0, g1, g2, g3, g4]; simpa [h0] using g1)
 · simp only [show ((x.length : Int) ≠ (p.Max.length : Int)) = True by simp [h.len]; omega, if_true]
   exact Tm.some (by simp [sat, h0])
structure Lms (p : TProb) : Prop where
 a : p.Min.length ≤ 1000
 b : p.Max.length ≤ 1000
 c : p.Tests.length ≤ 1000
 d : p.Same.length ≤ 1000
 e : p.Different.length ≤ 1000
theorem lof_tm (h : Lms p) : Tm (fun N => lof N p) (· = p) := by
 unfold lof
 have := h.a; have := h.b; have := h.c; have := h.d; have := h.e
 rw [apnd_ok (by simp; omega) (by decide), apnd_ok (by simp; omega) (by decide), apnd_ok (by simp; omega) (by decide), apnd_ok (by simp; omega) (by decide), apnd_ok (by simp; omega) (by decide)]
 exact Tm.some rfl
def small (p : TProb) : Bool := decide (p.Max.length ≤ 6 ∧ p.Min.length ≤ 6 ∧ p.Tests.length ≤ 8 ∧ p.Same.length ≤ 8 ∧ p.Different.length ≤ 8) && okP p
theorem rSmall_tm (h : Lim p) : Tm (fun N => rSmall N p) (· = small p) := by
 unfold rSmall
 by_cases h1 : p.Max.length ≤ 6
 · by_cases h2 : p.Min.length ≤ 6
   · by_cases h3 : p.Tests.length ≤ 8
     · by_cases h4 : p.Same.length ≤ 8
       · by_cases h5 : p.Different.length ≤ 8
         · simp only [show ((p.Max.length : Int) ≤ 6) = True by simp; omega, show ((p.Min.length : Int) ≤ 6) = True by simp; omega, show ((p.Tests.length : Int) ≤ 8) = True by simp; omega, show ((p.Same.length : Int) ≤ 8) = True by simp; omega, show ((p.Different.length : Int) ≤ 8) = True by simp; omega, if_true]
           exact (rValid_tm h).eq (Tm.some (by simp [small, h1, h2, h3, h4, h5]))
         · simp only [show ((p.Max.length : Int) ≤ 6) = True by simp; omega, show ((p.Min.length : Int) ≤ 6) = True by simp; omega, show ((p.Tests.length : Int) ≤ 8) = True by simp; omega, show ((p.Same.length : Int) ≤ 8) = True by simp; omega, show ((p.Different.length : Int) ≤ 8) = False by simp; omega, if_true, if_false]
           exact Tm.some (by simp [small, h5])
       · simp only [show ((p.Max.length : Int) ≤ 6) = True by simp; omega, show ((p.Min.length : Int) ≤ 6) = True by simp; omega, show ((p.Tests.length : Int) ≤ 8) = True by simp; omega, show ((p.Same.length : Int) ≤ 8) = False by simp; omega, if_true, if_false]
         exact Tm.some (by simp [small, h4])
     · simp only [show ((p.Max.length : Int) ≤ 6) = True by simp; omega, show ((p.Min.length : Int) ≤ 6) = True by simp; omega, show ((p.Tests.length : Int) ≤ 8) = False by simp; omega, if_true, if_false]
       exact Tm.some (by simp [small, h3])
   · simp only [show ((p.Max.length : Int) ≤ 6) = True by simp; omega, show ((p.Min.length : Int) ≤ 6) = False by simp; omega, if_true, if_false]
     exact Tm.some (by simp [small, h2])
 · simp only [show ((p.Max.length : Int) ≤ 6) = False by simp; omega, if_false]
   exact Tm.some (by simp [small, h1])
theorem small_ok (h : small p = true) : OkP p ∧ Lms p ∧ p.Min.length ≤ 6 ∧ p.Tests.length ≤ 8 ∧ p.Same.length ≤ 8 ∧ p.Different.length ≤ 8 := by
 simp only [small, Bool.and_eq_true, decide_eq_true_eq] at h
 obtain ⟨⟨h1, h2, h3, h4, h5⟩, h6⟩ := h
 exact ⟨okP_iff.1 h6, ⟨by omega, by omega, by omega, by omega, by omega⟩, h2, h3, h4, h5⟩
end
end Go.D

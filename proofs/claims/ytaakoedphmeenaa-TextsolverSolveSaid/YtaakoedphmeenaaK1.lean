/-
 Systems of conditions on texts: which are valid. Plain theorems.
-/
import Derived.Test.YtaakoedphmeenaaM17
import Derived.Test.YtaakoedphmeenaaPL
set_option linter.unusedSimpArgs false
set_option linter.unusedVariables false
namespace Go.D
open Go Go.X
def prn (b : UInt8) : Bool := decide (32 ≤ b.toNat ∧ b.toNat ≤ 126)
def okT (t : TTest) : Bool := decide (0 ≤ t.Kind ∧ t.Kind ≤ 3 ∧ t.Text.length ≤ 16) && t.Text.all prn
def Bg : Nat := 9223372036854775807
theorem prn_bad {b : UInt8} : (decide ((UInt8.toNat b : Int) < 32 ∨ (UInt8.toNat b : Int) > 126)) = !prn b := by
 unfold prn
 by_cases h : 32 ≤ b.toNat ∧ b.toNat ≤ 126
 · rw [decide_eq_true h, decide_eq_false (by omega)]; rfl
 · rw [decide_eq_false h, decide_eq_true (by omega)]; rfl
theorem qPrintable_tm {s : List UInt8} (hl : s.length ≤ Bg) : Tm (fun N => qPrintable N s) (· = s.all prn) := by
 have hb : Bg = 9223372036854775807 := rfl
 unfold qPrintable
 refine (Tm.allL (b := fun N => qPrintable_b1 N s) s prn (by omega) (fun k hk => ?_) ?_).eq ?_
 · unfold qPrintable_b1
   refine Tm.pos (by omega) ?_
   simp only [idx_n hk, Option.bind_some, or_if, prn_bad]
   cases prn s[k] <;> exact Tm.some rfl
 · unfold qPrintable_b1
   exact Tm.neg (by omega) (Tm.some rfl)
 · cases h : s.all prn <;> exact Tm.some rfl
theorem qValid_tm {t : TTest} (hl : t.Text.length ≤ Bg) : Tm (fun N => qValid N t) (· = okT t) := by
 unfold qValid
 by_cases h1 : t.Kind ≥ 0
 · by_cases h2 : t.Kind ≤ 3
   · by_cases h3 : (t.Text.length : Int) ≤ 16
     · simp only [if_pos h1, if_pos h2, if_pos h3]
       refine (qPrintable_tm hl).eq (Tm.some ?_)
       have h0 : (0 ≤ t.Kind ∧ t.Kind ≤ 3 ∧ t.Text.length ≤ 16) := ⟨h1, h2, by omega⟩
       simp [okT, h0]
     · simp only [if_pos h1, if_pos h2, if_neg h3]
       refine Tm.some ?_
       have : ¬ t.Text.length ≤ 16 := by omega
       simp [okT, this]
   · simp only [if_pos h1, if_neg h2]
     refine Tm.some ?_
     simp [okT, h2]
 · simp only [if_neg h1]
   refine Tm.some ?_
   have : ¬ 0 ≤ t.Kind := h1
   simp [okT, this]
def okS (k : Int) : Bool := decide (0 ≤ k ∧ k ≤ 16)
def okV (n : Nat) (v : Int) : Bool := decide (0 ≤ v ∧ v < n)
def okPr (n : Nat) (x : Arr2Int) : Bool := okV n x.e0 && okV n x.e1
def okP (p : TProb) : Bool := decide (p.Max.length = p.Min.length ∧ p.Min.length ≤ 128) && p.Min.all okS && p.Max.all okS && p.Tests.all (fun t => okT t && okV p.Min.length t.Var) && p.Same.all (okPr p.Min.length) && p.Different.all (okPr p.Min.length)
def ixB {α : Type} (f : α → Option Bool) (s : List α) : Int → Option (Stp Int (Sum Unit Int)) := fun x =>
 if (x : Int) < (List.length s : Int) then
  (idx s x).bind fun y => (f y).bind fun r => if r = true then some (Stp.done (Sum.inr x)) else some (Stp.next (iw (x + 1)))
 else some (Stp.done (Sum.inl ()))
def ixF {α : Type} (N : Nat) (s : List α) (f : α → Option Bool) : Option Int :=
 (loopM (ixB f s) N 0).bind fun ss => match ss with
  | Sum.inl _ => some (-1)
  | Sum.inr z => some z
theorem indexInt_eq (N : Nat) (s : List Int) (f : Int → Option Bool) : indexInt N s f = ixF N s f := rfl
theorem ixF_tm {α : Type} {s : List α} {f : Nat → α → Option Bool} {g : α → Bool} (hn : s.length ≤ Bg) (h : ∀ x ∈ s, Tm (fun N => f N x) (· = g x)) : Tm (fun N => ixF N s (f N)) (fun r => decide (r ≥ 0) = s.any g) := by
 have hb : Bg = 9223372036854775807 := rfl
 unfold ixF
 refine (Tm.findL (b := fun N => ixB (f N) s) s g (fun k => (k : Int)) (by omega) (fun k hk => ?_) ?_).bind fun o ho => ?_
 · unfold ixB
   refine Tm.pos (by omega) (Tm.step (idx_n hk) ((h _ (List.getElem_mem hk)).eq ?_))
   cases g s[k] <;> exact Tm.some rfl
 · unfold ixB
   exact Tm.neg (by omega) (Tm.some rfl)
 · rcases ho with ⟨h1, rfl⟩ | ⟨k, hk, h1, _, rfl⟩
   · refine Tm.some ?_
     rw [h1]; rfl
   · refine Tm.some ?_
     rw [List.any_eq_true.2 ⟨_, List.getElem_mem hk, h1⟩]
     exact decide_eq_true (by omega)
theorem containsInt_tm {s : List Int} {f : Nat → Int → Option Bool} {g : Int → Bool} (hn : s.length ≤ Bg) (h : ∀ x ∈ s, Tm (fun N => f N x) (· = g x)) : Tm (fun N => containsInt N s (f N)) (· = s.any g) := by
 unfold containsInt
 simp only [indexInt_eq]
 exact (ixF_tm hn h).bind fun r hr => Tm.some hr
structure Lim (p : TProb) : Prop where
 a : p.Min.length ≤ Bg
 b : p.Max.length ≤ Bg
 c : p.Tests.length ≤ Bg
 d : p.Same.length ≤ Bg
 e : p.Different.length ≤ Bg
 f : ∀ t ∈ p.Tests, t.Text.length ≤ Bg
theorem not_any_not {α : Type} {l : List α} {f : α → Bool} : (!l.any fun x => !f x) = l.all f := by
 rw [Bool.eq_iff_iff]
 simp
theorem rSizes_tm {l : List Int} (hl : l.length ≤ Bg) : Tm (fun N => rSizes N l) (· = l.all okS) := by
 have hb : Bg = 9223372036854775807 := rfl
 unfold rSizes
 refine (Tm.allL (b := fun N => rSizes_b1 N l) l okS (by omega) (fun k hk => ?_) ?_).eq ?_
 · unfold rSizes_b1
   refine Tm.pos (by omega) ?_
   simp only [idx_n hk, Option.bind_some, or_if]
   by_cases h : 0 ≤ l[k] ∧ l[k] ≤ 16
   · rw [show okS l[k] = true from decide_eq_true h, decide_eq_false (by omega)]; exact Tm.some rfl
   · rw [show okS l[k] = false from decide_eq_false h, decide_eq_true (by omega)]; exact Tm.some rfl
 · unfold rSizes_b1
   exact Tm.neg (by omega) (Tm.some rfl)
 · cases h : l.all okS <;> exact Tm.some rfl
theorem rPairs_tm {l : List Arr2Int} {n : Nat} (hl : l.length ≤ Bg) : Tm (fun N => rPairs N l (n : Int)) (· = l.all (okPr n)) := by
 have hb : Bg = 9223372036854775807 := rfl
 unfold rPairs
 refine (Tm.allL (b := fun N => rPairs_b1 N l n) l (okPr n) (by omega) (fun k hk => ?_) ?_).eq ?_
 · unfold rPairs_b1
   refine Tm.pos (by omega) ?_
   simp only [idx_n hk, Option.bind_some, or_if]
   have e : decide (l[k].e0 < 0 ∨ l[k].e0 ≥ (n : Int) ∨ l[k].e1 < 0 ∨ l[k].e1 ≥ (n : Int)) = !okPr n l[k] := by
    unfold okPr okV
    rw [← Bool.decide_and, ← decide_not]
    exact decide_eq_decide.2 (by omega)
   rw [e]
   cases okPr n l[k] <;> exact Tm.some rfl
 · unfold rPairs_b1
   exact Tm.neg (by omega) (Tm.some rfl)
 · cases h : l.all (okPr n) <;> exact Tm.some rfl
def okPr' (p : TProb) : Bool := p.Tests.all (fun t => okT t && okV p.Max.length t.Var) && decide (p.Min.length = p.Max.length ∧ p.Max.length ≤ 128) && p.Min.all okS && p.Max.all okS && p.Same.all (okPr p.Max.length) && p.Different.all (okPr p.Max.length)
theorem okP_eq {p : TProb} : okPr' p = okP p := by
 unfold okPr' okP
 by_cases h : p.Max.length = p.Min.length ∧ p.Min.length ≤ 128
 · rw [decide_eq_true h, h.1, decide_eq_true (show p.Min.length = p.Min.length ∧ p.Min.length ≤ 128 from ⟨rfl, h.2⟩)]
   cases p.Tests.all (fun t => okT t && okV p.Min.length t.Var) <;> simp
 · rw [decide_eq_false h, decide_eq_false (by omega)]
   simp
theorem rValid_tm {p : TProb} (h : Lim p) : Tm (fun N => rValid N p) (· = okP p) := by
 have hb : Bg = 9223372036854775807 := rfl
 rw [← okP_eq]
 unfold rValid
 refine (Tm.allL (b := fun N => rValid_b1 N p) p.Tests (fun t => okT t && okV p.Max.length t.Var) (by have := h.c; omega) (fun k hk => ?_) ?_).eq ?_
 · unfold rValid_b1
   refine Tm.pos (by omega) ?_
   have key : Tm (fun N => (idx p.Tests (k : Int)).bind fun x307 => (qValid N x307).bind fun r320 => if (!r320) = true then some true else (idx p.Tests (k : Int)).bind fun x328 => if (x328.Var : Int) < 0 then some true else (idx p.Tests (k : Int)).bind fun x344 => some (decide ((x344.Var : Int) ≥ (List.length p.Max : Int)))) (· = !(okT p.Tests[k] && okV p.Max.length p.Tests[k].Var)) := by
    simp only [idx_n hk, Option.bind_some, or_if]
    refine (qValid_tm (h.f _ (List.getElem_mem hk))).eq ?_
    cases okT p.Tests[k] with
    | false => exact Tm.some rfl
    | true =>
     refine Tm.some ?_
     unfold okV
     rw [Bool.true_and, ← decide_not]
     exact decide_eq_decide.2 (by simp; omega)
   refine key.eq ?_
   cases (okT p.Tests[k] && okV p.Max.length p.Tests[k].Var) <;> exact Tm.some rfl
 · unfold rValid_b1
   exact Tm.neg (by omega) (Tm.some rfl)
 · cases g0 : p.Tests.all (fun t => okT t && okV p.Max.length t.Var) with
   | false => exact Tm.some (by simp [okPr', g0])
   | true =>
    show Tm (fun N => _) _
    by_cases h1 : p.Min.length = p.Max.length
    · by_cases h2 : p.Max.length ≤ 128
      · simp only [show ((p.Min.length : Int) = (p.Max.length : Int)) = True by simp [h1], show ((p.Max.length : Int) ≤ 128) = True by simp; omega, if_true]
        refine (rSizes_tm h.a).eq ?_
        cases g1 : p.Min.all okS with
        | false => exact Tm.some (by simp [okPr', g1])
        | true =>
         simp only [if_true]
         refine (rSizes_tm h.b).eq ?_
         cases g2 : p.Max.all okS with
         | false => exact Tm.some (by simp [okPr', g2])
         | true =>
          simp only [if_true]
          refine (rPairs_tm h.d).eq ?_
          cases g3 : p.Same.all (okPr p.Max.length) with
          | false => exact Tm.some (by simp [okPr', g3])
          | true =>
           simp only [if_true]
           refine (rPairs_tm h.e).eq (Tm.some ?_)
           simp only [okPr', g0, g1, g2, g3, decide_eq_true (show p.Min.length = p.Max.length ∧ p.Max.length ≤ 128 from ⟨h1, h2⟩)]
           simp
      · simp only [show ((p.Min.length : Int) = (p.Max.length : Int)) = True by simp [h1], show ((p.Max.length : Int) ≤ 128) = False by simp; omega, if_true, if_false]
        exact Tm.some (by simp [okPr', h2])
    · simp only [show ((p.Min.length : Int) = (p.Max.length : Int)) = False by simp; omega, if_false]
      exact Tm.some (by simp [okPr', h1])
end Go.D

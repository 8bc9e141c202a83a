/-
 Clauses: what is known of the valid and small ones. Plain theorems.
-/
import Derived.Test.YtcakdidcpoolcaaGreatDoorK1
set_option linter.unusedSimpArgs false
set_option linter.unusedVariables false
namespace Go.D
open Go Go.X
def prn (b : UInt8) : Bool := decide (32 ≤ b.toNat ∧ b.toNat ≤ 126)
def okT (t : TTest) : Bool := decide (0 ≤ t.Kind ∧ t.Kind ≤ 3 ∧ t.Text.length ≤ 16) && t.Text.all prn
theorem prn_bad {b : UInt8} : (decide ((UInt8.toNat b : Int) < 32 ∨ (UInt8.toNat b : Int) > 126)) = !prn b := by
 unfold prn
 by_cases h : 32 ≤ b.toNat ∧ b.toNat ≤ 126
 · rw [decide_eq_true h, decide_eq_false (by omega)]; rfl
 · rw [decide_eq_false h, decide_eq_true (by omega)]; rfl
theorem sTested_tm {t : TTest} (hl : t.Text.length ≤ Bg) : Tm (fun N => sTested N t) (· = okT t) := by
 have hb : Bg = 9223372036854775807 := rfl
 unfold sTested
 refine (Tm.allL (b := fun N => sTested_b1 N t) t.Text prn (by omega) (fun k hk => ?_) ?_).eq ?_
 · unfold sTested_b1
   refine Tm.pos (by omega) ?_
   simp only [idx_n hk, Option.bind_some, or_if, prn_bad]
   cases prn t.Text[k] <;> exact Tm.some rfl
 · unfold sTested_b1
   exact Tm.neg (by omega) (Tm.some rfl)
 · cases h : t.Text.all prn with
   | false => exact Tm.some (by simp [okT, h])
   | true =>
    by_cases h1 : t.Kind ≥ 0
    · refine Tm.pos h1 ?_
      by_cases h2 : t.Kind ≤ 3
      · refine Tm.pos h2 (Tm.some ?_)
        simp only [okT, h, Bool.and_true]
        exact decide_eq_decide.2 (by omega)
      · exact Tm.neg h2 (Tm.some (by simp [okT, h2]))
    · refine Tm.neg h1 (Tm.some ?_)
      have : ¬ 0 ≤ t.Kind := h1
      simp [okT, this]
theorem sPairs_tm {p : List Arr2Int} {c : RClause} {l : List RVar} (hn : c.NotNull.length ≤ Bg) (hp : p.length ≤ Bg) : Tm (fun N => sPairs N p c l) (fun r => r = true → ∀ e ∈ p, TxtOk c l e.e0 ∧ TxtOk c l e.e1 ∧ e.e0 < e.e1) := by
 have hb : Bg = 9223372036854775807 := rfl
 unfold sPairs
 refine Tm.bind (Q := fun o => match o with | .inl _ => ∀ e ∈ p, TxtOk c l e.e0 ∧ TxtOk c l e.e1 ∧ e.e0 < e.e1 | .inr z => z = false) ?_ fun o ho => ?_
 · refine Tm.up p.length (fun k s => s = (k : Int) ∧ ∀ j (hj : j < p.length), j < k → TxtOk c l p[j].e0 ∧ TxtOk c l p[j].e1 ∧ p[j].e0 < p[j].e1) ⟨rfl, fun j _ hj => by omega⟩ ?_
   rintro k hk i ⟨rfl, hJ⟩
   unfold sPairs_b1
   rcases Nat.lt_or_ge k p.length with hlt | hge
   · refine Tm.pos (by omega) ?_
     refine Tm.bind (Q := fun b => b = false → TxtOk c l p[k].e0 ∧ TxtOk c l p[k].e1 ∧ p[k].e0 < p[k].e1) ?_ fun b hb' => ?_
     · refine Tm.step (idx_n hlt) ((sText_tm hn).bind fun r hr => ?_)
       cases r with
       | false => exact Tm.pos rfl (Tm.some fun e => by simp at e)
       | true =>
        refine Tm.neg (by simp) (Tm.step (idx_n hlt) ((sText_tm hn).bind fun r2 hr2 => ?_))
        cases r2 with
        | false => exact Tm.pos rfl (Tm.some fun e => by simp at e)
        | true =>
         refine Tm.neg (by simp) (Tm.step (idx_n hlt) (Tm.step (idx_n hlt) (Tm.some fun e => ?_)))
         have e := of_decide_eq_false e
         exact ⟨hr rfl, hr2 rfl, by omega⟩
     · cases b with
       | true => exact Tm.pos rfl (Tm.some rfl)
       | false =>
        refine Tm.neg (by simp) (Tm.some ⟨hlt, iw_n (by omega), fun j hj hjk => ?_⟩)
        by_cases ejk : j = k
        · subst ejk; exact hb' rfl
        · exact hJ j hj (by omega)
   · refine Tm.neg (by omega) (Tm.some fun e he => ?_)
     obtain ⟨j, hj, rfl⟩ := List.getElem_of_mem he
     exact hJ j hj (by omega)
 · cases o with
   | inl _ => exact Tm.some fun _ => ho
   | inr z =>
    have ho : z = false := ho
    subst ho
    exact Tm.some fun h => by simp at h
def AuxOk (c : RClause) (l : List RVar) (i : Nat) (a : RAux) : Prop :=
 (a.By = 0 ∧ a.Of.Coefs = [] ∧ a.Of.Const = 0 ∧ TxtOk c l a.Text) ∨ (a.By ≠ 0 ∧ (1 ≤ a.By ∧ a.By ≤ 1000) ∧ a.Text = 0 ∧ FrmOk a.Of (l.length + i))
structure ClOk (c : RClause) (l : List RVar) : Prop where
 nl : AscOk c.Null l.length
 nn : AscOk c.NotNull l.length
 ax : ∀ i (hi : i < c.Auxiliary.length), AuxOk c l i c.Auxiliary[i]
 it : ∀ k ∈ c.Ints, FrmOk k.Linear (l.length + c.Auxiliary.length)
 ts : ∀ t ∈ c.Tests, okT t = true ∧ TxtOk c l t.Var
 sm : ∀ e ∈ c.Same, TxtOk c l e.e0 ∧ TxtOk c l e.e1 ∧ e.e0 < e.e1
 df : ∀ e ∈ c.Different, TxtOk c l e.e0 ∧ TxtOk c l e.e1 ∧ e.e0 < e.e1
structure LimC (c : RClause) : Prop where
 nl : c.Null.length ≤ Bg
 nn : c.NotNull.length ≤ Bg
 ax : ∀ a ∈ c.Auxiliary, a.Of.Coefs.length ≤ Bg
 it : ∀ k ∈ c.Ints, k.Linear.Coefs.length ≤ Bg
 ts : ∀ t ∈ c.Tests, t.Text.length ≤ Bg
structure SmC (c : RClause) : Prop where
 ax : c.Auxiliary.length ≤ 80
 it : c.Ints.length ≤ 80
 ts : c.Tests.length ≤ 80
 sm : c.Same.length ≤ 80
 df : c.Different.length ≤ 80
theorem sValid_b1_tm {c : RClause} {l : List RVar} (hc : LimC c) (hs : SmC c) (hl : l.length ≤ 10) :
 Tm (fun N => loopM (sValid_b1 N c l) N (([] : List Int), 0)) (fun o => match o with | .inl bs => bs.length = c.Auxiliary.length ∧ ∀ i (hi : i < c.Auxiliary.length), AuxOk c l i c.Auxiliary[i] | .inr z => z = false) := by
 have hb : Bg = 9223372036854775807 := rfl
 have hax := hs.ax
 refine Tm.up c.Auxiliary.length (fun k s => s.2 = (k : Int) ∧ s.1.length = k ∧ ∀ j (hj : j < c.Auxiliary.length), j < k → AuxOk c l j c.Auxiliary[j]) ⟨rfl, rfl, fun j _ hj => by omega⟩ ?_
 rintro k hk ⟨s, i⟩ ⟨hi, hsl, hJ⟩
 dsimp only at hi hsl hJ; subst hi
 unfold sValid_b1
 dsimp only
 rcases Nat.lt_or_ge k c.Auxiliary.length with hlt | hge
 · refine Tm.pos (by omega) (Tm.step (idx_n hlt) ?_)
   have hlim := hc.ax _ (List.getElem_mem hlt)
   have hnext : AuxOk c l k c.Auxiliary[k] → ∀ j (hj : j < c.Auxiliary.length), j < k + 1 → AuxOk c l j c.Auxiliary[j] := fun hk' j hj hjk => by
    by_cases ejk : j = k
    · subst ejk; exact hk'
    · exact hJ j hj (by omega)
   by_cases g1 : c.Auxiliary[k].By = 0
   · refine Tm.pos g1 ?_
     refine Tm.bind (Q := fun b => b = false → AuxOk c l k c.Auxiliary[k]) ?_ fun b hb' => ?_
     · by_cases g2 : (c.Auxiliary[k].Of.Coefs.length : Int) > 0
       · exact Tm.pos g2 (Tm.some fun e => by simp at e)
       · refine Tm.neg g2 ?_
         by_cases g3 : c.Auxiliary[k].Of.Const ≠ 0
         · exact Tm.pos g3 (Tm.some fun e => by simp at e)
         · refine Tm.neg g3 ((sText_tm hc.nn).bind fun r hr => Tm.some fun e => ?_)
           exact .inl ⟨g1, List.eq_nil_of_length_eq_zero (by omega), by omega, hr (by simpa using e)⟩
     · cases b with
       | true => exact Tm.pos rfl (Tm.some rfl)
       | false =>
        refine Tm.neg (by simp) ?_
        rw [apnd_ok (by simp only [List.length_singleton]; omega) (by decide)]
        exact Tm.some ⟨hlt, iw_n (by omega), by simp [hsl], hnext (hb' rfl)⟩
   · refine Tm.neg g1 ((sForm_tm hc.nn hlim (by omega) (by omega)).bind fun r hr => ?_)
     refine Tm.bind (Q := fun b => b = false → AuxOk c l k c.Auxiliary[k]) ?_ fun b hb' => ?_
     · refine sWithin_tm.eq ?_
       by_cases g2 : 1 ≤ c.Auxiliary[k].By ∧ c.Auxiliary[k].By ≤ 1000
       · rw [decide_eq_true g2]
         refine Tm.neg (by simp) ?_
         by_cases g3 : c.Auxiliary[k].Text ≠ 0
         · exact Tm.pos g3 (Tm.some fun e => by simp at e)
         · refine Tm.neg g3 (Tm.some fun e => ?_)
           have e := of_decide_eq_false e
           refine .inr ⟨g1, g2, by omega, ?_⟩
           have h2 := hr (by omega)
           rw [hsl] at h2; exact h2
       · rw [decide_eq_false g2]
         exact Tm.pos rfl (Tm.some fun e => by simp at e)
     · cases b with
       | true => exact Tm.pos rfl (Tm.some rfl)
       | false =>
        refine Tm.neg (by simp) ?_
        have hsd : ∃ y, sdiv .i64 r c.Auxiliary[k].By = some y := by
         unfold sdiv
         rw [if_neg g1]
         exact ⟨_, rfl⟩
        obtain ⟨y, hy⟩ := hsd
        refine Tm.step hy ?_
        rw [apnd_ok (by simp only [List.length_singleton]; omega) (by decide)]
        exact Tm.some ⟨hlt, iw_n (by omega), by simp [hsl], hnext (hb' rfl)⟩
 · have : k = c.Auxiliary.length := by omega
   subst this
   exact Tm.neg (by omega) (Tm.some ⟨hsl, fun j hj => hJ j hj hj⟩)
theorem sValid_tm {c : RClause} {l : List RVar} (hc : LimC c) (hs : SmC c) (hl : l.length ≤ 10) : Tm (fun N => sValid N c l) (fun r => r = true → ClOk c l) := by
 have hb : Bg = 9223372036854775807 := rfl
 have := hs.ax; have := hs.it; have := hs.ts; have := hs.sm; have := hs.df
 unfold sValid
 refine Tm.bind (Q := fun b => b = false → AscOk c.Null l.length ∧ AscOk c.NotNull l.length) ?_ fun b hb' => ?_
 · refine (sAscending_tm hc.nl).bind fun r hr => ?_
   cases r with
   | false => exact Tm.pos rfl (Tm.some fun e => by simp at e)
   | true => exact Tm.neg (by simp) ((sAscending_tm hc.nn).bind fun r2 hr2 => Tm.some fun e => ⟨hr rfl, hr2 (by simpa using e)⟩)
 · cases b with
   | true => exact Tm.pos rfl (Tm.some fun e => by simp at e)
   | false =>
    obtain ⟨q1, q2⟩ := hb' rfl
    refine Tm.neg (by simp) ((sValid_b1_tm hc hs hl).bind fun o ho => ?_)
    cases o with
    | inr z =>
     have ho : z = false := ho
     subst ho
     exact Tm.some fun h => by simp at h
    | inl bs =>
     obtain ⟨hbl, hax⟩ := ho
     refine Tm.bind (Q := fun o => match o with | .inl _ => ∀ k ∈ c.Ints, FrmOk k.Linear (l.length + c.Auxiliary.length) | .inr z => z = false) ?_ fun o ho => ?_
     · refine Tm.up c.Ints.length (fun k s => s = (k : Int) ∧ ∀ j (hj : j < c.Ints.length), j < k → FrmOk c.Ints[j].Linear (l.length + c.Auxiliary.length)) ⟨rfl, fun j _ hj => by omega⟩ ?_
       rintro k hk i ⟨rfl, hJ⟩
       unfold sValid_b2
       rcases Nat.lt_or_ge k c.Ints.length with hlt | hge
       · refine Tm.pos (by omega) (Tm.step (idx_n hlt) ((sForm_tm hc.nn (hc.it _ (List.getElem_mem hlt)) (by omega) (by omega)).bind fun r hr => ?_))
         by_cases g : r < 0
         · exact Tm.pos g (Tm.some rfl)
         · refine Tm.neg g (Tm.some ⟨hlt, iw_n (by omega), fun j hj hjk => ?_⟩)
           by_cases ejk : j = k
           · subst ejk; rw [← hbl]; exact hr (by omega)
           · exact hJ j hj (by omega)
       · refine Tm.neg (by omega) (Tm.some fun x hx => ?_)
         obtain ⟨j, hj, rfl⟩ := List.getElem_of_mem hx
         exact hJ j hj (by omega)
     · cases o with
       | inr z =>
        have ho : z = false := ho
        subst ho
        exact Tm.some fun h => by simp at h
       | inl _ =>
        have hit : ∀ k ∈ c.Ints, FrmOk k.Linear (l.length + c.Auxiliary.length) := ho
        refine Tm.bind (Q := fun o => match o with | .inl _ => ∀ t ∈ c.Tests, okT t = true ∧ TxtOk c l t.Var | .inr z => z = false) ?_ fun o ho => ?_
        · refine Tm.up c.Tests.length (fun k s => s = (k : Int) ∧ ∀ j (hj : j < c.Tests.length), j < k → okT c.Tests[j] = true ∧ TxtOk c l c.Tests[j].Var) ⟨rfl, fun j _ hj => by omega⟩ ?_
          rintro k hk i ⟨rfl, hJ⟩
          unfold sValid_b3
          rcases Nat.lt_or_ge k c.Tests.length with hlt | hge
          · refine Tm.pos (by omega) ?_
            refine Tm.bind (Q := fun b => b = false → okT c.Tests[k] = true ∧ TxtOk c l c.Tests[k].Var) ?_ fun b hb' => ?_
            · refine Tm.step (idx_n hlt) ((sTested_tm (hc.ts _ (List.getElem_mem hlt))).bind fun r hr => ?_)
              cases r with
              | false => exact Tm.pos rfl (Tm.some fun e => by simp at e)
              | true => exact Tm.neg (by simp) (Tm.step (idx_n hlt) ((sText_tm hc.nn).bind fun r2 hr2 => Tm.some fun e => ⟨hr.symm, hr2 (by simpa using e)⟩))
            · cases b with
              | true => exact Tm.pos rfl (Tm.some rfl)
              | false =>
               refine Tm.neg (by simp) (Tm.some ⟨hlt, iw_n (by omega), fun j hj hjk => ?_⟩)
               by_cases ejk : j = k
               · subst ejk; exact hb' rfl
               · exact hJ j hj (by omega)
          · refine Tm.neg (by omega) (Tm.some fun x hx => ?_)
            obtain ⟨j, hj, rfl⟩ := List.getElem_of_mem hx
            exact hJ j hj (by omega)
        · cases o with
          | inr z =>
           have ho : z = false := ho
           subst ho
           exact Tm.some fun h => by simp at h
          | inl _ =>
           have hts : ∀ t ∈ c.Tests, okT t = true ∧ TxtOk c l t.Var := ho
           refine (sPairs_tm hc.nn (by omega)).bind fun r hr => ?_
           cases r with
           | false => exact Tm.neg (by simp) (Tm.some fun e => by simp at e)
           | true =>
            refine Tm.pos rfl ((sPairs_tm hc.nn (by omega)).bind fun r2 hr2 => Tm.some fun e => ?_)
            exact ⟨q1, q2, hax, hit, hts, hr rfl, hr2 e⟩
structure LwC (c : RClause) : Prop where
 nl : c.Null.length ≤ 17592186043904
 nn : c.NotNull.length ≤ 17592186043904
 ax : c.Auxiliary.length ≤ 17592186043904
 it : c.Ints.length ≤ 17592186043904
 ts : c.Tests.length ≤ 17592186043904
 sm : c.Same.length ≤ 17592186043904
 df : c.Different.length ≤ 17592186043904
theorem sFew_tm {c : RClause} (h : LwC c) : Tm (fun N => sFew N c) (fun r => r = true → SmC c) := by
 have := h.nl; have := h.nn; have := h.ax; have := h.it; have := h.ts; have := h.sm; have := h.df
 unfold sFew
 have e1 : iw ((c.Null.length : Int) + (c.NotNull.length : Int)) = ((c.Null.length + c.NotNull.length : Nat) : Int) := by rw [iw_eq] <;> omega
 have e2 : iw (((c.Null.length + c.NotNull.length : Nat) : Int) + (c.Auxiliary.length : Int)) = ((c.Null.length + c.NotNull.length + c.Auxiliary.length : Nat) : Int) := by rw [iw_eq] <;> omega
 have e3 : iw (((c.Null.length + c.NotNull.length + c.Auxiliary.length : Nat) : Int) + (c.Ints.length : Int)) = ((c.Null.length + c.NotNull.length + c.Auxiliary.length + c.Ints.length : Nat) : Int) := by rw [iw_eq] <;> omega
 have e4 : iw (((c.Null.length + c.NotNull.length + c.Auxiliary.length + c.Ints.length : Nat) : Int) + (c.Tests.length : Int)) = ((c.Null.length + c.NotNull.length + c.Auxiliary.length + c.Ints.length + c.Tests.length : Nat) : Int) := by rw [iw_eq] <;> omega
 have e5 : iw (((c.Null.length + c.NotNull.length + c.Auxiliary.length + c.Ints.length + c.Tests.length : Nat) : Int) + (c.Same.length : Int)) = ((c.Null.length + c.NotNull.length + c.Auxiliary.length + c.Ints.length + c.Tests.length + c.Same.length : Nat) : Int) := by rw [iw_eq] <;> omega
 have e6 : iw (((c.Null.length + c.NotNull.length + c.Auxiliary.length + c.Ints.length + c.Tests.length + c.Same.length : Nat) : Int) + (c.Different.length : Int)) = ((c.Null.length + c.NotNull.length + c.Auxiliary.length + c.Ints.length + c.Tests.length + c.Same.length + c.Different.length : Nat) : Int) := by rw [iw_eq] <;> omega
 rw [e1, e2, e3, e4, e5, e6]
 by_cases hz : ((c.Null.length + c.NotNull.length + c.Auxiliary.length + c.Ints.length + c.Tests.length + c.Same.length + c.Different.length : Nat) : Int) > 80
 · exact Tm.pos hz (Tm.some fun e => by simp at e)
 · refine Tm.neg hz ?_
   have hsm : SmC c := ⟨by omega, by omega, by omega, by omega, by omega⟩
   refine Tm.bind (Q := fun _ => True) ?_ fun n1 _ => ?_
   · refine Tm.up c.Auxiliary.length (fun k s => s.2 = (k : Int)) rfl ?_
     rintro k hk ⟨s, i⟩ hi
     dsimp only at hi; subst hi
     unfold sFew_b1
     dsimp only
     rcases Nat.lt_or_ge k c.Auxiliary.length with hlt | hge
     · exact Tm.pos (by omega) (Tm.step (idx_n hlt) (Tm.some ⟨hlt, iw_n (by omega)⟩))
     · exact Tm.neg (by omega) (Tm.some trivial)
   · refine Tm.bind (Q := fun _ => True) ?_ fun n2 _ => ?_
     · refine Tm.up c.Ints.length (fun k s => s.2 = (k : Int)) rfl ?_
       rintro k hk ⟨s, i⟩ hi
       dsimp only at hi; subst hi
       unfold sFew_b2
       dsimp only
       rcases Nat.lt_or_ge k c.Ints.length with hlt | hge
       · exact Tm.pos (by omega) (Tm.step (idx_n hlt) (Tm.some ⟨hlt, iw_n (by omega)⟩))
       · exact Tm.neg (by omega) (Tm.some trivial)
     · refine Tm.bind (Q := fun _ => True) ?_ fun o _ => ?_
       · refine Tm.up c.Tests.length (fun k s => s = (k : Int)) rfl ?_
         rintro k hk i rfl
         unfold sFew_b3
         rcases Nat.lt_or_ge k c.Tests.length with hlt | hge
         · refine Tm.pos (by omega) (Tm.step (idx_n hlt) ?_)
           by_cases g : (c.Tests[k].Text.length : Int) > 40
           · exact Tm.pos g (Tm.some trivial)
           · exact Tm.neg g (Tm.some ⟨hlt, iw_n (by omega)⟩)
         · exact Tm.neg (by omega) (Tm.some trivial)
       · cases o with
         | inl _ => exact Tm.some fun _ => hsm
         | inr z => exact Tm.some fun _ => hsm
end Go.D

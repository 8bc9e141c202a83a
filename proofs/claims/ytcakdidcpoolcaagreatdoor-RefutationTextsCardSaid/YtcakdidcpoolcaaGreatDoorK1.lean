/-
 Clauses: which are valid and small. Plain theorems.
-/
import Derived.Test.YtcakdidcpoolcaaGreatDoorM17
import Derived.Test.YtcakdidcpoolcaaGreatDoorPL
set_option linter.unusedSimpArgs false
set_option linter.unusedVariables false
namespace Go.D
open Go Go.X
def Bg : Nat := 9223372036854775807
theorem var_n {v : Int} {n : Nat} (h : 0 ≤ v ∧ v < n) : ∃ k : Nat, v = (k : Int) ∧ k < n := ⟨v.toNat, by omega, by omega⟩
theorem sAbs_tm {n : Int} (h : -1048576 ≤ n ∧ n ≤ 1048576) : Tm (fun N => sAbs N n) (fun r => 0 ≤ r ∧ r ≤ 1048576 ∧ (n ≠ 0 → r ≠ 0)) := by
 unfold sAbs
 by_cases hn : n < 0
 · refine Tm.pos hn (Tm.some ?_)
   rw [iw_eq (by omega) (by omega)]; omega
 · exact Tm.neg hn (Tm.some (by omega))
theorem sAbsT_tm {n : Int} : Tm (fun N => sAbs N n) (fun _ => True) := by
 unfold sAbs
 by_cases hn : n < 0
 · exact Tm.pos hn (Tm.some trivial)
 · exact Tm.neg hn (Tm.some trivial)
theorem sWithin_tm {n a b : Int} : Tm (fun N => sWithin N n a b) (· = decide (a ≤ n ∧ n ≤ b)) := by
 unfold sWithin
 by_cases hn : n ≥ a
 · exact Tm.pos hn (Tm.some (decide_eq_decide.2 (by omega)))
 · exact Tm.neg hn (Tm.some (by rw [decide_eq_false]; omega))
theorem sHas_tm {l : List Int} {n : Int} (hl : l.length ≤ Bg) : Tm (fun N => sHas N l n) (· = decide (n ∈ l)) := by
 have hb : Bg = 9223372036854775807 := rfl
 unfold sHas
 refine (Tm.findL (b := fun N => sHas_b1 N l n) l (fun y => decide (y = n)) (fun _ => true) (by omega) (fun k hk => ?_) ?_).bind fun o ho => ?_
 · unfold sHas_b1
   refine Tm.pos (by omega) (Tm.step (idx_n hk) ?_)
   by_cases e : l[k] = n
   · rw [decide_eq_true e]; exact Tm.pos e (Tm.some rfl)
   · rw [decide_eq_false e]; exact Tm.neg e (Tm.some rfl)
 · unfold sHas_b1
   exact Tm.neg (by omega) (Tm.some rfl)
 · rcases ho with ⟨h1, rfl⟩ | ⟨k, hk, h1, _, rfl⟩
   · refine Tm.some ?_
     rw [decide_eq_false]
     intro h
     have := List.any_eq_false.1 h1 n h
     simp at this
   · refine Tm.some ?_
     rw [decide_eq_true]
     rw [← of_decide_eq_true h1]; exact List.getElem_mem hk
def TxtOk (c : RClause) (l : List RVar) (v : Int) : Prop := ∃ k : Nat, v = (k : Int) ∧ (∃ x, l[k]? = some x ∧ x.Ty = 2) ∧ v ∈ c.NotNull
theorem sText_tm {c : RClause} {l : List RVar} {v : Int} (hn : c.NotNull.length ≤ Bg) : Tm (fun N => sText N v c l) (fun r => r = true → TxtOk c l v) := by
 unfold sText
 by_cases h1 : v ≥ 0
 · refine Tm.pos h1 ?_
   by_cases h2 : v < (l.length : Int)
   · obtain ⟨k, rfl, hk⟩ := var_n (n := l.length) ⟨h1, h2⟩
     refine Tm.pos h2 (Tm.step (idx_n hk) ?_)
     by_cases h3 : l[k].Ty = 2
     · exact Tm.pos h3 ((sHas_tm hn).bind fun r hr => Tm.some fun e => ⟨k, rfl, ⟨_, List.getElem?_eq_getElem hk, h3⟩, of_decide_eq_true (by rw [← hr]; exact e)⟩)
     · exact Tm.neg h3 (Tm.some fun e => by simp at e)
   · exact Tm.neg h2 (Tm.some fun e => by simp at e)
 · exact Tm.neg h1 (Tm.some fun e => by simp at e)
structure FrmOk (f : Linear) (m : Nat) : Prop where
 cst : -1099511627777 ≤ f.Const ∧ f.Const ≤ 1099511627777
 len : f.Coefs.length ≤ m
 cf : ∀ x ∈ f.Coefs, (0 ≤ x.Var ∧ x.Var < m) ∧ x.N ≠ 0 ∧ -1048576 ≤ x.N ∧ x.N ≤ 1048576
theorem sForm_tm {f : Linear} {c : RClause} {l : List RVar} {bs : List Int} (hn : c.NotNull.length ≤ Bg) (hf : f.Coefs.length ≤ Bg) (hl : l.length ≤ 1000) (hbs : bs.length ≤ 1000) :
 Tm (fun N => sForm N f c l bs) (fun r => 0 ≤ r → FrmOk f (l.length + bs.length)) := by
 have hb : Bg = 9223372036854775807 := rfl
 unfold sForm
 refine sWithin_tm.eq ?_
 by_cases hc : -1099511627777 ≤ f.Const ∧ f.Const ≤ 1099511627777
 · rw [decide_eq_true hc]
   refine Tm.neg (by simp) (sAbsT_tm.bind fun s0 _ => ?_)
   refine Tm.bind (Q := fun o => match o with | .inl s => FrmOk f (l.length + bs.length) | .inr z => z = -1) ?_ fun o ho => ?_
   · refine Tm.up f.Coefs.length (fun k s => s.2 = (k : Int) ∧ ∀ j (hj : j < f.Coefs.length), j < k → (0 ≤ f.Coefs[j].Var ∧ f.Coefs[j].Var < ((l.length + bs.length : Nat) : Int)) ∧ f.Coefs[j].N ≠ 0 ∧ (-1048576 ≤ f.Coefs[j].N ∧ f.Coefs[j].N ≤ 1048576) ∧ (j : Int) ≤ f.Coefs[j].Var) ⟨rfl, fun j _ hj => by omega⟩ ?_
     rintro k hk ⟨s, i⟩ ⟨hi, hJ⟩
     dsimp only at hi hJ; subst hi
     unfold sForm_b1
     dsimp only
     rcases Nat.lt_or_ge k f.Coefs.length with hlt | hge
     · refine Tm.pos (by omega) (Tm.step (idx_n hlt) ?_)
       have e1 : iw ((l.length : Int) + (bs.length : Int)) = ((l.length + bs.length : Nat) : Int) := by rw [iw_eq] <;> omega
       refine Tm.bind (Q := fun b => b = false → (0 ≤ f.Coefs[k].Var ∧ f.Coefs[k].Var < ((l.length + bs.length : Nat) : Int)) ∧ f.Coefs[k].N ≠ 0 ∧ (-1048576 ≤ f.Coefs[k].N ∧ f.Coefs[k].N ≤ 1048576) ∧ (k : Int) ≤ f.Coefs[k].Var) ?_ fun b hb' => ?_
       · rw [e1]
         by_cases g1 : f.Coefs[k].Var < 0
         · exact Tm.pos g1 (Tm.some fun e => by simp at e)
         · refine Tm.neg g1 ?_
           by_cases g2 : f.Coefs[k].Var ≥ ((l.length + bs.length : Nat) : Int)
           · exact Tm.pos g2 (Tm.some fun e => by simp at e)
           · refine Tm.neg g2 ?_
             by_cases g3 : (k : Int) > 0
             · refine Tm.pos g3 ?_
               have e2 : iw ((k : Int) - 1) = ((k - 1 : Nat) : Int) := by rw [iw_eq] <;> omega
               rw [e2]
               refine Tm.step (idx_n (by omega)) ?_
               by_cases g4 : (f.Coefs[k - 1]'(by omega)).Var ≥ f.Coefs[k].Var
               · exact Tm.pos g4 (Tm.some fun e => by simp at e)
               · refine Tm.neg g4 ?_
                 by_cases g5 : f.Coefs[k].N = 0
                 · exact Tm.pos g5 (Tm.some fun e => by simp at e)
                 · refine Tm.neg g5 (sWithin_tm.bind fun r hr => Tm.some fun e => ?_)
                   have g6 := of_decide_eq_true (show decide (-1048576 ≤ f.Coefs[k].N ∧ f.Coefs[k].N ≤ 1048576) = true by rw [← hr]; simpa using e)
                   have g7 := (hJ (k - 1) (by omega) (by omega)).2.2.2
                   exact ⟨⟨by omega, by omega⟩, g5, g6, by omega⟩
             · refine Tm.neg g3 ?_
               by_cases g5 : f.Coefs[k].N = 0
               · exact Tm.pos g5 (Tm.some fun e => by simp at e)
               · refine Tm.neg g5 (sWithin_tm.bind fun r hr => Tm.some fun e => ?_)
                 have g6 := of_decide_eq_true (show decide (-1048576 ≤ f.Coefs[k].N ∧ f.Coefs[k].N ≤ 1048576) = true by rw [← hr]; simpa using e)
                 exact ⟨⟨by omega, by omega⟩, g5, g6, by omega⟩
       · cases b with
         | true => exact Tm.pos rfl (Tm.some rfl)
         | false =>
          have hk' := hb' rfl
          obtain ⟨⟨v0, v1⟩, n0, n1, _⟩ := hb' rfl
          refine Tm.neg (by simp) ?_
          refine Tm.bind (Q := fun o => match o with | .inl _ => True | .inr z => z = -1) ?_ fun o ho => ?_
          · by_cases g1 : f.Coefs[k].Var ≥ (l.length : Int)
            · have e2 : iw (f.Coefs[k].Var - (l.length : Int)) = ((f.Coefs[k].Var.toNat - l.length : Nat) : Int) := by rw [iw_eq] <;> omega
              rw [e2]
              exact Tm.pos g1 (Tm.step (idx_n (by omega)) (Tm.some trivial))
            · obtain ⟨q, eq, hq⟩ := var_n (n := l.length) ⟨v0, by omega⟩
              refine Tm.neg g1 ?_
              rw [eq]
              refine Tm.bind (Q := fun _ => True) (Tm.step (idx_n hq) ?_) fun b _ => ?_
              · by_cases g2 : l[q].Ty ≠ 1
                · exact Tm.pos g2 (Tm.some trivial)
                · exact Tm.neg g2 ((sHas_tm hn).bind fun _ _ => Tm.some trivial)
              · cases b with
                | true => exact Tm.pos rfl (Tm.some rfl)
                | false => exact Tm.neg (by simp) (Tm.some trivial)
          · cases o with
            | inr z => exact Tm.some ho
            | inl b0 =>
             refine (sAbs_tm n1).bind fun r hr => ?_
             have hr0 := hr.2.2 n0
             have hsd : ∃ y, sdiv .i64 1152921504606846977 r = some y := by
              unfold sdiv
              rw [if_neg hr0]
              exact ⟨_, rfl⟩
             obtain ⟨y, hy⟩ := hsd
             refine Tm.step hy ?_
             by_cases g3 : b0 > y
             · exact Tm.pos g3 (Tm.some rfl)
             · refine Tm.neg g3 (sAbsT_tm.bind fun r2 _ => ?_)
               by_cases g4 : iw (s + iw (r2 * b0)) > 1152921504606846977
               · exact Tm.pos g4 (Tm.some rfl)
               · refine Tm.neg g4 (Tm.some ⟨hlt, iw_n (by omega), fun j hj hjk => ?_⟩)
                 by_cases ejk : j = k
                 · subst ejk; exact hk'
                 · exact hJ j hj (by omega)
     · have : k = f.Coefs.length := by omega
       subst this
       refine Tm.neg (by omega) (Tm.some ⟨hc, ?_, fun x hx => ?_⟩)
       · rcases Nat.eq_zero_or_pos f.Coefs.length with h0 | h0
         · omega
         · obtain ⟨g1, _, _, g2⟩ := hJ (f.Coefs.length - 1) (by omega) (by omega)
           omega
       · obtain ⟨j, hj, rfl⟩ := List.getElem_of_mem hx
         obtain ⟨g1, g2, g3, _⟩ := hJ j hj hj
         exact ⟨g1, g2, g3⟩
   · cases o with
     | inl s => exact Tm.some fun _ => ho
     | inr z =>
      have ho : z = -1 := ho
      subst ho
      exact Tm.some fun h => by omega
 · rw [decide_eq_false hc]
   exact Tm.pos rfl (Tm.some fun h => by omega)
structure AscOk (l : List Int) (n : Nat) : Prop where
 bd : ∀ x ∈ l, 0 ≤ x ∧ x < n
 asc : ∀ i j (hi : i < l.length) (hj : j < l.length), i < j → l[i] < l[j]
 len : l.length ≤ n
theorem sAscending_tm {l : List Int} {n : Nat} (hl : l.length ≤ Bg) : Tm (fun N => sAscending N l (n : Int)) (fun r => r = true → AscOk l n) := by
 have hb : Bg = 9223372036854775807 := rfl
 unfold sAscending
 refine Tm.bind (Q := fun o => match o with | .inl _ => AscOk l n | .inr z => z = false) ?_ fun o ho => ?_
 · refine Tm.up l.length (fun k s => s = (k : Int) ∧ ∀ j (hj : j < l.length), j < k → (0 ≤ l[j] ∧ l[j] < (n : Int)) ∧ (j : Int) ≤ l[j] ∧ ∀ i (hi : i < l.length), i < j → l[i] < l[j]) ⟨rfl, fun j _ hj => by omega⟩ ?_
   rintro k hk i ⟨rfl, hJ⟩
   unfold sAscending_b1
   rcases Nat.lt_or_ge k l.length with hlt | hge
   · refine Tm.pos (by omega) ?_
     refine Tm.bind (Q := fun b => b = false → (0 ≤ l[k] ∧ l[k] < (n : Int)) ∧ (k : Int) ≤ l[k] ∧ ∀ i (hi : i < l.length), i < k → l[i] < l[k]) ?_ fun b hb' => ?_
     · refine Tm.step (idx_n hlt) ?_
       by_cases g1 : l[k] < 0
       · exact Tm.pos g1 (Tm.some fun e => by simp at e)
       · refine Tm.neg g1 (Tm.step (idx_n hlt) ?_)
         by_cases g2 : l[k] ≥ (n : Int)
         · exact Tm.pos g2 (Tm.some fun e => by simp at e)
         · refine Tm.neg g2 ?_
           by_cases g3 : (k : Int) > 0
           · refine Tm.pos g3 ?_
             have e2 : iw ((k : Int) - 1) = ((k - 1 : Nat) : Int) := by rw [iw_eq] <;> omega
             rw [e2]
             refine Tm.step (idx_n (by omega)) (Tm.step (idx_n hlt) (Tm.some fun e => ?_))
             have e := of_decide_eq_false e
             obtain ⟨_, g5, g6⟩ := hJ (k - 1) (by omega) (by omega)
             refine ⟨⟨by omega, by omega⟩, by omega, fun i hi hik => ?_⟩
             by_cases ei : i = k - 1
             · subst ei; omega
             · have := g6 i hi (by omega); omega
           · refine Tm.neg g3 (Tm.some fun _ => ⟨⟨by omega, by omega⟩, by omega, fun i hi hik => by omega⟩)
     · cases b with
       | true => exact Tm.pos rfl (Tm.some rfl)
       | false =>
        refine Tm.neg (by simp) (Tm.some ⟨hlt, iw_n (by omega), fun j hj hjk => ?_⟩)
        by_cases ejk : j = k
        · subst ejk; exact hb' rfl
        · exact hJ j hj (by omega)
   · have : k = l.length := by omega
     subst this
     refine Tm.neg (by omega) (Tm.some ⟨fun x hx => ?_, fun i j hi hj hij => (hJ j hj hj).2.2 i hi hij, ?_⟩)
     · obtain ⟨j, hj, rfl⟩ := List.getElem_of_mem hx
       exact (hJ j hj hj).1
     · rcases Nat.eq_zero_or_pos l.length with h0 | h0
       · omega
       · obtain ⟨g1, g2, _⟩ := hJ (l.length - 1) (by omega) (by omega)
         omega
 · cases o with
   | inl _ => exact Tm.some fun _ => ho
   | inr z =>
    have ho : z = false := ho
    subst ho
    exact Tm.some fun h => by simp at h
end Go.D

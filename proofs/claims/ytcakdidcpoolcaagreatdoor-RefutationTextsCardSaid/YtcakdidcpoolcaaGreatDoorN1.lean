/-
 The law Ints; cases. Plain theorems.
-/
import Derived.Test.YtcakdidcpoolcaaGreatDoorK3
import Derived.Test.YtcakdidcpoolcaaGreatDoorA25
set_option linter.unusedSimpArgs false
set_option linter.unusedVariables false
namespace Go.D
open Go Go.X
theorem awake_end {Q : Bool → Prop} (h : Q true) : Tm (fun N => (awake N).bind fun r => some r) Q :=
 awake_tm.bind fun r hr => by subst hr; exact Tm.some h
theorem wRight_tm {l : List RVar} {rg : List Arr2Int} (h : rg.length ≤ Bg) : Tm (fun N => wRight N l rg) (fun r => r = true → RgOk l rg) := by
 have hb : Bg = 9223372036854775807 := rfl
 unfold wRight
 by_cases h0 : rg.length = l.length
 · refine Tm.neg (by simp [h0]) ?_
   refine Tm.bind (Q := fun o => match o with | .inl _ => ∀ r ∈ rg, (0 ≤ r.e0 ∧ r.e0 ≤ 16) ∧ 0 ≤ r.e1 ∧ r.e1 ≤ 16 | .inr z => z = false) ?_ fun o ho => ?_
   · refine Tm.up rg.length (fun k s => s = (k : Int) ∧ ∀ j (hj : j < rg.length), j < k → (0 ≤ rg[j].e0 ∧ rg[j].e0 ≤ 16) ∧ 0 ≤ rg[j].e1 ∧ rg[j].e1 ≤ 16) ⟨rfl, fun j _ hj => by omega⟩ ?_
     rintro k hk i ⟨rfl, hJ⟩
     unfold wRight_b1
     rcases Nat.lt_or_ge k rg.length with hlt | hge
     · refine Tm.pos (by omega) ?_
       simp only [idx_n hlt, Option.bind_some]
       refine Tm.bind (Q := fun b => b = false → (0 ≤ rg[k].e0 ∧ rg[k].e0 ≤ 16) ∧ 0 ≤ rg[k].e1 ∧ rg[k].e1 ≤ 16) ?_ fun b hb' => ?_
       · by_cases g1 : rg[k].e0 < 0
         · exact Tm.pos g1 (Tm.some fun e => by simp at e)
         · refine Tm.neg g1 ?_
           by_cases g2 : rg[k].e0 > 16
           · exact Tm.pos g2 (Tm.some fun e => by simp at e)
           · refine Tm.neg g2 ?_
             by_cases g3 : rg[k].e1 < 0
             · exact Tm.pos g3 (Tm.some fun e => by simp at e)
             · refine Tm.neg g3 (Tm.some fun e => ?_)
               have e := of_decide_eq_false e
               omega
       · cases b with
         | true => exact Tm.pos rfl (Tm.some rfl)
         | false =>
          refine Tm.neg (by simp) (Tm.some ⟨hlt, iw_n (by omega), fun j hj hjk => ?_⟩)
          by_cases ejk : j = k
          · subst ejk; exact hb' rfl
          · exact hJ j hj (by omega)
     · refine Tm.neg (by omega) (Tm.some fun x hx => ?_)
       obtain ⟨j, hj, rfl⟩ := List.getElem_of_mem hx
       exact hJ j hj (by omega)
   · cases o with
     | inl _ => exact Tm.some fun _ => ⟨h0, ho⟩
     | inr z =>
      have ho : z = false := ho
      subst ho
      exact Tm.some fun h => by simp at h
 · exact Tm.pos (by omega) (Tm.some fun e => by simp at e)
structure DmOk (l : List RVar) : Prop where
 len : l.length ≤ 10
 ty : ∀ x ∈ l, (x.Ty = 1 ∧ (-2147483648 ≤ x.Low ∧ x.Low ≤ 2147483647) ∧ -2147483648 ≤ x.High ∧ x.High ≤ 2147483647) ∨ (x.Ty = 2 ∧ 0 ≤ x.Max ∧ x.Max ≤ 16)
theorem wDomains_tm {l : List RVar} (h : l.length ≤ Bg) : Tm (fun N => wDomains N l) (fun r => r = true → DmOk l) := by
 have hb : Bg = 9223372036854775807 := rfl
 unfold wDomains
 refine Tm.bind (Q := fun o => match o with | .inl _ => ∀ x ∈ l, (x.Ty = 1 ∧ (-2147483648 ≤ x.Low ∧ x.Low ≤ 2147483647) ∧ -2147483648 ≤ x.High ∧ x.High ≤ 2147483647) ∨ (x.Ty = 2 ∧ 0 ≤ x.Max ∧ x.Max ≤ 16) | .inr z => z = false) ?_ fun o ho => ?_
 · refine Tm.up l.length (fun k s => s = (k : Int) ∧ ∀ j (hj : j < l.length), j < k → (l[j].Ty = 1 ∧ (-2147483648 ≤ l[j].Low ∧ l[j].Low ≤ 2147483647) ∧ -2147483648 ≤ l[j].High ∧ l[j].High ≤ 2147483647) ∨ (l[j].Ty = 2 ∧ 0 ≤ l[j].Max ∧ l[j].Max ≤ 16)) ⟨rfl, fun j _ hj => by omega⟩ ?_
   rintro k hk i ⟨rfl, hJ⟩
   unfold wDomains_b1
   rcases Nat.lt_or_ge k l.length with hlt | hge
   · refine Tm.pos (by omega) (Tm.step (idx_n hlt) ?_)
     refine Tm.bind (Q := fun b => b = false → l[k].Ty = 1 → (-2147483648 ≤ l[k].Low ∧ l[k].Low ≤ 2147483647) ∧ -2147483648 ≤ l[k].High ∧ l[k].High ≤ 2147483647) ?_ fun b hb' => ?_
     · by_cases g0 : l[k].Ty = 1
       · refine Tm.pos g0 ?_
         by_cases g1 : l[k].Low < -2147483648
         · exact Tm.pos g1 (Tm.some fun e => by simp at e)
         · refine Tm.neg g1 ?_
           by_cases g2 : l[k].Low > 2147483647
           · exact Tm.pos g2 (Tm.some fun e => by simp at e)
           · refine Tm.neg g2 ?_
             by_cases g3 : l[k].High < -2147483648
             · exact Tm.pos g3 (Tm.some fun e => by simp at e)
             · refine Tm.neg g3 (Tm.some fun e _ => ?_)
               have e := of_decide_eq_false e
               omega
       · exact Tm.neg g0 (Tm.some fun _ h => absurd h g0)
     · cases b with
       | true => exact Tm.pos rfl (Tm.some rfl)
       | false =>
        refine Tm.neg (by simp) ?_
        refine Tm.bind (Q := fun b => b = false → (l[k].Ty = 1 ∨ l[k].Ty = 2) ∧ (l[k].Ty = 2 → 0 ≤ l[k].Max ∧ l[k].Max ≤ 16)) ?_ fun b2 hb2 => ?_
        · have hty : Tm (fun N => (if l[k].Ty ≠ 1 then some (decide (l[k].Ty ≠ 2)) else some false : Option Bool)) (fun b => b = false → l[k].Ty = 1 ∨ l[k].Ty = 2) := by
           by_cases g : l[k].Ty ≠ 1
           · exact Tm.pos g (Tm.some fun e => .inr (by have e := of_decide_eq_false e; omega))
           · exact Tm.neg g (Tm.some fun _ => .inl (by omega))
          by_cases g0 : l[k].Ty = 2
          · refine Tm.pos g0 ?_
            by_cases g1 : l[k].Max < 0
            · exact Tm.pos g1 (Tm.some fun e => by simp at e)
            · refine Tm.neg g1 ?_
              by_cases g2 : l[k].Max > 16
              · exact Tm.pos g2 (Tm.some fun e => by simp at e)
              · exact Tm.neg g2 (hty.mono fun b hb e => ⟨hb e, fun _ => by omega⟩)
          · exact Tm.neg g0 (hty.mono fun b hb e => ⟨hb e, fun h => absurd h g0⟩)
        · cases b2 with
          | true => exact Tm.pos rfl (Tm.some rfl)
          | false =>
           refine Tm.neg (by simp) (Tm.some ⟨hlt, iw_n (by omega), fun j hj hjk => ?_⟩)
           by_cases ejk : j = k
           · subst ejk
             obtain ⟨p1, p2⟩ := hb2 rfl
             rcases p1 with p1 | p1
             · exact .inl ⟨p1, hb' rfl p1⟩
             · exact .inr ⟨p1, p2 p1⟩
           · exact hJ j hj (by omega)
   · refine Tm.neg (by omega) (Tm.some fun x hx => ?_)
     obtain ⟨j, hj, rfl⟩ := List.getElem_of_mem hx
     exact hJ j hj (by omega)
 · cases o with
   | inl _ => exact Tm.some fun e => ⟨by have := of_decide_eq_true e; omega, ho⟩
   | inr z =>
    have ho : z = false := ho
    subst ho
    exact Tm.some fun h => by simp at h
structure LimX (x : RCase) : Prop where
 l : x.L.length ≤ Bg
 rg : x.Ranges.length ≤ Bg
 c : LimC x.C
 w : LwC x.C
structure Rgt (x : RCase) : Prop where
 d : DmOk x.L
 s : SmC x.C
 v : ClOk x.C x.L
 r : RgOk x.L x.Ranges
theorem lright_tm {x : RCase} (h : LimX x) : Tm (fun N => lright N x) (fun r => r = true → Rgt x) := by
 unfold lright
 refine (wDomains_tm h.l).bind fun r1 h1 => ?_
 cases r1 with
 | false => exact Tm.neg (by simp) (Tm.some fun e => by simp at e)
 | true =>
  refine Tm.pos rfl ((sFew_tm h.w).bind fun r2 h2 => ?_)
  cases r2 with
  | false => exact Tm.neg (by simp) (Tm.some fun e => by simp at e)
  | true =>
   refine Tm.pos rfl ((sValid_tm h.c (h2 rfl) (h1 rfl).len).bind fun r3 h3 => ?_)
   cases r3 with
   | false => exact Tm.neg (by simp) (Tm.some fun e => by simp at e)
   | true => exact Tm.pos rfl ((wRight_tm h.rg).bind fun r4 h4 => Tm.some fun e => ⟨h1 rfl, h2 rfl, h3 rfl, h4 e⟩)
end Go.D

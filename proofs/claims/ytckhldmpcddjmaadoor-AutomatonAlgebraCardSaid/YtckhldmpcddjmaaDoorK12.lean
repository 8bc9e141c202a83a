/-
  Whether two automata accept the same texts. Plain theorems.
-/
import Derived.Test.YtckhldmpcddjmaaDoorK11
set_option linter.unusedVariables false
set_option linter.unusedSimpArgs false
namespace Go.D
open Go Go.X

def pf (p : APair2) : APair := ⟨p.A, p.B⟩
theorem pf_inj {p q : APair2} (h : pf p = pf q) : p = q := by
  obtain ⟨a, b⟩ := p; obtain ⟨c, d⟩ := q
  unfold pf at h
  injection h with h1 h2
  dsimp only at h1 h2
  rw [h1, h2]
def mks (L : List APair2) : List (APair × Bool) := L.map fun p => (pf p, true)
theorem mks_in {q : APair2} : ∀ {L : List APair2}, q ∈ L → mget (mks L) (pf q) false = (true, true)
  | p :: L, h => by
    show mget ((pf p, true) :: mks L) (pf q) false = _
    unfold mget
    by_cases e : pf p = pf q
    · rw [if_pos e]
    · rw [if_neg e]
      rcases List.mem_cons.1 h with rfl | h
      · exact absurd rfl e
      · exact mks_in h
theorem mks_out {q : APair2} : ∀ {L : List APair2}, q ∉ L → mget (mks L) (pf q) false = (false, false)
  | [], _ => rfl
  | p :: L, h => by
    simp only [List.mem_cons, not_or] at h
    show mget ((pf p, true) :: mks L) (pf q) false = _
    unfold mget
    rw [if_neg (fun e => h.1 (pf_inj e).symm)]
    exact mks_out h.2
theorem mks_put {q : APair2} : ∀ {L : List APair2}, q ∉ L → mput (mks L) (pf q) true = mks (L ++ [q])
  | [], _ => rfl
  | p :: L, h => by
    simp only [List.mem_cons, not_or] at h
    show mput ((pf p, true) :: mks L) (pf q) true = (pf p, true) :: mks (L ++ [q])
    unfold mput
    rw [if_neg (fun e => h.1 (pf_inj e).symm), mks_put h.2]
def Same (a b : ADfa) : Prop := ∀ w, Pr w → fin a (run a 0 w) = fin b (run b 0 w)
theorem Same.symm {a b : ADfa} (h : Same a b) : Same b a := fun w hw => (h w hw).symm
theorem drp_ok {α : Type} {xs : List α} {n : Nat} (h : n ≤ xs.length) : drp xs (n : Int) = some (xs.drop n) := drp_eq h
theorem aEquivalent_tm {a b : ADfa} (ha : okD a = true) (hb : okD b = true) : Tm (fun N => aEquivalent N a b) (fun r => r = true ↔ Same a b) := by
  unfold aEquivalent
  have outer : Tm (fun N => loopM (aEquivalent_b1 N a b) N ((mput ([] : (List (APair × Bool))) (APair.mk 0 0) true), [(APair.mk 0 0)])) (fun r => (r = Sum.inl () ∧ Same a b) ∨ (r = Sum.inr false ∧ ¬ Same a b)) := by
    refine Tm.loopG (fun (i : Nat) s => ∃ L : List APair2, s = (mks L, (L.drop i).map pf) ∧ i ≤ L.length ∧ L.Nodup ∧ (∀ p ∈ L, Rch a b p) ∧ L[0]? = some ⟨0, 0⟩ ∧ (∀ j p, j < i → L[j]? = some p → ∀ c, 32 ≤ c → c ≤ 126 → nx a b p c ∈ L) ∧ ∀ j p, j < i → L[j]? = some p → fin a p.A = fin b p.B) (fun i => 16785409 - i) 0
      ⟨[⟨0, 0⟩], rfl, Nat.zero_le _, by simp, fun p hp => by rw [List.mem_singleton.1 hp]; exact Rch.zero, rfl, fun j p hj => absurd hj (by omega), fun j p hj => absurd hj (by omega)⟩ ?_
    rintro i s ⟨L, rfl, hil, hnd, hrc, hz, hcl, hfn⟩
    have hlen := pairs_len ha hb hnd hrc
    unfold aEquivalent_b1
    rcases Nat.lt_or_ge i L.length with hlt | hge
    · have hp : L[i]? = some L[i] := List.getElem?_eq_getElem hlt
      have hd : L.drop i = L[i] :: L.drop (i + 1) := List.drop_eq_getElem_cons hlt
      have hrx := hrc _ (List.getElem_mem hlt)
      have hst := hrx.st ha hb
      refine Tm.pos (by rw [List.length_map, List.length_drop]; omega) ?_
      have hq0 : idx ((L.drop i).map pf) 0 = some (pf L[i]) := by rw [hd]; rfl
      have cond : Tm (fun N => (((idx ((L.drop i).map pf) 0).bind fun x3122 =>
          (aFinal N a x3122.a).bind fun r3143 =>
          (aFinal N b x3122.b).bind fun r3190 =>
          (if (!(r3143 == r3190)) = true then
            some (Sum.inr false)
          else
            (loopM (aEquivalent_b2 N a b x3122) N (mks L, (L.drop i).map pf, 32)).bind fun ss =>
              match ss with
              | (seen3543, queue3551) =>
                some (Sum.inl (seen3543, queue3551))) : Option (Sum ((List (APair × Bool)) × (List APair)) Bool))))
          (fun r => (r = Sum.inr false ∧ fin a L[i].A ≠ fin b L[i].B) ∨ (fin a L[i].A = fin b L[i].B ∧ ∃ M, r = Sum.inl (mks (L ++ M), ((L ++ M).drop i).map pf) ∧ (L ++ M).Nodup ∧ (∀ p ∈ L ++ M, Rch a b p) ∧ ∀ c, 32 ≤ c → c ≤ 126 → nx a b L[i] c ∈ L ++ M)) := by
        refine Tm.step hq0 ((aFinal_tm hst.1).eq ((aFinal_tm hst.2).eq (Tm.ite (fun h => Tm.some (.inl ⟨rfl, ?_⟩)) (fun h => ?_))))
        · intro e; rw [e] at h; simp at h
        · have heq : fin a L[i].A = fin b L[i].B := by simpa using h
          have inner : Tm (fun N => loopM (aEquivalent_b2 N a b (pf L[i])) N (mks L, (L.drop i).map pf, 32)) (fun r => ∃ M, r = (mks (L ++ M), ((L ++ M).drop i).map pf) ∧ (L ++ M).Nodup ∧ (∀ p ∈ L ++ M, Rch a b p) ∧ ∀ c, 32 ≤ c → c ≤ 126 → nx a b L[i] c ∈ L ++ M) := by
            refine Tm.up 95 (fun k s => ∃ M, s = (mks (L ++ M), ((L ++ M).drop i).map pf, ((32 + k : Nat) : Int)) ∧ (L ++ M).Nodup ∧ (∀ p ∈ L ++ M, Rch a b p) ∧ ∀ c : Int, 32 ≤ c → c < 32 + k → nx a b L[i] c ∈ L ++ M)
              ⟨[], by simp, by simpa using hnd, by simpa using hrc, fun c h1 h2 => by omega⟩ ?_
            rintro k hk s ⟨M, rfl, hnd', hrc', hcl'⟩
            have hlen' := pairs_len ha hb hnd' hrc'
            unfold aEquivalent_b2
            rcases Nat.lt_or_ge k 95 with hk1 | hk1
            · have hu : uw8 ((32 + k : Nat) : Int) = ((32 + k : Nat) : Int) := uw8_eq (by omega) (by omega)
              refine Tm.pos (by omega) ?_
              rw [hu]
              refine (aStep_tm ha hst.1).eq ((aStep_tm hb hst.2).eq ?_)
              have hnx : Rch a b (nx a b L[i] ((32 + k : Nat) : Int)) := hrx.nx (by omega) (by omega)
              have hpf : (APair.mk (stp a L[i].A ((32 + k : Nat) : Int)) (stp b L[i].B ((32 + k : Nat) : Int))) = pf (nx a b L[i] ((32 + k : Nat) : Int)) := rfl
              rw [hpf]
              have hcon : ∀ l2 : List APair2, (∀ p ∈ L ++ M, p ∈ l2) → nx a b L[i] ((32 + k : Nat) : Int) ∈ l2 → ∀ c : Int, 32 ≤ c → c < 32 + ((k + 1 : Nat) : Int) → nx a b L[i] c ∈ l2 := by
                intro l2 hsub hin c h1 h2
                by_cases hce : c = ((32 + k : Nat) : Int)
                · rw [hce]; exact hin
                · exact hsub _ (hcl' c h1 (by omega))
              by_cases hm : nx a b L[i] ((32 + k : Nat) : Int) ∈ L ++ M
              · rw [mks_in hm]
                refine Tm.neg (by simp) (Tm.some ⟨hk1, M, by rw [iw_eq (by omega) (by omega)]; congr 1, hnd', hrc', hcon _ (fun p hp => hp) hm⟩)
              · rw [mks_out hm, mks_put hm]
                refine Tm.pos rfl (Tm.step (apnd_ok (by simp only [List.length_map, List.length_drop, List.length_singleton]; omega) (by decide)) (Tm.some ⟨hk1, M ++ [nx a b L[i] ((32 + k : Nat) : Int)], ?_, ?_, ?_, ?_⟩))
                · rw [iw_eq (by omega) (by omega), ← List.append_assoc, List.drop_append_of_le_length (show i ≤ (L ++ M).length by rw [List.length_append]; omega), List.map_append]
                  congr 1
                · rw [← List.append_assoc]
                  refine List.nodup_append.2 ⟨hnd', by simp, fun x hx y hy => ?_⟩
                  rw [List.mem_singleton.1 hy]
                  exact fun h => hm (h ▸ hx)
                · rw [← List.append_assoc]
                  intro p hp
                  rcases List.mem_append.1 hp with hp | hp
                  · exact hrc' p hp
                  · rw [List.mem_singleton.1 hp]; exact hnx
                · rw [← List.append_assoc]
                  exact hcon _ (fun p hp => List.mem_append_left _ hp) (List.mem_append_right _ (by simp))
            · exact Tm.neg (by omega) (Tm.some ⟨M, rfl, hnd', hrc', fun c h1 h2 => hcl' c h1 (by omega)⟩)
          refine inner.bind fun r hr => ?_
          obtain ⟨M, rfl, h1, h2, h3⟩ := hr
          exact Tm.some (.inr ⟨heq, M, rfl, h1, h2, h3⟩)
      refine cond.bind fun r hr => ?_
      rcases hr with ⟨rfl, hne⟩ | ⟨heq, M, rfl, hnd', hrc', hcl'⟩
      · refine Tm.some (.inr ⟨rfl, fun hs => ?_⟩)
        obtain ⟨w, hw, he⟩ := hrx
        rw [he] at hne
        exact hne (hs w hw)
      · refine Tm.step (a := ((L ++ M).drop (i + 1)).map pf) ?_ (Tm.some ⟨i + 1, ⟨L ++ M, rfl, by rw [List.length_append]; omega, hnd', hrc', mem_getElem?_append hz, fun j p hj hjp c h1 h2 => ?_, fun j p hj hjp => ?_⟩, by omega⟩)
        · have e : (1 : Int) = ((1 : Nat) : Int) := rfl
          rw [e, drp_ok (by rw [List.length_map, List.length_drop, List.length_append]; omega), ← List.map_drop, List.drop_drop]
        · by_cases hji : j = i
          · subst hji
            have : (L ++ M)[j]? = some L[j] := mem_getElem?_append hp
            rw [hjp] at this; cases this
            exact hcl' c h1 h2
          · rw [List.getElem?_append_left (by omega)] at hjp
            exact List.mem_append_left _ (hcl j p (by omega) hjp c h1 h2)
        · by_cases hji : j = i
          · subst hji
            have : (L ++ M)[j]? = some L[j] := mem_getElem?_append hp
            rw [hjp] at this; cases this
            exact heq
          · rw [List.getElem?_append_left (by omega)] at hjp
            exact hfn j p (by omega) hjp
    · refine Tm.neg (by rw [List.drop_eq_nil_of_le hge]; simp) (Tm.some (.inl ⟨rfl, fun w hw => ?_⟩))
      have hps : PS a b L := ⟨hnd, hrc, hz, fun p hp c h1 h2 => by
        obtain ⟨j, hj, rfl⟩ := List.mem_iff_getElem.1 hp
        exact hcl j _ (by omega) (List.getElem?_eq_getElem hj) c h1 h2⟩
      obtain ⟨j, hj, he⟩ := List.mem_iff_getElem.1 (hps.run hw)
      have := hfn j _ (by omega) (List.getElem?_eq_getElem hj)
      rw [he] at this
      exact this
  refine outer.bind fun r hr => ?_
  rcases hr with ⟨rfl, h⟩ | ⟨rfl, h⟩
  · exact Tm.some ⟨fun _ => h, fun _ => rfl⟩
  · exact Tm.some ⟨fun e => (by cases e), fun e => absurd e h⟩
theorem aEquivalent_yes {a b : ADfa} (ha : okD a = true) (hb : okD b = true) (h : Same a b) : Tm (fun N => aEquivalent N a b) (· = true) := (aEquivalent_tm ha hb).mono fun r hr => hr.2 h
end Go.D

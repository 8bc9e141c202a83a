/-
  Pairs of states; the law Not of chapter 20. Plain theorems.
-/
import Derived.Test.YtckhldmpcddjmaaDoorK3
set_option linter.unusedVariables false
set_option linter.unusedSimpArgs false
namespace Go.D
open Go Go.X

theorem uw8_n {c : Nat} (h : c < 255) : uw8 ((c : Int) + 1) = ((c + 1 : Nat) : Int) := by rw [uw8_eq] <;> omega
theorem nodup_lt : ∀ (K : Nat) {l : List Nat}, l.Nodup → (∀ x ∈ l, x < K) → l.length ≤ K
  | 0, l, _, h => by
    cases l with
    | nil => exact Nat.le_refl _
    | cons x l => exact absurd (h x List.mem_cons_self) (by omega)
  | K + 1, l, hn, h => by
    have h1 := nodup_lt K (hn.erase K) (fun x hx => by
      have := (hn.mem_erase_iff).1 hx
      have := h x this.2
      omega)
    rw [List.length_erase] at h1
    split at h1 <;> omega

/-! ## Where a pair stands -/
theorem rPlace_tm {l : List APair2} (hl : l.length ≤ 9223372036854775807) (p : APair2) :
    Tm (fun N => rPlace N l p) (fun r => (r = (l.length : Int) ∧ p ∉ l) ∨ ∃ j : Nat, r = (j : Int) ∧ l[j]? = some p) := by
  unfold rPlace
  have loop : Tm (fun N => loopM (rPlace_b1 N l p) N 0) (fun r => (r = Sum.inl () ∧ p ∉ l) ∨ ∃ j : Nat, r = Sum.inr (j : Int) ∧ l[j]? = some p) := by
    refine Tm.up l.length (fun k i => i = (k : Int) ∧ p ∉ l.take k) ⟨rfl, by simp⟩ ?_
    rintro k hk i ⟨rfl, ho⟩
    unfold rPlace_b1
    rcases Nat.lt_or_ge k l.length with hlt | hge
    · refine Tm.pos (by omega) (Tm.step (idx_n hlt) (Tm.ite (fun h => Tm.some (.inr ⟨k, rfl, ?_⟩)) (fun h => Tm.some ⟨hlt, iw_n (by omega), ?_⟩)))
      · rw [List.getElem?_eq_getElem hlt]
        generalize l[k] = q at *
        obtain ⟨qa, qb⟩ := q; obtain ⟨pa, pb⟩ := p
        obtain ⟨h1, h2⟩ := h
        dsimp only at h1 h2
        rw [h1, h2]
      · rw [List.take_add_one, List.getElem?_eq_getElem hlt]
        intro hm
        rcases List.mem_append.1 hm with hm | hm
        · exact ho hm
        · have : p = l[k] := by simpa using hm
          rw [← this] at h
          exact h ⟨rfl, rfl⟩
    · refine Tm.neg (by omega) (Tm.some (.inl ⟨rfl, ?_⟩))
      rwa [List.take_of_length_le hge] at ho
  refine loop.bind fun r hr => ?_
  rcases hr with ⟨rfl, h⟩ | ⟨j, rfl, h⟩
  · exact Tm.some (.inl ⟨rfl, h⟩)
  · exact Tm.some (.inr ⟨j, rfl, h⟩)

/-! ## Pairs of states that the same text leads to -/
def Pr (w : List Int) : Prop := ∀ c ∈ w, 32 ≤ c ∧ c ≤ 126
def nx (a b : ADfa) (p : APair2) (c : Int) : APair2 := ⟨stp a p.A c, stp b p.B c⟩
def Rch (a b : ADfa) (p : APair2) : Prop := ∃ w, Pr w ∧ p = ⟨run a 0 w, run b 0 w⟩
theorem run_snoc {d : ADfa} {s : Int} {w : List Int} {c : Int} : run d s (w ++ [c]) = stp d (run d s w) c := by unfold run; rw [List.foldl_append]; rfl
theorem Rch.nx {a b : ADfa} {p : APair2} {c : Int} (h : Rch a b p) (h1 : 32 ≤ c) (h2 : c ≤ 126) : Rch a b (nx a b p c) := by
  obtain ⟨w, hw, rfl⟩ := h
  refine ⟨w ++ [c], fun x hx => ?_, by rw [run_snoc, run_snoc]; rfl⟩
  rcases List.mem_append.1 hx with hx | hx
  · exact hw x hx
  · rw [List.mem_singleton.1 hx]; exact ⟨h1, h2⟩
theorem Rch.zero {a b : ADfa} : Rch a b ⟨0, 0⟩ := ⟨[], fun _ h => (by cases h), rfl⟩
theorem Rch.st {a b : ADfa} {p : APair2} (ha : okD a = true) (hb : okD b = true) (h : Rch a b p) : St a.Accept.length p.A ∧ St b.Accept.length p.B := by
  obtain ⟨w, _, rfl⟩ := h
  exact ⟨run_st ha (st0 ha), run_st hb (st0 hb)⟩
theorem pairs_len {a b : ADfa} {l : List APair2} (ha : okD a = true) (hb : okD b = true) (hn : l.Nodup) (hr : ∀ p ∈ l, Rch a b p) : l.length ≤ 16785409 := by
  have e1 := (okD_iff.1 ha).2.1
  have e2 := (okD_iff.1 hb).2.1
  have hm : (l.map fun p => (p.A + 1).toNat * 4097 + (p.B + 1).toNat).Nodup := by
    rw [List.nodup_iff_pairwise_ne, List.pairwise_map]
    refine List.Pairwise.imp_of_mem (fun {p q} hp hq hne => ?_) (List.nodup_iff_pairwise_ne.1 hn)
    intro heq
    have s1 := (hr p hp).st ha hb
    have s2 := (hr q hq).st ha hb
    obtain ⟨pa, pb⟩ := p; obtain ⟨qa, qb⟩ := q
    have t1 := s1.1.1; have t2 := s1.1.2; have t3 := s1.2.1; have t4 := s1.2.2
    have t5 := s2.1.1; have t6 := s2.1.2; have t7 := s2.2.1; have t8 := s2.2.2
    dsimp only at *
    apply hne
    have : pa = qa ∧ pb = qb := by omega
    rw [this.1, this.2]
  have := nodup_lt 16785409 hm (fun x hx => by
    obtain ⟨p, hp, rfl⟩ := List.mem_map.1 hx
    have s1 := (hr p hp).st ha hb
    have t1 := s1.1.1; have t2 := s1.1.2; have t3 := s1.2.1; have t4 := s1.2.2
    omega)
  simpa using this
/-- what 'pairs' hands on -/
structure PS (a b : ADfa) (l : List APair2) : Prop where
  nd : l.Nodup
  rch : ∀ p ∈ l, Rch a b p
  zero : l[0]? = some ⟨0, 0⟩
  cl : ∀ p ∈ l, ∀ c, 32 ≤ c → c ≤ 126 → nx a b p c ∈ l
theorem PS.run {a b : ADfa} {l : List APair2} (h : PS a b l) {w : List Int} (hw : Pr w) : (⟨run a 0 w, run b 0 w⟩ : APair2) ∈ l := by
  have : ∀ (w : List Int) (s t : Int), Pr w → (⟨s, t⟩ : APair2) ∈ l → (⟨D.run a s w, D.run b t w⟩ : APair2) ∈ l := by
    intro w
    induction w with
    | nil => intro s t _ h; exact h
    | cons c w ih =>
      intro s t hw hm
      have hc := hw c List.mem_cons_self
      exact ih _ _ (fun x hx => hw x (List.mem_cons_of_mem _ hx)) (h.cl _ hm c hc.1 hc.2)
  exact this w 0 0 hw (List.mem_of_getElem? h.zero)
theorem mem_getElem?_append {α : Type} {l m : List α} {i : Nat} {x : α} (h : l[i]? = some x) : (l ++ m)[i]? = some x := by
  rw [List.getElem?_append_left (List.getElem?_eq_some_iff.1 h).1]; exact h
theorem rPairs_tm {a b : ADfa} (ha : okD a = true) (hb : okD b = true) : Tm (fun N => rPairs N a b) (PS a b) := by
  unfold rPairs
  have outer : Tm (fun N => loopM (rPairs_b1 N a b) N ([(APair2.mk 0 0)], 0)) (PS a b) := by
    refine Tm.loopG (fun (i : Nat) (s : List APair2 × Int) => s.2 = (i : Int) ∧ i ≤ s.1.length ∧ s.1.Nodup ∧ (∀ p ∈ s.1, Rch a b p) ∧ s.1[0]? = some ⟨0, 0⟩ ∧ ∀ j p, j < i → s.1[j]? = some p → ∀ c, 32 ≤ c → c ≤ 126 → nx a b p c ∈ s.1) (fun i => 16785409 - i) 0
      ⟨rfl, Nat.zero_le _, by simp, fun p hp => by rw [List.mem_singleton.1 hp]; exact Rch.zero, rfl, fun j p hj => absurd hj (by omega)⟩ ?_
    rintro i ⟨l, ii⟩ ⟨hi, hil, hnd, hrc, hz, hcl⟩
    dsimp only at hi hil hnd hrc hz hcl; subst hi
    have hlen := pairs_len ha hb hnd hrc
    unfold rPairs_b1
    rcases Nat.lt_or_ge i l.length with hlt | hge
    · refine Tm.pos (by omega) ?_
      have hp : l[i]? = some l[i] := List.getElem?_eq_getElem hlt
      have inner : Tm (fun N => loopM (rPairs_b2 N a b (i : Int)) N (l, 32)) (fun l' => (∃ m, l' = l ++ m) ∧ l'.Nodup ∧ (∀ p ∈ l', Rch a b p) ∧ ∀ c, 32 ≤ c → c ≤ 126 → nx a b l[i] c ∈ l') := by
        refine Tm.up 95 (fun k (s : List APair2 × Int) => s.2 = ((32 + k : Nat) : Int) ∧ (∃ m, s.1 = l ++ m) ∧ s.1.Nodup ∧ (∀ p ∈ s.1, Rch a b p) ∧ ∀ c : Int, 32 ≤ c → c < 32 + k → nx a b l[i] c ∈ s.1)
          ⟨rfl, ⟨[], by simp⟩, hnd, hrc, fun c h1 h2 => by omega⟩ ?_
        rintro k hk ⟨l', cc⟩ ⟨hc, ⟨m, hm⟩, hnd', hrc', hcl'⟩
        dsimp only at hc hm hnd' hrc' hcl'; subst hc
        have hlen' := pairs_len ha hb hnd' hrc'
        have hpi : l'[i]? = some l[i] := by rw [hm]; exact mem_getElem?_append hp
        have hst := (hrc' _ (List.mem_of_getElem? hpi)).st ha hb
        unfold rPairs_b2
        rcases Nat.lt_or_ge k 95 with hk1 | hk1
        · refine Tm.pos (by omega) (Tm.step (idx_get hpi) ((rStep_tm ha hst.1).eq (Tm.step (idx_get hpi) ((rStep_tm hb hst.2).eq ((rPlace_tm (by omega) _).bind fun r hr => ?_)))))
          have hnx : Rch a b (nx a b l[i] ((32 + k : Nat) : Int)) := (hrc' _ (List.mem_of_getElem? hpi)).nx (by omega) (by omega)
          have hcon : ∀ l2 : List APair2, (∀ p ∈ l', p ∈ l2) → nx a b l[i] ((32 + k : Nat) : Int) ∈ l2 → ∀ c : Int, 32 ≤ c → c < 32 + ((k + 1 : Nat) : Int) → nx a b l[i] c ∈ l2 := by
            intro l2 hsub hin c h1 h2
            by_cases hce : c = ((32 + k : Nat) : Int)
            · rw [hce]; exact hin
            · exact hsub _ (hcl' c h1 (by omega))
          rcases hr with ⟨rfl, hnot⟩ | ⟨j, rfl, hj⟩
          · refine Tm.pos rfl (Tm.step (apnd_ok (by simp; omega) (by decide)) (Tm.some ⟨hk1, ?_, ⟨m ++ [_], by rw [hm, List.append_assoc]⟩, ?_, ?_, ?_⟩))
            · show uw8 _ = _
              rw [uw8_n (by omega)]; congr 1
            · refine List.nodup_append.2 ⟨hnd', by simp, fun x hx y hy => ?_⟩
              rw [List.mem_singleton.1 hy]
              exact fun h => hnot (h ▸ hx)
            · intro p hp
              rcases List.mem_append.1 hp with hp | hp
              · exact hrc' p hp
              · rw [List.mem_singleton.1 hp]; exact hnx
            · exact hcon _ (fun p hp => List.mem_append_left _ hp) (List.mem_append_right _ (by simp [nx]))
          · have hjl : j < l'.length := (List.getElem?_eq_some_iff.1 hj).1
            refine Tm.neg (by omega) (Tm.some ⟨hk1, ?_, ⟨m, hm⟩, hnd', hrc', hcon _ (fun p hp => hp) (List.mem_of_getElem? hj)⟩)
            show uw8 _ = _
            rw [uw8_n (by omega)]; congr 1
        · refine Tm.neg (by omega) (Tm.some ⟨⟨m, hm⟩, hnd', hrc', fun c h1 h2 => hcl' c h1 (by omega)⟩)
      refine inner.bind fun l' hl' => ?_
      obtain ⟨⟨m, hm⟩, hnd', hrc', hcl'⟩ := hl'
      refine Tm.some ⟨i + 1, ⟨iw_n (by omega), by rw [hm, List.length_append]; omega, hnd', hrc', by rw [hm]; exact mem_getElem?_append hz, fun j p hj hjp c h1 h2 => ?_⟩, by omega⟩
      by_cases hji : j = i
      · subst hji
        have : l'[j]? = some l[j] := by rw [hm]; exact mem_getElem?_append hp
        rw [hjp] at this; cases this
        exact hcl' c h1 h2
      · have hjl : l[j]? = some p := by
          rw [hm, List.getElem?_append_left (by omega)] at hjp; exact hjp
        have := hcl j p (by omega) hjl c h1 h2
        rw [hm]; exact List.mem_append_left _ this
    · refine Tm.neg (by omega) (Tm.some ⟨hnd, hrc, hz, fun p hp c h1 h2 => ?_⟩)
      obtain ⟨j, hj, rfl⟩ := List.mem_iff_getElem.1 hp
      exact hcl j _ (by omega) (List.getElem?_eq_getElem hj) c h1 h2
  exact outer.bind fun l hl => Tm.some hl
theorem rIsNot_tm {a d : ADfa} (ha : okD a = true) (hd : okD d = true) (h : ∀ w, Pr w → fin d (run d 0 w) = !fin a (run a 0 w)) : Tm (fun N => rIsNot N a d) (· = true) := by
  unfold rIsNot
  refine (rPairs_tm ha hd).bind fun l hl => ?_
  have hlen := pairs_len ha hd hl.nd hl.rch
  have loop : Tm (fun N => loopM (rIsNot_b1 N a d l) N 0) (· = Sum.inl ()) := by
    refine Tm.up l.length (fun k i => i = (k : Int)) rfl ?_
    rintro k hk i rfl
    unfold rIsNot_b1
    rcases Nat.lt_or_ge k l.length with hlt | hge
    · have hr := hl.rch _ (List.getElem_mem hlt)
      have hst := hr.st ha hd
      refine Tm.pos (by omega) (Tm.step (idx_n hlt) ((rFinal_tm hst.1).eq (Tm.step (idx_n hlt) ((rFinal_tm hst.2).eq ?_))))
      obtain ⟨w, hw, he⟩ := hr
      rw [he]
      dsimp only
      rw [h w hw]
      refine Tm.neg (by cases fin a (run a 0 w) <;> simp) (Tm.some ⟨hlt, iw_n (by omega)⟩)
    · exact Tm.neg (by omega) (Tm.some rfl)
  exact loop.eq (Tm.some rfl)
end Go.D

/-
  The program's Words; the reference's Can and Words. Plain theorems.
-/
import Derived.Test.YtckhldmpcddjmaaDoorK6
set_option linter.unusedVariables false
set_option linter.unusedSimpArgs false
namespace Go.D
open Go Go.X

/-! ## The program's Words -/
theorem aWords_tm {d : ADfa} (hd : okD d = true) {n most : Nat} (hn : n ≤ 100) (hm : most ≤ 100) : Tm (fun N => aWords N d (n : Int) (most : Int)) (· = ((Wd d n 0).map bstr).take most) := by
  unfold aWords
  obtain ⟨g1, g2, g3, g4⟩ := okD_iff.1 hd
  have hlm := okD_lms hd
  simp only [if_neg (show ¬ (n : Int) < 0 by omega), decide_eq_false (show ¬ (most : Int) < 0 by omega), Option.bind_some, Bool.false_eq_true, if_false]
  have outer : Tm (fun N => loopM (aWords_b1 N d (n : Int) (most : Int)) N ([d.Accept], 0)) (fun t => Tab d t n) := by
    refine Tm.up n (fun k s => s.2 = (k : Int) ∧ Tab d s.1 k ∧ s.1.length = k + 1) ⟨rfl, ?_, rfl⟩ ?_
    · intro k hk
      obtain rfl : k = 0 := by omega
      refine ⟨d.Accept, rfl, rfl, fun s h => ?_⟩
      rw [Bool.eq_iff_iff, can_iff]
      have hf : fin d (s : Int) = d.Accept[s] := by unfold fin; rw [if_neg (by omega), Int.toNat_natCast, getD_of h]
      constructor
      · intro h1
        exact ⟨[], rfl, fun _ h => (by cases h), by show fin d (s : Int) = true; rw [hf]; exact h1⟩
      · rintro ⟨w, h1, _, h3⟩
        have : w = [] := List.eq_nil_of_length_eq_zero h1
        subst this
        rw [← hf]; exact h3
    · rintro k hk ⟨t, i⟩ ⟨hi, ht, htl⟩
      dsimp only at hi ht htl; subst hi
      unfold aWords_b1
      rcases Nat.lt_or_ge k n with hlt | hge
      · refine Tm.pos (by omega) (Tm.step (mk1_ok (n := d.Accept.length) rfl (by omega) (by decide)) ?_)
        obtain ⟨rk, hr1, hr2, hr3⟩ := ht k (Nat.le_refl _)
        have inner : Tm (fun N => loopM (aWords_b2 N d (n : Int) (most : Int) t (k : Int) (List.replicate d.Accept.length false)) N (List.replicate d.Accept.length false, 0)) (fun l => l.length = d.Accept.length ∧ ∀ (s : Nat) (h : s < l.length), l[s] = can d (k + 1) (s : Int)) := by
          refine Tm.up d.Accept.length (fun j s => s.2 = (j : Int) ∧ s.1.length = d.Accept.length ∧ ∀ (q : Nat) (h : q < s.1.length), q < j → s.1[q] = can d (k + 1) (q : Int)) ⟨rfl, by simp, fun q h hq => absurd hq (by omega)⟩ ?_
          rintro j hj ⟨l, i⟩ ⟨hi, hl, hlv⟩
          dsimp only at hi hl hlv; subst hi
          unfold aWords_b2
          rcases Nat.lt_or_ge j d.Accept.length with hjl | hjl
          · have hje : j < d.Edges.length := by omega
            have hok := g4 _ (List.getElem_mem hje)
            refine Tm.pos (by simp; omega) (Tm.step (idx_n hje) ?_)
            refine (containsEdge_tm (by have := hlm.2.2 _ (List.getElem_mem hje); omega) (f := fun N y => aWords1 N y ⟨d, t, (most : Int), []⟩ (k : Int)) (g := fun e => can d k e.To) (fun e he => ?_)).eq ?_
            · have hb := okE_mem (by omega) hok e he
              obtain ⟨to, hto⟩ : ∃ to : Nat, e.To = (to : Int) := ⟨e.To.toNat, by omega⟩
              have htl : to < rk.length := by omega
              show Tm (fun N => aWords1 N e ⟨d, t, (most : Int), []⟩ (k : Int)) _
              unfold aWords1
              rw [hto]
              exact Tm.step (idx_get hr1) (Tm.step (idx_n htl) (Tm.some (hr3 to htl)))
            · refine Tm.step (idx_i (n := j) rfl (by omega)) (Tm.step (upd1_i (n := j) rfl (by omega)) (Tm.some ⟨hjl, iw_n (by omega), by simpa using hl, fun q h hq => ?_⟩))
              rw [List.getElem_set]
              by_cases hqj : j = q
              · subst hqj
                rw [if_pos rfl, can_edges hd hje]
              · rw [if_neg hqj]
                exact hlv q (by simpa using h) (by omega)
          · refine Tm.neg (by simp; omega) (Tm.some ⟨hl, fun q h => hlv q h (by omega)⟩)
        refine inner.bind fun l hl => ?_
        refine Tm.step (apnd_ok (by simp; omega) (by decide)) (Tm.some ⟨hlt, iw_n (by omega), ?_, by simp [htl]⟩)
        intro q hq
        by_cases hqk : q = k + 1
        · subst hqk
          refine ⟨l, ?_, hl.1, hl.2⟩
          show (t ++ [l])[k + 1]? = some l
          rw [List.getElem?_append_right (by omega), htl, Nat.sub_self]; rfl
        · obtain ⟨r, q1, q2, q3⟩ := ht q (by omega)
          exact ⟨r, mem_getElem?_append q1, q2, q3⟩
      · refine Tm.neg (by omega) (Tm.some ?_)
        have : k = n := by omega
        subst this; exact ht
  refine outer.bind fun t ht => ?_
  have := aFind_tm hd hm (left := n) (s := 0) (words := []) (text := []) hn ht (by omega) (Nat.zero_le _) (by simp; omega)
  refine (this).eq (Tm.some ?_)
  simp only [List.nil_append]
  rfl
theorem aWords_neg {d : ADfa} {n most : Int} (h : n < 0 ∨ most < 0) : Tm (fun N => aWords N d n most) (· = []) := by
  unfold aWords
  by_cases h1 : n < 0
  · simp only [if_pos h1, Option.bind_some, if_true]
    exact Tm.some rfl
  · have h2 : most < 0 := by omega
    simp only [if_neg h1, decide_eq_true h2, Option.bind_some, if_true]
    exact Tm.some rfl

/-! ## The reference's Can -/
/-- the states that k characters lead to -/
def Rk (d : ADfa) (s : Int) (k : Nat) (j : Nat) : Prop := ∃ w : List Int, w.length = k ∧ Pr w ∧ run d s w = (j : Int)
theorem okE_lh {n : Int} : ∀ {b : Int} {l : List AEdge}, okE n b l = true → ∀ e ∈ l, e.Low ≤ e.High
  | b, y :: l, h, e, he => by
    obtain ⟨⟨k1, k2, _⟩, k6⟩ := okE_cons.1 h
    rcases List.mem_cons.1 he with rfl | he
    · exact k2
    · exact okE_lh k6 e he
theorem stepE_is {c t : Int} : ∀ {l : List AEdge}, stepE l c = t → t ≠ -1 → ∃ e ∈ l, e.To = t
  | [], h, ht => absurd h.symm ht
  | x :: l, h, ht => by
    unfold stepE at h
    split at h
    · exact ⟨x, List.mem_cons_self, h⟩
    · obtain ⟨e, he, h2⟩ := stepE_is h ht
      exact ⟨e, List.mem_cons_of_mem _ he, h2⟩
theorem Rk_succ {d : ADfa} (hd : okD d = true) {s : Int} (hs : St d.Accept.length s) {k j : Nat} : Rk d s (k + 1) j ↔ ∃ (i : Nat) (h : i < d.Edges.length), Rk d s k i ∧ ∃ e ∈ d.Edges[i], e.To = (j : Int) := by
  obtain ⟨g1, g2, g3, g4⟩ := okD_iff.1 hd
  constructor
  · rintro ⟨w, h1, h2, h3⟩
    obtain ⟨v, c, rfl⟩ : ∃ v c, w = v ++ [c] := ⟨w.dropLast, w.getLast (by intro e; rw [e] at h1; simp at h1), (List.dropLast_concat_getLast _).symm⟩
    rw [run_snoc] at h3
    have hst := run_st (w := v) hd hs
    have hne : run d s v ≠ -1 := by
      intro e
      rw [e] at h3
      have : stp d (-1) c = -1 := by unfold stp; rw [if_pos rfl]
      omega
    have := hst.1; have := hst.2
    have hlt : (run d s v).toNat < d.Edges.length := by omega
    refine ⟨(run d s v).toNat, hlt, ⟨v, by simpa using h1, fun x hx => h2 x (List.mem_append_left _ hx), by omega⟩, ?_⟩
    unfold stp at h3
    rw [if_neg hne, getD_of hlt] at h3
    exact stepE_is h3 (by omega)
  · rintro ⟨i, hi, ⟨v, h1, h2, h3⟩, e, he, hej⟩
    have hok := g4 _ (List.getElem_mem hi)
    have hb := okE_mem (by omega) hok e he
    have hlh := okE_lh hok e he
    refine ⟨v ++ [e.Low], by simp [h1], fun x hx => ?_, ?_⟩
    · rcases List.mem_append.1 hx with hx | hx
      · exact h2 x hx
      · rw [List.mem_singleton.1 hx]; omega
    · rw [run_snoc, h3]
      unfold stp
      rw [if_neg (by omega), Int.toNat_natCast, getD_of hi, stepE_mem hok e he _ (Int.le_refl _) hlh, hej]
def Is (d : ADfa) (x : List Bool) (P : Nat → Prop) : Prop := x.length = d.Accept.length ∧ ∀ (j : Nat) (h : j < x.length), x[j] = true ↔ P j
theorem rCan_tm {d : ADfa} (hd : okD d = true) {n s : Nat} (hn : n ≤ 4096) (hs : s < d.Accept.length) : Tm (fun N => rCan N d (s : Int) (n : Int)) (· = can d n (s : Int)) := by
  unfold rCan
  obtain ⟨g1, g2, g3, g4⟩ := okD_iff.1 hd
  have hlm := okD_lms hd
  have hst : St d.Accept.length (s : Int) := ⟨by omega, by omega⟩
  refine Tm.step (mk1_ok (n := d.Accept.length) rfl (by omega) (by decide)) (Tm.step (idx_i (n := s) rfl (by simpa using hs)) (Tm.step (upd1_i (n := s) rfl (by simpa using hs)) ?_))
  have main : Tm (fun N => loopM (rCan_b1 N d (n : Int)) N ((n : Int), (List.replicate d.Accept.length false).set s true)) (fun x => Is d x (Rk d (s : Int) n)) := by
    refine Tm.up n (fun k t => t.1 = ((n - k : Nat) : Int) ∧ Is d t.2 (Rk d (s : Int) k)) ⟨by simp, by simp, fun j h => ?_⟩ ?_
    · rw [List.getElem_set]
      constructor
      · intro h1
        split at h1
        · rename_i e; subst e; exact ⟨[], rfl, fun _ h => (by cases h), rfl⟩
        · simp at h1
      · rintro ⟨w, h1, _, h3⟩
        have : w = [] := List.eq_nil_of_length_eq_zero h1
        subst this
        have h3' : (s : Int) = (j : Int) := h3
        rw [if_pos (by omega)]
    · rintro k hk ⟨len, x⟩ ⟨hl, hx⟩
      dsimp only at hl hx; subst hl
      unfold rCan_b1
      rcases Nat.lt_or_ge k n with hlt | hge
      · refine Tm.pos (by omega) (Tm.step (mk1_ok (n := d.Accept.length) rfl (by omega) (by decide)) ?_)
        have row : ∀ (i : Nat) (hi : i < d.Edges.length) (nx : List Bool) (P : Nat → Prop), Is d nx P →
            Tm (fun N => loopM (rCan_b3 N d (n : Int) x (i : Int)) N (nx, 0)) (fun y => Is d y (fun j => P j ∨ (Rk d (s : Int) k i ∧ ∃ e ∈ d.Edges[i], e.To = (j : Int)))) := by
          intro i hi nx P hP
          have hok := g4 _ (List.getElem_mem hi)
          have hll := hlm.2.2 _ (List.getElem_mem hi)
          have hix : i < x.length := by rw [hx.1]; omega
          have hxi := hx.2 i hix
          refine Tm.up d.Edges[i].length (fun q t => t.2 = (q : Int) ∧ Is d t.1 (fun j => P j ∨ (Rk d (s : Int) k i ∧ ∃ e ∈ d.Edges[i].take q, e.To = (j : Int)))) ⟨rfl, hP.1, fun j h => by rw [hP.2 j h]; simp⟩ ?_
          rintro q hq ⟨y, c⟩ ⟨hc, hy⟩
          dsimp only at hc hy; subst hc
          unfold rCan_b3
          have e1 : idx x (i : Int) = some x[i] := idx_n hix
          have e2 : idx d.Edges (i : Int) = some d.Edges[i] := idx_n hi
          simp only [e1, e2, Option.bind_some]
          by_cases hxt : x[i] = true
          · rw [if_pos hxt]
            simp only [Option.bind_some]
            rcases Nat.lt_or_ge q d.Edges[i].length with hql | hql
            · have hb := okE_mem (by omega) hok _ (List.getElem_mem hql)
              obtain ⟨to, hto⟩ : ∃ to : Nat, d.Edges[i][q].To = (to : Int) := ⟨d.Edges[i][q].To.toNat, by omega⟩
              have htl : to < y.length := by rw [hy.1]; omega
              refine Tm.pos (decide_eq_true (by omega)) (Tm.step (idx_n hql) ?_)
              rw [hto]
              refine Tm.step (idx_n htl) (Tm.step (upd1_i (n := to) rfl htl) (Tm.some ⟨hql, iw_n (by omega), by simpa using hy.1, fun j h => ?_⟩))
              rw [List.getElem_set]
              have hmem : (∃ e ∈ d.Edges[i].take (q + 1), e.To = (j : Int)) ↔ ((∃ e ∈ d.Edges[i].take q, e.To = (j : Int)) ∨ to = j) := by
                rw [List.take_add_one, List.getElem?_eq_getElem hql]
                constructor
                · rintro ⟨e, he, hej⟩
                  rcases List.mem_append.1 he with he | he
                  · exact .inl ⟨e, he, hej⟩
                  · have : e = d.Edges[i][q] := by simpa using he
                    subst this; exact .inr (by omega)
                · rintro (⟨e, he, hej⟩ | h)
                  · exact ⟨e, List.mem_append_left _ he, hej⟩
                  · exact ⟨d.Edges[i][q], List.mem_append_right _ (by simp), by omega⟩
              by_cases htj : to = j
              · rw [if_pos htj]
                exact ⟨fun _ => .inr ⟨hxi.1 hxt, hmem.2 (.inr htj)⟩, fun _ => rfl⟩
              · rw [if_neg htj, hy.2 j (by simpa using h)]
                constructor
                · rintro (h | ⟨h1, h2⟩)
                  · exact .inl h
                  · exact .inr ⟨h1, hmem.2 (.inl h2)⟩
                · rintro (h | ⟨h1, h2⟩)
                  · exact .inl h
                  · exact .inr ⟨h1, (hmem.1 h2).resolve_right htj⟩
            · refine Tm.neg (by simp; omega) (Tm.some ?_)
              rw [List.take_of_length_le hql] at hy
              exact hy
          · rw [if_neg hxt]
            simp only [Option.bind_some]
            refine Tm.neg (by simp) (Tm.some ⟨hy.1, fun j h => ?_⟩)
            rw [hy.2 j h]
            constructor
            · rintro (h | ⟨h1, _⟩)
              · exact .inl h
              · exact absurd (hxi.2 h1) hxt
            · rintro (h | ⟨h1, _⟩)
              · exact .inl h
              · exact absurd (hxi.2 h1) hxt
        have outer : Tm (fun N => loopM (rCan_b2 N d (n : Int) x) N (List.replicate d.Accept.length false, 0)) (fun y => Is d y (Rk d (s : Int) (k + 1))) := by
          refine Tm.up d.Edges.length (fun i t => t.2 = (i : Int) ∧ Is d t.1 (fun j => ∃ (q : Nat) (h : q < d.Edges.length), q < i ∧ Rk d (s : Int) k q ∧ ∃ e ∈ d.Edges[q], e.To = (j : Int))) ⟨rfl, by simp, fun j h => by simp⟩ ?_
          rintro i hi ⟨y, c⟩ ⟨hc, hy⟩
          dsimp only at hc hy; subst hc
          unfold rCan_b2
          rcases Nat.lt_or_ge i d.Edges.length with hil | hil
          · refine Tm.pos (by rw [hx.1]; omega) ((row i hil y _ hy).bind fun y' hy' => Tm.some ⟨hil, iw_n (by omega), hy'.1, fun j h => ?_⟩)
            rw [hy'.2 j h]
            constructor
            · rintro (⟨q, h1, h2, h3⟩ | h)
              · exact ⟨q, h1, by omega, h3⟩
              · exact ⟨i, hil, by omega, h⟩
            · rintro ⟨q, h1, h2, h3⟩
              by_cases hqi : q = i
              · subst hqi; exact .inr h3
              · exact .inl ⟨q, h1, by omega, h3⟩
          · refine Tm.neg (by rw [hx.1]; omega) (Tm.some ⟨hy.1, fun j h => ?_⟩)
            rw [hy.2 j h, Rk_succ hd hst]
            constructor
            · rintro ⟨q, h1, _, h3⟩; exact ⟨q, h1, h3⟩
            · rintro ⟨q, h1, h3⟩; exact ⟨q, h1, by omega, h3⟩
        refine outer.bind fun y hy => Tm.some ⟨hlt, ?_, hy⟩
        show iw _ = _
        rw [iw_eq] <;> omega
      · refine Tm.neg (by omega) (Tm.some ?_)
        have : k = n := by omega
        subst this; exact hx
  refine main.bind fun x hx => ?_
  have hcan : can d n (s : Int) = true ↔ ∃ (i : Nat) (h : i < x.length), x[i] = true ∧ d.Accept.getD i false = true := by
    rw [can_iff]
    constructor
    · rintro ⟨w, h1, h2, h3⟩
      have hr := run_st (w := w) hd hst
      have hne : run d (s : Int) w ≠ -1 := by
        intro e; rw [e] at h3; unfold fin at h3; rw [if_pos rfl] at h3; cases h3
      have := hr.1; have := hr.2
      have hlt : (run d (s : Int) w).toNat < x.length := by rw [hx.1]; omega
      refine ⟨(run d (s : Int) w).toNat, hlt, (hx.2 _ hlt).2 ⟨w, h1, h2, by omega⟩, ?_⟩
      unfold fin at h3
      rw [if_neg hne] at h3; exact h3
    · rintro ⟨i, hi, h1, h2⟩
      obtain ⟨w, q1, q2, q3⟩ := (hx.2 i hi).1 h1
      refine ⟨w, q1, q2, ?_⟩
      rw [q3]; unfold fin
      rw [if_neg (by omega), Int.toNat_natCast]; exact h2
  have last : Tm (fun N => loopM (rCan_b4 N d (n : Int) x) N 0) (fun r => (r = Sum.inl () ∧ can d n (s : Int) = false) ∨ (r = Sum.inr true ∧ can d n (s : Int) = true)) := by
    refine Tm.up x.length (fun k i => i = (k : Int) ∧ ∀ (q : Nat) (h : q < x.length), q < k → ¬ (x[q] = true ∧ d.Accept.getD q false = true)) ⟨rfl, fun q h hq => absurd hq (by omega)⟩ ?_
    rintro k hk i ⟨rfl, ho⟩
    unfold rCan_b4
    rcases Nat.lt_or_ge k x.length with hlt | hge
    · have hka : k < d.Accept.length := by rw [← hx.1]; exact hlt
      have e1 : idx x (k : Int) = some x[k] := idx_n hlt
      have e2 : idx d.Accept (k : Int) = some d.Accept[k] := idx_n hka
      refine Tm.pos (by omega) ?_
      simp only [e1, e2, Option.bind_some]
      by_cases hxk : x[k] = true
      · simp only [if_pos hxk, Option.bind_some]
        refine Tm.ite (fun h => Tm.some (.inr ⟨rfl, hcan.2 ⟨k, hlt, hxk, by rw [getD_of hka]; exact h⟩⟩)) (fun h => Tm.some ⟨hlt, iw_n (by omega), fun q hq hqk => ?_⟩)
        by_cases e : q = k
        · subst e; rw [getD_of hka]; exact fun x => h x.2
        · exact ho q hq (by omega)
      · simp only [if_neg hxk, Option.bind_some, Bool.false_eq_true, if_false]
        refine Tm.some ⟨hlt, iw_n (by omega), fun q hq hqk => ?_⟩
        by_cases e : q = k
        · subst e; exact fun x => hxk x.1
        · exact ho q hq (by omega)
    · refine Tm.neg (by omega) (Tm.some (.inl ⟨rfl, ?_⟩))
      rw [← Bool.not_eq_true]
      intro hc
      obtain ⟨q, hq, h1, h2⟩ := hcan.1 hc
      exact ho q hq (by omega) ⟨h1, h2⟩
  refine last.bind fun r hr => ?_
  rcases hr with ⟨rfl, h⟩ | ⟨rfl, h⟩
  · exact Tm.some h.symm
  · exact Tm.some h.symm
end Go.D

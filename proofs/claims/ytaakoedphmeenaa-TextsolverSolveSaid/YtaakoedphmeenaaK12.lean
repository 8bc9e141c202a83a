/-
 Solve: the order in which words are chosen; what a solution is by classes. Plain theorems.
-/
import Derived.Test.YtaakoedphmeenaaK11
set_option linter.unusedSimpArgs false
set_option linter.unusedVariables false
namespace Go.D
open Go Go.X
theorem mem_get {α : Type} {l m : List α} (h : l.Perm m) {i : Nat} (hi : i < l.length) : l[i] ∈ m := h.mem_iff.1 (List.getElem_mem hi)
theorem insSort_tm {data : List Int} {cmp : Nat → Int → Int → Option Int} (hn : data.length ≤ 1000) (hc : ∀ x ∈ data, ∀ y ∈ data, Tm (fun N => cmp N x y) (fun _ => True)) :
 Tm (fun N => insSort N data 0 (data.length : Int) (cmp N)) (fun r => r.Perm data) := by
 unfold insSort
 refine Tm.bind (Q := fun r => r.Perm data) ?_ fun r hr => Tm.some hr
 refine Tm.loopG (fun (m : Nat) s => s.1.Perm data ∧ ∃ i : Nat, s.2 = (i : Int) ∧ 1 ≤ i ∧ i ≤ data.length + 1 ∧ m = data.length + 1 - i) (fun m => m) (data.length + 1 - 1) ⟨.refl _, 1, rfl, by omega, by omega, rfl⟩ ?_
 rintro m ⟨s, ii⟩ ⟨hp, i, hi, h1, h2, hm⟩
 dsimp only at hp hi; subst hi; subst hm
 unfold insSort_b1
 dsimp only
 have hl := hp.length_eq
 by_cases hlt : i < data.length
 · refine Tm.pos (by omega) ?_
   refine Tm.bind (Q := fun r => r.Perm data) ?_ fun r hr => Tm.some ⟨_, ⟨hr, i + 1, iw_n (by omega), by omega, by omega, rfl⟩, by omega⟩
   refine Tm.loopG (fun (m : Nat) s => s.1.Perm data ∧ s.2 = (m : Int) ∧ m < data.length) (fun m => m) i ⟨hp, rfl, hlt⟩ ?_
   rintro j ⟨s, jj⟩ ⟨hp, hj, hjl⟩
   dsimp only at hp hj hjl; subst hj
   have hl := hp.length_eq
   unfold insSort_b2
   dsimp only
   by_cases hj0 : 0 < j
   · have e1 : iw ((j : Int) - 1) = ((j - 1 : Nat) : Int) := by rw [iw_eq] <;> omega
     rw [e1]
     have g1 : (fun N => (((if (j : Int) > 0 then (idx s (j : Int)).bind fun x4617 => (idx s ((j - 1 : Nat) : Int)).bind fun x4629 => (cmp N x4617 x4629).bind fun r4735 => some (decide ((r4735 : Int) < 0)) else some false) : Option Bool))) = fun N => (cmp N (s[j]'(by omega)) (s[j - 1]'(by omega))).bind fun r4735 => some (decide ((r4735 : Int) < 0)) := by
      funext N
      rw [if_pos (by omega), idx_n (by omega), idx_n (by omega)]; rfl
     have g2 : Tm (fun N => (((if (j : Int) > 0 then (idx s (j : Int)).bind fun x4617 => (idx s ((j - 1 : Nat) : Int)).bind fun x4629 => (cmp N x4617 x4629).bind fun r4735 => some (decide ((r4735 : Int) < 0)) else some false) : Option Bool))) (fun _ => True) := by
      rw [g1]
      exact (hc _ (mem_get hp _) _ (mem_get hp _)).bind fun _ _ => Tm.some trivial
     refine g2.bind fun b _ => ?_
     cases b with
     | true =>
      refine Tm.pos rfl (Tm.step (idx_n (by omega)) (Tm.step (idx_n (by omega)) (Tm.step (idx_n (by omega)) (Tm.step (idx_n (by omega)) ?_))))
      rw [upd1_i (n := j) rfl (by omega)]
      simp only [Option.bind_some]
      refine Tm.step (idx_n (by rw [List.length_set]; omega)) ?_
      rw [upd1_i (n := j - 1) rfl (by rw [List.length_set]; omega)]
      exact Tm.some ⟨j - 1, ⟨(List.set_set_perm (as := s) (i := j) (j := j - 1) (by omega) (by omega)).trans hp, rfl, by omega⟩, by omega⟩
     | false => exact Tm.neg (by simp) (Tm.some hp)
   · refine Tm.bind (Q := fun b => b = false) (Tm.neg (by omega) (Tm.some rfl)) fun b hb => ?_
     subst hb
     exact Tm.neg (by simp) (Tm.some hp)
 · exact Tm.neg (by omega) (Tm.some hp)
theorem sortStable_tm {data : List Int} {cmp : Nat → Int → Int → Option Int} (hn : data.length ≤ 19) (hc : ∀ x ∈ data, ∀ y ∈ data, Tm (fun N => cmp N x y) (fun _ => True)) :
 Tm (fun N => sortStable N data (cmp N)) (fun r => r.Perm data) := by
 unfold sortStable
 refine Tm.bind (Q := fun r => r.Perm data) ?_ fun r hr => Tm.some hr
 unfold stableSort
 refine Tm.bind (Q := fun r => r = (data, 0)) ?_ fun r hr => ?_
 · refine Tm.up 0 (fun _ s => s = (data, 0, 20)) rfl ?_
   rintro k _ s rfl
   unfold stableSort_b1
   exact Tm.neg (by omega) (Tm.some rfl)
 · subst hr
   refine (insSort_tm (by omega) hc).bind fun r hr => ?_
   refine Tm.bind (Q := fun _ => True) ?_ fun _ _ => Tm.some hr
   refine Tm.up 0 (fun _ s => s = 20) rfl ?_
   rintro k _ s rfl
   unfold stableSort_b2
   exact Tm.neg (by omega) (Tm.some trivial)
theorem revInt_tm {s : List Int} (hn : s.length ≤ 1000) : Tm (fun N => revInt N s) (fun r => r.Perm s) := by
 unfold revInt
 refine Tm.bind (Q := fun r => r.Perm s) ?_ fun r hr => Tm.some hr
 refine Tm.loopG (fun (m : Nat) (t : List Int × Int × Int) => t.1.Perm s ∧ 0 ≤ t.2.1 ∧ -1 ≤ t.2.2 ∧ t.2.2 < (s.length : Int) ∧ m = (t.2.2 - t.2.1 + 2).toNat) (fun m => m) _ ⟨.refl _, Int.le_refl _, by dsimp only; rw [iw_eq] <;> omega, by dsimp only; rw [iw_eq] <;> omega, rfl⟩ ?_
 rintro m ⟨t, i, j⟩ ⟨hp, h1, h2, h3, hm⟩
 dsimp only at hp h1 h2 h3 hm; subst hm
 have hl := hp.length_eq
 unfold revInt_b1
 dsimp only
 by_cases hij : i < j
 · obtain ⟨a, rfl⟩ : ∃ a : Nat, i = (a : Int) := ⟨i.toNat, by omega⟩
   obtain ⟨b, rfl⟩ : ∃ b : Nat, j = (b : Int) := ⟨j.toNat, by omega⟩
   refine Tm.pos hij (Tm.step (idx_n (by omega)) (Tm.step (idx_n (by omega)) (Tm.step (idx_n (by omega)) ?_)))
   rw [upd1_i (n := a) rfl (by omega)]
   simp only [Option.bind_some]
   refine Tm.step (idx_n (by rw [List.length_set]; omega)) ?_
   rw [upd1_i (n := b) rfl (by rw [List.length_set]; omega)]
   refine Tm.some ⟨_, ⟨(List.set_set_perm (as := t) (i := a) (j := b) (by omega) (by omega)).trans hp, ?_, ?_, ?_, rfl⟩, ?_⟩
   · dsimp only; rw [iw_eq] <;> omega
   · dsimp only; rw [iw_eq] <;> omega
   · dsimp only; rw [iw_eq] <;> omega
   · dsimp only
     rw [iw_eq (z := (a : Int) + 1) (by omega) (by omega), iw_eq (z := (b : Int) - 1) (by omega) (by omega)]; omega
 · exact Tm.neg hij (Tm.some hp)
theorem nI_perm {l : List Int} {ns : List Nat} (h : l.Perm (nI ns)) : ∃ os : List Nat, l = nI os ∧ os.Perm ns := by
 refine ⟨l.map Int.toNat, ?_, ?_⟩
 · unfold nI
   rw [List.map_map]
   have : ∀ x ∈ l, ((fun (n : Nat) => (n : Int)) ∘ Int.toNat) x = x := fun x hx => by
    have := h.mem_iff.1 hx
    unfold nI at this
    obtain ⟨q, _, rfl⟩ := List.mem_map.1 this
    rfl
   rw [List.map_congr_left this, List.map_id']
 · have := h.map Int.toNat
   unfold nI at this
   rw [List.map_map] at this
   have e : (Int.toNat ∘ fun (n : Nat) => (n : Int)) = id := by funext n; rfl
   rw [e, List.map_id] at this
   exact this
theorem nodup_bound {m : Nat} {ns : List Nat} (h : ns.Nodup) (hb : ∀ k ∈ ns, k < m) : ns.length ≤ m := by
 have := h.length_le_of_subset (l₂ := List.range m) fun x hx => List.mem_range.2 (hb x hx)
 simpa using this
theorem pick {α : Type} {W B : List α} (h : W.Nodup) (hl : B.length < W.length) : ∃ w ∈ W, w ∉ B := by
 apply Classical.byContradiction
 intro hno
 have : W ⊆ B := fun w hw => Classical.byContradiction fun hb => hno ⟨w, hw, hb⟩
 have := h.length_le_of_subset this
 omega
theorem trunc {m : Nat} {D : Nat → List (List UInt8)} {nb : Nat → List Nat} {t : Nat → Nat} {R : Nat → Nat → Prop} (hD : ∀ k, (D k).Nodup) (ht : ∀ k, k < m → (nb k).length < t k)
 (hR : ∀ x y, R x y → y ∈ nb x ∧ R y x ∧ x ≠ y) {f : Nat → List UInt8} (hf : ∀ k, k < m → f k ∈ D k) (hs : ∀ x y, R x y → f x ≠ f y) :
 ∃ g : Nat → List UInt8, (∀ k, k < m → g k ∈ (D k).take (t k)) ∧ ∀ x y, R x y → g x ≠ g y := by
 have key : ∀ j, j ≤ m → ∃ g : Nat → List UInt8, (∀ k, k < j → g k ∈ (D k).take (t k)) ∧ (∀ k, k < m → g k ∈ D k) ∧ ∀ x y, R x y → g x ≠ g y := by
  intro j
  induction j with
  | zero => intro _; exact ⟨f, fun k hk => by omega, hf, hs⟩
  | succ j ih =>
   intro hj
   obtain ⟨g, h1, h2, h3⟩ := ih (by omega)
   by_cases hin : g j ∈ (D j).take (t j)
   · refine ⟨g, fun k hk => ?_, h2, h3⟩
     by_cases e : k = j
     · subst e; exact hin
     · exact h1 k (by omega)
   · have hlen : ((nb j).map g).length < ((D j).take (t j)).length := by
      rw [List.length_map, List.length_take]
      have := ht j (by omega)
      rcases Nat.lt_or_ge (t j) (D j).length with hg | hg
      · omega
      · rw [List.take_of_length_le hg] at hin
        exact absurd (h2 j (by omega)) hin
     obtain ⟨w, hw, hwn⟩ := pick ((hD j).sublist (List.take_sublist _ _)) hlen
     refine ⟨fun x => if x = j then w else g x, fun k hk => ?_, fun k hk => ?_, fun x y hxy => ?_⟩
     · by_cases e : k = j
       · subst e; simpa using hw
       · simpa [e] using h1 k (by omega)
     · by_cases e : k = j
       · subst e; simpa using List.mem_of_mem_take hw
       · simpa [e] using h2 k hk
     · obtain ⟨r1, r2, r3⟩ := hR x y hxy
       obtain ⟨r4, _, _⟩ := hR y x r2
       dsimp only
       by_cases ex : x = j
       · subst ex
         rw [if_pos rfl, if_neg (fun e => r3 e.symm)]
         intro e
         exact hwn (List.mem_map.2 ⟨y, r1, e.symm⟩)
       · rw [if_neg ex]
         by_cases ey : y = j
         · subst ey
           rw [if_pos rfl]
           intro e
           exact hwn (List.mem_map.2 ⟨x, r4, e⟩)
         · rw [if_neg ey]; exact h3 x y hxy
 obtain ⟨g, h1, _, h3⟩ := key m (Nat.le_refl _)
 exact ⟨g, h1, h3⟩
section
variable {p : TProb} {L : List Int} {l : List TClass} {x : List (List UInt8)}
theorem sat_iff : sat p x = true ↔ x.length = p.Min.length ∧ (∀ i, i < x.length → (p.Min.getD i 0 ≤ ((x.getD i []).length : Int) ∧ ((x.getD i []).length : Int) ≤ p.Max.getD i 0) ∧ (x.getD i []).all prn = true) ∧ (∀ t ∈ p.Tests, pas t (x.getD t.Var.toNat []) = true) ∧ (∀ e ∈ p.Same, x.getD e.e0.toNat [] = x.getD e.e1.toNat []) ∧ ∀ e ∈ p.Different, x.getD e.e0.toNat [] ≠ x.getD e.e1.toNat [] := by
 unfold sat gL gT gD gS
 simp only [Bool.and_eq_true, decide_eq_true_eq, List.all_eq_true, List.mem_range, Bool.not_eq_true', decide_eq_false_iff_not]
 constructor
 · rintro ⟨⟨⟨⟨h1, h2⟩, h3⟩, h4⟩, h5⟩; exact ⟨h1, h2, h3, h4, h5⟩
 · rintro ⟨h1, h2, h3, h4, h5⟩; exact ⟨⟨⟨⟨h1, h2⟩, h3⟩, h4⟩, h5⟩
theorem sat_cn (hs : ∀ e ∈ p.Same, x.getD e.e0.toNat [] = x.getD e.e1.toNat []) {a b : Nat} (hc : Cn p a b) : x.getD a [] = x.getD b [] := by
 induction hc with
 | refl a => rfl
 | edge he => exact hs _ he
 | symm _ ih => exact ih.symm
 | trans _ _ i1 i2 => exact i1.trans i2
structure Wds (p : TProb) (L : List Int) (l : List TClass) (f : Nat → List UInt8) : Prop where
 mem : ∀ (k : Nat) (c : TClass), l[k]? = some c → f k ∈ allw c
 df : ∀ e ∈ p.Different, f (cls L e.e0.toNat) ≠ f (cls L e.e1.toNat)
theorem sat_split (hp : OkP p) (hm : Lms p) (hL : Lb p L) (hF : Fx p L) (hG : Gat p L l) (h : sat p x = true) : ∃ f, Wds p L l f ∧ ∀ v, v < p.Min.length → x[v]? = some (f (cls L v)) := by
 obtain ⟨h1, h2, h3, h4, h5⟩ := sat_iff.1 h
 have hf : ∃ f : Nat → List UInt8, ∀ v, v < p.Min.length → x.getD v [] = f (cls L v) := by
  refine ⟨fun k => if hk : ∃ v, v < p.Min.length ∧ cls L v = k then x.getD (Classical.choose hk) [] else [], fun v hv => ?_⟩
  have hk : ∃ u, u < p.Min.length ∧ cls L u = cls L v := ⟨v, hv, rfl⟩
  dsimp only
  rw [dif_pos hk]
  obtain ⟨g1, g2⟩ := Classical.choose_spec hk
  exact (sat_cn h4 (cn_cls hL hF g1 hv g2)).symm
 obtain ⟨f, hf⟩ := hf
 refine ⟨f, ⟨fun k c ec => ?_, fun e he => ?_⟩, fun v hv => ?_⟩
 · have hk : k < rk L L.length := by rw [← hG.len]; exact (List.getElem?_eq_some_iff.1 ec).1
   obtain ⟨c', ec', hC⟩ := hG.ok k hk
   rw [ec] at ec'
   have : c = c' := Option.some.inj ec'
   subst this
   obtain ⟨v, hv, ev⟩ := cls_surj hL hk
   have hmx := hp.mx (p.Max.getD v 0) (by rw [getD_n (by rw [hp.len]; exact hv)]; exact List.getElem_mem _)
   have hx := fun u (hu : u < p.Min.length) => h2 u (by omega)
   rw [mem_allw (hC.cok hp hm)]
   refine ⟨?_, ?_, ?_, ?_⟩
   · rcases hC.lo2 with g | ⟨u, hu, eu, g⟩
     · omega
     · rw [← g, ← eu, ← hf u hu]; exact (hx u hu).1.1
   · rcases hC.hi2 with g | ⟨u, hu, eu, g⟩
     · have := (hx v hv).1.2
       rw [hf v hv, ev] at this; omega
     · rw [← g, ← eu, ← hf u hu]; exact (hx u hu).1.2
   · rw [← ev, ← hf v hv]; exact (hx v hv).2
   · rw [hC.ts, List.take_length, List.all_eq_true]
     intro t ht
     obtain ⟨ht1, ht2⟩ := List.mem_filter.1 ht
     have hv := (hp.ts t ht1).2
     rw [← of_decide_eq_true ht2, ← hf _ (by omega)]
     exact h3 t ht1
 · have hv := hp.df e he
   rw [← hf _ (by omega), ← hf _ (by omega)]
   exact h5 e he
 · rw [← hf v hv, getD_n (by omega), List.getElem?_eq_getElem (by omega)]
theorem sat_join (hp : OkP p) (hm : Lms p) (hL : Lb p L) (hF : Fx p L) (hG : Gat p L l) {f : Nat → List UInt8} (hW : Wds p L l f) (hx : x.length = p.Min.length) (hv : ∀ v, v < p.Min.length → x[v]? = some (f (cls L v))) : sat p x = true := by
 have hg : ∀ v, v < p.Min.length → x.getD v [] = f (cls L v) := fun v h => by rw [List.getD_eq_getElem?_getD, hv v h]; rfl
 have hC : ∀ v, v < p.Min.length → ∃ c, l[cls L v]? = some c ∧ Cl p L p.Min.length p.Tests.length (cls L v) c ∧ f (cls L v) ∈ allw c := fun v h => by
  obtain ⟨c, ec, h1⟩ := hG.ok _ (cls_lt hL hF h)
  exact ⟨c, ec, h1, hW.mem _ _ ec⟩
 refine sat_iff.2 ⟨hx, fun i hi => ?_, fun t ht => ?_, fun e he => ?_, fun e he => ?_⟩
 · obtain ⟨c, ec, h1, h2⟩ := hC i (by omega)
   rw [mem_allw (h1.cok hp hm)] at h2
   rw [hg i (by omega)]
   have g1 := h1.lo1 i (by omega) rfl
   have g2 := h1.hi1 i (by omega) rfl
   exact ⟨by omega, h2.2.2.1⟩
 · have hvt := (hp.ts t ht).2
   obtain ⟨c, ec, h1, h2⟩ := hC t.Var.toNat (by omega)
   rw [mem_allw (h1.cok hp hm)] at h2
   rw [hg _ (by omega)]
   refine List.all_eq_true.1 h2.2.2.2 t ?_
   rw [h1.ts, List.take_length]
   exact List.mem_filter.2 ⟨ht, decide_eq_true rfl⟩
 · have hve := hp.sm e he
   rw [hg _ (by omega), hg _ (by omega), cls_cn hF (.edge he)]
 · have hve := hp.df e he
   rw [hg _ (by omega), hg _ (by omega)]
   exact hW.df e he
theorem ap_adj (hp : OkP p) (hL : Lb p L) (hF : Fx p L) (hG : Gat p L l) (hA : Ap p L p.Different.length l) : Adj l := by
 have hD : ∀ k q, Df p L p.Different.length k q → q < l.length ∧ q ≠ k := by
  rintro k q ⟨e, he, h⟩
  have hne := hA.ne e he
  rw [List.take_length] at he
  have hve := hp.df e he
  rw [hG.len]
  rcases h with ⟨h1, h2⟩ | ⟨h1, h2⟩
  · subst h1; subst h2; exact ⟨cls_lt hL hF (by omega), fun e => hne e.symm⟩
  · subst h1; subst h2; exact ⟨cls_lt hL hF (by omega), hne⟩
 refine ⟨fun k c ec o ho => ?_, fun k c q d ec ed hq => ?_⟩
 · obtain ⟨q, e, h⟩ := (hA.mem k c ec o).1 ho
   exact ⟨q, e, hD k q h⟩
 · obtain ⟨q', e, h⟩ := (hA.mem k c ec _).1 hq
   have : q = q' := by omega
   subst this
   exact (hA.mem q d ed _).2 ⟨k, rfl, h.symm⟩
end
end Go.D

/-
 What is gathered of each class. Plain theorems.
-/
import Derived.Test.YtaakoedphmeenaaK8
set_option linter.unusedSimpArgs false
set_option linter.unusedVariables false
namespace Go.D
open Go Go.X
theorem imin_or (a b : Int) : (imin a b = a ∧ a ≤ b) ∨ (imin a b = b ∧ b ≤ a) := by
 unfold imin
 by_cases h : b < a
 · rw [if_pos h]; exact .inr ⟨rfl, by omega⟩
 · rw [if_neg h]; exact .inl ⟨rfl, by omega⟩
theorem imax_or (a b : Int) : (imax a b = a ∧ b ≤ a) ∨ (imax a b = b ∧ a ≤ b) := by
 unfold imax
 by_cases h : b > a
 · rw [if_pos h]; exact .inr ⟨rfl, by omega⟩
 · rw [if_neg h]; exact .inl ⟨rfl, by omega⟩
structure Cl (p : TProb) (L : List Int) (i j k : Nat) (c : TClass) : Prop where
 lo0 : 0 ≤ c.low ∧ c.low ≤ 16
 hi0 : 0 ≤ c.high ∧ c.high ≤ 16
 lo1 : ∀ v, v < i → cls L v = k → p.Min.getD v 0 ≤ c.low
 lo2 : c.low = 0 ∨ ∃ v, v < i ∧ cls L v = k ∧ p.Min.getD v 0 = c.low
 hi1 : ∀ v, v < i → cls L v = k → c.high ≤ p.Max.getD v 0
 hi2 : c.high = 16 ∨ ∃ v, v < i ∧ cls L v = k ∧ p.Max.getD v 0 = c.high
 ts : c.tests = (p.Tests.take j).filter fun t => decide (cls L t.Var.toNat = k)
 ws : c.words = []
theorem set_get {α : Type} {l : List α} {a k : Nat} {y : α} (h : a < l.length) : (l.set a y)[k]? = if a = k then some y else l[k]? := by
 rw [List.getElem?_set]
 by_cases e : a = k
 · rw [if_pos e, if_pos e, if_pos h]
 · rw [if_neg e, if_neg e]
section
variable {p : TProb} {L : List Int}
theorem diff_get (hp : OkP p) {k : Nat} (hk : k < p.Different.length) : ∃ a b : Nat, p.Different[k].e0 = (a : Int) ∧ p.Different[k].e1 = (b : Int) ∧ a < p.Min.length ∧ b < p.Min.length := by
 obtain ⟨h1, h2⟩ := hp.df _ (List.getElem_mem hk)
 obtain ⟨a, e1, ha⟩ := var_n h1
 obtain ⟨b, e2, hb⟩ := var_n h2
 exact ⟨a, b, e1, e2, ha, hb⟩
theorem tgathered_b1_tm {m : Nat} (hm : m ≤ 1000) {x27 : List TClass} (h27 : x27 = List.replicate m (TClass.mk 0 0 [] [] [])) : Tm (fun N => loopM (tgathered_b1 N x27) N (x27, 0)) (fun r => r.length = m ∧ ∀ k, k < m → r[k]? = some (TClass.mk 0 16 [] [] [])) := by
 have hxl : x27.length = m := by rw [h27]; simp
 refine Tm.up m (fun k s => s.2 = (k : Int) ∧ s.1.length = m ∧ (∀ j, j < k → s.1[j]? = some (TClass.mk 0 16 [] [] [])) ∧ ∀ j, k ≤ j → j < m → s.1[j]? = some (TClass.mk 0 0 [] [] [])) ⟨rfl, hxl, fun j hj => by omega, fun j _ hj => by subst h27; rw [List.getElem?_replicate, if_pos hj]⟩ ?_
 rintro k hk ⟨s, i⟩ ⟨hi, hsl, h1, h2⟩
 dsimp only at hi hsl h1 h2; subst hi
 unfold tgathered_b1
 dsimp only
 rcases Nat.lt_or_ge k m with hlt | hge
 · refine Tm.pos (by omega) (Tm.step (idx_get (h2 k (Nat.le_refl _) hlt)) ?_)
   rw [upd1_i (n := k) rfl (by omega)]
   refine Tm.some ⟨hlt, iw_n (by omega), by rw [List.length_set]; exact hsl, fun j hj => ?_, fun j hj hj' => ?_⟩
   · show (s.set k _)[j]? = _
     rw [set_get (by omega)]
     by_cases e : k = j
     · rw [if_pos e]
     · rw [if_neg e]; exact h1 j (by omega)
   · show (s.set k _)[j]? = _
     rw [set_get (by omega), if_neg (by omega)]; exact h2 j (by omega) hj'
 · exact Tm.neg (by omega) (Tm.some ⟨hsl, fun k hk => h1 k (by omega)⟩)
structure Gt (p : TProb) (L : List Int) (i j : Nat) (l : List TClass) : Prop where
 len : l.length = rk L L.length
 ok : ∀ k, k < rk L L.length → ∃ c, l[k]? = some c ∧ Cl p L i j k c
theorem tgathered_b2_tm (hp : OkP p) (h : Lb p L) (hf : Fx p L) {m : Int} {l : List TClass} (hl : Gt p L 0 0 l) (ha : ∀ (k : Nat) (c : TClass), l[k]? = some c → c.apart = []) : Tm (fun N => loopM (tgathered_b2 N p (numOf L, m)) N (l, 0)) (fun r => Gt p L p.Min.length 0 r ∧ ∀ (k : Nat) (c : TClass), r[k]? = some c → c.apart = []) := by
 have hle := hp.le
 have hll := h.len
 refine Tm.up p.Min.length (fun k s => s.2 = (k : Int) ∧ Gt p L k 0 s.1 ∧ ∀ (k : Nat) (c : TClass), s.1[k]? = some c → c.apart = []) ⟨rfl, hl, ha⟩ ?_
 rintro v hv ⟨s, i⟩ ⟨hi, hG, hA⟩
 dsimp only at hi hG hA; subst hi
 unfold tgathered_b2
 dsimp only
 rcases Nat.lt_or_ge v p.Min.length with hlt | hge
 · have hc := cls_lt h hf hlt
   have hsl := hG.len
   obtain ⟨c, ec, hC⟩ := hG.ok _ hc
   have hmx : v < p.Max.length := by rw [hp.len]; exact hlt
   have emn : p.Min[v] = p.Min.getD v 0 := (getD_n hlt).symm
   have emx : p.Max[v] = p.Max.getD v 0 := (getD_n hmx).symm
   have bmn := hp.mn _ (List.getElem_mem hlt)
   have bmx := hp.mx _ (List.getElem_mem hmx)
   refine Tm.pos (by rw [num_len]; omega) (Tm.step (idx_get (num_get h hlt)) (Tm.step (idx_get ec) (Tm.step (idx_n hlt) (Tm.step (idx_get ec) (Tm.step (idx_n hmx) (Tm.step (idx_get ec) (Tm.step (idx_get ec) ?_)))))))
   rw [upd1_i (n := cls L v) rfl (by omega)]
   simp only [Option.bind_some]
   refine Tm.step (idx_get (by rw [set_get (by omega), if_pos rfl])) ?_
   rw [upd1_i (n := cls L v) rfl (by rw [List.length_set]; omega), List.set_set]
   simp only [Option.bind_some]
   have hl0 := hC.lo0
   have hh0 := hC.hi0
   have hmax := imax_or c.low p.Min[v]
   have hmin := imin_or c.high p.Max[v]
   refine Tm.some ⟨hlt, iw_n (by omega), ⟨by rw [List.length_set]; exact hsl, fun k hk => ?_⟩, fun k c' e => ?_⟩
   · show ∃ c', (s.set _ _)[k]? = some c' ∧ _
     rw [set_get (by omega)]
     by_cases e : cls L v = k
     · rw [if_pos e]
       subst e
       refine ⟨_, rfl, ⟨by dsimp only; omega, by dsimp only; omega, fun u hu e => ?_, ?_, fun u hu e => ?_, ?_, hC.ts, hC.ws⟩⟩
       · dsimp only
         by_cases euv : u = v
         · subst euv; rw [← emn]; omega
         · have := hC.lo1 u (by omega) e; omega
       · dsimp only
         rcases hmax with ⟨g, _⟩ | ⟨g, _⟩
         · rw [g]
           rcases hC.lo2 with g2 | ⟨u, hu, g2⟩
           · exact .inl g2
           · exact .inr ⟨u, by omega, g2⟩
         · exact .inr ⟨v, by omega, rfl, by rw [g, emn]⟩
       · dsimp only
         by_cases euv : u = v
         · subst euv; rw [← emx]; omega
         · have := hC.hi1 u (by omega) e; omega
       · dsimp only
         rcases hmin with ⟨g, _⟩ | ⟨g, _⟩
         · rw [g]
           rcases hC.hi2 with g2 | ⟨u, hu, g2⟩
           · exact .inl g2
           · exact .inr ⟨u, by omega, g2⟩
         · exact .inr ⟨v, by omega, rfl, by rw [g, emx]⟩
     · rw [if_neg e]
       obtain ⟨c', ec', hC'⟩ := hG.ok k hk
       refine ⟨c', ec', ⟨hC'.lo0, hC'.hi0, fun u hu g => ?_, ?_, fun u hu g => ?_, ?_, hC'.ts, hC'.ws⟩⟩
       · by_cases euv : u = v
         · subst euv; exact absurd g e
         · exact hC'.lo1 u (by omega) g
       · rcases hC'.lo2 with g2 | ⟨u, hu, g2⟩
         · exact .inl g2
         · exact .inr ⟨u, by omega, g2⟩
       · by_cases euv : u = v
         · subst euv; exact absurd g e
         · exact hC'.hi1 u (by omega) g
       · rcases hC'.hi2 with g2 | ⟨u, hu, g2⟩
         · exact .inl g2
         · exact .inr ⟨u, by omega, g2⟩
   · have e : (s.set (cls L v) _)[k]? = some c' := e
     rw [set_get (by omega)] at e
     by_cases g : cls L v = k
     · rw [if_pos g] at e
       rw [← Option.some.inj e]
       exact hA _ c ec
     · rw [if_neg g] at e
       exact hA k c' e
 · have : v = p.Min.length := by omega
   subst this
   exact Tm.neg (by rw [num_len]; omega) (Tm.some ⟨hG, hA⟩)
theorem test_get (hp : OkP p) {k : Nat} (hk : k < p.Tests.length) : ∃ a : Nat, p.Tests[k].Var = (a : Int) ∧ a < p.Min.length := by
 obtain ⟨_, h2⟩ := hp.ts _ (List.getElem_mem hk)
 obtain ⟨a, e1, ha⟩ := var_n h2
 exact ⟨a, e1, ha⟩
theorem tgathered_b3_tm (hp : OkP p) (h : Lb p L) (hf : Fx p L) (ht : p.Tests.length ≤ 1000) {m : Int} {i0 : Nat} {l : List TClass} (hl : Gt p L i0 0 l) (ha : ∀ (k : Nat) (c : TClass), l[k]? = some c → c.apart = []) : Tm (fun N => loopM (tgathered_b3 N p (numOf L, m)) N (l, 0)) (fun r => Gt p L i0 p.Tests.length r ∧ ∀ (k : Nat) (c : TClass), r[k]? = some c → c.apart = []) := by
 have hle := hp.le
 have hll := h.len
 refine Tm.up p.Tests.length (fun k s => s.2 = (k : Int) ∧ Gt p L i0 k s.1 ∧ ∀ (k : Nat) (c : TClass), s.1[k]? = some c → c.apart = []) ⟨rfl, hl, ha⟩ ?_
 rintro j hj ⟨s, i⟩ ⟨hi, hG, hA⟩
 dsimp only at hi hG hA; subst hi
 unfold tgathered_b3
 dsimp only
 rcases Nat.lt_or_ge j p.Tests.length with hlt | hge
 · obtain ⟨v, ev, hv⟩ := test_get hp hlt
   have ev' : p.Tests[j].Var.toNat = v := by omega
   have hc := cls_lt h hf hv
   have hsl := hG.len
   obtain ⟨c, ec, hC⟩ := hG.ok _ hc
   refine Tm.pos (by omega) (Tm.step (idx_n hlt) ?_)
   rw [ev]
   refine Tm.step (idx_get (num_get h hv)) (Tm.step (idx_get ec) (Tm.step (idx_get ec) ?_))
   have htl : c.tests.length ≤ j := by
    rw [hC.ts]
    have := List.length_filter_le (fun t => decide (cls L t.Var.toNat = cls L v)) (p.Tests.take j)
    rw [List.length_take] at this; omega
   rw [apnd_ok (by simp only [List.length_singleton]; omega) (by decide)]
   simp only [Option.bind_some]
   rw [upd1_i (n := cls L v) rfl (by omega)]
   have htk : p.Tests.take (j + 1) = p.Tests.take j ++ [p.Tests[j]] := List.take_succ_eq_append_getElem hlt
   refine Tm.some ⟨hlt, iw_n (by omega), ⟨by rw [List.length_set]; exact hsl, fun k hk => ?_⟩, fun k c' e => ?_⟩
   · show ∃ c', (s.set _ _)[k]? = some c' ∧ _
     rw [set_get (by omega)]
     by_cases e : cls L v = k
     · rw [if_pos e]
       subst e
       refine ⟨_, rfl, ⟨hC.lo0, hC.hi0, hC.lo1, hC.lo2, hC.hi1, hC.hi2, ?_, hC.ws⟩⟩
       show c.tests ++ [p.Tests[j]] = _
       rw [htk, List.filter_append, ← hC.ts]
       congr 1
       simp [ev']
     · rw [if_neg e]
       obtain ⟨c', ec', hC'⟩ := hG.ok k hk
       refine ⟨c', ec', ⟨hC'.lo0, hC'.hi0, hC'.lo1, hC'.lo2, hC'.hi1, hC'.hi2, ?_, hC'.ws⟩⟩
       rw [htk, List.filter_append, ← hC'.ts, List.filter_cons_of_neg (by simp [ev', e]), List.filter_nil, List.append_nil]
   · have e : (s.set (cls L v) _)[k]? = some c' := e
     rw [set_get (by omega)] at e
     by_cases g : cls L v = k
     · rw [if_pos g] at e
       rw [← Option.some.inj e]
       exact hA _ c ec
     · rw [if_neg g] at e
       exact hA k c' e
 · have : j = p.Tests.length := by omega
   subst this
   exact Tm.neg (by omega) (Tm.some ⟨hG, hA⟩)
def Df (p : TProb) (L : List Int) (i : Nat) (a b : Nat) : Prop := ∃ e ∈ p.Different.take i, (cls L e.e0.toNat = a ∧ cls L e.e1.toNat = b) ∨ (cls L e.e1.toNat = a ∧ cls L e.e0.toNat = b)
theorem Df.symm {i a b : Nat} (h : Df p L i a b) : Df p L i b a := by
 obtain ⟨e, he, h⟩ := h
 exact ⟨e, he, h.elim (fun h => .inr ⟨h.2, h.1⟩) (fun h => .inl ⟨h.2, h.1⟩)⟩
structure Ap (p : TProb) (L : List Int) (i : Nat) (l : List TClass) : Prop where
 mem : ∀ (k : Nat) (c : TClass), l[k]? = some c → ∀ o, o ∈ c.apart ↔ ∃ q : Nat, o = (q : Int) ∧ Df p L i k q
 le : ∀ (k : Nat) (c : TClass), l[k]? = some c → c.apart.length ≤ i
 ne : ∀ e ∈ p.Different.take i, cls L e.e0.toNat ≠ cls L e.e1.toNat
theorem indexOf_tm {s : List Int} {x : Int} (hn : s.length ≤ Bg) : Tm (fun N => indexOf N s x) (fun r => decide (r ≥ 0) = decide (x ∈ s)) := by
 have hb : Bg = 9223372036854775807 := rfl
 unfold indexOf
 refine (Tm.findL (b := fun N => indexOf_b1 N x s) s (fun y => decide (x = y)) (fun k => (k : Int)) (by omega) (fun k hk => ?_) ?_).bind fun o ho => ?_
 · unfold indexOf_b1
   refine Tm.pos (by omega) (Tm.step (idx_n hk) ?_)
   by_cases e : x = s[k]
   · rw [if_pos e, decide_eq_true e]; exact Tm.some rfl
   · rw [if_neg e, decide_eq_false e]; exact Tm.some rfl
 · unfold indexOf_b1
   exact Tm.neg (by omega) (Tm.some rfl)
 · rcases ho with ⟨h1, rfl⟩ | ⟨k, hk, h1, _, rfl⟩
   · refine Tm.some ?_
     have : x ∉ s := fun h => by
      have := List.any_eq_false.1 h1 x h
      simp at this
     rw [decide_eq_false this]; rfl
   · refine Tm.some ?_
     have : x ∈ s := by
      have e := of_decide_eq_true h1
      rw [e]; exact List.getElem_mem hk
     rw [decide_eq_true this]
     exact decide_eq_true (by omega)
theorem containsOf_tm {s : List Int} {x : Int} (hn : s.length ≤ Bg) : Tm (fun N => containsOf N s x) (· = decide (x ∈ s)) := by
 unfold containsOf
 exact (indexOf_tm hn).bind fun r hr => Tm.some hr
theorem tgathered_b4_tm (hp : OkP p) (h : Lb p L) (hf : Fx p L) (hd : p.Different.length ≤ 1000) {m : Int} {i0 j0 : Nat} {l : List TClass} (hl : Gt p L i0 j0 l) (ha : ∀ (k : Nat) (c : TClass), l[k]? = some c → c.apart = []) :
 Tm (fun N => loopM (tgathered_b4 N p (numOf L, m)) N (l, 0)) (fun o => match o with | .inl r => Gt p L i0 j0 r ∧ Ap p L p.Different.length r | .inr z => Gt p L i0 j0 z.1 ∧ z.2.1 = numOf L ∧ z.2.2 = false ∧ ∃ e ∈ p.Different, cls L e.e0.toNat = cls L e.e1.toNat) := by
 have hle := hp.le
 have hll := h.len
 have hb : Bg = 9223372036854775807 := rfl
 refine Tm.up p.Different.length (fun k s => s.2 = (k : Int) ∧ Gt p L i0 j0 s.1 ∧ Ap p L k s.1) ⟨rfl, hl, ⟨fun k c e o => ?_, fun k c e => by rw [ha k c e]; exact Nat.zero_le _, fun e he => by simp at he⟩⟩ ?_
 · rw [ha k c e]
   constructor
   · intro g; cases g
   · rintro ⟨q, _, e, he, _⟩; simp at he
 rintro j hj ⟨s, i⟩ ⟨hi, hG, hA⟩
 dsimp only at hi hG hA; subst hi
 unfold tgathered_b4
 dsimp only
 rcases Nat.lt_or_ge j p.Different.length with hlt | hge
 · obtain ⟨a, b, ea, eb, hav, hbv⟩ := diff_get hp hlt
   have ea' : p.Different[j].e0.toNat = a := by omega
   have eb' : p.Different[j].e1.toNat = b := by omega
   have hca := cls_lt h hf hav
   have hcb := cls_lt h hf hbv
   have hsl := hG.len
   obtain ⟨c, ec, hC⟩ := hG.ok _ hca
   obtain ⟨d, ed, hD⟩ := hG.ok _ hcb
   have htk : p.Different.take (j + 1) = p.Different.take j ++ [p.Different[j]] := List.take_succ_eq_append_getElem hlt
   have hDf : ∀ x y, Df p L (j + 1) x y ↔ Df p L j x y ∨ (cls L a = x ∧ cls L b = y) ∨ (cls L b = x ∧ cls L a = y) := by
    intro x y
    unfold Df
    rw [htk]
    constructor
    · rintro ⟨e, he, g⟩
      rcases List.mem_append.1 he with he | he
      · exact .inl ⟨e, he, g⟩
      · rw [List.mem_singleton.1 he, ea', eb'] at g; exact .inr g
    · rintro (⟨e, he, g⟩ | g)
      · exact ⟨e, List.mem_append_left _ he, g⟩
      · exact ⟨_, List.mem_append_right _ (List.mem_singleton.2 rfl), by rw [ea', eb']; exact g⟩
   refine Tm.pos (by omega) (Tm.step (idx_n hlt) ?_)
   rw [ea, eb]
   refine Tm.step (idx_get (num_get h hav)) (Tm.step (idx_get (num_get h hbv)) ?_)
   by_cases hab : cls L a = cls L b
   · refine Tm.pos (by rw [hab]) (Tm.some ⟨hG, rfl, rfl, _, List.getElem_mem hlt, by rw [ea', eb']; exact hab⟩)
   · have hne : ∀ e ∈ p.Different.take (j + 1), cls L e.e0.toNat ≠ cls L e.e1.toNat := by
      intro e he
      rw [htk] at he
      rcases List.mem_append.1 he with he | he
      · exact hA.ne e he
      · rw [List.mem_singleton.1 he, ea', eb']; exact hab
     have lc := hA.le _ _ ec
     have ld := hA.le _ _ ed
     refine Tm.neg (by omega) (Tm.step (idx_get ec) ((containsOf_tm (by omega)).eq ?_))
     by_cases hin : ((cls L b : Nat) : Int) ∈ c.apart
     · rw [decide_eq_true hin]
       refine Tm.neg (by simp) (Tm.some ⟨hlt, iw_n (by omega), hG, ⟨fun k c' e o => ?_, fun k c' e => by have := hA.le k c' e; omega, hne⟩⟩)
       obtain ⟨q, eq, hq⟩ := (hA.mem _ _ ec _).1 hin
       have eq' : cls L b = q := by omega
       rw [hA.mem k c' e o]
       constructor
       · rintro ⟨q, e1, e2⟩; exact ⟨q, e1, (hDf _ _).2 (.inl e2)⟩
       · rintro ⟨q', e1, e2⟩
         rcases (hDf _ _).1 e2 with g | ⟨g1, g2⟩ | ⟨g1, g2⟩
         · exact ⟨q', e1, g⟩
         · refine ⟨q', e1, ?_⟩; rw [← g1, ← g2, eq']; exact hq
         · refine ⟨q', e1, ?_⟩; rw [← g1, ← g2, eq']; exact hq.symm
     · rw [decide_eq_false hin]
       refine Tm.pos (by simp) (Tm.step (idx_get ec) (Tm.step (idx_get ed) ?_))
       rw [apnd_ok (by simp only [List.length_singleton]; omega) (by decide)]
       simp only [Option.bind_some]
       rw [apnd_ok (by simp only [List.length_singleton]; omega) (by decide)]
       simp only [Option.bind_some]
       refine Tm.step (idx_get ec) ?_
       rw [upd1_i (n := cls L a) rfl (by omega)]
       simp only [Option.bind_some]
       refine Tm.step (idx_get (by rw [set_get (by omega), if_neg hab]; exact ed)) ?_
       rw [upd1_i (n := cls L b) rfl (by rw [List.length_set]; omega)]
       have hget : ∀ k, ((s.set (cls L a) (TClass.mk c.low c.high c.tests c.words (c.apart ++ [((cls L b : Nat) : Int)]))).set (cls L b) (TClass.mk d.low d.high d.tests d.words (d.apart ++ [((cls L a : Nat) : Int)])))[k]? = if cls L b = k then some (TClass.mk d.low d.high d.tests d.words (d.apart ++ [((cls L a : Nat) : Int)])) else if cls L a = k then some (TClass.mk c.low c.high c.tests c.words (c.apart ++ [((cls L b : Nat) : Int)])) else s[k]? := by
        intro k
        rw [set_get (by rw [List.length_set]; omega), set_get (by omega)]
       refine Tm.some ⟨hlt, iw_n (by omega), ⟨by rw [List.length_set, List.length_set]; exact hsl, fun k hk => ?_⟩, ⟨fun k c' e o => ?_, fun k c' e => ?_, hne⟩⟩
       · show ∃ c', (List.set _ _ _)[k]? = some c' ∧ _
         rw [hget]
         by_cases e1 : cls L b = k
         · rw [if_pos e1]
           subst e1
           exact ⟨_, rfl, ⟨hD.lo0, hD.hi0, hD.lo1, hD.lo2, hD.hi1, hD.hi2, hD.ts, hD.ws⟩⟩
         · rw [if_neg e1]
           by_cases e2 : cls L a = k
           · rw [if_pos e2]
             subst e2
             exact ⟨_, rfl, ⟨hC.lo0, hC.hi0, hC.lo1, hC.lo2, hC.hi1, hC.hi2, hC.ts, hC.ws⟩⟩
           · rw [if_neg e2]; exact hG.ok k hk
       · have e : (List.set _ _ _)[k]? = some c' := e
         rw [hget] at e
         by_cases e1 : cls L b = k
         · rw [if_pos e1] at e
           rw [← Option.some.inj e]
           subst e1
           show o ∈ d.apart ++ [_] ↔ _
           rw [List.mem_append, hA.mem _ _ ed o, List.mem_singleton]
           constructor
           · rintro (⟨q, g1, g2⟩ | g)
             · exact ⟨q, g1, (hDf _ _).2 (.inl g2)⟩
             · exact ⟨cls L a, g, (hDf _ _).2 (.inr (.inr ⟨rfl, rfl⟩))⟩
           · rintro ⟨q, g1, g2⟩
             rcases (hDf _ _).1 g2 with g | ⟨g3, g4⟩ | ⟨g3, g4⟩
             · exact .inl ⟨q, g1, g⟩
             · exact absurd g3 hab
             · exact .inr (by rw [g1, ← g4])
         · rw [if_neg e1] at e
           by_cases e2 : cls L a = k
           · rw [if_pos e2] at e
             rw [← Option.some.inj e]
             subst e2
             show o ∈ c.apart ++ [_] ↔ _
             rw [List.mem_append, hA.mem _ _ ec o, List.mem_singleton]
             constructor
             · rintro (⟨q, g1, g2⟩ | g)
               · exact ⟨q, g1, (hDf _ _).2 (.inl g2)⟩
               · exact ⟨cls L b, g, (hDf _ _).2 (.inr (.inl ⟨rfl, rfl⟩))⟩
             · rintro ⟨q, g1, g2⟩
               rcases (hDf _ _).1 g2 with g | ⟨g3, g4⟩ | ⟨g3, g4⟩
               · exact .inl ⟨q, g1, g⟩
               · exact .inr (by rw [g1, ← g4])
               · exact absurd g3 e1
           · rw [if_neg e2] at e
             rw [hA.mem k c' e o]
             constructor
             · rintro ⟨q, g1, g2⟩; exact ⟨q, g1, (hDf _ _).2 (.inl g2)⟩
             · rintro ⟨q, g1, g2⟩
               rcases (hDf _ _).1 g2 with g | ⟨g3, g4⟩ | ⟨g3, g4⟩
               · exact ⟨q, g1, g⟩
               · exact absurd g3 e2
               · exact absurd g3 e1
       · have e : (List.set _ _ _)[k]? = some c' := e
         rw [hget] at e
         by_cases e1 : cls L b = k
         · rw [if_pos e1] at e
           rw [← Option.some.inj e]
           show (d.apart ++ [_]).length ≤ _
           rw [List.length_append, List.length_singleton]; omega
         · rw [if_neg e1] at e
           by_cases e2 : cls L a = k
           · rw [if_pos e2] at e
             rw [← Option.some.inj e]
             show (c.apart ++ [_]).length ≤ _
             rw [List.length_append, List.length_singleton]; omega
           · rw [if_neg e2] at e
             have := hA.le k c' e; omega
 · have : j = p.Different.length := by omega
   subst this
   exact Tm.neg (by omega) (Tm.some ⟨hG, hA⟩)
abbrev Gat (p : TProb) (L : List Int) (l : List TClass) : Prop := Gt p L p.Min.length p.Tests.length l
theorem tgathered_tm (hp : OkP p) (hm : Lms p) : Tm (fun N => tgathered N p) (fun r => ∃ L, Lb p L ∧ Fx p L ∧ r.2.1 = numOf L ∧ Gat p L r.1 ∧ (r.2.2 = true → Ap p L p.Different.length r.1) ∧ (r.2.2 = false → ∃ e ∈ p.Different, cls L e.e0.toNat = cls L e.e1.toNat)) := by
 have hle := hp.le
 unfold tgathered
 refine (tclasses_tm hp hm.d).bind fun r6 h6 => ?_
 obtain ⟨num, m⟩ := r6
 obtain ⟨L, hL, hF, e1, e2⟩ := h6
 dsimp only at e1 e2
 subst e1; subst e2
 have hl := hL.len
 have hmm := rk_le' (L := L)
 rw [mk1_ok (n := rk L L.length) rfl (by omega) (by decide)]
 simp only [Option.bind_some]
 refine (tgathered_b1_tm (m := rk L L.length) (by omega) rfl).bind fun l1 h1 => ?_
 have hap1 : ∀ (k : Nat) (c : TClass), l1[k]? = some c → c.apart = [] := by
  intro k c e
  have hk : k < rk L L.length := by rw [← h1.1]; exact (List.getElem?_eq_some_iff.1 e).1
  rw [h1.2 k hk] at e
  rw [← Option.some.inj e]
 have hg1 : Gt p L 0 0 l1 := ⟨h1.1, fun k hk => ⟨_, h1.2 k hk, ⟨by decide, by decide, fun v hv => by omega, .inl rfl, fun v hv => by omega, .inl rfl, rfl, rfl⟩⟩⟩
 refine (tgathered_b2_tm hp hL hF hg1 hap1).bind fun l2 h2 => ?_
 refine (tgathered_b3_tm hp hL hF hm.c h2.1 h2.2).bind fun l3 h3 => ?_
 refine (tgathered_b4_tm hp hL hF hm.e h3.1 h3.2).bind fun o ho => ?_
 cases o with
 | inl r => exact Tm.some ⟨L, hL, hF, rfl, ho.1, fun _ => ho.2, fun g => by simp at g⟩
 | inr z =>
  refine Tm.some ⟨L, hL, hF, ho.2.1, ho.1, fun g => ?_, fun _ => ho.2.2.2⟩
  rw [ho.2.2.1] at g; simp at g
end
end Go.D

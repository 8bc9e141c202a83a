/-
 Classes: their variables, by the program and by the reference. Plain theorems.
-/
import Derived.Test.YtaakoedphmeenaaK7
set_option linter.unusedSimpArgs false
set_option linter.unusedVariables false
namespace Go.D
open Go Go.X
section
variable {p : TProb} {L : List Int}
theorem rk_range : ∀ n, ((List.range n).filter (isL L)).map (rk L) = List.range (rk L n)
 | 0 => rfl
 | n + 1 => by
  rw [List.range_succ, List.filter_append, List.map_append, rk_range n, rk_succ]
  cases h : isL L n with
  | true => simp [h, List.range_succ]
  | false => simp [h]
def cls (L : List Int) (v : Nat) : Nat := rk L (L.getD v 0).toNat
theorem cls_of {v k : Nat} (e : L[v]? = some (k : Int)) : cls L v = rk L k := by
 unfold cls; rw [List.getD_eq_getElem?_getD, e]; rfl
theorem num_get (h : Lb p L) {v : Nat} (hv : v < p.Min.length) : (numOf L)[v]? = some ((cls L v : Nat) : Int) := by
 obtain ⟨k, e, _, _⟩ := h.ok v hv
 rw [numOf_get, e, cls_of e]; rfl
theorem num_len : (numOf L).length = L.length := by simp [numOf]
theorem rk_mono {a b : Nat} (h : a ≤ b) : rk L a ≤ rk L b := by
 induction h with
 | refl => exact Nat.le_refl _
 | step _ ih => rw [rk_succ]; omega
theorem rk_lt {a b : Nat} (ha : isL L a = true) (h : a < b) : rk L a < rk L b := by
 have h1 := rk_mono (L := L) (show a + 1 ≤ b from h)
 rw [rk_succ, ha] at h1
 simp at h1; omega
theorem cls_lt (h : Lb p L) (hf : Fx p L) {v : Nat} (hv : v < p.Min.length) : cls L v < rk L L.length := by
 obtain ⟨k, e, hk, _⟩ := h.ok v hv
 rw [cls_of e]
 exact rk_lt (decide_eq_true (h.leads hf hv e).1) (by rw [h.len]; omega)
theorem cls_eq (h : Lb p L) (hf : Fx p L) {v i : Nat} (hv : v < p.Min.length) (hi : isL L i = true) : cls L v = rk L i ↔ L[v]? = some (i : Int) := by
 obtain ⟨k, e, hk, _⟩ := h.ok v hv
 have hl : isL L k = true := decide_eq_true (h.leads hf hv e).1
 rw [cls_of e, e]
 constructor
 · intro g
   rcases Nat.lt_trichotomy k i with g1 | g1 | g1
   · have := rk_lt (L := L) hl g1; omega
   · rw [g1]
   · have := rk_lt (L := L) hi g1; omega
 · intro g
   have := Option.some.inj g
   rw [show k = i by omega]
theorem cls_cn (hf : Fx p L) {a b : Nat} (hc : Cn p a b) : cls L a = cls L b := by
 unfold cls
 rw [List.getD_eq_getElem?_getD, List.getD_eq_getElem?_getD, hf.cn hc]
theorem cn_cls (h : Lb p L) (hf : Fx p L) {a b : Nat} (ha : a < p.Min.length) (hb : b < p.Min.length) (e : cls L a = cls L b) : Cn p a b := by
 obtain ⟨k, ek, _, ck⟩ := h.ok b hb
 have hl : isL L k = true := decide_eq_true (h.leads hf hb ek).1
 rw [cls_of ek, cls_eq h hf ha hl] at e
 obtain ⟨k', ek', _, ck'⟩ := h.ok a ha
 rw [ek'] at e
 have : k' = k := by have := Option.some.inj e; omega
 subst this
 exact ck'.trans ck.symm
theorem cls_surj (h : Lb p L) {k : Nat} (hk : k < rk L L.length) : ∃ v, v < p.Min.length ∧ cls L v = k := by
 have h1 : k ∈ ((List.range L.length).filter (isL L)).map (rk L) := by rw [rk_range]; exact List.mem_range.2 hk
 obtain ⟨i, hi, rfl⟩ := List.mem_map.1 h1
 obtain ⟨h2, h3⟩ := List.mem_filter.1 hi
 exact ⟨i, by rw [← h.len]; exact List.mem_range.1 h2, cls_of (of_decide_eq_true h3)⟩
def fl (P : Nat → Bool) (n : Nat) : List Int := ((List.range n).filter P).map fun (v : Nat) => (v : Int)
theorem fl_succ {P : Nat → Bool} {n : Nat} : fl P (n + 1) = fl P n ++ (if P n then [(n : Int)] else []) := by
 unfold fl
 rw [List.range_succ, List.filter_append, List.map_append]
 cases h : P n <;> simp [h]
theorem fl_len {P : Nat → Bool} {n : Nat} : (fl P n).length ≤ n := by
 unfold fl
 rw [List.length_map]
 have := List.length_filter_le P (List.range n)
 simpa using this
theorem fl_mem {P : Nat → Bool} {n : Nat} {x : Int} : x ∈ fl P n ↔ ∃ v : Nat, x = (v : Int) ∧ v < n ∧ P v = true := by
 unfold fl
 simp only [List.mem_map, List.mem_filter, List.mem_range]
 constructor
 · rintro ⟨v, ⟨h1, h2⟩, rfl⟩; exact ⟨v, rfl, h1, h2⟩
 · rintro ⟨v, rfl, h1, h2⟩; exact ⟨v, ⟨h1, h2⟩, rfl⟩
def memb (L : List Int) (k : Nat) : List Int := fl (fun v => decide (cls L v = k)) L.length
def classesOf (L : List Int) : List (List Int) := (List.range (rk L L.length)).map (memb L)
theorem rk_le' : rk L L.length ≤ L.length := rk_le
theorem filter_le {α : Type} {P Q : α → Bool} : ∀ {l : List α}, (∀ x ∈ l, P x = true → Q x = true) → (l.filter P).length ≤ (l.filter Q).length
 | [], _ => Nat.le_refl _
 | x :: l, h => by
  have ih := filter_le (l := l) fun y hy => h y (List.mem_cons_of_mem _ hy)
  have hx := h x List.mem_cons_self
  cases hP : P x <;> cases hQ : Q x <;> simp [List.filter_cons, hP, hQ] <;> first | omega | (rw [hP, hQ] at hx; simp at hx)
theorem filter_lt {α : Type} {P Q : α → Bool} : ∀ {l : List α}, (∀ x ∈ l, P x = true → Q x = true) → (∃ x ∈ l, Q x = true ∧ P x = false) → (l.filter P).length < (l.filter Q).length
 | [], _, h => by obtain ⟨x, hx, _⟩ := h; cases hx
 | x :: l, h, h' => by
  have hl : ∀ y ∈ l, P y = true → Q y = true := fun y hy => h y (List.mem_cons_of_mem _ hy)
  have hx := h x List.mem_cons_self
  obtain ⟨y, hy, h1, h2⟩ := h'
  rcases List.mem_cons.1 hy with rfl | hy
  · have := filter_le hl
    simp [List.filter_cons, h1, h2]; omega
  · have ih := filter_lt hl ⟨y, hy, h1, h2⟩
    cases hP : P x <;> cases hQ : Q x <;> simp [List.filter_cons, hP, hQ] <;> first | omega | (rw [hP, hQ] at hx; simp at hx)
def bad (L s : List Int) (n : Nat) : Nat := ((List.range n).filter fun v => decide (s[v]? ≠ L[v]?)).length
structure Rnd (p : TProb) (L s s' : List Int) : Prop where
 lb : Lb p s'
 keep : ∀ v : Nat, s[v]? = L[v]? → s'[v]? = L[v]?
 edge : ∀ e ∈ p.Same, (s[e.e0.toNat]? = L[e.e0.toNat]? ∨ s[e.e1.toNat]? = L[e.e1.toNat]?) → s'[e.e0.toNat]? = L[e.e0.toNat]? ∧ s'[e.e1.toNat]? = L[e.e1.toNat]?
theorem rnd_bad (h : Lb p L) (hf : Fx p L) (hp : OkP p) {s s' : List Int} (hs : Lb p s) (hr : Rnd p L s s') : bad L s' p.Min.length ≤ bad L s p.Min.length ∧ (0 < bad L s p.Min.length → bad L s' p.Min.length < bad L s p.Min.length) := by
 have key : ∀ v ∈ List.range p.Min.length, decide (s'[v]? ≠ L[v]?) = true → decide (s[v]? ≠ L[v]?) = true := fun v _ g => by
  have g := of_decide_eq_true g
  exact decide_eq_true fun e => g (hr.keep v e)
 refine ⟨filter_le key, fun hb => filter_lt key ?_⟩
 apply Classical.byContradiction
 intro hno
 have hed : ∀ e ∈ p.Same, (s[e.e0.toNat]? = L[e.e0.toNat]? ↔ s[e.e1.toNat]? = L[e.e1.toNat]?) := by
  intro e he
  have hk := hr.edge e he
  have h0 : e.e0.toNat < p.Min.length := by have := (hp.sm e he).1; omega
  have h1 : e.e1.toNat < p.Min.length := by have := (hp.sm e he).2; omega
  constructor
  · intro g
    apply Classical.byContradiction
    intro g'
    exact hno ⟨e.e1.toNat, List.mem_range.2 h1, decide_eq_true g', decide_eq_false fun q => q (hk (.inl g)).2⟩
  · intro g
    apply Classical.byContradiction
    intro g'
    exact hno ⟨e.e0.toNat, List.mem_range.2 h0, decide_eq_true g', decide_eq_false fun q => q (hk (.inr g)).1⟩
 have hcn : ∀ {a b : Nat}, Cn p a b → (s[a]? = L[a]? ↔ s[b]? = L[b]?) := by
  intro a b hc
  induction hc with
  | refl a => exact Iff.rfl
  | edge he => exact hed _ he
  | symm _ ih => exact ih.symm
  | trans _ _ i1 i2 => exact i1.trans i2
 have hall : ∀ v : Nat, v < p.Min.length → s[v]? = L[v]? := by
  intro v hv
  obtain ⟨k, e, hk, hc⟩ := h.ok v hv
  have hlk := (h.leads hf hv e).1
  obtain ⟨q, eq, hq, _⟩ := hs.ok k (by omega)
  have hle := h.le hs hf (show k < p.Min.length by omega) hlk eq
  refine (hcn hc).2 ?_
  rw [eq, hlk, show q = k by omega]
 unfold bad at hb
 rw [List.filter_eq_nil_iff.2 fun v hv => by simp [hall v (List.mem_range.1 hv)]] at hb
 simp at hb
theorem rLeaders_b1_tm (hp : OkP p) : Tm (fun N => loopM (rLeaders_b1 N p) N (([] : List Int), 0)) (fun r => r.length = p.Min.length ∧ ∀ v, v < p.Min.length → r[v]? = some (v : Int)) := by
 have hle := hp.le
 have hlen := hp.len
 refine Tm.up p.Min.length (fun k s => s.2 = (k : Int) ∧ s.1.length = k ∧ ∀ v, v < k → s.1[v]? = some (v : Int)) ⟨rfl, rfl, fun v hv => by omega⟩ ?_
 rintro k hk ⟨s, i⟩ ⟨hi, hsl, hsv⟩
 dsimp only at hi hsl hsv; subst hi
 unfold rLeaders_b1
 dsimp only
 rcases Nat.lt_or_ge k p.Min.length with hlt | hge
 · refine Tm.pos (by omega) ?_
   rw [apnd_ok (by simp; omega) (by decide)]
   refine Tm.some ⟨hlt, iw_n (by omega), by simp [hsl], fun v hv => ?_⟩
   by_cases e : v < k
   · rw [List.getElem?_append_left (by omega)]; exact hsv v e
   · have : v = k := by omega
     subst this
     rw [List.getElem?_append_right (by omega), hsl]; simp
 · exact Tm.neg (by omega) (Tm.some ⟨by omega, fun v hv => hsv v (by omega)⟩)
theorem rLeaders_b3_tm (h : Lb p L) (hf : Fx p L) (hp : OkP p) (hs : p.Same.length ≤ 1000) {s0 : List Int} (h0 : Lb p s0) : Tm (fun N => loopM (rLeaders_b3 N p) N (s0, 0)) (fun r => Rnd p L s0 r) := by
 refine Tm.up p.Same.length (fun k s => s.2 = (k : Int) ∧ Lb p s.1 ∧ (∀ v : Nat, s0[v]? = L[v]? → s.1[v]? = L[v]?) ∧ ∀ j (hj : j < p.Same.length), j < k → (s0[p.Same[j].e0.toNat]? = L[p.Same[j].e0.toNat]? ∨ s0[p.Same[j].e1.toNat]? = L[p.Same[j].e1.toNat]?) → s.1[p.Same[j].e0.toNat]? = L[p.Same[j].e0.toNat]? ∧ s.1[p.Same[j].e1.toNat]? = L[p.Same[j].e1.toNat]?) ⟨rfl, h0, fun v e => e, fun j _ hj => by omega⟩ ?_
 rintro k hk ⟨s, i⟩ ⟨hi, hL, h1, h2⟩
 dsimp only at hi hL h1 h2; subst hi
 unfold rLeaders_b3
 dsimp only
 rcases Nat.lt_or_ge k p.Same.length with hlt | hge
 · obtain ⟨a, b, ea, eb, ha, hb⟩ := same_get hp hlt
   have hl := hL.len
   obtain ⟨x, ex, hx, _⟩ := hL.ok a ha
   obtain ⟨y, ey, hy, _⟩ := hL.ok b hb
   have ea' : p.Same[k].e0.toNat = a := by omega
   have eb' : p.Same[k].e1.toNat = b := by omega
   refine Tm.pos (by omega) (Tm.step (idx_n hlt) (Tm.step (idx_n hlt) ?_))
   rw [ea, eb]
   refine Tm.step (idx_get ex) (Tm.step (idx_get ey) (Tm.step (idx_get ex) ?_))
   rw [imin_n, upd1_i (n := a) rfl (by omega)]
   simp only [Option.bind_some]
   refine Tm.step (idx_n (by rw [List.length_set]; omega)) ?_
   rw [upd1_i (n := b) rfl (by rw [List.length_set]; omega)]
   have hst := hL.step (List.getElem_mem hlt) (x := x) (y := y) (by rw [ea']; exact ha) (by rw [eb']; exact hb) (by rw [ea']; exact ex) (by rw [eb']; exact ey)
   rw [ea', eb'] at hst
   obtain ⟨l, el, _, _⟩ := h.ok a ha
   have eab : L[a]? = L[b]? := by have := hf _ (List.getElem_mem hlt); rwa [ea', eb'] at this
   have elb : L[b]? = some (l : Int) := by rw [← eab]; exact el
   have lx := h.le hL hf ha el ex
   have ly := h.le hL hf hb elb ey
   have hset : ∀ v : Nat, ((s.set a ((min x y : Nat) : Int)).set b ((min x y : Nat) : Int))[v]? = if v = a ∨ v = b then some ((min x y : Nat) : Int) else s[v]? := by
    intro v
    rw [List.getElem?_set]
    by_cases g1 : b = v
    · subst g1; rw [if_pos rfl, if_pos (by rw [List.length_set]; omega), if_pos (.inr rfl)]
    · rw [if_neg g1, List.getElem?_set]
      by_cases g0 : a = v
      · subst g0; rw [if_pos rfl, if_pos (by omega), if_pos (.inl rfl)]
      · rw [if_neg g0, if_neg (by omega)]
   have hmin : s[a]? = L[a]? ∨ s[b]? = L[b]? → min x y = l := by
    rintro (g | g)
    · rw [ex, el] at g; have := Option.some.inj g; omega
    · rw [ey, elb] at g; have := Option.some.inj g; omega
   have hkeep : ∀ v : Nat, s[v]? = L[v]? → ((s.set a ((min x y : Nat) : Int)).set b ((min x y : Nat) : Int))[v]? = L[v]? := by
    intro v g
    rw [hset]
    by_cases g1 : v = a ∨ v = b
    · rw [if_pos g1]
      rcases g1 with rfl | rfl
      · rw [hmin (.inl g), el]
      · rw [hmin (.inr g), elb]
    · rw [if_neg g1]; exact g
   refine Tm.some ⟨hlt, iw_n (by omega), hst, fun v e => hkeep v (h1 v e), fun j hj hjk hor => ?_⟩
   by_cases ejk : j = k
   · subst ejk
     rw [ea', eb'] at hor ⊢
     have hmn := hmin (hor.imp (h1 _) (h1 _))
     show ((s.set a ((min x y : Nat) : Int)).set b ((min x y : Nat) : Int))[a]? = _ ∧ ((s.set a ((min x y : Nat) : Int)).set b ((min x y : Nat) : Int))[b]? = _
     rw [hset, hset, if_pos (.inl rfl), if_pos (.inr rfl), hmn, el, elb]
     exact ⟨rfl, rfl⟩
   · have := h2 j hj (by omega) hor
     exact ⟨hkeep _ this.1, hkeep _ this.2⟩
 · refine Tm.neg (by omega) (Tm.some ⟨hL, h1, fun e he => ?_⟩)
   obtain ⟨j, hj, rfl⟩ := List.getElem_of_mem he
   exact h2 j hj (by omega)
theorem rLeaders_tm (h : Lb p L) (hf : Fx p L) (hp : OkP p) (hs : p.Same.length ≤ 1000) : Tm (fun N => rLeaders N p) (· = L) := by
 have hle := hp.le
 unfold rLeaders
 refine (rLeaders_b1_tm hp).bind fun s0 h0 => ?_
 refine Tm.bind (Q := fun r => r = L) ?_ fun r hr => Tm.some hr
 have hb0 : bad L s0 p.Min.length ≤ p.Min.length := by
  unfold bad
  have := List.length_filter_le (fun v => decide (s0[v]? ≠ L[v]?)) (List.range p.Min.length)
  simpa using this
 refine Tm.up p.Min.length (fun k s => s.2 = (k : Int) ∧ Lb p s.1 ∧ bad L s.1 p.Min.length ≤ p.Min.length - k) ⟨rfl, lb_ids h0.1 h0.2, by simpa using hb0⟩ ?_
 rintro k hk ⟨s, i⟩ ⟨hi, hL, hb⟩
 dsimp only at hi hL hb; subst hi
 have hl := hL.len
 unfold rLeaders_b2
 dsimp only
 rcases Nat.lt_or_ge k p.Min.length with hlt | hge
 · refine Tm.pos (by omega) ((rLeaders_b3_tm h hf hp hs hL).bind fun r hr => ?_)
   have h2 := rnd_bad h hf hp hL hr
   refine Tm.some ⟨hlt, iw_n (by omega), hr.lb, ?_⟩
   show bad L r p.Min.length ≤ _
   by_cases hz : 0 < bad L s p.Min.length
   · have := h2.2 hz; omega
   · have := h2.1; omega
 · refine Tm.neg (by omega) (Tm.some ?_)
   show s = L
   apply List.ext_getElem?
   intro v
   by_cases hv : v < p.Min.length
   · have hz : bad L s p.Min.length = 0 := by omega
     unfold bad at hz
     have := List.filter_eq_nil_iff.1 (List.eq_nil_of_length_eq_zero hz) v (List.mem_range.2 hv)
     simpa using this
   · rw [List.getElem?_eq_none (by omega), List.getElem?_eq_none (by rw [h.len]; omega)]
theorem rClasses_b2_tm {i : Nat} (hn : L.length ≤ 1000) : Tm (fun N => loopM (rClasses_b2 N L (i : Int)) N (([] : List Int), 0)) (· = fl (fun v => decide (L[v]? = some (i : Int))) L.length) := by
 refine Tm.up L.length (fun k s => s.2 = (k : Int) ∧ s.1 = fl (fun v => decide (L[v]? = some (i : Int))) k) ⟨rfl, rfl⟩ ?_
 rintro k hk ⟨s, j⟩ ⟨hi, hs⟩
 dsimp only at hi hs; subst hi; subst hs
 unfold rClasses_b2
 dsimp only
 rcases Nat.lt_or_ge k L.length with hlt | hge
 · have hfl := fl_len (P := fun v => decide (L[v]? = some (i : Int))) (n := k)
   refine Tm.pos (by omega) (Tm.step (idx_n hlt) ?_)
   by_cases e : L[k] = (i : Int)
   · refine Tm.pos e ?_
     rw [apnd_ok (by simp; omega) (by decide)]
     refine Tm.some ⟨hlt, iw_n (by omega), ?_⟩
     rw [fl_succ, List.getElem?_eq_getElem hlt, e]; simp
   · refine Tm.neg e (Tm.some ⟨hlt, iw_n (by omega), ?_⟩)
     rw [fl_succ, List.getElem?_eq_getElem hlt]; simp [e]
 · have : k = L.length := by omega
   subst this
   exact Tm.neg (by omega) (Tm.some rfl)
theorem rClasses_tm (h : Lb p L) (hf : Fx p L) (hp : OkP p) (hs : p.Same.length ≤ 1000) : Tm (fun N => rClasses N p) (· = classesOf L) := by
 have hle := hp.le
 have hl := h.len
 unfold rClasses
 refine (rLeaders_tm h hf hp hs).eq ?_
 refine Tm.bind (Q := fun r => r = classesOf L) ?_ fun r hr => Tm.some hr
 have hlast : ((List.range L.length).filter (isL L)).map (fun (i : Nat) => fl (fun v => decide (L[v]? = some (i : Int))) L.length) = classesOf L := by
  unfold classesOf
  rw [← rk_range, List.map_map]
  apply List.map_congr_left
  intro i hi
  obtain ⟨h1, h2⟩ := List.mem_filter.1 hi
  show fl _ _ = memb L (rk L i)
  unfold memb fl
  congr 1
  apply List.filter_congr
  intro v hv
  exact decide_eq_decide.2 (cls_eq h hf (by rw [← hl]; exact List.mem_range.1 hv) h2).symm
 rw [← hlast]
 refine Tm.up L.length (fun k s => s.2 = (k : Int) ∧ s.1 = ((List.range k).filter (isL L)).map (fun (i : Nat) => fl (fun v => decide (L[v]? = some (i : Int))) L.length)) ⟨rfl, rfl⟩ ?_
 rintro k hk ⟨s, j⟩ ⟨hi, hs⟩
 dsimp only at hi hs; subst hi; subst hs
 unfold rClasses_b1
 dsimp only
 rcases Nat.lt_or_ge k L.length with hlt | hge
 · refine Tm.pos (by omega) (Tm.step (idx_n hlt) ?_)
   have hlen : (((List.range k).filter (isL L)).map (fun (i : Nat) => fl (fun v => decide (L[v]? = some (i : Int))) L.length)).length ≤ k := by
    rw [List.length_map]
    have := List.length_filter_le (isL L) (List.range k)
    simpa using this
   by_cases e : L[k] = (k : Int)
   · refine Tm.neg (fun g => g e) ((rClasses_b2_tm (by omega)).eq ?_)
     rw [apnd_ok (by simp only [List.length_singleton]; omega) (by decide)]
     refine Tm.some ⟨hlt, iw_n (by omega), ?_⟩
     have : isL L k = true := decide_eq_true (by rw [List.getElem?_eq_getElem hlt, e])
     rw [List.range_succ, List.filter_append, List.map_append]
     simp [this]
   · refine Tm.pos e (Tm.some ⟨hlt, iw_n (by omega), ?_⟩)
     have : isL L k = false := decide_eq_false (by rw [List.getElem?_eq_getElem hlt]; intro g; exact e (Option.some.inj g))
     rw [List.range_succ, List.filter_append, List.map_append]
     simp [this]
 · have : k = L.length := by omega
   subst this
   exact Tm.neg (by omega) (Tm.some rfl)
end
end Go.D

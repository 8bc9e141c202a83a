/-
 Classes: the least variable of each one. Plain theorems.
-/
import Derived.Test.YtaakoedphmeenaaK6
set_option linter.unusedSimpArgs false
set_option linter.unusedVariables false
namespace Go.D
open Go Go.X
inductive Cn (p : TProb) : Nat → Nat → Prop
 | refl (a : Nat) : Cn p a a
 | edge {e : Arr2Int} : e ∈ p.Same → Cn p e.e0.toNat e.e1.toNat
 | symm {a b : Nat} : Cn p a b → Cn p b a
 | trans {a b c : Nat} : Cn p a b → Cn p b c → Cn p a c
structure Lb (p : TProb) (L : List Int) : Prop where
 len : L.length = p.Min.length
 ok : ∀ v, v < p.Min.length → ∃ k : Nat, L[v]? = some (k : Int) ∧ k ≤ v ∧ Cn p v k
def Fx (p : TProb) (L : List Int) : Prop := ∀ e ∈ p.Same, L[e.e0.toNat]? = L[e.e1.toNat]?
section
variable {p : TProb} {L L' : List Int}
theorem Fx.cn (h : Fx p L) {a b : Nat} (hc : Cn p a b) : L[a]? = L[b]? := by
 induction hc with
 | refl a => rfl
 | edge he => exact h _ he
 | symm _ ih => exact ih.symm
 | trans _ _ i1 i2 => exact i1.trans i2
theorem Lb.le (h : Lb p L) (h' : Lb p L') (hf : Fx p L) {v k k' : Nat} (hv : v < p.Min.length) (e : L[v]? = some (k : Int)) (e' : L'[v]? = some (k' : Int)) : k ≤ k' := by
 obtain ⟨q, g1, g2, g3⟩ := h'.ok v hv
 rw [e'] at g1
 have : k' = q := by have := Option.some.inj g1; omega
 subst this
 obtain ⟨q2, f1, f2, f3⟩ := h.ok k' (by omega)
 rw [← hf.cn g3, e] at f1
 have := Option.some.inj f1
 omega
theorem Lb.uniq (h : Lb p L) (h' : Lb p L') (hf : Fx p L) (hf' : Fx p L') : L = L' := by
 apply List.ext_getElem?
 intro v
 by_cases hv : v < p.Min.length
 · obtain ⟨k, e, _, _⟩ := h.ok v hv
   obtain ⟨k', e', _, _⟩ := h'.ok v hv
   have h1 := h.le h' hf hv e e'
   have h2 := h'.le h hf' hv e' e
   rw [e, e']
   congr 2
   omega
 · rw [List.getElem?_eq_none (by rw [h.len]; omega), List.getElem?_eq_none (by rw [h'.len]; omega)]
theorem imin_n {x y : Nat} : imin (x : Int) (y : Int) = ((min x y : Nat) : Int) := by
 unfold imin
 by_cases h : y < x
 · rw [if_pos (by omega), Nat.min_eq_right (by omega)]
 · rw [if_neg (by omega), Nat.min_eq_left (by omega)]
theorem Lb.step (h : Lb p L) {e : Arr2Int} (he : e ∈ p.Same) {x y : Nat} (h0 : e.e0.toNat < p.Min.length) (h1 : e.e1.toNat < p.Min.length) (hx : L[e.e0.toNat]? = some (x : Int)) (hy : L[e.e1.toNat]? = some (y : Int)) :
 Lb p ((L.set e.e0.toNat ((min x y : Nat) : Int)).set e.e1.toNat ((min x y : Nat) : Int)) := by
 refine ⟨by rw [List.length_set, List.length_set]; exact h.len, fun v hv => ?_⟩
 have hl := h.len
 obtain ⟨x', gx, hxl, hxc⟩ := h.ok _ h0
 obtain ⟨y', gy, hyl, hyc⟩ := h.ok _ h1
 rw [hx] at gx
 rw [hy] at gy
 have ex : x = x' := by have := Option.some.inj gx; omega
 have ey : y = y' := by have := Option.some.inj gy; omega
 subst ex; subst ey
 have hab : Cn p e.e0.toNat e.e1.toNat := .edge he
 have ha : Cn p e.e0.toNat (min x y) := by
  rcases Nat.le_total x y with g | g
  · rw [Nat.min_eq_left g]; exact hxc
  · rw [Nat.min_eq_right g]; exact hab.trans hyc
 have hb : Cn p e.e1.toNat (min x y) := hab.symm.trans ha
 rw [List.getElem?_set]
 by_cases g1 : e.e1.toNat = v
 · rw [if_pos g1, if_pos (by rw [List.length_set]; omega)]
   exact ⟨min x y, rfl, by omega, g1 ▸ hb⟩
 · rw [if_neg g1, List.getElem?_set]
   by_cases g0 : e.e0.toNat = v
   · rw [if_pos g0, if_pos (by omega)]
     exact ⟨min x y, rfl, by omega, g0 ▸ ha⟩
   · rw [if_neg g0]; exact h.ok v hv
def tot : List Int → Int
 | [] => 0
 | x :: l => x + tot l
theorem tot_set : ∀ {l : List Int} {i : Nat} {x y : Int}, l[i]? = some x → tot (l.set i y) + x = tot l + y
 | [], i, x, y, h => by simp at h
 | z :: l, 0, x, y, h => by
  simp only [List.getElem?_cons_zero, Option.some.injEq] at h
  subst h; simp only [List.set_cons_zero, tot]; omega
 | z :: l, i + 1, x, y, h => by
  have := tot_set (l := l) (i := i) (x := x) (y := y) (by simpa using h)
  simp only [List.set_cons_succ, tot]; omega
theorem tot_nonneg : ∀ {l : List Int}, (∀ x ∈ l, 0 ≤ x) → 0 ≤ tot l
 | [], _ => Int.le_refl _
 | x :: l, h => by
  have := tot_nonneg (l := l) fun y hy => h y (List.mem_cons_of_mem _ hy)
  have := h x List.mem_cons_self
  simp only [tot]; omega
theorem Lb.nn (h : Lb p L) : ∀ x ∈ L, 0 ≤ x := by
 intro x hx
 obtain ⟨i, hi, rfl⟩ := List.getElem_of_mem hx
 obtain ⟨k, e, _, _⟩ := h.ok i (by rw [← h.len]; exact hi)
 rw [List.getElem?_eq_getElem hi] at e
 have := Option.some.inj e
 omega
theorem lb_ids (h : L.length = p.Min.length) (hi : ∀ v, v < p.Min.length → L[v]? = some (v : Int)) : Lb p L := ⟨h, fun v hv => ⟨v, hi v hv, Nat.le_refl _, .refl v⟩⟩
theorem tclasses_b1_tm {m : Nat} (hm : m ≤ 200) {x8 : List Int} (h8 : x8.length = m) : Tm (fun N => loopM (tclasses_b1 N x8) N (x8, 0)) (fun L => L.length = m ∧ ∀ v, v < m → L[v]? = some (v : Int)) := by
 refine Tm.up m (fun k s => s.2 = (k : Int) ∧ s.1.length = m ∧ ∀ v, v < k → s.1[v]? = some (v : Int)) ⟨rfl, h8, fun v hv => by omega⟩ ?_
 rintro k hk ⟨s, i⟩ ⟨hi, hsl, hsv⟩
 dsimp only at hi hsl hsv; subst hi
 unfold tclasses_b1
 rcases Nat.lt_or_ge k m with hlt | hge
 · refine Tm.pos (by omega) (Tm.step (idx_n (by omega)) ?_)
   rw [upd1_i (n := k) rfl (by omega)]
   refine Tm.some ⟨hlt, iw_n (by omega), by rw [List.length_set]; exact hsl, fun v hv => ?_⟩
   rw [List.getElem?_set]
   by_cases e : k = v
   · subst e; rw [if_pos rfl, if_pos (by omega)]
   · rw [if_neg e]; exact hsv v (by omega)
 · refine Tm.neg (by omega) (Tm.some ⟨hsl, fun v hv => hsv v (by omega)⟩)
theorem same_get (hp : OkP p) {k : Nat} (hk : k < p.Same.length) : ∃ a b : Nat, p.Same[k].e0 = (a : Int) ∧ p.Same[k].e1 = (b : Int) ∧ a < p.Min.length ∧ b < p.Min.length := by
 obtain ⟨h1, h2⟩ := hp.sm _ (List.getElem_mem hk)
 obtain ⟨a, e1, ha⟩ := var_n h1
 obtain ⟨b, e2, hb⟩ := var_n h2
 exact ⟨a, b, e1, e2, ha, hb⟩
theorem tclasses_b3_tm (hp : OkP p) (hs : p.Same.length ≤ 1000) (h : Lb p L) : Tm (fun N => loopM (tclasses_b3 N p) N (L, false, 0)) (fun r => Lb p r.1 ∧ (r.2 = true → tot r.1 < tot L) ∧ (r.2 = false → r.1 = L ∧ Fx p L)) := by
 refine Tm.up p.Same.length (fun k s => s.2.2 = (k : Int) ∧ Lb p s.1 ∧ (s.2.1 = true → tot s.1 < tot L) ∧ (s.2.1 = false → s.1 = L ∧ ∀ j (hj : j < p.Same.length), j < k → L[p.Same[j].e0.toNat]? = L[p.Same[j].e1.toNat]?)) ⟨rfl, h, fun e => by simp at e, fun _ => ⟨rfl, fun j _ hj => by omega⟩⟩ ?_
 rintro k hk ⟨s, ch, i⟩ ⟨hi, hL, h1, h2⟩
 dsimp only at hi hL h1 h2; subst hi
 unfold tclasses_b3
 dsimp only
 rcases Nat.lt_or_ge k p.Same.length with hlt | hge
 · obtain ⟨a, b, ea, eb, ha, hb⟩ := same_get hp hlt
   have hl := hL.len
   obtain ⟨x, ex, hx, _⟩ := hL.ok a ha
   obtain ⟨y, ey, hy, _⟩ := hL.ok b hb
   have ea' : p.Same[k].e0.toNat = a := by omega
   have eb' : p.Same[k].e1.toNat = b := by omega
   refine Tm.pos (by omega) (Tm.step (idx_n hlt) ?_)
   rw [ea, eb]
   refine Tm.step (idx_get ex) (Tm.step (idx_get ey) ?_)
   by_cases hxy : (x : Int) ≠ y
   · refine Tm.pos hxy (Tm.step (idx_get ex) (Tm.step (idx_get ey) ?_))
     rw [imin_n, upd1_i (n := a) rfl (by omega)]
     simp only [Option.bind_some]
     refine Tm.step (idx_n (by rw [List.length_set]; omega)) ?_
     rw [upd1_i (n := b) rfl (by rw [List.length_set]; omega)]
     have hst := hL.step (List.getElem_mem hlt) (x := x) (y := y) (by rw [ea']; exact ha) (by rw [eb']; exact hb) (by rw [ea']; exact ex) (by rw [eb']; exact ey)
     rw [ea', eb'] at hst
     refine Tm.some ⟨hlt, iw_n (by omega), hst, fun _ => ?_, fun e => by simp at e⟩
     have hab : a ≠ b := by
      rintro rfl
      rw [ex] at ey
      exact hxy (Option.some.inj ey)
     have t1 := tot_set (y := ((min x y : Nat) : Int)) ex
     have t2 := tot_set (l := s.set a ((min x y : Nat) : Int)) (i := b) (x := (y : Int)) (y := ((min x y : Nat) : Int)) (by rw [List.getElem?_set_ne hab]; exact ey)
     show tot ((s.set a ((min x y : Nat) : Int)).set b ((min x y : Nat) : Int)) < tot L
     have : tot ((s.set a ((min x y : Nat) : Int)).set b ((min x y : Nat) : Int)) < tot s := by omega
     cases ch with
     | true => have := h1 rfl; omega
     | false => rw [(h2 rfl).1] at this ⊢; exact this
   · refine Tm.neg hxy (Tm.some ⟨hlt, iw_n (by omega), hL, h1, fun e => ?_⟩)
     obtain ⟨g1, g2⟩ := h2 e
     refine ⟨g1, fun j hj hjk => ?_⟩
     by_cases ejk : j = k
     · subst ejk
       rw [ea', eb', ← g1]
       show s[a]? = s[b]?
       rw [ex, ey]
       exact congrArg some (Classical.not_not.1 hxy)
     · exact g2 j hj (by omega)
 · refine Tm.neg (by omega) (Tm.some ⟨hL, h1, fun e => ?_⟩)
   obtain ⟨g1, g2⟩ := h2 e
   refine ⟨g1, fun e he => ?_⟩
   obtain ⟨j, hj, rfl⟩ := List.getElem_of_mem he
   exact g2 j hj (by omega)
theorem tclasses_b2_tm (hp : OkP p) (hs : p.Same.length ≤ 1000) (h : Lb p L) : Tm (fun N => loopM (tclasses_b2 N p) N (L, true)) (fun r => Lb p r ∧ Fx p r) := by
 refine Tm.loopG (fun (m : Nat) s => Lb p s.1 ∧ (s.2 = false → Fx p s.1) ∧ m = 2 * (tot s.1).toNat + (if s.2 then 1 else 0)) (fun m => m) _ ⟨h, fun e => by simp at e, rfl⟩ ?_
 rintro m ⟨s, ch⟩ ⟨hL, hF, hm⟩
 dsimp only at hL hF hm
 unfold tclasses_b2
 dsimp only
 cases ch with
 | true =>
  refine Tm.pos rfl ((tclasses_b3_tm hp hs hL).bind fun r hr => ?_)
  obtain ⟨r, c⟩ := r
  obtain ⟨h1, h2, h3⟩ := hr
  refine Tm.some ⟨_, ⟨h1, fun e => ?_, rfl⟩, ?_⟩
  · have := h3 e
    dsimp only at this ⊢
    rw [this.1]; exact this.2
  · subst hm
    have n1 := tot_nonneg h1.nn
    have n2 := tot_nonneg hL.nn
    dsimp only at n1 h2 h3 ⊢
    cases c with
    | true => have := h2 rfl; simp; omega
    | false => rw [(h3 rfl).1]; simp
 | false => exact Tm.neg (by simp) (Tm.some ⟨hL, hF rfl⟩)
def isL (L : List Int) (v : Nat) : Bool := decide (L[v]? = some (v : Int))
def rk (L : List Int) (k : Nat) : Nat := ((List.range k).filter (isL L)).length
theorem rk_succ {k : Nat} : rk L (k + 1) = rk L k + (if isL L k then 1 else 0) := by
 unfold rk
 rw [List.range_succ, List.filter_append, List.length_append]
 cases h : isL L k <;> simp [h]
theorem rk_le {k : Nat} : rk L k ≤ k := by
 unfold rk
 have := List.length_filter_le (isL L) (List.range k)
 simpa using this
def numOf (L : List Int) : List Int := L.map fun k => ((rk L k.toNat : Nat) : Int)
theorem numOf_get {v : Nat} : (numOf L)[v]? = (L[v]?).map fun k => ((rk L k.toNat : Nat) : Int) := by simp [numOf]
theorem Lb.leads (h : Lb p L) (hf : Fx p L) {v k : Nat} (hv : v < p.Min.length) (e : L[v]? = some (k : Int)) : L[k]? = some (k : Int) ∧ k ≤ v := by
 obtain ⟨q, g1, g2, g3⟩ := h.ok v hv
 rw [e] at g1
 have : k = q := by have := Option.some.inj g1; omega
 subst this
 exact ⟨(hf.cn g3).symm.trans e, g2⟩
theorem tclasses_b4_tm (hp : OkP p) (h : Lb p L) (hf : Fx p L) : Tm (fun N => loopM (tclasses_b4 N L) N (List.replicate L.length 0, 0, 0)) (fun r => r.1 = numOf L ∧ r.2 = ((rk L L.length : Nat) : Int)) := by
 have hle := hp.le
 have hlen := h.len
 refine Tm.up L.length (fun k s => s.2.2 = (k : Int) ∧ s.2.1 = ((rk L k : Nat) : Int) ∧ s.1.length = L.length ∧ ∀ v, v < k → s.1[v]? = (numOf L)[v]?) ⟨rfl, rfl, by simp, fun v hv => by omega⟩ ?_
 rintro k hk ⟨s, n, i⟩ ⟨hi, hn, hsl, hsv⟩
 dsimp only at hi hn hsl hsv; subst hi; subst hn
 unfold tclasses_b4
 dsimp only
 rcases Nat.lt_or_ge k L.length with hlt | hge
 · obtain ⟨q, eq, hq, _⟩ := h.ok k (by omega)
   refine Tm.pos (by omega) (Tm.step (idx_get eq) ?_)
   have hrk := rk_le (L := L) (k := k)
   by_cases hqk : (q : Int) = (k : Int)
   · have e1 : isL L k = true := decide_eq_true (by rw [eq, hqk])
     refine Tm.pos hqk (Tm.step (idx_n (by omega)) ?_)
     rw [upd1_i (n := k) rfl (by omega)]
     refine Tm.some ⟨hlt, iw_n (by omega), ?_, by rw [List.length_set]; exact hsl, fun v hv => ?_⟩
     · show iw ((rk L k : Int) + 1) = _
       rw [rk_succ, e1, iw_n (by omega)]; rfl
     · rw [List.getElem?_set]
       by_cases e : k = v
       · subst e
         rw [if_pos rfl, if_pos (by omega), numOf_get, eq, hqk]; rfl
       · rw [if_neg e]; exact hsv v (by omega)
   · have e1 : isL L k = false := decide_eq_false (by rw [eq]; intro hh; exact hqk (Option.some.inj hh))
     obtain ⟨g1, g2⟩ := h.leads hf (by omega) eq
     have hqk' : q < k := by omega
     refine Tm.neg hqk ?_
     have e2 : s[q]? = some ((rk L q : Nat) : Int) := by rw [hsv q hqk', numOf_get, g1]; rfl
     refine Tm.step (idx_get e2) (Tm.step (idx_n (by omega)) ?_)
     rw [upd1_i (n := k) rfl (by omega)]
     refine Tm.some ⟨hlt, iw_n (by omega), ?_, by rw [List.length_set]; exact hsl, fun v hv => ?_⟩
     · show ((rk L k : Nat) : Int) = _
       rw [rk_succ, e1]; rfl
     · rw [List.getElem?_set]
       by_cases e : k = v
       · subst e
         rw [if_pos rfl, if_pos (by omega), numOf_get, eq]; rfl
       · rw [if_neg e]; exact hsv v (by omega)
 · have hk' : k = L.length := by omega
   subst hk'
   refine Tm.neg (by omega) (Tm.some ⟨?_, rfl⟩)
   show s = numOf L
   apply List.ext_getElem?
   intro v
   by_cases hv : v < L.length
   · exact hsv v hv
   · rw [List.getElem?_eq_none (by omega), List.getElem?_eq_none (by simp [numOf]; omega)]
theorem tclasses_tm (hp : OkP p) (hs : p.Same.length ≤ 1000) : Tm (fun N => tclasses N p) (fun r => ∃ L, Lb p L ∧ Fx p L ∧ r.1 = numOf L ∧ r.2 = ((rk L L.length : Nat) : Int)) := by
 have hle := hp.le
 unfold tclasses
 rw [mk1_ok (n := p.Min.length) rfl (by omega) (by decide)]
 simp only [Option.bind_some]
 refine (tclasses_b1_tm (m := p.Min.length) (by omega) (by simp)).bind fun L0 h0 => ?_
 refine (tclasses_b2_tm hp hs (lb_ids h0.1 h0.2)).bind fun L hL => ?_
 have hl := hL.1.len
 rw [mk1_ok (n := L.length) rfl (by omega) (by decide)]
 simp only [Option.bind_some]
 refine (tclasses_b4_tm hp hL.1 hL.2).bind fun r hr => ?_
 obtain ⟨a, b⟩ := r
 exact Tm.some ⟨L, hL.1, hL.2, hr.1, hr.2⟩
theorem lab_ex (hp : OkP p) (hs : p.Same.length ≤ 1000) : ∃ L, Lb p L ∧ Fx p L := by
 obtain ⟨_, _, _, L, h1, h2, _⟩ := (tclasses_tm hp hs).get
 exact ⟨L, h1, h2⟩
end
end Go.D

/-
 The reference's search, and its lengths. Plain theorems.
-/
import Derived.Test.YtaakoedphmeenaaK14
set_option linter.unusedSimpArgs false
set_option linter.unusedVariables false
namespace Go.D
open Go Go.X
section
variable {p : TProb} {L : List Int} {l : List TClass}
def Wk (p : TProb) (L : List Int) (k : Nat) (s : List UInt8) : Bool := (memb L k).all (wB p s)
theorem memb_mem (hL : Lb p L) {k : Nat} {v : Int} : v ∈ memb L k ↔ ∃ q : Nat, v = (q : Int) ∧ q < p.Min.length ∧ cls L q = k := by
 unfold memb
 rw [fl_mem]
 constructor
 · rintro ⟨q, h1, h2, h3⟩; exact ⟨q, h1, by rw [← hL.len]; exact h2, of_decide_eq_true h3⟩
 · rintro ⟨q, h1, h2, h3⟩; exact ⟨q, h1, by rw [hL.len]; exact h2, decide_eq_true h3⟩
theorem Wk_iff (hp : OkP p) (hm : Lms p) (hL : Lb p L) (hF : Fx p L) (hG : Gat p L l) {k : Nat} {c : TClass} (ec : l[k]? = some c) {s : List UInt8} (hs : s.all prn = true) : Wk p L k s = true ↔ s ∈ allw c := by
 have hk : k < rk L L.length := by rw [← hG.len]; exact (List.getElem?_eq_some_iff.1 ec).1
 obtain ⟨c', ec', hC⟩ := hG.ok k hk
 rw [ec] at ec'
 have : c = c' := Option.some.inj ec'
 subst this
 rw [mem_allw (hC.cok hp hm)]
 unfold Wk
 rw [List.all_eq_true]
 have hw : ∀ q : Nat, wB p s (q : Int) = true ↔ (p.Min.getD q 0 ≤ (s.length : Int) ∧ (s.length : Int) ≤ p.Max.getD q 0) ∧ ∀ t ∈ p.Tests, t.Var = (q : Int) → pas t s = true := by
  intro q
  unfold wB
  rw [Bool.and_eq_true, decide_eq_true_eq, Int.toNat_natCast, List.all_eq_true]
  refine and_congr Iff.rfl ⟨fun h t ht e => ?_, fun h t ht => ?_⟩
  · have := h t ht
    rw [decide_eq_true e] at this
    simpa using this
  · by_cases e : t.Var = (q : Int)
    · rw [h t ht e]; simp
    · rw [decide_eq_false e]; simp
 constructor
 · intro h
   have hv : ∀ q, q < p.Min.length → cls L q = k → wB p s (q : Int) = true := fun q hq e => h _ ((memb_mem hL).2 ⟨q, rfl, hq, e⟩)
   obtain ⟨v, hvl, ev⟩ := cls_surj hL hk
   have hmx := hp.mx (p.Max.getD v 0) (by rw [getD_n (by rw [hp.len]; exact hvl)]; exact List.getElem_mem _)
   have h0 := ((hw v).1 (hv v hvl ev)).1
   refine ⟨?_, ?_, hs, ?_⟩
   · rcases hC.lo2 with g | ⟨u, hu, eu, g⟩
     · omega
     · have := ((hw u).1 (hv u hu eu)).1; omega
   · rcases hC.hi2 with g | ⟨u, hu, eu, g⟩
     · omega
     · have := ((hw u).1 (hv u hu eu)).1; omega
   · rw [hC.ts, List.take_length, List.all_eq_true]
     intro t ht
     obtain ⟨ht1, ht2⟩ := List.mem_filter.1 ht
     have hvt := (hp.ts t ht1).2
     exact ((hw t.Var.toNat).1 (hv _ (by omega) (of_decide_eq_true ht2))).2 t ht1 (by omega)
 · rintro ⟨h1, h2, _, h4⟩ v hv
   obtain ⟨q, rfl, hq, eq⟩ := (memb_mem hL).1 hv
   refine (hw q).2 ⟨⟨by have := hC.lo1 q hq eq; omega, by have := hC.hi1 q hq eq; omega⟩, fun t ht e => ?_⟩
   refine List.all_eq_true.1 h4 t ?_
   rw [hC.ts, List.take_length]
   exact List.mem_filter.2 ⟨ht, decide_eq_true (by rw [e, Int.toNat_natCast]; exact eq)⟩
theorem classes_get {k : Nat} (hk : k < rk L L.length) : (classesOf L)[k]? = some (memb L k) := by simp [classesOf, hk]
theorem memb_len (hL : Lb p L) {k : Nat} : (memb L k).length ≤ p.Min.length := by
 rw [← hL.len]; exact fl_len
theorem rWords_k (hp : OkP p) (hm : Lms p) (hL : Lb p L) {k m : Nat} (hmm : m ≤ 1000) : Tm (fun N => rWords N p (memb L k) (m : Int)) (· = ((wl (Wk p L k) 3).take m, rl (Wk p L k) 3)) := by
 have hle := hp.le
 refine rWords_tm hmm fun n hn s hs => ?_
 have h1 := (mem_fr.1 hs).1
 have h2 := memb_len hL (k := k)
 exact rWord_tm hp hm (by omega) (by omega) fun v hv => by
  obtain ⟨q, e, hq, _⟩ := (memb_mem hL).1 hv
  exact ⟨q, e, hq⟩
def tx (p : TProb) (L : List Int) (ws : List (List UInt8)) : List (List UInt8) := (List.range p.Min.length).map fun v => ws.getD (cls L v) []
theorem tx_get {ws : List (List UInt8)} {v : Nat} (h : v < p.Min.length) : (tx p L ws)[v]? = some (ws.getD (cls L v) []) := by simp [tx, h]
def Cpl (p : TProb) (L : List Int) (choices : List (List (List UInt8))) (chosen : List (List UInt8)) : Prop :=
 ∃ es, chosen.length + es.length = rk L L.length ∧ (∀ i, i < es.length → ∃ cl w, choices[chosen.length + i]? = some cl ∧ es[i]? = some w ∧ w ∈ cl) ∧ sat p (tx p L (chosen ++ es)) = true
theorem rTry_b1_tm (hp : OkP p) (hL : Lb p L) (hF : Fx p L) {chosen : List (List UInt8)} (hc : chosen.length = rk L L.length) :
 Tm (fun N => loopM (rTry_b1 N chosen (classesOf L)) N (List.replicate p.Min.length [], 0)) (· = tx p L chosen) := by
 have hle := hp.le
 have hmm := rk_le' (L := L)
 have hll := hL.len
 have hcl : (classesOf L).length = rk L L.length := by simp [classesOf]
 refine Tm.up (rk L L.length) (fun k s => s.2 = (k : Int) ∧ s.1.length = p.Min.length ∧ ∀ v, v < p.Min.length → cls L v < k → s.1[v]? = some (chosen.getD (cls L v) [])) ⟨rfl, by simp, fun v _ h => by omega⟩ ?_
 rintro k hk ⟨s, i⟩ ⟨hi, h1, h2⟩
 dsimp only at hi h1 h2; subst hi
 unfold rTry_b1
 dsimp only
 rcases Nat.lt_or_ge k (rk L L.length) with hlt | hge
 · have eg := classes_get hlt
   refine Tm.pos (by omega) ?_
   refine Tm.bind (Q := fun r => r.length = p.Min.length ∧ ∀ v, v < p.Min.length → cls L v < k + 1 → r[v]? = some (chosen.getD (cls L v) [])) ?_ fun r hr => Tm.some ⟨hlt, iw_n (by omega), hr.1, hr.2⟩
   have hml := memb_len hL (k := k)
   refine Tm.up (memb L k).length (fun j s => s.2 = (j : Int) ∧ s.1.length = p.Min.length ∧ ∀ v, v < p.Min.length → (cls L v < k ∨ (v : Int) ∈ (memb L k).take j) → s.1[v]? = some (chosen.getD (cls L v) [])) ⟨rfl, h1, fun v hv h => h2 v hv (h.resolve_right (by simp))⟩ ?_
   rintro j hj ⟨s, i⟩ ⟨hi, h1, h2⟩
   dsimp only at hi h1 h2; subst hi
   unfold rTry_b2
   dsimp only
   refine Tm.step (idx_get eg) ?_
   rcases Nat.lt_or_ge j (memb L k).length with hjl | hjg
   · obtain ⟨q, eq, hq, hqk⟩ := (memb_mem hL).1 (List.getElem_mem hjl)
     refine Tm.pos (by omega) (Tm.step (idx_get eg) (Tm.step (idx_n hjl) (Tm.step (idx_n (by omega)) ?_)))
     rw [eq]
     refine Tm.step (idx_n (by omega)) ?_
     rw [upd1_i (n := q) rfl (by omega)]
     refine Tm.some ⟨hjl, iw_n (by omega), by rw [List.length_set]; exact h1, fun v hv h => ?_⟩
     show (s.set q _)[v]? = _
     rw [set_get (by omega)]
     by_cases e : q = v
     · subst e
       rw [if_pos rfl, hqk, getD_n (by omega)]
     · rw [if_neg e]
       refine h2 v hv (h.imp id fun h => ?_)
       rw [List.take_succ_eq_append_getElem hjl, List.mem_append, List.mem_singleton, eq] at h
       exact h.resolve_right (by omega)
   · refine Tm.neg (by omega) (Tm.some ⟨h1, fun v hv h => h2 v hv ?_⟩)
     by_cases e : cls L v < k
     · exact .inl e
     · refine .inr ?_
       rw [List.take_of_length_le hjg]
       exact (memb_mem hL).2 ⟨v, rfl, hv, by omega⟩
 · refine Tm.neg (by omega) (Tm.some ?_)
   show s = _
   apply List.ext_getElem?
   intro v
   by_cases hv : v < p.Min.length
   · rw [tx_get hv, h2 v hv (by have := cls_lt hL hF hv; omega)]
   · rw [List.getElem?_eq_none (by omega), List.getElem?_eq_none (by simp [tx]; omega)]
theorem rTry_tm (hp : OkP p) (hl : Lim p) (hL : Lb p L) (hF : Fx p L) {choices : List (List (List UInt8))} (hch : choices.length = rk L L.length) (hcl : ∀ cl ∈ choices, cl.length ≤ 1000 ∧ ∀ w ∈ cl, w.length ≤ 1000) :
 ∀ (j : Nat) (chosen : List (List UInt8)), chosen.length + j = rk L L.length → (∀ w ∈ chosen, w.length ≤ 1000) → Tm (fun N => rTry N p (classesOf L) choices chosen) (fun r => r = true ↔ Cpl p L choices chosen) := by
 have hb : Bg = 9223372036854775807 := rfl
 have hle := hp.le
 have hmm := rk_le' (L := L)
 have hll := hL.len
 have hcll : (classesOf L).length = rk L L.length := by simp [classesOf]
 intro j
 induction j with
 | zero =>
  intro chosen hc hw
  refine Tm.succ (f := fun N => rTry N p (classesOf L) choices chosen) ?_
  show Tm (fun N => rTry_step N (rTry N) p (classesOf L) choices chosen) _
  unfold rTry_step
  refine Tm.pos (by omega) ?_
  rw [mk1_ok (n := p.Min.length) (by rw [hp.len]) (by omega) (by decide)]
  simp only [Option.bind_some]
  refine (rTry_b1_tm hp hL hF (by omega)).eq ?_
  have hx : Lx (tx p L chosen) := by
   refine ⟨by simp [tx]; omega, fun s hs => ?_⟩
   unfold tx at hs
   obtain ⟨v, hv, rfl⟩ := List.mem_map.1 hs
   have := cls_lt hL hF (List.mem_range.1 hv)
   rw [getD_n (by omega)]
   have := hw _ (List.getElem_mem (show cls L v < chosen.length by omega))
   omega
  refine (rSatisfies_tm hp hl hx).eq (Tm.some ?_)
  constructor
  · intro h
    exact ⟨[], by simpa using hc, fun i hi => by simp at hi, by rw [List.append_nil]; exact h⟩
  · rintro ⟨es, h1, _, h3⟩
    have : es = [] := List.eq_nil_of_length_eq_zero (by omega)
    subst this
    rw [List.append_nil] at h3; exact h3
 | succ j ih =>
  intro chosen hc hw
  refine Tm.succ (f := fun N => rTry N p (classesOf L) choices chosen) ?_
  show Tm (fun N => rTry_step N (rTry N) p (classesOf L) choices chosen) _
  unfold rTry_step
  have hcl0 : chosen.length < choices.length := by omega
  obtain ⟨hc1, hc2⟩ := hcl _ (List.getElem_mem hcl0)
  refine Tm.neg (by omega) (Tm.step (idx_n hcl0) ?_)
  obtain ⟨g, hg⟩ : ∃ g : List UInt8 → Bool, ∀ w, g w = true ↔ Cpl p L choices (chosen ++ [w]) := by
   refine ⟨fun w => @decide _ (Classical.propDecidable (Cpl p L choices (chosen ++ [w]))), fun w => ?_⟩
   exact @decide_eq_true_iff _ (Classical.propDecidable _)
  refine (Tm.findL (b := fun N => rTry_b3 N (rTry N) choices chosen (classesOf L) p choices[chosen.length]) choices[chosen.length] g (fun _ => true) (by omega) (fun k hk => ?_) ?_).bind fun o ho => ?_
  · unfold rTry_b3
    refine Tm.pos (by omega) ?_
    rw [apnd_ok (by simp; omega) (by decide)]
    simp only [Option.bind_some, List.nil_append]
    refine Tm.step (idx_n hk) ?_
    rw [apnd_ok (by rw [List.length_singleton]; omega) (by decide)]
    simp only [Option.bind_some]
    refine (ih (chosen ++ [choices[chosen.length][k]]) (by rw [List.length_append, List.length_singleton]; omega) fun w hw' => ?_).bind fun r hr => ?_
    · rcases List.mem_append.1 hw' with h | h
      · exact hw w h
      · rw [List.mem_singleton.1 h]; exact hc2 _ (List.getElem_mem hk)
    · have : r = g choices[chosen.length][k] := by
       rw [Bool.eq_iff_iff, hr, hg]
      subst this
      cases g choices[chosen.length][k] <;> exact Tm.some rfl
  · unfold rTry_b3
    exact Tm.neg (by omega) (Tm.some rfl)
  · have hstep : Cpl p L choices chosen ↔ ∃ w ∈ choices[chosen.length], Cpl p L choices (chosen ++ [w]) := by
     constructor
     · rintro ⟨es, h1, h2, h3⟩
       cases es with
       | nil => simp at h1; omega
       | cons w es =>
        obtain ⟨cl, w', e1, e2, e3⟩ := h2 0 (by simp)
        rw [Nat.add_zero, List.getElem?_eq_getElem hcl0] at e1
        rw [List.getElem?_cons_zero] at e2
        have e1 := Option.some.inj e1
        have e2 := Option.some.inj e2
        subst e1; subst e2
        refine ⟨w, e3, es, by simp at h1 ⊢; omega, fun i hi => ?_, by rw [List.append_assoc]; exact h3⟩
        obtain ⟨cl, w', e1, e2, e3⟩ := h2 (i + 1) (by simp; omega)
        rw [List.getElem?_cons_succ] at e2
        refine ⟨cl, w', ?_, e2, e3⟩
        rw [List.length_append, List.length_singleton, Nat.add_assoc, Nat.add_comm 1 i]; exact e1
     · rintro ⟨w, hwm, es, h1, h2, h3⟩
       refine ⟨w :: es, by simp at h1 ⊢; omega, fun i hi => ?_, by rw [List.append_assoc] at h3; exact h3⟩
       cases i with
       | zero => exact ⟨_, w, by rw [Nat.add_zero]; exact List.getElem?_eq_getElem hcl0, rfl, hwm⟩
       | succ i =>
        obtain ⟨cl, w', e1, e2, e3⟩ := h2 i (by simp at hi; omega)
        refine ⟨cl, w', ?_, by rw [List.getElem?_cons_succ]; exact e2, e3⟩
        rw [List.length_append, List.length_singleton, Nat.add_assoc, Nat.add_comm 1 i] at e1; exact e1
    rcases ho with ⟨h1, rfl⟩ | ⟨k, hk, h1, _, rfl⟩
    · refine Tm.some ⟨fun h => by simp at h, fun h => ?_⟩
      obtain ⟨w, hw', h2⟩ := hstep.1 h
      have := List.any_eq_false.1 h1 w hw'
      exact absurd ((hg w).2 h2) this
    · exact Tm.some ⟨fun _ => hstep.2 ⟨_, List.getElem_mem hk, (hg _).1 h1⟩, fun _ => rfl⟩
theorem rSolvable_tm (hp : OkP p) (hl : Lim p) (hm : Lms p) (h2 : ∀ k ∈ p.Max, k ≤ 2) : Tm (fun N => rSolvable N p) (fun r => r = true ↔ ∃ x, sat p x = true) := by
 have hb : Bg = 9223372036854775807 := rfl
 have hle := hp.le
 obtain ⟨L, hL, hF⟩ := lab_ex hp hm.d
 have hmm := rk_le' (L := L)
 have hll := hL.len
 have hcll : (classesOf L).length = rk L L.length := by simp [classesOf]
 unfold rSolvable
 refine (rClasses_tm hL hF hp hm.d).eq ?_
 let ch := (List.range (rk L L.length)).map fun k => (wl (Wk p L k) 3).take (rk L L.length)
 refine Tm.bind (Q := fun r => r = (List.range (rk L L.length)).map fun k => (wl (Wk p L k) 3).take (rk L L.length)) ?_ fun r hr => ?_
 · refine Tm.up (rk L L.length) (fun k s => s.2 = (k : Int) ∧ s.1 = (List.range k).map fun k => (wl (Wk p L k) 3).take (rk L L.length)) ⟨rfl, rfl⟩ ?_
   rintro k hk ⟨s, i⟩ ⟨hi, hs⟩
   dsimp only at hi hs; subst hi; subst hs
   unfold rSolvable_b1
   dsimp only
   rcases Nat.lt_or_ge k (rk L L.length) with hlt | hge
   · refine Tm.pos (by omega) (Tm.step (idx_get (classes_get hlt)) ?_)
     rw [hcll]
     refine (rWords_k hp hm hL (by omega)).eq ?_
     rw [apnd_ok (by simp; omega) (by decide)]
     refine Tm.some ⟨hlt, iw_n (by omega), ?_⟩
     rw [List.range_succ, List.map_append]; rfl
   · have : k = rk L L.length := by omega
     subst this
     exact Tm.neg (by omega) (Tm.some rfl)
 · have hget : ∀ k, k < rk L L.length → r[k]? = some ((wl (Wk p L k) 3).take (rk L L.length)) := by
    intro k hk; rw [hr]; simp [hk]
   have hrl : r.length = rk L L.length := by rw [hr]; simp
   refine (rTry_tm hp hl hL hF hrl (fun cl hcl => ?_) (rk L L.length) [] (by simp) (fun w hw => by cases hw)).bind fun b hb => Tm.some ?_
   · rw [hr] at hcl
     obtain ⟨k, hk, rfl⟩ := List.mem_map.1 hcl
     refine ⟨by rw [List.length_take]; omega, fun w hw => ?_⟩
     have := (mem_wl.1 (List.mem_of_mem_take hw)).1
     omega
   · rw [hb]
     constructor
     · rintro ⟨es, _, _, h⟩; exact ⟨_, h⟩
     · rintro ⟨x, hx⟩
       obtain ⟨N, r6, _, L', hL', hF', e1, hG, _⟩ := (tgathered_tm hp hm).get
       have : L' = L := hL'.uniq hL hF' hF
       subst this
       obtain ⟨f, hW, _⟩ := sat_split hp hm hL hF hG hx
       have hlen := hG.len
       have hDR : ∀ k q, Df p L' p.Different.length k q → k < rk L' L'.length ∧ q < rk L' L'.length ∧ k ≠ q := by
        rintro k q ⟨e, he, g⟩
        rw [List.take_length] at he
        have hve := hp.df e he
        have g0 := cls_lt hL hF (show e.e0.toNat < p.Min.length by omega)
        have g1 := cls_lt hL hF (show e.e1.toNat < p.Min.length by omega)
        have hne : cls L' e.e0.toNat ≠ cls L' e.e1.toNat := fun h => hW.df e he (by rw [h])
        rcases g with ⟨rfl, rfl⟩ | ⟨rfl, rfl⟩
        · exact ⟨g0, g1, hne⟩
        · exact ⟨g1, g0, fun h => hne h.symm⟩
       have hlc : ∀ k (hk : k < rk L' L'.length), r6.1[k]? = some (r6.1[k]'(by omega)) := fun k hk => List.getElem?_eq_getElem (by omega)
       obtain ⟨g, hg1, hg2⟩ := trunc (m := rk L' L'.length) (D := fun k => wl (Wk p L' k) 3) (nb := fun k => (List.range (rk L' L'.length)).filter fun q => decide (q ≠ k)) (t := fun _ => rk L' L'.length) (R := fun x y => Df p L' p.Different.length x y)
        (fun k => wl_nodup)
        (fun k hk => by
         have := filter_lt (P := fun q => decide (q ≠ k)) (Q := fun _ => true) (l := List.range (rk L' L'.length)) (fun _ _ _ => rfl) ⟨k, List.mem_range.2 hk, rfl, by simp⟩
         rw [List.filter_eq_self.2 fun _ _ => rfl, List.length_range] at this
         exact this)
        (fun x y hxy => by
         obtain ⟨h1, h2, h3⟩ := hDR x y hxy
         exact ⟨List.mem_filter.2 ⟨List.mem_range.2 h2, decide_eq_true fun e => h3 e.symm⟩, hxy.symm, h3⟩)
        (f := f)
        (fun k hk => by
         have ha := hW.mem k _ (hlc k hk)
         obtain ⟨c', ec', hC⟩ := hG.ok k hk
         rw [hlc k hk] at ec'
         have hc' := Option.some.inj ec'
         rw [hc'] at ha
         have hs' := (mem_allw (hC.cok hp hm)).1 ha
         obtain ⟨v, hvl, ev⟩ := cls_surj hL hk
         have hmx := h2 (p.Max.getD v 0) (by rw [getD_n (by rw [hp.len]; exact hvl)]; exact List.getElem_mem _)
         have hh := hC.hi1 v hvl ev
         refine mem_wl.2 ⟨by omega, hs'.2.2.1, (Wk_iff hp hm hL hF hG (c := c') (by rw [hlc k hk, hc']) hs'.2.2.1).2 ha⟩)
        (fun x y hxy => by
         obtain ⟨e, he, h⟩ := hxy
         rw [List.take_length] at he
         have := hW.df e he
         rcases h with ⟨h1, h2⟩ | ⟨h1, h2⟩
         · rw [← h1, ← h2]; exact this
         · rw [← h1, ← h2]; exact fun e => this e.symm)
       refine ⟨(List.range (rk L' L'.length)).map g, by simp, fun i hi => ?_, ?_⟩
       · have hi : i < rk L' L'.length := by simpa using hi
         refine ⟨_, g i, by simpa using hget i hi, by simp [hi], hg1 i hi⟩
       · rw [List.nil_append]
         refine sat_join hp hm hL hF hG (f := g) ⟨fun k c ec => ?_, fun e he => ?_⟩ (by simp [tx]) fun v hv => ?_
         · have hk : k < rk L' L'.length := by rw [← hlen]; exact (List.getElem?_eq_some_iff.1 ec).1
           have hm1 := mem_wl.1 (List.mem_of_mem_take (hg1 k hk))
           exact (Wk_iff hp hm hL hF hG ec hm1.2.1).1 hm1.2.2
         · exact hg2 _ _ ⟨e, by rw [List.take_length]; exact he, .inl ⟨rfl, rfl⟩⟩
         · rw [tx_get hv, List.getD_eq_getElem?_getD]
           have := cls_lt hL hF hv
           simp [this]
end
end Go.D

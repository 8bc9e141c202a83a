/-
 The reference's search, and its lengths. Plain theorems.
-/
import Derived.Test.YtaakoedphmeenaaK14
set_option linter.unusedSimpArgs false
set_option linter.unusedVariables false
namespace Go.D
open Go Go.X
section
variable {p : TProb} {L : List Int} {l : List TClass}
def Wk (p : TProb) (L : List Int) (k : Nat) (s : List UInt8) : Bool := (memb L k).all (wB p s)
theorem memb_mem (hL : Lb p L) {k : Nat} {v : Int} : v ∈ memb L k ↔ ∃ q : Nat, v = (q : Int) ∧ q < p.Min.length ∧ cls L q = k := by
 unfold memb
 rw [fl_mem]
 constructor
 · rintro ⟨q, h1, h2, h3⟩; exact ⟨q, h1, by rw [← hL.len]; exact h2, of_decide_eq_true h3⟩
 · rintro ⟨q, h1, h2, h3⟩; exact ⟨q, h1, by rw [hL.len]; exact h2, decide_eq_true h3⟩
theorem Wk_iff (hp : OkP p) (hm : Lms p) (hL : Lb p L) (hF : Fx p L) (hG : Gat p L l) {k : Nat} {c : TClass} (ec : l[k]? = some c) {s : List UInt8} (hs : s.all prn = true) : Wk p L k s = true ↔ s ∈ allw c := by
 have hk : k < rk L L.length := by rw [← hG.len]; exact (List.getElem?_eq_some_iff.1 ec).1
 obtain ⟨c', ec', hC⟩ := hG.ok k hk
 rw [ec] at ec'
 have : c = c' := Option.some.inj ec'
 subst this
 rw [mem_allw (hC.cok hp hm)]
 unfold Wk
 rw [List.all_eq_true]
 have hw : ∀ q : Nat, wB p s (q : Int) = true ↔ (p.Min.getD q 0 ≤ (s.length : Int) ∧ (s.length : Int) ≤ p.Max.getD q 0) ∧ ∀ t ∈ p.Tests, t.Var = (q : Int) → pas t s = true := by
  intro q
  unfold wB
  rw [Bool.and_eq_true, decide_eq_true_eq, Int.toNat_natCast, List.all_eq_true]
  refine and_congr Iff.rfl ⟨fun h t ht e => ?_, fun h t ht => ?_⟩
  · have := h t ht
    rw [decide_eq_true e] at this
    simpa using this
  · by_cases e : t.Var = (q : Int)
    · rw [h t ht e]; simp
    · rw [decide_eq_false e]; simp
 constructor
 · intro h
   have hv : ∀ q, q < p.Min.length → cls L q = k → wB p s (q : Int) = true := fun q hq e => h _ ((memb_mem hL).2 ⟨q, rfl, hq, e⟩)
   obtain ⟨v, hvl, ev⟩ := cls_surj hL hk
   have hmx := hp.mx (p.Max.getD v 0) (by rw [getD_n (by rw [hp.len]; exact hvl)]; exact List.getElem_mem _)
   have h0 := ((hw v).1 (hv v hvl ev)).1
   refine ⟨?_, ?_, hs, ?_⟩
   · rcases hC.lo2 with g | ⟨u, hu, eu, g⟩
     · omega
     · have := ((hw u).1 (hv u hu eu)).1; omega
   · rcases hC.hi2 with g | ⟨u, hu, eu, g⟩
     · omega
     · have := ((hw u).1 (hv u hu eu)).1; omega
   · rw [hC.ts, List.take_length, List.all_eq_true]
     intro t ht
     obtain ⟨ht1, ht2⟩ := List.mem_filter.1 ht
     have hvt := (hp.ts t ht1).2
     exact ((hw t.Var.toNat).1 (hv _ (by omega) (of_decide_eq_true ht2))).2 t ht1 (by omega)
 · rintro ⟨h1, h2, _, h4⟩ v hv
   obtain ⟨q, rfl, hq, eq⟩ := (memb_mem hL).1 hv
   refine (hw q).2 ⟨⟨by have := hC.lo1 q hq eq; omega, by have := hC.hi1 q hq eq; omega⟩, fun t ht e => ?_⟩
   refine List.all_eq_true.1 h4 t ?_
   rw [hC.ts, List.take_length]
   exact List.mem_filter.2 ⟨ht, decide_eq_true (by rw [e, Int.toNat_natCast]; exact eq)⟩
theorem classes_get {k : Nat} (hk : k < rk L L.length) : (classesOf L)[k]? = some (memb L k) := by simp [classesOf, hk]
theorem memb_len (hL : Lb p L) {k : Nat} : (memb L k).length ≤ p.Min.length := by
 rw [← hL.len]; exact fl_len
theorem rWords_k (hp : OkP p) (hm : Lms p) (hL : Lb p L) {k m : Nat} (hmm : m ≤ 1000) : Tm (fun N => rWords N p (memb L k) (m : Int)) (· = ((wl (Wk p L k) 3).take m, rl (Wk p L k) 3)) := by
 have hle := hp.le
 refine rWords_tm hmm fun n hn s hs => ?_
 have h1 := (mem_fr.1 hs).1
 have h2 := memb_len hL (k := k)
 exact rWord_tm hp hm (by omega) (by omega) fun v hv => by
  obtain ⟨q, e, hq, _⟩ := (memb_mem hL).1 hv
  exact ⟨q, e, hq⟩
theorem rLengths_tm (hp : OkP p) (hm : Lms p) (hL : Lb p L) (hF : Fx p L) {v : Nat} (hv : v < p.Min.length) : Tm (fun N => rLengths N p (v : Int)) (· = rl (Wk p L (cls L v)) 3) := by
 have hb : Bg = 9223372036854775807 := rfl
 have hle := hp.le
 have hmm := rk_le' (L := L)
 have hll := hL.len
 have hcl : (classesOf L).length = rk L L.length := by simp [classesOf]
 have hmem : ∀ i : Nat, (v : Int) ∈ memb L i ↔ cls L v = i := fun i => by
  rw [memb_mem hL]
  constructor
  · rintro ⟨q, e, _, h⟩; have : v = q := by omega
    subst this; exact h
  · intro h; exact ⟨v, rfl, hv, h⟩
 unfold rLengths
 refine (rClasses_tm hL hF hp hm.d).eq ?_
 refine (Tm.findL (b := fun N => rLengths_b1 N p (v : Int) (classesOf L)) (classesOf L) (fun cl => decide ((v : Int) ∈ cl)) (fun k => rl (Wk p L k) 3) (by omega) (fun k hk => ?_) ?_).bind fun o ho => ?_
 · unfold rLengths_b1
   have hk' : k < rk L L.length := by omega
   have eg := classes_get hk'
   have egk : (classesOf L)[k] = memb L k := by rw [List.getElem?_eq_getElem hk] at eg; exact Option.some.inj eg
   have hml := memb_len hL (k := k)
   refine Tm.pos (by omega) ?_
   refine (Tm.findL (b := fun N => rLengths_b2 N p (v : Int) (classesOf L) (k : Int)) (memb L k) (fun y => decide (y = (v : Int))) (fun _ => rl (Wk p L k) 3) (by omega) (fun j hj => ?_) ?_).bind fun o ho => ?_
   · unfold rLengths_b2
     refine Tm.step (idx_get eg) (Tm.pos (by omega) (Tm.step (idx_get eg) (Tm.step (idx_n hj) ?_)))
     by_cases e : (memb L k)[j] = (v : Int)
     · rw [decide_eq_true e]
       exact Tm.pos e (Tm.step (idx_get eg) ((rWords_k hp hm hL (m := 1) (by omega)).eq (Tm.some rfl)))
     · rw [decide_eq_false e]
       exact Tm.neg e (Tm.some rfl)
   · unfold rLengths_b2
     exact Tm.step (idx_get eg) (Tm.neg (by omega) (Tm.some rfl))
   · rcases ho with ⟨h1, rfl⟩ | ⟨j, hj, h1, _, rfl⟩
     · refine Tm.some ?_
       rw [egk, decide_eq_false, if_neg (by simp)]
       intro h
       have := List.any_eq_false.1 h1 _ h
       simp at this
     · refine Tm.some ?_
       rw [egk, decide_eq_true, if_pos rfl]
       rw [← of_decide_eq_true h1]
       exact List.getElem_mem hj
 · unfold rLengths_b1
   exact Tm.neg (by omega) (Tm.some rfl)
 · rcases ho with ⟨h1, rfl⟩ | ⟨k, hk, h1, _, rfl⟩
   · exfalso
     have h2 := cls_lt hL hF hv
     have := List.any_eq_false.1 h1 (memb L (cls L v)) (List.mem_of_getElem? (classes_get h2))
     rw [decide_eq_true ((hmem _).2 rfl)] at this
     simp at this
   · refine Tm.some ?_
     have hk' : k < rk L L.length := by omega
     have eg := classes_get hk'
     rw [List.getElem?_eq_getElem hk] at eg
     rw [Option.some.inj eg] at h1
     rw [(hmem k).1 (of_decide_eq_true h1)]
theorem rLengths_out (hp : OkP p) (hm : Lms p) (hL : Lb p L) (hF : Fx p L) {v : Int} (hv : v < 0 ∨ v ≥ p.Min.length) : Tm (fun N => rLengths N p v) (· = []) := by
 have hb : Bg = 9223372036854775807 := rfl
 have hle := hp.le
 have hmm := rk_le' (L := L)
 have hll := hL.len
 have hcl : (classesOf L).length = rk L L.length := by simp [classesOf]
 unfold rLengths
 refine (rClasses_tm hL hF hp hm.d).eq ?_
 refine (Tm.findL (b := fun N => rLengths_b1 N p v (classesOf L)) (classesOf L) (fun cl => false) (fun k => []) (by omega) (fun k hk => ?_) ?_).bind fun o ho => ?_
 · unfold rLengths_b1
   have hk' : k < rk L L.length := by omega
   have eg := classes_get hk'
   have hml := memb_len hL (k := k)
   refine Tm.pos (by omega) ?_
   refine (Tm.findL (ρ := List Int) (b := fun N => rLengths_b2 N p v (classesOf L) (k : Int)) (memb L k) (fun y => false) (fun _ => []) (by omega) (fun j hj => ?_) ?_).bind fun o ho => ?_
   · unfold rLengths_b2
     refine Tm.step (idx_get eg) (Tm.pos (by omega) (Tm.step (idx_get eg) (Tm.step (idx_n hj) (Tm.neg ?_ (Tm.some rfl)))))
     obtain ⟨q, e, hq, _⟩ := (memb_mem hL).1 (List.getElem_mem hj)
     omega
   · unfold rLengths_b2
     exact Tm.step (idx_get eg) (Tm.neg (by omega) (Tm.some rfl))
   · rcases ho with ⟨h1, rfl⟩ | ⟨j, hj, h1, _, rfl⟩
     · exact Tm.some rfl
     · simp at h1
 · unfold rLengths_b1
   exact Tm.neg (by omega) (Tm.some rfl)
 · rcases ho with ⟨h1, rfl⟩ | ⟨k, hk, h1, _, rfl⟩
   · exact Tm.some rfl
   · simp at h1
theorem lens_eq (hp : OkP p) (hm : Lms p) (hL : Lb p L) (hF : Fx p L) (hG : Gat p L l) (h2 : ∀ k ∈ p.Max, k ≤ 2) {k : Nat} {c : TClass} (ec : l[k]? = some c) : lens c (span c) = rl (Wk p L k) 3 := by
 have hk : k < rk L L.length := by rw [← hG.len]; exact (List.getElem?_eq_some_iff.1 ec).1
 obtain ⟨c', ec', hC⟩ := hG.ok k hk
 rw [ec] at ec'
 have : c = c' := Option.some.inj ec'
 subst this
 have hcok := hC.cok hp hm
 have hp1 : (lens c (span c)).Pairwise (· < ·) := by
  unfold lens
  rw [List.pairwise_map]
  exact (List.pairwise_lt_range.filter _).imp fun h => by omega
 have hp2 : (rl (Wk p L k) 3).Pairwise (· < ·) := by
  unfold rl
  rw [List.pairwise_map]
  exact (List.pairwise_lt_range.filter _).imp fun h => by omega
 have hmem : ∀ x, x ∈ lens c (span c) ↔ x ∈ rl (Wk p L k) 3 := by
  intro x
  rw [mem_lens hcok]
  unfold rl
  simp only [List.mem_map, List.mem_filter, List.mem_range, List.any_eq_true]
  constructor
  · rintro ⟨s, hs, rfl⟩
    have hs' := (mem_allw hcok).1 hs
    obtain ⟨v, hvl, ev⟩ := cls_surj hL hk
    have hmx := h2 (p.Max.getD v 0) (by rw [getD_n (by rw [hp.len]; exact hvl)]; exact List.getElem_mem _)
    have hh := hC.hi1 v hvl ev
    exact ⟨s.length, ⟨by omega, s, mem_fr.2 ⟨rfl, hs'.2.2.1⟩, (Wk_iff hp hm hL hF hG ec hs'.2.2.1).2 hs⟩, rfl⟩
  · rintro ⟨j, ⟨hj, s, hs, hw⟩, rfl⟩
    obtain ⟨g1, g2⟩ := mem_fr.1 hs
    exact ⟨s, (Wk_iff hp hm hL hF hG ec g2).1 hw, by rw [g1]⟩
 have hn1 : (lens c (span c)).Nodup := hp1.imp fun h => Int.ne_of_lt h
 have hn2 : (rl (Wk p L k) 3).Nodup := hp2.imp fun h => Int.ne_of_lt h
 refine List.Perm.eq_of_pairwise (le := (· < ·)) (fun a b _ _ h h' => absurd h (Int.lt_asymm h')) hp1 hp2 ((List.perm_ext_iff_of_nodup hn1 hn2).2 hmem)
end
end Go.D

/-
 The choice of words: a complete search. Plain theorems.
-/
import Derived.Test.YtaakoedphmeenaaK10
set_option linter.unusedSimpArgs false
set_option linter.unusedVariables false
namespace Go.D
open Go Go.X
structure Adj (l : List TClass) : Prop where
 lt : ∀ (k : Nat) (c : TClass), l[k]? = some c → ∀ o ∈ c.apart, ∃ q : Nat, o = (q : Int) ∧ q < l.length ∧ q ≠ k
 symm : ∀ (k : Nat) c (q : Nat) d, l[k]? = some c → l[q]? = some d → (q : Int) ∈ c.apart → (k : Int) ∈ d.apart
def nI (ns : List Nat) : List Int := ns.map fun (n : Nat) => (n : Int)
def Ext (l : List TClass) (ns : List Nat) (words : List (List UInt8)) (known : List Bool) (g : Nat → List UInt8) : Prop :=
 ∀ k ∈ ns, ∃ c, l[k]? = some c ∧ g k ∈ c.words ∧ ∀ q : Nat, (q : Int) ∈ c.apart → (q ∈ ns → g k ≠ g q) ∧ (known[q]? = some true → words[q]? ≠ some (g k))
structure Chosen (l : List TClass) (ns : List Nat) (words : List (List UInt8)) (known : List Bool) (r : Bool × Bool × List (List UInt8) × List Bool) : Prop where
 len : r.2.2.1.length = l.length
 out : ∀ o, o ∉ ns → r.2.2.1[o]? = words[o]?
 yes : r.2.1 = true → r.1 = true ∧ ∀ k ∈ ns, ∃ c w, l[k]? = some c ∧ r.2.2.1[k]? = some w ∧ w ∈ c.words ∧ ∀ q : Nat, (q : Int) ∈ c.apart → (q ∈ ns ∨ known[q]? = some true) → r.2.2.1[q]? ≠ some w
 no : r.2.1 = false → r.2.2.2 = known ∧ ∀ g, ¬ Ext l ns words known g
theorem tchoose1_tm {q : Nat} {ca : List Bool} {cb : List (List UInt8)} {cc : List UInt8} (h : q < ca.length) (h' : q < cb.length) : Tm (fun N => tchoose1 N (q : Int) ca cb cc) (· = (ca.getD q false && decide (cb.getD q [] = cc))) := by
 unfold tchoose1
 refine Tm.step (idx_n h) ?_
 rw [getD_n h, getD_n h']
 cases ca[q] with
 | true => exact Tm.pos rfl (Tm.step (idx_n h') (Tm.some (by simp)))
 | false => exact Tm.neg (by simp) (Tm.some (by simp))
section
variable {l : List TClass}
theorem tchoose_tm (hA : Adj l) (hl : l.length ≤ 1000) (hw : ∀ c ∈ l, c.words.length ≤ 1000 ∧ c.apart.length ≤ 1000) : ∀ (ns : List Nat) (words : List (List UInt8)) (known : List Bool), ns.Nodup → (∀ k ∈ ns, k < l.length ∧ known[k]? = some false) → words.length = l.length → known.length = l.length → ns.length ≤ 1000 →
 Tm (fun N => tchoose N l (nI ns) words known) (Chosen l ns words known) := by
 have hb : Bg = 9223372036854775807 := rfl
 intro ns
 induction ns with
 | nil =>
  intro words known _ _ hwl hkl _
  refine Tm.succ (f := fun N => tchoose N l (nI []) words known) ?_
  show Tm (fun N => tchoose_step N (tchoose N) l (nI []) words known) _
  unfold tchoose_step
  exact Tm.pos rfl (Tm.some ⟨hwl, fun _ _ => rfl, fun _ => ⟨rfl, fun k hk => by cases hk⟩, fun h => by simp at h⟩)
 | cons k rest ih =>
  intro words known hnd hns hwl hkl hlen
  obtain ⟨hkl0, hkf⟩ := hns k List.mem_cons_self
  obtain ⟨hkr, hrn⟩ := List.nodup_cons.1 hnd
  have hlen' : rest.length + 1 ≤ 1000 := by simpa using hlen
  obtain ⟨c, ec⟩ : ∃ c, l[k]? = some c := ⟨_, List.getElem?_eq_getElem hkl0⟩
  obtain ⟨hcw, hca⟩ := hw c (List.mem_of_getElem? ec)
  refine Tm.succ (f := fun N => tchoose N l (nI (k :: rest)) words known) ?_
  show Tm (fun N => tchoose_step N (tchoose N) l (nI (k :: rest)) words known) _
  unfold tchoose_step
  have e0 : idx (nI (k :: rest)) 0 = some (k : Int) := by simp [idx, nI]
  have eln : (List.length (nI (k :: rest)) : Int) = ((rest.length + 1 : Nat) : Int) := by simp [nI]
  rw [eln]
  refine Tm.neg (by omega) (Tm.step e0 (Tm.step (idx_n (by omega)) ?_))
  rw [upd1_i (n := k) rfl (by omega)]
  simp only [Option.bind_some]
  refine Tm.step (idx_get ec) ?_
  have hk1 : ∀ q, (known.set k true)[q]? = if k = q then some true else known[q]? := fun q => set_get (by omega)
  refine Tm.bind (Q := fun o => match o with | .inl s => s.2 = known.set k true ∧ s.1.length = l.length ∧ (∀ o, o ∉ k :: rest → s.1[o]? = words[o]?) ∧ ∀ g, ¬ Ext l (k :: rest) words known g | .inr z => Chosen l (k :: rest) words known z) ?_ fun o ho => ?_
  · refine Tm.up c.words.length (fun i s => s.2.2 = (i : Int) ∧ s.2.1 = known.set k true ∧ s.1.length = l.length ∧ (∀ o, o ∉ k :: rest → s.1[o]? = words[o]?) ∧ ∀ g, Ext l (k :: rest) words known g → ∀ j, j < i → c.words[j]? ≠ some (g k)) ⟨rfl, rfl, hwl, fun _ _ => rfl, fun g _ j hj => by omega⟩ ?_
    rintro i hi ⟨s, kn, ii⟩ ⟨h1, h2, h3, h4, h5⟩
    dsimp only at h1 h2 h3 h4 h5; subst h1; subst h2
    unfold tchoose_b1
    dsimp only
    rcases Nat.lt_or_ge i c.words.length with hlt | hge
    · refine Tm.pos (by omega) (Tm.step (idx_n hlt) (Tm.step (idx_get ec) ?_))
      obtain ⟨w, hwe⟩ : ∃ w, w = c.words[i] := ⟨_, rfl⟩
      rw [← hwe]
      have ewi : c.words[i]? = some w := by rw [List.getElem?_eq_getElem hlt, hwe]
      have hct : Tm (fun N => containsInt N c.apart (fun y => tchoose1 N y (known.set k true) s w)) (· = c.apart.any fun o => (known.set k true).getD o.toNat false && decide (s.getD o.toNat [] = w)) := by
       refine containsInt_tm (f := fun N y => tchoose1 N y (known.set k true) s w) (by omega) fun o ho => ?_
       obtain ⟨q, rfl, hq, _⟩ := hA.lt _ _ ec o ho
       exact tchoose1_tm (by rw [List.length_set]; omega) (by omega)
      refine hct.eq ?_
      cases hany : c.apart.any fun o => (known.set k true).getD o.toNat false && decide (s.getD o.toNat [] = w) with
      | true =>
       refine Tm.pos rfl (Tm.some ⟨hlt, iw_n (by omega), rfl, h3, h4, fun g hg j hj => ?_⟩)
       by_cases ej : j = i
       · subst ej
         rw [ewi]
         intro e
         have e := Option.some.inj e
         obtain ⟨o, ho, h6⟩ := List.any_eq_true.1 hany
         obtain ⟨q, rfl, hq, hqk⟩ := hA.lt _ _ ec o ho
         rw [Bool.and_eq_true, Int.toNat_natCast] at h6
         obtain ⟨h6, h7⟩ := h6
         have h7 := of_decide_eq_true h7
         have h8 : known[q]? = some true := by
          have : (known.set k true)[q]? = some true := by
           rw [List.getD_eq_getElem?_getD] at h6
           rw [List.getElem?_eq_getElem (by rw [List.length_set]; omega)] at h6 ⊢
           simpa using h6
          rw [hk1, if_neg (by omega)] at this
          exact this
         have h9 : q ∉ k :: rest := fun hm => by
          have := (hns q hm).2
          rw [h8] at this; simp at this
         have h10 : words[q]? = some w := by
          rw [← h4 q h9]
          rw [getD_n (by omega)] at h7
          rw [List.getElem?_eq_getElem (by omega), h7]
         obtain ⟨c', ec', _, h11⟩ := hg k List.mem_cons_self
         rw [ec] at ec'
         have : c = c' := Option.some.inj ec'
         subst this
         exact (h11 q ho).2 h8 (by rw [h10, e])
       · exact h5 g hg j (by omega)
      | false =>
       refine Tm.neg (by simp) (Tm.step (idx_n (by omega)) ?_)
       rw [upd1_i (n := k) rfl (by omega)]
       simp only [Option.bind_some]
       have ecut : cut (nI (k :: rest)) 1 ((rest.length + 1 : Nat) : Int) = some (nI rest) := by
        refine (cut_i (xs := nI (k :: rest)) (i := 1) (m := 1) (n := rest.length + 1) rfl rfl (by omega) (by simp [nI])).trans ?_
        simp [nI]
        exact List.take_of_length_le (by simp)
       rw [eln, ecut]
       simp only [Option.bind_some]
       have hself := ih (s.set k w) (known.set k true) hrn (fun q hq => ⟨(hns q (List.mem_cons_of_mem _ hq)).1, by
        rw [hk1, if_neg (fun e => hkr (by rw [e]; exact hq))]; exact (hns q (List.mem_cons_of_mem _ hq)).2⟩) (by rw [List.length_set]; omega) (by rw [List.length_set]; omega) (by omega)
       refine hself.bind fun r hr => ?_
       have hsk : ∀ q, (s.set k w)[q]? = if k = q then some w else s[q]? := fun q => set_get (by omega)
       obtain ⟨al, okk, rw', rk'⟩ := r
       cases okk with
       | true =>
        obtain ⟨y1, y2⟩ := hr.yes rfl
        have y3 := hr.out
        have y4 := hr.len
        dsimp only at y1 y2 y3 y4
        subst y1
        refine Tm.pos rfl (Tm.some ?_)
        have hkw : rw'[k]? = some w := by rw [y3 k hkr, hsk, if_pos rfl]
        have hout : ∀ o, o ∉ k :: rest → rw'[o]? = words[o]? := by
         intro o ho
         rw [y3 o (fun h => ho (List.mem_cons_of_mem _ h)), hsk, if_neg (fun e => ho (by rw [e]; exact List.mem_cons_self))]
         exact h4 o ho
        refine ⟨y4, hout, fun _ => ⟨rfl, fun x hx => ?_⟩, fun h => by simp at h⟩
        rcases List.mem_cons.1 hx with rfl | hx
        · refine ⟨c, w, ec, hkw, by rw [hwe]; exact List.getElem_mem _, fun q hq hor => ?_⟩
          obtain ⟨q', eq', hql, hqk⟩ := hA.lt _ _ ec _ hq
          have : q = q' := by omega
          subst this
          show rw'[q]? ≠ some w
          rcases hor with hin | hkn
          · rcases List.mem_cons.1 hin with e | hin
            · exact absurd e hqk
            · obtain ⟨c', w', ec', ew', _, h12⟩ := y2 q hin
              have h13 := h12 x (hA.symm _ _ _ _ ec ec' hq) (.inr (by rw [hk1, if_pos rfl]))
              rw [ew']
              intro e
              rw [← e] at hkw
              exact h13 hkw
          · have h9 : q ∉ x :: rest := fun hm => by
             have := (hns q hm).2
             rw [hkn] at this; simp at this
            rw [hout q h9, ← h4 q h9]
            intro e
            have hq1 : (known.set x true).getD q false = true := by
             rw [List.getD_eq_getElem?_getD, hk1, if_neg (by omega), hkn]; rfl
            have := List.any_eq_false.1 hany _ hq
            rw [Int.toNat_natCast, hq1, List.getD_eq_getElem?_getD, e] at this
            simp at this
        · obtain ⟨c', w', ec', ew', hm', h12⟩ := y2 x hx
          refine ⟨c', w', ec', ew', hm', fun q hq hor => h12 q hq ?_⟩
          rcases hor with hin | hkn
          · rcases List.mem_cons.1 hin with rfl | hin
            · exact .inr (by rw [hk1, if_pos rfl])
            · exact .inl hin
          · refine .inr ?_
            rw [hk1]
            by_cases e : k = q
            · rw [if_pos e]
            · rw [if_neg e]; exact hkn
       | false =>
        obtain ⟨n1, n2⟩ := hr.no rfl
        have y3 := hr.out
        have y4 := hr.len
        dsimp only at n1 n2 y3 y4
        subst n1
        refine Tm.neg (by simp) (Tm.some ⟨hlt, iw_n (by omega), rfl, y4, fun o ho => ?_, fun g hg j hj => ?_⟩)
        · show rw'[o]? = _
          rw [y3 o (fun h => ho (List.mem_cons_of_mem _ h)), hsk, if_neg (fun e => ho (by rw [e]; exact List.mem_cons_self))]
          exact h4 o ho
        · by_cases ej : j = i
          · subst ej
            rw [ewi]
            intro e
            have e := Option.some.inj e
            refine n2 g fun x hx => ?_
            obtain ⟨c', ec', hm', h12⟩ := hg x (List.mem_cons_of_mem _ hx)
            refine ⟨c', ec', hm', fun q hq => ⟨fun hin => (h12 q hq).1 (List.mem_cons_of_mem _ hin), fun hkn => ?_⟩⟩
            rw [hk1] at hkn
            rw [hsk]
            by_cases ekq : k = q
            · subst ekq
              rw [if_pos rfl]
              intro e'
              exact (h12 k hq).1 List.mem_cons_self (by rw [← e]; exact (Option.some.inj e').symm)
            · rw [if_neg ekq] at hkn ⊢
              have h9 : q ∉ k :: rest := fun hm => by
               have := (hns q hm).2
               rw [hkn] at this; simp at this
              rw [h4 q h9]
              exact (h12 q hq).2 hkn
          · exact h5 g hg j (by omega)
    · have : i = c.words.length := by omega
      subst this
      refine Tm.neg (by omega) (Tm.some ⟨rfl, h3, h4, fun g hg => ?_⟩)
      obtain ⟨c', ec', hm', _⟩ := hg k List.mem_cons_self
      rw [ec] at ec'
      have : c = c' := Option.some.inj ec'
      subst this
      obtain ⟨j, hj, e⟩ := List.getElem_of_mem hm'
      exact h5 g hg j hj (by rw [List.getElem?_eq_getElem hj, e])
  · cases o with
    | inl s =>
     obtain ⟨s, kn⟩ := s
     obtain ⟨g1, g2, g3, g4⟩ := ho
     dsimp only at g1 g2 g3 g4 ⊢
     subst g1
     refine Tm.step (idx_n (by rw [List.length_set]; omega)) ?_
     rw [upd1_i (n := k) rfl (by rw [List.length_set]; omega)]
     refine Tm.some ⟨g2, g3, fun h => by simp at h, fun _ => ⟨?_, g4⟩⟩
     show (known.set k true).set k false = known
     apply List.ext_getElem?
     intro q
     rw [List.set_set, set_get (by omega)]
     by_cases e : k = q
     · subst e; rw [if_pos rfl, hkf]
     · rw [if_neg e]
    | inr z => exact Tm.some ho
end
end Go.D

/-
  The complement of an automaton; the law Not of chapter 20. Plain theorems.
-/
import Derived.Test.YtckhldmpcddjmaaDoorK4
set_option linter.unusedVariables false
set_option linter.unusedSimpArgs false
namespace Go.D
open Go Go.X

theorem map_take_succ {α β : Type} {f : α → β} {l : List α} {k : Nat} (h : k < l.length) : (l.take (k + 1)).map f = (l.take k).map f ++ [f l[k]] := by
  rw [List.take_add_one, List.getElem?_eq_getElem h]
  show List.map f (l.take k ++ [l[k]]) = _
  rw [List.map_append]; rfl
/-! ## The edges that are missing -/
def comp (sink : Int) : Int → List AEdge → List AEdge
  | next, [] => if next ≤ 126 then [⟨next, 126, sink⟩] else []
  | next, e :: l => if next < e.Low then ⟨next, e.Low - 1, sink⟩ :: e :: comp sink (e.High + 1) l else e :: comp sink (e.High + 1) l
theorem comp_lt {sink next : Int} {e : AEdge} {l : List AEdge} (h : next < e.Low) : comp sink next (e :: l) = ⟨next, e.Low - 1, sink⟩ :: e :: comp sink (e.High + 1) l := if_pos h
theorem comp_ge {sink next : Int} {e : AEdge} {l : List AEdge} (h : ¬ next < e.Low) : comp sink next (e :: l) = e :: comp sink (e.High + 1) l := if_neg h
theorem comp_nil1 {sink next : Int} (h : next ≤ 126) : comp sink next [] = [⟨next, 126, sink⟩] := if_pos h
theorem comp_nil2 {sink next : Int} (h : ¬ next ≤ 126) : comp sink next [] = [] := if_neg h
theorem stepE_low {n : Int} : ∀ {b c : Int} {l : List AEdge}, okE n b l = true → c ≤ b → stepE l c = -1
  | b, c, [], _, _ => rfl
  | b, c, e :: l, h, hc => by
    obtain ⟨⟨h1, h2, _⟩, h6⟩ := okE_cons.1 h
    unfold stepE
    rw [if_neg (by omega)]
    exact stepE_low h6 (by omega)
theorem stepE_hit {e : AEdge} {l : List AEdge} {c : Int} (h1 : e.Low ≤ c) (h2 : c ≤ e.High) : stepE (e :: l) c = e.To := if_pos ⟨h1, h2⟩
theorem stepE_miss {e : AEdge} {l : List AEdge} {c : Int} (h : ¬ (e.Low ≤ c ∧ c ≤ e.High)) : stepE (e :: l) c = stepE l c := if_neg h
theorem comp_step {n sink : Int} : ∀ {next c : Int} {l : List AEdge}, okE n (next - 1) l = true → next ≤ c → c ≤ 126 → stepE (comp sink next l) c = if stepE l c = -1 then sink else stepE l c
  | next, c, [], _, h1, h2 => by
    unfold comp
    rw [if_pos (by omega)]
    simp [stepE, h1, h2]
  | next, c, e :: l, h, h1, h2 => by
    obtain ⟨⟨g1, g2, g3, g4, g5⟩, h6⟩ := okE_cons.1 h
    have tail : e.Low ≤ c → stepE (e :: comp sink (e.High + 1) l) c = if stepE (e :: l) c = -1 then sink else stepE (e :: l) c := by
      intro hc
      by_cases hh : c ≤ e.High
      · rw [stepE_hit hc hh, stepE_hit hc hh, if_neg (by omega)]
      · rw [stepE_miss (fun x => hh x.2), stepE_miss (fun x => hh x.2)]
        refine comp_step (n := n) ?_ (by omega) h2
        rw [show e.High + 1 - 1 = e.High by omega]; exact h6
    unfold comp
    by_cases hn : next < e.Low
    · rw [if_pos hn]
      by_cases hc : c < e.Low
      · rw [show stepE (⟨next, e.Low - 1, sink⟩ :: e :: comp sink (e.High + 1) l) c = sink by unfold stepE; rw [if_pos ⟨h1, by show c ≤ e.Low - 1; omega⟩]]
        rw [stepE_low (b := c) (n := n) (l := e :: l) (okE_cons.2 ⟨⟨by omega, g2, g3, g4, g5⟩, h6⟩) (Int.le_refl _), if_pos rfl]
      · rw [show stepE (⟨next, e.Low - 1, sink⟩ :: e :: comp sink (e.High + 1) l) c = stepE (e :: comp sink (e.High + 1) l) c by
          rw [stepE]; rw [if_neg (fun x => by have : c ≤ e.Low - 1 := x.2; omega)]]
        exact tail (by omega)
    · rw [if_neg hn]
      exact tail (by omega)
theorem comp_ok {n m sink : Int} (hm : n ≤ m) (hs : 0 ≤ sink) (hs2 : sink < m) : ∀ {next : Int} {l : List AEdge}, okE n (next - 1) l = true → okE m (next - 1) (comp sink next l) = true
  | next, [], _ => by
    unfold comp
    split
    · exact okE_cons.2 ⟨⟨by dsimp only; omega, by dsimp only; omega, by dsimp only; omega, hs, hs2⟩, rfl⟩
    · rfl
  | next, e :: l, h => by
    obtain ⟨⟨g1, g2, g3, g4, g5⟩, h6⟩ := okE_cons.1 h
    have ih : okE m e.High (comp sink (e.High + 1) l) = true := by
      have := comp_ok hm hs hs2 (next := e.High + 1) (l := l) (by rw [show e.High + 1 - 1 = e.High by omega]; exact h6)
      rwa [show e.High + 1 - 1 = e.High by omega] at this
    unfold comp
    split
    · exact okE_cons.2 ⟨⟨by dsimp only; omega, by dsimp only; omega, by dsimp only; omega, hs, hs2⟩, okE_cons.2 ⟨⟨by dsimp only; omega, g2, g3, g4, by omega⟩, ih⟩⟩
    · exact okE_cons.2 ⟨⟨g1, g2, g3, g4, by omega⟩, ih⟩
/-- an edge that leads nowhere new is one of the old ones -/
theorem comp_old {sink : Int} : ∀ {next : Int} {l : List AEdge} {e : AEdge}, e ∈ comp sink next l → e.To = sink ∨ e ∈ l
  | next, [], e, h => by
    unfold comp at h
    split at h
    · rw [List.mem_singleton.1 h]; exact .inl rfl
    · cases h
  | next, x :: l, e, h => by
    have rest : e ∈ x :: comp sink (x.High + 1) l → e.To = sink ∨ e ∈ x :: l := fun h => by
      rcases List.mem_cons.1 h with rfl | h
      · exact .inr List.mem_cons_self
      · rcases comp_old h with h | h
        · exact .inl h
        · exact .inr (List.mem_cons_of_mem _ h)
    unfold comp at h
    split at h
    · rcases List.mem_cons.1 h with rfl | h
      · exact .inl rfl
      · exact rest h
    · exact rest h
theorem aCompleted_tm {n : Int} {l : List AEdge} {sink : Int} (h : okE n 31 l = true) : Tm (fun N => aCompleted N l sink) (· = comp sink 32 l) := by
  unfold aCompleted
  have hlen := okE_len h
  have loop : Tm (fun N => loopM (aCompleted_b1 N l sink) N (([] : List AEdge), 32, 0)) (fun r => r.1 ++ comp sink r.2 [] = comp sink 32 l ∧ r.1.length ≤ 200) := by
    refine Tm.up l.length (fun k s => s.2.2 = (k : Int) ∧ s.1.length ≤ 2 * k ∧ okE n (s.2.1 - 1) (l.drop k) = true ∧ 32 ≤ s.2.1 ∧ s.2.1 ≤ 127 ∧ s.1 ++ comp sink s.2.1 (l.drop k) = comp sink 32 l) ⟨rfl, by simp, h, by decide, by decide, by simp⟩ ?_
    rintro k hk ⟨o, nxt, i⟩ ⟨hi, hol, hok, hn1, hn2, ho⟩
    dsimp only at hi hol hok hn1 hn2 ho; subst hi
    unfold aCompleted_b1
    rcases Nat.lt_or_ge k l.length with hlt | hge
    · rw [List.drop_eq_getElem_cons hlt] at hok ho
      obtain ⟨⟨g1, g2, g3, g4, g5⟩, h6⟩ := okE_cons.1 hok
      refine Tm.pos (by omega) (Tm.step (idx_n hlt) ?_)
      have e1 : uw8 (l[k].Low - 1) = l[k].Low - 1 := uw8_eq (by omega) (by omega)
      have e2 : uw8 (l[k].High + 1) = l[k].High + 1 := uw8_eq (by omega) (by omega)
      rw [e1, e2]
      have hk6 : okE n (l[k].High + 1 - 1) (l.drop (k + 1)) = true := by rw [show l[k].High + 1 - 1 = l[k].High by omega]; exact h6
      by_cases hg : nxt < l[k].Low
      · rw [if_pos hg]
        rw [comp_lt hg] at ho
        have a1 : apnd 16 o [(⟨nxt, l[k].Low - 1, sink⟩ : AEdge)] = some (o ++ [⟨nxt, l[k].Low - 1, sink⟩]) := apnd_ok (by simp; omega) (by decide)
        simp only [a1, Option.bind_some]
        refine Tm.step (apnd_ok (by simp; omega) (by decide)) (Tm.some ⟨hlt, iw_n (by omega), ?_, hk6, ?_, ?_, ?_⟩)
        · simp; omega
        · show 32 ≤ l[k].High + 1; omega
        · show l[k].High + 1 ≤ 127; omega
        · rw [← ho]; simp
      · rw [if_neg hg]
        simp only [Option.bind_some]
        rw [comp_ge hg] at ho
        refine Tm.step (apnd_ok (by simp; omega) (by decide)) (Tm.some ⟨hlt, iw_n (by omega), ?_, hk6, ?_, ?_, ?_⟩)
        · simp; omega
        · show 32 ≤ l[k].High + 1; omega
        · show l[k].High + 1 ≤ 127; omega
        · rw [← ho]; simp
    · refine Tm.neg (by omega) (Tm.some ⟨?_, ?_⟩)
      · rw [List.drop_eq_nil_of_le hge] at ho; exact ho
      · show o.length ≤ 200; omega
  refine loop.bind fun r hr => ?_
  obtain ⟨o, nxt⟩ := r
  obtain ⟨ho, hol⟩ := hr
  dsimp only at ho hol ⊢
  refine Tm.ite (fun hc => ?_) (fun hc => ?_)
  · rw [comp_nil1 hc] at ho
    exact Tm.step (apnd_ok (by simp; omega) (by decide)) (Tm.some ho)
  · rw [comp_nil2 hc, List.append_nil] at ho
    exact Tm.some ho
theorem containsEdge_tm {l : List AEdge} (hl : l.length ≤ 9223372036854775807) {f : Nat → AEdge → Option Bool} {g : AEdge → Bool} (hf : ∀ e ∈ l, Tm (fun N => f N e) (· = g e)) : Tm (fun N => containsEdge N l (f N)) (· = l.any g) := by
  unfold containsEdge
  have ix : Tm (fun N => indexEdge N l (f N)) (fun r => (r = -1 ∧ l.any g = false) ∨ (0 ≤ r ∧ l.any g = true)) := by
    unfold indexEdge
    have loop : Tm (fun N => loopM (indexEdge_b1 N (f N) l) N 0) (fun r => (r = Sum.inl () ∧ l.any g = false) ∨ ∃ j : Int, r = Sum.inr j ∧ 0 ≤ j ∧ l.any g = true) := by
      refine Tm.up l.length (fun k i => i = (k : Int) ∧ l.any g = (l.drop k).any g) ⟨rfl, by simp⟩ ?_
      rintro k hk i ⟨rfl, ho⟩
      unfold indexEdge_b1
      rcases Nat.lt_or_ge k l.length with hlt | hge
      · rw [List.drop_eq_getElem_cons hlt, List.any_cons] at ho
        refine Tm.pos (by omega) (Tm.step (idx_n hlt) ((hf _ (List.getElem_mem hlt)).eq ?_))
        refine Tm.ite (fun hg => Tm.some (.inr ⟨_, rfl, by omega, by rw [ho, hg]; rfl⟩)) (fun hg => Tm.some ⟨hlt, iw_n (by omega), ?_⟩)
        have : g l[k] = false := by simpa using hg
        rw [ho, this, Bool.false_or]
      · refine Tm.neg (by omega) (Tm.some (.inl ⟨rfl, ?_⟩))
        rw [ho, List.drop_eq_nil_of_le hge]; rfl
    refine loop.bind fun r hr => ?_
    rcases hr with ⟨rfl, h⟩ | ⟨j, rfl, h⟩
    · exact Tm.some (.inl ⟨rfl, h⟩)
    · exact Tm.some (.inr h)
  refine ix.bind fun r hr => Tm.some ?_
  rcases hr with ⟨rfl, h⟩ | ⟨h1, h⟩
  · show decide _ = _
    rw [h]; rfl
  · show decide _ = _
    rw [h]; exact decide_eq_true h1

/-! ## The complement -/
def holes (d : ADfa) (k : Nat) : Bool := (d.Edges.take k).any fun l => (comp d.Accept.length 32 l).any fun e => decide (e.To = (d.Accept.length : Int))
def notD (d : ADfa) : ADfa :=
  if holes d d.Edges.length then ⟨d.Accept.map (! ·) ++ [true], d.Edges.map (comp d.Accept.length 32) ++ [[⟨32, 126, d.Accept.length⟩]]⟩
  else ⟨d.Accept.map (! ·), d.Edges.map (comp d.Accept.length 32)⟩
theorem comp_len {n : Int} {l : List AEdge} {sink : Int} (h : okE n 31 l = true) (hs : 0 ≤ sink) : (comp sink 32 l).length ≤ 95 := by
  have h1 := comp_ok (m := max n (sink + 1)) (Int.le_max_left _ _) hs (by have := Int.le_max_right n (sink + 1); omega) (next := 32) (l := l) h
  have := okE_len h1
  omega
theorem aNot_tm {d : ADfa} (hd : okD d = true) (hn : d.Accept.length ≤ 4095) : Tm (fun N => aNot N d) (· = (notD d, 0)) := by
  unfold aNot
  obtain ⟨h1, h2, h3, h4⟩ := okD_iff.1 hd
  have loop : Tm (fun N => loopM (aNot_b1 N d) N (([] : List Bool), ([] : List (List AEdge)), false, 0)) (· = (d.Accept.map (! ·), d.Edges.map (comp d.Accept.length 32), holes d d.Edges.length)) := by
    refine Tm.up d.Edges.length (fun k s => s = ((d.Accept.take k).map (! ·), (d.Edges.take k).map (comp d.Accept.length 32), holes d k, (k : Int))) (by simp [holes]) ?_
    rintro k hk s rfl
    unfold aNot_b1
    rcases Nat.lt_or_ge k d.Edges.length with hlt | hge
    · have hlt' : k < d.Accept.length := by omega
      refine Tm.pos (by omega) (Tm.step (idx_n hlt) (Tm.step (idx_n hlt') ?_))
      have hok := h4 _ (List.getElem_mem hlt)
      have e1 : apnd 1 ((d.Accept.take k).map (! ·)) [!d.Accept[k]] = some ((d.Accept.take (k + 1)).map (! ·)) := by
        rw [apnd_ok (by simp; omega) (by decide), map_take_succ hlt']
      have hL : ((d.Edges.take k).map (comp d.Accept.length 32)).length = k := by simp; omega
      have e2 : apnd 24 ((d.Edges.take k).map (comp d.Accept.length 32)) [[]] = some ((d.Edges.take k).map (comp d.Accept.length 32) ++ [[]]) := apnd_ok (by rw [hL]; simp; omega) (by decide)
      simp only [e1, e2, Option.bind_some]
      refine (aCompleted_tm hok).eq ?_
      have hset : ((d.Edges.take k).map (comp d.Accept.length 32) ++ [[]]).set k (comp d.Accept.length 32 d.Edges[k]) = (d.Edges.take (k + 1)).map (comp d.Accept.length 32) := by
        rw [List.set_append_right _ _ (by omega), hL, Nat.sub_self, map_take_succ hlt]; rfl
      refine Tm.step (idx_i (n := k) rfl (by rw [List.length_append, hL]; simp)) (Tm.step (upd1_i (n := k) rfl (by rw [List.length_append, hL]; simp)) ?_)
      rw [hset]
      have hh : holes d (k + 1) = (holes d k || (comp d.Accept.length 32 d.Edges[k]).any fun e => decide (e.To = (d.Accept.length : Int))) := by
        unfold holes
        rw [List.take_add_one, List.getElem?_eq_getElem hlt, List.any_append]; simp
      refine Tm.ite (fun hp => Tm.some ⟨hlt, ?_⟩) (fun hp => ?_)
      · rw [iw_n (by omega), hh, hp]; rfl
      · have hp' : holes d k = false := by simpa using hp
        have hg : ((d.Edges.take (k + 1)).map (comp d.Accept.length 32))[k]? = some (comp d.Accept.length 32 d.Edges[k]) := by
          rw [List.getElem?_map, List.getElem?_take_of_lt (by omega), List.getElem?_eq_getElem hlt]; rfl
        refine Tm.step (idx_get hg) ((containsEdge_tm (by have := comp_len (sink := d.Accept.length) hok (by omega); omega) (f := fun N y => aNot1 N y (d.Accept.length : Int)) (g := fun e => decide (e.To = (d.Accept.length : Int))) (fun e _ => Tm.some rfl)).eq (Tm.some ⟨hlt, ?_⟩))
        rw [iw_n (by omega), hh, hp', Bool.false_or]
    · refine Tm.neg (by omega) (Tm.some ?_)
      have : k = d.Edges.length := by omega
      subst this
      rw [List.take_of_length_le (by omega), List.take_of_length_le (Nat.le_refl _)]
  refine loop.eq ?_
  dsimp only
  unfold notD
  cases hp : holes d d.Edges.length with
  | false => exact Tm.pos rfl (Tm.some rfl)
  | true =>
    refine Tm.neg (by simp) (Tm.neg (by omega) ?_)
    have hL : (d.Edges.map (comp d.Accept.length 32)).length = d.Accept.length := by simp; exact h3
    have e1 : apnd 1 (d.Accept.map (! ·)) [true] = some (d.Accept.map (! ·) ++ [true]) := apnd_ok (by simp; omega) (by decide)
    have e2 : apnd 24 (d.Edges.map (comp d.Accept.length 32)) [[]] = some (d.Edges.map (comp d.Accept.length 32) ++ [[]]) := apnd_ok (by rw [hL]; simp; omega) (by decide)
    simp only [e1, e2, Option.bind_some]
    refine (aCompleted_tm (n := 0) (l := []) rfl).eq ?_
    refine Tm.step (idx_i (n := d.Accept.length) rfl (by rw [List.length_append, hL]; simp)) (Tm.step (upd1_i (n := d.Accept.length) rfl (by rw [List.length_append, hL]; simp)) (Tm.some ?_))
    rw [List.set_append_right _ _ (by omega), hL, Nat.sub_self]
    rfl
theorem notD_ok {d : ADfa} (hd : okD d = true) (hn : d.Accept.length ≤ 4095) : okD (notD d) = true := by
  obtain ⟨h1, h2, h3, h4⟩ := okD_iff.1 hd
  unfold notD
  cases hp : holes d d.Edges.length with
  | true =>
    rw [if_pos rfl]
    refine okD_iff.2 ⟨by simp, by simp; omega, by simp [h3], fun l hl => ?_⟩
    have hlen : ((d.Accept.map (! ·) ++ [true]).length : Int) = (d.Accept.length : Int) + 1 := by simp
    dsimp only at hl ⊢
    rw [hlen]
    rcases List.mem_append.1 hl with hl | hl
    · obtain ⟨x, hx, rfl⟩ := List.mem_map.1 hl
      exact comp_ok (next := 32) (by omega) (by omega) (by omega) (h4 x hx)
    · rw [List.mem_singleton.1 hl]
      exact okE_cons.2 ⟨⟨show (31 : Int) < 32 by decide, show (32 : Int) ≤ 126 by decide, show (126 : Int) ≤ 126 by decide, by dsimp only; omega, by dsimp only; omega⟩, rfl⟩
  | false =>
    rw [if_neg (by simp)]
    refine okD_iff.2 ⟨by simpa using h1, by simpa using h2, by simp [h3], fun l hl => ?_⟩
    have hlen : ((d.Accept.map (! ·)).length : Int) = (d.Accept.length : Int) := by simp
    dsimp only at hl ⊢
    rw [hlen]
    obtain ⟨x, hx, rfl⟩ := List.mem_map.1 hl
    have c1 := comp_ok (n := d.Accept.length) (m := (d.Accept.length : Int) + 1) (sink := d.Accept.length) (by omega) (by omega) (by omega) (next := 32) (l := x) (h4 x hx)
    -- no edge leads to the sink
    have hno : ∀ e ∈ comp d.Accept.length 32 x, e.To ≠ (d.Accept.length : Int) := by
      intro e he heq
      unfold holes at hp
      rw [List.take_of_length_le (Nat.le_refl _)] at hp
      have := List.any_eq_false.1 hp x hx
      exact this (List.any_eq_true.2 ⟨e, he, decide_eq_true heq⟩)
    have strict : ∀ (l : List AEdge) (b : Int), okE ((d.Accept.length : Int) + 1) b l = true → (∀ e ∈ l, e.To ≠ (d.Accept.length : Int)) → okE d.Accept.length b l = true := by
      intro l
      induction l with
      | nil => intro b _ _; rfl
      | cons e l ih =>
        intro b h hh
        obtain ⟨⟨g1, g2, g3, g4, g5⟩, h6⟩ := okE_cons.1 h
        have := hh e List.mem_cons_self
        exact okE_cons.2 ⟨⟨g1, g2, g3, g4, by omega⟩, ih _ h6 (fun x hx => hh x (List.mem_cons_of_mem _ hx))⟩
    exact strict _ _ c1 hno
/-- where the complement stands -/
def qN (d : ADfa) (s : Int) : Int := if s = -1 then d.Accept.length else s
theorem notD_row {d : ADfa} {s : Nat} (hs : s < d.Edges.length) : (notD d).Edges.getD s [] = comp d.Accept.length 32 d.Edges[s] := by
  unfold notD
  cases hp : holes d d.Edges.length with
  | true =>
    rw [if_pos rfl]
    dsimp only
    rw [List.getD_eq_getElem?_getD, List.getElem?_append_left (by simpa using hs), List.getElem?_map, List.getElem?_eq_getElem hs]; rfl
  | false =>
    rw [if_neg (by simp)]
    dsimp only
    rw [List.getD_eq_getElem?_getD, List.getElem?_map, List.getElem?_eq_getElem hs]; rfl
theorem notD_step {d : ADfa} (hd : okD d = true) {s c : Int} (hs : St d.Accept.length s) (hne : s = -1 → holes d d.Edges.length = true) (h1 : 32 ≤ c) (h2 : c ≤ 126) : stp (notD d) (qN d s) c = qN d (stp d s c) ∧ (stp d s c = -1 → holes d d.Edges.length = true) := by
  obtain ⟨g1, g2, g3, g4⟩ := okD_iff.1 hd
  by_cases e : s = -1
  · have hp := hne e
    subst e
    have e1 : stp d (-1) c = -1 := by unfold stp; rw [if_pos rfl]
    rw [e1]
    refine ⟨?_, fun _ => hp⟩
    unfold qN
    rw [if_pos rfl]
    unfold stp
    rw [if_neg (by omega), Int.toNat_natCast]
    unfold notD
    rw [hp, if_pos rfl]
    dsimp only
    rw [List.getD_eq_getElem?_getD, List.getElem?_append_right (by simp [g3]), List.length_map, g3, Nat.sub_self]
    simp [stepE, h1, h2]
  · have := hs.1; have := hs.2
    have hlt : s.toNat < d.Edges.length := by omega
    have hrow := notD_row (d := d) hlt
    have hok := g4 _ (List.getElem_mem hlt)
    have hcs := comp_step (sink := d.Accept.length) (next := 32) (c := c) hok h1 h2
    have e1 : stp (notD d) s c = if stepE d.Edges[s.toNat] c = -1 then (d.Accept.length : Int) else stepE d.Edges[s.toNat] c := by
      unfold stp
      rw [if_neg e, hrow]; exact hcs
    have e2 : stp d s c = stepE d.Edges[s.toNat] c := by unfold stp; rw [if_neg e, getD_of hlt]
    have e3 : qN d s = s := by unfold qN; rw [if_neg e]
    rw [e2, e3, e1]
    refine ⟨rfl, fun hm => ?_⟩
    -- the row has an edge to the sink
    have hst : stepE (comp d.Accept.length 32 d.Edges[s.toNat]) c = d.Accept.length := by rw [hcs, if_pos hm]
    have find : ∀ (l : List AEdge), stepE l c = (d.Accept.length : Int) → ∃ x ∈ l, x.To = (d.Accept.length : Int) := by
      intro l
      induction l with
      | nil => intro h; simp only [stepE] at h; omega
      | cons x l ih =>
        intro h
        unfold stepE at h
        split at h
        · exact ⟨x, List.mem_cons_self, h⟩
        · obtain ⟨y, hy, hy2⟩ := ih h
          exact ⟨y, List.mem_cons_of_mem _ hy, hy2⟩
    obtain ⟨x, hx, hx2⟩ := find _ hst
    unfold holes
    rw [List.take_of_length_le (Nat.le_refl _)]
    exact List.any_eq_true.2 ⟨_, List.getElem_mem hlt, List.any_eq_true.2 ⟨x, hx, decide_eq_true hx2⟩⟩
theorem notD_run {d : ADfa} (hd : okD d = true) : ∀ {w : List Int} {s : Int}, Pr w → St d.Accept.length s → (s = -1 → holes d d.Edges.length = true) → run (notD d) (qN d s) w = qN d (run d s w) ∧ (run d s w = -1 → holes d d.Edges.length = true)
  | [], s, _, _, hne => ⟨rfl, hne⟩
  | c :: w, s, hw, hs, hne => by
    have hc := hw c List.mem_cons_self
    obtain ⟨h1, h2⟩ := notD_step hd hs hne hc.1 hc.2
    show run (notD d) (stp (notD d) (qN d s) c) w = qN d (run d (stp d s c) w) ∧ _
    rw [h1]
    exact notD_run hd (fun x hx => hw x (List.mem_cons_of_mem _ hx)) (stp_st hd hs) h2
theorem notD_fin {d : ADfa} {s : Int} (hs : St d.Accept.length s) (hne : s = -1 → holes d d.Edges.length = true) : fin (notD d) (qN d s) = !fin d s := by
  by_cases e : s = -1
  · have hp := hne e
    subst e
    unfold qN fin
    rw [if_pos rfl, if_neg (by omega), if_pos rfl, Int.toNat_natCast]
    unfold notD
    rw [hp, if_pos rfl]
    dsimp only
    rw [List.getD_eq_getElem?_getD, List.getElem?_append_right (by simp), List.length_map, Nat.sub_self]; rfl
  · have := hs.1; have := hs.2
    have hlt : s.toNat < d.Accept.length := by omega
    unfold qN fin
    rw [if_neg e, if_neg e, if_neg e, getD_of hlt]
    unfold notD
    cases hp : holes d d.Edges.length with
    | true =>
      rw [if_pos rfl]
      dsimp only
      rw [List.getD_eq_getElem?_getD, List.getElem?_append_left (by simpa using hlt), List.getElem?_map, List.getElem?_eq_getElem hlt]; rfl
    | false =>
      rw [if_neg (by simp)]
      dsimp only
      rw [List.getD_eq_getElem?_getD, List.getElem?_map, List.getElem?_eq_getElem hlt]; rfl
theorem notD_acc {d : ADfa} (hd : okD d = true) {w : List Int} (hw : Pr w) : fin (notD d) (run (notD d) 0 w) = !fin d (run d 0 w) := by
  have h0 := st0 hd
  obtain ⟨h1, h2⟩ := notD_run hd (w := w) (s := 0) hw h0 (fun h => by cases h)
  have e0 : qN d 0 = 0 := by unfold qN; rw [if_neg (by omega)]
  rw [e0] at h1
  rw [h1]
  exact notD_fin (run_st hd h0) h2
theorem few_ok {d : ADfa} (h : few d = true) : okD d = true ∧ d.Accept.length ≤ 8 := by
  unfold few at h
  simp only [Bool.and_eq_true, decide_eq_true_eq] at h
  exact ⟨h.2, h.1⟩
theorem lsized_tm {d : ADfa} (hd : okD d = true) (hw : Wf d) : Tm (fun N => lsized N d 0) (· = decide (d.Accept.length ≤ 200)) := by
  unfold lsized
  refine Tm.pos rfl (Tm.ite (fun h => ?_) (fun h => Tm.some ?_))
  · refine (lback_tm (okD_lms hd)).eq ((rValid_tm (okD_lms hd).lim hw).eq (Tm.some ?_))
    rw [hd]; exact (decide_eq_true (by omega)).symm
  · exact (decide_eq_false (by omega)).symm
theorem okE_mem {n : Int} : ∀ {b : Int} {l : List AEdge}, 31 ≤ b → okE n b l = true → ∀ e ∈ l, 32 ≤ e.Low ∧ e.Low ≤ 126 ∧ 32 ≤ e.High ∧ e.High ≤ 126 ∧ 0 ≤ e.To ∧ e.To < n
  | b, x :: l, hb, h, e, he => by
    obtain ⟨⟨g1, g2, g3, g4, g5⟩, h6⟩ := okE_cons.1 h
    rcases List.mem_cons.1 he with rfl | he
    · exact ⟨by omega, by omega, by omega, g3, g4, g5⟩
    · exact okE_mem (by omega) h6 e he
theorem okD_wf {d : ADfa} (hd : okD d = true) : Wf d := by
  obtain ⟨g1, g2, g3, g4⟩ := okD_iff.1 hd
  intro l hl e he
  have := okE_mem (by omega) (g4 l hl) e he
  omega
theorem lawNot_tm {a : ADfa} (hl : Lim a) (hw : Wf a) : Tm (fun N => lawNot N a) (· = true) := by
  unfold lawNot
  have skip : Tm (fun N => (awake N).bind fun r38 => some r38) (· = true) := awake_tm.eq (Tm.some rfl)
  have cond : Tm (fun N => (awake N).bind fun r22 => if (!r22) = true then some true else (rFew N a).bind fun r35 => some (!r35)) (· = !few a) :=
    awake_tm.eq (Tm.neg (by simp) ((rFew_tm hl hw).eq (Tm.some rfl)))
  refine cond.eq ?_
  cases hf : few a with
  | false => exact Tm.pos rfl skip
  | true =>
    obtain ⟨ha, h8⟩ := few_ok hf
    refine Tm.neg (by simp) ?_
    have hok := notD_ok ha (by omega)
    refine (lown_tm (okD_lms ha)).eq ((aNot_tm ha (by omega)).eq ?_)
    have cond2 : Tm (fun N => if ((0 : Int) ≠ 0) then some true else (aValid N (notD a)).bind fun r109 => some (!r109)) (· = false) :=
      Tm.neg (by simp) ((aValid_tm (okD_lms hok).lim).eq (Tm.some (by rw [hok]; rfl)))
    refine cond2.eq (Tm.neg (by simp) ((lsized_tm hok (okD_wf hok)).eq ?_))
    refine Tm.ite (fun h => Tm.some rfl) (fun h => ?_)
    refine (lback_tm (okD_lms hok)).eq ((rIsNot_tm ha hok (fun w hw => notD_acc ha hw)).eq (Tm.some rfl))
end Go.D

/-
  Automata: copies, steps, runs. Plain theorems.
-/
import Derived.Test.YtckhldmpcddjmaaDoorK1
set_option linter.unusedSimpArgs false
set_option linter.unusedVariables false
namespace Go.D
open Go Go.X

theorem get_all {d : ADfa} (h : d.Edges.length = d.Accept.length) : (List.range d.Accept.length).all (fun i => okE d.Accept.length 31 (d.Edges.getD i [])) = d.Edges.all (okE d.Accept.length 31) := by
  rw [← h]
  rw [Bool.eq_iff_iff, List.all_eq_true, List.all_eq_true]
  constructor
  · intro h1 l hl
    obtain ⟨i, hi, rfl⟩ := List.mem_iff_getElem.1 hl
    have := h1 i (List.mem_range.2 hi)
    rwa [List.getD_eq_getElem?_getD, List.getElem?_eq_getElem hi] at this
  · intro h1 i hi
    have hi := List.mem_range.1 hi
    rw [List.getD_eq_getElem?_getD, List.getElem?_eq_getElem hi]
    exact h1 _ (List.getElem_mem hi)

/-! ## The reference's Valid -/
theorem rValid_b2_tm {d : ADfa} {i : Nat} {l : List AEdge} (hi : d.Edges[i]? = some l) (hl : l.length ≤ 9223372036854775807) (hb : ∀ e ∈ l, 0 ≤ e.Low ∧ e.Low ≤ 255 ∧ 0 ≤ e.High ∧ e.High ≤ 255) :
    Tm (fun N => loopM (rValid_b2 N d (i : Int)) N (31, 0)) (fun r => r = if okE d.Accept.length 31 l then Sum.inl () else Sum.inr false) := by
  refine Tm.up l.length (fun k s => s.2 = (k : Int) ∧ okE d.Accept.length 31 l = okE d.Accept.length s.1 (l.drop k)) ⟨rfl, by simp⟩ ?_
  rintro k hk ⟨b, j⟩ ⟨hj, ho⟩
  dsimp only at hj ho; subst hj
  unfold rValid_b2
  refine Tm.step (idx_get hi) ?_
  rcases Nat.lt_or_ge k l.length with hlt | hge
  · refine Tm.pos (by omega) (Tm.step (idx_get hi) (Tm.step (idx_n hlt) ?_))
    rw [okE_drop hlt] at ho
    obtain ⟨b1, b2, b3, b4⟩ := hb _ (List.getElem_mem hlt)
    have e1 : iw l[k].Low = l[k].Low := iw_eq (by omega) (by omega)
    have e2 : iw l[k].High = l[k].High := iw_eq (by omega) (by omega)
    rw [e1, e2]
    by_cases h1 : l[k].Low ≤ b
    · simp only [if_pos h1, Option.bind_some, if_true]
      refine Tm.some ?_
      show _ = _
      rw [ho]; simp [h1]
    · rw [if_neg h1]
      by_cases h2 : l[k].High < l[k].Low
      · simp only [if_pos h2, Option.bind_some, if_true]
        refine Tm.some ?_
        show _ = _
        rw [ho]; simp [h2]
      · rw [if_neg h2]
        by_cases h3 : l[k].High > 126
        · simp only [if_pos h3, Option.bind_some, if_true]
          refine Tm.some ?_
          show _ = _
          rw [ho]; simp [h3]
        · rw [if_neg h3]
          by_cases h4 : l[k].To < 0
          · simp only [if_pos h4, Option.bind_some, if_true]
            refine Tm.some ?_
            show _ = _
            rw [ho]; simp [h4]
          · rw [if_neg h4]
            by_cases h5 : l[k].To ≥ (d.Accept.length : Int)
            · simp only [decide_eq_true h5, Option.bind_some, if_true]
              refine Tm.some ?_
              show _ = _
              rw [ho]; simp [h5]
            · simp only [decide_eq_false h5, Option.bind_some, Bool.false_eq_true, if_false]
              refine Tm.some ⟨hlt, iw_n (by omega), ?_⟩
              show _ = okE _ l[k].High _
              rw [ho]; simp [h1, h3, h4, h5]; omega
  · refine Tm.neg (by omega) (Tm.some ?_)
    have : k = l.length := by omega
    subst this
    show _ = _
    rw [ho]; simp [okE]
/-- each number is one that its kind bears -/
def Wf (d : ADfa) : Prop := ∀ l ∈ d.Edges, ∀ e ∈ l, (0 ≤ e.Low ∧ e.Low ≤ 255 ∧ 0 ≤ e.High ∧ e.High ≤ 255) ∧ -9223372036854775808 ≤ e.To ∧ e.To ≤ 9223372036854775807
theorem rValid_b1_tm {d : ADfa} (hd : Lim d) (hw : Wf d) (h1 : d.Edges.length = d.Accept.length) :
    Tm (fun N => loopM (rValid_b1 N d) N 0) (fun r => r = if d.Edges.all (okE d.Accept.length 31) then Sum.inl () else Sum.inr false) := by
  refine Tm.up d.Edges.length (fun k s => s = (k : Int) ∧ d.Edges.all (okE d.Accept.length 31) = (d.Edges.drop k).all (okE d.Accept.length 31)) ⟨rfl, by simp⟩ ?_
  rintro k hk i ⟨rfl, ho⟩
  unfold rValid_b1
  rcases Nat.lt_or_ge k d.Edges.length with hlt | hge
  · refine Tm.pos (by omega) ?_
    rw [List.drop_eq_getElem_cons hlt, List.all_cons] at ho
    refine (rValid_b2_tm (List.getElem?_eq_getElem hlt) (hd.2.2 _ (List.getElem_mem hlt)) (fun e he => (hw _ (List.getElem_mem hlt) e he).1)).eq ?_
    cases hE : okE d.Accept.length 31 d.Edges[k] with
    | true => rw [hE] at ho; exact Tm.some ⟨hlt, iw_n (by have := hd.2.1; omega), by simpa using ho⟩
    | false => rw [hE] at ho; refine Tm.some ?_; show _ = _; rw [ho]; simp
  · refine Tm.neg (by omega) (Tm.some ?_)
    have : k = d.Edges.length := by omega
    subst this
    show _ = _
    rw [ho]; simp
theorem rValid_tm {d : ADfa} (hd : Lim d) (hw : Wf d) : Tm (fun N => rValid N d) (· = okD d) := by
  unfold rValid
  by_cases h1 : (d.Accept.length : Int) < 1
  · simp only [if_pos h1, Option.bind_some, if_true]
    refine Tm.some ?_
    show false = okD d
    have : ¬ 1 ≤ d.Accept.length := by omega
    simp [okD, this]
  · rw [if_neg h1]
    by_cases h2 : (d.Accept.length : Int) > 4096
    · simp only [if_pos h2, Option.bind_some, if_true]
      refine Tm.some ?_
      show false = okD d
      have : ¬ d.Accept.length ≤ 4096 := by omega
      simp [okD, this]
    · rw [if_neg h2]
      by_cases h3 : d.Edges.length = d.Accept.length
      · simp only [show ((d.Edges.length : Int) ≠ (d.Accept.length : Int)) = False by simp [h3], decide_false, Option.bind_some, Bool.false_eq_true, if_false]
        refine (rValid_b1_tm hd hw h3).eq ?_
        have e1 : 1 ≤ d.Accept.length := by omega
        have e2 : d.Accept.length ≤ 4096 := by omega
        cases hA : d.Edges.all (okE d.Accept.length 31) with
        | true => refine Tm.some ?_; show true = okD d; simp [okD, e1, e2, h3, hA]
        | false => refine Tm.some ?_; show false = okD d; simp [okD, e1, e2, h3, hA]
      · simp only [show ((d.Edges.length : Int) ≠ (d.Accept.length : Int)) = True by simp; omega, decide_true, Option.bind_some, if_true]
        refine Tm.some ?_
        show false = okD d
        simp [okD, h3]

/-! ## Copies -/
theorem lown_b2_tm {l : List AEdge} (hl : l.length ≤ 100000) : Tm (fun N => loopM (lown_b2 N l) N (([] : List AEdge), 0)) (· = l) := by
  refine Tm.up l.length (fun k s => s.2 = (k : Int) ∧ s.1 = l.take k) ⟨rfl, by simp⟩ ?_
  rintro k hk ⟨m, i⟩ ⟨hi, hm⟩
  dsimp only at hi hm; subst hi; subst hm
  unfold lown_b2
  rcases Nat.lt_or_ge k l.length with hlt | hge
  · refine Tm.pos (by omega) (Tm.step (idx_n hlt) (Tm.step (apnd_ok (by simp; omega) (by decide)) (Tm.some ⟨hlt, iw_n (by omega), ?_⟩)))
    rw [List.take_add_one, List.getElem?_eq_getElem hlt]; rfl
  · refine Tm.neg (by omega) (Tm.some ?_)
    show l.take k = l
    exact List.take_of_length_le (by omega)
theorem lown_tm {d : ADfa} (hd : Lms d) : Tm (fun N => lown N d) (· = d) := by
  unfold lown
  refine Tm.step (apnd_ok (by simp; have := hd.1; omega) (by decide)) ?_
  have : Tm (fun N => loopM (lown_b1 N d) N (([] : List (List AEdge)), 0)) (· = d.Edges) := by
    refine Tm.up d.Edges.length (fun k s => s.2 = (k : Int) ∧ s.1 = d.Edges.take k) ⟨rfl, by simp⟩ ?_
    rintro k hk ⟨m, i⟩ ⟨hi, hm⟩
    dsimp only at hi hm; subst hi; subst hm
    unfold lown_b1
    have := hd.2.1
    rcases Nat.lt_or_ge k d.Edges.length with hlt | hge
    · refine Tm.pos (by omega) (Tm.step (idx_n hlt) ((lown_b2_tm (hd.2.2 _ (List.getElem_mem hlt))).eq (Tm.step (apnd_ok (by simp; omega) (by decide)) (Tm.some ⟨hlt, iw_n (by omega), ?_⟩))))
      rw [List.take_add_one, List.getElem?_eq_getElem hlt]; rfl
    · refine Tm.neg (by omega) (Tm.some ?_)
      show d.Edges.take k = d.Edges
      exact List.take_of_length_le (by omega)
  exact this.eq (Tm.some rfl)
theorem lback_eq : @lback = @lown := rfl
theorem lback_tm {d : ADfa} (hd : Lms d) : Tm (fun N => lback N d) (· = d) := lown_tm hd

/-! ## Steps -/
/-- where the edges of a state lead -/
def stepE : List AEdge → Int → Int
  | [], _ => -1
  | e :: l, c => if e.Low ≤ c ∧ c ≤ e.High then e.To else stepE l c
/-- the state after a character -/
def stp (d : ADfa) (s c : Int) : Int := if s = -1 then -1 else stepE (d.Edges.getD s.toNat []) c
def fin (d : ADfa) (s : Int) : Bool := if s = -1 then false else d.Accept.getD s.toNat false
def St (n : Nat) (s : Int) : Prop := -1 ≤ s ∧ s < n
theorem stepE_drop {l : List AEdge} {k : Nat} {c : Int} (hk : k < l.length) : stepE (l.drop k) c = if l[k].Low ≤ c ∧ c ≤ l[k].High then l[k].To else stepE (l.drop (k + 1)) c := by
  rw [List.drop_eq_getElem_cons hk]; rfl
theorem stepE_st {n : Nat} {c : Int} : ∀ {b : Int} {l : List AEdge}, okE n b l = true → St n (stepE l c)
  | _, [], _ => ⟨Int.le_refl _, by show (-1 : Int) < n; omega⟩
  | b, e :: l, h => by
    obtain ⟨⟨_, _, _, h4, h5⟩, h6⟩ := okE_cons.1 h
    unfold stepE
    split
    · exact ⟨by omega, h5⟩
    · exact stepE_st h6
theorem getD_of {α : Type} {l : List α} {n : Nat} {x : α} (h : n < l.length) : l.getD n x = l[n] := by rw [List.getD_eq_getElem?_getD, List.getElem?_eq_getElem h]; rfl
theorem stp_st {d : ADfa} (hd : okD d = true) {s c : Int} (hs : St d.Accept.length s) : St d.Accept.length (stp d s c) := by
  unfold stp
  split
  · exact ⟨Int.le_refl _, by omega⟩
  · obtain ⟨h1, h2, h3, h4⟩ := okD_iff.1 hd
    have := hs.1; have := hs.2
    have hlt : s.toNat < d.Edges.length := by omega
    rw [getD_of hlt]
    exact stepE_st (h4 _ (List.getElem_mem hlt))
theorem aStep_tm {d : ADfa} (hd : okD d = true) {s c : Int} (hs : St d.Accept.length s) : Tm (fun N => aStep N d s c) (· = stp d s c) := by
  unfold aStep stp
  have hl := okD_lms hd
  obtain ⟨h1, h2, h3, h4⟩ := okD_iff.1 hd
  have := hs.1; have := hs.2
  refine Tm.ite (fun e => ?_) (fun e => ?_)
  · rw [if_pos e]; exact Tm.some rfl
  · rw [if_neg e]
    have hlt : s.toNat < d.Edges.length := by omega
    rw [getD_of hlt]
    refine Tm.step (idx_i (n := s.toNat) (by omega) hlt) ?_
    generalize hL : d.Edges[s.toNat] = l
    have hll : l.length ≤ 100000 := by rw [← hL]; exact hl.2.2 _ (List.getElem_mem hlt)
    have loop : Tm (fun N => loopM (aStep_b1 N c l) N 0) (fun r => (r = Sum.inl () ∧ stepE l c = -1) ∨ r = Sum.inr (stepE l c)) := by
      refine Tm.up l.length (fun k s => s = (k : Int) ∧ stepE l c = stepE (l.drop k) c) ⟨rfl, by simp⟩ ?_
      rintro k hk i ⟨rfl, ho⟩
      unfold aStep_b1
      rcases Nat.lt_or_ge k l.length with hlt | hge
      · refine Tm.pos (by omega) (Tm.step (idx_n hlt) ?_)
        rw [stepE_drop hlt] at ho
        by_cases a : l[k].Low ≤ c
        · rw [if_pos a]
          by_cases b : c ≤ l[k].High
          · simp only [decide_eq_true b, Option.bind_some, if_true]
            refine Tm.some (.inr ?_)
            rw [ho, if_pos ⟨a, b⟩]
          · simp only [decide_eq_false b, Option.bind_some, Bool.false_eq_true, if_false]
            refine Tm.some ⟨hlt, iw_n (by omega), ?_⟩
            rw [ho, if_neg (fun h => b h.2)]
        · simp only [if_neg a, Option.bind_some, Bool.false_eq_true, if_false]
          refine Tm.some ⟨hlt, iw_n (by omega), ?_⟩
          rw [ho, if_neg (fun h => a h.1)]
      · refine Tm.neg (by omega) (Tm.some (.inl ⟨rfl, ?_⟩))
        have : k = l.length := by omega
        subst this
        rw [ho]; simp [stepE]
    refine loop.bind fun r hr => ?_
    rcases hr with ⟨rfl, h⟩ | rfl
    · exact Tm.some h.symm
    · exact Tm.some rfl
theorem rStep_tm {d : ADfa} (hd : okD d = true) {s c : Int} (hs : St d.Accept.length s) : Tm (fun N => rStep N d s c) (· = stp d s c) := by
  unfold rStep stp
  have hl := okD_lms hd
  obtain ⟨h1, h2, h3, h4⟩ := okD_iff.1 hd
  have := hs.1; have := hs.2
  refine Tm.ite (fun e => ?_) (fun e => ?_)
  · rw [if_pos (by omega)]; exact Tm.some rfl
  · rw [if_neg (by omega)]
    have hlt : s.toNat < d.Edges.length := by omega
    rw [getD_of hlt]
    generalize hL : d.Edges[s.toNat] = l
    have hll : l.length ≤ 100000 := by rw [← hL]; exact hl.2.2 _ (List.getElem_mem hlt)
    have hix : idx d.Edges s = some l := by rw [← hL]; exact idx_i (n := s.toNat) (by omega) hlt
    have loop : Tm (fun N => loopM (rStep_b1 N c d s) N 0) (fun r => (r = Sum.inl () ∧ stepE l c = -1) ∨ r = Sum.inr (stepE l c)) := by
      refine Tm.up l.length (fun k s => s = (k : Int) ∧ stepE l c = stepE (l.drop k) c) ⟨rfl, by simp⟩ ?_
      rintro k hk i ⟨rfl, ho⟩
      unfold rStep_b1
      refine Tm.step hix ?_
      rcases Nat.lt_or_ge k l.length with hlt | hge
      · refine Tm.pos (by omega) (Tm.step hix (Tm.step (idx_n hlt) ?_))
        rw [stepE_drop hlt] at ho
        by_cases a : l[k].Low ≤ c
        · rw [if_pos a]
          by_cases b : c ≤ l[k].High
          · simp only [decide_eq_true b, Option.bind_some, if_true]
            refine Tm.some (.inr ?_)
            rw [ho, if_pos ⟨a, b⟩]
          · simp only [decide_eq_false b, Option.bind_some, Bool.false_eq_true, if_false]
            refine Tm.some ⟨hlt, iw_n (by omega), ?_⟩
            rw [ho, if_neg (fun h => b h.2)]
        · simp only [if_neg a, Option.bind_some, Bool.false_eq_true, if_false]
          refine Tm.some ⟨hlt, iw_n (by omega), ?_⟩
          rw [ho, if_neg (fun h => a h.1)]
      · refine Tm.neg (by omega) (Tm.some (.inl ⟨rfl, ?_⟩))
        have : k = l.length := by omega
        subst this
        rw [ho]; simp [stepE]
    refine loop.bind fun r hr => ?_
    rcases hr with ⟨rfl, h⟩ | rfl
    · exact Tm.some h.symm
    · exact Tm.some rfl
theorem aFinal_tm {d : ADfa} {s : Int} (hs : St d.Accept.length s) : Tm (fun N => aFinal N d s) (· = fin d s) := by
  unfold aFinal fin
  have := hs.1; have := hs.2
  refine Tm.ite (fun e => ?_) (fun e => ?_)
  · rw [if_neg e, getD_of (by omega)]
    exact Tm.step (idx_i (n := s.toNat) (by omega) (by omega)) (Tm.some rfl)
  · rw [if_pos (by omega)]; exact Tm.some rfl
theorem rFinal_tm {d : ADfa} {s : Int} (hs : St d.Accept.length s) : Tm (fun N => rFinal N d s) (· = fin d s) := by
  unfold rFinal fin
  have := hs.1; have := hs.2
  refine Tm.ite (fun e => ?_) (fun e => ?_)
  · rw [if_neg (by omega), getD_of (by omega)]
    exact Tm.step (idx_i (n := s.toNat) (by omega) (by omega)) (Tm.some rfl)
  · rw [if_pos (by omega)]; exact Tm.some rfl

/-! ## Runs -/
def run (d : ADfa) (s : Int) (w : List Int) : Int := w.foldl (stp d) s
def chars (s : List UInt8) : List Int := s.map fun c => (c.toNat : Int)
theorem run_st {d : ADfa} (hd : okD d = true) : ∀ {w : List Int} {s : Int}, St d.Accept.length s → St d.Accept.length (run d s w)
  | [], _, hs => hs
  | c :: w, s, hs => run_st (w := w) hd (stp_st hd hs)
theorem st0 {d : ADfa} (hd : okD d = true) : St d.Accept.length 0 := by
  have := (okD_iff.1 hd).1
  exact ⟨by omega, by omega⟩
theorem run_take {d : ADfa} {s : List UInt8} {k : Nat} (hk : k < s.length) : run d 0 (chars (s.take (k + 1))) = stp d (run d 0 (chars (s.take k))) (s[k].toNat : Int) := by
  rw [List.take_add_one, List.getElem?_eq_getElem hk]
  show (List.map _ (s.take k ++ [s[k]])).foldl _ _ = _
  rw [List.map_append, List.foldl_append]; rfl
theorem aAccepts_tm {d : ADfa} (hd : okD d = true) {s : List UInt8} (hs : s.length ≤ 9223372036854775807) : Tm (fun N => aAccepts N d s) (· = fin d (run d 0 (chars s))) := by
  unfold aAccepts
  have loop : Tm (fun N => loopM (aAccepts_b1 N d s) N (0, 0)) (· = run d 0 (chars s)) := by
    refine Tm.up s.length (fun k t => t.2 = (k : Int) ∧ t.1 = run d 0 (chars (s.take k))) ⟨rfl, by simp [chars, run]⟩ ?_
    rintro k hk ⟨q, i⟩ ⟨hi, hq⟩
    dsimp only at hi hq; subst hi; subst hq
    unfold aAccepts_b1
    rcases Nat.lt_or_ge k s.length with hlt | hge
    · refine Tm.pos (by omega) (Tm.step (idx_n hlt) ((aStep_tm hd (run_st hd (st0 hd))).eq (Tm.some ⟨hlt, iw_n (by omega), (run_take hlt).symm⟩)))
    · refine Tm.neg (by omega) (Tm.some ?_)
      show run d 0 (chars (s.take k)) = _
      rw [List.take_of_length_le (by omega)]
  exact loop.eq ((aFinal_tm (run_st hd (st0 hd))).eq (Tm.some rfl))
theorem rAccepts_tm {d : ADfa} (hd : okD d = true) {s : List UInt8} (hs : s.length ≤ 9223372036854775807) : Tm (fun N => rAccepts N d s) (· = fin d (run d 0 (chars s))) := by
  unfold rAccepts
  have loop : Tm (fun N => rRun N d s) (· = run d 0 (chars s)) := by
    unfold rRun
    refine Tm.eq (a := run d 0 (chars s)) ?_ (Tm.some rfl)
    refine Tm.up s.length (fun k t => t.2 = (k : Int) ∧ t.1 = run d 0 (chars (s.take k))) ⟨rfl, by simp [chars, run]⟩ ?_
    rintro k hk ⟨q, i⟩ ⟨hi, hq⟩
    dsimp only at hi hq; subst hi; subst hq
    unfold rRun_b1
    rcases Nat.lt_or_ge k s.length with hlt | hge
    · refine Tm.pos (by omega) (Tm.step (idx_n hlt) ((rStep_tm hd (run_st hd (st0 hd))).eq (Tm.some ⟨hlt, iw_n (by omega), (run_take hlt).symm⟩)))
    · refine Tm.neg (by omega) (Tm.some ?_)
      show run d 0 (chars (s.take k)) = _
      rw [List.take_of_length_le (by omega)]
  exact loop.eq ((rFinal_tm (run_st hd (st0 hd))).eq (Tm.some rfl))
def few (d : ADfa) : Bool := decide (d.Accept.length ≤ 8) && okD d
theorem rFew_tm {d : ADfa} (hd : Lim d) (hw : Wf d) : Tm (fun N => rFew N d) (· = few d) := by
  unfold rFew few
  by_cases h : d.Accept.length ≤ 8
  · refine Tm.pos (by omega) ((rValid_tm hd hw).eq (Tm.some ?_))
    show okD d = _
    simp [h]
  · refine Tm.neg (by omega) (Tm.some ?_)
    show false = _
    simp [h]
end Go.D

/- Plain theorems of the library of this seat. -/
import Derived.Test.YtckhldmpcddjmaaDoorM1
import Derived.Test.YtckhldmpcddjmaaDoorPL
import Derived.Test.YtckhldmpcddjmaaDoorA20
set_option linter.unusedSimpArgs false
set_option linter.unusedVariables false
namespace Go.X
theorem Tm.loopG {σ ρ G : Type} {body : Nat → σ → Option (Stp σ ρ)} (I : G → σ → Prop) (μ : G → Nat) {Q : ρ → Prop} {s0 : σ} (g0 : G) (h0 : I g0 s0)
    (h : ∀ g s, I g s → Tm (fun N => body N s) (fun t => match t with | .next s' => ∃ g', I g' s' ∧ μ g' < μ g | .done r => Q r)) :
    Tm (fun N => loopM (body N) N s0) Q := by
  have key : ∀ (m : Nat) (g : G) (s : σ), μ g ≤ m → I g s → ∃ a K, Q a ∧ ∀ N n, K ≤ N → K ≤ n → loopM (body N) n s = some a := by
    intro m
    induction m with
    | zero =>
      intro g s hm hI
      obtain ⟨t, N0, hT, hN⟩ := h g s hI
      cases t with
      | next s' => obtain ⟨g', _, h2⟩ := hT; exact absurd h2 (by omega)
      | done r => exact ⟨r, N0 + 1, hT, fun N n h1 h2 => by obtain ⟨n, rfl⟩ : ∃ k, n = k + 1 := ⟨n - 1, by omega⟩; exact loopM_done (hN N (by omega))⟩
    | succ m ih =>
      intro g s hm hI
      obtain ⟨t, N0, hT, hN⟩ := h g s hI
      cases t with
      | next s' =>
        obtain ⟨g', h1, h2⟩ := hT
        obtain ⟨a, K, hQ, hK⟩ := ih g' s' (by omega) h1
        exact ⟨a, max N0 K + 1, hQ, fun N n h1 h2 => by obtain ⟨n, rfl⟩ : ∃ k, n = k + 1 := ⟨n - 1, by omega⟩; rw [loopM_next (hN N (by omega))]; exact hK N n (by omega) (by omega)⟩
      | done r => exact ⟨r, N0 + 1, hT, fun N n h1 h2 => by obtain ⟨n, rfl⟩ : ∃ k, n = k + 1 := ⟨n - 1, by omega⟩; exact loopM_done (hN N (by omega))⟩
  obtain ⟨a, K, hQ, hK⟩ := key (μ g0) g0 s0 (Nat.le_refl _) h0
  exact ⟨a, K, hQ, fun N hN => hK N N hN hN⟩
theorem Tm.up {σ ρ : Type} {body : Nat → σ → Option (Stp σ ρ)} {Q : ρ → Prop} {s0 : σ} (n : Nat) (J : Nat → σ → Prop) (h0 : J 0 s0)
    (h : ∀ k, k ≤ n → ∀ s, J k s → Tm (fun N => body N s) (fun t => match t with | .next s' => k < n ∧ J (k + 1) s' | .done r => Q r)) :
    Tm (fun N => loopM (body N) N s0) Q := by
  refine Tm.loopG (fun k s => k ≤ n ∧ J k s) (fun k => n - k) 0 ⟨Nat.zero_le _, h0⟩ fun k s hs => (h k hs.1 s hs.2).mono fun t ht => ?_
  cases t with
  | next s' => exact ⟨k + 1, ⟨ht.1, ht.2⟩, by have := ht.1; omega⟩
  | done r => exact ht
theorem Tm.some {α : Type} {a : α} {Q : α → Prop} (h : Q a) : Tm (fun _ => Option.some a) Q := Tm.pure h
theorem Tm.eq {α β : Type} {f : Nat → Option α} {g : Nat → α → Option β} {a : α} {R : β → Prop} (h : Tm f (· = a)) (k : Tm (fun N => g N a) R) : Tm (fun N => (f N).bind (g N)) R :=
  h.bind fun b hb => by subst hb; exact k
theorem iw_n {k : Nat} (h : k + 1 ≤ 9223372036854775807) : iw ((k : Int) + 1) = ((k + 1 : Nat) : Int) := by rw [iw_eq] <;> omega
end Go.X
namespace Go.D
open Go Go.X
def okE (n : Int) : Int → List AEdge → Bool
  | _, [] => true
  | b, e :: l => !(decide (e.Low ≤ b) || decide (e.Low > e.High) || decide (e.High > 126) || decide (e.To < 0) || decide (e.To ≥ n)) && okE n e.High l
def okD (d : ADfa) : Bool := decide (1 ≤ d.Accept.length) && decide (d.Accept.length ≤ 4096) && decide (d.Edges.length = d.Accept.length) && d.Edges.all (okE d.Accept.length 31)
def Lim (d : ADfa) : Prop := d.Accept.length ≤ 9223372036854775807 ∧ d.Edges.length ≤ 9223372036854775807 ∧ ∀ l ∈ d.Edges, l.length ≤ 9223372036854775807
def Lms (d : ADfa) : Prop := d.Accept.length ≤ 100000 ∧ d.Edges.length ≤ 100000 ∧ ∀ l ∈ d.Edges, l.length ≤ 100000
theorem okE_cons {n b : Int} {e : AEdge} {l : List AEdge} : okE n b (e :: l) = true ↔ (b < e.Low ∧ e.Low ≤ e.High ∧ e.High ≤ 126 ∧ 0 ≤ e.To ∧ e.To < n) ∧ okE n e.High l = true := by
  simp only [okE, Bool.and_eq_true, Bool.not_eq_true', Bool.or_eq_false_iff, decide_eq_false_iff_not]
  constructor
  · rintro ⟨⟨⟨⟨⟨h1, h2⟩, h3⟩, h4⟩, h5⟩, h6⟩; exact ⟨⟨by omega, by omega, by omega, by omega, by omega⟩, h6⟩
  · rintro ⟨⟨h1, h2, h3, h4, h5⟩, h6⟩; exact ⟨⟨⟨⟨⟨by omega, by omega⟩, by omega⟩, by omega⟩, by omega⟩, h6⟩
theorem okE_len {n : Int} : ∀ {b : Int} {l : List AEdge}, okE n b l = true → (l.length : Int) ≤ max 0 (126 - b)
  | b, [], _ => by simp; omega
  | b, e :: l, h => by
    obtain ⟨⟨h1, h2, h3, _, _⟩, h6⟩ := okE_cons.1 h
    have := okE_len h6
    simp only [List.length_cons]; omega
theorem okD_iff {d : ADfa} : okD d = true ↔ 1 ≤ d.Accept.length ∧ d.Accept.length ≤ 4096 ∧ d.Edges.length = d.Accept.length ∧ ∀ l ∈ d.Edges, okE d.Accept.length 31 l = true := by
  simp only [okD, Bool.and_eq_true, decide_eq_true_eq, List.all_eq_true]
  constructor
  · rintro ⟨⟨⟨h1, h2⟩, h3⟩, h4⟩; exact ⟨h1, h2, h3, h4⟩
  · rintro ⟨h1, h2, h3, h4⟩; exact ⟨⟨⟨h1, h2⟩, h3⟩, h4⟩
theorem okD_lms {d : ADfa} (h : okD d = true) : Lms d := by
  obtain ⟨h1, h2, h3, h4⟩ := okD_iff.1 h
  refine ⟨by omega, by omega, fun l hl => ?_⟩
  have := okE_len (h4 l hl)
  omega
theorem idx_n {α : Type} {xs : List α} {k : Nat} (h : k < xs.length) : idx xs (k : Int) = some xs[k] := idx_ok h
theorem okE_drop {n : Int} {l : List AEdge} {b : Int} {k : Nat} (hk : k < l.length) : okE n b (l.drop k) = (!(decide (l[k].Low ≤ b) || decide (l[k].Low > l[k].High) || decide (l[k].High > 126) || decide (l[k].To < 0) || decide (l[k].To ≥ n)) && okE n l[k].High (l.drop (k + 1))) := by
  rw [List.drop_eq_getElem_cons hk]; rfl
end Go.D
set_option linter.unusedSimpArgs false
set_option linter.unusedVariables false
namespace Go.D
open Go Go.X
theorem rValid_b2_tm {d : ADfa} {i : Nat} {l : List AEdge} (hi : d.Edges[i]? = some l) (hl : l.length ≤ 9223372036854775807) (hb : ∀ e ∈ l, 0 ≤ e.Low ∧ e.Low ≤ 255 ∧ 0 ≤ e.High ∧ e.High ≤ 255) :
    Tm (fun N => loopM (rValid_b2 N d (i : Int)) N (31, 0)) (fun r => r = if okE d.Accept.length 31 l then Sum.inl () else Sum.inr false) := by
  refine Tm.up l.length (fun k s => s.2 = (k : Int) ∧ okE d.Accept.length 31 l = okE d.Accept.length s.1 (l.drop k)) ⟨rfl, by simp⟩ ?_
  rintro k hk ⟨b, j⟩ ⟨hj, ho⟩
  dsimp only at hj ho; subst hj
  unfold rValid_b2
  refine Tm.step (idx_get hi) ?_
  rcases Nat.lt_or_ge k l.length with hlt | hge
  · refine Tm.pos (by omega) (Tm.step (idx_get hi) (Tm.step (idx_n hlt) ?_))
    rw [okE_drop hlt] at ho
    obtain ⟨b1, b2, b3, b4⟩ := hb _ (List.getElem_mem hlt)
    have e1 : iw l[k].Low = l[k].Low := iw_eq (by omega) (by omega)
    have e2 : iw l[k].High = l[k].High := iw_eq (by omega) (by omega)
    rw [e1, e2]
    by_cases h1 : l[k].Low ≤ b
    · simp only [if_pos h1, Option.bind_some, if_true]
      refine Tm.some ?_
      show _ = _
      rw [ho]; simp [h1]
    · rw [if_neg h1]
      by_cases h2 : l[k].High < l[k].Low
      · simp only [if_pos h2, Option.bind_some, if_true]
        refine Tm.some ?_
        show _ = _
        rw [ho]; simp [h2]
      · rw [if_neg h2]
        by_cases h3 : l[k].High > 126
        · simp only [if_pos h3, Option.bind_some, if_true]
          refine Tm.some ?_
          show _ = _
          rw [ho]; simp [h3]
        · rw [if_neg h3]
          by_cases h4 : l[k].To < 0
          · simp only [if_pos h4, Option.bind_some, if_true]
            refine Tm.some ?_
            show _ = _
            rw [ho]; simp [h4]
          · rw [if_neg h4]
            by_cases h5 : l[k].To ≥ (d.Accept.length : Int)
            · simp only [decide_eq_true h5, Option.bind_some, if_true]
              refine Tm.some ?_
              show _ = _
              rw [ho]; simp [h5]
            · simp only [decide_eq_false h5, Option.bind_some, Bool.false_eq_true, if_false]
              refine Tm.some ⟨hlt, iw_n (by omega), ?_⟩
              show _ = okE _ l[k].High _
              rw [ho]; simp [h1, h3, h4, h5]; omega
  · refine Tm.neg (by omega) (Tm.some ?_)
    have : k = l.length := by omega
    subst this
    show _ = _
    rw [ho]; simp [okE]
def Wf (d : ADfa) : Prop := ∀ l ∈ d.Edges, ∀ e ∈ l, (0 ≤ e.Low ∧ e.Low ≤ 255 ∧ 0 ≤ e.High ∧ e.High ≤ 255) ∧ -9223372036854775808 ≤ e.To ∧ e.To ≤ 9223372036854775807
theorem rValid_b1_tm {d : ADfa} (hd : Lim d) (hw : Wf d) (h1 : d.Edges.length = d.Accept.length) :
    Tm (fun N => loopM (rValid_b1 N d) N 0) (fun r => r = if d.Edges.all (okE d.Accept.length 31) then Sum.inl () else Sum.inr false) := by
  refine Tm.up d.Edges.length (fun k s => s = (k : Int) ∧ d.Edges.all (okE d.Accept.length 31) = (d.Edges.drop k).all (okE d.Accept.length 31)) ⟨rfl, by simp⟩ ?_
  rintro k hk i ⟨rfl, ho⟩
  unfold rValid_b1
  rcases Nat.lt_or_ge k d.Edges.length with hlt | hge
  · refine Tm.pos (by omega) ?_
    rw [List.drop_eq_getElem_cons hlt, List.all_cons] at ho
    refine (rValid_b2_tm (List.getElem?_eq_getElem hlt) (hd.2.2 _ (List.getElem_mem hlt)) (fun e he => (hw _ (List.getElem_mem hlt) e he).1)).eq ?_
    cases hE : okE d.Accept.length 31 d.Edges[k] with
    | true => rw [hE] at ho; exact Tm.some ⟨hlt, iw_n (by have := hd.2.1; omega), by simpa using ho⟩
    | false => rw [hE] at ho; refine Tm.some ?_; show _ = _; rw [ho]; simp
  · refine Tm.neg (by omega) (Tm.some ?_)
    have : k = d.Edges.length := by omega
    subst this
    show _ = _
    rw [ho]; simp
theorem rValid_tm {d : ADfa} (hd : Lim d) (hw : Wf d) : Tm (fun N => rValid N d) (· = okD d) := by
  unfold rValid
  by_cases h1 : (d.Accept.length : Int) < 1
  · simp only [if_pos h1, Option.bind_some, if_true]
    refine Tm.some ?_
    show false = okD d
    have : ¬ 1 ≤ d.Accept.length := by omega
    simp [okD, this]
  · rw [if_neg h1]
    by_cases h2 : (d.Accept.length : Int) > 4096
    · simp only [if_pos h2, Option.bind_some, if_true]
      refine Tm.some ?_
      show false = okD d
      have : ¬ d.Accept.length ≤ 4096 := by omega
      simp [okD, this]
    · rw [if_neg h2]
      by_cases h3 : d.Edges.length = d.Accept.length
      · simp only [show ((d.Edges.length : Int) ≠ (d.Accept.length : Int)) = False by simp [h3], decide_false, Option.bind_some, Bool.false_eq_true, if_false]
        refine (rValid_b1_tm hd hw h3).eq ?_
        have e1 : 1 ≤ d.Accept.length := by omega
        have e2 : d.Accept.length ≤ 4096 := by omega
        cases hA : d.Edges.all (okE d.Accept.length 31) with
        | true => refine Tm.some ?_; show true = okD d; simp [okD, e1, e2, h3, hA]
        | false => refine Tm.some ?_; show false = okD d; simp [okD, e1, e2, h3, hA]
      · simp only [show ((d.Edges.length : Int) ≠ (d.Accept.length : Int)) = True by simp; omega, decide_true, Option.bind_some, if_true]
        refine Tm.some ?_
        show false = okD d
        simp [okD, h3]
theorem lown_b2_tm {l : List AEdge} (hl : l.length ≤ 100000) : Tm (fun N => loopM (lown_b2 N l) N (([] : List AEdge), 0)) (· = l) := by
  refine Tm.up l.length (fun k s => s.2 = (k : Int) ∧ s.1 = l.take k) ⟨rfl, by simp⟩ ?_
  rintro k hk ⟨m, i⟩ ⟨hi, hm⟩
  dsimp only at hi hm; subst hi; subst hm
  unfold lown_b2
  rcases Nat.lt_or_ge k l.length with hlt | hge
  · refine Tm.pos (by omega) (Tm.step (idx_n hlt) (Tm.step (apnd_ok (by simp; omega) (by decide)) (Tm.some ⟨hlt, iw_n (by omega), ?_⟩)))
    rw [List.take_add_one, List.getElem?_eq_getElem hlt]; rfl
  · refine Tm.neg (by omega) (Tm.some ?_)
    show l.take k = l
    exact List.take_of_length_le (by omega)
theorem lown_tm {d : ADfa} (hd : Lms d) : Tm (fun N => lown N d) (· = d) := by
  unfold lown
  refine Tm.step (apnd_ok (by simp; have := hd.1; omega) (by decide)) ?_
  have : Tm (fun N => loopM (lown_b1 N d) N (([] : List (List AEdge)), 0)) (· = d.Edges) := by
    refine Tm.up d.Edges.length (fun k s => s.2 = (k : Int) ∧ s.1 = d.Edges.take k) ⟨rfl, by simp⟩ ?_
    rintro k hk ⟨m, i⟩ ⟨hi, hm⟩
    dsimp only at hi hm; subst hi; subst hm
    unfold lown_b1
    have := hd.2.1
    rcases Nat.lt_or_ge k d.Edges.length with hlt | hge
    · refine Tm.pos (by omega) (Tm.step (idx_n hlt) ((lown_b2_tm (hd.2.2 _ (List.getElem_mem hlt))).eq (Tm.step (apnd_ok (by simp; omega) (by decide)) (Tm.some ⟨hlt, iw_n (by omega), ?_⟩))))
      rw [List.take_add_one, List.getElem?_eq_getElem hlt]; rfl
    · refine Tm.neg (by omega) (Tm.some ?_)
      show d.Edges.take k = d.Edges
      exact List.take_of_length_le (by omega)
  exact this.eq (Tm.some rfl)
def stepE : List AEdge → Int → Int
  | [], _ => -1
  | e :: l, c => if e.Low ≤ c ∧ c ≤ e.High then e.To else stepE l c
def stp (d : ADfa) (s c : Int) : Int := if s = -1 then -1 else stepE (d.Edges.getD s.toNat []) c
def fin (d : ADfa) (s : Int) : Bool := if s = -1 then false else d.Accept.getD s.toNat false
def St (n : Nat) (s : Int) : Prop := -1 ≤ s ∧ s < n
theorem stepE_drop {l : List AEdge} {k : Nat} {c : Int} (hk : k < l.length) : stepE (l.drop k) c = if l[k].Low ≤ c ∧ c ≤ l[k].High then l[k].To else stepE (l.drop (k + 1)) c := by
  rw [List.drop_eq_getElem_cons hk]; rfl
theorem stepE_st {n : Nat} {c : Int} : ∀ {b : Int} {l : List AEdge}, okE n b l = true → St n (stepE l c)
  | _, [], _ => ⟨Int.le_refl _, by show (-1 : Int) < n; omega⟩
  | b, e :: l, h => by
    obtain ⟨⟨_, _, _, h4, h5⟩, h6⟩ := okE_cons.1 h
    unfold stepE
    split
    · exact ⟨by omega, h5⟩
    · exact stepE_st h6
theorem getD_of {α : Type} {l : List α} {n : Nat} {x : α} (h : n < l.length) : l.getD n x = l[n] := by rw [List.getD_eq_getElem?_getD, List.getElem?_eq_getElem h]; rfl
theorem stp_st {d : ADfa} (hd : okD d = true) {s c : Int} (hs : St d.Accept.length s) : St d.Accept.length (stp d s c) := by
  unfold stp
  split
  · exact ⟨Int.le_refl _, by omega⟩
  · obtain ⟨h1, h2, h3, h4⟩ := okD_iff.1 hd
    have := hs.1; have := hs.2
    have hlt : s.toNat < d.Edges.length := by omega
    rw [getD_of hlt]
    exact stepE_st (h4 _ (List.getElem_mem hlt))
theorem aStep_tm {d : ADfa} (hd : okD d = true) {s c : Int} (hs : St d.Accept.length s) : Tm (fun N => aStep N d s c) (· = stp d s c) := by
  unfold aStep stp
  have hl := okD_lms hd
  obtain ⟨h1, h2, h3, h4⟩ := okD_iff.1 hd
  have := hs.1; have := hs.2
  refine Tm.ite (fun e => ?_) (fun e => ?_)
  · rw [if_pos e]; exact Tm.some rfl
  · rw [if_neg e]
    have hlt : s.toNat < d.Edges.length := by omega
    rw [getD_of hlt]
    refine Tm.step (idx_i (n := s.toNat) (by omega) hlt) ?_
    generalize hL : d.Edges[s.toNat] = l
    have hll : l.length ≤ 100000 := by rw [← hL]; exact hl.2.2 _ (List.getElem_mem hlt)
    have loop : Tm (fun N => loopM (aStep_b1 N c l) N 0) (fun r => (r = Sum.inl () ∧ stepE l c = -1) ∨ r = Sum.inr (stepE l c)) := by
      refine Tm.up l.length (fun k s => s = (k : Int) ∧ stepE l c = stepE (l.drop k) c) ⟨rfl, by simp⟩ ?_
      rintro k hk i ⟨rfl, ho⟩
      unfold aStep_b1
      rcases Nat.lt_or_ge k l.length with hlt | hge
      · refine Tm.pos (by omega) (Tm.step (idx_n hlt) ?_)
        rw [stepE_drop hlt] at ho
        by_cases a : l[k].Low ≤ c
        · rw [if_pos a]
          by_cases b : c ≤ l[k].High
          · simp only [decide_eq_true b, Option.bind_some, if_true]
            refine Tm.some (.inr ?_)
            rw [ho, if_pos ⟨a, b⟩]
          · simp only [decide_eq_false b, Option.bind_some, Bool.false_eq_true, if_false]
            refine Tm.some ⟨hlt, iw_n (by omega), ?_⟩
            rw [ho, if_neg (fun h => b h.2)]
        · simp only [if_neg a, Option.bind_some, Bool.false_eq_true, if_false]
          refine Tm.some ⟨hlt, iw_n (by omega), ?_⟩
          rw [ho, if_neg (fun h => a h.1)]
      · refine Tm.neg (by omega) (Tm.some (.inl ⟨rfl, ?_⟩))
        have : k = l.length := by omega
        subst this
        rw [ho]; simp [stepE]
    refine loop.bind fun r hr => ?_
    rcases hr with ⟨rfl, h⟩ | rfl
    · exact Tm.some h.symm
    · exact Tm.some rfl
theorem rStep_tm {d : ADfa} (hd : okD d = true) {s c : Int} (hs : St d.Accept.length s) : Tm (fun N => rStep N d s c) (· = stp d s c) := by
  unfold rStep stp
  have hl := okD_lms hd
  obtain ⟨h1, h2, h3, h4⟩ := okD_iff.1 hd
  have := hs.1; have := hs.2
  refine Tm.ite (fun e => ?_) (fun e => ?_)
  · rw [if_pos (by omega)]; exact Tm.some rfl
  · rw [if_neg (by omega)]
    have hlt : s.toNat < d.Edges.length := by omega
    rw [getD_of hlt]
    generalize hL : d.Edges[s.toNat] = l
    have hll : l.length ≤ 100000 := by rw [← hL]; exact hl.2.2 _ (List.getElem_mem hlt)
    have hix : idx d.Edges s = some l := by rw [← hL]; exact idx_i (n := s.toNat) (by omega) hlt
    have loop : Tm (fun N => loopM (rStep_b1 N c d s) N 0) (fun r => (r = Sum.inl () ∧ stepE l c = -1) ∨ r = Sum.inr (stepE l c)) := by
      refine Tm.up l.length (fun k s => s = (k : Int) ∧ stepE l c = stepE (l.drop k) c) ⟨rfl, by simp⟩ ?_
      rintro k hk i ⟨rfl, ho⟩
      unfold rStep_b1
      refine Tm.step hix ?_
      rcases Nat.lt_or_ge k l.length with hlt | hge
      · refine Tm.pos (by omega) (Tm.step hix (Tm.step (idx_n hlt) ?_))
        rw [stepE_drop hlt] at ho
        by_cases a : l[k].Low ≤ c
        · rw [if_pos a]
          by_cases b : c ≤ l[k].High
          · simp only [decide_eq_true b, Option.bind_some, if_true]
            refine Tm.some (.inr ?_)
            rw [ho, if_pos ⟨a, b⟩]
          · simp only [decide_eq_false b, Option.bind_some, Bool.false_eq_true, if_false]
            refine Tm.some ⟨hlt, iw_n (by omega), ?_⟩
            rw [ho, if_neg (fun h => b h.2)]
        · simp only [if_neg a, Option.bind_some, Bool.false_eq_true, if_false]
          refine Tm.some ⟨hlt, iw_n (by omega), ?_⟩
          rw [ho, if_neg (fun h => a h.1)]
      · refine Tm.neg (by omega) (Tm.some (.inl ⟨rfl, ?_⟩))
        have : k = l.length := by omega
        subst this
        rw [ho]; simp [stepE]
    refine loop.bind fun r hr => ?_
    rcases hr with ⟨rfl, h⟩ | rfl
    · exact Tm.some h.symm
    · exact Tm.some rfl
theorem aFinal_tm {d : ADfa} {s : Int} (hs : St d.Accept.length s) : Tm (fun N => aFinal N d s) (· = fin d s) := by
  unfold aFinal fin
  have := hs.1; have := hs.2
  refine Tm.ite (fun e => ?_) (fun e => ?_)
  · rw [if_neg e, getD_of (by omega)]
    exact Tm.step (idx_i (n := s.toNat) (by omega) (by omega)) (Tm.some rfl)
  · rw [if_pos (by omega)]; exact Tm.some rfl
theorem rFinal_tm {d : ADfa} {s : Int} (hs : St d.Accept.length s) : Tm (fun N => rFinal N d s) (· = fin d s) := by
  unfold rFinal fin
  have := hs.1; have := hs.2
  refine Tm.ite (fun e => ?_) (fun e => ?_)
  · rw [if_neg (by omega), getD_of (by omega)]
    exact Tm.step (idx_i (n := s.toNat) (by omega) (by omega)) (Tm.some rfl)
  · rw [if_pos (by omega)]; exact Tm.some rfl
def run (d : ADfa) (s : Int) (w : List Int) : Int := w.foldl (stp d) s
theorem run_st {d : ADfa} (hd : okD d = true) : ∀ {w : List Int} {s : Int}, St d.Accept.length s → St d.Accept.length (run d s w)
  | [], _, hs => hs
  | c :: w, s, hs => run_st (w := w) hd (stp_st hd hs)
theorem st0 {d : ADfa} (hd : okD d = true) : St d.Accept.length 0 := by
  have := (okD_iff.1 hd).1
  exact ⟨by omega, by omega⟩
def few (d : ADfa) : Bool := decide (d.Accept.length ≤ 8) && okD d
theorem rFew_tm {d : ADfa} (hd : Lim d) (hw : Wf d) : Tm (fun N => rFew N d) (· = few d) := by
  unfold rFew few
  by_cases h : d.Accept.length ≤ 8
  · refine Tm.pos (by omega) ((rValid_tm hd hw).eq (Tm.some ?_))
    show okD d = _
    simp [h]
  · refine Tm.neg (by omega) (Tm.some ?_)
    show false = _
    simp [h]
end Go.D
set_option linter.unusedSimpArgs false
set_option linter.unusedVariables false
namespace Go.D
open Go Go.X
end Go.D
set_option linter.unusedVariables false
set_option linter.unusedSimpArgs false
namespace Go.D
open Go Go.X
theorem uw8_n {c : Nat} (h : c < 255) : uw8 ((c : Int) + 1) = ((c + 1 : Nat) : Int) := by rw [uw8_eq] <;> omega
theorem nodup_lt : ∀ (K : Nat) {l : List Nat}, l.Nodup → (∀ x ∈ l, x < K) → l.length ≤ K
  | 0, l, _, h => by
    cases l with
    | nil => exact Nat.le_refl _
    | cons x l => exact absurd (h x List.mem_cons_self) (by omega)
  | K + 1, l, hn, h => by
    have h1 := nodup_lt K (hn.erase K) (fun x hx => by
      have := (hn.mem_erase_iff).1 hx
      have := h x this.2
      omega)
    rw [List.length_erase] at h1
    split at h1 <;> omega
theorem rPlace_tm {l : List APair2} (hl : l.length ≤ 9223372036854775807) (p : APair2) :
    Tm (fun N => rPlace N l p) (fun r => (r = (l.length : Int) ∧ p ∉ l) ∨ ∃ j : Nat, r = (j : Int) ∧ l[j]? = some p) := by
  unfold rPlace
  have loop : Tm (fun N => loopM (rPlace_b1 N l p) N 0) (fun r => (r = Sum.inl () ∧ p ∉ l) ∨ ∃ j : Nat, r = Sum.inr (j : Int) ∧ l[j]? = some p) := by
    refine Tm.up l.length (fun k i => i = (k : Int) ∧ p ∉ l.take k) ⟨rfl, by simp⟩ ?_
    rintro k hk i ⟨rfl, ho⟩
    unfold rPlace_b1
    rcases Nat.lt_or_ge k l.length with hlt | hge
    · refine Tm.pos (by omega) (Tm.step (idx_n hlt) (Tm.ite (fun h => Tm.some (.inr ⟨k, rfl, ?_⟩)) (fun h => Tm.some ⟨hlt, iw_n (by omega), ?_⟩)))
      · rw [List.getElem?_eq_getElem hlt]
        generalize l[k] = q at *
        obtain ⟨qa, qb⟩ := q; obtain ⟨pa, pb⟩ := p
        obtain ⟨h1, h2⟩ := h
        dsimp only at h1 h2
        rw [h1, h2]
      · rw [List.take_add_one, List.getElem?_eq_getElem hlt]
        intro hm
        rcases List.mem_append.1 hm with hm | hm
        · exact ho hm
        · have : p = l[k] := by simpa using hm
          rw [← this] at h
          exact h ⟨rfl, rfl⟩
    · refine Tm.neg (by omega) (Tm.some (.inl ⟨rfl, ?_⟩))
      rwa [List.take_of_length_le hge] at ho
  refine loop.bind fun r hr => ?_
  rcases hr with ⟨rfl, h⟩ | ⟨j, rfl, h⟩
  · exact Tm.some (.inl ⟨rfl, h⟩)
  · exact Tm.some (.inr ⟨j, rfl, h⟩)
def Pr (w : List Int) : Prop := ∀ c ∈ w, 32 ≤ c ∧ c ≤ 126
def nx (a b : ADfa) (p : APair2) (c : Int) : APair2 := ⟨stp a p.A c, stp b p.B c⟩
def Rch (a b : ADfa) (p : APair2) : Prop := ∃ w, Pr w ∧ p = ⟨run a 0 w, run b 0 w⟩
theorem run_snoc {d : ADfa} {s : Int} {w : List Int} {c : Int} : run d s (w ++ [c]) = stp d (run d s w) c := by unfold run; rw [List.foldl_append]; rfl
theorem Rch.nx {a b : ADfa} {p : APair2} {c : Int} (h : Rch a b p) (h1 : 32 ≤ c) (h2 : c ≤ 126) : Rch a b (nx a b p c) := by
  obtain ⟨w, hw, rfl⟩ := h
  refine ⟨w ++ [c], fun x hx => ?_, by rw [run_snoc, run_snoc]; rfl⟩
  rcases List.mem_append.1 hx with hx | hx
  · exact hw x hx
  · rw [List.mem_singleton.1 hx]; exact ⟨h1, h2⟩
theorem Rch.zero {a b : ADfa} : Rch a b ⟨0, 0⟩ := ⟨[], fun _ h => (by cases h), rfl⟩
theorem Rch.st {a b : ADfa} {p : APair2} (ha : okD a = true) (hb : okD b = true) (h : Rch a b p) : St a.Accept.length p.A ∧ St b.Accept.length p.B := by
  obtain ⟨w, _, rfl⟩ := h
  exact ⟨run_st ha (st0 ha), run_st hb (st0 hb)⟩
theorem pairs_len {a b : ADfa} {l : List APair2} (ha : okD a = true) (hb : okD b = true) (hn : l.Nodup) (hr : ∀ p ∈ l, Rch a b p) : l.length ≤ 16785409 := by
  have e1 := (okD_iff.1 ha).2.1
  have e2 := (okD_iff.1 hb).2.1
  have hm : (l.map fun p => (p.A + 1).toNat * 4097 + (p.B + 1).toNat).Nodup := by
    rw [List.nodup_iff_pairwise_ne, List.pairwise_map]
    refine List.Pairwise.imp_of_mem (fun {p q} hp hq hne => ?_) (List.nodup_iff_pairwise_ne.1 hn)
    intro heq
    have s1 := (hr p hp).st ha hb
    have s2 := (hr q hq).st ha hb
    obtain ⟨pa, pb⟩ := p; obtain ⟨qa, qb⟩ := q
    have t1 := s1.1.1; have t2 := s1.1.2; have t3 := s1.2.1; have t4 := s1.2.2
    have t5 := s2.1.1; have t6 := s2.1.2; have t7 := s2.2.1; have t8 := s2.2.2
    dsimp only at *
    apply hne
    have : pa = qa ∧ pb = qb := by omega
    rw [this.1, this.2]
  have := nodup_lt 16785409 hm (fun x hx => by
    obtain ⟨p, hp, rfl⟩ := List.mem_map.1 hx
    have s1 := (hr p hp).st ha hb
    have t1 := s1.1.1; have t2 := s1.1.2; have t3 := s1.2.1; have t4 := s1.2.2
    omega)
  simpa using this
structure PS (a b : ADfa) (l : List APair2) : Prop where
  nd : l.Nodup
  rch : ∀ p ∈ l, Rch a b p
  zero : l[0]? = some ⟨0, 0⟩
  cl : ∀ p ∈ l, ∀ c, 32 ≤ c → c ≤ 126 → nx a b p c ∈ l
theorem PS.run {a b : ADfa} {l : List APair2} (h : PS a b l) {w : List Int} (hw : Pr w) : (⟨run a 0 w, run b 0 w⟩ : APair2) ∈ l := by
  have : ∀ (w : List Int) (s t : Int), Pr w → (⟨s, t⟩ : APair2) ∈ l → (⟨D.run a s w, D.run b t w⟩ : APair2) ∈ l := by
    intro w
    induction w with
    | nil => intro s t _ h; exact h
    | cons c w ih =>
      intro s t hw hm
      have hc := hw c List.mem_cons_self
      exact ih _ _ (fun x hx => hw x (List.mem_cons_of_mem _ hx)) (h.cl _ hm c hc.1 hc.2)
  exact this w 0 0 hw (List.mem_of_getElem? h.zero)
theorem mem_getElem?_append {α : Type} {l m : List α} {i : Nat} {x : α} (h : l[i]? = some x) : (l ++ m)[i]? = some x := by
  rw [List.getElem?_append_left (List.getElem?_eq_some_iff.1 h).1]; exact h
theorem rPairs_tm {a b : ADfa} (ha : okD a = true) (hb : okD b = true) : Tm (fun N => rPairs N a b) (PS a b) := by
  unfold rPairs
  have outer : Tm (fun N => loopM (rPairs_b1 N a b) N ([(APair2.mk 0 0)], 0)) (PS a b) := by
    refine Tm.loopG (fun (i : Nat) (s : List APair2 × Int) => s.2 = (i : Int) ∧ i ≤ s.1.length ∧ s.1.Nodup ∧ (∀ p ∈ s.1, Rch a b p) ∧ s.1[0]? = some ⟨0, 0⟩ ∧ ∀ j p, j < i → s.1[j]? = some p → ∀ c, 32 ≤ c → c ≤ 126 → nx a b p c ∈ s.1) (fun i => 16785409 - i) 0
      ⟨rfl, Nat.zero_le _, by simp, fun p hp => by rw [List.mem_singleton.1 hp]; exact Rch.zero, rfl, fun j p hj => absurd hj (by omega)⟩ ?_
    rintro i ⟨l, ii⟩ ⟨hi, hil, hnd, hrc, hz, hcl⟩
    dsimp only at hi hil hnd hrc hz hcl; subst hi
    have hlen := pairs_len ha hb hnd hrc
    unfold rPairs_b1
    rcases Nat.lt_or_ge i l.length with hlt | hge
    · refine Tm.pos (by omega) ?_
      have hp : l[i]? = some l[i] := List.getElem?_eq_getElem hlt
      have inner : Tm (fun N => loopM (rPairs_b2 N a b (i : Int)) N (l, 32)) (fun l' => (∃ m, l' = l ++ m) ∧ l'.Nodup ∧ (∀ p ∈ l', Rch a b p) ∧ ∀ c, 32 ≤ c → c ≤ 126 → nx a b l[i] c ∈ l') := by
        refine Tm.up 95 (fun k (s : List APair2 × Int) => s.2 = ((32 + k : Nat) : Int) ∧ (∃ m, s.1 = l ++ m) ∧ s.1.Nodup ∧ (∀ p ∈ s.1, Rch a b p) ∧ ∀ c : Int, 32 ≤ c → c < 32 + k → nx a b l[i] c ∈ s.1)
          ⟨rfl, ⟨[], by simp⟩, hnd, hrc, fun c h1 h2 => by omega⟩ ?_
        rintro k hk ⟨l', cc⟩ ⟨hc, ⟨m, hm⟩, hnd', hrc', hcl'⟩
        dsimp only at hc hm hnd' hrc' hcl'; subst hc
        have hlen' := pairs_len ha hb hnd' hrc'
        have hpi : l'[i]? = some l[i] := by rw [hm]; exact mem_getElem?_append hp
        have hst := (hrc' _ (List.mem_of_getElem? hpi)).st ha hb
        unfold rPairs_b2
        rcases Nat.lt_or_ge k 95 with hk1 | hk1
        · refine Tm.pos (by omega) (Tm.step (idx_get hpi) ((rStep_tm ha hst.1).eq (Tm.step (idx_get hpi) ((rStep_tm hb hst.2).eq ((rPlace_tm (by omega) _).bind fun r hr => ?_)))))
          have hnx : Rch a b (nx a b l[i] ((32 + k : Nat) : Int)) := (hrc' _ (List.mem_of_getElem? hpi)).nx (by omega) (by omega)
          have hcon : ∀ l2 : List APair2, (∀ p ∈ l', p ∈ l2) → nx a b l[i] ((32 + k : Nat) : Int) ∈ l2 → ∀ c : Int, 32 ≤ c → c < 32 + ((k + 1 : Nat) : Int) → nx a b l[i] c ∈ l2 := by
            intro l2 hsub hin c h1 h2
            by_cases hce : c = ((32 + k : Nat) : Int)
            · rw [hce]; exact hin
            · exact hsub _ (hcl' c h1 (by omega))
          rcases hr with ⟨rfl, hnot⟩ | ⟨j, rfl, hj⟩
          · refine Tm.pos rfl (Tm.step (apnd_ok (by simp; omega) (by decide)) (Tm.some ⟨hk1, ?_, ⟨m ++ [_], by rw [hm, List.append_assoc]⟩, ?_, ?_, ?_⟩))
            · show uw8 _ = _
              rw [uw8_n (by omega)]; congr 1
            · refine List.nodup_append.2 ⟨hnd', by simp, fun x hx y hy => ?_⟩
              rw [List.mem_singleton.1 hy]
              exact fun h => hnot (h ▸ hx)
            · intro p hp
              rcases List.mem_append.1 hp with hp | hp
              · exact hrc' p hp
              · rw [List.mem_singleton.1 hp]; exact hnx
            · exact hcon _ (fun p hp => List.mem_append_left _ hp) (List.mem_append_right _ (by simp [nx]))
          · have hjl : j < l'.length := (List.getElem?_eq_some_iff.1 hj).1
            refine Tm.neg (by omega) (Tm.some ⟨hk1, ?_, ⟨m, hm⟩, hnd', hrc', hcon _ (fun p hp => hp) (List.mem_of_getElem? hj)⟩)
            show uw8 _ = _
            rw [uw8_n (by omega)]; congr 1
        · refine Tm.neg (by omega) (Tm.some ⟨⟨m, hm⟩, hnd', hrc', fun c h1 h2 => hcl' c h1 (by omega)⟩)
      refine inner.bind fun l' hl' => ?_
      obtain ⟨⟨m, hm⟩, hnd', hrc', hcl'⟩ := hl'
      refine Tm.some ⟨i + 1, ⟨iw_n (by omega), by rw [hm, List.length_append]; omega, hnd', hrc', by rw [hm]; exact mem_getElem?_append hz, fun j p hj hjp c h1 h2 => ?_⟩, by omega⟩
      by_cases hji : j = i
      · subst hji
        have : l'[j]? = some l[j] := by rw [hm]; exact mem_getElem?_append hp
        rw [hjp] at this; cases this
        exact hcl' c h1 h2
      · have hjl : l[j]? = some p := by
          rw [hm, List.getElem?_append_left (by omega)] at hjp; exact hjp
        have := hcl j p (by omega) hjl c h1 h2
        rw [hm]; exact List.mem_append_left _ this
    · refine Tm.neg (by omega) (Tm.some ⟨hnd, hrc, hz, fun p hp c h1 h2 => ?_⟩)
      obtain ⟨j, hj, rfl⟩ := List.mem_iff_getElem.1 hp
      exact hcl j _ (by omega) (List.getElem?_eq_getElem hj) c h1 h2
  exact outer.bind fun l hl => Tm.some hl
end Go.D
set_option linter.unusedVariables false
set_option linter.unusedSimpArgs false
namespace Go.D
open Go Go.X
theorem stepE_hit {e : AEdge} {l : List AEdge} {c : Int} (h1 : e.Low ≤ c) (h2 : c ≤ e.High) : stepE (e :: l) c = e.To := if_pos ⟨h1, h2⟩
theorem stepE_miss {e : AEdge} {l : List AEdge} {c : Int} (h : ¬ (e.Low ≤ c ∧ c ≤ e.High)) : stepE (e :: l) c = stepE l c := if_neg h
theorem containsEdge_tm {l : List AEdge} (hl : l.length ≤ 9223372036854775807) {f : Nat → AEdge → Option Bool} {g : AEdge → Bool} (hf : ∀ e ∈ l, Tm (fun N => f N e) (· = g e)) : Tm (fun N => containsEdge N l (f N)) (· = l.any g) := by
  unfold containsEdge
  have ix : Tm (fun N => indexEdge N l (f N)) (fun r => (r = -1 ∧ l.any g = false) ∨ (0 ≤ r ∧ l.any g = true)) := by
    unfold indexEdge
    have loop : Tm (fun N => loopM (indexEdge_b1 N (f N) l) N 0) (fun r => (r = Sum.inl () ∧ l.any g = false) ∨ ∃ j : Int, r = Sum.inr j ∧ 0 ≤ j ∧ l.any g = true) := by
      refine Tm.up l.length (fun k i => i = (k : Int) ∧ l.any g = (l.drop k).any g) ⟨rfl, by simp⟩ ?_
      rintro k hk i ⟨rfl, ho⟩
      unfold indexEdge_b1
      rcases Nat.lt_or_ge k l.length with hlt | hge
      · rw [List.drop_eq_getElem_cons hlt, List.any_cons] at ho
        refine Tm.pos (by omega) (Tm.step (idx_n hlt) ((hf _ (List.getElem_mem hlt)).eq ?_))
        refine Tm.ite (fun hg => Tm.some (.inr ⟨_, rfl, by omega, by rw [ho, hg]; rfl⟩)) (fun hg => Tm.some ⟨hlt, iw_n (by omega), ?_⟩)
        have : g l[k] = false := by simpa using hg
        rw [ho, this, Bool.false_or]
      · refine Tm.neg (by omega) (Tm.some (.inl ⟨rfl, ?_⟩))
        rw [ho, List.drop_eq_nil_of_le hge]; rfl
    refine loop.bind fun r hr => ?_
    rcases hr with ⟨rfl, h⟩ | ⟨j, rfl, h⟩
    · exact Tm.some (.inl ⟨rfl, h⟩)
    · exact Tm.some (.inr h)
  refine ix.bind fun r hr => Tm.some ?_
  rcases hr with ⟨rfl, h⟩ | ⟨h1, h⟩
  · show decide _ = _
    rw [h]; rfl
  · show decide _ = _
    rw [h]; exact decide_eq_true h1
theorem few_ok {d : ADfa} (h : few d = true) : okD d = true ∧ d.Accept.length ≤ 8 := by
  unfold few at h
  simp only [Bool.and_eq_true, decide_eq_true_eq] at h
  exact ⟨h.2, h.1⟩
theorem okE_mem {n : Int} : ∀ {b : Int} {l : List AEdge}, 31 ≤ b → okE n b l = true → ∀ e ∈ l, 32 ≤ e.Low ∧ e.Low ≤ 126 ∧ 32 ≤ e.High ∧ e.High ≤ 126 ∧ 0 ≤ e.To ∧ e.To < n
  | b, x :: l, hb, h, e, he => by
    obtain ⟨⟨g1, g2, g3, g4, g5⟩, h6⟩ := okE_cons.1 h
    rcases List.mem_cons.1 he with rfl | he
    · exact ⟨by omega, by omega, by omega, g3, g4, g5⟩
    · exact okE_mem (by omega) h6 e he
end Go.D
set_option linter.unusedVariables false
set_option linter.unusedSimpArgs false
namespace Go.D
open Go Go.X
def rg (a : Int) (k : Nat) : List Int := (List.range k).map fun (i : Nat) => a + (i : Int)
def Wd (d : ADfa) : Nat → Int → List (List Int)
  | 0, s => if fin d s = true then [[]] else []
  | n + 1, s => (rg 32 95).flatMap fun c => if stp d s c = -1 then [] else (Wd d n (stp d s c)).map (c :: ·)
def can (d : ADfa) (n : Nat) (s : Int) : Bool := !(Wd d n s).isEmpty
theorem stepE_mem {n : Int} : ∀ {b : Int} {l : List AEdge}, okE n b l = true → ∀ e ∈ l, ∀ c, e.Low ≤ c → c ≤ e.High → stepE l c = e.To
  | b, x :: l, h, e, he, c, h1, h2 => by
    obtain ⟨⟨g1, g2, g3, g4, g5⟩, h6⟩ := okE_cons.1 h
    rcases List.mem_cons.1 he with rfl | he
    · exact stepE_hit h1 h2
    · have hm : x.High < e.Low := by
        have gen : ∀ {b : Int} {l : List AEdge}, okE n b l = true → ∀ e ∈ l, b < e.Low := by
          intro b l
          induction l generalizing b with
          | nil => intro _ e he; cases he
          | cons y l ih =>
            intro h e he
            obtain ⟨⟨k1, k2, _⟩, k6⟩ := okE_cons.1 h
            rcases List.mem_cons.1 he with rfl | he
            · exact k1
            · have := ih k6 e he; omega
        exact gen h6 e he
      rw [stepE_miss (fun x => by omega)]
      exact stepE_mem h6 e he c h1 h2
theorem bstr_append {a b : List Int} : bstr (a ++ b) = bstr a ++ bstr b := by unfold bstr; rw [List.map_append]
theorem bstr_len {a : List Int} : (bstr a).length = a.length := by unfold bstr; simp
end Go.D
set_option linter.unusedVariables false
set_option linter.unusedSimpArgs false
namespace Go.D
open Go Go.X
theorem okE_lh {n : Int} : ∀ {b : Int} {l : List AEdge}, okE n b l = true → ∀ e ∈ l, e.Low ≤ e.High
  | b, y :: l, h, e, he => by
    obtain ⟨⟨k1, k2, _⟩, k6⟩ := okE_cons.1 h
    rcases List.mem_cons.1 he with rfl | he
    · exact k2
    · exact okE_lh k6 e he
theorem stepE_is {c t : Int} : ∀ {l : List AEdge}, stepE l c = t → t ≠ -1 → ∃ e ∈ l, e.To = t
  | [], h, ht => absurd h.symm ht
  | x :: l, h, ht => by
    unfold stepE at h
    split at h
    · exact ⟨x, List.mem_cons_self, h⟩
    · obtain ⟨e, he, h2⟩ := stepE_is h ht
      exact ⟨e, List.mem_cons_of_mem _ he, h2⟩
end Go.D
set_option linter.unusedVariables false
set_option linter.unusedSimpArgs false
namespace Go.D
open Go Go.X
def lexlt : List Int → List Int → Prop
  | a :: l, b :: m => a < b ∨ (a = b ∧ lexlt l m)
  | _, _ => False
def slt (u v : List Int) : Prop := u.length < v.length ∨ (u.length = v.length ∧ lexlt u v)
def sle (u v : List Int) : Prop := slt u v ∨ u = v
theorem lexlt_irrefl : ∀ {l : List Int}, ¬ lexlt l l
  | [], h => h
  | a :: l, h => by
    rcases h with h | ⟨_, h⟩
    · omega
    · exact lexlt_irrefl h
theorem lexlt_trans : ∀ {a b c : List Int}, lexlt a b → lexlt b c → lexlt a c
  | [], _, _, h, _ => by cases h
  | x :: a, [], _, h, _ => by cases h
  | x :: a, y :: b, [], _, h => by cases h
  | x :: a, y :: b, z :: c, h, h' => by
    rcases h with h | ⟨h1, h2⟩
    · rcases h' with h' | ⟨h3, _⟩
      · exact .inl (by omega)
      · exact .inl (by omega)
    · rcases h' with h' | ⟨h3, h4⟩
      · exact .inl (by omega)
      · exact .inr ⟨by omega, lexlt_trans h2 h4⟩
theorem lexlt_app : ∀ {a b c e : List Int}, a.length = b.length → lexlt a b → lexlt (a ++ c) (b ++ e)
  | [], _, _, _, _, h => by cases h
  | x :: a, [], _, _, _, h => by cases h
  | x :: a, y :: b, c, e, hl, h => by
    rcases h with h | ⟨h1, h2⟩
    · exact .inl h
    · exact .inr ⟨h1, lexlt_app (by simpa using hl) h2⟩
theorem lexlt_last {c e : Int} (h : c < e) : ∀ {a : List Int}, lexlt (a ++ [c]) (a ++ [e])
  | [] => .inl h
  | x :: a => .inr ⟨rfl, lexlt_last h⟩
theorem slt_irrefl {l : List Int} : ¬ slt l l := by
  rintro (h | ⟨_, h⟩)
  · omega
  · exact lexlt_irrefl h
theorem slt_trans {a b c : List Int} (h : slt a b) (h' : slt b c) : slt a c := by
  rcases h with h | ⟨h1, h2⟩
  · rcases h' with h' | ⟨h3, _⟩
    · exact .inl (by omega)
    · exact .inl (by omega)
  · rcases h' with h' | ⟨h3, h4⟩
    · exact .inl (by omega)
    · exact .inr ⟨by omega, lexlt_trans h2 h4⟩
theorem slt_snoc {a b : List Int} {c e : Int} (h : slt a b) : slt (a ++ [c]) (b ++ [e]) := by
  rcases h with h | ⟨h1, h2⟩
  · exact .inl (by simp; omega)
  · exact .inr ⟨by simp [h1], lexlt_app h1 h2⟩
theorem slt_last {a : List Int} {c e : Int} (h : c < e) : slt (a ++ [c]) (a ++ [e]) := .inr ⟨by simp, lexlt_last h⟩
theorem slt_ext {a : List Int} {c : Int} : slt a (a ++ [c]) := .inl (by simp)
theorem sle_trans {a b c : List Int} (h : sle a b) (h' : sle b c) : sle a c := by
  rcases h with h | rfl
  · rcases h' with h' | rfl
    · exact .inl (slt_trans h h')
    · exact .inl h
  · exact h'
theorem sle_snoc {a b : List Int} {c : Int} (h : sle a b) : sle (a ++ [c]) (b ++ [c]) := by
  rcases h with h | rfl
  · exact .inl (slt_snoc h)
  · exact .inr rfl
theorem sle_last {a : List Int} {c e : Int} (h : c ≤ e) : sle (a ++ [c]) (a ++ [e]) := by
  by_cases h' : c = e
  · subst h'; exact .inr rfl
  · exact .inl (slt_last (by omega))
theorem sle_antisymm {a b : List Int} (h : sle a b) (h' : sle b a) : a = b := by
  rcases h with h | h
  · rcases h' with h' | h'
    · exact absurd (slt_trans h h') slt_irrefl
    · exact h'.symm
  · exact h
end Go.D
set_option linter.unusedVariables false
set_option linter.unusedSimpArgs false
namespace Go.D
open Go Go.X
abbrev Itm := Nat × List Int
def itm (x : Itm) : AItem := ⟨(x.1 : Int), bstr x.2⟩
structure Bf (d : ADfa) (seen : List Bool) (D Q : List Itm) : Prop where
  sl : seen.length = d.Accept.length
  sn : ∀ (j : Nat) (h : j < seen.length), seen[j] = true ↔ ∃ w, (j, w) ∈ D ++ Q
  ok : ∀ x ∈ D ++ Q, x.1 < d.Accept.length ∧ Pr x.2 ∧ run d 0 x.2 = (x.1 : Int)
  asc : (D ++ Q).Pairwise fun a b => slt a.2 b.2
  nd : ((D ++ Q).map (·.1)).Nodup
  zero : ((0, []) : Itm) ∈ D ++ Q
  len : ∀ (i : Nat) (h : i < (D ++ Q).length), ((D ++ Q)[i]).2.length ≤ i
def Cov (d : ADfa) (D L : List Itm) : Prop := ∀ u ∈ D, ∀ c, 32 ≤ c → c ≤ 126 → stp d (u.1 : Int) c ≠ -1 → ∃ x ∈ L, (x.1 : Int) = stp d (u.1 : Int) c ∧ sle x.2 (u.2 ++ [c])
def Par (D Q : List Itm) : Prop := ∀ q ∈ Q, q.2 = [] ∨ ∃ u ∈ D, ∃ c, q.2 = u.2 ++ [c]
theorem Bf.count {d : ADfa} {seen : List Bool} {D Q : List Itm} (h : Bf d seen D Q) : (D ++ Q).length ≤ d.Accept.length := by
  have := nodup_lt d.Accept.length h.nd (fun x hx => by
    obtain ⟨y, hy, rfl⟩ := List.mem_map.1 hx
    exact (h.ok y hy).1)
  simpa using this
theorem Bf.first {d : ADfa} (hd : okD d = true) {seen : List Bool} {D Q : List Itm} (h : Bf d seen D Q) (hc : Cov d D (D ++ Q)) (hf : ∀ u ∈ D, fin d (u.1 : Int) = false) {v : List Int} (hv : Pr v) (ha : fin d (run d 0 v) = true) : ∃ q ∈ Q, sle q.2 v := by
  have key : ∀ (n : Nat) (v : List Int), v.length = n → Pr v → run d 0 v ≠ -1 → (∃ u ∈ D, (u.1 : Int) = run d 0 v ∧ sle u.2 v) ∨ ∃ q ∈ Q, sle q.2 v := by
    intro n
    induction n with
    | zero =>
      intro v hl _ _
      have : v = [] := List.eq_nil_of_length_eq_zero hl
      subst this
      rcases List.mem_append.1 h.zero with hz | hz
      · exact .inl ⟨_, hz, rfl, .inr rfl⟩
      · exact .inr ⟨_, hz, .inr rfl⟩
    | succ n ih =>
      intro v hl hp hne
      obtain ⟨u, c, rfl⟩ : ∃ u c, v = u ++ [c] := ⟨v.dropLast, v.getLast (by intro e; rw [e] at hl; simp at hl), (List.dropLast_concat_getLast _).symm⟩
      rw [run_snoc] at hne
      have hne' : run d 0 u ≠ -1 := by
        intro e; rw [e] at hne
        exact hne (by unfold stp; rw [if_pos rfl])
      have hc2 := hp c (by simp)
      rcases ih u (by simpa using hl) (fun x hx => hp x (List.mem_append_left _ hx)) hne' with ⟨x, hx, hx1, hx2⟩ | ⟨q, hq, hq2⟩
      · obtain ⟨y, hy, hy1, hy2⟩ := hc x hx c hc2.1 hc2.2 (by rw [hx1]; exact hne)
        rw [hx1] at hy1
        rw [run_snoc]
        have hle : sle y.2 (u ++ [c]) := sle_trans hy2 (sle_snoc hx2)
        rcases List.mem_append.1 hy with hy | hy
        · exact .inl ⟨y, hy, hy1, hle⟩
        · exact .inr ⟨y, hy, hle⟩
      · exact .inr ⟨q, hq, sle_trans hq2 (.inl slt_ext)⟩
  have hne : run d 0 v ≠ -1 := by
    intro e; rw [e] at ha; unfold fin at ha; rw [if_pos rfl] at ha; cases ha
  rcases key _ v rfl hv hne with ⟨u, hu, hu1, _⟩ | h
  · rw [← hu1, hf u hu] at ha; cases ha
  · exact h
theorem stepE_edge {c t : Int} : ∀ {l : List AEdge}, stepE l c = t → t ≠ -1 → ∃ (i : Nat) (h : i < l.length), l[i].To = t ∧ l[i].Low ≤ c ∧ c ≤ l[i].High
  | [], h, ht => absurd h.symm ht
  | x :: l, h, ht => by
    unfold stepE at h
    split at h
    · rename_i hx
      exact ⟨0, by simp, h, hx.1, hx.2⟩
    · obtain ⟨i, hi, h1, h2⟩ := stepE_edge h ht
      exact ⟨i + 1, by simp; omega, h1, h2⟩
theorem okE_asc {n : Int} : ∀ {b : Int} {l : List AEdge}, okE n b l = true → ∀ (i j : Nat) (hi : i < l.length) (hj : j < l.length), i < j → l[i].Low < l[j].Low
  | b, x :: l, h, i, j, hi, hj, hij => by
    obtain ⟨⟨g1, g2, _⟩, h6⟩ := okE_cons.1 h
    have gen : ∀ {b : Int} {l : List AEdge}, okE n b l = true → ∀ e ∈ l, b < e.Low := by
      intro b l
      induction l generalizing b with
      | nil => intro _ e he; cases he
      | cons y l ih =>
        intro h e he
        obtain ⟨⟨k1, k2, _⟩, k6⟩ := okE_cons.1 h
        rcases List.mem_cons.1 he with rfl | he
        · exact k1
        · have := ih k6 e he; omega
    cases j with
    | zero => omega
    | succ j =>
      cases i with
      | zero =>
        have := gen h6 _ (List.getElem_mem (by simpa using hj : j < l.length))
        simp only [List.getElem_cons_zero, List.getElem_cons_succ]; omega
      | succ i =>
        simp only [List.getElem_cons_succ]
        exact okE_asc h6 i j _ _ (by omega)
theorem aShortest_row {d : ADfa} (hd : okD d = true) {seen : List Bool} {D Q : List Itm} {x : Itm} (h : Bf d seen D (x :: Q)) (hp : Par D (x :: Q)) {l : List AEdge} (hl : d.Edges[x.1]? = some l) :
    Tm (fun N => loopM (aShortest_b2 N (itm x) l) N (seen, (x :: Q).map itm, 0)) (fun r => ∃ New : List Itm, r.2 = (x :: Q ++ New).map itm ∧ Bf d r.1 D (x :: Q ++ New) ∧ (∀ y ∈ New, ∃ c, y.2 = x.2 ++ [c]) ∧
      ∀ c, 32 ≤ c → c ≤ 126 → stp d (x.1 : Int) c ≠ -1 → ∃ y ∈ D ++ (x :: Q ++ New), (y.1 : Int) = stp d (x.1 : Int) c ∧ sle y.2 (x.2 ++ [c])) := by
  obtain ⟨g1, g2, g3, g4⟩ := okD_iff.1 hd
  have hxl : x.1 < d.Edges.length := (List.getElem?_eq_some_iff.1 hl).1
  have hle : d.Edges[x.1] = l := (List.getElem?_eq_some_iff.1 hl).2
  have hok : okE d.Accept.length 31 l = true := by rw [← hle]; exact g4 _ (List.getElem_mem hxl)
  have hll := okE_len hok
  have hxm : x ∈ D ++ x :: Q := List.mem_append_right _ List.mem_cons_self
  obtain ⟨x1, x2, x3⟩ := h.ok x hxm
  have hDl : x.2.length ≤ D.length := by
    have := h.len D.length (by simp)
    simpa using this
  have hcnt0 := h.count
  have loop : Tm (fun N => loopM (aShortest_b2 N (itm x) l) N (seen, (x :: Q).map itm, 0)) (fun r => ∃ New : List Itm, r.2 = (x :: Q ++ New).map itm ∧ Bf d r.1 D (x :: Q ++ New) ∧ (∀ y ∈ New, ∃ (i : Nat) (h : i < l.length), y.2 = x.2 ++ [l[i].Low]) ∧
      ∀ (i : Nat) (h : i < l.length), ∃ y ∈ D ++ (x :: Q ++ New), (y.1 : Int) = l[i].To ∧ sle y.2 (x.2 ++ [l[i].Low])) := by
    refine Tm.up l.length (fun k s => s.2.2 = (k : Int) ∧ ∃ New : List Itm, s.2.1 = (x :: Q ++ New).map itm ∧ Bf d s.1 D (x :: Q ++ New) ∧ (∀ y ∈ New, ∃ (i : Nat) (h : i < l.length), i < k ∧ y.2 = x.2 ++ [l[i].Low]) ∧
      ∀ (i : Nat) (h : i < l.length), i < k → ∃ y ∈ D ++ (x :: Q ++ New), (y.1 : Int) = l[i].To ∧ sle y.2 (x.2 ++ [l[i].Low])) ⟨rfl, [], by simp, by simpa using h, fun y hy => (by cases hy), fun i _ hi => absurd hi (by omega)⟩ ?_
    rintro k hk ⟨sn, qu, i⟩ ⟨hi, New, hq, hB, hnew, hcov⟩
    dsimp only at hi hq hB hnew hcov; subst hi; subst hq
    unfold aShortest_b2
    rcases Nat.lt_or_ge k l.length with hlt | hge
    · have hb := okE_mem (by omega) hok _ (List.getElem_mem hlt)
      have hlh := okE_lh hok _ (List.getElem_mem hlt)
      obtain ⟨to, hto⟩ : ∃ to : Nat, l[k].To = (to : Int) := ⟨l[k].To.toNat, by omega⟩
      have htl : to < sn.length := by rw [hB.sl]; omega
      refine Tm.pos (by omega) (Tm.step (idx_n hlt) ?_)
      rw [hto]
      refine Tm.step (idx_n htl) (Tm.ite (fun hs => ?_) (fun hs => ?_))
      · have hsf : sn[to] = false := by simpa using hs
        have hcnt := hB.count
        have hlen1 : (bstr x.2).length ≤ 4096 := by rw [bstr_len]; simp only [List.length_append, List.length_cons] at hcnt0; omega
        have hlen2 : ((x :: Q ++ New).map itm).length ≤ 4096 := by
          rw [List.length_map]; rw [List.length_append] at hcnt; omega
        refine Tm.step (idx_n htl) (Tm.step (upd1_i (n := to) rfl htl) (Tm.step (chk_ok ?_) (Tm.step (apnd_ok ?_ (by decide)) (Tm.some ?_))))
        · show ((bstr x.2).length : Int) + (bstr [l[k].Low]).length ≤ _
          rw [bstr_len (a := [l[k].Low])]; simp only [List.length_singleton]; omega
        · simp only [List.length_singleton]; omega
        · have hnin : ∀ w, (to, w) ∉ D ++ (x :: Q ++ New) := fun w hm => by
            have := (hB.sn to htl).2 ⟨w, hm⟩
            rw [hsf] at this; cases this
          have hassoc : D ++ (x :: Q ++ (New ++ [((to, x.2 ++ [l[k].Low]) : Itm)])) = (D ++ (x :: Q ++ New)) ++ [(to, x.2 ++ [l[k].Low])] := by simp
          refine ⟨hlt, iw_n (by omega), New ++ [(to, x.2 ++ [l[k].Low])], ?_, ?_, ?_, ?_⟩
          · have e9 : x :: Q ++ (New ++ [((to, x.2 ++ [l[k].Low]) : Itm)]) = (x :: Q ++ New) ++ [(to, x.2 ++ [l[k].Low])] := by simp
            show (x :: Q ++ New).map itm ++ [(⟨(to : Int), bstr x.2 ++ bstr [l[k].Low]⟩ : AItem)] = (x :: Q ++ (New ++ [((to, x.2 ++ [l[k].Low]) : Itm)])).map itm
            rw [e9]
            refine Eq.trans ?_ List.map_append.symm
            congr 1
            show _ = [itm (to, x.2 ++ [l[k].Low])]
            unfold itm; rw [bstr_append]
          · refine ⟨by simpa using hB.sl, fun j hj => ?_, ?_, ?_, ?_, ?_, ?_⟩
            · rw [List.getElem_set, hassoc]
              by_cases hjt : to = j
              · subst hjt
                rw [if_pos rfl]
                exact ⟨fun _ => ⟨_, List.mem_append_right _ (List.mem_singleton.2 rfl)⟩, fun _ => rfl⟩
              · rw [if_neg hjt, hB.sn j (by simpa using hj)]
                constructor
                · rintro ⟨w, hw⟩; exact ⟨w, List.mem_append_left _ hw⟩
                · rintro ⟨w, hw⟩
                  rcases List.mem_append.1 hw with hw | hw
                  · exact ⟨w, hw⟩
                  · have := List.mem_singleton.1 hw
                    injection this with e1 e2
                    exact absurd e1.symm hjt
            · rw [hassoc]
              intro y hy
              rcases List.mem_append.1 hy with hy | hy
              · exact hB.ok y hy
              · rw [List.mem_singleton.1 hy]
                refine ⟨by omega, fun c hc => ?_, ?_⟩
                · rcases List.mem_append.1 hc with hc | hc
                  · exact x2 c hc
                  · rw [List.mem_singleton.1 hc]; omega
                · show run d 0 (x.2 ++ [l[k].Low]) = (to : Int)
                  rw [run_snoc, x3]
                  unfold stp
                  rw [if_neg (by omega), Int.toNat_natCast, getD_of hxl, hle, stepE_mem hok _ (List.getElem_mem hlt) _ (Int.le_refl _) hlh, hto]
            · rw [hassoc]
              refine List.pairwise_append.2 ⟨hB.asc, List.pairwise_singleton _ _, fun y hy z hz => ?_⟩
              rw [List.mem_singleton.1 hz]
              show slt y.2 (x.2 ++ [l[k].Low])
              have hall := h.asc
              rw [List.pairwise_append] at hall
              obtain ⟨_, a2, a3⟩ := hall
              rcases List.mem_append.1 hy with hy | hy
              · exact slt_trans (a3 y hy x List.mem_cons_self) slt_ext
              · rcases List.mem_append.1 hy with hy | hy
                · rcases hp y hy with h0 | ⟨u, hu, c, hc⟩
                  · rw [h0]; exact .inl (by simp)
                  · rw [hc]
                    exact slt_snoc (a3 u hu x List.mem_cons_self)
                · obtain ⟨j, hj, hjk, hy2⟩ := hnew y hy
                  rw [hy2]; exact slt_last (okE_asc hok j k hj hlt hjk)
            · rw [hassoc, List.map_append]
              refine List.nodup_append.2 ⟨hB.nd, by simp, fun y hy z hz => ?_⟩
              have hz' : z = to := by simpa using hz
              subst hz'
              obtain ⟨p, hp1, rfl⟩ := List.mem_map.1 hy
              intro e
              exact hnin p.2 (by rw [← e]; exact hp1)
            · rw [hassoc]; exact List.mem_append_left _ hB.zero
            · rw [hassoc]
              intro j hj
              rw [List.length_append, List.length_singleton] at hj
              by_cases hjl : j < (D ++ (x :: Q ++ New)).length
              · rw [List.getElem_append_left hjl]; exact hB.len j hjl
              · rw [List.getElem_append_right (by omega)]
                simp only [List.getElem_singleton, List.length_append, List.length_singleton]
                have : (D ++ (x :: Q ++ New)).length = D.length + (Q.length + 1 + New.length) := by simp; omega
                omega
          · intro y hy
            rcases List.mem_append.1 hy with hy | hy
            · obtain ⟨j, hj, hjk, hy2⟩ := hnew y hy
              exact ⟨j, hj, by omega, hy2⟩
            · rw [List.mem_singleton.1 hy]; exact ⟨k, hlt, by omega, rfl⟩
          · intro j hj hjk
            rw [hassoc]
            by_cases e : j = k
            · subst e
              exact ⟨_, List.mem_append_right _ (List.mem_singleton.2 rfl), hto.symm, .inr rfl⟩
            · obtain ⟨y, hy, h1, h2⟩ := hcov j hj (by omega)
              exact ⟨y, List.mem_append_left _ hy, h1, h2⟩
      · have hst : sn[to] = true := by simpa using hs
        refine Tm.some ⟨hlt, iw_n (by omega), New, rfl, hB, fun y hy => ?_, fun j hj hjk => ?_⟩
        · obtain ⟨j, hj, hjk, hy2⟩ := hnew y hy
          exact ⟨j, hj, by omega, hy2⟩
        · by_cases e : j = k
          · subst e
            obtain ⟨w, hw⟩ := (hB.sn to htl).1 hst
            refine ⟨_, hw, hto.symm, ?_⟩
            have hall := h.asc
            rw [List.pairwise_append] at hall
            obtain ⟨_, a2, a3⟩ := hall
            show sle w (x.2 ++ [l[j].Low])
            rcases List.mem_append.1 hw with hy | hy
            · exact .inl (slt_trans (a3 _ hy x List.mem_cons_self) slt_ext)
            · rcases List.mem_append.1 hy with hy | hy
              · rcases hp _ hy with h0 | ⟨u, hu, c, hc⟩
                · have h0 : w = [] := h0
                  rw [h0]; exact .inl (.inl (by simp))
                · have hc : w = u.2 ++ [c] := hc
                  rw [hc]
                  exact .inl (slt_snoc (a3 u hu x List.mem_cons_self))
              · obtain ⟨i, hi, hik, hy2⟩ := hnew _ hy
                have hy2 : w = x.2 ++ [l[i].Low] := hy2
                rw [hy2]; exact .inl (slt_last (okE_asc hok i j hi hlt hik))
          · exact hcov j hj (by omega)
    · refine Tm.neg (by omega) (Tm.some ⟨New, rfl, hB, fun y hy => ?_, fun j hj => hcov j hj (by omega)⟩)
      obtain ⟨j, hj, hjk, hy2⟩ := hnew y hy
      exact ⟨j, hj, hy2⟩
  refine loop.mono fun r hr => ?_
  obtain ⟨New, h1, h2, h3, h4⟩ := hr
  refine ⟨New, h1, h2, fun y hy => ?_, fun c hc1 hc2 hne => ?_⟩
  · obtain ⟨i, hi, hy2⟩ := h3 y hy
    exact ⟨_, hy2⟩
  · have hs : stp d (x.1 : Int) c = stepE l c := by unfold stp; rw [if_neg (by omega), Int.toNat_natCast, getD_of hxl, hle]
    rw [hs] at hne ⊢
    obtain ⟨i, hi, e1, e2, e3⟩ := stepE_edge rfl hne
    obtain ⟨y, hy, y1, y2⟩ := h4 i hi
    exact ⟨y, hy, by rw [y1, e1], sle_trans y2 (sle_last e2)⟩
def ShP (d : ADfa) (r : List UInt8 × Bool) : Prop :=
  (r = ([], false) ∧ ∀ v, Pr v → fin d (run d 0 v) = false) ∨
  ∃ w, r = (bstr w, true) ∧ Pr w ∧ fin d (run d 0 w) = true ∧ w.length < d.Accept.length ∧ ∀ v, Pr v → fin d (run d 0 v) = true → sle w v
theorem aShortest_tm {d : ADfa} (hd : okD d = true) : Tm (fun N => aShortest N d) (ShP d) := by
  unfold aShortest
  obtain ⟨g1, g2, g3, g4⟩ := okD_iff.1 hd
  refine Tm.step (mk1_ok (n := d.Accept.length) rfl (by omega) (by decide)) (Tm.step (idx_i (n := 0) rfl (by simp; omega)) (Tm.step (upd1_i (n := 0) rfl (by simp; omega)) ?_))
  have loop : Tm (fun N => loopM (aShortest_b1 N d) N ((List.replicate d.Accept.length false).set 0 true, [AItem.mk 0 []])) (fun r => (r = Sum.inl () ∧ ∀ v, Pr v → fin d (run d 0 v) = false) ∨
      ∃ w, r = Sum.inr (bstr w, true) ∧ Pr w ∧ fin d (run d 0 w) = true ∧ w.length < d.Accept.length ∧ ∀ v, Pr v → fin d (run d 0 v) = true → sle w v) := by
    refine Tm.loopG (fun (g : List Itm × List Itm) (s : List Bool × List AItem) => s.2 = g.2.map itm ∧ Bf d s.1 g.1 g.2 ∧ Cov d g.1 (g.1 ++ g.2) ∧ Par g.1 g.2 ∧ ∀ u ∈ g.1, fin d (u.1 : Int) = false) (fun g => d.Accept.length - g.1.length) ([], [(0, [])])
      ⟨rfl, ⟨by simp, fun j hj => ?_, ?_, by simp, by simp, by simp, ?_⟩, fun u hu => (by cases hu), fun q hq => ?_, fun u hu => (by cases hu)⟩ ?_
    · rw [List.getElem_set]
      constructor
      · intro h
        split at h
        · rename_i e; subst e; exact ⟨[], by simp⟩
        · simp at h
      · rintro ⟨w, hw⟩
        have : (j, w) = ((0, []) : Itm) := by simpa using hw
        injection this with e1 e2
        rw [if_pos e1.symm]
    · intro y hy
      have : y = ((0, []) : Itm) := by simpa using hy
      subst this
      exact ⟨by dsimp only; omega, fun c hc => (by cases hc), rfl⟩
    · intro i hi
      have : i = 0 := by simpa using hi
      subst this; simp
    · have : q = ((0, []) : Itm) := by simpa using hq
      subst this; exact .inl rfl
    · rintro ⟨D, Q⟩ ⟨sn, qu⟩ ⟨hq, hB, hC, hP, hF⟩
      dsimp only at hq hB hC hP hF; subst hq
      unfold aShortest_b1
      cases Q with
      | nil =>
        refine Tm.neg (by simp) (Tm.some (.inl ⟨rfl, fun v hv => ?_⟩))
        cases ha : fin d (run d 0 v) with
        | false => rfl
        | true =>
          obtain ⟨q, hq, _⟩ := hB.first hd hC hF hv ha
          cases hq
      | cons x Q =>
        have hxm : x ∈ D ++ x :: Q := List.mem_append_right _ List.mem_cons_self
        obtain ⟨x1, x2, x3⟩ := hB.ok x hxm
        have hcnt := hB.count
        have e1 : idx ((x :: Q).map itm) 0 = some (itm x) := idx_get (n := 0) rfl
        have e2 : idx d.Accept (itm x).state = some d.Accept[x.1] := idx_i (n := x.1) rfl x1
        have hfx : fin d (x.1 : Int) = d.Accept[x.1] := by unfold fin; rw [if_neg (by omega), Int.toNat_natCast, getD_of x1]
        refine Tm.pos (by simp only [List.length_map, List.length_cons]; omega) ?_
        have hxe : x.1 < d.Edges.length := by omega
        have e3 : idx d.Edges (itm x).state = some d.Edges[x.1] := idx_i (n := x.1) rfl hxe
        have body : Tm (fun N => (idx ((x :: Q).map itm) 0).bind fun x2446 => (idx d.Accept x2446.state).bind fun x2467 => if x2467 = true then some (Sum.inr (x2446.text, true)) else (idx d.Edges x2446.state).bind fun x2482 =>
            (loopM (aShortest_b2 N x2446 x2482) N (sn, (x :: Q).map itm, 0)).bind fun ss => match ss with | (seen2760, queue2771) => some (Sum.inl (seen2760, queue2771)))
            (fun r => (r = Sum.inr (bstr x.2, true) ∧ fin d (x.1 : Int) = true) ∨ ∃ sn' New, r = Sum.inl (sn', (x :: Q ++ New).map itm) ∧ fin d (x.1 : Int) = false ∧ Bf d sn' D (x :: Q ++ New) ∧ (∀ y ∈ New, ∃ c, y.2 = x.2 ++ [c]) ∧
              ∀ c, 32 ≤ c → c ≤ 126 → stp d (x.1 : Int) c ≠ -1 → ∃ y ∈ D ++ (x :: Q ++ New), (y.1 : Int) = stp d (x.1 : Int) c ∧ sle y.2 (x.2 ++ [c])) := by
          refine Tm.step e1 (Tm.step e2 (Tm.ite (fun h => Tm.some (.inl ⟨rfl, by rw [hfx]; exact h⟩)) (fun h => Tm.step e3 ?_)))
          refine (aShortest_row hd hB hP (List.getElem?_eq_getElem hxe)).bind fun r hr => ?_
          obtain ⟨sn', qu'⟩ := r
          obtain ⟨New, h1, h2, h3, h4⟩ := hr
          dsimp only at h1 h2
          subst h1
          exact Tm.some (.inr ⟨sn', New, rfl, by rw [hfx]; simpa using h, h2, h3, h4⟩)
        refine body.bind fun r hr => ?_
        rcases hr with ⟨rfl, hfin⟩ | ⟨sn', New, rfl, hnf, hB', hN, hC'⟩
        · refine Tm.some (.inr ⟨x.2, rfl, x2, by rw [x3]; exact hfin, ?_, fun v hv ha => ?_⟩)
          · have := hB.len D.length (by simp)
            simp only [List.length_append, List.length_cons] at hcnt
            simp only [List.getElem_append_right (Nat.le_refl _), Nat.sub_self, List.getElem_cons_zero] at this
            omega
          · obtain ⟨q, hq, hle⟩ := hB.first hd hC hF hv ha
            rcases List.mem_cons.1 hq with rfl | hq
            · exact hle
            · have hasc := hB.asc
              rw [List.pairwise_append] at hasc
              have := (List.pairwise_cons.1 hasc.2.1).1 q hq
              exact sle_trans (.inl this) hle
        · have e4 : drp ((x :: Q ++ New).map itm) 1 = some ((Q ++ New).map itm) := by
            have := drp_eq (xs := (x :: Q ++ New).map itm) (l := 1) (by simp)
            exact this
          refine Tm.step e4 (Tm.some ⟨(D ++ [x], Q ++ New), ⟨rfl, ?_, ?_, ?_, ?_⟩, ?_⟩)
          · have e5 : (D ++ [x]) ++ (Q ++ New) = D ++ (x :: Q ++ New) := by simp
            dsimp only
            exact ⟨hB'.sl, by rw [e5]; exact hB'.sn, by rw [e5]; exact hB'.ok, by rw [e5]; exact hB'.asc, by rw [e5]; exact hB'.nd, by rw [e5]; exact hB'.zero, by rw [e5]; exact hB'.len⟩
          · have e5 : (D ++ [x]) ++ (Q ++ New) = D ++ (x :: Q ++ New) := by simp
            dsimp only
            intro u hu c h1 h2 hne
            rw [e5]
            rcases List.mem_append.1 hu with hu | hu
            · obtain ⟨y, hy, y1, y2⟩ := hC u hu c h1 h2 hne
              refine ⟨y, ?_, y1, y2⟩
              rcases List.mem_append.1 hy with hy | hy
              · exact List.mem_append_left _ hy
              · exact List.mem_append_right _ (List.mem_append_left _ hy)
            · rw [List.mem_singleton.1 hu] at hne ⊢
              exact hC' c h1 h2 hne
          · intro q hq
            rcases List.mem_append.1 hq with hq | hq
            · rcases hP q (List.mem_cons_of_mem _ hq) with h | ⟨u, hu, c, hc⟩
              · exact .inl h
              · exact .inr ⟨u, List.mem_append_left _ hu, c, hc⟩
            · obtain ⟨c, hc⟩ := hN q hq
              exact .inr ⟨x, List.mem_append_right _ (List.mem_singleton.2 rfl), c, hc⟩
          · intro u hu
            rcases List.mem_append.1 hu with hu | hu
            · exact hF u hu
            · rw [List.mem_singleton.1 hu]; exact hnf
          · simp only [List.length_append, List.length_cons, List.length_nil] at hcnt ⊢; omega
  refine loop.bind fun r hr => ?_
  rcases hr with ⟨rfl, h⟩ | ⟨w, rfl, h⟩
  · exact Tm.some (.inl ⟨rfl, h⟩)
  · exact Tm.some (.inr ⟨w, rfl, h⟩)
end Go.D

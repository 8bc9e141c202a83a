/-
  Automata: what the plain counterparts of both programs reckon. Plain theorems.
-/
import Derived.Test.YtckhldmpcddjmaaDoorM1
import Derived.Test.YtckhldmpcddjmaaDoorPL
set_option linter.unusedSimpArgs false
set_option linter.unusedVariables false
namespace Go.X
/-- a loop whose state is told by what is not in it -/
theorem Tm.loopG {σ ρ G : Type} {body : Nat → σ → Option (Stp σ ρ)} (I : G → σ → Prop) (μ : G → Nat) {Q : ρ → Prop} {s0 : σ} (g0 : G) (h0 : I g0 s0)
    (h : ∀ g s, I g s → Tm (fun N => body N s) (fun t => match t with | .next s' => ∃ g', I g' s' ∧ μ g' < μ g | .done r => Q r)) :
    Tm (fun N => loopM (body N) N s0) Q := by
  have key : ∀ (m : Nat) (g : G) (s : σ), μ g ≤ m → I g s → ∃ a K, Q a ∧ ∀ N n, K ≤ N → K ≤ n → loopM (body N) n s = some a := by
    intro m
    induction m with
    | zero =>
      intro g s hm hI
      obtain ⟨t, N0, hT, hN⟩ := h g s hI
      cases t with
      | next s' => obtain ⟨g', _, h2⟩ := hT; exact absurd h2 (by omega)
      | done r => exact ⟨r, N0 + 1, hT, fun N n h1 h2 => by obtain ⟨n, rfl⟩ : ∃ k, n = k + 1 := ⟨n - 1, by omega⟩; exact loopM_done (hN N (by omega))⟩
    | succ m ih =>
      intro g s hm hI
      obtain ⟨t, N0, hT, hN⟩ := h g s hI
      cases t with
      | next s' =>
        obtain ⟨g', h1, h2⟩ := hT
        obtain ⟨a, K, hQ, hK⟩ := ih g' s' (by omega) h1
        exact ⟨a, max N0 K + 1, hQ, fun N n h1 h2 => by obtain ⟨n, rfl⟩ : ∃ k, n = k + 1 := ⟨n - 1, by omega⟩; rw [loopM_next (hN N (by omega))]; exact hK N n (by omega) (by omega)⟩
      | done r => exact ⟨r, N0 + 1, hT, fun N n h1 h2 => by obtain ⟨n, rfl⟩ : ∃ k, n = k + 1 := ⟨n - 1, by omega⟩; exact loopM_done (hN N (by omega))⟩
  obtain ⟨a, K, hQ, hK⟩ := key (μ g0) g0 s0 (Nat.le_refl _) h0
  exact ⟨a, K, hQ, fun N hN => hK N N hN hN⟩
/-- .. that counts up to n -/
theorem Tm.up {σ ρ : Type} {body : Nat → σ → Option (Stp σ ρ)} {Q : ρ → Prop} {s0 : σ} (n : Nat) (J : Nat → σ → Prop) (h0 : J 0 s0)
    (h : ∀ k, k ≤ n → ∀ s, J k s → Tm (fun N => body N s) (fun t => match t with | .next s' => k < n ∧ J (k + 1) s' | .done r => Q r)) :
    Tm (fun N => loopM (body N) N s0) Q := by
  refine Tm.loopG (fun k s => k ≤ n ∧ J k s) (fun k => n - k) 0 ⟨Nat.zero_le _, h0⟩ fun k s hs => (h k hs.1 s hs.2).mono fun t ht => ?_
  cases t with
  | next s' => exact ⟨k + 1, ⟨ht.1, ht.2⟩, by have := ht.1; omega⟩
  | done r => exact ht
theorem Tm.some {α : Type} {a : α} {Q : α → Prop} (h : Q a) : Tm (fun _ => Option.some a) Q := Tm.pure h
/-- what was told of the answer is known -/
theorem Tm.eq {α β : Type} {f : Nat → Option α} {g : Nat → α → Option β} {a : α} {R : β → Prop} (h : Tm f (· = a)) (k : Tm (fun N => g N a) R) : Tm (fun N => (f N).bind (g N)) R :=
  h.bind fun b hb => by subst hb; exact k
theorem iw_n {k : Nat} (h : k + 1 ≤ 9223372036854775807) : iw ((k : Int) + 1) = ((k + 1 : Nat) : Int) := by rw [iw_eq] <;> omega
end Go.X
namespace Go.D
open Go Go.X

/-! ## Valid automata -/
def okE (n : Int) : Int → List AEdge → Bool
  | _, [] => true
  | b, e :: l => !(decide (e.Low ≤ b) || decide (e.Low > e.High) || decide (e.High > 126) || decide (e.To < 0) || decide (e.To ≥ n)) && okE n e.High l
def okD (d : ADfa) : Bool := decide (1 ≤ d.Accept.length) && decide (d.Accept.length ≤ 4096) && decide (d.Edges.length = d.Accept.length) && d.Edges.all (okE d.Accept.length 31)
/-- lengths that Go can hold -/
def Lim (d : ADfa) : Prop := d.Accept.length ≤ 9223372036854775807 ∧ d.Edges.length ≤ 9223372036854775807 ∧ ∀ l ∈ d.Edges, l.length ≤ 9223372036854775807
/-- lengths of which a copy can be made -/
def Lms (d : ADfa) : Prop := d.Accept.length ≤ 100000 ∧ d.Edges.length ≤ 100000 ∧ ∀ l ∈ d.Edges, l.length ≤ 100000
theorem Lms.lim {d : ADfa} (h : Lms d) : Lim d := ⟨by have := h.1; omega, by have := h.2.1; omega, fun l hl => by have := h.2.2 l hl; omega⟩
theorem okE_cons {n b : Int} {e : AEdge} {l : List AEdge} : okE n b (e :: l) = true ↔ (b < e.Low ∧ e.Low ≤ e.High ∧ e.High ≤ 126 ∧ 0 ≤ e.To ∧ e.To < n) ∧ okE n e.High l = true := by
  simp only [okE, Bool.and_eq_true, Bool.not_eq_true', Bool.or_eq_false_iff, decide_eq_false_iff_not]
  constructor
  · rintro ⟨⟨⟨⟨⟨h1, h2⟩, h3⟩, h4⟩, h5⟩, h6⟩; exact ⟨⟨by omega, by omega, by omega, by omega, by omega⟩, h6⟩
  · rintro ⟨⟨h1, h2, h3, h4, h5⟩, h6⟩; exact ⟨⟨⟨⟨⟨by omega, by omega⟩, by omega⟩, by omega⟩, by omega⟩, h6⟩
theorem okE_len {n : Int} : ∀ {b : Int} {l : List AEdge}, okE n b l = true → (l.length : Int) ≤ max 0 (126 - b)
  | b, [], _ => by simp; omega
  | b, e :: l, h => by
    obtain ⟨⟨h1, h2, h3, _, _⟩, h6⟩ := okE_cons.1 h
    have := okE_len h6
    simp only [List.length_cons]; omega
theorem okD_iff {d : ADfa} : okD d = true ↔ 1 ≤ d.Accept.length ∧ d.Accept.length ≤ 4096 ∧ d.Edges.length = d.Accept.length ∧ ∀ l ∈ d.Edges, okE d.Accept.length 31 l = true := by
  simp only [okD, Bool.and_eq_true, decide_eq_true_eq, List.all_eq_true]
  constructor
  · rintro ⟨⟨⟨h1, h2⟩, h3⟩, h4⟩; exact ⟨h1, h2, h3, h4⟩
  · rintro ⟨h1, h2, h3, h4⟩; exact ⟨⟨⟨h1, h2⟩, h3⟩, h4⟩
theorem okD_lms {d : ADfa} (h : okD d = true) : Lms d := by
  obtain ⟨h1, h2, h3, h4⟩ := okD_iff.1 h
  refine ⟨by omega, by omega, fun l hl => ?_⟩
  have := okE_len (h4 l hl)
  omega
theorem idx_n {α : Type} {xs : List α} {k : Nat} (h : k < xs.length) : idx xs (k : Int) = some xs[k] := idx_ok h

theorem okE_drop {n : Int} {l : List AEdge} {b : Int} {k : Nat} (hk : k < l.length) : okE n b (l.drop k) = (!(decide (l[k].Low ≤ b) || decide (l[k].Low > l[k].High) || decide (l[k].High > 126) || decide (l[k].To < 0) || decide (l[k].To ≥ n)) && okE n l[k].High (l.drop (k + 1))) := by
  rw [List.drop_eq_getElem_cons hk]; rfl

theorem aValid_b2_tm {d : ADfa} {l : List AEdge} (hl : l.length ≤ 9223372036854775807) :
    Tm (fun N => loopM (aValid_b2 N d l) N (31, 0)) (fun r => r = if okE d.Accept.length 31 l then Sum.inl () else Sum.inr false) := by
  refine Tm.up l.length (fun k s => s.2 = (k : Int) ∧ okE d.Accept.length 31 l = okE d.Accept.length s.1 (l.drop k)) ⟨rfl, by simp⟩ ?_
  rintro k hk ⟨b, i⟩ ⟨hi, ho⟩
  dsimp only at hi ho; subst hi
  unfold aValid_b2
  rcases Nat.lt_or_ge k l.length with hlt | hge
  · refine Tm.pos (by omega) (Tm.step (idx_n hlt) ?_)
    rw [okE_drop hlt] at ho
    by_cases h1 : l[k].Low ≤ b
    · simp only [if_pos h1, Option.bind_some, if_true]
      refine Tm.some ?_
      show _ = _
      rw [ho]; simp [h1]
    · rw [if_neg h1]
      by_cases h2 : l[k].Low > l[k].High
      · simp only [if_pos h2, Option.bind_some, if_true]
        refine Tm.some ?_
        show _ = _
        rw [ho]; simp [h2]
      · rw [if_neg h2]
        by_cases h3 : l[k].High > 126
        · simp only [if_pos h3, Option.bind_some, if_true]
          refine Tm.some ?_
          show _ = _
          rw [ho]; simp [h3]
        · rw [if_neg h3]
          by_cases h4 : l[k].To < 0
          · simp only [if_pos h4, Option.bind_some, if_true]
            refine Tm.some ?_
            show _ = _
            rw [ho]; simp [h4]
          · rw [if_neg h4]
            by_cases h5 : l[k].To ≥ (d.Accept.length : Int)
            · simp only [decide_eq_true h5, Option.bind_some, if_true]
              refine Tm.some ?_
              show _ = _
              rw [ho]; simp [h5]
            · simp only [decide_eq_false h5, Option.bind_some, Bool.false_eq_true, if_false]
              refine Tm.some ⟨hlt, iw_n (by omega), ?_⟩
              show _ = okE _ l[k].High _
              rw [ho]; simp [h1, h2, h3, h4, h5]
  · refine Tm.neg (by omega) (Tm.some ?_)
    have : k = l.length := by omega
    subst this
    show _ = _
    rw [ho]; simp [okE]
theorem aValid_b1_tm {d : ADfa} (hd : Lim d) (h1 : d.Edges.length = d.Accept.length) :
    Tm (fun N => loopM (aValid_b1 N d) N 0) (fun r => r = if d.Edges.all (okE d.Accept.length 31) then Sum.inl () else Sum.inr false) := by
  refine Tm.up d.Edges.length (fun k s => s = (k : Int) ∧ d.Edges.all (okE d.Accept.length 31) = (d.Edges.drop k).all (okE d.Accept.length 31)) ⟨rfl, by simp⟩ ?_
  rintro k hk i ⟨rfl, ho⟩
  unfold aValid_b1
  rcases Nat.lt_or_ge k d.Edges.length with hlt | hge
  · refine Tm.pos (by omega) (Tm.step (idx_n hlt) ?_)
    rw [List.drop_eq_getElem_cons hlt, List.all_cons] at ho
    refine (aValid_b2_tm (hd.2.2 _ (List.getElem_mem hlt))).eq ?_
    cases hE : okE d.Accept.length 31 d.Edges[k] with
    | true => rw [hE] at ho; exact Tm.some ⟨hlt, iw_n (by have := hd.2.1; omega), by simpa using ho⟩
    | false => rw [hE] at ho; refine Tm.some ?_; show _ = _; rw [ho]; simp
  · refine Tm.neg (by omega) (Tm.some ?_)
    have : k = d.Edges.length := by omega
    subst this
    show _ = _
    rw [ho]; simp
theorem aValid_tm {d : ADfa} (hd : Lim d) : Tm (fun N => aValid N d) (· = okD d) := by
  unfold aValid
  by_cases h1 : (d.Accept.length : Int) < 1
  · simp only [if_pos h1, Option.bind_some, if_true]
    refine Tm.some ?_
    show false = okD d
    have : ¬ 1 ≤ d.Accept.length := by omega
    simp [okD, this]
  · rw [if_neg h1]
    by_cases h2 : (d.Accept.length : Int) > 4096
    · simp only [if_pos h2, Option.bind_some, if_true]
      refine Tm.some ?_
      show false = okD d
      have : ¬ d.Accept.length ≤ 4096 := by omega
      simp [okD, this]
    · rw [if_neg h2]
      by_cases h3 : d.Edges.length = d.Accept.length
      · simp only [show ((d.Edges.length : Int) ≠ (d.Accept.length : Int)) = False by simp [h3], decide_false, Option.bind_some, Bool.false_eq_true, if_false]
        refine (aValid_b1_tm hd h3).eq ?_
        have e1 : 1 ≤ d.Accept.length := by omega
        have e2 : d.Accept.length ≤ 4096 := by omega
        cases hA : d.Edges.all (okE d.Accept.length 31) with
        | true => refine Tm.some ?_; show true = okD d; simp [okD, e1, e2, h3, hA]
        | false => refine Tm.some ?_; show false = okD d; simp [okD, e1, e2, h3, hA]
      · simp only [show ((d.Edges.length : Int) ≠ (d.Accept.length : Int)) = True by simp; omega, decide_true, Option.bind_some, if_true]
        refine Tm.some ?_
        show false = okD d
        simp [okD, h3]
end Go.D

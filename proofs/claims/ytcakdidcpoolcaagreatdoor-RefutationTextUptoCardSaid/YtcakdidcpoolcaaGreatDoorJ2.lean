/-
  The law RefutationText: Size and Format return what is specified. Plain theorems; the argument's bulk is bounded.
-/
import Derived.Test.YtcakdidcpoolcaaGreatDoorJ1
import Derived.Test.YtcakdidcpoolcaaGreatDoorA25
set_option linter.unusedSimpArgs false
set_option linter.unusedVariables false
set_option maxRecDepth 100000
namespace Go.D
open Go Go.X
mutual
def bkP : Proof → Nat
  | ⟨steps, _, _, children⟩ => steps.length + bkPs children + 1
def bkPs : List Proof → Nat
  | [] => 0
  | c :: r => bkP c + bkPs r
end
theorem bkP_eq (p : Proof) : bkP p = p.Steps.length + bkPs p.Children + 1 := by cases p; simp [bkP]
mutual
def bkR : Refut → Nat
  | ⟨_, _, _, p, children⟩ => bkP p + bkRs children + 1
def bkRs : List Refut → Nat
  | [] => 0
  | c :: r => bkR c + bkRs r
end
theorem bkR_eq (p : Refut) : bkR p = bkP p.Proof + bkRs p.Children + 1 := by cases p; simp [bkR]
theorem bkR_pos (p : Refut) : 1 ≤ bkR p := by rw [bkR_eq]; omega
inductive InPt : Proof → Prop
  | mk {p : Proof} (h1 : ∀ s ∈ p.Steps, s.Uses.length ≤ 9223372036854775807) (h2 : p.Form.length ≤ 9223372036854775807) (h3 : p.Steps.length ≤ 9223372036854775807) (h5 : p.Children.length ≤ 9223372036854775807) (h6 : ∀ c ∈ p.Children, InPt c) : InPt p
def I64 (n : Int) : Prop := -9223372036854775808 ≤ n ∧ n ≤ 9223372036854775807
inductive InR : Refut → Prop
  | mk {r : Refut} (h1 : I64 r.Var) (h2 : I64 r.At) (h3 : InPt r.Proof) (h4 : r.Children.length ≤ 9223372036854775807) (h5 : ∀ c ∈ r.Children, InR c) : InR r
theorem I64.iw (n : Int) : I64 (X.iw n) := by
  unfold I64 X.iw; simp [IntKind.wrap, IntKind.signed, IntKind.bits]; omega
theorem nx {k n : Nat} (h : k < n) (hn : n ≤ 9223372036854775807) : iw ((k : Int) + 1) = ((k + 1 : Nat) : Int) := by rw [iw_eq] <;> omega
theorem Tm.T {α : Type} {f : Nat → Option α} {Q : α → Prop} (h : Tm f Q) : Tm f (fun _ => True) := h.mono fun _ _ => trivial
theorem Tm.some {α : Type} {a : α} {Q : α → Prop} (h : Q a) : Tm (fun _ => Option.some a) Q := Tm.pure h
theorem Tm.over {σ ρ : Type} {body : Nat → σ → Option (Stp σ ρ)} (n : Nat) (ix : σ → Int) (I : σ → Prop) {Q : ρ → Prop} {s0 : σ} (h0 : ∃ k : Nat, ix s0 = k) (hI : I s0)
    (h : ∀ s (k : Nat), ix s = k → I s → Tm (fun N => body N s) (fun t => match t with | .next s' => k < n ∧ ix s' = ((k + 1 : Nat) : Int) ∧ I s' | .done r => Q r)) : Tm (fun N => loopM (body N) N s0) Q := by
  refine Tm.loop (fun s => (∃ k : Nat, ix s = k) ∧ I s) (fun s => n - (ix s).toNat) ⟨h0, hI⟩ ?_
  rintro s ⟨⟨k, hk⟩, hs⟩
  refine (h s k hk hs).mono fun t ht => ?_
  cases t with
  | next s' => exact ⟨⟨⟨k + 1, ht.2.1⟩, ht.2.2⟩, by dsimp only; rw [ht.2.1, hk]; have := ht.1; omega⟩
  | done r => exact ht
theorem cr_size : ∀ N, cSize N = rSize N
  | 0 => rfl
  | N + 1 => by show cSize_step N (cSize N) = rSize_step N (rSize N); rw [cr_size N]; rfl
theorem cSize_tm {p : Proof} (h : InPt p) : Tm (fun N => cSize N p) I64 := by
  induction h with
  | @mk p h1 h2 h3 h5 h6 ih =>
    refine Tm.succ ?_
    show Tm (fun N => cSize_step N (cSize N) p) _
    unfold cSize_step
    refine Tm.bind (Q := I64) (Tm.ite (fun _ => Tm.pure (I64.iw _)) (fun _ => Tm.pure ⟨by omega, by omega⟩)) fun n hn => ?_
    refine Tm.bind (Tm.over p.Children.length (fun s : Int × Int => s.2) (fun s => I64 s.1) (Q := I64) ⟨0, rfl⟩ hn ?_) (fun _ h => Tm.pure h)
    rintro ⟨m, kk⟩ k rfl hm
    dsimp only [cSize_b1] at *
    refine Tm.ite (fun h => ?_) (fun h => Tm.pure hm)
    have hk : k < p.Children.length := by omega
    exact Tm.step (idx_ok hk) ((ih _ (List.getElem_mem hk)).bind fun r _ => Tm.pure ⟨hk, nx hk h5, I64.iw _⟩)
theorem rSize_tm {p : Proof} (h : InPt p) : ∃ v, I64 v ∧ Tm (fun N => cSize N p) (· = v) ∧ Tm (fun N => rSize N p) (· = v) := by
  obtain ⟨v, K, hv, hK⟩ := cSize_tm h
  exact ⟨v, hv, ⟨v, K, rfl, hK⟩, ⟨v, K, rfl, fun N hN => by dsimp only; rw [← cr_size]; exact hK N hN⟩⟩
theorem rbigs_end {l : List Big} (h : l.length ≤ 9223372036854775807) : Tm (fun N => rbigs N l) (fun _ => True) := by
  unfold rbigs
  refine Tm.bind (Tm.over l.length (fun s : Int => s) (fun _ => True) (Q := fun _ => True) ⟨0, rfl⟩ trivial ?_) (fun t _ => ?_)
  · rintro _ k rfl -
    dsimp only [rbigs_b1]
    refine Tm.ite (fun h => ?_) (fun h => Tm.pure trivial)
    have hk : k < l.length := by omega
    exact Tm.step (idx_ok hk) (Tm.ite (fun _ => Tm.pure trivial) (fun _ => Tm.pure ⟨hk, nx hk ‹_›, trivial⟩))
  · rcases t with _ | _ <;> exact Tm.pure trivial
theorem rSmallStep_end {s : Step} (h : s.Uses.length ≤ 9223372036854775807) : Tm (fun N => rSmallStep N s) (fun _ => True) := by
  unfold rSmallStep
  refine Tm.bind (Tm.over s.Uses.length (fun s : Int => s) (fun _ => True) (Q := fun _ => True) ⟨0, rfl⟩ trivial ?_) (fun t _ => ?_)
  · rintro _ k rfl -
    dsimp only [rSmallStep_b1]
    refine Tm.ite (fun h => ?_) (fun h => Tm.pure trivial)
    have hk : k < s.Uses.length := by omega
    exact Tm.step (idx_ok hk) (Tm.ite (fun _ => Tm.pure trivial) (fun _ => Tm.pure ⟨hk, nx hk ‹_›, trivial⟩))
  · rcases t with _ | _
    · exact Tm.ite (fun _ => Tm.pure trivial) (fun _ => Tm.pure trivial)
    · exact Tm.pure trivial
theorem rweight_end {p : Proof} (h : InPt p) : Tm (fun N => rweight N p) (fun _ => True) := by
  induction h with
  | @mk p h1 h2 h3 h5 h6 ih =>
    refine Tm.succ ?_
    show Tm (fun N => rweight_step N (rweight N) p) _
    unfold rweight_step
    refine Tm.bind (Q := fun _ => True) ((rbigs_end h2).bind fun _ _ => Tm.ite (fun _ => Tm.pure trivial) (fun _ => Tm.pure trivial)) fun x _ => ?_
    refine Tm.ite (fun _ => Tm.pure trivial) (fun _ => ?_)
    refine Tm.bind (Tm.over p.Steps.length (fun s : Int => s) (fun _ => True) (Q := fun _ => True) ⟨0, rfl⟩ trivial ?_) (fun t _ => ?_)
    · rintro _ k rfl -
      dsimp only [rweight_b1]
      refine Tm.bind (Q := fun b => b = true → k < p.Steps.length) (Tm.ite (fun h => Tm.pure (fun _ => by omega)) (fun h => Tm.pure (fun h => by cases h))) fun b hb => ?_
      refine Tm.ite (fun h => ?_) (fun h => Tm.pure trivial)
      have hk := hb h
      exact Tm.step (idx_ok hk) ((rSmallStep_end (h1 _ (List.getElem_mem hk))).bind fun _ _ => Tm.ite (fun _ => Tm.pure trivial) (fun _ => Tm.pure ⟨hk, nx hk h3, trivial⟩))
    · rcases t with _ | _
      · refine Tm.bind (Tm.over p.Children.length (fun s : Int × Int => s.2) (fun _ => True) (Q := fun _ => True) ⟨0, rfl⟩ trivial ?_) (fun t _ => Tm.pure trivial)
        rintro ⟨m, kk⟩ k rfl -
        dsimp only [rweight_b2]
        refine Tm.bind (Q := fun b => b = true → k < p.Children.length) (Tm.ite (fun h => Tm.pure (fun _ => by omega)) (fun h => Tm.pure (fun h => by cases h))) fun b hb => ?_
        refine Tm.ite (fun h => ?_) (fun h => Tm.pure trivial)
        have hk := hb h
        exact Tm.step (idx_ok hk) ((ih _ (List.getElem_mem hk)).bind fun _ _ => Tm.pure ⟨hk, nx hk h5, trivial⟩)
      · exact Tm.pure trivial
theorem wparts_end {r : Refut} (h : InR r) : Tm (fun N => wparts N r) (fun _ => True) := by
  induction h with
  | @mk r h1 h2 h3 h4 h5 ih =>
    refine Tm.succ ?_
    show Tm (fun N => wparts_step N (wparts N) r) _
    unfold wparts_step
    refine Tm.bind (Q := fun _ => True) ((rweight_end h3).bind fun _ _ => Tm.pure trivial) fun b _ => ?_
    refine Tm.ite (fun _ => Tm.pure trivial) (fun _ => ?_)
    refine Tm.bind (Tm.over r.Children.length (fun s : Int × Int => s.2) (fun _ => True) (Q := fun _ => True) ⟨0, rfl⟩ trivial ?_) (fun t _ => Tm.pure trivial)
    rintro ⟨m, kk⟩ k rfl -
    dsimp only [wparts_b1]
    refine Tm.bind (Q := fun b => b = true → k < r.Children.length) (Tm.ite (fun h => Tm.pure (fun _ => by omega)) (fun h => Tm.pure (fun h => by cases h))) fun b hb => ?_
    refine Tm.ite (fun h => ?_) (fun h => Tm.pure trivial)
    have hk := hb h
    exact Tm.step (idx_ok hk) ((ih _ (List.getElem_mem hk)).bind fun _ _ => Tm.pure ⟨hk, nx hk h4, trivial⟩)
theorem wSmall_end {r : Refut} (h : InR r) : Tm (fun N => wSmall N r) (fun _ => True) := (wparts_end h).bind fun _ _ => Tm.pure trivial
theorem vw_size {r : Refut} (h : InR r) : ∃ v, Tm (fun N => vSize N r) (· = v) ∧ Tm (fun N => wSize N r) (· = v) := by
  induction h with
  | @mk r h1 h2 h3 h4 h5 ih =>
    obtain ⟨pv, _, hc, hr⟩ := rSize_tm h3
    have hch : ∀ c : Refut, ∃ v : Int, c ∈ r.Children → Tm (fun N => vSize N c) (· = v) ∧ Tm (fun N => wSize N c) (· = v) := by
      intro c
      by_cases hc : c ∈ r.Children
      · obtain ⟨v, hv⟩ := ih c hc; exact ⟨v, fun _ => hv⟩
      · exact ⟨0, fun h => absurd h hc⟩
    let sz : Refut → Int := fun c => Classical.choose (hch c)
    have hsz : ∀ c ∈ r.Children, Tm (fun N => vSize N c) (· = sz c) ∧ Tm (fun N => wSize N c) (· = sz c) := fun c hc => Classical.choose_spec (hch c) hc
    let acc : Nat → Int := fun k => (r.Children.take k).foldl (fun a c => iw (a + sz c)) 1
    have hacc : ∀ k, (h : k < r.Children.length) → acc (k + 1) = iw (acc k + sz r.Children[k]) := fun k h => by
      simp only [acc]
      rw [List.take_succ_eq_append_getElem h, List.foldl_append]; rfl
    refine ⟨if r.Kind = 2 then iw (1 + pv) else if r.Kind = 3 then acc r.Children.length else 1, Tm.succ ?_, Tm.succ ?_⟩
    · show Tm (fun N => vSize_step N (vSize N) r) _
      unfold vSize_step
      refine Tm.ite (fun g => ?_) (fun g => ?_)
      · rw [if_pos g]; exact hc.bind fun _ e => Tm.pure (by rw [e])
      · rw [if_neg g]
        refine Tm.ite (fun g => ?_) (fun g => ?_)
        · rw [if_pos g]
          refine Tm.bind (Tm.over r.Children.length (fun s : Int × Int => s.2) (fun s => s.2.toNat ≤ r.Children.length ∧ s.1 = acc s.2.toNat) (Q := (· = acc r.Children.length)) ⟨0, rfl⟩ ⟨by simp, rfl⟩ ?_) (fun _ h => Tm.pure h)
          rintro ⟨m, kk⟩ k rfl ⟨hk, hm⟩
          dsimp only [vSize_b1] at *
          rw [Int.toNat_natCast] at hk hm
          refine Tm.ite (fun h => ?_) (fun h => Tm.pure ?_)
          · have hk : k < r.Children.length := by omega
            exact Tm.step (idx_ok hk) ((hsz _ (List.getElem_mem hk)).1.bind fun _ e => Tm.pure ⟨hk, nx hk h4, by rw [nx hk h4, Int.toNat_natCast]; exact ⟨hk, by rw [hacc k hk, e, hm]⟩⟩)
          · rw [hm, show k = r.Children.length by omega]
        · rw [if_neg g]; exact Tm.pure rfl
    · show Tm (fun N => wSize_step N (wSize N) r) _
      unfold wSize_step
      refine Tm.bind (Q := fun n => n = if r.Kind = 2 then iw (1 + pv) else 1) (Tm.ite (fun g => ?_) (fun g => ?_)) fun n hn => ?_
      · rw [if_pos g]; exact hr.bind fun _ e => Tm.pure (by rw [e])
      · rw [if_neg g]; exact Tm.pure rfl
      by_cases g3 : r.Kind = 3
      · have g2 : ¬ r.Kind = 2 := by omega
        rw [if_neg g2] at hn; subst hn
        rw [if_neg g2, if_pos g3]
        refine Tm.bind (Tm.over r.Children.length (fun s : Int × Int => s.2) (fun s => s.2.toNat ≤ r.Children.length ∧ s.1 = acc s.2.toNat) (Q := (· = acc r.Children.length)) ⟨0, rfl⟩ ⟨by simp, rfl⟩ ?_) (fun _ h => Tm.pure h)
        rintro ⟨m, kk⟩ k rfl ⟨hk, hm⟩
        dsimp only [wSize_b1] at *
        rw [Int.toNat_natCast] at hk hm
        refine Tm.bind (Q := fun b => b = decide (k < r.Children.length)) (Tm.ite (fun h => Tm.pure ?_) (fun h => Tm.pure ?_)) fun b hb => ?_
        · rw [decide_eq_true g3, decide_eq_true (by omega)]
        · rw [decide_eq_false (by omega)]
        subst hb
        refine Tm.ite (fun h => ?_) (fun h => Tm.pure ?_)
        · have hk : k < r.Children.length := of_decide_eq_true h
          exact Tm.step (idx_ok hk) ((hsz _ (List.getElem_mem hk)).2.bind fun _ e => Tm.pure ⟨hk, nx hk h4, by rw [nx hk h4, Int.toNat_natCast]; exact ⟨hk, by rw [hacc k hk, e, hm]⟩⟩)
        · rw [hm, show k = r.Children.length by have := of_decide_eq_false (by simpa using h : decide (k < r.Children.length) = false); omega]
      · refine Tm.bind (Tm.over r.Children.length (fun s : Int × Int => s.2) (fun s => s.1 = n) (Q := (· = n)) ⟨0, rfl⟩ rfl ?_) (fun _ h => Tm.pure ?_)
        · rintro ⟨m, kk⟩ k rfl hm
          dsimp only [wSize_b1] at *
          refine Tm.bind (Q := fun b => b = false) (Tm.ite (fun h => Tm.pure (decide_eq_false g3)) (fun h => Tm.pure rfl)) fun b hb => ?_
          subst hb
          exact Tm.neg (by simp) (Tm.pure hm)
        · rw [h, hn]; split
          · rfl
          · first | rfl | rw [if_neg g3]
theorem fmtI_tm {n : Int} (h : I64 n) : Tm (fun N => fmtI N n) (· = txt n) := by
  unfold fmtI
  exact Tm.pos h (Tm.pure (itoa_txt n))
theorem wnumber_tm {n : Int} (h : I64 n) : Tm (fun N => wnumber N n) (· = txt n) := by
  unfold wnumber
  refine (rOf_tm h.1 h.2).bind fun x hx => ?_
  refine (rText_tm hx.1.dg.inB (by have := hx.2; omega)).bind fun s hs => Tm.pure ?_
  rw [hs, hx.1.bv]
theorem wr_ok {a b : List UInt8} (h : a.length + b.length ≤ 140737488355328) : wr a b = some (a ++ b) := by unfold wr; rw [if_pos h]
theorem bkRs_get : ∀ {l : List Refut} {k : Nat} (h : k < l.length), bkRs (l.take (k + 1)) = bkRs (l.take k) + bkR l[k]
  | a :: l, 0, _ => by simp [bkRs]
  | a :: l, k + 1, h => by
    have := bkRs_get (l := l) (k := k) (by simpa using h)
    simp only [List.take_succ_cons, bkRs, List.getElem_cons_succ] at *
    omega
theorem bkRs_take {l : List Refut} {k : Nat} : bkRs (l.take k) ≤ bkRs l := by
  induction l generalizing k with
  | nil => simp [bkRs]
  | cons a l ih =>
    cases k with
    | zero => simp [bkRs]
    | succ k => simp only [List.take_succ_cons, bkRs]; have := ih (k := k); omega
theorem vw_text {r : Refut} (h : InR r) (hb : bkR r ≤ 1048576) : ∃ s : List UInt8, s.length + 3 ≤ 60 * bkR r ∧ Tm (fun N => vFormat N r) (· = s) ∧ Tm (fun N => wFormat N r) (· = s) := by
  induction h with
  | @mk r h1 h2 h3 h4 h5 ih =>
    obtain ⟨pv, hpv, hc, hr⟩ := rSize_tm h3
    have hbe := bkR_eq r
    have hbp : 1 ≤ bkP r.Proof := by rw [bkP_eq]; omega
    have hmem : ∀ c ∈ r.Children, bkR c ≤ 1048576 := by
      intro c hc
      obtain ⟨k, hk, rfl⟩ := List.mem_iff_getElem.1 hc
      have e1 := bkRs_get hk
      have e2 := bkRs_take (l := r.Children) (k := k + 1)
      omega
    have hch : ∀ c : Refut, ∃ s : List UInt8, c ∈ r.Children → s.length + 3 ≤ 60 * bkR c ∧ Tm (fun N => vFormat N c) (· = s) ∧ Tm (fun N => wFormat N c) (· = s) := by
      intro c
      by_cases hc : c ∈ r.Children
      · obtain ⟨v, hv⟩ := ih c hc (hmem c hc); exact ⟨v, fun _ => hv⟩
      · exact ⟨[], fun h => absurd h hc⟩
    let g : Refut → List UInt8 := fun c => Classical.choose (hch c)
    have hg : ∀ c ∈ r.Children, (g c).length + 3 ≤ 60 * bkR c ∧ Tm (fun N => vFormat N c) (· = g c) ∧ Tm (fun N => wFormat N c) (· = g c) := fun c hc => Classical.choose_spec (hch c) hc
    have l1 := txt_len h1.1 h1.2
    have l2 := txt_len h2.1 h2.2
    have l3 := txt_len hpv.1 hpv.2
    let hd : List UInt8 := ((([108, 101, 110, 103, 116, 104, 32, 120] : List UInt8) ++ txt r.Var) ++ ([32, 60, 61, 32] : List UInt8)) ++ txt r.At
    have hhd : hd.length ≤ 52 := by simp only [hd, List.length_append, List.length_cons, List.length_nil]; omega
    let acc : Nat → List UInt8 := fun k => (r.Children.take k).foldl (fun a c => a ++ ((([32, 40] : List UInt8) ++ g c) ++ ([41] : List UInt8))) hd
    have hacc : ∀ k, (h : k < r.Children.length) → acc (k + 1) = acc k ++ ((([32, 40] : List UInt8) ++ g r.Children[k]) ++ ([41] : List UInt8)) := fun k h => by
      simp only [acc]
      rw [List.take_succ_eq_append_getElem h, List.foldl_append]; rfl
    have hal : ∀ k, k ≤ r.Children.length → (acc k).length ≤ 52 + 60 * bkRs (r.Children.take k) := by
      intro k
      induction k with
      | zero => intro _; simp only [acc, List.take_zero, List.foldl_nil, bkRs]; omega
      | succ k ihk =>
        intro hk
        have hk' : k < r.Children.length := hk
        have e1 := ihk (by omega)
        have e2 := bkRs_get hk'
        have e3 := (hg _ (List.getElem_mem hk')).1
        have e4 := bkR_pos r.Children[k]
        rw [hacc k hk']
        simp only [List.length_append, List.length_cons, List.length_nil]
        omega
    have hfull : (acc r.Children.length).length ≤ 52 + 60 * bkRs r.Children := by
      have := hal _ (Nat.le_refl _)
      rwa [List.take_length] at this
    refine ⟨if r.Kind = 0 then ([110, 117, 108, 108, 32, 120] : List UInt8) ++ txt r.Var else if r.Kind = 1 then [116, 101, 120, 116] else if r.Kind = 2 then ([105, 110, 116, 101, 103, 101, 114, 115, 32] : List UInt8) ++ txt pv else if r.Kind = 3 then acc r.Children.length else [105, 110, 118, 97, 108, 105, 100], ?_, Tm.succ ?_, Tm.succ ?_⟩
    · repeat' split
      all_goals (try simp only [List.length_append, List.length_cons, List.length_nil])
      all_goals omega
    · show Tm (fun N => vFormat_step N (vFormat N) r) _
      unfold vFormat_step
      refine Tm.ite (fun g0 => ?_) (fun g0 => ?_)
      · rw [if_pos g0]
        refine (fmtI_tm h1).bind fun _ e => ?_
        subst e
        exact Tm.step (chk_ok (by simp only [List.length_cons, List.length_nil]; omega)) (Tm.pure rfl)
      rw [if_neg g0]
      refine Tm.ite (fun g0 => ?_) (fun g0 => ?_)
      · rw [if_pos g0]; exact Tm.pure rfl
      rw [if_neg g0]
      refine Tm.ite (fun g0 => ?_) (fun g0 => ?_)
      · rw [if_pos g0]
        refine hc.bind fun _ e => ?_
        subst e
        refine (fmtI_tm hpv).bind fun _ e => ?_
        subst e
        exact Tm.step (chk_ok (by simp only [List.length_cons, List.length_nil]; omega)) (Tm.pure rfl)
      rw [if_neg g0]
      refine Tm.ite (fun g0 => ?_) (fun g0 => ?_)
      · rw [if_pos g0]
        refine (fmtI_tm h1).bind fun _ e => ?_
        subst e
        refine Tm.step (chk_ok (by simp only [List.length_cons, List.length_nil]; omega)) (Tm.step (chk_ok (by simp only [List.length_append, List.length_cons, List.length_nil]; omega)) ?_)
        refine (fmtI_tm h2).bind fun _ e => ?_
        subst e
        refine Tm.step (chk_ok (by simp only [List.length_append, List.length_cons, List.length_nil]; omega)) (Tm.step (wr_ok (show ([] : List UInt8).length + hd.length ≤ _ by simp only [List.length_nil]; omega)) ?_)
        refine Tm.bind (Tm.over r.Children.length (fun s : List UInt8 × Int => s.2) (fun s => s.2.toNat ≤ r.Children.length ∧ s.1 = acc s.2.toNat) (Q := (· = acc r.Children.length)) ⟨0, rfl⟩ ⟨by simp, rfl⟩ ?_) (fun _ h => Tm.pure h)
        rintro ⟨m, kk⟩ k rfl ⟨hk, hm⟩
        dsimp only [vFormat_b1] at *
        rw [Int.toNat_natCast] at hk hm
        refine Tm.ite (fun h => ?_) (fun h => Tm.pure ?_)
        · have hk : k < r.Children.length := by omega
          refine Tm.step (idx_ok hk) ((hg _ (List.getElem_mem hk)).2.1.bind fun t e => ?_)
          subst e
          have e1 := hal (k + 1) hk
          have e2 := bkRs_take (l := r.Children) (k := k + 1)
          rw [hacc k hk] at e1
          have e1' := e1
          simp only [List.length_append, List.length_cons, List.length_nil] at e1'
          refine Tm.step (chk_ok (by simp only [List.length_cons, List.length_nil]; omega)) (Tm.step (chk_ok (by simp only [List.length_append, List.length_cons, List.length_nil]; omega)) (Tm.step (wr_ok (by rw [hm]; simp only [List.length_append, List.length_cons, List.length_nil]; omega)) (Tm.pure ⟨hk, nx hk h4, by rw [nx hk h4, Int.toNat_natCast]; exact ⟨hk, by rw [hacc k hk, hm]⟩⟩)))
        · rw [hm, show k = r.Children.length by omega]
      · rw [if_neg g0]; exact Tm.pure rfl
    · show Tm (fun N => wFormat_step N (wFormat N) r) _
      unfold wFormat_step
      refine Tm.ite (fun g0 => ?_) (fun g0 => ?_)
      · rw [if_pos g0]
        refine (wnumber_tm h1).bind fun _ e => ?_
        subst e
        exact Tm.step (chk_ok (by simp only [List.length_cons, List.length_nil]; omega)) (Tm.pure rfl)
      rw [if_neg g0]
      refine Tm.ite (fun g0 => ?_) (fun g0 => ?_)
      · rw [if_pos g0]; exact Tm.pure rfl
      rw [if_neg g0]
      refine Tm.ite (fun g0 => ?_) (fun g0 => ?_)
      · rw [if_pos g0]
        refine hr.bind fun _ e => ?_
        subst e
        refine (wnumber_tm hpv).bind fun _ e => ?_
        subst e
        exact Tm.step (chk_ok (by simp only [List.length_cons, List.length_nil]; omega)) (Tm.pure rfl)
      rw [if_neg g0]
      refine Tm.ite (fun g0 => ?_) (fun g0 => ?_)
      · rw [if_pos g0]
        refine (wnumber_tm h1).bind fun _ e => ?_
        subst e
        refine Tm.step (chk_ok (by simp only [List.length_cons, List.length_nil]; omega)) (Tm.step (chk_ok (by simp only [List.length_append, List.length_cons, List.length_nil]; omega)) ?_)
        refine (wnumber_tm h2).bind fun _ e => ?_
        subst e
        refine Tm.step (chk_ok (by simp only [List.length_append, List.length_cons, List.length_nil]; omega)) ?_
        refine Tm.bind (Tm.over r.Children.length (fun s : List UInt8 × Int => s.2) (fun s => s.2.toNat ≤ r.Children.length ∧ s.1 = acc s.2.toNat) (Q := (· = acc r.Children.length)) ⟨0, rfl⟩ ⟨by simp, rfl⟩ ?_) (fun _ h => Tm.pure h)
        rintro ⟨m, kk⟩ k rfl ⟨hk, hm⟩
        dsimp only [wFormat_b1] at *
        rw [Int.toNat_natCast] at hk hm
        refine Tm.ite (fun h => ?_) (fun h => Tm.pure ?_)
        · have hk : k < r.Children.length := by omega
          have e1 := hal (k + 1) hk
          have e2 := bkRs_take (l := r.Children) (k := k + 1)
          rw [hacc k hk] at e1
          have e1' := e1
          simp only [List.length_append, List.length_cons, List.length_nil] at e1'
          refine Tm.step (chk_ok (by rw [hm]; simp only [List.length_cons, List.length_nil]; omega)) (Tm.step (idx_ok hk) ((hg _ (List.getElem_mem hk)).2.2.bind fun t e => ?_))
          subst e
          refine Tm.step (chk_ok (by rw [hm]; simp only [List.length_append, List.length_cons, List.length_nil]; omega)) (Tm.step (chk_ok (by rw [hm]; simp only [List.length_append, List.length_cons, List.length_nil]; omega)) (Tm.pure ⟨hk, nx hk h4, by rw [nx hk h4, Int.toNat_natCast]; exact ⟨hk, by rw [hacc k hk, hm]; simp only [List.append_assoc]⟩⟩))
        · rw [hm, show k = r.Children.length by omega]
      · rw [if_neg g0]; exact Tm.pure rfl
theorem lawText_tm {r : Refut} (h : InR r) (hb : bkR r ≤ 1048576) : Tm (fun N => lawText N r) (fun r => r = true) := by
  unfold lawText
  refine Tm.bind (Q := fun _ => True) (awake_tm.bind fun r hr => ?_) fun b _ => ?_
  · subst hr
    exact Tm.neg (by simp) ((wSmall_end h).bind fun _ _ => Tm.pure trivial)
  · refine Tm.ite (fun _ => awake_tm.bind fun r hr => Tm.pure hr) (fun _ => ?_)
    obtain ⟨v, hv, hw⟩ := vw_size h
    obtain ⟨s, -, hs, ht⟩ := vw_text h hb
    refine hv.bind fun a ha => hw.bind fun c hc => ?_
    subst ha
    refine Tm.pos hc.symm (hs.bind fun x hx => ht.bind fun y hy => Tm.pure ?_)
    rw [hx, hy]; exact decide_eq_true rfl
end Go.D

/-
  The laws Accepts and AtMost of chapter 20. Plain theorems.
-/
import Derived.Test.YtckhldmpcddjmaaDoorK2
import Derived.Test.YtckhldmpcddjmaaDoorA20
set_option linter.unusedSimpArgs false
set_option linter.unusedVariables false
namespace Go.D
open Go Go.X
theorem lawAccepts_tm {d : ADfa} {s : List UInt8} (hw : Wf d) : Tm (fun N => lawAccepts N d s) (· = true) := by
  unfold lawAccepts
  have skip : Tm (fun N => (awake N).bind fun r38 => some r38) (· = true) := awake_tm.eq (Tm.some rfl)
  -- the bounds on the input
  have cond : Tm (fun N => (awake N).bind fun r22 => if (!r22) = true then some true else if (d.Accept.length : Int) > 20 then some true else if (d.Edges.length : Int) > 20 then some true else some (decide ((s.length : Int) > 50)))
      (fun b => b = false → d.Accept.length ≤ 20 ∧ d.Edges.length ≤ 20 ∧ s.length ≤ 50) := by
    refine awake_tm.eq (Tm.neg (by simp) (Tm.ite (fun h => Tm.some (fun e => by cases e)) (fun h => Tm.ite (fun h' => Tm.some (fun e => by cases e)) (fun h' => Tm.some (fun e => ?_)))))
    have := of_decide_eq_false e
    exact ⟨by omega, by omega, by omega⟩
  refine cond.bind fun b hb => ?_
  cases b with
  | true => exact Tm.pos rfl skip
  | false =>
    obtain ⟨h1, h2, h3⟩ := hb rfl
    refine Tm.neg (by simp) ?_
    have loop : Tm (fun N => loopM (lawAccepts_b1 N d) N 0) (fun r => (r = Sum.inl () ∧ ∀ l ∈ d.Edges, l.length ≤ 100) ∨ r = Sum.inr true) := by
      refine Tm.up d.Edges.length (fun k i => i = (k : Int) ∧ ∀ l ∈ d.Edges.take k, l.length ≤ 100) ⟨rfl, by simp⟩ ?_
      rintro k hk i ⟨rfl, ho⟩
      unfold lawAccepts_b1
      rcases Nat.lt_or_ge k d.Edges.length with hlt | hge
      · refine Tm.pos (by omega) (Tm.step (idx_n hlt) (Tm.ite (fun h => Tm.some (.inr rfl)) (fun h => Tm.some ⟨hlt, iw_n (by omega), fun l hl => ?_⟩)))
        rw [List.take_add_one, List.getElem?_eq_getElem hlt] at hl
        rcases List.mem_append.1 hl with hl | hl
        · exact ho l hl
        · have : l = d.Edges[k] := by simpa using hl
          subst this; omega
      · refine Tm.neg (by omega) (Tm.some (.inl ⟨rfl, ?_⟩))
        rwa [List.take_of_length_le hge] at ho
    refine loop.bind fun r hr => ?_
    rcases hr with ⟨rfl, hl⟩ | rfl
    · have lms : Lms d := ⟨by omega, by omega, fun l h => by have := hl l h; omega⟩
      refine (rValid_tm lms.lim hw).eq ((lown_tm lms).eq ((aValid_tm lms.lim).eq ?_))
      refine Tm.pos (by simp) ?_
      cases hd : okD d with
      | false => exact Tm.pos rfl (Tm.some rfl)
      | true =>
        refine Tm.neg (by simp) ((lown_tm lms).eq ((aAccepts_tm hd (by omega)).eq ((rAccepts_tm hd (by omega)).eq (Tm.some ?_))))
        show (_ == _) = true
        simp
    · exact Tm.some rfl

/-! ## The texts up to a length -/
def stars : Nat → Nat → List (List AEdge)
  | 0, _ => []
  | k + 1, i => [⟨32, 126, ((i + 1 : Nat) : Int)⟩] :: stars k (i + 1)
theorem stars_len : ∀ {k i : Nat}, (stars k i).length = k
  | 0, _ => rfl
  | k + 1, i => by simp [stars, stars_len]
theorem stars_get : ∀ {k i j : Nat} (h : j < k), (stars k i)[j]? = some [⟨32, 126, ((i + j + 1 : Nat) : Int)⟩]
  | k + 1, i, 0, _ => rfl
  | k + 1, i, j + 1, h => by
    simp only [stars, List.getElem?_cons_succ]
    rw [stars_get (by omega), show i + 1 + j + 1 = i + (j + 1) + 1 by omega]
theorem stars_snoc : ∀ {k i : Nat}, stars (k + 1) i = stars k i ++ [[⟨32, 126, ((i + k + 1 : Nat) : Int)⟩]]
  | 0, i => rfl
  | k + 1, i => by
    rw [show stars (k + 1 + 1) i = [⟨32, 126, ((i + 1 : Nat) : Int)⟩] :: stars (k + 1) (i + 1) from rfl, stars_snoc]
    simp only [stars, List.cons_append]
    rw [show i + 1 + k + 1 = i + (k + 1) + 1 by omega]
def atMost (m : Nat) : ADfa := ⟨List.replicate (m + 1) true, stars m 0 ++ [[]]⟩
def mN (n : Int) : Nat := (min (max n 0) 4095).toNat
theorem imin_imax (n : Int) : imin (imax n 0) 4095 = (mN n : Int) := by
  unfold imin imax mN
  (repeat' split) <;> omega
theorem mN_le (n : Int) : mN n ≤ 4095 := by unfold mN; omega
theorem aAtMost_tm {n : Int} : Tm (fun N => aAtMost N n) (· = atMost (mN n)) := by
  unfold aAtMost
  have hm := mN_le n
  have loop : Tm (fun N => loopM (aAtMost_b1 N n) N (([] : List Bool), ([] : List (List AEdge)), 0)) (· = (List.replicate (mN n) true, stars (mN n) 0)) := by
    refine Tm.up (mN n) (fun k s => s = (List.replicate k true, stars k 0, (k : Int))) rfl ?_
    rintro k hk s rfl
    unfold aAtMost_b1
    rw [imin_imax]
    rcases Nat.lt_or_ge k (mN n) with hlt | hge
    · refine Tm.pos (by omega) ?_
      have e1 : apnd 1 (List.replicate k true) [true] = some (List.replicate (k + 1) true) := by
        rw [apnd_ok (by simp; omega) (by decide), List.replicate_succ']
      have e2 : apnd 24 (stars k 0) [[]] = some (stars k 0 ++ [[]]) := apnd_ok (by simp [stars_len]; omega) (by decide)
      simp only [e1, e2, Option.bind_some]
      have hl : (stars k 0 ++ [[]]).length = k + 1 := by simp [stars_len]
      refine Tm.step (idx_i (n := k) rfl (by omega)) (Tm.step (upd1_i (n := k) rfl (by omega)) (Tm.some ⟨hlt, ?_⟩))
      rw [iw_n (by omega), stars_snoc]
      congr 2
      rw [List.set_append_right _ _ (by rw [stars_len]; exact Nat.le_refl _), stars_len, Nat.sub_self]
      simp
    · refine Tm.neg (by omega) (Tm.some ?_)
      have : k = mN n := by omega
      subst this; rfl
  refine loop.eq ?_
  have e1 : apnd 1 (List.replicate (mN n) true) [true] = some (List.replicate (mN n + 1) true) := by
    rw [apnd_ok (by simp; omega) (by decide), List.replicate_succ']
  have e2 : apnd 24 (stars (mN n) 0) [[]] = some (stars (mN n) 0 ++ [[]]) := apnd_ok (by simp [stars_len]; omega) (by decide)
  simp only [e1, e2, Option.bind_some]
  exact Tm.some rfl
theorem atMost_ok {m : Nat} (hm : m ≤ 4095) : okD (atMost m) = true := by
  refine okD_iff.2 ⟨by simp [atMost], by simp [atMost]; omega, by simp [atMost, stars_len], fun l hl => ?_⟩
  rcases List.mem_append.1 hl with hl | hl
  · obtain ⟨j, hj, rfl⟩ := List.mem_iff_getElem.1 hl
    rw [stars_len] at hj
    have := stars_get (i := 0) hj
    rw [List.getElem?_eq_getElem (by rw [stars_len]; exact hj)] at this
    rw [Option.some.inj this]
    refine okE_cons.2 ⟨⟨show (31 : Int) < 32 by decide, show (32 : Int) ≤ 126 by decide, show (126 : Int) ≤ 126 by decide, by dsimp only; omega, ?_⟩, rfl⟩
    simp [atMost]; omega
  · have : l = [] := by simpa using hl
    subst this; rfl
theorem stepE_all {t c : Int} : stepE [⟨32, 126, t⟩] c = if 32 ≤ c ∧ c ≤ 126 then t else -1 := rfl
theorem atMost_step {m k : Nat} {c : Int} (hk : k ≤ m) : stp (atMost m) (k : Int) c = if k < m ∧ 32 ≤ c ∧ c ≤ 126 then ((k + 1 : Nat) : Int) else -1 := by
  unfold stp
  rw [if_neg (by omega), Int.toNat_natCast]
  show stepE ((stars m 0 ++ [[]]).getD k []) c = _
  rw [List.getD_eq_getElem?_getD]
  rcases Nat.lt_or_ge k m with h | h
  · rw [List.getElem?_append_left (by rw [stars_len]; exact h), stars_get h, Option.getD_some, stepE_all]
    by_cases hc : 32 ≤ c ∧ c ≤ 126
    · rw [if_pos hc, if_pos ⟨h, hc⟩]; simp
    · rw [if_neg hc, if_neg (fun x => hc x.2)]
  · have : k = m := by omega
    subst this
    rw [List.getElem?_append_right (by rw [stars_len]; exact Nat.le_refl _), stars_len, Nat.sub_self]
    rw [if_neg (by omega)]; rfl
def good (s : List UInt8) : Bool := s.all fun c => decide (32 ≤ c.toNat) && decide (c.toNat ≤ 126)
theorem run_dead {d : ADfa} : ∀ {w : List Int}, run d (-1) w = -1
  | [] => rfl
  | c :: w => by
    show run d (stp d (-1) c) w = -1
    rw [show stp d (-1) c = -1 by unfold stp; rw [if_pos rfl]]
    exact run_dead
theorem atMost_run {m : Nat} : ∀ {s : List UInt8} {k : Nat}, k ≤ m → run (atMost m) (k : Int) (chars s) = if good s = true ∧ k + s.length ≤ m then ((k + s.length : Nat) : Int) else -1
  | [], k, hk => by rw [if_pos ⟨rfl, by simpa using hk⟩]; rfl
  | c :: s, k, hk => by
    show run (atMost m) (stp (atMost m) (k : Int) (c.toNat : Int)) (chars s) = _
    rw [atMost_step hk]
    have hg : good (c :: s) = ((decide (32 ≤ c.toNat) && decide (c.toNat ≤ 126)) && good s) := rfl
    by_cases h : k < m ∧ 32 ≤ (c.toNat : Int) ∧ (c.toNat : Int) ≤ 126
    · rw [if_pos h, atMost_run (by omega), hg]
      have h1 : decide (32 ≤ c.toNat) = true := decide_eq_true (by omega)
      have h2 : decide (c.toNat ≤ 126) = true := decide_eq_true (by omega)
      rw [h1, h2]
      simp only [Bool.true_and, List.length_cons, Bool.and_true]
      rw [show k + 1 + s.length = k + (s.length + 1) by omega]
    · rw [if_neg h, run_dead, if_neg]
      rintro ⟨h1, h2⟩
      rw [hg] at h1
      simp only [Bool.and_eq_true, decide_eq_true_eq] at h1
      simp only [List.length_cons] at h2
      exact h ⟨by omega, by omega, by omega⟩
theorem atMost_fin {m : Nat} {k : Nat} (hk : k ≤ m) : fin (atMost m) (k : Int) = true := by
  unfold fin
  rw [if_neg (by omega), Int.toNat_natCast]
  show (List.replicate (m + 1) true).getD k false = true
  rw [getD_of (by simp; omega)]; simp
theorem lawAtMost_tm {n : Int} {s : List UInt8} : Tm (fun N => lawAtMost N n s) (· = true) := by
  unfold lawAtMost
  have skip : Tm (fun N => (awake N).bind fun r38 => some r38) (· = true) := awake_tm.eq (Tm.some rfl)
  have cond : Tm (fun N => (awake N).bind fun r22 => if (!r22) = true then some true else some (decide ((s.length : Int) > 100))) (fun b => b = false → s.length ≤ 100) := by
    refine awake_tm.eq (Tm.neg (by simp) (Tm.some (fun e => ?_)))
    have := of_decide_eq_false e
    omega
  refine cond.bind fun b hb => ?_
  cases b with
  | true => exact Tm.pos rfl skip
  | false =>
    have hs := hb rfl
    refine Tm.neg (by simp) (aAtMost_tm.eq ?_)
    have loop : Tm (fun N => loopM (lawAtMost_b1 N s) N (true, 0)) (· = good s) := by
      refine Tm.up s.length (fun k t => t = (good (s.take k), (k : Int))) rfl ?_
      rintro k hk t rfl
      unfold lawAtMost_b1
      rcases Nat.lt_or_ge k s.length with hlt | hge
      · refine Tm.pos (by omega) ?_
        have hg : good (s.take (k + 1)) = (good (s.take k) && (decide (32 ≤ s[k].toNat) && decide (s[k].toNat ≤ 126))) := by
          rw [List.take_add_one, List.getElem?_eq_getElem hlt]
          show List.all (s.take k ++ [s[k]]) _ = _
          rw [List.all_append]
          show _ = (List.all (s.take k) _ && _)
          simp only [List.all_cons, List.all_nil, Bool.and_true]
        refine Tm.ite (fun h => Tm.step (idx_n hlt) (Tm.ite (fun h2 => Tm.step (idx_n hlt) (Tm.some ⟨hlt, ?_⟩)) (fun h2 => Tm.some ⟨hlt, ?_⟩))) (fun h => Tm.some ⟨hlt, ?_⟩)
        · rw [iw_n (by omega), hg, h]
          have : decide (32 ≤ s[k].toNat) = true := decide_eq_true (by omega)
          rw [this]
          simp only [Bool.true_and]
          congr 1
          by_cases h3 : s[k].toNat ≤ 126
          · rw [decide_eq_true h3, decide_eq_true (by omega)]
          · rw [decide_eq_false h3, decide_eq_false (by omega)]
        · rw [iw_n (by omega), hg]
          have : decide (32 ≤ s[k].toNat) = false := decide_eq_false (by omega)
          rw [this]; simp
        · have h' : good (s.take k) = false := by simpa using h
          rw [iw_n (by omega), hg, h']; simp
      · refine Tm.neg (by omega) (Tm.some ?_)
        show good (s.take k) = good s
        rw [List.take_of_length_le hge]
    refine loop.eq ?_
    have hok := atMost_ok (mN_le n)
    refine (aValid_tm (okD_lms hok).lim).eq ?_
    rw [hok]
    refine Tm.pos rfl ((aAccepts_tm hok (by omega)).eq ?_)
    have hr := atMost_run (m := mN n) (s := s) (k := 0) (Nat.zero_le _)
    simp only [Nat.zero_add, Int.ofNat_zero, Int.natCast_zero] at hr
    have hlen : (s.length ≤ mN n) ↔ ((s.length : Int) ≤ imax n 0) := by
      unfold mN imax
      split <;> omega
    refine Tm.ite (fun h => Tm.some ?_) (fun h => Tm.some ?_)
    · show (fin (atMost (mN n)) (run (atMost (mN n)) 0 (chars s)) == _) = true
      rw [show run (atMost (mN n)) 0 (chars s) = _ from hr]
      by_cases hl : s.length ≤ mN n
      · rw [if_pos ⟨h, hl⟩, atMost_fin hl, decide_eq_true (hlen.1 hl)]; rfl
      · rw [if_neg (fun x => hl x.2), decide_eq_false (fun x => hl (hlen.2 x))]
        show (fin _ (-1) == false) = true
        unfold fin; rw [if_pos rfl]; rfl
    · show (fin (atMost (mN n)) (run (atMost (mN n)) 0 (chars s)) == false) = true
      rw [show run (atMost (mN n)) 0 (chars s) = _ from hr, if_neg (fun x => h x.1)]
      show (fin _ (-1) == false) = true
      unfold fin; rw [if_pos rfl]; rfl
end Go.D

/-
  The texts of a length that an automaton accepts, in ascending order, by both programs. Plain theorems.
-/
import Derived.Test.YtckhldmpcddjmaaDoorK5
set_option linter.unusedVariables false
set_option linter.unusedSimpArgs false
namespace Go.D
open Go Go.X

theorem flatMap_congr {α β : Type} {f g : α → List β} : ∀ {l : List α}, (∀ a ∈ l, f a = g a) → l.flatMap f = l.flatMap g
  | [], _ => rfl
  | a :: l, h => by rw [List.flatMap_cons, List.flatMap_cons, h a List.mem_cons_self, flatMap_congr fun b hb => h b (List.mem_cons_of_mem _ hb)]
/-! ## Characters in a row -/
def rg (a : Int) (k : Nat) : List Int := (List.range k).map fun (i : Nat) => a + (i : Int)
theorem rg_succ {a : Int} {k : Nat} : rg a (k + 1) = a :: rg (a + 1) k := by
  unfold rg
  rw [List.range_succ_eq_map, List.map_cons, List.map_map]
  congr 1
  · simp
  · apply List.map_congr_left
    intro i _
    simp only [Function.comp]; omega
theorem rg_snoc {a : Int} {k : Nat} : rg a (k + 1) = rg a k ++ [a + k] := by
  unfold rg
  rw [List.range_succ, List.map_append]; rfl
theorem rg_add : ∀ {k m : Nat} {a : Int}, rg a (k + m) = rg a k ++ rg (a + k) m
  | 0, m, a => by simp [rg]
  | k + 1, m, a => by
    rw [show k + 1 + m = (k + m) + 1 by omega, rg_succ, rg_succ, rg_add (k := k), List.cons_append]
    congr 3; omega
theorem mem_rg {a x : Int} {k : Nat} : x ∈ rg a k ↔ a ≤ x ∧ x < a + k := by
  unfold rg
  rw [List.mem_map]
  constructor
  · rintro ⟨i, hi, rfl⟩
    have := List.mem_range.1 hi
    omega
  · rintro ⟨h1, h2⟩
    exact ⟨(x - a).toNat, List.mem_range.2 (by omega), by omega⟩

/-! ## The texts of a length -/
def Wd (d : ADfa) : Nat → Int → List (List Int)
  | 0, s => if fin d s = true then [[]] else []
  | n + 1, s => (rg 32 95).flatMap fun c => if stp d s c = -1 then [] else (Wd d n (stp d s c)).map (c :: ·)
def can (d : ADfa) (n : Nat) (s : Int) : Bool := !(Wd d n s).isEmpty
theorem mem_Wd {d : ADfa} : ∀ {n : Nat} {s : Int} {w : List Int}, w ∈ Wd d n s ↔ w.length = n ∧ Pr w ∧ fin d (run d s w) = true
  | 0, s, w => by
    unfold Wd
    constructor
    · intro h
      split at h
      · rename_i hf
        rw [List.mem_singleton.1 h]
        exact ⟨rfl, fun _ h => (by cases h), hf⟩
      · cases h
    · rintro ⟨h1, _, h3⟩
      have : w = [] := List.eq_nil_of_length_eq_zero h1
      subst this
      have h3' : fin d s = true := h3
      rw [if_pos h3']; exact List.mem_singleton.2 rfl
  | n + 1, s, w => by
    unfold Wd
    rw [List.mem_flatMap]
    constructor
    · rintro ⟨c, hc, hw⟩
      split at hw
      · cases hw
      · obtain ⟨v, hv, rfl⟩ := List.mem_map.1 hw
        obtain ⟨h1, h2, h3⟩ := mem_Wd.1 hv
        have := mem_rg.1 hc
        refine ⟨by simp [h1], fun x hx => ?_, h3⟩
        rcases List.mem_cons.1 hx with rfl | hx
        · omega
        · exact h2 x hx
    · rintro ⟨h1, h2, h3⟩
      cases w with
      | nil => simp at h1
      | cons c v =>
        have hc := h2 c List.mem_cons_self
        refine ⟨c, mem_rg.2 (by omega), ?_⟩
        have h3' : fin d (run d (stp d s c) v) = true := h3
        rw [if_neg]
        · exact List.mem_map.2 ⟨v, mem_Wd.2 ⟨by simpa using h1, fun x hx => h2 x (List.mem_cons_of_mem _ hx), h3'⟩, rfl⟩
        · intro e
          rw [e, run_dead] at h3'
          unfold fin at h3'
          rw [if_pos rfl] at h3'; cases h3'
theorem can_iff {d : ADfa} {n : Nat} {s : Int} : can d n s = true ↔ ∃ w : List Int, w.length = n ∧ Pr w ∧ fin d (run d s w) = true := by
  unfold can
  cases h : Wd d n s with
  | nil =>
    simp only [List.isEmpty_nil, Bool.not_true, Bool.false_eq_true, false_iff]
    rintro ⟨w, hw⟩
    have := mem_Wd.2 hw
    rw [h] at this; cases this
  | cons w r =>
    simp only [List.isEmpty_cons, Bool.not_false, true_iff]
    exact ⟨w, mem_Wd.1 (by rw [h]; exact List.mem_cons_self)⟩
theorem can_false {d : ADfa} {n : Nat} {s : Int} (h : can d n s = false) : Wd d n s = [] := by
  unfold can at h
  simpa using h

/-! ## By edges -/
theorem stepE_mem {n : Int} : ∀ {b : Int} {l : List AEdge}, okE n b l = true → ∀ e ∈ l, ∀ c, e.Low ≤ c → c ≤ e.High → stepE l c = e.To
  | b, x :: l, h, e, he, c, h1, h2 => by
    obtain ⟨⟨g1, g2, g3, g4, g5⟩, h6⟩ := okE_cons.1 h
    rcases List.mem_cons.1 he with rfl | he
    · exact stepE_hit h1 h2
    · have hm : x.High < e.Low := by
        have gen : ∀ {b : Int} {l : List AEdge}, okE n b l = true → ∀ e ∈ l, b < e.Low := by
          intro b l
          induction l generalizing b with
          | nil => intro _ e he; cases he
          | cons y l ih =>
            intro h e he
            obtain ⟨⟨k1, k2, _⟩, k6⟩ := okE_cons.1 h
            rcases List.mem_cons.1 he with rfl | he
            · exact k1
            · have := ih k6 e he; omega
        exact gen h6 e he
      rw [stepE_miss (fun x => by omega)]
      exact stepE_mem h6 e he c h1 h2
theorem flat_edges {α : Type} {n : Int} (G : Int → Int → List α) : ∀ {a : Int} {k : Nat} {l : List AEdge}, okE n (a - 1) l = true → a + k = 127 →
    (rg a k).flatMap (fun c => if stepE l c = -1 then [] else G (stepE l c) c) = l.flatMap fun e => (rg e.Low (e.High + 1 - e.Low).toNat).flatMap (G e.To)
  | a, k, [], _, _ => by
    simp only [List.flatMap_nil]
    rw [List.flatMap_eq_nil_iff]
    intro c _
    show (if (-1 : Int) = -1 then [] else _) = []
    rw [if_pos rfl]
  | a, k, e :: l, h, hk => by
    obtain ⟨⟨g1, g2, g3, g4, g5⟩, h6⟩ := okE_cons.1 h
    obtain ⟨k1, hk1⟩ : ∃ k1 : Nat, (k1 : Int) = e.Low - a := ⟨(e.Low - a).toNat, by omega⟩
    obtain ⟨k2, hk2⟩ : ∃ k2 : Nat, (k2 : Int) = e.High + 1 - e.Low := ⟨(e.High + 1 - e.Low).toNat, by omega⟩
    obtain ⟨k3, hk3⟩ : ∃ k3 : Nat, (k3 : Int) = 126 - e.High := ⟨(126 - e.High).toNat, by omega⟩
    have e1 : k = k1 + (k2 + k3) := by omega
    have e2 : (e.High + 1 - e.Low).toNat = k2 := by omega
    rw [e1, rg_add, rg_add, List.flatMap_append, List.flatMap_append, List.flatMap_cons, e2, show a + (k1 : Int) = e.Low by omega, show e.Low + (k2 : Int) = e.High + 1 by omega]
    have p1 : (rg a k1).flatMap (fun c => if stepE (e :: l) c = -1 then [] else G (stepE (e :: l) c) c) = [] := by
      rw [List.flatMap_eq_nil_iff]
      intro c hc
      have := mem_rg.1 hc
      rw [stepE_low (n := n) (b := c) (okE_cons.2 ⟨⟨by omega, g2, g3, g4, g5⟩, h6⟩) (Int.le_refl _), if_pos rfl]
    have p2 : (rg e.Low k2).flatMap (fun c => if stepE (e :: l) c = -1 then [] else G (stepE (e :: l) c) c) = (rg e.Low k2).flatMap (G e.To) := by
      apply flatMap_congr
      intro c hc
      have := mem_rg.1 hc
      rw [stepE_hit (by omega) (by omega), if_neg (by omega)]
    have p3 : (rg (e.High + 1) k3).flatMap (fun c => if stepE (e :: l) c = -1 then [] else G (stepE (e :: l) c) c) = (rg (e.High + 1) k3).flatMap (fun c => if stepE l c = -1 then [] else G (stepE l c) c) := by
      apply flatMap_congr
      intro c hc
      have := mem_rg.1 hc
      rw [stepE_miss (fun x => by omega)]
    rw [p1, p2, p3, List.nil_append, flat_edges G (a := e.High + 1) (k := k3) (l := l) (by rw [show e.High + 1 - 1 = e.High by omega]; exact h6) (by omega)]
theorem Wd_edges {d : ADfa} (hd : okD d = true) {n s : Nat} (hs : s < d.Edges.length) : Wd d (n + 1) (s : Int) = d.Edges[s].flatMap fun e => (rg e.Low (e.High + 1 - e.Low).toNat).flatMap fun c => (Wd d n e.To).map (c :: ·) := by
  have hok := (okD_iff.1 hd).2.2.2 _ (List.getElem_mem hs)
  have := flat_edges (fun t c => (Wd d n t).map (c :: ·)) (a := 32) (k := 95) (l := d.Edges[s]) hok (by decide)
  rw [← this]
  show (rg 32 95).flatMap (fun c => if stp d s c = -1 then [] else (Wd d n (stp d s c)).map (c :: ·)) = _
  have e : ∀ c, stp d (s : Int) c = stepE d.Edges[s] c := fun c => by
    unfold stp
    rw [if_neg (by omega), Int.toNat_natCast, getD_of hs]
  simp only [e]
theorem can_edges {d : ADfa} (hd : okD d = true) {n s : Nat} (hs : s < d.Edges.length) : can d (n + 1) (s : Int) = d.Edges[s].any fun e => can d n e.To := by
  have hok := (okD_iff.1 hd).2.2.2 _ (List.getElem_mem hs)
  rw [Bool.eq_iff_iff, List.any_eq_true]
  constructor
  · intro h
    obtain ⟨w, h1, h2, h3⟩ := can_iff.1 h
    have hm : w ∈ Wd d (n + 1) (s : Int) := mem_Wd.2 ⟨h1, h2, h3⟩
    rw [Wd_edges hd hs, List.mem_flatMap] at hm
    obtain ⟨e, he, hm⟩ := hm
    obtain ⟨c, hc, hm⟩ := List.mem_flatMap.1 hm
    obtain ⟨v, hv, _⟩ := List.mem_map.1 hm
    exact ⟨e, he, can_iff.2 ⟨v, mem_Wd.1 hv⟩⟩
  · rintro ⟨e, he, h⟩
    obtain ⟨v, h1, h2, h3⟩ := can_iff.1 h
    have hb := okE_mem (by omega) hok e he
    have hlh : e.Low ≤ e.High := by
      have gen : ∀ {b : Int} {l : List AEdge}, okE d.Accept.length b l = true → ∀ e ∈ l, e.Low ≤ e.High := by
        intro b l
        induction l generalizing b with
        | nil => intro _ e he; cases he
        | cons y l ih =>
          intro h e he
          obtain ⟨⟨k1, k2, _⟩, k6⟩ := okE_cons.1 h
          rcases List.mem_cons.1 he with rfl | he
          · exact k2
          · exact ih k6 e he
      exact gen hok e he
    refine can_iff.2 ⟨e.Low :: v, by simp [h1], fun x hx => ?_, ?_⟩
    · rcases List.mem_cons.1 hx with rfl | hx
      · omega
      · exact h2 x hx
    · show fin d (run d (stp d s e.Low) v) = true
      have : stp d (s : Int) e.Low = e.To := by
        unfold stp
        rw [if_neg (by omega), Int.toNat_natCast, getD_of hs]
        exact stepE_mem hok e he _ (Int.le_refl _) hlh
      rw [this]; exact h3

/-! ## Take -/
theorem take_take_append {α : Type} {m : Nat} {l r : List α} : (l.take m ++ r).take m = (l ++ r).take m := by
  rw [List.take_append, List.take_append, List.take_take, Nat.min_self, List.length_take]
  congr 1
  rcases Nat.le_total m l.length with h | h
  · rw [Nat.min_eq_left h, Nat.sub_self, show m - l.length = 0 by omega]
  · rw [Nat.min_eq_right h]
theorem bstr_append {a b : List Int} : bstr (a ++ b) = bstr a ++ bstr b := by unfold bstr; rw [List.map_append]
theorem bstr_len {a : List Int} : (bstr a).length = a.length := by unfold bstr; simp

/-! ## The program's search -/
/-- the table of what can be reached -/
def Tab (d : ADfa) (t : List (List Bool)) (n : Nat) : Prop := ∀ k, k ≤ n → ∃ r : List Bool, t[k]? = some r ∧ r.length = d.Accept.length ∧ ∀ (s : Nat) (h : s < r.length), r[s] = can d k (s : Int)
theorem aFind_tm {d : ADfa} (hd : okD d = true) {t : List (List Bool)} {most : Nat} (hm : most ≤ 100) : ∀ {left s : Nat} {words : List (List UInt8)} {text : List Int}, left ≤ 100 → Tab d t left → s < d.Accept.length → words.length ≤ most → text.length + left ≤ 1000 →
    Tm (fun N => aFind N ⟨d, t, (most : Int), words⟩ (s : Int) text (left : Int)) (· = (words ++ (Wd d left (s : Int)).map fun w => bstr (text ++ w)).take most) := by
  intro left
  induction left with
  | zero =>
    intro s words text hl ht hs hw htx
    refine Tm.succ ?_
    show Tm (fun N => aFind_step N (aFind N) ⟨d, t, (most : Int), words⟩ (s : Int) text ((0 : Nat) : Int)) _
    unfold aFind_step
    obtain ⟨r, hr1, hr2, hr3⟩ := ht 0 (Nat.le_refl _)
    dsimp only
    by_cases hfull : (words.length : Int) ≥ (most : Int)
    · simp only [if_pos hfull, Option.bind_some, if_true]
      refine Tm.some ?_
      rw [List.take_append, List.take_of_length_le hw, show most - words.length = 0 by omega]; simp
    · rw [if_neg hfull]
      have hs2 : s < r.length := by omega
      have e1 : idx t ((0 : Nat) : Int) = some r := idx_get hr1
      have e2 : idx r (s : Int) = some r[s] := idx_n hs2
      simp only [e1, e2, Option.bind_some, hr3 s hs2]
      cases hc : can d 0 (s : Int) with
      | false =>
        refine Tm.pos rfl (Tm.some ?_)
        rw [can_false hc]; simp only [List.map_nil, List.append_nil]; exact (List.take_of_length_le hw).symm
      | true =>
        refine Tm.neg (by simp) (Tm.pos rfl ?_)
        refine Tm.step (apnd_ok (by simp; omega) (by decide)) (Tm.some ?_)
        have hf : fin d (s : Int) = true := by
          obtain ⟨w, h1, _, h3⟩ := can_iff.1 hc
          have : w = [] := List.eq_nil_of_length_eq_zero h1
          subst this; exact h3
        show words ++ [bstr text] = _
        unfold Wd
        rw [if_pos hf, List.map_singleton, List.append_nil, List.take_of_length_le (by simp; omega)]
  | succ left ih =>
    intro s words text hl ht hs hw htx
    refine Tm.succ ?_
    show Tm (fun N => aFind_step N (aFind N) ⟨d, t, (most : Int), words⟩ (s : Int) text ((left + 1 : Nat) : Int)) _
    unfold aFind_step
    obtain ⟨r, hr1, hr2, hr3⟩ := ht (left + 1) (Nat.le_refl _)
    dsimp only
    by_cases hfull : (words.length : Int) ≥ (most : Int)
    · simp only [if_pos hfull, Option.bind_some, if_true]
      refine Tm.some ?_
      rw [List.take_append, List.take_of_length_le hw, show most - words.length = 0 by omega]; simp
    · rw [if_neg hfull]
      have hs2 : s < r.length := by omega
      have e1 : idx t ((left + 1 : Nat) : Int) = some r := idx_get hr1
      have e2 : idx r (s : Int) = some r[s] := idx_n hs2
      simp only [e1, e2, Option.bind_some, hr3 s hs2]
      cases hc : can d (left + 1) (s : Int) with
      | false =>
        refine Tm.pos rfl (Tm.some ?_)
        rw [can_false hc]; simp only [List.map_nil, List.append_nil]; exact (List.take_of_length_le hw).symm
      | true =>
        obtain ⟨g1, g2, g3, g4⟩ := okD_iff.1 hd
        have hse : s < d.Edges.length := by omega
        have hok := g4 _ (List.getElem_mem hse)
        refine Tm.neg (by simp) (Tm.neg (by omega) (Tm.step (idx_n hse) ?_))
        rw [Wd_edges hd hse]
        generalize hL : d.Edges[s] = l at hok ⊢
        have hll := okE_len hok
        let F : AEdge → List (List UInt8) := fun e => (rg e.Low (e.High + 1 - e.Low).toNat).flatMap fun c => (Wd d left e.To).map fun w => bstr (text ++ (c :: w))
        have hF : (l.flatMap fun e => (rg e.Low (e.High + 1 - e.Low).toNat).flatMap fun c => (Wd d left e.To).map (c :: ·)).map (fun w => bstr (text ++ w)) = l.flatMap F := by
          rw [List.map_flatMap]
          apply flatMap_congr
          intro e _
          show _ = List.flatMap _ _
          rw [List.map_flatMap]
          apply flatMap_congr
          intro c _
          rw [List.map_map]; rfl
        rw [hF]
        have ht' : Tab d t left := fun k hk => ht k (by omega)
        have inner : ∀ e ∈ l, ∀ words1 : List (List UInt8), words1.length ≤ most →
            Tm (fun N => loopM (aFind_b2 N (aFind N) ⟨d, t, (most : Int), words⟩ ((left + 1 : Nat) : Int) text e) N (words1, iw e.Low)) (· = (words1 ++ F e).take most) := by
          intro e he words1 hw1
          have hb := okE_mem (by omega) hok e he
          have el : iw e.Low = e.Low := iw_eq (by omega) (by omega)
          have eh : iw e.High = e.High := iw_eq (by omega) (by omega)
          obtain ⟨to, hto⟩ : ∃ to : Nat, e.To = (to : Int) := ⟨e.To.toNat, by omega⟩
          have htl : to < d.Accept.length := by omega
          have hww : words1 = words1.take most := (List.take_of_length_le hw1).symm
          refine Tm.up (e.High + 1 - e.Low).toNat (fun k s => s.2 = e.Low + (k : Int) ∧ s.1 = (words1 ++ (rg e.Low k).flatMap fun c => (Wd d left e.To).map fun w => bstr (text ++ (c :: w))).take most)
            ⟨by rw [el]; omega, by simp only [rg, List.range_zero, List.map_nil, List.flatMap_nil, List.append_nil]; exact hww⟩ ?_
          rintro k hk ⟨ws, c⟩ ⟨hc, hws⟩
          dsimp only at hc hws; subst hc
          unfold aFind_b2
          rw [eh]
          have hwl : ws.length ≤ most := by rw [hws, List.length_take]; exact Nat.min_le_left _ _
          rcases Nat.lt_or_ge k (e.High + 1 - e.Low).toNat with hlt | hge
          · refine Tm.pos (by omega) (Tm.step (apnd_ok (by simp; omega) (by decide)) ?_)
            have e8 : uw8 (e.Low + (k : Int)) = e.Low + (k : Int) := uw8_eq (by omega) (by omega)
            have e9 : iw (((left + 1 : Nat) : Int) - 1) = (left : Int) := by rw [iw_eq] <;> omega
            rw [e8, e9, hto]
            refine (ih (s := to) (words := ws) (text := text ++ [e.Low + (k : Int)]) (by omega) ht' htl hwl (by simp; omega)).eq (Tm.some ⟨hlt, ?_, ?_⟩)
            · show iw _ = _
              rw [iw_eq] <;> omega
            · show (ws ++ _).take most = _
              rw [rg_snoc, List.flatMap_append, List.flatMap_singleton, ← List.append_assoc, hws, take_take_append, hto]
              congr 3
              funext w
              rw [List.append_assoc]; rfl
          · refine Tm.neg (by omega) (Tm.some ?_)
            have : k = (e.High + 1 - e.Low).toNat := by omega
            subst this
            exact hws
        have outer : Tm (fun N => loopM (aFind_b1 N (aFind N) ⟨d, t, (most : Int), words⟩ ((left + 1 : Nat) : Int) text l) N (words, 0)) (· = (words ++ l.flatMap F).take most) := by
          refine Tm.up l.length (fun k s => s.2 = (k : Int) ∧ s.1 = (words ++ (l.take k).flatMap F).take most) ⟨rfl, by simp only [List.take_zero, List.flatMap_nil, List.append_nil]; exact (List.take_of_length_le hw).symm⟩ ?_
          rintro k hk ⟨ws, i⟩ ⟨hi, hws⟩
          dsimp only at hi hws; subst hi
          unfold aFind_b1
          have hwl : ws.length ≤ most := by rw [hws, List.length_take]; exact Nat.min_le_left _ _
          rcases Nat.lt_or_ge k l.length with hlt | hge
          · refine Tm.pos (by omega) (Tm.step (idx_n hlt) ((inner _ (List.getElem_mem hlt) ws hwl).eq (Tm.some ⟨hlt, iw_n (by omega), ?_⟩)))
            show (ws ++ F l[k]).take most = _
            rw [List.take_add_one, List.getElem?_eq_getElem hlt, hws, take_take_append]
            show _ = (words ++ List.flatMap F (l.take k ++ [l[k]])).take most
            rw [List.flatMap_append, List.flatMap_singleton, List.append_assoc]
          · refine Tm.neg (by omega) (Tm.some ?_)
            show ws = _
            rw [hws, List.take_of_length_le hge]
        exact outer.eq (Tm.some rfl)
end Go.D

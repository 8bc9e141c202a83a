/-
  The reference's Words; the first one of the shortest texts, by both programs. Plain theorems.
-/
import Derived.Test.YtckhldmpcddjmaaDoorK7
set_option linter.unusedVariables false
set_option linter.unusedSimpArgs false
namespace Go.D
open Go Go.X

/-! ## The reference's Words -/
theorem rwords_tm {d : ADfa} (hd : okD d = true) : ∀ {n s most : Nat}, n ≤ 4096 → most ≤ 100 → s < d.Accept.length → Tm (fun N => rwords N d (s : Int) (n : Int) (most : Int)) (· = ((Wd d n (s : Int)).take most).map bstr) := by
  obtain ⟨g1, g2, g3, g4⟩ := okD_iff.1 hd
  intro n
  induction n with
  | zero =>
    intro s most hn hm hs
    refine Tm.succ ?_
    show Tm (fun N => rwords_step N (rwords N) d (s : Int) ((0 : Nat) : Int) (most : Int)) _
    unfold rwords_step
    have cond : Tm (fun N => (rCan N d (s : Int) ((0 : Nat) : Int)).bind fun r20 => if (!r20) = true then some true else some (decide ((most : Int) = 0))) (· = (!can d 0 (s : Int) || decide (most = 0))) := by
      refine (rCan_tm hd hn hs).eq ?_
      cases can d 0 (s : Int) with
      | false => exact Tm.pos rfl (Tm.some rfl)
      | true => exact Tm.neg (by simp) (Tm.some (by simp only [Bool.not_true, Bool.false_or]; by_cases h : most = 0 <;> simp [h]))
    refine cond.eq ?_
    cases hc : can d 0 (s : Int) with
    | false =>
      refine Tm.pos rfl (Tm.some ?_)
      rw [can_false hc]; simp
    | true =>
      by_cases h0 : most = 0
      · refine Tm.pos (by simp [h0]) (Tm.some ?_)
        subst h0; simp
      · refine Tm.neg (by simp [h0]) (Tm.pos rfl (Tm.some ?_))
        have hf : fin d (s : Int) = true := by
          obtain ⟨w, h1, _, h3⟩ := can_iff.1 hc
          have : w = [] := List.eq_nil_of_length_eq_zero h1
          subst this; exact h3
        unfold Wd
        rw [if_pos hf, List.take_of_length_le (by simp; omega)]; rfl
  | succ n ih =>
    intro s most hn hm hs
    refine Tm.succ ?_
    show Tm (fun N => rwords_step N (rwords N) d (s : Int) ((n + 1 : Nat) : Int) (most : Int)) _
    unfold rwords_step
    have cond : Tm (fun N => (rCan N d (s : Int) ((n + 1 : Nat) : Int)).bind fun r20 => if (!r20) = true then some true else some (decide ((most : Int) = 0))) (· = (!can d (n + 1) (s : Int) || decide (most = 0))) := by
      refine (rCan_tm hd hn hs).eq ?_
      cases can d (n + 1) (s : Int) with
      | false => exact Tm.pos rfl (Tm.some rfl)
      | true => exact Tm.neg (by simp) (Tm.some (by simp only [Bool.not_true, Bool.false_or]; by_cases h : most = 0 <;> simp [h]))
    refine cond.eq ?_
    cases hc : can d (n + 1) (s : Int) with
    | false =>
      refine Tm.pos rfl (Tm.some ?_)
      rw [can_false hc]; simp
    | true =>
      by_cases h0 : most = 0
      · refine Tm.pos (by simp [h0]) (Tm.some ?_)
        subst h0; simp
      · refine Tm.neg (by simp [h0]) (Tm.neg (by omega) ?_)
        let Y : Int → List (List Int) := fun c => if stp d (s : Int) c = -1 then [] else (Wd d n (stp d (s : Int) c)).map (c :: ·)
        have hst : St d.Accept.length (s : Int) := ⟨by omega, by omega⟩
        have loop : Tm (fun N => loopM (rwords_b1 N (rwords N) d ((n + 1 : Nat) : Int) (most : Int) (s : Int)) N (([] : List (List UInt8)), 32)) (· = (((rg 32 95).flatMap Y).take most).map bstr) := by
          refine Tm.up 95 (fun k t => t.2 = ((32 + k : Nat) : Int) ∧ t.1 = (((rg 32 k).flatMap Y).take most).map bstr) ⟨rfl, by simp [rg]⟩ ?_
          rintro k hk ⟨o, c⟩ ⟨hc2, ho⟩
          dsimp only at hc2 ho; subst hc2
          unfold rwords_b1
          rcases Nat.lt_or_ge k 95 with hlt | hge
          · refine Tm.pos (by omega) ((rStep_tm hd hst).eq ?_)
            have e8 : uw8 (((32 + k : Nat) : Int) + 1) = ((32 + (k + 1) : Nat) : Int) := by rw [uw8_n (by omega)]; congr 1
            have hsn : (rg 32 (k + 1)).flatMap Y = (rg 32 k).flatMap Y ++ Y ((32 + k : Nat) : Int) := by
              rw [rg_snoc, List.flatMap_append, List.flatMap_singleton]; rfl
            have hstep := stp_st hd hst (c := ((32 + k : Nat) : Int))
            by_cases ht : stp d (s : Int) ((32 + k : Nat) : Int) = -1
            · have hY : Y ((32 + k : Nat) : Int) = [] := if_pos ht
              rw [if_neg (by rw [ht]; omega)]
              simp only [Option.bind_some, Bool.false_eq_true, if_false]
              refine Tm.some ⟨hlt, e8, ?_⟩
              rw [hsn, hY, List.append_nil]; exact ho
            · have := hstep.1; have := hstep.2
              rw [if_pos (by omega)]
              simp only [Option.bind_some]
              have hol : o.length = min most ((rg 32 k).flatMap Y).length := by rw [ho, List.length_map, List.length_take]
              by_cases hfull : (o.length : Int) < (most : Int)
              · refine Tm.pos (decide_eq_true hfull) ?_
                obtain ⟨t, ht2⟩ : ∃ t : Nat, stp d (s : Int) ((32 + k : Nat) : Int) = (t : Int) := ⟨(stp d (s : Int) ((32 + k : Nat) : Int)).toNat, by omega⟩
                have hlen : ((rg 32 k).flatMap Y).length = o.length := by omega
                have hoY : o = ((rg 32 k).flatMap Y).map bstr := by rw [ho, List.take_of_length_le (by omega)]
                have e9 : iw (((n + 1 : Nat) : Int) - 1) = (n : Int) := by rw [iw_eq] <;> omega
                have e10 : iw ((most : Int) - (o.length : Int)) = ((most - o.length : Nat) : Int) := by rw [iw_eq] <;> omega
                rw [ht2, e9, e10]
                refine (ih (s := t) (most := most - o.length) (by omega) (by omega) (by omega)).eq ?_
                generalize hR : ((Wd d n (t : Int)).take (most - o.length)).map bstr = R
                have hRl : R.length ≤ most - o.length := by rw [← hR, List.length_map, List.length_take]; exact Nat.min_le_left _ _
                have hRe : ∀ x ∈ R, x.length ≤ 4096 := by
                  intro x hx
                  rw [← hR] at hx
                  obtain ⟨w, hw, rfl⟩ := List.mem_map.1 hx
                  have := (mem_Wd.1 (List.mem_of_mem_take hw)).1
                  rw [bstr_len]; omega
                have inner : Tm (fun N => loopM (rwords_b2 N ((n + 1 : Nat) : Int) ((32 + k : Nat) : Int) R) N (o, 0)) (· = o ++ R.map (bstr [((32 + k : Nat) : Int)] ++ ·)) := by
                  refine Tm.up R.length (fun j u => u.2 = (j : Int) ∧ u.1 = o ++ (R.take j).map (bstr [((32 + k : Nat) : Int)] ++ ·)) ⟨rfl, by simp⟩ ?_
                  rintro j hj ⟨u, i⟩ ⟨hi, hu⟩
                  dsimp only at hi hu; subst hi; subst hu
                  unfold rwords_b2
                  rcases Nat.lt_or_ge j R.length with hjl | hjl
                  · have := hRe _ (List.getElem_mem hjl)
                    refine Tm.pos (by omega) (Tm.step (idx_n hjl) (Tm.step (chk_ok (by rw [bstr_len]; simp; omega)) (Tm.step (apnd_ok (by simp; omega) (by decide)) (Tm.some ⟨hjl, iw_n (by omega), ?_⟩))))
                    show o ++ (R.take j).map (bstr [((32 + k : Nat) : Int)] ++ ·) ++ [bstr [((32 + k : Nat) : Int)] ++ R[j]] = _
                    rw [map_take_succ hjl, List.append_assoc]
                  · refine Tm.neg (by omega) (Tm.some ?_)
                    show o ++ (R.take j).map _ = _
                    rw [List.take_of_length_le hjl]
                refine inner.eq (Tm.some ⟨hlt, e8, ?_⟩)
                show o ++ R.map (bstr [((32 + k : Nat) : Int)] ++ ·) = _
                have hY : Y ((32 + k : Nat) : Int) = (Wd d n (t : Int)).map (((32 + k : Nat) : Int) :: ·) := by
                  show (if _ = -1 then _ else _) = _
                  rw [if_neg ht, ht2]
                rw [hsn, List.take_append, List.take_of_length_le (by omega), List.map_append, ← hoY, hY, ← List.map_take, List.map_map, hlen, ← hR, List.map_map]
                congr 1
              · have hdec : decide ((o.length : Int) < (most : Int)) = false := decide_eq_false hfull
                refine Tm.neg (by rw [hdec]; simp) (Tm.some ⟨hlt, e8, ?_⟩)
                rw [hsn, List.take_append, show most - ((rg 32 k).flatMap Y).length = 0 by omega, List.take_zero, List.append_nil]; exact ho
          · refine Tm.neg (by omega) (Tm.some ?_)
            have : k = 95 := by omega
            subst this; exact ho
        refine loop.eq (Tm.some rfl)
theorem rWords_tm {d : ADfa} (hd : okD d = true) {n most : Nat} (hn : n ≤ 4096) (hm : most ≤ 100) : Tm (fun N => rWords N d (n : Int) (most : Int)) (· = ((Wd d n 0).map bstr).take most) := by
  unfold rWords
  simp only [if_neg (show ¬ (n : Int) < 0 by omega), decide_eq_false (show ¬ (most : Int) < 0 by omega), Option.bind_some, Bool.false_eq_true, if_false]
  have := rwords_tm hd (n := n) (s := 0) (most := most) hn hm (by have := (okD_iff.1 hd).1; omega)
  rw [List.map_take] at this
  exact this.eq (Tm.some rfl)

/-! ## Shorter, and then before -/
def lexlt : List Int → List Int → Prop
  | a :: l, b :: m => a < b ∨ (a = b ∧ lexlt l m)
  | _, _ => False
def slt (u v : List Int) : Prop := u.length < v.length ∨ (u.length = v.length ∧ lexlt u v)
def sle (u v : List Int) : Prop := slt u v ∨ u = v
theorem lexlt_irrefl : ∀ {l : List Int}, ¬ lexlt l l
  | [], h => h
  | a :: l, h => by
    rcases h with h | ⟨_, h⟩
    · omega
    · exact lexlt_irrefl h
theorem lexlt_trans : ∀ {a b c : List Int}, lexlt a b → lexlt b c → lexlt a c
  | [], _, _, h, _ => by cases h
  | x :: a, [], _, h, _ => by cases h
  | x :: a, y :: b, [], _, h => by cases h
  | x :: a, y :: b, z :: c, h, h' => by
    rcases h with h | ⟨h1, h2⟩
    · rcases h' with h' | ⟨h3, _⟩
      · exact .inl (by omega)
      · exact .inl (by omega)
    · rcases h' with h' | ⟨h3, h4⟩
      · exact .inl (by omega)
      · exact .inr ⟨by omega, lexlt_trans h2 h4⟩
theorem lexlt_total : ∀ {a b : List Int}, a.length = b.length → lexlt a b ∨ a = b ∨ lexlt b a
  | [], [], _ => .inr (.inl rfl)
  | [], y :: b, h => by simp at h
  | x :: a, [], h => by simp at h
  | x :: a, y :: b, h => by
    rcases Int.lt_or_le x y with h1 | h1
    · exact .inl (.inl h1)
    · by_cases h2 : x = y
      · rcases lexlt_total (a := a) (b := b) (by simpa using h) with h3 | h3 | h3
        · exact .inl (.inr ⟨h2, h3⟩)
        · exact .inr (.inl (by rw [h2, h3]))
        · exact .inr (.inr (.inr ⟨h2.symm, h3⟩))
      · exact .inr (.inr (.inl (by omega)))
theorem lexlt_app : ∀ {a b c e : List Int}, a.length = b.length → lexlt a b → lexlt (a ++ c) (b ++ e)
  | [], _, _, _, _, h => by cases h
  | x :: a, [], _, _, _, h => by cases h
  | x :: a, y :: b, c, e, hl, h => by
    rcases h with h | ⟨h1, h2⟩
    · exact .inl h
    · exact .inr ⟨h1, lexlt_app (by simpa using hl) h2⟩
theorem lexlt_last {c e : Int} (h : c < e) : ∀ {a : List Int}, lexlt (a ++ [c]) (a ++ [e])
  | [] => .inl h
  | x :: a => .inr ⟨rfl, lexlt_last h⟩
theorem slt_irrefl {l : List Int} : ¬ slt l l := by
  rintro (h | ⟨_, h⟩)
  · omega
  · exact lexlt_irrefl h
theorem slt_trans {a b c : List Int} (h : slt a b) (h' : slt b c) : slt a c := by
  rcases h with h | ⟨h1, h2⟩
  · rcases h' with h' | ⟨h3, _⟩
    · exact .inl (by omega)
    · exact .inl (by omega)
  · rcases h' with h' | ⟨h3, h4⟩
    · exact .inl (by omega)
    · exact .inr ⟨by omega, lexlt_trans h2 h4⟩
theorem slt_snoc {a b : List Int} {c e : Int} (h : slt a b) : slt (a ++ [c]) (b ++ [e]) := by
  rcases h with h | ⟨h1, h2⟩
  · exact .inl (by simp; omega)
  · exact .inr ⟨by simp [h1], lexlt_app h1 h2⟩
theorem slt_last {a : List Int} {c e : Int} (h : c < e) : slt (a ++ [c]) (a ++ [e]) := .inr ⟨by simp, lexlt_last h⟩
theorem slt_ext {a : List Int} {c : Int} : slt a (a ++ [c]) := .inl (by simp)
theorem sle_trans {a b c : List Int} (h : sle a b) (h' : sle b c) : sle a c := by
  rcases h with h | rfl
  · rcases h' with h' | rfl
    · exact .inl (slt_trans h h')
    · exact .inl h
  · exact h'
theorem sle_snoc {a b : List Int} {c : Int} (h : sle a b) : sle (a ++ [c]) (b ++ [c]) := by
  rcases h with h | rfl
  · exact .inl (slt_snoc h)
  · exact .inr rfl
theorem sle_last {a : List Int} {c e : Int} (h : c ≤ e) : sle (a ++ [c]) (a ++ [e]) := by
  by_cases h' : c = e
  · subst h'; exact .inr rfl
  · exact .inl (slt_last (by omega))
theorem sle_antisymm {a b : List Int} (h : sle a b) (h' : sle b a) : a = b := by
  rcases h with h | h
  · rcases h' with h' | h'
    · exact absurd (slt_trans h h') slt_irrefl
    · exact h'.symm
  · exact h
/-- the first of the texts of a length comes before all others -/
theorem head_le {d : ADfa} : ∀ {n : Nat} {s : Int} {w v : List Int} {r : List (List Int)}, Wd d n s = w :: r → v ∈ Wd d n s → sle w v
  | 0, s, w, v, r, h, hv => by
    have h1 := (mem_Wd.1 (h ▸ List.mem_cons_self : w ∈ Wd d 0 s)).1
    have h2 := (mem_Wd.1 hv).1
    rw [List.eq_nil_of_length_eq_zero h1, List.eq_nil_of_length_eq_zero h2]; exact .inr rfl
  | n + 1, s, w, v, r, h, hv => by
    have hw : w ∈ Wd d (n + 1) s := by rw [h]; exact List.mem_cons_self
    have hwl := (mem_Wd.1 hw).1
    have hvl := (mem_Wd.1 hv).1
    -- the lists by their first character
    have gen : ∀ (k : Nat) (a : Int) (w v : List Int) (r : List (List Int)), (rg a k).flatMap (fun c => if stp d s c = -1 then [] else (Wd d n (stp d s c)).map (c :: ·)) = w :: r →
        v ∈ (rg a k).flatMap (fun c => if stp d s c = -1 then [] else (Wd d n (stp d s c)).map (c :: ·)) → sle w v := by
      intro k
      induction k with
      | zero => intro a w v r h _; simp [rg] at h
      | succ k ih =>
        intro a w v r h hv
        rw [rg_succ, List.flatMap_cons] at h hv
        by_cases he : stp d s a = -1
        · rw [if_pos he, List.nil_append] at h hv
          exact ih _ w v r h hv
        · rw [if_neg he] at h hv
          cases hW : Wd d n (stp d s a) with
          | nil =>
            rw [hW, List.map_nil, List.nil_append] at h hv
            exact ih _ w v r h hv
          | cons x xs =>
            rw [hW, List.map_cons, List.cons_append] at h
            injection h with h1 h2
            subst h1
            rcases List.mem_append.1 hv with hv | hv
            · rw [hW] at hv
              obtain ⟨y, hy, rfl⟩ := List.mem_map.1 hv
              have := head_le hW (hW ▸ hy : y ∈ Wd d n (stp d s a))
              rcases this with h | h
              · refine .inl ?_
                rcases h with h | ⟨h3, h4⟩
                · exact .inl (by simp; omega)
                · exact .inr ⟨by simp [h3], .inr ⟨rfl, h4⟩⟩
              · rw [h]; exact .inr rfl
            · obtain ⟨c, hc, hv⟩ := List.mem_flatMap.1 hv
              have hcr := mem_rg.1 hc
              split at hv
              · cases hv
              · obtain ⟨y, hy, rfl⟩ := List.mem_map.1 hv
                have l1 := (mem_Wd.1 (hW ▸ List.mem_cons_self : x ∈ Wd d n (stp d s a))).1
                have l2 := (mem_Wd.1 hy).1
                exact .inl (.inr ⟨by simp [l1, l2], .inl (by omega)⟩)
    exact gen 95 32 w v r h hv
end Go.D

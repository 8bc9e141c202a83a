/-
 Tests of texts: the reference's states are the program's, spelled out; texts pass alike. Plain theorems.
-/
import Derived.Test.YtaakoedphmeenaaK2
set_option linter.unusedSimpArgs false
set_option linter.unusedVariables false
namespace Go.D
open Go Go.X
theorem clo_congr {p : List UInt8} {S S' : Nat → Bool} : ∀ {i : Nat}, (∀ j, j ≤ i → S j = S' j) → clo p S i = clo p S' i
 | 0, h => h 0 (Nat.le_refl _)
 | i + 1, h => by rw [clo, clo, h (i + 1) (Nat.le_refl _), clo_congr (i := i) fun j hj => h j (by omega)]
def sI (S : Nat → Bool) (n : Nat) : List Int := (List.range (n + 1)).map fun i => if S i then (1 : Int) else 0
theorem sI_len {S : Nat → Bool} {n : Nat} : (sI S n).length = n + 1 := by simp [sI]
theorem sI_get {S : Nat → Bool} {n i : Nat} (h : i ≤ n) : (sI S n)[i]? = some (if S i then (1 : Int) else 0) := by
 unfold sI
 rw [List.getElem?_map, List.getElem?_range (by omega)]; rfl
theorem sI_idx {S : Nat → Bool} {n i : Nat} (h : i ≤ n) : idx (sI S n) (i : Int) = some (if S i then (1 : Int) else 0) := idx_get (sI_get h)
theorem sI_congr {S S' : Nat → Bool} {n : Nat} (h : ∀ i, i ≤ n → S i = S' i) : sI S n = sI S' n := by
 unfold sI
 apply List.map_congr_left
 intro i hi
 rw [h i (by have := List.mem_range.1 hi; omega)]
theorem sI_set {S : Nat → Bool} {n j : Nat} (h : j ≤ n) : (sI S n).set j 1 = sI (fun i => S i || decide (i = j)) n := by
 apply List.ext_getElem?
 intro i
 by_cases hi : i ≤ n
 · rw [sI_get hi, List.getElem?_set, sI_len]
   by_cases e : j = i
   · subst e; rw [if_pos rfl, if_pos (by omega)]; simp
   · rw [if_neg e, sI_get hi, decide_eq_false (fun h => e h.symm)]; simp
 · rw [List.getElem?_eq_none (by rw [List.length_set, sI_len]; omega), List.getElem?_eq_none (by rw [sI_len]; omega)]
theorem sI_upd {S : Nat → Bool} {n j : Nat} (h : j ≤ n) : upd1 (sI S n) (j : Int) 1 = some (sI (fun i => S i || decide (i = j)) n) := by
 rw [upd1_i (n := j) rfl (by rw [sI_len]; omega), sI_set h]
theorem bit1 {b : Bool} : ((if b = true then (1 : Int) else 0) = 1) = (b = true) := by cases b <;> simp
def enc (t : TTest) (s : Int) : List UInt8 := if t.Kind = 1 then bstr (sI s.toNat.testBit t.Text.length) else if s = 100 then [60] else if s = 101 then [62] else [61, UInt8.ofNat s.toNat]
theorem qClosed_tm {p : List UInt8} {S : Nat → Bool} (hp : p.length ≤ 16) : Tm (fun N => qClosed N p (sI S p.length)) (fun r => r.1 = bstr (sI (clo p S) p.length)) := by
 unfold qClosed
 refine Tm.eq (a := sI (clo p S) p.length) ?_ (Tm.some rfl)
 refine Tm.up p.length (fun k s => s.2 = (k : Int) ∧ s.1 = sI (fun i => if i ≤ k then clo p S i else S i) p.length) ⟨rfl, sI_congr fun i _ => by
  by_cases h : i ≤ 0
  · rw [if_pos h, Nat.le_zero.1 h]; rfl
  · rw [if_neg h]⟩ ?_
 rintro k hk ⟨s, i⟩ ⟨hi, hs⟩
 dsimp only at hi hs; subst hi; subst hs
 unfold qClosed_b1
 rcases Nat.lt_or_ge k p.length with hlt | hge
 · refine Tm.pos (by omega) ?_
   simp only [sI_idx (show k ≤ p.length by omega), Option.bind_some, bit1, if_pos (Nat.le_refl k), idx_n hlt]
   cases hc : clo p S k with
   | true =>
    simp only [if_true, Option.bind_some, u8_37]
    by_cases h37 : p[k] = 37
    · simp only [decide_eq_true h37, if_true, iw_n (k := k) (by omega), sI_idx (show k + 1 ≤ p.length by omega), Option.bind_some, sI_upd (show k + 1 ≤ p.length by omega)]
      refine Tm.some ⟨hlt, rfl, sI_congr fun i _ => ?_⟩
      have hp2 : isP p[k]? = true := by rw [List.getElem?_eq_getElem hlt, h37]; rfl
      by_cases h1 : i ≤ k
      · rw [if_pos h1, if_pos (by omega), decide_eq_false (by omega)]; simp
      · rw [if_neg h1]
        by_cases h2 : i = k + 1
        · subst h2; rw [if_pos (Nat.le_refl _), decide_eq_true rfl, clo, hc, hp2]; simp
        · rw [if_neg (by omega), decide_eq_false h2]; simp
    · simp only [decide_eq_false h37, Bool.false_eq_true, if_false]
      refine Tm.some ⟨hlt, iw_n (by omega), sI_congr fun i _ => ?_⟩
      have hp2 : isP p[k]? = false := by rw [List.getElem?_eq_getElem hlt]; exact decide_eq_false fun h => h37 (Option.some.inj h)
      by_cases h1 : i ≤ k
      · rw [if_pos h1, if_pos (by omega)]
      · rw [if_neg h1]
        by_cases h2 : i = k + 1
        · subst h2; rw [if_pos (Nat.le_refl _), clo, hp2]; simp
        · rw [if_neg (by omega)]
   | false =>
    simp only [Bool.false_eq_true, if_false, Option.bind_some]
    refine Tm.some ⟨hlt, iw_n (by omega), sI_congr fun i _ => ?_⟩
    by_cases h1 : i ≤ k
    · rw [if_pos h1, if_pos (by omega)]
    · rw [if_neg h1]
      by_cases h2 : i = k + 1
      · subst h2; rw [if_pos (Nat.le_refl _), clo, hc]; simp
      · rw [if_neg (by omega)]
 · refine Tm.neg (by omega) (Tm.some ?_)
   have : k = p.length := by omega
   subst this
   exact sI_congr fun i hi => by rw [if_pos hi]
def nxK (p : List UInt8) (S : Nat → Bool) (c : Int) (k j : Nat) : Bool := (decide (j < k) && S j && isP p[j]?) || (match j with | 0 => false | i + 1 => decide (i < k) && S i && hit p[i]? c)
theorem nxK_succ {p : List UInt8} {S : Nat → Bool} {c : Int} {k j : Nat} : nxK p S c (k + 1) j = ((nxK p S c k j || (decide (j = k) && S k && isP p[k]?)) || (decide (j = k + 1) && S k && hit p[k]? c)) := by
 unfold nxK
 cases j with
 | zero =>
  by_cases h0 : k = 0
  · subst h0; simp
  · have e1 : decide (0 < k) = true := decide_eq_true (by omega)
    have e2 : decide (0 = k) = false := decide_eq_false (by omega)
    rw [e1, e2]; simp
 | succ i =>
  dsimp only
  by_cases e : i + 1 = k
  · subst e
    have e1 : decide (i + 1 < i + 1) = false := decide_eq_false (by omega)
    have e2 : decide (i < i + 1) = true := decide_eq_true (by omega)
    have e3 : decide (i + 1 < i + 1 + 1) = true := decide_eq_true (by omega)
    have e4 : decide (i < i + 1 + 1) = true := decide_eq_true (by omega)
    have e5 : decide (i + 1 = i + 1 + 1) = false := decide_eq_false (by omega)
    rw [e1, e2, e3, e4, e5, decide_eq_true rfl]
    simp only [Bool.false_and, Bool.true_and, Bool.false_or, Bool.or_false]
    exact Bool.or_comm _ _
  · by_cases e' : i = k
    · subst e'
      have e1 : decide (i + 1 < i) = false := decide_eq_false (by omega)
      have e2 : decide (i < i) = false := decide_eq_false (by omega)
      have e3 : decide (i + 1 = i) = false := decide_eq_false (by omega)
      have e4 : decide (i + 1 < i + 1) = false := decide_eq_false (by omega)
      have e5 : decide (i < i + 1) = true := decide_eq_true (by omega)
      rw [e1, e2, e3, e4, e5, decide_eq_true rfl]; simp
    · have e1 : decide (i + 1 < k + 1) = decide (i + 1 < k) := decide_eq_decide.2 (by omega)
      have e2 : decide (i < k + 1) = decide (i < k) := decide_eq_decide.2 (by omega)
      have e3 : decide (i + 1 = k) = false := decide_eq_false (by omega)
      have e4 : decide (i + 1 = k + 1) = false := decide_eq_false (by omega)
      rw [e1, e2, e3, e4]; simp
theorem nxK_last {p : List UInt8} {S : Nat → Bool} {c : Int} {j : Nat} (hj : j ≤ p.length) : nxK p S c p.length j = nxs p S c j := by
 unfold nxK nxs
 have e0 : (decide (j < p.length) && S j && isP p[j]?) = (S j && isP p[j]?) := by
  by_cases hjl : j < p.length
  · rw [decide_eq_true hjl]; simp
  · rw [List.getElem?_eq_none (by omega)]; simp [isP]
 rw [e0]
 cases j with
 | zero => rfl
 | succ i =>
  have : decide (i < p.length) = true := decide_eq_true (by omega)
  simp only [this, Bool.true_and]
theorem bstr_idx {S : Nat → Bool} {n i : Nat} (h : i ≤ n) : idx (bstr (sI S n)) (i : Int) = some (if S i then (1 : UInt8) else 0) := by
 refine idx_get ?_
 unfold bstr
 rw [List.getElem?_map, sI_get h]
 cases S i <;> rfl
theorem ubit1 {b : Bool} : (((if b = true then (1 : UInt8) else 0).toNat : Int) = 1) = (b = true) := by cases b <;> simp
theorem qStep_b1_tm {t : TTest} {S : Nat → Bool} {c : Int} (hp : t.Text.length ≤ 16) : Tm (fun N => loopM (qStep_b1 N c (bstr (sI S t.Text.length)) t) N (sI (fun _ => false) t.Text.length, 0)) (· = sI (nxs t.Text S c) t.Text.length) := by
 generalize hx : t.Text = p at *
 refine Tm.up p.length (fun k s => s.2 = (k : Int) ∧ s.1 = sI (nxK p S c k) p.length) ⟨rfl, sI_congr fun i _ => by cases i <;> simp [nxK]⟩ ?_
 rintro k hk ⟨s, i⟩ ⟨hi, hs⟩
 dsimp only at hi hs; subst hi; subst hs
 unfold qStep_b1
 rw [hx]
 rcases Nat.lt_or_ge k p.length with hlt | hge
 · refine Tm.pos (by omega) ?_
   have hpk : p[k]? = some p[k] := List.getElem?_eq_getElem hlt
   simp only [bstr_idx (show k ≤ p.length by omega), Option.bind_some, ubit1, idx_n hlt, u8_37, u8_95]
   cases hS : S k with
   | false =>
    simp only [Bool.false_eq_true, if_false, Option.bind_some]
    refine Tm.some ⟨hlt, iw_n (by omega), sI_congr fun i _ => ?_⟩
    rw [nxK_succ, hS]; simp
   | true =>
    simp only [if_true, Option.bind_some]
    by_cases h37 : p[k] = 37
    · have e1 : isP p[k]? = true := by rw [hpk, h37]; rfl
      have e2 : hit p[k]? c = false := by rw [hpk]; simp [hit, h37]
      have n95 : ¬ p[k] = 95 := by rw [h37]; decide
      simp only [decide_eq_true h37, if_true, sI_idx (show k ≤ p.length by omega), Option.bind_some, sI_upd (show k ≤ p.length by omega), if_neg n95, h37]
      have e3 : (if (((37 : UInt8).toNat : Int) = c) then some (decide (c ≠ 37)) else some false) = some false := by
       by_cases h : (((37 : UInt8).toNat : Int) = c)
       · rw [if_pos h, ← h]; rfl
       · rw [if_neg h]
      rw [e3]
      simp only [Option.bind_some, Bool.false_eq_true, if_false, if_neg (show ¬ (37 : UInt8) = 95 by decide)]
      refine Tm.some ⟨hlt, iw_n (by omega), sI_congr fun i _ => ?_⟩
      rw [nxK_succ, hS, e1, e2]; simp
    · have e1 : isP p[k]? = false := by rw [hpk]; exact decide_eq_false fun h => h37 (Option.some.inj h)
      have e2 : (if p[k] = 95 then some true else if (((p[k]).toNat : Int) = c) then some (decide (c ≠ 37)) else some false) = some (hit p[k]? c) := by
       rw [hpk]
       by_cases g1 : p[k] = 95
       · rw [if_pos g1]; simp [hit, g1]
       · rw [if_neg g1]
         by_cases g2 : ((p[k]).toNat : Int) = c
         · rw [if_pos g2]
           have : c ≠ 37 := fun h => h37 (u8_37.1 (g2.trans h))
           simp [hit, g1, g2, h37, this]
         · rw [if_neg g2]; simp [hit, g1, g2]
      simp only [decide_eq_false h37, Bool.false_eq_true, if_false, Option.bind_some]
      rw [e2]
      simp only [Option.bind_some]
      cases hh : hit p[k]? c with
      | true =>
       simp only [if_true, iw_n (k := k) (by omega), sI_idx (show k + 1 ≤ p.length by omega), Option.bind_some, sI_upd (show k + 1 ≤ p.length by omega)]
       refine Tm.some ⟨hlt, rfl, sI_congr fun i _ => ?_⟩
       rw [nxK_succ, hS, e1, hh]; simp
      | false =>
       simp only [Bool.false_eq_true, if_false]
       refine Tm.some ⟨hlt, iw_n (by omega), sI_congr fun i _ => ?_⟩
       rw [nxK_succ, hS, e1, hh]; simp
 · refine Tm.neg (by omega) (Tm.some ?_)
   have : k = p.length := by omega
   subst this
   exact sI_congr fun i hi => nxK_last hi
theorem mk1_sI {n : Nat} (h : n ≤ 16) : mk1 (α := Int) 1 0 (iw ((n : Int) + 1)) = some (sI (fun _ => false) n) := by
 rw [iw_n (by omega), mk1_ok (n := n + 1) rfl (by omega) (by decide)]
 congr 1
 apply List.ext_getElem?
 intro i
 by_cases hi : i ≤ n
 · rw [sI_get hi, List.getElem?_replicate, if_pos (by omega)]; rfl
 · rw [List.getElem?_eq_none (by rw [List.length_replicate]; omega), List.getElem?_eq_none (by rw [sI_len]; omega)]
theorem enc_like {t : TTest} (hk : t.Kind = 1) {S : Nat → Bool} : enc t ((bits (clo t.Text S) (t.Text.length + 1) : Nat) : Int) = bstr (sI (clo t.Text S) t.Text.length) := by
 unfold enc
 rw [if_pos hk, Int.toNat_natCast]
 congr 1
 exact sI_congr fun i hi => by rw [bits_test, decide_eq_true (by omega)]; rfl
theorem qStart_tm {t : TTest} (h : okT t = true) : Tm (fun N => qStart N t) (· = enc t (sp0 t)) := by
 unfold qStart sp0
 have h16 := (okT_len h).2.2
 by_cases hk : t.Kind = 1
 · simp only [hk, ne_eq, not_true_eq_false, if_false, if_true]
   rw [mk1_sI h16]
   simp only [Option.bind_some]
   rw [show (0 : Int) = ((0 : Nat) : Int) from rfl, sI_idx (Nat.zero_le _)]
   simp only [Option.bind_some]
   rw [sI_upd (Nat.zero_le _)]
   simp only [Option.bind_some]
   refine (qClosed_tm h16).bind fun r hr => Tm.some ?_
   rw [hr, enc_like hk]
   congr 1
   refine sI_congr fun i _ => clo_congr fun j _ => ?_
   rw [Bool.false_or]
   cases j with
   | zero => rfl
   | succ j => simp [Nat.testBit_succ]
 · simp only [ne_eq, hk, not_false_eq_true, if_true, if_false]
   refine Tm.some ?_
   unfold enc
   rw [if_neg hk]; rfl
theorem qStep_tm {t : TTest} {s c : Int} (h : okT t = true) (hs : StOk t s) : Tm (fun N => qStep N t (enc t s) c) (· = enc t (spN t s c)) := by
 unfold qStep
 have h16 := (okT_len h).2.2
 by_cases hk : t.Kind = 1
 · obtain ⟨m, rfl, hm⟩ := hs.lk hk
   simp only [hk, if_true]
   rw [mk1_sI h16]
   simp only [Option.bind_some]
   have e : enc t (m : Int) = bstr (sI m.testBit t.Text.length) := by unfold enc; rw [if_pos hk]; rfl
   rw [e]
   refine (qStep_b1_tm h16).eq ?_
   refine (qClosed_tm h16).bind fun r hr => Tm.some ?_
   rw [hr]
   unfold spN
   rw [if_pos hk, enc_like hk]
   congr 1
   refine sI_congr fun i hi => clo_congr fun j hj => ?_
   rw [bits_test, decide_eq_true (by omega)]; rfl
 · simp only [hk, if_false]
   have hN : spN t s c = cmpN t.Text s c := by unfold spN; rw [if_neg hk]
   rw [hN]
   unfold enc
   rw [if_neg hk, if_neg hk]
   rcases hs.cm hk with h1 | h1 | h1
   · subst h1
     rw [if_pos rfl]
     exact Tm.step (a := 60) rfl (Tm.some rfl)
   · subst h1
     rw [if_neg (by decide), if_pos rfl]
     exact Tm.step (a := 62) rfl (Tm.some rfl)
   · rw [if_neg (show ¬ s = 100 by omega), if_neg (show ¬ s = 101 by omega)]
     obtain ⟨i, rfl⟩ := Int.eq_ofNat_of_zero_le h1.1
     rw [Int.toNat_natCast]
     have hi : (UInt8.ofNat i).toNat = i := by simp; omega
     refine Tm.step (a := 61) rfl (Tm.neg (by decide) ?_)
     refine Tm.step (a := UInt8.ofNat i) rfl ?_
     rw [hi, show iw (i : Int) = (i : Int) from iw_eq (by omega) (by omega)]
     unfold cmpN
     rw [if_neg (show ¬ (i : Int) ≥ 100 by omega)]
     by_cases hl : (i : Int) = (t.Text.length : Int)
     · simp only [if_pos hl, Option.bind_some, if_true]
       rw [if_pos (show (i : Int) = (t.Text.length : Int) ∨ c > ((t.Text.getD ((i : Int)).toNat 0).toNat : Int) from .inl hl)]
       exact Tm.some rfl
     · have hlt : i < t.Text.length := by omega
       have eg : t.Text.getD i 0 = t.Text[i] := by rw [List.getD_eq_getElem?_getD, List.getElem?_eq_getElem hlt]; rfl
       simp only [if_neg hl, idx_n hlt, Option.bind_some, Int.toNat_natCast, eg]
       by_cases g1 : c > ((t.Text[i]).toNat : Int)
       · rw [decide_eq_true g1, if_pos (show (i : Int) = (t.Text.length : Int) ∨ c > ((t.Text[i]).toNat : Int) from .inr g1)]; exact Tm.some rfl
       · rw [decide_eq_false g1, if_neg (show ¬ ((i : Int) = (t.Text.length : Int) ∨ c > ((t.Text[i]).toNat : Int)) from fun h => h.elim hl g1)]
         by_cases g2 : c < ((t.Text[i]).toNat : Int)
         · rw [if_pos g2, if_pos g2]; exact Tm.some rfl
         · rw [if_neg g2, if_neg g2, if_neg (show ¬ (i : Int) + 1 = 100 by omega), if_neg (show ¬ (i : Int) + 1 = 101 by omega)]
           have e1 : uw8 (iw ((i : Int) + 1)) = ((i + 1 : Nat) : Int) := by rw [iw_n (by omega)]; exact uw8_eq (by omega) (by omega)
           rw [e1]
           refine Tm.some ?_
           show [61] ++ bstr [((i + 1 : Nat) : Int)] = _
           rw [show (i : Int) + 1 = ((i + 1 : Nat) : Int) from rfl]
           rfl
theorem qFinal_tm {t : TTest} {s : Int} (h : okT t = true) (hs : StOk t s) : Tm (fun N => qFinal N t (enc t s)) (· = spF t s) := by
 unfold qFinal spF
 have hok := okT_len h
 have h16 := hok.2.2
 by_cases hk : t.Kind = 1
 · obtain ⟨m, rfl, hm⟩ := hs.lk hk
   have e : enc t (m : Int) = bstr (sI m.testBit t.Text.length) := by unfold enc; rw [if_pos hk]; rfl
   simp only [hk, if_true, e]
   rw [bstr_idx (Nat.le_refl _)]
   simp only [Option.bind_some, ubit1, Int.toNat_natCast]
   refine Tm.some ?_
   cases m.testBit t.Text.length <;> rfl
 · unfold enc
   simp only [hk, if_false]
   have hkk : t.Kind = 0 ∨ t.Kind = 2 ∨ t.Kind = 3 := by omega
   rcases hs.cm hk with h1 | h1 | h1
   · subst h1
     have a : ¬ ((100 : Int) = (t.Text.length : Int)) := by omega
     rcases hkk with g | g | g <;> rw [g] <;> refine Tm.some ?_ <;> simp [a]
   · subst h1
     have a : ¬ ((101 : Int) = (t.Text.length : Int)) := by omega
     have b : ¬ ((101 : Int) < (t.Text.length : Int)) := by omega
     have c : ¬ ((101 : Int) ≤ (t.Text.length : Int)) := by omega
     rcases hkk with g | g | g <;> rw [g] <;> refine Tm.some ?_ <;> simp [a, b, c]
   · rw [if_neg (show ¬ s = 100 by omega), if_neg (show ¬ s = 101 by omega)]
     obtain ⟨i, rfl⟩ := Int.eq_ofNat_of_zero_le h1.1
     rw [Int.toNat_natCast]
     have hi : (UInt8.ofNat i).toNat = i := by simp; omega
     have e0 : idx ([61, UInt8.ofNat i] : List UInt8) 0 = some 61 := rfl
     have e1 : idx ([61, UInt8.ofNat i] : List UInt8) 1 = some (UInt8.ofNat i) := rfl
     have e2 : iw (i : Int) = (i : Int) := iw_eq (by omega) (by omega)
     have n100 : ¬ (i : Int) = 100 := by omega
     have ok1 : ((UInt8.toNat 61 : Int)) = 61 := rfl
     simp only [e0, e1, hi, e2, Option.bind_some, ok1, if_true, if_neg (show ¬ (61 : Int) = 60 by decide)]
     by_cases hl : (i : Int) = (t.Text.length : Int)
     · have l1 : ¬ (i : Int) < (t.Text.length : Int) := by omega
       have l2 : (i : Int) ≤ (t.Text.length : Int) := by omega
       have m1 : ¬ (t.Text.length : Int) = 100 := by omega
       have m2 : ¬ t.Text.length = 100 := by omega
       rcases hkk with g | g | g <;> rw [g] <;> simp [hl, m1, m2] <;> first | exact Tm.some rfl | (refine Tm.some ?_; simp)
     · have l1 : (i : Int) < (t.Text.length : Int) := by omega
       have l2 : (i : Int) ≤ (t.Text.length : Int) := by omega
       have hl' : ¬ i = t.Text.length := by omega
       have l1' : i < t.Text.length := by omega
       have l2' : i ≤ t.Text.length := by omega
       rcases hkk with g | g | g <;> rw [g] <;> simp [hl, hl', l1', l2', n100] <;> first | exact Tm.some rfl | (refine Tm.some ?_; simp)
theorem qPasses_tm {t : TTest} {x : List UInt8} (h : okT t = true) (hx : x.length ≤ Bg) : Tm (fun N => qPasses N t x) (· = pas t x) := by
 have hb : Bg = 9223372036854775807 := rfl
 unfold qPasses
 refine (qStart_tm h).eq ?_
 have hl : (sby x).length = x.length := sby_len x
 refine Tm.eq (a := enc t (run t (sp0 t) (sby x))) ?_ ((qFinal_tm h (run_ok h (st0_ok h))).eq (Tm.some rfl))
 refine Tm.up x.length (fun k s => s.2 = (k : Int) ∧ s.1 = enc t (run t (sp0 t) ((sby x).take k))) ⟨rfl, rfl⟩ ?_
 rintro k hk ⟨s, i⟩ ⟨hi, hs⟩
 dsimp only at hi hs; subst hi; subst hs
 unfold qPasses_b1
 rcases Nat.lt_or_ge k x.length with hlt | hge
 · refine Tm.pos (by omega) (Tm.step (idx_n hlt) ?_)
   refine (qStep_tm h (run_ok h (st0_ok h))).eq (Tm.some ⟨hlt, iw_n (by omega), ?_⟩)
   rw [← run_snoc]
   have : ((x[k]).toNat : Int) = (sby x)[k]'(by omega) := by simp [sby]
   rw [this, List.take_append_getElem]
 · refine Tm.neg (by omega) (Tm.some ?_)
   show enc _ _ = _
   rw [List.take_of_length_le (by omega)]
end Go.D

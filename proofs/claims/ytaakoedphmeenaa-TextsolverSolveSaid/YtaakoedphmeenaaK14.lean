/-
 The reference's words of a class. Plain theorems.
-/
import Derived.Test.YtaakoedphmeenaaK13
set_option linter.unusedSimpArgs false
set_option linter.unusedVariables false
namespace Go.D
open Go Go.X
def fr : Nat → List (List UInt8)
 | 0 => [[]]
 | n + 1 => (fr n).flatMap fun x => (List.range 95).map fun (c : Nat) => x ++ [UInt8.ofNat (32 + c)]
theorem u8n {c : Nat} (h : c < 95) : (UInt8.ofNat (32 + c)).toNat = 32 + c := by
 have e : (UInt8.ofNat (32 + c)).toNat = (32 + c) % 2 ^ 8 := UInt8.toNat_ofNat'
 rw [e]; omega
theorem mem_fr : ∀ {n : Nat} {s : List UInt8}, s ∈ fr n ↔ s.length = n ∧ s.all prn = true
 | 0, s => by
  simp only [fr, List.mem_singleton]
  constructor
  · rintro rfl; exact ⟨rfl, rfl⟩
  · rintro ⟨h, _⟩; exact List.eq_nil_of_length_eq_zero h
 | n + 1, s => by
  simp only [fr, List.mem_flatMap, List.mem_map, List.mem_range]
  constructor
  · rintro ⟨x, hx, c, hc, rfl⟩
    obtain ⟨h1, h2⟩ := mem_fr.1 hx
    refine ⟨by simp [h1], ?_⟩
    rw [List.all_append, h2, Bool.true_and, List.all_cons, List.all_nil, Bool.and_true]
    unfold prn
    exact decide_eq_true (by rw [u8n hc]; omega)
  · rintro ⟨h1, h2⟩
    have hne : s ≠ [] := by intro e; rw [e] at h1; simp at h1
    have e : s.dropLast ++ [s.getLast hne] = s := List.dropLast_concat_getLast hne
    rw [← e, List.all_append, Bool.and_eq_true, List.all_cons, List.all_nil, Bool.and_true] at h2
    have hb := of_decide_eq_true (show decide (32 ≤ (s.getLast hne).toNat ∧ (s.getLast hne).toNat ≤ 126) = true from h2.2)
    refine ⟨s.dropLast, mem_fr.2 ⟨by rw [List.length_dropLast]; omega, h2.1⟩, (s.getLast hne).toNat - 32, by omega, ?_⟩
    rw [show 32 + ((s.getLast hne).toNat - 32) = (s.getLast hne).toNat by omega, UInt8.ofNat_toNat]
    exact e
theorem fr_nodup : ∀ n, (fr n).Nodup
 | 0 => by simp [fr]
 | n + 1 => by
  simp only [fr]
  refine nodup_flatMap (fr_nodup n) (fun a _ => nodup_map List.nodup_range fun c d hc hd e => ?_) fun a b ha hb hab x hx hx' => ?_
  · have hc := List.mem_range.1 hc
    have hd := List.mem_range.1 hd
    have e := (List.append_inj' e rfl).2
    have e := congrArg UInt8.toNat (List.cons.inj e).1
    rw [u8n hc, u8n hd] at e
    omega
  · obtain ⟨c, hc, rfl⟩ := List.mem_map.1 hx
    obtain ⟨d, hd, e⟩ := List.mem_map.1 hx'
    exact hab (List.append_inj' e rfl).1.symm
theorem fr_len : (fr 0).length = 1 ∧ (fr 1).length = 95 ∧ (fr 2).length = 9025 := by
 have h : ∀ n, (fr (n + 1)).length = 95 * (fr n).length := by
  intro n
  simp only [fr, List.length_flatMap, List.length_map, List.length_range]
  generalize fr n = l
  induction l with
  | nil => rfl
  | cons x l ih => simp only [List.map_cons, List.sum_cons, List.length_cons, ih]; omega
 have h0 : (fr 0).length = 1 := rfl
 have h1 : (fr 1).length = 95 * (fr 0).length := h 0
 have h2 : (fr 2).length = 95 * (fr 1).length := h 1
 omega
theorem fr_le {n : Nat} (h : n ≤ 2) : (fr n).length ≤ 9025 := by
 have := fr_len
 have hc : n = 0 ∨ n = 1 ∨ n = 2 := by omega
 rcases hc with rfl | rfl | rfl <;> omega
section
variable {p : TProb}
def wB (p : TProb) (s : List UInt8) (v : Int) : Bool := decide (p.Min.getD v.toNat 0 ≤ (s.length : Int) ∧ (s.length : Int) ≤ p.Max.getD v.toNat 0) && p.Tests.all fun t => !(decide (t.Var = v) && !pas t s)
theorem rWord_tm {cl : List Int} {s : List UInt8} (hp : OkP p) (hm : Lms p) (hs : s.length ≤ 1000) (hcl : cl.length ≤ 1000) (hv : ∀ v ∈ cl, ∃ q : Nat, v = (q : Int) ∧ q < p.Min.length) : Tm (fun N => rWord N p cl s) (· = cl.all (wB p s)) := by
 have hb : Bg = 9223372036854775807 := rfl
 have htl := hm.c
 unfold rWord
 refine (Tm.allL (b := fun N => rWord_b1 N p s cl) cl (wB p s) (by omega) (fun k hk => ?_) ?_).eq ?_
 · unfold rWord_b1
   obtain ⟨q, eq, hq⟩ := hv _ (List.getElem_mem hk)
   have hq2 : q < p.Max.length := by rw [hp.len]; exact hq
   refine Tm.pos (by omega) (Tm.step (idx_n hk) ?_)
   have ew : wB p s cl[k] = (decide (p.Min[q] ≤ (s.length : Int) ∧ (s.length : Int) ≤ p.Max[q]) && p.Tests.all fun t => !(decide (t.Var = (q : Int)) && !pas t s)) := by
    unfold wB; rw [eq, Int.toNat_natCast, getD_n hq, getD_n hq2]
   rw [ew, eq]
   have key : Tm (fun N => (((idx p.Min (q : Int)).bind fun x760 => (if ((List.length s : Int) : Int) < x760 then some true else (idx p.Max (q : Int)).bind fun x775 => some (decide (((List.length s : Int) : Int) > x775))) : Option Bool))) (· = !decide (p.Min[q] ≤ (s.length : Int) ∧ (s.length : Int) ≤ p.Max[q])) := by
    refine Tm.step (idx_n hq) ?_
    by_cases h1 : (s.length : Int) < p.Min[q]
    · exact Tm.pos h1 (Tm.some (by rw [decide_eq_false (by omega)]; rfl))
    · refine Tm.neg h1 (Tm.step (idx_n hq2) (Tm.some ?_))
      by_cases h2 : (s.length : Int) > p.Max[q]
      · rw [decide_eq_true h2, decide_eq_false (by omega)]; rfl
      · rw [decide_eq_false h2, decide_eq_true (by omega)]; rfl
   refine key.eq ?_
   cases hd : decide (p.Min[q] ≤ (s.length : Int) ∧ (s.length : Int) ≤ p.Max[q]) with
   | false => exact Tm.pos rfl (Tm.some rfl)
   | true =>
    refine Tm.neg (by simp) ?_
    refine (Tm.allL (b := fun N => rWord_b2 N p s (q : Int)) p.Tests (fun t => !(decide (t.Var = (q : Int)) && !pas t s)) (by omega) (fun j hj => ?_) ?_).eq ?_
    · unfold rWord_b2
      refine Tm.pos (by omega) ?_
      have key2 : Tm (fun N => (((idx p.Tests (j : Int)).bind fun x1013 => (if (x1013.Var : Int) = (q : Int) then (idx p.Tests (j : Int)).bind fun x1028 => (qPasses N x1028 s).bind fun r1041 => some (!r1041) else some false) : Option Bool))) (· = (decide (p.Tests[j].Var = (q : Int)) && !pas p.Tests[j] s)) := by
       refine Tm.step (idx_n hj) ?_
       by_cases e : p.Tests[j].Var = (q : Int)
       · refine Tm.pos e (Tm.step (idx_n hj) ((qPasses_tm (hp.ts _ (List.getElem_mem hj)).1 (by omega)).eq (Tm.some (by rw [decide_eq_true e]; rfl))))
       · exact Tm.neg e (Tm.some (by rw [decide_eq_false e]; rfl))
      refine key2.eq ?_
      cases (decide (p.Tests[j].Var = (q : Int)) && !pas p.Tests[j] s) <;> exact Tm.some rfl
    · unfold rWord_b2
      exact Tm.neg (by omega) (Tm.some rfl)
    · rw [Bool.true_and]
      cases p.Tests.all fun t => !(decide (t.Var = (q : Int)) && !pas t s) <;> exact Tm.some rfl
 · unfold rWord_b1
   exact Tm.neg (by omega) (Tm.some rfl)
 · cases cl.all (wB p s) <;> exact Tm.some rfl
def wl (W : List UInt8 → Bool) (n : Nat) : List (List UInt8) := (List.range n).flatMap fun j => (fr j).filter W
theorem wl_succ {W : List UInt8 → Bool} {n : Nat} : wl W (n + 1) = wl W n ++ (fr n).filter W := by
 unfold wl
 rw [List.range_succ, List.flatMap_append]; simp
theorem mem_wl {W : List UInt8 → Bool} {n : Nat} {s : List UInt8} : s ∈ wl W n ↔ s.length < n ∧ s.all prn = true ∧ W s = true := by
 unfold wl
 simp only [List.mem_flatMap, List.mem_range, List.mem_filter, mem_fr]
 constructor
 · rintro ⟨j, hj, ⟨h1, h2⟩, h3⟩; exact ⟨by omega, h2, h3⟩
 · rintro ⟨h1, h2, h3⟩; exact ⟨_, h1, ⟨rfl, h2⟩, h3⟩
theorem wl_nodup {W : List UInt8 → Bool} {n : Nat} : (wl W n).Nodup := by
 unfold wl
 refine nodup_flatMap List.nodup_range (fun a _ => (fr_nodup a).sublist List.filter_sublist) fun a b _ _ hab x hx hx' => ?_
 have h1 := (mem_fr.1 (List.mem_filter.1 hx).1).1
 have h2 := (mem_fr.1 (List.mem_filter.1 hx').1).1
 omega
def ext1 (x : List UInt8) (k : Nat) : List (List UInt8) := (List.range k).map fun (c : Nat) => x ++ [UInt8.ofNat (32 + c)]
theorem ext1_succ {x : List UInt8} {k : Nat} : ext1 x (k + 1) = ext1 x k ++ [x ++ [UInt8.ofNat (32 + k)]] := by
 unfold ext1; rw [List.range_succ, List.map_append]; rfl
theorem ext1_len {x : List UInt8} {k : Nat} : (ext1 x k).length = k := by simp [ext1]
theorem rWords_b3_tm {F nx : List (List UInt8)} {n i : Nat} (hi : i < F.length) (hF : F[i].length ≤ 1000) (hn : nx.length ≤ 100000) :
 Tm (fun N => loopM (rWords_b3 N F (n : Int) (i : Int)) N (nx, 32)) (· = nx ++ if n < 2 then ext1 F[i] 95 else []) := by
 refine Tm.up 95 (fun k s => s.2 = ((32 + k : Nat) : Int) ∧ s.1 = nx ++ (if n < 2 then ext1 F[i] k else []) ∧ (¬ n < 2 → k = 0)) ⟨rfl, by unfold ext1; split <;> simp, fun _ => rfl⟩ ?_
 rintro k hk ⟨s, c⟩ ⟨hc, hs, h0⟩
 dsimp only at hc hs; subst hc
 unfold rWords_b3
 dsimp only
 by_cases hn2 : n < 2
 · rw [if_pos hn2] at hs
   subst hs
   rcases Nat.lt_or_ge k 95 with hlt | hge
   · rw [if_pos (by omega)]
     simp only [Option.bind_some]
     refine Tm.pos (decide_eq_true (by omega)) (Tm.step (idx_n hi) ?_)
     have eb : bstr [uw8 ((32 + k : Nat) : Int)] = [UInt8.ofNat (32 + k)] := by
      rw [uw8_eq (by omega) (by omega)]; rfl
     rw [eb]
     refine Tm.step (chk_ok (by simp only [List.length_singleton]; omega)) ?_
     rw [apnd_ok (by rw [List.length_append, ext1_len, List.length_singleton]; omega) (by decide)]
     refine Tm.some ⟨hlt, by dsimp only; rw [iw_eq] <;> omega, ?_, fun h => absurd hn2 h⟩
     dsimp only
     rw [if_pos hn2, ext1_succ, List.append_assoc]
   · rw [if_neg (by omega)]
     simp only [Option.bind_some]
     have : k = 95 := by omega
     subst this
     exact Tm.neg (by simp) (Tm.some (by show _ = _; rw [if_pos hn2]))
 · rw [if_neg hn2] at hs
   subst hs
   have : k = 0 := h0 hn2
   subst this
   rw [if_pos (by omega)]
   simp only [Option.bind_some]
   exact Tm.neg (by rw [decide_eq_false (by omega)]; simp) (Tm.some (by show _ = _; rw [if_neg hn2]))
theorem take_step {α : Type} {A : List α} {m : Nat} {x : α} : (if (A.take m).length < m then A.take m ++ [x] else A.take m) = (A ++ [x]).take m := by
 by_cases h : (A.take m).length < m
 · rw [if_pos h]
   rw [List.length_take] at h
   rw [List.take_of_length_le (l := A) (by omega), List.take_of_length_le (by rw [List.length_append, List.length_singleton]; omega)]
 · rw [if_neg h]
   rw [List.length_take] at h
   rw [List.take_append_of_le_length (by omega)]
theorem rWords_b2_tm {cl : List Int} {m n : Nat} {W : List UInt8 → Bool} (hm : m ≤ 1000) (hn : n ≤ 2) (hW : ∀ s ∈ fr n, Tm (fun N => rWord N p cl s) (· = W s)) :
 Tm (fun N => loopM (rWords_b2 N (m : Int) p cl (fr n) (n : Int)) N ((wl W n).take m, ([] : List (List UInt8)), false, 0)) (· = ((wl W (n + 1)).take m, (if n < 2 then fr (n + 1) else []), (fr n).any W)) := by
 have hfl := fr_le hn
 refine Tm.up (fr n).length (fun k s => s.2.2.2 = (k : Int) ∧ s.1 = (wl W n ++ ((fr n).take k).filter W).take m ∧ s.2.1 = (if n < 2 then ((fr n).take k).flatMap fun x => ext1 x 95 else []) ∧ s.2.2.1 = ((fr n).take k).any W) ⟨rfl, by simp, by split <;> rfl, rfl⟩ ?_
 rintro k hk ⟨out, nx, so, i⟩ ⟨hi, h1, h2, h3⟩
 dsimp only at hi h1 h2 h3; subst hi
 unfold rWords_b2
 dsimp only
 rcases Nat.lt_or_ge k (fr n).length with hlt | hge
 · have hmem := List.getElem_mem hlt
   have hsl := (mem_fr.1 hmem).1
   have htk := List.take_succ_eq_append_getElem hlt
   refine Tm.pos (by omega) (Tm.step (idx_n hlt) ((hW _ hmem).eq ?_))
   refine Tm.bind (Q := fun z => z = ((wl W n ++ ((fr n).take (k + 1)).filter W).take m, ((fr n).take (k + 1)).any W)) ?_ fun z hz => ?_
   · rw [htk, List.filter_append, List.any_append, ← List.append_assoc]
     cases hw : W (fr n)[k] with
     | true =>
      rw [List.filter_cons_of_pos hw, List.filter_nil]
      refine Tm.pos rfl ?_
      have ht := take_step (A := wl W n ++ ((fr n).take k).filter W) (m := m) (x := (fr n)[k])
      rw [← h1] at ht
      rw [← ht]
      have hol : out.length ≤ m := by rw [h1, List.length_take]; omega
      by_cases hlm : out.length < m
      · rw [if_pos hlm]
        refine Tm.pos (by omega) (Tm.step (idx_n hlt) ?_)
        rw [apnd_ok (by rw [List.length_singleton]; omega) (by decide)]
        exact Tm.some (by simp [hw])
      · rw [if_neg hlm]
        exact Tm.neg (by omega) (Tm.some (by simp [hw]))
     | false =>
      rw [List.filter_cons_of_neg (by rw [hw]; simp), List.filter_nil, List.append_nil, ← h1]
      exact Tm.neg (by simp) (Tm.some (by simp [hw, h3]))
   · subst hz
     dsimp only
     have hnl : nx.length ≤ 95 * k := by
      rw [h2]
      by_cases hn2 : n < 2
      · rw [if_pos hn2]
        have : ∀ l : List (List UInt8), (l.flatMap fun x => ext1 x 95).length = 95 * l.length := by
         intro l
         induction l with
         | nil => rfl
         | cons x l ih => rw [List.flatMap_cons, List.length_append, ext1_len, ih, List.length_cons]; omega
        rw [this, List.length_take]; omega
      · rw [if_neg hn2]; exact Nat.zero_le _
     have hnl2 : nx.length ≤ 100000 := by
      by_cases hn2 : n < 2
      · have := fr_len
        have : (fr n).length ≤ 95 := by
         have hc : n = 0 ∨ n = 1 := by omega
         rcases hc with rfl | rfl <;> omega
        omega
      · rw [h2, if_neg hn2]; exact Nat.zero_le _
     refine (rWords_b3_tm hlt (by omega) hnl2).eq (Tm.some ⟨hlt, iw_n (by omega), rfl, ?_, rfl⟩)
     rw [h2, htk]
     by_cases hn2 : n < 2
     · simp only [if_pos hn2, List.flatMap_append, List.flatMap_cons, List.flatMap_nil, List.append_nil]
     · simp only [if_neg hn2, List.append_nil]
 · have : k = (fr n).length := by omega
   subst this
   refine Tm.neg (by omega) (Tm.some ?_)
   rw [h1, h2, h3, List.take_length, wl_succ]
   rfl
def rl (W : List UInt8 → Bool) (n : Nat) : List Int := ((List.range n).filter fun j => (fr j).any W).map fun (j : Nat) => (j : Int)
theorem rl_succ {W : List UInt8 → Bool} {n : Nat} : rl W (n + 1) = rl W n ++ (if (fr n).any W = true then [(n : Int)] else []) := by
 unfold rl
 rw [List.range_succ, List.filter_append, List.map_append]
 cases h : (fr n).any W with
 | true => simp [h]
 | false => simp [h]
theorem rl_len {W : List UInt8 → Bool} {n : Nat} : (rl W n).length ≤ n := by
 unfold rl
 rw [List.length_map]
 have := List.length_filter_le (fun j => (fr j).any W) (List.range n)
 simpa using this
theorem rWords_tm {cl : List Int} {m : Nat} {W : List UInt8 → Bool} (hm : m ≤ 1000) (hW : ∀ n, n ≤ 2 → ∀ s ∈ fr n, Tm (fun N => rWord N p cl s) (· = W s)) :
 Tm (fun N => rWords N p cl (m : Int)) (· = ((wl W 3).take m, rl W 3)) := by
 unfold rWords
 refine Tm.bind (Q := fun z => z = ((wl W 3).take m, rl W 3)) ?_ fun z hz => by subst hz; exact Tm.some rfl
 refine Tm.up 3 (fun k s => s.2.2.2 = (k : Int) ∧ s.1 = (wl W k).take m ∧ s.2.1 = rl W k ∧ (k < 3 → s.2.2.1 = fr k)) ⟨rfl, by simp [wl], rfl, fun _ => rfl⟩ ?_
 rintro k hk ⟨out, ls, f, i⟩ ⟨hi, h1, h2, h3⟩
 dsimp only at hi h1 h2 h3; subst hi; subst h1; subst h2
 unfold rWords_b1
 dsimp only
 rcases Nat.lt_or_ge k 3 with hlt | hge
 · rw [h3 hlt]
   refine Tm.pos (by omega) ((rWords_b2_tm hm (by omega) (hW k (by omega))).eq ?_)
   dsimp only
   have hrl := rl_len (W := W) (n := k)
   have hf : k + 1 < 3 → (if k < 2 then fr (k + 1) else []) = fr (k + 1) := fun h => by rw [if_pos (by omega)]
   cases ha : (fr k).any W with
   | true =>
    refine Tm.pos rfl ?_
    rw [apnd_ok (by rw [List.length_singleton]; omega) (by decide)]
    exact Tm.some ⟨hlt, iw_n (by omega), rfl, by rw [rl_succ, ha]; simp, hf⟩
   | false =>
    exact Tm.neg (by simp) (Tm.some ⟨hlt, iw_n (by omega), rfl, by rw [rl_succ, ha]; simp, hf⟩)
 · have : k = 3 := by omega
   subst this
   exact Tm.neg (by omega) (Tm.some rfl)
end
end Go.D

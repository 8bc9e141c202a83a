/-
 The words of a list of tests. Plain theorems.
-/
import Derived.Test.YtaakoedphmeenaaK5
set_option linter.unusedSimpArgs false
set_option linter.unusedVariables false
namespace Go.D
open Go Go.X
theorem mem_allI : ∀ {n : Nat} {x : List Int}, x ∈ allI n ↔ x.length = n ∧ ∀ c ∈ x, 32 ≤ c ∧ c ≤ 126
 | 0, x => by
  rw [show allI 0 = [[]] from rfl, List.mem_singleton]
  constructor
  · rintro rfl; exact ⟨rfl, fun _ h => by cases h⟩
  · rintro ⟨h, _⟩; exact List.eq_nil_of_length_eq_zero h
 | n + 1, x => by
  rw [show allI (n + 1) = (List.range 95).flatMap fun (c : Nat) => (allI n).map fun x => ((c : Int) + 32) :: x from rfl, List.mem_flatMap]
  constructor
  · rintro ⟨c, hc, h⟩
    obtain ⟨y, hy, rfl⟩ := List.mem_map.1 h
    obtain ⟨h1, h2⟩ := mem_allI.1 hy
    have := List.mem_range.1 hc
    refine ⟨by rw [List.length_cons, h1], fun d hd => ?_⟩
    rcases List.mem_cons.1 hd with e | e
    · subst e; omega
    · exact h2 d e
  · rintro ⟨h1, h2⟩
    cases x with
    | nil => simp at h1
    | cons c y =>
     have hc := h2 c List.mem_cons_self
     refine ⟨(c - 32).toNat, List.mem_range.2 (by omega), List.mem_map.2 ⟨y, mem_allI.2 ⟨by simpa using h1, fun d hd => h2 d (List.mem_cons_of_mem _ hd)⟩, ?_⟩⟩
     congr 1
     omega
theorem sby_bstr {x : List Int} (h : ∀ c ∈ x, 0 ≤ c ∧ c ≤ 255) : sby (bstr x) = x := by
 unfold sby bstr
 rw [List.map_map]
 conv => rhs; rw [← List.map_id x]
 apply List.map_congr_left
 intro c hc
 have := h c hc
 show ((UInt8.ofNat c.toNat).toNat : Int) = c
 rw [UInt8.toNat_ofNat', Nat.mod_eq_of_lt (by omega)]
 omega
theorem bstr_sby {s : List UInt8} : bstr (sby s) = s := by
 unfold sby bstr
 rw [List.map_map]
 conv => rhs; rw [← List.map_id s]
 apply List.map_congr_left
 intro c _
 apply UInt8.toNat_inj.1
 show (UInt8.ofNat ((c.toNat : Int)).toNat).toNat = c.toNat
 rw [UInt8.toNat_ofNat', Int.toNat_natCast, Nat.mod_eq_of_lt (UInt8.toNat_lt c)]
theorem nodup_flatMap {α β : Type} {f : α → List β} : ∀ {l : List α}, l.Nodup → (∀ a ∈ l, (f a).Nodup) → (∀ a b, a ∈ l → b ∈ l → a ≠ b → ∀ x, x ∈ f a → x ∉ f b) → (l.flatMap f).Nodup
 | [], _, _, _ => by simp
 | a :: l, h, h1, h2 => by
  rw [List.flatMap_cons, List.nodup_append]
  have h' := List.nodup_cons.1 h
  refine ⟨h1 a List.mem_cons_self, nodup_flatMap h'.2 (fun b hb => h1 b (List.mem_cons_of_mem _ hb)) (fun b c hb hc => h2 b c (List.mem_cons_of_mem _ hb) (List.mem_cons_of_mem _ hc)), fun x hx y hy e => ?_⟩
  subst e
  obtain ⟨b, hb, hxb⟩ := List.mem_flatMap.1 hy
  exact h2 a b List.mem_cons_self (List.mem_cons_of_mem _ hb) (fun e => h'.1 (e ▸ hb)) x hx hxb
theorem nodup_map {α β : Type} {f : α → β} : ∀ {l : List α}, l.Nodup → (∀ a b, a ∈ l → b ∈ l → f a = f b → a = b) → (l.map f).Nodup
 | [], _, _ => by simp
 | a :: l, h, h1 => by
  have h' := List.nodup_cons.1 h
  rw [List.map_cons, List.nodup_cons]
  refine ⟨fun hm => ?_, nodup_map h'.2 fun b c hb hc => h1 b c (List.mem_cons_of_mem _ hb) (List.mem_cons_of_mem _ hc)⟩
  obtain ⟨b, hb, e⟩ := List.mem_map.1 hm
  exact h'.1 (h1 b a (List.mem_cons_of_mem _ hb) List.mem_cons_self e ▸ hb)
theorem allI_nodup : ∀ n, (allI n).Nodup
 | 0 => by simp [allI]
 | n + 1 => by
  rw [show allI (n + 1) = (List.range 95).flatMap fun (c : Nat) => (allI n).map fun x => ((c : Int) + 32) :: x from rfl]
  refine nodup_flatMap List.nodup_range (fun c _ => nodup_map (allI_nodup n) fun a b _ _ e => (List.cons.inj e).2) fun a b _ _ hab x hx hx' => ?_
  obtain ⟨y, _, rfl⟩ := List.mem_map.1 hx
  obtain ⟨z, _, e⟩ := List.mem_map.1 hx'
  have := (List.cons.inj e).1
  exact hab (by omega)
def wordsOf (ts : List TTest) (n : Nat) : List (List UInt8) := Rr ts (ts.map sp0) n []
theorem acc_start : ∀ {ts : List TTest} {x : List Int}, acc ts (ts.map sp0) x = ts.all fun t => spF t (run t (sp0 t) x)
 | [], _ => rfl
 | t :: ts, x => by
  have := acc_start (ts := ts) (x := x)
  unfold acc at *
  rw [List.map_cons, List.zip_cons_cons, List.all_cons, this, List.all_cons]
theorem prn_sby {s : List UInt8} : s.all prn = true ↔ ∀ c ∈ sby s, 32 ≤ c ∧ c ≤ 126 := by
 rw [List.all_eq_true]
 unfold sby
 constructor
 · intro h c hc
   obtain ⟨b, hb, rfl⟩ := List.mem_map.1 hc
   have := of_decide_eq_true (h b hb)
   omega
 · intro h b hb
   have := h _ (List.mem_map.2 ⟨b, hb, rfl⟩)
   exact decide_eq_true (by omega)
theorem mem_wordsOf {ts : List TTest} {n : Nat} {s : List UInt8} : s ∈ wordsOf ts n ↔ s.length = n ∧ s.all prn = true ∧ ts.all (fun t => pas t s) = true := by
 unfold wordsOf Rr
 rw [List.mem_map]
 constructor
 · rintro ⟨x, hx, rfl⟩
   obtain ⟨h1, h2⟩ := List.mem_filter.1 hx
   obtain ⟨h3, h4⟩ := mem_allI.1 h1
   have e : sby (bstr x) = x := sby_bstr fun c hc => by have := h4 c hc; omega
   rw [List.nil_append]
   refine ⟨by rw [← h3]; simp [bstr], prn_sby.2 (by rw [e]; exact h4), ?_⟩
   rw [acc_start] at h2
   unfold pas
   rw [e]; exact h2
 · rintro ⟨h1, h2, h3⟩
   refine ⟨sby s, List.mem_filter.2 ⟨mem_allI.2 ⟨by rw [sby_len]; exact h1, prn_sby.1 h2⟩, ?_⟩, by rw [List.nil_append]; exact bstr_sby⟩
   rw [acc_start]; exact h3
theorem wordsOf_nodup {ts : List TTest} {n : Nat} : (wordsOf ts n).Nodup := by
 unfold wordsOf Rr
 refine nodup_map ((allI_nodup n).sublist List.filter_sublist) fun a b ha hb e => ?_
 have ha := (mem_allI.1 (List.mem_filter.1 ha).1).2
 have hb := (mem_allI.1 (List.mem_filter.1 hb).1).2
 have e' := congrArg sby e
 rw [List.nil_append, List.nil_append, sby_bstr (fun c hc => by have := ha c hc; omega), sby_bstr (fun c hc => by have := hb c hc; omega)] at e'
 exact e'
theorem pWords_tm {ts : List TTest} {n m : Nat} (ho : ∀ t ∈ ts, okT t = true) (hl : ts.length ≤ 1000) (hn : n ≤ 255) (hm : 0 < m ∧ m ≤ 100000) : Tm (fun N => pWords N ts (n : Int) (m : Int)) (· = (wordsOf ts n).take m) := by
 unfold pWords
 have e1 : (if (n : Int) < 0 then some true else some (decide ((m : Int) ≤ 0))) = some false := by
  rw [if_neg (by omega), decide_eq_false (by omega)]
 rw [e1]
 simp only [Option.bind_some, Bool.false_eq_true, if_false]
 have key : Tm (fun N => (loopM (pWords_b1 N ts (n : Int)) N (([] : List Int), 0)).bind fun ss => some ss) (· = ts.map sp0) := by
  refine Tm.eq (a := ts.map sp0) ?_ (Tm.some rfl)
  refine Tm.up ts.length (fun k s => s.2 = (k : Int) ∧ s.1 = (ts.take k).map sp0) ⟨rfl, rfl⟩ ?_
  rintro k hk ⟨s, i⟩ ⟨hi, hs⟩
  dsimp only at hi hs; subst hi; subst hs
  unfold pWords_b1
  rcases Nat.lt_or_ge k ts.length with hlt | hge
  · refine Tm.pos (by omega) (Tm.step (idx_n hlt) ((pBegin_tm (ho _ (List.getElem_mem hlt))).eq ?_))
    rw [apnd_ok (by simp; omega) (by decide)]
    refine Tm.some ⟨hlt, iw_n (by omega), ?_⟩
    show _ = (ts.take (k + 1)).map sp0
    rw [← List.take_append_getElem hlt, List.map_append]; rfl
  · refine Tm.neg (by omega) (Tm.some ?_)
    show _ = _
    rw [List.take_of_length_le (by omega)]
 refine key.eq ?_
 have hs : Sts ts (ts.map sp0) := by
  refine ⟨by simp, fun q hq => ?_⟩
  obtain ⟨i, hi, rfl⟩ := List.getElem_of_mem hq
  have hi' : i < ts.length := by rw [List.length_zip] at hi; omega
  rw [List.getElem_zip, List.getElem_map]
  exact st0_ok (ho _ (List.getElem_mem hi'))
 refine (pFind_tm ho hl n (TFinder.mk ts (m : Int) [] []) (ts.map sp0) [] rfl hs hn (by simp; omega) ⟨m, rfl, hm.2, hm.1⟩ (fun k hk => by cases hk)).bind fun r hr => Tm.some ?_
 rw [hr.1, Int.toNat_natCast, List.nil_append]; rfl
end Go.D

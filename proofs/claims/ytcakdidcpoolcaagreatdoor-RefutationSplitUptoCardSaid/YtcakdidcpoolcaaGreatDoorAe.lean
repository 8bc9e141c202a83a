/- Plain theorems and definitions of this seat, several texts in one. -/
import Derived.Test.YtcakdidcpoolcaaGreatDoorAd
import Derived.Test.YtcakdidcpoolcaaGreatDoorProg
import Derived.Test.YtcakdidcpoolcaaGreatDoorAa
import Derived.Test.YtcakdidcpoolcaaGreatDoorRows
import Derived.ChangeMaps5
import Derived.Stop.LaidErr
import Derived.Shelf.Strconv.Itoa0
import Derived.Shelf.Strconv.Itoa1
import Derived.Shelf.LaysM
import Derived.Shelf.Strconv.Itoa2
import Derived.Shelf.Strconv.Itoa3
import Derived.Ground.SlgnProg
import Derived.Test.YtcakdidcpoolcaaGreatDoorAc
set_option linter.unusedSimpArgs false
set_option linter.unusedVariables false
namespace Go.D
open Go Go.X
def kb (s : Int) : List Int := [s % 256, s / 256 % 256, s / 65536 % 256]
def keyI (l : List Int) (n : Nat) : List UInt8 := bstr ((n : Int) :: l.flatMap kb)
theorem pKey_tm {l : List Int} {n : Nat} (hn : n ≤ 255) (hl : l.length ≤ 1000) (h : ∀ s ∈ l, 0 ≤ s) : Tm (fun N => pKey N l (n : Int)) (· = keyI l n) := by
  unfold pKey
  have e0 : uw8 (n : Int) = (n : Int) := uw8_eq (by omega) (by omega)
  rw [e0]
  refine Tm.eq (a := (n : Int) :: l.flatMap kb) ?_ (Tm.some rfl)
  have hlen : ∀ m : List Int, (m.flatMap kb).length = 3 * m.length := fun m => by
    induction m with
    | nil => rfl
    | cons a m ih => rw [List.flatMap_cons, List.length_append, ih, List.length_cons]; simp [kb]; omega
  refine Tm.up l.length (fun k s => s.2 = (k : Int) ∧ s.1 = (n : Int) :: (l.take k).flatMap kb) ⟨rfl, rfl⟩ ?_
  rintro k hk ⟨s, i⟩ ⟨hi, hs⟩
  dsimp only at hi hs; subst hi; subst hs
  unfold pKey_b1
  rcases Nat.lt_or_ge k l.length with hlt | hge
  · refine Tm.pos (by omega) (Tm.step (idx_n hlt) ?_)
    have h0 := h _ (List.getElem_mem hlt)
    have e1 : bshr .u32 l[k] 8 = l[k] / 256 := bshr_u32 (n := 8) (by decide)
    have e2 : bshr .u32 l[k] 16 = l[k] / 65536 := bshr_u32 (n := 16) (by decide)
    rw [e1, e2, uw8_mod, uw8_mod, uw8_mod]
    rw [apnd_ok (by simp only [List.length_cons, hlen, List.length_take, List.length_nil]; omega) (by decide)]
    refine Tm.some ⟨hlt, iw_n (by omega), ?_⟩
    rw [← List.take_append_getElem hlt, List.flatMap_append]
    simp [kb]
  · refine Tm.neg (by omega) (Tm.some ?_)
    show _ = _
    rw [List.take_of_length_le (by omega)]
theorem u8_inj {a b : Int} (ha : 0 ≤ a ∧ a < 256) (hb : 0 ≤ b ∧ b < 256) (h : UInt8.ofNat a.toNat = UInt8.ofNat b.toNat) : a = b := by
  have h1 := congrArg UInt8.toNat h
  rw [UInt8.toNat_ofNat', UInt8.toNat_ofNat', Nat.mod_eq_of_lt (by omega), Nat.mod_eq_of_lt (by omega)] at h1
  omega
theorem kb_inj : ∀ {l l' : List Int}, l.length = l'.length → (∀ s ∈ l, 0 ≤ s ∧ s < 16777216) → (∀ s ∈ l', 0 ≤ s ∧ s < 16777216) → bstr (l.flatMap kb) = bstr (l'.flatMap kb) → l = l'
  | [], [], _, _, _, _ => rfl
  | a :: l, b :: l', hl, h1, h2, h => by
    simp only [List.flatMap_cons, kb, bstr, List.cons_append, List.nil_append, List.map_cons, List.cons.injEq] at h
    obtain ⟨g1, g2, g3, g4⟩ := h
    have ha := h1 a List.mem_cons_self
    have hb := h2 b List.mem_cons_self
    have e1 := u8_inj (by omega) (by omega) g1
    have e2 := u8_inj (by omega) (by omega) g2
    have e3 := u8_inj (by omega) (by omega) g3
    have : a = b := by omega
    rw [this, kb_inj (by simpa using hl) (fun s hs => h1 s (List.mem_cons_of_mem _ hs)) (fun s hs => h2 s (List.mem_cons_of_mem _ hs)) g4]
  | [], _ :: _, hl, _, _, _ => by simp at hl
  | _ :: _, [], hl, _, _, _ => by simp at hl
theorem keyI_inj {l l' : List Int} {n n' : Nat} (hl : l.length = l'.length) (h1 : ∀ s ∈ l, 0 ≤ s ∧ s < 16777216) (h2 : ∀ s ∈ l', 0 ≤ s ∧ s < 16777216) (hn : n ≤ 255) (hn' : n' ≤ 255) (h : keyI l n = keyI l' n') : l = l' ∧ n = n' := by
  unfold keyI bstr at h
  rw [List.map_cons, List.map_cons, List.cons.injEq] at h
  have := u8_inj (a := (n : Int)) (b := (n' : Int)) (by omega) (by omega) h.1
  exact ⟨kb_inj hl h1 h2 h.2, by omega⟩
def allI : Nat → List (List Int)
  | 0 => [[]]
  | n + 1 => (List.range 95).flatMap fun (c : Nat) => (allI n).map fun x => ((c : Int) + 32) :: x
def accT (ts : List TTest) (l : List Int) (x : List Int) : Bool := (ts.zip l).all fun q => spF q.1 (run q.1 q.2 x)
def nextL (ts : List TTest) (l : List Int) (c : Int) : List Int := List.zipWith (fun t s => spN t s c) ts l
def Rr (ts : List TTest) (l : List Int) (n : Nat) (text : List Int) : List (List UInt8) := ((allI n).filter (accT ts l)).map fun x => bstr (text ++ x)
structure Sts (ts : List TTest) (l : List Int) : Prop where
  len : l.length = ts.length
  ok : ∀ q ∈ ts.zip l, StOk q.1 q.2
theorem acc_cons : ∀ {ts : List TTest} {l : List Int} {c : Int} {x : List Int}, accT ts l (c :: x) = accT ts (nextL ts l c) x
  | [], _, _, _ => rfl
  | _ :: _, [], _, _ => rfl
  | t :: ts, s :: l, c, x => by
    have := acc_cons (ts := ts) (l := l) (c := c) (x := x)
    unfold accT nextL at *
    rw [List.zip_cons_cons, List.all_cons, List.zipWith_cons_cons, List.zip_cons_cons, List.all_cons, this]
    rfl
theorem nextL_ok : ∀ {ts : List TTest} {l : List Int} {c : Int}, (∀ t ∈ ts, okT t = true) → Sts ts l → Sts ts (nextL ts l c)
  | [], l, c, _, h => ⟨by simp [nextL], fun q hq => by simp [nextL] at hq⟩
  | t :: ts, [], c, _, h => by have := h.len; simp at this
  | t :: ts, s :: l, c, ho, h => by
    have hs : Sts ts l := ⟨by have := h.len; simpa using this, fun q hq => h.ok q (by rw [List.zip_cons_cons]; exact List.mem_cons_of_mem _ hq)⟩
    have ih := nextL_ok (c := c) (fun t ht => ho t (List.mem_cons_of_mem _ ht)) hs
    refine ⟨?_, fun q hq => ?_⟩
    · unfold nextL at *; rw [List.zipWith_cons_cons, List.length_cons, List.length_cons, ih.len]
    · unfold nextL at *
      rw [List.zipWith_cons_cons, List.zip_cons_cons] at hq
      rcases List.mem_cons.1 hq with e | e
      · subst e
        exact stN_ok c (ho t List.mem_cons_self) (h.ok (t, s) (by rw [List.zip_cons_cons]; exact List.mem_cons_self))
      · exact ih.ok q e
theorem Sts.bnd {ts : List TTest} {l : List Int} (h : Sts ts l) (ho : ∀ t ∈ ts, okT t = true) : ∀ s ∈ l, 0 ≤ s ∧ s < 16777216 := by
  intro s hs
  obtain ⟨i, hi, rfl⟩ := List.getElem_of_mem hs
  have hi' : i < ts.length := by rw [← h.len]; exact hi
  have hz : i < (ts.zip l).length := by rw [List.length_zip]; omega
  have := h.ok _ (List.getElem_mem hz)
  rw [List.getElem_zip] at this
  have h16 := (okT_len (ho _ (List.getElem_mem hi'))).2.2
  by_cases hk : ts[i].Kind = 1
  · obtain ⟨m, e, hm⟩ := this.lk hk
    have h17 : 2 ^ (ts[i].Text.length + 1) ≤ 2 ^ 17 := Nat.pow_le_pow_right (by decide) (by omega)
    dsimp only at e hm
    omega
  · rcases this.cm hk with e | e | e <;> dsimp only at e <;> omega
theorem Rr_succ {ts : List TTest} {l : List Int} {n : Nat} {text : List Int} : Rr ts l (n + 1) text = (List.range 95).flatMap fun (c : Nat) => Rr ts (nextL ts l ((c : Int) + 32)) n (text ++ [(c : Int) + 32]) := by
  unfold Rr
  rw [show allI (n + 1) = (List.range 95).flatMap fun (c : Nat) => (allI n).map fun x => ((c : Int) + 32) :: x from rfl, List.filter_flatMap, List.map_flatMap]
  congr 1
  funext c
  rw [List.filter_map, List.map_map]
  have : (accT ts l ∘ fun x => ((c : Int) + 32) :: x) = accT ts (nextL ts l ((c : Int) + 32)) := by funext x; exact acc_cons
  rw [this]
  congr 1
  funext x
  simp
def DOk (ts : List TTest) (dead : List (List UInt8 × Bool)) : Prop := ∀ k, (mget dead k false).1 = true → ∃ l n, Sts ts l ∧ n ≤ 255 ∧ keyI l n = k ∧ Rr ts l n [] = []
theorem Rr_nil {ts : List TTest} {l : List Int} {n : Nat} {text : List Int} : Rr ts l n text = [] ↔ Rr ts l n [] = [] := by
  unfold Rr; rw [List.map_eq_nil_iff, List.map_eq_nil_iff]
theorem pFind_b1_tm {f : TFinder} {l : List Int} (ho : ∀ t ∈ f.tests, okT t = true) (hs : Sts f.tests l) (hl : f.tests.length ≤ 1000) :
    Tm (fun N => loopM (pFind_b1 N f l) N 0) (fun o => o = if accT f.tests l [] then Sum.inl () else Sum.inr (false, f.out, f.dead)) := by
  have hz : (f.tests.zip l).length = f.tests.length := by rw [List.length_zip, hs.len, Nat.min_self]
  refine (Tm.findL (b := fun N => pFind_b1 N f l) (f.tests.zip l) (fun q => !spF q.1 q.2) (fun _ => (false, f.out, f.dead)) (by omega) (fun k hk => ?_) ?_).mono fun o h => ?_
  · unfold pFind_b1
    have h1 : k < f.tests.length := by omega
    have h2 : k < l.length := by rw [hs.len]; exact h1
    have hq : (f.tests.zip l)[k] = (f.tests[k], l[k]) := List.getElem_zip
    have hok := hs.ok _ (List.getElem_mem hk)
    rw [hq] at hok ⊢
    refine Tm.pos (by omega) (Tm.step (idx_n h1) (Tm.step (idx_n h2) ((pPassed_tm (ho _ (List.getElem_mem h1)) hok).eq ?_)))
    cases spF f.tests[k] l[k] <;> exact Tm.some rfl
  · unfold pFind_b1
    exact Tm.neg (by rw [hz]; omega) (Tm.some rfl)
  · have e : accT f.tests l [] = !((f.tests.zip l).any fun q => !spF q.1 q.2) := by rw [not_any_not]; rfl
    rcases h with ⟨h1, rfl⟩ | ⟨k, hk, h1, _, rfl⟩
    · rw [e, h1]; rfl
    · rw [e, List.any_eq_true.2 ⟨_, List.getElem_mem hk, h1⟩]; rfl
theorem pFind_b3_tm {f : TFinder} {l : List Int} {c : Nat} (hc : 32 ≤ c ∧ c ≤ 126) (ho : ∀ t ∈ f.tests, okT t = true) (hs : Sts f.tests l) (hl : f.tests.length ≤ 1000) :
    Tm (fun N => loopM (pFind_b3 N f l (c : Int)) N (List.replicate l.length 0, 0)) (· = nextL f.tests l (c : Int)) := by
  have hlen := hs.len
  have hn : (nextL f.tests l (c : Int)).length = f.tests.length := by unfold nextL; rw [List.length_zipWith]; omega
  refine Tm.up f.tests.length (fun k s => s.2 = (k : Int) ∧ s.1.length = f.tests.length ∧ ∀ j, j < k → s.1[j]? = (nextL f.tests l (c : Int))[j]?) ⟨rfl, by simp [hlen], fun j hj => by omega⟩ ?_
  rintro k hk ⟨s, i⟩ ⟨hi, hsl, hsj⟩
  dsimp only at hi hsl hsj; subst hi
  unfold pFind_b3
  rcases Nat.lt_or_ge k f.tests.length with hlt | hge
  · have h2 : k < l.length := by omega
    have hz : k < (f.tests.zip l).length := by rw [List.length_zip]; omega
    have hok := hs.ok _ (List.getElem_mem hz)
    rw [List.getElem_zip] at hok
    have e8 : uw8 (c : Int) = (c : Int) := uw8_eq (by omega) (by omega)
    refine Tm.pos (by omega) (Tm.step (idx_n hlt) (Tm.step (idx_n h2) ?_))
    rw [e8]
    refine (pNext_tm (ho _ (List.getElem_mem hlt)) hok).eq ?_
    refine Tm.step (idx_n (by omega)) ?_
    rw [upd1_i (n := k) rfl (by omega)]
    refine Tm.some ⟨hlt, iw_n (by omega), by rw [List.length_set]; exact hsl, fun j hj => ?_⟩
    rw [List.getElem?_set]
    by_cases e : k = j
    · subst e
      rw [if_pos rfl, if_pos (by omega)]
      unfold nextL
      rw [List.getElem?_zipWith, List.getElem?_eq_getElem hlt, List.getElem?_eq_getElem h2]
    · rw [if_neg e]; exact hsj j (by omega)
  · refine Tm.neg (by omega) (Tm.some ?_)
    show s = _
    apply List.ext_getElem?
    intro j
    by_cases hj : j < k
    · exact hsj j hj
    · rw [List.getElem?_eq_none (by omega), List.getElem?_eq_none (by omega)]
theorem take_lt {α : Type} {a b : List α} {n : Nat} (h : ((a ++ b).take n).length < n) : (a ++ b).take n = a ++ b := by
  rw [List.length_take] at h
  exact List.take_of_length_le (by omega)
theorem pFind_tm {ts : List TTest} (ho : ∀ t ∈ ts, okT t = true) (hl : ts.length ≤ 1000) : ∀ (n : Nat) (f : TFinder) (l text : List Int), f.tests = ts → Sts ts l → n ≤ 255 → text.length + n ≤ 1000 → (∃ m : Nat, f.most = (m : Int) ∧ m ≤ 100000 ∧ f.out.length < m) → DOk ts f.dead →
    Tm (fun N => pFind N f l text (n : Int)) (fun r => r.2.1 = (f.out ++ Rr ts l n text).take f.most.toNat ∧ r.1 = decide (Rr ts l n text ≠ []) ∧ DOk ts r.2.2)
  | 0, f, l, text, hf, hs, hn, hx, ⟨m, hm, hml, hout⟩, hd => by
    apply Tm.succ
    show Tm (fun N => pFind_step N (pFind N) f l text ((0 : Nat) : Int)) _
    unfold pFind_step
    refine Tm.pos rfl ?_
    refine (pFind_b1_tm (by rw [hf]; exact ho) (by rw [hf]; exact hs) (by rw [hf]; exact hl)).eq ?_
    rw [hf, hm, Int.toNat_natCast]
    have e : Rr ts l 0 text = if accT ts l [] then [bstr text] else [] := by
      unfold Rr allI
      cases h : accT ts l [] <;> simp [h]
    cases ha : accT ts l [] with
    | true =>
      rw [ha] at e
      simp only [if_true] at e ⊢
      rw [apnd_ok (by simp; omega) (by decide), e]
      refine Tm.some ⟨?_, by simp, hd⟩
      show f.out ++ [bstr text] = _
      rw [List.take_of_length_le (by simp; omega)]
    | false =>
      rw [ha] at e
      simp only [Bool.false_eq_true, if_false] at e ⊢
      rw [e]
      refine Tm.some ⟨?_, by simp, hd⟩
      show f.out = _
      rw [List.append_nil, List.take_of_length_le (by omega)]
  | n + 1, f, l, text, hf, hs, hn, hx, ⟨m, hm, hml, hout⟩, hd => by
    apply Tm.succ
    show Tm (fun N => pFind_step N (pFind N) f l text ((n + 1 : Nat) : Int)) _
    unfold pFind_step
    have hbn := hs.bnd ho
    refine Tm.neg (by omega) ?_
    have hlen := hs.len
    refine (pKey_tm hn (by omega) fun s h => (hbn s h).1).eq ?_
    by_cases hg : (mget f.dead (keyI l (n + 1)) false).1 = true
    · refine Tm.pos hg (Tm.some ?_)
      obtain ⟨l', n', h1, h2, h3, h4⟩ := hd _ hg
      obtain ⟨rfl, rfl⟩ := keyI_inj (by rw [h1.len, hlen]) (h1.bnd ho) hbn h2 hn h3
      have e := (Rr_nil (text := text)).2 h4
      rw [e]
      refine ⟨?_, by simp, hd⟩
      rw [List.append_nil, hm, Int.toNat_natCast, List.take_of_length_le (by omega)]
    · refine Tm.neg hg ?_
      rw [hm, Int.toNat_natCast]
      have key : Tm (fun N => loopM (pFind_b2 N (pFind N) f l ((n + 1 : Nat) : Int) text) N (f.out, f.dead, false, 32)) (fun s => s.1 = (f.out ++ Rr ts l (n + 1) text).take m ∧ s.2.2 = decide (Rr ts l (n + 1) text ≠ []) ∧ DOk ts s.2.1) := by
        have RR := Rr_succ (ts := ts) (l := l) (n := n) (text := text)
        refine Tm.up 95 (fun k s => s.2.2.2 = ((k + 32 : Nat) : Int) ∧ s.1 = (f.out ++ (List.range k).flatMap fun (c : Nat) => Rr ts (nextL ts l ((c : Int) + 32)) n (text ++ [(c : Int) + 32])).take m ∧ s.2.2.1 = decide ((List.range k).flatMap (fun (c : Nat) => Rr ts (nextL ts l ((c : Int) + 32)) n (text ++ [(c : Int) + 32])) ≠ []) ∧ DOk ts s.2.1) ⟨rfl, ?_, rfl, hd⟩ ?_
        · show f.out = _
          simp only [List.range_zero, List.flatMap_nil, List.append_nil]
          rw [List.take_of_length_le (by omega)]
        rintro k hk ⟨out, dead, found, c⟩ ⟨hc, hou, hfo, hde⟩
        dsimp only at hc hou hfo hde
        subst hc
        unfold pFind_b2
        dsimp only
        have hlm : out.length ≤ m := by rw [hou, List.length_take]; omega
        have pre : ∃ rest, Rr ts l (n + 1) text = (List.range k).flatMap (fun (c : Nat) => Rr ts (nextL ts l ((c : Int) + 32)) n (text ++ [(c : Int) + 32])) ++ rest := by
          rw [RR]
          refine ⟨((List.range 95).drop k).flatMap fun (c : Nat) => Rr ts (nextL ts l ((c : Int) + 32)) n (text ++ [(c : Int) + 32]), ?_⟩
          rw [← List.flatMap_append]
          congr 1
          conv => lhs; rw [← List.take_append_drop k (List.range 95)]
          rw [List.take_range, Nat.min_eq_left hk]
        generalize hRk : (List.range k).flatMap (fun (c : Nat) => Rr ts (nextL ts l ((c : Int) + 32)) n (text ++ [(c : Int) + 32])) = Rk at *
        by_cases hgo : k < 95 ∧ out.length < m
        · have e1 : (if ((k + 32 : Nat) : Int) ≤ 126 then some (decide ((out.length : Int) < f.most)) else some false) = some true := by
            rw [if_pos (by omega), hm, decide_eq_true (by omega)]
          rw [e1]
          simp only [Option.bind_some, if_true]
          rw [mk1_ok (n := l.length) rfl (by omega) (by decide)]
          simp only [Option.bind_some]
          have hs' : Sts f.tests l := by rw [hf]; exact hs
          refine (pFind_b3_tm (c := k + 32) (by omega) (by rw [hf]; exact ho) hs' (by rw [hf]; exact hl)).eq ?_
          have e8 : uw8 ((k + 32 : Nat) : Int) = ((k + 32 : Nat) : Int) := uw8_eq (by omega) (by omega)
          rw [e8, apnd_ok (by simp; omega) (by decide)]
          simp only [Option.bind_some]
          have e9 : iw (((n + 1 : Nat) : Int) - 1) = (n : Int) := by rw [iw_eq] <;> omega
          rw [e9]
          have hoe : out = f.out ++ Rk := by rw [hou]; exact take_lt (by rw [← hou]; exact hgo.2)
          refine (pFind_tm ho hl n (TFinder.mk f.tests f.most out dead) (nextL f.tests l ((k + 32 : Nat) : Int)) (text ++ [((k + 32 : Nat) : Int)]) hf (by rw [hf]; exact nextL_ok ho hs) (by omega) (by simp; omega) ⟨m, hm, hml, hgo.2⟩ hde).bind fun r hr => ?_
          obtain ⟨r1, r2, r3⟩ := hr
          dsimp only at r1
          rw [hm, Int.toNat_natCast, hf] at r1
          rw [hf] at r2
          have ek : ((k + 32 : Nat) : Int) = (k : Int) + 32 := by omega
          rw [ek] at r1 r2
          have eR : (List.range (k + 1)).flatMap (fun (c : Nat) => Rr ts (nextL ts l ((c : Int) + 32)) n (text ++ [(c : Int) + 32])) = Rk ++ Rr ts (nextL ts l ((k : Int) + 32)) n (text ++ [(k : Int) + 32]) := by
            rw [List.range_succ, List.flatMap_append, hRk]; simp
          have e32 : iw32 (((k + 32 : Nat) : Int) + 1) = ((k + 1 + 32 : Nat) : Int) := by
            have : iw32 (((k + 32 : Nat) : Int) + 1) = ((k + 32 : Nat) : Int) + 1 := by
              unfold iw32 IntKind.wrap; simp [IntKind.signed, IntKind.bits]; split <;> omega
            rw [this]; omega
          rw [hoe, List.append_assoc] at r1
          have fin : ∀ b, b = decide (Rk ++ Rr ts (nextL ts l ((k : Int) + 32)) n (text ++ [(k : Int) + 32]) ≠ []) → (k < 95 ∧ (iw32 (((k + 32 : Nat) : Int) + 1) = ((k + 1 + 32 : Nat) : Int) ∧ r.2.1 = (f.out ++ (List.range (k + 1)).flatMap (fun (c : Nat) => Rr ts (nextL ts l ((c : Int) + 32)) n (text ++ [(c : Int) + 32]))).take m ∧ b = decide ((List.range (k + 1)).flatMap (fun (c : Nat) => Rr ts (nextL ts l ((c : Int) + 32)) n (text ++ [(c : Int) + 32])) ≠ []) ∧ DOk ts r.2.2)) := fun b hb => by
            rw [eR]
            exact ⟨hgo.1, e32, r1, hb, r3⟩
          cases hr1 : r.1 with
          | true =>
            rw [hr1] at r2
            have hne := of_decide_eq_true r2.symm
            refine Tm.pos rfl (Tm.some (fin true ?_))
            rw [decide_eq_true]
            intro h; exact hne (List.append_eq_nil_iff.1 h).2
          | false =>
            rw [hr1] at r2
            have hne := of_decide_eq_false r2.symm
            refine Tm.neg (by simp) (Tm.some (fin found ?_))
            rw [hfo]
            have : Rr ts (nextL ts l ((k : Int) + 32)) n (text ++ [(k : Int) + 32]) = [] := Classical.not_not.1 hne
            rw [this, List.append_nil]
        · have e1 : (if ((k + 32 : Nat) : Int) ≤ 126 then some (decide ((out.length : Int) < f.most)) else some false) = some false := by
            by_cases h95 : k < 95
            · rw [if_pos (by omega), hm, decide_eq_false (by omega)]
            · rw [if_neg (by omega)]
          rw [e1]
          simp only [Option.bind_some, Bool.false_eq_true, if_false]
          refine Tm.some ?_
          obtain ⟨rest, hrest⟩ := pre
          by_cases h95 : k < 95
          · have hom : out.length = m := by omega
            have hbig : m ≤ (f.out ++ Rk).length := by rw [← hom, hou, List.length_take]; omega
            have hne : Rk ≠ [] := by
              intro h
              rw [h, List.append_nil] at hbig
              omega
            refine ⟨?_, ?_, hde⟩
            · show out = _
              rw [hou, hrest, ← List.append_assoc, List.take_append_of_le_length hbig]
            · show found = _
              rw [hfo, decide_eq_true hne, decide_eq_true]
              rw [hrest]
              intro h; exact hne (List.append_eq_nil_iff.1 h).1
          · have hk95 : k = 95 := by omega
            subst hk95
            have : Rk = Rr ts l (n + 1) text := by rw [RR, ← hRk]
            rw [← this]
            exact ⟨hou, hfo, hde⟩
      refine key.bind fun s hs1 => ?_
      obtain ⟨out, dead, found⟩ := s
      obtain ⟨h1, h2, h3⟩ := hs1
      dsimp only at h1 h2 h3 ⊢
      cases found with
      | true => exact Tm.some ⟨h1, h2, h3⟩
      | false =>
        refine Tm.some ⟨h1, h2, fun k hk => ?_⟩
        rw [mget_mput1] at hk
        by_cases e : k = keyI l (n + 1)
        · exact ⟨l, n + 1, hs, hn, e.symm, Rr_nil.1 (Classical.not_not.1 (of_decide_eq_false h2.symm))⟩
        · rw [if_neg e] at hk; exact h3 k hk
end Go.D
set_option linter.unusedSimpArgs false
set_option linter.unusedVariables false
namespace Go.D
open Go Go.X
theorem mem_allI : ∀ {n : Nat} {x : List Int}, x ∈ allI n ↔ x.length = n ∧ ∀ c ∈ x, 32 ≤ c ∧ c ≤ 126
  | 0, x => by
    rw [show allI 0 = [[]] from rfl, List.mem_singleton]
    constructor
    · rintro rfl; exact ⟨rfl, fun _ h => by cases h⟩
    · rintro ⟨h, _⟩; exact List.eq_nil_of_length_eq_zero h
  | n + 1, x => by
    rw [show allI (n + 1) = (List.range 95).flatMap fun (c : Nat) => (allI n).map fun x => ((c : Int) + 32) :: x from rfl, List.mem_flatMap]
    constructor
    · rintro ⟨c, hc, h⟩
      obtain ⟨y, hy, rfl⟩ := List.mem_map.1 h
      obtain ⟨h1, h2⟩ := mem_allI.1 hy
      have := List.mem_range.1 hc
      refine ⟨by rw [List.length_cons, h1], fun d hd => ?_⟩
      rcases List.mem_cons.1 hd with e | e
      · subst e; omega
      · exact h2 d e
    · rintro ⟨h1, h2⟩
      cases x with
      | nil => simp at h1
      | cons c y =>
        have hc := h2 c List.mem_cons_self
        refine ⟨(c - 32).toNat, List.mem_range.2 (by omega), List.mem_map.2 ⟨y, mem_allI.2 ⟨by simpa using h1, fun d hd => h2 d (List.mem_cons_of_mem _ hd)⟩, ?_⟩⟩
        congr 1
        omega
theorem sby_bstr {x : List Int} (h : ∀ c ∈ x, 0 ≤ c ∧ c ≤ 255) : sby (bstr x) = x := by
  unfold sby bstr
  rw [List.map_map]
  conv => rhs; rw [← List.map_id x]
  apply List.map_congr_left
  intro c hc
  have := h c hc
  show ((UInt8.ofNat c.toNat).toNat : Int) = c
  rw [UInt8.toNat_ofNat', Nat.mod_eq_of_lt (by omega)]
  omega
theorem bstr_sby {s : List UInt8} : bstr (sby s) = s := by
  unfold sby bstr
  rw [List.map_map]
  conv => rhs; rw [← List.map_id s]
  apply List.map_congr_left
  intro c _
  apply UInt8.toNat_inj.1
  show (UInt8.ofNat ((c.toNat : Int)).toNat).toNat = c.toNat
  rw [UInt8.toNat_ofNat', Int.toNat_natCast, Nat.mod_eq_of_lt (UInt8.toNat_lt c)]
theorem nodup_flatMap {α β : Type} {f : α → List β} : ∀ {l : List α}, l.Nodup → (∀ a ∈ l, (f a).Nodup) → (∀ a b, a ∈ l → b ∈ l → a ≠ b → ∀ x, x ∈ f a → x ∉ f b) → (l.flatMap f).Nodup
  | [], _, _, _ => by simp
  | a :: l, h, h1, h2 => by
    rw [List.flatMap_cons, List.nodup_append]
    have h' := List.nodup_cons.1 h
    refine ⟨h1 a List.mem_cons_self, nodup_flatMap h'.2 (fun b hb => h1 b (List.mem_cons_of_mem _ hb)) (fun b c hb hc => h2 b c (List.mem_cons_of_mem _ hb) (List.mem_cons_of_mem _ hc)), fun x hx y hy e => ?_⟩
    subst e
    obtain ⟨b, hb, hxb⟩ := List.mem_flatMap.1 hy
    exact h2 a b List.mem_cons_self (List.mem_cons_of_mem _ hb) (fun e => h'.1 (e ▸ hb)) x hx hxb
theorem nodup_map {α β : Type} {f : α → β} : ∀ {l : List α}, l.Nodup → (∀ a b, a ∈ l → b ∈ l → f a = f b → a = b) → (l.map f).Nodup
  | [], _, _ => by simp
  | a :: l, h, h1 => by
    have h' := List.nodup_cons.1 h
    rw [List.map_cons, List.nodup_cons]
    refine ⟨fun hm => ?_, nodup_map h'.2 fun b c hb hc => h1 b c (List.mem_cons_of_mem _ hb) (List.mem_cons_of_mem _ hc)⟩
    obtain ⟨b, hb, e⟩ := List.mem_map.1 hm
    exact h'.1 (h1 b a (List.mem_cons_of_mem _ hb) List.mem_cons_self e ▸ hb)
theorem allI_nodup : ∀ n, (allI n).Nodup
  | 0 => by simp [allI]
  | n + 1 => by
    rw [show allI (n + 1) = (List.range 95).flatMap fun (c : Nat) => (allI n).map fun x => ((c : Int) + 32) :: x from rfl]
    refine nodup_flatMap List.nodup_range (fun c _ => nodup_map (allI_nodup n) fun a b _ _ e => (List.cons.inj e).2) fun a b _ _ hab x hx hx' => ?_
    obtain ⟨y, _, rfl⟩ := List.mem_map.1 hx
    obtain ⟨z, _, e⟩ := List.mem_map.1 hx'
    have := (List.cons.inj e).1
    exact hab (by omega)
def wordsOf (ts : List TTest) (n : Nat) : List (List UInt8) := Rr ts (ts.map sp0) n []
theorem acc_start : ∀ {ts : List TTest} {x : List Int}, accT ts (ts.map sp0) x = ts.all fun t => spF t (run t (sp0 t) x)
  | [], _ => rfl
  | t :: ts, x => by
    have := acc_start (ts := ts) (x := x)
    unfold accT at *
    rw [List.map_cons, List.zip_cons_cons, List.all_cons, this, List.all_cons]
theorem prn_sby {s : List UInt8} : s.all prn = true ↔ ∀ c ∈ sby s, 32 ≤ c ∧ c ≤ 126 := by
  rw [List.all_eq_true]
  unfold sby
  constructor
  · intro h c hc
    obtain ⟨b, hb, rfl⟩ := List.mem_map.1 hc
    have := of_decide_eq_true (h b hb)
    omega
  · intro h b hb
    have := h _ (List.mem_map.2 ⟨b, hb, rfl⟩)
    exact decide_eq_true (by omega)
theorem mem_wordsOf {ts : List TTest} {n : Nat} {s : List UInt8} : s ∈ wordsOf ts n ↔ s.length = n ∧ s.all prn = true ∧ ts.all (fun t => pas t s) = true := by
  unfold wordsOf Rr
  rw [List.mem_map]
  constructor
  · rintro ⟨x, hx, rfl⟩
    obtain ⟨h1, h2⟩ := List.mem_filter.1 hx
    obtain ⟨h3, h4⟩ := mem_allI.1 h1
    have e : sby (bstr x) = x := sby_bstr fun c hc => by have := h4 c hc; omega
    rw [List.nil_append]
    refine ⟨by rw [← h3]; simp [bstr], prn_sby.2 (by rw [e]; exact h4), ?_⟩
    rw [acc_start] at h2
    unfold pas
    rw [e]; exact h2
  · rintro ⟨h1, h2, h3⟩
    refine ⟨sby s, List.mem_filter.2 ⟨mem_allI.2 ⟨by rw [sby_len]; exact h1, prn_sby.1 h2⟩, ?_⟩, by rw [List.nil_append]; exact bstr_sby⟩
    rw [acc_start]; exact h3
theorem wordsOf_nodup {ts : List TTest} {n : Nat} : (wordsOf ts n).Nodup := by
  unfold wordsOf Rr
  refine nodup_map ((allI_nodup n).sublist List.filter_sublist) fun a b ha hb e => ?_
  have ha := (mem_allI.1 (List.mem_filter.1 ha).1).2
  have hb := (mem_allI.1 (List.mem_filter.1 hb).1).2
  have e' := congrArg sby e
  rw [List.nil_append, List.nil_append, sby_bstr (fun c hc => by have := ha c hc; omega), sby_bstr (fun c hc => by have := hb c hc; omega)] at e'
  exact e'
theorem pFBegin_tm {f : TFinder} (ho : ∀ t ∈ f.tests, okT t = true) (hl : f.tests.length ≤ 1000) : Tm (fun N => pFBegin N f) (· = (f.tests.map sp0, f.out, f.dead)) := by
  unfold pFBegin
  refine Tm.eq (a := f.tests.map sp0) ?_ (Tm.some rfl)
  refine Tm.up f.tests.length (fun k s => s.2 = (k : Int) ∧ s.1 = (f.tests.take k).map sp0) ⟨rfl, rfl⟩ ?_
  rintro k hk ⟨s, i⟩ ⟨hi, hs⟩
  dsimp only at hi hs; subst hi; subst hs
  unfold pFBegin_b1
  rcases Nat.lt_or_ge k f.tests.length with hlt | hge
  · refine Tm.pos (by omega) (Tm.step (idx_n hlt) ((pBegin_tm (ho _ (List.getElem_mem hlt))).eq ?_))
    rw [apnd_ok (by simp; omega) (by decide)]
    refine Tm.some ⟨hlt, iw_n (by omega), ?_⟩
    show _ = (f.tests.take (k + 1)).map sp0
    rw [← List.take_append_getElem hlt, List.map_append]; rfl
  · refine Tm.neg (by omega) (Tm.some ?_)
    show _ = _
    rw [List.take_of_length_le (by omega)]
theorem pWords_tm {ts : List TTest} {n m : Nat} (ho : ∀ t ∈ ts, okT t = true) (hl : ts.length ≤ 1000) (hn : n ≤ 255) (hm : 0 < m ∧ m ≤ 100000) : Tm (fun N => pWords N ts (n : Int) (m : Int)) (· = (wordsOf ts n).take m) := by
  unfold pWords
  have e1 : (if (n : Int) < 0 then some true else some (decide ((m : Int) ≤ 0))) = some false := by
    rw [if_neg (by omega), decide_eq_false (by omega)]
  rw [e1]
  simp only [Option.bind_some, Bool.false_eq_true, if_false]
  refine (pFBegin_tm (f := TFinder.mk ts (m : Int) [] []) ho hl).eq ?_
  have hs : Sts ts (ts.map sp0) := by
    refine ⟨by simp, fun q hq => ?_⟩
    obtain ⟨i, hi, rfl⟩ := List.getElem_of_mem hq
    have hi' : i < ts.length := by rw [List.length_zip] at hi; omega
    rw [List.getElem_zip, List.getElem_map]
    exact st0_ok (ho _ (List.getElem_mem hi'))
  refine (pFind_tm ho hl n (TFinder.mk ts (m : Int) [] []) (ts.map sp0) [] rfl hs hn (by simp; omega) ⟨m, rfl, hm.2, hm.1⟩ (fun k hk => by cases hk)).bind fun r hr => Tm.some ?_
  rw [hr.1, Int.toNat_natCast, List.nil_append]; rfl
end Go.D
set_option linter.unusedSimpArgs false
set_option linter.unusedVariables false
namespace Go.D
open Go Go.X
inductive Cn (p : TProb) : Nat → Nat → Prop
  | refl (a : Nat) : Cn p a a
  | edge {e : Arr2Int} : e ∈ p.Same → Cn p e.e0.toNat e.e1.toNat
  | symm {a b : Nat} : Cn p a b → Cn p b a
  | trans {a b c : Nat} : Cn p a b → Cn p b c → Cn p a c
structure Lb (p : TProb) (L : List Int) : Prop where
  len : L.length = p.Min.length
  ok : ∀ v, v < p.Min.length → ∃ k : Nat, L[v]? = some (k : Int) ∧ k ≤ v ∧ Cn p v k
def Fx (p : TProb) (L : List Int) : Prop := ∀ e ∈ p.Same, L[e.e0.toNat]? = L[e.e1.toNat]?
section
variable {p : TProb} {L L' : List Int}
theorem Fx.cn (h : Fx p L) {a b : Nat} (hc : Cn p a b) : L[a]? = L[b]? := by
  induction hc with
  | refl a => rfl
  | edge he => exact h _ he
  | symm _ ih => exact ih.symm
  | trans _ _ i1 i2 => exact i1.trans i2
theorem Lb.le (h : Lb p L) (h' : Lb p L') (hf : Fx p L) {v k k' : Nat} (hv : v < p.Min.length) (e : L[v]? = some (k : Int)) (e' : L'[v]? = some (k' : Int)) : k ≤ k' := by
  obtain ⟨q, g1, g2, g3⟩ := h'.ok v hv
  rw [e'] at g1
  have : k' = q := by have := Option.some.inj g1; omega
  subst this
  obtain ⟨q2, f1, f2, f3⟩ := h.ok k' (by omega)
  rw [← hf.cn g3, e] at f1
  have := Option.some.inj f1
  omega
theorem imin_n {x y : Nat} : imin (x : Int) (y : Int) = ((min x y : Nat) : Int) := by
  unfold imin
  by_cases h : y < x
  · rw [if_pos (by omega), Nat.min_eq_right (by omega)]
  · rw [if_neg (by omega), Nat.min_eq_left (by omega)]
theorem Lb.step (h : Lb p L) {e : Arr2Int} (he : e ∈ p.Same) {x y : Nat} (h0 : e.e0.toNat < p.Min.length) (h1 : e.e1.toNat < p.Min.length) (hx : L[e.e0.toNat]? = some (x : Int)) (hy : L[e.e1.toNat]? = some (y : Int)) :
    Lb p ((L.set e.e0.toNat ((min x y : Nat) : Int)).set e.e1.toNat ((min x y : Nat) : Int)) := by
  refine ⟨by rw [List.length_set, List.length_set]; exact h.len, fun v hv => ?_⟩
  have hl := h.len
  obtain ⟨x', gx, hxl, hxc⟩ := h.ok _ h0
  obtain ⟨y', gy, hyl, hyc⟩ := h.ok _ h1
  rw [hx] at gx
  rw [hy] at gy
  have ex : x = x' := by have := Option.some.inj gx; omega
  have ey : y = y' := by have := Option.some.inj gy; omega
  subst ex; subst ey
  have hab : Cn p e.e0.toNat e.e1.toNat := .edge he
  have ha : Cn p e.e0.toNat (min x y) := by
    rcases Nat.le_total x y with g | g
    · rw [Nat.min_eq_left g]; exact hxc
    · rw [Nat.min_eq_right g]; exact hab.trans hyc
  have hb : Cn p e.e1.toNat (min x y) := hab.symm.trans ha
  rw [List.getElem?_set]
  by_cases g1 : e.e1.toNat = v
  · rw [if_pos g1, if_pos (by rw [List.length_set]; omega)]
    exact ⟨min x y, rfl, by omega, g1 ▸ hb⟩
  · rw [if_neg g1, List.getElem?_set]
    by_cases g0 : e.e0.toNat = v
    · rw [if_pos g0, if_pos (by omega)]
      exact ⟨min x y, rfl, by omega, g0 ▸ ha⟩
    · rw [if_neg g0]; exact h.ok v hv
def tot : List Int → Int
  | [] => 0
  | x :: l => x + tot l
theorem tot_set : ∀ {l : List Int} {i : Nat} {x y : Int}, l[i]? = some x → tot (l.set i y) + x = tot l + y
  | [], i, x, y, h => by simp at h
  | z :: l, 0, x, y, h => by
    simp only [List.getElem?_cons_zero, Option.some.injEq] at h
    subst h; simp only [List.set_cons_zero, tot]; omega
  | z :: l, i + 1, x, y, h => by
    have := tot_set (l := l) (i := i) (x := x) (y := y) (by simpa using h)
    simp only [List.set_cons_succ, tot]; omega
theorem tot_nonneg : ∀ {l : List Int}, (∀ x ∈ l, 0 ≤ x) → 0 ≤ tot l
  | [], _ => Int.le_refl _
  | x :: l, h => by
    have := tot_nonneg (l := l) fun y hy => h y (List.mem_cons_of_mem _ hy)
    have := h x List.mem_cons_self
    simp only [tot]; omega
theorem Lb.nn (h : Lb p L) : ∀ x ∈ L, 0 ≤ x := by
  intro x hx
  obtain ⟨i, hi, rfl⟩ := List.getElem_of_mem hx
  obtain ⟨k, e, _, _⟩ := h.ok i (by rw [← h.len]; exact hi)
  rw [List.getElem?_eq_getElem hi] at e
  have := Option.some.inj e
  omega
theorem lb_ids (h : L.length = p.Min.length) (hi : ∀ v, v < p.Min.length → L[v]? = some (v : Int)) : Lb p L := ⟨h, fun v hv => ⟨v, hi v hv, Nat.le_refl _, .refl v⟩⟩
theorem tclasses_b1_tm {m : Nat} (hm : m ≤ 200) {x8 : List Int} (h8 : x8.length = m) : Tm (fun N => loopM (tclasses_b1 N x8) N (x8, 0)) (fun L => L.length = m ∧ ∀ v, v < m → L[v]? = some (v : Int)) := by
  refine Tm.up m (fun k s => s.2 = (k : Int) ∧ s.1.length = m ∧ ∀ v, v < k → s.1[v]? = some (v : Int)) ⟨rfl, h8, fun v hv => by omega⟩ ?_
  rintro k hk ⟨s, i⟩ ⟨hi, hsl, hsv⟩
  dsimp only at hi hsl hsv; subst hi
  unfold tclasses_b1
  rcases Nat.lt_or_ge k m with hlt | hge
  · refine Tm.pos (by omega) (Tm.step (idx_n (by omega)) ?_)
    rw [upd1_i (n := k) rfl (by omega)]
    refine Tm.some ⟨hlt, iw_n (by omega), by rw [List.length_set]; exact hsl, fun v hv => ?_⟩
    rw [List.getElem?_set]
    by_cases e : k = v
    · subst e; rw [if_pos rfl, if_pos (by omega)]
    · rw [if_neg e]; exact hsv v (by omega)
  · refine Tm.neg (by omega) (Tm.some ⟨hsl, fun v hv => hsv v (by omega)⟩)
theorem same_get (hp : OkP p) {k : Nat} (hk : k < p.Same.length) : ∃ a b : Nat, p.Same[k].e0 = (a : Int) ∧ p.Same[k].e1 = (b : Int) ∧ a < p.Min.length ∧ b < p.Min.length := by
  obtain ⟨h1, h2⟩ := hp.sm _ (List.getElem_mem hk)
  obtain ⟨a, e1, ha⟩ := var_n h1
  obtain ⟨b, e2, hb⟩ := var_n h2
  exact ⟨a, b, e1, e2, ha, hb⟩
theorem tclasses_b3_tm (hp : OkP p) (hs : p.Same.length ≤ 1000) (h : Lb p L) : Tm (fun N => loopM (tclasses_b3 N p) N (L, false, 0)) (fun r => Lb p r.1 ∧ (r.2 = true → tot r.1 < tot L) ∧ (r.2 = false → r.1 = L ∧ Fx p L)) := by
  refine Tm.up p.Same.length (fun k s => s.2.2 = (k : Int) ∧ Lb p s.1 ∧ (s.2.1 = true → tot s.1 < tot L) ∧ (s.2.1 = false → s.1 = L ∧ ∀ j (hj : j < p.Same.length), j < k → L[p.Same[j].e0.toNat]? = L[p.Same[j].e1.toNat]?)) ⟨rfl, h, fun e => by simp at e, fun _ => ⟨rfl, fun j _ hj => by omega⟩⟩ ?_
  rintro k hk ⟨s, ch, i⟩ ⟨hi, hL, h1, h2⟩
  dsimp only at hi hL h1 h2; subst hi
  unfold tclasses_b3
  dsimp only
  rcases Nat.lt_or_ge k p.Same.length with hlt | hge
  · obtain ⟨a, b, ea, eb, ha, hb⟩ := same_get hp hlt
    have hl := hL.len
    obtain ⟨x, ex, hx, _⟩ := hL.ok a ha
    obtain ⟨y, ey, hy, _⟩ := hL.ok b hb
    have ea' : p.Same[k].e0.toNat = a := by omega
    have eb' : p.Same[k].e1.toNat = b := by omega
    refine Tm.pos (by omega) (Tm.step (idx_n hlt) ?_)
    rw [ea, eb]
    refine Tm.step (idx_get ex) (Tm.step (idx_get ey) ?_)
    by_cases hxy : (x : Int) ≠ y
    · refine Tm.pos hxy (Tm.step (idx_get ex) ?_)
      rw [imin_n, upd1_i (n := a) rfl (by omega)]
      simp only [Option.bind_some]
      refine Tm.step (idx_n (by rw [List.length_set]; omega)) ?_
      rw [upd1_i (n := b) rfl (by rw [List.length_set]; omega)]
      have hst := hL.step (List.getElem_mem hlt) (x := x) (y := y) (by rw [ea']; exact ha) (by rw [eb']; exact hb) (by rw [ea']; exact ex) (by rw [eb']; exact ey)
      rw [ea', eb'] at hst
      refine Tm.some ⟨hlt, iw_n (by omega), hst, fun _ => ?_, fun e => by simp at e⟩
      have hab : a ≠ b := by
        rintro rfl
        rw [ex] at ey
        exact hxy (Option.some.inj ey)
      have t1 := tot_set (y := ((min x y : Nat) : Int)) ex
      have t2 := tot_set (l := s.set a ((min x y : Nat) : Int)) (i := b) (x := (y : Int)) (y := ((min x y : Nat) : Int)) (by rw [List.getElem?_set_ne hab]; exact ey)
      show tot ((s.set a ((min x y : Nat) : Int)).set b ((min x y : Nat) : Int)) < tot L
      have : tot ((s.set a ((min x y : Nat) : Int)).set b ((min x y : Nat) : Int)) < tot s := by omega
      cases ch with
      | true => have := h1 rfl; omega
      | false => rw [(h2 rfl).1] at this ⊢; exact this
    · refine Tm.neg hxy (Tm.some ⟨hlt, iw_n (by omega), hL, h1, fun e => ?_⟩)
      obtain ⟨g1, g2⟩ := h2 e
      refine ⟨g1, fun j hj hjk => ?_⟩
      by_cases ejk : j = k
      · subst ejk
        rw [ea', eb', ← g1]
        show s[a]? = s[b]?
        rw [ex, ey]
        exact congrArg some (Classical.not_not.1 hxy)
      · exact g2 j hj (by omega)
  · refine Tm.neg (by omega) (Tm.some ⟨hL, h1, fun e => ?_⟩)
    obtain ⟨g1, g2⟩ := h2 e
    refine ⟨g1, fun e he => ?_⟩
    obtain ⟨j, hj, rfl⟩ := List.getElem_of_mem he
    exact g2 j hj (by omega)
theorem tclasses_b2_tm (hp : OkP p) (hs : p.Same.length ≤ 1000) (h : Lb p L) : Tm (fun N => loopM (tclasses_b2 N p) N (L, true)) (fun r => Lb p r ∧ Fx p r) := by
  refine Tm.loopG (fun (m : Nat) s => Lb p s.1 ∧ (s.2 = false → Fx p s.1) ∧ m = 2 * (tot s.1).toNat + (if s.2 then 1 else 0)) (fun m => m) _ ⟨h, fun e => by simp at e, rfl⟩ ?_
  rintro m ⟨s, ch⟩ ⟨hL, hF, hm⟩
  dsimp only at hL hF hm
  unfold tclasses_b2
  dsimp only
  cases ch with
  | true =>
    refine Tm.pos rfl ((tclasses_b3_tm hp hs hL).bind fun r hr => ?_)
    obtain ⟨r, c⟩ := r
    obtain ⟨h1, h2, h3⟩ := hr
    refine Tm.some ⟨_, ⟨h1, fun e => ?_, rfl⟩, ?_⟩
    · have := h3 e
      dsimp only at this ⊢
      rw [this.1]; exact this.2
    · subst hm
      have n1 := tot_nonneg h1.nn
      have n2 := tot_nonneg hL.nn
      dsimp only at n1 h2 h3 ⊢
      cases c with
      | true => have := h2 rfl; simp; omega
      | false => rw [(h3 rfl).1]; simp
  | false => exact Tm.neg (by simp) (Tm.some ⟨hL, hF rfl⟩)
def isL (L : List Int) (v : Nat) : Bool := decide (L[v]? = some (v : Int))
def rk (L : List Int) (k : Nat) : Nat := ((List.range k).filter (isL L)).length
theorem rk_succ {k : Nat} : rk L (k + 1) = rk L k + (if isL L k then 1 else 0) := by
  unfold rk
  rw [List.range_succ, List.filter_append, List.length_append]
  cases h : isL L k <;> simp [h]
theorem rk_le {k : Nat} : rk L k ≤ k := by
  unfold rk
  have := List.length_filter_le (isL L) (List.range k)
  simpa using this
def numOf (L : List Int) : List Int := L.map fun k => ((rk L k.toNat : Nat) : Int)
theorem numOf_get {v : Nat} : (numOf L)[v]? = (L[v]?).map fun k => ((rk L k.toNat : Nat) : Int) := by simp [numOf]
theorem Lb.leads (h : Lb p L) (hf : Fx p L) {v k : Nat} (hv : v < p.Min.length) (e : L[v]? = some (k : Int)) : L[k]? = some (k : Int) ∧ k ≤ v := by
  obtain ⟨q, g1, g2, g3⟩ := h.ok v hv
  rw [e] at g1
  have : k = q := by have := Option.some.inj g1; omega
  subst this
  exact ⟨(hf.cn g3).symm.trans e, g2⟩
theorem tclasses_b4_tm (hp : OkP p) (h : Lb p L) (hf : Fx p L) : Tm (fun N => loopM (tclasses_b4 N L) N (List.replicate L.length 0, 0, 0)) (fun r => r.1 = numOf L ∧ r.2 = ((rk L L.length : Nat) : Int)) := by
  have hle := hp.le
  have hlen := h.len
  refine Tm.up L.length (fun k s => s.2.2 = (k : Int) ∧ s.2.1 = ((rk L k : Nat) : Int) ∧ s.1.length = L.length ∧ ∀ v, v < k → s.1[v]? = (numOf L)[v]?) ⟨rfl, rfl, by simp, fun v hv => by omega⟩ ?_
  rintro k hk ⟨s, n, i⟩ ⟨hi, hn, hsl, hsv⟩
  dsimp only at hi hn hsl hsv; subst hi; subst hn
  unfold tclasses_b4
  dsimp only
  rcases Nat.lt_or_ge k L.length with hlt | hge
  · obtain ⟨q, eq, hq, _⟩ := h.ok k (by omega)
    refine Tm.pos (by omega) (Tm.step (idx_get eq) ?_)
    have hrk := rk_le (L := L) (k := k)
    by_cases hqk : (q : Int) = (k : Int)
    · have e1 : isL L k = true := decide_eq_true (by rw [eq, hqk])
      refine Tm.pos hqk (Tm.step (idx_n (by omega)) ?_)
      rw [upd1_i (n := k) rfl (by omega)]
      refine Tm.some ⟨hlt, iw_n (by omega), ?_, by rw [List.length_set]; exact hsl, fun v hv => ?_⟩
      · show iw ((rk L k : Int) + 1) = _
        rw [rk_succ, e1, iw_n (by omega)]; rfl
      · rw [List.getElem?_set]
        by_cases e : k = v
        · subst e
          rw [if_pos rfl, if_pos (by omega), numOf_get, eq, hqk]; rfl
        · rw [if_neg e]; exact hsv v (by omega)
    · have e1 : isL L k = false := decide_eq_false (by rw [eq]; intro hh; exact hqk (Option.some.inj hh))
      obtain ⟨g1, g2⟩ := h.leads hf (by omega) eq
      have hqk' : q < k := by omega
      refine Tm.neg hqk ?_
      have e2 : s[q]? = some ((rk L q : Nat) : Int) := by rw [hsv q hqk', numOf_get, g1]; rfl
      refine Tm.step (idx_get e2) (Tm.step (idx_n (by omega)) ?_)
      rw [upd1_i (n := k) rfl (by omega)]
      refine Tm.some ⟨hlt, iw_n (by omega), ?_, by rw [List.length_set]; exact hsl, fun v hv => ?_⟩
      · show ((rk L k : Nat) : Int) = _
        rw [rk_succ, e1]; rfl
      · rw [List.getElem?_set]
        by_cases e : k = v
        · subst e
          rw [if_pos rfl, if_pos (by omega), numOf_get, eq]; rfl
        · rw [if_neg e]; exact hsv v (by omega)
  · have hk' : k = L.length := by omega
    subst hk'
    refine Tm.neg (by omega) (Tm.some ⟨?_, rfl⟩)
    show s = numOf L
    apply List.ext_getElem?
    intro v
    by_cases hv : v < L.length
    · exact hsv v hv
    · rw [List.getElem?_eq_none (by omega), List.getElem?_eq_none (by simp [numOf]; omega)]
theorem tclasses_tm (hp : OkP p) (hs : p.Same.length ≤ 1000) : Tm (fun N => tclasses N p) (fun r => ∃ L, Lb p L ∧ Fx p L ∧ r.1 = numOf L ∧ r.2 = ((rk L L.length : Nat) : Int)) := by
  have hle := hp.le
  unfold tclasses
  rw [mk1_ok (n := p.Min.length) rfl (by omega) (by decide)]
  simp only [Option.bind_some]
  refine (tclasses_b1_tm (m := p.Min.length) (by omega) (by simp)).bind fun L0 h0 => ?_
  refine (tclasses_b2_tm hp hs (lb_ids h0.1 h0.2)).bind fun L hL => ?_
  have hl := hL.1.len
  rw [mk1_ok (n := L.length) rfl (by omega) (by decide)]
  simp only [Option.bind_some]
  refine (tclasses_b4_tm hp hL.1 hL.2).bind fun r hr => ?_
  obtain ⟨a, b⟩ := r
  exact Tm.some ⟨L, hL.1, hL.2, hr.1, hr.2⟩
end
end Go.D
set_option linter.unusedSimpArgs false
set_option linter.unusedVariables false
namespace Go.D
open Go Go.X
section
variable {p : TProb} {L : List Int}
theorem rk_range : ∀ n, ((List.range n).filter (isL L)).map (rk L) = List.range (rk L n)
  | 0 => rfl
  | n + 1 => by
    rw [List.range_succ, List.filter_append, List.map_append, rk_range n, rk_succ]
    cases h : isL L n with
    | true => simp [h, List.range_succ]
    | false => simp [h]
def cls (L : List Int) (v : Nat) : Nat := rk L (L.getD v 0).toNat
theorem cls_of {v k : Nat} (e : L[v]? = some (k : Int)) : cls L v = rk L k := by
  unfold cls; rw [List.getD_eq_getElem?_getD, e]; rfl
theorem num_get (h : Lb p L) {v : Nat} (hv : v < p.Min.length) : (numOf L)[v]? = some ((cls L v : Nat) : Int) := by
  obtain ⟨k, e, _, _⟩ := h.ok v hv
  rw [numOf_get, e, cls_of e]; rfl
theorem num_len : (numOf L).length = L.length := by simp [numOf]
theorem rk_mono {a b : Nat} (h : a ≤ b) : rk L a ≤ rk L b := by
  induction h with
  | refl => exact Nat.le_refl _
  | step _ ih => rw [rk_succ]; omega
theorem rk_lt {a b : Nat} (ha : isL L a = true) (h : a < b) : rk L a < rk L b := by
  have h1 := rk_mono (L := L) (show a + 1 ≤ b from h)
  rw [rk_succ, ha] at h1
  simp at h1; omega
theorem cls_lt (h : Lb p L) (hf : Fx p L) {v : Nat} (hv : v < p.Min.length) : cls L v < rk L L.length := by
  obtain ⟨k, e, hk, _⟩ := h.ok v hv
  rw [cls_of e]
  exact rk_lt (decide_eq_true (h.leads hf hv e).1) (by rw [h.len]; omega)
theorem cls_eq (h : Lb p L) (hf : Fx p L) {v i : Nat} (hv : v < p.Min.length) (hi : isL L i = true) : cls L v = rk L i ↔ L[v]? = some (i : Int) := by
  obtain ⟨k, e, hk, _⟩ := h.ok v hv
  have hl : isL L k = true := decide_eq_true (h.leads hf hv e).1
  rw [cls_of e, e]
  constructor
  · intro g
    rcases Nat.lt_trichotomy k i with g1 | g1 | g1
    · have := rk_lt (L := L) hl g1; omega
    · rw [g1]
    · have := rk_lt (L := L) hi g1; omega
  · intro g
    have := Option.some.inj g
    rw [show k = i by omega]
theorem cls_cn (hf : Fx p L) {a b : Nat} (hc : Cn p a b) : cls L a = cls L b := by
  unfold cls
  rw [List.getD_eq_getElem?_getD, List.getD_eq_getElem?_getD, hf.cn hc]
theorem cn_cls (h : Lb p L) (hf : Fx p L) {a b : Nat} (ha : a < p.Min.length) (hb : b < p.Min.length) (e : cls L a = cls L b) : Cn p a b := by
  obtain ⟨k, ek, _, ck⟩ := h.ok b hb
  have hl : isL L k = true := decide_eq_true (h.leads hf hb ek).1
  rw [cls_of ek, cls_eq h hf ha hl] at e
  obtain ⟨k', ek', _, ck'⟩ := h.ok a ha
  rw [ek'] at e
  have : k' = k := by have := Option.some.inj e; omega
  subst this
  exact ck'.trans ck.symm
theorem cls_surj (h : Lb p L) {k : Nat} (hk : k < rk L L.length) : ∃ v, v < p.Min.length ∧ cls L v = k := by
  have h1 : k ∈ ((List.range L.length).filter (isL L)).map (rk L) := by rw [rk_range]; exact List.mem_range.2 hk
  obtain ⟨i, hi, rfl⟩ := List.mem_map.1 h1
  obtain ⟨h2, h3⟩ := List.mem_filter.1 hi
  exact ⟨i, by rw [← h.len]; exact List.mem_range.1 h2, cls_of (of_decide_eq_true h3)⟩
theorem rk_le' : rk L L.length ≤ L.length := rk_le
theorem filter_le {α : Type} {P Q : α → Bool} : ∀ {l : List α}, (∀ x ∈ l, P x = true → Q x = true) → (l.filter P).length ≤ (l.filter Q).length
  | [], _ => Nat.le_refl _
  | x :: l, h => by
    have ih := filter_le (l := l) fun y hy => h y (List.mem_cons_of_mem _ hy)
    have hx := h x List.mem_cons_self
    cases hP : P x <;> cases hQ : Q x <;> simp [List.filter_cons, hP, hQ] <;> first | omega | (rw [hP, hQ] at hx; simp at hx)
theorem filter_lt {α : Type} {P Q : α → Bool} : ∀ {l : List α}, (∀ x ∈ l, P x = true → Q x = true) → (∃ x ∈ l, Q x = true ∧ P x = false) → (l.filter P).length < (l.filter Q).length
  | [], _, h => by obtain ⟨x, hx, _⟩ := h; cases hx
  | x :: l, h, h' => by
    have hl : ∀ y ∈ l, P y = true → Q y = true := fun y hy => h y (List.mem_cons_of_mem _ hy)
    have hx := h x List.mem_cons_self
    obtain ⟨y, hy, h1, h2⟩ := h'
    rcases List.mem_cons.1 hy with rfl | hy
    · have := filter_le hl
      simp [List.filter_cons, h1, h2]; omega
    · have ih := filter_lt hl ⟨y, hy, h1, h2⟩
      cases hP : P x <;> cases hQ : Q x <;> simp [List.filter_cons, hP, hQ] <;> first | omega | (rw [hP, hQ] at hx; simp at hx)
structure Rnd (p : TProb) (L s s' : List Int) : Prop where
  lb : Lb p s'
  keep : ∀ v : Nat, s[v]? = L[v]? → s'[v]? = L[v]?
  edge : ∀ e ∈ p.Same, (s[e.e0.toNat]? = L[e.e0.toNat]? ∨ s[e.e1.toNat]? = L[e.e1.toNat]?) → s'[e.e0.toNat]? = L[e.e0.toNat]? ∧ s'[e.e1.toNat]? = L[e.e1.toNat]?
end
end Go.D
set_option linter.unusedSimpArgs false
set_option linter.unusedVariables false
namespace Go.D
open Go Go.X
theorem imin_or (a b : Int) : (imin a b = a ∧ a ≤ b) ∨ (imin a b = b ∧ b ≤ a) := by
  unfold imin
  by_cases h : b < a
  · rw [if_pos h]; exact .inr ⟨rfl, by omega⟩
  · rw [if_neg h]; exact .inl ⟨rfl, by omega⟩
theorem imax_or (a b : Int) : (imax a b = a ∧ b ≤ a) ∨ (imax a b = b ∧ a ≤ b) := by
  unfold imax
  by_cases h : b > a
  · rw [if_pos h]; exact .inr ⟨rfl, by omega⟩
  · rw [if_neg h]; exact .inl ⟨rfl, by omega⟩
structure ClR (p : TProb) (L : List Int) (i j k : Nat) (c : TClass) : Prop where
  lo0 : 0 ≤ c.low ∧ c.low ≤ 16
  hi0 : 0 ≤ c.high ∧ c.high ≤ 16
  lo1 : ∀ v, v < i → cls L v = k → p.Min.getD v 0 ≤ c.low
  lo2 : c.low = 0 ∨ ∃ v, v < i ∧ cls L v = k ∧ p.Min.getD v 0 = c.low
  hi1 : ∀ v, v < i → cls L v = k → c.high ≤ p.Max.getD v 0
  hi2 : c.high = 16 ∨ ∃ v, v < i ∧ cls L v = k ∧ p.Max.getD v 0 = c.high
  ts : c.tests = (p.Tests.take j).filter fun t => decide (cls L t.Var.toNat = k)
  ws : c.words = []
theorem set_get {α : Type} {l : List α} {a k : Nat} {y : α} (h : a < l.length) : (l.set a y)[k]? = if a = k then some y else l[k]? := by
  rw [List.getElem?_set]
  by_cases e : a = k
  · rw [if_pos e, if_pos e, if_pos h]
  · rw [if_neg e, if_neg e]
section
variable {p : TProb} {L : List Int}
theorem diff_get (hp : OkP p) {k : Nat} (hk : k < p.Different.length) : ∃ a b : Nat, p.Different[k].e0 = (a : Int) ∧ p.Different[k].e1 = (b : Int) ∧ a < p.Min.length ∧ b < p.Min.length := by
  obtain ⟨h1, h2⟩ := hp.df _ (List.getElem_mem hk)
  obtain ⟨a, e1, ha⟩ := var_n h1
  obtain ⟨b, e2, hb⟩ := var_n h2
  exact ⟨a, b, e1, e2, ha, hb⟩
theorem tgathered_b1_tm {m : Nat} (hm : m ≤ 1000) {x27 : List TClass} (h27 : x27 = List.replicate m (TClass.mk 0 0 [] [] [])) : Tm (fun N => loopM (tgathered_b1 N x27) N (x27, 0)) (fun r => r.length = m ∧ ∀ k, k < m → r[k]? = some (TClass.mk 0 16 [] [] [])) := by
  have hxl : x27.length = m := by rw [h27]; simp
  refine Tm.up m (fun k s => s.2 = (k : Int) ∧ s.1.length = m ∧ (∀ j, j < k → s.1[j]? = some (TClass.mk 0 16 [] [] [])) ∧ ∀ j, k ≤ j → j < m → s.1[j]? = some (TClass.mk 0 0 [] [] [])) ⟨rfl, hxl, fun j hj => by omega, fun j _ hj => by subst h27; rw [List.getElem?_replicate, if_pos hj]⟩ ?_
  rintro k hk ⟨s, i⟩ ⟨hi, hsl, h1, h2⟩
  dsimp only at hi hsl h1 h2; subst hi
  unfold tgathered_b1
  dsimp only
  rcases Nat.lt_or_ge k m with hlt | hge
  · refine Tm.pos (by omega) (Tm.step (idx_get (h2 k (Nat.le_refl _) hlt)) ?_)
    rw [upd1_i (n := k) rfl (by omega)]
    refine Tm.some ⟨hlt, iw_n (by omega), by rw [List.length_set]; exact hsl, fun j hj => ?_, fun j hj hj' => ?_⟩
    · show (s.set k _)[j]? = _
      rw [set_get (by omega)]
      by_cases e : k = j
      · rw [if_pos e]
      · rw [if_neg e]; exact h1 j (by omega)
    · show (s.set k _)[j]? = _
      rw [set_get (by omega), if_neg (by omega)]; exact h2 j (by omega) hj'
  · exact Tm.neg (by omega) (Tm.some ⟨hsl, fun k hk => h1 k (by omega)⟩)
structure Gt (p : TProb) (L : List Int) (i j : Nat) (l : List TClass) : Prop where
  len : l.length = rk L L.length
  ok : ∀ k, k < rk L L.length → ∃ c, l[k]? = some c ∧ ClR p L i j k c
theorem tgathered_b2_tm (hp : OkP p) (h : Lb p L) (hf : Fx p L) {m : Int} {l : List TClass} (hl : Gt p L 0 0 l) (ha : ∀ (k : Nat) (c : TClass), l[k]? = some c → c.apart = []) : Tm (fun N => loopM (tgathered_b2 N p (numOf L, m)) N (l, 0)) (fun r => Gt p L p.Min.length 0 r ∧ ∀ (k : Nat) (c : TClass), r[k]? = some c → c.apart = []) := by
  have hle := hp.le
  have hll := h.len
  refine Tm.up p.Min.length (fun k s => s.2 = (k : Int) ∧ Gt p L k 0 s.1 ∧ ∀ (k : Nat) (c : TClass), s.1[k]? = some c → c.apart = []) ⟨rfl, hl, ha⟩ ?_
  rintro v hv ⟨s, i⟩ ⟨hi, hG, hA⟩
  dsimp only at hi hG hA; subst hi
  unfold tgathered_b2
  dsimp only
  rcases Nat.lt_or_ge v p.Min.length with hlt | hge
  · have hc := cls_lt h hf hlt
    have hsl := hG.len
    obtain ⟨c, ec, hC⟩ := hG.ok _ hc
    have hmx : v < p.Max.length := by rw [hp.len]; exact hlt
    have emn : p.Min[v] = p.Min.getD v 0 := (getD_n hlt).symm
    have emx : p.Max[v] = p.Max.getD v 0 := (getD_n hmx).symm
    have bmn := hp.mn _ (List.getElem_mem hlt)
    have bmx := hp.mx _ (List.getElem_mem hmx)
    refine Tm.pos (by rw [num_len]; omega) (Tm.step (idx_get (num_get h hlt)) (Tm.step (idx_get ec) (Tm.step (idx_n hlt) (Tm.step (idx_get ec) (Tm.step (idx_n hmx) (Tm.step (idx_get ec) ?_))))))
    rw [upd1_i (n := cls L v) rfl (by omega)]
    simp only [Option.bind_some]
    refine Tm.step (idx_get (by rw [set_get (by omega), if_pos rfl])) ?_
    rw [upd1_i (n := cls L v) rfl (by rw [List.length_set]; omega), List.set_set]
    simp only [Option.bind_some]
    have hl0 := hC.lo0
    have hh0 := hC.hi0
    have hmax := imax_or c.low p.Min[v]
    have hmin := imin_or c.high p.Max[v]
    refine Tm.some ⟨hlt, iw_n (by omega), ⟨by rw [List.length_set]; exact hsl, fun k hk => ?_⟩, fun k c' e => ?_⟩
    · show ∃ c', (s.set _ _)[k]? = some c' ∧ _
      rw [set_get (by omega)]
      by_cases e : cls L v = k
      · rw [if_pos e]
        subst e
        refine ⟨_, rfl, ⟨by dsimp only; omega, by dsimp only; omega, fun u hu e => ?_, ?_, fun u hu e => ?_, ?_, hC.ts, hC.ws⟩⟩
        · dsimp only
          by_cases euv : u = v
          · subst euv; rw [← emn]; omega
          · have := hC.lo1 u (by omega) e; omega
        · dsimp only
          rcases hmax with ⟨g, _⟩ | ⟨g, _⟩
          · rw [g]
            rcases hC.lo2 with g2 | ⟨u, hu, g2⟩
            · exact .inl g2
            · exact .inr ⟨u, by omega, g2⟩
          · exact .inr ⟨v, by omega, rfl, by rw [g, emn]⟩
        · dsimp only
          by_cases euv : u = v
          · subst euv; rw [← emx]; omega
          · have := hC.hi1 u (by omega) e; omega
        · dsimp only
          rcases hmin with ⟨g, _⟩ | ⟨g, _⟩
          · rw [g]
            rcases hC.hi2 with g2 | ⟨u, hu, g2⟩
            · exact .inl g2
            · exact .inr ⟨u, by omega, g2⟩
          · exact .inr ⟨v, by omega, rfl, by rw [g, emx]⟩
      · rw [if_neg e]
        obtain ⟨c', ec', hC'⟩ := hG.ok k hk
        refine ⟨c', ec', ⟨hC'.lo0, hC'.hi0, fun u hu g => ?_, ?_, fun u hu g => ?_, ?_, hC'.ts, hC'.ws⟩⟩
        · by_cases euv : u = v
          · subst euv; exact absurd g e
          · exact hC'.lo1 u (by omega) g
        · rcases hC'.lo2 with g2 | ⟨u, hu, g2⟩
          · exact .inl g2
          · exact .inr ⟨u, by omega, g2⟩
        · by_cases euv : u = v
          · subst euv; exact absurd g e
          · exact hC'.hi1 u (by omega) g
        · rcases hC'.hi2 with g2 | ⟨u, hu, g2⟩
          · exact .inl g2
          · exact .inr ⟨u, by omega, g2⟩
    · have e : (s.set (cls L v) _)[k]? = some c' := e
      rw [set_get (by omega)] at e
      by_cases g : cls L v = k
      · rw [if_pos g] at e
        rw [← Option.some.inj e]
        exact hA _ c ec
      · rw [if_neg g] at e
        exact hA k c' e
  · have : v = p.Min.length := by omega
    subst this
    exact Tm.neg (by rw [num_len]; omega) (Tm.some ⟨hG, hA⟩)
theorem test_get (hp : OkP p) {k : Nat} (hk : k < p.Tests.length) : ∃ a : Nat, p.Tests[k].Var = (a : Int) ∧ a < p.Min.length := by
  obtain ⟨_, h2⟩ := hp.ts _ (List.getElem_mem hk)
  obtain ⟨a, e1, ha⟩ := var_n h2
  exact ⟨a, e1, ha⟩
theorem tgathered_b3_tm (hp : OkP p) (h : Lb p L) (hf : Fx p L) (ht : p.Tests.length ≤ 1000) {m : Int} {i0 : Nat} {l : List TClass} (hl : Gt p L i0 0 l) (ha : ∀ (k : Nat) (c : TClass), l[k]? = some c → c.apart = []) : Tm (fun N => loopM (tgathered_b3 N p (numOf L, m)) N (l, 0)) (fun r => Gt p L i0 p.Tests.length r ∧ ∀ (k : Nat) (c : TClass), r[k]? = some c → c.apart = []) := by
  have hle := hp.le
  have hll := h.len
  refine Tm.up p.Tests.length (fun k s => s.2 = (k : Int) ∧ Gt p L i0 k s.1 ∧ ∀ (k : Nat) (c : TClass), s.1[k]? = some c → c.apart = []) ⟨rfl, hl, ha⟩ ?_
  rintro j hj ⟨s, i⟩ ⟨hi, hG, hA⟩
  dsimp only at hi hG hA; subst hi
  unfold tgathered_b3
  dsimp only
  rcases Nat.lt_or_ge j p.Tests.length with hlt | hge
  · obtain ⟨v, ev, hv⟩ := test_get hp hlt
    have ev' : p.Tests[j].Var.toNat = v := by omega
    have hc := cls_lt h hf hv
    have hsl := hG.len
    obtain ⟨c, ec, hC⟩ := hG.ok _ hc
    refine Tm.pos (by omega) (Tm.step (idx_n hlt) ?_)
    rw [ev]
    refine Tm.step (idx_get (num_get h hv)) (Tm.step (idx_get ec) (Tm.step (idx_get ec) ?_))
    have htl : c.tests.length ≤ j := by
      rw [hC.ts]
      have := List.length_filter_le (fun t => decide (cls L t.Var.toNat = cls L v)) (p.Tests.take j)
      rw [List.length_take] at this; omega
    rw [apnd_ok (by simp only [List.length_singleton]; omega) (by decide)]
    simp only [Option.bind_some]
    refine Tm.step (idx_get ec) ?_
    rw [upd1_i (n := cls L v) rfl (by omega)]
    have htk : p.Tests.take (j + 1) = p.Tests.take j ++ [p.Tests[j]] := List.take_succ_eq_append_getElem hlt
    refine Tm.some ⟨hlt, iw_n (by omega), ⟨by rw [List.length_set]; exact hsl, fun k hk => ?_⟩, fun k c' e => ?_⟩
    · show ∃ c', (s.set _ _)[k]? = some c' ∧ _
      rw [set_get (by omega)]
      by_cases e : cls L v = k
      · rw [if_pos e]
        subst e
        refine ⟨_, rfl, ⟨hC.lo0, hC.hi0, hC.lo1, hC.lo2, hC.hi1, hC.hi2, ?_, hC.ws⟩⟩
        show c.tests ++ [p.Tests[j]] = _
        rw [htk, List.filter_append, ← hC.ts]
        congr 1
        simp [ev']
      · rw [if_neg e]
        obtain ⟨c', ec', hC'⟩ := hG.ok k hk
        refine ⟨c', ec', ⟨hC'.lo0, hC'.hi0, hC'.lo1, hC'.lo2, hC'.hi1, hC'.hi2, ?_, hC'.ws⟩⟩
        rw [htk, List.filter_append, ← hC'.ts, List.filter_cons_of_neg (by simp [ev', e]), List.filter_nil, List.append_nil]
    · have e : (s.set (cls L v) _)[k]? = some c' := e
      rw [set_get (by omega)] at e
      by_cases g : cls L v = k
      · rw [if_pos g] at e
        rw [← Option.some.inj e]
        exact hA _ c ec
      · rw [if_neg g] at e
        exact hA k c' e
  · have : j = p.Tests.length := by omega
    subst this
    exact Tm.neg (by omega) (Tm.some ⟨hG, hA⟩)
def Df (p : TProb) (L : List Int) (i : Nat) (a b : Nat) : Prop := ∃ e ∈ p.Different.take i, (cls L e.e0.toNat = a ∧ cls L e.e1.toNat = b) ∨ (cls L e.e1.toNat = a ∧ cls L e.e0.toNat = b)
theorem Df.symm {i a b : Nat} (h : Df p L i a b) : Df p L i b a := by
  obtain ⟨e, he, h⟩ := h
  exact ⟨e, he, h.elim (fun h => .inr ⟨h.2, h.1⟩) (fun h => .inl ⟨h.2, h.1⟩)⟩
structure Ap (p : TProb) (L : List Int) (i : Nat) (l : List TClass) : Prop where
  mem : ∀ (k : Nat) (c : TClass), l[k]? = some c → ∀ o, o ∈ c.apart ↔ ∃ q : Nat, o = (q : Int) ∧ Df p L i k q
  le : ∀ (k : Nat) (c : TClass), l[k]? = some c → c.apart.length ≤ i
  ne : ∀ e ∈ p.Different.take i, cls L e.e0.toNat ≠ cls L e.e1.toNat
theorem indexOf_tm {s : List Int} {x : Int} (hn : s.length ≤ Bg) : Tm (fun N => indexOf N s x) (fun r => decide (r ≥ 0) = decide (x ∈ s)) := by
  have hb : Bg = 9223372036854775807 := rfl
  unfold indexOf
  refine (Tm.findL (b := fun N => indexOf_b1 N x s) s (fun y => decide (x = y)) (fun k => (k : Int)) (by omega) (fun k hk => ?_) ?_).bind fun o ho => ?_
  · unfold indexOf_b1
    refine Tm.pos (by omega) (Tm.step (idx_n hk) ?_)
    by_cases e : x = s[k]
    · rw [if_pos e, decide_eq_true e]; exact Tm.some rfl
    · rw [if_neg e, decide_eq_false e]; exact Tm.some rfl
  · unfold indexOf_b1
    exact Tm.neg (by omega) (Tm.some rfl)
  · rcases ho with ⟨h1, rfl⟩ | ⟨k, hk, h1, _, rfl⟩
    · refine Tm.some ?_
      have : x ∉ s := fun h => by
        have := List.any_eq_false.1 h1 x h
        simp at this
      rw [decide_eq_false this]; rfl
    · refine Tm.some ?_
      have : x ∈ s := by
        have e := of_decide_eq_true h1
        rw [e]; exact List.getElem_mem hk
      rw [decide_eq_true this]
      exact decide_eq_true (by omega)
theorem containsOf_tm {s : List Int} {x : Int} (hn : s.length ≤ Bg) : Tm (fun N => containsOf N s x) (· = decide (x ∈ s)) := by
  unfold containsOf
  exact (indexOf_tm hn).bind fun r hr => Tm.some hr
theorem Df.mono {i j a b : Nat} (hij : i ≤ j) (h : Df p L i a b) : Df p L j a b := by
  obtain ⟨e, he, h⟩ := h
  exact ⟨e, (List.take_subset_take_left _ hij) he, h⟩
theorem tgathered_b4_tm (hp : OkP p) (h : Lb p L) (hf : Fx p L) (hd : p.Different.length ≤ 1000) {m : Int} {i0 j0 : Nat} {l : List TClass} (hl : Gt p L i0 j0 l) (ha : ∀ (k : Nat) (c : TClass), l[k]? = some c → c.apart = []) :
    Tm (fun N => loopM (tgathered_b4 N p (numOf L, m)) N (l, 0)) (fun o => match o with | .inl r => Gt p L i0 j0 r ∧ Ap p L p.Different.length r | .inr z => Gt p L i0 j0 z.1 ∧ z.2.1 = numOf L ∧ z.2.2 = false ∧ ∃ e ∈ p.Different, cls L e.e0.toNat = cls L e.e1.toNat) := by
  have hle := hp.le
  have hll := h.len
  have hb : Bg = 9223372036854775807 := rfl
  refine Tm.up p.Different.length (fun k s => s.2 = (k : Int) ∧ Gt p L i0 j0 s.1 ∧ Ap p L k s.1) ⟨rfl, hl, ⟨fun k c e o => ?_, fun k c e => by rw [ha k c e]; exact Nat.zero_le _, fun e he => by simp at he⟩⟩ ?_
  · rw [ha k c e]
    constructor
    · intro g; cases g
    · rintro ⟨q, _, e, he, _⟩; simp at he
  rintro j hj ⟨s, i⟩ ⟨hi, hG, hA⟩
  dsimp only at hi hG hA; subst hi
  unfold tgathered_b4
  dsimp only
  rcases Nat.lt_or_ge j p.Different.length with hlt | hge
  · obtain ⟨a, b, ea, eb, hav, hbv⟩ := diff_get hp hlt
    have ea' : p.Different[j].e0.toNat = a := by omega
    have eb' : p.Different[j].e1.toNat = b := by omega
    have hca := cls_lt h hf hav
    have hcb := cls_lt h hf hbv
    have hsl := hG.len
    obtain ⟨c, ec, hC⟩ := hG.ok _ hca
    obtain ⟨d, ed, hD⟩ := hG.ok _ hcb
    have htk : p.Different.take (j + 1) = p.Different.take j ++ [p.Different[j]] := List.take_succ_eq_append_getElem hlt
    have hDf : ∀ x y, Df p L (j + 1) x y ↔ Df p L j x y ∨ (cls L a = x ∧ cls L b = y) ∨ (cls L b = x ∧ cls L a = y) := by
      intro x y
      unfold Df
      rw [htk]
      constructor
      · rintro ⟨e, he, g⟩
        rcases List.mem_append.1 he with he | he
        · exact .inl ⟨e, he, g⟩
        · rw [List.mem_singleton.1 he, ea', eb'] at g; exact .inr g
      · rintro (⟨e, he, g⟩ | g)
        · exact ⟨e, List.mem_append_left _ he, g⟩
        · exact ⟨_, List.mem_append_right _ (List.mem_singleton.2 rfl), by rw [ea', eb']; exact g⟩
    refine Tm.pos (by omega) (Tm.step (idx_n hlt) ?_)
    rw [ea, eb]
    refine Tm.step (idx_get (num_get h hav)) (Tm.step (idx_get (num_get h hbv)) ?_)
    by_cases hab : cls L a = cls L b
    · refine Tm.pos (by rw [hab]) (Tm.some ⟨hG, rfl, rfl, _, List.getElem_mem hlt, by rw [ea', eb']; exact hab⟩)
    · have hne : ∀ e ∈ p.Different.take (j + 1), cls L e.e0.toNat ≠ cls L e.e1.toNat := by
        intro e he
        rw [htk] at he
        rcases List.mem_append.1 he with he | he
        · exact hA.ne e he
        · rw [List.mem_singleton.1 he, ea', eb']; exact hab
      have lc := hA.le _ _ ec
      have ld := hA.le _ _ ed
      refine Tm.neg (by omega) (Tm.step (idx_get ec) (Tm.step (idx_get ec) ((containsOf_tm (by omega)).eq ?_)))
      by_cases hin : ((cls L b : Nat) : Int) ∈ c.apart
      · rw [decide_eq_true hin]
        refine Tm.neg (by simp) (Tm.some ⟨hlt, iw_n (by omega), hG, ⟨fun k c' e o => ?_, fun k c' e => by have := hA.le k c' e; omega, hne⟩⟩)
        obtain ⟨q, eq, hq⟩ := (hA.mem _ _ ec _).1 hin
        have eq' : cls L b = q := by omega
        rw [hA.mem k c' e o]
        constructor
        · rintro ⟨q, e1, e2⟩; exact ⟨q, e1, (hDf _ _).2 (.inl e2)⟩
        · rintro ⟨q', e1, e2⟩
          rcases (hDf _ _).1 e2 with g | ⟨g1, g2⟩ | ⟨g1, g2⟩
          · exact ⟨q', e1, g⟩
          · refine ⟨q', e1, ?_⟩; rw [← g1, ← g2, eq']; exact hq
          · refine ⟨q', e1, ?_⟩; rw [← g1, ← g2, eq']; exact hq.symm
      · rw [decide_eq_false hin]
        refine Tm.pos (by simp) (Tm.step (idx_get ec) (Tm.step (idx_get ed) (Tm.step (idx_get ec) ?_)))
        rw [apnd_ok (by simp only [List.length_singleton]; omega) (by decide)]
        simp only [Option.bind_some]
        refine Tm.step (idx_get ed) ?_
        rw [apnd_ok (by simp only [List.length_singleton]; omega) (by decide)]
        simp only [Option.bind_some]
        refine Tm.step (idx_get ec) ?_
        rw [upd1_i (n := cls L a) rfl (by omega)]
        simp only [Option.bind_some]
        refine Tm.step (idx_get (by rw [set_get (by omega), if_neg hab]; exact ed)) ?_
        rw [upd1_i (n := cls L b) rfl (by rw [List.length_set]; omega)]
        have hget : ∀ k, ((s.set (cls L a) (TClass.mk c.low c.high c.tests c.words (c.apart ++ [((cls L b : Nat) : Int)]))).set (cls L b) (TClass.mk d.low d.high d.tests d.words (d.apart ++ [((cls L a : Nat) : Int)])))[k]? = if cls L b = k then some (TClass.mk d.low d.high d.tests d.words (d.apart ++ [((cls L a : Nat) : Int)])) else if cls L a = k then some (TClass.mk c.low c.high c.tests c.words (c.apart ++ [((cls L b : Nat) : Int)])) else s[k]? := by
          intro k
          rw [set_get (by rw [List.length_set]; omega), set_get (by omega)]
        refine Tm.some ⟨hlt, iw_n (by omega), ⟨by rw [List.length_set, List.length_set]; exact hsl, fun k hk => ?_⟩, ⟨fun k c' e o => ?_, fun k c' e => ?_, hne⟩⟩
        · show ∃ c', (List.set _ _ _)[k]? = some c' ∧ _
          rw [hget]
          by_cases e1 : cls L b = k
          · rw [if_pos e1]
            subst e1
            exact ⟨_, rfl, ⟨hD.lo0, hD.hi0, hD.lo1, hD.lo2, hD.hi1, hD.hi2, hD.ts, hD.ws⟩⟩
          · rw [if_neg e1]
            by_cases e2 : cls L a = k
            · rw [if_pos e2]
              subst e2
              exact ⟨_, rfl, ⟨hC.lo0, hC.hi0, hC.lo1, hC.lo2, hC.hi1, hC.hi2, hC.ts, hC.ws⟩⟩
            · rw [if_neg e2]; exact hG.ok k hk
        · have e : (List.set _ _ _)[k]? = some c' := e
          rw [hget] at e
          by_cases e1 : cls L b = k
          · rw [if_pos e1] at e
            rw [← Option.some.inj e]
            subst e1
            show o ∈ d.apart ++ [_] ↔ _
            rw [List.mem_append, hA.mem _ _ ed o, List.mem_singleton]
            constructor
            · rintro (⟨q, g1, g2⟩ | g)
              · exact ⟨q, g1, (hDf _ _).2 (.inl g2)⟩
              · exact ⟨cls L a, g, (hDf _ _).2 (.inr (.inr ⟨rfl, rfl⟩))⟩
            · rintro ⟨q, g1, g2⟩
              rcases (hDf _ _).1 g2 with g | ⟨g3, g4⟩ | ⟨g3, g4⟩
              · exact .inl ⟨q, g1, g⟩
              · exact absurd g3 hab
              · exact .inr (by rw [g1, ← g4])
          · rw [if_neg e1] at e
            by_cases e2 : cls L a = k
            · rw [if_pos e2] at e
              rw [← Option.some.inj e]
              subst e2
              show o ∈ c.apart ++ [_] ↔ _
              rw [List.mem_append, hA.mem _ _ ec o, List.mem_singleton]
              constructor
              · rintro (⟨q, g1, g2⟩ | g)
                · exact ⟨q, g1, (hDf _ _).2 (.inl g2)⟩
                · exact ⟨cls L b, g, (hDf _ _).2 (.inr (.inl ⟨rfl, rfl⟩))⟩
              · rintro ⟨q, g1, g2⟩
                rcases (hDf _ _).1 g2 with g | ⟨g3, g4⟩ | ⟨g3, g4⟩
                · exact .inl ⟨q, g1, g⟩
                · exact .inr (by rw [g1, ← g4])
                · exact absurd g3 e1
            · rw [if_neg e2] at e
              rw [hA.mem k c' e o]
              constructor
              · rintro ⟨q, g1, g2⟩; exact ⟨q, g1, (hDf _ _).2 (.inl g2)⟩
              · rintro ⟨q, g1, g2⟩
                rcases (hDf _ _).1 g2 with g | ⟨g3, g4⟩ | ⟨g3, g4⟩
                · exact ⟨q, g1, g⟩
                · exact absurd g3 e2
                · exact absurd g3 e1
        · have e : (List.set _ _ _)[k]? = some c' := e
          rw [hget] at e
          by_cases e1 : cls L b = k
          · rw [if_pos e1] at e
            rw [← Option.some.inj e]
            show (d.apart ++ [_]).length ≤ _
            rw [List.length_append, List.length_singleton]; omega
          · rw [if_neg e1] at e
            by_cases e2 : cls L a = k
            · rw [if_pos e2] at e
              rw [← Option.some.inj e]
              show (c.apart ++ [_]).length ≤ _
              rw [List.length_append, List.length_singleton]; omega
            · rw [if_neg e2] at e
              have := hA.le k c' e; omega
  · have : j = p.Different.length := by omega
    subst this
    exact Tm.neg (by omega) (Tm.some ⟨hG, hA⟩)
abbrev Gat (p : TProb) (L : List Int) (l : List TClass) : Prop := Gt p L p.Min.length p.Tests.length l
theorem tgathered_tm (hp : OkP p) (hm : Lms p) : Tm (fun N => tgathered N p) (fun r => ∃ L, Lb p L ∧ Fx p L ∧ r.2.1 = numOf L ∧ Gat p L r.1 ∧ (r.2.2 = true → Ap p L p.Different.length r.1) ∧ (r.2.2 = false → ∃ e ∈ p.Different, cls L e.e0.toNat = cls L e.e1.toNat)) := by
  have hle := hp.le
  unfold tgathered
  refine (tclasses_tm hp hm.d).bind fun r6 h6 => ?_
  obtain ⟨num, m⟩ := r6
  obtain ⟨L, hL, hF, e1, e2⟩ := h6
  dsimp only at e1 e2
  subst e1; subst e2
  have hl := hL.len
  have hmm := rk_le' (L := L)
  rw [mk1_ok (n := rk L L.length) rfl (by omega) (by decide)]
  simp only [Option.bind_some]
  refine (tgathered_b1_tm (m := rk L L.length) (by omega) rfl).bind fun l1 h1 => ?_
  have hap1 : ∀ (k : Nat) (c : TClass), l1[k]? = some c → c.apart = [] := by
    intro k c e
    have hk : k < rk L L.length := by rw [← h1.1]; exact (List.getElem?_eq_some_iff.1 e).1
    rw [h1.2 k hk] at e
    rw [← Option.some.inj e]
  have hg1 : Gt p L 0 0 l1 := ⟨h1.1, fun k hk => ⟨_, h1.2 k hk, ⟨by decide, by decide, fun v hv => by omega, .inl rfl, fun v hv => by omega, .inl rfl, rfl, rfl⟩⟩⟩
  refine (tgathered_b2_tm hp hL hF hg1 hap1).bind fun l2 h2 => ?_
  refine (tgathered_b3_tm hp hL hF hm.c h2.1 h2.2).bind fun l3 h3 => ?_
  refine (tgathered_b4_tm hp hL hF hm.e h3.1 h3.2).bind fun o ho => ?_
  cases o with
  | inl r => exact Tm.some ⟨L, hL, hF, rfl, ho.1, fun _ => ho.2, fun g => by simp at g⟩
  | inr z =>
    refine Tm.some ⟨L, hL, hF, ho.2.1, ho.1, fun g => ?_, fun _ => ho.2.2.2⟩
    rw [ho.2.2.1] at g; simp at g
end
end Go.D
set_option linter.unusedSimpArgs false
set_option linter.unusedVariables false
namespace Go.D
open Go Go.X
def wds (c : TClass) (i : Nat) : List (List UInt8) := (List.range i).flatMap fun j => wordsOf c.tests (c.low.toNat + j)
def span (c : TClass) : Nat := (c.high + 1 - c.low).toNat
def allw (c : TClass) : List (List UInt8) := wds c (span c)
theorem wds_succ {c : TClass} {i : Nat} : wds c (i + 1) = wds c i ++ wordsOf c.tests (c.low.toNat + i) := by
  unfold wds
  rw [List.range_succ, List.flatMap_append]
  simp
theorem wds_le {c : TClass} {i k : Nat} (h : i ≤ k) : ∃ r, wds c k = wds c i ++ r := by
  induction h with
  | refl => exact ⟨[], by simp⟩
  | step _ ih =>
    obtain ⟨r, e⟩ := ih
    exact ⟨r ++ wordsOf c.tests (c.low.toNat + _), by rw [wds_succ, e, List.append_assoc]⟩
structure Cok (c : TClass) : Prop where
  lo : 0 ≤ c.low ∧ c.low ≤ 16
  hi : 0 ≤ c.high ∧ c.high ≤ 16
  ts : ∀ t ∈ c.tests, okT t = true
  tl : c.tests.length ≤ 1000
theorem cloneTest_tm {s : List TTest} (h : s.length ≤ 1000) : Tm (fun N => cloneTest N s) (· = s) := by
  unfold cloneTest
  rw [apnd_ok (by simp; omega) (by decide)]
  exact Tm.some rfl
theorem tfirst_b2_tm {c : TClass} (hc : Cok c) {m k : Nat} (hm : m ≤ 99) (hk : k ≤ 20) {out : List (List UInt8)} (ho : out.length < m) :
    Tm (fun N => loopM (tfirst_b2 N c (m : Int) ((c.low.toNat + k : Nat) : Int)) N (out, c.tests)) (· = out ++ (wordsOf c.tests (c.low.toNat + k)).take (m - out.length)) := by
  have hlo := hc.lo
  refine Tm.up 0 (fun j s => s = (out, c.tests)) rfl ?_
  rintro j hj s rfl
  unfold tfirst_b2
  dsimp only
  have e1 : iw ((m : Int) - (out.length : Int)) = ((m - out.length : Nat) : Int) := by rw [iw_eq] <;> omega
  have e2 : imin 100 ((m - out.length : Nat) : Int) = ((m - out.length : Nat) : Int) := by unfold imin; rw [if_pos (by omega)]
  rw [e1, e2]
  refine Tm.pos (by omega) ((pWords_tm hc.ts hc.tl (by omega) (by omega)).eq ?_)
  have hl : ((wordsOf c.tests (c.low.toNat + k)).take (m - out.length)).length ≤ 99 := by rw [List.length_take]; omega
  rw [apnd_ok (by omega) (by decide)]
  simp only [Option.bind_some]
  exact Tm.pos (by omega) (Tm.some rfl)
theorem tfirst_tm {c : TClass} (hc : Cok c) {m : Nat} (hm : 0 < m ∧ m ≤ 99) : Tm (fun N => tfirst N c (m : Int)) (· = (allw c).take m) := by
  have hlo := hc.lo
  have hhi := hc.hi
  unfold tfirst
  refine Tm.bind (Q := fun r => r = (allw c).take m) ?_ fun r hr => Tm.some hr
  have hsp : span c ≤ 17 := by unfold span; omega
  refine Tm.up (span c) (fun k s => s.2 = ((c.low.toNat + k : Nat) : Int) ∧ s.1 = (wds c k).take m) ⟨by dsimp only; omega, by simp [wds]⟩ ?_
  rintro k hk ⟨s, n⟩ ⟨hn, hs⟩
  dsimp only at hn hs; subst hn
  unfold tfirst_b1
  dsimp only
  have hsl : s.length ≤ m := by rw [hs, List.length_take]; omega
  rcases Nat.lt_or_ge k (span c) with hlt | hge
  · have hle : ((c.low.toNat + k : Nat) : Int) ≤ c.high := by unfold span at hlt; omega
    rw [if_pos hle]
    simp only [Option.bind_some]
    rcases Nat.lt_or_ge s.length m with h1 | h1
    · refine Tm.pos (decide_eq_true (by omega)) ((cloneTest_tm hc.tl).eq ((tfirst_b2_tm hc hm.2 (by omega) h1).eq (Tm.some ⟨hlt, by dsimp only; rw [iw_eq] <;> omega, ?_⟩)))
      dsimp only
      have h2 : (wds c k).length < m := by rw [hs, List.length_take] at h1; omega
      have h3 : s = wds c k := by rw [hs, List.take_of_length_le (by omega)]
      rw [wds_succ, List.take_append, List.take_of_length_le (i := m) (l := wds c k) (by omega), h3]
    · refine Tm.neg (by rw [decide_eq_false (by omega)]; simp) (Tm.some ?_)
      show s = _
      obtain ⟨r, e⟩ := wds_le (c := c) hk
      unfold allw
      have h2 : m ≤ (wds c k).length := by rw [hs, List.length_take] at h1; omega
      rw [e, List.take_append_of_le_length h2, hs]
  · have hgt : ¬ ((c.low.toNat + k : Nat) : Int) ≤ c.high := by unfold span at hge; omega
    rw [if_neg hgt]
    simp only [Option.bind_some]
    refine Tm.neg (by simp) (Tm.some ?_)
    have : k = span c := by omega
    subst this
    exact hs
theorem mem_allw {c : TClass} (hc : Cok c) {s : List UInt8} : s ∈ allw c ↔ c.low ≤ (s.length : Int) ∧ (s.length : Int) ≤ c.high ∧ s.all prn = true ∧ c.tests.all (fun t => pas t s) = true := by
  have hlo := hc.lo
  have hhi := hc.hi
  unfold allw wds
  rw [List.mem_flatMap]
  constructor
  · rintro ⟨j, hj, h⟩
    rw [List.mem_range] at hj
    obtain ⟨h1, h2, h3⟩ := mem_wordsOf.1 h
    unfold span at hj
    exact ⟨by omega, by omega, h2, h3⟩
  · rintro ⟨h1, h2, h3, h4⟩
    refine ⟨s.length - c.low.toNat, List.mem_range.2 (by unfold span; omega), mem_wordsOf.2 ⟨by omega, h3, h4⟩⟩
theorem allw_nodup {c : TClass} : (allw c).Nodup := by
  unfold allw wds
  refine nodup_flatMap List.nodup_range (fun a _ => wordsOf_nodup) fun a b _ _ hab x hx hx' => ?_
  have h1 := (mem_wordsOf.1 hx).1
  have h2 := (mem_wordsOf.1 hx').1
  omega
section
variable {p : TProb} {L : List Int}
theorem ClR.cok (hp : OkP p) (hm : Lms p) {i k : Nat} {c : TClass} (h : ClR p L i p.Tests.length k c) : Cok c := by
  refine ⟨h.lo0, h.hi0, fun t ht => ?_, ?_⟩
  · rw [h.ts, List.take_length] at ht
    exact (hp.ts t (List.mem_filter.1 ht).1).1
  · rw [h.ts, List.take_length]
    have := List.length_filter_le (fun t => decide (cls L t.Var.toNat = k)) p.Tests
    have := hm.c
    omega
end
end Go.D
set_option linter.unusedSimpArgs false
set_option linter.unusedVariables false
namespace Go.D
open Go Go.X
structure Adj (l : List TClass) : Prop where
  lt : ∀ (k : Nat) (c : TClass), l[k]? = some c → ∀ o ∈ c.apart, ∃ q : Nat, o = (q : Int) ∧ q < l.length ∧ q ≠ k
  symm : ∀ (k : Nat) c (q : Nat) d, l[k]? = some c → l[q]? = some d → (q : Int) ∈ c.apart → (k : Int) ∈ d.apart
def nI (ns : List Nat) : List Int := ns.map fun (n : Nat) => (n : Int)
def Ext (l : List TClass) (ns : List Nat) (words : List (List UInt8)) (known : List Bool) (g : Nat → List UInt8) : Prop :=
  ∀ k ∈ ns, ∃ c, l[k]? = some c ∧ g k ∈ c.words ∧ ∀ q : Nat, (q : Int) ∈ c.apart → (q ∈ ns → g k ≠ g q) ∧ (known[q]? = some true → words[q]? ≠ some (g k))
structure Chosen (l : List TClass) (ns : List Nat) (words : List (List UInt8)) (known : List Bool) (r : Bool × Bool × List (List UInt8) × List Bool) : Prop where
  len : r.2.2.1.length = l.length
  out : ∀ o, o ∉ ns → r.2.2.1[o]? = words[o]?
  yes : r.2.1 = true → r.1 = true ∧ ∀ k ∈ ns, ∃ c w, l[k]? = some c ∧ r.2.2.1[k]? = some w ∧ w ∈ c.words ∧ ∀ q : Nat, (q : Int) ∈ c.apart → (q ∈ ns ∨ known[q]? = some true) → r.2.2.1[q]? ≠ some w
  no : r.2.1 = false → r.2.2.2 = known ∧ ∀ g, ¬ Ext l ns words known g
theorem tchoose1_tm {q : Nat} {ca : List Bool} {cb : List (List UInt8)} {cc : List UInt8} (h : q < ca.length) (h' : q < cb.length) : Tm (fun N => tchoose1 N (q : Int) ca cb cc) (· = (ca.getD q false && decide (cb.getD q [] = cc))) := by
  unfold tchoose1
  refine Tm.step (idx_n h) ?_
  rw [getD_n h, getD_n h']
  cases ca[q] with
  | true => exact Tm.pos rfl (Tm.step (idx_n h') (Tm.some (by simp)))
  | false => exact Tm.neg (by simp) (Tm.some (by simp))
section
variable {l : List TClass}
theorem tchoose_tm (hA : Adj l) (hl : l.length ≤ 1000) (hw : ∀ c ∈ l, c.words.length ≤ 1000 ∧ c.apart.length ≤ 1000) : ∀ (ns : List Nat) (words : List (List UInt8)) (known : List Bool), ns.Nodup → (∀ k ∈ ns, k < l.length ∧ known[k]? = some false) → words.length = l.length → known.length = l.length → ns.length ≤ 1000 →
    Tm (fun N => tchoose N l (nI ns) words known) (Chosen l ns words known) := by
  have hb : Bg = 9223372036854775807 := rfl
  intro ns
  induction ns with
  | nil =>
    intro words known _ _ hwl hkl _
    refine Tm.succ (f := fun N => tchoose N l (nI []) words known) ?_
    show Tm (fun N => tchoose_step N (tchoose N) l (nI []) words known) _
    unfold tchoose_step
    exact Tm.pos rfl (Tm.some ⟨hwl, fun _ _ => rfl, fun _ => ⟨rfl, fun k hk => by cases hk⟩, fun h => by simp at h⟩)
  | cons k rest ih =>
    intro words known hnd hns hwl hkl hlen
    obtain ⟨hkl0, hkf⟩ := hns k List.mem_cons_self
    obtain ⟨hkr, hrn⟩ := List.nodup_cons.1 hnd
    have hlen' : rest.length + 1 ≤ 1000 := by simpa using hlen
    obtain ⟨c, ec⟩ : ∃ c, l[k]? = some c := ⟨_, List.getElem?_eq_getElem hkl0⟩
    obtain ⟨hcw, hca⟩ := hw c (List.mem_of_getElem? ec)
    refine Tm.succ (f := fun N => tchoose N l (nI (k :: rest)) words known) ?_
    show Tm (fun N => tchoose_step N (tchoose N) l (nI (k :: rest)) words known) _
    unfold tchoose_step
    have e0 : idx (nI (k :: rest)) 0 = some (k : Int) := by simp [idx, nI]
    have eln : (List.length (nI (k :: rest)) : Int) = ((rest.length + 1 : Nat) : Int) := by simp [nI]
    rw [eln]
    refine Tm.neg (by omega) (Tm.step e0 (Tm.step (idx_n (by omega)) ?_))
    rw [upd1_i (n := k) rfl (by omega)]
    simp only [Option.bind_some]
    refine Tm.step (idx_get ec) ?_
    have hk1 : ∀ q, (known.set k true)[q]? = if k = q then some true else known[q]? := fun q => set_get (by omega)
    refine Tm.bind (Q := fun o => match o with | .inl s => s.2 = known.set k true ∧ s.1.length = l.length ∧ (∀ o, o ∉ k :: rest → s.1[o]? = words[o]?) ∧ ∀ g, ¬ Ext l (k :: rest) words known g | .inr z => Chosen l (k :: rest) words known z) ?_ fun o ho => ?_
    · refine Tm.up c.words.length (fun i s => s.2.2 = (i : Int) ∧ s.2.1 = known.set k true ∧ s.1.length = l.length ∧ (∀ o, o ∉ k :: rest → s.1[o]? = words[o]?) ∧ ∀ g, Ext l (k :: rest) words known g → ∀ j, j < i → c.words[j]? ≠ some (g k)) ⟨rfl, rfl, hwl, fun _ _ => rfl, fun g _ j hj => by omega⟩ ?_
      rintro i hi ⟨s, kn, ii⟩ ⟨h1, h2, h3, h4, h5⟩
      dsimp only at h1 h2 h3 h4 h5; subst h1; subst h2
      unfold tchoose_b1
      dsimp only
      rcases Nat.lt_or_ge i c.words.length with hlt | hge
      · refine Tm.pos (by omega) (Tm.step (idx_n hlt) (Tm.step (idx_get ec) ?_))
        obtain ⟨w, hwe⟩ : ∃ w, w = c.words[i] := ⟨_, rfl⟩
        rw [← hwe]
        have ewi : c.words[i]? = some w := by rw [List.getElem?_eq_getElem hlt, hwe]
        have hct : Tm (fun N => containsInt N c.apart (fun y => tchoose1 N y (known.set k true) s w)) (· = c.apart.any fun o => (known.set k true).getD o.toNat false && decide (s.getD o.toNat [] = w)) := by
          refine containsInt_tm (f := fun N y => tchoose1 N y (known.set k true) s w) (by omega) fun o ho => ?_
          obtain ⟨q, rfl, hq, _⟩ := hA.lt _ _ ec o ho
          exact tchoose1_tm (by rw [List.length_set]; omega) (by omega)
        refine hct.eq ?_
        cases hany : c.apart.any fun o => (known.set k true).getD o.toNat false && decide (s.getD o.toNat [] = w) with
        | true =>
          refine Tm.pos rfl (Tm.some ⟨hlt, iw_n (by omega), rfl, h3, h4, fun g hg j hj => ?_⟩)
          by_cases ej : j = i
          · subst ej
            rw [ewi]
            intro e
            have e := Option.some.inj e
            obtain ⟨o, ho, h6⟩ := List.any_eq_true.1 hany
            obtain ⟨q, rfl, hq, hqk⟩ := hA.lt _ _ ec o ho
            rw [Bool.and_eq_true, Int.toNat_natCast] at h6
            obtain ⟨h6, h7⟩ := h6
            have h7 := of_decide_eq_true h7
            have h8 : known[q]? = some true := by
              have : (known.set k true)[q]? = some true := by
                rw [List.getD_eq_getElem?_getD] at h6
                rw [List.getElem?_eq_getElem (by rw [List.length_set]; omega)] at h6 ⊢
                simpa using h6
              rw [hk1, if_neg (by omega)] at this
              exact this
            have h9 : q ∉ k :: rest := fun hm => by
              have := (hns q hm).2
              rw [h8] at this; simp at this
            have h10 : words[q]? = some w := by
              rw [← h4 q h9]
              rw [getD_n (by omega)] at h7
              rw [List.getElem?_eq_getElem (by omega), h7]
            obtain ⟨c', ec', _, h11⟩ := hg k List.mem_cons_self
            rw [ec] at ec'
            have : c = c' := Option.some.inj ec'
            subst this
            exact (h11 q ho).2 h8 (by rw [h10, e])
          · exact h5 g hg j (by omega)
        | false =>
          refine Tm.neg (by simp) (Tm.step (idx_n (by omega)) ?_)
          rw [upd1_i (n := k) rfl (by omega)]
          simp only [Option.bind_some]
          have ecut : cut (nI (k :: rest)) 1 ((rest.length + 1 : Nat) : Int) = some (nI rest) := by
            refine (cut_i (xs := nI (k :: rest)) (i := 1) (m := 1) (n := rest.length + 1) rfl rfl (by omega) (by simp [nI])).trans ?_
            simp [nI]
            exact List.take_of_length_le (by simp)
          rw [eln, ecut]
          simp only [Option.bind_some]
          have hself := ih (s.set k w) (known.set k true) hrn (fun q hq => ⟨(hns q (List.mem_cons_of_mem _ hq)).1, by
            rw [hk1, if_neg (fun e => hkr (by rw [e]; exact hq))]; exact (hns q (List.mem_cons_of_mem _ hq)).2⟩) (by rw [List.length_set]; omega) (by rw [List.length_set]; omega) (by omega)
          refine hself.bind fun r hr => ?_
          have hsk : ∀ q, (s.set k w)[q]? = if k = q then some w else s[q]? := fun q => set_get (by omega)
          obtain ⟨al, okk, rw', rk'⟩ := r
          cases okk with
          | true =>
            obtain ⟨y1, y2⟩ := hr.yes rfl
            have y3 := hr.out
            have y4 := hr.len
            dsimp only at y1 y2 y3 y4
            subst y1
            refine Tm.pos rfl (Tm.some ?_)
            have hkw : rw'[k]? = some w := by rw [y3 k hkr, hsk, if_pos rfl]
            have hout : ∀ o, o ∉ k :: rest → rw'[o]? = words[o]? := by
              intro o ho
              rw [y3 o (fun h => ho (List.mem_cons_of_mem _ h)), hsk, if_neg (fun e => ho (by rw [e]; exact List.mem_cons_self))]
              exact h4 o ho
            refine ⟨y4, hout, fun _ => ⟨rfl, fun x hx => ?_⟩, fun h => by simp at h⟩
            rcases List.mem_cons.1 hx with rfl | hx
            · refine ⟨c, w, ec, hkw, by rw [hwe]; exact List.getElem_mem _, fun q hq hor => ?_⟩
              obtain ⟨q', eq', hql, hqk⟩ := hA.lt _ _ ec _ hq
              have : q = q' := by omega
              subst this
              show rw'[q]? ≠ some w
              rcases hor with hin | hkn
              · rcases List.mem_cons.1 hin with e | hin
                · exact absurd e hqk
                · obtain ⟨c', w', ec', ew', _, h12⟩ := y2 q hin
                  have h13 := h12 x (hA.symm _ _ _ _ ec ec' hq) (.inr (by rw [hk1, if_pos rfl]))
                  rw [ew']
                  intro e
                  rw [← e] at hkw
                  exact h13 hkw
              · have h9 : q ∉ x :: rest := fun hm => by
                  have := (hns q hm).2
                  rw [hkn] at this; simp at this
                rw [hout q h9, ← h4 q h9]
                intro e
                have hq1 : (known.set x true).getD q false = true := by
                  rw [List.getD_eq_getElem?_getD, hk1, if_neg (by omega), hkn]; rfl
                have := List.any_eq_false.1 hany _ hq
                rw [Int.toNat_natCast, hq1, List.getD_eq_getElem?_getD, e] at this
                simp at this
            · obtain ⟨c', w', ec', ew', hm', h12⟩ := y2 x hx
              refine ⟨c', w', ec', ew', hm', fun q hq hor => h12 q hq ?_⟩
              rcases hor with hin | hkn
              · rcases List.mem_cons.1 hin with rfl | hin
                · exact .inr (by rw [hk1, if_pos rfl])
                · exact .inl hin
              · refine .inr ?_
                rw [hk1]
                by_cases e : k = q
                · rw [if_pos e]
                · rw [if_neg e]; exact hkn
          | false =>
            obtain ⟨n1, n2⟩ := hr.no rfl
            have y3 := hr.out
            have y4 := hr.len
            dsimp only at n1 n2 y3 y4
            subst n1
            refine Tm.neg (by simp) (Tm.some ⟨hlt, iw_n (by omega), rfl, y4, fun o ho => ?_, fun g hg j hj => ?_⟩)
            · show rw'[o]? = _
              rw [y3 o (fun h => ho (List.mem_cons_of_mem _ h)), hsk, if_neg (fun e => ho (by rw [e]; exact List.mem_cons_self))]
              exact h4 o ho
            · by_cases ej : j = i
              · subst ej
                rw [ewi]
                intro e
                have e := Option.some.inj e
                refine n2 g fun x hx => ?_
                obtain ⟨c', ec', hm', h12⟩ := hg x (List.mem_cons_of_mem _ hx)
                refine ⟨c', ec', hm', fun q hq => ⟨fun hin => (h12 q hq).1 (List.mem_cons_of_mem _ hin), fun hkn => ?_⟩⟩
                rw [hk1] at hkn
                rw [hsk]
                by_cases ekq : k = q
                · subst ekq
                  rw [if_pos rfl]
                  intro e'
                  exact (h12 k hq).1 List.mem_cons_self (by rw [← e]; exact (Option.some.inj e').symm)
                · rw [if_neg ekq] at hkn ⊢
                  have h9 : q ∉ k :: rest := fun hm => by
                    have := (hns q hm).2
                    rw [hkn] at this; simp at this
                  rw [h4 q h9]
                  exact (h12 q hq).2 hkn
              · exact h5 g hg j (by omega)
      · have : i = c.words.length := by omega
        subst this
        refine Tm.neg (by omega) (Tm.some ⟨rfl, h3, h4, fun g hg => ?_⟩)
        obtain ⟨c', ec', hm', _⟩ := hg k List.mem_cons_self
        rw [ec] at ec'
        have : c = c' := Option.some.inj ec'
        subst this
        obtain ⟨j, hj, e⟩ := List.getElem_of_mem hm'
        exact h5 g hg j hj (by rw [List.getElem?_eq_getElem hj, e])
    · cases o with
      | inl s =>
        obtain ⟨s, kn⟩ := s
        obtain ⟨g1, g2, g3, g4⟩ := ho
        dsimp only at g1 g2 g3 g4 ⊢
        subst g1
        refine Tm.step (idx_n (by rw [List.length_set]; omega)) ?_
        rw [upd1_i (n := k) rfl (by rw [List.length_set]; omega)]
        refine Tm.some ⟨g2, g3, fun h => by simp at h, fun _ => ⟨?_, g4⟩⟩
        show (known.set k true).set k false = known
        apply List.ext_getElem?
        intro q
        rw [List.set_set, set_get (by omega)]
        by_cases e : k = q
        · subst e; rw [if_pos rfl, hkf]
        · rw [if_neg e]
      | inr z => exact Tm.some ho
end
end Go.D
set_option linter.unusedSimpArgs false
set_option linter.unusedVariables false
namespace Go.D
open Go Go.X
theorem mem_get {α : Type} {l m : List α} (h : l.Perm m) {i : Nat} (hi : i < l.length) : l[i] ∈ m := h.mem_iff.1 (List.getElem_mem hi)
theorem insSort_tm {data : List Int} {cmp : Nat → Int → Int → Option Int} (hn : data.length ≤ 1000) (hc : ∀ x ∈ data, ∀ y ∈ data, Tm (fun N => cmp N x y) (fun _ => True)) :
    Tm (fun N => insSort N data 0 (data.length : Int) (cmp N)) (fun r => r.Perm data) := by
  unfold insSort
  refine Tm.bind (Q := fun r => r.Perm data) ?_ fun r hr => Tm.some hr
  refine Tm.loopG (fun (m : Nat) s => s.1.Perm data ∧ ∃ i : Nat, s.2 = (i : Int) ∧ 1 ≤ i ∧ i ≤ data.length + 1 ∧ m = data.length + 1 - i) (fun m => m) (data.length + 1 - 1) ⟨.refl _, 1, rfl, by omega, by omega, rfl⟩ ?_
  rintro m ⟨s, ii⟩ ⟨hp, i, hi, h1, h2, hm⟩
  dsimp only at hp hi; subst hi; subst hm
  unfold insSort_b1
  dsimp only
  have hl := hp.length_eq
  by_cases hlt : i < data.length
  · refine Tm.pos (by omega) ?_
    refine Tm.bind (Q := fun r => r.Perm data) ?_ fun r hr => Tm.some ⟨_, ⟨hr, i + 1, iw_n (by omega), by omega, by omega, rfl⟩, by omega⟩
    refine Tm.loopG (fun (m : Nat) s => s.1.Perm data ∧ s.2 = (m : Int) ∧ m < data.length) (fun m => m) i ⟨hp, rfl, hlt⟩ ?_
    rintro j ⟨s, jj⟩ ⟨hp, hj, hjl⟩
    dsimp only at hp hj hjl; subst hj
    have hl := hp.length_eq
    unfold insSort_b2
    dsimp only
    by_cases hj0 : 0 < j
    · have e1 : iw ((j : Int) - 1) = ((j - 1 : Nat) : Int) := by rw [iw_eq] <;> omega
      rw [e1]
      have g1 : (fun N => (((if (j : Int) > 0 then (idx s (j : Int)).bind fun x4617 => (idx s ((j - 1 : Nat) : Int)).bind fun x4629 => (cmp N x4617 x4629).bind fun r4735 => some (decide ((r4735 : Int) < 0)) else some false) : Option Bool))) = fun N => (cmp N (s[j]'(by omega)) (s[j - 1]'(by omega))).bind fun r4735 => some (decide ((r4735 : Int) < 0)) := by
        funext N
        rw [if_pos (by omega), idx_n (by omega), idx_n (by omega)]; rfl
      have g2 : Tm (fun N => (((if (j : Int) > 0 then (idx s (j : Int)).bind fun x4617 => (idx s ((j - 1 : Nat) : Int)).bind fun x4629 => (cmp N x4617 x4629).bind fun r4735 => some (decide ((r4735 : Int) < 0)) else some false) : Option Bool))) (fun _ => True) := by
        rw [g1]
        exact (hc _ (mem_get hp _) _ (mem_get hp _)).bind fun _ _ => Tm.some trivial
      refine g2.bind fun b _ => ?_
      cases b with
      | true =>
        refine Tm.pos rfl (Tm.step (idx_n (by omega)) (Tm.step (idx_n (by omega)) (Tm.step (idx_n (by omega)) ?_)))
        rw [upd1_i (n := j) rfl (by omega)]
        simp only [Option.bind_some]
        refine Tm.step (idx_n (by rw [List.length_set]; omega)) ?_
        rw [upd1_i (n := j - 1) rfl (by rw [List.length_set]; omega)]
        exact Tm.some ⟨j - 1, ⟨(@List.set_set_perm _ s (j) (j - 1) (by omega) (by omega)).trans hp, rfl, by omega⟩, by omega⟩
      | false => exact Tm.neg (by simp) (Tm.some hp)
    · refine Tm.bind (Q := fun b => b = false) (Tm.neg (by omega) (Tm.some rfl)) fun b hb => ?_
      subst hb
      exact Tm.neg (by simp) (Tm.some hp)
  · exact Tm.neg (by omega) (Tm.some hp)
theorem sortStable_tm {data : List Int} {cmp : Nat → Int → Int → Option Int} (hn : data.length ≤ 19) (hc : ∀ x ∈ data, ∀ y ∈ data, Tm (fun N => cmp N x y) (fun _ => True)) :
    Tm (fun N => sortStable N data (cmp N)) (fun r => r.Perm data) := by
  unfold sortStable
  refine Tm.bind (Q := fun r => r.Perm data) ?_ fun r hr => Tm.some hr
  unfold stableSort
  refine Tm.bind (Q := fun r => r = (data, 0)) ?_ fun r hr => ?_
  · refine Tm.up 0 (fun _ s => s = (data, 0, 20)) rfl ?_
    rintro k _ s rfl
    unfold stableSort_b1
    exact Tm.neg (by omega) (Tm.some rfl)
  · subst hr
    refine (insSort_tm (by omega) hc).bind fun r hr => ?_
    refine Tm.bind (Q := fun _ => True) ?_ fun _ _ => Tm.some hr
    refine Tm.up 0 (fun _ s => s = 20) rfl ?_
    rintro k _ s rfl
    unfold stableSort_b2
    exact Tm.neg (by omega) (Tm.some trivial)
theorem revInt_tm {s : List Int} (hn : s.length ≤ 1000) : Tm (fun N => revInt N s) (fun r => r.Perm s) := by
  unfold revInt
  refine Tm.bind (Q := fun r => r.Perm s) ?_ fun r hr => Tm.some hr
  refine Tm.loopG (fun (m : Nat) (t : List Int × Int × Int) => t.1.Perm s ∧ 0 ≤ t.2.1 ∧ -1 ≤ t.2.2 ∧ t.2.2 < (s.length : Int) ∧ m = (t.2.2 - t.2.1 + 2).toNat) (fun m => m) _ ⟨.refl _, Int.le_refl _, by dsimp only; rw [iw_eq] <;> omega, by dsimp only; rw [iw_eq] <;> omega, rfl⟩ ?_
  rintro m ⟨t, i, j⟩ ⟨hp, h1, h2, h3, hm⟩
  dsimp only at hp h1 h2 h3 hm; subst hm
  have hl := hp.length_eq
  unfold revInt_b1
  dsimp only
  by_cases hij : i < j
  · obtain ⟨a, rfl⟩ : ∃ a : Nat, i = (a : Int) := ⟨i.toNat, by omega⟩
    obtain ⟨b, rfl⟩ : ∃ b : Nat, j = (b : Int) := ⟨j.toNat, by omega⟩
    refine Tm.pos hij (Tm.step (idx_n (by omega)) (Tm.step (idx_n (by omega)) (Tm.step (idx_n (by omega)) ?_)))
    rw [upd1_i (n := a) rfl (by omega)]
    simp only [Option.bind_some]
    refine Tm.step (idx_n (by rw [List.length_set]; omega)) ?_
    rw [upd1_i (n := b) rfl (by rw [List.length_set]; omega)]
    refine Tm.some ⟨_, ⟨(@List.set_set_perm _ t (a) (b) (by omega) (by omega)).trans hp, ?_, ?_, ?_, rfl⟩, ?_⟩
    · dsimp only; rw [iw_eq] <;> omega
    · dsimp only; rw [iw_eq] <;> omega
    · dsimp only; rw [iw_eq] <;> omega
    · dsimp only
      rw [iw_eq (z := (a : Int) + 1) (by omega) (by omega), iw_eq (z := (b : Int) - 1) (by omega) (by omega)]; omega
  · exact Tm.neg hij (Tm.some hp)
theorem nI_perm {l : List Int} {ns : List Nat} (h : l.Perm (nI ns)) : ∃ os : List Nat, l = nI os ∧ os.Perm ns := by
  refine ⟨l.map Int.toNat, ?_, ?_⟩
  · unfold nI
    rw [List.map_map]
    have : ∀ x ∈ l, ((fun (n : Nat) => (n : Int)) ∘ Int.toNat) x = x := fun x hx => by
      have := h.mem_iff.1 hx
      unfold nI at this
      obtain ⟨q, _, rfl⟩ := List.mem_map.1 this
      rfl
    rw [List.map_congr_left this, List.map_id']
  · have := h.map Int.toNat
    unfold nI at this
    rw [List.map_map] at this
    have e : (Int.toNat ∘ fun (n : Nat) => (n : Int)) = id := by funext n; rfl
    rw [e, List.map_id] at this
    exact this
theorem nodup_bound {m : Nat} {ns : List Nat} (h : ns.Nodup) (hb : ∀ k ∈ ns, k < m) : ns.length ≤ m := by
  have := h.length_le_of_subset (l₂ := List.range m) fun x hx => List.mem_range.2 (hb x hx)
  simpa using this
theorem pick {α : Type} {W B : List α} (h : W.Nodup) (hl : B.length < W.length) : ∃ w ∈ W, w ∉ B := by
  apply Classical.byContradiction
  intro hno
  have : W ⊆ B := fun w hw => Classical.byContradiction fun hb => hno ⟨w, hw, hb⟩
  have := h.length_le_of_subset this
  omega
theorem trunc {m : Nat} {D : Nat → List (List UInt8)} {nb : Nat → List Nat} {t : Nat → Nat} {R : Nat → Nat → Prop} (hD : ∀ k, (D k).Nodup) (ht : ∀ k, k < m → (nb k).length < t k)
    (hR : ∀ x y, R x y → y ∈ nb x ∧ R y x ∧ x ≠ y) {f : Nat → List UInt8} (hf : ∀ k, k < m → f k ∈ D k) (hs : ∀ x y, R x y → f x ≠ f y) :
    ∃ g : Nat → List UInt8, (∀ k, k < m → g k ∈ (D k).take (t k)) ∧ ∀ x y, R x y → g x ≠ g y := by
  have key : ∀ j, j ≤ m → ∃ g : Nat → List UInt8, (∀ k, k < j → g k ∈ (D k).take (t k)) ∧ (∀ k, k < m → g k ∈ D k) ∧ ∀ x y, R x y → g x ≠ g y := by
    intro j
    induction j with
    | zero => intro _; exact ⟨f, fun k hk => by omega, hf, hs⟩
    | succ j ih =>
      intro hj
      obtain ⟨g, h1, h2, h3⟩ := ih (by omega)
      by_cases hin : g j ∈ (D j).take (t j)
      · refine ⟨g, fun k hk => ?_, h2, h3⟩
        by_cases e : k = j
        · subst e; exact hin
        · exact h1 k (by omega)
      · have hlen : ((nb j).map g).length < ((D j).take (t j)).length := by
          rw [List.length_map, List.length_take]
          have := ht j (by omega)
          rcases Nat.lt_or_ge (t j) (D j).length with hg | hg
          · omega
          · rw [List.take_of_length_le hg] at hin
            exact absurd (h2 j (by omega)) hin
        obtain ⟨w, hw, hwn⟩ := pick ((hD j).sublist (List.take_sublist _ _)) hlen
        refine ⟨fun x => if x = j then w else g x, fun k hk => ?_, fun k hk => ?_, fun x y hxy => ?_⟩
        · by_cases e : k = j
          · subst e; simpa using hw
          · simpa [e] using h1 k (by omega)
        · by_cases e : k = j
          · subst e; simpa using List.mem_of_mem_take hw
          · simpa [e] using h2 k hk
        · obtain ⟨r1, r2, r3⟩ := hR x y hxy
          obtain ⟨r4, _, _⟩ := hR y x r2
          dsimp only
          by_cases ex : x = j
          · subst ex
            rw [if_pos rfl, if_neg (fun e => r3 e.symm)]
            intro e
            exact hwn (List.mem_map.2 ⟨y, r1, e.symm⟩)
          · rw [if_neg ex]
            by_cases ey : y = j
            · subst ey
              rw [if_pos rfl]
              intro e
              exact hwn (List.mem_map.2 ⟨x, r4, e⟩)
            · rw [if_neg ey]; exact h3 x y hxy
  obtain ⟨g, h1, _, h3⟩ := key m (Nat.le_refl _)
  exact ⟨g, h1, h3⟩
section
variable {p : TProb} {L : List Int} {l : List TClass} {x : List (List UInt8)}
theorem sat_iff : sat p x = true ↔ x.length = p.Min.length ∧ (∀ i, i < x.length → (p.Min.getD i 0 ≤ ((x.getD i []).length : Int) ∧ ((x.getD i []).length : Int) ≤ p.Max.getD i 0) ∧ (x.getD i []).all prn = true) ∧ (∀ t ∈ p.Tests, pas t (x.getD t.Var.toNat []) = true) ∧ (∀ e ∈ p.Same, x.getD e.e0.toNat [] = x.getD e.e1.toNat []) ∧ ∀ e ∈ p.Different, x.getD e.e0.toNat [] ≠ x.getD e.e1.toNat [] := by
  unfold sat gL gT gD gS
  simp only [Bool.and_eq_true, decide_eq_true_eq, List.all_eq_true, List.mem_range, Bool.not_eq_true', decide_eq_false_iff_not]
  constructor
  · rintro ⟨⟨⟨⟨h1, h2⟩, h3⟩, h4⟩, h5⟩; exact ⟨h1, h2, h3, h4, h5⟩
  · rintro ⟨h1, h2, h3, h4, h5⟩; exact ⟨⟨⟨⟨h1, h2⟩, h3⟩, h4⟩, h5⟩
theorem sat_cn (hs : ∀ e ∈ p.Same, x.getD e.e0.toNat [] = x.getD e.e1.toNat []) {a b : Nat} (hc : Cn p a b) : x.getD a [] = x.getD b [] := by
  induction hc with
  | refl a => rfl
  | edge he => exact hs _ he
  | symm _ ih => exact ih.symm
  | trans _ _ i1 i2 => exact i1.trans i2
structure Wds (p : TProb) (L : List Int) (l : List TClass) (f : Nat → List UInt8) : Prop where
  mem : ∀ (k : Nat) (c : TClass), l[k]? = some c → f k ∈ allw c
  df : ∀ e ∈ p.Different, f (cls L e.e0.toNat) ≠ f (cls L e.e1.toNat)
theorem sat_split (hp : OkP p) (hm : Lms p) (hL : Lb p L) (hF : Fx p L) (hG : Gat p L l) (h : sat p x = true) : ∃ f, Wds p L l f ∧ ∀ v, v < p.Min.length → x[v]? = some (f (cls L v)) := by
  obtain ⟨h1, h2, h3, h4, h5⟩ := sat_iff.1 h
  have hf : ∃ f : Nat → List UInt8, ∀ v, v < p.Min.length → x.getD v [] = f (cls L v) := by
    refine ⟨fun k => if hk : ∃ v, v < p.Min.length ∧ cls L v = k then x.getD (Classical.choose hk) [] else [], fun v hv => ?_⟩
    have hk : ∃ u, u < p.Min.length ∧ cls L u = cls L v := ⟨v, hv, rfl⟩
    dsimp only
    rw [dif_pos hk]
    obtain ⟨g1, g2⟩ := Classical.choose_spec hk
    exact (sat_cn h4 (cn_cls hL hF g1 hv g2)).symm
  obtain ⟨f, hf⟩ := hf
  refine ⟨f, ⟨fun k c ec => ?_, fun e he => ?_⟩, fun v hv => ?_⟩
  · have hk : k < rk L L.length := by rw [← hG.len]; exact (List.getElem?_eq_some_iff.1 ec).1
    obtain ⟨c', ec', hC⟩ := hG.ok k hk
    rw [ec] at ec'
    have : c = c' := Option.some.inj ec'
    subst this
    obtain ⟨v, hv, ev⟩ := cls_surj hL hk
    have hmx := hp.mx (p.Max.getD v 0) (by rw [getD_n (by rw [hp.len]; exact hv)]; exact List.getElem_mem _)
    have hx := fun u (hu : u < p.Min.length) => h2 u (by omega)
    rw [mem_allw (hC.cok hp hm)]
    refine ⟨?_, ?_, ?_, ?_⟩
    · rcases hC.lo2 with g | ⟨u, hu, eu, g⟩
      · omega
      · rw [← g, ← eu, ← hf u hu]; exact (hx u hu).1.1
    · rcases hC.hi2 with g | ⟨u, hu, eu, g⟩
      · have := (hx v hv).1.2
        rw [hf v hv, ev] at this; omega
      · rw [← g, ← eu, ← hf u hu]; exact (hx u hu).1.2
    · rw [← ev, ← hf v hv]; exact (hx v hv).2
    · rw [hC.ts, List.take_length, List.all_eq_true]
      intro t ht
      obtain ⟨ht1, ht2⟩ := List.mem_filter.1 ht
      have hv := (hp.ts t ht1).2
      rw [← of_decide_eq_true ht2, ← hf _ (by omega)]
      exact h3 t ht1
  · have hv := hp.df e he
    rw [← hf _ (by omega), ← hf _ (by omega)]
    exact h5 e he
  · rw [← hf v hv, getD_n (by omega), List.getElem?_eq_getElem (by omega)]
theorem sat_join (hp : OkP p) (hm : Lms p) (hL : Lb p L) (hF : Fx p L) (hG : Gat p L l) {f : Nat → List UInt8} (hW : Wds p L l f) (hx : x.length = p.Min.length) (hv : ∀ v, v < p.Min.length → x[v]? = some (f (cls L v))) : sat p x = true := by
  have hg : ∀ v, v < p.Min.length → x.getD v [] = f (cls L v) := fun v h => by rw [List.getD_eq_getElem?_getD, hv v h]; rfl
  have hC : ∀ v, v < p.Min.length → ∃ c, l[cls L v]? = some c ∧ ClR p L p.Min.length p.Tests.length (cls L v) c ∧ f (cls L v) ∈ allw c := fun v h => by
    obtain ⟨c, ec, h1⟩ := hG.ok _ (cls_lt hL hF h)
    exact ⟨c, ec, h1, hW.mem _ _ ec⟩
  refine sat_iff.2 ⟨hx, fun i hi => ?_, fun t ht => ?_, fun e he => ?_, fun e he => ?_⟩
  · obtain ⟨c, ec, h1, h2⟩ := hC i (by omega)
    rw [mem_allw (h1.cok hp hm)] at h2
    rw [hg i (by omega)]
    have g1 := h1.lo1 i (by omega) rfl
    have g2 := h1.hi1 i (by omega) rfl
    exact ⟨by omega, h2.2.2.1⟩
  · have hvt := (hp.ts t ht).2
    obtain ⟨c, ec, h1, h2⟩ := hC t.Var.toNat (by omega)
    rw [mem_allw (h1.cok hp hm)] at h2
    rw [hg _ (by omega)]
    refine List.all_eq_true.1 h2.2.2.2 t ?_
    rw [h1.ts, List.take_length]
    exact List.mem_filter.2 ⟨ht, decide_eq_true rfl⟩
  · have hve := hp.sm e he
    rw [hg _ (by omega), hg _ (by omega), cls_cn hF (.edge he)]
  · have hve := hp.df e he
    rw [hg _ (by omega), hg _ (by omega)]
    exact hW.df e he
theorem ap_adj (hp : OkP p) (hL : Lb p L) (hF : Fx p L) (hG : Gat p L l) (hA : Ap p L p.Different.length l) : Adj l := by
  have hD : ∀ k q, Df p L p.Different.length k q → q < l.length ∧ q ≠ k := by
    rintro k q ⟨e, he, h⟩
    have hne := hA.ne e he
    rw [List.take_length] at he
    have hve := hp.df e he
    rw [hG.len]
    rcases h with ⟨h1, h2⟩ | ⟨h1, h2⟩
    · subst h1; subst h2; exact ⟨cls_lt hL hF (by omega), fun e => hne e.symm⟩
    · subst h1; subst h2; exact ⟨cls_lt hL hF (by omega), hne⟩
  refine ⟨fun k c ec o ho => ?_, fun k c q d ec ed hq => ?_⟩
  · obtain ⟨q, e, h⟩ := (hA.mem k c ec o).1 ho
    exact ⟨q, e, hD k q h⟩
  · obtain ⟨q', e, h⟩ := (hA.mem k c ec _).1 hq
    have : q = q' := by omega
    subst this
    exact (hA.mem q d ed _).2 ⟨k, rfl, h.symm⟩
end
end Go.D
set_option linter.unusedSimpArgs false
set_option linter.unusedVariables false
namespace Go.D
open Go Go.X
def wrd (c : TClass) : TClass := TClass.mk c.low c.high c.tests ((allw c).take (c.apart.length + 1)) c.apart
structure Gr (m : Nat) (last : List Int) (removed : List Bool) (ns : List Nat) : Prop where
  e : last = nI ns
  nd : ns.Nodup
  lt : ∀ k ∈ ns, k < m
  len : removed.length = m
  iff : ∀ k, k < m → (removed[k]? = some true ↔ k ∈ ns)
section
variable {l : List TClass}
theorem tSolve_b2_tm (hl : l.length ≤ 1000) {x : List Int} (hx : x.length = l.length) : Tm (fun N => loopM (tSolve_b2 N l) N (x, 0)) (fun r => r.length = l.length) := by
  refine Tm.up l.length (fun k s => s.2 = (k : Int) ∧ s.1.length = l.length) ⟨rfl, hx⟩ ?_
  rintro k hk ⟨s, i⟩ ⟨hi, hs⟩
  dsimp only at hi hs; subst hi
  unfold tSolve_b2
  dsimp only
  rcases Nat.lt_or_ge k l.length with hlt | hge
  · refine Tm.pos (by omega) (Tm.step (idx_n hlt) (Tm.step (idx_n (by omega)) ?_))
    rw [upd1_i (n := k) rfl (by omega)]
    exact Tm.some ⟨hlt, iw_n (by omega), by rw [List.length_set]; exact hs⟩
  · exact Tm.neg (by omega) (Tm.some hs)
theorem tSolve_b5_tm (hA : Adj l) {k : Nat} {c : TClass} (ec : l[k]? = some c) (hc : c.apart.length ≤ 1000) {x : List Int} (hx : x.length = l.length) : Tm (fun N => loopM (tSolve_b5 N c) N (x, 0)) (fun r => r.length = l.length) := by
  refine Tm.up c.apart.length (fun k s => s.2 = (k : Int) ∧ s.1.length = l.length) ⟨rfl, hx⟩ ?_
  rintro j hj ⟨s, i⟩ ⟨hi, hs⟩
  dsimp only at hi hs; subst hi
  unfold tSolve_b5
  dsimp only
  rcases Nat.lt_or_ge j c.apart.length with hlt | hge
  · obtain ⟨q, eq, hq, _⟩ := hA.lt _ _ ec _ (List.getElem_mem hlt)
    refine Tm.pos (by omega) (Tm.step (idx_n hlt) ?_)
    rw [eq]
    refine Tm.step (idx_n (by omega)) (Tm.step (idx_n (by omega)) ?_)
    rw [upd1_i (n := q) rfl (by omega)]
    exact Tm.some ⟨hlt, iw_n (by omega), by rw [List.length_set]; exact hs⟩
  · exact Tm.neg (by omega) (Tm.some hs)
theorem tSolve_b4_tm (hA : Adj l) (hl : l.length ≤ 1000) (hc : ∀ c ∈ l, c.words.length ≤ 1000 ∧ c.apart.length ≤ 1000) {last left : List Int} {removed : List Bool} {ns : List Nat} (hg : Gr l.length last removed ns) (hlf : left.length = l.length) :
    Tm (fun N => loopM (tSolve_b4 N l) N (last, left, removed, false, 0)) (fun r => ∃ ns', Gr l.length r.1 r.2.2.1 ns' ∧ r.2.1.length = l.length ∧ ns.length ≤ ns'.length ∧ (r.2.2.2 = true → ns.length < ns'.length)) := by
  refine Tm.up l.length (fun k s => s.2.2.2.2 = (k : Int) ∧ ∃ ns', Gr l.length s.1 s.2.2.1 ns' ∧ s.2.1.length = l.length ∧ ns.length ≤ ns'.length ∧ (s.2.2.2.1 = true → ns.length < ns'.length)) ⟨rfl, ns, hg, hlf, Nat.le_refl _, fun e => by simp at e⟩ ?_
  rintro k hk ⟨la, lf, rm, ch, i⟩ ⟨hi, ns', hG, h1, h2, h3⟩
  dsimp only at hi hG h1 h2 h3; subst hi
  unfold tSolve_b4
  dsimp only
  have hrl := hG.len
  rcases Nat.lt_or_ge k l.length with hlt | hge
  · refine Tm.pos (by omega) ?_
    have ek : l[k]? = some l[k] := List.getElem?_eq_getElem hlt
    obtain ⟨hw, ha⟩ := hc _ (List.getElem_mem hlt)
    have key : Tm (fun N => (((idx rm (k : Int)).bind fun x8011 => (if (!x8011) = true then (idx l (k : Int)).bind fun x8022 => (idx lf (k : Int)).bind fun x8042 => some (decide (((List.length x8022.words : Int) : Int) > x8042)) else some false) : Option Bool))) (fun b => b = true → rm[k]? = some false) := by
      refine Tm.step (idx_n (by omega)) ?_
      cases e : rm[k]'(by omega) with
      | true => exact Tm.neg (by simp) (Tm.some fun h => by simp at h)
      | false => exact Tm.pos rfl (Tm.step (idx_n hlt) (Tm.step (idx_n (by omega)) (Tm.some fun _ => by rw [List.getElem?_eq_getElem (by omega), e])))
    refine key.bind fun b hb => ?_
    cases b with
    | true =>
      have hf := hb rfl
      have hkn : k ∉ ns' := fun h => by
        have := (hG.iff k hlt).2 h
        rw [hf] at this; simp at this
      have hnl := nodup_bound hG.nd hG.lt
      refine Tm.pos rfl (Tm.step (idx_n (by omega)) ?_)
      rw [upd1_i (n := k) rfl (by omega), hG.e]
      simp only [Option.bind_some]
      rw [apnd_ok (by simp only [nI, List.length_map, List.length_singleton]; omega) (by decide)]
      simp only [Option.bind_some]
      refine Tm.step (idx_n hlt) ((tSolve_b5_tm hA ek ha h1).bind fun lf' hlf' => ?_)
      refine Tm.some ⟨hlt, iw_n (by omega), ns' ++ [k], ⟨by simp [nI], ?_, ?_, by rw [List.length_set]; exact hrl, fun q hq => ?_⟩, hlf', by rw [List.length_append, List.length_singleton]; omega, fun _ => by rw [List.length_append, List.length_singleton]; omega⟩
      · rw [List.nodup_append]
        exact ⟨hG.nd, by simp, fun a ha' b hb' => by rw [List.mem_singleton.1 hb']; rintro rfl; exact hkn ha'⟩
      · intro q hq
        rcases List.mem_append.1 hq with hq | hq
        · exact hG.lt q hq
        · rw [List.mem_singleton.1 hq]; exact hlt
      · show (rm.set k true)[q]? = some true ↔ _
        rw [set_get (by omega), List.mem_append, List.mem_singleton]
        by_cases e : k = q
        · rw [if_pos e]; exact ⟨fun _ => .inr e.symm, fun _ => rfl⟩
        · rw [if_neg e, hG.iff q hq]
          exact ⟨.inl, fun h => h.resolve_right fun h => e h.symm⟩
    | false =>
      exact Tm.neg (by simp) (Tm.some ⟨hlt, iw_n (by omega), ns', hG, h1, h2, h3⟩)
  · exact Tm.neg (by omega) (Tm.some ⟨ns', hG, h1, h2, h3⟩)
theorem tSolve_b3_tm (hA : Adj l) (hl : l.length ≤ 1000) (hc : ∀ c ∈ l, c.words.length ≤ 1000 ∧ c.apart.length ≤ 1000) {left : List Int} (hlf : left.length = l.length) :
    Tm (fun N => loopM (tSolve_b3 N l) N (([] : List Int), left, List.replicate l.length false, true)) (fun r => ∃ ns, Gr l.length r.1 r.2 ns) := by
  refine Tm.loopG (fun (m : Nat) s => ∃ ns, Gr l.length s.1 s.2.2.1 ns ∧ s.2.1.length = l.length ∧ m = 2 * (l.length - ns.length) + (if s.2.2.2 then 1 else 0)) (fun m => m) _ ⟨[], ⟨rfl, List.nodup_nil, fun k h => absurd h List.not_mem_nil, by simp, fun k hk => by rw [List.getElem?_replicate]; split <;> simp⟩, hlf, rfl⟩ ?_
  rintro m ⟨la, lf, rm, ch⟩ ⟨ns, hG, h1, hm⟩
  dsimp only at hG h1 hm; subst hm
  unfold tSolve_b3
  dsimp only
  cases ch with
  | true =>
    refine Tm.pos rfl ((tSolve_b4_tm hA hl hc hG h1).bind fun r hr => ?_)
    obtain ⟨la', lf', rm', ch'⟩ := r
    obtain ⟨ns', g1, g2, g3, g4⟩ := hr
    dsimp only at g1 g2 g3 g4
    refine Tm.some ⟨_, ⟨ns', g1, g2, rfl⟩, ?_⟩
    have b1 := nodup_bound hG.nd hG.lt
    have b2 := nodup_bound g1.nd g1.lt
    dsimp only
    cases ch' with
    | true => have := g4 rfl; simp only [if_true]; omega
    | false => simp only [Bool.false_eq_true, if_false, if_true]; omega
  | false => exact Tm.neg (by simp) (Tm.some ⟨ns, hG⟩)
theorem tSolve_b6_tm (hl : l.length ≤ 1000) {removed : List Bool} (hr : removed.length = l.length) : Tm (fun N => loopM (tSolve_b6 N l removed) N (([] : List Int), 0)) (· = nI ((List.range l.length).filter fun k => decide (removed[k]? ≠ some true))) := by
  refine Tm.up l.length (fun k s => s.2 = (k : Int) ∧ s.1 = nI ((List.range k).filter fun k => decide (removed[k]? ≠ some true))) ⟨rfl, rfl⟩ ?_
  rintro k hk ⟨s, i⟩ ⟨hi, hs⟩
  dsimp only at hi hs; subst hi; subst hs
  unfold tSolve_b6
  dsimp only
  rcases Nat.lt_or_ge k l.length with hlt | hge
  · refine Tm.pos (by omega) (Tm.step (idx_n (by omega)) ?_)
    have hfl : (nI ((List.range k).filter fun k => decide (removed[k]? ≠ some true))).length ≤ k := by
      unfold nI
      rw [List.length_map]
      have := List.length_filter_le (fun k => decide (removed[k]? ≠ some true)) (List.range k)
      simpa using this
    have e : removed[k]? = some (removed[k]'(by omega)) := List.getElem?_eq_getElem (by omega)
    cases g : removed[k]'(by omega) with
    | true =>
      rw [g] at e
      refine Tm.neg (by simp) (Tm.some ⟨hlt, iw_n (by omega), ?_⟩)
      rw [List.range_succ, List.filter_append, List.filter_cons_of_neg (by simp [e])]
      simp
    | false =>
      rw [g] at e
      refine Tm.pos rfl ?_
      rw [apnd_ok (by simp only [List.length_singleton]; omega) (by decide)]
      refine Tm.some ⟨hlt, iw_n (by omega), ?_⟩
      rw [List.range_succ, List.filter_append, List.filter_cons_of_pos (by simp [e])]
      simp [nI]
  · have : k = l.length := by omega
    subst this
    exact Tm.neg (by omega) (Tm.some rfl)
end
section
variable {p : TProb} {L : List Int} {l : List TClass}
theorem tSolve_b1_tm (hp : OkP p) (hm : Lms p) (hd : p.Different.length ≤ 98) (hL : Lb p L) (hG : Gat p L l) (hA : Ap p L p.Different.length l) {num : List Int} {ok : Bool} :
    Tm (fun N => loopM (tSolve_b1 N (l, num, ok)) N (l, 0)) (fun o => match o with | .inl r => r = l.map wrd | .inr z => z = ([], false) ∧ ∃ (k : Nat) (c : TClass), l[k]? = some c ∧ allw c = []) := by
  have hlen := hG.len
  have hmm := rk_le' (L := L)
  have hle := hp.le
  have hll := hL.len
  refine Tm.up l.length (fun k s => s.2 = (k : Int) ∧ s.1 = (l.take k).map wrd ++ l.drop k) ⟨rfl, by simp⟩ ?_
  rintro k hk ⟨s, i⟩ ⟨hi, hs⟩
  dsimp only at hi hs; subst hi; subst hs
  unfold tSolve_b1
  dsimp only
  rcases Nat.lt_or_ge k l.length with hlt | hge
  · have ek : l[k]? = some l[k] := List.getElem?_eq_getElem hlt
    obtain ⟨c, ec, hC⟩ := hG.ok k (by omega)
    have hck : c = l[k] := by rw [ek] at ec; exact (Option.some.inj ec).symm
    have hcok := hC.cok hp hm
    have hap := hA.le k c ec
    have htl : ((l.take k).map wrd).length = k := by rw [List.length_map, List.length_take]; omega
    have hsl : ((l.take k).map wrd ++ l.drop k).length = l.length := by rw [List.length_append, htl, List.length_drop]; omega
    have e1 : ((l.take k).map wrd ++ l.drop k)[k]? = some c := by
      rw [List.getElem?_append_right (by omega), htl, Nat.sub_self, List.getElem?_drop]; exact ec
    refine Tm.pos (by omega) (Tm.step (idx_get e1) (Tm.step (idx_get e1) ?_))
    rw [iw_n (by omega)]
    refine (tfirst_tm hcok (m := c.apart.length + 1) (by omega)).eq ?_
    refine Tm.step (idx_get e1) ?_
    rw [upd1_i (n := k) rfl (by omega)]
    simp only [Option.bind_some]
    have e2 : ((l.take k).map wrd ++ l.drop k).set k (TClass.mk c.low c.high c.tests ((allw c).take (c.apart.length + 1)) c.apart) = (l.take (k + 1)).map wrd ++ l.drop (k + 1) := by
      rw [List.set_append_right _ _ (by omega), htl, Nat.sub_self, List.drop_eq_getElem_cons hlt, List.set_cons_zero, List.take_succ_eq_append_getElem hlt, List.map_append, List.append_assoc, ← hck]
      rfl
    rw [e2]
    have e3 : ((l.take (k + 1)).map wrd ++ l.drop (k + 1))[k]? = some (wrd c) := by
      rw [← e2, set_get (by omega), if_pos rfl]; rfl
    refine Tm.step (idx_get e3) ?_
    by_cases hz : ((wrd c).words.length : Int) = 0
    · refine Tm.pos hz (Tm.some ⟨rfl, k, c, ec, ?_⟩)
      have hz : ((allw c).take (c.apart.length + 1)).length = 0 := by
        have : (wrd c).words = (allw c).take (c.apart.length + 1) := rfl
        rw [this] at hz; omega
      rw [List.length_take] at hz
      exact List.eq_nil_of_length_eq_zero (by omega)
    · exact Tm.neg hz (Tm.some ⟨hlt, iw_n (by omega), rfl⟩)
  · have : k = l.length := by omega
    subst this
    refine Tm.neg (by simp) (Tm.some ?_)
    show _ = _
    simp
theorem tSolve_b7_tm (hp : OkP p) (hL : Lb p L) (hF : Fx p L) {l' : List TClass} {ok : Bool} {f : Nat → List UInt8} {z : Bool × Bool × List (List UInt8) × List Bool} (hf : ∀ k, k < rk L L.length → z.2.2.1[k]? = some (f k)) :
    Tm (fun N => loopM (tSolve_b7 N (l', numOf L, ok) z) N (List.replicate (numOf L).length [], 0)) (fun r => r.length = p.Min.length ∧ ∀ v, v < p.Min.length → r[v]? = some (f (cls L v))) := by
  have hle := hp.le
  have hl := hL.len
  have hnl : (numOf L).length = p.Min.length := by rw [num_len, hl]
  refine Tm.up p.Min.length (fun k s => s.2 = (k : Int) ∧ s.1.length = p.Min.length ∧ ∀ v, v < k → s.1[v]? = some (f (cls L v))) ⟨rfl, by simp [hnl], fun v hv => by omega⟩ ?_
  rintro k hk ⟨s, i⟩ ⟨hi, hsl, hs⟩
  dsimp only at hi hsl hs; subst hi
  unfold tSolve_b7
  dsimp only
  rcases Nat.lt_or_ge k p.Min.length with hlt | hge
  · refine Tm.pos (by omega) (Tm.step (idx_get (num_get hL hlt)) (Tm.step (idx_get (hf _ (cls_lt hL hF hlt))) (Tm.step (idx_n (by omega)) ?_)))
    rw [upd1_i (n := k) rfl (by omega)]
    refine Tm.some ⟨hlt, iw_n (by omega), by rw [List.length_set]; exact hsl, fun v hv => ?_⟩
    show (s.set k _)[v]? = _
    rw [set_get (by omega)]
    by_cases e : k = v
    · subst e; rw [if_pos rfl]
    · rw [if_neg e]; exact hs v (by omega)
  · exact Tm.neg (by omega) (Tm.some ⟨hsl, fun v hv => hs v (by omega)⟩)
theorem tSolve1_tm {l : List TClass} {a b : Nat} (ha : a < l.length) (hb : b < l.length) : Tm (fun N => tSolve1 N (a : Int) (b : Int) l) (fun _ => True) := by
  unfold tSolve1
  exact Tm.step (idx_n ha) (Tm.step (idx_n hb) (Tm.some trivial))
theorem wrd_get {k : Nat} {c : TClass} (h : (l.map wrd)[k]? = some c) : ∃ c0, l[k]? = some c0 ∧ c = wrd c0 := by
  rw [List.getElem?_map] at h
  cases e : l[k]? with
  | none => rw [e] at h; simp at h
  | some c0 => rw [e] at h; exact ⟨c0, rfl, (Option.some.inj h).symm⟩
theorem tSolve_tm (hp : OkP p) (hm : Lms p) (hd : p.Different.length ≤ 98) (hn : p.Min.length ≤ 19) :
    Tm (fun N => tSolve N p) (fun r => (r.2 = true → sat p r.1 = true) ∧ (r.2 = false → r.1 = [] ∧ ∀ x, sat p x = false)) := by
  unfold tSolve
  refine (tgathered_tm hp hm).bind fun r6 h6 => ?_
  obtain ⟨l, num, ok⟩ := r6
  obtain ⟨L, hL, hF, e1, hG, hA, hno⟩ := h6
  dsimp only at e1 hG hA hno ⊢
  subst e1
  have hlen := hG.len
  have hmm := rk_le' (L := L)
  have hll := hL.len
  cases ok with
  | false =>
    refine Tm.pos rfl (Tm.some ⟨fun h => by simp at h, fun _ => ⟨rfl, fun x => ?_⟩⟩)
    cases hs : sat p x with
    | false => rfl
    | true =>
      obtain ⟨e, he, hce⟩ := hno rfl
      obtain ⟨f, hW, _⟩ := sat_split hp hm hL hF hG hs
      exact absurd (by rw [hce]) (hW.df e he)
  | true =>
    have hA := hA rfl
    refine Tm.neg (by simp) ((tSolve_b1_tm hp hm hd hL hG hA).bind fun o ho => ?_)
    cases o with
    | inr z =>
      obtain ⟨rfl, k, c, ec, hz⟩ := ho
      refine Tm.some ⟨fun h => by simp at h, fun _ => ⟨rfl, fun x => ?_⟩⟩
      cases hs : sat p x with
      | false => rfl
      | true =>
        obtain ⟨f, hW, _⟩ := sat_split hp hm hL hF hG hs
        have := hW.mem k c ec
        rw [hz] at this; cases this
    | inl l' =>
      have ho : l' = l.map wrd := ho
      have hadj0 := ap_adj hp hL hF hG hA
      have hl' : l'.length = l.length := by rw [ho, List.length_map]
      have hadj : Adj l' := by
        subst ho
        refine ⟨fun k c ec o ho => ?_, fun k c q d ec ed hq => ?_⟩
        · obtain ⟨c0, e0, rfl⟩ := wrd_get ec
          rw [List.length_map]; exact hadj0.lt k c0 e0 o ho
        · obtain ⟨c0, e0, rfl⟩ := wrd_get ec
          obtain ⟨d0, e0', rfl⟩ := wrd_get ed
          exact hadj0.symm k c0 q d0 e0 e0' hq
      have hcs : ∀ c ∈ l', c.words.length ≤ 1000 ∧ c.apart.length ≤ 1000 := by
        intro c hc
        obtain ⟨k, hk, e⟩ := List.getElem_of_mem hc
        have ek : l'[k]? = some c := by rw [List.getElem?_eq_getElem hk, e]
        subst ho
        obtain ⟨c0, e0, rfl⟩ := wrd_get ek
        have := hA.le k c0 e0
        refine ⟨?_, by show c0.apart.length ≤ _; omega⟩
        show ((allw c0).take (c0.apart.length + 1)).length ≤ _
        rw [List.length_take]; omega
      dsimp only
      rw [mk1_ok (n := l'.length) rfl (by omega) (by decide)]
      simp only [Option.bind_some]
      rw [mk1_ok (n := l'.length) rfl (by omega) (by decide)]
      simp only [Option.bind_some]
      refine (tSolve_b2_tm (by omega) (by simp)).bind fun lf hlf => ?_
      refine (tSolve_b3_tm hadj (by omega) hcs hlf).bind fun r hr => ?_
      obtain ⟨last, rm⟩ := r
      obtain ⟨ns, hgr⟩ := hr
      dsimp only at hgr ⊢
      refine (tSolve_b6_tm (by omega) hgr.len).eq ?_
      have hhl : (nI ((List.range l'.length).filter fun k => decide (rm[k]? ≠ some true))).length ≤ l'.length := by
        unfold nI
        rw [List.length_map]
        have := List.length_filter_le (fun k => decide (rm[k]? ≠ some true)) (List.range l'.length)
        simpa using this
      have hmemh : ∀ x ∈ nI ((List.range l'.length).filter fun k => decide (rm[k]? ≠ some true)), ∃ q : Nat, x = (q : Int) ∧ q < l'.length := by
        intro x hx
        unfold nI at hx
        obtain ⟨q, hq, rfl⟩ := List.mem_map.1 hx
        exact ⟨q, rfl, List.mem_range.1 (List.mem_filter.1 hq).1⟩
      refine (sortStable_tm (cmp := fun N y z => tSolve1 N y z l') (by omega) fun x hx y hy => ?_).bind fun so hso => ?_
      · obtain ⟨a, rfl, ha⟩ := hmemh x hx
        obtain ⟨b, rfl, hb⟩ := hmemh y hy
        exact tSolve1_tm ha hb
      have hlastl : last.length ≤ l'.length := by
        rw [hgr.e]; unfold nI
        rw [List.length_map]; exact nodup_bound hgr.nd hgr.lt
      refine (revInt_tm (by omega)).bind fun rv hrv => ?_
      have hsol := hso.length_eq
      have hrvl := hrv.length_eq
      rw [apnd_ok (by omega) (by decide)]
      simp only [Option.bind_some]
      have hperm : (so ++ rv).Perm (nI (((List.range l'.length).filter fun k => decide (rm[k]? ≠ some true)) ++ ns)) := by
        have := hso.append hrv
        rw [hgr.e] at this
        unfold nI at this ⊢
        rw [List.map_append]; exact this
      obtain ⟨os, eos, hos⟩ := nI_perm hperm
      rw [eos]
      have hmem : ∀ k, k ∈ os ↔ k < l'.length := by
        intro k
        rw [hos.mem_iff, List.mem_append, List.mem_filter, List.mem_range]
        constructor
        · rintro (h | h)
          · exact h.1
          · exact hgr.lt k h
        · intro h
          by_cases g : rm[k]? = some true
          · exact .inr ((hgr.iff k h).1 g)
          · exact .inl ⟨h, decide_eq_true g⟩
      have hnd : os.Nodup := by
        rw [hos.nodup_iff, List.nodup_append]
        refine ⟨List.nodup_range.sublist List.filter_sublist, hgr.nd, fun a ha b hb => ?_⟩
        rintro rfl
        have := of_decide_eq_true (List.mem_filter.1 ha).2
        exact this ((hgr.iff a (hgr.lt a hb)).2 hb)
      have hosl : os.length ≤ 1000 := by
        have := nodup_bound hnd fun k hk => (hmem k).1 hk
        omega
      rw [mk1_ok (n := l'.length) rfl (by omega) (by decide)]
      simp only [Option.bind_some]
      refine (tchoose_tm hadj (by omega) hcs os (List.replicate l'.length []) (List.replicate l'.length false) hnd (fun k hk => ⟨(hmem k).1 hk, by rw [List.getElem?_replicate, if_pos ((hmem k).1 hk)]⟩) (by simp) (by simp) hosl).bind fun r hr => ?_
      · obtain ⟨al, okk, rw', rk'⟩ := r
        dsimp only
        have hDR : ∀ k q, Df p L p.Different.length k q → k < l.length ∧ ∃ c, l[k]? = some c ∧ (q : Int) ∈ c.apart := by
          intro k q h
          have h' := h.symm
          obtain ⟨e, he, g⟩ := h
          rw [List.take_length] at he
          have hve := hp.df e he
          have hkl : k < l.length := by
            rw [hlen]
            rcases g with ⟨g, _⟩ | ⟨g, _⟩
            · subst g; exact cls_lt hL hF (by omega)
            · subst g; exact cls_lt hL hF (by omega)
          exact ⟨hkl, _, List.getElem?_eq_getElem hkl, (hA.mem k _ (List.getElem?_eq_getElem hkl) _).2 ⟨q, rfl, h'.symm⟩⟩
        cases okk with
        | false =>
          refine Tm.pos rfl (Tm.some ⟨fun h => by simp at h, fun _ => ⟨rfl, fun x => ?_⟩⟩)
          cases hs : sat p x with
          | false => rfl
          | true =>
            exfalso
            obtain ⟨f, hW, _⟩ := sat_split hp hm hL hF hG hs
            obtain ⟨_, hnoext⟩ := hr.no rfl
            obtain ⟨g, hg1, hg2⟩ := trunc (m := l.length) (D := fun k => match l[k]? with | some c => allw c | none => []) (nb := fun k => match l[k]? with | some c => c.apart.map Int.toNat | none => []) (t := fun k => match l[k]? with | some c => c.apart.length + 1 | none => 1) (R := fun x y => Df p L p.Different.length x y)
              (fun k => by
                try dsimp only
                cases l[k]? with
                | none => exact List.nodup_nil
                | some c => exact allw_nodup)
              (fun k hk => by
                try dsimp only
                rw [List.getElem?_eq_getElem hk]
                simp)
              (fun x y hxy => by
                obtain ⟨h1, c, h2, h3⟩ := hDR x y hxy
                refine ⟨?_, hxy.symm, ?_⟩
                · try dsimp only
                  rw [h2]
                  exact List.mem_map.2 ⟨_, h3, rfl⟩
                · obtain ⟨q, e, _, h4⟩ := hadj0.lt x c h2 _ h3
                  omega)
              (f := f)
              (fun k hk => by
                try dsimp only
                rw [List.getElem?_eq_getElem hk]
                exact hW.mem k _ (List.getElem?_eq_getElem hk))
              (fun x y hxy => by
                obtain ⟨e, he, h⟩ := hxy
                rw [List.take_length] at he
                have := hW.df e he
                rcases h with ⟨h1, h2⟩ | ⟨h1, h2⟩
                · rw [← h1, ← h2]; exact this
                · rw [← h1, ← h2]; exact fun e => this e.symm)
            refine hnoext g fun k hk => ?_
            have hkl : k < l.length := by rw [← hl']; exact (hmem k).1 hk
            have ek : l[k]? = some l[k] := List.getElem?_eq_getElem hkl
            refine ⟨wrd l[k], by rw [ho, List.getElem?_map, ek]; rfl, ?_, fun q hq => ⟨fun _ => ?_, fun hkn => ?_⟩⟩
            · have := hg1 k hkl
              try dsimp only at this
              rw [ek] at this
              exact this
            · have hq : (q : Int) ∈ l[k].apart := hq
              obtain ⟨q', e, hdf⟩ := (hA.mem k _ ek _).1 hq
              have : q = q' := by omega
              subst this
              exact hg2 k q hdf
            · rw [List.getElem?_replicate] at hkn
              by_cases hql : q < l'.length
              · rw [if_pos hql] at hkn; simp at hkn
              · rw [if_neg hql] at hkn; simp at hkn
        | true =>
          obtain ⟨y1, y2⟩ := hr.yes rfl
          dsimp only at y1 y2
          subst y1
          refine Tm.neg (by simp) (Tm.step (chk_ok rfl) ?_)
          rw [mk1_ok (n := (numOf L).length) rfl (by rw [num_len]; omega) (by decide)]
          simp only [Option.bind_some]
          have hY : ∀ k, k < l.length → ∃ c w, l[k]? = some c ∧ rw'[k]? = some w ∧ w ∈ allw c ∧ ∀ q : Nat, (q : Int) ∈ c.apart → q < l.length → rw'[q]? ≠ some w := by
            intro k hk
            obtain ⟨c, w, ec, ew, hw, hq⟩ := y2 k ((hmem k).2 (by omega))
            rw [ho] at ec
            obtain ⟨c0, e0, rfl⟩ := wrd_get ec
            exact ⟨c0, w, e0, ew, List.mem_of_mem_take hw, fun q h1 h2 => hq q h1 (.inl ((hmem q).2 (by omega)))⟩
          have hfget : ∀ k, k < rk L L.length → rw'[k]? = some (rw'.getD k []) := by
            intro k hk
            obtain ⟨c, w, _, ew, _⟩ := hY k (by omega)
            rw [List.getD_eq_getElem?_getD, ew]; rfl
          refine (tSolve_b7_tm hp hL hF (z := (true, true, rw', rk')) (f := fun k => rw'.getD k []) hfget).bind fun out hout => ?_
          refine Tm.some ⟨fun _ => ?_, fun h => by simp at h⟩
          refine sat_join hp hm hL hF hG (f := fun k => rw'.getD k []) ⟨fun k c ec => ?_, fun e he => ?_⟩ hout.1 hout.2
          · have hk : k < l.length := (List.getElem?_eq_some_iff.1 ec).1
            obtain ⟨c', w, ec', ew, hw, _⟩ := hY k hk
            rw [ec] at ec'
            have : c = c' := Option.some.inj ec'
            subst this
            try dsimp only
            rw [List.getD_eq_getElem?_getD, ew]; exact hw
          · have hve := hp.df e he
            obtain ⟨hk, c, ec, hq⟩ := hDR (cls L e.e0.toNat) (cls L e.e1.toNat) ⟨e, by rw [List.take_length]; exact he, .inl ⟨rfl, rfl⟩⟩
            obtain ⟨c', w, ec', ew, hw, hne⟩ := hY _ hk
            rw [ec] at ec'
            have : c = c' := Option.some.inj ec'
            subst this
            have hcl := cls_lt hL hF (show e.e1.toNat < p.Min.length by omega)
            have h1 := hne _ hq (by omega)
            have h2 := hfget _ hcl
            try dsimp only
            intro h3
            apply h1
            rw [h2, ← h3, List.getD_eq_getElem?_getD, ew]; rfl
end
end Go.D
set_option linter.unusedSimpArgs false
set_option linter.unusedVariables false
set_option maxRecDepth 100000
namespace Go.D
open Go Go.X
mutual
def bkP : Proof → Nat
  | ⟨steps, _, _, children⟩ => steps.length + bkPs children + 1
def bkPs : List Proof → Nat
  | [] => 0
  | c :: r => bkP c + bkPs r
end
theorem bkP_eq (p : Proof) : bkP p = p.Steps.length + bkPs p.Children + 1 := by cases p; simp [bkP]
mutual
def bkR : Refut → Nat
  | ⟨_, _, _, p, children⟩ => bkP p + bkRs children + 1
def bkRs : List Refut → Nat
  | [] => 0
  | c :: r => bkR c + bkRs r
end
theorem bkR_eq (p : Refut) : bkR p = bkP p.Proof + bkRs p.Children + 1 := by cases p; simp [bkR]
inductive InPt : Proof → Prop
  | mk {p : Proof} (h1 : ∀ s ∈ p.Steps, s.Uses.length ≤ 9223372036854775807) (h2 : p.Form.length ≤ 9223372036854775807) (h3 : p.Steps.length ≤ 9223372036854775807) (h5 : p.Children.length ≤ 9223372036854775807) (h6 : ∀ c ∈ p.Children, InPt c) : InPt p
inductive InR : Refut → Prop
  | mk {r : Refut} (h1 : I64 r.Var) (h2 : I64 r.At) (h3 : InPt r.Proof) (h4 : r.Children.length ≤ 9223372036854775807) (h5 : ∀ c ∈ r.Children, InR c) : InR r
theorem nx {k n : Nat} (h : k < n) (hn : n ≤ 9223372036854775807) : iw ((k : Int) + 1) = ((k + 1 : Nat) : Int) := by rw [iw_eq] <;> omega
theorem Tm.over {σ ρ : Type} {body : Nat → σ → Option (Stp σ ρ)} (n : Nat) (ix : σ → Int) (I : σ → Prop) {Q : ρ → Prop} {s0 : σ} (h0 : ∃ k : Nat, ix s0 = k) (hI : I s0)
    (h : ∀ s (k : Nat), ix s = k → I s → Tm (fun N => body N s) (fun t => match t with | .next s' => k < n ∧ ix s' = ((k + 1 : Nat) : Int) ∧ I s' | .done r => Q r)) : Tm (fun N => loopM (body N) N s0) Q := by
  refine Tm.loop (fun s => (∃ k : Nat, ix s = k) ∧ I s) (fun s => n - (ix s).toNat) ⟨h0, hI⟩ ?_
  rintro s ⟨⟨k, hk⟩, hs⟩
  refine (h s k hk hs).mono fun t ht => ?_
  cases t with
  | next s' => exact ⟨⟨⟨k + 1, ht.2.1⟩, ht.2.2⟩, by dsimp only; rw [ht.2.1, hk]; have := ht.1; omega⟩
  | done r => exact ht
theorem rbigs_end {l : List Big} (h : l.length ≤ 9223372036854775807) : Tm (fun N => rbigs N l) (fun _ => True) := by
  unfold rbigs
  refine Tm.bind (Tm.over l.length (fun s : Int => s) (fun _ => True) (Q := fun _ => True) ⟨0, rfl⟩ trivial ?_) (fun t _ => ?_)
  · rintro _ k rfl -
    dsimp only [rbigs_b1]
    refine Tm.ite (fun h => ?_) (fun h => Tm.pure trivial)
    have hk : k < l.length := by omega
    exact Tm.step (idx_ok hk) (Tm.ite (fun _ => Tm.pure trivial) (fun _ => Tm.pure ⟨hk, nx hk ‹_›, trivial⟩))
  · rcases t with _ | _ <;> exact Tm.pure trivial
theorem rSmallStep_end {s : Step} (h : s.Uses.length ≤ 9223372036854775807) : Tm (fun N => rSmallStep N s) (fun _ => True) := by
  unfold rSmallStep
  refine Tm.bind (Tm.over s.Uses.length (fun s : Int => s) (fun _ => True) (Q := fun _ => True) ⟨0, rfl⟩ trivial ?_) (fun t _ => ?_)
  · rintro _ k rfl -
    dsimp only [rSmallStep_b1]
    refine Tm.ite (fun h => ?_) (fun h => Tm.pure trivial)
    have hk : k < s.Uses.length := by omega
    exact Tm.step (idx_ok hk) (Tm.ite (fun _ => Tm.pure trivial) (fun _ => Tm.pure ⟨hk, nx hk ‹_›, trivial⟩))
  · rcases t with _ | _
    · exact Tm.ite (fun _ => Tm.pure trivial) (fun _ => Tm.pure trivial)
    · exact Tm.pure trivial
theorem rweight_end {p : Proof} (h : InPt p) : Tm (fun N => rweight N p) (fun _ => True) := by
  induction h with
  | @mk p h1 h2 h3 h5 h6 ih =>
    refine Tm.succ ?_
    show Tm (fun N => rweight_step N (rweight N) p) _
    unfold rweight_step
    refine Tm.bind (Q := fun _ => True) ((rbigs_end h2).bind fun _ _ => Tm.ite (fun _ => Tm.pure trivial) (fun _ => Tm.pure trivial)) fun x _ => ?_
    refine Tm.ite (fun _ => Tm.pure trivial) (fun _ => ?_)
    refine Tm.bind (Tm.over p.Steps.length (fun s : Int => s) (fun _ => True) (Q := fun _ => True) ⟨0, rfl⟩ trivial ?_) (fun t _ => ?_)
    · rintro _ k rfl -
      dsimp only [rweight_b1]
      refine Tm.bind (Q := fun b => b = true → k < p.Steps.length) (Tm.ite (fun h => Tm.pure (fun _ => by omega)) (fun h => Tm.pure (fun h => by cases h))) fun b hb => ?_
      refine Tm.ite (fun h => ?_) (fun h => Tm.pure trivial)
      have hk := hb h
      exact Tm.step (idx_ok hk) ((rSmallStep_end (h1 _ (List.getElem_mem hk))).bind fun _ _ => Tm.ite (fun _ => Tm.pure trivial) (fun _ => Tm.pure ⟨hk, nx hk h3, trivial⟩))
    · rcases t with _ | _
      · refine Tm.bind (Tm.over p.Children.length (fun s : Int × Int => s.2) (fun _ => True) (Q := fun _ => True) ⟨0, rfl⟩ trivial ?_) (fun t _ => Tm.pure trivial)
        rintro ⟨m, kk⟩ k rfl -
        dsimp only [rweight_b2]
        refine Tm.bind (Q := fun b => b = true → k < p.Children.length) (Tm.ite (fun h => Tm.pure (fun _ => by omega)) (fun h => Tm.pure (fun h => by cases h))) fun b hb => ?_
        refine Tm.ite (fun h => ?_) (fun h => Tm.pure trivial)
        have hk := hb h
        exact Tm.step (idx_ok hk) ((ih _ (List.getElem_mem hk)).bind fun _ _ => Tm.pure ⟨hk, nx hk h5, trivial⟩)
      · exact Tm.pure trivial
theorem wparts_end {r : Refut} (h : InR r) : Tm (fun N => wparts N r) (fun _ => True) := by
  induction h with
  | @mk r h1 h2 h3 h4 h5 ih =>
    refine Tm.succ ?_
    show Tm (fun N => wparts_step N (wparts N) r) _
    unfold wparts_step
    refine Tm.bind (Q := fun _ => True) ((rweight_end h3).bind fun _ _ => Tm.pure trivial) fun b _ => ?_
    refine Tm.ite (fun _ => Tm.pure trivial) (fun _ => ?_)
    refine Tm.bind (Tm.over r.Children.length (fun s : Int × Int => s.2) (fun _ => True) (Q := fun _ => True) ⟨0, rfl⟩ trivial ?_) (fun t _ => Tm.pure trivial)
    rintro ⟨m, kk⟩ k rfl -
    dsimp only [wparts_b1]
    refine Tm.bind (Q := fun b => b = true → k < r.Children.length) (Tm.ite (fun h => Tm.pure (fun _ => by omega)) (fun h => Tm.pure (fun h => by cases h))) fun b hb => ?_
    refine Tm.ite (fun h => ?_) (fun h => Tm.pure trivial)
    have hk := hb h
    exact Tm.step (idx_ok hk) ((ih _ (List.getElem_mem hk)).bind fun _ _ => Tm.pure ⟨hk, nx hk h4, trivial⟩)
theorem wSmall_end {r : Refut} (h : InR r) : Tm (fun N => wSmall N r) (fun _ => True) := (wparts_end h).bind fun _ _ => Tm.pure trivial
end Go.D
set_option linter.unusedSimpArgs false
set_option linter.unusedVariables false
namespace Go.D
open Go Go.X
section
variable {l : List RVar} {c : RClause} {rg rg' : List Arr2Int} {r : Refut}
theorem tm_det {α : Type} {f : Nat → Option α} {Q : α → Prop} {a : α} (h : Tm f Q) (h' : Tm f (· = a)) : Q a := by
  obtain ⟨x, n, hx, h1⟩ := h
  obtain ⟨y, m, hy, h2⟩ := h'
  have e1 := h1 (max n m) (Nat.le_max_left _ _)
  have e2 := h2 (max n m) (Nat.le_max_right _ _)
  rw [e1] at e2
  cases e2; subst hy; exact hx
def rg0 (l : List RVar) : List Arr2Int := l.map fun x => Arr2Int.mk 0 (if x.Ty = 2 then x.Max else 0)
theorem rg0_len : (rg0 l).length = l.length := by simp [rg0]
theorem rg0_get {k : Nat} (h : k < l.length) : (rg0 l)[k]'(by rw [rg0_len]; exact h) = Arr2Int.mk 0 (if l[k].Ty = 2 then l[k].Max else 0) := by simp [rg0]
theorem wRanges_tm (h : l.length ≤ 1048576) : Tm (fun N => wRanges N l) (· = rg0 l) := by
  unfold wRanges
  refine Tm.eq (a := rg0 l) ?_ (Tm.some rfl)
  refine Tm.up l.length (fun k s => s.2 = (k : Int) ∧ s.1 = (rg0 l).take k) ⟨rfl, rfl⟩ ?_
  rintro k hk ⟨s, i⟩ ⟨hi, hs⟩
  dsimp only at hi hs; subst hi; subst hs
  unfold wRanges_b1
  rcases Nat.lt_or_ge k l.length with hlt | hge
  · refine Tm.pos (by omega) (Tm.step (idx_n hlt) ?_)
    refine Tm.bind (Q := (· = (rg0 l)[k]'(by rw [rg0_len]; exact hlt))) ?_ fun a ha => ?_
    · rw [rg0_get hlt]
      by_cases h2 : l[k].Ty = 2
      · refine Tm.pos h2 (Tm.step (idx_n hlt) (Tm.some ?_)); rw [if_pos h2]
      · refine Tm.neg h2 (Tm.some ?_); rw [if_neg h2]
    · subst ha
      dsimp only
      rw [apnd_ok (by simp [rg0_len]; omega) (by decide)]
      refine Tm.some ⟨hlt, iw_n (by omega), ?_⟩
      exact List.take_append_getElem (by rw [rg0_len]; exact hlt)
  · refine Tm.neg (by omega) (Tm.some ?_)
    show _ = _
    rw [List.take_of_length_le (by rw [rg0_len]; omega)]
theorem vfirst_tm (h : l.length ≤ 1048576) : Tm (fun N => vfirst N l) (· = rg0 l) := by
  unfold vfirst
  rw [mk1_ok (n := l.length) rfl (by omega) (by decide)]
  simp only [Option.bind_some]
  refine Tm.eq (a := rg0 l) ?_ (Tm.some rfl)
  refine Tm.up l.length (fun k s => s.2 = (k : Int) ∧ s.1.length = l.length ∧ ∀ j, j < l.length → s.1[j]? = some (if j < k then (rg0 l).getD j (Arr2Int.mk 0 0) else Arr2Int.mk 0 0)) ⟨rfl, by simp, fun j hj => by simp [hj]⟩ ?_
  rintro k hk ⟨s, i⟩ ⟨hi, hsl, hs⟩
  dsimp only at hi hsl hs; subst hi
  unfold vfirst_b1
  dsimp only
  have hg : ∀ j (hj : j < l.length), (rg0 l).getD j (Arr2Int.mk 0 0) = Arr2Int.mk 0 (if l[j].Ty = 2 then l[j].Max else 0) := fun j hj => by
    rw [getD_n (by rw [rg0_len]; exact hj), rg0_get hj]
  rcases Nat.lt_or_ge k l.length with hlt | hge
  · refine Tm.pos (by omega) (Tm.step (idx_n hlt) ?_)
    have hkk := hs k hlt
    rw [if_neg (by omega)] at hkk
    by_cases h2 : l[k].Ty = 2
    · refine Tm.pos h2 (Tm.step (idx_get hkk) ?_)
      rw [upd1_i (n := k) rfl (by omega)]
      refine Tm.some ⟨hlt, iw_n (by omega), by rw [List.length_set]; exact hsl, fun j hj => ?_⟩
      rw [List.getElem?_set]
      by_cases e : k = j
      · subst e
        rw [if_pos rfl, if_pos (by omega), if_pos (by omega), hg k hlt, if_pos h2]
      · rw [if_neg e, hs j hj]
        by_cases g : j < k
        · rw [if_pos g, if_pos (by omega)]
        · rw [if_neg g, if_neg (by omega)]
    · refine Tm.neg h2 (Tm.some ⟨hlt, iw_n (by omega), hsl, fun j hj => ?_⟩)
      rw [hs j hj]
      by_cases e : j = k
      · subst e
        rw [if_neg (by omega), if_pos (by omega), hg j hlt, if_neg h2]
      · by_cases g : j < k
        · rw [if_pos g, if_pos (by omega)]
        · rw [if_neg g, if_neg (by omega)]
  · refine Tm.neg (by omega) (Tm.some ?_)
    show s = rg0 l
    apply List.ext_getElem?
    intro j
    rcases Nat.lt_or_ge j l.length with hj | hj
    · rw [hs j hj, if_pos (by omega), List.getElem?_eq_getElem (by rw [rg0_len]; exact hj), getD_n (by rw [rg0_len]; exact hj)]
    · rw [List.getElem?_eq_none (by omega), List.getElem?_eq_none (by rw [rg0_len]; omega)]
theorem wShort_end (h : l.length ≤ 1048576) : Tm (fun N => wShort N l c) (fun _ => True) := by
  unfold wShort
  refine Tm.bind (Q := fun _ => True) ?_ fun o _ => ?_
  · refine Tm.up l.length (fun k s => s.2 = (k : Int)) rfl ?_
    rintro k hk ⟨n, i⟩ hi
    dsimp only at hi; subst hi
    unfold wShort_b1
    dsimp only
    rcases Nat.lt_or_ge k l.length with hlt | hge
    · refine Tm.pos (by omega) (Tm.step (idx_n hlt) ?_)
      refine Tm.ite (fun _ => Tm.step (idx_n hlt) (Tm.ite (fun _ => Tm.some trivial) (fun _ => Tm.some ⟨hlt, iw_n (by omega)⟩))) (fun _ => Tm.some ⟨hlt, iw_n (by omega)⟩)
    · exact Tm.neg (by omega) (Tm.some trivial)
  · cases o with
    | inl n => exact Tm.ite (fun _ => Tm.some trivial) (fun _ => Tm.some trivial)
    | inr z => exact Tm.some trivial
def nulB (l : List RVar) (v : Int) : Bool := match l[v.toNat]? with
  | some x => x.Nullable
  | none => false
def nul (c : RClause) (l : List RVar) (v : Int) : Bool := decide (v ∈ c.Null) && (decide (v ∈ c.NotNull) || !nulB l v)
theorem vcheck0 (hk : r.Kind = 0) (hv : ClOk c l) (hl : l.length ≤ 10) : Tm (fun N => vcheck N l c r rg) (· = nul c l r.Var) := by
  have hb : Bg = 9223372036854775807 := rfl
  have n1 := hv.nl.len; have n2 := hv.nn.len
  refine Tm.succ ?_
  show Tm (fun N => vcheck_step N (vcheck N) l c r rg) _
  unfold vcheck_step nul
  refine Tm.pos hk ((containsOf_tm (by omega)).eq ?_)
  by_cases h1 : r.Var ∈ c.Null
  · rw [decide_eq_true h1]
    refine Tm.pos rfl ((containsOf_tm (by omega)).eq ?_)
    by_cases h2 : r.Var ∈ c.NotNull
    · rw [decide_eq_true h2]; exact Tm.pos rfl (Tm.some rfl)
    · rw [decide_eq_false h2]
      obtain ⟨k, e, hk⟩ := var_n (hv.nl.bd _ h1)
      refine Tm.neg (by simp) ?_
      rw [e]
      refine Tm.step (idx_n hk) (Tm.some ?_)
      unfold nulB
      rw [Int.toNat_natCast, List.getElem?_eq_getElem hk]; rfl
  · rw [decide_eq_false h1]; exact Tm.neg (by simp) (Tm.some rfl)
theorem txts_lms (hd : DmOk l) (hv : ClOk c l) (hs : SmC c) : Lms (txtsOf l c rg) ∧ (txtsOf l c rg).Different.length ≤ 98 ∧ (txtsOf l c rg).Min.length ≤ 19 := by
  have hl := hd.len
  have h1 := tvs_len (l := l) (c := c)
  have h2 := hv.nn.len
  have h3 := hs.ts; have h4 := hs.sm; have h5 := hs.df
  refine ⟨⟨?_, ?_, ?_, ?_, ?_⟩, ?_, ?_⟩ <;> (show (List.map _ _).length ≤ _; rw [List.length_map]; omega)
theorem vcheck1 (hk : r.Kind = 1) (hd : DmOk l) (hv : ClOk c l) (hs : SmC c) (hr : RgOk l rg) : Tm (fun N => vcheck N l c r rg) (fun b => b = true ↔ ∀ x, sat (txtsOf l c rg) x = false) := by
  refine Tm.succ ?_
  show Tm (fun N => vcheck_step N (vcheck N) l c r rg) _
  unfold vcheck_step
  obtain ⟨g1, g2, g3⟩ := txts_lms (rg := rg) hd hv hs
  refine Tm.neg (by omega) (Tm.pos hk ((vTexts_tm hv hs hr hd.len).eq ((tSolve_tm (txts_okP hd hv hr) g1 g2 g3).bind fun z hz => Tm.some ?_)))
  cases e : z.2 with
  | true => exact ⟨fun h => by simp at h, fun h => by have := hz.1 e; rw [h] at this; cases this⟩
  | false => exact ⟨fun _ => (hz.2 e).2, fun _ => rfl⟩
theorem vcheckX (h0 : r.Kind ≠ 0) (h1 : r.Kind ≠ 1) (h2 : r.Kind ≠ 2) (h3 : r.Kind ≠ 3) : Tm (fun N => vcheck N l c r rg) (· = false) := by
  refine Tm.succ ?_
  show Tm (fun N => vcheck_step N (vcheck N) l c r rg) _
  unfold vcheck_step
  exact Tm.neg h0 (Tm.neg h1 (Tm.neg h2 (Tm.neg h3 (Tm.some rfl))))
theorem clonePair_tm {s : List Arr2Int} (h : s.length ≤ 1000) : Tm (fun N => clonePair N s) (· = s) := by
  unfold clonePair
  rw [apnd_ok (by simp; omega) (by decide)]
  exact Tm.some rfl
def shortR (rg : List Arr2Int) (k : Nat) (a : Int) : List Arr2Int := rg.set k (Arr2Int.mk (rg.getD k (Arr2Int.mk 0 0)).e0 a)
def longR (rg : List Arr2Int) (k : Nat) (a : Int) : List Arr2Int := rg.set k (Arr2Int.mk (a + 1) (rg.getD k (Arr2Int.mk 0 0)).e1)
theorem shortR_ok (hr : RgOk l rg) {k : Nat} {a : Int} (ha : 0 ≤ a ∧ a ≤ 16) : RgOk l (shortR rg k a) := by
  refine ⟨by unfold shortR; rw [List.length_set]; exact hr.len, fun r h => ?_⟩
  unfold shortR at h
  rcases Nat.lt_or_ge k rg.length with hk | hk
  · rcases List.mem_or_eq_of_mem_set h with h | h
    · exact hr.bd r h
    · rw [h, getD_n hk]
      exact ⟨(hr.bd _ (List.getElem_mem hk)).1, ha⟩
  · rw [List.set_eq_of_length_le hk] at h; exact hr.bd r h
theorem longR_ok (hr : RgOk l rg) {k : Nat} {a : Int} (ha : 0 ≤ a ∧ a < 16) : RgOk l (longR rg k a) := by
  refine ⟨by unfold longR; rw [List.length_set]; exact hr.len, fun r h => ?_⟩
  unfold longR at h
  rcases Nat.lt_or_ge k rg.length with hk | hk
  · rcases List.mem_or_eq_of_mem_set h with h | h
    · exact hr.bd r h
    · rw [h, getD_n hk]
      exact ⟨⟨by dsimp only; omega, by dsimp only; omega⟩, (hr.bd _ (List.getElem_mem hk)).2⟩
  · rw [List.set_eq_of_length_le hk] at h; exact hr.bd r h
theorem vcheck3 (hk : r.Kind = 3) {k : Nat} (hkl : k < l.length) (ev : r.Var = (k : Int)) (hm : r.Var ∈ c.NotNull) (h2 : l[k].Ty = 2) (hv : ClOk c l) (hd : DmOk l) (hr : RgOk l rg) (ha0 : (rg.getD k (Arr2Int.mk 0 0)).e0 ≤ r.At) (ha1 : r.At < (rg.getD k (Arr2Int.mk 0 0)).e1)
    {p q : Refut} (hc : r.Children = [p, q]) {b1 b2 : Bool} (hp : Tm (fun N => vcheck N l c p (shortR rg k r.At)) (· = b1)) (hq : Tm (fun N => vcheck N l c q (longR rg k r.At)) (· = b2)) : Tm (fun N => vcheck N l c r rg) (· = (b1 && b2)) := by
  have hb : Bg = 9223372036854775807 := rfl
  have n2 := hv.nn.len; have hl := hd.len
  have hrl := hr.len
  have hkr : k < rg.length := by omega
  have hbd := hr.bd _ (List.getElem_mem hkr)
  rw [getD_n hkr] at ha0 ha1
  refine Tm.succ ?_
  show Tm (fun N => vcheck_step N (vcheck N) l c r rg) _
  unfold vcheck_step
  refine Tm.neg (by omega) (Tm.neg (by omega) (Tm.neg (by omega) (Tm.pos hk ?_)))
  refine Tm.bind (Q := (· = false)) ?_ fun b hb' => ?_
  · refine (containsOf_tm (by omega)).eq ?_
    rw [decide_eq_true hm]
    refine Tm.neg (by simp) ?_
    rw [ev]
    refine Tm.step (idx_n hkl) (Tm.neg (by simp [h2]) (Tm.step (idx_n hkr) (Tm.neg (by omega) (Tm.step (idx_n hkr) (Tm.neg (by omega) (Tm.some ?_))))))
    rw [hc]; rfl
  · subst hb'
    refine Tm.neg (by simp) ((clonePair_tm (by omega)).eq ((clonePair_tm (by omega)).eq ?_))
    have e1 : iw (r.At + 1) = r.At + 1 := by rw [iw_eq] <;> omega
    rw [ev, e1]
    refine Tm.step (idx_n hkr) ?_
    rw [upd1_i (n := k) rfl hkr]
    simp only [Option.bind_some]
    refine Tm.step (idx_n hkr) ?_
    rw [upd1_i (n := k) rfl hkr]
    simp only [Option.bind_some]
    unfold shortR at hp; unfold longR at hq
    rw [getD_n hkr] at hp hq
    rw [hc]
    refine Tm.step (a := p) rfl (hp.eq ?_)
    cases b1 with
    | false => exact Tm.neg (by simp) (Tm.some rfl)
    | true => exact Tm.pos rfl (Tm.step (a := q) rfl (hq.eq (Tm.some rfl)))
theorem sat_mono (hd : DmOk l) (hv : ClOk c l) (hr : RgOk l rg) (hr' : RgOk l rg') (h : ∀ (k : Nat) (h1 : k < rg.length) (h2 : k < rg'.length), rg[k].e0 ≤ rg'[k].e0 ∧ rg'[k].e1 ≤ rg[k].e1) {x : List (List UInt8)} (hx : sat (txtsOf l c rg') x = true) : sat (txtsOf l c rg) x = true := by
  obtain ⟨g1, g2, g3⟩ := sat_iff.1 hx
  have e1 : (txtsOf l c rg').Min.length = (tvs l c).length := List.length_map _
  refine sat_iff.2 ⟨by rw [g1, e1]; exact (List.length_map _).symm, fun i hi => ?_, g3⟩
  obtain ⟨⟨h1, h2⟩, h3⟩ := g2 i hi
  have hi' : i < (tvs l c).length := by rw [← e1, ← g1]; exact hi
  obtain ⟨k, hk, ek, _⟩ := tvs_at hv (List.getElem_mem hi')
  have q0 : ∀ rg : List Arr2Int, (txtsOf l c rg).Min.getD i 0 = e0Of rg (tvs l c)[i] := fun rg => by
    show ((tvs l c).map (e0Of rg)).getD i 0 = _
    rw [getD_n (by rw [List.length_map]; exact hi'), List.getElem_map]
  have q1 : ∀ rg : List Arr2Int, (txtsOf l c rg).Max.getD i 0 = hiOf l rg (tvs l c)[i].toNat := fun rg => by
    show ((tvs l c).map fun v => hiOf l rg v.toNat).getD i 0 = _
    rw [getD_n (by rw [List.length_map]; exact hi'), List.getElem_map]
  have hk' : (tvs l c)[i].toNat = k := by rw [ek]; exact Int.toNat_natCast k
  rw [q0, ek, e0Of_at hr' hk] at h1
  rw [q1, hk', hiOf_at hr' hk] at h2
  obtain ⟨m1, m2⟩ := h k (by rw [hr.len]; exact hk) (by rw [hr'.len]; exact hk)
  refine ⟨⟨?_, ?_⟩, h3⟩
  · rw [q0, ek, e0Of_at hr hk]; omega
  · rw [q1, hk', hiOf_at hr hk]
    rcases imin_or (rg'[k]'(by rw [hr'.len]; exact hk)).e1 l[k].Max with ⟨u1, u2⟩ | ⟨u1, u2⟩ <;> rcases imin_or (rg[k]'(by rw [hr.len]; exact hk)).e1 l[k].Max with ⟨u3, u4⟩ | ⟨u3, u4⟩ <;> omega
theorem short_le {k : Nat} {a : Int} (h : a ≤ (rg.getD k (Arr2Int.mk 0 0)).e1) : ∀ (j : Nat) (h1 : j < rg.length) (h2 : j < (shortR rg k a).length), rg[j].e0 ≤ (shortR rg k a)[j].e0 ∧ (shortR rg k a)[j].e1 ≤ rg[j].e1 := by
  intro j h1 h2
  simp only [shortR, List.getElem_set]
  split
  · rename_i e; subst e
    rw [getD_n h1] at h ⊢
    exact ⟨Int.le_refl _, h⟩
  · exact ⟨Int.le_refl _, Int.le_refl _⟩
theorem long_le {k : Nat} {a : Int} (h : (rg.getD k (Arr2Int.mk 0 0)).e0 ≤ a + 1) : ∀ (j : Nat) (h1 : j < rg.length) (h2 : j < (longR rg k a).length), rg[j].e0 ≤ (longR rg k a)[j].e0 ∧ (longR rg k a)[j].e1 ≤ rg[j].e1 := by
  intro j h1 h2
  simp only [longR, List.getElem_set]
  split
  · rename_i e; subst e
    rw [getD_n h1] at h ⊢
    exact ⟨h, Int.le_refl _⟩
  · exact ⟨Int.le_refl _, Int.le_refl _⟩
theorem lawSplit_tm (hl : l.length ≤ 1048576) (h : LimX (RCase.mk l c (rg0 l) [])) (hr : InR r) : Tm (fun N => lawSplit N l c r) (· = true) := by
  unfold lawSplit
  refine (wRanges_tm hl).eq ?_
  refine Tm.bind (Q := fun b => b = false → Rgt (RCase.mk l c (rg0 l) []) ∧ r.Kind ≠ 2 ∧ r.Kind ≠ 3 ∧ Tm (fun N => vcheck N l c r (rg0 l)) (· = true)) ?_ fun b hb' => ?_
  · refine awake_tm.bind fun r1 h1 => ?_
    subst h1
    refine Tm.neg (by simp) ((wShort_end hl).bind fun r2 _ => ?_)
    cases r2 with
    | false => exact Tm.pos rfl (Tm.some fun e => by simp at e)
    | true =>
      refine Tm.neg (by simp) ((lright_tm h).bind fun r3 h3 => ?_)
      cases r3 with
      | false => exact Tm.pos rfl (Tm.some fun e => by simp at e)
      | true =>
        have hR := h3 rfl
        have hd : DmOk l := hR.d
        have hv : ClOk c l := hR.v
        have hs : SmC c := hR.s
        have hg : RgOk l (rg0 l) := hR.r
        refine Tm.neg (by simp) ((wSmall_end hr).bind fun r4 _ => ?_)
        cases r4 with
        | false => exact Tm.pos rfl (Tm.some fun e => by simp at e)
        | true =>
          refine Tm.neg (by simp) ?_
          by_cases k2 : r.Kind = 2
          · exact Tm.pos k2 (Tm.some fun e => by simp at e)
          · refine Tm.neg k2 ?_
            by_cases k3 : r.Kind = 3
            · exact Tm.pos k3 (Tm.some fun e => by simp at e)
            · refine Tm.neg k3 ?_
              have key : ∃ b, Tm (fun N => vcheck N l c r (rg0 l)) (· = b) := by
                by_cases k0 : r.Kind = 0
                · exact ⟨_, vcheck0 k0 hv hd.len⟩
                · by_cases k1 : r.Kind = 1
                  · obtain ⟨a, K, ha, hK⟩ := vcheck1 k1 hd hv hs hg
                    exact ⟨a, a, K, rfl, hK⟩
                  · exact ⟨_, vcheckX k0 k1 k2 k3⟩
              obtain ⟨b, hb⟩ := key
              unfold vCheck
              refine Tm.bind (Q := (· = b)) ((vfirst_tm hl).eq (hb.eq (Tm.some rfl))) fun b' e => Tm.some fun e' => ⟨hR, k2, k3, ?_⟩
              subst e
              cases b' with
              | false => simp at e'
              | true => exact hb
  · cases b with
    | true => exact Tm.pos rfl (awake_end rfl)
    | false =>
      obtain ⟨hR, k2, k3, hch⟩ := hb' rfl
      have hd : DmOk l := hR.d
      have hv : ClOk c l := hR.v
      have hs : SmC c := hR.s
      have hg : RgOk l (rg0 l) := hR.r
      have hll := hd.len
      have hnn := hv.nn.len
      refine Tm.neg (by simp) ?_
      refine Tm.bind (Q := fun o => o = .inl ()) ?_ fun o ho => by subst ho; exact Tm.some rfl
      refine Tm.up c.NotNull.length (fun k s => s = (k : Int)) rfl ?_
      rintro j hj _ rfl
      unfold lawSplit_b1
      dsimp only
      rcases Nat.lt_or_ge j c.NotNull.length with hlt | hge
      · refine Tm.pos (by omega) (Tm.step (idx_n hlt) ?_)
        have hmem := List.getElem_mem hlt
        obtain ⟨k, ek, hk⟩ := var_n (hv.nn.bd _ hmem)
        refine Tm.bind (Q := (· = false)) ?_ fun b hb => by subst hb; exact Tm.neg (by simp) (Tm.some ⟨hlt, iw_n (by omega)⟩)
        rw [ek]
        refine Tm.step (idx_n hk) ?_
        by_cases t2 : l[k].Ty = 2
        · refine Tm.pos t2 (Tm.step (idx_n hk) ?_)
          by_cases m0 : l[k].Max > 0
          · refine Tm.pos m0 ?_
            have hm16 : l[k].Max ≤ 16 := by
              rcases hd.ty _ (List.getElem_mem hk) with ⟨e, _⟩ | ⟨_, e⟩ <;> omega
            have hgk : (rg0 l).getD k (Arr2Int.mk 0 0) = Arr2Int.mk 0 l[k].Max := by
              rw [getD_n (by rw [rg0_len]; exact hk), rg0_get hk, if_pos t2]
            have hs1 := shortR_ok (k := k) (a := 0) hg (by omega)
            have hs2 := longR_ok (k := k) (a := 0) hg (by omega)
            have part : ∀ rg', RgOk l rg' → (∀ (j : Nat) (h1 : j < (rg0 l).length) (h2 : j < rg'.length), (rg0 l)[j].e0 ≤ rg'[j].e0 ∧ rg'[j].e1 ≤ (rg0 l)[j].e1) → Tm (fun N => vcheck N l c r rg') (· = true) := by
              intro rg' hg' hle
              by_cases k0 : r.Kind = 0
              · have := tm_det (vcheck0 (rg := rg0 l) k0 hv hll) hch
                exact (vcheck0 k0 hv hll).mono fun b hb => hb.trans this.symm
              · by_cases k1 : r.Kind = 1
                · have h1 := (tm_det (vcheck1 (rg := rg0 l) k1 hd hv hs hg) hch).1 rfl
                  refine (vcheck1 k1 hd hv hs hg').mono fun b hb => hb.2 fun x => ?_
                  cases e : sat (txtsOf l c rg') x with
                  | false => rfl
                  | true => have := sat_mono hd hv hg hg' hle e; rw [h1 x] at this; cases this
                · have := tm_det (vcheckX (l := l) (c := c) (rg := rg0 l) k0 k1 k2 k3) hch
                  cases this
            unfold vCheck
            refine Tm.bind (Q := (· = true)) ((vfirst_tm hl).eq (Tm.eq (a := true) (vcheck3 (r := Refut.mk 3 (k : Int) 0 (Proof.mk [] [] (Big.mk false []) []) [r, r]) rfl hk rfl (by show (k : Int) ∈ _; rw [← ek]; exact hmem) t2 hv hd hg (by rw [hgk]; exact Int.le_refl _) (by rw [hgk]; exact m0) rfl (part _ hs1 (short_le (by rw [hgk]; dsimp only; omega))) (part _ hs2 (long_le (by rw [hgk]; dsimp only; omega)))) (Tm.some rfl))) fun b e => by subst e; exact Tm.some rfl
          · exact Tm.neg m0 (Tm.some rfl)
        · exact Tm.neg t2 (Tm.some rfl)
      · exact Tm.neg (by omega) (Tm.some rfl)
end
end Go.D
set_option maxRecDepth 100000
set_option linter.unusedVariables false
set_option linter.unusedSimpArgs false
namespace Go.Proofs.YtcakdidcpoolcaaGreatDoor.Q25
open Go Go.ChangeShapes Go.WideShapes Go.ChangeAt Go.RowKit Go.X Go.D
section
variable {H : Type} {enc : TypeId × Value → H} {W : World}
def G3 (x : Int) : Prop := (Lit.int .i64 x).wf = true
theorem o3 : ∀ N, Opn enc Tryz.prog W N (rInt .i64) 3 G3 := fun N => Opn.int Tryz.underlying3
def G2 (x : Int) : Prop := (Lit.int .i64 x).wf = true
theorem o2 : ∀ N, Opn enc Tryz.prog W N (rInt .i64) 2 G2 := fun N => Opn.int Tryz.underlying2
def G4 (_ : Bool) : Prop := True
theorem o4 : ∀ N, Opn enc Tryz.prog W N rBool 4 G4 := fun N => Opn.bool Tryz.underlying4
def G83 (x : RVar) : Prop := G3 x.Ty ∧ G2 x.Low ∧ G2 x.High ∧ G3 x.Max ∧ G4 x.Nullable ∧ True
theorem o83 : ∀ N, Opn enc Tryz.prog W N rRVar 83 G83 := by
  intro N fuel hf cs x h
  obtain ⟨hl, n, hn, hfs⟩ := trod_fields Tryz.underlying83 h
  have hl : cs.length = 5 := hl
  match cs, hl with
  | [c0, c1, c2, c3, c4], _ =>
    obtain ⟨y0, h0⟩ := hfs 0 _ rfl
    obtain ⟨a0, r0, g0⟩ := o3 n n (Nat.le_refl _) _ _ h0
    have r0 : (rInt .i64).R (HW W) [c0] a0 := r0
    have r0 : [c0] = [.int .i64 a0] := r0
    cases r0
    obtain ⟨y1, h1⟩ := hfs 1 _ rfl
    obtain ⟨a1, r1, g1⟩ := o2 n n (Nat.le_refl _) _ _ h1
    have r1 : (rInt .i64).R (HW W) [c1] a1 := r1
    have r1 : [c1] = [.int .i64 a1] := r1
    cases r1
    obtain ⟨y2, h2⟩ := hfs 2 _ rfl
    obtain ⟨a2, r2, g2⟩ := o2 n n (Nat.le_refl _) _ _ h2
    have r2 : (rInt .i64).R (HW W) [c2] a2 := r2
    have r2 : [c2] = [.int .i64 a2] := r2
    cases r2
    obtain ⟨y3, h3⟩ := hfs 3 _ rfl
    obtain ⟨a3, r3, g3⟩ := o3 n n (Nat.le_refl _) _ _ h3
    have r3 : (rInt .i64).R (HW W) [c3] a3 := r3
    have r3 : [c3] = [.int .i64 a3] := r3
    cases r3
    obtain ⟨y4, h4⟩ := hfs 4 _ rfl
    obtain ⟨a4, r4, g4⟩ := o4 n n (Nat.le_refl _) _ _ h4
    have r4 : rBool.R (HW W) [c4] a4 := r4
    have r4 : [c4] = [.bool a4] := r4
    cases r4
    exact ⟨⟨a0, a1, a2, a3, a4⟩, ⟨rfl, trivial⟩, ⟨g0, g1, g2, g3, g4, trivial⟩⟩
def G23 (xs : (List Int)) : Prop := xs.length ≤ 9223372036854775807 ∧ ∀ x ∈ xs, G3 x
def G87 (x : Coef) : Prop := G3 x.Var ∧ G2 x.N ∧ True
theorem o87 : ∀ N, Opn enc Tryz.prog W N rCoef 87 G87 := by
  intro N fuel hf cs x h
  obtain ⟨hl, n, hn, hfs⟩ := trod_fields Tryz.underlying87 h
  have hl : cs.length = 2 := hl
  match cs, hl with
  | [c0, c1], _ =>
    obtain ⟨y0, h0⟩ := hfs 0 _ rfl
    obtain ⟨a0, r0, g0⟩ := o3 n n (Nat.le_refl _) _ _ h0
    have r0 : (rInt .i64).R (HW W) [c0] a0 := r0
    have r0 : [c0] = [.int .i64 a0] := r0
    cases r0
    obtain ⟨y1, h1⟩ := hfs 1 _ rfl
    obtain ⟨a1, r1, g1⟩ := o2 n n (Nat.le_refl _) _ _ h1
    have r1 : (rInt .i64).R (HW W) [c1] a1 := r1
    have r1 : [c1] = [.int .i64 a1] := r1
    cases r1
    exact ⟨⟨a0, a1⟩, ⟨rfl, trivial⟩, ⟨g0, g1, trivial⟩⟩
def G88 (xs : (List Coef)) : Prop := xs.length ≤ 9223372036854775807 ∧ ∀ x ∈ xs, G87 x
theorem o88 : ∀ N, Opn enc Tryz.prog W N (rSl rCoef) 88 G88 := fun N => Opn.less (Opn.slice Tryz.underlying88 (by kernel_rfl) rfl (o87 N))
def G90 (x : Linear) : Prop := G2 x.Const ∧ G88 x.Coefs ∧ True
theorem o90 : ∀ N, Opn enc Tryz.prog W N rLinear 90 G90 := by
  intro N fuel hf cs x h
  obtain ⟨hl, n, hn, hfs⟩ := trod_fields Tryz.underlying90 h
  have hl : cs.length = 2 := hl
  match cs, hl with
  | [c0, c1], _ =>
    obtain ⟨y0, h0⟩ := hfs 0 _ rfl
    obtain ⟨a0, r0, g0⟩ := o2 n n (Nat.le_refl _) _ _ h0
    have r0 : (rInt .i64).R (HW W) [c0] a0 := r0
    have r0 : [c0] = [.int .i64 a0] := r0
    cases r0
    obtain ⟨y1, h1⟩ := hfs 1 _ rfl
    obtain ⟨a1, r1, g1⟩ := o88 n n (Nat.le_refl _) _ _ h1
    have r1 : (rSl rCoef).R (HW W) [c1] a1 := r1
    obtain ⟨v1, e1, k1⟩ := r1
    cases e1
    exact ⟨⟨a0, a1⟩, ⟨_, rfl, k1, trivial⟩, ⟨g0, g1, trivial⟩⟩
def G104 (x : RAux) : Prop := G90 x.Of ∧ G2 x.By ∧ G3 x.Text ∧ True
theorem o104 : ∀ N, Opn enc Tryz.prog W N rRAux 104 G104 := by
  intro N fuel hf cs x h
  obtain ⟨hl, n, hn, hfs⟩ := trod_fields Tryz.underlying104 h
  have hl : cs.length = 4 := hl
  match cs, hl with
  | [c0, c1, c2, c3], _ =>
    obtain ⟨y0, h0⟩ := hfs 0 _ rfl
    obtain ⟨a0, r0, g0⟩ := o90 n n (Nat.le_refl _) _ _ h0
    have r0 : rLinear.R (HW W) [c0, c1] a0 := r0
    obtain ⟨v0_0, e0, k0_0, -⟩ := r0
    cases e0
    obtain ⟨y1, h1⟩ := hfs 1 _ rfl
    obtain ⟨a1, r1, g1⟩ := o2 n n (Nat.le_refl _) _ _ h1
    have r1 : (rInt .i64).R (HW W) [c2] a1 := r1
    have r1 : [c2] = [.int .i64 a1] := r1
    cases r1
    obtain ⟨y2, h2⟩ := hfs 2 _ rfl
    obtain ⟨a2, r2, g2⟩ := o3 n n (Nat.le_refl _) _ _ h2
    have r2 : (rInt .i64).R (HW W) [c3] a2 := r2
    have r2 : [c3] = [.int .i64 a2] := r2
    cases r2
    exact ⟨⟨a0, a1, a2⟩, ⟨_, rfl, k0_0, trivial⟩, ⟨g0, g1, g2, trivial⟩⟩
def G24 (xs : (List RAux)) : Prop := xs.length ≤ 9223372036854775807 ∧ ∀ x ∈ xs, G104 x
def G92 (x : Constraint) : Prop := G90 x.Linear ∧ G4 x.Equal ∧ True
theorem o92 : ∀ N, Opn enc Tryz.prog W N rConstraint 92 G92 := by
  intro N fuel hf cs x h
  obtain ⟨hl, n, hn, hfs⟩ := trod_fields Tryz.underlying92 h
  have hl : cs.length = 3 := hl
  match cs, hl with
  | [c0, c1, c2], _ =>
    obtain ⟨y0, h0⟩ := hfs 0 _ rfl
    obtain ⟨a0, r0, g0⟩ := o90 n n (Nat.le_refl _) _ _ h0
    have r0 : rLinear.R (HW W) [c0, c1] a0 := r0
    obtain ⟨v0_0, e0, k0_0, -⟩ := r0
    cases e0
    obtain ⟨y1, h1⟩ := hfs 1 _ rfl
    obtain ⟨a1, r1, g1⟩ := o4 n n (Nat.le_refl _) _ _ h1
    have r1 : rBool.R (HW W) [c2] a1 := r1
    have r1 : [c2] = [.bool a1] := r1
    cases r1
    exact ⟨⟨a0, a1⟩, ⟨_, rfl, k0_0, trivial⟩, ⟨g0, g1, trivial⟩⟩
def G25 (xs : (List Constraint)) : Prop := xs.length ≤ 9223372036854775807 ∧ ∀ x ∈ xs, G92 x
def G9 (s : List UInt8) : Prop := s.length ≤ 9223372036854775807
theorem o9 : ∀ N, Opn enc Tryz.prog W N rStr 9 G9 := fun N => Opn.strL Tryz.underlying9
def G112 (x : TTest) : Prop := G3 x.Var ∧ G3 x.Kind ∧ G4 x.Negated ∧ G9 x.Text ∧ True
theorem o112 : ∀ N, Opn enc Tryz.prog W N rTTest 112 G112 := by
  intro N fuel hf cs x h
  obtain ⟨hl, n, hn, hfs⟩ := trod_fields Tryz.underlying112 h
  have hl : cs.length = 4 := hl
  match cs, hl with
  | [c0, c1, c2, c3], _ =>
    obtain ⟨y0, h0⟩ := hfs 0 _ rfl
    obtain ⟨a0, r0, g0⟩ := o3 n n (Nat.le_refl _) _ _ h0
    have r0 : (rInt .i64).R (HW W) [c0] a0 := r0
    have r0 : [c0] = [.int .i64 a0] := r0
    cases r0
    obtain ⟨y1, h1⟩ := hfs 1 _ rfl
    obtain ⟨a1, r1, g1⟩ := o3 n n (Nat.le_refl _) _ _ h1
    have r1 : (rInt .i64).R (HW W) [c1] a1 := r1
    have r1 : [c1] = [.int .i64 a1] := r1
    cases r1
    obtain ⟨y2, h2⟩ := hfs 2 _ rfl
    obtain ⟨a2, r2, g2⟩ := o4 n n (Nat.le_refl _) _ _ h2
    have r2 : rBool.R (HW W) [c2] a2 := r2
    have r2 : [c2] = [.bool a2] := r2
    cases r2
    obtain ⟨y3, h3⟩ := hfs 3 _ rfl
    obtain ⟨a3, r3, g3⟩ := o9 n n (Nat.le_refl _) _ _ h3
    have r3 : rStr.R (HW W) [c3] a3 := r3
    have r3 : [c3] = [.string (s8 a3)] := r3
    cases r3
    exact ⟨⟨a0, a1, a2, a3⟩, ⟨rfl, trivial⟩, ⟨g0, g1, g2, g3, trivial⟩⟩
def G26 (xs : (List TTest)) : Prop := xs.length ≤ 9223372036854775807 ∧ ∀ x ∈ xs, G112 x
def G54 (x : Arr2Int) : Prop := G3 x.e0 ∧ G3 x.e1 ∧ True
theorem o54 : ∀ N, Opn enc Tryz.prog W N rArr2Int 54 G54 := by
  intro N fuel hf cs x h
  obtain ⟨hl, n, hn, hfs⟩ := trod_elems Tryz.underlying54 h
  have hl : cs.length = 2 := hl
  match cs, hl with
  | [c0, c1], _ =>
    obtain ⟨y0, h0⟩ := hfs 0 (by decide)
    obtain ⟨a0, r0, g0⟩ := o3 n n (Nat.le_refl _) _ _ h0
    have r0 : (rInt .i64).R (HW W) [c0] a0 := r0
    have r0 : [c0] = [.int .i64 a0] := r0
    cases r0
    obtain ⟨y1, h1⟩ := hfs 1 (by decide)
    obtain ⟨a1, r1, g1⟩ := o3 n n (Nat.le_refl _) _ _ h1
    have r1 : (rInt .i64).R (HW W) [c1] a1 := r1
    have r1 : [c1] = [.int .i64 a1] := r1
    cases r1
    exact ⟨⟨a0, a1⟩, ⟨rfl, trivial⟩, ⟨g0, g1, trivial⟩⟩
def G27 (xs : (List Arr2Int)) : Prop := xs.length ≤ 9223372036854775807 ∧ ∀ x ∈ xs, G54 x
def G29 (x : RClause) : Prop := G23 x.Null ∧ G23 x.NotNull ∧ G24 x.Auxiliary ∧ G25 x.Ints ∧ G26 x.Tests ∧ G27 x.Same ∧ G27 x.Different ∧ True
def G177 (x : Int) : Prop := (Lit.int .u32 x).wf = true
theorem o177 : ∀ N, Opn enc Tryz.prog W N (rInt .u32) 177 G177 := fun N => Opn.int Tryz.underlying177
def G55 (xs : (List Int)) : Prop := xs.length ≤ 9223372036854775807 ∧ ∀ x ∈ xs, G177 x
theorem o55 : ∀ N, Opn enc Tryz.prog W N (rSl (rInt .u32)) 55 G55 := fun N => Opn.less (Opn.slice Tryz.underlying55 (by kernel_rfl) rfl (o177 N))
def G57 (x : Big) : Prop := G4 x.Negative ∧ G55 x.Digits ∧ True
theorem o57 : ∀ N, Opn enc Tryz.prog W N rBig 57 G57 := by
  intro N fuel hf cs x h
  obtain ⟨hl, n, hn, hfs⟩ := trod_fields Tryz.underlying57 h
  have hl : cs.length = 2 := hl
  match cs, hl with
  | [c0, c1], _ =>
    obtain ⟨y0, h0⟩ := hfs 0 _ rfl
    obtain ⟨a0, r0, g0⟩ := o4 n n (Nat.le_refl _) _ _ h0
    have r0 : rBool.R (HW W) [c0] a0 := r0
    have r0 : [c0] = [.bool a0] := r0
    cases r0
    obtain ⟨y1, h1⟩ := hfs 1 _ rfl
    obtain ⟨a1, r1, g1⟩ := o55 n n (Nat.le_refl _) _ _ h1
    have r1 : (rSl (rInt .u32)).R (HW W) [c1] a1 := r1
    obtain ⟨v1, e1, k1⟩ := r1
    cases e1
    exact ⟨⟨a0, a1⟩, ⟨_, rfl, k1, trivial⟩, ⟨g0, g1, trivial⟩⟩
def G94 (x : Use) : Prop := G3 x.Index ∧ G57 x.N ∧ True
theorem o94 : ∀ N, Opn enc Tryz.prog W N rUse 94 G94 := by
  intro N fuel hf cs x h
  obtain ⟨hl, n, hn, hfs⟩ := trod_fields Tryz.underlying94 h
  have hl : cs.length = 3 := hl
  match cs, hl with
  | [c0, c1, c2], _ =>
    obtain ⟨y0, h0⟩ := hfs 0 _ rfl
    obtain ⟨a0, r0, g0⟩ := o3 n n (Nat.le_refl _) _ _ h0
    have r0 : (rInt .i64).R (HW W) [c0] a0 := r0
    have r0 : [c0] = [.int .i64 a0] := r0
    cases r0
    obtain ⟨y1, h1⟩ := hfs 1 _ rfl
    obtain ⟨a1, r1, g1⟩ := o57 n n (Nat.le_refl _) _ _ h1
    have r1 : rBig.R (HW W) [c1, c2] a1 := r1
    obtain ⟨v1_0, e1, k1_0, -⟩ := r1
    cases e1
    exact ⟨⟨a0, a1⟩, ⟨_, rfl, k1_0, trivial⟩, ⟨g0, g1, trivial⟩⟩
def G95 (xs : (List Use)) : Prop := xs.length ≤ 9223372036854775807 ∧ ∀ x ∈ xs, G94 x
theorem o95 : ∀ N, Opn enc Tryz.prog W N (rSl rUse) 95 G95 := fun N => Opn.less (Opn.slice Tryz.underlying95 (by kernel_rfl) rfl (o94 N))
def G97 (x : Step) : Prop := G95 x.Uses ∧ G57 x.Divisor ∧ True
theorem o97 : ∀ N, Opn enc Tryz.prog W N rStep 97 G97 := by
  intro N fuel hf cs x h
  obtain ⟨hl, n, hn, hfs⟩ := trod_fields Tryz.underlying97 h
  have hl : cs.length = 3 := hl
  match cs, hl with
  | [c0, c1, c2], _ =>
    obtain ⟨y0, h0⟩ := hfs 0 _ rfl
    obtain ⟨a0, r0, g0⟩ := o95 n n (Nat.le_refl _) _ _ h0
    have r0 : (rSl rUse).R (HW W) [c0] a0 := r0
    obtain ⟨v0, e0, k0⟩ := r0
    cases e0
    obtain ⟨y1, h1⟩ := hfs 1 _ rfl
    obtain ⟨a1, r1, g1⟩ := o57 n n (Nat.le_refl _) _ _ h1
    have r1 : rBig.R (HW W) [c1, c2] a1 := r1
    obtain ⟨v1_0, e1, k1_0, -⟩ := r1
    cases e1
    exact ⟨⟨a0, a1⟩, ⟨_, _, rfl, k0, k1_0, trivial⟩, ⟨g0, g1, trivial⟩⟩
def G51 (xs : (List Big)) : Prop := xs.length ≤ 9223372036854775807 ∧ ∀ x ∈ xs, G57 x
theorem o51 : ∀ N, Opn enc Tryz.prog W N (rSl rBig) 51 G51 := fun N => Opn.less (Opn.slice Tryz.underlying51 (by kernel_rfl) rfl (o57 N))
theorem mem_sum : ∀ {l : List Nat} {x : Nat}, x ∈ l → x ≤ l.sum
  | a :: r, x, h => by
    rw [List.sum_cons]
    rcases List.mem_cons.1 h with rfl | h
    · omega
    · have := mem_sum h; omega
theorem bk_one (d : DataW H) : 1 ≤ Rows.uptoBulk d := by
  cases d with
  | lit l => cases l <;> simp [Rows.uptoBulk]
  | _ => simp [Rows.uptoBulk]
theorem bk_all : ∀ l : List (DataW H), Rows.uptoBulkAll l = (l.map Rows.uptoBulk).sum
  | [] => rfl
  | d :: r => by simp only [Rows.uptoBulkAll, bk_all r, List.map_cons, List.sum_cons]
theorem bk_len : ∀ l : List (DataW H), l.length ≤ Rows.uptoBulkAll l
  | [] => Nat.zero_le _
  | d :: r => by have := bk_one d; have := bk_len r; simp only [Rows.uptoBulkAll, List.length_cons]; omega
theorem slT_len {α : Type} {T : α → DataW H → Prop} {xs : List α} {d : DataW H} (h : SlT T xs d) : xs.length ≤ Rows.uptoBulk d := by
  rcases h with ⟨_, rfl⟩ | ⟨es, sp, rfl, hl, _⟩
  · simp
  · have := bk_len es
    simp only [Rows.uptoBulk]; omega
theorem slT_sum {α : Type} {B : α → Nat} {xs : List α} {d : DataW H} (h : SlT (fun x y => B x ≤ Rows.uptoBulk y) xs d) : (xs.map B).sum ≤ Rows.uptoBulk d := by
  rcases h with ⟨_, rfl⟩ | ⟨es, sp, rfl, hl, hT⟩
  · simp
  · have := sum_le hl hT
    rw [← bk_all] at this
    simp only [Rows.uptoBulk]; omega
theorem bkPs_sum : ∀ l : List Proof, bkPs l = (l.map bkP).sum
  | [] => rfl
  | c :: r => by simp only [bkPs, bkPs_sum r, List.map_cons, List.sum_cons]
theorem bkRs_sum : ∀ l : List Refut, bkRs l = (l.map bkR).sum
  | [] => rfl
  | c :: r => by simp only [bkRs, bkRs_sum r, List.map_cons, List.sum_cons]
theorem bulk_at {ds : List (DataW H)} (hk : Rows.uptoSmall H ds = true) {i : Nat} {d : DataW H} (h : ds[i]? = some d) : Rows.uptoBulk d ≤ 1048576 := by
  have h1 : Rows.uptoBulkAll ds ≤ 1048576 := of_decide_eq_true hk
  rw [bk_all] at h1
  have : Rows.uptoBulk d ≤ (ds.map Rows.uptoBulk).sum := mem_sum (List.mem_map.2 ⟨_, List.mem_of_getElem? h, rfl⟩)
  omega
theorem oSteps : ∀ N, OpnT enc Tryz.prog W N (rSl rStep) 67 (fun xs => xs.length ≤ 9223372036854775807 ∧ ∀ x ∈ xs, G97 x) (SlT fun _ _ => True) := fun N => OpnT.less (OpnT.slice Tryz.underlying67 (by kernel_rfl) rfl (Opn.t (o97 N)))
theorem oProof : ∀ N, OpnT enc Tryz.prog W N rProof 70 InPt (fun p d => bkP p ≤ Rows.uptoBulk d) := by
  intro N
  induction N with
  | zero => intro fuel hf cs x h; obtain rfl : fuel = 0 := by omega
            simp [DataW.trod] at h
  | succ N ih =>
    intro fuel hf cs x h
    obtain ⟨hl, n, hn, ds, hx, hdl, hfs⟩ := trod_fieldsT Tryz.underlying70 h
    have hl : cs.length = 5 := hl
    match cs, hl with
    | [c0, c1, c2, c3, c4], _ =>
      obtain ⟨y0, h0, e0⟩ := hfs 0 _ rfl
      obtain ⟨a0, r0, g0, t0⟩ := oSteps n n (Nat.le_refl _) _ _ h0
      have r0 : (rSl rStep).R (HW W) [c0] a0 := r0
      obtain ⟨v0, q0, k0⟩ := r0
      cases q0
      obtain ⟨y1, h1, e1⟩ := hfs 1 _ rfl
      obtain ⟨a1, r1, g1⟩ := o51 n n (Nat.le_refl _) _ _ h1
      have r1 : (rSl rBig).R (HW W) [c1] a1 := r1
      obtain ⟨v1, q1, k1⟩ := r1
      cases q1
      obtain ⟨y2, h2, e2⟩ := hfs 2 _ rfl
      obtain ⟨a2, r2, g2⟩ := o57 n n (Nat.le_refl _) _ _ h2
      have r2 : rBig.R (HW W) [c2, c3] a2 := r2
      obtain ⟨v2, q2, k2, -⟩ := r2
      cases q2
      obtain ⟨y3, h3, e3⟩ := hfs 3 _ rfl
      obtain ⟨a3, r3, g3, t3⟩ := (OpnT.slice Tryz.underlying68 (by kernel_rfl) rfl ih) n (by omega) _ _ h3
      have r3 : (rSl rProof).R (HW W) [c4] a3 := r3
      obtain ⟨v3, q3, k3⟩ := r3
      cases q3
      refine ⟨⟨a0, a1, a2, a3⟩, rProof_close ⟨_, _, _, _, rfl, k0, k1, k2, k3, trivial⟩, .mk (fun s hs => (g0.2 s hs).1.1) g1.1 g0.1 g3.1 g3.2, ?_⟩
      show bkP _ ≤ Rows.uptoBulk x.1
      rw [bkP_eq, hx]
      have b0 := slT_len t0
      have b3 := slT_sum t3
      rw [← bkPs_sum] at b3
      have : Rows.uptoBulk y0.1 + Rows.uptoBulk y3.1 ≤ Rows.uptoBulkAll ds := by
        match ds, hdl with
        | [d0, d1, d2, d3], _ =>
          cases e0
          cases e3
          simp only [Rows.uptoBulkAll]; omega
      show a0.length + bkPs a3 + 1 ≤ Rows.uptoBulk (.agg ds)
      simp only [Rows.uptoBulk]; omega
theorem oRefut : ∀ N, OpnT enc Tryz.prog W N rRefut 73 InR (fun p d => bkR p ≤ Rows.uptoBulk d) := by
  intro N
  induction N with
  | zero => intro fuel hf cs x h; obtain rfl : fuel = 0 := by omega
            simp [DataW.trod] at h
  | succ N ih =>
    intro fuel hf cs x h
    obtain ⟨hl, n, hn, ds, hx, hdl, hfs⟩ := trod_fieldsT Tryz.underlying73 h
    have hl : cs.length = 9 := hl
    match cs, hl with
    | [c0, c1, c2, c3, c4, c5, c6, c7, c8], _ =>
      obtain ⟨y0, h0, e0⟩ := hfs 0 _ rfl
      obtain ⟨a0, r0, g0⟩ := o3 n n (Nat.le_refl _) _ _ h0
      have r0 : [c0] = [.int .i64 a0] := r0
      cases r0
      obtain ⟨y1, h1, e1⟩ := hfs 1 _ rfl
      obtain ⟨a1, r1, g1⟩ := o3 n n (Nat.le_refl _) _ _ h1
      have r1 : [c1] = [.int .i64 a1] := r1
      cases r1
      obtain ⟨y2, h2, e2⟩ := hfs 2 _ rfl
      obtain ⟨a2, r2, g2⟩ := o3 n n (Nat.le_refl _) _ _ h2
      have r2 : [c2] = [.int .i64 a2] := r2
      cases r2
      obtain ⟨y3, h3, e3⟩ := hfs 3 _ rfl
      obtain ⟨a3, r3, g3, t3⟩ := oProof n n (Nat.le_refl _) _ _ h3
      have r3 : rProof.R (HW W) [c3, c4, c5, c6, c7] a3 := r3
      obtain ⟨v0, v1, v2, v3, q3, k0, k1, k2, k3, -⟩ := rProof_open r3
      cases q3
      obtain ⟨y4, h4, e4⟩ := hfs 4 _ rfl
      obtain ⟨a4, r4, g4, t4⟩ := (OpnT.slice Tryz.underlying71 (by kernel_rfl) rfl ih) n (by omega) _ _ h4
      have r4 : (rSl rRefut).R (HW W) [c8] a4 := r4
      obtain ⟨v4, q4, k4⟩ := r4
      cases q4
      refine ⟨⟨a0, a1, a2, a3, a4⟩, rRefut_close ⟨_, _, _, _, _, rfl, k0, k1, k2, k3, k4, trivial⟩, .mk (bounds_i64 g1) (bounds_i64 g2) g3 g4.1 g4.2, ?_⟩
      show bkR _ ≤ Rows.uptoBulk x.1
      rw [bkR_eq, hx]
      have b4 := slT_sum t4
      rw [← bkRs_sum] at b4
      have : Rows.uptoBulk y3.1 + Rows.uptoBulk y4.1 ≤ Rows.uptoBulkAll ds := by
        match ds, hdl with
        | [d0, d1, d2, d3, d4], _ =>
          cases e3
          cases e4
          simp only [Rows.uptoBulkAll]; omega
      show bkP a3 + bkRs a4 + 1 ≤ Rows.uptoBulk (.agg ds)
      simp only [Rows.uptoBulk]; omega
theorem oCla : ∀ N, OpnT enc Tryz.prog W N rRClause 29 G29 (fun c d => c.Null.length ≤ Rows.uptoBulk d ∧ c.NotNull.length ≤ Rows.uptoBulk d ∧ c.Auxiliary.length ≤ Rows.uptoBulk d ∧ c.Ints.length ≤ Rows.uptoBulk d ∧ c.Tests.length ≤ Rows.uptoBulk d ∧ c.Same.length ≤ Rows.uptoBulk d ∧ c.Different.length ≤ Rows.uptoBulk d) := by
  intro N fuel hf cs x h
  obtain ⟨hl, n, hn, ds, hx, hdl, hfs⟩ := trod_fieldsT Tryz.underlying29 h
  have hl : cs.length = 7 := hl
  match cs, hl with
  | [c0, c1, c2, c3, c4, c5, c6], _ =>
    obtain ⟨y0, h0, e0⟩ := hfs 0 _ rfl
    obtain ⟨a0, r0, g0, t0⟩ := (OpnT.less (OpnT.slice Tryz.underlying23 (by kernel_rfl) rfl (Opn.t (o3 n)))) n (Nat.le_refl _) _ _ h0
    have r0 : (rSl (rInt .i64)).R (HW W) [c0] a0 := r0
    obtain ⟨v0, q0, k0⟩ := r0
    cases q0
    have b0 := slT_len t0
    obtain ⟨y1, h1, e1⟩ := hfs 1 _ rfl
    obtain ⟨a1, r1, g1, t1⟩ := (OpnT.less (OpnT.slice Tryz.underlying23 (by kernel_rfl) rfl (Opn.t (o3 n)))) n (Nat.le_refl _) _ _ h1
    have r1 : (rSl (rInt .i64)).R (HW W) [c1] a1 := r1
    obtain ⟨v1, q1, k1⟩ := r1
    cases q1
    have b1 := slT_len t1
    obtain ⟨y2, h2, e2⟩ := hfs 2 _ rfl
    obtain ⟨a2, r2, g2, t2⟩ := (OpnT.less (OpnT.slice Tryz.underlying24 (by kernel_rfl) rfl (Opn.t (o104 n)))) n (Nat.le_refl _) _ _ h2
    have r2 : (rSl rRAux).R (HW W) [c2] a2 := r2
    obtain ⟨v2, q2, k2⟩ := r2
    cases q2
    have b2 := slT_len t2
    obtain ⟨y3, h3, e3⟩ := hfs 3 _ rfl
    obtain ⟨a3, r3, g3, t3⟩ := (OpnT.less (OpnT.slice Tryz.underlying25 (by kernel_rfl) rfl (Opn.t (o92 n)))) n (Nat.le_refl _) _ _ h3
    have r3 : (rSl rConstraint).R (HW W) [c3] a3 := r3
    obtain ⟨v3, q3, k3⟩ := r3
    cases q3
    have b3 := slT_len t3
    obtain ⟨y4, h4, e4⟩ := hfs 4 _ rfl
    obtain ⟨a4, r4, g4, t4⟩ := (OpnT.less (OpnT.slice Tryz.underlying26 (by kernel_rfl) rfl (Opn.t (o112 n)))) n (Nat.le_refl _) _ _ h4
    have r4 : (rSl rTTest).R (HW W) [c4] a4 := r4
    obtain ⟨v4, q4, k4⟩ := r4
    cases q4
    have b4 := slT_len t4
    obtain ⟨y5, h5, e5⟩ := hfs 5 _ rfl
    obtain ⟨a5, r5, g5, t5⟩ := (OpnT.less (OpnT.slice Tryz.underlying27 (by kernel_rfl) rfl (Opn.t (o54 n)))) n (Nat.le_refl _) _ _ h5
    have r5 : (rSl rArr2Int).R (HW W) [c5] a5 := r5
    obtain ⟨v5, q5, k5⟩ := r5
    cases q5
    have b5 := slT_len t5
    obtain ⟨y6, h6, e6⟩ := hfs 6 _ rfl
    obtain ⟨a6, r6, g6, t6⟩ := (OpnT.less (OpnT.slice Tryz.underlying27 (by kernel_rfl) rfl (Opn.t (o54 n)))) n (Nat.le_refl _) _ _ h6
    have r6 : (rSl rArr2Int).R (HW W) [c6] a6 := r6
    obtain ⟨v6, q6, k6⟩ := r6
    cases q6
    have b6 := slT_len t6
    have hb : Rows.uptoBulk y0.1 ≤ Rows.uptoBulkAll ds ∧ Rows.uptoBulk y1.1 ≤ Rows.uptoBulkAll ds ∧ Rows.uptoBulk y2.1 ≤ Rows.uptoBulkAll ds ∧ Rows.uptoBulk y3.1 ≤ Rows.uptoBulkAll ds ∧ Rows.uptoBulk y4.1 ≤ Rows.uptoBulkAll ds ∧ Rows.uptoBulk y5.1 ≤ Rows.uptoBulkAll ds ∧ Rows.uptoBulk y6.1 ≤ Rows.uptoBulkAll ds := by
      match ds, hdl with
      | [d0, d1, d2, d3, d4, d5, d6], _ =>
        cases e0
        cases e1
        cases e2
        cases e3
        cases e4
        cases e5
        cases e6
        simp only [Rows.uptoBulkAll]; omega
    refine ⟨⟨a0, a1, a2, a3, a4, a5, a6⟩, rRClause_close ⟨_, _, _, _, _, _, _, rfl, k0, k1, k2, k3, k4, k5, k6, trivial⟩, ⟨g0, g1, g2, g3, g4, g5, g6, trivial⟩, ?_⟩
    have hx2 : Rows.uptoBulkAll ds ≤ Rows.uptoBulk x.1 := by
      rw [hx]; show _ ≤ Rows.uptoBulk (.agg ds); simp only [Rows.uptoBulk]; omega
    dsimp only
    exact ⟨by omega, by omega, by omega, by omega, by omega, by omega, by omega⟩
theorem oVars : ∀ N, OpnT enc Tryz.prog W N (rSl rRVar) 22 (fun xs => xs.length ≤ 9223372036854775807 ∧ ∀ x ∈ xs, G83 x) (SlT fun _ _ => True) := fun N => OpnT.less (OpnT.slice Tryz.underlying22 (by kernel_rfl) rfl (Opn.t (o83 N)))
theorem limc_of {c : RClause} (h : G29 c) : LimC c := ⟨h.1.1, h.2.1.1, fun a ha => (h.2.2.1.2 a ha).1.2.1.1, fun k hk => (h.2.2.2.1.2 k hk).1.2.1.1, fun t ht => (h.2.2.2.2.1.2 t ht).2.2.2.1⟩
theorem lwc_of {c : RClause} {d : DataW H} (hd : Rows.uptoBulk d ≤ 1048576) (h : c.Null.length ≤ Rows.uptoBulk d ∧ c.NotNull.length ≤ Rows.uptoBulk d ∧ c.Auxiliary.length ≤ Rows.uptoBulk d ∧ c.Ints.length ≤ Rows.uptoBulk d ∧ c.Tests.length ≤ Rows.uptoBulk d ∧ c.Same.length ≤ Rows.uptoBulk d ∧ c.Different.length ≤ Rows.uptoBulk d) : LwC c := by
  obtain ⟨h0, h1, h2, h3, h4, h5, h6⟩ := h
  exact ⟨by omega, by omega, by omega, by omega, by omega, by omega, by omega⟩
end
end Go.Proofs.YtcakdidcpoolcaaGreatDoor.Q25
set_option linter.unusedSimpArgs false
set_option linter.unusedVariables false
namespace Go.Proofs
open Go.Shelf
def Tryz.lays171_ren : Go.Shelf.Ren := ⟨fun | 171 => 67 | 243 => 103 | 246 => 142 | 283 => 161 | 284 => 162 | 285 => 163 | 286 => 164 | 129 => 177 | 317 => 176 | 318 => 178 | 319 => 179 | 320 => 180 | 337 => 193 | 338 => 194 | n => n, fun | 3 => 3 | 9 => 9 | 2 => 2 | 4 => 4 | 171 => 221 | 0 => 0 | 53 => 149 | 37 => 133 | 5 => 5 | 173 => 224 | 212 => 242 | 51 => 177 | 20 => 20 | 213 => 243 | 46 => 220 | 232 => 256 | 233 => 257 | n => n, fun | 17 => 0 | 18 => 1 | 19 => 2 | n => n⟩
theorem Tryz.lays171 : Go.Proofs.Lays.n171 Tryz.prog Tryz.lays171_ren := {
  mixed := by kernel_rfl
  f129 := Tryz.func177.trans (congrArg some (by kernel_rfl))
  f171 := Tryz.func67.trans (congrArg some (by kernel_rfl))
  f243 := Tryz.func103.trans (congrArg some (by kernel_rfl))
  f246 := Tryz.func142.trans (congrArg some (by kernel_rfl))
  f283 := Tryz.func161.trans (congrArg some (by kernel_rfl))
  f284 := Tryz.func162.trans (congrArg some (by kernel_rfl))
  f285 := Tryz.func163.trans (congrArg some (by kernel_rfl))
  f286 := Tryz.func164.trans (congrArg some (by kernel_rfl))
  f317 := Tryz.func176.trans (congrArg some (by kernel_rfl))
  f318 := Tryz.func178.trans (congrArg some (by kernel_rfl))
  f319 := Tryz.func179.trans (congrArg some (by kernel_rfl))
  f320 := Tryz.func180.trans (congrArg some (by kernel_rfl))
  f337 := Tryz.func193.trans (congrArg some (by kernel_rfl))
  f338 := Tryz.func194.trans (congrArg some (by kernel_rfl))
  t0 := Tryz.underlying0
  a0 := Tryz.isAgg0
  z0 := Tryz.sizeOf0
  v0 := Tryz.zeroValue0
  t2 := Tryz.underlying2
  a2 := Tryz.isAgg2
  z2 := Tryz.sizeOf2
  v2 := Tryz.zeroValue2
  t3 := Tryz.underlying3
  a3 := Tryz.isAgg3
  z3 := Tryz.sizeOf3
  v3 := Tryz.zeroValue3
  t4 := Tryz.underlying4
  a4 := Tryz.isAgg4
  z4 := Tryz.sizeOf4
  v4 := Tryz.zeroValue4
  t5 := Tryz.underlying5
  a5 := Tryz.isAgg5
  z5 := Tryz.sizeOf5
  v5 := Tryz.zeroValue5
  t9 := Tryz.underlying9
  a9 := Tryz.isAgg9
  z9 := Tryz.sizeOf9
  v9 := Tryz.zeroValue9
  t20 := Tryz.underlying20
  a20 := Tryz.isAgg20
  z20 := Tryz.sizeOf20
  v20 := Tryz.zeroValue20
  t37 := Tryz.underlying133
  a37 := Tryz.isAgg133
  z37 := Tryz.sizeOf133
  v37 := Tryz.zeroValue133
  t46 := Tryz.underlying220
  a46 := Tryz.isAgg220
  z46 := Tryz.sizeOf220
  v46 := Tryz.zeroValue220
  t51 := Tryz.underlying177
  a51 := Tryz.isAgg177
  z51 := Tryz.sizeOf177
  v51 := Tryz.zeroValue177
  t53 := Tryz.underlying149
  a53 := Tryz.isAgg149
  z53 := Tryz.sizeOf149
  v53 := Tryz.zeroValue149
  t171 := Tryz.underlying221
  a171 := Tryz.isAgg221
  z171 := Tryz.sizeOf221
  v171 := Tryz.zeroValue221
  t173 := Tryz.underlying224
  a173 := Tryz.isAgg224
  z173 := Tryz.sizeOf224
  v173 := Tryz.zeroValue224
  t212 := Tryz.underlying242
  a212 := Tryz.isAgg242
  z212 := Tryz.sizeOf242
  v212 := Tryz.zeroValue242
  t213 := Tryz.underlying243
  a213 := Tryz.isAgg243
  z213 := Tryz.sizeOf243
  t232 := Tryz.underlying256
  a232 := Tryz.isAgg256
  z232 := Tryz.sizeOf256
  v232 := Tryz.zeroValue256
  t233 := Tryz.underlying257
  a233 := Tryz.isAgg257
  z233 := Tryz.sizeOf257
  v233 := Tryz.zeroValue257
  g17 := by kernel_rfl
  g18 := by kernel_rfl
  g19 := by kernel_rfl }
open Go.RowKit Go.Sort Go.Lib in
theorem Tryz.strconv_Itoa_small (i : Nat) (hi : i < 100) (w : World) :
    Calls Tryz.prog 67 #[.int .i64 i] w fun e w' => e = .returned (.string ⟨(Lib.decDigits i).toArray⟩) ∧ w' = w := Any.strconv_Itoa_small Tryz.lays171 i hi w
end Go.Proofs
set_option linter.unusedSimpArgs false
set_option linter.unusedVariables false
namespace Go.Proofs.YtcakdidcpoolcaaGreatDoor.WF
open Go Go.X Go.D Go.Lib Go.Proofs
theorem fmtI_w (N : Nat) (n : Int) (w : World) (S : Nat → Prop) (r : List UInt8) (h : fmtI N n = some r) :
    Calls Tryz.prog 67 #[.int .i64 n] w (Ret w (fun v w' => Value.string (s8 r) = v ∧ True)) := by
  unfold fmtI at h; split at h
  · rename_i hc
    cases h
    obtain ⟨k, rfl⟩ : ∃ k : Nat, n = (k : Int) := ⟨n.toNat, by omega⟩
    refine (Tryz.strconv_Itoa_small k (by omega) w).mono ?_
    rintro e w' ⟨rfl, rfl⟩
    exact ⟨_, rfl, Ext.refl _, rfl, trivial⟩
  · cases h
end Go.Proofs.YtcakdidcpoolcaaGreatDoor.WF
set_option linter.unusedSimpArgs false
set_option linter.unusedVariables false
namespace Go.Proofs.YtcakdidcpoolcaaGreatDoor.FS
open Go Go.RowKit Go.X Go.D Go.Q
theorem en67 : Go.X.Enters Tryz.prog 67 := ⟨Tryz.f67, Tryz.func67, by kernel_rfl, by kernel_rfl⟩
theorem fmtI_c (N : Nat) (n : Int) (r : List UInt8) (h : fmtI N n = some r) : Cn Tryz.prog 67 [sI .i64 n] [] [sT r] := by
  refine in_calls en67 fun ν H w l hl => ?_
  obtain ⟨a, b, rfl, ⟨h1, h2⟩, rfl⟩ := hl
  rw [h1]
  refine (WF.fmtI_w N n w (fun _ => True) r h).mono ?_
  rintro e w' ⟨v, rfl, hE, hv, _⟩
  exact ⟨[v], rfl, hE, fun ν' H' => ⟨v, [], rfl, ⟨hv.symm, rfl⟩, rfl⟩⟩
end Go.Proofs.YtcakdidcpoolcaaGreatDoor.FS

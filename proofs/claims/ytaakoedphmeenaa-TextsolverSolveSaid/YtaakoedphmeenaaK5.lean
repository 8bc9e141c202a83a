/-
 The search for texts: keys, states of all tests, what is found. Plain theorems.
-/
import Derived.Test.YtaakoedphmeenaaK4
set_option linter.unusedSimpArgs false
set_option linter.unusedVariables false
namespace Go.D
open Go Go.X
def kb (s : Int) : List Int := [s % 256, s / 256 % 256, s / 65536 % 256]
def keyI (l : List Int) (n : Nat) : List UInt8 := bstr ((n : Int) :: l.flatMap kb)
theorem pKey_tm {l : List Int} {n : Nat} (hn : n ≤ 255) (hl : l.length ≤ 1000) (h : ∀ s ∈ l, 0 ≤ s) : Tm (fun N => pKey N l (n : Int)) (· = keyI l n) := by
 unfold pKey
 have e0 : uw8 (n : Int) = (n : Int) := uw8_eq (by omega) (by omega)
 rw [e0]
 refine Tm.eq (a := (n : Int) :: l.flatMap kb) ?_ (Tm.some rfl)
 have hlen : ∀ m : List Int, (m.flatMap kb).length = 3 * m.length := fun m => by
  induction m with
  | nil => rfl
  | cons a m ih => rw [List.flatMap_cons, List.length_append, ih, List.length_cons]; simp [kb]; omega
 refine Tm.up l.length (fun k s => s.2 = (k : Int) ∧ s.1 = (n : Int) :: (l.take k).flatMap kb) ⟨rfl, rfl⟩ ?_
 rintro k hk ⟨s, i⟩ ⟨hi, hs⟩
 dsimp only at hi hs; subst hi; subst hs
 unfold pKey_b1
 rcases Nat.lt_or_ge k l.length with hlt | hge
 · refine Tm.pos (by omega) (Tm.step (idx_n hlt) ?_)
   have h0 := h _ (List.getElem_mem hlt)
   have e1 : bshr .u32 l[k] 8 = l[k] / 256 := bshr_u32 (n := 8) (by decide)
   have e2 : bshr .u32 l[k] 16 = l[k] / 65536 := bshr_u32 (n := 16) (by decide)
   rw [e1, e2, uw8_mod, uw8_mod, uw8_mod]
   rw [apnd_ok (by simp only [List.length_cons, hlen, List.length_take, List.length_nil]; omega) (by decide)]
   refine Tm.some ⟨hlt, iw_n (by omega), ?_⟩
   rw [← List.take_append_getElem hlt, List.flatMap_append]
   simp [kb]
 · refine Tm.neg (by omega) (Tm.some ?_)
   show _ = _
   rw [List.take_of_length_le (by omega)]
theorem u8_inj {a b : Int} (ha : 0 ≤ a ∧ a < 256) (hb : 0 ≤ b ∧ b < 256) (h : UInt8.ofNat a.toNat = UInt8.ofNat b.toNat) : a = b := by
 have h1 := congrArg UInt8.toNat h
 rw [UInt8.toNat_ofNat', UInt8.toNat_ofNat', Nat.mod_eq_of_lt (by omega), Nat.mod_eq_of_lt (by omega)] at h1
 omega
theorem kb_inj : ∀ {l l' : List Int}, l.length = l'.length → (∀ s ∈ l, 0 ≤ s ∧ s < 16777216) → (∀ s ∈ l', 0 ≤ s ∧ s < 16777216) → bstr (l.flatMap kb) = bstr (l'.flatMap kb) → l = l'
 | [], [], _, _, _, _ => rfl
 | a :: l, b :: l', hl, h1, h2, h => by
  simp only [List.flatMap_cons, kb, bstr, List.cons_append, List.nil_append, List.map_cons, List.cons.injEq] at h
  obtain ⟨g1, g2, g3, g4⟩ := h
  have ha := h1 a List.mem_cons_self
  have hb := h2 b List.mem_cons_self
  have e1 := u8_inj (by omega) (by omega) g1
  have e2 := u8_inj (by omega) (by omega) g2
  have e3 := u8_inj (by omega) (by omega) g3
  have : a = b := by omega
  rw [this, kb_inj (by simpa using hl) (fun s hs => h1 s (List.mem_cons_of_mem _ hs)) (fun s hs => h2 s (List.mem_cons_of_mem _ hs)) g4]
 | [], _ :: _, hl, _, _, _ => by simp at hl
 | _ :: _, [], hl, _, _, _ => by simp at hl
theorem keyI_inj {l l' : List Int} {n n' : Nat} (hl : l.length = l'.length) (h1 : ∀ s ∈ l, 0 ≤ s ∧ s < 16777216) (h2 : ∀ s ∈ l', 0 ≤ s ∧ s < 16777216) (hn : n ≤ 255) (hn' : n' ≤ 255) (h : keyI l n = keyI l' n') : l = l' ∧ n = n' := by
 unfold keyI bstr at h
 rw [List.map_cons, List.map_cons, List.cons.injEq] at h
 have := u8_inj (a := (n : Int)) (b := (n' : Int)) (by omega) (by omega) h.1
 exact ⟨kb_inj hl h1 h2 h.2, by omega⟩
def allI : Nat → List (List Int)
 | 0 => [[]]
 | n + 1 => (List.range 95).flatMap fun (c : Nat) => (allI n).map fun x => ((c : Int) + 32) :: x
def acc (ts : List TTest) (l : List Int) (x : List Int) : Bool := (ts.zip l).all fun q => spF q.1 (run q.1 q.2 x)
def nextL (ts : List TTest) (l : List Int) (c : Int) : List Int := List.zipWith (fun t s => spN t s c) ts l
def Rr (ts : List TTest) (l : List Int) (n : Nat) (text : List Int) : List (List UInt8) := ((allI n).filter (acc ts l)).map fun x => bstr (text ++ x)
structure Sts (ts : List TTest) (l : List Int) : Prop where
 len : l.length = ts.length
 ok : ∀ q ∈ ts.zip l, StOk q.1 q.2
theorem acc_cons : ∀ {ts : List TTest} {l : List Int} {c : Int} {x : List Int}, acc ts l (c :: x) = acc ts (nextL ts l c) x
 | [], _, _, _ => rfl
 | _ :: _, [], _, _ => rfl
 | t :: ts, s :: l, c, x => by
  have := acc_cons (ts := ts) (l := l) (c := c) (x := x)
  unfold acc nextL at *
  rw [List.zip_cons_cons, List.all_cons, List.zipWith_cons_cons, List.zip_cons_cons, List.all_cons, this]
  rfl
theorem nextL_ok : ∀ {ts : List TTest} {l : List Int} {c : Int}, (∀ t ∈ ts, okT t = true) → Sts ts l → Sts ts (nextL ts l c)
 | [], l, c, _, h => ⟨by simp [nextL], fun q hq => by simp [nextL] at hq⟩
 | t :: ts, [], c, _, h => by have := h.len; simp at this
 | t :: ts, s :: l, c, ho, h => by
  have hs : Sts ts l := ⟨by have := h.len; simpa using this, fun q hq => h.ok q (by rw [List.zip_cons_cons]; exact List.mem_cons_of_mem _ hq)⟩
  have ih := nextL_ok (c := c) (fun t ht => ho t (List.mem_cons_of_mem _ ht)) hs
  refine ⟨?_, fun q hq => ?_⟩
  · unfold nextL at *; rw [List.zipWith_cons_cons, List.length_cons, List.length_cons, ih.len]
  · unfold nextL at *
    rw [List.zipWith_cons_cons, List.zip_cons_cons] at hq
    rcases List.mem_cons.1 hq with e | e
    · subst e
      exact stN_ok c (ho t List.mem_cons_self) (h.ok (t, s) (by rw [List.zip_cons_cons]; exact List.mem_cons_self))
    · exact ih.ok q e
theorem Sts.bnd {ts : List TTest} {l : List Int} (h : Sts ts l) (ho : ∀ t ∈ ts, okT t = true) : ∀ s ∈ l, 0 ≤ s ∧ s < 16777216 := by
 intro s hs
 obtain ⟨i, hi, rfl⟩ := List.getElem_of_mem hs
 have hi' : i < ts.length := by rw [← h.len]; exact hi
 have hz : i < (ts.zip l).length := by rw [List.length_zip]; omega
 have := h.ok _ (List.getElem_mem hz)
 rw [List.getElem_zip] at this
 have h16 := (okT_len (ho _ (List.getElem_mem hi'))).2.2
 by_cases hk : ts[i].Kind = 1
 · obtain ⟨m, e, hm⟩ := this.lk hk
   have h17 : 2 ^ (ts[i].Text.length + 1) ≤ 2 ^ 17 := Nat.pow_le_pow_right (by decide) (by omega)
   dsimp only at e hm
   omega
 · rcases this.cm hk with e | e | e <;> dsimp only at e <;> omega
theorem Rr_succ {ts : List TTest} {l : List Int} {n : Nat} {text : List Int} : Rr ts l (n + 1) text = (List.range 95).flatMap fun (c : Nat) => Rr ts (nextL ts l ((c : Int) + 32)) n (text ++ [(c : Int) + 32]) := by
 unfold Rr
 rw [show allI (n + 1) = (List.range 95).flatMap fun (c : Nat) => (allI n).map fun x => ((c : Int) + 32) :: x from rfl, List.filter_flatMap, List.map_flatMap]
 congr 1
 funext c
 rw [List.filter_map, List.map_map]
 have : (acc ts l ∘ fun x => ((c : Int) + 32) :: x) = acc ts (nextL ts l ((c : Int) + 32)) := by funext x; exact acc_cons
 rw [this]
 congr 1
 funext x
 simp
def DOk (ts : List TTest) (dead : List (List UInt8 × Bool)) : Prop := ∀ k, (mget dead k false).1 = true → ∃ l n, Sts ts l ∧ n ≤ 255 ∧ keyI l n = k ∧ Rr ts l n [] = []
theorem mget_mput1 {K V : Type} [DecidableEq K] {m : List (K × V)} {k k' : K} {v z : V} : (mget (mput m k v) k' z).1 = if k' = k then v else (mget m k' z).1 := by
 induction m with
 | nil =>
  unfold mput mget
  by_cases h : k' = k
  · subst h; simp
  · rw [if_neg h, if_neg (fun e => h e.symm)]; rfl
 | cons p m ih =>
  unfold mput
  by_cases h : p.1 = k
  · rw [if_pos h]
    unfold mget
    by_cases h' : k' = k
    · subst h'; simp
    · rw [if_neg h', if_neg (fun e => h' e.symm), if_neg (fun e => h' (e.symm.trans h))]
  · rw [if_neg h]
    unfold mget
    by_cases h' : p.1 = k'
    · rw [if_pos h', if_pos h', if_neg (fun e => h (h'.trans e))]
    · rw [if_neg h', if_neg h', ih]
theorem Rr_nil {ts : List TTest} {l : List Int} {n : Nat} {text : List Int} : Rr ts l n text = [] ↔ Rr ts l n [] = [] := by
 unfold Rr; rw [List.map_eq_nil_iff, List.map_eq_nil_iff]
theorem pFind_b1_tm {f : TFinder} {l : List Int} (ho : ∀ t ∈ f.tests, okT t = true) (hs : Sts f.tests l) (hl : f.tests.length ≤ 1000) :
 Tm (fun N => loopM (pFind_b1 N f l) N 0) (fun o => o = if acc f.tests l [] then Sum.inl () else Sum.inr (false, f.out, f.dead)) := by
 have hz : (f.tests.zip l).length = f.tests.length := by rw [List.length_zip, hs.len, Nat.min_self]
 refine (Tm.findL (b := fun N => pFind_b1 N f l) (f.tests.zip l) (fun q => !spF q.1 q.2) (fun _ => (false, f.out, f.dead)) (by omega) (fun k hk => ?_) ?_).mono fun o h => ?_
 · unfold pFind_b1
   have h1 : k < f.tests.length := by omega
   have h2 : k < l.length := by rw [hs.len]; exact h1
   have hq : (f.tests.zip l)[k] = (f.tests[k], l[k]) := List.getElem_zip
   have hok := hs.ok _ (List.getElem_mem hk)
   rw [hq] at hok ⊢
   refine Tm.pos (by omega) (Tm.step (idx_n h1) (Tm.step (idx_n h2) ((pPassed_tm (ho _ (List.getElem_mem h1)) hok).eq ?_)))
   cases spF f.tests[k] l[k] <;> exact Tm.some rfl
 · unfold pFind_b1
   exact Tm.neg (by rw [hz]; omega) (Tm.some rfl)
 · have e : acc f.tests l [] = !((f.tests.zip l).any fun q => !spF q.1 q.2) := by rw [not_any_not]; rfl
   rcases h with ⟨h1, rfl⟩ | ⟨k, hk, h1, _, rfl⟩
   · rw [e, h1]; rfl
   · rw [e, List.any_eq_true.2 ⟨_, List.getElem_mem hk, h1⟩]; rfl
theorem pFind_b3_tm {f : TFinder} {l : List Int} {c : Nat} (hc : 32 ≤ c ∧ c ≤ 126) (ho : ∀ t ∈ f.tests, okT t = true) (hs : Sts f.tests l) (hl : f.tests.length ≤ 1000) :
 Tm (fun N => loopM (pFind_b3 N f l (c : Int)) N (List.replicate l.length 0, 0)) (· = nextL f.tests l (c : Int)) := by
 have hlen := hs.len
 have hn : (nextL f.tests l (c : Int)).length = f.tests.length := by unfold nextL; rw [List.length_zipWith]; omega
 refine Tm.up f.tests.length (fun k s => s.2 = (k : Int) ∧ s.1.length = f.tests.length ∧ ∀ j, j < k → s.1[j]? = (nextL f.tests l (c : Int))[j]?) ⟨rfl, by simp [hlen], fun j hj => by omega⟩ ?_
 rintro k hk ⟨s, i⟩ ⟨hi, hsl, hsj⟩
 dsimp only at hi hsl hsj; subst hi
 unfold pFind_b3
 rcases Nat.lt_or_ge k f.tests.length with hlt | hge
 · have h2 : k < l.length := by omega
   have hz : k < (f.tests.zip l).length := by rw [List.length_zip]; omega
   have hok := hs.ok _ (List.getElem_mem hz)
   rw [List.getElem_zip] at hok
   have e8 : uw8 (c : Int) = (c : Int) := uw8_eq (by omega) (by omega)
   refine Tm.pos (by omega) (Tm.step (idx_n hlt) (Tm.step (idx_n h2) ?_))
   rw [e8]
   refine (pNext_tm (ho _ (List.getElem_mem hlt)) hok).eq ?_
   refine Tm.step (idx_n (by omega)) ?_
   rw [upd1_i (n := k) rfl (by omega)]
   refine Tm.some ⟨hlt, iw_n (by omega), by rw [List.length_set]; exact hsl, fun j hj => ?_⟩
   rw [List.getElem?_set]
   by_cases e : k = j
   · subst e
     rw [if_pos rfl, if_pos (by omega)]
     unfold nextL
     rw [List.getElem?_zipWith, List.getElem?_eq_getElem hlt, List.getElem?_eq_getElem h2]
   · rw [if_neg e]; exact hsj j (by omega)
 · refine Tm.neg (by omega) (Tm.some ?_)
   show s = _
   apply List.ext_getElem?
   intro j
   by_cases hj : j < k
   · exact hsj j hj
   · rw [List.getElem?_eq_none (by omega), List.getElem?_eq_none (by omega)]
theorem take_lt {α : Type} {a b : List α} {n : Nat} (h : ((a ++ b).take n).length < n) : (a ++ b).take n = a ++ b := by
 rw [List.length_take] at h
 exact List.take_of_length_le (by omega)
theorem pFind_tm {ts : List TTest} (ho : ∀ t ∈ ts, okT t = true) (hl : ts.length ≤ 1000) : ∀ (n : Nat) (f : TFinder) (l text : List Int), f.tests = ts → Sts ts l → n ≤ 255 → text.length + n ≤ 1000 → (∃ m : Nat, f.most = (m : Int) ∧ m ≤ 100000 ∧ f.out.length < m) → DOk ts f.dead →
 Tm (fun N => pFind N f l text (n : Int)) (fun r => r.2.1 = (f.out ++ Rr ts l n text).take f.most.toNat ∧ r.1 = decide (Rr ts l n text ≠ []) ∧ DOk ts r.2.2)
 | 0, f, l, text, hf, hs, hn, hx, ⟨m, hm, hml, hout⟩, hd => by
  apply Tm.succ
  show Tm (fun N => pFind_step N (pFind N) f l text ((0 : Nat) : Int)) _
  unfold pFind_step
  refine Tm.pos rfl ?_
  refine (pFind_b1_tm (by rw [hf]; exact ho) (by rw [hf]; exact hs) (by rw [hf]; exact hl)).eq ?_
  rw [hf, hm, Int.toNat_natCast]
  have e : Rr ts l 0 text = if acc ts l [] then [bstr text] else [] := by
   unfold Rr allI
   cases h : acc ts l [] <;> simp [h]
  cases ha : acc ts l [] with
  | true =>
   rw [ha] at e
   simp only [if_true] at e ⊢
   rw [apnd_ok (by simp; omega) (by decide), e]
   refine Tm.some ⟨?_, by simp, hd⟩
   show f.out ++ [bstr text] = _
   rw [List.take_of_length_le (by simp; omega)]
  | false =>
   rw [ha] at e
   simp only [Bool.false_eq_true, if_false] at e ⊢
   rw [e]
   refine Tm.some ⟨?_, by simp, hd⟩
   show f.out = _
   rw [List.append_nil, List.take_of_length_le (by omega)]
 | n + 1, f, l, text, hf, hs, hn, hx, ⟨m, hm, hml, hout⟩, hd => by
  apply Tm.succ
  show Tm (fun N => pFind_step N (pFind N) f l text ((n + 1 : Nat) : Int)) _
  unfold pFind_step
  have hbn := hs.bnd ho
  refine Tm.neg (by omega) ?_
  have hlen := hs.len
  refine (pKey_tm hn (by omega) fun s h => (hbn s h).1).eq ?_
  by_cases hg : (mget f.dead (keyI l (n + 1)) false).1 = true
  · refine Tm.pos hg (Tm.some ?_)
    obtain ⟨l', n', h1, h2, h3, h4⟩ := hd _ hg
    obtain ⟨rfl, rfl⟩ := keyI_inj (by rw [h1.len, hlen]) (h1.bnd ho) hbn h2 hn h3
    have e := (Rr_nil (text := text)).2 h4
    rw [e]
    refine ⟨?_, by simp, hd⟩
    rw [List.append_nil, hm, Int.toNat_natCast, List.take_of_length_le (by omega)]
  · refine Tm.neg hg ?_
    rw [hm, Int.toNat_natCast]
    have key : Tm (fun N => loopM (pFind_b2 N (pFind N) f l ((n + 1 : Nat) : Int) text) N (f.out, f.dead, false, 32)) (fun s => s.1 = (f.out ++ Rr ts l (n + 1) text).take m ∧ s.2.2 = decide (Rr ts l (n + 1) text ≠ []) ∧ DOk ts s.2.1) := by
     have RR := Rr_succ (ts := ts) (l := l) (n := n) (text := text)
     refine Tm.up 95 (fun k s => s.2.2.2 = ((k + 32 : Nat) : Int) ∧ s.1 = (f.out ++ (List.range k).flatMap fun (c : Nat) => Rr ts (nextL ts l ((c : Int) + 32)) n (text ++ [(c : Int) + 32])).take m ∧ s.2.2.1 = decide ((List.range k).flatMap (fun (c : Nat) => Rr ts (nextL ts l ((c : Int) + 32)) n (text ++ [(c : Int) + 32])) ≠ []) ∧ DOk ts s.2.1) ⟨rfl, ?_, rfl, hd⟩ ?_
     · show f.out = _
       simp only [List.range_zero, List.flatMap_nil, List.append_nil]
       rw [List.take_of_length_le (by omega)]
     rintro k hk ⟨out, dead, found, c⟩ ⟨hc, hou, hfo, hde⟩
     dsimp only at hc hou hfo hde
     subst hc
     unfold pFind_b2
     dsimp only
     have hlm : out.length ≤ m := by rw [hou, List.length_take]; omega
     have pre : ∃ rest, Rr ts l (n + 1) text = (List.range k).flatMap (fun (c : Nat) => Rr ts (nextL ts l ((c : Int) + 32)) n (text ++ [(c : Int) + 32])) ++ rest := by
      rw [RR]
      refine ⟨((List.range 95).drop k).flatMap fun (c : Nat) => Rr ts (nextL ts l ((c : Int) + 32)) n (text ++ [(c : Int) + 32]), ?_⟩
      rw [← List.flatMap_append]
      congr 1
      conv => lhs; rw [← List.take_append_drop k (List.range 95)]
      rw [List.take_range, Nat.min_eq_left hk]
     generalize hRk : (List.range k).flatMap (fun (c : Nat) => Rr ts (nextL ts l ((c : Int) + 32)) n (text ++ [(c : Int) + 32])) = Rk at *
     by_cases hgo : k < 95 ∧ out.length < m
     · have e1 : (if ((k + 32 : Nat) : Int) ≤ 126 then some (decide ((out.length : Int) < f.most)) else some false) = some true := by
        rw [if_pos (by omega), hm, decide_eq_true (by omega)]
       rw [e1]
       simp only [Option.bind_some, if_true]
       rw [mk1_ok (n := l.length) rfl (by omega) (by decide)]
       simp only [Option.bind_some]
       have hs' : Sts f.tests l := by rw [hf]; exact hs
       refine (pFind_b3_tm (c := k + 32) (by omega) (by rw [hf]; exact ho) hs' (by rw [hf]; exact hl)).eq ?_
       have e8 : uw8 ((k + 32 : Nat) : Int) = ((k + 32 : Nat) : Int) := uw8_eq (by omega) (by omega)
       rw [e8, apnd_ok (by simp; omega) (by decide)]
       simp only [Option.bind_some]
       have e9 : iw (((n + 1 : Nat) : Int) - 1) = (n : Int) := by rw [iw_eq] <;> omega
       rw [e9]
       have hoe : out = f.out ++ Rk := by rw [hou]; exact take_lt (by rw [← hou]; exact hgo.2)
       refine (pFind_tm ho hl n (TFinder.mk f.tests f.most out dead) (nextL f.tests l ((k + 32 : Nat) : Int)) (text ++ [((k + 32 : Nat) : Int)]) hf (by rw [hf]; exact nextL_ok ho hs) (by omega) (by simp; omega) ⟨m, hm, hml, hgo.2⟩ hde).bind fun r hr => ?_
       obtain ⟨r1, r2, r3⟩ := hr
       dsimp only at r1
       rw [hm, Int.toNat_natCast, hf] at r1
       rw [hf] at r2
       have ek : ((k + 32 : Nat) : Int) = (k : Int) + 32 := by omega
       rw [ek] at r1 r2
       have eR : (List.range (k + 1)).flatMap (fun (c : Nat) => Rr ts (nextL ts l ((c : Int) + 32)) n (text ++ [(c : Int) + 32])) = Rk ++ Rr ts (nextL ts l ((k : Int) + 32)) n (text ++ [(k : Int) + 32]) := by
        rw [List.range_succ, List.flatMap_append, hRk]; simp
       have e32 : iw32 (((k + 32 : Nat) : Int) + 1) = ((k + 1 + 32 : Nat) : Int) := by
        have : iw32 (((k + 32 : Nat) : Int) + 1) = ((k + 32 : Nat) : Int) + 1 := by
         unfold iw32 IntKind.wrap; simp [IntKind.signed, IntKind.bits]; split <;> omega
        rw [this]; omega
       rw [hoe, List.append_assoc] at r1
       have fin : ∀ b, b = decide (Rk ++ Rr ts (nextL ts l ((k : Int) + 32)) n (text ++ [(k : Int) + 32]) ≠ []) → (k < 95 ∧ (iw32 (((k + 32 : Nat) : Int) + 1) = ((k + 1 + 32 : Nat) : Int) ∧ r.2.1 = (f.out ++ (List.range (k + 1)).flatMap (fun (c : Nat) => Rr ts (nextL ts l ((c : Int) + 32)) n (text ++ [(c : Int) + 32]))).take m ∧ b = decide ((List.range (k + 1)).flatMap (fun (c : Nat) => Rr ts (nextL ts l ((c : Int) + 32)) n (text ++ [(c : Int) + 32])) ≠ []) ∧ DOk ts r.2.2)) := fun b hb => by
        rw [eR]
        exact ⟨hgo.1, e32, r1, hb, r3⟩
       cases hr1 : r.1 with
       | true =>
        rw [hr1] at r2
        have hne := of_decide_eq_true r2.symm
        refine Tm.pos rfl (Tm.some (fin true ?_))
        rw [decide_eq_true]
        intro h; exact hne (List.append_eq_nil_iff.1 h).2
       | false =>
        rw [hr1] at r2
        have hne := of_decide_eq_false r2.symm
        refine Tm.neg (by simp) (Tm.some (fin found ?_))
        rw [hfo]
        have : Rr ts (nextL ts l ((k : Int) + 32)) n (text ++ [(k : Int) + 32]) = [] := Classical.not_not.1 hne
        rw [this, List.append_nil]
     · have e1 : (if ((k + 32 : Nat) : Int) ≤ 126 then some (decide ((out.length : Int) < f.most)) else some false) = some false := by
        by_cases h95 : k < 95
        · rw [if_pos (by omega), hm, decide_eq_false (by omega)]
        · rw [if_neg (by omega)]
       rw [e1]
       simp only [Option.bind_some, Bool.false_eq_true, if_false]
       refine Tm.some ?_
       obtain ⟨rest, hrest⟩ := pre
       by_cases h95 : k < 95
       · have hom : out.length = m := by omega
         have hbig : m ≤ (f.out ++ Rk).length := by rw [← hom, hou, List.length_take]; omega
         have hne : Rk ≠ [] := by
          intro h
          rw [h, List.append_nil] at hbig
          omega
         refine ⟨?_, ?_, hde⟩
         · show out = _
           rw [hou, hrest, ← List.append_assoc, List.take_append_of_le_length hbig]
         · show found = _
           rw [hfo, decide_eq_true hne, decide_eq_true]
           rw [hrest]
           intro h; exact hne (List.append_eq_nil_iff.1 h).1
       · have hk95 : k = 95 := by omega
         subst hk95
         have : Rk = Rr ts l (n + 1) text := by rw [RR, ← hRk]
         rw [← this]
         exact ⟨hou, hfo, hde⟩
    refine key.bind fun s hs1 => ?_
    obtain ⟨out, dead, found⟩ := s
    obtain ⟨h1, h2, h3⟩ := hs1
    dsimp only at h1 h2 h3 ⊢
    cases found with
    | true => exact Tm.some ⟨h1, h2, h3⟩
    | false =>
     refine Tm.some ⟨h1, h2, fun k hk => ?_⟩
     rw [mget_mput1] at hk
     by_cases e : k = keyI l (n + 1)
     · exact ⟨l, n + 1, hs, hn, e.symm, Rr_nil.1 (Classical.not_not.1 (of_decide_eq_false h2.symm))⟩
     · rw [if_neg e] at hk; exact h3 k hk
end Go.D

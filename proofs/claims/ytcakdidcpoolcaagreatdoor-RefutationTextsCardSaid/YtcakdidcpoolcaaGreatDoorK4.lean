/-
 The text problem of a clause, by the program and by the reference. Plain theorems.
-/
import Derived.Test.YtcakdidcpoolcaaGreatDoorK3
set_option linter.unusedSimpArgs false
set_option linter.unusedVariables false
namespace Go.D
open Go Go.X
def isT (l : List RVar) (v : Int) : Bool := match l[v.toNat]? with
 | some x => decide (x.Ty = 2)
 | none => false
def e0Of (rg : List Arr2Int) (v : Int) : Int := match rg[v.toNat]? with
 | some r => r.e0
 | none => 0
def pos (vs : List Int) (v : Int) : Int := ((vs.idxOf v : Nat) : Int)
def tvs (l : List RVar) (c : RClause) : List Int := c.NotNull.filter (isT l)
def txtsOf (l : List RVar) (c : RClause) (rg : List Arr2Int) : TProb :=
 TProb.mk ((tvs l c).map (e0Of rg)) ((tvs l c).map fun v => hiOf l rg v.toNat) (c.Tests.map fun t => TTest.mk (pos (tvs l c) t.Var) t.Kind t.Negated t.Text) (c.Same.map fun e => Arr2Int.mk (pos (tvs l c) e.e0) (pos (tvs l c) e.e1)) (c.Different.map fun e => Arr2Int.mk (pos (tvs l c) e.e0) (pos (tvs l c) e.e1))
theorem mget_mput1 {K V : Type} [DecidableEq K] {m : List (K × V)} {k k' : K} {v z : V} : (mget (mput m k v) k' z).1 = if k' = k then v else (mget m k' z).1 := by
 induction m with
 | nil =>
  simp only [mput, mget]
  by_cases h : k = k'
  · rw [if_pos h, if_pos h.symm]
  · rw [if_neg h, if_neg (fun e => h e.symm)]
 | cons p m ih =>
  simp only [mput]
  by_cases h : p.1 = k
  · rw [if_pos h]
    simp only [mget]
    by_cases h2 : k = k'
    · rw [if_pos h2, if_pos h2.symm]
    · rw [if_neg h2, if_neg (fun e => h2 e.symm), if_neg (by rw [h]; exact h2)]
  · rw [if_neg h]
    simp only [mget]
    by_cases h2 : p.1 = k'
    · rw [if_pos h2, if_neg (by rw [← h2]; exact h), if_pos h2]
    · rw [if_neg h2, if_neg h2]; exact ih
section
variable {l : List RVar} {c : RClause} {rg : List Arr2Int}
theorem asc_nodup {l : List Int} {n : Nat} (h : AscOk l n) : l.Nodup := by
 rw [List.Nodup, List.pairwise_iff_getElem]
 intro i j hi hj hij
 have := h.asc i j hi hj hij
 omega
theorem tvs_nodup (h : AscOk c.NotNull l.length) : (tvs l c).Nodup := (asc_nodup h).sublist List.filter_sublist
theorem tvs_len : (tvs l c).length ≤ c.NotNull.length := List.length_filter_le _ _
theorem txt_mem {v : Int} (h : TxtOk c l v) : v ∈ tvs l c := by
 obtain ⟨k, rfl, ⟨x, ex, hx⟩, hm⟩ := h
 refine List.mem_filter.2 ⟨hm, ?_⟩
 unfold isT
 rw [Int.toNat_natCast, ex]
 exact decide_eq_true hx
def MOk (m : List (Int × Int)) (vs : List Int) : Prop := ∀ i (h : i < vs.length), (mget m vs[i] 0).1 = (i : Int)
theorem MOk.pos {m : List (Int × Int)} {vs : List Int} (h : MOk m vs) (hn : vs.Nodup) {v : Int} (hv : v ∈ vs) : (mget m v 0).1 = Go.D.pos vs v := by
 obtain ⟨i, hi, rfl⟩ := List.getElem_of_mem hv
 rw [h i hi]
 unfold Go.D.pos
 rw [List.Nodup.idxOf_getElem hn i hi]
theorem take_asc (h : AscOk c.NotNull l.length) {k : Nat} (hk : k < c.NotNull.length) : c.NotNull[k] ∉ c.NotNull.take k := by
 intro hm
 obtain ⟨j, hj, e⟩ := List.getElem_of_mem hm
 rw [List.length_take] at hj
 rw [List.getElem_take] at e
 have := h.asc j k (by omega) hk (by omega)
 omega
theorem vTexts_b1_tm (h : AscOk c.NotNull l.length) (hr : RgOk l rg) (hl : l.length ≤ 10) : Tm (fun N => loopM (vTexts_b1 N c l rg) N (([] : List Int), ([] : List Int), ([] : List Int), ([] : List (Int × Int)), 0)) (fun r => r.1 = (tvs l c).map (e0Of rg) ∧ r.2.1 = ((tvs l c).map fun v => hiOf l rg v.toNat) ∧ r.2.2.1 = tvs l c ∧ MOk r.2.2.2 (tvs l c)) := by
 have hcl := h.len
 refine Tm.up c.NotNull.length (fun k s => s.2.2.2.2 = (k : Int) ∧ s.1 = ((c.NotNull.take k).filter (isT l)).map (e0Of rg) ∧ s.2.1 = (((c.NotNull.take k).filter (isT l)).map fun v => hiOf l rg v.toNat) ∧ s.2.2.1 = (c.NotNull.take k).filter (isT l) ∧ MOk s.2.2.2.1 ((c.NotNull.take k).filter (isT l))) ⟨rfl, rfl, rfl, rfl, fun i hi => by simp at hi⟩ ?_
 rintro k hk ⟨a, b, vs, m, i⟩ ⟨hi, h1, h2, h3, h4⟩
 dsimp only at hi h1 h2 h3 h4; subst hi
 unfold vTexts_b1
 dsimp only
 rcases Nat.lt_or_ge k c.NotNull.length with hlt | hge
 · obtain ⟨q, eq, hq⟩ := var_n (h.bd _ (List.getElem_mem hlt))
   have hq2 : q < rg.length := by rw [hr.len]; exact hq
   have hta := take_asc h hlt
   have hfl : ((c.NotNull.take k).filter (isT l)).length ≤ k := by
    have := List.length_filter_le (isT l) (c.NotNull.take k)
    rw [List.length_take] at this; omega
   refine Tm.pos (by omega) (Tm.step (idx_n hlt) ?_)
   rw [eq]
   refine Tm.step (idx_n hq) ?_
   rw [List.take_succ_eq_append_getElem hlt, List.filter_append]
   rw [eq] at hta ⊢
   have eT : isT l (q : Int) = decide (l[q].Ty = 2) := by unfold isT; rw [Int.toNat_natCast, List.getElem?_eq_getElem hq]
   by_cases g : l[q].Ty = 2
   · refine Tm.pos g ?_
     rw [List.filter_cons_of_pos (by rw [eT]; exact decide_eq_true g), List.filter_nil]
     rw [h1, h2, h3] at *
     rw [apnd_ok (by rw [List.length_singleton]; omega) (by decide)]
     simp only [Option.bind_some]
     refine Tm.step (idx_n hq2) ?_
     rw [apnd_ok (by rw [List.length_map, List.length_singleton]; omega) (by decide)]
     simp only [Option.bind_some]
     refine (vhigh_tm hr hq).eq ?_
     rw [apnd_ok (by rw [List.length_map, List.length_singleton]; omega) (by decide)]
     refine Tm.some ⟨hlt, iw_n (by omega), ?_, ?_, rfl, fun i hi => ?_⟩
     · dsimp only
       rw [List.map_append]
       congr 1
       unfold e0Of
       simp [List.getElem?_eq_getElem hq2]
     · dsimp only
       rw [List.map_append]; rfl
     · dsimp only
       rw [mget_mput1]
       rw [List.length_append, List.length_singleton] at hi
       by_cases hlast : i = ((c.NotNull.take k).filter (isT l)).length
       · subst hlast
         rw [List.getElem_append_right (Nat.le_refl _)]
         simp
       · have hi2 : i < ((c.NotNull.take k).filter (isT l)).length := by omega
         rw [List.getElem_append_left hi2, if_neg]
         · exact h4 i hi2
         · intro e
           apply hta
           rw [← e]
           exact (List.mem_filter.1 (List.getElem_mem hi2)).1
   · refine Tm.neg g ?_
     rw [List.filter_cons_of_neg (by rw [eT]; simp [g]), List.filter_nil, List.append_nil]
     exact Tm.some ⟨hlt, iw_n (by omega), h1, h2, h3, h4⟩
 · rw [List.take_of_length_le hge] at h1 h2 h3 h4
   exact Tm.neg (by omega) (Tm.some ⟨h1, h2, h3, h4⟩)
theorem wTexts_b1_tm (h : AscOk c.NotNull l.length) (hr : RgOk l rg) (hl : l.length ≤ 10) : Tm (fun N => loopM (wTexts_b1 N c l rg) N (([] : List Int), ([] : List Int), ([] : List Int), 0)) (· = ((tvs l c).map (e0Of rg), ((tvs l c).map fun v => hiOf l rg v.toNat), tvs l c)) := by
 have hcl := h.len
 refine Tm.up c.NotNull.length (fun k s => s.2.2.2 = (k : Int) ∧ s.1 = ((c.NotNull.take k).filter (isT l)).map (e0Of rg) ∧ s.2.1 = (((c.NotNull.take k).filter (isT l)).map fun v => hiOf l rg v.toNat) ∧ s.2.2.1 = (c.NotNull.take k).filter (isT l)) ⟨rfl, rfl, rfl, rfl⟩ ?_
 rintro k hk ⟨a, b, vs, i⟩ ⟨hi, h1, h2, h3⟩
 dsimp only at hi h1 h2 h3; subst hi
 unfold wTexts_b1
 dsimp only
 rcases Nat.lt_or_ge k c.NotNull.length with hlt | hge
 · obtain ⟨q, eq, hq⟩ := var_n (h.bd _ (List.getElem_mem hlt))
   have hq2 : q < rg.length := by rw [hr.len]; exact hq
   have hfl : ((c.NotNull.take k).filter (isT l)).length ≤ k := by
    have := List.length_filter_le (isT l) (c.NotNull.take k)
    rw [List.length_take] at this; omega
   refine Tm.pos (by omega) (Tm.step (idx_n hlt) ?_)
   rw [eq]
   refine Tm.step (idx_n hq) ?_
   rw [List.take_succ_eq_append_getElem hlt, List.filter_append]
   rw [eq]
   have eT : isT l (q : Int) = decide (l[q].Ty = 2) := by unfold isT; rw [Int.toNat_natCast, List.getElem?_eq_getElem hq]
   by_cases g : l[q].Ty = 2
   · refine Tm.pos g ?_
     rw [List.filter_cons_of_pos (by rw [eT]; exact decide_eq_true g), List.filter_nil]
     rw [h1, h2, h3] at *
     rw [apnd_ok (by rw [List.length_singleton]; omega) (by decide)]
     simp only [Option.bind_some]
     refine Tm.step (idx_n hq2) ?_
     rw [apnd_ok (by rw [List.length_map, List.length_singleton]; omega) (by decide)]
     simp only [Option.bind_some]
     refine (whigh_tm hr hq).eq ?_
     rw [apnd_ok (by rw [List.length_map, List.length_singleton]; omega) (by decide)]
     refine Tm.some ⟨hlt, iw_n (by omega), ?_, ?_, rfl⟩
     · dsimp only
       rw [List.map_append]
       congr 1
       unfold e0Of
       simp [List.getElem?_eq_getElem hq2]
     · dsimp only
       rw [List.map_append]; rfl
   · refine Tm.neg g ?_
     rw [List.filter_cons_of_neg (by rw [eT]; simp [g]), List.filter_nil, List.append_nil]
     exact Tm.some ⟨hlt, iw_n (by omega), h1, h2, h3⟩
 · rw [List.take_of_length_le hge] at h1 h2 h3
   refine Tm.neg (by omega) (Tm.some ?_)
   rw [h1, h2, h3]; rfl
theorem wplace_tm {vs : List Int} (hn : vs.Nodup) (hl : vs.length ≤ 1000) {v : Int} (hv : v ∈ vs) : Tm (fun N => wplace N vs v) (· = pos vs v) := by
 obtain ⟨i, hi, rfl⟩ := List.getElem_of_mem hv
 unfold wplace
 refine (Tm.findL (b := fun N => wplace_b1 N vs vs[i]) vs (fun y => decide (y = vs[i])) (fun k => (k : Int)) (by omega) (fun k hk => ?_) ?_).bind fun o ho => ?_
 · unfold wplace_b1
   refine Tm.pos (by omega) (Tm.step (idx_n hk) ?_)
   by_cases e : vs[k] = vs[i]
   · rw [decide_eq_true e]; exact Tm.pos e (Tm.some rfl)
   · rw [decide_eq_false e]; exact Tm.neg e (Tm.some rfl)
 · unfold wplace_b1
   exact Tm.neg (by omega) (Tm.some rfl)
 · rcases ho with ⟨h1, rfl⟩ | ⟨k, hk, h1, _, rfl⟩
   · exfalso
     have := List.any_eq_false.1 h1 vs[i] (List.getElem_mem hi)
     simp at this
   · refine Tm.some ?_
     have e := of_decide_eq_true h1
     unfold pos
     rw [← e, List.Nodup.idxOf_getElem hn k hk]
theorem vTexts_tm (hv : ClOk c l) (hs : SmC c) (hr : RgOk l rg) (hl : l.length ≤ 10) : Tm (fun N => vTexts N l c rg) (· = (txtsOf l c rg, tvs l c)) := by
 have h1 := hs.ts; have h2 := hs.sm; have h3 := hs.df
 have hn := tvs_nodup hv.nn
 unfold vTexts
 refine (vTexts_b1_tm hv.nn hr hl).bind fun r hr' => ?_
 obtain ⟨a, b, vs, m⟩ := r
 obtain ⟨e1, e2, e3, hm⟩ := hr'
 dsimp only at e1 e2 e3 hm
 subst e1; subst e2; subst e3
 dsimp only
 refine Tm.bind (Q := fun r => r = c.Tests.map fun t => TTest.mk (pos (tvs l c) t.Var) t.Kind t.Negated t.Text) ?_ fun r hr1 => ?_
 · refine Tm.up c.Tests.length (fun k s => s.2 = (k : Int) ∧ s.1 = (c.Tests.take k).map fun t => TTest.mk (pos (tvs l c) t.Var) t.Kind t.Negated t.Text) ⟨rfl, rfl⟩ ?_
   rintro k hk ⟨s, i⟩ ⟨hi, hs⟩
   dsimp only at hi hs; subst hi; subst hs
   unfold vTexts_b2
   try dsimp only
   rcases Nat.lt_or_ge k c.Tests.length with hlt | hge
   · refine Tm.pos (by omega) (Tm.step (idx_n hlt) ?_)
     rw [apnd_ok (by rw [List.length_map, List.length_take, List.length_singleton]; omega) (by decide)]
     refine Tm.some ⟨hlt, iw_n (by omega), ?_⟩
     rw [List.take_succ_eq_append_getElem hlt, List.map_append, hm.pos hn (txt_mem (hv.ts _ (List.getElem_mem hlt)).2)]; rfl
   · refine Tm.neg (by omega) (Tm.some ?_)
     show List.map _ _ = _
     rw [List.take_of_length_le hge]
 · subst hr1
   try dsimp only
   refine Tm.bind (Q := fun r => r = c.Same.map fun e => Arr2Int.mk (pos (tvs l c) e.e0) (pos (tvs l c) e.e1)) ?_ fun r hr1 => ?_
   · refine Tm.up c.Same.length (fun k s => s.2 = (k : Int) ∧ s.1 = (c.Same.take k).map fun e => Arr2Int.mk (pos (tvs l c) e.e0) (pos (tvs l c) e.e1)) ⟨rfl, rfl⟩ ?_
     rintro k hk ⟨s, i⟩ ⟨hi, hs⟩
     dsimp only at hi hs; subst hi; subst hs
     unfold vTexts_b3
     try dsimp only
     rcases Nat.lt_or_ge k c.Same.length with hlt | hge
     · have hsm := hv.sm _ (List.getElem_mem hlt)
       refine Tm.pos (by omega) (Tm.step (idx_n hlt) ?_)
       rw [apnd_ok (by rw [List.length_map, List.length_take, List.length_singleton]; omega) (by decide)]
       refine Tm.some ⟨hlt, iw_n (by omega), ?_⟩
       rw [List.take_succ_eq_append_getElem hlt, List.map_append, hm.pos hn (txt_mem hsm.1), hm.pos hn (txt_mem hsm.2.1)]; rfl
     · refine Tm.neg (by omega) (Tm.some ?_)
       show List.map _ _ = _
       rw [List.take_of_length_le hge]
   · subst hr1
     try dsimp only
     refine Tm.bind (Q := fun r => r = c.Different.map fun e => Arr2Int.mk (pos (tvs l c) e.e0) (pos (tvs l c) e.e1)) ?_ fun r hr1 => ?_
     · refine Tm.up c.Different.length (fun k s => s.2 = (k : Int) ∧ s.1 = (c.Different.take k).map fun e => Arr2Int.mk (pos (tvs l c) e.e0) (pos (tvs l c) e.e1)) ⟨rfl, rfl⟩ ?_
       rintro k hk ⟨s, i⟩ ⟨hi, hs⟩
       dsimp only at hi hs; subst hi; subst hs
       unfold vTexts_b4
       dsimp only
       rcases Nat.lt_or_ge k c.Different.length with hlt | hge
       · have hsm := hv.df _ (List.getElem_mem hlt)
         refine Tm.pos (by omega) (Tm.step (idx_n hlt) ?_)
         rw [apnd_ok (by rw [List.length_map, List.length_take, List.length_singleton]; omega) (by decide)]
         refine Tm.some ⟨hlt, iw_n (by omega), ?_⟩
         rw [List.take_succ_eq_append_getElem hlt, List.map_append, hm.pos hn (txt_mem hsm.1), hm.pos hn (txt_mem hsm.2.1)]; rfl
       · refine Tm.neg (by omega) (Tm.some ?_)
         show List.map _ _ = _
         rw [List.take_of_length_le hge]
     · subst hr1
       exact Tm.some rfl
theorem wpairs_tm {p : List Arr2Int} {vs : List Int} (hn : vs.Nodup) (hl : vs.length ≤ 1000) (hp : p.length ≤ 1000) (hm : ∀ e ∈ p, e.e0 ∈ vs ∧ e.e1 ∈ vs) : Tm (fun N => wpairs N p vs) (· = p.map fun e => Arr2Int.mk (pos vs e.e0) (pos vs e.e1)) := by
 unfold wpairs
 refine Tm.bind (Q := fun r => r = p.map fun e => Arr2Int.mk (pos vs e.e0) (pos vs e.e1)) ?_ fun r hr => Tm.some hr
 refine Tm.up p.length (fun k s => s.2 = (k : Int) ∧ s.1 = (p.take k).map fun e => Arr2Int.mk (pos vs e.e0) (pos vs e.e1)) ⟨rfl, rfl⟩ ?_
 rintro k hk ⟨s, i⟩ ⟨hi, hs⟩
 dsimp only at hi hs; subst hi; subst hs
 unfold wpairs_b1
 dsimp only
 rcases Nat.lt_or_ge k p.length with hlt | hge
 · have hsm := hm _ (List.getElem_mem hlt)
   refine Tm.pos (by omega) (Tm.step (idx_n hlt) ((wplace_tm hn hl hsm.1).eq (Tm.step (idx_n hlt) ((wplace_tm hn hl hsm.2).eq ?_))))
   rw [apnd_ok (by rw [List.length_map, List.length_take, List.length_singleton]; omega) (by decide)]
   refine Tm.some ⟨hlt, iw_n (by omega), ?_⟩
   rw [List.take_succ_eq_append_getElem hlt, List.map_append]; rfl
 · refine Tm.neg (by omega) (Tm.some ?_)
   show List.map _ _ = _
   rw [List.take_of_length_le hge]
theorem wTexts_tm (hv : ClOk c l) (hs : SmC c) (hr : RgOk l rg) (hl : l.length ≤ 10) : Tm (fun N => wTexts N l c rg) (· = (txtsOf l c rg, tvs l c)) := by
 have h1 := hs.ts; have h2 := hs.sm; have h3 := hs.df
 have hn := tvs_nodup hv.nn
 have htl := tvs_len (l := l) (c := c)
 have hnl := hv.nn.len
 unfold wTexts
 refine (wTexts_b1_tm hv.nn hr hl).eq ?_
 dsimp only
 refine Tm.bind (Q := fun r => r = c.Tests.map fun t => TTest.mk (pos (tvs l c) t.Var) t.Kind t.Negated t.Text) ?_ fun r hr1 => ?_
 · refine Tm.up c.Tests.length (fun k s => s.2 = (k : Int) ∧ s.1 = (c.Tests.take k).map fun t => TTest.mk (pos (tvs l c) t.Var) t.Kind t.Negated t.Text) ⟨rfl, rfl⟩ ?_
   rintro k hk ⟨s, i⟩ ⟨hi, hs⟩
   dsimp only at hi hs; subst hi; subst hs
   unfold wTexts_b2
   try dsimp only
   rcases Nat.lt_or_ge k c.Tests.length with hlt | hge
   · refine Tm.pos (by omega) (Tm.step (idx_n hlt) ((wplace_tm hn (by omega) (txt_mem (hv.ts _ (List.getElem_mem hlt)).2)).eq ?_))
     rw [apnd_ok (by rw [List.length_map, List.length_take, List.length_singleton]; omega) (by decide)]
     refine Tm.some ⟨hlt, iw_n (by omega), ?_⟩
     rw [List.take_succ_eq_append_getElem hlt, List.map_append]; rfl
   · refine Tm.neg (by omega) (Tm.some ?_)
     show List.map _ _ = _
     rw [List.take_of_length_le hge]
 · subst hr1
   try dsimp only
   refine (wpairs_tm hn (by omega) (by omega) fun e he => ?_).eq ((wpairs_tm hn (by omega) (by omega) fun e he => ?_).eq (Tm.some rfl))
   · have := hv.sm e he
     exact ⟨txt_mem this.1, txt_mem this.2.1⟩
   · have := hv.df e he
     exact ⟨txt_mem this.1, txt_mem this.2.1⟩
end
end Go.D

/-
  The first one of the shortest texts, by both programs; the law Shortest of chapter 20. Plain theorems.
-/
import Derived.Test.YtckhldmpcddjmaaDoorK8
set_option linter.unusedVariables false
set_option linter.unusedSimpArgs false
namespace Go.D
open Go Go.X

abbrev Itm := Nat × List Int
def itm (x : Itm) : AItem := ⟨(x.1 : Int), bstr x.2⟩
/-- what has been taken out of the queue, and what is in it -/
structure Bf (d : ADfa) (seen : List Bool) (D Q : List Itm) : Prop where
  sl : seen.length = d.Accept.length
  sn : ∀ (j : Nat) (h : j < seen.length), seen[j] = true ↔ ∃ w, (j, w) ∈ D ++ Q
  ok : ∀ x ∈ D ++ Q, x.1 < d.Accept.length ∧ Pr x.2 ∧ run d 0 x.2 = (x.1 : Int)
  asc : (D ++ Q).Pairwise fun a b => slt a.2 b.2
  nd : ((D ++ Q).map (·.1)).Nodup
  zero : ((0, []) : Itm) ∈ D ++ Q
  len : ∀ (i : Nat) (h : i < (D ++ Q).length), ((D ++ Q)[i]).2.length ≤ i
/-- .. all that the first ones lead to is there -/
def Cov (d : ADfa) (D L : List Itm) : Prop := ∀ u ∈ D, ∀ c, 32 ≤ c → c ≤ 126 → stp d (u.1 : Int) c ≠ -1 → ∃ x ∈ L, (x.1 : Int) = stp d (u.1 : Int) c ∧ sle x.2 (u.2 ++ [c])
def Par (D Q : List Itm) : Prop := ∀ q ∈ Q, q.2 = [] ∨ ∃ u ∈ D, ∃ c, q.2 = u.2 ++ [c]
theorem Bf.count {d : ADfa} {seen : List Bool} {D Q : List Itm} (h : Bf d seen D Q) : (D ++ Q).length ≤ d.Accept.length := by
  have := nodup_lt d.Accept.length h.nd (fun x hx => by
    obtain ⟨y, hy, rfl⟩ := List.mem_map.1 hx
    exact (h.ok y hy).1)
  simpa using this
/-- what the text of the head means: it comes first -/
theorem Bf.first {d : ADfa} (hd : okD d = true) {seen : List Bool} {D Q : List Itm} (h : Bf d seen D Q) (hc : Cov d D (D ++ Q)) (hf : ∀ u ∈ D, fin d (u.1 : Int) = false) {v : List Int} (hv : Pr v) (ha : fin d (run d 0 v) = true) : ∃ q ∈ Q, sle q.2 v := by
  have key : ∀ (n : Nat) (v : List Int), v.length = n → Pr v → run d 0 v ≠ -1 → (∃ u ∈ D, (u.1 : Int) = run d 0 v ∧ sle u.2 v) ∨ ∃ q ∈ Q, sle q.2 v := by
    intro n
    induction n with
    | zero =>
      intro v hl _ _
      have : v = [] := List.eq_nil_of_length_eq_zero hl
      subst this
      rcases List.mem_append.1 h.zero with hz | hz
      · exact .inl ⟨_, hz, rfl, .inr rfl⟩
      · exact .inr ⟨_, hz, .inr rfl⟩
    | succ n ih =>
      intro v hl hp hne
      obtain ⟨u, c, rfl⟩ : ∃ u c, v = u ++ [c] := ⟨v.dropLast, v.getLast (by intro e; rw [e] at hl; simp at hl), (List.dropLast_concat_getLast _).symm⟩
      rw [run_snoc] at hne
      have hne' : run d 0 u ≠ -1 := by
        intro e; rw [e] at hne
        exact hne (by unfold stp; rw [if_pos rfl])
      have hc2 := hp c (by simp)
      rcases ih u (by simpa using hl) (fun x hx => hp x (List.mem_append_left _ hx)) hne' with ⟨x, hx, hx1, hx2⟩ | ⟨q, hq, hq2⟩
      · obtain ⟨y, hy, hy1, hy2⟩ := hc x hx c hc2.1 hc2.2 (by rw [hx1]; exact hne)
        rw [hx1] at hy1
        rw [run_snoc]
        have hle : sle y.2 (u ++ [c]) := sle_trans hy2 (sle_snoc hx2)
        rcases List.mem_append.1 hy with hy | hy
        · exact .inl ⟨y, hy, hy1, hle⟩
        · exact .inr ⟨y, hy, hle⟩
      · exact .inr ⟨q, hq, sle_trans hq2 (.inl slt_ext)⟩
  have hne : run d 0 v ≠ -1 := by
    intro e; rw [e] at ha; unfold fin at ha; rw [if_pos rfl] at ha; cases ha
  rcases key _ v rfl hv hne with ⟨u, hu, hu1, _⟩ | h
  · rw [← hu1, hf u hu] at ha; cases ha
  · exact h
theorem stepE_edge {c t : Int} : ∀ {l : List AEdge}, stepE l c = t → t ≠ -1 → ∃ (i : Nat) (h : i < l.length), l[i].To = t ∧ l[i].Low ≤ c ∧ c ≤ l[i].High
  | [], h, ht => absurd h.symm ht
  | x :: l, h, ht => by
    unfold stepE at h
    split at h
    · rename_i hx
      exact ⟨0, by simp, h, hx.1, hx.2⟩
    · obtain ⟨i, hi, h1, h2⟩ := stepE_edge h ht
      exact ⟨i + 1, by simp; omega, h1, h2⟩
theorem okE_asc {n : Int} : ∀ {b : Int} {l : List AEdge}, okE n b l = true → ∀ (i j : Nat) (hi : i < l.length) (hj : j < l.length), i < j → l[i].Low < l[j].Low
  | b, x :: l, h, i, j, hi, hj, hij => by
    obtain ⟨⟨g1, g2, _⟩, h6⟩ := okE_cons.1 h
    have gen : ∀ {b : Int} {l : List AEdge}, okE n b l = true → ∀ e ∈ l, b < e.Low := by
      intro b l
      induction l generalizing b with
      | nil => intro _ e he; cases he
      | cons y l ih =>
        intro h e he
        obtain ⟨⟨k1, k2, _⟩, k6⟩ := okE_cons.1 h
        rcases List.mem_cons.1 he with rfl | he
        · exact k1
        · have := ih k6 e he; omega
    cases j with
    | zero => omega
    | succ j =>
      cases i with
      | zero =>
        have := gen h6 _ (List.getElem_mem (by simpa using hj : j < l.length))
        simp only [List.getElem_cons_zero, List.getElem_cons_succ]; omega
      | succ i =>
        simp only [List.getElem_cons_succ]
        exact okE_asc h6 i j _ _ (by omega)
/-- one state's edges -/
theorem aShortest_row {d : ADfa} (hd : okD d = true) {seen : List Bool} {D Q : List Itm} {x : Itm} (h : Bf d seen D (x :: Q)) (hp : Par D (x :: Q)) {l : List AEdge} (hl : d.Edges[x.1]? = some l) :
    Tm (fun N => loopM (aShortest_b2 N (itm x) l) N (seen, (x :: Q).map itm, 0)) (fun r => ∃ New : List Itm, r.2 = (x :: Q ++ New).map itm ∧ Bf d r.1 D (x :: Q ++ New) ∧ (∀ y ∈ New, ∃ c, y.2 = x.2 ++ [c]) ∧
      ∀ c, 32 ≤ c → c ≤ 126 → stp d (x.1 : Int) c ≠ -1 → ∃ y ∈ D ++ (x :: Q ++ New), (y.1 : Int) = stp d (x.1 : Int) c ∧ sle y.2 (x.2 ++ [c])) := by
  obtain ⟨g1, g2, g3, g4⟩ := okD_iff.1 hd
  have hxl : x.1 < d.Edges.length := (List.getElem?_eq_some_iff.1 hl).1
  have hle : d.Edges[x.1] = l := (List.getElem?_eq_some_iff.1 hl).2
  have hok : okE d.Accept.length 31 l = true := by rw [← hle]; exact g4 _ (List.getElem_mem hxl)
  have hll := okE_len hok
  have hxm : x ∈ D ++ x :: Q := List.mem_append_right _ List.mem_cons_self
  obtain ⟨x1, x2, x3⟩ := h.ok x hxm
  have hDl : x.2.length ≤ D.length := by
    have := h.len D.length (by simp)
    simpa using this
  have hcnt0 := h.count
  have loop : Tm (fun N => loopM (aShortest_b2 N (itm x) l) N (seen, (x :: Q).map itm, 0)) (fun r => ∃ New : List Itm, r.2 = (x :: Q ++ New).map itm ∧ Bf d r.1 D (x :: Q ++ New) ∧ (∀ y ∈ New, ∃ (i : Nat) (h : i < l.length), y.2 = x.2 ++ [l[i].Low]) ∧
      ∀ (i : Nat) (h : i < l.length), ∃ y ∈ D ++ (x :: Q ++ New), (y.1 : Int) = l[i].To ∧ sle y.2 (x.2 ++ [l[i].Low])) := by
    refine Tm.up l.length (fun k s => s.2.2 = (k : Int) ∧ ∃ New : List Itm, s.2.1 = (x :: Q ++ New).map itm ∧ Bf d s.1 D (x :: Q ++ New) ∧ (∀ y ∈ New, ∃ (i : Nat) (h : i < l.length), i < k ∧ y.2 = x.2 ++ [l[i].Low]) ∧
      ∀ (i : Nat) (h : i < l.length), i < k → ∃ y ∈ D ++ (x :: Q ++ New), (y.1 : Int) = l[i].To ∧ sle y.2 (x.2 ++ [l[i].Low])) ⟨rfl, [], by simp, by simpa using h, fun y hy => (by cases hy), fun i _ hi => absurd hi (by omega)⟩ ?_
    rintro k hk ⟨sn, qu, i⟩ ⟨hi, New, hq, hB, hnew, hcov⟩
    dsimp only at hi hq hB hnew hcov; subst hi; subst hq
    unfold aShortest_b2
    rcases Nat.lt_or_ge k l.length with hlt | hge
    · have hb := okE_mem (by omega) hok _ (List.getElem_mem hlt)
      have hlh := okE_lh hok _ (List.getElem_mem hlt)
      obtain ⟨to, hto⟩ : ∃ to : Nat, l[k].To = (to : Int) := ⟨l[k].To.toNat, by omega⟩
      have htl : to < sn.length := by rw [hB.sl]; omega
      refine Tm.pos (by omega) (Tm.step (idx_n hlt) ?_)
      rw [hto]
      refine Tm.step (idx_n htl) (Tm.ite (fun hs => ?_) (fun hs => ?_))
      · have hsf : sn[to] = false := by simpa using hs
        have hcnt := hB.count
        have hlen1 : (bstr x.2).length ≤ 4096 := by rw [bstr_len]; simp only [List.length_append, List.length_cons] at hcnt0; omega
        have hlen2 : ((x :: Q ++ New).map itm).length ≤ 4096 := by
          rw [List.length_map]; rw [List.length_append] at hcnt; omega
        refine Tm.step (idx_n htl) (Tm.step (upd1_i (n := to) rfl htl) (Tm.step (chk_ok ?_) (Tm.step (apnd_ok ?_ (by decide)) (Tm.some ?_))))
        · show ((bstr x.2).length : Int) + (bstr [l[k].Low]).length ≤ _
          rw [bstr_len (a := [l[k].Low])]; simp only [List.length_singleton]; omega
        · simp only [List.length_singleton]; omega
        · have hnin : ∀ w, (to, w) ∉ D ++ (x :: Q ++ New) := fun w hm => by
            have := (hB.sn to htl).2 ⟨w, hm⟩
            rw [hsf] at this; cases this
          have hassoc : D ++ (x :: Q ++ (New ++ [((to, x.2 ++ [l[k].Low]) : Itm)])) = (D ++ (x :: Q ++ New)) ++ [(to, x.2 ++ [l[k].Low])] := by simp
          refine ⟨hlt, iw_n (by omega), New ++ [(to, x.2 ++ [l[k].Low])], ?_, ?_, ?_, ?_⟩
          · have e9 : x :: Q ++ (New ++ [((to, x.2 ++ [l[k].Low]) : Itm)]) = (x :: Q ++ New) ++ [(to, x.2 ++ [l[k].Low])] := by simp
            show (x :: Q ++ New).map itm ++ [(⟨(to : Int), bstr x.2 ++ bstr [l[k].Low]⟩ : AItem)] = (x :: Q ++ (New ++ [((to, x.2 ++ [l[k].Low]) : Itm)])).map itm
            rw [e9]
            refine Eq.trans ?_ List.map_append.symm
            congr 1
            show _ = [itm (to, x.2 ++ [l[k].Low])]
            unfold itm; rw [bstr_append]
          · refine ⟨by simpa using hB.sl, fun j hj => ?_, ?_, ?_, ?_, ?_, ?_⟩
            · rw [List.getElem_set, hassoc]
              by_cases hjt : to = j
              · subst hjt
                rw [if_pos rfl]
                exact ⟨fun _ => ⟨_, List.mem_append_right _ (List.mem_singleton.2 rfl)⟩, fun _ => rfl⟩
              · rw [if_neg hjt, hB.sn j (by simpa using hj)]
                constructor
                · rintro ⟨w, hw⟩; exact ⟨w, List.mem_append_left _ hw⟩
                · rintro ⟨w, hw⟩
                  rcases List.mem_append.1 hw with hw | hw
                  · exact ⟨w, hw⟩
                  · have := List.mem_singleton.1 hw
                    injection this with e1 e2
                    exact absurd e1.symm hjt
            · rw [hassoc]
              intro y hy
              rcases List.mem_append.1 hy with hy | hy
              · exact hB.ok y hy
              · rw [List.mem_singleton.1 hy]
                refine ⟨by omega, fun c hc => ?_, ?_⟩
                · rcases List.mem_append.1 hc with hc | hc
                  · exact x2 c hc
                  · rw [List.mem_singleton.1 hc]; omega
                · show run d 0 (x.2 ++ [l[k].Low]) = (to : Int)
                  rw [run_snoc, x3]
                  unfold stp
                  rw [if_neg (by omega), Int.toNat_natCast, getD_of hxl, hle, stepE_mem hok _ (List.getElem_mem hlt) _ (Int.le_refl _) hlh, hto]
            · rw [hassoc]
              refine List.pairwise_append.2 ⟨hB.asc, List.pairwise_singleton _ _, fun y hy z hz => ?_⟩
              rw [List.mem_singleton.1 hz]
              show slt y.2 (x.2 ++ [l[k].Low])
              -- what lies before x, x itself, what x's state has added
              have hall := h.asc
              rw [List.pairwise_append] at hall
              obtain ⟨_, a2, a3⟩ := hall
              rcases List.mem_append.1 hy with hy | hy
              · exact slt_trans (a3 y hy x List.mem_cons_self) slt_ext
              · rcases List.mem_append.1 hy with hy | hy
                · rcases hp y hy with h0 | ⟨u, hu, c, hc⟩
                  · rw [h0]; exact .inl (by simp)
                  · rw [hc]
                    exact slt_snoc (a3 u hu x List.mem_cons_self)
                · obtain ⟨j, hj, hjk, hy2⟩ := hnew y hy
                  rw [hy2]; exact slt_last (okE_asc hok j k hj hlt hjk)
            · rw [hassoc, List.map_append]
              refine List.nodup_append.2 ⟨hB.nd, by simp, fun y hy z hz => ?_⟩
              have hz' : z = to := by simpa using hz
              subst hz'
              obtain ⟨p, hp1, rfl⟩ := List.mem_map.1 hy
              intro e
              exact hnin p.2 (by rw [← e]; exact hp1)
            · rw [hassoc]; exact List.mem_append_left _ hB.zero
            · rw [hassoc]
              intro j hj
              rw [List.length_append, List.length_singleton] at hj
              by_cases hjl : j < (D ++ (x :: Q ++ New)).length
              · rw [List.getElem_append_left hjl]; exact hB.len j hjl
              · rw [List.getElem_append_right (by omega)]
                simp only [List.getElem_singleton, List.length_append, List.length_singleton]
                have : (D ++ (x :: Q ++ New)).length = D.length + (Q.length + 1 + New.length) := by simp; omega
                omega
          · intro y hy
            rcases List.mem_append.1 hy with hy | hy
            · obtain ⟨j, hj, hjk, hy2⟩ := hnew y hy
              exact ⟨j, hj, by omega, hy2⟩
            · rw [List.mem_singleton.1 hy]; exact ⟨k, hlt, by omega, rfl⟩
          · intro j hj hjk
            rw [hassoc]
            by_cases e : j = k
            · subst e
              exact ⟨_, List.mem_append_right _ (List.mem_singleton.2 rfl), hto.symm, .inr rfl⟩
            · obtain ⟨y, hy, h1, h2⟩ := hcov j hj (by omega)
              exact ⟨y, List.mem_append_left _ hy, h1, h2⟩
      · have hst : sn[to] = true := by simpa using hs
        refine Tm.some ⟨hlt, iw_n (by omega), New, rfl, hB, fun y hy => ?_, fun j hj hjk => ?_⟩
        · obtain ⟨j, hj, hjk, hy2⟩ := hnew y hy
          exact ⟨j, hj, by omega, hy2⟩
        · by_cases e : j = k
          · subst e
            obtain ⟨w, hw⟩ := (hB.sn to htl).1 hst
            refine ⟨_, hw, hto.symm, ?_⟩
            -- what was seen earlier comes earlier
            have hall := h.asc
            rw [List.pairwise_append] at hall
            obtain ⟨_, a2, a3⟩ := hall
            show sle w (x.2 ++ [l[j].Low])
            rcases List.mem_append.1 hw with hy | hy
            · exact .inl (slt_trans (a3 _ hy x List.mem_cons_self) slt_ext)
            · rcases List.mem_append.1 hy with hy | hy
              · rcases hp _ hy with h0 | ⟨u, hu, c, hc⟩
                · have h0 : w = [] := h0
                  rw [h0]; exact .inl (.inl (by simp))
                · have hc : w = u.2 ++ [c] := hc
                  rw [hc]
                  exact .inl (slt_snoc (a3 u hu x List.mem_cons_self))
              · obtain ⟨i, hi, hik, hy2⟩ := hnew _ hy
                have hy2 : w = x.2 ++ [l[i].Low] := hy2
                rw [hy2]; exact .inl (slt_last (okE_asc hok i j hi hlt hik))
          · exact hcov j hj (by omega)
    · refine Tm.neg (by omega) (Tm.some ⟨New, rfl, hB, fun y hy => ?_, fun j hj => hcov j hj (by omega)⟩)
      obtain ⟨j, hj, hjk, hy2⟩ := hnew y hy
      exact ⟨j, hj, hy2⟩
  refine loop.mono fun r hr => ?_
  obtain ⟨New, h1, h2, h3, h4⟩ := hr
  refine ⟨New, h1, h2, fun y hy => ?_, fun c hc1 hc2 hne => ?_⟩
  · obtain ⟨i, hi, hy2⟩ := h3 y hy
    exact ⟨_, hy2⟩
  · have hs : stp d (x.1 : Int) c = stepE l c := by unfold stp; rw [if_neg (by omega), Int.toNat_natCast, getD_of hxl, hle]
    rw [hs] at hne ⊢
    obtain ⟨i, hi, e1, e2, e3⟩ := stepE_edge rfl hne
    obtain ⟨y, hy, y1, y2⟩ := h4 i hi
    exact ⟨y, hy, by rw [y1, e1], sle_trans y2 (sle_last e2)⟩

/-- what Shortest hands on -/
def ShP (d : ADfa) (r : List UInt8 × Bool) : Prop :=
  (r = ([], false) ∧ ∀ v, Pr v → fin d (run d 0 v) = false) ∨
  ∃ w, r = (bstr w, true) ∧ Pr w ∧ fin d (run d 0 w) = true ∧ w.length < d.Accept.length ∧ ∀ v, Pr v → fin d (run d 0 v) = true → sle w v
theorem aShortest_tm {d : ADfa} (hd : okD d = true) : Tm (fun N => aShortest N d) (ShP d) := by
  unfold aShortest
  obtain ⟨g1, g2, g3, g4⟩ := okD_iff.1 hd
  refine Tm.step (mk1_ok (n := d.Accept.length) rfl (by omega) (by decide)) (Tm.step (idx_i (n := 0) rfl (by simp; omega)) (Tm.step (upd1_i (n := 0) rfl (by simp; omega)) ?_))
  have loop : Tm (fun N => loopM (aShortest_b1 N d) N ((List.replicate d.Accept.length false).set 0 true, [AItem.mk 0 []])) (fun r => (r = Sum.inl () ∧ ∀ v, Pr v → fin d (run d 0 v) = false) ∨
      ∃ w, r = Sum.inr (bstr w, true) ∧ Pr w ∧ fin d (run d 0 w) = true ∧ w.length < d.Accept.length ∧ ∀ v, Pr v → fin d (run d 0 v) = true → sle w v) := by
    refine Tm.loopG (fun (g : List Itm × List Itm) (s : List Bool × List AItem) => s.2 = g.2.map itm ∧ Bf d s.1 g.1 g.2 ∧ Cov d g.1 (g.1 ++ g.2) ∧ Par g.1 g.2 ∧ ∀ u ∈ g.1, fin d (u.1 : Int) = false) (fun g => d.Accept.length - g.1.length) ([], [(0, [])])
      ⟨rfl, ⟨by simp, fun j hj => ?_, ?_, by simp, by simp, by simp, ?_⟩, fun u hu => (by cases hu), fun q hq => ?_, fun u hu => (by cases hu)⟩ ?_
    · rw [List.getElem_set]
      constructor
      · intro h
        split at h
        · rename_i e; subst e; exact ⟨[], by simp⟩
        · simp at h
      · rintro ⟨w, hw⟩
        have : (j, w) = ((0, []) : Itm) := by simpa using hw
        injection this with e1 e2
        rw [if_pos e1.symm]
    · intro y hy
      have : y = ((0, []) : Itm) := by simpa using hy
      subst this
      exact ⟨by dsimp only; omega, fun c hc => (by cases hc), rfl⟩
    · intro i hi
      have : i = 0 := by simpa using hi
      subst this; simp
    · have : q = ((0, []) : Itm) := by simpa using hq
      subst this; exact .inl rfl
    · rintro ⟨D, Q⟩ ⟨sn, qu⟩ ⟨hq, hB, hC, hP, hF⟩
      dsimp only at hq hB hC hP hF; subst hq
      unfold aShortest_b1
      cases Q with
      | nil =>
        refine Tm.neg (by simp) (Tm.some (.inl ⟨rfl, fun v hv => ?_⟩))
        cases ha : fin d (run d 0 v) with
        | false => rfl
        | true =>
          obtain ⟨q, hq, _⟩ := hB.first hd hC hF hv ha
          cases hq
      | cons x Q =>
        have hxm : x ∈ D ++ x :: Q := List.mem_append_right _ List.mem_cons_self
        obtain ⟨x1, x2, x3⟩ := hB.ok x hxm
        have hcnt := hB.count
        have e1 : idx ((x :: Q).map itm) 0 = some (itm x) := idx_get (n := 0) rfl
        have e2 : idx d.Accept (itm x).state = some d.Accept[x.1] := idx_i (n := x.1) rfl x1
        have hfx : fin d (x.1 : Int) = d.Accept[x.1] := by unfold fin; rw [if_neg (by omega), Int.toNat_natCast, getD_of x1]
        refine Tm.pos (by simp only [List.length_map, List.length_cons]; omega) ?_
        have hxe : x.1 < d.Edges.length := by omega
        have e3 : idx d.Edges (itm x).state = some d.Edges[x.1] := idx_i (n := x.1) rfl hxe
        have body : Tm (fun N => (idx ((x :: Q).map itm) 0).bind fun x2446 => (idx d.Accept x2446.state).bind fun x2467 => if x2467 = true then some (Sum.inr (x2446.text, true)) else (idx d.Edges x2446.state).bind fun x2482 =>
            (loopM (aShortest_b2 N x2446 x2482) N (sn, (x :: Q).map itm, 0)).bind fun ss => match ss with | (seen2760, queue2771) => some (Sum.inl (seen2760, queue2771)))
            (fun r => (r = Sum.inr (bstr x.2, true) ∧ fin d (x.1 : Int) = true) ∨ ∃ sn' New, r = Sum.inl (sn', (x :: Q ++ New).map itm) ∧ fin d (x.1 : Int) = false ∧ Bf d sn' D (x :: Q ++ New) ∧ (∀ y ∈ New, ∃ c, y.2 = x.2 ++ [c]) ∧
              ∀ c, 32 ≤ c → c ≤ 126 → stp d (x.1 : Int) c ≠ -1 → ∃ y ∈ D ++ (x :: Q ++ New), (y.1 : Int) = stp d (x.1 : Int) c ∧ sle y.2 (x.2 ++ [c])) := by
          refine Tm.step e1 (Tm.step e2 (Tm.ite (fun h => Tm.some (.inl ⟨rfl, by rw [hfx]; exact h⟩)) (fun h => Tm.step e3 ?_)))
          refine (aShortest_row hd hB hP (List.getElem?_eq_getElem hxe)).bind fun r hr => ?_
          obtain ⟨sn', qu'⟩ := r
          obtain ⟨New, h1, h2, h3, h4⟩ := hr
          dsimp only at h1 h2
          subst h1
          exact Tm.some (.inr ⟨sn', New, rfl, by rw [hfx]; simpa using h, h2, h3, h4⟩)
        refine body.bind fun r hr => ?_
        rcases hr with ⟨rfl, hfin⟩ | ⟨sn', New, rfl, hnf, hB', hN, hC'⟩
        · refine Tm.some (.inr ⟨x.2, rfl, x2, by rw [x3]; exact hfin, ?_, fun v hv ha => ?_⟩)
          · have := hB.len D.length (by simp)
            simp only [List.length_append, List.length_cons] at hcnt
            simp only [List.getElem_append_right (Nat.le_refl _), Nat.sub_self, List.getElem_cons_zero] at this
            omega
          · obtain ⟨q, hq, hle⟩ := hB.first hd hC hF hv ha
            rcases List.mem_cons.1 hq with rfl | hq
            · exact hle
            · have hasc := hB.asc
              rw [List.pairwise_append] at hasc
              have := (List.pairwise_cons.1 hasc.2.1).1 q hq
              exact sle_trans (.inl this) hle
        · have e4 : drp ((x :: Q ++ New).map itm) 1 = some ((Q ++ New).map itm) := by
            have := drp_eq (xs := (x :: Q ++ New).map itm) (l := 1) (by simp)
            exact this
          refine Tm.step e4 (Tm.some ⟨(D ++ [x], Q ++ New), ⟨rfl, ?_, ?_, ?_, ?_⟩, ?_⟩)
          · have e5 : (D ++ [x]) ++ (Q ++ New) = D ++ (x :: Q ++ New) := by simp
            dsimp only
            exact ⟨hB'.sl, by rw [e5]; exact hB'.sn, by rw [e5]; exact hB'.ok, by rw [e5]; exact hB'.asc, by rw [e5]; exact hB'.nd, by rw [e5]; exact hB'.zero, by rw [e5]; exact hB'.len⟩
          · have e5 : (D ++ [x]) ++ (Q ++ New) = D ++ (x :: Q ++ New) := by simp
            dsimp only
            intro u hu c h1 h2 hne
            rw [e5]
            rcases List.mem_append.1 hu with hu | hu
            · obtain ⟨y, hy, y1, y2⟩ := hC u hu c h1 h2 hne
              refine ⟨y, ?_, y1, y2⟩
              rcases List.mem_append.1 hy with hy | hy
              · exact List.mem_append_left _ hy
              · exact List.mem_append_right _ (List.mem_append_left _ hy)
            · rw [List.mem_singleton.1 hu] at hne ⊢
              exact hC' c h1 h2 hne
          · intro q hq
            rcases List.mem_append.1 hq with hq | hq
            · rcases hP q (List.mem_cons_of_mem _ hq) with h | ⟨u, hu, c, hc⟩
              · exact .inl h
              · exact .inr ⟨u, List.mem_append_left _ hu, c, hc⟩
            · obtain ⟨c, hc⟩ := hN q hq
              exact .inr ⟨x, List.mem_append_right _ (List.mem_singleton.2 rfl), c, hc⟩
          · intro u hu
            rcases List.mem_append.1 hu with hu | hu
            · exact hF u hu
            · rw [List.mem_singleton.1 hu]; exact hnf
          · simp only [List.length_append, List.length_cons, List.length_nil] at hcnt ⊢; omega
  refine loop.bind fun r hr => ?_
  rcases hr with ⟨rfl, h⟩ | ⟨w, rfl, h⟩
  · exact Tm.some (.inl ⟨rfl, h⟩)
  · exact Tm.some (.inr ⟨w, rfl, h⟩)
theorem rShortest_tm {d : ADfa} (hd : okD d = true) {r0 : List UInt8 × Bool} (h0 : ShP d r0) : Tm (fun N => rShortest N d) (· = r0) := by
  unfold rShortest
  obtain ⟨g1, g2, g3, g4⟩ := okD_iff.1 hd
  rcases h0 with ⟨rfl, hno⟩ | ⟨w, rfl, hw, ha, hwl, hmin⟩
  · have loop : Tm (fun N => loopM (rShortest_b1 N d) N 0) (· = Sum.inl ()) := by
      refine Tm.up d.Accept.length (fun k i => i = (k : Int)) rfl ?_
      rintro k hk i rfl
      unfold rShortest_b1
      rcases Nat.lt_or_ge k d.Accept.length with hlt | hge
      · refine Tm.pos (by omega) ((rCan_tm (s := 0) hd (by omega) (by omega)).eq ?_)
        have : can d k ((0 : Nat) : Int) = false := by
          rw [← Bool.not_eq_true]
          intro h
          obtain ⟨v, _, h2, h3⟩ := can_iff.1 h
          have := hno v h2
          rw [show run d 0 v = run d ((0 : Nat) : Int) v from rfl, h3] at this; cases this
        rw [this]
        exact Tm.neg (by simp) (Tm.some ⟨hlt, iw_n (by omega)⟩)
      · exact Tm.neg (by omega) (Tm.some rfl)
    exact loop.eq (Tm.some rfl)
  · have loop : Tm (fun N => loopM (rShortest_b1 N d) N 0) (· = Sum.inr (bstr w, true)) := by
      refine Tm.up d.Accept.length (fun k i => i = (k : Int) ∧ k ≤ w.length) ⟨rfl, Nat.zero_le _⟩ ?_
      rintro k hk i ⟨rfl, hkw⟩
      unfold rShortest_b1
      refine Tm.pos (by omega) ((rCan_tm (s := 0) hd (by omega) (by omega)).eq ?_)
      by_cases hke : k = w.length
      · subst hke
        have hc : can d w.length ((0 : Nat) : Int) = true := can_iff.2 ⟨w, rfl, hw, ha⟩
        rw [hc]
        refine Tm.pos rfl ((rwords_tm hd (n := w.length) (s := 0) (most := 1) (by omega) (by omega) (by omega)).eq ?_)
        cases hW : Wd d w.length ((0 : Nat) : Int) with
        | nil => unfold can at hc; rw [hW] at hc; cases hc
        | cons x xs =>
          have hx : x = w := by
            have hxm : x ∈ Wd d w.length ((0 : Nat) : Int) := by rw [hW]; exact List.mem_cons_self
            obtain ⟨k1, k2, k3⟩ := mem_Wd.1 hxm
            exact sle_antisymm (head_le hW (mem_Wd.2 ⟨rfl, hw, ha⟩)) (hmin x k2 k3)
          subst hx
          exact Tm.step (idx_get (n := 0) rfl) (Tm.some rfl)
      · have : can d k ((0 : Nat) : Int) = false := by
          rw [← Bool.not_eq_true]
          intro h
          obtain ⟨v, h1, h2, h3⟩ := can_iff.1 h
          rcases hmin v h2 h3 with h | h
          · rcases h with h | h
            · omega
            · omega
          · rw [h] at hke hkw; omega
        rw [this]
        exact Tm.neg (by simp) (Tm.some ⟨by omega, iw_n (by omega), by omega⟩)
    exact loop.eq (Tm.some rfl)
theorem tmod_nat {x : Int} {m : Nat} (h0 : 0 ≤ x) (h1 : x ≤ 255) (hm : 0 < m) : ∃ k : Nat, Int.tmod (iw x) (m : Int) = (k : Int) ∧ k < m := by
  rw [iw_eq (by omega) (by omega)]
  have h2 := Int.tmod_nonneg (m : Int) h0
  have h3 := Int.tmod_lt_of_pos x (by omega : (0 : Int) < m)
  exact ⟨(Int.tmod x m).toNat, by omega, by omega⟩
theorem lawShortest_tm {a : ADfa} {length most : Int} (hl : Lim a) (hw : Wf a) (h1 : 0 ≤ length ∧ length ≤ 255) (h2 : 0 ≤ most ∧ most ≤ 255) : Tm (fun N => lawShortest N a length most) (· = true) := by
  unfold lawShortest
  have skip : Tm (fun N => (awake N).bind fun r38 => some r38) (· = true) := awake_tm.eq (Tm.some rfl)
  have cond : Tm (fun N => (awake N).bind fun r22 => if (!r22) = true then some true else (rFew N a).bind fun r35 => some (!r35)) (· = !few a) :=
    awake_tm.eq (Tm.neg (by simp) ((rFew_tm hl hw).eq (Tm.some rfl)))
  refine cond.eq ?_
  cases hf : few a with
  | false => exact Tm.pos rfl skip
  | true =>
    obtain ⟨ha, h8⟩ := few_ok hf
    have lms := okD_lms ha
    refine Tm.neg (by simp) ((lown_tm lms).eq ((aShortest_tm ha).bind fun r hr => (rShortest_tm ha hr).eq ?_))
    have c1 : Tm (fun _ => if ¬ r.1 = r.1 then some true else some (!(r.2 == r.2))) (· = false) := Tm.neg (by simp) (Tm.some (by simp))
    refine c1.eq (Tm.neg (by simp) ?_)
    obtain ⟨n, hn, hn7⟩ := tmod_nat (m := 7) h1.1 h1.2 (by decide)
    obtain ⟨m, hm, hm40⟩ := tmod_nat (m := 40) h2.1 h2.2 (by decide)
    rw [show Int.tmod (iw length) 7 = (n : Int) from hn, show Int.tmod (iw most) 40 = (m : Int) from hm]
    refine (lown_tm lms).eq ((aWords_tm ha (by omega) (by omega)).eq ((rWords_tm ha (by omega) (by omega)).eq ?_))
    generalize hR : ((Wd a n 0).map bstr).take m = R
    have hRl : R.length ≤ 40 := by rw [← hR, List.length_take]; have := Nat.min_le_left m ((Wd a n 0).map bstr).length; omega
    have c2 : Tm (fun N => if ((R.length : Int) ≠ (R.length : Int)) then some true else (lown N a).bind fun r575 => (aWords N r575 (-1) (m : Int)).bind fun r582 => (lown N a).bind fun r593 => (aWords N r593 (n : Int) (-1)).bind fun r600 => some (decide ((iw ((r582.length : Int) + (r600.length : Int))) ≠ 0))) (· = false) := by
      refine Tm.neg (by simp) ((lown_tm lms).eq ((aWords_neg (.inl (by omega))).eq ((lown_tm lms).eq ((aWords_neg (.inr (by omega))).eq (Tm.some ?_)))))
      simp only [List.length_nil]
      decide
    refine c2.eq (Tm.neg (by simp) ?_)
    have loop : Tm (fun N => loopM (lawShortest_b1 N length R R) N 0) (· = Sum.inl ()) := by
      refine Tm.up R.length (fun k i => i = (k : Int)) rfl ?_
      rintro k hk i rfl
      unfold lawShortest_b1
      rcases Nat.lt_or_ge k R.length with hlt | hge
      · exact Tm.pos (by omega) (Tm.step (idx_n hlt) (Tm.step (idx_n hlt) (Tm.neg (by simp) (Tm.some ⟨hlt, iw_n (by omega)⟩))))
      · exact Tm.neg (by omega) (Tm.some rfl)
    exact loop.eq (Tm.some rfl)
end Go.D

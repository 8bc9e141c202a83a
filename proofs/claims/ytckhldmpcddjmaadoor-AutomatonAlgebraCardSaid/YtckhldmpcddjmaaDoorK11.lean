/-
  What the product of two automata accepts; the law And of chapter 20. Plain theorems.
-/
import Derived.Test.YtckhldmpcddjmaaDoorK10
set_option linter.unusedVariables false
set_option linter.unusedSimpArgs false
namespace Go.D
open Go Go.X

/-! ## Where a row leads -/
def stepI : List Iv → Int → Option APair
  | [], _ => none
  | t :: l, c => if t.1 ≤ c ∧ c ≤ t.2.1 then some t.2.2 else stepI l c
theorem Rw.step {L : List APair} {c : Int} : ∀ {r : List AEdge} {I : List Iv}, Rw L r I → (stepI I c = none ∧ stepE r c = -1) ∨ ∃ n : Nat, stepE r c = (n : Int) ∧ L[n]? = stepI I c ∧ (stepI I c).isSome = true
  | [], [], _ => .inl ⟨rfl, rfl⟩
  | e :: r, t :: I, ⟨h1, h2, ⟨n, h3, h4⟩, h5⟩ => by
    unfold stepI stepE
    rw [h1, h2]
    by_cases h : t.1 ≤ c ∧ c ≤ t.2.1
    · rw [if_pos h, if_pos h]
      exact .inr ⟨n, h3, h4, rfl⟩
    · rw [if_neg h, if_neg h]
      exact h5.step
  | [], _ :: _, h => h.elim
  | _ :: _, [], h => h.elim
theorem stepI_append {c : Int} : ∀ {l m : List Iv}, stepI (l ++ m) c = (stepI l c).or (stepI m c)
  | [], m => by simp [stepI]
  | t :: l, m => by
    simp only [List.cons_append, stepI]
    split
    · rfl
    · exact stepI_append
theorem cap_iff {x y : AEdge} {c : Int} (h : ¬ imax x.Low y.Low > imin x.High y.High) : (imax x.Low y.Low ≤ c ∧ c ≤ imin x.High y.High) ↔ ((x.Low ≤ c ∧ c ≤ x.High) ∧ (y.Low ≤ c ∧ c ≤ y.High)) := by
  unfold imax imin at *
  constructor <;> intro hh <;> (repeat' split at hh) <;> (repeat' split) <;> omega
theorem cap_no {x y : AEdge} {c : Int} (h : imax x.Low y.Low > imin x.High y.High) : ¬ ((x.Low ≤ c ∧ c ≤ x.High) ∧ (y.Low ≤ c ∧ c ≤ y.High)) := by
  unfold imax imin at h
  intro hh
  (repeat' split at h) <;> omega
theorem rowx_step {x : AEdge} {c : Int} : ∀ {l : List AEdge}, (∀ y ∈ l, 0 ≤ y.To) → stepI (rowx x l) c = if (x.Low ≤ c ∧ c ≤ x.High) ∧ stepE l c ≠ -1 then some ⟨x.To, stepE l c⟩ else none
  | [], _ => by simp [rowx, stepI, stepE]
  | y :: l, h => by
    have ih := rowx_step (x := x) (c := c) (l := l) (fun z hz => h z (List.mem_cons_of_mem _ hz))
    have hy := h y List.mem_cons_self
    unfold rowx
    by_cases hg : imax x.Low y.Low > imin x.High y.High
    · rw [if_pos hg, ih]
      have hno := cap_no (c := c) hg
      by_cases hx : x.Low ≤ c ∧ c ≤ x.High
      · have : stepE (y :: l) c = stepE l c := stepE_miss (fun e => hno ⟨hx, e⟩)
        rw [this]
      · rw [if_neg (fun e => hx e.1), if_neg (fun e => hx e.1)]
    · rw [if_neg hg]
      unfold stepI
      by_cases hc : imax x.Low y.Low ≤ c ∧ c ≤ imin x.High y.High
      · rw [if_pos hc]
        obtain ⟨h1, h2⟩ := (cap_iff hg).1 hc
        rw [stepE_hit h2.1 h2.2, if_pos ⟨h1, by omega⟩]
      · rw [if_neg hc, ih]
        by_cases hx : x.Low ≤ c ∧ c ≤ x.High
        · have : stepE (y :: l) c = stepE l c := stepE_miss (fun e => hc ((cap_iff hg).2 ⟨hx, e⟩))
          rw [this]
        · rw [if_neg (fun e => hx e.1), if_neg (fun e => hx e.1)]
theorem inter_step {lb : List AEdge} {c : Int} (hb : ∀ y ∈ lb, 0 ≤ y.To) : ∀ {la : List AEdge}, (∀ x ∈ la, 0 ≤ x.To) → stepI (inter la lb) c = if stepE la c ≠ -1 ∧ stepE lb c ≠ -1 then some ⟨stepE la c, stepE lb c⟩ else none
  | [], _ => by simp [inter, stepI, stepE]
  | x :: la, h => by
    have ih := inter_step hb (c := c) (la := la) (fun z hz => h z (List.mem_cons_of_mem _ hz))
    have hx := h x List.mem_cons_self
    unfold inter
    rw [stepI_append, rowx_step hb, ih]
    by_cases hc : x.Low ≤ c ∧ c ≤ x.High
    · rw [stepE_hit hc.1 hc.2]
      by_cases hn : stepE lb c = -1
      · simp [hn]
      · have hx' : x.To ≠ -1 := by omega
        simp [hc.1, hc.2, hn, hx']
    · rw [stepE_miss hc, if_neg (fun e => hc e.1)]; rfl

/-! ## It is an automaton -/
def okI : Int → List Iv → Prop
  | _, [] => True
  | b, t :: l => b < t.1 ∧ t.1 ≤ t.2.1 ∧ t.2.1 ≤ 126 ∧ okI t.2.1 l
theorem okI_low : ∀ {b b' : Int} {l : List Iv}, okI b l → b' ≤ b → okI b' l
  | _, _, [], _, _ => trivial
  | b, b', t :: l, ⟨h1, h2, h3, h4⟩, h => ⟨by omega, h2, h3, h4⟩
theorem okI_append {H : Int} : ∀ {b : Int} {l m : List Iv}, okI b l → (∀ t ∈ l, t.2.1 ≤ H) → b ≤ H → okI H m → okI b (l ++ m)
  | b, [], m, _, _, h, hm => okI_low hm h
  | b, t :: l, m, ⟨h1, h2, h3, h4⟩, hh, h, hm => ⟨h1, h2, h3, okI_append h4 (fun x hx => hh x (List.mem_cons_of_mem _ hx)) (hh t List.mem_cons_self) hm⟩
theorem rowx_hi {x : AEdge} : ∀ {l : List AEdge}, ∀ t ∈ rowx x l, t.2.1 ≤ x.High
  | [], t, h => by cases h
  | y :: l, t, h => by
    unfold rowx at h
    split at h
    · exact rowx_hi t h
    · rcases List.mem_cons.1 h with rfl | h
      · dsimp only; unfold imin; split <;> omega
      · exact rowx_hi t h
theorem rowx_ok {n : Int} {x : AEdge} : ∀ {b b' : Int} {l : List AEdge}, okE n b' l = true → (b < x.Low ∨ b ≤ b') → okI b (rowx x l)
  | b, b', [], _, _ => trivial
  | b, b', y :: l, h, hb => by
    obtain ⟨⟨g1, g2, g3, g4, g5⟩, h6⟩ := okE_cons.1 h
    unfold rowx
    by_cases hg : imax x.Low y.Low > imin x.High y.High
    · rw [if_pos hg]
      exact rowx_ok h6 (by omega)
    · rw [if_neg hg]
      have e1 : imax x.Low y.Low = max x.Low y.Low := by unfold imax; split <;> omega
      have e2 : imin x.High y.High = min x.High y.High := by unfold imin; split <;> omega
      rw [e1, e2] at hg ⊢
      exact ⟨by dsimp only; omega, by dsimp only; omega, by dsimp only; omega, rowx_ok h6 (.inr (by dsimp only; omega))⟩
theorem inter_ok {n m b' : Int} {lb : List AEdge} (hb : okE m b' lb = true) : ∀ {b : Int} {la : List AEdge}, okE n b la = true → okI b (inter la lb)
  | b, [], _ => trivial
  | b, x :: la, h => by
    obtain ⟨⟨g1, g2, g3, g4, g5⟩, h6⟩ := okE_cons.1 h
    exact okI_append (rowx_ok hb (.inl g1)) rowx_hi (by omega) (inter_ok hb h6)
theorem Rw.ok {L : List APair} : ∀ {b : Int} {r : List AEdge} {I : List Iv}, Rw L r I → okI b I → okE L.length b r = true
  | b, [], [], _, _ => rfl
  | b, e :: r, t :: I, ⟨h1, h2, ⟨n, h3, h4⟩, h5⟩, ⟨g1, g2, g3, g4⟩ => by
    have := (List.getElem?_eq_some_iff.1 h4).1
    refine okE_cons.2 ⟨⟨by omega, by omega, by omega, by omega, by omega⟩, ?_⟩
    rw [h2]; exact h5.ok g4
  | _, [], _ :: _, h, _ => h.elim
  | _, _ :: _, [], h, _ => h.elim
section
variable {a b d : ADfa} {L : List APair}
theorem Pd.ok (ha : okD a = true) (hb : okD b = true) (hn : a.Accept.length * b.Accept.length ≤ 4096) (h : Pd a b d L) : okD d = true := by
  obtain ⟨a1, a2, a3, a4⟩ := okD_iff.1 ha
  obtain ⟨b1, b2, b3, b4⟩ := okD_iff.1 hb
  have hl := inr_len h.ps.nd h.ps.inr
  have hz := (List.getElem?_eq_some_iff.1 h.zero).1
  refine okD_iff.2 ⟨by rw [h.la]; omega, by rw [h.la]; omega, by rw [h.la, h.le], fun r hr => ?_⟩
  obtain ⟨i, hi, rfl⟩ := List.mem_iff_getElem.1 hr
  have hil : i < L.length := by rw [← h.le]; exact hi
  obtain ⟨r, h1, h2⟩ := h.row i _ (List.getElem?_eq_getElem hil)
  rw [List.getElem?_eq_getElem hi] at h1
  obtain ⟨p1, p2, p3, p4⟩ := h.ps.inr _ (List.getElem_mem hil)
  have e1 : (L[i].a).toNat < a.Edges.length := by omega
  have e2 : (L[i].b).toNat < b.Edges.length := by omega
  rw [Option.some.inj h1, h.la]
  rw [getD_of e1, getD_of e2] at h2
  exact h2.ok (inter_ok (b4 _ (List.getElem_mem e2)) (a4 _ (List.getElem_mem e1)))
/-- where the product stands -/
def At2 (L : List APair) (s x y : Int) : Prop := (s = -1 ∧ (x = -1 ∨ y = -1)) ∨ ∃ n : Nat, s = (n : Int) ∧ L[n]? = some ⟨x, y⟩
theorem stp_none {d : ADfa} {c : Int} : stp d (-1) c = -1 := by unfold stp; rw [if_pos rfl]
theorem Pd.step (ha : okD a = true) (hb : okD b = true) (h : Pd a b d L) {s x y c : Int} (hs : At2 L s x y) : At2 L (stp d s c) (stp a x c) (stp b y c) := by
  obtain ⟨a1, a2, a3, a4⟩ := okD_iff.1 ha
  obtain ⟨b1, b2, b3, b4⟩ := okD_iff.1 hb
  rcases hs with ⟨rfl, hs⟩ | ⟨n, rfl, hn⟩
  · refine .inl ⟨stp_none, ?_⟩
    rcases hs with rfl | rfl
    · exact .inl stp_none
    · exact .inr stp_none
  · obtain ⟨r, h1, h2⟩ := h.row n _ hn
    have hnl := (List.getElem?_eq_some_iff.1 hn).1
    have hp := h.ps.inr _ (List.mem_of_getElem? hn)
    dsimp only at hp h2
    have e1 : x.toNat < a.Edges.length := by omega
    have e2 : y.toNat < b.Edges.length := by omega
    rw [getD_of e1, getD_of e2] at h2
    have hst := h2.step (c := c)
    rw [inter_step (fun y hy => (okE_mem (by omega) (b4 _ (List.getElem_mem e2)) y hy).2.2.2.2.1) (fun x hx => (okE_mem (by omega) (a4 _ (List.getElem_mem e1)) x hx).2.2.2.2.1)] at hst
    have s1 : stp d (n : Int) c = stepE r c := by
      unfold stp
      rw [if_neg (by omega), Int.toNat_natCast, List.getD_eq_getElem?_getD, h1]; rfl
    have s2 : stp a x c = stepE a.Edges[x.toNat] c := by unfold stp; rw [if_neg (by omega), getD_of e1]
    have s3 : stp b y c = stepE b.Edges[y.toNat] c := by unfold stp; rw [if_neg (by omega), getD_of e2]
    rw [s1, s2, s3]
    rcases hst with ⟨k1, k2⟩ | ⟨m, k1, k2, k3⟩
    · refine .inl ⟨k2, ?_⟩
      split at k1
      · cases k1
      · rename_i hc
        by_cases hx : stepE a.Edges[x.toNat] c = -1
        · exact .inl hx
        · exact .inr (Classical.byContradiction fun hy => hc ⟨hx, hy⟩)
    · split at k2
      · exact .inr ⟨m, k1, k2⟩
      · rename_i hc
        rw [if_neg hc] at k3; cases k3
theorem Pd.run (ha : okD a = true) (hb : okD b = true) (h : Pd a b d L) : ∀ {w : List Int} {s x y : Int}, At2 L s x y → At2 L (run d s w) (run a x w) (run b y w)
  | [], _, _, _, hs => hs
  | c :: w, s, x, y, hs => Pd.run ha hb h (w := w) (h.step ha hb hs)
theorem fin_none {d : ADfa} : fin d (-1) = false := by unfold fin; rw [if_pos rfl]
theorem Pd.acc2 (ha : okD a = true) (hb : okD b = true) (h : Pd a b d L) (w : List Int) : fin d (D.run d 0 w) = (fin a (D.run a 0 w) && fin b (D.run b 0 w)) := by
  have hr := h.run ha hb (w := w) (s := 0) (x := 0) (y := 0) (.inr ⟨0, rfl, h.zero⟩)
  rcases hr with ⟨h1, h2⟩ | ⟨n, h1, h2⟩
  · rw [h1, fin_none]
    rcases h2 with h2 | h2
    · rw [h2, fin_none]; rfl
    · rw [h2, fin_none, Bool.and_false]
  · rw [h1]
    have hnl := (List.getElem?_eq_some_iff.1 h2).1
    have := h.acc n _ h2
    dsimp only at this
    rw [← h.la] at hnl
    rw [List.getElem?_eq_getElem hnl] at this
    rw [fin_get rfl hnl, Option.some.inj this]
end

/-! ## The reference's look -/
def RchM (a b d : ADfa) (l : List APair2) (p : APair2) : Prop := ∃ w, Pr w ∧ (∃ n : Nat, p.A = (n : Int) ∧ l[n]? = some ⟨run a 0 w, run b 0 w⟩) ∧ p.B = run d 0 w
theorem m_len {a b d : ADfa} {l m : List APair2} (hd : okD d = true) (hl : l.length ≤ 16785409) (hn : m.Nodup) (hr : ∀ p ∈ m, RchM a b d l p) : m.length ≤ 68769820673 := by
  have e1 := (okD_iff.1 hd).2.1
  have hm : (m.map fun p => p.A.toNat * 4097 + (p.B + 1).toNat).Nodup := by
    rw [List.nodup_iff_pairwise_ne, List.pairwise_map]
    refine List.Pairwise.imp_of_mem (fun {p q} hp hq hne => ?_) (List.nodup_iff_pairwise_ne.1 hn)
    intro heq
    obtain ⟨w, _, ⟨n, h1, h2⟩, h3⟩ := hr p hp
    obtain ⟨w', _, ⟨n', h1', h2'⟩, h3'⟩ := hr q hq
    have s1 := run_st (w := w) hd (st0 hd)
    have s2 := run_st (w := w') hd (st0 hd)
    rw [← h3] at s1; rw [← h3'] at s2
    obtain ⟨pa, pb⟩ := p; obtain ⟨qa, qb⟩ := q
    have t1 := s1.1; have t2 := s1.2; have t3 := s2.1; have t4 := s2.2
    dsimp only at *
    apply hne
    have : pa = qa ∧ pb = qb := by omega
    rw [this.1, this.2]
  have := nodup_lt 68769820673 hm (fun x hx => by
    obtain ⟨p, hp, rfl⟩ := List.mem_map.1 hx
    obtain ⟨w, _, ⟨n, h1, h2⟩, h3⟩ := hr p hp
    have s1 := run_st (w := w) hd (st0 hd)
    rw [← h3] at s1
    have t1 := s1.1; have t2 := s1.2
    have := (List.getElem?_eq_some_iff.1 h2).1
    omega)
  simpa using this
theorem rPlace_in {l : List APair2} (hl : l.length ≤ 9223372036854775807) {p : APair2} (hp : p ∈ l) : Tm (fun N => rPlace N l p) (fun r => ∃ j : Nat, r = (j : Int) ∧ l[j]? = some p) := by
  refine (rPlace_tm hl p).mono fun r hr => ?_
  rcases hr with ⟨_, h⟩ | h
  · exact absurd hp h
  · exact h
theorem rIsAnd_tm {a b d : ADfa} (ha : okD a = true) (hb : okD b = true) (hd : okD d = true) (h : ∀ w, Pr w → fin d (run d 0 w) = (fin a (run a 0 w) && fin b (run b 0 w))) : Tm (fun N => rIsAnd N a b d) (· = true) := by
  unfold rIsAnd
  refine (rPairs_tm ha hb).bind fun l hl => ?_
  have hlen := pairs_len ha hb hl.nd hl.rch
  have loop : Tm (fun N => loopM (rIsAnd_b1 N a b d l) N ([(APair2.mk 0 0)], 0)) (· = Sum.inl ()) := by
    refine Tm.loopG (fun (i : Nat) (s : List APair2 × Int) => s.2 = (i : Int) ∧ i ≤ s.1.length ∧ s.1.Nodup ∧ (∀ p ∈ s.1, RchM a b d l p)) (fun i => 68769820673 - i) 0
      ⟨rfl, Nat.zero_le _, by simp, fun p hp => by rw [List.mem_singleton.1 hp]; exact ⟨[], (fun _ h => (by cases h)), ⟨0, rfl, hl.zero⟩, rfl⟩⟩ ?_
    rintro i ⟨m, ii⟩ ⟨hi, him, hnd, hrc⟩
    dsimp only at hi him hnd hrc; subst hi
    have hml := m_len hd hlen hnd hrc
    unfold rIsAnd_b1
    rcases Nat.lt_or_ge i m.length with hlt | hge
    · obtain ⟨w, hw, ⟨n, hn1, hn2⟩, hB⟩ := hrc _ (List.getElem_mem hlt)
      have hnl := (List.getElem?_eq_some_iff.1 hn2).1
      have hln : l[n] = ⟨run a 0 w, run b 0 w⟩ := (List.getElem?_eq_some_iff.1 hn2).2
      have hsa := run_st (w := w) ha (st0 ha)
      have hsb := run_st (w := w) hb (st0 hb)
      have hsd := run_st (w := w) hd (st0 hd)
      refine Tm.pos (by omega) (Tm.step (idx_n hlt) (Tm.step (idx_i hn1 hnl) ?_))
      rw [hln]
      have cond : Tm (fun N => (((rFinal N a (run a 0 w)).bind fun r3174 =>
          (if r3174 = true then
            (rFinal N b (run b 0 w)).bind fun r3178 =>
            (idx m (i : Int)).bind fun x3181 =>
            (rFinal N d x3181.B).bind fun r3193 =>
            some (!(r3178 == r3193))
          else
            (idx m (i : Int)).bind fun x3319 =>
            (rFinal N d x3319.B).bind fun r3331 =>
            some (!(false == r3331))) : Option Bool))) (· = false) := by
        have hfd : Tm (fun N => rFinal N d m[i].B) (· = (fin a (run a 0 w) && fin b (run b 0 w))) := by
          rw [hB, ← h w hw]; exact rFinal_tm hsd
        refine (rFinal_tm hsa).eq (Tm.ite (fun e => ?_) (fun e => ?_))
        · refine (rFinal_tm hsb).eq (Tm.step (idx_n hlt) (hfd.eq (Tm.some ?_)))
          show (!(_ == _)) = false
          rw [e]; cases fin b (run b 0 w) <;> rfl
        · have e' : fin a (run a 0 w) = false := by simpa using e
          refine Tm.step (idx_n hlt) (hfd.eq (Tm.some ?_))
          show (!(_ == _)) = false
          rw [e']; rfl
      refine cond.eq (Tm.neg (by simp) ?_)
      have inner : Tm (fun N => loopM (rIsAnd_b2 N a b d l (i : Int) ⟨run a 0 w, run b 0 w⟩) N (m, 32)) (fun m' => (∃ k, m' = m ++ k) ∧ m'.Nodup ∧ (∀ p ∈ m', RchM a b d l p)) := by
        refine Tm.up 95 (fun k (s : List APair2 × Int) => s.2 = ((32 + k : Nat) : Int) ∧ (∃ k, s.1 = m ++ k) ∧ s.1.Nodup ∧ (∀ p ∈ s.1, RchM a b d l p)) ⟨rfl, ⟨[], by simp⟩, hnd, hrc⟩ ?_
        rintro k hk ⟨m', cc⟩ ⟨hc, ⟨q, hq⟩, hnd', hrc'⟩
        dsimp only at hc hq hnd' hrc'; subst hc
        have hml' := m_len hd hlen hnd' hrc'
        have hpi : m'[i]? = some m[i] := by rw [hq]; exact mem_getElem?_append (List.getElem?_eq_getElem hlt)
        unfold rIsAnd_b2
        rcases Nat.lt_or_ge k 95 with hk1 | hk1
        · have hw' : Pr (w ++ [((32 + k : Nat) : Int)]) := fun x hx => by
            rcases List.mem_append.1 hx with hx | hx
            · exact hw x hx
            · rw [List.mem_singleton.1 hx]; omega
          refine Tm.pos (by omega) ((rStep_tm ha hsa).eq ((rStep_tm hb hsb).eq ?_))
          have hin : (⟨stp a (run a 0 w) ((32 + k : Nat) : Int), stp b (run b 0 w) ((32 + k : Nat) : Int)⟩ : APair2) ∈ l := by
            have := hl.run hw'
            rwa [run_snoc, run_snoc] at this
          refine (rPlace_in (by omega) hin).bind fun r hr => ?_
          obtain ⟨j, rfl, hj⟩ := hr
          refine Tm.step (idx_get hpi) ?_
          rw [hB]
          refine (rStep_tm hd hsd).eq ((rPlace_tm (by omega) _).bind fun r hr => ?_)
          rcases hr with ⟨rfl, hnot⟩ | ⟨j2, rfl, hj2⟩
          · refine Tm.pos rfl (Tm.step (apnd_ok (by simp only [List.length_singleton]; omega) (by decide)) (Tm.some ⟨hk1, ?_, ⟨q ++ [_], by rw [hq, List.append_assoc]⟩, ?_, ?_⟩))
            · show uw8 _ = _
              rw [uw8_n (by omega)]; congr 1
            · refine List.nodup_append.2 ⟨hnd', by simp, fun x hx y hy => ?_⟩
              rw [List.mem_singleton.1 hy]
              exact fun h => hnot (h ▸ hx)
            · intro p hp
              rcases List.mem_append.1 hp with hp | hp
              · exact hrc' p hp
              · rw [List.mem_singleton.1 hp]
                exact ⟨_, hw', ⟨j, rfl, by rw [hj, run_snoc, run_snoc]⟩, by rw [run_snoc]⟩
          · have := (List.getElem?_eq_some_iff.1 hj2).1
            refine Tm.neg (by omega) (Tm.some ⟨hk1, ?_, ⟨q, hq⟩, hnd', hrc'⟩)
            show uw8 _ = _
            rw [uw8_n (by omega)]; congr 1
        · exact Tm.neg (by omega) (Tm.some ⟨⟨q, hq⟩, hnd', hrc'⟩)
      refine inner.bind fun m' hm' => ?_
      obtain ⟨⟨q, hq⟩, h1, h2⟩ := hm'
      exact Tm.some ⟨i + 1, ⟨iw_n (by omega), by rw [hq, List.length_append]; omega, h1, h2⟩, by omega⟩
    · exact Tm.neg (by omega) (Tm.some rfl)
  exact loop.eq (Tm.some rfl)

/-! ## The law -/
theorem lawAnd_tm {a b : ADfa} (hla : Lim a) (hwa : Wf a) (hlb : Lim b) (hwb : Wf b) : Tm (fun N => lawAnd N a b) (· = true) := by
  unfold lawAnd
  have skip : Tm (fun N => (awake N).bind fun r38 => some r38) (· = true) := awake_tm.eq (Tm.some rfl)
  have cond : Tm (fun N => (awake N).bind fun r43 => if (!r43) = true then some true else (rFew N a).bind fun r54 => if (!r54) = true then some true else (rFew N b).bind fun r67 => some (!r67)) (· = !(few a && few b)) := by
    refine awake_tm.eq (Tm.neg (by simp) ((rFew_tm hla hwa).eq ?_))
    cases few a with
    | false => exact Tm.pos rfl (Tm.some rfl)
    | true => exact Tm.neg (by simp) ((rFew_tm hlb hwb).eq (Tm.some rfl))
  refine cond.eq ?_
  cases hf : (few a && few b) with
  | false => exact Tm.pos rfl skip
  | true =>
    rw [Bool.and_eq_true] at hf
    obtain ⟨ha, ha8⟩ := few_ok hf.1
    obtain ⟨hb, hb8⟩ := few_ok hf.2
    have hn : a.Accept.length * b.Accept.length ≤ 8 * 8 := Nat.mul_le_mul ha8 hb8
    refine Tm.neg (by simp) ?_
    refine (lown_tm (okD_lms ha)).eq ((lown_tm (okD_lms hb)).eq ((aAnd_tm ha hb (by omega)).bind fun r hr => ?_))
    obtain ⟨d, e⟩ := r
    obtain ⟨he, L, hL⟩ := hr
    dsimp only at he hL; subst he
    have hok := hL.ok ha hb (by omega)
    have cond2 : Tm (fun N => if ((0 : Int) ≠ 0) then some true else (aValid N d).bind fun r109 => some (!r109)) (· = false) :=
      Tm.neg (by simp) ((aValid_tm (okD_lms hok).lim).eq (Tm.some (by rw [hok]; rfl)))
    refine cond2.eq (Tm.neg (by simp) ((lsized_tm hok (okD_wf hok)).eq ?_))
    refine Tm.ite (fun h => Tm.some rfl) (fun h => ?_)
    exact (lback_tm (okD_lms hok)).eq ((rIsAnd_tm ha hb hok (fun w _ => hL.acc2 ha hb w)).eq (Tm.some rfl))
end Go.D

/- Plain theorems of the library of this seat. -/
import Derived.Test.YtckhldmpcddjmaaDoorKA
import Derived.Test.YtckhldmpcddjmaaDoorFD20
import Derived.Lib.ItoaLen
set_option linter.unusedVariables false
set_option linter.unusedSimpArgs false
set_option linter.unusedSectionVars false
namespace Go.D
open Go Go.X
section
variable {K : Type} [DecidableEq K]
def nm : Nat → List K → List (K × Int)
  | _, [] => []
  | k, p :: l => (p, (k : Int)) :: nm (k + 1) l
theorem nm_out {z : Int} {x : K} : ∀ {k : Nat} {l : List K}, x ∉ l → mget (nm k l) x z = (z, false)
  | _, [], _ => rfl
  | k, p :: l, h => by
    simp only [List.mem_cons, not_or] at h
    simp only [nm, mget]
    rw [if_neg (fun e => h.1 e.symm)]
    exact nm_out h.2
theorem nm_in {z : Int} {x : K} : ∀ {k : Nat} {l : List K}, x ∈ l → ∃ j : Nat, l[j]? = some x ∧ mget (nm k l) x z = (((k + j : Nat) : Int), true)
  | k, p :: l, h => by
    by_cases e : p = x
    · subst e
      exact ⟨0, rfl, by simp [nm, mget]⟩
    · have hm : x ∈ l := by
        rcases List.mem_cons.1 h with h | h
        · exact absurd h.symm e
        · exact h
      obtain ⟨j, h1, h2⟩ := nm_in (k := k + 1) hm
      refine ⟨j + 1, by simpa using h1, ?_⟩
      simp only [nm, mget]
      rw [if_neg e, h2, show k + 1 + j = k + (j + 1) by omega]
theorem nm_put {x : K} : ∀ {k : Nat} {l : List K}, x ∉ l → mput (nm k l) x ((k + l.length : Nat) : Int) = nm k (l ++ [x])
  | k, [], _ => rfl
  | k, p :: l, h => by
    simp only [List.mem_cons, not_or] at h
    simp only [nm, mput, List.cons_append, List.length_cons]
    rw [if_neg (fun e => h.1 e.symm), show k + (l.length + 1) = k + 1 + l.length by omega, nm_put h.2]
theorem nm_len : ∀ {k : Nat} {l : List K}, (nm k l).length = l.length
  | _, [] => rfl
  | k, p :: l => by simp [nm, nm_len]
end
abbrev Iv := Int × Int × APair
def rowx (x : AEdge) : List AEdge → List Iv
  | [] => []
  | y :: l => if imax x.Low y.Low > imin x.High y.High then rowx x l else (imax x.Low y.Low, imin x.High y.High, ⟨x.To, y.To⟩) :: rowx x l
def inter : List AEdge → List AEdge → List Iv
  | [], _ => []
  | x :: la, lb => rowx x lb ++ inter la lb
def Rw (L : List APair) : List AEdge → List Iv → Prop
  | [], [] => True
  | e :: r, t :: I => e.Low = t.1 ∧ e.High = t.2.1 ∧ (∃ n : Nat, e.To = (n : Int) ∧ L[n]? = some t.2.2) ∧ Rw L r I
  | _, _ => False
theorem Rw.more {L M : List APair} : ∀ {r : List AEdge} {I : List Iv}, Rw L r I → Rw (L ++ M) r I
  | [], [], _ => trivial
  | _ :: _, _ :: _, ⟨h1, h2, ⟨n, h3, h4⟩, h5⟩ => ⟨h1, h2, ⟨n, h3, mem_getElem?_append h4⟩, h5.more⟩
  | [], _ :: _, h => h.elim
  | _ :: _, [], h => h.elim
theorem Rw.len {L : List APair} : ∀ {r : List AEdge} {I : List Iv}, Rw L r I → r.length = I.length
  | [], [], _ => rfl
  | _ :: _, _ :: _, ⟨_, _, _, h⟩ => by simp [h.len]
  | [], _ :: _, h => h.elim
  | _ :: _, [], h => h.elim
def InR (na nb : Nat) (L : List APair) : Prop := ∀ p ∈ L, 0 ≤ p.a ∧ p.a < (na : Int) ∧ 0 ≤ p.b ∧ p.b < (nb : Int)
theorem inr_len {na nb : Nat} {L : List APair} (hn : L.Nodup) (h : InR na nb L) : L.length ≤ na * nb := by
  have hm : (L.map fun p => p.a.toNat * nb + p.b.toNat).Nodup := by
    rw [List.nodup_iff_pairwise_ne, List.pairwise_map]
    refine List.Pairwise.imp_of_mem (fun {p q} hp hq hne => ?_) (List.nodup_iff_pairwise_ne.1 hn)
    intro heq
    obtain ⟨p1, p2, p3, p4⟩ := h p hp
    obtain ⟨q1, q2, q3, q4⟩ := h q hq
    obtain ⟨pa, pb⟩ := p; obtain ⟨qa, qb⟩ := q
    dsimp only at *
    apply hne
    obtain ⟨u, rfl⟩ : ∃ u : Nat, pa = u := ⟨pa.toNat, by omega⟩
    obtain ⟨v, rfl⟩ : ∃ v : Nat, pb = v := ⟨pb.toNat, by omega⟩
    obtain ⟨u', rfl⟩ : ∃ u : Nat, qa = u := ⟨qa.toNat, by omega⟩
    obtain ⟨v', rfl⟩ : ∃ v : Nat, qb = v := ⟨qb.toNat, by omega⟩
    simp only [Int.toNat_natCast] at heq
    have hv : v < nb := by omega
    have hv' : v' < nb := by omega
    have e1 : (u * nb + v) / nb = u := by rw [Nat.mul_comm, Nat.mul_add_div (by omega), Nat.div_eq_of_lt hv, Nat.add_zero]
    have e2 : (u' * nb + v') / nb = u' := by rw [Nat.mul_comm, Nat.mul_add_div (by omega), Nat.div_eq_of_lt hv', Nat.add_zero]
    have e3 : u = u' := by rw [← e1, heq, e2]
    subst e3
    have e4 : v = v' := by omega
    rw [e4]
  have := nodup_lt (na * nb) hm (fun x hx => by
    obtain ⟨p, hp, rfl⟩ := List.mem_map.1 hx
    obtain ⟨p1, p2, p3, p4⟩ := h p hp
    have h1 : p.a.toNat + 1 ≤ na := by omega
    have h2 : (p.a.toNat + 1) * nb ≤ na * nb := Nat.mul_le_mul_right _ h1
    rw [Nat.add_mul] at h2
    omega)
  simpa using this
structure Ps (na nb : Nat) (L : List APair) : Prop where
  nd : L.Nodup
  inr : InR na nb L
structure Pd (a b d : ADfa) (L : List APair) : Prop where
  ps : Ps a.Accept.length b.Accept.length L
  zero : L[0]? = some ⟨0, 0⟩
  la : d.Accept.length = L.length
  le : d.Edges.length = L.length
  acc : ∀ (i : Nat) (p : APair), L[i]? = some p → d.Accept[i]? = some (fin a p.a && fin b p.b)
  row : ∀ (i : Nat) (p : APair), L[i]? = some p → ∃ r, d.Edges[i]? = some r ∧ Rw L r (inter (a.Edges.getD p.a.toNat []) (b.Edges.getD p.b.toNat []))
theorem fin_get {d : ADfa} {s : Int} {n : Nat} (hn : s = (n : Int)) (h : n < d.Accept.length) : fin d s = d.Accept[n] := by
  subst hn
  unfold fin
  rw [if_neg (by omega), Int.toNat_natCast, getD_of h]
end Go.D
set_option linter.unusedVariables false
set_option linter.unusedSimpArgs false
namespace Go.D
open Go Go.X
def stepI : List Iv → Int → Option APair
  | [], _ => none
  | t :: l, c => if t.1 ≤ c ∧ c ≤ t.2.1 then some t.2.2 else stepI l c
theorem Rw.step {L : List APair} {c : Int} : ∀ {r : List AEdge} {I : List Iv}, Rw L r I → (stepI I c = none ∧ stepE r c = -1) ∨ ∃ n : Nat, stepE r c = (n : Int) ∧ L[n]? = stepI I c ∧ (stepI I c).isSome = true
  | [], [], _ => .inl ⟨rfl, rfl⟩
  | e :: r, t :: I, ⟨h1, h2, ⟨n, h3, h4⟩, h5⟩ => by
    unfold stepI stepE
    rw [h1, h2]
    by_cases h : t.1 ≤ c ∧ c ≤ t.2.1
    · rw [if_pos h, if_pos h]
      exact .inr ⟨n, h3, h4, rfl⟩
    · rw [if_neg h, if_neg h]
      exact h5.step
  | [], _ :: _, h => h.elim
  | _ :: _, [], h => h.elim
theorem stepI_append {c : Int} : ∀ {l m : List Iv}, stepI (l ++ m) c = (stepI l c).or (stepI m c)
  | [], m => by simp [stepI]
  | t :: l, m => by
    simp only [List.cons_append, stepI]
    split
    · rfl
    · exact stepI_append
theorem cap_iff {x y : AEdge} {c : Int} (h : ¬ imax x.Low y.Low > imin x.High y.High) : (imax x.Low y.Low ≤ c ∧ c ≤ imin x.High y.High) ↔ ((x.Low ≤ c ∧ c ≤ x.High) ∧ (y.Low ≤ c ∧ c ≤ y.High)) := by
  unfold imax imin at *
  constructor <;> intro hh <;> (repeat' split at hh) <;> (repeat' split) <;> omega
theorem cap_no {x y : AEdge} {c : Int} (h : imax x.Low y.Low > imin x.High y.High) : ¬ ((x.Low ≤ c ∧ c ≤ x.High) ∧ (y.Low ≤ c ∧ c ≤ y.High)) := by
  unfold imax imin at h
  intro hh
  (repeat' split at h) <;> omega
theorem rowx_step {x : AEdge} {c : Int} : ∀ {l : List AEdge}, (∀ y ∈ l, 0 ≤ y.To) → stepI (rowx x l) c = if (x.Low ≤ c ∧ c ≤ x.High) ∧ stepE l c ≠ -1 then some ⟨x.To, stepE l c⟩ else none
  | [], _ => by simp [rowx, stepI, stepE]
  | y :: l, h => by
    have ih := rowx_step (x := x) (c := c) (l := l) (fun z hz => h z (List.mem_cons_of_mem _ hz))
    have hy := h y List.mem_cons_self
    unfold rowx
    by_cases hg : imax x.Low y.Low > imin x.High y.High
    · rw [if_pos hg, ih]
      have hno := cap_no (c := c) hg
      by_cases hx : x.Low ≤ c ∧ c ≤ x.High
      · have : stepE (y :: l) c = stepE l c := stepE_miss (fun e => hno ⟨hx, e⟩)
        rw [this]
      · rw [if_neg (fun e => hx e.1), if_neg (fun e => hx e.1)]
    · rw [if_neg hg]
      unfold stepI
      by_cases hc : imax x.Low y.Low ≤ c ∧ c ≤ imin x.High y.High
      · rw [if_pos hc]
        obtain ⟨h1, h2⟩ := (cap_iff hg).1 hc
        rw [stepE_hit h2.1 h2.2, if_pos ⟨h1, by omega⟩]
      · rw [if_neg hc, ih]
        by_cases hx : x.Low ≤ c ∧ c ≤ x.High
        · have : stepE (y :: l) c = stepE l c := stepE_miss (fun e => hc ((cap_iff hg).2 ⟨hx, e⟩))
          rw [this]
        · rw [if_neg (fun e => hx e.1), if_neg (fun e => hx e.1)]
theorem inter_step {lb : List AEdge} {c : Int} (hb : ∀ y ∈ lb, 0 ≤ y.To) : ∀ {la : List AEdge}, (∀ x ∈ la, 0 ≤ x.To) → stepI (inter la lb) c = if stepE la c ≠ -1 ∧ stepE lb c ≠ -1 then some ⟨stepE la c, stepE lb c⟩ else none
  | [], _ => by simp [inter, stepI, stepE]
  | x :: la, h => by
    have ih := inter_step hb (c := c) (la := la) (fun z hz => h z (List.mem_cons_of_mem _ hz))
    have hx := h x List.mem_cons_self
    unfold inter
    rw [stepI_append, rowx_step hb, ih]
    by_cases hc : x.Low ≤ c ∧ c ≤ x.High
    · rw [stepE_hit hc.1 hc.2]
      by_cases hn : stepE lb c = -1
      · simp [hn]
      · have hx' : x.To ≠ -1 := by omega
        simp [hc.1, hc.2, hn, hx']
    · rw [stepE_miss hc, if_neg (fun e => hc e.1)]; rfl
def okI : Int → List Iv → Prop
  | _, [] => True
  | b, t :: l => b < t.1 ∧ t.1 ≤ t.2.1 ∧ t.2.1 ≤ 126 ∧ okI t.2.1 l
theorem okI_low : ∀ {b b' : Int} {l : List Iv}, okI b l → b' ≤ b → okI b' l
  | _, _, [], _, _ => trivial
  | b, b', t :: l, ⟨h1, h2, h3, h4⟩, h => ⟨by omega, h2, h3, h4⟩
theorem okI_append {H : Int} : ∀ {b : Int} {l m : List Iv}, okI b l → (∀ t ∈ l, t.2.1 ≤ H) → b ≤ H → okI H m → okI b (l ++ m)
  | b, [], m, _, _, h, hm => okI_low hm h
  | b, t :: l, m, ⟨h1, h2, h3, h4⟩, hh, h, hm => ⟨h1, h2, h3, okI_append h4 (fun x hx => hh x (List.mem_cons_of_mem _ hx)) (hh t List.mem_cons_self) hm⟩
theorem rowx_hi {x : AEdge} : ∀ {l : List AEdge}, ∀ t ∈ rowx x l, t.2.1 ≤ x.High
  | [], t, h => by cases h
  | y :: l, t, h => by
    unfold rowx at h
    split at h
    · exact rowx_hi t h
    · rcases List.mem_cons.1 h with rfl | h
      · dsimp only; unfold imin; split <;> omega
      · exact rowx_hi t h
theorem rowx_ok {n : Int} {x : AEdge} : ∀ {b b' : Int} {l : List AEdge}, okE n b' l = true → (b < x.Low ∨ b ≤ b') → okI b (rowx x l)
  | b, b', [], _, _ => trivial
  | b, b', y :: l, h, hb => by
    obtain ⟨⟨g1, g2, g3, g4, g5⟩, h6⟩ := okE_cons.1 h
    unfold rowx
    by_cases hg : imax x.Low y.Low > imin x.High y.High
    · rw [if_pos hg]
      exact rowx_ok h6 (by omega)
    · rw [if_neg hg]
      have e1 : imax x.Low y.Low = max x.Low y.Low := by unfold imax; split <;> omega
      have e2 : imin x.High y.High = min x.High y.High := by unfold imin; split <;> omega
      rw [e1, e2] at hg ⊢
      exact ⟨by dsimp only; omega, by dsimp only; omega, by dsimp only; omega, rowx_ok h6 (.inr (by dsimp only; omega))⟩
theorem inter_ok {n m b' : Int} {lb : List AEdge} (hb : okE m b' lb = true) : ∀ {b : Int} {la : List AEdge}, okE n b la = true → okI b (inter la lb)
  | b, [], _ => trivial
  | b, x :: la, h => by
    obtain ⟨⟨g1, g2, g3, g4, g5⟩, h6⟩ := okE_cons.1 h
    exact okI_append (rowx_ok hb (.inl g1)) rowx_hi (by omega) (inter_ok hb h6)
theorem Rw.ok {L : List APair} : ∀ {b : Int} {r : List AEdge} {I : List Iv}, Rw L r I → okI b I → okE L.length b r = true
  | b, [], [], _, _ => rfl
  | b, e :: r, t :: I, ⟨h1, h2, ⟨n, h3, h4⟩, h5⟩, ⟨g1, g2, g3, g4⟩ => by
    have := (List.getElem?_eq_some_iff.1 h4).1
    refine okE_cons.2 ⟨⟨by omega, by omega, by omega, by omega, by omega⟩, ?_⟩
    rw [h2]; exact h5.ok g4
  | _, [], _ :: _, h, _ => h.elim
  | _, _ :: _, [], h, _ => h.elim
section
variable {a b d : ADfa} {L : List APair}
theorem Pd.ok (ha : okD a = true) (hb : okD b = true) (hn : a.Accept.length * b.Accept.length ≤ 4096) (h : Pd a b d L) : okD d = true := by
  obtain ⟨a1, a2, a3, a4⟩ := okD_iff.1 ha
  obtain ⟨b1, b2, b3, b4⟩ := okD_iff.1 hb
  have hl := inr_len h.ps.nd h.ps.inr
  have hz := (List.getElem?_eq_some_iff.1 h.zero).1
  refine okD_iff.2 ⟨by rw [h.la]; omega, by rw [h.la]; omega, by rw [h.la, h.le], fun r hr => ?_⟩
  obtain ⟨i, hi, rfl⟩ := List.mem_iff_getElem.1 hr
  have hil : i < L.length := by rw [← h.le]; exact hi
  obtain ⟨r, h1, h2⟩ := h.row i _ (List.getElem?_eq_getElem hil)
  rw [List.getElem?_eq_getElem hi] at h1
  obtain ⟨p1, p2, p3, p4⟩ := h.ps.inr _ (List.getElem_mem hil)
  have e1 : (L[i].a).toNat < a.Edges.length := by omega
  have e2 : (L[i].b).toNat < b.Edges.length := by omega
  rw [Option.some.inj h1, h.la]
  rw [getD_of e1, getD_of e2] at h2
  exact h2.ok (inter_ok (b4 _ (List.getElem_mem e2)) (a4 _ (List.getElem_mem e1)))
def At2 (L : List APair) (s x y : Int) : Prop := (s = -1 ∧ (x = -1 ∨ y = -1)) ∨ ∃ n : Nat, s = (n : Int) ∧ L[n]? = some ⟨x, y⟩
theorem stp_none {d : ADfa} {c : Int} : stp d (-1) c = -1 := by unfold stp; rw [if_pos rfl]
theorem Pd.step (ha : okD a = true) (hb : okD b = true) (h : Pd a b d L) {s x y c : Int} (hs : At2 L s x y) : At2 L (stp d s c) (stp a x c) (stp b y c) := by
  obtain ⟨a1, a2, a3, a4⟩ := okD_iff.1 ha
  obtain ⟨b1, b2, b3, b4⟩ := okD_iff.1 hb
  rcases hs with ⟨rfl, hs⟩ | ⟨n, rfl, hn⟩
  · refine .inl ⟨stp_none, ?_⟩
    rcases hs with rfl | rfl
    · exact .inl stp_none
    · exact .inr stp_none
  · obtain ⟨r, h1, h2⟩ := h.row n _ hn
    have hnl := (List.getElem?_eq_some_iff.1 hn).1
    have hp := h.ps.inr _ (List.mem_of_getElem? hn)
    dsimp only at hp h2
    have e1 : x.toNat < a.Edges.length := by omega
    have e2 : y.toNat < b.Edges.length := by omega
    rw [getD_of e1, getD_of e2] at h2
    have hst := h2.step (c := c)
    rw [inter_step (fun y hy => (okE_mem (by omega) (b4 _ (List.getElem_mem e2)) y hy).2.2.2.2.1) (fun x hx => (okE_mem (by omega) (a4 _ (List.getElem_mem e1)) x hx).2.2.2.2.1)] at hst
    have s1 : stp d (n : Int) c = stepE r c := by
      unfold stp
      rw [if_neg (by omega), Int.toNat_natCast, List.getD_eq_getElem?_getD, h1]; rfl
    have s2 : stp a x c = stepE a.Edges[x.toNat] c := by unfold stp; rw [if_neg (by omega), getD_of e1]
    have s3 : stp b y c = stepE b.Edges[y.toNat] c := by unfold stp; rw [if_neg (by omega), getD_of e2]
    rw [s1, s2, s3]
    rcases hst with ⟨k1, k2⟩ | ⟨m, k1, k2, k3⟩
    · refine .inl ⟨k2, ?_⟩
      split at k1
      · cases k1
      · rename_i hc
        by_cases hx : stepE a.Edges[x.toNat] c = -1
        · exact .inl hx
        · exact .inr (Classical.byContradiction fun hy => hc ⟨hx, hy⟩)
    · split at k2
      · exact .inr ⟨m, k1, k2⟩
      · rename_i hc
        rw [if_neg hc] at k3; cases k3
theorem Pd.run (ha : okD a = true) (hb : okD b = true) (h : Pd a b d L) : ∀ {w : List Int} {s x y : Int}, At2 L s x y → At2 L (run d s w) (run a x w) (run b y w)
  | [], _, _, _, hs => hs
  | c :: w, s, x, y, hs => Pd.run ha hb h (w := w) (h.step ha hb hs)
theorem fin_none {d : ADfa} : fin d (-1) = false := by unfold fin; rw [if_pos rfl]
end
end Go.D
set_option linter.unusedVariables false
set_option linter.unusedSimpArgs false
namespace Go.D
open Go Go.X
def pf (p : APair2) : APair := ⟨p.A, p.B⟩
theorem pf_inj {p q : APair2} (h : pf p = pf q) : p = q := by
  obtain ⟨a, b⟩ := p; obtain ⟨c, d⟩ := q
  unfold pf at h
  injection h with h1 h2
  dsimp only at h1 h2
  rw [h1, h2]
def mks (L : List APair2) : List (APair × Bool) := L.map fun p => (pf p, true)
theorem mks_in {q : APair2} : ∀ {L : List APair2}, q ∈ L → mget (mks L) (pf q) false = (true, true)
  | p :: L, h => by
    show mget ((pf p, true) :: mks L) (pf q) false = _
    unfold mget
    by_cases e : pf p = pf q
    · rw [if_pos e]
    · rw [if_neg e]
      rcases List.mem_cons.1 h with rfl | h
      · exact absurd rfl e
      · exact mks_in h
theorem mks_out {q : APair2} : ∀ {L : List APair2}, q ∉ L → mget (mks L) (pf q) false = (false, false)
  | [], _ => rfl
  | p :: L, h => by
    simp only [List.mem_cons, not_or] at h
    show mget ((pf p, true) :: mks L) (pf q) false = _
    unfold mget
    rw [if_neg (fun e => h.1 (pf_inj e).symm)]
    exact mks_out h.2
theorem mks_put {q : APair2} : ∀ {L : List APair2}, q ∉ L → mput (mks L) (pf q) true = mks (L ++ [q])
  | [], _ => rfl
  | p :: L, h => by
    simp only [List.mem_cons, not_or] at h
    show mput ((pf p, true) :: mks L) (pf q) true = (pf p, true) :: mks (L ++ [q])
    unfold mput
    rw [if_neg (fun e => h.1 (pf_inj e).symm), mks_put h.2]
def Same (a b : ADfa) : Prop := ∀ w, Pr w → fin a (run a 0 w) = fin b (run b 0 w)
theorem Same.symm {a b : ADfa} (h : Same a b) : Same b a := fun w hw => (h w hw).symm
theorem drp_ok {α : Type} {xs : List α} {n : Nat} (h : n ≤ xs.length) : drp xs (n : Int) = some (xs.drop n) := drp_eq h
theorem aEquivalent_tm {a b : ADfa} (ha : okD a = true) (hb : okD b = true) : Tm (fun N => aEquivalent N a b) (fun r => r = true ↔ Same a b) := by
  unfold aEquivalent
  have outer : Tm (fun N => loopM (aEquivalent_b1 N a b) N ((mput ([] : (List (APair × Bool))) (APair.mk 0 0) true), [(APair.mk 0 0)])) (fun r => (r = Sum.inl () ∧ Same a b) ∨ (r = Sum.inr false ∧ ¬ Same a b)) := by
    refine Tm.loopG (fun (i : Nat) s => ∃ L : List APair2, s = (mks L, (L.drop i).map pf) ∧ i ≤ L.length ∧ L.Nodup ∧ (∀ p ∈ L, Rch a b p) ∧ L[0]? = some ⟨0, 0⟩ ∧ (∀ j p, j < i → L[j]? = some p → ∀ c, 32 ≤ c → c ≤ 126 → nx a b p c ∈ L) ∧ ∀ j p, j < i → L[j]? = some p → fin a p.A = fin b p.B) (fun i => 16785409 - i) 0
      ⟨[⟨0, 0⟩], rfl, Nat.zero_le _, by simp, fun p hp => by rw [List.mem_singleton.1 hp]; exact Rch.zero, rfl, fun j p hj => absurd hj (by omega), fun j p hj => absurd hj (by omega)⟩ ?_
    rintro i s ⟨L, rfl, hil, hnd, hrc, hz, hcl, hfn⟩
    have hlen := pairs_len ha hb hnd hrc
    unfold aEquivalent_b1
    rcases Nat.lt_or_ge i L.length with hlt | hge
    · have hp : L[i]? = some L[i] := List.getElem?_eq_getElem hlt
      have hd : L.drop i = L[i] :: L.drop (i + 1) := List.drop_eq_getElem_cons hlt
      have hrx := hrc _ (List.getElem_mem hlt)
      have hst := hrx.st ha hb
      refine Tm.pos (by rw [List.length_map, List.length_drop]; omega) ?_
      have hq0 : idx ((L.drop i).map pf) 0 = some (pf L[i]) := by rw [hd]; rfl
      have cond : Tm (fun N => (((idx ((L.drop i).map pf) 0).bind fun x3122 =>
          (aFinal N a x3122.a).bind fun r3143 =>
          (aFinal N b x3122.b).bind fun r3190 =>
          (if (!(r3143 == r3190)) = true then
            some (Sum.inr false)
          else
            (loopM (aEquivalent_b2 N a b x3122) N (mks L, (L.drop i).map pf, 32)).bind fun ss =>
              match ss with
              | (seen3543, queue3551) =>
                some (Sum.inl (seen3543, queue3551))) : Option (Sum ((List (APair × Bool)) × (List APair)) Bool))))
          (fun r => (r = Sum.inr false ∧ fin a L[i].A ≠ fin b L[i].B) ∨ (fin a L[i].A = fin b L[i].B ∧ ∃ M, r = Sum.inl (mks (L ++ M), ((L ++ M).drop i).map pf) ∧ (L ++ M).Nodup ∧ (∀ p ∈ L ++ M, Rch a b p) ∧ ∀ c, 32 ≤ c → c ≤ 126 → nx a b L[i] c ∈ L ++ M)) := by
        refine Tm.step hq0 ((aFinal_tm hst.1).eq ((aFinal_tm hst.2).eq (Tm.ite (fun h => Tm.some (.inl ⟨rfl, ?_⟩)) (fun h => ?_))))
        · intro e; rw [e] at h; simp at h
        · have heq : fin a L[i].A = fin b L[i].B := by simpa using h
          have inner : Tm (fun N => loopM (aEquivalent_b2 N a b (pf L[i])) N (mks L, (L.drop i).map pf, 32)) (fun r => ∃ M, r = (mks (L ++ M), ((L ++ M).drop i).map pf) ∧ (L ++ M).Nodup ∧ (∀ p ∈ L ++ M, Rch a b p) ∧ ∀ c, 32 ≤ c → c ≤ 126 → nx a b L[i] c ∈ L ++ M) := by
            refine Tm.up 95 (fun k s => ∃ M, s = (mks (L ++ M), ((L ++ M).drop i).map pf, ((32 + k : Nat) : Int)) ∧ (L ++ M).Nodup ∧ (∀ p ∈ L ++ M, Rch a b p) ∧ ∀ c : Int, 32 ≤ c → c < 32 + k → nx a b L[i] c ∈ L ++ M)
              ⟨[], by simp, by simpa using hnd, by simpa using hrc, fun c h1 h2 => by omega⟩ ?_
            rintro k hk s ⟨M, rfl, hnd', hrc', hcl'⟩
            have hlen' := pairs_len ha hb hnd' hrc'
            unfold aEquivalent_b2
            rcases Nat.lt_or_ge k 95 with hk1 | hk1
            · have hu : uw8 ((32 + k : Nat) : Int) = ((32 + k : Nat) : Int) := uw8_eq (by omega) (by omega)
              refine Tm.pos (by omega) ?_
              rw [hu]
              refine (aStep_tm ha hst.1).eq ((aStep_tm hb hst.2).eq ?_)
              have hnx : Rch a b (nx a b L[i] ((32 + k : Nat) : Int)) := hrx.nx (by omega) (by omega)
              have hpf : (APair.mk (stp a L[i].A ((32 + k : Nat) : Int)) (stp b L[i].B ((32 + k : Nat) : Int))) = pf (nx a b L[i] ((32 + k : Nat) : Int)) := rfl
              rw [hpf]
              have hcon : ∀ l2 : List APair2, (∀ p ∈ L ++ M, p ∈ l2) → nx a b L[i] ((32 + k : Nat) : Int) ∈ l2 → ∀ c : Int, 32 ≤ c → c < 32 + ((k + 1 : Nat) : Int) → nx a b L[i] c ∈ l2 := by
                intro l2 hsub hin c h1 h2
                by_cases hce : c = ((32 + k : Nat) : Int)
                · rw [hce]; exact hin
                · exact hsub _ (hcl' c h1 (by omega))
              by_cases hm : nx a b L[i] ((32 + k : Nat) : Int) ∈ L ++ M
              · rw [mks_in hm]
                refine Tm.neg (by simp) (Tm.some ⟨hk1, M, by rw [iw_eq (by omega) (by omega)]; congr 1, hnd', hrc', hcon _ (fun p hp => hp) hm⟩)
              · rw [mks_out hm, mks_put hm]
                refine Tm.pos rfl (Tm.step (apnd_ok (by simp only [List.length_map, List.length_drop, List.length_singleton]; omega) (by decide)) (Tm.some ⟨hk1, M ++ [nx a b L[i] ((32 + k : Nat) : Int)], ?_, ?_, ?_, ?_⟩))
                · rw [iw_eq (by omega) (by omega), ← List.append_assoc, List.drop_append_of_le_length (show i ≤ (L ++ M).length by rw [List.length_append]; omega), List.map_append]
                  congr 1
                · rw [← List.append_assoc]
                  refine List.nodup_append.2 ⟨hnd', by simp, fun x hx y hy => ?_⟩
                  rw [List.mem_singleton.1 hy]
                  exact fun h => hm (h ▸ hx)
                · rw [← List.append_assoc]
                  intro p hp
                  rcases List.mem_append.1 hp with hp | hp
                  · exact hrc' p hp
                  · rw [List.mem_singleton.1 hp]; exact hnx
                · rw [← List.append_assoc]
                  exact hcon _ (fun p hp => List.mem_append_left _ hp) (List.mem_append_right _ (by simp))
            · exact Tm.neg (by omega) (Tm.some ⟨M, rfl, hnd', hrc', fun c h1 h2 => hcl' c h1 (by omega)⟩)
          refine inner.bind fun r hr => ?_
          obtain ⟨M, rfl, h1, h2, h3⟩ := hr
          exact Tm.some (.inr ⟨heq, M, rfl, h1, h2, h3⟩)
      refine cond.bind fun r hr => ?_
      rcases hr with ⟨rfl, hne⟩ | ⟨heq, M, rfl, hnd', hrc', hcl'⟩
      · refine Tm.some (.inr ⟨rfl, fun hs => ?_⟩)
        obtain ⟨w, hw, he⟩ := hrx
        rw [he] at hne
        exact hne (hs w hw)
      · refine Tm.step (a := ((L ++ M).drop (i + 1)).map pf) ?_ (Tm.some ⟨i + 1, ⟨L ++ M, rfl, by rw [List.length_append]; omega, hnd', hrc', mem_getElem?_append hz, fun j p hj hjp c h1 h2 => ?_, fun j p hj hjp => ?_⟩, by omega⟩)
        · have e : (1 : Int) = ((1 : Nat) : Int) := rfl
          rw [e, drp_ok (by rw [List.length_map, List.length_drop, List.length_append]; omega), ← List.map_drop, List.drop_drop]
        · by_cases hji : j = i
          · subst hji
            have : (L ++ M)[j]? = some L[j] := mem_getElem?_append hp
            rw [hjp] at this; cases this
            exact hcl' c h1 h2
          · rw [List.getElem?_append_left (by omega)] at hjp
            exact List.mem_append_left _ (hcl j p (by omega) hjp c h1 h2)
        · by_cases hji : j = i
          · subst hji
            have : (L ++ M)[j]? = some L[j] := mem_getElem?_append hp
            rw [hjp] at this; cases this
            exact heq
          · rw [List.getElem?_append_left (by omega)] at hjp
            exact hfn j p (by omega) hjp
    · refine Tm.neg (by rw [List.drop_eq_nil_of_le hge]; simp) (Tm.some (.inl ⟨rfl, fun w hw => ?_⟩))
      have hps : PS a b L := ⟨hnd, hrc, hz, fun p hp c h1 h2 => by
        obtain ⟨j, hj, rfl⟩ := List.mem_iff_getElem.1 hp
        exact hcl j _ (by omega) (List.getElem?_eq_getElem hj) c h1 h2⟩
      obtain ⟨j, hj, he⟩ := List.mem_iff_getElem.1 (hps.run hw)
      have := hfn j _ (by omega) (List.getElem?_eq_getElem hj)
      rw [he] at this
      exact this
  refine outer.bind fun r hr => ?_
  rcases hr with ⟨rfl, h⟩ | ⟨rfl, h⟩
  · exact Tm.some ⟨fun _ => h, fun _ => rfl⟩
  · exact Tm.some ⟨fun e => (by cases e), fun e => absurd e h⟩
theorem aEquivalent_yes {a b : ADfa} (ha : okD a = true) (hb : okD b = true) (h : Same a b) : Tm (fun N => aEquivalent N a b) (· = true) := (aEquivalent_tm ha hb).mono fun r hr => hr.2 h
end Go.D
set_option linter.unusedVariables false
set_option linter.unusedSimpArgs false
namespace Go.D
open Go Go.X
def Reach (d : ADfa) (s : Int) : Prop := ∃ w, Pr w ∧ run d 0 w = s
def Live (d : ADfa) (s : Int) : Prop := ∃ w, Pr w ∧ fin d (run d s w) = true
theorem Reach.zero {d : ADfa} : Reach d 0 := ⟨[], fun _ h => (by cases h), rfl⟩
theorem Reach.step {d : ADfa} {s c : Int} (h : Reach d s) (h1 : 32 ≤ c) (h2 : c ≤ 126) : Reach d (stp d s c) := by
  obtain ⟨w, hw, rfl⟩ := h
  refine ⟨w ++ [c], fun x hx => ?_, by rw [run_snoc]⟩
  rcases List.mem_append.1 hx with hx | hx
  · exact hw x hx
  · rw [List.mem_singleton.1 hx]; exact ⟨h1, h2⟩
theorem Live.step {d : ADfa} {s c : Int} (h : Live d (stp d s c)) (h1 : 32 ≤ c) (h2 : c ≤ 126) : Live d s := by
  obtain ⟨w, hw, h⟩ := h
  refine ⟨c :: w, fun x hx => ?_, h⟩
  rcases List.mem_cons.1 hx with rfl | hx
  · exact ⟨h1, h2⟩
  · exact hw x hx
theorem not_live_none {d : ADfa} : ¬ Live d (-1) := by
  rintro ⟨w, _, h⟩
  have : ∀ w : List Int, run d (-1) w = -1 := by
    intro w
    induction w with
    | nil => rfl
    | cons c w ih => show run d (stp d (-1) c) w = -1; rw [stp_none]; exact ih
  rw [this, fin_none] at h; cases h
theorem edge_step {d : ADfa} (hd : okD d = true) {s : Nat} (hs : s < d.Edges.length) {e : AEdge} (he : e ∈ d.Edges[s]) : stp d (s : Int) e.Low = e.To ∧ 32 ≤ e.Low ∧ e.Low ≤ 126 ∧ 0 ≤ e.To ∧ e.To < d.Accept.length := by
  obtain ⟨g1, g2, g3, g4⟩ := okD_iff.1 hd
  have hok := g4 _ (List.getElem_mem hs)
  have hm := okE_mem (by omega) hok e he
  refine ⟨?_, hm.1, hm.2.1, hm.2.2.2.2.1, hm.2.2.2.2.2⟩
  unfold stp
  rw [if_neg (by omega), Int.toNat_natCast, getD_of hs]
  exact stepE_mem hok e he _ (Int.le_refl _) (okE_lh hok e he)
theorem step_edge {d : ADfa} {s : Nat} (hs : s < d.Edges.length) {c : Int} (h : stp d (s : Int) c ≠ -1) : ∃ e ∈ d.Edges[s], e.To = stp d (s : Int) c := by
  have e1 : stp d (s : Int) c = stepE d.Edges[s] c := by unfold stp; rw [if_neg (by omega), Int.toNat_natCast, getD_of hs]
  rw [e1] at h ⊢
  exact stepE_is rfl h
def Rx (L : List Nat) (r : List Bool) (n : Nat) : Prop := r.length = n ∧ ∀ (j : Nat) (h : j < r.length), r[j] = true ↔ j ∈ L
theorem Rx.add {L : List Nat} {r : List Bool} {n t : Nat} (h : Rx L r n) : Rx (L ++ [t]) (r.set t true) n := by
  refine ⟨by simpa using h.1, fun j hj => ?_⟩
  rw [List.getElem_set]
  by_cases e : t = j
  · subst e; simp
  · rw [if_neg e, h.2 j (by simpa using hj)]
    simp; intro h; exact absurd h.symm e
theorem aUseful_b2_tm {d : ADfa} (hd : okD d = true) {s i : Nat} (hs : s < d.Edges.length) {L : List Nat} {r : List Bool} (hR : Rx L r d.Accept.length) (hn : L.Nodup) (hr : ∀ j ∈ L, j < d.Accept.length ∧ Reach d (j : Int)) (hrs : Reach d (s : Int)) (hi : i ≤ L.length) :
    Tm (fun N => loopM (aUseful_b2 N d.Edges[s]) N (r, (L.drop i).map (fun (j : Nat) => (j : Int)), 0)) (fun t => ∃ M, t.2 = ((L ++ M).drop i).map (fun (j : Nat) => (j : Int)) ∧ Rx (L ++ M) t.1 d.Accept.length ∧ (L ++ M).Nodup ∧ (∀ j ∈ L ++ M, j < d.Accept.length ∧ Reach d (j : Int)) ∧ ∀ e ∈ d.Edges[s], e.To.toNat ∈ L ++ M) := by
  obtain ⟨g1, g2, g3, g4⟩ := okD_iff.1 hd
  have hll := okE_len (g4 _ (List.getElem_mem hs))
  refine Tm.up d.Edges[s].length (fun k t => t.2.2 = (k : Int) ∧ ∃ M, t.2.1 = ((L ++ M).drop i).map (fun (j : Nat) => (j : Int)) ∧ Rx (L ++ M) t.1 d.Accept.length ∧ (L ++ M).Nodup ∧ (∀ j ∈ L ++ M, j < d.Accept.length ∧ Reach d (j : Int)) ∧ ∀ e ∈ d.Edges[s].take k, e.To.toNat ∈ L ++ M)
    ⟨rfl, [], by simp, by simpa using hR, by simpa using hn, by simpa using hr, fun e he => (by simp at he)⟩ ?_
  rintro k hk ⟨r, q, kk⟩ ⟨hkk, M, hq, hR', hn', hr', he'⟩
  dsimp only at hkk hq hR' hn' hr' he'; subst hkk; subst hq
  unfold aUseful_b2
  rcases Nat.lt_or_ge k d.Edges[s].length with hlt | hge
  · obtain ⟨e1, e2, e3, e4, e5⟩ := edge_step hd hs (List.getElem_mem hlt)
    obtain ⟨t, ht⟩ : ∃ t : Nat, d.Edges[s][k].To = (t : Int) := ⟨d.Edges[s][k].To.toNat, by omega⟩
    have htk : d.Edges[s].take (k + 1) = d.Edges[s].take k ++ [d.Edges[s][k]] := by rw [List.take_add_one, List.getElem?_eq_getElem hlt]; rfl
    have htl : t < r.length := by rw [hR'.1]; omega
    have hrt : Reach d (t : Int) := by rw [← ht, ← e1]; exact hrs.step e2 e3
    refine Tm.pos (by omega) (Tm.step (idx_n hlt) ?_)
    rw [ht]
    refine Tm.step (idx_n htl) (Tm.ite (fun hc => ?_) (fun hc => ?_))
    · have hnin : t ∉ L ++ M := fun hm => by
        have := (hR'.2 t htl).2 hm
        rw [this] at hc; cases hc
      have hlen : (L ++ M).length ≤ d.Accept.length := nodup_lt _ hn' (fun x hx => (hr' x hx).1)
      refine Tm.step (idx_n htl) (Tm.step (upd1_i (n := t) rfl htl) (Tm.step (apnd_ok (by simp only [List.length_map, List.length_drop, List.length_singleton]; omega) (by decide)) (Tm.some ⟨hlt, by show iw _ = _; rw [iw_n (by omega)], M ++ [t], ?_, ?_, ?_, ?_, ?_⟩)))
      · show (List.drop i (L ++ M)).map _ ++ [(t : Int)] = _
        have e9 : (L ++ M ++ [t]).drop i = (L ++ M).drop i ++ [t] := List.drop_append_of_le_length (by rw [List.length_append]; omega)
        rw [← List.append_assoc, e9, List.map_append]; rfl
      · rw [← List.append_assoc]; exact hR'.add
      · rw [← List.append_assoc]
        refine List.nodup_append.2 ⟨hn', by simp, fun x hx y hy => ?_⟩
        rw [List.mem_singleton.1 hy]; exact fun e => hnin (e ▸ hx)
      · rw [← List.append_assoc]
        intro j hj
        rcases List.mem_append.1 hj with hj | hj
        · exact hr' j hj
        · rw [List.mem_singleton.1 hj]; exact ⟨by omega, hrt⟩
      · rw [← List.append_assoc, htk]
        intro e he
        rcases List.mem_append.1 he with he | he
        · exact List.mem_append_left _ (he' e he)
        · rw [List.mem_singleton.1 he, ht]; simp
    · have hc' : r[t] = true := by simpa using hc
      refine Tm.some ⟨hlt, by show iw _ = _; rw [iw_n (by omega)], M, rfl, hR', hn', hr', ?_⟩
      rw [htk]
      intro e he
      rcases List.mem_append.1 he with he | he
      · exact he' e he
      · rw [List.mem_singleton.1 he, ht]; exact (hR'.2 t htl).1 hc'
  · refine Tm.neg (by omega) (Tm.some ⟨M, rfl, hR', hn', hr', ?_⟩)
    rwa [List.take_of_length_le hge] at he'
theorem aUseful_b1_tm {d : ADfa} (hd : okD d = true) : Tm (fun N => loopM (aUseful_b1 N d) N ((List.replicate d.Accept.length false).set 0 true, [0])) (fun r => r.length = d.Accept.length ∧ ∀ (j : Nat) (h : j < r.length), r[j] = true ↔ Reach d (j : Int)) := by
  obtain ⟨g1, g2, g3, g4⟩ := okD_iff.1 hd
  refine Tm.loopG (fun (i : Nat) s => ∃ L, s.2 = (L.drop i).map (fun (j : Nat) => (j : Int)) ∧ i ≤ L.length ∧ Rx L s.1 d.Accept.length ∧ L.Nodup ∧ (∀ j ∈ L, j < d.Accept.length ∧ Reach d (j : Int)) ∧ 0 ∈ L ∧ ∀ (j s : Nat) (hs : s < d.Edges.length), j < i → L[j]? = some s → ∀ e ∈ d.Edges[s], e.To.toNat ∈ L) (fun i => d.Accept.length - i) 0
    ⟨[0], rfl, Nat.zero_le _, ⟨by simp, fun j hj => ?_⟩, by simp, fun j hj => by rw [List.mem_singleton.1 hj]; exact ⟨by omega, Reach.zero⟩, by simp, fun j s _ hj => absurd hj (by omega)⟩ ?_
  · rw [List.getElem_set]
    by_cases e : 0 = j
    · subst e; simp
    · rw [if_neg e]; simp; omega
  rintro i ⟨r, q⟩ ⟨L, hq, hil, hR, hn, hr, hz, hcl⟩
  dsimp only at hq hil hR hn hr hz hcl; subst hq
  have hlen : L.length ≤ d.Accept.length := nodup_lt _ hn (fun x hx => (hr x hx).1)
  unfold aUseful_b1
  rcases Nat.lt_or_ge i L.length with hlt | hge
  · have hq0 : idx ((L.drop i).map (fun (j : Nat) => (j : Int))) 0 = some (L[i] : Int) := by rw [List.drop_eq_getElem_cons hlt]; rfl
    have hs := hr _ (List.getElem_mem hlt)
    have hse : L[i] < d.Edges.length := by omega
    refine Tm.pos (by rw [List.length_map, List.length_drop]; omega) ?_
    have body : Tm (fun N => (((idx ((L.drop i).map (fun (j : Nat) => (j : Int))) 0).bind fun x2466 =>
        (idx d.Edges x2466).bind fun x2478 =>
        (loopM (aUseful_b2 N x2478) N (r, (L.drop i).map (fun (j : Nat) => (j : Int)), 0)).bind fun ss =>
          match ss with
          | (reached2803, queue2814) =>
            some (reached2803, queue2814) : Option ((List Bool) × (List Int))))) (fun t => ∃ M, t.2 = ((L ++ M).drop i).map (fun (j : Nat) => (j : Int)) ∧ Rx (L ++ M) t.1 d.Accept.length ∧ (L ++ M).Nodup ∧ (∀ j ∈ L ++ M, j < d.Accept.length ∧ Reach d (j : Int)) ∧ ∀ e ∈ d.Edges[L[i]], e.To.toNat ∈ L ++ M) :=
      Tm.step hq0 (Tm.step (idx_n hse) ((aUseful_b2_tm hd hse hR hn hr hs.2 hil).bind fun t ht => Tm.some ht))
    refine body.bind fun t ht => ?_
    obtain ⟨r', q'⟩ := t
    obtain ⟨M, hq', hR', hn', hr', he'⟩ := ht
    dsimp only at hq' hR' hn' hr' he'; subst hq'
    refine Tm.step (a := ((L ++ M).drop (i + 1)).map (fun (j : Nat) => (j : Int))) ?_ (Tm.some ⟨i + 1, ⟨L ++ M, rfl, by rw [List.length_append]; omega, hR', hn', hr', List.mem_append_left _ hz, fun j s hs' hj hjs e he => ?_⟩, by omega⟩)
    · rw [show (1 : Int) = ((1 : Nat) : Int) from rfl, drp_ok (by rw [List.length_map, List.length_drop, List.length_append]; omega), ← List.map_drop, List.drop_drop]
    · by_cases hji : j = i
      · subst hji
        have : (L ++ M)[j]? = some L[j] := mem_getElem?_append (List.getElem?_eq_getElem hlt)
        rw [hjs] at this; cases this
        exact he' e he
      · rw [List.getElem?_append_left (by omega)] at hjs
        exact List.mem_append_left _ (hcl j s hs' (by omega) hjs e he)
  · refine Tm.neg (by rw [List.drop_eq_nil_of_le hge]; simp) (Tm.some ⟨hR.1, fun j hj => ?_⟩)
    rw [hR.2 j hj]
    refine ⟨fun h => (hr j h).2, ?_⟩
    rintro ⟨w, hw, hj2⟩
    have key : ∀ (n : Nat) (w : List Int) (j : Nat), w.length = n → Pr w → run d 0 w = (j : Int) → j ∈ L := by
      intro n
      induction n with
      | zero =>
        intro w j hl _ h
        have : w = [] := List.eq_nil_of_length_eq_zero hl
        subst this
        have : (0 : Int) = (j : Int) := h
        have : j = 0 := by omega
        rw [this]; exact hz
      | succ n ih =>
        intro w j hl hp h
        obtain ⟨u, c, rfl⟩ : ∃ u c, w = u ++ [c] := ⟨w.dropLast, w.getLast (by intro e; rw [e] at hl; simp at hl), (List.dropLast_concat_getLast _).symm⟩
        rw [run_snoc] at h
        have hst := run_st (w := u) hd (st0 hd)
        have hne : run d 0 u ≠ -1 := fun e => by rw [e, stp_none] at h; omega
        have h1 := hst.1; have h2 := hst.2
        obtain ⟨s, hs⟩ : ∃ s : Nat, run d 0 u = (s : Int) := ⟨(run d 0 u).toNat, by omega⟩
        have hsl := ih u s (by simpa using hl) (fun x hx => hp x (List.mem_append_left _ hx)) hs
        have hse : s < d.Edges.length := by omega
        rw [hs] at h
        obtain ⟨e, he, he2⟩ := step_edge hse (c := c) (by omega)
        obtain ⟨q, hq, hq2⟩ := List.mem_iff_getElem.1 hsl
        have := hcl q s hse (by omega) (by rw [List.getElem?_eq_getElem hq, hq2]) e he
        rw [he2, h] at this
        simpa using this
    exact key _ w j rfl hw hj2
def Stable (d : ADfa) (l : List Bool) : Prop := ∀ (s : Nat) (hs : s < d.Edges.length) (h : s < l.length), l[s] = false → ∀ e ∈ d.Edges[s], l.getD e.To.toNat false = false
structure Lv (d : ADfa) (l : List Bool) : Prop where
  len : l.length = d.Accept.length
  ok : ∀ (s : Nat) (h : s < l.length), l[s] = true → Live d (s : Int)
  acc : ∀ (s : Nat) (h : s < d.Accept.length), d.Accept[s] = true → l.getD s false = true
def cf (l : List Bool) : Nat := l.count false
theorem cf_set {l : List Bool} {k : Nat} (hk : k < l.length) (h : l[k] = false) : cf (l.set k true) + 1 = cf l := by
  unfold cf
  induction l generalizing k with
  | nil => simp at hk
  | cons x l ih =>
    cases k with
    | zero =>
      have hx : x = false := h
      subst hx; simp
    | succ k =>
      have hk' : k < l.length := by simpa using hk
      have := ih hk' h
      cases x <;> simp <;> omega
theorem aUseful_b4_tm {d : ADfa} (hd : okD d = true) {l : List Bool} (hl : Lv d l) :
    Tm (fun N => loopM (aUseful_b4 N d) N (l, false, 0)) (fun t => Lv d t.1 ∧ ((t.2 = false ∧ t.1 = l ∧ Stable d l) ∨ (t.2 = true ∧ cf t.1 < cf l))) := by
  obtain ⟨g1, g2, g3, g4⟩ := okD_iff.1 hd
  refine Tm.up d.Accept.length (fun k t => t.2.2 = (k : Int) ∧ Lv d t.1 ∧ ((t.2.1 = false ∧ t.1 = l ∧ ∀ (s : Nat) (hs : s < d.Edges.length) (h : s < l.length), s < k → l[s] = false → ∀ e ∈ d.Edges[s], l.getD e.To.toNat false = false) ∨ (t.2.1 = true ∧ cf t.1 < cf l)))
    ⟨rfl, hl, .inl ⟨rfl, rfl, fun s _ _ h => absurd h (by omega)⟩⟩ ?_
  rintro k hk ⟨m, ch, kk⟩ ⟨hkk, hm, hor⟩
  dsimp only at hkk hm hor; subst hkk
  unfold aUseful_b4
  rcases Nat.lt_or_ge k d.Accept.length with hlt | hge
  · have hkm : k < m.length := by rw [hm.len]; exact hlt
    have hke : k < d.Edges.length := by omega
    have hok := g4 _ (List.getElem_mem hke)
    have hll := okE_len hok
    have hto : ∀ e ∈ d.Edges[k], 0 ≤ e.To ∧ e.To.toNat < m.length := fun e he => by
      have := okE_mem (by omega) hok e he
      rw [hm.len]; omega
    refine Tm.pos (by omega) ?_
    have cond : Tm (fun N => (((idx m (k : Int)).bind fun x4146 =>
        (if (!x4146) = true then
          (idx d.Edges (k : Int)).bind fun x4161 =>
          (containsEdge N x4161 (fun y4177 => aUseful1 N y4177 m)).bind fun r4178 =>
          some r4178
        else
          some false) : Option Bool))) (· = (!m[k] && d.Edges[k].any fun e => m.getD e.To.toNat false)) := by
      refine Tm.step (idx_n hkm) (Tm.ite (fun h => ?_) (fun h => ?_))
      · have h' : m[k] = false := by simpa using h
        refine Tm.step (idx_n hke) ((containsEdge_tm (f := fun N y => aUseful1 N y m) (g := fun e => m.getD e.To.toNat false) (by omega) (fun e he => ?_)).eq (Tm.some ?_))
        · obtain ⟨h1, h2⟩ := hto e he
          unfold aUseful1
          exact Tm.step (idx_i (n := e.To.toNat) (by omega) h2) (Tm.some (getD_of h2).symm)
        · rw [h']; rfl
      · have h' : m[k] = true := by simpa using h
        exact Tm.some (by rw [h']; rfl)
    refine cond.eq (Tm.ite (fun h => ?_) (fun h => ?_))
    · rw [Bool.and_eq_true, Bool.not_eq_true'] at h
      obtain ⟨e, he, he2⟩ := List.any_eq_true.1 h.2
      obtain ⟨h1, h2⟩ := hto e he
      rw [getD_of h2] at he2
      refine Tm.step (idx_n hkm) (Tm.step (upd1_i (n := k) rfl hkm) (Tm.some ⟨hlt, by show iw _ = _; rw [iw_n (by omega)], ?_, .inr ⟨rfl, ?_⟩⟩))
      · obtain ⟨e1, e2, e3, _⟩ := edge_step hd hke he
        have hlive : Live d (k : Int) := by
          have := hm.ok _ h2 he2
          rw [show ((e.To.toNat : Nat) : Int) = e.To by omega, ← e1] at this
          exact this.step e2 e3
        refine ⟨by simpa using hm.len, fun s hs h => ?_, fun s hs h => ?_⟩
        · rw [List.getElem_set] at h
          split at h
          · rename_i e; rw [← e]; exact hlive
          · exact hm.ok s (by simpa using hs) h
        · have := hm.acc s hs h
          rw [List.getD_eq_getElem?_getD, List.getElem?_set]
          split
          · rename_i e; subst e; simp [hkm]
          · rwa [List.getD_eq_getElem?_getD] at this
      · show cf (m.set k true) < cf l
        have := cf_set hkm h.1
        rcases hor with ⟨_, rfl, _⟩ | ⟨_, hc⟩ <;> omega
    · refine Tm.some ⟨hlt, by show iw _ = _; rw [iw_n (by omega)], hm, ?_⟩
      rcases hor with ⟨h1, rfl, h3⟩ | h1
      · refine .inl ⟨h1, rfl, fun s hs hsl hsk hf e he => ?_⟩
        by_cases hske : s = k
        · subst hske
          have h' : ¬ (d.Edges[s].any fun e => m.getD e.To.toNat false) = true := fun hh => h (by rw [hf, hh]; rfl)
          have h2 : (d.Edges[s].any fun e => m.getD e.To.toNat false) = false := by simpa using h'
          have := List.any_eq_false.1 h2 e he
          simpa using this
        · exact h3 s hs hsl (by omega) hf e he
      · exact .inr h1
  · refine Tm.neg (by omega) (Tm.some ⟨hm, ?_⟩)
    rcases hor with ⟨h1, h2, h3⟩ | h1
    · refine .inl ⟨h1, h2, fun s hs hsl hf e he => h3 s hs hsl (by rw [← hl.len] at hge; omega) hf e he⟩
    · exact .inr h1
theorem aUseful_b3_tm {d : ADfa} (hd : okD d = true) : Tm (fun N => loopM (aUseful_b3 N d) N (d.Accept, true)) (fun l => l.length = d.Accept.length ∧ ∀ (s : Nat) (h : s < l.length), l[s] = true ↔ Live d (s : Int)) := by
  obtain ⟨g1, g2, g3, g4⟩ := okD_iff.1 hd
  refine Tm.loopG (fun (m : Nat) s => Lv d s.1 ∧ (s.2 = false → Stable d s.1) ∧ cf s.1 + (if s.2 then 1 else 0) = m) (fun n => n) (cf d.Accept + 1) ⟨⟨rfl, fun s h hs => ⟨[], fun _ h => (by cases h), ?_⟩, fun s h hs => by rw [getD_of h]; exact hs⟩, fun h => (by cases h), rfl⟩ ?_
  · show fin d (s : Int) = true
    rw [fin_get rfl h]; exact hs
  rintro n ⟨l, ch⟩ ⟨hl, hst, hn⟩
  dsimp only at hl hst hn
  unfold aUseful_b3
  refine Tm.ite (fun h => ?_) (fun h => ?_)
  · subst h
    refine (aUseful_b4_tm hd hl).bind fun t ht => ?_
    obtain ⟨l', ch'⟩ := t
    obtain ⟨h1, h2⟩ := ht
    dsimp only at h1 h2
    rcases h2 with ⟨rfl, rfl, h3⟩ | ⟨rfl, h3⟩
    · exact Tm.some ⟨_, ⟨h1, fun _ => h3, rfl⟩, by simp at hn ⊢; omega⟩
    · exact Tm.some ⟨_, ⟨h1, fun h => (by cases h), rfl⟩, by simp at hn ⊢; omega⟩
  · have hf : ch = false := by simpa using h
    have hs := hst hf
    refine Tm.some ⟨hl.len, fun s h => ⟨hl.ok s h, ?_⟩⟩
    rintro ⟨w, hw, hfin⟩
    have key : ∀ (w : List Int) (s : Nat) (h : s < l.length), Pr w → fin d (run d (s : Int) w) = true → l[s] = true := by
      intro w
      induction w with
      | nil =>
        intro s h _ hfin
        have hsa : s < d.Accept.length := by rw [← hl.len]; exact h
        have hfin' : fin d (s : Int) = true := hfin
        rw [fin_get rfl hsa] at hfin'
        have := hl.acc s hsa hfin'
        rwa [getD_of h] at this
      | cons c w ih =>
        intro s h hw hfin
        have hsa : s < d.Accept.length := by rw [← hl.len]; exact h
        have hse : s < d.Edges.length := by omega
        have hfin' : fin d (run d (stp d (s : Int) c) w) = true := hfin
        have hne : stp d (s : Int) c ≠ -1 := fun e => not_live_none (d := d) ⟨w, fun x hx => hw x (List.mem_cons_of_mem _ hx), by rw [e] at hfin'; exact hfin'⟩
        have hstt := stp_st hd (s := (s : Int)) (c := c) ⟨by omega, by omega⟩
        have h1 := hstt.1; have h2 := hstt.2
        obtain ⟨t, ht⟩ : ∃ t : Nat, stp d (s : Int) c = (t : Int) := ⟨(stp d (s : Int) c).toNat, by omega⟩
        have htl : t < l.length := by rw [hl.len]; omega
        rw [ht] at hfin'
        have hlt := ih t htl (fun x hx => hw x (List.mem_cons_of_mem _ hx)) hfin'
        obtain ⟨e, he, he2⟩ := step_edge hse hne
        cases hls : l[s] with
        | true => rfl
        | false =>
          have := hs s hse h hls e he
          rw [he2, ht, Int.toNat_natCast, getD_of htl, hlt] at this
          cases this
    exact key w s h hw hfin
def Use (d : ADfa) (s : Int) : Prop := Reach d s ∧ Live d s
theorem aUseful_tm {d : ADfa} (hd : okD d = true) : Tm (fun N => aUseful N d) (fun r => r.length = d.Accept.length ∧ ∀ (s : Nat) (h : s < r.length), r[s] = true ↔ Use d (s : Int)) := by
  obtain ⟨g1, g2, g3, g4⟩ := okD_iff.1 hd
  unfold aUseful
  refine Tm.step (mk1_ok (n := d.Accept.length) rfl (by omega) (by decide)) (Tm.step (idx_i (n := 0) rfl (by simp; omega)) (Tm.step (upd1_i (n := 0) rfl (by simp; omega)) ?_))
  refine (aUseful_b1_tm hd).bind fun r hr => ?_
  have hcl : Tm (fun N => cloneBool N d.Accept) (· = d.Accept) := by
    unfold cloneBool
    exact Tm.step (apnd_ok (by simp; omega) (by decide)) (Tm.some rfl)
  refine hcl.eq ((aUseful_b3_tm hd).bind fun l hl => ?_)
  have loop : Tm (fun N => loopM (aUseful_b5 N d l) N (r, 0)) (fun t => t.length = d.Accept.length ∧ ∀ (s : Nat) (h : s < t.length), t[s] = true ↔ Use d (s : Int)) := by
    refine Tm.up d.Accept.length (fun k t => t.2 = (k : Int) ∧ t.1.length = d.Accept.length ∧ (∀ (s : Nat) (h : s < t.1.length), s < k → (t.1[s] = true ↔ Use d (s : Int))) ∧ ∀ (s : Nat) (h : s < t.1.length), k ≤ s → (t.1[s] = true ↔ Reach d (s : Int)))
      ⟨rfl, hr.1, fun s _ h => absurd h (by omega), fun s h _ => hr.2 s h⟩ ?_
    rintro k hk ⟨t, kk⟩ ⟨hkk, htl, h1, h2⟩
    dsimp only at hkk htl h1 h2; subst hkk
    unfold aUseful_b5
    rcases Nat.lt_or_ge k d.Accept.length with hlt | hge
    · have hkt : k < t.length := by omega
      have hkl : k < l.length := by rw [hl.1]; exact hlt
      have hset : ∀ b : Bool, (b = true ↔ Use d (k : Int)) → (k < d.Accept.length ∧ (t.set k b, iw ((k : Int) + 1)).2 = ((k + 1 : Nat) : Int) ∧ (t.set k b).length = d.Accept.length ∧ (∀ (s : Nat) (h : s < (t.set k b).length), s < k + 1 → ((t.set k b)[s] = true ↔ Use d (s : Int))) ∧ ∀ (s : Nat) (h : s < (t.set k b).length), k + 1 ≤ s → ((t.set k b)[s] = true ↔ Reach d (s : Int))) := by
        intro b hb
        refine ⟨hlt, iw_n (by omega), by simpa using htl, fun s hs hsk => ?_, fun s hs hsk => ?_⟩
        · rw [List.getElem_set]
          split
          · rename_i e; rw [← e]; exact hb
          · exact h1 s (by simpa using hs) (by omega)
        · rw [List.getElem_set, if_neg (by omega)]
          exact h2 s (by simpa using hs) (by omega)
      refine Tm.pos (by omega) (Tm.step (idx_n hkt) (Tm.ite (fun hc => ?_) (fun hc => ?_)))
      · refine Tm.step (idx_n hkl) (Tm.step (idx_n hkt) (Tm.step (upd1_i (n := k) rfl hkt) (Tm.some (hset _ ?_))))
        rw [hl.2 k hkl]
        exact ⟨fun h => ⟨(h2 k hkt (Nat.le_refl _)).1 hc, h⟩, fun h => h.2⟩
      · refine Tm.step (idx_n hkt) (Tm.step (upd1_i (n := k) rfl hkt) (Tm.some (hset _ ?_)))
        exact ⟨fun h => (by cases h), fun h => absurd ((h2 k hkt (Nat.le_refl _)).2 h.1) hc⟩
    · exact Tm.neg (by omega) (Tm.some ⟨htl, fun s h => h1 s h (by omega)⟩)
  exact loop.bind fun t ht => Tm.some ht
end Go.D
set_option linter.unusedVariables false
set_option linter.unusedSimpArgs false
namespace Go.D
open Go Go.X Go.Lib
def dval (l : List UInt8) : Nat := l.foldl (fun a c => 10 * a + (c.toNat - 48)) 0
theorem toNat_dig {k : Nat} (h : k < 10) : (UInt8.ofNat (48 + k)).toNat = 48 + k := by
  rw [UInt8.toNat_ofNat']; omega
theorem decDigits_dval : ∀ (u : Nat), dval (decDigits u) = u ∧ ∀ c ∈ decDigits u, 48 ≤ c.toNat ∧ c.toNat ≤ 57
  | u => by
    by_cases h : u < 10
    · rw [decDigits_one h]
      refine ⟨?_, fun c hc => ?_⟩
      · show 10 * 0 + ((UInt8.ofNat (48 + u)).toNat - 48) = u
        rw [toNat_dig h]; omega
      · rw [List.mem_singleton.1 hc, toNat_dig h]; omega
    · rw [decDigits, dif_neg h]
      obtain ⟨h1, h2⟩ := decDigits_dval (u / 10)
      refine ⟨?_, fun c hc => ?_⟩
      · unfold dval at h1 ⊢
        rw [List.foldl_append, h1]
        show 10 * (u / 10) + ((UInt8.ofNat (48 + u % 10)).toNat - 48) = u
        rw [toNat_dig (by omega)]; omega
      · rcases List.mem_append.1 hc with hc | hc
        · exact h2 c hc
        · rw [List.mem_singleton.1 hc, toNat_dig (by omega)]; omega
termination_by u => u
decreasing_by omega
theorem decDigits_inj {u v : Nat} (h : decDigits u = decDigits v) : u = v := by
  rw [← (decDigits_dval u).1, ← (decDigits_dval v).1, h]
theorem itoa_chars (n : Int) : ∀ c ∈ itoa n, c ≠ 32 := by
  intro c hc
  unfold itoa at hc
  split at hc
  · rcases List.mem_cons.1 hc with rfl | hc
    · decide
    · rintro rfl
      have := (decDigits_dval _).2 _ hc
      have : (32 : UInt8).toNat = 32 := rfl
      omega
  · rintro rfl
    have := (decDigits_dval _).2 _ hc
    have : (32 : UInt8).toNat = 32 := rfl
    omega
theorem itoa_inj {m n : Int} (h : itoa m = itoa n) : m = n := by
  have no45 : ∀ {u v : Nat}, decDigits u ≠ 45 :: decDigits v := fun {u v} e => by
    have := (decDigits_dval u).2 45 (by rw [e]; exact List.mem_cons_self)
    have : (45 : UInt8).toNat = 45 := rfl
    omega
  unfold itoa at h
  split at h <;> split at h
  · have := decDigits_inj (List.cons.inj h).2; omega
  · exact absurd h.symm no45
  · exact absurd h no45
  · have := decDigits_inj h; omega
def ktail (l : List Int) : List UInt8 := l.flatMap fun b => 32 :: itoa b
def kenc (a : Int) (l : List Int) : List UInt8 := itoa a ++ ktail l
theorem ktail_snoc {l : List Int} {b : Int} : ktail (l ++ [b]) = ktail l ++ (32 :: itoa b) := by unfold ktail; simp
theorem cut32 : ∀ {u u' r r' : List UInt8}, (∀ c ∈ u, c ≠ 32) → (∀ c ∈ u', c ≠ 32) → (r = [] ∨ ∃ s, r = 32 :: s) → (r' = [] ∨ ∃ s, r' = 32 :: s) → u ++ r = u' ++ r' → u = u' ∧ r = r'
  | [], [], r, r', _, _, _, _, h => ⟨rfl, h⟩
  | [], c :: u', r, r', _, h2, h3, _, h => by
    rcases h3 with rfl | ⟨s, rfl⟩
    · cases h
    · have := (List.cons.inj h).1
      exact absurd this.symm (h2 c List.mem_cons_self)
  | c :: u, [], r, r', h1, _, _, h4, h => by
    rcases h4 with rfl | ⟨s, rfl⟩
    · cases h
    · have := (List.cons.inj h).1
      exact absurd this (h1 c List.mem_cons_self)
  | c :: u, c' :: u', r, r', h1, h2, h3, h4, h => by
    obtain ⟨e1, e2⟩ := List.cons.inj h
    obtain ⟨e3, e4⟩ := cut32 (u := u) (u' := u') (fun x hx => h1 x (List.mem_cons_of_mem _ hx)) (fun x hx => h2 x (List.mem_cons_of_mem _ hx)) h3 h4 e2
    exact ⟨by rw [e1, e3], e4⟩
theorem ktail_shape {l : List Int} : ktail l = [] ∨ ∃ s, ktail l = 32 :: s := by
  cases l with
  | nil => exact .inl rfl
  | cons b l => exact .inr ⟨itoa b ++ ktail l, by simp [ktail]⟩
theorem ktail_inj : ∀ {l l' : List Int}, l.length = l'.length → ktail l = ktail l' → l = l'
  | [], [], _, _ => rfl
  | [], _ :: _, h, _ => by cases h
  | _ :: _, [], h, _ => by cases h
  | b :: l, b' :: l', hl, h => by
    have e : ∀ (b : Int) (l : List Int), ktail (b :: l) = 32 :: (itoa b ++ ktail l) := fun b l => by simp [ktail]
    rw [e, e] at h
    obtain ⟨h1, h2⟩ := cut32 (itoa_chars b) (itoa_chars b') ktail_shape ktail_shape (List.cons.inj h).2
    rw [itoa_inj h1, ktail_inj (by simpa using hl) h2]
theorem kenc_inj {a a' : Int} {l l' : List Int} (hl : l.length = l'.length) (h : kenc a l = kenc a' l') : a = a' ∧ l = l' := by
  obtain ⟨h1, h2⟩ := cut32 (itoa_chars a) (itoa_chars a') ktail_shape ktail_shape h
  exact ⟨itoa_inj h1, ktail_inj hl h2⟩
theorem itoa_len {n : Int} (h0 : -9223372036854775808 ≤ n) (h1 : n ≤ 9223372036854775807) : (itoa n).length ≤ 21 := itoa_length_le n h0 h1
theorem ktail_len : ∀ {l : List Int}, (∀ b ∈ l, -9223372036854775808 ≤ b ∧ b ≤ 9223372036854775807) → (ktail l).length ≤ l.length * 22
  | [], _ => Nat.zero_le _
  | b :: l, h => by
    have e : ktail (b :: l) = 32 :: (itoa b ++ ktail l) := by simp [ktail]
    have h1 := itoa_len (h b List.mem_cons_self).1 (h b List.mem_cons_self).2
    have h2 := ktail_len (l := l) (fun x hx => h x (List.mem_cons_of_mem _ hx))
    rw [e]; simp only [List.length_cons, List.length_append]; omega
end Go.D
set_option linter.unusedVariables false
set_option linter.unusedSimpArgs false
namespace Go.D
open Go Go.X Go.Lib
def cls (c : List Int) (s : Int) : Int := if s = -1 then -1 else c.getD s.toNat (-1)
def Cl (n : Nat) (c : List Int) : Prop := c.length = n ∧ ∀ x ∈ c, -1 ≤ x ∧ x ≤ 100000
theorem Cl.get {n : Nat} {c : List Int} (h : Cl n c) {s : Int} (hs : St n s) : -1 ≤ cls c s ∧ cls c s ≤ 100000 := by
  unfold cls
  split
  · omega
  · have h1 := hs.1; have h2 := hs.2
    have hl : s.toNat < c.length := by rw [h.1]; omega
    rw [getD_of hl]
    exact h.2 _ (List.getElem_mem hl)
theorem aClass_tm {n : Nat} {c : List Int} (h : Cl n c) {s : Int} (hs : St n s) : Tm (fun N => aClass N c s) (· = cls c s) := by
  unfold aClass cls
  refine Tm.ite (fun e => ?_) (fun e => ?_)
  · rw [if_pos e]; exact Tm.some rfl
  · have h1 := hs.1; have h2 := hs.2
    have hl : s.toNat < c.length := by rw [h.1]; omega
    rw [if_neg e, getD_of hl]
    exact Tm.step (idx_i (n := s.toNat) (by omega) hl) (Tm.some rfl)
def suc (d : ADfa) (c : List Int) (s : Int) : List Int := (List.range 95).map fun (i : Nat) => cls c (stp d s (32 + i))
def ky (d : ADfa) (c : List Int) (s : Int) : List UInt8 := kenc (cls c s) (suc d c s)
theorem ky_inj {d : ADfa} {c : List Int} {s t : Int} (h : ky d c s = ky d c t) : cls c s = cls c t ∧ ∀ x, 32 ≤ x → x ≤ 126 → cls c (stp d s x) = cls c (stp d t x) := by
  obtain ⟨h1, h2⟩ := kenc_inj (by simp [suc]) h
  refine ⟨h1, fun x hx1 hx2 => ?_⟩
  have := congrArg (·[(x - 32).toNat]?) h2
  have hlt : (x - 32).toNat < 95 := by omega
  simp only [suc, List.getElem?_map, List.getElem?_range hlt, Option.map_some, Option.some.injEq] at this
  rwa [show (32 : Int) + ((x - 32).toNat : Int) = x by omega] at this
theorem ky_eq {d : ADfa} {c : List Int} {s t : Int} (h1 : cls c s = cls c t) (h2 : ∀ x, 32 ≤ x → x ≤ 126 → cls c (stp d s x) = cls c (stp d t x)) : ky d c s = ky d c t := by
  unfold ky
  have : suc d c s = suc d c t := by
    unfold suc
    refine List.map_congr_left fun i hi => ?_
    have := List.mem_range.1 hi
    exact h2 _ (by omega) (by omega)
  rw [h1, this]
theorem fmtI_ok {N : Nat} {x : Int} (h : -1 ≤ x ∧ x ≤ 100000) : fmtI N x = some (itoa x) := by
  unfold fmtI; rw [if_pos (by omega)]
theorem fmtI_tm {x : Int} (h : -1 ≤ x ∧ x ≤ 100000) : Tm (fun N => fmtI N x) (· = itoa x) := Tm.of (f := fmtI 0 x) (fmtI_ok h) rfl
theorem aRefined_b2_tm {d : ADfa} (hd : okD d = true) {c : List Int} (hc : Cl d.Accept.length c) {s : Nat} (hs : s < d.Accept.length) :
    Tm (fun N => loopM (aRefined_b2 N c d (s : Int)) N (itoa (cls c (s : Int)), 32)) (· = ky d c (s : Int)) := by
  have hst : St d.Accept.length (s : Int) := ⟨by omega, by omega⟩
  refine Tm.up 95 (fun k t => t = (kenc (cls c (s : Int)) ((suc d c (s : Int)).take k), ((32 + k : Nat) : Int))) (by simp [kenc, ktail]) ?_
  rintro k hk t rfl
  unfold aRefined_b2
  rcases Nat.lt_or_ge k 95 with hlt | hge
  · have hu : uw8 ((32 + k : Nat) : Int) = ((32 + k : Nat) : Int) := uw8_eq (by omega) (by omega)
    refine Tm.pos (by omega) ?_
    rw [hu]
    have hst2 := stp_st hd (c := ((32 + k : Nat) : Int)) hst
    refine (aStep_tm hd hst).eq ((aClass_tm hc hst2).eq ?_)
    have hcv := hc.get hst2
    have hcv0 := hc.get hst
    refine (fmtI_tm hcv).eq ?_
    have l1 := itoa_len (n := cls c (stp d (s : Int) ((32 + k : Nat) : Int))) (by omega) (by omega)
    have l2 := itoa_len (n := cls c (s : Int)) (by omega) (by omega)
    have l3 : (ktail ((suc d c (s : Int)).take k)).length ≤ 95 * 22 := by
      have h9 := ktail_len (l := (suc d c (s : Int)).take k) (fun b hb => by
        have := List.mem_of_mem_take hb
        unfold suc at this
        obtain ⟨i, hi, rfl⟩ := List.mem_map.1 this
        have := hc.get (stp_st hd (c := (32 + (i : Int))) hst)
        omega)
      have : ((suc d c (s : Int)).take k).length ≤ 95 := by rw [List.length_take]; omega
      omega
    refine Tm.step (chk_ok (by simp only [List.length_singleton]; omega)) (Tm.step (chk_ok (by unfold kenc; simp only [List.length_append, List.length_singleton]; omega)) (Tm.some ⟨hlt, ?_⟩))
    rw [iw_eq (by omega) (by omega)]
    have htk : (suc d c (s : Int)).take (k + 1) = (suc d c (s : Int)).take k ++ [cls c (stp d (s : Int) ((32 + k : Nat) : Int))] := by
      rw [List.take_add_one]
      congr 1
      unfold suc
      rw [List.getElem?_map, List.getElem?_range hlt]; rfl
    rw [htk]
    unfold kenc
    rw [ktail_snoc, List.append_assoc]
    rfl
  · refine Tm.neg (by omega) (Tm.some ?_)
    show kenc _ _ = _
    rw [List.take_of_length_le (by unfold suc; simp; omega)]; rfl
structure Rf (d : ADfa) (c out : List Int) (KS : List (List UInt8)) : Prop where
  nd : KS.Nodup
  len : out.length = d.Accept.length
  no : ∀ (s : Nat), s < d.Accept.length → cls c (s : Int) = -1 → cls out (s : Int) = -1
  yes : ∀ (s : Nat), s < d.Accept.length → cls c (s : Int) ≠ -1 → ∃ j : Nat, cls out (s : Int) = (j : Int) ∧ KS[j]? = some (ky d c (s : Int))
  all : ∀ (j : Nat) (k : List UInt8), KS[j]? = some k → ∃ s : Nat, s < d.Accept.length ∧ cls c (s : Int) ≠ -1 ∧ k = ky d c (s : Int)
  few : KS.length ≤ d.Accept.length
theorem cls_nat {c : List Int} {s : Nat} (h : s < c.length) : cls c (s : Int) = c[s] := by
  unfold cls; rw [if_neg (by omega), Int.toNat_natCast, getD_of h]
theorem aRefined_tm {d : ADfa} (hd : okD d = true) {c : List Int} (hc : Cl d.Accept.length c) : Tm (fun N => aRefined N d c) (fun r => ∃ KS, r.2 = (KS.length : Int) ∧ Rf d c r.1 KS) := by
  obtain ⟨g1, g2, g3, g4⟩ := okD_iff.1 hd
  unfold aRefined
  refine Tm.step (mk1_ok (n := c.length) rfl (by rw [hc.1]; omega) (by decide)) ?_
  have loop : Tm (fun N => loopM (aRefined_b1 N c d) N (([] : (List ((List UInt8) × Int))), List.replicate c.length 0, 0)) (fun r => ∃ KS, r.1 = nm 0 KS ∧ Rf d c r.2 KS) := by
    refine Tm.up c.length (fun k t => t.2.2 = (k : Int) ∧ t.2.1.length = d.Accept.length ∧ ∃ KS, t.1 = nm 0 KS ∧ KS.Nodup ∧ KS.length ≤ k ∧
        (∀ (s : Nat), s < k → cls c (s : Int) = -1 → cls t.2.1 (s : Int) = -1) ∧ (∀ (s : Nat), s < k → cls c (s : Int) ≠ -1 → ∃ j : Nat, cls t.2.1 (s : Int) = (j : Int) ∧ KS[j]? = some (ky d c (s : Int))) ∧
        ∀ (j : Nat) (q : List UInt8), KS[j]? = some q → ∃ s : Nat, s < k ∧ cls c (s : Int) ≠ -1 ∧ q = ky d c (s : Int))
      ⟨rfl, by simp [hc.1], [], rfl, by simp, by simp, fun s h => absurd h (by omega), fun s h => absurd h (by omega), fun j q h => by simp at h⟩ ?_
    rintro k hk ⟨m, o, kk⟩ ⟨hkk, hol, KS, hm, hnd, hkl, hno, hyes, hall⟩
    dsimp only at hkk hol hm hnd hkl hno hyes hall; subst hkk; subst hm
    unfold aRefined_b1
    rcases Nat.lt_or_ge k c.length with hlt | hge
    · have hkd : k < d.Accept.length := by rw [← hc.1]; exact hlt
      have hko : k < o.length := by rw [hol]; exact hkd
      refine Tm.pos (by omega) (Tm.step (idx_n hlt) ?_)
      have hck := cls_nat hlt
      have old : ∀ (v : Int) (s : Nat), s < k → cls (o.set k v) (s : Int) = cls o (s : Int) := fun v s hs => by
        rw [cls_nat (by simp; omega), cls_nat (by omega), List.getElem_set, if_neg (by omega)]
      have new : ∀ v : Int, cls (o.set k v) (k : Int) = v := fun v => by
        rw [cls_nat (by simpa using hko), List.getElem_set, if_pos rfl]
      refine Tm.ite (fun h => ?_) (fun h => ?_)
      · refine Tm.step (idx_n hko) (Tm.step (upd1_i (n := k) rfl hko) (Tm.some ⟨hlt, by show iw _ = _; rw [iw_n (by omega)], by simpa using hol, KS, rfl, hnd, by omega, fun s hs he => ?_, fun s hs he => ?_, fun j q hj => ?_⟩))
        · show cls (o.set k (-1)) (s : Int) = -1
          by_cases e : s = k
          · subst e; exact new _
          · rw [old _ s (by omega)]; exact hno s (by omega) he
        · have e : s ≠ k := fun e => by subst e; rw [hck] at he; exact he h
          show ∃ j : Nat, cls (o.set k (-1)) (s : Int) = (j : Int) ∧ _
          rw [old _ s (by omega)]; exact hyes s (by omega) he
        · obtain ⟨s, h1, h2⟩ := hall j q hj
          exact ⟨s, by omega, h2⟩
      · have hcx := hc.2 _ (List.getElem_mem hlt)
        refine (fmtI_tm hcx).eq ?_
        rw [← hck]
        refine (aRefined_b2_tm hd hc hkd).eq ?_
        have num : Tm (fun N => ((if (!(mget (nm 0 KS) (ky d c (k : Int)) 0).2) = true then
              some ((mput (nm 0 KS) (ky d c (k : Int)) (List.length (nm 0 KS) : Int)), (List.length (nm 0 KS) : Int))
            else
              some (nm 0 KS, (mget (nm 0 KS) (ky d c (k : Int)) 0).1)) : Option ((List ((List UInt8) × Int)) × Int)))
            (fun r => ∃ KS' j, r = (nm 0 KS', ((j : Nat) : Int)) ∧ (∃ M, KS' = KS ++ M) ∧ KS'.Nodup ∧ KS'.length ≤ k + 1 ∧ KS'[j]? = some (ky d c (k : Int)) ∧ ∀ (i : Nat) (q : List UInt8), KS'[i]? = some q → ∃ s : Nat, s < k + 1 ∧ cls c (s : Int) ≠ -1 ∧ q = ky d c (s : Int)) := by
          by_cases hin : ky d c (k : Int) ∈ KS
          · obtain ⟨j, h1, h2⟩ := nm_in (k := 0) (z := 0) hin
            rw [h2]
            refine Tm.neg (by simp) (Tm.some ⟨KS, j, by simp, ⟨[], by simp⟩, hnd, by omega, h1, fun i q hi => ?_⟩)
            obtain ⟨s, h1, h2⟩ := hall i q hi
            exact ⟨s, by omega, h2⟩
          · rw [nm_out hin, nm_len]
            have hput := nm_put (k := 0) hin
            rw [Nat.zero_add] at hput
            rw [hput]
            refine Tm.pos rfl (Tm.some ⟨KS ++ [ky d c (k : Int)], KS.length, rfl, ⟨_, rfl⟩, ?_, by simp; omega, by rw [List.getElem?_append_right (Nat.le_refl _), Nat.sub_self]; rfl, fun i q hi => ?_⟩)
            · refine List.nodup_append.2 ⟨hnd, by simp, fun x hx y hy => ?_⟩
              rw [List.mem_singleton.1 hy]; exact fun e => hin (e ▸ hx)
            · rcases Nat.lt_or_ge i KS.length with hi2 | hi2
              · rw [List.getElem?_append_left hi2] at hi
                obtain ⟨s, h1, h2⟩ := hall i q hi
                exact ⟨s, by omega, h2⟩
              · rw [List.getElem?_append_right hi2] at hi
                have : q = ky d c (k : Int) := by
                  have hm := List.mem_of_getElem? hi
                  exact List.mem_singleton.1 hm
                exact ⟨k, by omega, by rw [hck]; exact h, this⟩
        refine num.bind fun r hr => ?_
        obtain ⟨KS', j, rfl, ⟨M, hM⟩, hnd', hkl', hj, hall'⟩ := hr
        refine Tm.step (idx_n hko) (Tm.step (upd1_i (n := k) rfl hko) (Tm.some ⟨hlt, by show iw _ = _; rw [iw_n (by omega)], by simpa using hol, KS', rfl, hnd', hkl', fun s hs he => ?_, fun s hs he => ?_, hall'⟩))
        · have e : s ≠ k := fun e => by subst e; rw [hck] at he; exact h he
          show cls (o.set k (j : Int)) (s : Int) = -1
          rw [old _ s (by omega)]; exact hno s (by omega) he
        · show ∃ i : Nat, cls (o.set k (j : Int)) (s : Int) = (i : Int) ∧ _
          by_cases e : s = k
          · subst e; exact ⟨j, new _, hj⟩
          · rw [old _ s (by omega)]
            obtain ⟨i, h1, h2⟩ := hyes s (by omega) he
            exact ⟨i, h1, by rw [hM]; exact mem_getElem?_append h2⟩
    · have hkc : k = d.Accept.length := by have := hc.1; omega
      subst hkc
      exact Tm.neg (by omega) (Tm.some ⟨KS, rfl, ⟨hnd, hol, hno, hyes, hall, hkl⟩⟩)
  refine loop.bind fun r hr => ?_
  obtain ⟨KS, h1, h2⟩ := hr
  refine Tm.some ⟨KS, ?_, h2⟩
  show ((r.1).length : Int) = _
  rw [h1, nm_len]
end Go.D
set_option linter.unusedVariables false
set_option linter.unusedSimpArgs false
namespace Go.D
open Go Go.X Go.Lib
theorem cover_len : ∀ {n : Nat} {G : List Nat}, (∀ i, i < n → i ∈ G) → n ≤ G.length
  | 0, _, _ => Nat.zero_le _
  | n + 1, G, h => by
    have hn := h n (by omega)
    have := cover_len (n := n) (G := G.erase n) (fun i hi => (List.mem_erase_of_ne (by omega)).2 (h i (by omega)))
    rw [List.length_erase_of_mem hn] at this
    have := List.length_pos_of_mem hn
    omega
theorem cover_nodup : ∀ {n : Nat} {G : List Nat}, (∀ i, i < n → i ∈ G) → G.length ≤ n → G.Nodup
  | 0, G, _, h => by
    have : G = [] := List.eq_nil_of_length_eq_zero (by omega)
    rw [this]; simp
  | n + 1, G, h, hl => by
    have hn := h n (by omega)
    have hle := List.length_erase_of_mem hn
    have hpos := List.length_pos_of_mem hn
    have hE : ∀ i, i < n → i ∈ G.erase n := fun i hi => (List.mem_erase_of_ne (by omega)).2 (h i (by omega))
    have ih := cover_nodup hE (by omega)
    have hnot : n ∉ G.erase n := fun hm => by
      have := cover_len (n := n + 1) (G := G.erase n) (fun i hi => by
        by_cases e : i = n
        · rw [e]; exact hm
        · exact hE i (by omega))
      omega
    exact (List.perm_cons_erase hn).nodup_iff.2 (List.nodup_cons.2 ⟨hnot, ih⟩)
def Eqv (d : ADfa) (s t : Int) : Prop := ∀ w, Pr w → fin d (run d s w) = fin d (run d t w)
theorem Eqv.live {d : ADfa} {s t : Int} (h : Eqv d s t) (hs : Live d s) : Live d t := by
  obtain ⟨w, hw, h1⟩ := hs
  exact ⟨w, hw, by rw [← h w hw]; exact h1⟩
theorem Eqv.symm {d : ADfa} {s t : Int} (h : Eqv d s t) : Eqv d t s := fun w hw => (h w hw).symm
theorem Eqv.step {d : ADfa} {s t c : Int} (h : Eqv d s t) (h1 : 32 ≤ c) (h2 : c ≤ 126) : Eqv d (stp d s c) (stp d t c) := fun w hw =>
  h (c :: w) (fun x hx => by
    rcases List.mem_cons.1 hx with rfl | hx
    · exact ⟨h1, h2⟩
    · exact hw x hx)
structure Cz (d : ADfa) (c : List Int) : Prop where
  cl : Cl d.Accept.length c
  use : ∀ s : Nat, s < d.Accept.length → (cls c (s : Int) = -1 ↔ ¬ Use d (s : Int))
  acc : ∀ s t : Nat, s < d.Accept.length → t < d.Accept.length → Use d (s : Int) → Use d (t : Int) → cls c (s : Int) = cls c (t : Int) → fin d (s : Int) = fin d (t : Int)
  eqv : ∀ s t : Nat, s < d.Accept.length → t < d.Accept.length → Use d (s : Int) → Use d (t : Int) → Eqv d (s : Int) (t : Int) → cls c (s : Int) = cls c (t : Int)
theorem Cz.dead {d : ADfa} {c : List Int} (h : Cz d c) {s : Int} (hs : St d.Accept.length s) (hr : s = -1 ∨ Reach d s) (hl : ¬ Live d s) : cls c s = -1 := by
  have h1 := hs.1; have h2 := hs.2
  by_cases e : s = -1
  · unfold cls; rw [if_pos e]
  · obtain ⟨k, rfl⟩ : ∃ k : Nat, s = (k : Int) := ⟨s.toNat, by omega⟩
    exact (h.use k (by omega)).2 fun hu => hl hu.2
theorem Cz.live {d : ADfa} {c : List Int} (h : Cz d c) {s : Int} (hs : St d.Accept.length s) (hr : s = -1 ∨ Reach d s) (hc : cls c s = -1) : ¬ Live d s := by
  have h1 := hs.1; have h2 := hs.2
  intro hl
  have e : s ≠ -1 := fun e => by rw [e] at hl; exact not_live_none hl
  obtain ⟨k, rfl⟩ : ∃ k : Nat, s = (k : Int) := ⟨s.toNat, by omega⟩
  exact (h.use k (by omega)).1 hc ⟨hr.resolve_left e, hl⟩
section
variable {d : ADfa} {c out : List Int} {KS : List (List UInt8)}
theorem Rf.iff (h : Rf d c out KS) {s t : Nat} (hs : s < d.Accept.length) (ht : t < d.Accept.length) (h1 : cls c (s : Int) ≠ -1) (h2 : cls c (t : Int) ≠ -1) : cls out (s : Int) = cls out (t : Int) ↔ ky d c (s : Int) = ky d c (t : Int) := by
  obtain ⟨i, a1, a2⟩ := h.yes s hs h1
  obtain ⟨j, b1, b2⟩ := h.yes t ht h2
  constructor
  · intro e
    rw [a1, b1] at e
    have : i = j := by omega
    subst this
    rw [a2] at b2; exact Option.some.inj b2
  · intro e
    have hil := (List.getElem?_eq_some_iff.1 a2).1
    have : i = j := (List.getElem?_inj hil h.nd).1 (by rw [a2, b2, e])
    rw [a1, b1, this]
theorem Rf.cz (hd : okD d = true) (h : Rf d c out KS) (hc : Cz d c) : Cz d out := by
  obtain ⟨g1, g2, g3, g4⟩ := okD_iff.1 hd
  have hno : ∀ s : Nat, s < d.Accept.length → (cls out (s : Int) = -1 ↔ cls c (s : Int) = -1) := fun s hs => by
    refine ⟨fun e => Classical.byContradiction fun hne => ?_, h.no s hs⟩
    obtain ⟨j, h1, _⟩ := h.yes s hs hne
    omega
  have hu : ∀ s : Nat, s < d.Accept.length → Use d (s : Int) → cls c (s : Int) ≠ -1 := fun s hs hus e => (hc.use s hs).1 e hus
  refine ⟨⟨h.len, fun x hx => ?_⟩, fun s hs => (hno s hs).trans (hc.use s hs), fun s t hs ht hus hut e => ?_, fun s t hs ht hus hut he => ?_⟩
  · obtain ⟨s, hs, rfl⟩ := List.mem_iff_getElem.1 hx
    have hsd : s < d.Accept.length := by rw [← h.len]; exact hs
    have e := cls_nat hs
    by_cases hn : cls c (s : Int) = -1
    · have := h.no s hsd hn
      omega
    · obtain ⟨j, h1, h2⟩ := h.yes s hsd hn
      have := (List.getElem?_eq_some_iff.1 h2).1
      have := h.few
      omega
  · exact hc.acc s t hs ht hus hut (ky_inj ((h.iff hs ht (hu s hs hus) (hu t ht hut)).1 e)).1
  · refine (h.iff hs ht (hu s hs hus) (hu t ht hut)).2 (ky_eq (hc.eqv s t hs ht hus hut he) fun x hx1 hx2 => ?_)
    have s1 := stp_st hd (c := x) (s := (s : Int)) ⟨by omega, by omega⟩
    have s2 := stp_st hd (c := x) (s := (t : Int)) ⟨by omega, by omega⟩
    have r1 := hus.1.step hx1 hx2
    have r2 := hut.1.step hx1 hx2
    have e2 := he.step hx1 hx2
    by_cases hl : Live d (stp d (s : Int) x)
    · have hl2 := e2.live hl
      have n1 : stp d (s : Int) x ≠ -1 := fun e => by rw [e] at hl; exact not_live_none hl
      have n2 : stp d (t : Int) x ≠ -1 := fun e => by rw [e] at hl2; exact not_live_none hl2
      have a1 := s1.1; have a2 := s1.2; have a3 := s2.1; have a4 := s2.2
      obtain ⟨u, hu'⟩ : ∃ u : Nat, stp d (s : Int) x = (u : Int) := ⟨(stp d (s : Int) x).toNat, by omega⟩
      obtain ⟨v, hv'⟩ : ∃ v : Nat, stp d (t : Int) x = (v : Int) := ⟨(stp d (t : Int) x).toNat, by omega⟩
      rw [hu'] at hl r1 e2 a2 ⊢; rw [hv'] at hl2 r2 e2 a4 ⊢
      exact hc.eqv u v (by omega) (by omega) ⟨r1, hl⟩ ⟨r2, hl2⟩ e2
    · have hl2 : ¬ Live d (stp d (t : Int) x) := fun h => hl (e2.symm.live h)
      rw [hc.dead s1 (.inr r1) hl, hc.dead s2 (.inr r2) hl2]
def Full (d : ADfa) (c : List Int) (m : Nat) : Prop := (∀ i : Nat, i < m → ∃ s : Nat, s < d.Accept.length ∧ cls c (s : Int) = (i : Int)) ∧ ∀ s : Nat, s < d.Accept.length → cls c (s : Int) ≠ -1 → ∃ i : Nat, i < m ∧ cls c (s : Int) = (i : Int)
theorem Rf.full (h : Rf d c out KS) : Full d out KS.length := by
  refine ⟨fun i hi => ?_, fun s hs hne => ?_⟩
  · obtain ⟨s, hs, hne, hk⟩ := h.all i _ (List.getElem?_eq_getElem hi)
    obtain ⟨j, h1, h2⟩ := h.yes s hs hne
    have : i = j := (List.getElem?_inj hi h.nd).1 (by rw [List.getElem?_eq_getElem hi, h2, hk])
    exact ⟨s, hs, by rw [h1, this]⟩
  · have hne' : cls c (s : Int) ≠ -1 := fun e => hne (h.no s hs e)
    obtain ⟨j, h1, h2⟩ := h.yes s hs hne'
    exact ⟨j, (List.getElem?_eq_some_iff.1 h2).1, h1⟩
open Classical in
noncomputable def rep (d : ADfa) (c : List Int) (k : List UInt8) : Nat := if h : ∃ s : Nat, s < d.Accept.length ∧ cls c (s : Int) ≠ -1 ∧ k = ky d c (s : Int) then (cls c (Classical.choose h : Nat)).toNat else 0
theorem rep_ky {s : Nat} (hs : s < d.Accept.length) (h : cls c (s : Int) ≠ -1) : rep d c (ky d c (s : Int)) = (cls c (s : Int)).toNat := by
  have hex : ∃ t : Nat, t < d.Accept.length ∧ cls c (t : Int) ≠ -1 ∧ ky d c (s : Int) = ky d c (t : Int) := ⟨s, hs, h, rfl⟩
  unfold rep
  rw [dif_pos hex]
  rw [(ky_inj (Classical.choose_spec hex).2.2).1]
theorem Rf.cover (h : Rf d c out KS) {m : Nat} (hf : Full d c m) : ∀ i, i < m → i ∈ KS.map (rep d c) := fun i hi => by
  obtain ⟨s, hs, hi2⟩ := hf.1 i hi
  have hne : cls c (s : Int) ≠ -1 := by omega
  obtain ⟨j, h1, h2⟩ := h.yes s hs hne
  refine List.mem_map.2 ⟨ky d c (s : Int), List.mem_of_getElem? h2, ?_⟩
  rw [rep_ky hs hne, hi2, Int.toNat_natCast]
theorem Rf.more (h : Rf d c out KS) {m : Nat} (hf : Full d c m) : m ≤ KS.length := by
  have := cover_len (h.cover hf)
  simpa using this
theorem Rf.same (h : Rf d c out KS) (hf : Full d c KS.length) {s t : Nat} (hs : s < d.Accept.length) (ht : t < d.Accept.length) (h1 : cls c (s : Int) ≠ -1) (h2 : cls c (t : Int) ≠ -1) (e : cls c (s : Int) = cls c (t : Int)) : cls out (s : Int) = cls out (t : Int) := by
  have hnd := cover_nodup (h.cover hf) (by simp)
  obtain ⟨i, a1, a2⟩ := h.yes s hs h1
  obtain ⟨j, b1, b2⟩ := h.yes t ht h2
  have hil : i < (KS.map (rep d c)).length := by simpa using (List.getElem?_eq_some_iff.1 a2).1
  have : i = j := (List.getElem?_inj hil hnd).1 (by
    rw [List.getElem?_map, List.getElem?_map, a2, b2, Option.map_some, Option.map_some, rep_ky hs h1, rep_ky ht h2, e])
  rw [a1, b1, this]
end
structure Pt (d : ADfa) (r : List Int) : Prop where
  cz : Cz d r
  iff : ∀ s t : Nat, s < d.Accept.length → t < d.Accept.length → Use d (s : Int) → Use d (t : Int) → (cls r (s : Int) = cls r (t : Int) ↔ Eqv d (s : Int) (t : Int))
theorem Rf.pt {d : ADfa} (hd : okD d = true) {c out : List Int} {KS : List (List UInt8)} (h : Rf d c out KS) (hc : Cz d c) (hf : KS.length = 0 ∨ Full d c KS.length) : Pt d out := by
  have ho := h.cz hd hc
  refine ⟨ho, fun s t hs ht hus hut => ⟨fun e => ?_, fun e => ho.eqv s t hs ht hus hut e⟩⟩
  have hu : ∀ s : Nat, s < d.Accept.length → Use d (s : Int) → cls c (s : Int) ≠ -1 := fun s hs hus e => (hc.use s hs).1 e hus
  have hf : Full d c KS.length := by
    rcases hf with h0 | hf
    · obtain ⟨j, _, h2⟩ := h.yes s hs (hu s hs hus)
      have := (List.getElem?_eq_some_iff.1 h2).1
      omega
    · exact hf
  have key : ∀ (w : List Int) (s t : Int), Pr w → St d.Accept.length s → St d.Accept.length t → (s = -1 ∨ Reach d s) → (t = -1 ∨ Reach d t) → cls out s = cls out t → fin d (run d s w) = fin d (run d t w) := by
    intro w
    induction w with
    | nil =>
      intro s t _ hs ht hrs hrt e
      by_cases hn : cls out s = -1
      · have n1 := ho.live hs hrs hn
        have n2 := ho.live ht hrt (by rw [← e]; exact hn)
        have f1 : fin d s = false := by
          cases hx : fin d s with
          | false => rfl
          | true => exact absurd ⟨[], fun _ h => (by cases h), hx⟩ n1
        have f2 : fin d t = false := by
          cases hx : fin d t with
          | false => rfl
          | true => exact absurd ⟨[], fun _ h => (by cases h), hx⟩ n2
        show fin d s = fin d t
        rw [f1, f2]
      · have n1 : s ≠ -1 := fun e => by rw [e] at hn; exact hn (by unfold cls; rw [if_pos rfl])
        have n2 : t ≠ -1 := fun e2 => by rw [e, e2] at hn; exact hn (by unfold cls; rw [if_pos rfl])
        have a1 := hs.1; have a2 := hs.2; have a3 := ht.1; have a4 := ht.2
        obtain ⟨u, rfl⟩ : ∃ u : Nat, s = (u : Int) := ⟨s.toNat, by omega⟩
        obtain ⟨v, rfl⟩ : ∃ v : Nat, t = (v : Int) := ⟨t.toNat, by omega⟩
        have uu : Use d (u : Int) := Classical.byContradiction fun x => hn ((ho.use u (by omega)).2 x)
        have uv : Use d (v : Int) := Classical.byContradiction fun x => hn (by rw [e]; exact (ho.use v (by omega)).2 x)
        exact ho.acc u v (by omega) (by omega) uu uv e
    | cons x w ih =>
      intro s t hw hs ht hrs hrt e
      have hx := hw x List.mem_cons_self
      have hw' : Pr w := fun y hy => hw y (List.mem_cons_of_mem _ hy)
      show fin d (run d (stp d s x) w) = fin d (run d (stp d t x) w)
      by_cases hn : cls out s = -1
      · have n1 := ho.live hs hrs hn
        have n2 := ho.live ht hrt (by rw [← e]; exact hn)
        have f1 : fin d (run d (stp d s x) w) = false := by
          cases hy : fin d (run d (stp d s x) w) with
          | false => rfl
          | true => exact absurd (Live.step ⟨w, hw', hy⟩ hx.1 hx.2) n1
        have f2 : fin d (run d (stp d t x) w) = false := by
          cases hy : fin d (run d (stp d t x) w) with
          | false => rfl
          | true => exact absurd (Live.step ⟨w, hw', hy⟩ hx.1 hx.2) n2
        rw [f1, f2]
      · have n1 : s ≠ -1 := fun e => by rw [e] at hn; exact hn (by unfold cls; rw [if_pos rfl])
        have n2 : t ≠ -1 := fun e2 => by rw [e, e2] at hn; exact hn (by unfold cls; rw [if_pos rfl])
        have a1 := hs.1; have a2 := hs.2; have a3 := ht.1; have a4 := ht.2
        obtain ⟨u, rfl⟩ : ∃ u : Nat, s = (u : Int) := ⟨s.toNat, by omega⟩
        obtain ⟨v, rfl⟩ : ∃ v : Nat, t = (v : Int) := ⟨t.toNat, by omega⟩
        have uu : Use d (u : Int) := Classical.byContradiction fun x => hn ((ho.use u (by omega)).2 x)
        have uv : Use d (v : Int) := Classical.byContradiction fun x => hn (by rw [e]; exact (ho.use v (by omega)).2 x)
        have hk := (h.iff (by omega) (by omega) (hu u (by omega) uu) (hu v (by omega) uv)).1 e
        have hcx := (ky_inj hk).2 x hx.1 hx.2
        have t1 := stp_st hd (c := x) hs
        have t2 := stp_st hd (c := x) ht
        refine ih _ _ hw' t1 t2 (.inr (uu.1.step hx.1 hx.2)) (.inr (uv.1.step hx.1 hx.2)) ?_
        have r1 := uu.1.step hx.1 hx.2; have r2 := uv.1.step hx.1 hx.2
        have b1 := t1.1; have b2 := t1.2; have b3 := t2.1; have b4 := t2.2
        by_cases hc1 : cls c (stp d (u : Int) x) = -1
        · have l1 := hc.live t1 (.inr r1) hc1
          have l2 := hc.live t2 (.inr r2) (by rw [← hcx]; exact hc1)
          rw [ho.dead t1 (.inr r1) l1, ho.dead t2 (.inr r2) l2]
        · have m1 : stp d (u : Int) x ≠ -1 := fun e => hc1 (by rw [e]; unfold cls; rw [if_pos rfl])
          have m2 : stp d (v : Int) x ≠ -1 := fun e => hc1 (by rw [hcx, e]; unfold cls; rw [if_pos rfl])
          obtain ⟨p, hp⟩ : ∃ p : Nat, stp d (u : Int) x = (p : Int) := ⟨(stp d (u : Int) x).toNat, by omega⟩
          obtain ⟨q, hq⟩ : ∃ q : Nat, stp d (v : Int) x = (q : Int) := ⟨(stp d (v : Int) x).toNat, by omega⟩
          rw [hp] at hc1 hcx b2 ⊢; rw [hq] at hcx b4 ⊢
          exact h.same hf (by omega) (by omega) hc1 (by rw [← hcx]; exact hc1) hcx
  exact fun w hw => key w _ _ hw ⟨by omega, by omega⟩ ⟨by omega, by omega⟩ (.inr hus.1) (.inr hut.1) e
theorem aPartition_tm {d : ADfa} (hd : okD d = true) {us : List Bool} (hul : us.length = d.Accept.length) (hus : ∀ (s : Nat) (h : s < us.length), us[s] = true ↔ Use d (s : Int)) : Tm (fun N => aPartition N d us) (Pt d) := by
  obtain ⟨g1, g2, g3, g4⟩ := okD_iff.1 hd
  unfold aPartition
  refine Tm.step (mk1_ok (n := us.length) rfl (by omega) (by decide)) ?_
  have first : Tm (fun N => loopM (aPartition_b1 N d us (List.replicate us.length 0)) N (List.replicate us.length 0, 0)) (Cz d) := by
    have hlr : (List.replicate us.length (0 : Int)).length = us.length := by simp
    refine (Tm.up (Q := fun r : List Int => r.length = us.length ∧ ∀ s : Nat, s < us.length → cls r (s : Int) = if us.getD s false then (if fin d (s : Int) then 1 else 0) else -1) us.length
      (fun k t => t.2 = (k : Int) ∧ t.1.length = us.length ∧ (∀ s : Nat, s < k → cls t.1 (s : Int) = if us.getD s false then (if fin d (s : Int) then 1 else 0) else -1) ∧ ∀ s : Nat, k ≤ s → s < us.length → cls t.1 (s : Int) = 0)
      ⟨rfl, by simp, fun s h => absurd h (by omega), fun s _ h => by rw [cls_nat (by simpa using h)]; simp⟩ ?_).mono ?_
    · rintro k hk ⟨c, kk⟩ ⟨hkk, hcl, h1, h2⟩
      dsimp only at hkk hcl h1 h2; subst hkk
      unfold aPartition_b1
      rcases Nat.lt_or_ge k us.length with hlt | hge
      · have hkc : k < c.length := by omega
        have hka : k < d.Accept.length := by omega
        have put : ∀ v : Int, v = (if us.getD k false then (if fin d (k : Int) then 1 else 0) else -1) →
            (k < us.length ∧ iw ((k : Int) + 1) = ((k + 1 : Nat) : Int) ∧ (c.set k v).length = us.length ∧ (∀ s : Nat, s < k + 1 → cls (c.set k v) (s : Int) = if us.getD s false then (if fin d (s : Int) then 1 else 0) else -1) ∧ ∀ s : Nat, k + 1 ≤ s → s < us.length → cls (c.set k v) (s : Int) = 0) := by
          intro v hv
          refine ⟨hlt, iw_n (by omega), by simpa using hcl, fun s hs => ?_, fun s hs hs2 => ?_⟩
          · rw [cls_nat (by simp; omega), List.getElem_set]
            split
            · rename_i e; subst e; exact hv
            · rw [← cls_nat (by omega)]; exact h1 s (by omega)
          · rw [cls_nat (by simp; omega), List.getElem_set, if_neg (by omega), ← cls_nat (by omega)]
            exact h2 s (by omega) hs2
        refine Tm.pos (by rw [hlr]; omega) (Tm.step (idx_n hlt) (Tm.ite (fun h => ?_) (fun h => ?_)))
        · have h' : us[k] = false := by simpa using h
          exact Tm.step (idx_n hkc) (Tm.step (upd1_i (n := k) rfl hkc) (Tm.some (put _ (by rw [getD_of hlt, h']; rfl))))
        · have h' : us[k] = true := by simpa using h
          refine Tm.step (idx_n hka) (Tm.ite (fun h3 => ?_) (fun h3 => ?_))
          · refine Tm.step (idx_n hkc) (Tm.step (upd1_i (n := k) rfl hkc) (Tm.some (put _ ?_)))
            rw [getD_of hlt, h', fin_get rfl hka, h3]; rfl
          · have h3' : d.Accept[k] = false := by simpa using h3
            refine Tm.some ⟨hlt, iw_n (by omega), hcl, fun s hs => ?_, fun s hs hs2 => h2 s (by omega) hs2⟩
            by_cases e : s = k
            · subst e
              show cls c (s : Int) = _
              rw [h2 s (Nat.le_refl _) hlt, getD_of hlt, h', fin_get rfl hka, h3']; rfl
            · exact h1 s (by omega)
      · exact Tm.neg (by rw [hlr]; omega) (Tm.some ⟨hcl, fun s hs => h1 s (by omega)⟩)
    · rintro c ⟨hcl, hv⟩
      have hu : ∀ s : Nat, s < d.Accept.length → (us.getD s false = true ↔ Use d (s : Int)) := fun s hs => by
        rw [getD_of (by omega)]; exact hus s (by omega)
      refine ⟨⟨by omega, fun x hx => ?_⟩, fun s hs => ?_, fun s t hs ht h1 h2 e => ?_, fun s t hs ht h1 h2 e => ?_⟩
      · obtain ⟨s, hs, rfl⟩ := List.mem_iff_getElem.1 hx
        rw [← cls_nat hs, hv s (by omega)]
        split
        · split <;> omega
        · omega
      · rw [hv s (by omega), ← hu s hs]
        split
        · rename_i h; rw [h]; split <;> simp
        · rename_i h; exact ⟨fun _ => h, fun _ => rfl⟩
      · rw [hv s (by omega), hv t (by omega), if_pos ((hu s hs).2 h1), if_pos ((hu t ht).2 h2)] at e
        cases hx : fin d (s : Int) <;> cases hy : fin d (t : Int) <;> simp [hx, hy] at e ⊢
      · rw [hv s (by omega), hv t (by omega), if_pos ((hu s hs).2 h1), if_pos ((hu t ht).2 h2)]
        have := e [] (fun _ h => (by cases h))
        have : fin d (s : Int) = fin d (t : Int) := this
        rw [this]
  refine first.bind fun c hc => ?_
  have loop : Tm (fun N => loopM (aPartition_b2 N d) N (c, 0)) (Pt d) := by
    refine Tm.loopG (fun (m : Nat) s => s.2 = (m : Int) ∧ m ≤ d.Accept.length ∧ Cz d s.1 ∧ (m = 0 ∨ Full d s.1 m)) (fun m => d.Accept.length - m) 0 ⟨rfl, Nat.zero_le _, hc, .inl rfl⟩ ?_
    rintro m ⟨c, cnt⟩ ⟨hcnt, hm, hc, hf⟩
    dsimp only at hcnt hc hf; subst hcnt
    unfold aPartition_b2
    refine (aRefined_tm hd hc.cl).bind fun r hr => ?_
    obtain ⟨out, n⟩ := r
    obtain ⟨KS, hn, hrf⟩ := hr
    dsimp only at hn hrf; subst hn
    refine Tm.ite (fun h => Tm.some ?_) (fun h => Tm.some ⟨KS.length, ⟨rfl, hrf.few, hrf.cz hd hc, .inr hrf.full⟩, ?_⟩)
    · have : KS.length = m := by omega
      rw [← this] at hf
      exact hrf.pt hd hc hf
    · have hle : m ≤ KS.length := by
        rcases hf with rfl | hf
        · omega
        · exact hrf.more hf
      have := hrf.few
      omega
  exact loop.bind fun r hr => Tm.some hr
end Go.D
set_option linter.unusedVariables false
set_option linter.unusedSimpArgs false
namespace Go.D
open Go Go.X Go.Lib
theorem stepE_append {c : Int} {m : List AEdge} : ∀ {l : List AEdge}, (∀ e ∈ l, 0 ≤ e.To) → stepE (l ++ m) c = if stepE l c = -1 then stepE m c else stepE l c
  | [], _ => by simp [stepE]
  | e :: l, h => by
    have he := h e List.mem_cons_self
    simp only [List.cons_append]
    by_cases hc : e.Low ≤ c ∧ c ≤ e.High
    · rw [stepE_hit hc.1 hc.2, stepE_hit hc.1 hc.2, if_neg (by omega)]
    · rw [stepE_miss hc, stepE_miss hc]
      exact stepE_append (fun x hx => h x (List.mem_cons_of_mem _ hx))
theorem stepE_above {c : Int} : ∀ {l : List AEdge}, (∀ e ∈ l, e.High < c) → stepE l c = -1
  | [], _ => rfl
  | e :: l, h => by
    have := h e List.mem_cons_self
    rw [stepE_miss (fun x => by omega)]
    exact stepE_above (fun x hx => h x (List.mem_cons_of_mem _ hx))
theorem okE_snoc {n : Int} {e : AEdge} (h1 : e.Low ≤ e.High) (h2 : e.High ≤ 126) (h3 : 0 ≤ e.To) (h4 : e.To < n) : ∀ {b : Int} {l : List AEdge}, okE n b l = true → (∀ x ∈ l, x.High < e.Low) → b < e.Low → okE n b (l ++ [e]) = true
  | b, [], _, _, hb => okE_cons.2 ⟨⟨hb, h1, h2, h3, h4⟩, rfl⟩
  | b, x :: l, h, hl, hb => by
    obtain ⟨g, h6⟩ := okE_cons.1 h
    exact okE_cons.2 ⟨g, okE_snoc h1 h2 h3 h4 h6 (fun y hy => hl y (List.mem_cons_of_mem _ hy)) (hl x List.mem_cons_self)⟩
theorem okE_init {n : Int} {e : AEdge} : ∀ {b : Int} {l : List AEdge}, okE n b (l ++ [e]) = true → okE n b l = true ∧ (∀ x ∈ l, x.High < e.Low) ∧ b < e.Low ∧ e.Low ≤ e.High ∧ e.High ≤ 126 ∧ 0 ≤ e.To ∧ e.To < n
  | b, [], h => by
    obtain ⟨⟨g1, g2, g3, g4, g5⟩, _⟩ := okE_cons.1 h
    exact ⟨rfl, fun _ h => (by cases h), g1, g2, g3, g4, g5⟩
  | b, x :: l, h => by
    obtain ⟨g, h6⟩ := okE_cons.1 h
    obtain ⟨k1, k2, k3, k4, k5, k6, k7⟩ := okE_init h6
    refine ⟨okE_cons.2 ⟨g, k1⟩, fun y hy => ?_, by omega, k4, k5, k6, k7⟩
    rcases List.mem_cons.1 hy with rfl | hy
    · exact k3
    · exact k2 y hy
theorem okE_more {n m : Int} (h : n ≤ m) : ∀ {b : Int} {l : List AEdge}, okE n b l = true → okE m b l = true
  | b, [], _ => rfl
  | b, x :: l, hl => by
    obtain ⟨⟨g1, g2, g3, g4, g5⟩, h6⟩ := okE_cons.1 hl
    exact okE_cons.2 ⟨⟨g1, g2, g3, g4, by omega⟩, okE_more h h6⟩
section
variable {d : ADfa} {c : List Int}
def cN (c : List Int) (s : Nat) : Int := cls c (s : Int)
def TT (d : ADfa) (c : List Int) (S : List Nat) (s y v : Int) : Prop := (v = -1 ∧ cls c (stp d s y) = -1) ∨ (cls c (stp d s y) ≠ -1 ∧ ∃ n t : Nat, v = (n : Int) ∧ S[n]? = some t ∧ cN c t = cls c (stp d s y))
theorem TT.more {S M : List Nat} {s y v : Int} (h : TT d c S s y v) : TT d c (S ++ M) s y v := by
  rcases h with h | ⟨h, n, t, h1, h2, h3⟩
  · exact .inl h
  · exact .inr ⟨h, n, t, h1, mem_getElem?_append h2, h3⟩
structure Rx2 (d : ADfa) (c : List Int) (S : List Nat) (s x : Int) (row : List AEdge) : Prop where
  ok : okE S.length 31 row = true
  hi : ∀ e ∈ row, e.High < x
  to : ∀ y, 32 ≤ y → y < x → TT d c S s y (stepE row y)
structure Ss (d : ADfa) (c : List Int) (S : List Nat) : Prop where
  nd : (S.map (cN c)).Nodup
  use : ∀ s ∈ S, s < d.Accept.length ∧ Use d (s : Int)
theorem nodup_of_map {α β : Type} {f : α → β} : ∀ {l : List α}, (l.map f).Nodup → l.Nodup
  | [], _ => by simp
  | a :: l, h => by
    rw [List.map_cons, List.nodup_cons] at h
    exact List.nodup_cons.2 ⟨fun hm => h.1 (List.mem_map.2 ⟨a, hm, rfl⟩), nodup_of_map h.2⟩
theorem Ss.len {S : List Nat} (h : Ss d c S) : S.length ≤ d.Accept.length := nodup_lt _ (nodup_of_map h.nd) (fun s hs => (h.use s hs).1)
theorem aMinimize_b2_tm (hd : okD d = true) (hp : Pt d c) {i : Nat} {E : List (List AEdge)} (hi : i = E.length) {s : Nat} (hs : s < d.Accept.length) (hus : Use d (s : Int)) {S : List Nat} (hS : Ss d c S) :
    Tm (fun N => loopM (aMinimize_b2 N d c E (i : Int) (s : Int)) N (([] : List AEdge), nm 0 (S.map (cN c)), S.map (fun (t : Nat) => (t : Int)), 32)) (fun r => ∃ M row, r = (row, nm 0 ((S ++ M).map (cN c)), (S ++ M).map (fun (t : Nat) => (t : Int))) ∧ Ss d c (S ++ M) ∧ Rx2 d c (S ++ M) (s : Int) 127 row) := by
  obtain ⟨g1, g2, g3, g4⟩ := okD_iff.1 hd
  have hst : St d.Accept.length (s : Int) := ⟨by omega, by omega⟩
  refine Tm.up 95 (fun k t => ∃ M row, t = (row, nm 0 ((S ++ M).map (cN c)), (S ++ M).map (fun (t : Nat) => (t : Int)), ((32 + k : Nat) : Int)) ∧ Ss d c (S ++ M) ∧ Rx2 d c (S ++ M) (s : Int) ((32 + k : Nat) : Int) row)
    ⟨[], [], by simp, by simpa using hS, ⟨rfl, fun _ h => (by cases h), fun y h1 h2 => by omega⟩⟩ ?_
  rintro k hk t ⟨M, row, rfl, hSM, hrow⟩
  unfold aMinimize_b2
  rcases Nat.lt_or_ge k 95 with hlt | hge
  · have hu : uw8 ((32 + k : Nat) : Int) = ((32 + k : Nat) : Int) := uw8_eq (by omega) (by omega)
    have hiw : iw (((32 + k : Nat) : Int) + 1) = ((32 + (k + 1) : Nat) : Int) := by rw [iw_eq (by omega) (by omega)]; congr 1
    generalize hx : ((32 + k : Nat) : Int) = x at *
    have hx1 : 32 ≤ x := by omega
    have hx2 : x ≤ 126 := by omega
    have hnx : ((32 + (k + 1) : Nat) : Int) = x + 1 := by omega
    have hst2 := stp_st hd (c := x) hst
    refine Tm.pos (by omega) ?_
    rw [hu]
    refine (aStep_tm hd hst).eq ((aClass_tm hp.cz.cl hst2).eq ?_)
    have hlen := hSM.len
    have hrl := okE_len hrow.ok
    refine Tm.ite (fun hq => ?_) (fun hq => ?_)
    · refine Tm.some ⟨hlt, M, row, by rw [hiw], hSM, hrow.ok, fun e he => ?_, fun y h1 h2 => ?_⟩
      · have := hrow.hi e he; omega
      · by_cases e : y = x
        · subst e; exact .inl ⟨stepE_above hrow.hi, hq⟩
        · exact hrow.to y h1 (by omega)
    · 
      have num : Tm (fun N => ((if (!(mget (nm 0 ((S ++ M).map (cN c))) (cls c (stp d (s : Int) x)) 0).2) = true then
            (apnd 8 ((S ++ M).map (fun (t : Nat) => (t : Int))) [stp d (s : Int) x]).bind fun x3383 =>
            some ((mput (nm 0 ((S ++ M).map (cN c))) (cls c (stp d (s : Int) x)) (List.length ((S ++ M).map (fun (t : Nat) => (t : Int))) : Int)), x3383, (List.length ((S ++ M).map (fun (t : Nat) => (t : Int))) : Int))
          else
            some (nm 0 ((S ++ M).map (cN c)), (S ++ M).map (fun (t : Nat) => (t : Int)), (mget (nm 0 ((S ++ M).map (cN c))) (cls c (stp d (s : Int) x)) 0).1)) : Option ((List (Int × Int)) × (List Int) × Int)))
          (fun r => ∃ M' n, r = (nm 0 ((S ++ M').map (cN c)), (S ++ M').map (fun (t : Nat) => (t : Int)), ((n : Nat) : Int)) ∧ (∃ M2, S ++ M' = (S ++ M) ++ M2) ∧ Ss d c (S ++ M') ∧ ∃ t, (S ++ M')[n]? = some t ∧ cN c t = cls c (stp d (s : Int) x)) := by
        by_cases hin : cls c (stp d (s : Int) x) ∈ (S ++ M).map (cN c)
        · obtain ⟨j, h1, h2⟩ := nm_in (k := 0) (z := 0) hin
          rw [h2]
          rw [List.getElem?_map] at h1
          cases h9 : (S ++ M)[j]? with
          | none => rw [h9] at h1; cases h1
          | some t =>
            rw [h9] at h1
            exact Tm.neg (by simp) (Tm.some ⟨M, j, by simp, ⟨[], by simp⟩, hSM, t, h9, Option.some.inj h1⟩)
        · rw [nm_out hin]
          have hput := nm_put (k := 0) hin
          rw [Nat.zero_add, List.length_map] at hput
          have b1 := hst2.1; have b2 := hst2.2
          have hne : stp d (s : Int) x ≠ -1 := fun e => hq (by rw [e]; unfold cls; rw [if_pos rfl])
          obtain ⟨t, ht⟩ : ∃ t : Nat, stp d (s : Int) x = (t : Int) := ⟨(stp d (s : Int) x).toNat, by omega⟩
          have htu : Use d (t : Int) := Classical.byContradiction fun h => hq (by rw [ht]; exact (hp.cz.use t (by omega)).2 h)
          refine Tm.pos rfl (Tm.step (apnd_ok (by simp only [List.length_map, List.length_singleton]; omega) (by decide)) (Tm.some ⟨M ++ [t], (S ++ M).length, ?_, ⟨[t], by simp⟩, ⟨?_, ?_⟩, t, by rw [← List.append_assoc, List.getElem?_append_right (Nat.le_refl _), Nat.sub_self]; rfl, by rw [ht]; rfl⟩))
          · rw [List.length_map, hput, ← List.append_assoc, List.map_append (l₁ := S ++ M) (f := cN c), List.map_append (l₁ := S ++ M), ht]; rfl
          · rw [← List.append_assoc, List.map_append (l₁ := S ++ M)]
            refine List.nodup_append.2 ⟨hSM.nd, by simp, fun a ha b hb => ?_⟩
            have : b = cN c t := List.mem_singleton.1 hb
            rw [this]
            intro e
            exact hin (by rw [ht]; rw [e] at ha; exact ha)
          · rw [← List.append_assoc]
            intro a ha
            rcases List.mem_append.1 ha with ha | ha
            · exact hSM.use a ha
            · rw [List.mem_singleton.1 ha]; exact ⟨by omega, htu⟩
      refine num.bind fun r hr => ?_
      obtain ⟨M', n, rfl, ⟨M2, hM2⟩, hSM', t, ht1, ht2⟩ := hr
      have hnl := (List.getElem?_eq_some_iff.1 ht1).1
      have hok' : okE (S ++ M').length 31 row = true := okE_more (by rw [hM2, List.length_append (as := S ++ M)]; omega) hrow.ok
      have hto' : ∀ y, 32 ≤ y → y < x → TT d c (S ++ M') (s : Int) y (stepE row y) := fun y h1 h2 => by rw [hM2]; exact (hrow.to y h1 h2).more
      have hTx : TT d c (S ++ M') (s : Int) x (n : Int) := .inr ⟨hq, n, t, rfl, ht1, ht2⟩
      refine Tm.step (chk_ok (by omega)) ?_
      rcases List.eq_nil_or_concat row with rfl | ⟨init, e, hrw⟩
      · 
        have hcond : Tm (fun N => ((if ((iw ((List.length ([] : List AEdge) : Int) - 1)) : Int) ≥ 0 then
              (idx ([] : List AEdge) (iw ((List.length ([] : List AEdge) : Int) - 1))).bind fun x3456 =>
              (if (x3456.To : Int) = (n : Int) then
                (idx ([] : List AEdge) (iw ((List.length ([] : List AEdge) : Int) - 1))).bind fun x3470 =>
                some (decide (((iw x3470.High) : Int) = (iw (x - 1))))
              else
                some false)
            else
              some false) : Option Bool)) (· = false) := by
          refine Tm.neg ?_ (Tm.some rfl)
          have : iw ((List.length ([] : List AEdge) : Int) - 1) = -1 := by rw [iw_eq] <;> simp
          rw [this]; omega
        refine hcond.eq (Tm.neg (by simp) (Tm.step (chk_ok (by omega)) (Tm.step (apnd_ok (by simp) (by decide)) (Tm.some ⟨hlt, M', _, by rw [hiw], hSM', ?_, ?_, ?_⟩))))
        · exact okE_snoc (l := []) (e := ⟨x, x, n⟩) (Int.le_refl _) hx2 (by dsimp only; omega) (by dsimp only; omega) rfl (fun _ h => (by cases h)) (by dsimp only; omega)
        · intro e he
          have : e = ⟨x, x, n⟩ := by simpa using he
          rw [this]; dsimp only; omega
        · intro y h1 h2
          by_cases ey : y = x
          · subst ey
            have : stepE ([] ++ [(⟨y, y, n⟩ : AEdge)]) y = n := stepE_hit (Int.le_refl _) (Int.le_refl _)
            rw [this]; exact hTx
          · have h9 := hto' y h1 (by omega)
            have : stepE ([] ++ [(⟨x, x, n⟩ : AEdge)]) y = -1 := stepE_miss (fun hh => by dsimp only at hh; omega)
            rw [this]; exact h9
      · rw [List.concat_eq_append] at hrw
        subst hrw
        obtain ⟨o1, o2, o3, o4, o5, o6, o7⟩ := okE_init hok'
        have hinit0 : ∀ z ∈ init, 0 ≤ z.To := fun z hz => (okE_mem (by omega) o1 z hz).2.2.2.2.1
        have heh : e.High < x := hrow.hi e (by simp)
        have hix : iw ((List.length (init ++ [e]) : Int) - 1) = (init.length : Int) := by
          simp only [List.length_append, List.length_singleton] at hrl ⊢
          rw [iw_eq] <;> omega
        have hg : idx (init ++ [e]) (init.length : Int) = some e := idx_get (by rw [List.getElem?_append_right (Nat.le_refl _), Nat.sub_self]; rfl)
        have hcond : Tm (fun N => ((if ((iw ((List.length (init ++ [e]) : Int) - 1)) : Int) ≥ 0 then
              (idx (init ++ [e]) (iw ((List.length (init ++ [e]) : Int) - 1))).bind fun x3456 =>
              (if (x3456.To : Int) = (n : Int) then
                (idx (init ++ [e]) (iw ((List.length (init ++ [e]) : Int) - 1))).bind fun x3470 =>
                some (decide (((iw x3470.High) : Int) = (iw (x - 1))))
              else
                some false)
            else
              some false) : Option Bool)) (fun b => b = true → e.To = (n : Int) ∧ e.High = x - 1) := by
          rw [hix]
          refine Tm.pos (by omega) (Tm.step hg (Tm.ite (fun h => Tm.step hg (Tm.some fun hb => ⟨h, ?_⟩)) (fun h => Tm.some fun hb => (by cases hb))))
          have := of_decide_eq_true hb
          rwa [iw_eq (by omega) (by omega), iw_eq (by omega) (by omega)] at this
        refine hcond.bind fun b hb => Tm.ite (fun h => ?_) (fun h => ?_)
        · obtain ⟨hb1, hb2⟩ := hb h
          rw [hix]
          refine Tm.step hg (Tm.step (upd1_i (n := init.length) rfl (by simp)) (Tm.some ⟨hlt, M', init ++ [⟨e.Low, x, e.To⟩], ?_, hSM', ?_, ?_, ?_⟩))
          · rw [hiw, List.set_append_right _ _ (Nat.le_refl _), Nat.sub_self]; rfl
          · exact okE_snoc (e := ⟨e.Low, x, e.To⟩) (by dsimp only; omega) hx2 o6 o7 o1 o2 o3
          · intro z hz
            rcases List.mem_append.1 hz with hz | hz
            · have := hrow.hi z (List.mem_append_left _ hz); omega
            · rw [List.mem_singleton.1 hz]; dsimp only; omega
          · intro y h1 h2
            rw [stepE_append hinit0]
            by_cases ey : y = x
            · subst ey
              rw [stepE_above (fun z hz => hrow.hi z (List.mem_append_left _ hz)), if_pos rfl, stepE_hit (by dsimp only; omega) (Int.le_refl _), hb1]
              exact hTx
            · have h9 := hto' y h1 (by omega)
              rw [stepE_append hinit0] at h9
              have : stepE [(⟨e.Low, x, e.To⟩ : AEdge)] y = stepE [e] y := by
                show (if e.Low ≤ y ∧ y ≤ x then e.To else -1) = (if e.Low ≤ y ∧ y ≤ e.High then e.To else -1)
                by_cases hh : e.Low ≤ y
                · rw [if_pos ⟨hh, by omega⟩, if_pos ⟨hh, by omega⟩]
                · rw [if_neg (fun hz => hh hz.1), if_neg (fun hz => hh hz.1)]
              rw [this]; exact h9
        · refine Tm.step (chk_ok (by omega)) (Tm.step (apnd_ok (by simp only [List.length_append, List.length_singleton] at hrl ⊢; omega) (by decide)) (Tm.some ⟨hlt, M', _, by rw [hiw], hSM', ?_, ?_, ?_⟩))
          · exact okE_snoc (e := ⟨x, x, n⟩) (Int.le_refl _) hx2 (by dsimp only; omega) (by dsimp only; omega) hok' hrow.hi (by dsimp only; omega)
          · intro z hz
            rcases List.mem_append.1 hz with hz | hz
            · have := hrow.hi z hz; omega
            · rw [List.mem_singleton.1 hz]; dsimp only; omega
          · intro y h1 h2
            rw [stepE_append (fun z hz => (okE_mem (by omega) hok' z hz).2.2.2.2.1)]
            by_cases ey : y = x
            · subst ey
              rw [stepE_above hrow.hi, if_pos rfl, stepE_hit (Int.le_refl _) (Int.le_refl _)]
              exact hTx
            · have h9 := hto' y h1 (by omega)
              have : stepE [(⟨x, x, n⟩ : AEdge)] y = -1 := stepE_miss (fun hh => by dsimp only at hh; omega)
              rw [this]
              split
              · rename_i hh; rw [hh] at h9; exact h9
              · exact h9
  · have : k = 95 := by omega
    subst this
    exact Tm.neg (by omega) (Tm.some ⟨M, row, rfl, hSM, hrow⟩)
end
end Go.D
set_option linter.unusedVariables false
set_option linter.unusedSimpArgs false
namespace Go.D
open Go Go.X Go.Lib
structure Mn (d : ADfa) (c : List Int) (S : List Nat) (m : ADfa) : Prop where
  ss : Ss d c S
  zero : S[0]? = some 0
  la : m.Accept.length = S.length
  le : m.Edges.length = S.length
  acc : ∀ (i s : Nat), S[i]? = some s → m.Accept[i]? = some (fin d (s : Int))
  row : ∀ (i s : Nat), S[i]? = some s → ∃ r, m.Edges[i]? = some r ∧ okE S.length 31 r = true ∧ ∀ y, 32 ≤ y → y ≤ 126 → TT d c S (s : Int) y (stepE r y)
abbrev zs (S : List Nat) : List Int := S.map (fun (t : Nat) => (t : Int))
theorem aMinimize_b1_tm {d : ADfa} (hd : okD d = true) {c : List Int} (hp : Pt d c) (h0 : Use d 0) :
    Tm (fun N => loopM (aMinimize_b1 N d c) N (([] : List Bool), ([] : List (List AEdge)), nm 0 ([0].map (cN c)), zs [0], 0)) (fun r => ∃ m S, r = (m.Accept, m.Edges) ∧ Mn d c S m) := by
  obtain ⟨g1, g2, g3, g4⟩ := okD_iff.1 hd
  refine Tm.loopG (fun (i : Nat) t => ∃ S A E, t = (A, E, nm 0 (S.map (cN c)), zs S, (i : Int)) ∧ Ss d c S ∧ S[0]? = some 0 ∧ A.length = i ∧ E.length = i ∧ i ≤ S.length ∧
      (∀ j s : Nat, j < i → S[j]? = some s → A[j]? = some (fin d (s : Int))) ∧
      (∀ j s : Nat, j < i → S[j]? = some s → ∃ r, E[j]? = some r ∧ okE S.length 31 r = true ∧ ∀ y, 32 ≤ y → y ≤ 126 → TT d c S (s : Int) y (stepE r y)))
    (fun i => d.Accept.length - i) 0
    ⟨[0], [], [], rfl, ⟨by simp, fun s hs => by rw [List.mem_singleton.1 hs]; exact ⟨by omega, h0⟩⟩, rfl, rfl, rfl, by simp, fun j s h => absurd h (by omega), fun j s h => absurd h (by omega)⟩ ?_
  rintro i t ⟨S, A, E, rfl, hS, hz, hA, hE, hil, hacc, hrow⟩
  have hlen := hS.len
  unfold aMinimize_b1
  rcases Nat.lt_or_ge i S.length with hlt | hge
  · have hzl : i < (zs S).length := by simpa using hlt
    have hzg : (zs S)[i] = (S[i] : Int) := by simp
    obtain ⟨hsn, hsu⟩ := hS.use _ (List.getElem_mem hlt)
    refine Tm.pos (by simp; omega) (Tm.step (idx_n hzl) ?_)
    rw [hzg]
    refine Tm.step (idx_n hsn) ?_
    have e1 : apnd 1 A [d.Accept[S[i]]] = some (A ++ [d.Accept[S[i]]]) := apnd_ok (by simp only [List.length_singleton]; omega) (by decide)
    simp only [e1, Option.bind_some]
    rw [chk_ok (show (List.length E + 1) * 24 ≤ 140737488355328 ∧ List.length E + 1 ≤ 9223372036854775807 by omega)]
    simp only [Option.bind_some]
    refine (aMinimize_b2_tm hd hp hE.symm hsn hsu hS).bind fun r hr => ?_
    obtain ⟨M, row, rfl, hSM, hrw⟩ := hr
    refine Tm.some ⟨i + 1, ⟨S ++ M, _, _, by rw [iw_n (by omega)], hSM, mem_getElem?_append hz, by simp [hA], by simp [hE], by rw [List.length_append]; omega, fun j s hj hjs => ?_, fun j s hj hjs => ?_⟩, by omega⟩
    · by_cases hji : j = i
      · subst hji
        have : (S ++ M)[j]? = some S[j] := mem_getElem?_append (List.getElem?_eq_getElem hlt)
        rw [hjs] at this; cases this
        rw [List.getElem?_append_right (by omega), hA, Nat.sub_self, fin_get rfl hsn]; rfl
      · rw [List.getElem?_append_left (by omega)] at hjs
        exact mem_getElem?_append (hacc j s (by omega) hjs)
    · by_cases hji : j = i
      · subst hji
        have : (S ++ M)[j]? = some S[j] := mem_getElem?_append (List.getElem?_eq_getElem hlt)
        rw [hjs] at this; cases this
        exact ⟨row, by rw [List.getElem?_append_right (by omega), hE, Nat.sub_self]; rfl, hrw.ok, fun y h1 h2 => hrw.to y h1 (by omega)⟩
      · rw [List.getElem?_append_left (by omega)] at hjs
        obtain ⟨r, a1, a2, a3⟩ := hrow j s (by omega) hjs
        exact ⟨r, mem_getElem?_append a1, okE_more (by rw [List.length_append]; omega) a2, fun y h1 h2 => (a3 y h1 h2).more⟩
  · have : i = S.length := by omega
    subst this
    exact Tm.neg (by simp) (Tm.some ⟨⟨A, E⟩, S, rfl, hS, hz, hA, hE, fun i s h => hacc i s (List.getElem?_eq_some_iff.1 h).1 h, fun i s h => hrow i s (List.getElem?_eq_some_iff.1 h).1 h⟩)
section
variable {d m : ADfa} {c : List Int} {S : List Nat}
theorem Mn.ok (hd : okD d = true) (h : Mn d c S m) : okD m = true := by
  obtain ⟨g1, g2, g3, g4⟩ := okD_iff.1 hd
  have hl := h.ss.len
  have hz := (List.getElem?_eq_some_iff.1 h.zero).1
  refine okD_iff.2 ⟨by rw [h.la]; omega, by rw [h.la]; omega, by rw [h.la, h.le], fun r hr => ?_⟩
  obtain ⟨i, hi, rfl⟩ := List.mem_iff_getElem.1 hr
  have hiS : i < S.length := by rw [← h.le]; exact hi
  obtain ⟨r, h1, h2, _⟩ := h.row i _ (List.getElem?_eq_getElem hiS)
  rw [List.getElem?_eq_getElem hi] at h1
  rw [Option.some.inj h1, h.la]; exact h2
theorem Pt.step (hd : okD d = true) (hp : Pt d c) {s t : Nat} (hs : s < d.Accept.length) (ht : t < d.Accept.length) (us : Use d (s : Int)) (ut : Use d (t : Int)) (e : cls c (s : Int) = cls c (t : Int)) {y : Int} (h1 : 32 ≤ y) (h2 : y ≤ 126) : cls c (stp d (s : Int) y) = cls c (stp d (t : Int) y) := by
  have he := ((hp.iff s t hs ht us ut).1 e).step h1 h2
  have s1 := stp_st hd (c := y) (s := (s : Int)) ⟨by omega, by omega⟩
  have s2 := stp_st hd (c := y) (s := (t : Int)) ⟨by omega, by omega⟩
  have r1 := us.1.step h1 h2
  have r2 := ut.1.step h1 h2
  by_cases hl : Live d (stp d (s : Int) y)
  · have hl2 := he.live hl
    have n1 : stp d (s : Int) y ≠ -1 := fun e => by rw [e] at hl; exact not_live_none hl
    have n2 : stp d (t : Int) y ≠ -1 := fun e => by rw [e] at hl2; exact not_live_none hl2
    have a1 := s1.1; have a2 := s1.2; have a3 := s2.1; have a4 := s2.2
    obtain ⟨u, hu'⟩ : ∃ u : Nat, stp d (s : Int) y = (u : Int) := ⟨(stp d (s : Int) y).toNat, by omega⟩
    obtain ⟨v, hv'⟩ : ∃ v : Nat, stp d (t : Int) y = (v : Int) := ⟨(stp d (t : Int) y).toNat, by omega⟩
    rw [hu'] at hl r1 he a2 ⊢; rw [hv'] at hl2 r2 he a4 ⊢
    exact (hp.iff u v (by omega) (by omega) ⟨r1, hl⟩ ⟨r2, hl2⟩).2 he
  · have hl2 : ¬ Live d (stp d (t : Int) y) := fun h => hl (he.symm.live h)
    rw [hp.cz.dead s1 (.inr r1) hl, hp.cz.dead s2 (.inr r2) hl2]
def AtM (c : List Int) (S : List Nat) (q s : Int) : Prop := (q = -1 ∧ cls c s = -1) ∨ (cls c s ≠ -1 ∧ ∃ n t : Nat, q = (n : Int) ∧ S[n]? = some t ∧ cN c t = cls c s)
theorem Mn.step (hd : okD d = true) (hp : Pt d c) (h : Mn d c S m) {q s y : Int} (hs : St d.Accept.length s) (hr : s = -1 ∨ Reach d s) (hA : AtM c S q s) (h1 : 32 ≤ y) (h2 : y ≤ 126) : AtM c S (stp m q y) (stp d s y) := by
  have t1 := stp_st hd (c := y) hs
  rcases hA with ⟨rfl, hc⟩ | ⟨hc, n, t, rfl, ht1, ht2⟩
  · refine .inl ⟨stp_none, ?_⟩
    have hl := hp.cz.live hs hr hc
    rcases hr with rfl | hr
    · rw [stp_none]; exact hc
    · exact hp.cz.dead t1 (.inr (hr.step h1 h2)) fun hx => hl (hx.step h1 h2)
  · have hne : s ≠ -1 := fun e => hc (by rw [e]; unfold cls; rw [if_pos rfl])
    have a1 := hs.1; have a2 := hs.2
    obtain ⟨u, rfl⟩ : ∃ u : Nat, s = (u : Int) := ⟨s.toNat, by omega⟩
    have uu : Use d (u : Int) := Classical.byContradiction fun x => hc ((hp.cz.use u (by omega)).2 x)
    obtain ⟨htn, htu⟩ := h.ss.use _ (List.mem_of_getElem? ht1)
    have hst := Pt.step hd hp htn (by omega) htu uu ht2 h1 h2
    obtain ⟨r, k1, k2, k3⟩ := h.row n t ht1
    have e1 : stp m (n : Int) y = stepE r y := by
      unfold stp
      rw [if_neg (by omega), Int.toNat_natCast, List.getD_eq_getElem?_getD, k1]; rfl
    rw [e1]
    rcases k3 y h1 h2 with ⟨b1, b2⟩ | ⟨b1, n', t', b2, b3, b4⟩
    · exact .inl ⟨b1, by rw [← hst]; exact b2⟩
    · exact .inr ⟨by rw [← hst]; exact b1, n', t', b2, b3, by rw [← hst]; exact b4⟩
theorem Mn.run (hd : okD d = true) (hp : Pt d c) (h : Mn d c S m) : ∀ {w : List Int} {q s : Int}, Pr w → St d.Accept.length s → (s = -1 ∨ Reach d s) → AtM c S q s → AtM c S (run m q w) (run d s w)
  | [], _, _, _, _, _, hA => hA
  | y :: w, q, s, hw, hs, hr, hA => by
    have hy := hw y List.mem_cons_self
    refine Mn.run hd hp h (w := w) (fun x hx => hw x (List.mem_cons_of_mem _ hx)) (stp_st hd hs) ?_ (h.step hd hp hs hr hA hy.1 hy.2)
    rcases hr with rfl | hr
    · exact .inl stp_none
    · exact .inr (hr.step hy.1 hy.2)
theorem Mn.at0 (hd : okD d = true) (hp : Pt d c) (h0 : Use d 0) (h : Mn d c S m) {w : List Int} (hw : Pr w) : AtM c S (D.run m 0 w) (D.run d 0 w) := by
  have g1 := (okD_iff.1 hd).1
  have hne : cls c 0 ≠ -1 := fun e => (hp.cz.use 0 (by omega)).1 e h0
  exact h.run hd hp hw (st0 hd) (.inr Reach.zero) (.inr ⟨hne, 0, 0, rfl, h.zero, rfl⟩)
theorem Mn.same (hd : okD d = true) (hp : Pt d c) (h0 : Use d 0) (h : Mn d c S m) : Same d m := by
  intro w hw
  have hst := run_st (w := w) hd (st0 hd)
  have hr : Reach d (D.run d 0 w) := ⟨w, hw, rfl⟩
  rcases h.at0 hd hp h0 hw with ⟨h1, h2⟩ | ⟨hc, n, t, h1, h2, h3⟩
  · rw [h1, fin_none]
    have hl := hp.cz.live hst (.inr hr) h2
    cases hx : fin d (D.run d 0 w) with
    | false => rfl
    | true => exact absurd ⟨[], fun _ h => (by cases h), hx⟩ hl
  · have hne : D.run d 0 w ≠ -1 := fun e => hc (by rw [e]; unfold cls; rw [if_pos rfl])
    have a1 := hst.1; have a2 := hst.2
    obtain ⟨u, hu⟩ : ∃ u : Nat, D.run d 0 w = (u : Int) := ⟨(D.run d 0 w).toNat, by omega⟩
    rw [hu] at hc h3 a2 hr ⊢
    have uu : Use d (u : Int) := Classical.byContradiction fun x => hc ((hp.cz.use u (by omega)).2 x)
    obtain ⟨htn, htu⟩ := h.ss.use _ (List.mem_of_getElem? h2)
    have he := (hp.iff t u htn (by omega) htu uu).1 h3
    have hnl := (List.getElem?_eq_some_iff.1 h2).1
    have ha := h.acc n t h2
    rw [← h.la] at hnl
    rw [List.getElem?_eq_getElem hnl] at ha
    rw [h1, fin_get rfl hnl, Option.some.inj ha]
    exact (he [] (fun _ h => (by cases h))).symm
end
abbrev Lg := {w : List Int // Pr w} → Bool
def lang (d : ADfa) (s : Nat) : Lg := fun w => fin d (run d (s : Int) w.1)
theorem lang_iff {d e : ADfa} {s t : Nat} : lang d s = lang e t ↔ ∀ w, Pr w → fin d (run d (s : Int) w) = fin e (run e (t : Int) w) :=
  ⟨fun h w hw => congrFun h ⟨w, hw⟩, fun h => funext fun w => h w.1 w.2⟩
structure Ct (d : ADfa) (S : List Nat) : Prop where
  use : ∀ s ∈ S, s < d.Accept.length ∧ Use d (s : Int)
  nd : (S.map (lang d)).Nodup
  all : ∀ s : Nat, s < d.Accept.length → Use d (s : Int) → lang d s ∈ S.map (lang d)
open Classical in
theorem nodup_sub {α : Type} : ∀ {l m : List α}, l.Nodup → (∀ x ∈ l, x ∈ m) → l.length ≤ m.length
  | [], _, _, _ => Nat.zero_le _
  | x :: l, m, hn, h => by
    obtain ⟨h1, h2⟩ := List.nodup_cons.1 hn
    have hx := h x List.mem_cons_self
    have := nodup_sub (l := l) (m := m.erase x) h2 (fun y hy => (List.mem_erase_of_ne (fun e => h1 (by rw [← e]; exact hy))).2 (h y (List.mem_cons_of_mem _ hy)))
    rw [List.length_erase_of_mem hx] at this
    have := List.length_pos_of_mem hx
    simp only [List.length_cons]; omega
theorem Same.use {a b : ADfa} (ha : okD a = true) (hb : okD b = true) (h : Same a b) {s : Nat} (hs : Use a (s : Int)) : ∃ t : Nat, t < b.Accept.length ∧ Use b (t : Int) ∧ lang a s = lang b t := by
  obtain ⟨⟨w, hw, hr⟩, v, hv, hl⟩ := hs
  have hst := run_st (w := w) hb (st0 hb)
  have hcat : ∀ x, Pr x → fin a (run a (s : Int) x) = fin b (run b (run b 0 w) x) := fun x hx => by
    have := h (w ++ x) (fun y hy => by
      rcases List.mem_append.1 hy with hy | hy
      · exact hw y hy
      · exact hx y hy)
    unfold run at this hr ⊢
    rw [List.foldl_append, List.foldl_append, hr] at this
    exact this
  have hlive : Live b (run b 0 w) := ⟨v, hv, by rw [← hcat v hv]; exact hl⟩
  have hne : run b 0 w ≠ -1 := fun e => by rw [e] at hlive; exact not_live_none hlive
  have a1 := hst.1; have a2 := hst.2
  obtain ⟨t, ht⟩ : ∃ t : Nat, run b 0 w = (t : Int) := ⟨(run b 0 w).toNat, by omega⟩
  refine ⟨t, by omega, ⟨⟨w, hw, ht⟩, by rw [← ht]; exact hlive⟩, lang_iff.2 fun x hx => ?_⟩
  rw [hcat x hx, ht]
theorem Ct.le {a b : ADfa} (ha : okD a = true) (hb : okD b = true) (h : Same a b) {S T : List Nat} (hS : Ct a S) (hT : Ct b T) : S.length ≤ T.length := by
  have := nodup_sub (m := T.map (lang b)) hS.nd (fun f hf => by
    obtain ⟨s, hs, rfl⟩ := List.mem_map.1 hf
    obtain ⟨t, ht, hu, e⟩ := h.use ha hb (hS.use s hs).2
    rw [e]; exact hT.all t ht hu)
  simpa using this
theorem Ct.eq {a b : ADfa} (ha : okD a = true) (hb : okD b = true) (h : Same a b) {S T : List Nat} (hS : Ct a S) (hT : Ct b T) : S.length = T.length :=
  Nat.le_antisymm (Ct.le ha hb h hS hT) (Ct.le hb ha h.symm hT hS)
theorem Mn.ct {d m : ADfa} {c : List Int} {S : List Nat} (hd : okD d = true) (hp : Pt d c) (h0 : Use d 0) (h : Mn d c S m) : Ct d S := by
  have hiff : ∀ s t : Nat, s < d.Accept.length → t < d.Accept.length → Use d (s : Int) → Use d (t : Int) → (cN c s = cN c t ↔ lang d s = lang d t) := fun s t hs ht us ut => (hp.iff s t hs ht us ut).trans lang_iff.symm
  refine ⟨h.ss.use, ?_, fun s hs hu => ?_⟩
  · have hnd := h.ss.nd
    rw [List.nodup_iff_pairwise_ne, List.pairwise_map] at hnd ⊢
    refine List.Pairwise.imp_of_mem (fun {x y} hx hy hne e => ?_) hnd
    obtain ⟨x1, x2⟩ := h.ss.use x hx
    obtain ⟨y1, y2⟩ := h.ss.use y hy
    exact hne ((hiff x y x1 y1 x2 y2).2 e)
  · obtain ⟨w, hw, hr⟩ := hu.1
    have hc : cls c (s : Int) ≠ -1 := fun e => (hp.cz.use s hs).1 e hu
    rcases h.at0 hd hp h0 hw with ⟨_, h2⟩ | ⟨_, n, t, _, h2, h3⟩
    · rw [hr] at h2; exact absurd h2 hc
    · rw [hr] at h3
      obtain ⟨t1, t2⟩ := h.ss.use t (List.mem_of_getElem? h2)
      refine List.mem_map.2 ⟨t, List.mem_of_getElem? h2, (hiff t s t1 hs t2 hu).1 h3⟩
theorem aMinimize_tm {d : ADfa} (hd : okD d = true) : Tm (fun N => aMinimize N d) (fun r => r.2 = 0 ∧ okD r.1 = true ∧ Same d r.1 ∧ ∃ S, Ct d S ∧ r.1.Accept.length = max 1 S.length) := by
  obtain ⟨g1, g2, g3, g4⟩ := okD_iff.1 hd
  unfold aMinimize
  refine (aUseful_tm hd).bind fun us hus => ?_
  have hul : 0 < us.length := by rw [hus.1]; omega
  refine Tm.step (idx_i (n := 0) rfl hul) (Tm.ite (fun h => ?_) (fun h => ?_))
  · have h' : us[0] = false := by simpa using h
    have hnu : ¬ Use d 0 := fun hu => by
      have := (hus.2 0 hul).2 hu
      rw [h'] at this; cases this
    have hno : ∀ w, Pr w → fin d (run d 0 w) = false := fun w hw => by
      cases hx : fin d (run d 0 w) with
      | false => rfl
      | true => exact absurd ⟨Reach.zero, w, hw, hx⟩ hnu
    refine Tm.some ⟨rfl, by decide, fun w hw => ?_, [], ⟨fun _ h => (by cases h), by simp, fun s hs hu => ?_⟩, rfl⟩
    · rw [hno w hw]
      have key : ∀ (w : List Int) (s : Int), (s = 0 ∨ s = -1) → fin (⟨[false], [[]]⟩ : ADfa) (run ⟨[false], [[]]⟩ s w) = false := by
        intro w
        induction w with
        | nil =>
          rintro s (rfl | rfl)
          · rfl
          · rfl
        | cons y w ih =>
          rintro s (rfl | rfl)
          · exact ih _ (.inr rfl)
          · exact ih _ (.inr rfl)
      exact (key w 0 (.inl rfl)).symm
    · obtain ⟨⟨w, hw, hr⟩, v, hv, hl⟩ := hu
      have := hno (w ++ v) (fun y hy => by
        rcases List.mem_append.1 hy with hy | hy
        · exact hw y hy
        · exact hv y hy)
      unfold run at this hr hl
      rw [List.foldl_append, hr, hl] at this
      cases this
  · have h' : us[0] = true := by simpa using h
    have hu0 : Use d 0 := (hus.2 0 hul).1 h'
    refine (aPartition_tm hd hus.1 hus.2).bind fun c hp => ?_
    have hcl : 0 < c.length := by rw [hp.cz.cl.1]; omega
    refine Tm.step (idx_i (n := 0) rfl hcl) ?_
    have e0 : mput ([] : List (Int × Int)) c[0] 0 = nm 0 ([0].map (cN c)) := by
      show [(c[0], (0 : Int))] = [(cN c 0, ((0 : Nat) : Int))]
      unfold cN
      rw [cls_nat hcl]; rfl
    rw [e0]
    refine (aMinimize_b1_tm hd hp hu0).bind fun r hr => ?_
    obtain ⟨m, S, rfl, hm⟩ := hr
    have hz := (List.getElem?_eq_some_iff.1 hm.zero).1
    refine Tm.some ⟨rfl, hm.ok hd, hm.same hd hp hu0, S, hm.ct hd hp hu0, ?_⟩
    show m.Accept.length = _
    rw [hm.la]; omega
end Go.D
set_option linter.unusedVariables false
set_option linter.unusedSimpArgs false
namespace Go.D
open Go Go.X
theorem rEquivalent_tm {a b : ADfa} (ha : okD a = true) (hb : okD b = true) : Tm (fun N => rEquivalent N a b) (fun r => r = true ↔ Same a b) := by
  unfold rEquivalent
  refine (rPairs_tm ha hb).bind fun l hl => ?_
  have hlen := pairs_len ha hb hl.nd hl.rch
  have loop : Tm (fun N => loopM (rEquivalent_b1 N a b l) N 0) (fun r => (r = Sum.inl () ∧ Same a b) ∨ (r = Sum.inr false ∧ ¬ Same a b)) := by
    refine Tm.up l.length (fun k i => i = (k : Int) ∧ ∀ (j : Nat) (h : j < l.length), j < k → fin a l[j].A = fin b l[j].B) ⟨rfl, fun j _ h => absurd h (by omega)⟩ ?_
    rintro k hk i ⟨rfl, ho⟩
    unfold rEquivalent_b1
    rcases Nat.lt_or_ge k l.length with hlt | hge
    · have hr := hl.rch _ (List.getElem_mem hlt)
      have hst := hr.st ha hb
      refine Tm.pos (by omega) (Tm.step (idx_n hlt) ((rFinal_tm hst.1).eq (Tm.step (idx_n hlt) ((rFinal_tm hst.2).eq (Tm.ite (fun h => ?_) (fun h => ?_))))))
      · refine Tm.some (.inr ⟨rfl, fun hs => ?_⟩)
        obtain ⟨w, hw, he⟩ := hr
        have := hs w hw
        rw [he] at h
        dsimp only at h
        rw [this] at h; simp at h
      · have heq : fin a l[k].A = fin b l[k].B := by simpa using h
        refine Tm.some ⟨hlt, iw_n (by omega), fun j hj hjk => ?_⟩
        by_cases e : j = k
        · subst e; exact heq
        · exact ho j hj (by omega)
    · refine Tm.neg (by omega) (Tm.some (.inl ⟨rfl, fun w hw => ?_⟩))
      obtain ⟨j, hj, he⟩ := List.mem_iff_getElem.1 (hl.run hw)
      have := ho j hj (by omega)
      rw [he] at this
      exact this
  refine loop.bind fun r hr => ?_
  rcases hr with ⟨rfl, h⟩ | ⟨rfl, h⟩
  · exact Tm.some ⟨fun _ => h, fun _ => rfl⟩
  · exact Tm.some ⟨fun e => (by cases e), fun e => absurd e h⟩
end Go.D
set_option linter.unusedVariables false
set_option linter.unusedSimpArgs false
namespace Go.D
open Go Go.X
def ns (n : Nat) : List Int := (List.range n).map fun (i : Nat) => (i : Int)
end Go.D
set_option linter.unusedVariables false
set_option linter.unusedSimpArgs false
namespace Go.D
open Go Go.X
theorem Same.refl {a : ADfa} : Same a a := fun _ _ => rfl
theorem ShP.same {a b : ADfa} (h : Same a b) {r q : List UInt8 × Bool} (h1 : ShP a r) (h2 : ShP b q) : r = q := by
  rcases h1 with ⟨rfl, n1⟩ | ⟨w, rfl, w1, w2, _, w4⟩
  · rcases h2 with ⟨rfl, _⟩ | ⟨v, rfl, v1, v2, _, _⟩
    · rfl
    · rw [← h v v1, n1 v v1] at v2; cases v2
  · rcases h2 with ⟨rfl, n2⟩ | ⟨v, rfl, v1, v2, _, v4⟩
    · rw [h w w1, n2 w w1] at w2; cases w2
    · have e := sle_antisymm (w4 v v1 (by rw [h v v1]; exact v2)) (v4 w w1 (by rw [← h w w1]; exact w2))
      rw [e]
theorem lawEquivalent_tm {a b : ADfa} (hla : Lim a) (hwa : Wf a) (hlb : Lim b) (hwb : Wf b) : Tm (fun N => lawEquivalent N a b) (· = true) := by
  unfold lawEquivalent
  have skip : Tm (fun N => (awake N).bind fun r38 => some r38) (· = true) := awake_tm.eq (Tm.some rfl)
  have cond : Tm (fun N => (awake N).bind fun r43 => if (!r43) = true then some true else (rFew N a).bind fun r54 => if (!r54) = true then some true else (rFew N b).bind fun r67 => some (!r67)) (· = !(few a && few b)) := by
    refine awake_tm.eq (Tm.neg (by simp) ((rFew_tm hla hwa).eq ?_))
    cases few a with
    | false => exact Tm.pos rfl (Tm.some rfl)
    | true => exact Tm.neg (by simp) ((rFew_tm hlb hwb).eq (Tm.some rfl))
  refine cond.eq ?_
  cases hf : (few a && few b) with
  | false => exact Tm.pos rfl skip
  | true =>
    rw [Bool.and_eq_true] at hf
    obtain ⟨ha, ha8⟩ := few_ok hf.1
    obtain ⟨hb, hb8⟩ := few_ok hf.2
    refine Tm.neg (by simp) ((rEquivalent_tm ha hb).bind fun q hq => ?_)
    have la := lown_tm (okD_lms ha)
    have lb := lown_tm (okD_lms hb)
    have eqb : ∀ {x y : Bool} {p : Prop}, (x = true ↔ p) → (y = true ↔ p) → (!(x == y)) = false := fun {x y p} h1 h2 => by
      have : x = y := by
        cases x <;> cases y
        · rfl
        · exact (h1.2 (h2.1 rfl))
        · exact (h2.2 (h1.1 rfl)).symm
        · rfl
      rw [this]; simp
    have cond2 : Tm (fun N => (((lown N a).bind fun r599 =>
        (lown N b).bind fun r606 =>
        (aEquivalent N r599 r606).bind fun r613 =>
        (if (!(r613 == q)) = true then
          some true
        else
          (lown N b).bind fun r755 =>
          (lown N a).bind fun r762 =>
          (aEquivalent N r755 r762).bind fun r769 =>
          (if (!(r769 == q)) = true then
            some true
          else
            (lown N a).bind fun r917 =>
            (lown N a).bind fun r1070 =>
            (aEquivalent N r917 r1070).bind fun r1083 =>
            some (!r1083))) : Option Bool))) (· = false) := by
      refine la.eq (lb.eq ((aEquivalent_tm ha hb).bind fun r hr => Tm.neg (by rw [eqb hr hq]; simp) ?_))
      refine lb.eq (la.eq ((aEquivalent_tm hb ha).bind fun r hr => Tm.neg (by rw [eqb (hr.trans ⟨Same.symm, Same.symm⟩) hq]; simp) ?_))
      exact la.eq (la.eq ((aEquivalent_yes ha ha Same.refl).eq (Tm.some rfl)))
    refine cond2.eq (Tm.neg (by simp) ?_)
    refine la.eq ((aShortest_tm ha).bind fun r1 h1 => lb.eq ((aShortest_tm hb).bind fun r2 h2 => ?_))
    refine la.eq ((aMinimize_tm ha).bind fun m1 hm1 => lb.eq ((aMinimize_tm hb).bind fun m2 hm2 => ?_))
    obtain ⟨e1, _, _, S, hS, l1⟩ := hm1
    obtain ⟨e2, _, _, T, hT, l2⟩ := hm2
    refine Tm.pos e1 (Tm.pos e2 (Tm.ite (fun h => Tm.some rfl) (fun h => ?_)))
    have hs : Same a b := hq.1 (by simpa using h)
    have hr := ShP.same hs h1 h2
    have hST := Ct.eq ha hb hs hS hT
    refine Tm.pos (by rw [hr]) (Tm.pos (by rw [hr]; simp) (Tm.some ?_))
    rw [l1, l2, hST]; simp
end Go.D

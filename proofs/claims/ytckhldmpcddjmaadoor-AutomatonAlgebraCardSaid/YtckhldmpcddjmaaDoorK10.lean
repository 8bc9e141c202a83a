/-
  The product of two automata. Plain theorems.
-/
import Derived.Test.YtckhldmpcddjmaaDoorK5
set_option linter.unusedVariables false
set_option linter.unusedSimpArgs false
set_option linter.unusedSectionVars false
namespace Go.D
open Go Go.X

/-! ## Numbers by a map -/
section
variable {K : Type} [DecidableEq K]
def nm : Nat → List K → List (K × Int)
  | _, [] => []
  | k, p :: l => (p, (k : Int)) :: nm (k + 1) l
theorem nm_out {z : Int} {x : K} : ∀ {k : Nat} {l : List K}, x ∉ l → mget (nm k l) x z = (z, false)
  | _, [], _ => rfl
  | k, p :: l, h => by
    simp only [List.mem_cons, not_or] at h
    simp only [nm, mget]
    rw [if_neg (fun e => h.1 e.symm)]
    exact nm_out h.2
theorem nm_in {z : Int} {x : K} : ∀ {k : Nat} {l : List K}, x ∈ l → ∃ j : Nat, l[j]? = some x ∧ mget (nm k l) x z = (((k + j : Nat) : Int), true)
  | k, p :: l, h => by
    by_cases e : p = x
    · subst e
      exact ⟨0, rfl, by simp [nm, mget]⟩
    · have hm : x ∈ l := by
        rcases List.mem_cons.1 h with h | h
        · exact absurd h.symm e
        · exact h
      obtain ⟨j, h1, h2⟩ := nm_in (k := k + 1) hm
      refine ⟨j + 1, by simpa using h1, ?_⟩
      simp only [nm, mget]
      rw [if_neg e, h2, show k + 1 + j = k + (j + 1) by omega]
theorem nm_put {x : K} : ∀ {k : Nat} {l : List K}, x ∉ l → mput (nm k l) x ((k + l.length : Nat) : Int) = nm k (l ++ [x])
  | k, [], _ => rfl
  | k, p :: l, h => by
    simp only [List.mem_cons, not_or] at h
    simp only [nm, mput, List.cons_append, List.length_cons]
    rw [if_neg (fun e => h.1 e.symm), show k + (l.length + 1) = k + 1 + l.length by omega, nm_put h.2]
theorem nm_len : ∀ {k : Nat} {l : List K}, (nm k l).length = l.length
  | _, [] => rfl
  | k, p :: l => by simp [nm, nm_len]
end

/-! ## The edges of a pair -/
abbrev Iv := Int × Int × APair
def rowx (x : AEdge) : List AEdge → List Iv
  | [] => []
  | y :: l => if imax x.Low y.Low > imin x.High y.High then rowx x l else (imax x.Low y.Low, imin x.High y.High, ⟨x.To, y.To⟩) :: rowx x l
def inter : List AEdge → List AEdge → List Iv
  | [], _ => []
  | x :: la, lb => rowx x lb ++ inter la lb
/-- the edges of a row are those of the list, by the numbers of the pairs -/
def Rw (L : List APair) : List AEdge → List Iv → Prop
  | [], [] => True
  | e :: r, t :: I => e.Low = t.1 ∧ e.High = t.2.1 ∧ (∃ n : Nat, e.To = (n : Int) ∧ L[n]? = some t.2.2) ∧ Rw L r I
  | _, _ => False
theorem Rw.more {L M : List APair} : ∀ {r : List AEdge} {I : List Iv}, Rw L r I → Rw (L ++ M) r I
  | [], [], _ => trivial
  | _ :: _, _ :: _, ⟨h1, h2, ⟨n, h3, h4⟩, h5⟩ => ⟨h1, h2, ⟨n, h3, mem_getElem?_append h4⟩, h5.more⟩
  | [], _ :: _, h => h.elim
  | _ :: _, [], h => h.elim
theorem Rw.snoc {L : List APair} {e : AEdge} {t : Iv} (h1 : e.Low = t.1) (h2 : e.High = t.2.1) (h3 : ∃ n : Nat, e.To = (n : Int) ∧ L[n]? = some t.2.2) : ∀ {r : List AEdge} {I : List Iv}, Rw L r I → Rw L (r ++ [e]) (I ++ [t])
  | [], [], _ => ⟨h1, h2, h3, trivial⟩
  | _ :: _, _ :: _, ⟨g1, g2, g3, g5⟩ => ⟨g1, g2, g3, g5.snoc h1 h2 h3⟩
  | [], _ :: _, h => h.elim
  | _ :: _, [], h => h.elim
theorem Rw.len {L : List APair} : ∀ {r : List AEdge} {I : List Iv}, Rw L r I → r.length = I.length
  | [], [], _ => rfl
  | _ :: _, _ :: _, ⟨_, _, _, h⟩ => by simp [h.len]
  | [], _ :: _, h => h.elim
  | _ :: _, [], h => h.elim
theorem rowx_len {x : AEdge} : ∀ {l : List AEdge}, (rowx x l).length ≤ l.length
  | [] => Nat.le_refl _
  | y :: l => by
    unfold rowx
    have := rowx_len (x := x) (l := l)
    split <;> simp <;> omega
theorem inter_len {lb : List AEdge} : ∀ {la : List AEdge}, (inter la lb).length ≤ la.length * lb.length
  | [] => by simp [inter]
  | x :: la => by
    have h1 := rowx_len (x := x) (l := lb)
    have h2 := inter_len (lb := lb) (la := la)
    simp only [inter, List.length_append, List.length_cons, Nat.add_mul]; omega
theorem rowx_append {x : AEdge} : ∀ {l m : List AEdge}, rowx x (l ++ m) = rowx x l ++ rowx x m
  | [], m => rfl
  | y :: l, m => by
    simp only [List.cons_append, rowx]
    split
    · exact rowx_append
    · rw [rowx_append]; rfl
theorem inter_append {lb : List AEdge} : ∀ {l m : List AEdge}, inter (l ++ m) lb = inter l lb ++ inter m lb
  | [], m => rfl
  | x :: l, m => by
    simp only [List.cons_append, inter]
    rw [inter_append, List.append_assoc]
/-- pairs of states -/
def InR (na nb : Nat) (L : List APair) : Prop := ∀ p ∈ L, 0 ≤ p.a ∧ p.a < (na : Int) ∧ 0 ≤ p.b ∧ p.b < (nb : Int)
theorem inr_len {na nb : Nat} {L : List APair} (hn : L.Nodup) (h : InR na nb L) : L.length ≤ na * nb := by
  have hm : (L.map fun p => p.a.toNat * nb + p.b.toNat).Nodup := by
    rw [List.nodup_iff_pairwise_ne, List.pairwise_map]
    refine List.Pairwise.imp_of_mem (fun {p q} hp hq hne => ?_) (List.nodup_iff_pairwise_ne.1 hn)
    intro heq
    obtain ⟨p1, p2, p3, p4⟩ := h p hp
    obtain ⟨q1, q2, q3, q4⟩ := h q hq
    obtain ⟨pa, pb⟩ := p; obtain ⟨qa, qb⟩ := q
    dsimp only at *
    apply hne
    obtain ⟨u, rfl⟩ : ∃ u : Nat, pa = u := ⟨pa.toNat, by omega⟩
    obtain ⟨v, rfl⟩ : ∃ v : Nat, pb = v := ⟨pb.toNat, by omega⟩
    obtain ⟨u', rfl⟩ : ∃ u : Nat, qa = u := ⟨qa.toNat, by omega⟩
    obtain ⟨v', rfl⟩ : ∃ v : Nat, qb = v := ⟨qb.toNat, by omega⟩
    simp only [Int.toNat_natCast] at heq
    have hv : v < nb := by omega
    have hv' : v' < nb := by omega
    have e1 : (u * nb + v) / nb = u := by rw [Nat.mul_comm, Nat.mul_add_div (by omega), Nat.div_eq_of_lt hv, Nat.add_zero]
    have e2 : (u' * nb + v') / nb = u' := by rw [Nat.mul_comm, Nat.mul_add_div (by omega), Nat.div_eq_of_lt hv', Nat.add_zero]
    have e3 : u = u' := by rw [← e1, heq, e2]
    subst e3
    have e4 : v = v' := by omega
    rw [e4]
  have := nodup_lt (na * nb) hm (fun x hx => by
    obtain ⟨p, hp, rfl⟩ := List.mem_map.1 hx
    obtain ⟨p1, p2, p3, p4⟩ := h p hp
    have h1 : p.a.toNat + 1 ≤ na := by omega
    have h2 : (p.a.toNat + 1) * nb ≤ na * nb := Nat.mul_le_mul_right _ h1
    rw [Nat.add_mul] at h2
    omega)
  simpa using this
/-- the pairs so far, and the map of their numbers -/
structure Ps (na nb : Nat) (L : List APair) : Prop where
  nd : L.Nodup
  inr : InR na nb L
theorem Ps.snoc {na nb : Nat} {L : List APair} (h : Ps na nb L) {p : APair} (hp : p ∉ L) (hr : 0 ≤ p.a ∧ p.a < (na : Int) ∧ 0 ≤ p.b ∧ p.b < (nb : Int)) : Ps na nb (L ++ [p]) := by
  refine ⟨List.nodup_append.2 ⟨h.nd, by simp, fun x hx y hy => ?_⟩, fun q hq => ?_⟩
  · rw [List.mem_singleton.1 hy]; exact fun e => hp (e ▸ hx)
  · rcases List.mem_append.1 hq with hq | hq
    · exact h.inr q hq
    · rw [List.mem_singleton.1 hq]; exact hr

/-- one edge of the first automaton against all of the second -/
theorem aAnd_b3_tm {na nb i : Nat} {E : List (List AEdge)} {x : AEdge} {lb : List AEdge} (hi : i = E.length) (hx : 0 ≤ x.To ∧ x.To < (na : Int)) (hb : ∀ y ∈ lb, 0 ≤ y.To ∧ y.To < (nb : Int)) (hlb : lb.length ≤ 100) (hna : na * nb < 4096)
    {L : List APair} (hL : Ps na nb L) {row : List AEdge} {I : List Iv} (hR : Rw L row I) (hI : I.length ≤ 10000) :
    Tm (fun N => loopM (aAnd_b3 N E (i : Int) x lb) N (L, nm 0 L, row, 0)) (fun r => ∃ M row', r = Sum.inl (L ++ M, nm 0 (L ++ M), row') ∧ Ps na nb (L ++ M) ∧ Rw (L ++ M) row' (I ++ rowx x lb)) := by
  refine Tm.up lb.length (fun k s => ∃ M row', s = (L ++ M, nm 0 (L ++ M), row', (k : Int)) ∧ Ps na nb (L ++ M) ∧ Rw (L ++ M) row' (I ++ rowx x (lb.take k))) ⟨[], row, by simp, by simpa using hL, by simpa [rowx] using hR⟩ ?_
  rintro k hk s ⟨M, row', rfl, hP, hRw⟩
  unfold aAnd_b3
  rcases Nat.lt_or_ge k lb.length with hlt | hge
  · refine Tm.pos (by omega) (Tm.step (idx_n hlt) ?_)
    have htk : lb.take (k + 1) = lb.take k ++ [lb[k]] := by rw [List.take_add_one, List.getElem?_eq_getElem hlt]; rfl
    refine Tm.ite (fun hc => Tm.some ⟨hlt, M, row', by rw [iw_n (by omega)], hP, ?_⟩) (fun hc => ?_)
    · rw [htk, rowx_append]
      have : rowx x [lb[k]] = [] := by unfold rowx; rw [if_pos hc]; rfl
      rw [this, List.append_nil]; exact hRw
    · have hone : rowx x [lb[k]] = [(imax x.Low lb[k].Low, imin x.High lb[k].High, ⟨x.To, lb[k].To⟩)] := by unfold rowx; rw [if_neg hc]; rfl
      have hy := hb _ (List.getElem_mem hlt)
      have hrl := hRw.len
      have hxl := rowx_len (x := x) (l := lb.take k)
      rw [List.length_append] at hrl
      rw [List.length_take] at hxl
      -- the number of the pair
      have num : Tm (fun N => ((if (!(mget (nm 0 (L ++ M)) (APair.mk x.To lb[k].To) 0).2) = true then
          (if ((List.length (L ++ M) : Int) : Int) = 4096 then
            some (Sum.inr ((ADfa.mk [] []), 3))
          else
            (apnd 16 (L ++ M) [(APair.mk x.To lb[k].To)]).bind fun x11583 =>
            some (Sum.inl (x11583, (mput (nm 0 (L ++ M)) (APair.mk x.To lb[k].To) (List.length (L ++ M) : Int)), (List.length (L ++ M) : Int))))
        else
          some (Sum.inl (L ++ M, nm 0 (L ++ M), (mget (nm 0 (L ++ M)) (APair.mk x.To lb[k].To) 0).1))) : Option (Sum ((List APair) × (List (APair × Int)) × Int) (ADfa × Int))))
          (fun r => ∃ M' n, r = Sum.inl (L ++ M', nm 0 (L ++ M'), ((n : Nat) : Int)) ∧ (∃ M2, L ++ M' = (L ++ M) ++ M2) ∧ Ps na nb (L ++ M') ∧ (L ++ M')[n]? = some ⟨x.To, lb[k].To⟩) := by
        by_cases hm : (⟨x.To, lb[k].To⟩ : APair) ∈ L ++ M
        · obtain ⟨j, h1, h2⟩ := nm_in (k := 0) (z := 0) hm
          rw [h2]
          refine Tm.neg (by simp) (Tm.some ⟨M, j, by simp, ⟨[], by simp⟩, hP, h1⟩)
        · rw [nm_out hm]
          have hlen := inr_len hP.nd hP.inr
          refine Tm.pos rfl (Tm.neg (by omega) (Tm.step (apnd_ok (by simp only [List.length_singleton]; omega) (by decide)) (Tm.some ⟨M ++ [⟨x.To, lb[k].To⟩], (L ++ M).length, ?_, ⟨[⟨x.To, lb[k].To⟩], by simp⟩, ?_, ?_⟩)))
          · have := nm_put (k := 0) hm
            rw [Nat.zero_add] at this
            rw [this, List.append_assoc]
          · rw [← List.append_assoc]; exact hP.snoc hm ⟨hx.1, hx.2, hy.1, hy.2⟩
          · rw [← List.append_assoc, List.getElem?_append_right (Nat.le_refl _), Nat.sub_self]; rfl
      refine num.bind fun r hr => ?_
      obtain ⟨M', n, rfl, ⟨M2, hM2⟩, hP', hn⟩ := hr
      refine Tm.step (chk_ok (by omega)) (Tm.step (chk_ok (by omega)) (Tm.step (apnd_ok (by simp only [List.length_singleton]; omega) (by decide)) (Tm.some ⟨hlt, M', _, by rw [iw_n (by omega)], hP', ?_⟩)))
      rw [htk, rowx_append, hone, ← List.append_assoc]
      refine Rw.snoc rfl rfl ⟨n, rfl, hn⟩ ?_
      rw [hM2]; exact hRw.more
  · refine Tm.neg (by omega) (Tm.some ⟨M, row', rfl, hP, ?_⟩)
    rwa [List.take_of_length_le hge] at hRw
theorem aAnd_b2_tm {a b : ADfa} (ha : okD a = true) (hb : okD b = true) {i : Nat} {E : List (List AEdge)} {p : APair} {la lb : List AEdge} (hi : i = E.length) (hla : la ∈ a.Edges) (hlb : idx b.Edges p.b = some lb) (hlbm : lb ∈ b.Edges) (hna : a.Accept.length * b.Accept.length < 4096)
    {L : List APair} (hL : Ps a.Accept.length b.Accept.length L) :
    Tm (fun N => loopM (aAnd_b2 N b E (i : Int) p la) N (L, nm 0 L, [], 0)) (fun r => ∃ M row, r = Sum.inl (L ++ M, nm 0 (L ++ M), row) ∧ Ps a.Accept.length b.Accept.length (L ++ M) ∧ Rw (L ++ M) row (inter la lb)) := by
  obtain ⟨a1, a2, a3, a4⟩ := okD_iff.1 ha
  obtain ⟨b1, b2, b3, b4⟩ := okD_iff.1 hb
  have hlal := okE_len (a4 la hla)
  have hlbl := okE_len (b4 lb hlbm)
  refine Tm.up la.length (fun k s => ∃ M row', s = (L ++ M, nm 0 (L ++ M), row', (k : Int)) ∧ Ps a.Accept.length b.Accept.length (L ++ M) ∧ Rw (L ++ M) row' (inter (la.take k) lb)) ⟨[], [], by simp, by simpa using hL, trivial⟩ ?_
  rintro k hk s ⟨M, row', rfl, hP, hRw⟩
  unfold aAnd_b2
  rcases Nat.lt_or_ge k la.length with hlt | hge
  · have hx := okE_mem (by omega) (a4 la hla) _ (List.getElem_mem hlt)
    have hil := inter_len (la := la.take k) (lb := lb)
    have htl : (la.take k).length ≤ 95 := by rw [List.length_take]; omega
    have : (la.take k).length * lb.length ≤ 95 * 95 := Nat.mul_le_mul htl (by omega)
    refine Tm.pos (by omega) (Tm.step (idx_n hlt) (Tm.step hlb ((aAnd_b3_tm hi (by omega) (fun y hy => by have := okE_mem (by omega) (b4 lb hlbm) y hy; omega) (by omega) hna hP hRw (by omega)).bind fun r hr => ?_)))
    obtain ⟨M', row2, rfl, hP', hR'⟩ := hr
    refine Tm.some ⟨hlt, M ++ M', row2, by rw [iw_n (by omega), List.append_assoc], by rw [← List.append_assoc]; exact hP', ?_⟩
    have htk : la.take (k + 1) = la.take k ++ [la[k]] := by rw [List.take_add_one, List.getElem?_eq_getElem hlt]; rfl
    rw [htk, inter_append, ← List.append_assoc]
    have : inter [la[k]] lb = rowx la[k] lb := by simp [inter]
    rw [this]; exact hR'
  · refine Tm.neg (by omega) (Tm.some ⟨M, row', rfl, hP, ?_⟩)
    rwa [List.take_of_length_le hge] at hRw

/-- what is made: the pairs, and the row of each -/
structure Pd (a b d : ADfa) (L : List APair) : Prop where
  ps : Ps a.Accept.length b.Accept.length L
  zero : L[0]? = some ⟨0, 0⟩
  la : d.Accept.length = L.length
  le : d.Edges.length = L.length
  acc : ∀ (i : Nat) (p : APair), L[i]? = some p → d.Accept[i]? = some (fin a p.a && fin b p.b)
  row : ∀ (i : Nat) (p : APair), L[i]? = some p → ∃ r, d.Edges[i]? = some r ∧ Rw L r (inter (a.Edges.getD p.a.toNat []) (b.Edges.getD p.b.toNat []))
theorem fin_get {d : ADfa} {s : Int} {n : Nat} (hn : s = (n : Int)) (h : n < d.Accept.length) : fin d s = d.Accept[n] := by
  subst hn
  unfold fin
  rw [if_neg (by omega), Int.toNat_natCast, getD_of h]
theorem aAnd_tm {a b : ADfa} (ha : okD a = true) (hb : okD b = true) (hna : a.Accept.length * b.Accept.length < 4096) :
    Tm (fun N => aAnd N a b) (fun r => r.2 = 0 ∧ ∃ L, Pd a b r.1 L) := by
  obtain ⟨a1, a2, a3, a4⟩ := okD_iff.1 ha
  obtain ⟨b1, b2, b3, b4⟩ := okD_iff.1 hb
  unfold aAnd
  have outer : Tm (fun N => loopM (aAnd_b1 N a b) N ([(APair.mk 0 0)], (mput ([] : (List (APair × Int))) (APair.mk 0 0) 0), ([] : (List Bool)), ([] : (List (List AEdge))), 0))
      (fun r => ∃ d L, r = Sum.inl (d.Accept, d.Edges) ∧ Pd a b d L) := by
    refine Tm.loopG (fun (i : Nat) s => ∃ L A E, s = (L, nm 0 L, A, E, (i : Int)) ∧ Ps a.Accept.length b.Accept.length L ∧ L[0]? = some ⟨0, 0⟩ ∧ A.length = i ∧ E.length = i ∧ i ≤ L.length ∧
        (∀ j p, j < i → L[j]? = some p → A[j]? = some (fin a p.a && fin b p.b)) ∧
        (∀ j p, j < i → L[j]? = some p → ∃ r, E[j]? = some r ∧ Rw L r (inter (a.Edges.getD p.a.toNat []) (b.Edges.getD p.b.toNat []))))
      (fun i => a.Accept.length * b.Accept.length - i) 0
      ⟨[⟨0, 0⟩], [], [], rfl, ⟨by simp, fun p hp => by rw [List.mem_singleton.1 hp]; dsimp only; omega⟩, rfl, rfl, rfl, by simp, fun j p h => absurd h (by omega), fun j p h => absurd h (by omega)⟩ ?_
    rintro i s ⟨L, A, E, rfl, hP, hz, hA, hE, hil, hacc, hrow⟩
    have hlen := inr_len hP.nd hP.inr
    unfold aAnd_b1
    rcases Nat.lt_or_ge i L.length with hlt | hge
    · have hp := hP.inr _ (List.getElem_mem hlt)
      obtain ⟨pa, hpa⟩ : ∃ n : Nat, L[i].a = (n : Int) := ⟨L[i].a.toNat, by omega⟩
      obtain ⟨pb, hpb⟩ : ∃ n : Nat, L[i].b = (n : Int) := ⟨L[i].b.toNat, by omega⟩
      have hpal : pa < a.Accept.length := by omega
      have hpbl : pb < b.Accept.length := by omega
      refine Tm.pos (by omega) (Tm.step (idx_n hlt) ?_)
      have head : Tm (fun N => (((idx a.Accept L[i].a).bind fun x8272 =>
          (if x8272 = true then
            (idx b.Accept L[i].b).bind fun x8287 =>
            (((apnd 1 A [x8287]).bind fun x8401 =>
            (chk ((List.length E + 1) * 24 ≤ 140737488355328 ∧ List.length E + 1 ≤ 9223372036854775807)).bind fun _ =>
            some (x8401, ([] : (List AEdge)), (iw ((List.length x8401 : Int) - 1))) : Option ((List Bool) × (List AEdge) × Int))).bind fun ss =>
              match ss with
              | (accept8374, edgesL8385, x8390) =>
                some (accept8374, edgesL8385)
          else
            (((apnd 1 A [false]).bind fun x8563 =>
            (chk ((List.length E + 1) * 24 ≤ 140737488355328 ∧ List.length E + 1 ≤ 9223372036854775807)).bind fun _ =>
            some (x8563, ([] : (List AEdge)), (iw ((List.length x8563 : Int) - 1))) : Option ((List Bool) × (List AEdge) × Int))).bind fun ss =>
              match ss with
              | (accept8536, edgesL8547, x8552) =>
                some (accept8536, edgesL8547)) : Option ((List Bool) × (List AEdge))))) (· = (A ++ [fin a L[i].a && fin b L[i].b], [])) := by
        have ea : ∀ y : Bool, apnd 1 A [y] = some (A ++ [y]) := fun y => apnd_ok (by simp only [List.length_singleton]; omega) (by decide)
        refine Tm.step (idx_i hpa hpal) ?_
        rw [fin_get hpa hpal, fin_get hpb hpbl]
        refine Tm.ite (fun h => ?_) (fun h => ?_)
        · refine Tm.step (idx_i hpb hpbl) ?_
          simp only [ea, Option.bind_some]
          rw [chk_ok (by omega)]
          exact Tm.some (by rw [h]; rfl)
        · have h' : a.Accept[pa] = false := by simpa using h
          simp only [ea, Option.bind_some]
          rw [chk_ok (by omega)]
          exact Tm.some (by rw [h']; rfl)
      refine head.eq ?_
      dsimp only
      have hae : pa < a.Edges.length := by omega
      have hbe : pb < b.Edges.length := by omega
      refine Tm.step (idx_i hpa hae) ((aAnd_b2_tm ha hb hE.symm (List.getElem_mem hae) (idx_i hpb hbe) (List.getElem_mem hbe) hna hP).bind fun r hr => ?_)
      obtain ⟨M, row, rfl, hP', hR⟩ := hr
      refine Tm.some ⟨i + 1, ⟨L ++ M, _, _, by rw [iw_n (by omega)], hP', mem_getElem?_append hz, by simp [hA], by simp [hE], by rw [List.length_append]; omega, fun j p hj hjp => ?_, fun j p hj hjp => ?_⟩, by omega⟩
      · by_cases hji : j = i
        · subst hji
          have : (L ++ M)[j]? = some L[j] := mem_getElem?_append (List.getElem?_eq_getElem hlt)
          rw [hjp] at this; cases this
          rw [List.getElem?_append_right (by omega), hA, Nat.sub_self]; rfl
        · rw [List.getElem?_append_left (by omega)] at hjp
          exact mem_getElem?_append (hacc j p (by omega) hjp)
      · by_cases hji : j = i
        · subst hji
          have : (L ++ M)[j]? = some L[j] := mem_getElem?_append (List.getElem?_eq_getElem hlt)
          rw [hjp] at this; cases this
          refine ⟨row, by rw [List.getElem?_append_right (by omega), hE, Nat.sub_self]; rfl, ?_⟩
          rw [hpa, hpb, Int.toNat_natCast, Int.toNat_natCast, getD_of hae, getD_of hbe]
          exact hR
        · rw [List.getElem?_append_left (by omega)] at hjp
          obtain ⟨r, h1, h2⟩ := hrow j p (by omega) hjp
          exact ⟨r, mem_getElem?_append h1, h2.more⟩
    · have : i = L.length := by omega
      subst this
      refine Tm.neg (by omega) (Tm.some ⟨⟨A, E⟩, L, rfl, ⟨hP, hz, hA, hE, fun i p h => hacc i p (List.getElem?_eq_some_iff.1 h).1 h, fun i p h => hrow i p (List.getElem?_eq_some_iff.1 h).1 h⟩⟩)
  refine outer.bind fun r hr => ?_
  obtain ⟨d, L, rfl, hd⟩ := hr
  exact Tm.some ⟨rfl, L, hd⟩
end Go.D

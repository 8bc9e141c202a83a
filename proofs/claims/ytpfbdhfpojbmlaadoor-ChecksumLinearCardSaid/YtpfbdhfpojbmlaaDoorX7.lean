/-
  append, slicing, texts. Plain theorems over any program.
-/
import Derived.Test.YtpfbdhfpojbmlaaDoorX6
set_option linter.unusedSimpArgs false
set_option linter.unusedVariables false
namespace Go.X
open Go Go.RowKit

section
variable {P : Program} {ty : TypeId} {ρ : Operand → Value} {w : World} {R : Value → World → Prop} {X B : List (Option Nat)} {w0 : World} {O : List (Option Nat)} {C : List Cont}

/-- What an appended value's cells are: a slice 'x' of m elements, whose cells are 'news'. -/
def Src (w : World) (x : Value) (m sz : Nat) (news : List Value) : Prop :=
  news.length = m * sz ∧ (((∃ oa, x = .slice oa 0 0) ∧ m = 0) ∨ ∃ b o cap, x = .slice (some ⟨b, o, none⟩) m cap ∧ ∀ j u, news[j]? = some u → w.cell? ⟨b, o + j, none⟩ = some u)
theorem Src.own {i b o n cap sz : Nat} {cs news : List Value} (hL : Loc X B w0 w O C) (hO : O[i]? = some (some b)) (hC : C[i]? = some (.cells cs)) (hn : news.length = n * sz) (hs : (cs.drop o).take news.length = news) : Src w (.slice (some ⟨b, o, none⟩) n cap) n sz news := by
  refine ⟨hn, .inr ⟨b, o, cap, rfl, fun j u hj => cell_own (hL.at i hO hC) ?_⟩⟩
  rw [← hj]; conv => rhs; rw [← hs]
  rw [List.getElem?_take, List.getElem?_drop, if_pos]
  rcases Nat.lt_or_ge j news.length with h | h
  · exact h
  · rw [List.getElem?_eq_none h] at hj; cases hj
theorem Src.nil {sz : Nat} : Src w (.slice none 0 0) 0 sz [] := ⟨by simp, .inl ⟨⟨_, rfl⟩, rfl⟩⟩
theorem Src.ints {k : IntKind} {A : List (Option Nat)} {v : Value} {xs : List Nat} (h : Ints k (view A w) v xs) : Src w v xs.length 1 (ints k xs) := by
  refine ⟨by simp [ints_length], ?_⟩
  have h' := h
  rcases h with ⟨h1, h2⟩ | ⟨b, o, cap, hv, hc, hx⟩
  · exact .inl ⟨h1, by simp [h2]⟩
  · refine .inr ⟨b, o, cap, hv, ?_⟩
    subst hv
    obtain ⟨_, ha, _⟩ := h'.cells
    intro j u hj
    exact cellH_view (ha.get j hj)

theorem run_append_src {t el : TypeId} {inf : TypeInfo} {z : Value} {sz : Nat} (hu : P.underlying t = some (.slice el)) (hi : P.info? el = some inf) (hs : inf.size = sz) (hz : inf.zero = some z) (hzc : z.cells.size = sz)
    {i : Nat} {ob : Option Nat} {n cap m : Nat} {xs sp news : List Value} {x : Value} (hL : Loc X B w0 w O C) (hO : O[i]? = some ob) (hC : C[i]? = some (.cells (xs ++ sp))) (hn : xs.length = n * sz) (hcap : (xs ++ sp).length = cap * sz) (hsz : 0 < sz)
    (hsrc : Src w x m sz news) (h1 : ones news = true) (h63 : n + m ≤ 9223372036854775807) (hb : (n + m) * inf.bytes ≤ 140737488355328) (ty : TypeId) :
    ∃ ob' cap' sp' w', (Builtin.append_ #[t, t] ty #[sv ob n cap, x]).run P w = .ok (sv ob' (n + m) cap') w' ∧ ((xs ++ news) ++ sp').length = cap' * sz ∧
      Loc X B w0 w' (O.set i ob') (C.set i (.cells ((xs ++ news) ++ sp'))) ∧ Step O (O.set i ob') w w' := by
  subst hs
  have hi' : i < O.length := by
    rcases Nat.lt_or_ge i O.length with h | h
    · exact h
    · rw [List.getElem?_eq_none h] at hO; cases hO
  obtain ⟨hnl, hsrc⟩ := hsrc
  have hset : O.set i ob = O := by
    apply List.ext_getElem?; intro j
    by_cases hj : j = i
    · subst hj; rw [List.getElem?_set_self hi', hO]
    · rw [List.getElem?_set_ne (Ne.symm hj)]
  have hcset : ∀ c, C[i]? = some c → C.set i c = C := by
    intro c hc
    apply List.ext_getElem?; intro j
    by_cases hj : j = i
    · subst hj
      have : j < C.length := by
        rcases Nat.lt_or_ge j C.length with h | h
        · exact h
        · rw [List.getElem?_eq_none h] at hc; cases hc
      rw [List.getElem?_set_self this, hc]
    · rw [List.getElem?_set_ne (Ne.symm hj)]
  have hle : n ≤ cap := by
    have : n * inf.size ≤ cap * inf.size := by rw [← hn, ← hcap]; simp
    exact Nat.le_of_mul_le_mul_right this hsz
  by_cases hm : m = 0
  · -- nothing is appended
    subst hm
    have hnew : news = [] := List.eq_nil_of_length_eq_zero (by simpa using hnl)
    subst hnew
    refine ⟨ob, cap, sp, w, ?_, by simpa using hcap, by rw [hset, List.append_nil, hcset _ hC]; exact hL, by rw [hset]; exact Step.refl⟩
    have hx : (Builtin.lenOf x).run P w = .ok 0 w ∧ (Builtin.firstCells inf.size 0 x).run P w = .ok #[] w := by
      rcases hsrc with ⟨⟨oa, rfl⟩, _⟩ | ⟨b, o, c, rfl, _⟩
      · cases oa <;> exact ⟨rfl, by simp [Builtin.firstCells, loadCells, loadCellsFrom]⟩
      · exact ⟨rfl, by simp [Builtin.firstCells, loadCells, loadCellsFrom]⟩
    cases ob with
    | none =>
      have hz0 : xs ++ sp = [] := hL.at i hO hC
      have h0 : cap = 0 := by
        rw [hz0] at hcap
        have h2 : cap * inf.size = 0 := by simpa using hcap.symm
        rcases Nat.mul_eq_zero.1 h2 with h3 | h3
        · exact h3
        · omega
      have hn0 : n = 0 := by omega
      subst h0; subst hn0
      rcases hsrc with ⟨⟨oa, rfl⟩, _⟩ | ⟨b, o, c, rfl, _⟩
      · cases oa <;> simp [sv, Builtin.append_, run_underlying hu, sizeOf, typeInfo, hi, Builtin.lenOf, Builtin.firstCells, loadCells, loadCellsFrom]
      · simp [sv, Builtin.append_, run_underlying hu, sizeOf, typeInfo, hi, Builtin.lenOf, Builtin.firstCells, loadCells, loadCellsFrom]
    | some b =>
      rcases hsrc with ⟨⟨oa, rfl⟩, _⟩ | ⟨b2, o, c, rfl, _⟩
      · cases oa <;> simp [sv, Builtin.append_, run_underlying hu, sizeOf, typeInfo, hi, Builtin.lenOf, Builtin.firstCells, loadCells, loadCellsFrom, hle, storeCells]
      · simp [sv, Builtin.append_, run_underlying hu, sizeOf, typeInfo, hi, Builtin.lenOf, Builtin.firstCells, loadCells, loadCellsFrom, hle, storeCells]
  · obtain ⟨b2, o2, c2, rfl, hcell⟩ : ∃ b o cap, x = .slice (some ⟨b, o, none⟩) m cap ∧ ∀ j u, news[j]? = some u → w.cell? ⟨b, o + j, none⟩ = some u := by
      rcases hsrc with ⟨_, h⟩ | h
      · exact absurd h hm
      · exact h
    have hnews : ∀ j u, news[j]? = some u → w.cell? ((⟨b2, o2, none⟩ : Addr).add j) = some u := fun j u hj => by rw [add_plain]; exact hcell j u hj
    -- a new block
    have grown : ∀ old, old < n + m → ∀ (wd : World), wd = w.drew.alloc (.cells (xs.toArray ++ news.toArray ++ Builtin.zeroCells z.cells (grownCap w (n + m) old el - (n + m))) el) →
        ((xs ++ news) ++ (Builtin.zeroCells z.cells (grownCap w (n + m) old el - (n + m))).toList).length = grownCap w (n + m) old el * inf.size ∧
        Loc X B w0 wd (O.set i (some w.heap.size)) (C.set i (.cells ((xs ++ news) ++ (Builtin.zeroCells z.cells (grownCap w (n + m) old el - (n + m))).toList))) ∧ Step O (O.set i (some w.heap.size)) w wd := by
      intro old ho wd hwd
      subst hwd
      have hge := grownCap_ge w (n + m) old el
      refine ⟨?_, ?_⟩
      · simp only [List.length_append, Array.length_toList, size_zeroCells, hzc, hn, hnl, ← Nat.add_mul]
        congr 1; omega
      · refine hL.swap i hi' ⟨rfl, rfl, rfl, by simp, fun k hk => Below.heap_alloc w.drew _ k hk⟩ (Nat.le_refl _) ?_
        have := ownC_alloc w.drew (xs.toArray ++ news.toArray ++ Builtin.zeroCells z.cells (grownCap w (n + m) old el - (n + m))) el
        simpa using this
    cases ob with
    | none =>
      have hz0 : xs ++ sp = [] := hL.at i hO hC
      have hx0 : xs = [] := (List.append_eq_nil_iff.1 hz0).1
      have hn0 : n = 0 := by
        subst hx0
        rcases Nat.mul_eq_zero.1 (show n * inf.size = 0 by simpa using hn.symm) with h3 | h3
        · exact h3
        · omega
      subst hx0; subst hn0
      have hr := run_append_nil (P := P) w t ty el inf z hu hi hz ⟨b2, o2, none⟩ m c2 news hnl hnews (by omega) (by omega) (by have := hb; simp only [Nat.zero_add] at this; omega)
      have hg := grown 0 (by omega) _ rfl
      simp only [Nat.zero_add, List.nil_append] at hg hr ⊢
      refine ⟨some w.heap.size, grownCap w m 0 el, _, _, hr, hg.1, ?_, ?_⟩
      · have := hg.2.1; simpa using this
      · have := hg.2.2; simpa using this
    | some g =>
      obtain ⟨tt, lo, hh, g1, g0, g2⟩ := hL.at i hO hC
      by_cases hroom : n + m ≤ cap
      · have hfit : n * inf.size + news.length ≤ (xs ++ sp).length := by rw [hnl, hcap, ← Nat.add_mul]; exact Nat.mul_le_mul_right _ hroom
        obtain ⟨w', r1, r2, r3, r4, r5, r6, r7⟩ := run_storeCells_own (P := P) news 0 (n * inf.size) (xs ++ sp) w g1 g2 (by simpa using hfit) (ones_spec h1)
        have hput : putAt (xs ++ sp) (n * inf.size) news = (xs ++ news) ++ sp.drop news.length := by
          rw [← hn]; exact putAt_append xs sp news (by rw [List.length_append] at hfit; omega)
        have hp := hL.put (w' := w') i hO (c' := .cells ((xs ++ news) ++ sp.drop news.length)) ⟨tt, lo, hh, by rw [r2, Nat.add_zero, hput], g0, fun j hj => g2 j (by rw [List.length_append] at hfit; simp at hj ⊢; omega)⟩ r3 r4 r5 r6 r7
        have hf := run_firstCells_some (P := P) w inf.size m ⟨b2, o2, none⟩ m c2 news hnl hnews
        refine ⟨some g, cap, sp.drop news.length, w', ?_, ?_, by rw [hset]; exact hp.1, by rw [hset]; exact hp.2⟩
        · simp only [sv]
          simp [Builtin.append_, run_underlying hu, sizeOf, typeInfo, hi, Builtin.lenOf, hroom, hf, add_plain, r1]
        · rw [List.length_append] at hfit; rw [← hcap]; simp; omega
      · have holds : ∀ j u, xs[j]? = some u → w.cell? ((⟨g, 0, none⟩ : Addr).add j) = some u := by
          intro j u hj
          rw [add_plain, Nat.zero_add]
          refine cell_own (hL.at i hO hC) ?_
          rw [List.getElem?_append_left, hj]
          rcases Nat.lt_or_ge j xs.length with h | h
          · exact h
          · rw [List.getElem?_eq_none h] at hj; cases hj
        have hr := run_append_grow (P := P) w t ty el inf z hu hi hz ⟨g, 0, none⟩ n cap xs hn holds ⟨b2, o2, none⟩ m c2 news hnl hnews (by omega) (by omega) (growslice_fits (by omega) hb)
        have hg := grown cap (by omega) _ rfl
        exact ⟨some w.heap.size, grownCap w (n + m) cap el, _, _, hr, hg.1, hg.2.1, hg.2.2⟩

/-- 'append(s, x...)' where s is a slice of one's own (or nil). -/
theorem OpY.append {t el : TypeId} {a c : Operand} {sz by' n cap m i : Nat} {z x : Value} {ob : Option Nat} {xs sp news : List Value} (hu : P.underlying t = some (.slice el)) (ti : TI P el sz by' z) (hzc : z.cells.size = sz) (hsz : 0 < sz)
    (ha : ρ a = sv ob n cap) (hc : ρ c = x) (hL : Loc X B w0 w O C) (hO : O[i]? = some ob) (hC : C[i]? = some (.cells (xs ++ sp))) (hn : xs.length = n * sz) (hcap : (xs ++ sp).length = cap * sz) (hsrc : Src w x m sz news) (h1 : ones news = true)
    (h63 : n + m ≤ 9223372036854775807) (hb : (n + m) * by' ≤ 140737488355328)
    (h : ∀ ob' cap' sp' w', ((xs ++ news) ++ sp').length = cap' * sz → Loc X B w0 w' (O.set i ob') (C.set i (.cells ((xs ++ news) ++ sp'))) → Step O (O.set i ob') w w' → R (sv ob' (n + m) cap') w') :
    OpY P (.call { callee := .builtin .append, args := #[a, c], argTypes := #[t, t] }) ty ρ w R := by
  obtain ⟨inf, hi, hs, hby, hz⟩ := ti
  subst hby
  obtain ⟨ob', cap', sp', w', r1, r2, r3, r4⟩ := run_append_src (P := P) hu hi hs hz hzc hL hO hC hn hcap hsz hsrc h1 h63 hb ty
  simp only [OpY, bareOp, execOp, resolve, invoke, builtin]
  simp [ha, hc, r1, upon]
  exact h _ _ _ _ r2 r3 r4

/-! ## Slicing -/
theorem run_sliceAt {t el : TypeId} {inf : TypeInfo} (hu : P.underlying t = some (.slice el)) (hi : P.info? el = some inf) (a : Option Addr) (len cap l h : Nat) (lo hi' : Option Value) (hlo : (lo = none ∧ l = 0) ∨ ∃ k, lo = some (.int k ((l : Nat) : Int))) (hhi : (hi' = none ∧ h = len) ∨ ∃ k, hi' = some (.int k ((h : Nat) : Int))) (h1 : l ≤ h) (h2 : h ≤ cap) :
    (Instr.sliceAt t (.slice a len cap) lo hi' none).run P w = .ok (.slice (if cap = l then a else a.map (·.add (l * inf.size))) (h - l) (cap - l)) w := by
  have g1 : (l : Int) ≤ (h : Int) := by omega
  have g2 : (h : Int) ≤ (cap : Int) := by omega
  have b1 : ∀ k, (Instr.sliceBound (.int k ((h : Nat) : Int)) cap .sliceAcap).run P w = .ok h w := by
    intro k; simp [Instr.sliceBound, asIntOf, g2, h2]
  have b2 : ∀ k, (Instr.sliceBound (.int k ((l : Nat) : Int)) h .sliceB).run P w = .ok l w := by
    intro k; simp [Instr.sliceBound, asIntOf, g1, h1]
  rcases hlo with ⟨rfl, rfl⟩ | ⟨k, rfl⟩ <;> rcases hhi with ⟨rfl, rfl⟩ | ⟨k', rfl⟩ <;>
    simp [Instr.sliceAt, Instr.slice, run_underlying hu, Instr.sliceBounds, b1, b2, sizeOf, typeInfo, hi]

/-- what slicing makes of a read-only slice -/
theorem Sl.cut {α : Type} {sz : Nat} {Rr : Hp → List Value → α → Prop} {H : Hp} {a : Option Addr} {len cap l h : Nat} {xs : List α} (hS : Sl sz Rr H (.slice a len cap) xs) (h1 : l ≤ h) (h2 : h ≤ xs.length) :
    len = xs.length ∧ h ≤ cap ∧ Sl sz Rr H (.slice (if cap = l then a else a.map (·.add (l * sz))) (h - l) (cap - l)) ((xs.take h).drop l) := by
  rcases hS with ⟨⟨oa, hv⟩, hx⟩ | ⟨b, o, cap', hv, hc, hxs⟩
  · cases hv; subst hx
    have : h = 0 := by simpa using h2
    subst this
    have : l = 0 := by omega
    subst this
    exact ⟨rfl, Nat.le_refl _, .inl ⟨⟨a, by simp⟩, by simp⟩⟩
  · cases hv
    refine ⟨rfl, by omega, ?_⟩
    have hlen : ((xs.take h).drop l).length = h - l := by simp; omega
    by_cases hcl : cap = l
    · have : h = l := by omega
      subst this
      have hnil : (xs.take h).drop h = [] := List.eq_nil_of_length_eq_zero (by rw [hlen]; omega)
      rw [if_pos hcl, hnil, Nat.sub_self]
      refine .inr ⟨b, o, cap - h, rfl, by simp, fun i x hi => by simp at hi⟩
    · rw [if_neg hcl]
      refine .inr ⟨b, o + l * sz, cap - l, ?_, by rw [hlen]; omega, fun i x hi => ?_⟩
      · rw [hlen]; simp [add_plain]
      · have hi2 : xs[l + i]? = some x := by
          rw [List.getElem?_drop, List.getElem?_take] at hi
          split at hi
          · exact hi
          · cases hi
        obtain ⟨vs, g1, g2, g3⟩ := hxs (l + i) x hi2
        refine ⟨vs, g1, ?_, g3⟩
        rw [Nat.add_assoc, ← Nat.add_mul]; exact g2
/-- 's[l:h]' of a slice that is only read. The new slice's value is a variable to what follows. -/
theorem OpY.slice_sl {α : Type} {t el : TypeId} {x : Operand} {lo hi : Option Operand} {sz by' l h : Nat} {z v : Value} {Rr : Hp → List Value → α → Prop} {A : List (Option Nat)} {xs : List α} (hu : P.underlying t = some (.slice el)) (ti : TI P el sz by' z)
    (hx : ρ x = v) (hS : Sl sz Rr (view A w) v xs) (hlo : (lo = none ∧ l = 0) ∨ ∃ k y, lo = some y ∧ ρ y = .int k ((l : Nat) : Int)) (hhi : (hi = none ∧ h = xs.length) ∨ ∃ k y, hi = some y ∧ ρ y = .int k ((h : Nat) : Int)) (h1 : l ≤ h) (h2 : h ≤ xs.length)
    (hk : ∀ v', (∀ A', Sl sz Rr (view A' w) v xs → Sl sz Rr (view A' w) v' ((xs.take h).drop l)) → R v' w) : OpY P (.slice t x lo hi none) ty ρ w R := by
  obtain ⟨inf, hi', hs, _, _⟩ := ti
  subst hs
  obtain ⟨a, len, cap, rfl⟩ : ∃ a len cap, v = .slice a len cap := by
    rcases hS with ⟨⟨oa, h⟩, _⟩ | ⟨b, o, c, h, _⟩ <;> exact ⟨_, _, _, h⟩
  obtain ⟨hl, hc, _⟩ := hS.cut h1 h2
  have hr := run_sliceAt (P := P) (w := w) hu hi' a len cap l h (lo.map ρ) (hi.map ρ)
    (by rcases hlo with ⟨rfl, rfl⟩ | ⟨k, y, rfl, hy⟩
        · exact .inl ⟨rfl, rfl⟩
        · exact .inr ⟨k, by simp [hy]⟩)
    (by rcases hhi with ⟨rfl, rfl⟩ | ⟨k, y, rfl, hy⟩
        · exact .inl ⟨rfl, hl.symm⟩
        · exact .inr ⟨k, by simp [hy]⟩) h1 hc
  simp only [OpY, bareOp, execOp, hx]
  simp only [Option.map_none, Sem.run_bind, hr, Result.andThen_ok, Sem.run_pure, upon]
  exact hk _ fun A' hA => (hA.cut h1 h2).2.2
/-- 's[l:h]' of a slice that is owned. -/
theorem OpY.slice_own {t el : TypeId} {x : Operand} {lo hi : Option Operand} {sz by' l h b o len cap : Nat} {z : Value} (hu : P.underlying t = some (.slice el)) (ti : TI P el sz by' z)
    (hx : ρ x = .slice (some ⟨b, o, none⟩) len cap) (hlo : (lo = none ∧ l = 0) ∨ ∃ k y, lo = some y ∧ ρ y = .int k ((l : Nat) : Int)) (hhi : (hi = none ∧ h = len) ∨ ∃ k y, hi = some y ∧ ρ y = .int k ((h : Nat) : Int)) (h1 : l ≤ h) (h2 : h ≤ cap) (hlt : l < cap)
    (hk : R (.slice (some ⟨b, o + l * sz, none⟩) (h - l) (cap - l)) w) : OpY P (.slice t x lo hi none) ty ρ w R := by
  obtain ⟨inf, hi', hs, _, _⟩ := ti
  subst hs
  have hr := run_sliceAt (P := P) (w := w) hu hi' (some ⟨b, o, none⟩) len cap l h (lo.map ρ) (hi.map ρ)
    (by rcases hlo with ⟨rfl, rfl⟩ | ⟨k, y, rfl, hy⟩
        · exact .inl ⟨rfl, rfl⟩
        · exact .inr ⟨k, by simp [hy]⟩)
    (by rcases hhi with ⟨rfl, rfl⟩ | ⟨k, y, rfl, hy⟩
        · exact .inl ⟨rfl, rfl⟩
        · exact .inr ⟨k, by simp [hy]⟩) h1 h2
  have hne : ¬ cap = l := by omega
  simp only [OpY, bareOp, execOp, hx]
  simp only [Option.map_none, Sem.run_bind, hr, Result.andThen_ok, Sem.run_pure, upon, if_neg hne, Option.map_some, add_plain]
  exact hk

/-! ## nil -/
def isNil : Value → Bool
  | .slice none _ _ => true
  | _ => false
theorem run_equalIn_nil (d : Nat) {t el : TypeId} (hu : P.underlying t = some (.slice el)) (a : Option Addr) (n c : Nat) : (Op.equalIn (d + 1) t (.slice a n c) (.slice none 0 0)).run P w = .ok a.isNone w := by
  cases a <;> simp [Op.equalIn, run_underlying hu]
theorem OpY.eqlNil {t u el : TypeId} {a b : Operand} {v : Value} (hu : P.underlying t = some (.slice el)) (ha : ρ a = v) (hv : ∃ p n c, v = .slice p n c) (hb : ρ b = .slice none 0 0) (h : R (.bool (isNil v)) w) : OpY P (.binOp .eql t a b u) ty ρ w R := by
  obtain ⟨p, n, c, rfl⟩ := hv
  have hr : (Op.equal t (.slice p n c) (.slice none 0 0)).run P w = .ok p.isNone w := run_equalIn_nil 9999 hu p n c
  simp only [OpY, bareOp, execOp, ha, hb]
  simp only [binOp, eqGuard]
  simp [hr, upon]
  cases p <;> exact h
theorem Sl.isSlice {α : Type} {sz : Nat} {Rr : Hp → List Value → α → Prop} {H : Hp} {v : Value} {xs : List α} (hS : Sl sz Rr H v xs) : ∃ p n c, v = .slice p n c := by
  rcases hS with ⟨⟨oa, h⟩, _⟩ | ⟨b, o, c, h, _⟩ <;> exact ⟨_, _, _, h⟩
theorem Sl.of_isNil {α : Type} {sz : Nat} {Rr : Hp → List Value → α → Prop} {H : Hp} {v : Value} {xs : List α} (hS : Sl sz Rr H v xs) (h : isNil v = true) : xs = [] ∧ v = .slice none 0 0 := by
  rcases hS with ⟨h1, h2⟩ | ⟨b, o, c, h1, _⟩
  · obtain ⟨oa, h1⟩ := h1
    cases oa with
    | none => exact ⟨h2, h1⟩
    | some a => subst h1; simp [isNil] at h
  · subst h1; simp [isNil] at h

/-! ## Texts -/
/-- A text by its bytes. -/
def str (xs : List Nat) : ByteArray := ⟨(xs.map UInt8.ofNat).toArray⟩
def bytesOk (xs : List Nat) : Prop := ∀ x ∈ xs, x < 256
theorem str_size (xs : List Nat) : (str xs).size = xs.length := by simp [str, ByteArray.size]
theorem str_append (xs ys : List Nat) : str xs ++ str ys = str (xs ++ ys) := by
  apply ByteArray.ext; simp [str]
theorem toList_loop_eq (s : ByteArray) : s.toList = s.data.toList := by
  have hsz : s.size = s.data.toList.length := rfl
  have key : ∀ (n i : Nat) (r : List UInt8), s.size - i = n → ByteArray.toList.loop s i r = r.reverse ++ s.data.toList.drop i := by
    intro n
    induction n with
    | zero =>
      intro i r h
      unfold ByteArray.toList.loop
      rw [if_neg (by omega), List.drop_of_length_le (by rw [← hsz]; omega)]
      simp
    | succ n ih =>
      intro i r h
      unfold ByteArray.toList.loop
      rw [if_pos (by omega), ih (i + 1) _ (by omega)]
      have hi : i < s.data.toList.length := by rw [← hsz]; omega
      rw [List.drop_eq_getElem_cons hi]
      have : s.get! i = s.data.toList[i] := by
        simp only [ByteArray.get!]
        simp [Array.getElem!_eq_getD]
        rw [Array.getElem?_eq_getElem (by simpa using hi)]; rfl
      simp [this]
  have := key s.size 0 [] (by simp)
  simpa [ByteArray.toList] using this
theorem toList_str (xs : List Nat) : (str xs).toList = xs.map UInt8.ofNat := by rw [toList_loop_eq]; simp [str]
theorem ofNat_inj {a b : Nat} (ha : a < 256) (hb : b < 256) (h : UInt8.ofNat a = UInt8.ofNat b) : a = b := by
  have := congrArg UInt8.toNat h
  simp [UInt8.toNat_ofNat'] at this
  omega
theorem str_eq_iff {xs ys : List Nat} (hx : bytesOk xs) (hy : bytesOk ys) : ((str xs).toList == (str ys).toList) = decide (xs = ys) := by
  rw [toList_str, toList_str]
  by_cases h : xs = ys
  · subst h; simp
  · simp only [h, decide_false, beq_eq_false_iff_ne, ne_eq]
    intro he
    apply h
    have hl : xs.length = ys.length := by simpa using congrArg List.length he
    apply List.ext_getElem hl
    intro i h1 h2
    have := List.getElem_of_eq he (i := i) (by simpa using h1)
    simp only [List.getElem_map] at this
    exact ofNat_inj (hx _ (List.getElem_mem h1)) (hy _ (List.getElem_mem h2)) this

theorem OpY.strAdd {t u : TypeId} {a b : Operand} {x y : List Nat} (ha : ρ a = .string (str x)) (hb : ρ b = .string (str y)) (hl : x.length + y.length ≤ 9223372036854775807) (h : R (.string (str (x ++ y))) w) : OpY P (.binOp .add t a b u) ty ρ w R := by
  have h1 : ¬ (((str x).size + (str y).size : Nat) : Int) > IntKind.i64.max := by
    have hm : IntKind.i64.max = 9223372036854775807 := by decide
    rw [str_size, str_size, hm]; omega
  have hr : (Op.stringOp .add (str x) (str y)).run P w = .ok (.string (str (x ++ y))) w := by
    simp only [Op.stringOp]
    rw [if_neg h1, str_append]; rfl
  simp only [OpY, bareOp, execOp, ha, hb]
  simp only [binOp, eqGuard]
  simp [hr, upon]
  exact h
theorem OpY.strEql {t u : TypeId} {a b : Operand} {x y : List Nat} (ha : ρ a = .string (str x)) (hb : ρ b = .string (str y)) (hx : bytesOk x) (hy : bytesOk y) (h : R (.bool (decide (x = y))) w) : OpY P (.binOp .eql t a b u) ty ρ w R := by
  have hr : (Op.stringOp .eql (str x) (str y)).run P w = .ok (.bool (decide (x = y))) w := by
    simp only [Op.stringOp]
    rw [str_eq_iff hx hy]; rfl
  simp only [OpY, bareOp, execOp, ha, hb]
  simp only [binOp, eqGuard]
  simp [hr, upon]
  exact h
theorem OpY.strNeq {t u : TypeId} {a b : Operand} {x y : List Nat} (ha : ρ a = .string (str x)) (hb : ρ b = .string (str y)) (hx : bytesOk x) (hy : bytesOk y) (h : R (.bool (decide (¬ x = y))) w) : OpY P (.binOp .neq t a b u) ty ρ w R := by
  have hr : (Op.stringOp .neq (str x) (str y)).run P w = .ok (.bool (decide (¬ x = y))) w := by
    simp only [Op.stringOp]
    rw [str_eq_iff hx hy, decide_not]; rfl
  simp only [OpY, bareOp, execOp, ha, hb]
  simp only [binOp, eqGuard]
  simp [hr, upon]
  simpa using h
theorem OpY.strSlice {t : TypeId} {x : Operand} {lo hi : Option Operand} {xs : List Nat} {l h : Nat} (hu : P.underlying t = some .string) (hx : ρ x = .string (str xs)) (hlo : (lo = none ∧ l = 0) ∨ ∃ k y, lo = some y ∧ ρ y = .int k ((l : Nat) : Int)) (hhi : (hi = none ∧ h = xs.length) ∨ ∃ k y, hi = some y ∧ ρ y = .int k ((h : Nat) : Int)) (h1 : l ≤ h) (h2 : h ≤ xs.length)
    (hk : R (.string (str ((xs.take h).drop l))) w) : OpY P (.slice t x lo hi none) ty ρ w R := by
  have he : (str xs).extract l h = str ((xs.take h).drop l) := by
    apply ByteArray.ext
    simp [str, ByteArray.data_extract]
    rw [List.drop_take]
  have b1 : ∀ k, (Instr.sliceBound (.int k ((h : Nat) : Int)) xs.length .sliceAlen).run P w = .ok h w := by
    intro k; have g : (h : Int) ≤ (xs.length : Int) := by omega
    simp [Instr.sliceBound, asIntOf, g, h2]
  have b2 : ∀ k, (Instr.sliceBound (.int k ((l : Nat) : Int)) h .sliceB).run P w = .ok l w := by
    intro k; have g : (l : Int) ≤ (h : Int) := by omega
    simp [Instr.sliceBound, asIntOf, g, h1]
  have hr : (Instr.sliceAt t (.string (str xs)) (lo.map ρ) (hi.map ρ) none).run P w = .ok (.string (str ((xs.take h).drop l))) w := by
    rw [← he]
    rcases hlo with ⟨rfl, rfl⟩ | ⟨k, y, rfl, hy⟩ <;> rcases hhi with ⟨rfl, rfl⟩ | ⟨k', y', rfl, hy'⟩ <;>
      simp [Instr.sliceAt, Instr.slice, run_underlying hu, Instr.sliceBounds, str_size, b1, b2, *]
  simp only [OpY, bareOp, execOp, hx]
  simp only [Option.map_none, Sem.run_bind, hr, Result.andThen_ok, Sem.run_pure, upon]
  exact hk
theorem OpY.strIndex {t : TypeId} {x y : Operand} {xs : List Nat} {i : Nat} {k : IntKind} (hu : P.underlying t = some .string) (hx : ρ x = .string (str xs)) (hy : ρ y = .int k ((i : Nat) : Int)) (hb : bytesOk xs) (hi : i < xs.length) (hk : R (.int .u8 ((xs[i] : Nat) : Int)) w) : OpY P (.index t x y) ty ρ w R := by
  have hlt : xs[i] < 256 := hb _ (List.getElem_mem hi)
  have hg : (str xs)[i]? = some (UInt8.ofNat xs[i]) := by
    have hs : i < (str xs).size := by rw [str_size]; exact hi
    rw [getElem?_pos (str xs) i hs]
    congr 1
    show (str xs).data[i] = _
    simp [str]
  have hr : (Instr.index t (.string (str xs)) (.int k ((i : Nat) : Int))).run P w = .ok (.int .u8 ((xs[i] : Nat) : Int)) w := by
    simp only [Instr.index, asIntOf, Sem.run_bind, Sem.run_pure, Result.andThen_ok, run_underlying hu, Int.toNat_natCast, hg]
    simp [UInt8.toNat_ofNat', Nat.mod_eq_of_lt hlt]
  simp only [OpY, bareOp, execOp, hx, hy]
  simp only [Sem.run_bind, hr, Result.andThen_ok, Sem.run_pure, upon]
  exact hk
theorem strOfNums_nat (xs : List Nat) : strOfNums (xs.map (fun x => ((x : Nat) : Int))) = str xs := by
  apply ByteArray.ext; simp [strOfNums, str, Function.comp_def]
theorem OpY.bytesToStr {s t el : TypeId} {x : Operand} {v : Value} {A : List (Option Nat)} {xs : List Nat} (hs : P.underlying s = some (.slice el)) (he : P.underlying el = some (.int .u8)) (ht : P.underlying t = some .string) (hx : ρ x = v) (hS : Ints .u8 (view A w) v xs) (h : R (.string (str xs)) w) : OpY P (.convert s t x) ty ρ w R := by
  have hr : (convert s t v).run P w = .ok (.string (str xs)) w := by
    have hS' := hS
    rcases hS with ⟨h1, h2⟩ | ⟨b, o, cap, hv, hc, hxs⟩
    · obtain ⟨oa, h1⟩ := h1
      subst h1; subst h2
      cases oa with
      | none => rw [run_convert_bytes_nil w s el hs he 0 0 t ht]; rfl
      | some a =>
        rw [run_convert_bytes_string w s t el _ 0 0 hs he ht, run_bytesToString w _ 0 0 [] (by simp [loadCells, loadCellsFrom])]
        rfl
    · subst hv
      obtain ⟨_, ha, _⟩ := hS'.cells
      rw [run_convert_bytes_arg w s el hs he b o xs.length cap (xs.map (fun x => ((x : Nat) : Int))) (by simp) ?_ t ht, strOfNums_nat]
      intro i hi
      have := cellH_view (ha.get i (ints_get hi))
      rw [this]; simp [hi]
  simp only [OpY, bareOp, execOp, hx]
  simp only [Sem.run_bind, hr, Result.andThen_ok, Sem.run_pure, upon]
  exact h
end
end Go.X

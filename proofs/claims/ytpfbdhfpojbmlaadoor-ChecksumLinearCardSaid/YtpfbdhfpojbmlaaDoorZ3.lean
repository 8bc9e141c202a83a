/-
  Operations by readings and rows. Plain theorems over any program.
-/
import Derived.Test.YtpfbdhfpojbmlaaDoorZ2
import Derived.Laws.Tables
set_option linter.unusedSimpArgs false
set_option linter.unusedVariables false
namespace Go.X
open Go Go.RowKit

theorem one_cells {v : Value} (h : one v = true) : v.cells = #[v] := by
  cases v <;> first | rfl | (simp [one, Value.oneCell'] at h)
theorem Loc.begin {X : List (Option Nat)} {C : List Cont} {w : World} (h : Owns w X C) (hd : Distinct X) : Loc X [] w w X C :=
  ⟨rfl, rfl, rfl, Nat.le_refl _, fun _ _ _ => rfl, h, fun _ hb => .inl hb, hd, fun _ _ h => (by cases h), fun _ h => (by cases h)⟩
theorem Loc.add {X : List (Option Nat)} {w0 w : World} {O : List (Option Nat)} {C : List Cont} {ob : Option Nat} {c : Cont} (hL : Loc X [] w0 w O C) (hb : ∀ b, ob = some b → w0.heap.size ≤ b ∧ some b ∉ O) (hc : OwnC w ob c) :
    Loc X [] w0 w (ob :: O) (c :: C) := by
  refine ⟨hL.os, hL.tape, hL.output, hL.size, hL.keep, ⟨hc, hL.own⟩, fun b hm => ?_, ?_, fun _ _ h => (by cases h), fun _ h => (by cases h)⟩
  · rcases List.mem_cons.1 hm with h | h
    · exact .inr (hb b h.symm).1
    · exact hL.fresh b h
  · cases ob with
    | none => exact hL.dist
    | some b => exact ⟨(hb b rfl).2, hL.dist⟩

/-! ## Rows -/
/-- A row's value: nil, or n elements from the o-th cell of a block on. -/
def osv : Option Nat → Nat → Nat → Nat → Value
  | none, _, _, _ => .slice none 0 0
  | some b, o, n, cap => .slice (some ⟨b, o, none⟩) n cap
theorem osv_one (ob : Option Nat) (o n cap : Nat) : one (osv ob o n cap) = true := by cases ob <;> rfl
theorem osv_zero (ob : Option Nat) (n cap : Nat) : osv ob 0 n cap = sv ob n cap := by cases ob <;> rfl

section
variable {P : Program} {ty : TypeId} {ρ : Operand → Value} {w w0 : World} {R : Value → World → Prop} {X : List (Option Nat)} {O : List (Option Nat)} {C : List Cont} {α : Type} {r : Rep α} {H : Hp}

theorem Loc.row_some (hL : Loc X [] w0 w O C) (i : Nat) {ob : Option Nat} {cs : List Value} (hO : O[i]? = some ob) (hC : C[i]? = some (.cells cs)) (h : 0 < cs.length) : ∃ b, ob = some b := by
  have := hL.at i hO hC
  cases ob with
  | none => have h0 : cs = [] := this; rw [h0] at h; simp at h
  | some b => exact ⟨b, rfl⟩
theorem row_pos {pre cs sp : List Value} {xs : List α} {n : Nat} {a : α} (hE : Els r H cs xs) (hn : xs[n]? = some a) (hz : 0 < r.sz) : 0 < (pre ++ (cs ++ sp)).length := by
  have h1 := hE.length
  have h2 : n < xs.length := (List.getElem?_eq_some_iff.1 hn).1
  have : 1 * 1 ≤ xs.length * r.sz := Nat.mul_le_mul (by omega) hz
  simp; omega

/-- 's[i]' of a slice that is only read: where it lies -/
theorem OpY.ixRo {t el : TypeId} {x y : Operand} {i : Int} {n : Nat} {k : IntKind} {by' : Nat} {z v : Value} {xs : List α} {a : α} (hu : P.underlying t = some (.slice el)) (ti : TI P el r.sz by' z)
    (hx : ρ x = v) (hS : Rs r H v xs) (hy : ρ y = .int k i) (hi : i = (n : Int)) (hn : xs[n]? = some a)
    (h : ∀ b o vs, vs.length = r.sz → At H b o vs → r.R H vs a → R (.pointer (some ⟨b, o, none⟩)) w) : OpY P (.indexAddr t x y) ty ρ w R := by
  obtain ⟨b, o, cap, vs, hv, h1, h2, h3⟩ := hS.get hn
  subst hi
  exact OpY.indexAddr hu ti (hx.trans hv) hy (List.getElem?_eq_some_iff.1 hn).1 rfl (h _ _ vs h1 h2 h3)
theorem OpY.ldRo1 {t : TypeId} {x : Operand} {d : TypeDesc} {b o : Nat} {v : Value} (hd : P.underlying t = some d) (hg : aggD d = false) (hx : ρ x = .pointer (some ⟨b, o, none⟩)) (hle : Le H (view [] w)) (hA : At H b o [v]) (h : R v w) : OpY P (.load t x) ty ρ w R :=
  OpY.load_at hd hg hx (cellH_le hle (hA.get 0 rfl)) h
theorem OpY.ldRoA {t : TypeId} {x : Operand} {d : TypeDesc} {b o : Nat} {vs : List Value} {sz by' : Nat} {z : Value} (hd : P.underlying t = some d) (hg : aggD d = true) (ti : TI P t sz by' z) (hx : ρ x = .pointer (some ⟨b, o, none⟩)) (hl : vs.length = sz) (hle : Le H (view [] w)) (hA : At H b o vs) (h : R (.agg vs.toArray) w) : OpY P (.load t x) ty ρ w R :=
  OpY.load_at_agg hd hg ti hx hl (hA.mono hle) h
/-- a load from a block of one's own -/
theorem OpY.ldBox1 {t : TypeId} {x : Operand} {d : TypeDesc} {b o : Nat} {cs : List Value} {v : Value} (hd : P.underlying t = some d) (hg : aggD d = false) (hx : ρ x = .pointer (some ⟨b, o, none⟩)) (hc : OwnC w (some b) (.cells cs))
    (hv : cs[o]? = some v) (h : R v w) : OpY P (.load t x) ty ρ w R := by
  have := run_loadVar_one (P := P) hd hg (cell_own hc hv)
  simp only [OpY, bareOp, execOp, hx]
  simp [Instr.loadAt, Instr.sureAddr, this, upon]
  exact h
theorem OpY.ldBoxA {t : TypeId} {x : Operand} {d : TypeDesc} {b o : Nat} {cs vs : List Value} {sz by' : Nat} {z : Value} (hd : P.underlying t = some d) (hg : aggD d = true) (ti : TI P t sz by' z) (hx : ρ x = .pointer (some ⟨b, o, none⟩)) (hc : OwnC w (some b) (.cells cs))
    (hl : vs.length = sz) (hv : (cs.drop o).take vs.length = vs) (h : R (.agg vs.toArray) w) : OpY P (.load t x) ty ρ w R := by
  have hc' : ∀ j v, vs[j]? = some v → w.cell? ((⟨b, o, none⟩ : Addr).add j) = some v := by
    intro j v hj
    rw [add_plain]
    refine cell_own hc ?_
    rw [← hj]; conv => rhs; rw [← hv]
    rw [List.getElem?_take, List.getElem?_drop, if_pos]
    rcases Nat.lt_or_ge j vs.length with h | h
    · exact h
    · rw [List.getElem?_eq_none h] at hj; cases hj
  have := run_loadVar_agg (P := P) hd hg ti hl hc'
  simp only [OpY, bareOp, execOp, hx]
  simp [Instr.loadAt, Instr.sureAddr, this, upon]
  exact h
theorem elem_part {l vs us : List Value} {p q : Nat} (h : (l.drop p).take vs.length = vs) (hu : (vs.drop q).take us.length = us) : (l.drop (p + q)).take us.length = us := by
  rw [← List.drop_drop]
  generalize l.drop p = m at *
  have e : (m.take vs.length).drop q = vs.drop q := by rw [h]
  rw [List.drop_take] at e
  rw [← e, List.take_take] at hu
  have hk : us.length ≤ vs.length - q := by
    have := congrArg List.length hu
    rw [List.length_take] at this
    omega
  rw [Nat.min_eq_left hk] at hu
  exact hu
theorem row_elem {pre cs sp : List Value} {xs : List α} {n : Nat} {a : α} (hE : Els r H cs xs) (hn : xs[n]? = some a) : ∃ vs, vs.length = r.sz ∧ r.R H vs a ∧ ((pre ++ (cs ++ sp)).drop (pre.length + n * r.sz)).take vs.length = vs := by
  obtain ⟨vs, h1, h2, h3⟩ := hE.get hn
  refine ⟨vs, h2, h3, ?_⟩
  have hlt : n < xs.length := (List.getElem?_eq_some_iff.1 hn).1
  have hlen := hE.length
  have hb : n * r.sz + r.sz ≤ cs.length := by rw [hlen, ← Nat.succ_mul]; exact Nat.mul_le_mul_right _ hlt
  rw [← List.drop_drop, List.drop_left' rfl, List.drop_append_of_le_length (by omega), List.take_append_of_le_length (by rw [List.length_drop, h2]; omega), h2, h1]
/-- an element of a row, loaded -/
theorem OpY.ldRow1 {t : TypeId} {x : Operand} {d : TypeDesc} {b q n : Nat} {pre cs sp : List Value} {xs : List α} {a : α} (hd : P.underlying t = some d) (hg : aggD d = false) (hx : ρ x = .pointer (some ⟨b, q, none⟩)) (hc : OwnC w (some b) (.cells (pre ++ (cs ++ sp))))
    (hE : Els r H cs xs) (hn : xs[n]? = some a) (hz : r.sz = 1) (hq : q = pre.length + n * r.sz) (h : ∀ v, r.R H [v] a → R v w) : OpY P (.load t x) ty ρ w R := by
  obtain ⟨vs, h1, h2, h3⟩ := row_elem (pre := pre) (sp := sp) hE hn
  rw [hz] at h1
  match vs, h1 with
  | [v], _ =>
    subst hq
    refine OpY.ldBox1 hd hg hx hc ?_ (h v h2)
    have := congrArg (·[0]?) h3
    simp only [List.length_singleton, List.getElem?_take, List.getElem?_drop, Nat.lt_one_iff, if_true, Nat.add_zero] at this
    exact this
theorem OpY.ldRowA {t : TypeId} {x : Operand} {d : TypeDesc} {b q n by' : Nat} {z : Value} {pre cs sp : List Value} {xs : List α} {a : α} (hd : P.underlying t = some d) (hg : aggD d = true) (ti : TI P t r.sz by' z) (hx : ρ x = .pointer (some ⟨b, q, none⟩)) (hc : OwnC w (some b) (.cells (pre ++ (cs ++ sp))))
    (hE : Els r H cs xs) (hn : xs[n]? = some a) (hq : q = pre.length + n * r.sz) (h : ∀ vs, vs.length = r.sz → r.R H vs a → R (.agg vs.toArray) w) : OpY P (.load t x) ty ρ w R := by
  obtain ⟨vs, h1, h2, h3⟩ := row_elem (pre := pre) (sp := sp) hE hn
  subst hq
  exact OpY.ldBoxA hd hg ti hx hc h1 h3 (h vs h1 h2)
/-- where an element of a row lies -/
theorem OpY.ixRow {t el : TypeId} {x y : Operand} {o n m cap : Nat} {i : Int} {k : IntKind} {by' : Nat} {z : Value} {ob : Option Nat} {pre cs sp : List Value} {xs : List α} (hu : P.underlying t = some (.slice el)) (ti : TI P el r.sz by' z)
    (hx : ρ x = osv ob o m cap) (hc : OwnC w ob (.cells (pre ++ (cs ++ sp)))) (hE : Els r H cs xs) (hm : m = xs.length) (hy : ρ y = .int k i) (hi : i = (n : Int)) (hn : n < xs.length) (hz : (r.sz == 0) = false)
    (h : ∀ b, ob = some b → R (.pointer (some ⟨b, o + n * r.sz, none⟩)) w) : OpY P (.indexAddr t x y) ty ρ w R := by
  have hpos : 0 < r.sz := by have : ¬ r.sz = 0 := by simpa using hz
                             omega
  cases ob with
  | none =>
    have h0 : pre ++ (cs ++ sp) = [] := hc
    have := row_pos (pre := pre) (sp := sp) hE (List.getElem?_eq_getElem hn) hpos
    rw [h0] at this; simp at this
  | some b =>
    subst hi; subst hm
    exact OpY.indexAddr hu ti hx hy hn rfl (h b rfl)
/-- an element of a row, stored -/
theorem OpY.stRow {t : TypeId} {x y : Operand} {b q n by' : Nat} {z v : Value} {pre cs sp vs : List Value} {xs : List α} {a : α} (ti : TI P t r.sz by' z) (hx : ρ x = .pointer (some ⟨b, q, none⟩)) (hy : ρ y = v) (hv : v.cells = vs.toArray) (hR : r.R H vs a)
    (hL : Loc X [] w0 w O C) (i : Nat) (hO : O[i]? = some (some b)) (hC : C[i]? = some (.cells (pre ++ (cs ++ sp)))) (hE : Els r H cs xs) (hn : n < xs.length) (hq : q = pre.length + n * r.sz)
    (h : ∀ w' cs', Loc X [] w0 w' O (C.set i (.cells (pre ++ (cs' ++ sp)))) → Step O O w w' → Els r H cs' (xs.set n a) → cs'.length = cs.length → R undef w') : OpY P (.store t x y) ty ρ w R := by
  have hlen := hE.length
  have hvl := r.len _ _ _ hR
  have hb : n * r.sz + r.sz ≤ cs.length := by rw [hlen, ← Nat.succ_mul]; exact Nat.mul_le_mul_right _ hn
  have hp : putAt (pre ++ (cs ++ sp)) q vs = pre ++ (putAt cs (n * r.sz) vs ++ sp) := by
    subst hq
    rw [putAt_eq _ _ _ (by simp [hvl]; omega), putAt_eq _ _ _ (by rw [hvl]; exact hb), hvl]
    rw [List.take_append, List.take_of_length_le (by omega), show pre.length + n * r.sz - pre.length = n * r.sz by omega,
      List.take_append_of_le_length (by omega), List.drop_append, List.drop_of_length_le (by omega), List.nil_append,
      show pre.length + n * r.sz + r.sz - pre.length = n * r.sz + r.sz by omega, List.drop_append_of_le_length hb]
    simp
  refine OpY.store ti hx hy hv hvl (r.one _ _ _ hR) hL i hO hC (by subst hq; simp [hvl]; omega) fun w' h1 h2 => ?_
  rw [hp] at h1
  exact h w' _ h1 h2 (hE.set hR hn) (length_putAt _ _ _)
theorem OpY.lenRo {x : Operand} {t el : TypeId} {v : Value} {xs : List α} (hu : P.underlying t = some (.slice el)) (hx : ρ x = v) (hS : Rs r H v xs) (h : R (.int .i64 (xs.length : Int)) w) :
    OpY P (.call { callee := .builtin .len, args := #[x], argTypes := #[t] }) ty ρ w R := OpY.len_sl hu hx hS h
theorem OpY.lenRow {x : Operand} {t el : TypeId} {o n cap : Nat} {ob : Option Nat} {pre cs sp : List Value} {xs : List α} (hu : P.underlying t = some (.slice el)) (hx : ρ x = osv ob o n cap) (hc : OwnC w ob (.cells (pre ++ (cs ++ sp)))) (hE : Els r H cs xs) (hz : (r.sz == 0) = false) (hn : n = xs.length)
    (h : R (.int .i64 (xs.length : Int)) w) : OpY P (.call { callee := .builtin .len, args := #[x], argTypes := #[t] }) ty ρ w R := by
  have hpos : 0 < r.sz := by have : ¬ r.sz = 0 := by simpa using hz
                             omega
  cases ob with
  | none =>
    have h0 : pre ++ (cs ++ sp) = [] := hc
    have hxs : xs.length = 0 := by
      rcases Nat.eq_zero_or_pos xs.length with h1 | h1
      · exact h1
      · have := row_pos (pre := pre) (sp := sp) hE (List.getElem?_eq_getElem h1) hpos
        rw [h0] at this; simp at this
    exact OpY.len_slice hu hx (by rw [hxs] at h; exact h)
  | some b => subst hn; exact OpY.len_slice hu hx h
theorem OpY.lenNil {x : Operand} {t el : TypeId} (hu : P.underlying t = some (.slice el)) (hx : ρ x = .slice none 0 0) (h : R (.int .i64 0) w) : OpY P (.call { callee := .builtin .len, args := #[x], argTypes := #[t] }) ty ρ w R := OpY.len_slice hu hx h
theorem OpY.lenStr {x : Operand} {t : TypeId} {s : List UInt8} (hu : P.underlying t = some .string) (hx : ρ x = .string (s8 s)) (h : R (.int .i64 (s.length : Int)) w) :
    OpY P (.call { callee := .builtin .len, args := #[x], argTypes := #[t] }) ty ρ w R := OpY.len_str hu hx (by rw [s8_size]; exact h)

/-! ## append -/
theorem Src.nil' {sz : Nat} {ys : List α} (h : ys = []) : Src w (.slice none 0 0) ys.length sz [] := by subst h; exact Src.nil
theorem Src.row {o n cap : Nat} {ob : Option Nat} {pre cs sp : List Value} {xs : List α} (hc : OwnC w ob (.cells (pre ++ (cs ++ sp)))) (hE : Els r H cs xs) (hz : (r.sz == 0) = false) (ho : o = pre.length) (hn : n = xs.length) : Src w (osv ob o n cap) xs.length r.sz cs := by
  have hpos : 0 < r.sz := by have : ¬ r.sz = 0 := by simpa using hz
                             omega
  refine ⟨hE.length, ?_⟩
  cases ob with
  | none =>
    have h0 : pre ++ (cs ++ sp) = [] := hc
    left
    have hx0 : xs.length = 0 := by
     rcases Nat.eq_zero_or_pos xs.length with h1 | h1
     · exact h1
     · have := row_pos (pre := pre) (sp := sp) hE (List.getElem?_eq_getElem h1) hpos
       rw [h0] at this; simp at this
    refine ⟨⟨none, by simp [osv]⟩, ?_⟩
    rcases Nat.eq_zero_or_pos xs.length with h1 | h1
    · exact h1
    · have := row_pos (pre := pre) (sp := sp) hE (List.getElem?_eq_getElem h1) hpos
      rw [h0] at this; simp at this
  | some b =>
    subst hn; subst ho
    refine .inr ⟨b, _, cap, rfl, fun j u hj => cell_own hc ?_⟩
    have hjl : j < cs.length := (List.getElem?_eq_some_iff.1 hj).1
    rw [List.getElem?_append_right (by omega), show pre.length + j - pre.length = j by omega, List.getElem?_append_left hjl, hj]
/-- 'append(s, x...)', s a row of one's own -/
theorem OpY.apRow {t el : TypeId} {a c : Operand} {by' n cap i : Nat} {z x : Value} {ob : Option Nat} {cs sp ds : List Value} {xs ys : List α} (hu : P.underlying t = some (.slice el)) (ti : TI P el r.sz by' z) (hzc : z.cells.size = r.sz) (hz : (r.sz == 0) = false)
    (ha : ρ a = osv ob 0 n cap) (hc : ρ c = x) (hL : Loc X [] w0 w O C) (hO : O[i]? = some ob) (hC : C[i]? = some (.cells ([] ++ (cs ++ sp)))) (hE : Els r H cs xs) (hn : n = xs.length) (hcap : (cs ++ sp).length = cap * r.sz) (hsrc : Src w x ys.length r.sz ds) (hD : Els r H ds ys)
    (h63 : xs.length + ys.length ≤ 9223372036854775807) (hb : (xs.length + ys.length) * by' ≤ 140737488355328)
    (h : ∀ ob' cap' sp' ds' w', Els r H ds' (xs ++ ys) → (ds' ++ sp').length = cap' * r.sz → Loc X [] w0 w' (O.set i ob') (C.set i (.cells ([] ++ (ds' ++ sp')))) → Step O (O.set i ob') w w' → R (osv ob' 0 (xs ++ ys).length cap') w') :
    OpY P (.call { callee := .builtin .append, args := #[a, c], argTypes := #[t, t] }) ty ρ w R := by
  have hpos : 0 < r.sz := by have : ¬ r.sz = 0 := by simpa using hz
                             omega
  subst hn
  refine OpY.append (m := ys.length) (xs := cs) (sp := sp) hu ti hzc hpos (by rw [ha, osv_zero]) hc hL hO hC hE.length hcap hsrc hD.ones h63 hb fun ob' cap' sp' w' h1 h2 h3 => ?_
  have := h ob' cap' sp' (cs ++ ds) w' (hE.append hD) h1 h2 h3
  rw [osv_zero, List.length_append] at this
  exact this

/-! ## New rows -/
theorem madeCells_flat (zc : List Value) (n : Nat) : (madeCells zc.toArray (n * zc.length)).toList = (List.replicate n zc).flatten := by
  apply List.ext_getElem?
  intro i
  simp only [madeCells, Array.toList_map, List.getElem?_map, Array.toList_range]
  induction n generalizing i with
  | zero => simp
  | succ n ih =>
    rw [List.replicate_succ, List.flatten_cons]
    by_cases hi : i < zc.length
    · rw [List.getElem?_append_left hi, List.getElem?_range (by rw [Nat.add_mul]; omega)]
      simp [Nat.mod_eq_of_lt hi, hi]
    · rw [List.getElem?_append_right (by omega), ← ih (i - zc.length)]
      by_cases hlt : i < (n + 1) * zc.length
      · rw [Nat.add_mul, Nat.one_mul] at hlt
        rw [List.getElem?_range (by rw [Nat.add_mul]; omega), List.getElem?_range (by omega)]
        simp only [Option.map_some]
        congr 2
        show i % zc.length = (i - zc.length) % zc.length
        rw [Nat.mod_eq_sub_mod (by omega)]
      · rw [Nat.add_mul, Nat.one_mul] at hlt
        rw [List.getElem?_eq_none (by simp [Nat.add_mul]; omega), List.getElem?_eq_none (by simp; omega)]
theorem OpY.mkRow {t el : TypeId} {a c : Operand} {k k' : IntKind} {i : Int} {m by' : Nat} {z : Value} {zc : List Value} {x : α} (hu : P.underlying t = some (.slice el)) (ti : TI P el r.sz by' z) (hzc : z.cells = zc.toArray) (hR : r.R H zc x)
    (ha : ρ a = .int k i) (hc : ρ c = .int k' i) (hi : i = (m : Int)) (hb : by' * m ≤ 281474976710656) (hm : m ≤ 9223372036854775807) (hL : Loc X [] w0 w O C)
    (h : ∀ b w' cs, Els r H cs (List.replicate m x) → (cs ++ []).length = m * r.sz → Loc X [] w0 w' (some b :: O) (.cells ([] ++ (cs ++ [])) :: C) → Step O (some b :: O) w w' → R (osv (some b) 0 (List.replicate m x).length m) w') :
    OpY P (.makeSlice t a c) ty ρ w R := by
  obtain ⟨inf, hi', hs, hby, hzz⟩ := ti
  subst hi
  have hl := r.len _ _ _ hR
  have hb' : (inf.bytes : Int) * (m : Int) ≤ 281474976710656 := by
    subst hby
    have : ((inf.bytes * m : Nat) : Int) ≤ 281474976710656 := by omega
    rwa [Int.natCast_mul] at this
  have hr := run_make (P := P) w t el inf z hu hi' hzz k k' (m : Int) (m : Int) (by omega) (by omega) hb' (by omega)
  simp only [Int.toNat_natCast, hs] at hr
  have hfl := madeCells_flat zc m
  rw [hl, ← hzc] at hfl
  have hal := hL.alloc (o := .cells (madeCells z.cells (m * r.sz)) el) (c := .cells (List.replicate m zc).flatten) (by rw [← hfl]; exact ownC_alloc w _ el)
  simp only [OpY, bareOp, execOp, ha, hc]
  simp [hr, upon]
  have hE := Els.replicate (r := r) hR m
  have hln := hE.length
  have := h _ _ _ hE (by rw [List.append_nil, hln]; simp) (by rw [List.append_nil]; exact hal.1) hal.2
  rw [List.length_replicate] at this
  exact this
theorem OpY.litRow {t el : TypeId} {n : Nat} {parts : List (Nat × Operand)} {by' : Nat} {z : Value} {vs : List Value} {css : List (List Value)} {xs : List α} (hu : P.underlying t = some (.slice el)) (ti : TI P el r.sz by' z) (hn : n * r.sz ≤ 16777216)
    (hp : (parts.map fun p => (p.1, ρ p.2)) = numbered 0 vs) (hvs : vs.length = n) (hc : cellsAre r.sz vs css) (h0 : 0 < n * r.sz) (hE : Els r H css.flatten xs) (hxs : xs.length = n) (hL : Loc X [] w0 w O C)
    (h : ∀ b w', (css.flatten ++ []).length = n * r.sz → Loc X [] w0 w' (some b :: O) (.cells ([] ++ (css.flatten ++ [])) :: C) → Step O (some b :: O) w w' → R (osv (some b) 0 n n) w') : OpY P (.buildSlice t n parts.toArray) ty ρ w R := by
  refine OpY.buildSliceV hu ti hn hp hvs hc h0 hL fun b w' h1 h2 => ?_
  refine h b w' (by rw [List.append_nil, hE.length, hxs]) (by rw [List.append_nil]; exact h1) h2
theorem OpY.litRow0 {t el : TypeId} {sz by' : Nat} {z : Value} (hu : P.underlying t = some (.slice el)) (ti : TI P el sz by' z) (hL : Loc X [] w0 w O C)
    (h : ∀ b w', Loc X [] w0 w' (some b :: O) (.cells ([] ++ ([] ++ [])) :: C) → Step O (some b :: O) w w' → R (osv (some b) 0 0 0) w') : OpY P (.buildSlice t 0 #[]) ty ρ w R :=
  OpY.buildSlice0 hu ti hL h

/-! ## Slicing -/
theorem OpY.cutRo {t el : TypeId} {x : Operand} {lo hi : Option Operand} {by' l h' : Nat} {z v : Value} {xs : List α} (hu : P.underlying t = some (.slice el)) (ti : TI P el r.sz by' z)
    (hx : ρ x = v) (hS : Rs r H v xs) (hlo : (lo = none ∧ l = 0) ∨ ∃ k y, lo = some y ∧ ρ y = .int k ((l : Nat) : Int)) (hhi : (hi = none ∧ h' = xs.length) ∨ ∃ k y, hi = some y ∧ ρ y = .int k ((h' : Nat) : Int)) (h1 : l ≤ h') (h2 : h' ≤ xs.length)
    (hk : ∀ v', Rs r H v' ((xs.take h').drop l) → R v' w) : OpY P (.slice t x lo hi none) ty ρ w R := by
  obtain ⟨inf, hi', hs, _, _⟩ := ti
  obtain ⟨a, len, cap, rfl⟩ : ∃ a len cap, v = .slice a len cap := by
    rcases hS with ⟨⟨oa, h⟩, _⟩ | ⟨b, o, c, h, _⟩ <;> exact ⟨_, _, _, h⟩
  obtain ⟨hl, hc, hcut⟩ := Sl.cut hS h1 h2
  have hr := run_sliceAt (P := P) (w := w) hu hi' a len cap l h' (lo.map ρ) (hi.map ρ)
    (by rcases hlo with ⟨rfl, rfl⟩ | ⟨k, y, rfl, hy⟩
        · exact .inl ⟨rfl, rfl⟩
        · exact .inr ⟨k, by simp [hy]⟩)
    (by rcases hhi with ⟨rfl, rfl⟩ | ⟨k, y, rfl, hy⟩
        · exact .inl ⟨rfl, hl.symm⟩
        · exact .inr ⟨k, by simp [hy]⟩) h1 hc
  simp only [OpY, bareOp, execOp, hx]
  simp only [Option.map_none, Sem.run_bind, hr, Result.andThen_ok, Sem.run_pure, upon]
  rw [hs]
  exact hk _ hcut
/-- 's[:h]' of a row of one's own: the row again, shorter -/
theorem OpY.cutRow {t el : TypeId} {x : Operand} {hi : Option Operand} {by' o n h' cap : Nat} {z : Value} {ob : Option Nat} {pre cs sp : List Value} {xs : List α} (hu : P.underlying t = some (.slice el)) (ti : TI P el r.sz by' z) (hz : (r.sz == 0) = false)
    (hx : ρ x = osv ob o n cap) (hc : OwnC w ob (.cells (pre ++ (cs ++ sp)))) (hE : Els r H cs xs) (hn : n = xs.length) (hcap : (cs ++ sp).length = cap * r.sz) (hhi : (hi = none ∧ h' = xs.length) ∨ ∃ k y, hi = some y ∧ ρ y = .int k ((h' : Nat) : Int)) (h2 : h' ≤ xs.length)
    (hk : ∀ cs' sp', cs' ++ sp' = cs ++ sp → Els r H cs' (xs.take h') → R (osv ob o (xs.take h').length cap) w) : OpY P (.slice t x none hi none) ty ρ w R := by
  have hpos : 0 < r.sz := by have : ¬ r.sz = 0 := by simpa using hz
                             omega
  have hlen := hE.length
  have hE' := hE.cut (Nat.zero_le h') h2
  rw [Nat.zero_mul, List.drop_zero, List.drop_zero] at hE'
  have hkk := hk (cs.take (h' * r.sz)) (cs.drop (h' * r.sz) ++ sp) (by rw [← List.append_assoc, List.take_append_drop]) hE'
  rw [List.length_take, Nat.min_eq_left h2] at hkk
  have hcx : xs.length ≤ cap := by
    have : xs.length * r.sz ≤ cap * r.sz := by rw [← hcap, List.length_append, hlen]; omega
    exact Nat.le_of_mul_le_mul_right this hpos
  obtain ⟨inf, hi', hs, _, _⟩ := ti
  have key : ∀ a, ρ x = .slice a n cap → R (.slice a (h' - 0) (cap - 0)) w → OpY P (.slice t x none hi none) ty ρ w R := by
    intro a hxa hR
    have hr := run_sliceAt (P := P) (w := w) hu hi' a n cap 0 h' none (hi.map ρ) (.inl ⟨rfl, rfl⟩)
      (by rcases hhi with ⟨rfl, rfl⟩ | ⟨k, y, rfl, hy⟩
          · exact .inl ⟨rfl, hn.symm⟩
          · exact .inr ⟨k, by simp [hy]⟩) (Nat.zero_le _) (by omega)
    simp only [OpY, bareOp, execOp, hxa]
    simp only [Option.map_none, Sem.run_bind, hr, Result.andThen_ok, Sem.run_pure, upon]
    have e : (if cap = 0 then a else a.map (·.add (0 * inf.size))) = a := by
      split
      · rfl
      · cases a with
        | none => rfl
        | some a => simp [Addr.add]
    rw [e]; exact hR
  cases ob with
  | none =>
    have h0 : pre ++ (cs ++ sp) = [] := hc
    have : cs = [] ∧ sp = [] := by simpa using (List.append_eq_nil_iff.1 h0).2
    have hx0 : xs.length = 0 := by
      rw [this.1] at hlen
      rcases Nat.eq_zero_or_pos xs.length with h1 | h1
      · exact h1
      · have : 1 * 1 ≤ xs.length * r.sz := Nat.mul_le_mul h1 hpos
        simp at hlen; omega
    have hc0 : cap = 0 := by
      rw [this.1, this.2] at hcap
      rcases Nat.eq_zero_or_pos cap with h1 | h1
      · exact h1
      · have : 1 * 1 ≤ cap * r.sz := Nat.mul_le_mul h1 hpos
        simp at hcap; omega
    subst hc0
    have hh : h' = 0 := by omega
    subst hh
    refine key none (by rw [hx, hn, hx0]; rfl) ?_
    exact hkk
  | some b => exact key _ hx hkk

/-! ## Structs -/
def fillL (pl : List (Nat × Nat)) (cells : List Value) : List (Nat × List Value) → Option (List Value)
  | [] => some cells
  | (i, cs) :: r => match pl[i]? with
    | none => none
    | some (off, size) => bif !(Nat.beq cs.length size) || Nat.blt cells.length (off + cs.length) then none else fillL pl (putAt cells off cs) r
def partsAre : List Value → List (List Value) → Prop
  | [], [] => True
  | v :: vs, c :: cs => v.cells = c.toArray ∧ partsAre vs cs
  | _, _ => False
theorem fill_L {pl : List (Nat × Nat)} : ∀ (is : List Nat) (vs : List Value) (css : List (List Value)) (cells cs : List Value), is.length = vs.length → partsAre vs css → fillL pl cells (is.zip css) = some cs → Instr.fill (pl[·]?) cells.toArray (is.zip vs) = some cs.toArray
  | [], [], [], cells, cs, _, _, h => by simp [fillL] at h; subst h; rfl
  | i :: is, v :: vs, c :: css, cells, cs, hl, hp, h => by
    simp only [List.zip_cons_cons, fillL] at h
    simp only [List.zip_cons_cons, Instr.fill]
    cases hpl : pl[i]? with
    | none => rw [hpl] at h; cases h
    | some q =>
      obtain ⟨off, size⟩ := q
      rw [hpl] at h
      simp only at h
      cases hb : (!(Nat.beq c.length size) || Nat.blt cells.length (off + c.length)) with
      | true => rw [hb] at h; cases h
      | false =>
        rw [hb] at h
        simp only [cond_false] at h
        have h1 : c.length = size ∧ off + c.length ≤ cells.length := by
          simp only [Bool.or_eq_false_iff, Bool.not_eq_false'] at hb
          refine ⟨Nat.eq_of_beq_eq_true hb.1, ?_⟩
          rcases Nat.lt_or_ge cells.length (off + c.length) with h2 | h2
          · have : Nat.blt cells.length (off + c.length) = true := Nat.ble_eq_true_of_le h2
            rw [this] at hb; cases hb.2
          · exact h2
        have hv := hp.1
        have hsz : v.cells.size = c.length := by rw [hv]; simp
        simp only
        rw [if_neg (by simp [hsz, h1.1]; omega)]
        have hf := zipfold c cells off 0
        rw [Nat.add_zero] at hf
        rw [hv, show (c.toArray.zipIdx.foldl (fun (cs : Array Value) (x : Value × Nat) => cs.setIfInBounds (off + x.2) x.1) cells.toArray) = (putAt cells off c).toArray by
          rw [← hf, ← Array.foldl_toList]; simp]
        exact fill_L is vs css _ cs (by simpa using hl) hp.2 h
  | [], _ :: _, _, _, _, hl, _, _ => by simp at hl
  | _ :: _, [], _, _, _, hl, _, _ => by simp at hl
  | [], [], _ :: _, _, _, _, hp, _ => hp.elim
  | _ :: _, _ :: _, [], _, _, _, hp, _ => hp.elim
def placesOf (P : Program) (fs : List Field) : Option (List (Nat × Nat)) := fs.mapM fun f => (P.info? f.type).map fun i => (f.offset, i.size)
def placesT (P : Program) (t : TypeId) : Option (List (Nat × Nat)) := match P.underlying t with
  | some (.struct fs) => placesOf P fs.toList
  | _ => none
theorem OpY.build {t : TypeId} {pl : List (Nat × Nat)} {sz by' : Nat} {z : Value} {zc cs : List Value} {is : List Nat} {vs : List Value} {css : List (List Value)} {parts : List (Nat × Operand)} (hpl : placesT P t = some pl) (ti : TI P t sz by' z) (hz : z.cells = zc.toArray)
    (hp : (parts.map fun p => (p.1, ρ p.2)) = is.zip vs) (hil : is.length = vs.length) (hc : partsAre vs css) (hf : fillL pl zc (is.zip css) = some cs) (h : R (.agg cs.toArray) w) : OpY P (.build t parts.toArray) ty ρ w R := by
  obtain ⟨inf, hi, hs, hby, hzz⟩ := ti
  have hfill := fill_L is vs css zc cs hil hc hf
  unfold placesT at hpl
  split at hpl
  · rename_i fs hu
    have hpl' : (fs.mapM (fun (f : Field) => do pure (f.offset, ← sizeOf f.type)) : Sem (Array (Nat × Nat))).run P w = .ok pl.toArray w := by
      have := run_places (P := P) w fs.toList pl hpl
      have e : (fun (f : Field) => (do pure (f.offset, ← sizeOf f.type) : Sem (Nat × Nat))) = fun f => Prod.mk f.offset <$> sizeOf f.type := by
        funext f; rfl
      rw [e, ← Array.toArray_toList (xs := fs), List.mapM_toArray, Sem.run_map, this]
      rfl
    have hr : (Instr.build t ((parts.toArray.map fun (x : Nat × Operand) => (x.1, ρ x.2)))).run P w = .ok (.agg cs.toArray) w := by
      have hlist : ((parts.toArray.map fun (x : Nat × Operand) => (x.1, ρ x.2))).toList = is.zip vs := by simpa using hp
      have hfn : (fun (i : Nat) => pl.toArray[i]?) = (fun (i : Nat) => pl[i]?) := by funext i; simp
      simp only [Instr.build, Sem.run_bind, zeroValue, typeInfo, run_program, Result.andThen_ok, hi, Sem.run_pure, hzz, run_underlying hu, hpl', hz, hlist, hfn, hfill]
    simp only [OpY, bareOp, execOp]
    simp only [Sem.run_bind, hr, Result.andThen_ok, Sem.run_pure, upon]
    exact h
  · cases hpl
theorem OpY.field1 {t : TypeId} {x : Operand} {fs : Array Field} {f : Field} {i : Nat} {d : TypeDesc} {cs : List Value} {v : Value} (hu : P.underlying t = some (.struct fs)) (hf : fs[i]? = some f) (hd : P.underlying f.type = some d) (hg : aggD d = false) (hx : ρ x = .agg cs.toArray) (hv : cs[f.offset]? = some v) (h : R v w) : OpY P (.field t x i) ty ρ w R := by
  have hr : (Instr.field t (.agg cs.toArray) i).run P w = .ok v w := by
    simp [Instr.field, run_underlying hu, hf, asAgg, part, run_isAgg hd, hg, hv]
  simp only [OpY, bareOp, execOp, hx]
  simp only [Sem.run_bind, hr, Result.andThen_ok, Sem.run_pure, upon]
  exact h
theorem OpY.fieldA {t : TypeId} {x : Operand} {fs : Array Field} {f : Field} {i sz by' : Nat} {z : Value} {d : TypeDesc} {cs vs : List Value} (hu : P.underlying t = some (.struct fs)) (hf : fs[i]? = some f) (hd : P.underlying f.type = some d) (hg : aggD d = true) (ti : TI P f.type sz by' z) (hx : ρ x = .agg cs.toArray) (hv : (cs.drop f.offset).take sz = vs) (h : R (.agg vs.toArray) w) : OpY P (.field t x i) ty ρ w R := by
  obtain ⟨inf, hi, hs, hby, hzz⟩ := ti
  have hr : (Instr.field t (.agg cs.toArray) i).run P w = .ok (.agg vs.toArray) w := by
    simp [Instr.field, run_underlying hu, hf, asAgg, part, run_isAgg hd, hg, sizeOf, typeInfo, hi, hs]
    rw [← hv]
  simp only [OpY, bareOp, execOp, hx]
  simp only [Sem.run_bind, hr, Result.andThen_ok, Sem.run_pure, upon]
  exact h

/-! ## min, max -/
def imax (x y : Int) : Int := if y > x then y else x
def imin (x y : Int) : Int := if y < x then y else x
theorem OpY.max {a b : Operand} {ats : Array TypeId} {k k' : IntKind} {x y : Int} (hx : ρ a = .int k x) (hy : ρ b = .int k' y) (h : R (.int k (imax x y)) w) : OpY P (.call { callee := .builtin .max, args := #[a, b], argTypes := ats }) ty ρ w R := by
  simp only [OpY, bareOp, execOp, resolve, invoke, builtin]
  simp [hx, hy, Builtin.max_, Builtin.max2, upon]
  exact h
theorem OpY.min {a b : Operand} {ats : Array TypeId} {k k' : IntKind} {x y : Int} (hx : ρ a = .int k x) (hy : ρ b = .int k' y) (h : R (.int k (imin x y)) w) : OpY P (.call { callee := .builtin .min, args := #[a, b], argTypes := ats }) ty ρ w R := by
  simp only [OpY, bareOp, execOp, resolve, invoke, builtin]
  simp [hx, hy, Builtin.min_, Builtin.min2, upon]
  exact h
theorem OpY.eqlNilRow {t u el : TypeId} {a b : Operand} {ob : Option Nat} {o n cap : Nat} (hu : P.underlying t = some (.slice el)) (ha : ρ a = osv ob o n cap) (hb : ρ b = .slice none 0 0) (h : R (.bool ob.isNone) w) : OpY P (.binOp .eql t a b u) ty ρ w R := by
  refine OpY.eqlNil hu ha (by cases ob <;> exact ⟨_, _, _, rfl⟩) hb ?_
  cases ob <;> exact h
end

/-! ## Results -/
theorem res_box1 {P : Program} {w : World} {t : TypeId} {d : TypeDesc} {b : Nat} {cs : List Value} {v : Value} (hd : P.underlying t = some d) (hg : aggD d = false) (hc : OwnC w (some b) (.cells cs)) (hv : cs[0]? = some v) : (loadVar t ⟨b, 0, none⟩).run P w = .ok v w :=
  run_loadVar_one hd hg (cell_own hc hv)
theorem res_boxA {P : Program} {w : World} {t : TypeId} {d : TypeDesc} {b sz by' : Nat} {z : Value} {cs : List Value} (hd : P.underlying t = some d) (hg : aggD d = true) (ti : TI P t sz by' z) (hc : OwnC w (some b) (.cells cs)) (hl : cs.length = sz) : (loadVar t ⟨b, 0, none⟩).run P w = .ok (.agg cs.toArray) w :=
  run_loadVar_agg hd hg ti hl (own_cells hc rfl)
end Go.X

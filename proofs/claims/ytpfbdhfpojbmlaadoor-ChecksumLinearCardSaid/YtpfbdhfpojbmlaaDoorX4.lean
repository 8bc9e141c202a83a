/-
  Operations on memory: what they hand on, and what becomes of what a function owns. Plain theorems over any program.
-/
import Derived.Test.YtpfbdhfpojbmlaaDoorX3
import Derived.Laws.AppendOwn
import Derived.Laws.MakeOwn
set_option linter.unusedSimpArgs false
set_option linter.unusedVariables false
namespace Go.X
open Go Go.RowKit

/-! ## Facts on types -/
/-- size in cells, size in bytes, zero value -/
def TI (P : Program) (t : TypeId) (sz by' : Nat) (z : Value) : Prop := ∃ i, P.info? t = some i ∧ i.size = sz ∧ i.bytes = by' ∧ i.zero = some z
theorem TI.mk {P : Program} {t : TypeId} {sz b : Nat} {z : Value} (h : (P.info? t).map (fun i => (i.zero, i.size, i.bytes)) = some (some z, sz, b)) : TI P t sz b z := by
  cases hi : P.info? t with
  | none => rw [hi] at h; simp at h
  | some i => rw [hi] at h; simp at h; exact ⟨i, hi ▸ rfl, h.2.1, h.2.2, h.1⟩
def aggD : TypeDesc → Bool
  | .struct _ | .array _ _ => true
  | _ => false
def Enters (P : Program) (f : FuncId) : Prop := ∃ fn, P.funcs[f]? = some fn ∧ (fn.name == "runtime.NumGoroutine") = false ∧ fn.body.isNone = false
def one (v : Value) : Bool := v.oneCell'
def ones : List Value → Bool
  | [] => true
  | v :: r => one v && ones r
theorem ones_spec {l : List Value} (h : ones l = true) : ∀ v ∈ l, v.oneCell' = true := by
  induction l with
  | nil => intro v hv; cases hv
  | cons x r ih =>
    simp only [ones, Bool.and_eq_true] at h
    intro v hv
    cases hv with
    | head => exact h.1
    | tail _ hm => exact ih h.2 v hm

theorem add_plain (b o n : Nat) : (⟨b, o, none⟩ : Addr).add n = ⟨b, o + n, none⟩ := by
  unfold Addr.add; split
  · subst_vars; rfl
  · rfl

/-- A segment of cells is written. -/
def putAt (cs : List Value) (o : Nat) : List Value → List Value
  | [] => cs
  | v :: r => putAt (cs.set o v) (o + 1) r
theorem length_putAt : ∀ (vs cs : List Value) (o : Nat), (putAt cs o vs).length = cs.length
  | [], _, _ => rfl
  | v :: r, cs, o => by simp [putAt, length_putAt r]
theorem get_putAt : ∀ (vs cs : List Value) (o i : Nat), o + vs.length ≤ cs.length → (putAt cs o vs)[i]? = if o ≤ i ∧ i < o + vs.length then vs[i - o]? else cs[i]?
  | [], cs, o, i, _ => by simp [putAt]; intro h1 h2; omega
  | v :: r, cs, o, i, h => by
    simp only [putAt, List.length_cons] at h ⊢
    rw [get_putAt r _ _ _ (by simp; omega)]
    by_cases h1 : i = o
    · subst h1
      rw [if_neg (by omega), if_pos (by omega), Nat.sub_self, List.getElem?_cons_zero, List.getElem?_set_self (by omega)]
    · by_cases h2 : o + 1 ≤ i ∧ i < o + 1 + r.length
      · rw [if_pos h2, if_pos (by omega), show i - o = (i - (o + 1)) + 1 by omega, List.getElem?_cons_succ]
      · rw [if_neg h2, if_neg (by omega), List.getElem?_set_ne (Ne.symm h1)]
theorem putAt_eq (vs cs : List Value) (o : Nat) (h : o + vs.length ≤ cs.length) : putAt cs o vs = cs.take o ++ vs ++ cs.drop (o + vs.length) := by
  apply List.ext_getElem?
  intro i
  rw [get_putAt _ _ _ _ h]
  by_cases h1 : i < o
  · rw [if_neg (by omega), List.append_assoc, List.getElem?_append_left (by simp; omega), List.getElem?_take, if_pos h1]
  · by_cases h2 : i < o + vs.length
    · rw [if_pos (by omega), List.append_assoc, List.getElem?_append_right (by simp; omega), List.getElem?_append_left (by simp; omega)]
      congr 1; simp; omega
    · rw [if_neg (by omega), List.getElem?_append_right (by simp; omega), List.getElem?_drop]
      congr 1; simp; omega
theorem putAt_append (xs sp vs : List Value) (h : vs.length ≤ sp.length) : putAt (xs ++ sp) xs.length vs = (xs ++ vs) ++ sp.drop vs.length := by
  rw [putAt_eq _ _ _ (by simp; omega)]; simp

section
variable {P : Program}

theorem run_store_own {w : World} {b o : Nat} {cs : List Value} {t : TypeId} {lo hi : Nat} (v : Value) (hb : w.heap[b]? = some (.cells cs.toArray t (lo, hi))) (hf : ∀ i, i < cs.length → ¬ (lo ≤ i ∧ i < hi)) (ho : o < cs.length) (h1 : v.oneCell' = true) (m : Go.Mode) :
    (store ⟨b, o, none⟩ v m).run P w = .ok () (w.setCell ⟨b, o, none⟩ v) := by
  have hc : w.cell? ⟨b, o, none⟩ = some cs[o] := by simp [World.cell?, hb, ho]
  have hz : w.frozen? ⟨b, o, none⟩ = false := by
    have := hf o ho
    simp [World.frozen?, hb]; omega
  rw [run_store P w _ v m h1]
  simp [hc, hz]

theorem run_storeCells_own {b : Nat} {t : TypeId} {lo hi : Nat} : ∀ (vs : List Value) (i o : Nat) (cs : List Value) (w : World), w.heap[b]? = some (.cells cs.toArray t (lo, hi)) → (∀ i, i < cs.length → ¬ (lo ≤ i ∧ i < hi)) →
    o + i + vs.length ≤ cs.length → (∀ v ∈ vs, v.oneCell' = true) →
    ∃ w', (storeCells ⟨b, o, none⟩ vs i).run P w = .ok () w' ∧ w'.heap[b]? = some (.cells (putAt cs (o + i) vs).toArray t (lo, hi)) ∧ (∀ k, k ≠ b → w'.heap[k]? = w.heap[k]?) ∧
      w'.heap.size = w.heap.size ∧ w'.os = w.os ∧ w'.tape = w.tape ∧ w'.output = w.output
  | [], i, o, cs, w, hb, _, _, _ => ⟨w, by simp [storeCells], hb, fun _ _ => rfl, rfl, rfl, rfl, rfl⟩
  | v :: r, i, o, cs, w, hb, hf, hl, h1 => by
    have hst := run_store_own (P := P) (o := o + i) v hb hf (by simp at hl; omega) (h1 v List.mem_cons_self) .plain
    have hb' : (w.setCell ⟨b, o + i, none⟩ v).heap[b]? = some (.cells (cs.set (o + i) v).toArray t (lo, hi)) := by
      rw [heap_setCell_same hb]; simp
    obtain ⟨w', g1, g2, g3, g4, g5, g6, g7⟩ := run_storeCells_own r (i + 1) o (cs.set (o + i) v) (w.setCell ⟨b, o + i, none⟩ v) hb' (fun j hj => hf j (by simpa using hj)) (by simp at hl ⊢; omega) (fun x hx => h1 x (List.mem_cons_of_mem _ hx))
    refine ⟨w', ?_, g2, fun k hk => (g3 k hk).trans (Below.heap_setCell _ _ _ _ hk), by rw [g4]; simp [World.setCell], g5, g6, g7⟩
    simp only [storeCells, add_plain, Sem.run_bind, hst, Result.andThen_ok]
    exact g1

theorem run_isAgg {w : World} {t : TypeId} {d : TypeDesc} (hd : P.underlying t = some d) : (isAgg t).run P w = .ok (aggD d) w := by
  unfold isAgg; simp [run_underlying hd]; cases d <;> rfl
theorem run_loadVar_one {w : World} {t : TypeId} {d : TypeDesc} {a : Addr} {v : Value} (hd : P.underlying t = some d) (hg : aggD d = false) (hc : w.cell? a = some v) : (loadVar t a).run P w = .ok v w := by
  unfold loadVar
  simp only [Sem.run_bind, run_isAgg hd, Result.andThen_ok, hg]
  simp [hc]
theorem run_loadVar_agg {w : World} {t : TypeId} {d : TypeDesc} {a : Addr} {vs : List Value} {sz by' : Nat} {z : Value} (hd : P.underlying t = some d) (hg : aggD d = true) (ti : TI P t sz by' z) (hl : vs.length = sz)
    (hc : ∀ j v, vs[j]? = some v → w.cell? (a.add j) = some v) : (loadVar t a).run P w = .ok (.agg vs.toArray) w := by
  obtain ⟨i, hi, hs, _, _⟩ := ti
  have := run_loadCells_list (P := P) w a vs hc
  unfold loadVar
  simp only [Sem.run_bind, run_isAgg hd, Result.andThen_ok, hg]
  simp [sizeOf, typeInfo, hi, hs, ← hl, this]
end

section
variable {P : Program} {ty : TypeId} {ρ : Operand → Value} {w : World} {R : Value → World → Prop} {X B : List (Option Nat)} {w0 : World} {O : List (Option Nat)} {C : List Cont}

/-! ## New blocks -/
theorem ownC_alloc (w : World) (cs : Array Value) (t : TypeId) : OwnC (w.alloc (.cells cs t)) (some w.heap.size) (.cells cs.toList) := by
  refine ⟨t, 0, 0, ?_, Nat.le_refl _, fun i _ h => by omega⟩
  show (w.heap.push _)[w.heap.size]? = _
  simp
theorem OpY.box {t : TypeId} {x : Operand} {v : Value} {cs : List Value} (hx : ρ x = v) (hv : v.cells = cs.toArray) (hL : Loc X B w0 w O C)
    (h : ∀ b w', Loc X B w0 w' (some b :: O) (.cells cs :: C) → Step O (some b :: O) w w' → R (.pointer (some ⟨b, 0, none⟩)) w') : OpY P (.box t x) ty ρ w R := by
  have ha := hL.alloc (o := .cells cs.toArray t) (c := .cells cs) (by simpa using ownC_alloc w cs.toArray t)
  simp only [OpY, bareOp, execOp, hx]
  simp [Instr.box, newVar, newRow, hv, upon]
  exact h _ _ ha.1 ha.2
theorem OpY.alloc {t : TypeId} {sz by' : Nat} {z : Value} {cs : List Value} (ti : TI P t sz by' z) (hv : z.cells = cs.toArray) (hL : Loc X B w0 w O C)
    (h : ∀ b w', Loc X B w0 w' (some b :: O) (.cells cs :: C) → Step O (some b :: O) w w' → R (.pointer (some ⟨b, 0, none⟩)) w') : OpY P (.alloc t) ty ρ w R := by
  obtain ⟨i, hi, _, _, hz⟩ := ti
  have ha := hL.alloc (o := .cells cs.toArray t) (c := .cells cs) (by simpa using ownC_alloc w cs.toArray t)
  simp only [OpY, bareOp, execOp]
  simp [Instr.alloc, zeroValue, typeInfo, hi, hz, newVar, newRow, hv, upon]
  exact h _ _ ha.1 ha.2

/-! ## Loads -/
theorem cell_own {w : World} {b o : Nat} {cs : List Value} {v : Value} (h : OwnC w (some b) (.cells cs)) (hv : cs[o]? = some v) : w.cell? ⟨b, o, none⟩ = some v := by
  obtain ⟨t, lo, hi, h1, _⟩ := h
  simp [World.cell?, h1, hv]
theorem OpY.load_own {t : TypeId} {x : Operand} {d : TypeDesc} {b o : Nat} {cs : List Value} {v : Value} (hd : P.underlying t = some d) (hg : aggD d = false) (hx : ρ x = .pointer (some ⟨b, o, none⟩)) (hL : Loc X B w0 w O C) (i : Nat)
    (hO : O[i]? = some (some b)) (hC : C[i]? = some (.cells cs)) (hv : cs[o]? = some v) (h : R v w) : OpY P (.load t x) ty ρ w R := by
  have := run_loadVar_one (P := P) hd hg (cell_own (hL.at i hO hC) hv)
  simp only [OpY, bareOp, execOp, hx]
  simp [Instr.loadAt, Instr.sureAddr, this, upon]
  exact h
theorem OpY.load_own_agg {t : TypeId} {x : Operand} {d : TypeDesc} {b o : Nat} {cs vs : List Value} {sz by' : Nat} {z : Value} (hd : P.underlying t = some d) (hg : aggD d = true) (ti : TI P t sz by' z) (hx : ρ x = .pointer (some ⟨b, o, none⟩)) (hL : Loc X B w0 w O C) (i : Nat)
    (hO : O[i]? = some (some b)) (hC : C[i]? = some (.cells cs)) (hl : vs.length = sz) (hv : (cs.drop o).take vs.length = vs) (h : R (.agg vs.toArray) w) : OpY P (.load t x) ty ρ w R := by
  have hc : ∀ j v, vs[j]? = some v → w.cell? ((⟨b, o, none⟩ : Addr).add j) = some v := by
    intro j v hj
    rw [add_plain]
    refine cell_own (hL.at i hO hC) ?_
    rw [← hj]; conv => rhs; rw [← hv]
    rw [List.getElem?_take, List.getElem?_drop, if_pos]
    rcases Nat.lt_or_ge j vs.length with h | h
    · exact h
    · rw [List.getElem?_eq_none h] at hj; cases hj
  have := run_loadVar_agg (P := P) hd hg ti hl hc
  simp only [OpY, bareOp, execOp, hx]
  simp [Instr.loadAt, Instr.sureAddr, this, upon]
  exact h
theorem OpY.load_at {t : TypeId} {x : Operand} {d : TypeDesc} {A : List (Option Nat)} {b o : Nat} {v : Value} (hd : P.underlying t = some d) (hg : aggD d = false) (hx : ρ x = .pointer (some ⟨b, o, none⟩)) (hc : cellH (view A w) b o = some v) (h : R v w) : OpY P (.load t x) ty ρ w R := by
  have := run_loadVar_one (P := P) hd hg (cellH_view hc)
  simp only [OpY, bareOp, execOp, hx]
  simp [Instr.loadAt, Instr.sureAddr, this, upon]
  exact h
theorem OpY.load_at_agg {t : TypeId} {x : Operand} {d : TypeDesc} {A : List (Option Nat)} {b o : Nat} {vs : List Value} {sz by' : Nat} {z : Value} (hd : P.underlying t = some d) (hg : aggD d = true) (ti : TI P t sz by' z) (hx : ρ x = .pointer (some ⟨b, o, none⟩)) (hl : vs.length = sz) (hc : At (view A w) b o vs) (h : R (.agg vs.toArray) w) : OpY P (.load t x) ty ρ w R := by
  have hc' : ∀ j v, vs[j]? = some v → w.cell? ((⟨b, o, none⟩ : Addr).add j) = some v := by
    intro j v hj
    rw [add_plain]
    exact cellH_view (hc.get j hj)
  have := run_loadVar_agg (P := P) hd hg ti hl hc'
  simp only [OpY, bareOp, execOp, hx]
  simp [Instr.loadAt, Instr.sureAddr, this, upon]
  exact h

/-! ## Stores -/
theorem OpY.store {t : TypeId} {x y : Operand} {b o : Nat} {cs vs : List Value} {v : Value} {sz by' : Nat} {z : Value} (ti : TI P t sz by' z) (hx : ρ x = .pointer (some ⟨b, o, none⟩)) (hy : ρ y = v) (hv : v.cells = vs.toArray) (hl : vs.length = sz) (h1 : ones vs = true)
    (hL : Loc X B w0 w O C) (i : Nat) (hO : O[i]? = some (some b)) (hC : C[i]? = some (.cells cs)) (hin : o + vs.length ≤ cs.length)
    (h : ∀ w', Loc X B w0 w' O (C.set i (.cells (putAt cs o vs))) → Step O O w w' → R undef w') : OpY P (.store t x y) ty ρ w R := by
  obtain ⟨inf, hi, hs, _, _⟩ := ti
  obtain ⟨tt, lo, hh, g1, g0, g2⟩ := hL.at i hO hC
  obtain ⟨w', r1, r2, r3, r4, r5, r6, r7⟩ := run_storeCells_own (P := P) vs 0 o cs w g1 g2 (by simpa using hin) (ones_spec h1)
  have hp := hL.put (w' := w') i hO (c' := .cells (putAt cs o vs)) ⟨tt, lo, hh, r2, g0, fun j hj => g2 j (by simpa [length_putAt] using hj)⟩ r3 r4 r5 r6 r7
  have hr : (Instr.storeAt t (.pointer (some ⟨b, o, none⟩)) v).run P w = .ok () w' := by
    simp [Instr.storeAt, Instr.sureAddr, storeVar, hv, sizeOf, typeInfo, hi, hs, hl, r1]
  simp only [OpY, bareOp, execOp, hx, hy]
  simp [hr, upon]
  exact h w' hp.1 hp.2

/-! ## Addresses -/
theorem OpY.fieldAddr {s : TypeId} {x : Operand} {fs : Array Field} {f : Field} {i b o q : Nat} {sz by' : Nat} {z : Value} (hs : P.underlying s = some (.struct fs)) (hf : fs[i]? = some f) (ti : TI P f.type sz by' z) (hsz : (sz == 0) = false)
    (hx : ρ x = .pointer (some ⟨b, o, none⟩)) (hq : o + f.offset = q) (h : R (.pointer (some ⟨b, q, none⟩)) w) : OpY P (.fieldAddr s x i) ty ρ w R := by
  obtain ⟨inf, hi, hz, _, _⟩ := ti
  have hn : ¬ sz = 0 := by simpa using hsz
  subst hq
  simp only [OpY, bareOp, execOp, hx]
  simp [Instr.fieldAt, run_underlying hs, hf, Instr.sureAddr, fieldPlace, sizeOf, typeInfo, hi, hz, hn, upon, add_plain]
  exact h
theorem OpY.indexAddr {t el : TypeId} {x y : Operand} {b o n cap i q : Nat} {k : IntKind} {sz by' : Nat} {z : Value} (hu : P.underlying t = some (.slice el)) (ti : TI P el sz by' z) (hx : ρ x = .slice (some ⟨b, o, none⟩) n cap) (hy : ρ y = .int k (i : Nat)) (hlt : i < n) (hq : o + i * sz = q)
    (h : R (.pointer (some ⟨b, q, none⟩)) w) : OpY P (.indexAddr t x y) ty ρ w R := by
  obtain ⟨inf, hi, hz, _, _⟩ := ti
  subst hq
  have h2 : (i : Int) < n := by omega
  simp only [OpY, bareOp, execOp, hx, hy]
  simp [Instr.indexAt, run_underlying hu, asIntOf, h2, hlt, sizeOf, typeInfo, hi, hz, upon, add_plain]
  exact h
theorem OpY.indexAddr_sl {α : Type} {t el : TypeId} {x y : Operand} {i : Nat} {k : IntKind} {sz by' : Nat} {z v : Value} {Rr : Hp → List Value → α → Prop} {A : List (Option Nat)} {xs : List α} (hu : P.underlying t = some (.slice el)) (ti : TI P el sz by' z)
    (hx : ρ x = v) (hS : Sl sz Rr (view A w) v xs) (hy : ρ y = .int k (i : Nat)) (hlt : i < xs.length)
    (h : ∀ b o vs, vs.length = sz → At (view A w) b o vs → Rr (view A w) vs xs[i] → R (.pointer (some ⟨b, o, none⟩)) w) : OpY P (.indexAddr t x y) ty ρ w R := by
  rcases hS with ⟨_, h2⟩ | ⟨b, o, cap, hv, hc, hxs⟩
  · subst h2; simp at hlt
  · obtain ⟨vs, g1, g2, g3⟩ := hxs i xs[i] (List.getElem?_eq_getElem hlt)
    exact OpY.indexAddr hu ti (hx.trans hv) hy hlt rfl (h _ _ vs g1 g2 g3)

/-! ## Lengths -/
theorem OpY.len_slice {x : Operand} {t el : TypeId} {a : Option Addr} {n cap : Nat} (hu : P.underlying t = some (.slice el)) (hx : ρ x = .slice a n cap) (h : R (.int .i64 ((n : Nat) : Int)) w) :
    OpY P (.call { callee := .builtin .len, args := #[x], argTypes := #[t] }) ty ρ w R := by
  simp only [OpY, bareOp, execOp, resolve, invoke, builtin]
  simp [hx, Builtin.len_, run_underlying hu, upon, goInt]
  exact h
theorem OpY.len_sl {α : Type} {sz : Nat} {Rr : Hp → List Value → α → Prop} {H : Hp} {xs : List α} {x : Operand} {t el : TypeId} {v : Value} (hu : P.underlying t = some (.slice el)) (hx : ρ x = v) (hS : Sl sz Rr H v xs) (h : R (.int .i64 ((xs.length : Nat) : Int)) w) :
    OpY P (.call { callee := .builtin .len, args := #[x], argTypes := #[t] }) ty ρ w R := by
  rcases hS with ⟨h1, h2⟩ | ⟨b, o, cap, hv, _, _⟩
  · obtain ⟨oa, h1⟩ := h1; exact OpY.len_slice hu (hx.trans h1) (by rw [h2] at h; exact h)
  · exact OpY.len_slice hu (hx.trans hv) h
theorem OpY.len_str {x : Operand} {t : TypeId} {s : ByteArray} (hu : P.underlying t = some .string) (hx : ρ x = .string s) (h : R (.int .i64 ((s.size : Nat) : Int)) w) :
    OpY P (.call { callee := .builtin .len, args := #[x], argTypes := #[t] }) ty ρ w R := by
  simp only [OpY, bareOp, execOp, resolve, invoke, builtin]
  simp [hx, Builtin.len_, run_underlying hu, upon, goInt]
  exact h

/-! ## Calls -/
theorem run_callFunc {f : FuncId} (he : Enters P f) (args : Array Value) : (callFunc f args).run P w = .ok (.enter f args) w := by
  obtain ⟨fn, h1, h2, h3⟩ := he
  simp only [callFunc, Sem.run_bind, run_program, Result.andThen_ok, h1, h2, h3]
  simp
theorem OpY.call {f : FuncId} {args : List Operand} {ats : Array TypeId} {l : List Value} {Φ : Value → World → Prop} (he : Enters P f) (hf : ρ (.func f) = .func (.func f) #[] #[]) (ha : args.map ρ = l) (hc : Calls P f l.toArray w (Ret w Φ)) (h : ∀ v w', Ext w w' → Φ v w' → R v w') :
    OpY P (.call { callee := .value (.func f), args := args.toArray, argTypes := ats }) ty ρ w R := by
  have hr := run_callFunc (w := w) he l.toArray
  simp only [OpY, bareOp, execOp, resolve, hf]
  simp [Deferred.ofValue, invoke, ha, hr, upon]
  refine hc.mono ?_
  rintro e w' ⟨v, rfl, h1, h2⟩
  exact h v w' h1 h2
theorem OpY.callq {f : FuncId} {args : List Operand} {ats : Array TypeId} {l : List Value} {v : Value} (he : Enters P f) (hf : ρ (.func f) = .func (.func f) #[] #[]) (ha : args.map ρ = l) (hc : Calls P f l.toArray w (RetQ w v)) (h : R v w) :
    OpY P (.call { callee := .value (.func f), args := args.toArray, argTypes := ats }) ty ρ w R := by
  have hr := run_callFunc (w := w) he l.toArray
  simp only [OpY, bareOp, execOp, resolve, hf]
  simp [Deferred.ofValue, invoke, ha, hr, upon]
  refine hc.mono ?_
  rintro e w' ⟨rfl, rfl⟩
  exact h
/-- A call with whatever post. -/
theorem OpY.callg {f : FuncId} {args : List Operand} {ats : Array TypeId} {l : List Value} {T : Ending → World → Prop} (he : Enters P f) (hf : ρ (.func f) = .func (.func f) #[] #[]) (ha : args.map ρ = l) (hc : Calls P f l.toArray w T) (h : ∀ e w', T e w' → ∃ v, e = .returned v ∧ R v w') :
    OpY P (.call { callee := .value (.func f), args := args.toArray, argTypes := ats }) ty ρ w R := by
  have hr := run_callFunc (w := w) he l.toArray
  simp only [OpY, bareOp, execOp, resolve, hf]
  simp [Deferred.ofValue, invoke, ha, hr, upon]
  refine hc.mono ?_
  intro e w' ht
  obtain ⟨v, rfl, hv⟩ := h e w' ht
  exact hv
/-- A function value, called. -/
theorem OpY.callv {g : Operand} {f : FuncId} {fst cap : List Value} {args : List Operand} {ats : Array TypeId} {l : List Value} {T : Ending → World → Prop} (he : Enters P f) (hf : ρ g = .func (.func f) fst.toArray cap.toArray) (ha : fst ++ args.map ρ ++ cap = l) (hc : Calls P f l.toArray w T) (h : ∀ e w', T e w' → ∃ v, e = .returned v ∧ R v w') :
    OpY P (.call { callee := .value g, args := args.toArray, argTypes := ats }) ty ρ w R := by
  have hr := run_callFunc (w := w) he l.toArray
  subst ha
  simp only [OpY, bareOp, execOp, resolve, hf]
  simp [Deferred.ofValue, invoke, upon] at hr ⊢
  rw [hr]
  simp [upon]
  refine (by simpa using hc : Calls P f _ w T).mono ?_
  intro e w' ht
  obtain ⟨v, rfl, hv⟩ := h e w' ht
  exact hv
end
end Go.X

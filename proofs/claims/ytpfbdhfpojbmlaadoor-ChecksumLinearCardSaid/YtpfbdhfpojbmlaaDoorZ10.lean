/-
  More operations: a pointer that is looked at, strings of bytes, structs of two integers compared, rows whose head is cut off. Plain theorems over any program.
-/
import Derived.Test.YtpfbdhfpojbmlaaDoorZ7
import Derived.Laws.StructEq
import Derived.Laws.BytesString
set_option linter.unusedSimpArgs false
set_option linter.unusedVariables false
namespace Go.X
open Go Go.RowKit

def drp {α : Type} (xs : List α) (l : Int) : Option (List α) := if l < 0 ∨ (xs.length : Int) < l then none else some (xs.drop l.toNat)
theorem drp_some {α : Type} {xs ys : List α} {l : Int} (h : drp xs l = some ys) : ∃ n : Nat, l = (n : Int) ∧ n ≤ xs.length ∧ ys = xs.drop n := by
  unfold drp at h
  split at h
  · cases h
  · cases h; exact ⟨l.toNat, by omega, by omega, rfl⟩
theorem drp_eq {α : Type} {xs : List α} {l : Nat} (h : l ≤ xs.length) : drp xs (l : Int) = some (xs.drop l) := by
  unfold drp; rw [if_neg (by omega)]; simp
section
variable {P : Program} {ty : TypeId} {ρ : Operand → Value} {w w0 : World} {R : Value → World → Prop} {X : List (Option Nat)} {O : List (Option Nat)} {C : List Cont} {α : Type} {r : Rep α} {H : Hp}
theorem OpY.nilCheck {x : Operand} {b : Addr} (hx : ρ x = .pointer (some b)) (h : R (.pointer (some b)) w) : OpY P (.nilCheck x) ty ρ w R := by
  simp only [OpY, bareOp, execOp, hx]; simp [upon]; exact h

/-! ## Strings of bytes -/
def bstr (xs : List Int) : List UInt8 := xs.map fun n => UInt8.ofNat n.toNat
theorem foldl_push (ns : List Int) : ∀ b : ByteArray, ns.foldl (fun r n => r.push (UInt8.ofNat n.toNat)) b = b ++ s8 (bstr ns) := by
  induction ns with
  | nil => intro b; apply ByteArray.ext; simp [s8, bstr]
  | cons n ns ih =>
    intro b
    rw [List.foldl_cons, ih]
    apply ByteArray.ext
    simp [s8, bstr, ByteArray.push]
theorem Els.intCells {k : IntKind} : ∀ {cs : List Value} {xs : List Int}, Els (rInt k) H cs xs → cs = xs.map (Value.int k)
  | _, [], h => h
  | _, x :: xs, ⟨a, b, h1, h2, h3⟩ => by rw [h1, show a = [.int k x] from h2, h3.intCells]; rfl
theorem OpY.strSrc {t u e : TypeId} {x : Operand} {v : Value} {xs : List Int} {ds : List Value} (hs : P.underlying t = some (.slice e)) (hd : P.underlying u = some .string) (he : P.underlying e = some (.int .u8)) (hx : ρ x = v)
    (hsrc : Src w v xs.length 1 ds) (hD : Els (rInt .u8) H ds xs) (h : R (.string (s8 (bstr xs))) w) : OpY P (.convert t u x) ty ρ w R := by
  have key : (convert t u v).run P w = .ok (.string (s8 (bstr xs))) w := by
    obtain ⟨hnl, hsrc⟩ := hsrc
    have hds := hD.intCells
    rcases hsrc with ⟨⟨oa, rfl⟩, h0⟩ | ⟨b, o, cap, rfl, hcell⟩
    · rw [run_convert_bytes_string w t u e oa 0 0 hs he hd]
      have hx0 : xs = [] := List.eq_nil_of_length_eq_zero h0
      subst hx0
      cases oa with
      | none => rfl
      | some a =>
        have := run_bytesToString (P := P) w a 0 0 [] (by simp [loadCells, loadCellsFrom])
        rw [this, foldl_push]; congr 2
    · rw [run_convert_bytes_string w t u e _ _ _ hs he hd]
      have hl := run_loadCells_list (P := P) w ⟨b, o, none⟩ ds (fun j u hj => by rw [add_plain]; exact hcell j u hj)
      rw [hnl, Nat.mul_one] at hl
      have := run_bytesToString (P := P) w ⟨b, o, none⟩ xs.length cap xs (by rw [hl, hds])
      rw [this, foldl_push]; congr 2
  simp only [OpY, bareOp, execOp, hx]
  simp [key, upon]
  exact h
theorem OpY.strNil {t u e : TypeId} {x : Operand} (hs : P.underlying t = some (.slice e)) (hd : P.underlying u = some .string) (he : P.underlying e = some (.int .u8)) (hx : ρ x = .slice none 0 0)
    (h : R (.string (s8 [])) w) : OpY P (.convert t u x) ty ρ w R := OpY.strSrc (H := fun _ => none) (xs := []) (ds := []) hs hd he hx Src.nil rfl h
theorem OpY.strRo {S : Nat → Prop} {t u e : TypeId} {x : Operand} {v : Value} {xs : List Int} (hs : P.underlying t = some (.slice e)) (hd : P.underlying u = some .string) (he : P.underlying e = some (.int .u8)) (hx : ρ x = v)
    (hR : Rs (rInt .u8) (vw S w) v xs) (h : R (.string (s8 (bstr xs))) w) : OpY P (.convert t u x) ty ρ w R := by
  obtain ⟨cs, h1, h2⟩ := Rs.src hR
  exact OpY.strSrc hs hd he hx h1 h2 h
theorem OpY.strRow {t u e : TypeId} {x : Operand} {ob : Option Nat} {n cap : Nat} {pre cs sp : List Value} {xs : List Int} (hs : P.underlying t = some (.slice e)) (hd : P.underlying u = some .string) (he : P.underlying e = some (.int .u8)) (hx : ρ x = osv ob pre.length n cap)
    (hc : OwnC w ob (.cells (pre ++ (cs ++ sp)))) (hE : Els (rInt .u8) H cs xs) (hn : n = xs.length) (h : R (.string (s8 (bstr xs))) w) : OpY P (.convert t u x) ty ρ w R :=
  OpY.strSrc hs hd he hx (Src.row hc hE rfl rfl hn) hE h

/-! ## Structs of two integers, compared -/
def Eq2 (P : Program) (T : TypeId) : Prop := P.underlying T = some (.struct (P.fieldsOf T)) ∧ P.stoodInHeld T = false ∧ P.eqGuardType P.depth T = false ∧
  ∃ k0 k1, (P.fieldsOf T).toList.map (fun f => (f.name == "_", P.underlying f.type, f.offset)) = [(false, some (.int k0), 0), (false, some (.int k1), 1)]
theorem run_part2 {t : TypeId} {k : IntKind} {a b : Value} (hu : P.underlying t = some (.int k)) : (part t #[a, b] 0).run P w = .ok a w ∧ (part t #[a, b] 1).run P w = .ok b w := by
  constructor <;> simp [part, run_isAgg hu, aggD]
theorem run_eq2 {T : TypeId} (hT : Eq2 P T) {k0 k1 : IntKind} (a b c d : Int) : (Op.equalIn 10000 T (.agg #[.int k0 a, .int k1 b]) (.agg #[.int k0 c, .int k1 d])).run P w = .ok (decide (a = c ∧ b = d)) w := by
  obtain ⟨h1, h2, h3, q0, q1, h4⟩ := hT
  rw [show (10000 : Nat) = 9999 + 1 from rfl, run_equalIn_struct w 9999 T _ _ h1 h2]
  generalize (P.fieldsOf T).toList = fs at h4
  obtain ⟨f, fs, rfl⟩ : ∃ f r, fs = f :: r := by cases fs with | nil => cases h4 | cons f r => exact ⟨f, r, rfl⟩
  rw [List.map_cons] at h4
  injection h4 with hf h4
  obtain ⟨g, fs, rfl⟩ : ∃ f r, fs = f :: r := by cases fs with | nil => cases h4 | cons f r => exact ⟨f, r, rfl⟩
  rw [List.map_cons] at h4
  injection h4 with hg h4
  have h5 : fs = [] := List.map_eq_nil_iff.1 h4
  subst h5
  simp only [Prod.mk.injEq] at hf hg
  obtain ⟨n0, u0, o0⟩ := hf
  obtain ⟨n1, u1, o1⟩ := hg
  have n0' : f.name ≠ "_" := by simpa using n0
  have n1' : g.name ≠ "_" := by simpa using n1
  have e1 := fun w => (run_part2 (w := w) (P := P) (a := Value.int k0 a) (b := Value.int k1 b) u0).1
  have e2 := fun w => (run_part2 (w := w) (P := P) (a := Value.int k0 c) (b := Value.int k1 d) u0).1
  have e3 := fun w => (run_part2 (w := w) (P := P) (a := Value.int k0 a) (b := Value.int k1 b) u1).2
  have e4 := fun w => (run_part2 (w := w) (P := P) (a := Value.int k0 c) (b := Value.int k1 d) u1).2
  have i0 := fun w (a c : Int) => run_equalIn_int (P := P) w 9998 f.type k0 q0 a c u0
  have i1 := fun w (a c : Int) => run_equalIn_int (P := P) w 9998 g.type k1 q1 a c u1
  simp only [Op.eqFields, n0', n1', o0, o1, ne_eq, not_false_eq_true, if_true, Sem.run_bind, e1, e2, e3, e4, Result.andThen_ok]
  rw [show (9999 : Nat) = 9998 + 1 from rfl]
  simp only [i0, Result.andThen_ok]
  by_cases ha : a = c
  · subst ha
    simp only [BEq.rfl, Bool.not_true, Bool.false_eq_true, if_false, Sem.run_bind, e3, e4, i1, Result.andThen_ok, true_and]
    by_cases hb : b = d <;> simp [hb]
  · simp [ha]
theorem OpY.eql2 {t u : TypeId} {x y : Operand} {k0 k1 : IntKind} {a b c d : Int} (hT : Eq2 P t) (hx : ρ x = .agg #[.int k0 a, .int k1 b]) (hy : ρ y = .agg #[.int k0 c, .int k1 d]) (h : R (.bool (decide (a = c ∧ b = d))) w) : OpY P (.binOp .eql t x y u) ty ρ w R := by
  have hg := run_eqGuard_agg (P := P) w .eql t x y #[.int k0 a, .int k1 b] #[.int k0 c, .int k1 d] hT.2.2.1
  have hr := run_eql_struct (P := P) w t #[.int k0 a, .int k1 b] #[.int k0 c, .int k1 d]
  rw [run_eq2 hT] at hr
  simp only [OpY, bareOp, execOp, hx, hy]
  simp [hg, hr, upon]
  simpa using h
theorem OpY.neq2 {t u : TypeId} {x y : Operand} {k0 k1 : IntKind} {a b c d : Int} (hT : Eq2 P t) (hx : ρ x = .agg #[.int k0 a, .int k1 b]) (hy : ρ y = .agg #[.int k0 c, .int k1 d]) (h : R (.bool (decide (¬ (a = c ∧ b = d)))) w) : OpY P (.binOp .neq t x y u) ty ρ w R := by
  have hg := run_eqGuard_agg (P := P) w .neq t x y #[.int k0 a, .int k1 b] #[.int k0 c, .int k1 d] hT.2.2.1
  have hr := run_neq_struct (P := P) w t #[.int k0 a, .int k1 b] #[.int k0 c, .int k1 d]
  rw [run_eq2 hT] at hr
  rw [decide_not] at h
  simp only [OpY, bareOp, execOp, hx, hy]
  simp [hg, hr, upon]
  simpa using h

/-! ## Rows whose head is cut off -/
/-- what 's[l:]' of a row of one's own is: the row from an offset on, or an empty slice without room -/
def Fv (v : Value) (ob : Option Nat) (o n cap : Nat) : Prop := v = osv ob o n cap ∨ (n = 0 ∧ cap = 0 ∧ ∃ a, v = .slice a 0 0)
theorem Fv.of {ob : Option Nat} {n cap : Nat} : Fv (osv ob 0 n cap) ob ([] : List Value).length n cap := .inl rfl
theorem Fv.one {v : Value} {ob : Option Nat} {o n cap : Nat} (h : Fv v ob o n cap) : Go.X.one v = true := by
  rcases h with h | ⟨_, _, a, h⟩
  · rw [h]; exact osv_one _ _ _ _
  · rw [h]; rfl
theorem row_none {pre cs sp : List Value} {xs : List α} (h0 : OwnC w none (.cells (pre ++ (cs ++ sp)))) (hE : Els r H cs xs) (hz : (r.sz == 0) = false) : pre = [] ∧ cs = [] ∧ sp = [] ∧ xs = [] := by
  have h0 : pre ++ (cs ++ sp) = [] := h0
  obtain ⟨h1, h2⟩ := List.append_eq_nil_iff.1 h0
  obtain ⟨h2, h3⟩ := List.append_eq_nil_iff.1 h2
  have := hE.length
  rw [h2] at this
  have hsz : r.sz ≠ 0 := by simpa using hz
  have hx : xs.length = 0 := by
    rcases Nat.mul_eq_zero.1 (show xs.length * r.sz = 0 by simpa using this.symm) with h | h
    · exact h
    · exact absurd h hsz
  exact ⟨h1, h2, h3, List.eq_nil_of_length_eq_zero hx⟩
theorem OpY.lenQ {x : Operand} {t el : TypeId} {o n cap : Nat} {v : Value} {ob : Option Nat} {pre cs sp : List Value} {xs : List α} (hu : P.underlying t = some (.slice el)) (hx : ρ x = v) (hv : Fv v ob o n cap) (hc : OwnC w ob (.cells (pre ++ (cs ++ sp)))) (hE : Els r H cs xs) (hz : (r.sz == 0) = false) (hn : n = xs.length)
    (h : R (.int .i64 (xs.length : Int)) w) : OpY P (.call { callee := .builtin .len, args := #[x], argTypes := #[t] }) ty ρ w R := by
  rcases hv with hv | ⟨h1, _, a, hv⟩
  · subst hn
    cases ob with
    | none =>
      obtain ⟨_, _, _, hx0⟩ := row_none hc hE hz
      refine OpY.len_slice hu (hx.trans hv) ?_
      rw [hx0] at h; exact h
    | some b => exact OpY.len_slice hu (hx.trans hv) h
  · refine OpY.len_slice hu (hx.trans hv) ?_
    rw [← hn, h1] at h; exact h
theorem OpY.ixQ {t el : TypeId} {x y : Operand} {b m cap q : Nat} {i : Int} {n : Nat} {k : IntKind} {by' : Nat} {z v : Value} {ob : Option Nat} {pre : List Value} {xs : List α} (hu : P.underlying t = some (.slice el)) (ti : TI P el r.sz by' z)
    (hx : ρ x = v) (hv : Fv v ob pre.length m cap) (hob : ob = some b) (hm : m = xs.length) (hy : ρ y = .int k i) (hi : i = (n : Int)) (hn : n < xs.length) (hq : q = pre.length + n * r.sz)
    (h : R (.pointer (some ⟨b, q, none⟩)) w) : OpY P (.indexAddr t x y) ty ρ w R := by
  rcases hv with hv | ⟨h1, _, _⟩
  · subst hob
    exact OpY.ixRowD hu ti (hx.trans hv) hm hy hi hn hq h
  · omega
/-- 'append(s, x..)' -/
theorem OpY.apQ {t el : TypeId} {a c : Operand} {by' n cap i : Nat} {z v x : Value} {ob : Option Nat} {pre cs sp ds : List Value} {xs ys Y : List α} (hu : P.underlying t = some (.slice el)) (ti : TI P el r.sz by' z) (hzc : z.cells.size = r.sz) (hz : (r.sz == 0) = false)
    (ha : ρ a = v) (hv : Fv v ob pre.length n cap) (hc : ρ c = x) (hL : Loc X [] w0 w O C) (hO : O[i]? = some ob) (hC : C[i]? = some (.cells (pre ++ (cs ++ sp)))) (hE : Els r H cs xs) (hn : n = xs.length) (hcap : (cs ++ sp).length = cap * r.sz) (hsrc : Src w x ys.length r.sz ds) (hD : Els r H ds ys) (hpos : 0 < ys.length)
    (h63 : xs.length + ys.length ≤ 9223372036854775807) (hb : (xs.length + ys.length) * by' ≤ 140737488355328) (hY : Y = xs ++ ys)
    (h : ∀ v' ob' pre' cap' sp' ds' w', Fv v' ob' pre'.length Y.length cap' → Els r H ds' Y → (ds' ++ sp').length = cap' * r.sz → Loc X [] w0 w' (O.set i ob') (C.set i (.cells (pre' ++ (ds' ++ sp')))) → Step O (O.set i ob') w w' → R v' w') :
    OpY P (.call { callee := .builtin .append, args := #[a, c], argTypes := #[t, t] }) ty ρ w R := by
  obtain ⟨inf, hi, hs, hby, hzz⟩ := ti
  subst hby; subst hY; subst hn
  have hsz : 0 < r.sz := by have : ¬ r.sz = 0 := by simpa using hz
                            omega
  have hi' : i < O.length := by
    rcases Nat.lt_or_ge i O.length with h | h
    · exact h
    · rw [List.getElem?_eq_none h] at hO; cases hO
  have hOself : O.set i ob = O := by
    apply List.ext_getElem?; intro j
    by_cases hj : j = i
    · subst hj; rw [List.getElem?_set_self hi', hO]
    · rw [List.getElem?_set_ne (Ne.symm hj)]
  obtain ⟨hnl, hsrc⟩ := hsrc
  obtain ⟨b2, o2, c2, rfl, hcell⟩ : ∃ b o cap, x = .slice (some ⟨b, o, none⟩) ys.length cap ∧ ∀ j u, ds[j]? = some u → w.cell? ⟨b, o + j, none⟩ = some u := by
    rcases hsrc with ⟨_, h⟩ | h
    · omega
    · exact h
  have hnews : ∀ j u, ds[j]? = some u → w.cell? ((⟨b2, o2, none⟩ : Addr).add j) = some u := fun j u hj => by rw [add_plain]; exact hcell j u hj
  have fin : ∀ (v' : Value) (w' : World), (Builtin.append_ #[t, t] ty #[v, .slice (some ⟨b2, o2, none⟩) ys.length c2]).run P w = .ok v' w' → R v' w' → OpY P (.call { callee := .builtin .append, args := #[a, c], argTypes := #[t, t] }) ty ρ w R := by
    intro v' w' hr hk
    simp only [OpY, bareOp, execOp, resolve, invoke, builtin]
    simp [ha, hc, hr, upon]
    exact hk
  have grown : ∀ old, old < xs.length + ys.length →
      (Builtin.append_ #[t, t] ty #[v, .slice (some ⟨b2, o2, none⟩) ys.length c2]).run P w = .ok (.slice (some ⟨w.heap.size, 0, none⟩) (xs.length + ys.length) (grownCap w (xs.length + ys.length) old el))
        (w.drew.alloc (.cells (cs.toArray ++ ds.toArray ++ Builtin.zeroCells z.cells (grownCap w (xs.length + ys.length) old el - (xs.length + ys.length))) el)) →
      OpY P (.call { callee := .builtin .append, args := #[a, c], argTypes := #[t, t] }) ty ρ w R := by
    intro old ho hr
    have hge := grownCap_ge w (xs.length + ys.length) old el
    have hsw := hL.swap (w' := w.drew.alloc (.cells (cs.toArray ++ ds.toArray ++ Builtin.zeroCells z.cells (grownCap w (xs.length + ys.length) old el - (xs.length + ys.length))) el)) i hi' (b := w.heap.size)
      (c' := .cells ([] ++ ((cs ++ ds) ++ (Builtin.zeroCells z.cells (grownCap w (xs.length + ys.length) old el - (xs.length + ys.length))).toList)))
      ⟨rfl, rfl, rfl, by simp, fun k hk => Below.heap_alloc w.drew _ k hk⟩ (Nat.le_refl _) (by
        have := ownC_alloc w.drew (cs.toArray ++ ds.toArray ++ Builtin.zeroCells z.cells (grownCap w (xs.length + ys.length) old el - (xs.length + ys.length))) el
        simpa using this)
    refine fin _ _ hr (h _ (some w.heap.size) [] (grownCap w (xs.length + ys.length) old el) (Builtin.zeroCells z.cells (grownCap w (xs.length + ys.length) old el - (xs.length + ys.length))).toList (cs ++ ds) _ (.inl (by simp [osv])) (hE.append hD)
      (by simp only [List.length_append, Array.length_toList, size_zeroCells, hzc, hE.length, hnl, ← Nat.add_mul]; congr 1; omega) hsw.1 hsw.2)
  have hfit : ∀ old, old < xs.length + ys.length → Builtin.nextslicecap (xs.length + ys.length) old * inf.bytes ≤ 281474976710656 := fun old ho => growslice_fits ho hb
  have nilcase : xs = [] → v = .slice none 0 0 → OpY P (.call { callee := .builtin .append, args := #[a, c], argTypes := #[t, t] }) ty ρ w R := by
    intro hx0 hv0
    have hcs0 : cs = [] := by have := hE.length; rw [hx0] at this; exact List.eq_nil_of_length_eq_zero (by simpa using this)
    refine grown 0 (by omega) ?_
    have hr := run_append_nil (P := P) w t ty el inf z hu hi hzz ⟨b2, o2, none⟩ ys.length c2 ds (by rw [hnl, hs]) hnews hpos (by omega) (by
      have : ys.length * inf.bytes ≤ 140737488355328 := Nat.le_trans (Nat.mul_le_mul_right _ (by omega)) hb
      omega)
    rw [hv0, hx0, hcs0]
    simpa using hr
  rcases hv with hv | ⟨h1, h2, ad, hv⟩
  · cases ob with
    | none =>
      obtain ⟨_, _, _, hx0⟩ := row_none (hL.at i hO hC) hE hz
      exact nilcase hx0 hv
    | some g =>
      obtain ⟨tt, lo, hh, g1, g0, g2⟩ := hL.at i hO hC
      by_cases hroom : xs.length + ys.length ≤ cap
      · have hfit2 : pre.length + xs.length * inf.size + ds.length ≤ (pre ++ (cs ++ sp)).length := by
          rw [List.length_append, hcap, hnl, hs, Nat.add_assoc, ← Nat.add_mul]
          exact Nat.add_le_add_left (Nat.mul_le_mul_right _ hroom) _
        obtain ⟨w', r1, r2, r3, r4, r5, r6, r7⟩ := run_storeCells_own (P := P) ds 0 (pre.length + xs.length * inf.size) (pre ++ (cs ++ sp)) w g1 g2 (by simpa using hfit2) (ones_spec hD.ones)
        have hput : putAt (pre ++ (cs ++ sp)) (pre.length + xs.length * inf.size) ds = pre ++ ((cs ++ ds) ++ sp.drop ds.length) := by
          have := putAt_append (pre ++ cs) sp ds (by
            have := hfit2; simp only [List.length_append, hE.length, hs] at this; omega)
          rw [List.length_append, hE.length, ← hs, List.append_assoc] at this
          rw [this]; simp
        have hp := hL.put (w' := w') i hO (c' := .cells (pre ++ ((cs ++ ds) ++ sp.drop ds.length))) ⟨tt, lo, hh, by rw [r2, Nat.add_zero, hput], g0, fun j hj => g2 j (by
          simp only [List.length_append, List.length_drop, hE.length, hs] at hj hfit2 ⊢; omega)⟩ r3 r4 r5 r6 r7
        have hf := run_firstCells_some (P := P) w inf.size ys.length ⟨b2, o2, none⟩ ys.length c2 ds (by rw [hnl, hs]) hnews
        refine fin (.slice (some ⟨g, pre.length, none⟩) (xs.length + ys.length) cap) w' ?_ (h _ (some g) pre cap (sp.drop ds.length) (cs ++ ds) w' (.inl (by simp [osv])) (hE.append hD) ?_ (by rw [hOself]; exact hp.1) (by rw [hOself]; exact hp.2))
        · rw [hv]
          simp only [osv]
          simp [Builtin.append_, run_underlying hu, sizeOf, typeInfo, hi, Builtin.lenOf, hroom, hf, add_plain, r1]
        · have := hfit2
          rw [List.length_append] at hcap
          simp only [List.length_append, List.length_drop, hE.length, hs] at this hcap ⊢; omega
      · refine grown cap (by omega) ?_
        have holds : ∀ j u, cs[j]? = some u → w.cell? ((⟨g, pre.length, none⟩ : Addr).add j) = some u := by
          intro j u hj
          rw [add_plain]
          refine cell_own (hL.at i hO hC) ?_
          have hlt := (List.getElem?_eq_some_iff.1 hj).1
          rw [List.getElem?_append_right (by omega), show pre.length + j - pre.length = j by omega, List.getElem?_append_left hlt, hj]
        rw [hv]
        exact run_append_grow (P := P) w t ty el inf z hu hi hzz ⟨g, pre.length, none⟩ xs.length cap cs (by rw [hE.length, hs]) holds ⟨b2, o2, none⟩ ys.length c2 ds (by rw [hnl, hs]) hnews (by omega) (by omega) (growslice_fits (by omega) hb)
  · have hx0 : xs = [] := List.eq_nil_of_length_eq_zero h1
    cases ad with
    | none => exact nilcase hx0 hv
    | some ad =>
      have hcs0 : cs = [] := by have := hE.length; rw [hx0] at this; exact List.eq_nil_of_length_eq_zero (by simpa using this)
      refine grown 0 (by omega) ?_
      have hr := run_append_grow (P := P) w t ty el inf z hu hi hzz ad 0 0 [] (by simp) (fun j u hj => by simp at hj) ⟨b2, o2, none⟩ ys.length c2 ds (by rw [hnl, hs]) hnews (by omega) (by omega) (by have := hfit 0 (by omega); rw [hx0] at this; simpa using this)
      rw [hv, hx0, hcs0]
      simpa using hr
/-- 's[l:]' -/
theorem OpY.cutQ {t el : TypeId} {x y : Operand} {by' n l cap : Nat} {k : IntKind} {i : Int} {z v : Value} {ob : Option Nat} {pre cs sp : List Value} {xs Y : List α} (hu : P.underlying t = some (.slice el)) (ti : TI P el r.sz by' z) (hz : (r.sz == 0) = false)
    (hx : ρ x = v) (hv : Fv v ob pre.length n cap) (hc : OwnC w ob (.cells (pre ++ (cs ++ sp)))) (hE : Els r H cs xs) (hn : n = xs.length) (hcap : (cs ++ sp).length = cap * r.sz) (hy : ρ y = .int k i) (hi : i = (l : Int)) (hl : l ≤ xs.length) (hY : Y = xs.drop l)
    (hk : ∀ v' pre' cs', pre' ++ (cs' ++ sp) = pre ++ (cs ++ sp) → Fv v' ob pre'.length Y.length (cap - l) → Els r H cs' Y → (cs' ++ sp).length = (cap - l) * r.sz → R v' w) : OpY P (.slice t x (some y) none none) ty ρ w R := by
  obtain ⟨inf, hi', hs, _, _⟩ := ti
  subst hi; subst hY; subst hn
  have hsz : 0 < r.sz := by have : ¬ r.sz = 0 := by simpa using hz
                            omega
  have hle : xs.length ≤ cap := row_cap hE hz hcap
  have hlc : l * r.sz ≤ cs.length := by rw [hE.length]; exact Nat.mul_le_mul_right _ hl
  have hE' : Els r H (cs.drop (l * r.sz)) (xs.drop l) := by
    have := hE.cut (m := l) (n := xs.length) hl (Nat.le_refl _)
    rw [List.take_of_length_le (by rw [hE.length]; exact Nat.le_refl _), List.take_of_length_le (Nat.le_refl _)] at this
    exact this
  have hparts : (pre ++ cs.take (l * r.sz)) ++ (cs.drop (l * r.sz) ++ sp) = pre ++ (cs ++ sp) := by
    rw [List.append_assoc, ← List.append_assoc (cs.take _), List.take_append_drop]
  have hcap' : (cs.drop (l * r.sz) ++ sp).length = (cap - l) * r.sz := by
    rw [List.length_append] at hcap ⊢
    rw [List.length_drop, Nat.sub_mul]; omega
  obtain ⟨ad, len, cp, hvv, hlen, hcp⟩ : ∃ ad len cp, v = .slice ad len cp ∧ len = xs.length ∧ (cp = cap) := by
    rcases hv with hv | ⟨h1, h2, a, hv⟩
    · cases ob with
      | none =>
        obtain ⟨_, h2, h3, h4⟩ := row_none hc hE hz
        refine ⟨none, 0, 0, hv, by rw [h4]; rfl, ?_⟩
        rw [h2, h3] at hcap
        rcases Nat.mul_eq_zero.1 (show cap * r.sz = 0 by simpa using hcap.symm) with h | h
        · exact h.symm
        · omega
      | some b => exact ⟨_, _, _, hv, rfl, rfl⟩
    · exact ⟨a, 0, 0, hv, h1.symm, h2.symm⟩
  subst hlen; subst hcp
  have hr := run_sliceAt (P := P) (w := w) hu hi' ad xs.length cp l xs.length (some (.int k ((l : Nat) : Int))) none (.inr ⟨k, rfl⟩) (.inl ⟨rfl, rfl⟩) hl hle
  have hF : Fv (.slice (if cp = l then ad else ad.map (·.add (l * inf.size))) (xs.length - l) (cp - l)) ob (pre ++ cs.take (l * r.sz)).length (xs.drop l).length (cp - l) := by
    by_cases hcl : cp = l
    · have : xs.length = l := by omega
      refine .inr ⟨by rw [List.length_drop]; omega, by omega, ad, ?_⟩
      rw [if_pos hcl, show xs.length - l = 0 by omega, show cp - l = 0 by omega]
    · rw [if_neg hcl]
      rcases hv with hv | ⟨h1, h2, a, hv⟩
      · cases ob with
        | none =>
          obtain ⟨_, h2, h3, h4⟩ := row_none hc hE hz
          rw [h2, h3] at hcap
          rcases Nat.mul_eq_zero.1 (show cp * r.sz = 0 by simpa using hcap.symm) with h | h
          · omega
          · omega
        | some b =>
          rw [hvv] at hv
          injection hv with e1 e2 e3
          subst e1
          refine .inl ?_
          rw [List.length_drop, List.length_append, List.length_take, Nat.min_eq_left hlc]
          simp [osv, add_plain, hs]
      · omega
  simp only [OpY, bareOp, execOp, hx, hvv]
  simp only [Option.map_none, Option.map_some, hy, Sem.run_bind, hr, Result.andThen_ok, Sem.run_pure, upon]
  exact hk _ _ _ hparts hF hE' hcap'
end
end Go.X

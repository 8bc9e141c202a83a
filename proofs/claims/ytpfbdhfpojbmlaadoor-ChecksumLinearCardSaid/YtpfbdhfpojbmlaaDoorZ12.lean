/-
  Calls that write to what the caller owns: it is lent, and comes back changed. A row that is appended to and used again as it was. Plain theorems over any program.
-/
import Derived.Test.YtpfbdhfpojbmlaaDoorZ11
set_option linter.unusedSimpArgs false
set_option linter.unusedVariables false
namespace Go.X
open Go Go.RowKit

section
variable {P : Program} {s : Nat} {S : Nat → Prop} {X O O' O'' OR : List (Option Nat)} {C C' C'' CR : List Cont} {w w' w0 : World} {α : Type} {r : Rep α} {H : Hp}
theorem nodupB_append : ∀ {is rs : List Nat}, nodupB (is ++ rs) = true → nodupB rs = true ∧ ∀ i ∈ is, i ∉ rs
  | [], rs, h => ⟨h, fun _ hi => by cases hi⟩
  | i :: is, rs, h => by
    simp only [List.cons_append, nodupB, Bool.and_eq_true, Bool.not_eq_true'] at h
    obtain ⟨h1, h2⟩ := nodupB_append h.2
    refine ⟨h1, fun j hj hjr => ?_⟩
    rcases List.mem_cons.1 hj with rfl | hj
    · have := memN_iff.2 (List.mem_append_right is hjr)
      rw [this] at h; cases h.1
    · exact h2 j hj hjr
theorem Loc.lendW (hL : Loc X [] w0 w O C) (is : List Nat) (hO : pickL O is = some O') (hC : pickL C is = some C') (hn : nodupB is = true) : Loc O' [] w w O' C' :=
  ⟨rfl, rfl, rfl, Nat.le_refl _, fun _ _ _ => rfl, hL.own.pick hO hC, fun _ hb => .inl hb, hL.dist.pick hO hn, fun _ _ h => (by cases h), fun _ h => (by cases h)⟩
theorem Hv.lendW (is : List Nat) (hO : pickL O is = some O') : Le (Hv s S O w) (Hv w.heap.size Any O' w) := fun b o h => by
  obtain ⟨h1, h2⟩ := vw_some h
  refine vw_mk ⟨.inl trivial, fun hm => h1.2 ?_⟩ h2
  obtain ⟨i, _, hi⟩ := pickL_mem hO _ hm
  exact List.mem_of_getElem? hi
theorem own_row_lend (hL : Loc X [] w0 w O C) (i : Nat) {ob : Option Nat} {o n cap : Nat} {pre cs sp : List Value} {xs : List α} (is : List Nat) (hO : O[i]? = some ob) (hC : C[i]? = some (.cells (pre ++ (cs ++ sp)))) (hO' : pickL O is = some O') (hi : memN i is = false)
    (hE : Els r H cs xs) (hle : Le H (Hv w.heap.size Any O' w)) (hz : (r.sz == 0) = false) (ho : o = pre.length) (hn : n = xs.length) (hcap : (cs ++ sp).length = cap * r.sz) : Rs r (Hv w.heap.size Any O' w) (osv ob o n cap) xs := by
  cases ob with
  | none => exact row_nil (hL.at i hO hC) hE hz
  | some b =>
    refine row_rs (own_at (hL.at i hO hC) fun q hq => vw_mk ⟨.inl trivial, fun hm => ?_⟩ hq) (hE.mono hle) hz ho hn hcap
    obtain ⟨j, hj, hjx⟩ := pickL_mem hO' _ hm
    have := dist_inj hL.dist hO hjx
    subst this
    rw [memN_iff.2 hj] at hi; cases hi
theorem Loc.backW (hL : Loc X [] w0 w O C) (is rs : List Nat) (hO : pickL O is = some O') (hR : pickL O rs = some OR) (hCR : pickL C rs = some CR) (hn : nodupB (is ++ rs) = true) (hc : Loc O' [] w w' O'' C'') :
    Loc X [] w0 w' (O'' ++ OR) (C'' ++ CR) ∧ Step O (O'' ++ OR) w w' := by
  obtain ⟨hn1, hn2⟩ := nodupB_append hn
  have subO : ∀ b, b ∈ O' → b ∈ O := fun b hb => by
    obtain ⟨i, _, hi⟩ := pickL_mem hO b hb
    exact List.mem_of_getElem? hi
  have subR : ∀ b, b ∈ OR → b ∈ O := fun b hb => by
    obtain ⟨i, _, hi⟩ := pickL_mem hR b hb
    exact List.mem_of_getElem? hi
  have cross : ∀ b, some b ∈ O' → some b ∈ OR → False := fun b h1 h2 => by
    obtain ⟨i, hi, hix⟩ := pickL_mem hO _ h1
    obtain ⟨j, hj, hjx⟩ := pickL_mem hR _ h2
    have := dist_inj hL.dist hix hjx
    subst this
    exact hn2 i hi hj
  have hRo := hL.own.pick hR hCR
  refine ⟨⟨hc.os.trans hL.os, hc.tape.trans hL.tape, hc.output.trans hL.output, Nat.le_trans hL.size hc.size, fun k hk hx => ?_, Owns.append hc.own (hRo.same fun k hk => ?_), fun b hb => ?_, Distinct.append hc.dist (hL.dist.pick hR hn1) (fun b h1 h2 => ?_), fun _ _ h => (by cases h), fun _ h => (by cases h)⟩, ⟨fun k hk hx => hc.keep k hk (fun h => hx (subO _ h)), fun b hb => ?_⟩⟩
  · rw [hc.keep k (Nat.lt_of_lt_of_le hk hL.size) (fun h => ?_)]
    · exact hL.keep k hk hx
    · rcases hL.fresh k (subO _ h) with h1 | h1
      · exact hx h1
      · omega
  · exact hc.keep k (hRo.lt k hk) (fun h => cross k h hk)
  · rcases List.mem_append.1 hb with h | h
    · rcases hc.fresh b h with h1 | h1
      · exact hL.fresh b (subO _ h1)
      · exact .inr (Nat.le_trans hL.size h1)
    · exact hL.fresh b (subR _ h)
  · rcases hc.fresh b h1 with h3 | h3
    · exact cross b h3 h2
    · have := hRo.lt b h2; omega
  · rcases List.mem_append.1 hb with h | h
    · rcases hc.fresh b h with h1 | h1
      · exact .inl (subO _ h1)
      · exact .inr h1
    · exact .inl (subR _ h)
theorem Els.shrink {cs : List Value} {xs ys : List α} (h : Els r H cs (xs ++ ys)) : ∃ a b, cs = a ++ b ∧ Els r H a xs := by
  obtain ⟨a, b, h1, h2, _⟩ := h.split
  exact ⟨a, b, h1, h2⟩
theorem RlL.fin {l : List Oper} {K : Env → World → Prop} {lt : List Nat} {e : Env} (h : K e w) : RlL P l K lt [] e w := h
end

section
variable {P : Program} {ty : TypeId} {ρ : Operand → Value} {w w0 : World} {R : Value → World → Prop} {X : List (Option Nat)} {O : List (Option Nat)} {C : List Cont} {α : Type} {r : Rep α} {H : Hp}
/-- 'append(s, x..)' where there is room: the row's block is written -/
theorem OpY.apRoom {t el : TypeId} {a c : Operand} {by' n cap i : Nat} {z x : Value} {ob : Option Nat} {cs sp ds : List Value} {xs ys Y : List α} (hu : P.underlying t = some (.slice el)) (ti : TI P el r.sz by' z) (hz : (r.sz == 0) = false)
    (ha : ρ a = osv ob 0 n cap) (hc : ρ c = x) (hL : Loc X [] w0 w O C) (hO : O[i]? = some ob) (hC : C[i]? = some (.cells ([] ++ (cs ++ sp)))) (hE : Els r H cs xs) (hn : n = xs.length) (hcap : (cs ++ sp).length = cap * r.sz) (hsrc : Src w x ys.length r.sz ds) (hD : Els r H ds ys) (hpos : 0 < ys.length)
    (hroom : n + ys.length ≤ cap) (hY : Y = xs ++ ys)
    (h : ∀ sp' ds' w', Els r H ds' Y → (ds' ++ sp').length = cap * r.sz → Loc X [] w0 w' O (C.set i (.cells ([] ++ (ds' ++ sp')))) → Step O O w w' → R (osv ob 0 Y.length cap) w') :
    OpY P (.call { callee := .builtin .append, args := #[a, c], argTypes := #[t, t] }) ty ρ w R := by
  obtain ⟨inf, hi, hs, hby, hzz⟩ := ti
  subst hY; subst hn
  have hsz : 0 < r.sz := by have : ¬ r.sz = 0 := by simpa using hz
                            omega
  obtain ⟨hnl, hsrc⟩ := hsrc
  obtain ⟨b2, o2, c2, rfl, hcell⟩ : ∃ b o cap, x = .slice (some ⟨b, o, none⟩) ys.length cap ∧ ∀ j u, ds[j]? = some u → w.cell? ⟨b, o + j, none⟩ = some u := by
    rcases hsrc with ⟨_, h⟩ | h
    · omega
    · exact h
  have hnews : ∀ j u, ds[j]? = some u → w.cell? ((⟨b2, o2, none⟩ : Addr).add j) = some u := fun j u hj => by rw [add_plain]; exact hcell j u hj
  cases ob with
  | none =>
    obtain ⟨_, h2, h3, h4⟩ := row_none (hL.at i hO hC) hE hz
    rw [h2, h3] at hcap
    have : cap = 0 := by
      rcases Nat.mul_eq_zero.1 (show cap * r.sz = 0 by simpa using hcap.symm) with h | h
      · exact h
      · omega
    omega
  | some g =>
    obtain ⟨tt, lo, hh, g1, g0, g2⟩ := hL.at i hO hC
    have hfit2 : xs.length * inf.size + ds.length ≤ (cs ++ sp).length := by
      rw [hcap, hnl, hs, ← Nat.add_mul]
      exact Nat.mul_le_mul_right _ hroom
    have g1' : w.heap[g]? = some (.cells (cs ++ sp).toArray tt (lo, hh)) := g1
    obtain ⟨w', r1, r2, r3, r4, r5, r6, r7⟩ := run_storeCells_own (P := P) ds 0 (xs.length * inf.size) (cs ++ sp) w g1' g2 (by simpa using hfit2) (ones_spec hD.ones)
    have hput : putAt (cs ++ sp) (xs.length * inf.size) ds = (cs ++ ds) ++ sp.drop ds.length := by
      have := putAt_append cs sp ds (by
        have := hfit2; simp only [List.length_append, hE.length, hs] at this; omega)
      rw [hE.length, ← hs] at this
      exact this
    have hp := hL.put (w' := w') i hO (c' := .cells ([] ++ ((cs ++ ds) ++ sp.drop ds.length))) ⟨tt, lo, hh, by rw [r2, Nat.add_zero, hput]; rfl, g0, fun j hj => g2 j (by
      simp only [List.nil_append, List.length_append, List.length_drop, hE.length, hs] at hj hfit2 ⊢; omega)⟩ r3 r4 r5 r6 r7
    have hf := run_firstCells_some (P := P) w inf.size ys.length ⟨b2, o2, none⟩ ys.length c2 ds (by rw [hnl, hs]) hnews
    have hr : (Builtin.append_ #[t, t] ty #[osv (some g) 0 xs.length cap, .slice (some ⟨b2, o2, none⟩) ys.length c2]).run P w = .ok (osv (some g) 0 (xs ++ ys).length cap) w' := by
      simp only [osv, List.length_append]
      simp [Builtin.append_, run_underlying hu, sizeOf, typeInfo, hi, Builtin.lenOf, hroom, hf, add_plain, r1]
    have hk := h (sp.drop ds.length) (cs ++ ds) w' (hE.append hD) (by
      have := hfit2
      rw [List.length_append] at hcap
      simp only [List.length_append, List.length_drop, hE.length, hs] at this hcap ⊢; omega) hp.1 hp.2
    simp only [OpY, bareOp, execOp, resolve, invoke, builtin]
    simp [ha, hc, hr, upon]
    rw [List.length_append] at hk
    exact hk
/-- 'append(s, x..)' where there is none: a new block -/
theorem OpY.apNew {t el : TypeId} {a c : Operand} {by' n cap i : Nat} {z x : Value} {ob : Option Nat} {cs sp ds : List Value} {xs ys Y : List α} (hu : P.underlying t = some (.slice el)) (ti : TI P el r.sz by' z) (hzc : z.cells.size = r.sz) (hz : (r.sz == 0) = false)
    (ha : ρ a = osv ob 0 n cap) (hc : ρ c = x) (hL : Loc X [] w0 w O C) (hO : O[i]? = some ob) (hC : C[i]? = some (.cells ([] ++ (cs ++ sp)))) (hE : Els r H cs xs) (hn : n = xs.length) (hcap : (cs ++ sp).length = cap * r.sz) (hsrc : Src w x ys.length r.sz ds) (hD : Els r H ds ys) (hpos : 0 < ys.length)
    (hroom : ¬ n + ys.length ≤ cap) (h63 : xs.length + ys.length ≤ 9223372036854775807) (hb : (xs.length + ys.length) * by' ≤ 140737488355328) (hY : Y = xs ++ ys)
    (h : ∀ b cap' sp' ds' w', Els r H ds' Y → (ds' ++ sp').length = cap' * r.sz → Loc X [] w0 w' (some b :: O) (.cells ([] ++ (ds' ++ sp')) :: C) → Step O (some b :: O) w w' → R (osv (some b) 0 Y.length cap') w') :
    OpY P (.call { callee := .builtin .append, args := #[a, c], argTypes := #[t, t] }) ty ρ w R := by
  obtain ⟨inf, hi, hs, hby, hzz⟩ := ti
  subst hby; subst hY; subst hn
  obtain ⟨hnl, hsrc⟩ := hsrc
  obtain ⟨b2, o2, c2, rfl, hcell⟩ : ∃ b o cap, x = .slice (some ⟨b, o, none⟩) ys.length cap ∧ ∀ j u, ds[j]? = some u → w.cell? ⟨b, o + j, none⟩ = some u := by
    rcases hsrc with ⟨_, h⟩ | h
    · omega
    · exact h
  have hnews : ∀ j u, ds[j]? = some u → w.cell? ((⟨b2, o2, none⟩ : Addr).add j) = some u := fun j u hj => by rw [add_plain]; exact hcell j u hj
  have grown : ∀ old, old < xs.length + ys.length →
      (Builtin.append_ #[t, t] ty #[osv ob 0 xs.length cap, .slice (some ⟨b2, o2, none⟩) ys.length c2]).run P w = .ok (.slice (some ⟨w.heap.size, 0, none⟩) (xs.length + ys.length) (grownCap w (xs.length + ys.length) old el))
        (w.drew.alloc (.cells (cs.toArray ++ ds.toArray ++ Builtin.zeroCells z.cells (grownCap w (xs.length + ys.length) old el - (xs.length + ys.length))) el)) →
      OpY P (.call { callee := .builtin .append, args := #[a, c], argTypes := #[t, t] }) ty ρ w R := by
    intro old ho hr
    have hge := grownCap_ge w (xs.length + ys.length) old el
    have hEL := Ext.drawn w (w.drawn + 1)
    have hL1 : Loc X [] w0 w.drew O C := hL.ext hEL
    have hal := hL1.alloc (o := .cells (cs.toArray ++ ds.toArray ++ Builtin.zeroCells z.cells (grownCap w (xs.length + ys.length) old el - (xs.length + ys.length))) el)
      (c := .cells ([] ++ ((cs ++ ds) ++ (Builtin.zeroCells z.cells (grownCap w (xs.length + ys.length) old el - (xs.length + ys.length))).toList)))
      (by have := ownC_alloc w.drew (cs.toArray ++ ds.toArray ++ Builtin.zeroCells z.cells (grownCap w (xs.length + ys.length) old el - (xs.length + ys.length))) el
          simpa using this)
    have hst : Step O (some w.heap.size :: O) w (w.drew.alloc (.cells (cs.toArray ++ ds.toArray ++ Builtin.zeroCells z.cells (grownCap w (xs.length + ys.length) old el - (xs.length + ys.length))) el)) :=
      Step.trans (Step.ext hEL) hal.2 (Nat.le_refl _)
    have hk := h w.heap.size (grownCap w (xs.length + ys.length) old el) (Builtin.zeroCells z.cells (grownCap w (xs.length + ys.length) old el - (xs.length + ys.length))).toList (cs ++ ds) _ (hE.append hD)
      (by simp only [List.length_append, Array.length_toList, size_zeroCells, hzc, hE.length, hnl, ← Nat.add_mul]; congr 1; omega) hal.1 hst
    rw [List.length_append] at hk
    simp only [OpY, bareOp, execOp, resolve, invoke, builtin]
    simp [ha, hc, hr, upon]
    simpa [osv] using hk
  cases ob with
  | none =>
    obtain ⟨_, h2, h3, h4⟩ := row_none (hL.at i hO hC) hE hz
    refine grown 0 (by omega) ?_
    have hr := run_append_nil (P := P) w t ty el inf z hu hi hzz ⟨b2, o2, none⟩ ys.length c2 ds (by rw [hnl, hs]) hnews hpos (by omega) (by
      have : ys.length * inf.bytes ≤ 140737488355328 := Nat.le_trans (Nat.mul_le_mul_right _ (by omega)) hb
      omega)
    rw [h4, h2]
    simpa [osv] using hr
  | some g =>
    have hle : xs.length ≤ cap := row_cap hE hz hcap
    refine grown cap (by omega) ?_
    have holds : ∀ j u, cs[j]? = some u → w.cell? ((⟨g, 0, none⟩ : Addr).add j) = some u := by
      intro j u hj
      rw [add_plain]
      refine cell_own (hL.at i hO hC) ?_
      have hlt := (List.getElem?_eq_some_iff.1 hj).1
      rw [List.nil_append, Nat.zero_add, List.getElem?_append_left hlt, hj]
    exact run_append_grow (P := P) w t ty el inf z hu hi hzz ⟨g, 0, none⟩ xs.length cap cs (by rw [hE.length, hs]) holds ⟨b2, o2, none⟩ ys.length c2 ds (by rw [hnl, hs]) hnews (by omega) (by omega) (growslice_fits (by omega) hb)
end
end Go.X

/-
  A row of rows whose last row is still one's own; a part of a row's element, stored. Plain theorems over any program.
-/
import Derived.Test.YtckhldmpcddjmaaDoorZ13
set_option linter.unusedSimpArgs false
set_option linter.unusedVariables false
set_option linter.unusedSectionVars false
namespace Go.X
open Go Go.RowKit
theorem putAt_part {l vs us : List Value} {q off : Nat} (h : (l.drop q).take vs.length = vs) (ho : off + us.length ≤ vs.length) : putAt l (q + off) us = putAt l q (putAt vs off us) := by
  by_cases hv : vs.length = 0
  · have : us = [] := List.length_eq_zero_iff.1 (by omega)
    subst this
    have : vs = [] := List.length_eq_zero_iff.1 hv
    subst this
    rfl
  have hlen : q + vs.length ≤ l.length := by
    have := congrArg List.length h
    rw [List.length_take, List.length_drop] at this
    omega
  have hp : (putAt vs off us).length = vs.length := length_putAt us vs off
  apply List.ext_getElem?
  intro i
  rw [get_putAt _ _ _ _ (by omega), get_putAt _ _ _ _ (by rw [hp]; exact hlen), hp]
  have hget : ∀ j, j < vs.length → l[q + j]? = vs[j]? := fun j hj => by
    have := congrArg (·[j]?) h
    simp only [List.getElem?_take, hj, if_true, List.getElem?_drop] at this
    exact this
  by_cases h1 : q ≤ i ∧ i < q + vs.length
  · rw [if_pos h1, get_putAt _ _ _ _ ho]
    by_cases h2 : q + off ≤ i ∧ i < q + off + us.length
    · rw [if_pos h2, if_pos ⟨by omega, by omega⟩, show i - (q + off) = i - q - off by omega]
    · rw [if_neg h2, if_neg (by omega)]
      have := hget (i - q) (by omega)
      rw [show q + (i - q) = i by omega] at this
      exact this
  · rw [if_neg h1, if_neg (by omega)]
section
variable {P : Program} {ty : TypeId} {ρ : Operand → Value} {w w0 : World} {R : Value → World → Prop} {X : List (Option Nat)} {O : List (Option Nat)} {C : List Cont} {α : Type} {r : Rep α} {H : Hp}
theorem OpY.stPart {t : TypeId} {x y : Operand} {b q n off sz by' : Nat} {z v : Value} {pre cs sp us vs vs' : List Value} {xs Y : List α} {a : α} (ti : TI P t sz by' z) (hx : ρ x = .pointer (some ⟨b, q + off, none⟩)) (hy : ρ y = v) (hv : v.cells = us.toArray) (hul : us.length = sz) (hone : ones us = true)
    (hk : ((pre ++ (cs ++ sp)).drop q).take vs.length = vs) (hoff : off + us.length ≤ vs.length) (hvs : putAt vs off us = vs') (hR : r.R H vs' a)
    (hL : Loc X [] w0 w O C) (i : Nat) (hO : O[i]? = some (some b)) (hC : C[i]? = some (.cells (pre ++ (cs ++ sp)))) (hE : Els r H cs xs) (hn : n < xs.length) (hq : q = pre.length + n * r.sz) (hY : Y = xs.set n a)
    (h : ∀ w' cs', Loc X [] w0 w' O (C.set i (.cells (pre ++ (cs' ++ sp)))) → Step O O w w' → Els r H cs' Y → cs'.length = cs.length → R undef w') : OpY P (.store t x y) ty ρ w R := by
  subst hY
  have hlen := hE.length
  have hvl := r.len _ _ _ hR
  have hb : n * r.sz + r.sz ≤ cs.length := by rw [hlen, ← Nat.succ_mul]; exact Nat.mul_le_mul_right _ hn
  have hvsl : vs.length = r.sz := by rw [← hvl, ← hvs, length_putAt]
  have hp : putAt (pre ++ (cs ++ sp)) q vs' = pre ++ (putAt cs (n * r.sz) vs' ++ sp) := by
    subst hq
    rw [putAt_eq _ _ _ (by simp [hvl]; omega), putAt_eq _ _ _ (by rw [hvl]; exact hb), hvl]
    rw [List.take_append, List.take_of_length_le (by omega), show pre.length + n * r.sz - pre.length = n * r.sz by omega,
      List.take_append_of_le_length (by omega), List.drop_append, List.drop_of_length_le (by omega), List.nil_append,
      show pre.length + n * r.sz + r.sz - pre.length = n * r.sz + r.sz by omega, List.drop_append_of_le_length hb]
    simp
  refine OpY.store ti hx hy hv hul hone hL i hO hC (by subst hq; simp; omega) fun w' h1 h2 => ?_
  rw [putAt_part hk hoff, hvs, hp] at h1
  exact h w' _ h1 h2 (hE.set hR hn) (by rw [length_putAt])
theorem OpY.apOpen {t el : TypeId} {a c : Operand} {by' n cap i : Nat} {z x : Value} {ob : Option Nat} {cs sp : List Value} {xs : List α} (hu : P.underlying t = some (.slice el)) (ti : TI P el r.sz by' z) (hzc : z.cells.size = r.sz) (hz : r.sz = 1)
    (ha : ρ a = osv ob 0 n cap) (hc : ρ c = x) (hL : Loc X [] w0 w O C) (hO : O[i]? = some ob) (hC : C[i]? = some (.cells ([] ++ (cs ++ sp)))) (hE : Els r H cs xs) (hn : n = xs.length) (hcap : (cs ++ sp).length = cap * r.sz) (hsrc : Src w x 1 r.sz [.slice none 0 0])
    (h63 : xs.length + 1 ≤ 9223372036854775807) (hb : (xs.length + 1) * by' ≤ 140737488355328)
    (h : ∀ ob' cap' sp' w', (cs.length + 1) + sp'.length = cap' * r.sz → Loc X [] w0 w' (O.set i ob') (C.set i (.cells ([] ++ ((cs ++ [.slice none 0 0]) ++ sp')))) → Step O (O.set i ob') w w' → R (osv ob' 0 (xs.length + 1) cap') w') :
    OpY P (.call { callee := .builtin .append, args := #[a, c], argTypes := #[t, t] }) ty ρ w R := by
  have hpos : 0 < r.sz := by omega
  subst hn
  refine OpY.append (m := 1) (xs := cs) (sp := sp) hu ti hzc hpos (by rw [ha, osv_zero]) hc hL hO hC hE.length hcap hsrc (by rfl) h63 hb fun ob' cap' sp' w' h1 h2 h3 => ?_
  have := h ob' cap' sp' w' (by simp only [List.length_append, List.length_singleton] at h1; exact h1) h2 h3
  rw [osv_zero] at this
  exact this
theorem open_elem {cs sp : List Value} {v : Value} {xs : List α} (hE : Els r H cs xs) (hz : r.sz = 1) : ((([] : List Value) ++ ((cs ++ [v]) ++ sp)).drop (0 + xs.length * r.sz)).take [v].length = [v] := by
  have hl := hE.length
  rw [List.nil_append, Nat.zero_add, ← hl, List.append_assoc, List.drop_left' rfl]
  rfl
theorem OpY.stOpen {t : TypeId} {x y : Operand} {b by' i sz : Nat} {z v v' : Value} {cs sp : List Value} {xs : List α} (ti : TI P t sz by' z) (hx : ρ x = .pointer (some ⟨b, 0 + xs.length * r.sz, none⟩)) (hy : ρ y = v') (hv : v'.cells = [v'].toArray) (hsz : sz = 1) (hone : one v' = true)
    (hL : Loc X [] w0 w O C) (hO : O[i]? = some (some b)) (hC : C[i]? = some (.cells ([] ++ ((cs ++ [v]) ++ sp)))) (hE : Els r H cs xs) (hz : r.sz = 1)
    (h : ∀ w', Loc X [] w0 w' O (C.set i (.cells ([] ++ ((cs ++ [v']) ++ sp)))) → Step O O w w' → R undef w') : OpY P (.store t x y) ty ρ w R := by
  have hl := hE.length
  refine OpY.store ti hx hy hv (by rw [hsz]; rfl) (ones_cons hone ones_nil) hL i hO hC (by simp; omega) fun w' h1 h2 => ?_
  have : putAt ([] ++ ((cs ++ [v]) ++ sp)) (0 + xs.length * r.sz) [v'] = [] ++ ((cs ++ [v']) ++ sp) := by
    rw [List.nil_append, List.nil_append, Nat.zero_add, ← hl]
    show ((cs ++ [v]) ++ sp).set cs.length v' = _
    simp
  rw [this] at h1
  exact h w' h1 h2
end
end Go.X

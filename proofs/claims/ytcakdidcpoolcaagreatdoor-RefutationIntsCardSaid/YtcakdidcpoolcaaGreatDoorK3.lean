/-
 The integer constraints of a clause, by the program and by the reference. Plain theorems.
-/
import Derived.Test.YtcakdidcpoolcaaGreatDoorK2
set_option linter.unusedSimpArgs false
set_option linter.unusedVariables false
namespace Go.D
open Go Go.X
def bnds (v low high : Int) : List Constraint := [Constraint.mk (Linear.mk low [Coef.mk v (-1)]) false, Constraint.mk (Linear.mk (iw (0 - high)) [Coef.mk v 1]) false]
def nnOf (l : List RVar) (v : Int) : List Constraint := match l[v.toNat]? with
 | some x => if x.Ty = 1 then bnds v x.Low x.High else []
 | none => []
def quo (q : Int) (f : Linear) (b : Int) : List Constraint := [Constraint.mk (Linear.mk (iw (0 - f.Const)) ((f.Coefs.map fun x => Coef.mk x.Var (iw (0 - x.N))) ++ [Coef.mk q b])) false, Constraint.mk (Linear.mk (iw (f.Const - iw (b - 1))) (f.Coefs ++ [Coef.mk q (iw (0 - b))])) false]
def hiOf (l : List RVar) (rg : List Arr2Int) (v : Nat) : Int := match rg[v]?, l[v]? with
 | some r, some x => imin r.e1 x.Max
 | _, _ => 0
def axOf (l : List RVar) (rg : List Arr2Int) (i : Nat) (a : RAux) : List Constraint :=
 if a.By = 0 then bnds ((l.length + i : Nat) : Int) (match rg[a.Text.toNat]? with | some r => r.e0 | none => 0) (hiOf l rg a.Text.toNat) else quo ((l.length + i : Nat) : Int) a.Of a.By
def axAt (l : List RVar) (rg : List Arr2Int) (ax : List RAux) (i : Nat) : List Constraint := match ax[i]? with
 | some a => axOf l rg i a
 | none => []
def intsOf (l : List RVar) (c : RClause) (rg : List Arr2Int) : List Constraint := c.NotNull.flatMap (nnOf l) ++ (List.range c.Auxiliary.length).flatMap (axAt l rg c.Auxiliary) ++ c.Ints
theorem len2 {α β : Type} {f : α → List β} (h : ∀ x, (f x).length ≤ 2) : ∀ l : List α, (l.flatMap f).length ≤ 2 * l.length
 | [] => Nat.zero_le _
 | x :: l => by
  have := len2 h l
  have := h x
  rw [List.flatMap_cons, List.length_append, List.length_cons]; omega
theorem nnOf_len {l : List RVar} (v : Int) : (nnOf l v).length ≤ 2 := by
 unfold nnOf
 split
 · split
   · exact Nat.le_refl _
   · exact Nat.zero_le _
 · exact Nat.zero_le _
theorem axAt_len {l : List RVar} {rg : List Arr2Int} {ax : List RAux} (i : Nat) : (axAt l rg ax i).length ≤ 2 := by
 unfold axAt
 split
 · unfold axOf
   split
   · exact Nat.le_refl _
   · exact Nat.le_refl _
 · exact Nat.zero_le _
section
variable {l : List RVar} {c : RClause} {rg : List Arr2Int}
structure RgOk (l : List RVar) (rg : List Arr2Int) : Prop where
 len : rg.length = l.length
 bd : ∀ r ∈ rg, (0 ≤ r.e0 ∧ r.e0 ≤ 16) ∧ 0 ≤ r.e1 ∧ r.e1 ≤ 16
theorem vhigh_tm (hr : RgOk l rg) {k : Nat} (hk : k < l.length) : Tm (fun N => vhigh N l rg (k : Int)) (· = hiOf l rg k) := by
 unfold vhigh
 have hk2 : k < rg.length := by rw [hr.len]; exact hk
 refine Tm.step (idx_n hk2) (Tm.step (idx_n hk) (Tm.some ?_))
 unfold hiOf
 rw [List.getElem?_eq_getElem hk, List.getElem?_eq_getElem hk2]
theorem whigh_tm (hr : RgOk l rg) {k : Nat} (hk : k < l.length) : Tm (fun N => whigh N l rg (k : Int)) (· = hiOf l rg k) := by
 unfold whigh
 have hk2 : k < rg.length := by rw [hr.len]; exact hk
 refine Tm.step (idx_n hk2) (Tm.step (idx_n hk) ?_)
 have e : hiOf l rg k = imin rg[k].e1 l[k].Max := by
  unfold hiOf
  rw [List.getElem?_eq_getElem hk, List.getElem?_eq_getElem hk2]
 rw [e]
 by_cases g : rg[k].e1 < l[k].Max
 · exact Tm.pos g (Tm.step (idx_n hk2) (Tm.some (by unfold imin; rw [if_neg (by omega)])))
 · refine Tm.neg g (Tm.step (idx_n hk) (Tm.some ?_))
   unfold imin
   split <;> omega
theorem vInts_b1_tm (hc : AscOk c.NotNull l.length) (hl : l.length ≤ 10) : Tm (fun N => loopM (vInts_b1 N c l) N (([] : List Constraint), 0)) (· = c.NotNull.flatMap (nnOf l)) := by
 have hcl := hc.len
 refine Tm.up c.NotNull.length (fun k s => s.2 = (k : Int) ∧ s.1 = (c.NotNull.take k).flatMap (nnOf l)) ⟨rfl, rfl⟩ ?_
 rintro k hk ⟨s, i⟩ ⟨hi, hs⟩
 dsimp only at hi hs; subst hi
 unfold vInts_b1
 dsimp only
 rcases Nat.lt_or_ge k c.NotNull.length with hlt | hge
 · obtain ⟨q, eq, hq⟩ := var_n (hc.bd _ (List.getElem_mem hlt))
   have hsl : s.length ≤ 2 * k := by rw [hs]; have := len2 (nnOf_len (l := l)) (c.NotNull.take k); rw [List.length_take] at this; omega
   have hst : (c.NotNull.take (k + 1)).flatMap (nnOf l) = s ++ nnOf l (q : Int) := by
    rw [List.take_succ_eq_append_getElem hlt, List.flatMap_append, ← hs, eq]; simp
   have en : nnOf l (q : Int) = if l[q].Ty = 1 then bnds (q : Int) l[q].Low l[q].High else [] := by
    unfold nnOf; rw [Int.toNat_natCast, List.getElem?_eq_getElem hq]
   refine Tm.pos (by omega) (Tm.step (idx_n hlt) ?_)
   rw [eq]
   refine Tm.step (idx_n hq) ?_
   by_cases g : l[q].Ty = 1
   · refine Tm.pos g (Tm.step (idx_n hq) (Tm.step (idx_n hq) ?_))
     show Tm (fun N => (apnd 40 s (bnds (q : Int) l[q].Low l[q].High)).bind _) _
     rw [apnd_ok (by show (_ + 2) * 40 ≤ _; omega) (by decide)]
     refine Tm.some ⟨hlt, iw_n (by omega), ?_⟩
     rw [hst, en, if_pos g]
   · refine Tm.neg g (Tm.some ⟨hlt, iw_n (by omega), ?_⟩)
     rw [hst, en, if_neg g, List.append_nil]
 · refine Tm.neg (by omega) (Tm.some ?_)
   show s = _
   rw [hs, List.take_of_length_le hge]
theorem wInts_b1_tm (hc : AscOk c.NotNull l.length) (hl : l.length ≤ 10) : Tm (fun N => loopM (wInts_b1 N c l) N (([] : List Constraint), 0)) (· = c.NotNull.flatMap (nnOf l)) := by
 have hcl := hc.len
 refine Tm.up c.NotNull.length (fun k s => s.2 = (k : Int) ∧ s.1 = (c.NotNull.take k).flatMap (nnOf l)) ⟨rfl, rfl⟩ ?_
 rintro k hk ⟨s, i⟩ ⟨hi, hs⟩
 dsimp only at hi hs; subst hi
 unfold wInts_b1
 dsimp only
 rcases Nat.lt_or_ge k c.NotNull.length with hlt | hge
 · obtain ⟨q, eq, hq⟩ := var_n (hc.bd _ (List.getElem_mem hlt))
   have hsl : s.length ≤ 2 * k := by rw [hs]; have := len2 (nnOf_len (l := l)) (c.NotNull.take k); rw [List.length_take] at this; omega
   have hst : (c.NotNull.take (k + 1)).flatMap (nnOf l) = s ++ nnOf l (q : Int) := by
    rw [List.take_succ_eq_append_getElem hlt, List.flatMap_append, ← hs, eq]; simp
   have en : nnOf l (q : Int) = if l[q].Ty = 1 then bnds (q : Int) l[q].Low l[q].High else [] := by
    unfold nnOf; rw [Int.toNat_natCast, List.getElem?_eq_getElem hq]
   refine Tm.pos (by omega) (Tm.step (idx_n hlt) ?_)
   rw [eq]
   refine Tm.step (idx_n hq) ?_
   by_cases g : l[q].Ty = 1
   · refine Tm.pos g (Tm.step (idx_n hq) (Tm.step rfl (Tm.step (idx_n hq) (Tm.step rfl ?_))))
     rw [apnd_ok (by show (_ + 2) * 40 ≤ _; omega) (by decide)]
     refine Tm.some ⟨hlt, iw_n (by omega), ?_⟩
     rw [hst, en, if_pos g]; rfl
   · refine Tm.neg g (Tm.some ⟨hlt, iw_n (by omega), ?_⟩)
     rw [hst, en, if_neg g, List.append_nil]
 · refine Tm.neg (by omega) (Tm.some ?_)
   show s = _
   rw [hs, List.take_of_length_le hge]
theorem vquotient_tm {q b : Int} {f : Linear} (hf : f.Coefs.length ≤ 1000) : Tm (fun N => vquotient N q f b) (· = quo q f b) := by
 unfold vquotient
 refine Tm.bind (Q := fun r => r = (f.Coefs.map fun x => Coef.mk x.Var (iw (0 - x.N)), f.Coefs)) ?_ fun r hr => ?_
 · refine Tm.up f.Coefs.length (fun k s => s.2.2 = (k : Int) ∧ s.1 = ((f.Coefs.take k).map fun x => Coef.mk x.Var (iw (0 - x.N))) ∧ s.2.1 = f.Coefs.take k) ⟨rfl, rfl, rfl⟩ ?_
   rintro k hk ⟨s, t, i⟩ ⟨hi, hs, ht⟩
   dsimp only at hi hs ht; subst hi; subst hs; subst ht
   unfold vquotient_b1
   dsimp only
   rcases Nat.lt_or_ge k f.Coefs.length with hlt | hge
   · refine Tm.pos (by omega) (Tm.step (idx_n hlt) ?_)
     rw [apnd_ok (by rw [List.length_map, List.length_take, List.length_singleton]; omega) (by decide)]
     simp only [Option.bind_some]
     rw [apnd_ok (by rw [List.length_take, List.length_singleton]; omega) (by decide)]
     refine Tm.some ⟨hlt, iw_n (by omega), ?_, ?_⟩
     · rw [List.take_succ_eq_append_getElem hlt, List.map_append]; rfl
     · rw [List.take_succ_eq_append_getElem hlt]
   · refine Tm.neg (by omega) (Tm.some ?_)
     rw [List.take_of_length_le hge]
 · subst hr
   dsimp only
   rw [apnd_ok (by rw [List.length_map, List.length_singleton]; omega) (by decide)]
   simp only [Option.bind_some]
   rw [apnd_ok (by rw [List.length_singleton]; omega) (by decide)]
   exact Tm.some rfl
theorem wscaled_tm {n : Int} {f : Linear} {more : Coef} (hf : f.Coefs.length ≤ 1000) : Tm (fun N => wscaled N f n more) (· = (f.Coefs.map fun x => Coef.mk x.Var (iw (n * x.N))) ++ [more]) := by
 unfold wscaled
 refine Tm.bind (Q := fun r => r = f.Coefs.map fun x => Coef.mk x.Var (iw (n * x.N))) ?_ fun r hr => ?_
 · refine Tm.up f.Coefs.length (fun k s => s.2 = (k : Int) ∧ s.1 = (f.Coefs.take k).map fun x => Coef.mk x.Var (iw (n * x.N))) ⟨rfl, rfl⟩ ?_
   rintro k hk ⟨s, i⟩ ⟨hi, hs⟩
   dsimp only at hi hs; subst hi; subst hs
   unfold wscaled_b1
   dsimp only
   rcases Nat.lt_or_ge k f.Coefs.length with hlt | hge
   · refine Tm.pos (by omega) (Tm.step (idx_n hlt) (Tm.step (idx_n hlt) ?_))
     rw [apnd_ok (by rw [List.length_map, List.length_take, List.length_singleton]; omega) (by decide)]
     refine Tm.some ⟨hlt, iw_n (by omega), ?_⟩
     rw [List.take_succ_eq_append_getElem hlt, List.map_append]; rfl
   · refine Tm.neg (by omega) (Tm.some ?_)
     show List.map _ _ = _
     rw [List.take_of_length_le hge]
 · subst hr
   dsimp only
   rw [apnd_ok (by rw [List.length_map, List.length_singleton]; omega) (by decide)]
   exact Tm.some rfl
theorem axAt_at {i : Nat} (hi : i < c.Auxiliary.length) : axAt l rg c.Auxiliary i = axOf l rg i c.Auxiliary[i] := by
 unfold axAt; rw [List.getElem?_eq_getElem hi]
theorem range_flat {f : Nat → List Constraint} {k : Nat} : (List.range (k + 1)).flatMap f = (List.range k).flatMap f ++ f k := by
 rw [List.range_succ, List.flatMap_append]; simp
theorem vInts_b2_tm (hv : ClOk c l) (hs : SmC c) (hr : RgOk l rg) (hl : l.length ≤ 10) {o : List Constraint} (ho : o.length ≤ 1000) : Tm (fun N => loopM (vInts_b2 N c l rg) N (o, 0)) (· = o ++ (List.range c.Auxiliary.length).flatMap (axAt l rg c.Auxiliary)) := by
 have hsx := hs.ax
 refine Tm.up c.Auxiliary.length (fun k s => s.2 = (k : Int) ∧ s.1 = o ++ (List.range k).flatMap (axAt l rg c.Auxiliary)) ⟨rfl, by simp⟩ ?_
 rintro k hk ⟨s, i⟩ ⟨hi, hs⟩
 dsimp only at hi hs; subst hi
 unfold vInts_b2
 dsimp only
 rcases Nat.lt_or_ge k c.Auxiliary.length with hlt | hge
 · have hsl : s.length ≤ 1000 + 2 * k := by rw [hs, List.length_append]; have := len2 (axAt_len (l := l) (rg := rg) (ax := c.Auxiliary)) (List.range k); rw [List.length_range] at this; omega
   have e1 : iw ((l.length : Int) + (k : Int)) = ((l.length + k : Nat) : Int) := by rw [iw_eq] <;> omega
   refine Tm.pos (by omega) (Tm.step (idx_n hlt) ?_)
   rw [range_flat, axAt_at hlt, ← List.append_assoc, ← hs, e1]
   rcases hv.ax k hlt with ⟨g1, _, _, t, et, ⟨x, ex, _⟩, _⟩ | ⟨g1, g2, _, hf⟩
   · have ht : t < l.length := (List.getElem?_eq_some_iff.1 ex).1
     have ht2 : t < rg.length := by rw [hr.len]; exact ht
     refine Tm.pos g1 ?_
     rw [et]
     refine Tm.step (idx_n ht2) ((vhigh_tm hr ht).eq ?_)
     show Tm (fun N => (apnd 40 s (bnds ((l.length + k : Nat) : Int) rg[t].e0 (hiOf l rg t))).bind _) _
     rw [apnd_ok (by show (_ + 2) * 40 ≤ _; omega) (by decide)]
     refine Tm.some ⟨hlt, iw_n (by omega), ?_⟩
     unfold axOf
     rw [if_pos g1, et, Int.toNat_natCast, List.getElem?_eq_getElem ht2]
   · have hfl := hf.len
     refine Tm.neg g1 ((vquotient_tm (by omega)).eq ?_)
     rw [apnd_ok (by show (_ + 2) * 40 ≤ _; omega) (by decide)]
     refine Tm.some ⟨hlt, iw_n (by omega), ?_⟩
     unfold axOf
     rw [if_neg g1]
 · have : k = c.Auxiliary.length := by omega
   subst this
   exact Tm.neg (by omega) (Tm.some hs)
theorem wInts_b2_tm (hv : ClOk c l) (hs : SmC c) (hr : RgOk l rg) (hl : l.length ≤ 10) {o : List Constraint} (ho : o.length ≤ 1000) : Tm (fun N => loopM (wInts_b2 N c l rg) N (o, 0)) (· = o ++ (List.range c.Auxiliary.length).flatMap (axAt l rg c.Auxiliary)) := by
 have hsx := hs.ax
 refine Tm.up c.Auxiliary.length (fun k s => s.2 = (k : Int) ∧ s.1 = o ++ (List.range k).flatMap (axAt l rg c.Auxiliary)) ⟨rfl, by simp⟩ ?_
 rintro k hk ⟨s, i⟩ ⟨hi, hs⟩
 dsimp only at hi hs; subst hi
 unfold wInts_b2
 dsimp only
 rcases Nat.lt_or_ge k c.Auxiliary.length with hlt | hge
 · have hsl : s.length ≤ 1000 + 2 * k := by rw [hs, List.length_append]; have := len2 (axAt_len (l := l) (rg := rg) (ax := c.Auxiliary)) (List.range k); rw [List.length_range] at this; omega
   have e1 : iw ((l.length : Int) + (k : Int)) = ((l.length + k : Nat) : Int) := by rw [iw_eq] <;> omega
   refine Tm.pos (by omega) (Tm.step (idx_n hlt) ?_)
   rw [range_flat, axAt_at hlt, ← List.append_assoc, ← hs, e1]
   rcases hv.ax k hlt with ⟨g1, _, _, t, et, ⟨x, ex, _⟩, _⟩ | ⟨g1, g2, _, hf⟩
   · have ht : t < l.length := (List.getElem?_eq_some_iff.1 ex).1
     have ht2 : t < rg.length := by rw [hr.len]; exact ht
     refine Tm.pos g1 ?_
     rw [et]
     refine Tm.step (idx_n ht2) (Tm.step rfl ((whigh_tm hr ht).eq (Tm.step rfl ?_)))
     rw [apnd_ok (by show (_ + 2) * 40 ≤ _; omega) (by decide)]
     refine Tm.some ⟨hlt, iw_n (by omega), ?_⟩
     unfold axOf
     rw [if_pos g1, et, Int.toNat_natCast, List.getElem?_eq_getElem ht2]; rfl
   · have hfl := hf.len
     have hcst := hf.cst
     refine Tm.neg g1 ((wscaled_tm (by omega)).eq ?_)
     rw [apnd_ok (by rw [List.length_singleton]; omega) (by decide)]
     simp only [Option.bind_some]
     refine (wscaled_tm (by omega)).eq ?_
     rw [apnd_ok (by rw [List.length_append, List.length_singleton, List.length_singleton]; omega) (by decide)]
     refine Tm.some ⟨hlt, iw_n (by omega), ?_⟩
     unfold axOf
     rw [if_neg g1, List.append_assoc]
     have m1 : (c.Auxiliary[k].Of.Coefs.map fun x => Coef.mk x.Var (iw (-1 * x.N))) = c.Auxiliary[k].Of.Coefs.map fun x => Coef.mk x.Var (iw (0 - x.N)) := List.map_congr_left fun x _ => by rw [show -1 * x.N = 0 - x.N by omega]
     have m2 : (c.Auxiliary[k].Of.Coefs.map fun x => Coef.mk x.Var (iw (1 * x.N))) = c.Auxiliary[k].Of.Coefs := by
      have : ∀ x ∈ c.Auxiliary[k].Of.Coefs, (fun x => Coef.mk x.Var (iw (1 * x.N))) x = id x := fun x hx => by
       have := (hf.cf x hx).2.2
       dsimp only
       rw [show 1 * x.N = x.N by omega, iw_eq (by omega) (by omega)]; rfl
      rw [List.map_congr_left this, List.map_id]
     have m3 : iw (iw (c.Auxiliary[k].Of.Const - c.Auxiliary[k].By) + 1) = iw (c.Auxiliary[k].Of.Const - iw (c.Auxiliary[k].By - 1)) := by
      rw [iw_eq (z := c.Auxiliary[k].Of.Const - c.Auxiliary[k].By) (by omega) (by omega), iw_eq (z := c.Auxiliary[k].By - 1) (by omega) (by omega)]
      congr 1; omega
     dsimp only
     rw [m1, m2, m3]; rfl
 · have : k = c.Auxiliary.length := by omega
   subst this
   exact Tm.neg (by omega) (Tm.some hs)
theorem vInts_tm (hv : ClOk c l) (hs : SmC c) (hr : RgOk l rg) (hl : l.length ≤ 10) : Tm (fun N => vInts N l c rg) (· = (((l.length + c.Auxiliary.length : Nat) : Int), intsOf l c rg)) := by
 have h1 := hs.ax; have h2 := hs.it
 have hnl := hv.nn.len
 have hn2 := len2 (nnOf_len (l := l)) c.NotNull
 unfold vInts
 refine (vInts_b1_tm hv.nn hl).eq ((vInts_b2_tm hv hs hr hl (by omega)).eq ?_)
 have ha2 := len2 (axAt_len (l := l) (rg := rg) (ax := c.Auxiliary)) (List.range c.Auxiliary.length)
 rw [List.length_range] at ha2
 refine Tm.bind (Q := fun r => r = intsOf l c rg) ?_ fun r hr' => Tm.some (by rw [hr']; rw [iw_eq] <;> first | rfl | omega)
 refine Tm.up c.Ints.length (fun k s => s.2 = (k : Int) ∧ s.1 = c.NotNull.flatMap (nnOf l) ++ (List.range c.Auxiliary.length).flatMap (axAt l rg c.Auxiliary) ++ c.Ints.take k) ⟨rfl, by simp⟩ ?_
 rintro k hk ⟨s, i⟩ ⟨hi, hs'⟩
 dsimp only at hi hs'; subst hi; subst hs'
 unfold vInts_b3
 dsimp only
 rcases Nat.lt_or_ge k c.Ints.length with hlt | hge
 · have hf := hv.it _ (List.getElem_mem hlt)
   have hfl := hf.len
   refine Tm.pos (by omega) (Tm.step (idx_n hlt) ?_)
   have hcl : Tm (fun N => cloneCoef N c.Ints[k].Linear.Coefs) (· = c.Ints[k].Linear.Coefs) := by
    unfold cloneCoef
    rw [apnd_ok (by simp only [List.length_nil]; omega) (by decide)]
    exact Tm.some rfl
   refine hcl.eq ?_
   rw [apnd_ok (by rw [List.length_append, List.length_append, List.length_take, List.length_singleton]; omega) (by decide)]
   refine Tm.some ⟨hlt, iw_n (by omega), ?_⟩
   rw [List.take_succ_eq_append_getElem hlt, ← List.append_assoc]
 · refine Tm.neg (by omega) (Tm.some ?_)
   show _ = _
   rw [List.take_of_length_le hge]; rfl
theorem wInts_tm (hv : ClOk c l) (hs : SmC c) (hr : RgOk l rg) (hl : l.length ≤ 10) : Tm (fun N => wInts N l c rg) (· = intsOf l c rg) := by
 have h1 := hs.ax; have h2 := hs.it
 have hnl := hv.nn.len
 have hn2 := len2 (nnOf_len (l := l)) c.NotNull
 unfold wInts
 refine (wInts_b1_tm hv.nn hl).eq ((wInts_b2_tm hv hs hr hl (by omega)).eq ?_)
 have ha2 := len2 (axAt_len (l := l) (rg := rg) (ax := c.Auxiliary)) (List.range c.Auxiliary.length)
 rw [List.length_range] at ha2
 dsimp only
 rw [apnd_ok (by rw [List.length_append]; omega) (by decide)]
 exact Tm.some rfl
theorem intsOf_len (hv : ClOk c l) (hs : SmC c) (hl : l.length ≤ 10) : (intsOf l c rg).length ≤ 1000 := by
 have h1 := hs.ax; have h2 := hs.it
 have hnl := hv.nn.len
 have hn2 := len2 (nnOf_len (l := l)) c.NotNull
 have ha2 := len2 (axAt_len (l := l) (rg := rg) (ax := c.Auxiliary)) (List.range c.Auxiliary.length)
 rw [List.length_range] at ha2
 unfold intsOf
 rw [List.length_append, List.length_append]; omega
theorem wSame_self {a : List Constraint} (ha : a.length ≤ Bg) (hc : ∀ x ∈ a, x.Linear.Coefs.length ≤ Bg) : Tm (fun N => wSame N a a) (· = true) := by
 have hb : Bg = 9223372036854775807 := rfl
 unfold wSame
 refine Tm.neg (by simp) ?_
 refine (Tm.allL (b := fun N => wSame_b1 N a a) a (fun _ => true) (by omega) (fun k hk => ?_) ?_).eq ?_
 · unfold wSame_b1
   refine Tm.pos (by omega) ?_
   simp only [idx_n hk, Option.bind_some]
   have hck := hc _ (List.getElem_mem hk)
   refine Tm.bind (Q := fun b => b = false) ?_ fun b hb' => ?_
   · refine Tm.neg (by simp) (Tm.neg (by simp) (Tm.some (by simp)))
   · subst hb'
     refine Tm.neg (by simp) ?_
     refine (Tm.allL (b := fun N => wSame_b2 N a[k].Linear a[k].Linear) a[k].Linear.Coefs (fun _ => true) (by omega) (fun j hj => ?_) ?_).eq ?_
     · unfold wSame_b2
       refine Tm.pos (by omega) (Tm.step (idx_n hj) (Tm.step (idx_n hj) (Tm.neg (fun h => h ⟨rfl, rfl⟩) (Tm.some rfl))))
     · unfold wSame_b2
       exact Tm.neg (by omega) (Tm.some rfl)
     · rw [List.all_eq_true.2 fun _ _ => rfl]
       exact Tm.some rfl
 · unfold wSame_b1
   exact Tm.neg (by omega) (Tm.some rfl)
 · rw [List.all_eq_true.2 fun _ _ => rfl]
   exact Tm.some rfl
end
end Go.D

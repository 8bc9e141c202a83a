/-
 Solve finds a solution exactly if there is one. Plain theorems.
-/
import Derived.Test.YtaakoedphmeenaaK12
set_option linter.unusedSimpArgs false
set_option linter.unusedVariables false
namespace Go.D
open Go Go.X
def wrd (c : TClass) : TClass := TClass.mk c.low c.high c.tests ((allw c).take (c.apart.length + 1)) c.apart
structure Gr (m : Nat) (last : List Int) (removed : List Bool) (ns : List Nat) : Prop where
 e : last = nI ns
 nd : ns.Nodup
 lt : ∀ k ∈ ns, k < m
 len : removed.length = m
 iff : ∀ k, k < m → (removed[k]? = some true ↔ k ∈ ns)
section
variable {l : List TClass}
theorem tSolve_b2_tm (hl : l.length ≤ 1000) {x : List Int} (hx : x.length = l.length) : Tm (fun N => loopM (tSolve_b2 N l) N (x, 0)) (fun r => r.length = l.length) := by
 refine Tm.up l.length (fun k s => s.2 = (k : Int) ∧ s.1.length = l.length) ⟨rfl, hx⟩ ?_
 rintro k hk ⟨s, i⟩ ⟨hi, hs⟩
 dsimp only at hi hs; subst hi
 unfold tSolve_b2
 dsimp only
 rcases Nat.lt_or_ge k l.length with hlt | hge
 · refine Tm.pos (by omega) (Tm.step (idx_n hlt) (Tm.step (idx_n (by omega)) ?_))
   rw [upd1_i (n := k) rfl (by omega)]
   exact Tm.some ⟨hlt, iw_n (by omega), by rw [List.length_set]; exact hs⟩
 · exact Tm.neg (by omega) (Tm.some hs)
theorem tSolve_b5_tm (hA : Adj l) {k : Nat} {c : TClass} (ec : l[k]? = some c) (hc : c.apart.length ≤ 1000) {x : List Int} (hx : x.length = l.length) : Tm (fun N => loopM (tSolve_b5 N c) N (x, 0)) (fun r => r.length = l.length) := by
 refine Tm.up c.apart.length (fun k s => s.2 = (k : Int) ∧ s.1.length = l.length) ⟨rfl, hx⟩ ?_
 rintro j hj ⟨s, i⟩ ⟨hi, hs⟩
 dsimp only at hi hs; subst hi
 unfold tSolve_b5
 dsimp only
 rcases Nat.lt_or_ge j c.apart.length with hlt | hge
 · obtain ⟨q, eq, hq, _⟩ := hA.lt _ _ ec _ (List.getElem_mem hlt)
   refine Tm.pos (by omega) (Tm.step (idx_n hlt) ?_)
   rw [eq]
   refine Tm.step (idx_n (by omega)) (Tm.step (idx_n (by omega)) ?_)
   rw [upd1_i (n := q) rfl (by omega)]
   exact Tm.some ⟨hlt, iw_n (by omega), by rw [List.length_set]; exact hs⟩
 · exact Tm.neg (by omega) (Tm.some hs)
theorem tSolve_b4_tm (hA : Adj l) (hl : l.length ≤ 1000) (hc : ∀ c ∈ l, c.words.length ≤ 1000 ∧ c.apart.length ≤ 1000) {last left : List Int} {removed : List Bool} {ns : List Nat} (hg : Gr l.length last removed ns) (hlf : left.length = l.length) :
 Tm (fun N => loopM (tSolve_b4 N l) N (last, left, removed, false, 0)) (fun r => ∃ ns', Gr l.length r.1 r.2.2.1 ns' ∧ r.2.1.length = l.length ∧ ns.length ≤ ns'.length ∧ (r.2.2.2 = true → ns.length < ns'.length)) := by
 refine Tm.up l.length (fun k s => s.2.2.2.2 = (k : Int) ∧ ∃ ns', Gr l.length s.1 s.2.2.1 ns' ∧ s.2.1.length = l.length ∧ ns.length ≤ ns'.length ∧ (s.2.2.2.1 = true → ns.length < ns'.length)) ⟨rfl, ns, hg, hlf, Nat.le_refl _, fun e => by simp at e⟩ ?_
 rintro k hk ⟨la, lf, rm, ch, i⟩ ⟨hi, ns', hG, h1, h2, h3⟩
 dsimp only at hi hG h1 h2 h3; subst hi
 unfold tSolve_b4
 dsimp only
 have hrl := hG.len
 rcases Nat.lt_or_ge k l.length with hlt | hge
 · refine Tm.pos (by omega) ?_
   have ek : l[k]? = some l[k] := List.getElem?_eq_getElem hlt
   obtain ⟨hw, ha⟩ := hc _ (List.getElem_mem hlt)
   have key : Tm (fun N => (((idx rm (k : Int)).bind fun x8011 => (if (!x8011) = true then (idx l (k : Int)).bind fun x8022 => (idx lf (k : Int)).bind fun x8042 => some (decide (((List.length x8022.words : Int) : Int) > x8042)) else some false) : Option Bool))) (fun b => b = true → rm[k]? = some false) := by
    refine Tm.step (idx_n (by omega)) ?_
    cases e : rm[k]'(by omega) with
    | true => exact Tm.neg (by simp) (Tm.some fun h => by simp at h)
    | false => exact Tm.pos rfl (Tm.step (idx_n hlt) (Tm.step (idx_n (by omega)) (Tm.some fun _ => by rw [List.getElem?_eq_getElem (by omega), e])))
   refine key.bind fun b hb => ?_
   cases b with
   | true =>
    have hf := hb rfl
    have hkn : k ∉ ns' := fun h => by
     have := (hG.iff k hlt).2 h
     rw [hf] at this; simp at this
    have hnl := nodup_bound hG.nd hG.lt
    refine Tm.pos rfl (Tm.step (idx_n (by omega)) ?_)
    rw [upd1_i (n := k) rfl (by omega), hG.e]
    simp only [Option.bind_some]
    rw [apnd_ok (by simp only [nI, List.length_map, List.length_singleton]; omega) (by decide)]
    simp only [Option.bind_some]
    refine Tm.step (idx_n hlt) ((tSolve_b5_tm hA ek ha h1).bind fun lf' hlf' => ?_)
    refine Tm.some ⟨hlt, iw_n (by omega), ns' ++ [k], ⟨by simp [nI], ?_, ?_, by rw [List.length_set]; exact hrl, fun q hq => ?_⟩, hlf', by rw [List.length_append, List.length_singleton]; omega, fun _ => by rw [List.length_append, List.length_singleton]; omega⟩
    · rw [List.nodup_append]
      exact ⟨hG.nd, by simp, fun a ha' b hb' => by rw [List.mem_singleton.1 hb']; rintro rfl; exact hkn ha'⟩
    · intro q hq
      rcases List.mem_append.1 hq with hq | hq
      · exact hG.lt q hq
      · rw [List.mem_singleton.1 hq]; exact hlt
    · show (rm.set k true)[q]? = some true ↔ _
      rw [set_get (by omega), List.mem_append, List.mem_singleton]
      by_cases e : k = q
      · rw [if_pos e]; exact ⟨fun _ => .inr e.symm, fun _ => rfl⟩
      · rw [if_neg e, hG.iff q hq]
        exact ⟨.inl, fun h => h.resolve_right fun h => e h.symm⟩
   | false =>
    exact Tm.neg (by simp) (Tm.some ⟨hlt, iw_n (by omega), ns', hG, h1, h2, h3⟩)
 · exact Tm.neg (by omega) (Tm.some ⟨ns', hG, h1, h2, h3⟩)
theorem tSolve_b3_tm (hA : Adj l) (hl : l.length ≤ 1000) (hc : ∀ c ∈ l, c.words.length ≤ 1000 ∧ c.apart.length ≤ 1000) {left : List Int} (hlf : left.length = l.length) :
 Tm (fun N => loopM (tSolve_b3 N l) N (([] : List Int), left, List.replicate l.length false, true)) (fun r => ∃ ns, Gr l.length r.1 r.2 ns) := by
 refine Tm.loopG (fun (m : Nat) s => ∃ ns, Gr l.length s.1 s.2.2.1 ns ∧ s.2.1.length = l.length ∧ m = 2 * (l.length - ns.length) + (if s.2.2.2 then 1 else 0)) (fun m => m) _ ⟨[], ⟨rfl, List.nodup_nil, fun k h => absurd h List.not_mem_nil, by simp, fun k hk => by rw [List.getElem?_replicate]; split <;> simp⟩, hlf, rfl⟩ ?_
 rintro m ⟨la, lf, rm, ch⟩ ⟨ns, hG, h1, hm⟩
 dsimp only at hG h1 hm; subst hm
 unfold tSolve_b3
 dsimp only
 cases ch with
 | true =>
  refine Tm.pos rfl ((tSolve_b4_tm hA hl hc hG h1).bind fun r hr => ?_)
  obtain ⟨la', lf', rm', ch'⟩ := r
  obtain ⟨ns', g1, g2, g3, g4⟩ := hr
  dsimp only at g1 g2 g3 g4
  refine Tm.some ⟨_, ⟨ns', g1, g2, rfl⟩, ?_⟩
  have b1 := nodup_bound hG.nd hG.lt
  have b2 := nodup_bound g1.nd g1.lt
  dsimp only
  cases ch' with
  | true => have := g4 rfl; simp only [if_true]; omega
  | false => simp only [Bool.false_eq_true, if_false, if_true]; omega
 | false => exact Tm.neg (by simp) (Tm.some ⟨ns, hG⟩)
theorem tSolve_b6_tm (hl : l.length ≤ 1000) {removed : List Bool} (hr : removed.length = l.length) : Tm (fun N => loopM (tSolve_b6 N l removed) N (([] : List Int), 0)) (· = nI ((List.range l.length).filter fun k => decide (removed[k]? ≠ some true))) := by
 refine Tm.up l.length (fun k s => s.2 = (k : Int) ∧ s.1 = nI ((List.range k).filter fun k => decide (removed[k]? ≠ some true))) ⟨rfl, rfl⟩ ?_
 rintro k hk ⟨s, i⟩ ⟨hi, hs⟩
 dsimp only at hi hs; subst hi; subst hs
 unfold tSolve_b6
 dsimp only
 rcases Nat.lt_or_ge k l.length with hlt | hge
 · refine Tm.pos (by omega) (Tm.step (idx_n (by omega)) ?_)
   have hfl : (nI ((List.range k).filter fun k => decide (removed[k]? ≠ some true))).length ≤ k := by
    unfold nI
    rw [List.length_map]
    have := List.length_filter_le (fun k => decide (removed[k]? ≠ some true)) (List.range k)
    simpa using this
   have e : removed[k]? = some (removed[k]'(by omega)) := List.getElem?_eq_getElem (by omega)
   cases g : removed[k]'(by omega) with
   | true =>
    rw [g] at e
    refine Tm.neg (by simp) (Tm.some ⟨hlt, iw_n (by omega), ?_⟩)
    rw [List.range_succ, List.filter_append, List.filter_cons_of_neg (by simp [e])]
    simp
   | false =>
    rw [g] at e
    refine Tm.pos rfl ?_
    rw [apnd_ok (by simp only [List.length_singleton]; omega) (by decide)]
    refine Tm.some ⟨hlt, iw_n (by omega), ?_⟩
    rw [List.range_succ, List.filter_append, List.filter_cons_of_pos (by simp [e])]
    simp [nI]
 · have : k = l.length := by omega
   subst this
   exact Tm.neg (by omega) (Tm.some rfl)
end
section
variable {p : TProb} {L : List Int} {l : List TClass}
theorem tSolve_b1_tm (hp : OkP p) (hm : Lms p) (hd : p.Different.length ≤ 98) (hL : Lb p L) (hG : Gat p L l) (hA : Ap p L p.Different.length l) {num : List Int} {ok : Bool} :
 Tm (fun N => loopM (tSolve_b1 N (l, num, ok)) N (l, 0)) (fun o => match o with | .inl r => r = l.map wrd | .inr z => z = ([], false) ∧ ∃ (k : Nat) (c : TClass), l[k]? = some c ∧ allw c = []) := by
 have hlen := hG.len
 have hmm := rk_le' (L := L)
 have hle := hp.le
 have hll := hL.len
 refine Tm.up l.length (fun k s => s.2 = (k : Int) ∧ s.1 = (l.take k).map wrd ++ l.drop k) ⟨rfl, by simp⟩ ?_
 rintro k hk ⟨s, i⟩ ⟨hi, hs⟩
 dsimp only at hi hs; subst hi; subst hs
 unfold tSolve_b1
 dsimp only
 rcases Nat.lt_or_ge k l.length with hlt | hge
 · have ek : l[k]? = some l[k] := List.getElem?_eq_getElem hlt
   obtain ⟨c, ec, hC⟩ := hG.ok k (by omega)
   have hck : c = l[k] := by rw [ek] at ec; exact (Option.some.inj ec).symm
   have hcok := hC.cok hp hm
   have hap := hA.le k c ec
   have htl : ((l.take k).map wrd).length = k := by rw [List.length_map, List.length_take]; omega
   have hsl : ((l.take k).map wrd ++ l.drop k).length = l.length := by rw [List.length_append, htl, List.length_drop]; omega
   have e1 : ((l.take k).map wrd ++ l.drop k)[k]? = some c := by
    rw [List.getElem?_append_right (by omega), htl, Nat.sub_self, List.getElem?_drop]; exact ec
   refine Tm.pos (by omega) (Tm.step (idx_get e1) (Tm.step (idx_get e1) ?_))
   rw [iw_n (by omega)]
   refine (tfirst_tm hcok (m := c.apart.length + 1) (by omega)).eq ?_
   refine Tm.step (idx_get e1) ?_
   rw [upd1_i (n := k) rfl (by omega)]
   simp only [Option.bind_some]
   have e2 : ((l.take k).map wrd ++ l.drop k).set k (TClass.mk c.low c.high c.tests ((allw c).take (c.apart.length + 1)) c.apart) = (l.take (k + 1)).map wrd ++ l.drop (k + 1) := by
    rw [List.set_append_right _ _ (by omega), htl, Nat.sub_self, List.drop_eq_getElem_cons hlt, List.set_cons_zero, List.take_succ_eq_append_getElem hlt, List.map_append, List.append_assoc, ← hck]
    rfl
   rw [e2]
   have e3 : ((l.take (k + 1)).map wrd ++ l.drop (k + 1))[k]? = some (wrd c) := by
    rw [← e2, set_get (by omega), if_pos rfl]; rfl
   refine Tm.step (idx_get e3) ?_
   by_cases hz : ((wrd c).words.length : Int) = 0
   · refine Tm.pos hz (Tm.some ⟨rfl, k, c, ec, ?_⟩)
     have hz : ((allw c).take (c.apart.length + 1)).length = 0 := by
      have : (wrd c).words = (allw c).take (c.apart.length + 1) := rfl
      rw [this] at hz; omega
     rw [List.length_take] at hz
     exact List.eq_nil_of_length_eq_zero (by omega)
   · exact Tm.neg hz (Tm.some ⟨hlt, iw_n (by omega), rfl⟩)
 · have : k = l.length := by omega
   subst this
   refine Tm.neg (by simp) (Tm.some ?_)
   show _ = _
   simp
theorem tSolve_b7_tm (hp : OkP p) (hL : Lb p L) (hF : Fx p L) {l' : List TClass} {ok : Bool} {f : Nat → List UInt8} {chosen : List (List UInt8)} (hf : ∀ k, k < rk L L.length → chosen[k]? = some (f k)) :
 Tm (fun N => loopM (tSolve_b7 N (l', numOf L, ok) chosen) N (true, List.replicate (numOf L).length [], 0)) (fun r => r.length = p.Min.length ∧ ∀ v, v < p.Min.length → r[v]? = some (f (cls L v))) := by
 have hle := hp.le
 have hl := hL.len
 have hnl : (numOf L).length = p.Min.length := by rw [num_len, hl]
 refine Tm.up p.Min.length (fun k s => s.2.2 = (k : Int) ∧ s.1 = true ∧ s.2.1.length = p.Min.length ∧ ∀ v, v < k → s.2.1[v]? = some (f (cls L v))) ⟨rfl, rfl, by simp [hnl], fun v hv => by omega⟩ ?_
 rintro k hk ⟨al, s, i⟩ ⟨hi, ha, hsl, hs⟩
 dsimp only at hi ha hsl hs; subst hi; subst ha
 unfold tSolve_b7
 dsimp only
 rcases Nat.lt_or_ge k p.Min.length with hlt | hge
 · refine Tm.pos (by omega) (Tm.step (idx_get (num_get hL hlt)) (Tm.step (chk_ok rfl) (Tm.step (idx_get (hf _ (cls_lt hL hF hlt))) (Tm.step (idx_n (by omega)) ?_))))
   rw [upd1_i (n := k) rfl (by omega)]
   refine Tm.some ⟨hlt, iw_n (by omega), rfl, by rw [List.length_set]; exact hsl, fun v hv => ?_⟩
   show (s.set k _)[v]? = _
   rw [set_get (by omega)]
   by_cases e : k = v
   · subst e; rw [if_pos rfl]
   · rw [if_neg e]; exact hs v (by omega)
 · exact Tm.neg (by omega) (Tm.some ⟨hsl, fun v hv => hs v (by omega)⟩)
theorem tSolve1_tm {l : List TClass} {a b : Nat} (ha : a < l.length) (hb : b < l.length) : Tm (fun N => tSolve1 N (a : Int) (b : Int) l) (fun _ => True) := by
 unfold tSolve1
 exact Tm.step (idx_n ha) (Tm.step (idx_n hb) (Tm.some trivial))
theorem wrd_get {k : Nat} {c : TClass} (h : (l.map wrd)[k]? = some c) : ∃ c0, l[k]? = some c0 ∧ c = wrd c0 := by
 rw [List.getElem?_map] at h
 cases e : l[k]? with
 | none => rw [e] at h; simp at h
 | some c0 => rw [e] at h; exact ⟨c0, rfl, (Option.some.inj h).symm⟩
theorem tSolve_tm (hp : OkP p) (hm : Lms p) (hd : p.Different.length ≤ 98) (hn : p.Min.length ≤ 19) :
 Tm (fun N => tSolve N p) (fun r => (r.2 = true → sat p r.1 = true) ∧ (r.2 = false → r.1 = [] ∧ ∀ x, sat p x = false)) := by
 unfold tSolve
 refine (tgathered_tm hp hm).bind fun r6 h6 => ?_
 obtain ⟨l, num, ok⟩ := r6
 obtain ⟨L, hL, hF, e1, hG, hA, hno⟩ := h6
 dsimp only at e1 hG hA hno ⊢
 subst e1
 have hlen := hG.len
 have hmm := rk_le' (L := L)
 have hll := hL.len
 cases ok with
 | false =>
  refine Tm.pos rfl (Tm.some ⟨fun h => by simp at h, fun _ => ⟨rfl, fun x => ?_⟩⟩)
  cases hs : sat p x with
  | false => rfl
  | true =>
   obtain ⟨e, he, hce⟩ := hno rfl
   obtain ⟨f, hW, _⟩ := sat_split hp hm hL hF hG hs
   exact absurd (by rw [hce]) (hW.df e he)
 | true =>
  have hA := hA rfl
  refine Tm.neg (by simp) ((tSolve_b1_tm hp hm hd hL hG hA).bind fun o ho => ?_)
  cases o with
  | inr z =>
   obtain ⟨rfl, k, c, ec, hz⟩ := ho
   refine Tm.some ⟨fun h => by simp at h, fun _ => ⟨rfl, fun x => ?_⟩⟩
   cases hs : sat p x with
   | false => rfl
   | true =>
    obtain ⟨f, hW, _⟩ := sat_split hp hm hL hF hG hs
    have := hW.mem k c ec
    rw [hz] at this; cases this
  | inl l' =>
   have ho : l' = l.map wrd := ho
   have hadj0 := ap_adj hp hL hF hG hA
   have hl' : l'.length = l.length := by rw [ho, List.length_map]
   have hadj : Adj l' := by
    subst ho
    refine ⟨fun k c ec o ho => ?_, fun k c q d ec ed hq => ?_⟩
    · obtain ⟨c0, e0, rfl⟩ := wrd_get ec
      rw [List.length_map]; exact hadj0.lt k c0 e0 o ho
    · obtain ⟨c0, e0, rfl⟩ := wrd_get ec
      obtain ⟨d0, e0', rfl⟩ := wrd_get ed
      exact hadj0.symm k c0 q d0 e0 e0' hq
   have hcs : ∀ c ∈ l', c.words.length ≤ 1000 ∧ c.apart.length ≤ 1000 := by
    intro c hc
    obtain ⟨k, hk, e⟩ := List.getElem_of_mem hc
    have ek : l'[k]? = some c := by rw [List.getElem?_eq_getElem hk, e]
    subst ho
    obtain ⟨c0, e0, rfl⟩ := wrd_get ek
    have := hA.le k c0 e0
    refine ⟨?_, by show c0.apart.length ≤ _; omega⟩
    show ((allw c0).take (c0.apart.length + 1)).length ≤ _
    rw [List.length_take]; omega
   dsimp only
   rw [mk1_ok (n := l'.length) rfl (by omega) (by decide)]
   simp only [Option.bind_some]
   rw [mk1_ok (n := l'.length) rfl (by omega) (by decide)]
   simp only [Option.bind_some]
   refine (tSolve_b2_tm (by omega) (by simp)).bind fun lf hlf => ?_
   refine (tSolve_b3_tm hadj (by omega) hcs hlf).bind fun r hr => ?_
   obtain ⟨last, rm⟩ := r
   obtain ⟨ns, hgr⟩ := hr
   dsimp only at hgr ⊢
   refine (tSolve_b6_tm (by omega) hgr.len).eq ?_
   have hhl : (nI ((List.range l'.length).filter fun k => decide (rm[k]? ≠ some true))).length ≤ l'.length := by
    unfold nI
    rw [List.length_map]
    have := List.length_filter_le (fun k => decide (rm[k]? ≠ some true)) (List.range l'.length)
    simpa using this
   have hmemh : ∀ x ∈ nI ((List.range l'.length).filter fun k => decide (rm[k]? ≠ some true)), ∃ q : Nat, x = (q : Int) ∧ q < l'.length := by
    intro x hx
    unfold nI at hx
    obtain ⟨q, hq, rfl⟩ := List.mem_map.1 hx
    exact ⟨q, rfl, List.mem_range.1 (List.mem_filter.1 hq).1⟩
   refine (sortStable_tm (cmp := fun N y z => tSolve1 N y z l') (by omega) fun x hx y hy => ?_).bind fun so hso => ?_
   · obtain ⟨a, rfl, ha⟩ := hmemh x hx
     obtain ⟨b, rfl, hb⟩ := hmemh y hy
     exact tSolve1_tm ha hb
   have hlastl : last.length ≤ l'.length := by
    rw [hgr.e]; unfold nI
    rw [List.length_map]; exact nodup_bound hgr.nd hgr.lt
   refine (revInt_tm (by omega)).bind fun rv hrv => ?_
   have hsol := hso.length_eq
   have hrvl := hrv.length_eq
   rw [apnd_ok (by omega) (by decide)]
   simp only [Option.bind_some]
   have hperm : (so ++ rv).Perm (nI (((List.range l'.length).filter fun k => decide (rm[k]? ≠ some true)) ++ ns)) := by
    have := hso.append hrv
    rw [hgr.e] at this
    unfold nI at this ⊢
    rw [List.map_append]; exact this
   obtain ⟨os, eos, hos⟩ := nI_perm hperm
   rw [eos]
   have hmem : ∀ k, k ∈ os ↔ k < l'.length := by
    intro k
    rw [hos.mem_iff, List.mem_append, List.mem_filter, List.mem_range]
    constructor
    · rintro (h | h)
      · exact h.1
      · exact hgr.lt k h
    · intro h
      by_cases g : rm[k]? = some true
      · exact .inr ((hgr.iff k h).1 g)
      · exact .inl ⟨h, decide_eq_true g⟩
   have hnd : os.Nodup := by
    rw [hos.nodup_iff, List.nodup_append]
    refine ⟨List.nodup_range.sublist List.filter_sublist, hgr.nd, fun a ha b hb => ?_⟩
    rintro rfl
    have := of_decide_eq_true (List.mem_filter.1 ha).2
    exact this ((hgr.iff a (hgr.lt a hb)).2 hb)
   have hosl : os.length ≤ 1000 := by
    have := nodup_bound hnd fun k hk => (hmem k).1 hk
    omega
   refine Tm.bind (Q := fun z => ∃ r, Chosen l' os (List.replicate l'.length []) (List.replicate l'.length false) r ∧ z = (r.2.2.1, r.1, r.2.1)) ?_ fun z hz => ?_
   · rw [mk1_ok (n := l'.length) rfl (by omega) (by decide)]
     simp only [Option.bind_some]
     refine (tchoose_tm hadj (by omega) hcs os (List.replicate l'.length []) (List.replicate l'.length false) hnd (fun k hk => ⟨(hmem k).1 hk, by rw [List.getElem?_replicate, if_pos ((hmem k).1 hk)]⟩) (by simp) (by simp) hosl).bind fun r hr => Tm.some ⟨r, hr, rfl⟩
   · obtain ⟨r, hr, rfl⟩ := hz
     obtain ⟨al, okk, rw', rk'⟩ := r
     dsimp only
     have hDR : ∀ k q, Df p L p.Different.length k q → k < l.length ∧ ∃ c, l[k]? = some c ∧ (q : Int) ∈ c.apart := by
      intro k q h
      have h' := h.symm
      obtain ⟨e, he, g⟩ := h
      rw [List.take_length] at he
      have hve := hp.df e he
      have hkl : k < l.length := by
       rw [hlen]
       rcases g with ⟨g, _⟩ | ⟨g, _⟩
       · subst g; exact cls_lt hL hF (by omega)
       · subst g; exact cls_lt hL hF (by omega)
      exact ⟨hkl, _, List.getElem?_eq_getElem hkl, (hA.mem k _ (List.getElem?_eq_getElem hkl) _).2 ⟨q, rfl, h'.symm⟩⟩
     cases okk with
     | false =>
      refine Tm.pos rfl (Tm.some ⟨fun h => by simp at h, fun _ => ⟨rfl, fun x => ?_⟩⟩)
      cases hs : sat p x with
      | false => rfl
      | true =>
       exfalso
       obtain ⟨f, hW, _⟩ := sat_split hp hm hL hF hG hs
       obtain ⟨_, hnoext⟩ := hr.no rfl
       obtain ⟨g, hg1, hg2⟩ := trunc (m := l.length) (D := fun k => match l[k]? with | some c => allw c | none => []) (nb := fun k => match l[k]? with | some c => c.apart.map Int.toNat | none => []) (t := fun k => match l[k]? with | some c => c.apart.length + 1 | none => 1) (R := fun x y => Df p L p.Different.length x y)
        (fun k => by
         try dsimp only
         cases l[k]? with
         | none => exact List.nodup_nil
         | some c => exact allw_nodup)
        (fun k hk => by
         try dsimp only
         rw [List.getElem?_eq_getElem hk]
         simp)
        (fun x y hxy => by
         obtain ⟨h1, c, h2, h3⟩ := hDR x y hxy
         refine ⟨?_, hxy.symm, ?_⟩
         · try dsimp only
           rw [h2]
           exact List.mem_map.2 ⟨_, h3, rfl⟩
         · obtain ⟨q, e, _, h4⟩ := hadj0.lt x c h2 _ h3
           omega)
        (f := f)
        (fun k hk => by
         try dsimp only
         rw [List.getElem?_eq_getElem hk]
         exact hW.mem k _ (List.getElem?_eq_getElem hk))
        (fun x y hxy => by
         obtain ⟨e, he, h⟩ := hxy
         rw [List.take_length] at he
         have := hW.df e he
         rcases h with ⟨h1, h2⟩ | ⟨h1, h2⟩
         · rw [← h1, ← h2]; exact this
         · rw [← h1, ← h2]; exact fun e => this e.symm)
       refine hnoext g fun k hk => ?_
       have hkl : k < l.length := by rw [← hl']; exact (hmem k).1 hk
       have ek : l[k]? = some l[k] := List.getElem?_eq_getElem hkl
       refine ⟨wrd l[k], by rw [ho, List.getElem?_map, ek]; rfl, ?_, fun q hq => ⟨fun _ => ?_, fun hkn => ?_⟩⟩
       · have := hg1 k hkl
         try dsimp only at this
         rw [ek] at this
         exact this
       · have hq : (q : Int) ∈ l[k].apart := hq
         obtain ⟨q', e, hdf⟩ := (hA.mem k _ ek _).1 hq
         have : q = q' := by omega
         subst this
         exact hg2 k q hdf
       · rw [List.getElem?_replicate] at hkn
         by_cases hql : q < l'.length
         · rw [if_pos hql] at hkn; simp at hkn
         · rw [if_neg hql] at hkn; simp at hkn
     | true =>
      obtain ⟨y1, y2⟩ := hr.yes rfl
      dsimp only at y1 y2
      subst y1
      refine Tm.neg (by simp) ?_
      rw [mk1_ok (n := (numOf L).length) rfl (by rw [num_len]; omega) (by decide)]
      simp only [Option.bind_some]
      have hY : ∀ k, k < l.length → ∃ c w, l[k]? = some c ∧ rw'[k]? = some w ∧ w ∈ allw c ∧ ∀ q : Nat, (q : Int) ∈ c.apart → q < l.length → rw'[q]? ≠ some w := by
       intro k hk
       obtain ⟨c, w, ec, ew, hw, hq⟩ := y2 k ((hmem k).2 (by omega))
       rw [ho] at ec
       obtain ⟨c0, e0, rfl⟩ := wrd_get ec
       exact ⟨c0, w, e0, ew, List.mem_of_mem_take hw, fun q h1 h2 => hq q h1 (.inl ((hmem q).2 (by omega)))⟩
      have hfget : ∀ k, k < rk L L.length → rw'[k]? = some (rw'.getD k []) := by
       intro k hk
       obtain ⟨c, w, _, ew, _⟩ := hY k (by omega)
       rw [List.getD_eq_getElem?_getD, ew]; rfl
      refine (tSolve_b7_tm hp hL hF (f := fun k => rw'.getD k []) hfget).bind fun out hout => ?_
      refine Tm.some ⟨fun _ => ?_, fun h => by simp at h⟩
      refine sat_join hp hm hL hF hG (f := fun k => rw'.getD k []) ⟨fun k c ec => ?_, fun e he => ?_⟩ hout.1 hout.2
      · have hk : k < l.length := (List.getElem?_eq_some_iff.1 ec).1
        obtain ⟨c', w, ec', ew, hw, _⟩ := hY k hk
        rw [ec] at ec'
        have : c = c' := Option.some.inj ec'
        subst this
        try dsimp only
        rw [List.getD_eq_getElem?_getD, ew]; exact hw
      · have hve := hp.df e he
        obtain ⟨hk, c, ec, hq⟩ := hDR (cls L e.e0.toNat) (cls L e.e1.toNat) ⟨e, by rw [List.take_length]; exact he, .inl ⟨rfl, rfl⟩⟩
        obtain ⟨c', w, ec', ew, hw, hne⟩ := hY _ hk
        rw [ec] at ec'
        have : c = c' := Option.some.inj ec'
        subst this
        have hcl := cls_lt hL hF (show e.e1.toNat < p.Min.length by omega)
        have h1 := hne _ hq (by omega)
        have h2 := hfget _ hcl
        try dsimp only
        intro h3
        apply h1
        rw [h2, ← h3, List.getD_eq_getElem?_getD, ew]; rfl
end
end Go.D

/-
  A region whose operations are carried out in an order that is drawn: what is kept is said once for all orders; an operation may use up what an earlier one of the region has made. Plain theorems over any program.
-/
import Derived.Test.YtpfbdhfpojbmlaaDoorZ1
set_option linter.unusedSimpArgs false
set_option linter.unusedVariables false
namespace Go.X
open Go Go.RowKit

section
variable {P : Program} {l : List Oper} {n n0 : Nat} {K : Env → World → Prop} {e : Env} {w0 : World}

structure InvJ (l : List Oper) (n n0 : Nat) (e : Env) (w0 : World) (J : (Nat → Prop) → (Nat → Value) → World → Prop) (listed : Array Bool) (a : Act) (w : World) (vs : Nat → Value) : Prop where
  size : listed.size = l.length
  tmps : a.tmps.size = n
  defs : a.defers = []
  ext : Ext w0 w
  env1 : ∀ t j, j < n0 → dstAt l j = some t → lst listed j → envOf a t = vs j
  env2 : ∀ t, (∀ j, j < n0 → lst listed j → dstAt l j ≠ some t) → envOf a t = e t
  holds : J (lst listed) vs w

theorem lst_set_iff {listed : Array Bool} {i : Nat} (hi : i < listed.size) : lst (listed.setIfInBounds i true) = fun j => lst listed j ∨ j = i := by
  funext j
  apply propext
  constructor
  · exact lst_set
  · rintro (h | h)
    · exact getD_set_true h
    · subst h; simp [lst, hi]

theorem GOp.mono {o : Oper} {E : Env} {w : World} {R R' : Value → World → Prop} (h : GOp P l o E w R) (hR : ∀ v w', R v w' → R' v w') : GOp P l o E w R' := by
  unfold GOp at *
  cases hw : wantedE l o E with
  | true => rw [hw] at h; exact OpY.mono h hR
  | false => rw [hw] at h; exact hR _ _ h

/-- one operation of the head -/
theorem InvJ.step {J : (Nat → Prop) → (Nat → Value) → World → Prop} {listed : Array Bool} {a : Act} {w : World} {vs : Nat → Value} {Q : Exit → Act → World → Prop} {K' : Act → World → Prop} (hb : backOk l = true) (hh : headOk l n0 = true) (hu : uniqOk l n0 = true) (hok : dstsOk n l = true)
    (hS : ∀ i o, i < n0 → l[i]? = some o → ∀ (L : Nat → Prop) (vs : Nat → Value) (w : World), (∀ d ∈ depsOf o, L d) → ¬ L i → Ext w0 w → J L vs w →
      GOp P l o (envAll l e vs i) w fun v w' => Ext w0 w' ∧ J (fun j => L j ∨ j = i) (fun j => if j = i then v else vs j) w')
    (inv : InvJ l n n0 e w0 J listed a w vs) (hcl : ∀ j oj, l[j]? = some oj → lst listed j → ∀ d ∈ depsOf oj, lst listed d) {i : Nat} (hi : i < n0) (hr : i ∈ Region.ready .any l.toArray listed)
    (hk : ∀ a' w' vs', InvJ l n n0 e w0 J (listed.setIfInBounds i true) a' w' vs' → K' a' w') : wpOp P l.toArray Q i K' a w := by
  have hil : i < l.length := by
    obtain ⟨_, o, g2, _⟩ := mem_ready.1 hr
    rw [List.getElem?_toArray] at g2
    exact (List.getElem?_eq_some_iff.1 g2).1
  have ho : l[i]? = some l[i] := List.getElem?_eq_getElem hil
  obtain ⟨⟨d, hd⟩, hlook, hsel⟩ := head_at hh hi ho
  obtain ⟨hun, hdeps⟩ := ready_deps hr ho
  have hdst : dstAt l i = some d := by simp only [dstAt, ho]; exact hd
  have hsz : i < listed.size := by rw [inv.size]; omega
  have hset := lst_set_iff (listed := listed) hsz
  have hnl : ¬ lst listed i := by
    intro h; unfold lst at h
    simp [hsz] at hun h; rw [hun] at h; cases h
  have hdd : ∀ o, o ∈ l → ∀ d, o.dst = some d → d < a.tmps.size := by rw [inv.tmps]; exact dstsOk_spec hok
  have hagree : ∀ t, t ∈ looksE l l[i] → envAll l e vs i t = envOf a t := by
    intro t ht
    by_cases hex : ∃ j, j < n0 ∧ dstAt l j = some t
    · obtain ⟨j, hj, hjd⟩ := hex
      rcases look_at hlook ht hj hjd with ⟨h1, h2⟩ | ⟨h1, oj, h2, h3⟩
      · rw [envAll_at hjd i h2 (fun k hk hkd => uniq_at hu (by omega) hj hkd hjd), inv.env1 t j hj hjd (hdeps j h1)]
      · have hjn : ¬ lst listed j := fun h => hnl (hcl j oj h2 h i h3)
        rw [envAll_not i (fun k hk hkd => by have := uniq_at hu (show k < n0 by omega) hj hkd hjd; omega), inv.env2 t (fun k hk hl hkd => by have := uniq_at hu hk hj hkd hjd; subst this; exact hjn hl)]
    · rw [envAll_not i (fun j hj hjd => hex ⟨j, by omega, hjd⟩), inv.env2 t (fun j hj _ hjd => hex ⟨j, hj, hjd⟩)]
  have hop := hS i l[i] hi ho (lst listed) vs w hdeps hnl inv.ext inv.holds
  refine wpOp_of_GOp hdd ho (GOp_congr hsel hagree hop) fun v w' hv => ?_
  refine hk _ w' (fun j => if j = i then v else vs j) ⟨by simp [inv.size], by rw [put_size]; exact inv.tmps, by rw [put_defers']; exact inv.defs, hv.1, ?_, ?_, ?_⟩
  · intro t j hj hjd hl
    rw [hd, envOf_put a inv.tmps (by rw [← inv.tmps]; exact hdd _ (List.mem_of_getElem? ho) d hd)]
    by_cases hji : j = i
    · subst hji
      rw [hdst] at hjd; cases hjd
      simp [upd_same]
    · have htd : t ≠ d := fun h => hji (uniq_at hu hj hi hjd (by rw [hdst, h]))
      rw [upd_other _ _ htd]
      simp only [hji, if_false]
      rw [hset] at hl
      exact inv.env1 t j hj hjd (hl.resolve_right hji)
  · intro t ht
    rw [hd, envOf_put a inv.tmps (by rw [← inv.tmps]; exact hdd _ (List.mem_of_getElem? ho) d hd)]
    rw [hset] at ht
    have htd : t ≠ d := fun h => ht i hi (.inr rfl) (by rw [hdst, h])
    rw [upd_other _ _ htd]
    exact inv.env2 t (fun j hj hl => ht j hj (.inl hl))
  · rw [hset]; exact hv.2

/-! ## Operations that read late -/
/-- the head: as above, but the tail need not wait for the late ones -/
def sinkL (l : List Oper) (n0 : Nat) (lt : List Nat) : Bool := Nat.beq n0 l.length || (List.range n0).all fun i => memN i lt || (List.range (n0 + 1)).any fun j => Nat.blt i j && waitB l j i && !memN j lt
/-- a late one looks at nothing that comes behind it; the tail looks at what a late one hands on only where it is waited for -/
def lateOk (l : List Oper) (n0 : Nat) (lt : List Nat) : Bool := lt.isEmpty || ((lt.all fun i => Nat.blt i n0 && match l[i]? with
    | some o => (looksE l o).all fun x => (List.range n0).all fun j => !(dstAt l j == some x) || (memN j (depsOf o) && Nat.blt j i)
    | none => false) &&
  (List.range l.length).all fun t => Nat.blt t n0 || match l[t]? with
    | some o => !isSel o.op && lt.all fun i => (looksE l o).all (fun x => !(dstAt l i == some x)) || (List.range (t + 1)).any fun j => Nat.ble n0 j && waitB l j i
    | none => true)
def drawOkL (l : List Oper) (n0 : Nat) (lt : List Nat) : Bool := Nat.ble n0 l.length && headOk l n0 && uniqOk l n0 && backOk l && sinkL l n0 lt && chainOk l n0 && lateOk l n0 lt
theorem drawOkL_spec {lt : List Nat} (h : drawOkL l n0 lt = true) : n0 ≤ l.length ∧ headOk l n0 = true ∧ uniqOk l n0 = true ∧ backOk l = true ∧ sinkL l n0 lt = true ∧ chainOk l n0 = true ∧ lateOk l n0 lt = true := by
  simp only [drawOkL, Bool.and_eq_true] at h
  obtain ⟨⟨⟨⟨⟨⟨h1, h2⟩, h3⟩, h4⟩, h5⟩, h6⟩, h7⟩ := h
  exact ⟨by simpa using h1, h2, h3, h4, h5, h6, h7⟩
/-- a late one hands on what the text says, and turns nothing -/
def LateP (P : Program) (l : List Oper) (lt : List Nat) (E : Env) (w : World) : Prop := ∀ i ∈ lt, ∀ o, l[i]? = some o → GOp P l o E w fun v w' => (∃ d, o.dst = some d ∧ v = E d) ∧ w' = w
/-- the tail, while late ones may be open -/
def RlL (P : Program) (l : List Oper) (K : Env → World → Prop) : List Nat → List Oper → Env → World → Prop
  | _, [], e, w => K e w
  | lt, o :: r, e, w => GOp P l o e w fun v w' => LateP P l (lt.filter fun i => !memN i (depsOf o)) (updo e o.dst v) w' ∧ RlL P l K (lt.filter fun i => !memN i (depsOf o)) r (updo e o.dst v) w'
theorem RlL_nil : ∀ {r : List Oper} {E : Env} {w : World}, Rl P l r K E w → RlL P l K [] r E w
  | [], E, w, h => h
  | o :: r, E, w, h => by
    rw [Rl_GOp] at h
    exact GOp.mono h fun v w' h' => ⟨fun i hi => (by cases hi), RlL_nil h'⟩
theorem allListed {listed : Array Bool} (hs : listed.size = l.length) (hb : backOk l = true) (hr : Region.ready .any l.toArray listed = []) : ∀ j, j < l.length → lst listed j := by
  intro m
  induction m using Nat.strongRecOn with
  | _ m ih =>
    intro hm
    refine Classical.byContradiction fun hml => ?_
    have hmo : l[m]? = some l[m] := List.getElem?_eq_getElem hm
    have : m ∈ Region.ready .any l.toArray listed := by
      refine ready_of hmo ?_ (fun d hd => ih d (back_at hb hmo hd) (by have := back_at hb hmo hd; omega))
      unfold lst at hml
      simp [hs, hm] at hml ⊢; exact hml
    rw [hr] at this; cases this
/-- the tail under way -/
structure Inv2 (l : List Oper) (n n0 : Nat) (lt : List Nat) (t : Nat) (listed : Array Bool) (a : Act) (E : Env) (ltr : List Nat) : Prop where
  size : listed.size = l.length
  tmps : a.tmps.size = n
  defs : a.defers = []
  t0 : n0 ≤ t
  t1 : t ≤ l.length
  tail : ∀ j, t ≤ j → j < l.length → ¬ lst listed j
  cl : ∀ j oj, l[j]? = some oj → lst listed j → ∀ d ∈ depsOf oj, lst listed d
  done : ∀ j, n0 ≤ j → j < t → lst listed j
  late : ∀ i, i < n0 → ¬ lst listed i → i ∈ ltr
  sub : ∀ i ∈ ltr, i ∈ lt
  env : ∀ x, (∀ i, i < n0 → ¬ lst listed i → dstAt l i ≠ some x) → envOf a x = E x
theorem unl {listed : Array Bool} (hs : listed.size = l.length) {j : Nat} (hj : j < l.length) : ¬ lst listed j ↔ listed.getD j true = false := by
  unfold lst; simp [hs, hj]
theorem lst_lt {listed : Array Bool} (hs : listed.size = l.length) {j : Nat} (h : lst listed j) : j < l.length := by
  rcases Nat.lt_or_ge j l.length with h1 | h1
  · exact h1
  · unfold lst at h
    rw [Array.getD_eq_getD_getElem?, Array.getElem?_eq_none (by rw [hs]; exact h1)] at h
    cases h
theorem set_lst {listed : Array Bool} (hs : listed.size = l.length) {i j : Nat} (hi : i < l.length) : lst (listed.setIfInBounds i true) j ↔ (lst listed j ∨ j = i) := by
  rw [lst_set_iff (by omega)]
theorem cl_set {listed : Array Bool} (hs : listed.size = l.length) {i : Nat} (hi : i < l.length) (hcl : ∀ j oj, l[j]? = some oj → lst listed j → ∀ d ∈ depsOf oj, lst listed d) (hd : ∀ d ∈ depsOf l[i], lst listed d) :
    ∀ j oj, l[j]? = some oj → lst (listed.setIfInBounds i true) j → ∀ d ∈ depsOf oj, lst (listed.setIfInBounds i true) d := by
  intro j oj hoj hjl d hdm
  rw [set_lst hs hi] at hjl ⊢
  rcases hjl with h1 | h1
  · exact .inl (hcl j oj hoj h1 d hdm)
  · subst h1
    rw [List.getElem?_eq_getElem hi] at hoj
    cases hoj
    exact .inl (hd d hdm)
theorem Inv2.next {lt ltr : List Nat} {t : Nat} {listed : Array Bool} {a : Act} {w : World} {E : Env} {Q : Exit → Act → World → Prop} {K' : Act → World → Prop} (hok : dstsOk n l = true) (hdr : drawOkL l n0 lt = true) (inv : Inv2 l n n0 lt t listed a E ltr)
    (hR : RlL P l K ltr (l.drop t) E w) (ht : t < l.length) (hr : t ∈ Region.ready .any l.toArray listed)
    (hk : ∀ a' w' E' ltr', Inv2 l n n0 lt (t + 1) (listed.setIfInBounds t true) a' E' ltr' → LateP P l ltr' E' w' → RlL P l K ltr' (l.drop (t + 1)) E' w' → K' a' w') : wpOp P l.toArray Q t K' a w := by
  obtain ⟨hn, hh, hu, hb, hsk, hch, hlo⟩ := drawOkL_spec hdr
  have ho : l[t]? = some l[t] := List.getElem?_eq_getElem ht
  obtain ⟨hun, hdeps⟩ := ready_deps hr ho
  have hdd : ∀ o, o ∈ l → ∀ d, o.dst = some d → d < a.tmps.size := by rw [inv.tmps]; exact dstsOk_spec hok
  rw [List.drop_eq_getElem_cons ht] at hR
  simp only [RlL] at hR
  have fin : ∀ v w', (LateP P l (ltr.filter fun i => !memN i (depsOf l[t])) (updo E l[t].dst v) w' ∧ RlL P l K (ltr.filter fun i => !memN i (depsOf l[t])) (l.drop (t + 1)) (updo E l[t].dst v) w') → K' (a.put l[t].dst v) w' := by
    intro v w' hv
    refine hk _ w' _ _ ⟨by simp [inv.size], by rw [put_size]; exact inv.tmps, by rw [put_defers']; exact inv.defs, by have := inv.t0; omega, by omega, ?_, ?_, ?_, ?_, ?_, ?_⟩ hv.1 hv.2
    · intro j hj hjl
      rw [set_lst inv.size ht]
      rintro (h1 | h1)
      · exact inv.tail j (by omega) hjl h1
      · omega
    · exact cl_set inv.size ht inv.cl hdeps
    · intro j h1 h2
      rw [set_lst inv.size ht]
      by_cases hjt : j = t
      · exact .inr hjt
      · exact .inl (inv.done j h1 (by omega))
    · intro i hi hil
      rw [set_lst inv.size ht] at hil
      have hil' : ¬ lst listed i := fun h => hil (.inl h)
      refine List.mem_filter.2 ⟨inv.late i hi hil', ?_⟩
      cases hm : memN i (depsOf l[t]) with
      | false => rfl
      | true => exact absurd (hdeps i (memN_iff.1 hm)) hil'
    · intro i hi
      exact inv.sub i (List.mem_filter.1 hi).1
    · intro x hx
      have hx' : ∀ i, i < n0 → ¬ lst listed i → dstAt l i ≠ some x := by
        intro i hi hil
        refine hx i hi ?_
        rw [set_lst inv.size ht]
        rintro (h1 | h1)
        · exact hil h1
        · have := inv.t0; omega
      have he := inv.env x hx'
      cases hd : l[t].dst with
      | none => exact he
      | some d =>
        rw [envOf_put a inv.tmps (by rw [← inv.tmps]; exact hdd _ (List.mem_of_getElem? ho) d hd)]
        simp only [updo]
        by_cases hxd : x = d
        · subst hxd; rw [upd_same, upd_same]
        · rw [upd_other _ _ hxd, upd_other _ _ hxd]; exact he
  by_cases hlt : lt = []
  · -- nothing is late
    have hall : ∀ i, i < n0 → lst listed i := fun i hi => Classical.byContradiction fun h => by have := inv.sub i (inv.late i hi h); rw [hlt] at this; cases this
    have hE : E = envOf a := by
      funext x
      exact (inv.env x (fun i hi hil => absurd (hall i hi) hil)).symm
    rw [hE] at hR fin
    exact wpOp_of_GOp hdd ho hR fin
  · have hlo' := hlo
    simp only [lateOk, Bool.or_eq_true, Bool.and_eq_true, List.isEmpty_iff] at hlo'
    have h2 := List.all_eq_true.1 ((hlo'.resolve_left hlt).2) t (List.mem_range.2 ht)
    rw [ho] at h2
    simp only [Bool.or_eq_true, Bool.and_eq_true, Bool.not_eq_true'] at h2
    have h3 : isSel l[t].op = false ∧ _ := h2.resolve_left (by have := inv.t0; simp; omega)
    refine wpOp_of_GOp hdd ho (GOp_congr h3.1 (fun x hx => ?_) hR) fin
    symm
    refine inv.env x (fun i hi hil hdi => ?_)
    have h4 := List.all_eq_true.1 h3.2 i (inv.sub i (inv.late i hi hil))
    simp only [Bool.or_eq_true] at h4
    rcases h4 with h4 | h4
    · have := List.all_eq_true.1 h4 x hx
      rw [hdi] at this; simp at this
    · obtain ⟨j, hj, h5⟩ := List.any_eq_true.1 h4
      simp only [Bool.and_eq_true] at h5
      have hjt : j ≤ t := by have := List.mem_range.1 hj; omega
      have hj0 : n0 ≤ j := by simpa using h5.1
      have h6 := h5.2
      unfold waitB at h6
      rw [List.getElem?_eq_getElem (by omega : j < l.length)] at h6
      have h7 := memN_iff.1 h6
      by_cases hjt' : j = t
      · subst hjt'; exact hil (hdeps i h7)
      · exact hil (inv.cl j _ (List.getElem?_eq_getElem (by omega)) (inv.done j hj0 (by omega)) i h7)
theorem tailL {lt : List Nat} {Q : Exit → Act → World → Prop} (hok : dstsOk n l = true) (hdr : drawOkL l n0 lt = true) (hQ : ∀ a w, a.tmps.size = n → a.defers = [] → K (envOf a) w → Q .normal a w) :
    ∀ (fuel t : Nat) (listed : Array Bool) (a : Act) (w : World) (E : Env) (ltr : List Nat), Inv2 l n n0 lt t listed a E ltr → LateP P l ltr E w → RlL P l K ltr (l.drop t) E w → cnt l listed ≤ fuel → wpAny P .any l.toArray Q fuel listed a w := by
  obtain ⟨hn, hh, hu, hb, hsk, hch, hlo⟩ := drawOkL_spec hdr
  have fin : ∀ (t : Nat) (listed : Array Bool) (a : Act) (w : World) (E : Env) (ltr : List Nat), Inv2 l n n0 lt t listed a E ltr → RlL P l K ltr (l.drop t) E w → Region.ready .any l.toArray listed = [] → Q .normal a w := by
    intro t listed a w E ltr inv hR hr
    have hall := allListed inv.size hb hr
    have htl : t = l.length := by
      rcases Nat.lt_or_ge t l.length with h | h
      · exact absurd (hall t h) (inv.tail t (Nat.le_refl _) h)
      · have := inv.t1; omega
    subst htl
    rw [List.drop_length] at hR
    have hE : envOf a = E := by
      funext x
      exact inv.env x (fun i hi hil => absurd (hall i (by omega)) hil)
    refine hQ a w inv.tmps inv.defs ?_
    rw [hE]; exact hR
  intro fuel
  induction fuel with
  | zero =>
    intro t listed a w E ltr inv hL hR hc
    have hr : Region.ready .any l.toArray listed = [] := by
      apply List.eq_nil_iff_forall_not_mem.2
      intro i hi
      obtain ⟨g1, o, g2, _⟩ := mem_ready.1 hi
      have hil : i < l.length := by
        rw [List.getElem?_toArray] at g2
        exact (List.getElem?_eq_some_iff.1 g2).1
      have := cnt_zero (by omega : cnt l listed = 0) hil
      rw [g1] at this; cases this
    exact ⟨hr, fin t listed a w E ltr inv hR hr⟩
  | succ fuel ih =>
    intro t listed a w E ltr inv hL hR hc
    refine ⟨fun hr => fin t listed a w E ltr inv hR hr, fun i hi => ?_⟩
    have hil : i < l.length := by
      obtain ⟨_, o, g2, _⟩ := mem_ready.1 hi
      rw [List.getElem?_toArray] at g2
      exact (List.getElem?_eq_some_iff.1 g2).1
    have ho : l[i]? = some l[i] := List.getElem?_eq_getElem hil
    obtain ⟨hun, hdeps⟩ := ready_deps hi ho
    have hnl : ¬ lst listed i := (unl inv.size hil).2 hun
    have hcn := cnt_set inv.size hil hun
    rcases Nat.lt_or_ge i n0 with hin | hin
    · -- a late one
      have hm := inv.late i hin hnl
      have hdd : ∀ o, o ∈ l → ∀ d, o.dst = some d → d < a.tmps.size := by rw [inv.tmps]; exact dstsOk_spec hok
      obtain ⟨⟨d, hd⟩, hlook, hsel⟩ := head_at hh hin ho
      have hmt := inv.sub i hm
      have hlt : lt ≠ [] := fun h => by rw [h] at hmt; cases hmt
      have hlo' := hlo
      simp only [lateOk, Bool.or_eq_true, Bool.and_eq_true, List.isEmpty_iff] at hlo'
      have h2 := List.all_eq_true.1 ((hlo'.resolve_left hlt).1) i hmt
      rw [ho] at h2
      simp only [Bool.and_eq_true] at h2
      refine wpOp_of_GOp hdd ho (GOp_congr hsel (fun x hx => ?_) (hL i hm _ ho)) fun v w' hv => ?_
      · symm
        refine inv.env x (fun j hj hjl hdj => ?_)
        have h3 := List.all_eq_true.1 (List.all_eq_true.1 h2.2 x hx) j (List.mem_range.2 hj)
        rw [hdj] at h3
        simp only [beq_self_eq_true, Bool.not_true, Bool.false_or, Bool.and_eq_true] at h3
        exact hjl (hdeps j (memN_iff.1 h3.1))
      · obtain ⟨⟨d', hd', hv⟩, rfl⟩ := hv
        refine ih t _ _ _ E ltr ⟨by simp [inv.size], by rw [put_size]; exact inv.tmps, by rw [put_defers']; exact inv.defs, inv.t0, inv.t1, ?_, cl_set inv.size hil inv.cl hdeps, ?_, ?_, inv.sub, ?_⟩ hL hR (by omega)
        · intro j hj hjl
          rw [set_lst inv.size hil]
          rintro (h1 | h1)
          · exact inv.tail j hj hjl h1
          · have := inv.t0; omega
        · intro j h1 h3
          rw [set_lst inv.size hil]; exact .inl (inv.done j h1 h3)
        · intro j hj hjl
          rw [set_lst inv.size hil] at hjl
          exact inv.late j hj (fun h => hjl (.inl h))
        · intro x hx
          rw [hd', envOf_put a inv.tmps (by rw [← inv.tmps]; exact hdd _ (List.mem_of_getElem? ho) d' hd')]
          by_cases hxd : x = d'
          · subst hxd; rw [upd_same, hv]
          · rw [upd_other _ _ hxd]
            refine inv.env x (fun j hj hjl hdj => ?_)
            by_cases hji : j = i
            · subst hji
              have : dstAt l j = some d' := by simp only [dstAt, ho]; exact hd'
              rw [this] at hdj; cases hdj; exact hxd rfl
            · refine hx j hj ?_ hdj
              rw [set_lst inv.size hil]
              rintro (h1 | h1)
              · exact hjl h1
              · exact hji h1
    · -- the next of the tail
      have hit : i = t := by
        rcases Nat.lt_or_ge t i with h | h
        · have := List.all_eq_true.1 hch i (List.mem_range.2 hil)
          simp only [Bool.or_eq_true] at this
          rcases this with h4 | h4
          · have h5 : i ≤ n0 := by simpa using h4
            have := inv.t0; omega
          · unfold waitB at h4
            rw [ho] at h4
            exact absurd (hdeps (i - 1) (memN_iff.1 h4)) (inv.tail (i - 1) (by omega) (by omega))
        · rcases Nat.lt_or_ge i t with h' | h'
          · exact absurd (inv.done i hin h') hnl
          · omega
      subst hit
      exact inv.next hok hdr hR hil hi fun a' w' E' ltr' inv' hL' hR' => ih (i + 1) _ a' w' E' ltr' inv' hL' hR' (by omega)
theorem head_anyJ {lt : List Nat} {J : (Nat → Prop) → (Nat → Value) → World → Prop} {Q : Exit → Act → World → Prop} (hok : dstsOk n l = true) (hdr : drawOkL l n0 lt = true)
    (hS : ∀ i o, i < n0 → l[i]? = some o → ∀ (L : Nat → Prop) (vs : Nat → Value) (w : World), (∀ d ∈ depsOf o, L d) → ¬ L i → Ext w0 w → J L vs w →
      GOp P l o (envAll l e vs i) w fun v w' => Ext w0 w' ∧ J (fun j => L j ∨ j = i) (fun j => if j = i then v else vs j) w')
    (hlate : ∀ i ∈ lt, ∀ o, l[i]? = some o → ∀ (L : Nat → Prop) (vs : Nat → Value) (w : World), (∀ d ∈ depsOf o, L d) → ¬ L i → Ext w0 w → J L vs w → ∃ c, J (fun j => L j ∨ j = i) (fun j => if j = i then c else vs j) w)
    (hfin : ∀ (vs : Nat → Value) (w : World), Ext w0 w → J (fun j => j < n0) vs w → RlL P l K lt (l.drop n0) (envAll l e vs n0) w)
    (hQ : ∀ a w, a.tmps.size = n → a.defers = [] → K (envOf a) w → Q .normal a w) :
    ∀ (fuel : Nat) (listed : Array Bool) (a : Act) (w : World) (vs : Nat → Value), InvJ l n n0 e w0 J listed a w vs → (∀ j oj, l[j]? = some oj → lst listed j → ∀ d ∈ depsOf oj, lst listed d) →
      (∀ t, n0 ≤ t → t < l.length → ¬ lst listed t) → cnt l listed ≤ fuel → wpAny P .any l.toArray Q fuel listed a w := by
  obtain ⟨hn, hh, hu, hb, hsk, hch, hlo⟩ := drawOkL_spec hdr
  -- the tail may begin
  have begin2 : ∀ (listed : Array Bool) (a : Act) (w : World) (vs : Nat → Value), InvJ l n n0 e w0 J listed a w vs → (∀ j oj, l[j]? = some oj → lst listed j → ∀ d ∈ depsOf oj, lst listed d) → (∀ t, n0 ≤ t → t < l.length → ¬ lst listed t) →
      (∀ i, i < n0 → ¬ lst listed i → i ∈ lt) → ∃ E, Inv2 l n n0 lt n0 listed a E lt ∧ RlL P l K lt (l.drop n0) E w := by
    intro listed a w vs inv hcl htail hmis
    have key : ∀ k, k ≤ n0 → ∃ vs', (∀ j, lst listed j → vs' j = vs j) ∧ J (fun j => lst listed j ∨ j < k) vs' w := by
      intro k
      induction k with
      | zero =>
        intro _
        refine ⟨vs, fun _ _ => rfl, ?_⟩
        have : (fun j => lst listed j ∨ j < 0) = lst listed := by funext j; simp
        rw [this]; exact inv.holds
      | succ k ihk =>
        intro hk
        obtain ⟨vs', h1, h2⟩ := ihk (by omega)
        by_cases hkl : lst listed k
        · refine ⟨vs', h1, ?_⟩
          have : (fun j => lst listed j ∨ j < k + 1) = (fun j => lst listed j ∨ j < k) := by
            funext j
            apply propext
            constructor
            · rintro (h | h)
              · exact .inl h
              · by_cases hjk : j = k
                · subst hjk; exact .inl hkl
                · exact .inr (by omega)
            · rintro (h | h)
              · exact .inl h
              · exact .inr (by omega)
          rw [this]; exact h2
        · have hko : l[k]? = some l[k] := List.getElem?_eq_getElem (by omega)
          obtain ⟨c, hc⟩ := hlate k (hmis k (by omega) hkl) _ hko (fun j => lst listed j ∨ j < k) vs' w (fun d hd => .inr (back_at hb hko hd)) (by rintro (h | h); exact hkl h; omega) inv.ext h2
          refine ⟨fun j => if j = k then c else vs' j, fun j hj => ?_, ?_⟩
          · have : j ≠ k := fun h => hkl (h ▸ hj)
            simp only [this, if_false]; exact h1 j hj
          · have : (fun j => lst listed j ∨ j < k + 1) = (fun j => (lst listed j ∨ j < k) ∨ j = k) := by
              funext j
              apply propext
              constructor
              · rintro (h | h)
                · exact .inl (.inl h)
                · by_cases hjk : j = k
                  · exact .inr hjk
                  · exact .inl (.inr (by omega))
              · rintro ((h | h) | h)
                · exact .inl h
                · exact .inr (by omega)
                · exact .inr (by omega)
            rw [this]; exact hc
    obtain ⟨vs', h1, h2⟩ := key n0 (Nat.le_refl _)
    have hset : (fun j => lst listed j ∨ j < n0) = (fun j => j < n0) := by
      funext j
      apply propext
      constructor
      · rintro (h | h)
        · rcases Nat.lt_or_ge j n0 with h3 | h3
          · exact h3
          · exact absurd h (htail j h3 (lst_lt inv.size h))
        · exact h
      · exact .inr
    rw [hset] at h2
    refine ⟨envAll l e vs' n0, ⟨inv.size, inv.tmps, inv.defs, Nat.le_refl _, hn, htail, hcl, fun j h3 h4 => by omega, hmis, fun i hi => hi, fun x hx => ?_⟩, hfin vs' w inv.ext h2⟩
    by_cases hex : ∃ j, j < n0 ∧ dstAt l j = some x
    · obtain ⟨j, hj, hjd⟩ := hex
      have hjl : lst listed j := Classical.byContradiction fun h => hx j hj h hjd
      rw [envAll_at hjd n0 hj (fun k hk hkd => uniq_at hu hk hj hkd hjd), inv.env1 x j hj hjd hjl, h1 j hjl]
    · rw [envAll_not n0 (fun j hj hjd => hex ⟨j, hj, hjd⟩), inv.env2 x (fun j hj _ hjd => hex ⟨j, hj, hjd⟩)]
  have fin : ∀ (listed : Array Bool) (a : Act) (w : World) (vs : Nat → Value), InvJ l n n0 e w0 J listed a w vs → (∀ j oj, l[j]? = some oj → lst listed j → ∀ d ∈ depsOf oj, lst listed d) → (∀ t, n0 ≤ t → t < l.length → ¬ lst listed t) →
      Region.ready .any l.toArray listed = [] → Q .normal a w := by
    intro listed a w vs inv hcl htail hr
    have hall := allListed inv.size hb hr
    obtain ⟨E, inv2, hR⟩ := begin2 listed a w vs inv hcl htail (fun i hi hil => absurd (hall i (by omega)) hil)
    have hnn : n0 = l.length := by
      rcases Nat.lt_or_ge n0 l.length with h | h
      · exact absurd (hall n0 h) (htail n0 (Nat.le_refl _) h)
      · omega
    have hd : l.drop n0 = [] := List.drop_eq_nil_of_le (by omega)
    rw [hd] at hR
    have hE : envOf a = E := by
      funext x
      exact inv2.env x (fun i hi hil => absurd (hall i (by omega)) hil)
    refine hQ a w inv.tmps inv.defs ?_
    rw [hE]; exact hR
  intro fuel
  induction fuel with
  | zero =>
    intro listed a w vs inv hcl htail hc
    have hr : Region.ready .any l.toArray listed = [] := by
      apply List.eq_nil_iff_forall_not_mem.2
      intro i hi
      obtain ⟨g1, o, g2, _⟩ := mem_ready.1 hi
      have hil : i < l.length := by
        rw [List.getElem?_toArray] at g2
        exact (List.getElem?_eq_some_iff.1 g2).1
      have := cnt_zero (by omega : cnt l listed = 0) hil
      rw [g1] at this; cases this
    exact ⟨hr, fin listed a w vs inv hcl htail hr⟩
  | succ fuel ih =>
    intro listed a w vs inv hcl htail hc
    refine ⟨fun hr => fin listed a w vs inv hcl htail hr, fun i hi => ?_⟩
    have hil : i < l.length := by
      obtain ⟨_, o, g2, _⟩ := mem_ready.1 hi
      rw [List.getElem?_toArray] at g2
      exact (List.getElem?_eq_some_iff.1 g2).1
    obtain ⟨hun, hdeps⟩ := ready_deps hi (List.getElem?_eq_getElem hil)
    have hcn := cnt_set inv.size hil hun
    rcases Nat.lt_or_ge i n0 with hin | hin
    · refine inv.step hb hh hu hok hS hcl hin hi fun a' w' vs' inv' => ih _ a' w' vs' inv' (cl_set inv.size hil hcl hdeps) ?_ (by omega)
      intro t ht htl
      rw [set_lst inv.size hil]
      rintro (h1 | h1)
      · exact htail t ht htl h1
      · omega
    · -- all that isn't late is done
      have hit : i = n0 := by
        have := List.all_eq_true.1 hch i (List.mem_range.2 hil)
        simp only [Bool.or_eq_true] at this
        rcases this with h4 | h4
        · have h5 : i ≤ n0 := by simpa using h4
          omega
        · rcases Nat.lt_or_ge n0 i with h | h
          · unfold waitB at h4
            rw [List.getElem?_eq_getElem hil] at h4
            exact absurd (hdeps (i - 1) (memN_iff.1 h4)) (htail (i - 1) (by omega) (by omega))
          · omega
      subst hit
      have hmis : ∀ (c j : Nat), i - j = c → j < i → ¬ lst listed j → j ∈ lt := by
        intro c
        induction c using Nat.strongRecOn with
        | _ c ihc =>
          intro j hjc hj hjl
          refine Classical.byContradiction fun hjt => ?_
          simp only [sinkL, Bool.or_eq_true] at hsk
          rcases hsk with h1 | h1
          · have := Nat.eq_of_beq_eq_true h1; omega
          · have h2 := List.all_eq_true.1 h1 j (List.mem_range.2 hj)
            simp only [Bool.or_eq_true] at h2
            obtain ⟨m, hm, h3⟩ := List.any_eq_true.1 (h2.resolve_left (fun h => hjt (memN_iff.1 h)))
            simp only [Bool.and_eq_true, Bool.not_eq_true'] at h3
            have hjm : j < m := by simpa using h3.1.1
            have hmi : m ≤ i := by have := List.mem_range.1 hm; omega
            have h4 := h3.1.2
            unfold waitB at h4
            rw [List.getElem?_eq_getElem (by omega : m < l.length)] at h4
            have h5 := memN_iff.1 h4
            by_cases hmt : m = i
            · subst hmt; exact hjl (hdeps j h5)
            · by_cases hml : lst listed m
              · exact hjl (hcl m _ (List.getElem?_eq_getElem (by omega)) hml j h5)
              · have := ihc (i - m) (by omega) m rfl (by omega) hml
                rw [memN_iff.2 this] at h3; cases h3.2
      obtain ⟨E, inv2, hR⟩ := begin2 listed a w vs inv hcl htail (fun j hj hjl => hmis _ j rfl hj hjl)
      exact inv2.next hok hdr hR hil hi fun a' w' E' ltr' inv' hL' hR' => tailL hok hdr hQ fuel (i + 1) _ a' w' E' ltr' inv' hL' hR' (by omega)
end

section
variable {P : Program} {n : Nat} {k : List It} {Q : Env → World → Prop} {e : Env} {w : World}
theorem Swp.drawJ {id : Nat} {l : List Oper} (n0 : Nat) (lt : List Nat) (J : World → (Nat → Prop) → (Nat → Value) → World → Prop) (hm : P.follows .mixedOrders = true) (hok : dstsOk n l = true) (hdr : drawOkL l n0 lt = true)
    (h0 : ∀ w1, Ext w w1 → ∃ vs, J w1 (fun _ => False) vs w1)
    (hS : ∀ w1, Ext w w1 → ∀ i o, i < n0 → l[i]? = some o → ∀ (L : Nat → Prop) (vs : Nat → Value) (w : World), (∀ d ∈ depsOf o, L d) → ¬ L i → Ext w1 w → J w1 L vs w →
      GOp P l o (envAll l e vs i) w fun v w' => Ext w1 w' ∧ J w1 (fun j => L j ∨ j = i) (fun j => if j = i then v else vs j) w')
    (hlate : ∀ w1, Ext w w1 → ∀ i ∈ lt, ∀ o, l[i]? = some o → ∀ (L : Nat → Prop) (vs : Nat → Value) (w : World), (∀ d ∈ depsOf o, L d) → ¬ L i → Ext w1 w → J w1 L vs w → ∃ c, J w1 (fun j => L j ∨ j = i) (fun j => if j = i then c else vs j) w)
    (hfin : ∀ w1, Ext w w1 → ∀ (vs : Nat → Value) (w : World), Ext w1 w → J w1 (fun j => j < n0) vs w → RlL P l (Swp P n k Q) lt (l.drop n0) (envAll l e vs n0) w) : Swp P n (.code (.region id l.toArray true) :: k) Q e w := by
  intro a h1 h2 h3
  subst h3
  refine wp_region_any hm ?_
  have hE : Ext w { w with drawn := w.drawn + 1 } := Ext.drawn w _
  obtain ⟨vs, hvs⟩ := h0 _ hE
  refine head_anyJ (K := Swp P n k Q) (J := J { w with drawn := w.drawn + 1 }) hok hdr (hS _ hE) (hlate _ hE) (hfin _ hE) (fun a' w' g1 g2 g3 => ⟨g1, g2, g3⟩) l.toArray.size (Array.replicate l.toArray.size false) a _ vs
    ⟨by simp, h1, h2, Ext.refl _, fun t j _ _ hj => ?_, fun t _ => rfl, ?_⟩ (fun j oj _ hj => ?_) (fun t _ _ hj => ?_) ?_
  · unfold lst at hj; rw [getD_replicate_false] at hj; cases hj
  · have : lst (Array.replicate l.toArray.size false) = fun _ => False := by
      funext j
      apply propext
      refine ⟨fun h => ?_, fun h => h.elim⟩
      unfold lst at h; rw [getD_replicate_false] at h; cases h
    rw [this]; exact hvs
  · unfold lst at hj; rw [getD_replicate_false] at hj; cases hj
  · unfold lst at hj; rw [getD_replicate_false] at hj; cases hj
  · unfold cnt
    refine Nat.le_trans (List.length_filter_le _ _) (by simp)
end

/-! ## What each operation makes and uses up -/
inductive Pz where
  | det (c : Value)
  | fn (m : Nat) (g : Value → Value)
  | rel (Φ : Value → (Nat → Prop) → World → Prop) (ft : Value → List (Option Nat))
structure FE where
  idx : Nat
  φ : (Nat → Prop) → World → Prop
  ft : List (Option Nat)
/-- which operation uses up what the j-th has made -/
def usedBy (cs : List (List Nat)) (j : Nat) : List Nat := (List.range cs.length).filter fun c => memN j (cs.getD c [])
/-- the i-th may look at what the j-th has made -/
def seesB (l : List Oper) (cs : List (List Nat)) (i j : Nat) : Bool := (usedBy cs j).all fun c => Nat.beq c i || waitB l c i
def endsB (cs : List (List Nat)) (j : Nat) : Bool := (usedBy cs j).isEmpty
/-- each is used up once, by one that waits for it -/
def conOk (l : List Oper) (cs : List (List Nat)) : Bool :=
  (List.range cs.length).all fun c => (cs.getD c []).all fun j => waitB l c j && (usedBy cs j).all fun c' => Nat.beq c' c
def Bnd (w1 w : World) (Z : Nat → Prop) (ft : List (Option Nat)) : Prop := ∀ b, some b ∈ ft → w1.heap.size ≤ b ∧ b < w.heap.size ∧ ¬ Z b
def factsI (l : List Oper) (cs : List (List Nat)) (w1 : World) (i : Nat) (ds : List Nat) : List FE → (Nat → Prop) → World → Prop
  | [], _, _ => True
  | x :: r, Z, w => (bif memN x.idx ds && seesB l cs i x.idx then x.φ Z w ∧ Bnd w1 w Z x.ft else True) ∧ factsI l cs w1 i ds r Z w
def factsE (cs : List (List Nat)) (w1 : World) : List FE → (Nat → Prop) → World → Prop
  | [], _, _ => True
  | x :: r, Z, w => (bif endsB cs x.idx then x.φ Z w ∧ Bnd w1 w Z x.ft else True) ∧ factsE cs w1 r Z w
def apartE (cs : List (List Nat)) (x : FE) : List FE → Prop
  | [] => True
  | y :: r => (bif endsB cs x.idx && endsB cs y.idx then ∀ b, some b ∈ x.ft → some b ∉ y.ft else True) ∧ apartE cs x r
def apartsE (cs : List (List Nat)) : List FE → Prop
  | [] => True
  | x :: r => apartE cs x r ∧ apartsE cs r
def feet (js : List Nat) : List FE → List (Option Nat)
  | [] => []
  | x :: r => bif memN x.idx js then x.ft ++ feet js r else feet js r
def ZB (w1 w : World) (Z : Nat → Prop) : Prop := ∀ b, Z b → w1.heap.size ≤ b ∧ b < w.heap.size
/-- Only the blocks of cf may have turned. -/
structure Use (cf : List (Option Nat)) (w w' : World) : Prop where
  os : w'.os = w.os
  tape : w'.tape = w.tape
  output : w'.output = w.output
  size : w.heap.size ≤ w'.heap.size
  keep : ∀ k, k < w.heap.size → some k ∉ cf → w'.heap[k]? = w.heap[k]?
theorem Use.ext {cf : List (Option Nat)} {w w' : World} (h : Ext w w') : Use cf w w' := ⟨h.os, h.tape, h.output, h.size, fun k hk _ => h.block k hk⟩
theorem Use.loc {cf O : List (Option Nat)} {C : List Cont} {w w' : World} (h : Loc cf [] w w' O C) : Use cf w w' := ⟨h.os, h.tape, h.output, h.size, h.keep⟩
def New (cf : List (Option Nat)) (w w' : World) (b : Nat) : Prop := (w.heap.size ≤ b ∧ b < w'.heap.size) ∨ some b ∈ cf
def Made (cf ft : List (Option Nat)) (Z : Nat → Prop) (w w' : World) (φ : (Nat → Prop) → World → Prop) : Prop :=
  ∃ Z', (∀ b, Z b → Z' b) ∧ (∀ b, Z' b → Z b ∨ New cf w w' b) ∧ Use cf w w' ∧ φ Z' w' ∧ ∀ b, some b ∈ ft → New cf w w' b ∧ ¬ Z' b

def DrH (P : Program) (l : List Oper) (cs : List (List Nat)) (w1 : World) (K : Env → World → Prop) : List Oper → List Pz → Env → List FE → Nat → Prop
  | [], _, e, F, _ => ∀ w' Z, Ext w1 w' → ZB w1 w' Z → factsE cs w1 F Z w' → apartsE cs F → K e w'
  | o :: r, .det c :: Φs, e, F, i => (∀ w' Z, Ext w1 w' → ZB w1 w' Z → factsI l cs w1 i (depsOf o) F Z w' → GOp P l o e w' fun v w'' => Ext w' w'' ∧ v = c) ∧ DrH P l cs w1 K r Φs (updo e o.dst c) F (i + 1)
  | o :: r, .fn m g :: Φs, e, F, i => ∃ d, dstAt l m = some d ∧ (∀ w' Z, Ext w1 w' → ZB w1 w' Z → factsI l cs w1 i (depsOf o) F Z w' → GOp P l o e w' fun v w'' => Ext w' w'' ∧ v = g (e d)) ∧ DrH P l cs w1 K r Φs (updo e o.dst (g (e d))) F (i + 1)
  | o :: r, .rel Φ ft :: Φs, e, F, i => (∀ w' Z, Ext w1 w' → ZB w1 w' Z → factsI l cs w1 i (depsOf o) F Z w' → GOp P l o e w' fun v w'' => Made (feet (cs.getD i []) F) (ft v) Z w' w'' (Φ v)) ∧
      ∀ v, DrH P l cs w1 K r Φs (updo e o.dst v) (⟨i, Φ v, ft v⟩ :: F) (i + 1)
  | _ :: _, [], _, _, _ => False
def fitsZ (Φs : List Pz) (vs : Nat → Value) : Prop := ∀ (i : Nat) c, Φs[i]? = some (Pz.det c) → vs i = c
def isRel : Option Pz → Bool
  | some (.rel _ _) => true
  | _ => false
/-- the j-th waits, through others, for the m-th -/
def reachB (l : List Oper) : Nat → Nat → Nat → Bool
  | 0, _, _ => false
  | f + 1, j, m => waitB l j m || match l[j]? with
    | some o => (depsOf o).any fun k => reachB l f k m
    | none => false
def fnOk (l : List Oper) (Φs : List Pz) : Bool := (List.range Φs.length).all fun j => match Φs[j]? with
  | some (.fn m _) => Nat.blt m j && reachB l l.length j m && isRel Φs[m]?
  | _ => true
def ltOk (lt : List Nat) (Φs : List Pz) : Bool := lt.all fun i => !isRel Φs[i]?
/-- the values, those that follow from others reckoned -/
def vf (Φs : List Pz) (vs : Nat → Value) (j : Nat) : Value := match Φs[j]? with
  | some (.fn m g) => g (vs m)
  | _ => vs j
theorem fnOk_at {l : List Oper} {Φs : List Pz} (h : fnOk l Φs = true) {j m : Nat} {g : Value → Value} (hj : Φs[j]? = some (.fn m g)) : m < j ∧ reachB l l.length j m = true ∧ isRel Φs[m]? = true := by
  have hlt : j < Φs.length := (List.getElem?_eq_some_iff.1 hj).1
  have h1 := List.all_eq_true.1 h j (List.mem_range.2 hlt)
  rw [hj] at h1
  simp only [Bool.and_eq_true] at h1
  exact ⟨by simpa using h1.1.1, h1.1.2, h1.2⟩
theorem vf_rel {Φs : List Pz} {vs : Nat → Value} {j : Nat} (h : isRel Φs[j]? = true) : vf Φs vs j = vs j := by
  unfold vf
  cases hΦ : Φs[j]? with
  | none => rfl
  | some ph => cases ph with | fn m g => rw [hΦ] at h; cases h | _ => rfl
theorem reach_closed {l : List Oper} {L : Nat → Prop} (hcl : ∀ c o, L c → l[c]? = some o → ∀ d ∈ depsOf o, L d) : ∀ {f j m : Nat}, L j → reachB l f j m = true → L m
  | 0, _, _, _, h => by cases h
  | f + 1, j, m, hj, h => by
    simp only [reachB, Bool.or_eq_true] at h
    rcases h with h | h
    · unfold waitB at h
      cases ho : l[j]? with
      | none => rw [ho] at h; cases h
      | some o => rw [ho] at h; exact hcl j o hj ho m (memN_iff.1 h)
    · cases ho : l[j]? with
      | none => rw [ho] at h; cases h
      | some o =>
        rw [ho] at h
        obtain ⟨k, hk, h1⟩ := List.any_eq_true.1 h
        exact reach_closed hcl (hcl j o hj ho k hk) h1
theorem envAll_congr {l : List Oper} {e : Env} {vs vs' : Nat → Value} : ∀ {i : Nat}, (∀ j, j < i → vs j = vs' j) → envAll l e vs i = envAll l e vs' i
  | 0, _ => rfl
  | i + 1, h => by simp only [envAll]; rw [envAll_congr (i := i) (fun j hj => h j (by omega)), h i (by omega)]
def FallZ (Φs : List Pz) (vs : Nat → Value) : Nat → List FE
  | 0 => []
  | i + 1 => match Φs[i]? with
    | some (.rel Φ ft) => ⟨i, Φ (vs i), ft (vs i)⟩ :: FallZ Φs vs i
    | _ => FallZ Φs vs i
/-- what is told of a value stays true where nothing that it speaks of turns -/
def stableZ (w1 : World) : List Pz → Prop
  | [] => True
  | .det _ :: r => stableZ w1 r
  | .fn _ _ :: r => stableZ w1 r
  | .rel Φ ft :: r => (∀ v Z Z' w w', Φ v Z w → (∀ b, Z b → Z' b) → Ext w1 w → Ext w1 w' → (∀ b, (b < w1.heap.size ∨ Z b ∨ some b ∈ ft v) → b < w.heap.size → w'.heap[b]? = w.heap[b]?) → Φ v Z' w') ∧ stableZ w1 r

section
variable {P : Program} {l : List Oper} {cs : List (List Nat)} {n n0 : Nat} {K : Env → World → Prop} {e : Env} {w1 : World}
theorem stableZ_at {Φs : List Pz} (h : stableZ w1 Φs) : ∀ (i : Nat) Φ ft, Φs[i]? = some (.rel Φ ft) → ∀ v Z Z' w w', Φ v Z w → (∀ b, Z b → Z' b) → Ext w1 w → Ext w1 w' → (∀ b, (b < w1.heap.size ∨ Z b ∨ some b ∈ ft v) → b < w.heap.size → w'.heap[b]? = w.heap[b]?) → Φ v Z' w' := by
  induction Φs with
  | nil => intro i Φ ft hi; simp at hi
  | cons x r ih =>
    intro i Φ ft hi
    cases i with
    | zero =>
      simp at hi; subst hi
      exact h.1
    | succ i =>
      have hr : stableZ w1 r := by cases x with | det c => exact h | fn m g => exact h | rel Φ ft => exact h.2
      exact ih hr i Φ ft (by simpa using hi)
theorem drH_at {Φs : List Pz} (hl : n0 ≤ l.length) (hu : uniqOk l n0 = true) (h : DrH P l cs w1 K (l.take n0) Φs e [] 0) (vs : Nat → Value) (hv : fitsZ Φs vs) (hf : ∀ i m g, Φs[i]? = some (.fn m g) → m < i ∧ vs i = g (vs m)) : ∀ i, i ≤ n0 → DrH P l cs w1 K ((l.take n0).drop i) (Φs.drop i) (envAll l e vs i) (FallZ Φs vs i) i
  | 0, _ => by simpa [envAll, FallZ] using h
  | i + 1, hi => by
    have ih := drH_at hl hu h vs hv hf i (by omega)
    have hlt : i < (l.take n0).length := by simp; omega
    rw [List.drop_eq_getElem_cons hlt] at ih
    have hd : dstAt l i = ((l.take n0)[i]).dst := by
      simp only [dstAt, List.getElem_take]
      rw [List.getElem?_eq_getElem (by omega)]; rfl
    cases hΦ : Φs[i]? with
    | none =>
      have : Φs.drop i = [] := List.drop_eq_nil_of_le (List.getElem?_eq_none_iff.1 hΦ)
      rw [this] at ih; exact ih.elim
    | some ph =>
      have hlt2 : i < Φs.length := by
        rcases Nat.lt_or_ge i Φs.length with h2 | h2
        · exact h2
        · rw [List.getElem?_eq_none h2] at hΦ; cases hΦ
      have hc : Φs.drop i = ph :: Φs.drop (i + 1) := by
        rw [List.drop_eq_getElem_cons hlt2]; congr 1
        rw [List.getElem?_eq_getElem hlt2] at hΦ; exact Option.some.inj hΦ
      rw [hc] at ih
      cases ph with
      | det c =>
        have := ih.2
        have hvc := hv i c hΦ
        simp only [envAll, FallZ, hΦ, hd, hvc]
        exact this
      | fn m g =>
        obtain ⟨d, h1, -, h3⟩ := ih
        obtain ⟨hm, hvi⟩ := hf i m g hΦ
        rw [envAll_at h1 i hm (fun k hk hkd => uniq_at hu (by omega) (by omega) hkd h1), ← hvi] at h3
        simp only [envAll, FallZ, hΦ, hd]
        exact h3
      | rel Φ ft =>
        have := ih.2 (vs i)
        simp only [envAll, FallZ, hΦ, hd]
        exact this
theorem FallZ_vf {Φs : List Pz} {vs : Nat → Value} : ∀ {i : Nat}, FallZ Φs (vf Φs vs) i = FallZ Φs vs i
  | 0 => rfl
  | i + 1 => by
    simp only [FallZ, FallZ_vf (i := i)]
    cases hΦ : Φs[i]? with
    | none => rfl
    | some ph => cases ph with | rel Φ ft => simp only [vf_rel (Φs := Φs) (vs := vs) (j := i) (by rw [hΦ]; rfl)] | _ => rfl
theorem mem_FallZ {Φs : List Pz} {vs : Nat → Value} {x : FE} : ∀ {i : Nat}, x ∈ FallZ Φs vs i → x.idx < i ∧ ∃ Φ ft, Φs[x.idx]? = some (.rel Φ ft) ∧ x.φ = Φ (vs x.idx) ∧ x.ft = ft (vs x.idx)
  | 0, h => by cases h
  | i + 1, h => by
    simp only [FallZ] at h
    cases hΦ : Φs[i]? with
    | none => rw [hΦ] at h; obtain ⟨h1, h2⟩ := mem_FallZ h; exact ⟨by omega, h2⟩
    | some ph =>
      rw [hΦ] at h
      cases ph with
      | det c => obtain ⟨h1, h2⟩ := mem_FallZ h; exact ⟨by omega, h2⟩
      | fn m g => obtain ⟨h1, h2⟩ := mem_FallZ h; exact ⟨by omega, h2⟩
      | rel Φ ft =>
        rcases List.mem_cons.1 h with h | h
        · subst h; exact ⟨by simp, Φ, ft, hΦ, rfl, rfl⟩
        · obtain ⟨h1, h2⟩ := mem_FallZ h; exact ⟨by omega, h2⟩
theorem factsI_of {w : World} {Z : Nat → Prop} {i : Nat} {ds : List Nat} : ∀ {F : List FE}, (∀ x ∈ F, memN x.idx ds = true → seesB l cs i x.idx = true → x.φ Z w ∧ Bnd w1 w Z x.ft) → factsI l cs w1 i ds F Z w
  | [], _ => trivial
  | x :: r, h => by
    refine ⟨?_, factsI_of fun y hy => h y (List.mem_cons_of_mem _ hy)⟩
    cases h1 : memN x.idx ds <;> cases h2 : seesB l cs i x.idx <;> simp
    exact h x List.mem_cons_self h1 h2
theorem factsE_of {w : World} {Z : Nat → Prop} : ∀ {F : List FE}, (∀ x ∈ F, endsB cs x.idx = true → x.φ Z w ∧ Bnd w1 w Z x.ft) → factsE cs w1 F Z w
  | [], _ => trivial
  | x :: r, h => by
    refine ⟨?_, factsE_of fun y hy => h y (List.mem_cons_of_mem _ hy)⟩
    cases h1 : endsB cs x.idx <;> simp
    exact h x List.mem_cons_self h1
theorem apartE_of {x : FE} : ∀ {F : List FE}, (∀ y ∈ F, endsB cs x.idx = true → endsB cs y.idx = true → ∀ b, some b ∈ x.ft → some b ∉ y.ft) → apartE cs x F
  | [], _ => trivial
  | y :: r, h => by
    refine ⟨?_, apartE_of fun z hz => h z (List.mem_cons_of_mem _ hz)⟩
    cases h1 : endsB cs x.idx <;> cases h2 : endsB cs y.idx <;> simp
    exact h y List.mem_cons_self h1 h2
theorem mem_usedBy {j c : Nat} : c ∈ usedBy cs j ↔ c < cs.length ∧ j ∈ cs.getD c [] := by
  simp only [usedBy, List.mem_filter, List.mem_range, memN_iff]
theorem mem_feet {js : List Nat} {b : Option Nat} : ∀ {F : List FE}, b ∈ feet js F ↔ ∃ x ∈ F, x.idx ∈ js ∧ b ∈ x.ft
  | [] => by simp [feet]
  | x :: r => by
    have ih := mem_feet (js := js) (b := b) (F := r)
    simp only [feet]
    cases h : memN x.idx js with
    | true =>
      have := memN_iff.1 h
      simp [ih, this]
    | false =>
      have : x.idx ∉ js := fun hm => by rw [memN_iff.2 hm] at h; cases h
      simp [ih, this]

def Lv (cs : List (List Nat)) (L : Nat → Prop) (i : Nat) : Prop := L i ∧ ∀ c, L c → i ∉ cs.getD c []
structure JZ (l : List Oper) (cs : List (List Nat)) (Φs : List Pz) (w1 : World) (L : Nat → Prop) (vs : Nat → Value) (w : World) (Z : Nat → Prop) : Prop where
  fit : fitsZ Φs vs
  cl : ∀ c o, L c → l[c]? = some o → ∀ d ∈ depsOf o, L d
  zb : ZB w1 w Z
  holds : ∀ i Φ ft, Φs[i]? = some (.rel Φ ft) → Lv cs L i → Φ (vs i) Z w ∧ Bnd w1 w Z (ft (vs i))
  fnv : ∀ j m g, Φs[j]? = some (.fn m g) → L j → vs j = g (vs m)
  apart : ∀ i j Φ ft Φ' ft', Φs[i]? = some (.rel Φ ft) → Φs[j]? = some (.rel Φ' ft') → i ≠ j → Lv cs L i → Lv cs L j → ∀ b, some b ∈ ft (vs i) → some b ∉ ft' (vs j)
end

theorem waitB_at {l : List Oper} {c j : Nat} (h : waitB l c j = true) : ∃ o, l[c]? = some o ∧ j ∈ depsOf o := by
  unfold waitB at h
  cases ho : l[c]? with
  | none => rw [ho] at h; cases h
  | some o => rw [ho] at h; exact ⟨o, rfl, memN_iff.1 h⟩

section
variable {P : Program} {n : Nat} {k : List It} {Q : Env → World → Prop} {e : Env} {w : World}
/-- A region that draws its order: its first n0 operations in whatever order, the others in theirs. -/
theorem Swp.drawL {id : Nat} {l : List Oper} (n0 : Nat) (cs : List (List Nat)) (lt : List Nat) (Ψ : World → List Pz) (hm : P.follows .mixedOrders = true) (hok : dstsOk n l = true) (hdr : drawOkL l n0 lt = true) (hcon : conOk l cs = true)
    (hfn : ∀ w1, fnOk l (Ψ w1) = true) (hlt : ∀ w1, ltOk lt (Ψ w1) = true) (hst : ∀ w1, Ext w w1 → stableZ w1 (Ψ w1))
    (h : ∀ w1, Ext w w1 → DrH P l cs w1 (RlL P l (Swp P n k Q) lt (l.drop n0)) (l.take n0) (Ψ w1) e [] 0) : Swp P n (.code (.region id l.toArray true) :: k) Q e w := by
  obtain ⟨hn, hh, hu, hb, hsk, hch, -⟩ := drawOkL_spec hdr
  have con : ∀ c j, j ∈ cs.getD c [] → waitB l c j = true ∧ ∀ c', c' < cs.length → j ∈ cs.getD c' [] → c' = c := by
    intro c j hj
    have hc : c < cs.length := by
      rcases Nat.lt_or_ge c cs.length with h1 | h1
      · exact h1
      · rw [List.getD_eq_getElem?_getD, List.getElem?_eq_none h1] at hj; simp at hj
    have h1 := List.all_eq_true.1 (List.all_eq_true.1 hcon c (List.mem_range.2 hc)) j hj
    simp only [Bool.and_eq_true] at h1
    refine ⟨h1.1, fun c' hc' hj' => ?_⟩
    exact Nat.eq_of_beq_eq_true (List.all_eq_true.1 h1.2 c' (mem_usedBy.2 ⟨hc', hj'⟩))
  have conlt : ∀ c j, j ∈ cs.getD c [] → c < cs.length := by
    intro c j hj
    rcases Nat.lt_or_ge c cs.length with h1 | h1
    · exact h1
    · rw [List.getD_eq_getElem?_getD, List.getElem?_eq_none h1] at hj; simp at hj
  have fits2 : ∀ (Φs : List Pz), fnOk l Φs = true → ∀ vs, fitsZ Φs vs → fitsZ Φs (vf Φs vs) ∧ ∀ i m g, Φs[i]? = some (.fn m g) → m < i ∧ vf Φs vs i = g (vf Φs vs m) := by
    intro Φs hfo vs hf
    refine ⟨fun i c hi => ?_, fun i m g hi => ?_⟩
    · have := hf i c hi
      unfold vf; rw [hi]; exact this
    · obtain ⟨h1, _, h3⟩ := fnOk_at hfo hi
      refine ⟨h1, ?_⟩
      rw [vf_rel h3]; unfold vf; rw [hi]
  refine Swp.drawJ n0 lt (fun w1 L vs w => ∃ Z, JZ l cs (Ψ w1) w1 L vs w Z) hm hok hdr ?_ ?_ ?_ ?_
  · intro w1 _
    generalize Ψ w1 = Φs
    refine ⟨fun i => match Φs[i]? with | some (.det c) => c | _ => undef, fun _ => False, fun i c hc => by simp [hc], fun _ _ h => h.elim, fun _ h => h.elim, fun _ _ _ _ h => h.1.elim, fun _ _ _ _ h => h.elim, fun _ _ _ _ _ _ _ _ _ h => h.1.elim⟩
  · intro w1 hE1 i o hi ho L vs w hdeps hnl hE ⟨Z, j⟩
    have hst1 := hst w1 hE1
    have hh1 := h w1 hE1
    have hfo := hfn w1
    generalize Ψ w1 = Φs at j hst1 hh1 hfo ⊢
    obtain ⟨ff1, ff2⟩ := fits2 Φs hfo vs j.fit
    have hD := drH_at hn hu hh1 (vf Φs vs) ff1 ff2 i (by omega)
    rw [FallZ_vf] at hD
    obtain ⟨_, hlook, hsel⟩ := head_at hh hi ho
    refine GOp_congr (e := envAll l e (vf Φs vs) i) hsel (fun t ht => ?_) ?_
    · by_cases hex : ∃ j, j < n0 ∧ dstAt l j = some t
      · obtain ⟨q, hq, hqd⟩ := hex
        rcases look_at hlook ht hq hqd with ⟨h1, h2⟩ | ⟨h1, _⟩
        · rw [envAll_at hqd i h2 (fun k hk hkd => uniq_at hu (by omega) hq hkd hqd), envAll_at hqd i h2 (fun k hk hkd => uniq_at hu (by omega) hq hkd hqd)]
          unfold vf
          cases hΦq : Φs[q]? with
          | none => rfl
          | some ph => cases ph with
            | fn m g => exact (j.fnv q m g hΦq (hdeps q h1)).symm
            | _ => rfl
        · rw [envAll_not i (fun k hk hkd => by have := uniq_at hu (show k < n0 by omega) hq hkd hqd; omega), envAll_not i (fun k hk hkd => by have := uniq_at hu (show k < n0 by omega) hq hkd hqd; omega)]
      · rw [envAll_not i (fun j hj hjd => hex ⟨j, by omega, hjd⟩), envAll_not i (fun j hj hjd => hex ⟨j, by omega, hjd⟩)]
    have fnKeep : ∀ (v : Value), (∀ m g, Φs[i]? = some (.fn m g) → v = g (vs m)) → ∀ q m g, Φs[q]? = some (.fn m g) → (L q ∨ q = i) → (if q = i then v else vs q) = g (if m = i then v else vs m) := by
      intro v hv q m g hq hLq
      obtain ⟨g1, g2, g3⟩ := fnOk_at hfo hq
      by_cases hqi : q = i
      · subst hqi
        rw [if_pos rfl, if_neg (by omega)]; exact hv m g hq
      · have hLq := hLq.resolve_right hqi
        have hLm := reach_closed j.cl hLq g2
        rw [if_neg hqi, if_neg (fun hmi : m = i => hnl (hmi ▸ hLm))]
        exact j.fnv q m g hq hLq
    have hlt : i < (l.take n0).length := by simp; omega
    rw [List.drop_eq_getElem_cons hlt] at hD
    have hgi : (l.take n0)[i] = o := by
      have : l[i]? = some l[i] := List.getElem?_eq_getElem (by omega)
      rw [ho] at this
      simp only [List.getElem_take]
      exact (Option.some.inj this).symm
    rw [hgi] at hD
    -- what the operation may look at
    have see : ∀ x ∈ FallZ Φs vs i, memN x.idx (depsOf o) = true → seesB l cs i x.idx = true → x.φ Z w ∧ Bnd w1 w Z x.ft := by
      intro x hx hmx hsx
      obtain ⟨hxi, Φ, ft, g1, g2, g3⟩ := mem_FallZ hx
      have hlv : Lv cs L x.idx := by
        refine ⟨hdeps _ (memN_iff.1 hmx), fun c hc hj => ?_⟩
        have h1 := List.all_eq_true.1 hsx c (mem_usedBy.2 ⟨conlt c _ hj, hj⟩)
        simp only [Bool.or_eq_true] at h1
        rcases h1 with h1 | h1
        · have := Nat.eq_of_beq_eq_true h1; subst this; exact hnl hc
        · obtain ⟨oc, hoc, hd⟩ := waitB_at h1
          exact hnl (j.cl c oc hc hoc i hd)
      rw [g2, g3]
      exact j.holds x.idx Φ ft g1 hlv
    have hfacts := factsI_of (l := l) (cs := cs) (w1 := w1) (i := i) (ds := depsOf o) see
    cases hΦ : Φs[i]? with
    | none =>
      have : Φs.drop i = [] := List.drop_eq_nil_of_le (List.getElem?_eq_none_iff.1 hΦ)
      rw [this] at hD; exact hD.elim
    | some ph =>
      have hlt2 : i < Φs.length := by
        rcases Nat.lt_or_ge i Φs.length with h2 | h2
        · exact h2
        · rw [List.getElem?_eq_none h2] at hΦ; cases hΦ
      have hc : Φs.drop i = ph :: Φs.drop (i + 1) := by
        rw [List.drop_eq_getElem_cons hlt2]; congr 1
        rw [List.getElem?_eq_getElem hlt2] at hΦ; exact Option.some.inj hΦ
      rw [hc] at hD
      have clos : ∀ c oc, (L c ∨ c = i) → l[c]? = some oc → ∀ d ∈ depsOf oc, L d ∨ d = i := by
        intro c oc hcL hoc d hd
        rcases hcL with h1 | h1
        · exact .inl (j.cl c oc h1 hoc d hd)
        · subst h1; rw [ho] at hoc; cases hoc; exact .inl (hdeps d hd)
      have lvOld : ∀ m, m ≠ i → Lv cs (fun j => L j ∨ j = i) m → Lv cs L m := by
        intro m hm hlv
        exact ⟨hlv.1.resolve_right hm, fun c hcL => hlv.2 c (.inl hcL)⟩
      have quiet : (∀ Φ ft, Φs[i]? ≠ some (.rel Φ ft)) → ∀ v w', Ext w w' → (∀ c, Φs[i]? = some (.det c) → v = c) → (∀ m g, Φs[i]? = some (.fn m g) → v = g (vs m)) →
          JZ l cs Φs w1 (fun j => L j ∨ j = i) (fun j => if j = i then v else vs j) w' Z := by
        intro hnr v w' hE' hvd hvf
        refine ⟨fun m cm hm => ?_, clos, fun b hb => ⟨(j.zb b hb).1, Nat.lt_of_lt_of_le (j.zb b hb).2 hE'.size⟩, fun m Φ ft hm hlv => ?_, fnKeep v hvf, fun m m' Φ ft Φ' ft' hm hm' hne h1 h2 => ?_⟩
        · by_cases hmi : m = i
          · subst hmi; simp only [if_true]; exact hvd cm hm
          · simp only [hmi, if_false]; exact j.fit m cm hm
        · have hmi : m ≠ i := by rintro rfl; exact hnr _ _ hm
          simp only [hmi, if_false]
          obtain ⟨g1, g2⟩ := j.holds m Φ ft hm (lvOld m hmi hlv)
          refine ⟨stableZ_at hst1 m Φ ft hm _ Z Z w w' g1 (fun _ h => h) hE (hE.trans hE') (fun b _ hb => hE'.block b hb), fun b hb => ?_⟩
          obtain ⟨q1, q2, q3⟩ := g2 b hb
          exact ⟨q1, Nat.lt_of_lt_of_le q2 hE'.size, q3⟩
        · have hmi : m ≠ i := by rintro rfl; exact hnr _ _ hm
          have hmi' : m' ≠ i := by rintro rfl; exact hnr _ _ hm'
          simp only [hmi, hmi', if_false]
          exact j.apart m m' Φ ft Φ' ft' hm hm' hne (lvOld m hmi h1) (lvOld m' hmi' h2)
      cases ph with
      | det c =>
        refine GOp.mono (hD.1 w Z hE j.zb hfacts) ?_
        rintro v w' ⟨hE', rfl⟩
        exact ⟨hE.trans hE', Z, quiet (fun Φ ft h => by rw [hΦ] at h; cases h) v w' hE' (fun c hc => by rw [hΦ] at hc; cases hc; rfl) (fun m g h => by rw [hΦ] at h; cases h)⟩
      | fn m g =>
        obtain ⟨d, hdm, hop, -⟩ := hD
        refine GOp.mono (hop w Z hE j.zb hfacts) ?_
        rintro v w' ⟨hE', rfl⟩
        obtain ⟨hmi, -, hmr⟩ := fnOk_at hfo hΦ
        rw [envAll_at hdm i hmi (fun k hk hkd => uniq_at hu (by omega) (by omega) hkd hdm), vf_rel hmr]
        exact ⟨hE.trans hE', Z, quiet (fun Φ ft h => by rw [hΦ] at h; cases h) _ w' hE' (fun c hc => by rw [hΦ] at hc; cases hc) (fun m g h => by rw [hΦ] at h; cases h; rfl)⟩
      | rel Φ0 ft0 =>
        refine GOp.mono (hD.1 w Z hE j.zb hfacts) ?_
        rintro v w' ⟨Z', hz1, hz2, hU, hφ, hft⟩
        -- what was used up
        have cf : ∀ b, some b ∈ feet (cs.getD i []) (FallZ Φs vs i) → ∃ m Φ ft, m ∈ cs.getD i [] ∧ Φs[m]? = some (.rel Φ ft) ∧ some b ∈ ft (vs m) ∧ Lv cs L m := by
          intro b hb
          obtain ⟨x, hx, hxi, hbx⟩ := mem_feet.1 hb
          obtain ⟨_, Φ, ft, g1, g2, g3⟩ := mem_FallZ hx
          refine ⟨x.idx, Φ, ft, hxi, g1, by rw [← g3]; exact hbx, ?_, fun c hcL hj => ?_⟩
          · obtain ⟨oc, hoc, hd⟩ := waitB_at (con i _ hxi).1
            rw [ho] at hoc; cases hoc; exact hdeps _ hd
          · have := (con i _ hxi).2 c (conlt c _ hj) hj
            subst this; exact hnl hcL
        have cfb : ∀ b, some b ∈ feet (cs.getD i []) (FallZ Φs vs i) → w1.heap.size ≤ b ∧ b < w.heap.size ∧ ¬ Z b := by
          intro b hb
          obtain ⟨m, Φ, ft, _, g1, g2, g3⟩ := cf b hb
          exact (j.holds m Φ ft g1 g3).2 b g2
        have hE' : Ext w1 w' := by
          refine ⟨hU.os.trans hE.os, hU.tape.trans hE.tape, hU.output.trans hE.output, Nat.le_trans hE.size hU.size, fun b hb => ?_⟩
          rw [hU.keep b (Nat.lt_of_lt_of_le hb hE.size) (fun hm => by have := (cfb b hm).1; omega)]
          exact hE.block b hb
        have newb : ∀ b, New (feet (cs.getD i []) (FallZ Φs vs i)) w w' b → w1.heap.size ≤ b ∧ b < w'.heap.size := by
          rintro b (h1 | h1)
          · exact ⟨Nat.le_trans hE.size h1.1, h1.2⟩
          · exact ⟨(cfb b h1).1, Nat.lt_of_lt_of_le (cfb b h1).2.1 hU.size⟩
        -- the others are as they were
        have lvNot : ∀ m, Lv cs (fun j => L j ∨ j = i) m → m ∉ cs.getD i [] := fun m hlv => hlv.2 i (.inr rfl)
        have others : ∀ m Φ ft, m ≠ i → Φs[m]? = some (.rel Φ ft) → Lv cs (fun j => L j ∨ j = i) m → ∀ b, some b ∈ ft (vs m) → some b ∉ feet (cs.getD i []) (FallZ Φs vs i) := by
          intro m Φ ft hmi hm hlv b hb hcf
          obtain ⟨m', Φ', ft', g0, g1, g2, g3⟩ := cf b hcf
          have hne : m ≠ m' := by rintro rfl; exact lvNot m hlv g0
          exact j.apart m m' Φ ft Φ' ft' hm g1 hne (lvOld m hmi hlv) g3 b hb g2
        refine ⟨hE', Z', ⟨fun m cm hm => ?_, clos, fun b hb => ?_, fun m Φ ft hm hlv => ?_, fnKeep v (fun m g h => by rw [hΦ] at h; cases h), fun m m' Φ ft Φ' ft' hm hm' hne h1 h2 => ?_⟩⟩
        · have hmi : m ≠ i := by rintro rfl; rw [hΦ] at hm; cases hm
          simp only [hmi, if_false]; exact j.fit m cm hm
        · rcases hz2 b hb with h1 | h1
          · exact ⟨(j.zb b h1).1, Nat.lt_of_lt_of_le (j.zb b h1).2 hU.size⟩
          · exact newb b h1
        · by_cases hmi : m = i
          · subst hmi
            rw [hΦ] at hm; cases hm
            simp only [if_true]
            refine ⟨hφ, fun b hb => ?_⟩
            obtain ⟨q1, q2⟩ := hft b hb
            exact ⟨(newb b q1).1, (newb b q1).2, q2⟩
          · simp only [hmi, if_false]
            obtain ⟨g1, g2⟩ := j.holds m Φ ft hm (lvOld m hmi hlv)
            refine ⟨stableZ_at hst1 m Φ ft hm _ Z Z' w w' g1 hz1 hE hE' (fun b hb hlt => ?_), fun b hb => ?_⟩
            · refine hU.keep b hlt fun hcf => ?_
              rcases hb with hb | hb | hb
              · have := (cfb b hcf).1; omega
              · exact (cfb b hcf).2.2 hb
              · exact others m Φ ft hmi hm hlv b hb hcf
            · obtain ⟨q1, q2, q3⟩ := g2 b hb
              refine ⟨q1, Nat.lt_of_lt_of_le q2 hU.size, fun hz => ?_⟩
              rcases hz2 b hz with h1 | h1
              · exact q3 h1
              · rcases h1 with h1 | h1
                · omega
                · exact others m Φ ft hmi hm hlv b hb h1
        · intro b hb
          by_cases hmi : m = i
          · subst hmi
            have hmi' : m' ≠ m := fun h => hne h.symm
            rw [hΦ] at hm; cases hm
            simp only [if_true, hmi', if_false] at hb ⊢
            intro hb'
            obtain ⟨q1, q2⟩ := hft b hb
            rcases q1 with q1 | q1
            · have := ((j.holds m' Φ' ft' hm' (lvOld m' hmi' h2)).2 b hb').2.1; omega
            · exact others m' Φ' ft' hmi' hm' h2 b hb' q1
          · by_cases hmi' : m' = i
            · subst hmi'
              rw [hΦ] at hm'; cases hm'
              simp only [if_true, hmi, if_false] at hb ⊢
              intro hb'
              obtain ⟨q1, q2⟩ := hft b hb'
              rcases q1 with q1 | q1
              · have := ((j.holds m Φ ft hm (lvOld m hmi h1)).2 b hb).2.1; omega
              · exact others m Φ ft hmi hm h1 b hb q1
            · simp only [hmi, hmi', if_false] at hb ⊢
              exact j.apart m m' Φ ft Φ' ft' hm hm' hne (lvOld m hmi h1) (lvOld m' hmi' h2) b hb
  · -- a late one may be thought of as done
    intro w1 hE1 i hil o ho L vs w hdeps hnl hE ⟨Z, j⟩
    have hfo := hfn w1
    have hl1 := hlt w1
    have hst1 := hst w1 hE1
    generalize Ψ w1 = Φs at j hfo hl1 hst1 ⊢
    have hnr : isRel Φs[i]? = false := by
      have := List.all_eq_true.1 hl1 i hil
      simpa using this
    have hnr' : ∀ Φ ft, Φs[i]? ≠ some (.rel Φ ft) := fun Φ ft h => by rw [h] at hnr; cases hnr
    have lvOld : ∀ m, m ≠ i → Lv cs (fun j => L j ∨ j = i) m → Lv cs L m := fun m hm hlv => ⟨hlv.1.resolve_right hm, fun c hcL => hlv.2 c (.inl hcL)⟩
    refine ⟨vf Φs vs i, Z, ⟨fun m cm hm => ?_, ?_, j.zb, fun m Φ ft hm hlv => ?_, fun q m g hq hLq => ?_, fun m m' Φ ft Φ' ft' hm hm' hne h1 h2 => ?_⟩⟩
    · by_cases hmi : m = i
      · subst hmi; simp only [if_true]; unfold vf; rw [hm]; exact j.fit m cm hm
      · simp only [hmi, if_false]; exact j.fit m cm hm
    · intro c oc hcL hoc d hd
      rcases hcL with h1 | h1
      · exact .inl (j.cl c oc h1 hoc d hd)
      · subst h1; rw [ho] at hoc; cases hoc; exact .inl (hdeps d hd)
    · have hmi : m ≠ i := by rintro rfl; exact hnr' _ _ hm
      simp only [hmi, if_false]
      exact j.holds m Φ ft hm (lvOld m hmi hlv)
    · obtain ⟨g1, g2, g3⟩ := fnOk_at hfo hq
      by_cases hqi : q = i
      · subst hqi
        rw [if_pos rfl, if_neg (by omega)]; unfold vf; rw [hq]
      · have hLq := hLq.resolve_right hqi
        have hLm := reach_closed j.cl hLq g2
        rw [if_neg hqi, if_neg (fun hmi : m = i => hnl (hmi ▸ hLm))]
        exact j.fnv q m g hq hLq
    · have hmi : m ≠ i := by rintro rfl; exact hnr' _ _ hm
      have hmi' : m' ≠ i := by rintro rfl; exact hnr' _ _ hm'
      simp only [hmi, hmi', if_false]
      exact j.apart m m' Φ ft Φ' ft' hm hm' hne (lvOld m hmi h1) (lvOld m' hmi' h2)
  · intro w1 hE1 vs w hE ⟨Z, j⟩
    have hh1 := h w1 hE1
    have hfo := hfn w1
    generalize Ψ w1 = Φs at j hh1 hfo ⊢
    obtain ⟨ff1, ff2⟩ := fits2 Φs hfo vs j.fit
    have hD := drH_at hn hu hh1 (vf Φs vs) ff1 ff2 n0 (Nat.le_refl _)
    rw [FallZ_vf, envAll_congr (vs' := vs) (fun q hq => by
      unfold vf
      cases hΦq : Φs[q]? with
      | none => rfl
      | some ph => cases ph with
        | fn m g => exact (j.fnv q m g hΦq hq).symm
        | _ => rfl)] at hD
    have hnil : (l.take n0).drop n0 = [] := by
      apply List.drop_eq_nil_of_le; simp; omega
    rw [hnil] at hD
    have lvE : ∀ x ∈ FallZ Φs vs n0, endsB cs x.idx = true → Lv cs (fun j => j < n0) x.idx := by
      intro x hx hend
      obtain ⟨hxi, _⟩ := mem_FallZ hx
      refine ⟨hxi, fun c hc hj => ?_⟩
      have : c ∈ usedBy cs x.idx := mem_usedBy.2 ⟨conlt c _ hj, hj⟩
      unfold endsB at hend
      rw [List.isEmpty_iff] at hend
      rw [hend] at this; cases this
    have f1 : factsE cs w1 (FallZ Φs vs n0) Z w := factsE_of fun x hx hend => by
      obtain ⟨hxi, Φ, ft, g1, g2, g3⟩ := mem_FallZ hx
      rw [g2, g3]
      exact j.holds x.idx Φ ft g1 (lvE x hx hend)
    have f2 : ∀ i, i ≤ n0 → apartsE cs (FallZ Φs vs i) := by
      intro i
      induction i with
      | zero => intro _; trivial
      | succ i ih =>
        intro hi
        simp only [FallZ]
        have sub : ∀ x ∈ FallZ Φs vs i, x ∈ FallZ Φs vs n0 := by
          have : ∀ m, i ≤ m → ∀ x ∈ FallZ Φs vs i, x ∈ FallZ Φs vs m := by
            intro m
            induction m with
            | zero => intro hm x hx; have : i = 0 := by omega
                      subst this; exact hx
            | succ m ihm =>
              intro hm x hx
              by_cases him : i = m + 1
              · subst him; exact hx
              · have := ihm (by omega) x hx
                simp only [FallZ]
                cases hq : Φs[m]? with
                | none => exact this
                | some ph => cases ph with | det c => exact this | fn m g => exact this | rel Φ ft => exact List.mem_cons_of_mem _ this
          exact this n0 (by omega)
        cases hΦ : Φs[i]? with
        | none => exact ih (by omega)
        | some ph =>
          cases ph with
          | det c => exact ih (by omega)
          | fn m g => exact ih (by omega)
          | rel Φ ft =>
            refine ⟨apartE_of fun y hy h1 h2 b hb => ?_, ih (by omega)⟩
            obtain ⟨hyi, Φ', ft', g1, g2, g3⟩ := mem_FallZ hy
            rw [g3]
            have hl1 : Lv cs (fun j => j < n0) i := by
              refine ⟨by omega, fun c hc hj => ?_⟩
              have : c ∈ usedBy cs i := mem_usedBy.2 ⟨conlt c _ hj, hj⟩
              unfold endsB at h1
              rw [List.isEmpty_iff] at h1
              rw [h1] at this; cases this
            exact j.apart i y.idx Φ ft Φ' ft' hΦ g1 (by omega) hl1 (lvE y (sub y hy) h2) b hb
    cases hΦ : Φs.drop n0 with
    | nil => rw [hΦ] at hD; exact hD w Z hE j.zb f1 (f2 n0 (Nat.le_refl _))
    | cons x r => rw [hΦ] at hD; exact hD w Z hE j.zb f1 (f2 n0 (Nat.le_refl _))
end
section
variable {P : Program} {l : List Oper} {cs : List (List Nat)} {w1 : World} {K : Env → World → Prop} {r : List Oper} {Φs : List Pz} {e : Env} {F : List FE} {i : Nat}
theorem DrH.det {d : Nat} {op : Op} {ty : TypeId} {pos : String} {after : Array Edge} {guard : Option (Nat × Bool)} {c : Value}
    (h1 : ∀ w' Z, Ext w1 w' → ZB w1 w' Z → factsI l cs w1 i (depsOf { dst := some d, op := op, type := ty, pos := pos, after := after, guard := guard }) F Z w' → GOp P l { dst := some d, op := op, type := ty, pos := pos, after := after, guard := guard } e w' fun v w'' => Ext w' w'' ∧ v = c)
    (h2 : DrH P l cs w1 K r Φs (upd e d c) F (i + 1)) : DrH P l cs w1 K ({ dst := some d, op := op, type := ty, pos := pos, after := after, guard := guard } :: r) (.det c :: Φs) e F i := ⟨h1, h2⟩
theorem er {w : World} {v c : Value} (h : v = c) : Ext w w ∧ v = c := ⟨Ext.refl _, h⟩
theorem DrH.de {d : Nat} {op : Op} {ty : TypeId} {pos : String} {after : Array Edge} {guard : Option (Nat × Bool)} {c : Value}
    (h1 : ∀ w', Ext w1 w' → GOp P l { dst := some d, op := op, type := ty, pos := pos, after := after, guard := guard } e w' fun v w'' => Ext w' w'' ∧ v = c)
    (h2 : DrH P l cs w1 K r Φs (upd e d c) F (i + 1)) : DrH P l cs w1 K ({ dst := some d, op := op, type := ty, pos := pos, after := after, guard := guard } :: r) (.det c :: Φs) e F i := ⟨fun w' _ hE _ _ => h1 w' hE, h2⟩
theorem DrH.fn {d m ds : Nat} {op : Op} {ty : TypeId} {pos : String} {after : Array Edge} {guard : Option (Nat × Bool)} {g : Value → Value} (hm : dstAt l m = some ds)
    (h1 : ∀ w' Z, Ext w1 w' → ZB w1 w' Z → factsI l cs w1 i (depsOf { dst := some d, op := op, type := ty, pos := pos, after := after, guard := guard }) F Z w' → GOp P l { dst := some d, op := op, type := ty, pos := pos, after := after, guard := guard } e w' fun v w'' => Ext w' w'' ∧ v = g (e ds))
    (h2 : DrH P l cs w1 K r Φs (upd e d (g (e ds))) F (i + 1)) : DrH P l cs w1 K ({ dst := some d, op := op, type := ty, pos := pos, after := after, guard := guard } :: r) (.fn m g :: Φs) e F i := ⟨ds, hm, h1, h2⟩
theorem DrH.rel {d : Nat} {op : Op} {ty : TypeId} {pos : String} {after : Array Edge} {guard : Option (Nat × Bool)} {Φ : Value → (Nat → Prop) → World → Prop} {ft : Value → List (Option Nat)}
    (h1 : ∀ w' Z, Ext w1 w' → ZB w1 w' Z → factsI l cs w1 i (depsOf { dst := some d, op := op, type := ty, pos := pos, after := after, guard := guard }) F Z w' → GOp P l { dst := some d, op := op, type := ty, pos := pos, after := after, guard := guard } e w' fun v w'' => Made (feet (cs.getD i []) F) (ft v) Z w' w'' (Φ v))
    (h2 : ∀ v, DrH P l cs w1 K r Φs (upd e d v) (⟨i, Φ v, ft v⟩ :: F) (i + 1)) : DrH P l cs w1 K ({ dst := some d, op := op, type := ty, pos := pos, after := after, guard := guard } :: r) (.rel Φ ft :: Φs) e F i := ⟨h1, h2⟩
theorem DrH.fin (h : ∀ w' Z, Ext w1 w' → ZB w1 w' Z → factsE cs w1 F Z w' → apartsE cs F → K e w') : DrH P l cs w1 K [] Φs e F i := h
theorem DrH.fin0 (h : ∀ w' Z, Ext w1 w' → ZB w1 w' Z → factsE cs w1 F Z w' → apartsE cs F → Rl P l r K e w') : DrH P l cs w1 (RlL P l K [] r) [] Φs e F i := fun w' Z h1 h2 h3 h4 => RlL_nil (h w' Z h1 h2 h3 h4)
end
section
variable {P : Program} {l : List Oper} {K : Env → World → Prop} {r : List Oper} {e : Env} {w : World} {lt : List Nat}
theorem LateP.nil : LateP P l [] e w := fun _ h => by cases h
theorem LateP.cons {i : Nat} {o : Oper} {d : Nat} (ho : l[i]? = some o) (hd : o.dst = some d) (h : GOp P l o e w fun v w' => v = e d ∧ w' = w) (hr : LateP P l lt e w) : LateP P l (i :: lt) e w := fun j hj o' ho' => by
  rcases List.mem_cons.1 hj with rfl | hj
  · rw [ho] at ho'; cases ho'
    exact GOp.mono h fun v w' h' => ⟨⟨d, hd, h'.1⟩, h'.2⟩
  · exact hr j hj o' ho'
theorem RlL.op {d : Nat} {op : Op} {ty : TypeId} {pos : String} {after : Array Edge}
    (h : OpY P op ty (ev e) w fun v w' => LateP P l (lt.filter fun i => !memN i (depsOf { dst := some d, op := op, type := ty, pos := pos, after := after, guard := none })) (upd e d v) w' ∧ RlL P l K (lt.filter fun i => !memN i (depsOf { dst := some d, op := op, type := ty, pos := pos, after := after, guard := none })) r (upd e d v) w') :
    RlL P l K lt ({ dst := some d, op := op, type := ty, pos := pos, after := after, guard := none } :: r) e w := GOp.op h
theorem RlL.op0 {op : Op} {ty : TypeId} {pos : String} {after : Array Edge}
    (h : OpY P op ty (ev e) w fun _ w' => LateP P l (lt.filter fun i => !memN i (depsOf { dst := none, op := op, type := ty, pos := pos, after := after, guard := none })) e w' ∧ RlL P l K (lt.filter fun i => !memN i (depsOf { dst := none, op := op, type := ty, pos := pos, after := after, guard := none })) r e w') :
    RlL P l K lt ({ dst := none, op := op, type := ty, pos := pos, after := after, guard := none } :: r) e w := GOp.op h
/-- a part of a tuple -/
def tg (i : Nat) : Value → Value
  | .tuple vs => vs.getD i undef
  | _ => undef
end
end Go.X

/-
  A region whose operations are carried out in an order that is drawn: what is kept is said once for all orders; an operation may use up what an earlier one of the region has made. Plain theorems over any program.
-/
import Derived.Test.YtakkacdhlocckaaZ1
namespace Go.X
open Go Go.RowKit
section
variable {P : Program} {l : List Oper} {n n0 : Nat} {K : Env → World → Prop} {e : Env} {w0 : World}
structure InvJ (l : List Oper) (n n0 : Nat) (e : Env) (w0 : World) (J : (Nat → Prop) → (Nat → Value) → World → Prop) (listed : Array Bool) (a : Act) (w : World) (vs : Nat → Value) : Prop where
  size : listed.size = l.length
  tmps : a.tmps.size = n
  defs : a.defers = []
  ext : Ext w0 w
  env1 : ∀ t j, j < n0 → dstAt l j = some t → lst listed j → envOf a t = vs j
  env2 : ∀ t, (∀ j, j < n0 → lst listed j → dstAt l j ≠ some t) → envOf a t = e t
  holds : J (lst listed) vs w
theorem lst_set_iff {listed : Array Bool} {i : Nat} (hi : i < listed.size) : lst (listed.setIfInBounds i true) = fun j => lst listed j ∨ j = i := by
  funext j
  apply propext
  constructor
  · exact lst_set
  · rintro (h | h)
    · exact getD_set_true h
    · subst h; simp [lst, hi]
theorem GOp.mono {o : Oper} {E : Env} {w : World} {R R' : Value → World → Prop} (h : GOp P l o E w R) (hR : ∀ v w', R v w' → R' v w') : GOp P l o E w R' := by
  unfold GOp at *
  cases hw : wantedE l o E with
  | true => rw [hw] at h; exact OpY.mono h hR
  | false => rw [hw] at h; exact hR _ _ h
theorem InvJ.step {J : (Nat → Prop) → (Nat → Value) → World → Prop} {listed : Array Bool} {a : Act} {w : World} {vs : Nat → Value} {Q : Exit → Act → World → Prop} {K' : Act → World → Prop} (hb : backOk l = true) (hh : headOk l n0 = true) (hu : uniqOk l n0 = true) (hok : dstsOk n l = true)
    (hS : ∀ i o, i < n0 → l[i]? = some o → ∀ (L : Nat → Prop) (vs : Nat → Value) (w : World), (∀ d ∈ depsOf o, L d) → ¬ L i → Ext w0 w → J L vs w →
      GOp P l o (envAll l e vs i) w fun v w' => Ext w0 w' ∧ J (fun j => L j ∨ j = i) (fun j => if j = i then v else vs j) w')
    (inv : InvJ l n n0 e w0 J listed a w vs) (hcl : ∀ j oj, l[j]? = some oj → lst listed j → ∀ d ∈ depsOf oj, lst listed d) {i : Nat} (hi : i < n0) (hr : i ∈ Region.ready .any l.toArray listed)
    (hk : ∀ a' w' vs', InvJ l n n0 e w0 J (listed.setIfInBounds i true) a' w' vs' → K' a' w') : wpOp P l.toArray Q i K' a w := by
  have hil : i < l.length := by
    obtain ⟨_, o, g2, _⟩ := mem_ready.1 hr
    rw [List.getElem?_toArray] at g2
    exact (List.getElem?_eq_some_iff.1 g2).1
  have ho : l[i]? = some l[i] := List.getElem?_eq_getElem hil
  obtain ⟨⟨d, hd⟩, hlook, hsel⟩ := head_at hh hi ho
  obtain ⟨hun, hdeps⟩ := ready_deps hr ho
  have hdst : dstAt l i = some d := by simp only [dstAt, ho]; exact hd
  have hsz : i < listed.size := by rw [inv.size]; omega
  have hset := lst_set_iff (listed := listed) hsz
  have hnl : ¬ lst listed i := by
    intro h; unfold lst at h
    simp [hsz] at hun h; rw [hun] at h; cases h
  have hdd : ∀ o, o ∈ l → ∀ d, o.dst = some d → d < a.tmps.size := by rw [inv.tmps]; exact dstsOk_spec hok
  have hagree : ∀ t, t ∈ looksE l l[i] → envAll l e vs i t = envOf a t := by
    intro t ht
    by_cases hex : ∃ j, j < n0 ∧ dstAt l j = some t
    · obtain ⟨j, hj, hjd⟩ := hex
      rcases look_at hlook ht hj hjd with ⟨h1, h2⟩ | ⟨h1, oj, h2, h3⟩
      · rw [envAll_at hjd i h2 (fun k hk hkd => uniq_at hu (by omega) hj hkd hjd), inv.env1 t j hj hjd (hdeps j h1)]
      · have hjn : ¬ lst listed j := fun h => hnl (hcl j oj h2 h i h3)
        rw [envAll_not i (fun k hk hkd => by have := uniq_at hu (show k < n0 by omega) hj hkd hjd; omega), inv.env2 t (fun k hk hl hkd => by have := uniq_at hu hk hj hkd hjd; subst this; exact hjn hl)]
    · rw [envAll_not i (fun j hj hjd => hex ⟨j, by omega, hjd⟩), inv.env2 t (fun j hj _ hjd => hex ⟨j, hj, hjd⟩)]
  have hop := hS i l[i] hi ho (lst listed) vs w hdeps hnl inv.ext inv.holds
  refine wpOp_of_GOp hdd ho (GOp_congr hsel hagree hop) fun v w' hv => ?_
  refine hk _ w' (fun j => if j = i then v else vs j) ⟨by simp [inv.size], by rw [put_size]; exact inv.tmps, by rw [put_defers']; exact inv.defs, hv.1, ?_, ?_, ?_⟩
  · intro t j hj hjd hl
    rw [hd, envOf_put a inv.tmps (by rw [← inv.tmps]; exact hdd _ (List.mem_of_getElem? ho) d hd)]
    by_cases hji : j = i
    · subst hji
      rw [hdst] at hjd; cases hjd
      simp [upd_same]
    · have htd : t ≠ d := fun h => hji (uniq_at hu hj hi hjd (by rw [hdst, h]))
      rw [upd_other _ _ htd]
      simp only [hji, if_false]
      rw [hset] at hl
      exact inv.env1 t j hj hjd (hl.resolve_right hji)
  · intro t ht
    rw [hd, envOf_put a inv.tmps (by rw [← inv.tmps]; exact hdd _ (List.mem_of_getElem? ho) d hd)]
    rw [hset] at ht
    have htd : t ≠ d := fun h => ht i hi (.inr rfl) (by rw [hdst, h])
    rw [upd_other _ _ htd]
    exact inv.env2 t (fun j hj hl => ht j hj (.inl hl))
  · rw [hset]; exact hv.2
def sinkL (l : List Oper) (n0 : Nat) (lt : List Nat) : Bool := Nat.beq n0 l.length || (List.range n0).all fun i => memN i lt || (List.range (n0 + 1)).any fun j => Nat.blt i j && waitB l j i && !memN j lt
def lateOk (l : List Oper) (n0 : Nat) (lt : List Nat) : Bool := lt.isEmpty || ((lt.all fun i => Nat.blt i n0 && match l[i]? with
    | some o => (looksE l o).all fun x => (List.range n0).all fun j => !(dstAt l j == some x) || (memN j (depsOf o) && Nat.blt j i)
    | none => false) &&
  (List.range l.length).all fun t => Nat.blt t n0 || match l[t]? with
    | some o => !isSel o.op && lt.all fun i => (looksE l o).all (fun x => !(dstAt l i == some x)) || (List.range (t + 1)).any fun j => Nat.ble n0 j && waitB l j i
    | none => true)
def drawOkL (l : List Oper) (n0 : Nat) (lt : List Nat) : Bool := Nat.ble n0 l.length && headOk l n0 && uniqOk l n0 && backOk l && sinkL l n0 lt && chainOk l n0 && lateOk l n0 lt
theorem drawOkL_spec {lt : List Nat} (h : drawOkL l n0 lt = true) : n0 ≤ l.length ∧ headOk l n0 = true ∧ uniqOk l n0 = true ∧ backOk l = true ∧ sinkL l n0 lt = true ∧ chainOk l n0 = true ∧ lateOk l n0 lt = true := by
  simp only [drawOkL, Bool.and_eq_true] at h
  obtain ⟨⟨⟨⟨⟨⟨h1, h2⟩, h3⟩, h4⟩, h5⟩, h6⟩, h7⟩ := h
  exact ⟨by simpa using h1, h2, h3, h4, h5, h6, h7⟩
def LateP (P : Program) (l : List Oper) (lt : List Nat) (E : Env) (w : World) : Prop := ∀ i ∈ lt, ∀ o, l[i]? = some o → GOp P l o E w fun v w' => (∃ d, o.dst = some d ∧ v = E d) ∧ w' = w
def RlL (P : Program) (l : List Oper) (K : Env → World → Prop) : List Nat → List Oper → Env → World → Prop
  | _, [], e, w => K e w
  | lt, o :: r, e, w => GOp P l o e w fun v w' => LateP P l (lt.filter fun i => !memN i (depsOf o)) (updo e o.dst v) w' ∧ RlL P l K (lt.filter fun i => !memN i (depsOf o)) r (updo e o.dst v) w'
structure Inv2 (l : List Oper) (n n0 : Nat) (lt : List Nat) (t : Nat) (listed : Array Bool) (a : Act) (E : Env) (ltr : List Nat) : Prop where
  size : listed.size = l.length
  tmps : a.tmps.size = n
  defs : a.defers = []
  t0 : n0 ≤ t
  t1 : t ≤ l.length
  tail : ∀ j, t ≤ j → j < l.length → ¬ lst listed j
  cl : ∀ j oj, l[j]? = some oj → lst listed j → ∀ d ∈ depsOf oj, lst listed d
  done : ∀ j, n0 ≤ j → j < t → lst listed j
  late : ∀ i, i < n0 → ¬ lst listed i → i ∈ ltr
  sub : ∀ i ∈ ltr, i ∈ lt
  env : ∀ x, (∀ i, i < n0 → ¬ lst listed i → dstAt l i ≠ some x) → envOf a x = E x
theorem set_lst {listed : Array Bool} (hs : listed.size = l.length) {i j : Nat} (hi : i < l.length) : lst (listed.setIfInBounds i true) j ↔ (lst listed j ∨ j = i) := by
  rw [lst_set_iff (by omega)]
theorem cl_set {listed : Array Bool} (hs : listed.size = l.length) {i : Nat} (hi : i < l.length) (hcl : ∀ j oj, l[j]? = some oj → lst listed j → ∀ d ∈ depsOf oj, lst listed d) (hd : ∀ d ∈ depsOf l[i], lst listed d) :
    ∀ j oj, l[j]? = some oj → lst (listed.setIfInBounds i true) j → ∀ d ∈ depsOf oj, lst (listed.setIfInBounds i true) d := by
  intro j oj hoj hjl d hdm
  rw [set_lst hs hi] at hjl ⊢
  rcases hjl with h1 | h1
  · exact .inl (hcl j oj hoj h1 d hdm)
  · subst h1
    rw [List.getElem?_eq_getElem hi] at hoj
    cases hoj
    exact .inl (hd d hdm)
theorem Inv2.next {lt ltr : List Nat} {t : Nat} {listed : Array Bool} {a : Act} {w : World} {E : Env} {Q : Exit → Act → World → Prop} {K' : Act → World → Prop} (hok : dstsOk n l = true) (hdr : drawOkL l n0 lt = true) (inv : Inv2 l n n0 lt t listed a E ltr)
    (hR : RlL P l K ltr (l.drop t) E w) (ht : t < l.length) (hr : t ∈ Region.ready .any l.toArray listed)
    (hk : ∀ a' w' E' ltr', Inv2 l n n0 lt (t + 1) (listed.setIfInBounds t true) a' E' ltr' → LateP P l ltr' E' w' → RlL P l K ltr' (l.drop (t + 1)) E' w' → K' a' w') : wpOp P l.toArray Q t K' a w := by
  obtain ⟨hn, hh, hu, hb, hsk, hch, hlo⟩ := drawOkL_spec hdr
  have ho : l[t]? = some l[t] := List.getElem?_eq_getElem ht
  obtain ⟨hun, hdeps⟩ := ready_deps hr ho
  have hdd : ∀ o, o ∈ l → ∀ d, o.dst = some d → d < a.tmps.size := by rw [inv.tmps]; exact dstsOk_spec hok
  rw [List.drop_eq_getElem_cons ht] at hR
  simp only [RlL] at hR
  have fin : ∀ v w', (LateP P l (ltr.filter fun i => !memN i (depsOf l[t])) (updo E l[t].dst v) w' ∧ RlL P l K (ltr.filter fun i => !memN i (depsOf l[t])) (l.drop (t + 1)) (updo E l[t].dst v) w') → K' (a.put l[t].dst v) w' := by
    intro v w' hv
    refine hk _ w' _ _ ⟨by simp [inv.size], by rw [put_size]; exact inv.tmps, by rw [put_defers']; exact inv.defs, by have := inv.t0; omega, by omega, ?_, ?_, ?_, ?_, ?_, ?_⟩ hv.1 hv.2
    · intro j hj hjl
      rw [set_lst inv.size ht]
      rintro (h1 | h1)
      · exact inv.tail j (by omega) hjl h1
      · omega
    · exact cl_set inv.size ht inv.cl hdeps
    · intro j h1 h2
      rw [set_lst inv.size ht]
      by_cases hjt : j = t
      · exact .inr hjt
      · exact .inl (inv.done j h1 (by omega))
    · intro i hi hil
      rw [set_lst inv.size ht] at hil
      have hil' : ¬ lst listed i := fun h => hil (.inl h)
      refine List.mem_filter.2 ⟨inv.late i hi hil', ?_⟩
      cases hm : memN i (depsOf l[t]) with
      | false => rfl
      | true => exact absurd (hdeps i (memN_iff.1 hm)) hil'
    · intro i hi
      exact inv.sub i (List.mem_filter.1 hi).1
    · intro x hx
      have hx' : ∀ i, i < n0 → ¬ lst listed i → dstAt l i ≠ some x := by
        intro i hi hil
        refine hx i hi ?_
        rw [set_lst inv.size ht]
        rintro (h1 | h1)
        · exact hil h1
        · have := inv.t0; omega
      have he := inv.env x hx'
      cases hd : l[t].dst with
      | none => exact he
      | some d =>
        rw [envOf_put a inv.tmps (by rw [← inv.tmps]; exact hdd _ (List.mem_of_getElem? ho) d hd)]
        simp only [updo]
        by_cases hxd : x = d
        · subst hxd; rw [upd_same, upd_same]
        · rw [upd_other _ _ hxd, upd_other _ _ hxd]; exact he
  by_cases hlt : lt = []
  · 
    have hall : ∀ i, i < n0 → lst listed i := fun i hi => Classical.byContradiction fun h => by have := inv.sub i (inv.late i hi h); rw [hlt] at this; cases this
    have hE : E = envOf a := by
      funext x
      exact (inv.env x (fun i hi hil => absurd (hall i hi) hil)).symm
    rw [hE] at hR fin
    exact wpOp_of_GOp hdd ho hR fin
  · have hlo' := hlo
    simp only [lateOk, Bool.or_eq_true, Bool.and_eq_true, List.isEmpty_iff] at hlo'
    have h2 := List.all_eq_true.1 ((hlo'.resolve_left hlt).2) t (List.mem_range.2 ht)
    rw [ho] at h2
    simp only [Bool.or_eq_true, Bool.and_eq_true, Bool.not_eq_true'] at h2
    have h3 : isSel l[t].op = false ∧ _ := h2.resolve_left (by have := inv.t0; simp; omega)
    refine wpOp_of_GOp hdd ho (GOp_congr h3.1 (fun x hx => ?_) hR) fin
    symm
    refine inv.env x (fun i hi hil hdi => ?_)
    have h4 := List.all_eq_true.1 h3.2 i (inv.sub i (inv.late i hi hil))
    simp only [Bool.or_eq_true] at h4
    rcases h4 with h4 | h4
    · have := List.all_eq_true.1 h4 x hx
      rw [hdi] at this; simp at this
    · obtain ⟨j, hj, h5⟩ := List.any_eq_true.1 h4
      simp only [Bool.and_eq_true] at h5
      have hjt : j ≤ t := by have := List.mem_range.1 hj; omega
      have hj0 : n0 ≤ j := by simpa using h5.1
      have h6 := h5.2
      unfold waitB at h6
      rw [List.getElem?_eq_getElem (by omega : j < l.length)] at h6
      have h7 := memN_iff.1 h6
      by_cases hjt' : j = t
      · subst hjt'; exact hil (hdeps i h7)
      · exact hil (inv.cl j _ (List.getElem?_eq_getElem (by omega)) (inv.done j hj0 (by omega)) i h7)
end
inductive Pz where
  | det (c : Value)
  | fn (m : Nat) (g : Value → Value)
  | rel (Φ : Value → (Nat → Prop) → World → Prop) (ft : Value → List (Option Nat))
structure FE where
  idx : Nat
  φ : (Nat → Prop) → World → Prop
  ft : List (Option Nat)
def usedBy (cs : List (List Nat)) (j : Nat) : List Nat := (List.range cs.length).filter fun c => memN j (cs.getD c [])
def seesB (l : List Oper) (cs : List (List Nat)) (i j : Nat) : Bool := (usedBy cs j).all fun c => Nat.beq c i || waitB l c i
def endsB (cs : List (List Nat)) (j : Nat) : Bool := (usedBy cs j).isEmpty
def Bnd (w1 w : World) (Z : Nat → Prop) (ft : List (Option Nat)) : Prop := ∀ b, some b ∈ ft → w1.heap.size ≤ b ∧ b < w.heap.size ∧ ¬ Z b
def factsI (l : List Oper) (cs : List (List Nat)) (w1 : World) (i : Nat) (ds : List Nat) : List FE → (Nat → Prop) → World → Prop
  | [], _, _ => True
  | x :: r, Z, w => (bif memN x.idx ds && seesB l cs i x.idx then x.φ Z w ∧ Bnd w1 w Z x.ft else True) ∧ factsI l cs w1 i ds r Z w
def factsE (cs : List (List Nat)) (w1 : World) : List FE → (Nat → Prop) → World → Prop
  | [], _, _ => True
  | x :: r, Z, w => (bif endsB cs x.idx then x.φ Z w ∧ Bnd w1 w Z x.ft else True) ∧ factsE cs w1 r Z w
def apartE (cs : List (List Nat)) (x : FE) : List FE → Prop
  | [] => True
  | y :: r => (bif endsB cs x.idx && endsB cs y.idx then ∀ b, some b ∈ x.ft → some b ∉ y.ft else True) ∧ apartE cs x r
def apartsE (cs : List (List Nat)) : List FE → Prop
  | [] => True
  | x :: r => apartE cs x r ∧ apartsE cs r
def feet (js : List Nat) : List FE → List (Option Nat)
  | [] => []
  | x :: r => bif memN x.idx js then x.ft ++ feet js r else feet js r
def ZB (w1 w : World) (Z : Nat → Prop) : Prop := ∀ b, Z b → w1.heap.size ≤ b ∧ b < w.heap.size
structure Use (cf : List (Option Nat)) (w w' : World) : Prop where
  os : w'.os = w.os
  tape : w'.tape = w.tape
  output : w'.output = w.output
  size : w.heap.size ≤ w'.heap.size
  keep : ∀ k, k < w.heap.size → some k ∉ cf → w'.heap[k]? = w.heap[k]?
theorem Use.ext {cf : List (Option Nat)} {w w' : World} (h : Ext w w') : Use cf w w' := ⟨h.os, h.tape, h.output, h.size, fun k hk _ => h.block k hk⟩
def New (cf : List (Option Nat)) (w w' : World) (b : Nat) : Prop := (w.heap.size ≤ b ∧ b < w'.heap.size) ∨ some b ∈ cf
def Made (cf ft : List (Option Nat)) (Z : Nat → Prop) (w w' : World) (φ : (Nat → Prop) → World → Prop) : Prop :=
  ∃ Z', (∀ b, Z b → Z' b) ∧ (∀ b, Z' b → Z b ∨ New cf w w' b) ∧ Use cf w w' ∧ φ Z' w' ∧ ∀ b, some b ∈ ft → New cf w w' b ∧ ¬ Z' b
def DrH (P : Program) (l : List Oper) (cs : List (List Nat)) (w1 : World) (K : Env → World → Prop) : List Oper → List Pz → Env → List FE → Nat → Prop
  | [], _, e, F, _ => ∀ w' Z, Ext w1 w' → ZB w1 w' Z → factsE cs w1 F Z w' → apartsE cs F → K e w'
  | o :: r, .det c :: Φs, e, F, i => (∀ w' Z, Ext w1 w' → ZB w1 w' Z → factsI l cs w1 i (depsOf o) F Z w' → GOp P l o e w' fun v w'' => Ext w' w'' ∧ v = c) ∧ DrH P l cs w1 K r Φs (updo e o.dst c) F (i + 1)
  | o :: r, .fn m g :: Φs, e, F, i => ∃ d, dstAt l m = some d ∧ (∀ w' Z, Ext w1 w' → ZB w1 w' Z → factsI l cs w1 i (depsOf o) F Z w' → GOp P l o e w' fun v w'' => Ext w' w'' ∧ v = g (e d)) ∧ DrH P l cs w1 K r Φs (updo e o.dst (g (e d))) F (i + 1)
  | o :: r, .rel Φ ft :: Φs, e, F, i => (∀ w' Z, Ext w1 w' → ZB w1 w' Z → factsI l cs w1 i (depsOf o) F Z w' → GOp P l o e w' fun v w'' => Made (feet (cs.getD i []) F) (ft v) Z w' w'' (Φ v)) ∧
      ∀ v, DrH P l cs w1 K r Φs (updo e o.dst v) (⟨i, Φ v, ft v⟩ :: F) (i + 1)
  | _ :: _, [], _, _, _ => False
def fitsZ (Φs : List Pz) (vs : Nat → Value) : Prop := ∀ (i : Nat) c, Φs[i]? = some (Pz.det c) → vs i = c
section
variable {P : Program} {l : List Oper} {cs : List (List Nat)} {n n0 : Nat} {K : Env → World → Prop} {e : Env} {w1 : World}
def Lv (cs : List (List Nat)) (L : Nat → Prop) (i : Nat) : Prop := L i ∧ ∀ c, L c → i ∉ cs.getD c []
structure JZ (l : List Oper) (cs : List (List Nat)) (Φs : List Pz) (w1 : World) (L : Nat → Prop) (vs : Nat → Value) (w : World) (Z : Nat → Prop) : Prop where
  fit : fitsZ Φs vs
  cl : ∀ c o, L c → l[c]? = some o → ∀ d ∈ depsOf o, L d
  zb : ZB w1 w Z
  holds : ∀ i Φ ft, Φs[i]? = some (.rel Φ ft) → Lv cs L i → Φ (vs i) Z w ∧ Bnd w1 w Z (ft (vs i))
  fnv : ∀ j m g, Φs[j]? = some (.fn m g) → L j → vs j = g (vs m)
  apart : ∀ i j Φ ft Φ' ft', Φs[i]? = some (.rel Φ ft) → Φs[j]? = some (.rel Φ' ft') → i ≠ j → Lv cs L i → Lv cs L j → ∀ b, some b ∈ ft (vs i) → some b ∉ ft' (vs j)
end
section
variable {P : Program} {l : List Oper} {cs : List (List Nat)} {w1 : World} {K : Env → World → Prop} {r : List Oper} {Φs : List Pz} {e : Env} {F : List FE} {i : Nat}
theorem DrH.det {d : Nat} {op : Op} {ty : TypeId} {pos : String} {after : Array Edge} {guard : Option (Nat × Bool)} {c : Value}
    (h1 : ∀ w' Z, Ext w1 w' → ZB w1 w' Z → factsI l cs w1 i (depsOf { dst := some d, op := op, type := ty, pos := pos, after := after, guard := guard }) F Z w' → GOp P l { dst := some d, op := op, type := ty, pos := pos, after := after, guard := guard } e w' fun v w'' => Ext w' w'' ∧ v = c)
    (h2 : DrH P l cs w1 K r Φs (upd e d c) F (i + 1)) : DrH P l cs w1 K ({ dst := some d, op := op, type := ty, pos := pos, after := after, guard := guard } :: r) (.det c :: Φs) e F i := ⟨h1, h2⟩
theorem DrH.rel {d : Nat} {op : Op} {ty : TypeId} {pos : String} {after : Array Edge} {guard : Option (Nat × Bool)} {Φ : Value → (Nat → Prop) → World → Prop} {ft : Value → List (Option Nat)}
    (h1 : ∀ w' Z, Ext w1 w' → ZB w1 w' Z → factsI l cs w1 i (depsOf { dst := some d, op := op, type := ty, pos := pos, after := after, guard := guard }) F Z w' → GOp P l { dst := some d, op := op, type := ty, pos := pos, after := after, guard := guard } e w' fun v w'' => Made (feet (cs.getD i []) F) (ft v) Z w' w'' (Φ v))
    (h2 : ∀ v, DrH P l cs w1 K r Φs (upd e d v) (⟨i, Φ v, ft v⟩ :: F) (i + 1)) : DrH P l cs w1 K ({ dst := some d, op := op, type := ty, pos := pos, after := after, guard := guard } :: r) (.rel Φ ft :: Φs) e F i := ⟨h1, h2⟩
theorem DrH.fin (h : ∀ w' Z, Ext w1 w' → ZB w1 w' Z → factsE cs w1 F Z w' → apartsE cs F → K e w') : DrH P l cs w1 K [] Φs e F i := h
end
end Go.X

/-
  A region whose operations are carried out in an order that is drawn: what is kept is said once for all orders; an operation may use up what an earlier one of the region has made. Plain theorems over any program.
-/
import Derived.Test.YtakkacdhlocckaaZ1
namespace Go.X
open Go Go.RowKit
section
variable {P : Program} {l : List Oper} {n n0 : Nat} {K : Env → World → Prop} {e : Env} {w0 : World}
structure InvJ (l : List Oper) (n n0 : Nat) (e : Env) (w0 : World) (J : (Nat → Prop) → (Nat → Value) → World → Prop) (listed : Array Bool) (a : Act) (w : World) (vs : Nat → Value) : Prop where
  size : listed.size = l.length
  tmps : a.tmps.size = n
  defs : a.defers = []
  ext : Ext w0 w
  env1 : ∀ t j, j < n0 → dstAt l j = some t → lst listed j → envOf a t = vs j
  env2 : ∀ t, (∀ j, j < n0 → lst listed j → dstAt l j ≠ some t) → envOf a t = e t
  holds : J (lst listed) vs w
theorem lst_set_iff {listed : Array Bool} {i : Nat} (hi : i < listed.size) : lst (listed.setIfInBounds i true) = fun j => lst listed j ∨ j = i := by
  funext j
  apply propext
  constructor
  · exact lst_set
  · rintro (h | h)
    · exact getD_set_true h
    · subst h; simp [lst, hi]
theorem GOp.mono {o : Oper} {E : Env} {w : World} {R R' : Value → World → Prop} (h : GOp P l o E w R) (hR : ∀ v w', R v w' → R' v w') : GOp P l o E w R' := by
  unfold GOp at *
  cases hw : wantedE l o E with
  | true => rw [hw] at h; exact OpY.mono h hR
  | false => rw [hw] at h; exact hR _ _ h
theorem InvJ.step {J : (Nat → Prop) → (Nat → Value) → World → Prop} {listed : Array Bool} {a : Act} {w : World} {vs : Nat → Value} {Q : Exit → Act → World → Prop} {K' : Act → World → Prop} (hok : dstsOk n l = true) (hdr : drawOk l n0 = true)
    (hS : ∀ i o, i < n0 → l[i]? = some o → ∀ (L : Nat → Prop) (vs : Nat → Value) (w : World), (∀ d ∈ depsOf o, L d) → ¬ L i → Ext w0 w → J L vs w →
      GOp P l o (envAll l e vs i) w fun v w' => Ext w0 w' ∧ J (fun j => L j ∨ j = i) (fun j => if j = i then v else vs j) w')
    (inv : InvJ l n n0 e w0 J listed a w vs) (hcl : ∀ j oj, l[j]? = some oj → lst listed j → ∀ d ∈ depsOf oj, lst listed d) {i : Nat} (hi : i < n0) (hr : i ∈ Region.ready .any l.toArray listed)
    (hk : ∀ a' w' vs', InvJ l n n0 e w0 J (listed.setIfInBounds i true) a' w' vs' → K' a' w') : wpOp P l.toArray Q i K' a w := by
  obtain ⟨hn, hh, hu, hb, _, _⟩ := drawOk_spec hdr
  have ho : l[i]? = some l[i] := List.getElem?_eq_getElem (by omega)
  obtain ⟨⟨d, hd⟩, hlook, hsel⟩ := head_at hh hi ho
  obtain ⟨hun, hdeps⟩ := ready_deps hr ho
  have hdst : dstAt l i = some d := by simp only [dstAt, ho]; exact hd
  have hsz : i < listed.size := by rw [inv.size]; omega
  have hset := lst_set_iff (listed := listed) hsz
  have hnl : ¬ lst listed i := by
    intro h; unfold lst at h
    simp [hsz] at hun h; rw [hun] at h; cases h
  have hdd : ∀ o, o ∈ l → ∀ d, o.dst = some d → d < a.tmps.size := by rw [inv.tmps]; exact dstsOk_spec hok
  have hagree : ∀ t, t ∈ looksE l l[i] → envAll l e vs i t = envOf a t := by
    intro t ht
    by_cases hex : ∃ j, j < n0 ∧ dstAt l j = some t
    · obtain ⟨j, hj, hjd⟩ := hex
      rcases look_at hlook ht hj hjd with ⟨h1, h2⟩ | ⟨h1, oj, h2, h3⟩
      · rw [envAll_at hjd i h2 (fun k hk hkd => uniq_at hu (by omega) hj hkd hjd), inv.env1 t j hj hjd (hdeps j h1)]
      · have hjn : ¬ lst listed j := fun h => hnl (hcl j oj h2 h i h3)
        rw [envAll_not i (fun k hk hkd => by have := uniq_at hu (show k < n0 by omega) hj hkd hjd; omega), inv.env2 t (fun k hk hl hkd => by have := uniq_at hu hk hj hkd hjd; subst this; exact hjn hl)]
    · rw [envAll_not i (fun j hj hjd => hex ⟨j, by omega, hjd⟩), inv.env2 t (fun j hj _ hjd => hex ⟨j, hj, hjd⟩)]
  have hop := hS i l[i] hi ho (lst listed) vs w hdeps hnl inv.ext inv.holds
  refine wpOp_of_GOp hdd ho (GOp_congr hsel hagree hop) fun v w' hv => ?_
  refine hk _ w' (fun j => if j = i then v else vs j) ⟨by simp [inv.size], by rw [put_size]; exact inv.tmps, by rw [put_defers']; exact inv.defs, hv.1, ?_, ?_, ?_⟩
  · intro t j hj hjd hl
    rw [hd, envOf_put a inv.tmps (by rw [← inv.tmps]; exact hdd _ (List.mem_of_getElem? ho) d hd)]
    by_cases hji : j = i
    · subst hji
      rw [hdst] at hjd; cases hjd
      simp [upd_same]
    · have htd : t ≠ d := fun h => hji (uniq_at hu hj hi hjd (by rw [hdst, h]))
      rw [upd_other _ _ htd]
      simp only [hji, if_false]
      rw [hset] at hl
      exact inv.env1 t j hj hjd (hl.resolve_right hji)
  · intro t ht
    rw [hd, envOf_put a inv.tmps (by rw [← inv.tmps]; exact hdd _ (List.mem_of_getElem? ho) d hd)]
    rw [hset] at ht
    have htd : t ≠ d := fun h => ht i hi (.inr rfl) (by rw [hdst, h])
    rw [upd_other _ _ htd]
    exact inv.env2 t (fun j hj hl => ht j hj (.inl hl))
  · rw [hset]; exact hv.2
theorem head_anyJ {J : (Nat → Prop) → (Nat → Value) → World → Prop} {Q : Exit → Act → World → Prop} (hok : dstsOk n l = true) (hdr : drawOk l n0 = true)
    (hS : ∀ i o, i < n0 → l[i]? = some o → ∀ (L : Nat → Prop) (vs : Nat → Value) (w : World), (∀ d ∈ depsOf o, L d) → ¬ L i → Ext w0 w → J L vs w →
      GOp P l o (envAll l e vs i) w fun v w' => Ext w0 w' ∧ J (fun j => L j ∨ j = i) (fun j => if j = i then v else vs j) w')
    (hfin : ∀ (vs : Nat → Value) (w : World), Ext w0 w → J (fun j => j < n0) vs w → Rl P l (l.drop n0) K (envAll l e vs n0) w)
    (hQ : ∀ a w, a.tmps.size = n → a.defers = [] → K (envOf a) w → Q .normal a w) :
    ∀ (fuel : Nat) (listed : Array Bool) (a : Act) (w : World) (vs : Nat → Value), InvJ l n n0 e w0 J listed a w vs → (∀ j oj, l[j]? = some oj → lst listed j → ∀ d ∈ depsOf oj, lst listed d) →
      (∀ t, n0 ≤ t → t < l.length → listed.getD t true = false) → cnt l listed ≤ fuel → wpAny P .any l.toArray Q fuel listed a w := by
  obtain ⟨hn, hh, hu, hb, hsk, hch⟩ := drawOk_spec hdr
  have hlt : ∀ {listed : Array Bool}, listed.size = l.length → ∀ j, j < l.length → (listed.getD j true = false ↔ ¬ lst listed j) := by
    intro listed hs j hj
    unfold lst
    simp [hs, hj]
  have done : ∀ (fuel : Nat) (listed : Array Bool) (a : Act) (w : World) (vs : Nat → Value), InvJ l n n0 e w0 J listed a w vs → (∀ t, n0 ≤ t → t < l.length → listed.getD t true = false) → (∀ j, j < n0 → lst listed j) → l.length - n0 ≤ fuel → wpAny P .any l.toArray Q fuel listed a w := by
    intro fuel listed a w vs inv htail hall hf
    have hL : lst listed = fun j => j < n0 := by
      funext j
      apply propext
      constructor
      · intro h
        rcases Nat.lt_or_ge j n0 with h1 | h1
        · exact h1
        · exfalso
          rcases Nat.lt_or_ge j l.length with h2 | h2
          · exact (hlt inv.size j h2).1 (htail j h1 h2) h
          · unfold lst at h
            rw [Array.getD_eq_getD_getElem?, Array.getElem?_eq_none (by rw [inv.size]; exact h2)] at h
            cases h
      · exact hall j
    have hE : envAll l e vs n0 = envOf a := by
      funext t
      by_cases hex : ∃ j, j < n0 ∧ dstAt l j = some t
      · obtain ⟨j, hj, hjd⟩ := hex
        rw [envAll_at hjd n0 hj (fun k hk hkd => uniq_at hu hk hj hkd hjd), inv.env1 t j hj hjd (hall j hj)]
      · rw [envAll_not n0 (fun j hj hjd => hex ⟨j, hj, hjd⟩), inv.env2 t (fun j hj _ hjd => hex ⟨j, hj, hjd⟩)]
    have hR : Rl P l (l.drop n0) K (envOf a) w := by
      rw [← hE]
      have hJ := inv.holds
      rw [hL] at hJ
      exact hfin vs w inv.ext hJ
    exact tail_any hok hdr hQ fuel n0 listed a w inv.size hall htail (Nat.le_refl _) hn hf inv.tmps inv.defs hR
  intro fuel
  induction fuel with
  | zero =>
    intro listed a w vs inv hcl htail hc
    have h0 : ∀ j, j < l.length → lst listed j := by
      intro j hj
      have := cnt_zero (by omega : cnt l listed = 0) hj
      unfold lst; simp [inv.size, hj] at this ⊢; exact this
    have hnn : n0 = l.length := by
      rcases Nat.lt_or_ge n0 l.length with h | h
      · have := (hlt inv.size n0 h).1 (htail n0 (Nat.le_refl _) h)
        exact absurd (h0 n0 h) this
      · omega
    exact done 0 listed a w vs inv htail (fun j hj => h0 j (by omega)) (by omega)
  | succ fuel ih =>
    intro listed a w vs inv hcl htail hc
    by_cases hall : ∀ j, j < n0 → lst listed j
    · refine done (fuel + 1) listed a w vs inv htail hall ?_
      have : l.length - n0 ≤ cnt l listed := by
        have h1 : ((List.range' n0 (l.length - n0)).filter fun j => !(listed.getD j true)).length = l.length - n0 := by
          rw [List.filter_eq_self.2]
          · simp
          · intro j hj
            rw [List.mem_range'_1] at hj
            have := htail j hj.1 (by omega)
            simp only [this, Bool.not_false]
        have h2 : List.range l.length = List.range n0 ++ List.range' n0 (l.length - n0) := by
          rw [List.range_eq_range', List.range_eq_range']
          have := List.range'_append_1 (s := 0) (m := n0) (n := l.length - n0)
          rw [Nat.zero_add] at this
          rw [this]; congr 1; omega
        unfold cnt
        rw [h2, List.filter_append, List.length_append, h1]; omega
      omega
    · have hex : ∃ i, i < n0 ∧ ¬ lst listed i := by
        refine Classical.byContradiction fun h => hall fun j hj => Classical.byContradiction fun hn => h ⟨j, hj, hn⟩
      have some_ready : ∀ m, m < n0 → ¬ lst listed m → ∃ i, i < n0 ∧ i ∈ Region.ready .any l.toArray listed := by
        intro m
        induction m using Nat.strongRecOn with
        | _ m ihm =>
          intro hm hml
          have hmo : l[m]? = some l[m] := List.getElem?_eq_getElem (by omega)
          by_cases hd : ∀ d ∈ depsOf l[m], lst listed d
          · exact ⟨m, hm, ready_of hmo ((hlt inv.size m (by omega)).2 hml) hd⟩
          · have : ∃ d, d ∈ depsOf l[m] ∧ ¬ lst listed d := by
              refine Classical.byContradiction fun h => hd fun d hdm => Classical.byContradiction fun hn => h ⟨d, hdm, hn⟩
            obtain ⟨d, hdm, hdl⟩ := this
            exact ihm d (back_at hb hmo hdm) (by have := back_at hb hmo hdm; omega) hdl
      have none_tail : ∀ (c i : Nat), n0 - i = c → i < n0 → ¬ lst listed i → ∀ t, n0 ≤ t → t ∉ Region.ready .any l.toArray listed := by
        intro c
        induction c using Nat.strongRecOn with
        | _ c ihc =>
          intro i hci hi hil t ht hr
          have htl : t < l.length := by
            obtain ⟨_, o, g2, _⟩ := mem_ready.1 hr
            rw [List.getElem?_toArray] at g2
            exact (List.getElem?_eq_some_iff.1 g2).1
          obtain ⟨_, hdeps⟩ := ready_deps hr (List.getElem?_eq_getElem htl)
          by_cases htn : t = n0
          · subst htn
            simp only [sinkOk, Bool.or_eq_true] at hsk
            rcases hsk with h1 | h1
            · have := Nat.eq_of_beq_eq_true h1; omega
            · have h2 := List.all_eq_true.1 h1 i (List.mem_range.2 hi)
              obtain ⟨j, hj, h3⟩ := List.any_eq_true.1 h2
              simp only [Bool.and_eq_true] at h3
              have hij : i < j := by simpa using h3.1
              have hjn : j ≤ t := by have := List.mem_range.1 hj; omega
              have h4 := h3.2
              unfold waitB at h4
              rw [List.getElem?_eq_getElem (by omega : j < l.length)] at h4
              have h5 := memN_iff.1 h4
              by_cases hjt : j = t
              · subst hjt; exact hil (hdeps i h5)
              · by_cases hjl : lst listed j
                · exact hil (hcl j _ (List.getElem?_eq_getElem (by omega)) hjl i h5)
                · exact ihc (t - j) (by omega) j rfl (by omega) hjl t (Nat.le_refl _) hr
          · have := List.all_eq_true.1 hch t (List.mem_range.2 htl)
            simp only [Bool.or_eq_true] at this
            rcases this with h4 | h4
            · have : t ≤ n0 := by simpa using h4
              omega
            · unfold waitB at h4
              rw [List.getElem?_eq_getElem htl] at h4
              have h5 := hdeps (t - 1) (memN_iff.1 h4)
              exact (hlt inv.size (t - 1) (by omega)).1 (htail (t - 1) (by omega) (by omega)) h5
      obtain ⟨i0, hi0, hi0l⟩ := hex
      refine ⟨fun hr => ?_, fun i hi => ?_⟩
      · obtain ⟨i, _, hir⟩ := some_ready i0 hi0 hi0l
        rw [hr] at hir; cases hir
      · have hin : i < n0 := by
          rcases Nat.lt_or_ge i n0 with h | h
          · exact h
          · exact absurd hi (none_tail _ i0 rfl hi0 hi0l i h)
        obtain ⟨hun, hdeps⟩ := ready_deps hi (List.getElem?_eq_getElem (by omega : i < l.length))
        refine inv.step hok hdr hS hcl hin hi fun a' w' vs' inv' => ih _ a' w' vs' inv' ?_ ?_ ?_
        · intro j oj hoj hjl d hd
          rcases lst_set hjl with h1 | h1
          · exact getD_set_true (hcl j oj hoj h1 d hd)
          · subst h1
            rw [List.getElem?_eq_getElem (by omega : j < l.length)] at hoj
            cases hoj
            exact getD_set_true (hdeps d hd)
        · intro t ht htl
          rw [getD_set_ne true (by omega)]; exact htail t ht htl
        · have := cnt_set inv.size (by omega : i < l.length) hun
          omega
end
section
variable {P : Program} {n : Nat} {k : List It} {Q : Env → World → Prop} {e : Env} {w : World}
theorem Swp.drawJ {id : Nat} {l : List Oper} (n0 : Nat) (J : World → (Nat → Prop) → (Nat → Value) → World → Prop) (hm : P.follows .mixedOrders = true) (hok : dstsOk n l = true) (hdr : drawOk l n0 = true)
    (h0 : ∀ w1, Ext w w1 → ∃ vs, J w1 (fun _ => False) vs w1)
    (hS : ∀ w1, Ext w w1 → ∀ i o, i < n0 → l[i]? = some o → ∀ (L : Nat → Prop) (vs : Nat → Value) (w : World), (∀ d ∈ depsOf o, L d) → ¬ L i → Ext w1 w → J w1 L vs w →
      GOp P l o (envAll l e vs i) w fun v w' => Ext w1 w' ∧ J w1 (fun j => L j ∨ j = i) (fun j => if j = i then v else vs j) w')
    (hfin : ∀ w1, Ext w w1 → ∀ (vs : Nat → Value) (w : World), Ext w1 w → J w1 (fun j => j < n0) vs w → Rl P l (l.drop n0) (Swp P n k Q) (envAll l e vs n0) w) : Swp P n (.code (.region id l.toArray true) :: k) Q e w := by
  intro a h1 h2 h3
  subst h3
  refine wp_region_any hm ?_
  have hE : Ext w { w with drawn := w.drawn + 1 } := Ext.drawn w _
  obtain ⟨vs, hvs⟩ := h0 _ hE
  refine head_anyJ (K := Swp P n k Q) (J := J { w with drawn := w.drawn + 1 }) hok hdr (hS _ hE) (hfin _ hE) (fun a' w' g1 g2 g3 => ⟨g1, g2, g3⟩) l.toArray.size (Array.replicate l.toArray.size false) a _ vs
    ⟨by simp, h1, h2, Ext.refl _, fun t j _ _ hj => ?_, fun t _ => rfl, ?_⟩ (fun j oj _ hj => ?_) (fun t _ ht => by simp [ht]) ?_
  · unfold lst at hj; rw [getD_replicate_false] at hj; cases hj
  · have : lst (Array.replicate l.toArray.size false) = fun _ => False := by
      funext j
      apply propext
      refine ⟨fun h => ?_, fun h => h.elim⟩
      unfold lst at h; rw [getD_replicate_false] at h; cases h
    rw [this]; exact hvs
  · unfold lst at hj; rw [getD_replicate_false] at hj; cases hj
  · unfold cnt
    refine Nat.le_trans (List.length_filter_le _ _) (by simp)
end
inductive Pz where
  | det (c : Value)
  | rel (Φ : Value → (Nat → Prop) → World → Prop) (ft : Value → List (Option Nat))
structure FE where
  idx : Nat
  φ : (Nat → Prop) → World → Prop
  ft : List (Option Nat)
def usedBy (cs : List (List Nat)) (j : Nat) : List Nat := (List.range cs.length).filter fun c => memN j (cs.getD c [])
def seesB (l : List Oper) (cs : List (List Nat)) (i j : Nat) : Bool := (usedBy cs j).all fun c => Nat.beq c i || waitB l c i
def endsB (cs : List (List Nat)) (j : Nat) : Bool := (usedBy cs j).isEmpty
def conOk (l : List Oper) (cs : List (List Nat)) : Bool :=
  (List.range cs.length).all fun c => (cs.getD c []).all fun j => waitB l c j && (usedBy cs j).all fun c' => Nat.beq c' c
def Bnd (w1 w : World) (Z : Nat → Prop) (ft : List (Option Nat)) : Prop := ∀ b, some b ∈ ft → w1.heap.size ≤ b ∧ b < w.heap.size ∧ ¬ Z b
def factsI (l : List Oper) (cs : List (List Nat)) (w1 : World) (i : Nat) (ds : List Nat) : List FE → (Nat → Prop) → World → Prop
  | [], _, _ => True
  | x :: r, Z, w => (bif memN x.idx ds && seesB l cs i x.idx then x.φ Z w ∧ Bnd w1 w Z x.ft else True) ∧ factsI l cs w1 i ds r Z w
def factsE (cs : List (List Nat)) (w1 : World) : List FE → (Nat → Prop) → World → Prop
  | [], _, _ => True
  | x :: r, Z, w => (bif endsB cs x.idx then x.φ Z w ∧ Bnd w1 w Z x.ft else True) ∧ factsE cs w1 r Z w
def apartE (cs : List (List Nat)) (x : FE) : List FE → Prop
  | [] => True
  | y :: r => (bif endsB cs x.idx && endsB cs y.idx then ∀ b, some b ∈ x.ft → some b ∉ y.ft else True) ∧ apartE cs x r
def apartsE (cs : List (List Nat)) : List FE → Prop
  | [] => True
  | x :: r => apartE cs x r ∧ apartsE cs r
def feet (js : List Nat) : List FE → List (Option Nat)
  | [] => []
  | x :: r => bif memN x.idx js then x.ft ++ feet js r else feet js r
def ZB (w1 w : World) (Z : Nat → Prop) : Prop := ∀ b, Z b → w1.heap.size ≤ b ∧ b < w.heap.size
structure Use (cf : List (Option Nat)) (w w' : World) : Prop where
  os : w'.os = w.os
  tape : w'.tape = w.tape
  output : w'.output = w.output
  size : w.heap.size ≤ w'.heap.size
  keep : ∀ k, k < w.heap.size → some k ∉ cf → w'.heap[k]? = w.heap[k]?
theorem Use.ext {cf : List (Option Nat)} {w w' : World} (h : Ext w w') : Use cf w w' := ⟨h.os, h.tape, h.output, h.size, fun k hk _ => h.block k hk⟩
def New (cf : List (Option Nat)) (w w' : World) (b : Nat) : Prop := (w.heap.size ≤ b ∧ b < w'.heap.size) ∨ some b ∈ cf
def Made (cf ft : List (Option Nat)) (Z : Nat → Prop) (w w' : World) (φ : (Nat → Prop) → World → Prop) : Prop :=
  ∃ Z', (∀ b, Z b → Z' b) ∧ (∀ b, Z' b → Z b ∨ New cf w w' b) ∧ Use cf w w' ∧ φ Z' w' ∧ ∀ b, some b ∈ ft → New cf w w' b ∧ ¬ Z' b
def DrH (P : Program) (l : List Oper) (cs : List (List Nat)) (w1 : World) (K : Env → World → Prop) : List Oper → List Pz → Env → List FE → Nat → Prop
  | [], _, e, F, _ => ∀ w' Z, Ext w1 w' → ZB w1 w' Z → factsE cs w1 F Z w' → apartsE cs F → K e w'
  | o :: r, .det c :: Φs, e, F, i => (∀ w' Z, Ext w1 w' → ZB w1 w' Z → factsI l cs w1 i (depsOf o) F Z w' → GOp P l o e w' fun v w'' => Ext w' w'' ∧ v = c) ∧ DrH P l cs w1 K r Φs (updo e o.dst c) F (i + 1)
  | o :: r, .rel Φ ft :: Φs, e, F, i => (∀ w' Z, Ext w1 w' → ZB w1 w' Z → factsI l cs w1 i (depsOf o) F Z w' → GOp P l o e w' fun v w'' => Made (feet (cs.getD i []) F) (ft v) Z w' w'' (Φ v)) ∧
      ∀ v, DrH P l cs w1 K r Φs (updo e o.dst v) (⟨i, Φ v, ft v⟩ :: F) (i + 1)
  | _ :: _, [], _, _, _ => False
def fitsZ (Φs : List Pz) (vs : Nat → Value) : Prop := ∀ (i : Nat) c, Φs[i]? = some (Pz.det c) → vs i = c
def FallZ (Φs : List Pz) (vs : Nat → Value) : Nat → List FE
  | 0 => []
  | i + 1 => match Φs[i]? with
    | some (.rel Φ ft) => ⟨i, Φ (vs i), ft (vs i)⟩ :: FallZ Φs vs i
    | _ => FallZ Φs vs i
def stableZ (w1 : World) : List Pz → Prop
  | [] => True
  | .det _ :: r => stableZ w1 r
  | .rel Φ ft :: r => (∀ v Z Z' w w', Φ v Z w → (∀ b, Z b → Z' b) → Ext w1 w → Ext w1 w' → (∀ b, (b < w1.heap.size ∨ Z b ∨ some b ∈ ft v) → b < w.heap.size → w'.heap[b]? = w.heap[b]?) → Φ v Z' w') ∧ stableZ w1 r
section
variable {P : Program} {l : List Oper} {cs : List (List Nat)} {n n0 : Nat} {K : Env → World → Prop} {e : Env} {w1 : World}
theorem stableZ_at {Φs : List Pz} (h : stableZ w1 Φs) : ∀ (i : Nat) Φ ft, Φs[i]? = some (.rel Φ ft) → ∀ v Z Z' w w', Φ v Z w → (∀ b, Z b → Z' b) → Ext w1 w → Ext w1 w' → (∀ b, (b < w1.heap.size ∨ Z b ∨ some b ∈ ft v) → b < w.heap.size → w'.heap[b]? = w.heap[b]?) → Φ v Z' w' := by
  induction Φs with
  | nil => intro i Φ ft hi; simp at hi
  | cons x r ih =>
    intro i Φ ft hi
    cases i with
    | zero =>
      simp at hi; subst hi
      exact h.1
    | succ i =>
      have hr : stableZ w1 r := by cases x with | det c => exact h | rel Φ ft => exact h.2
      exact ih hr i Φ ft (by simpa using hi)
theorem drH_at {Φs : List Pz} (hl : n0 ≤ l.length) (h : DrH P l cs w1 K (l.take n0) Φs e [] 0) (vs : Nat → Value) (hv : fitsZ Φs vs) : ∀ i, i ≤ n0 → DrH P l cs w1 K ((l.take n0).drop i) (Φs.drop i) (envAll l e vs i) (FallZ Φs vs i) i
  | 0, _ => by simpa [envAll, FallZ] using h
  | i + 1, hi => by
    have ih := drH_at hl h vs hv i (by omega)
    have hlt : i < (l.take n0).length := by simp; omega
    rw [List.drop_eq_getElem_cons hlt] at ih
    have hd : dstAt l i = ((l.take n0)[i]).dst := by
      simp only [dstAt, List.getElem_take]
      rw [List.getElem?_eq_getElem (by omega)]; rfl
    cases hΦ : Φs[i]? with
    | none =>
      have : Φs.drop i = [] := List.drop_eq_nil_of_le (List.getElem?_eq_none_iff.1 hΦ)
      rw [this] at ih; exact ih.elim
    | some ph =>
      have hlt2 : i < Φs.length := by
        rcases Nat.lt_or_ge i Φs.length with h2 | h2
        · exact h2
        · rw [List.getElem?_eq_none h2] at hΦ; cases hΦ
      have hc : Φs.drop i = ph :: Φs.drop (i + 1) := by
        rw [List.drop_eq_getElem_cons hlt2]; congr 1
        rw [List.getElem?_eq_getElem hlt2] at hΦ; exact Option.some.inj hΦ
      rw [hc] at ih
      cases ph with
      | det c =>
        have := ih.2
        have hvc := hv i c hΦ
        simp only [envAll, FallZ, hΦ, hd, hvc]
        exact this
      | rel Φ ft =>
        have := ih.2 (vs i)
        simp only [envAll, FallZ, hΦ, hd]
        exact this
theorem mem_FallZ {Φs : List Pz} {vs : Nat → Value} {x : FE} : ∀ {i : Nat}, x ∈ FallZ Φs vs i → x.idx < i ∧ ∃ Φ ft, Φs[x.idx]? = some (.rel Φ ft) ∧ x.φ = Φ (vs x.idx) ∧ x.ft = ft (vs x.idx)
  | 0, h => by cases h
  | i + 1, h => by
    simp only [FallZ] at h
    cases hΦ : Φs[i]? with
    | none => rw [hΦ] at h; obtain ⟨h1, h2⟩ := mem_FallZ h; exact ⟨by omega, h2⟩
    | some ph =>
      rw [hΦ] at h
      cases ph with
      | det c => obtain ⟨h1, h2⟩ := mem_FallZ h; exact ⟨by omega, h2⟩
      | rel Φ ft =>
        rcases List.mem_cons.1 h with h | h
        · subst h; exact ⟨by simp, Φ, ft, hΦ, rfl, rfl⟩
        · obtain ⟨h1, h2⟩ := mem_FallZ h; exact ⟨by omega, h2⟩
theorem factsI_of {w : World} {Z : Nat → Prop} {i : Nat} {ds : List Nat} : ∀ {F : List FE}, (∀ x ∈ F, memN x.idx ds = true → seesB l cs i x.idx = true → x.φ Z w ∧ Bnd w1 w Z x.ft) → factsI l cs w1 i ds F Z w
  | [], _ => trivial
  | x :: r, h => by
    refine ⟨?_, factsI_of fun y hy => h y (List.mem_cons_of_mem _ hy)⟩
    cases h1 : memN x.idx ds <;> cases h2 : seesB l cs i x.idx <;> simp
    exact h x List.mem_cons_self h1 h2
theorem factsE_of {w : World} {Z : Nat → Prop} : ∀ {F : List FE}, (∀ x ∈ F, endsB cs x.idx = true → x.φ Z w ∧ Bnd w1 w Z x.ft) → factsE cs w1 F Z w
  | [], _ => trivial
  | x :: r, h => by
    refine ⟨?_, factsE_of fun y hy => h y (List.mem_cons_of_mem _ hy)⟩
    cases h1 : endsB cs x.idx <;> simp
    exact h x List.mem_cons_self h1
theorem apartE_of {x : FE} : ∀ {F : List FE}, (∀ y ∈ F, endsB cs x.idx = true → endsB cs y.idx = true → ∀ b, some b ∈ x.ft → some b ∉ y.ft) → apartE cs x F
  | [], _ => trivial
  | y :: r, h => by
    refine ⟨?_, apartE_of fun z hz => h z (List.mem_cons_of_mem _ hz)⟩
    cases h1 : endsB cs x.idx <;> cases h2 : endsB cs y.idx <;> simp
    exact h y List.mem_cons_self h1 h2
theorem mem_usedBy {j c : Nat} : c ∈ usedBy cs j ↔ c < cs.length ∧ j ∈ cs.getD c [] := by
  simp only [usedBy, List.mem_filter, List.mem_range, memN_iff]
theorem mem_feet {js : List Nat} {b : Option Nat} : ∀ {F : List FE}, b ∈ feet js F ↔ ∃ x ∈ F, x.idx ∈ js ∧ b ∈ x.ft
  | [] => by simp [feet]
  | x :: r => by
    have ih := mem_feet (js := js) (b := b) (F := r)
    simp only [feet]
    cases h : memN x.idx js with
    | true =>
      have := memN_iff.1 h
      simp [ih, this]
    | false =>
      have : x.idx ∉ js := fun hm => by rw [memN_iff.2 hm] at h; cases h
      simp [ih, this]
def Lv (cs : List (List Nat)) (L : Nat → Prop) (i : Nat) : Prop := L i ∧ ∀ c, L c → i ∉ cs.getD c []
structure JZ (l : List Oper) (cs : List (List Nat)) (Φs : List Pz) (w1 : World) (L : Nat → Prop) (vs : Nat → Value) (w : World) (Z : Nat → Prop) : Prop where
  fit : fitsZ Φs vs
  cl : ∀ c o, L c → l[c]? = some o → ∀ d ∈ depsOf o, L d
  zb : ZB w1 w Z
  holds : ∀ i Φ ft, Φs[i]? = some (.rel Φ ft) → Lv cs L i → Φ (vs i) Z w ∧ Bnd w1 w Z (ft (vs i))
  apart : ∀ i j Φ ft Φ' ft', Φs[i]? = some (.rel Φ ft) → Φs[j]? = some (.rel Φ' ft') → i ≠ j → Lv cs L i → Lv cs L j → ∀ b, some b ∈ ft (vs i) → some b ∉ ft' (vs j)
end
theorem waitB_at {l : List Oper} {c j : Nat} (h : waitB l c j = true) : ∃ o, l[c]? = some o ∧ j ∈ depsOf o := by
  unfold waitB at h
  cases ho : l[c]? with
  | none => rw [ho] at h; cases h
  | some o => rw [ho] at h; exact ⟨o, rfl, memN_iff.1 h⟩
section
variable {P : Program} {n : Nat} {k : List It} {Q : Env → World → Prop} {e : Env} {w : World}
theorem Swp.drawW {id : Nat} {l : List Oper} (n0 : Nat) (cs : List (List Nat)) (Ψ : World → List Pz) (hm : P.follows .mixedOrders = true) (hok : dstsOk n l = true) (hdr : drawOk l n0 = true) (hcon : conOk l cs = true)
    (hst : ∀ w1, Ext w w1 → stableZ w1 (Ψ w1))
    (h : ∀ w1, Ext w w1 → DrH P l cs w1 (Rl P l (l.drop n0) (Swp P n k Q)) (l.take n0) (Ψ w1) e [] 0) : Swp P n (.code (.region id l.toArray true) :: k) Q e w := by
  obtain ⟨hn, hh, hu, hb, hsk, hch⟩ := drawOk_spec hdr
  have con : ∀ c j, j ∈ cs.getD c [] → waitB l c j = true ∧ ∀ c', c' < cs.length → j ∈ cs.getD c' [] → c' = c := by
    intro c j hj
    have hc : c < cs.length := by
      rcases Nat.lt_or_ge c cs.length with h1 | h1
      · exact h1
      · rw [List.getD_eq_getElem?_getD, List.getElem?_eq_none h1] at hj; simp at hj
    have h1 := List.all_eq_true.1 (List.all_eq_true.1 hcon c (List.mem_range.2 hc)) j hj
    simp only [Bool.and_eq_true] at h1
    refine ⟨h1.1, fun c' hc' hj' => ?_⟩
    exact Nat.eq_of_beq_eq_true (List.all_eq_true.1 h1.2 c' (mem_usedBy.2 ⟨hc', hj'⟩))
  have conlt : ∀ c j, j ∈ cs.getD c [] → c < cs.length := by
    intro c j hj
    rcases Nat.lt_or_ge c cs.length with h1 | h1
    · exact h1
    · rw [List.getD_eq_getElem?_getD, List.getElem?_eq_none h1] at hj; simp at hj
  refine Swp.drawJ n0 (fun w1 L vs w => ∃ Z, JZ l cs (Ψ w1) w1 L vs w Z) hm hok hdr ?_ ?_ ?_
  · intro w1 _
    generalize Ψ w1 = Φs
    refine ⟨fun i => match Φs[i]? with | some (.det c) => c | _ => undef, fun _ => False, fun i c hc => by simp [hc], fun _ _ h => h.elim, fun _ h => h.elim, fun _ _ _ _ h => h.1.elim, fun _ _ _ _ _ _ _ _ _ h => h.1.elim⟩
  · intro w1 hE1 i o hi ho L vs w hdeps hnl hE ⟨Z, j⟩
    have hst1 := hst w1 hE1
    have hh1 := h w1 hE1
    generalize Ψ w1 = Φs at j hst1 hh1 ⊢
    have hD := drH_at hn hh1 vs j.fit i (by omega)
    have hlt : i < (l.take n0).length := by simp; omega
    rw [List.drop_eq_getElem_cons hlt] at hD
    have hgi : (l.take n0)[i] = o := by
      have : l[i]? = some l[i] := List.getElem?_eq_getElem (by omega)
      rw [ho] at this
      simp only [List.getElem_take]
      exact (Option.some.inj this).symm
    rw [hgi] at hD
    have see : ∀ x ∈ FallZ Φs vs i, memN x.idx (depsOf o) = true → seesB l cs i x.idx = true → x.φ Z w ∧ Bnd w1 w Z x.ft := by
      intro x hx hmx hsx
      obtain ⟨hxi, Φ, ft, g1, g2, g3⟩ := mem_FallZ hx
      have hlv : Lv cs L x.idx := by
        refine ⟨hdeps _ (memN_iff.1 hmx), fun c hc hj => ?_⟩
        have h1 := List.all_eq_true.1 hsx c (mem_usedBy.2 ⟨conlt c _ hj, hj⟩)
        simp only [Bool.or_eq_true] at h1
        rcases h1 with h1 | h1
        · have := Nat.eq_of_beq_eq_true h1; subst this; exact hnl hc
        · obtain ⟨oc, hoc, hd⟩ := waitB_at h1
          exact hnl (j.cl c oc hc hoc i hd)
      rw [g2, g3]
      exact j.holds x.idx Φ ft g1 hlv
    have hfacts := factsI_of (l := l) (cs := cs) (w1 := w1) (i := i) (ds := depsOf o) see
    cases hΦ : Φs[i]? with
    | none =>
      have : Φs.drop i = [] := List.drop_eq_nil_of_le (List.getElem?_eq_none_iff.1 hΦ)
      rw [this] at hD; exact hD.elim
    | some ph =>
      have hlt2 : i < Φs.length := by
        rcases Nat.lt_or_ge i Φs.length with h2 | h2
        · exact h2
        · rw [List.getElem?_eq_none h2] at hΦ; cases hΦ
      have hc : Φs.drop i = ph :: Φs.drop (i + 1) := by
        rw [List.drop_eq_getElem_cons hlt2]; congr 1
        rw [List.getElem?_eq_getElem hlt2] at hΦ; exact Option.some.inj hΦ
      rw [hc] at hD
      have clos : ∀ c oc, (L c ∨ c = i) → l[c]? = some oc → ∀ d ∈ depsOf oc, L d ∨ d = i := by
        intro c oc hcL hoc d hd
        rcases hcL with h1 | h1
        · exact .inl (j.cl c oc h1 hoc d hd)
        · subst h1; rw [ho] at hoc; cases hoc; exact .inl (hdeps d hd)
      have lvOld : ∀ m, m ≠ i → Lv cs (fun j => L j ∨ j = i) m → Lv cs L m := by
        intro m hm hlv
        exact ⟨hlv.1.resolve_right hm, fun c hcL => hlv.2 c (.inl hcL)⟩
      cases ph with
      | det c =>
        refine GOp.mono (hD.1 w Z hE j.zb hfacts) ?_
        rintro v w' ⟨hE', rfl⟩
        refine ⟨hE.trans hE', Z, ⟨fun m cm hm => ?_, clos, fun b hb => ⟨(j.zb b hb).1, Nat.lt_of_lt_of_le (j.zb b hb).2 hE'.size⟩, fun m Φ ft hm hlv => ?_, fun m m' Φ ft Φ' ft' hm hm' hne h1 h2 => ?_⟩⟩
        · by_cases hmi : m = i
          · subst hmi; rw [hΦ] at hm; cases hm; simp
          · simp only [hmi, if_false]; exact j.fit m cm hm
        · have hmi : m ≠ i := by rintro rfl; rw [hΦ] at hm; cases hm
          simp only [hmi, if_false]
          obtain ⟨g1, g2⟩ := j.holds m Φ ft hm (lvOld m hmi hlv)
          refine ⟨stableZ_at hst1 m Φ ft hm _ Z Z w w' g1 (fun _ h => h) hE (hE.trans hE') (fun b _ hb => hE'.block b hb), fun b hb => ?_⟩
          obtain ⟨q1, q2, q3⟩ := g2 b hb
          exact ⟨q1, Nat.lt_of_lt_of_le q2 hE'.size, q3⟩
        · have hmi : m ≠ i := by rintro rfl; rw [hΦ] at hm; cases hm
          have hmi' : m' ≠ i := by rintro rfl; rw [hΦ] at hm'; cases hm'
          simp only [hmi, hmi', if_false]
          exact j.apart m m' Φ ft Φ' ft' hm hm' hne (lvOld m hmi h1) (lvOld m' hmi' h2)
      | rel Φ0 ft0 =>
        refine GOp.mono (hD.1 w Z hE j.zb hfacts) ?_
        rintro v w' ⟨Z', hz1, hz2, hU, hφ, hft⟩
        have cf : ∀ b, some b ∈ feet (cs.getD i []) (FallZ Φs vs i) → ∃ m Φ ft, m ∈ cs.getD i [] ∧ Φs[m]? = some (.rel Φ ft) ∧ some b ∈ ft (vs m) ∧ Lv cs L m := by
          intro b hb
          obtain ⟨x, hx, hxi, hbx⟩ := mem_feet.1 hb
          obtain ⟨_, Φ, ft, g1, g2, g3⟩ := mem_FallZ hx
          refine ⟨x.idx, Φ, ft, hxi, g1, by rw [← g3]; exact hbx, ?_, fun c hcL hj => ?_⟩
          · obtain ⟨oc, hoc, hd⟩ := waitB_at (con i _ hxi).1
            rw [ho] at hoc; cases hoc; exact hdeps _ hd
          · have := (con i _ hxi).2 c (conlt c _ hj) hj
            subst this; exact hnl hcL
        have cfb : ∀ b, some b ∈ feet (cs.getD i []) (FallZ Φs vs i) → w1.heap.size ≤ b ∧ b < w.heap.size ∧ ¬ Z b := by
          intro b hb
          obtain ⟨m, Φ, ft, _, g1, g2, g3⟩ := cf b hb
          exact (j.holds m Φ ft g1 g3).2 b g2
        have hE' : Ext w1 w' := by
          refine ⟨hU.os.trans hE.os, hU.tape.trans hE.tape, hU.output.trans hE.output, Nat.le_trans hE.size hU.size, fun b hb => ?_⟩
          rw [hU.keep b (Nat.lt_of_lt_of_le hb hE.size) (fun hm => by have := (cfb b hm).1; omega)]
          exact hE.block b hb
        have newb : ∀ b, New (feet (cs.getD i []) (FallZ Φs vs i)) w w' b → w1.heap.size ≤ b ∧ b < w'.heap.size := by
          rintro b (h1 | h1)
          · exact ⟨Nat.le_trans hE.size h1.1, h1.2⟩
          · exact ⟨(cfb b h1).1, Nat.lt_of_lt_of_le (cfb b h1).2.1 hU.size⟩
        have lvNot : ∀ m, Lv cs (fun j => L j ∨ j = i) m → m ∉ cs.getD i [] := fun m hlv => hlv.2 i (.inr rfl)
        have others : ∀ m Φ ft, m ≠ i → Φs[m]? = some (.rel Φ ft) → Lv cs (fun j => L j ∨ j = i) m → ∀ b, some b ∈ ft (vs m) → some b ∉ feet (cs.getD i []) (FallZ Φs vs i) := by
          intro m Φ ft hmi hm hlv b hb hcf
          obtain ⟨m', Φ', ft', g0, g1, g2, g3⟩ := cf b hcf
          have hne : m ≠ m' := by rintro rfl; exact lvNot m hlv g0
          exact j.apart m m' Φ ft Φ' ft' hm g1 hne (lvOld m hmi hlv) g3 b hb g2
        refine ⟨hE', Z', ⟨fun m cm hm => ?_, clos, fun b hb => ?_, fun m Φ ft hm hlv => ?_, fun m m' Φ ft Φ' ft' hm hm' hne h1 h2 => ?_⟩⟩
        · have hmi : m ≠ i := by rintro rfl; rw [hΦ] at hm; cases hm
          simp only [hmi, if_false]; exact j.fit m cm hm
        · rcases hz2 b hb with h1 | h1
          · exact ⟨(j.zb b h1).1, Nat.lt_of_lt_of_le (j.zb b h1).2 hU.size⟩
          · exact newb b h1
        · by_cases hmi : m = i
          · subst hmi
            rw [hΦ] at hm; cases hm
            simp only [if_true]
            refine ⟨hφ, fun b hb => ?_⟩
            obtain ⟨q1, q2⟩ := hft b hb
            exact ⟨(newb b q1).1, (newb b q1).2, q2⟩
          · simp only [hmi, if_false]
            obtain ⟨g1, g2⟩ := j.holds m Φ ft hm (lvOld m hmi hlv)
            refine ⟨stableZ_at hst1 m Φ ft hm _ Z Z' w w' g1 hz1 hE hE' (fun b hb hlt => ?_), fun b hb => ?_⟩
            · refine hU.keep b hlt fun hcf => ?_
              rcases hb with hb | hb | hb
              · have := (cfb b hcf).1; omega
              · exact (cfb b hcf).2.2 hb
              · exact others m Φ ft hmi hm hlv b hb hcf
            · obtain ⟨q1, q2, q3⟩ := g2 b hb
              refine ⟨q1, Nat.lt_of_lt_of_le q2 hU.size, fun hz => ?_⟩
              rcases hz2 b hz with h1 | h1
              · exact q3 h1
              · rcases h1 with h1 | h1
                · omega
                · exact others m Φ ft hmi hm hlv b hb h1
        · intro b hb
          by_cases hmi : m = i
          · subst hmi
            have hmi' : m' ≠ m := fun h => hne h.symm
            rw [hΦ] at hm; cases hm
            simp only [if_true, hmi', if_false] at hb ⊢
            intro hb'
            obtain ⟨q1, q2⟩ := hft b hb
            rcases q1 with q1 | q1
            · have := ((j.holds m' Φ' ft' hm' (lvOld m' hmi' h2)).2 b hb').2.1; omega
            · exact others m' Φ' ft' hmi' hm' h2 b hb' q1
          · by_cases hmi' : m' = i
            · subst hmi'
              rw [hΦ] at hm'; cases hm'
              simp only [if_true, hmi, if_false] at hb ⊢
              intro hb'
              obtain ⟨q1, q2⟩ := hft b hb'
              rcases q1 with q1 | q1
              · have := ((j.holds m Φ ft hm (lvOld m hmi h1)).2 b hb).2.1; omega
              · exact others m Φ ft hmi hm h1 b hb q1
            · simp only [hmi, hmi', if_false] at hb ⊢
              exact j.apart m m' Φ ft Φ' ft' hm hm' hne (lvOld m hmi h1) (lvOld m' hmi' h2) b hb
  · intro w1 hE1 vs w hE ⟨Z, j⟩
    have hh1 := h w1 hE1
    generalize Ψ w1 = Φs at j hh1 ⊢
    have hD := drH_at hn hh1 vs j.fit n0 (Nat.le_refl _)
    have hnil : (l.take n0).drop n0 = [] := by
      apply List.drop_eq_nil_of_le; simp; omega
    rw [hnil] at hD
    have lvE : ∀ x ∈ FallZ Φs vs n0, endsB cs x.idx = true → Lv cs (fun j => j < n0) x.idx := by
      intro x hx hend
      obtain ⟨hxi, _⟩ := mem_FallZ hx
      refine ⟨hxi, fun c hc hj => ?_⟩
      have : c ∈ usedBy cs x.idx := mem_usedBy.2 ⟨conlt c _ hj, hj⟩
      unfold endsB at hend
      rw [List.isEmpty_iff] at hend
      rw [hend] at this; cases this
    have f1 : factsE cs w1 (FallZ Φs vs n0) Z w := factsE_of fun x hx hend => by
      obtain ⟨hxi, Φ, ft, g1, g2, g3⟩ := mem_FallZ hx
      rw [g2, g3]
      exact j.holds x.idx Φ ft g1 (lvE x hx hend)
    have f2 : ∀ i, i ≤ n0 → apartsE cs (FallZ Φs vs i) := by
      intro i
      induction i with
      | zero => intro _; trivial
      | succ i ih =>
        intro hi
        simp only [FallZ]
        have sub : ∀ x ∈ FallZ Φs vs i, x ∈ FallZ Φs vs n0 := by
          have : ∀ m, i ≤ m → ∀ x ∈ FallZ Φs vs i, x ∈ FallZ Φs vs m := by
            intro m
            induction m with
            | zero => intro hm x hx; have : i = 0 := by omega
                      subst this; exact hx
            | succ m ihm =>
              intro hm x hx
              by_cases him : i = m + 1
              · subst him; exact hx
              · have := ihm (by omega) x hx
                simp only [FallZ]
                cases hq : Φs[m]? with
                | none => exact this
                | some ph => cases ph with | det c => exact this | rel Φ ft => exact List.mem_cons_of_mem _ this
          exact this n0 (by omega)
        cases hΦ : Φs[i]? with
        | none => exact ih (by omega)
        | some ph =>
          cases ph with
          | det c => exact ih (by omega)
          | rel Φ ft =>
            refine ⟨apartE_of fun y hy h1 h2 b hb => ?_, ih (by omega)⟩
            obtain ⟨hyi, Φ', ft', g1, g2, g3⟩ := mem_FallZ hy
            rw [g3]
            have hl1 : Lv cs (fun j => j < n0) i := by
              refine ⟨by omega, fun c hc hj => ?_⟩
              have : c ∈ usedBy cs i := mem_usedBy.2 ⟨conlt c _ hj, hj⟩
              unfold endsB at h1
              rw [List.isEmpty_iff] at h1
              rw [h1] at this; cases this
            exact j.apart i y.idx Φ ft Φ' ft' hΦ g1 (by omega) hl1 (lvE y (sub y hy) h2) b hb
    cases hΦ : Φs.drop n0 with
    | nil => rw [hΦ] at hD; exact hD w Z hE j.zb f1 (f2 n0 (Nat.le_refl _))
    | cons x r => rw [hΦ] at hD; exact hD w Z hE j.zb f1 (f2 n0 (Nat.le_refl _))
end
section
variable {P : Program} {l : List Oper} {cs : List (List Nat)} {w1 : World} {K : Env → World → Prop} {r : List Oper} {Φs : List Pz} {e : Env} {F : List FE} {i : Nat}
theorem DrH.det {d : Nat} {op : Op} {ty : TypeId} {pos : String} {after : Array Edge} {guard : Option (Nat × Bool)} {c : Value}
    (h1 : ∀ w' Z, Ext w1 w' → ZB w1 w' Z → factsI l cs w1 i (depsOf { dst := some d, op := op, type := ty, pos := pos, after := after, guard := guard }) F Z w' → GOp P l { dst := some d, op := op, type := ty, pos := pos, after := after, guard := guard } e w' fun v w'' => Ext w' w'' ∧ v = c)
    (h2 : DrH P l cs w1 K r Φs (upd e d c) F (i + 1)) : DrH P l cs w1 K ({ dst := some d, op := op, type := ty, pos := pos, after := after, guard := guard } :: r) (.det c :: Φs) e F i := ⟨h1, h2⟩
theorem DrH.rel {d : Nat} {op : Op} {ty : TypeId} {pos : String} {after : Array Edge} {guard : Option (Nat × Bool)} {Φ : Value → (Nat → Prop) → World → Prop} {ft : Value → List (Option Nat)}
    (h1 : ∀ w' Z, Ext w1 w' → ZB w1 w' Z → factsI l cs w1 i (depsOf { dst := some d, op := op, type := ty, pos := pos, after := after, guard := guard }) F Z w' → GOp P l { dst := some d, op := op, type := ty, pos := pos, after := after, guard := guard } e w' fun v w'' => Made (feet (cs.getD i []) F) (ft v) Z w' w'' (Φ v))
    (h2 : ∀ v, DrH P l cs w1 K r Φs (upd e d v) (⟨i, Φ v, ft v⟩ :: F) (i + 1)) : DrH P l cs w1 K ({ dst := some d, op := op, type := ty, pos := pos, after := after, guard := guard } :: r) (.rel Φ ft :: Φs) e F i := ⟨h1, h2⟩
theorem DrH.fin (h : ∀ w' Z, Ext w1 w' → ZB w1 w' Z → factsE cs w1 F Z w' → apartsE cs F → K e w') : DrH P l cs w1 K [] Φs e F i := h
end
end Go.X

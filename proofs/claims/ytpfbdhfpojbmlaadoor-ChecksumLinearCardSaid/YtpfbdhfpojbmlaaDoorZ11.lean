/-
  A region that draws its order, where all but a chain of its operations only look: the chain is carried out in its order, the others at any time before they are waited for. Plain theorems over any program.
-/
import Derived.Test.YtpfbdhfpojbmlaaDoorZ10
set_option linter.unusedSimpArgs false
set_option linter.unusedVariables false
namespace Go.X
open Go Go.RowKit

def noOper : Oper := { dst := none, op := .alloc 0, type := 0, pos := "", after := #[], guard := none }
def pickO (l : List Oper) : List Nat → List Oper
  | [] => []
  | i :: r => l.getD i noOper :: pickO l r
def chainQ (l : List Oper) : List Nat → Bool
  | [] => true
  | i :: r => (match r with | [] => true | j :: _ => waitB l j i) && chainQ l r
def okP (l : List Oper) (Q lt : List Nat) : Bool :=
  backOk l && chainQ l Q && (Q.all fun q => Nat.blt q l.length) && (lt.all fun i => !memN i Q) &&
  (List.range l.length).all fun i => match l[i]? with
    | some o => !isSel o.op && (memN i Q || (memN i lt && o.dst.isSome && (List.range l.length).all fun j => Nat.beq j i || !(dstAt l j == dstAt l i))) &&
        (looksE l o).all fun x => (List.range l.length).all fun j => memN j Q || !(dstAt l j == some x) || memN j (depsOf o) || (memN i Q && Q.any fun q => Nat.blt q i && waitB l q j && waitsQ l Q i q)
    | none => true
where waitsQ (l : List Oper) (Q : List Nat) (i q : Nat) : Bool := (Q.takeWhile fun x => !(Nat.beq x i)).any fun x => Nat.beq x q

section
variable {P : Program} {l : List Oper} {n : Nat} {K : Env → World → Prop} {e : Env} {w : World}

structure InvP (l : List Oper) (n : Nat) (Q done rest : List Nat) (listed : Array Bool) (a : Act) (E : Env) (ltr : List Nat) : Prop where
  size : listed.size = l.length
  tmps : a.tmps.size = n
  defs : a.defers = []
  parts : Q = done ++ rest
  isdone : ∀ q ∈ done, lst listed q
  open' : ∀ q ∈ rest, ¬ lst listed q
  cl : ∀ j oj, l[j]? = some oj → lst listed j → ∀ d ∈ depsOf oj, lst listed d
  late : ∀ i, i < l.length → i ∉ Q → ¬ lst listed i → i ∈ ltr
  sub : ∀ i ∈ ltr, i ∉ Q
  env : ∀ x, (∀ i, i < l.length → i ∉ Q → ¬ lst listed i → dstAt l i ≠ some x) → envOf a x = E x

theorem chainQ_at {Q : List Nat} : ∀ {done : List Nat} {q : Nat} {r : List Nat}, Q = done ++ q :: r → chainQ l Q = true → ∀ i ∈ r, ∃ p ∈ q :: r, waitB l i p = true := by
  intro done
  induction done generalizing Q with
  | nil =>
    intro q r hQ hc i hi
    subst hQ
    have gen : ∀ (r : List Nat) (q : Nat), chainQ l (q :: r) = true → ∀ i ∈ r, ∃ p ∈ q :: r, waitB l i p = true := by
      intro r
      induction r with
      | nil => intro q _ i hi; cases hi
      | cons j r ih =>
        intro q hc i hi
        simp only [chainQ, Bool.and_eq_true] at hc
        rcases List.mem_cons.1 hi with rfl | hi
        · exact ⟨q, List.mem_cons_self, hc.1⟩
        · have hc2 : chainQ l (j :: r) = true := by simp only [chainQ, Bool.and_eq_true]; exact hc.2
          obtain ⟨p, hp, h⟩ := ih j hc2 i hi
          exact ⟨p, List.mem_cons_of_mem _ hp, h⟩
    exact gen r q hc i hi
  | cons d done ih =>
    intro q r hQ hc i hi
    subst hQ
    rw [List.cons_append] at hc
    simp only [chainQ, Bool.and_eq_true] at hc
    exact ih rfl hc.2 i hi

theorem mem_pickO {i : Nat} {o : Oper} (ho : l[i]? = some o) : l.getD i noOper = o := by
  rw [List.getD_eq_getElem?_getD, ho]; rfl

theorem anyP {Q lt : List Nat} {Qp : Exit → Act → World → Prop} (hok : dstsOk n l = true) (hq : okP l Q lt = true) (hnd : Q.Nodup) (hQ : ∀ a w, a.tmps.size = n → a.defers = [] → K (envOf a) w → Qp .normal a w) :
    ∀ (fuel : Nat) (done rest : List Nat) (listed : Array Bool) (a : Act) (w : World) (E : Env) (ltr : List Nat), InvP l n Q done rest listed a E ltr → LateP P l ltr E w → RlL P l K ltr (pickO l rest) E w → cnt l listed ≤ fuel → wpAny P .any l.toArray Qp fuel listed a w := by
  have hq' := hq
  simp only [okP, Bool.and_eq_true] at hq'
  obtain ⟨⟨⟨⟨hb, hch⟩, hin⟩, hlq⟩, hall⟩ := hq'
  have fin : ∀ (done rest : List Nat) (listed : Array Bool) (a : Act) (w : World) (E : Env) (ltr : List Nat), InvP l n Q done rest listed a E ltr → RlL P l K ltr (pickO l rest) E w → Region.ready .any l.toArray listed = [] → Qp .normal a w := by
    intro done rest listed a w E ltr inv hR hr
    have hal := allListed inv.size hb hr
    have hr0 : rest = [] := by
      cases rest with
      | nil => rfl
      | cons q r =>
        have hqm : q ∈ Q := by rw [inv.parts]; exact List.mem_append_right _ List.mem_cons_self
        have hql : q < l.length := by simpa using List.all_eq_true.1 hin q hqm
        exact absurd (hal q hql) (inv.open' q List.mem_cons_self)
    subst hr0
    have hE : envOf a = E := by
      funext x
      exact inv.env x (fun i hi _ hil => absurd (hal i hi) hil)
    refine hQ a w inv.tmps inv.defs ?_
    rw [hE]; exact hR
  intro fuel
  induction fuel with
  | zero =>
    intro done rest listed a w E ltr inv hL hR hc
    have hr : Region.ready .any l.toArray listed = [] := by
      apply List.eq_nil_iff_forall_not_mem.2
      intro i hi
      obtain ⟨g1, o, g2, _⟩ := mem_ready.1 hi
      have hil : i < l.length := by
        rw [List.getElem?_toArray] at g2
        exact (List.getElem?_eq_some_iff.1 g2).1
      have := cnt_zero (by omega : cnt l listed = 0) hil
      rw [g1] at this; cases this
    exact ⟨hr, fin done rest listed a w E ltr inv hR hr⟩
  | succ fuel ih =>
    intro done rest listed a w E ltr inv hL hR hc
    refine ⟨fun hr => fin done rest listed a w E ltr inv hR hr, fun i hi => ?_⟩
    have hil : i < l.length := by
      obtain ⟨_, o, g2, _⟩ := mem_ready.1 hi
      rw [List.getElem?_toArray] at g2
      exact (List.getElem?_eq_some_iff.1 g2).1
    have ho : l[i]? = some l[i] := List.getElem?_eq_getElem hil
    obtain ⟨hun, hdeps⟩ := ready_deps hi ho
    have hnl : ¬ lst listed i := (unl inv.size hil).2 hun
    have hcn := cnt_set inv.size hil hun
    have hdd : ∀ o, o ∈ l → ∀ d, o.dst = some d → d < a.tmps.size := by rw [inv.tmps]; exact dstsOk_spec hok
    have hai := List.all_eq_true.1 hall i (List.mem_range.2 hil)
    rw [ho] at hai
    simp only [Bool.and_eq_true, Bool.not_eq_true'] at hai
    obtain ⟨⟨hsel, hown⟩, hlook⟩ := hai
    by_cases hiQ : i ∈ Q
    · -- the next of the chain
      have hir : i ∈ rest := by
        have := inv.parts ▸ hiQ
        rcases List.mem_append.1 this with h | h
        · exact absurd (inv.isdone i h) hnl
        · exact h
      obtain ⟨q, r, hqr⟩ : ∃ q r, rest = q :: r := by cases rest with | nil => cases hir | cons q r => exact ⟨q, r, rfl⟩
      subst hqr
      have hiq : i = q := by
        rcases List.mem_cons.1 hir with h | h
        · exact h
        · obtain ⟨p, hp, hw⟩ := chainQ_at inv.parts hch i h
          unfold waitB at hw
          rw [ho] at hw
          exact absurd (hdeps p (memN_iff.1 hw)) (inv.open' p hp)
      subst hiq
      have hR' := hR
      simp only [pickO, mem_pickO ho, RlL] at hR'
      have hQnd := hnd
      rw [inv.parts] at hQnd
      have hir2 : i ∉ r := by
        have := (List.nodup_append.1 hQnd).2.1
        exact (List.nodup_cons.1 this).1
      refine wpOp_of_GOp hdd ho (GOp_congr hsel (fun x hx => ?_) hR') fun v w' hv => ?_
      · symm
        refine inv.env x (fun j hj hjQ hjl hdj => ?_)
        have h3 := List.all_eq_true.1 (List.all_eq_true.1 hlook x hx) j (List.mem_range.2 hj)
        simp only [hdj, beq_self_eq_true, Bool.not_true, Bool.or_eq_true, Bool.and_eq_true, Bool.false_eq_true, or_false] at h3
        rcases h3 with (h3 | h3) | h3
        · exact hjQ (memN_iff.1 h3)
        · exact hjl (hdeps j (memN_iff.1 h3))
        · obtain ⟨q, hqm, h4⟩ := List.any_eq_true.1 h3.2
          simp only [Bool.and_eq_true] at h4
          have hqd : q ∈ done := by
            have h5 := h4.2
            unfold okP.waitsQ at h5
            obtain ⟨y, hy, hyq⟩ := List.any_eq_true.1 h5
            have hyq : y = q := Nat.eq_of_beq_eq_true hyq
            subst hyq
            rw [inv.parts] at hy
            have htw : (done ++ i :: r).takeWhile (fun x => !(Nat.beq x i)) = done := by
              rw [List.takeWhile_append_of_pos]
              · simp
              · intro z hz
                have : z ≠ i := fun h => by
                  subst h
                  exact hnl (inv.isdone _ hz)
                cases hb9 : Nat.beq z i with
                | false => rfl
                | true => exact absurd (Nat.eq_of_beq_eq_true hb9) this
            rw [htw] at hy
            exact hy
          have h6 := h4.1.2
          unfold waitB at h6
          have hql : q < l.length := by simpa using List.all_eq_true.1 hin q hqm
          rw [List.getElem?_eq_getElem hql] at h6
          exact hjl (inv.cl q _ (List.getElem?_eq_getElem hql) (inv.isdone q hqd) j (memN_iff.1 h6))
      · refine ih (done ++ [i]) r _ _ w' _ _ ⟨by simp [inv.size], by rw [put_size]; exact inv.tmps, by rw [put_defers']; exact inv.defs, by rw [inv.parts]; simp, ?_, ?_, cl_set inv.size hil inv.cl hdeps, ?_, ?_, ?_⟩ hv.1 hv.2 (by omega)
        · intro q hq
          rw [set_lst inv.size hil]
          rcases List.mem_append.1 hq with h | h
          · exact .inl (inv.isdone q h)
          · exact .inr (List.mem_singleton.1 h)
        · intro q hq
          rw [set_lst inv.size hil]
          rintro (h | h)
          · exact inv.open' q (List.mem_cons_of_mem _ hq) h
          · subst h; exact hir2 hq
        · intro j hj hjQ hjl
          rw [set_lst inv.size hil] at hjl
          have hjl' : ¬ lst listed j := fun h => hjl (.inl h)
          refine List.mem_filter.2 ⟨inv.late j hj hjQ hjl', ?_⟩
          cases hm : memN j (depsOf l[i]) with
          | false => rfl
          | true => exact absurd (hdeps j (memN_iff.1 hm)) hjl'
        · intro j hj
          exact inv.sub j (List.mem_filter.1 hj).1
        · intro x hx
          have he := inv.env x (fun j hj hjQ hjl => by
            refine hx j hj hjQ ?_
            rw [set_lst inv.size hil]
            rintro (h1 | h1)
            · exact hjl h1
            · subst h1; exact hjQ hiQ)
          cases hd : l[i].dst with
          | none => exact he
          | some d =>
            rw [envOf_put a inv.tmps (by rw [← inv.tmps]; exact hdd _ (List.mem_of_getElem? ho) d hd)]
            simp only [updo]
            by_cases hxd : x = d
            · subst hxd; rw [upd_same, upd_same]
            · rw [upd_other _ _ hxd, upd_other _ _ hxd]; exact he
    · -- one that only looks
      have hm := inv.late i hil hiQ hnl
      have hown' : (memN i lt && l[i].dst.isSome && (List.range l.length).all fun j => Nat.beq j i || !(dstAt l j == dstAt l i)) = true := by
        rcases Bool.or_eq_true _ _ ▸ hown with h | h
        · exact absurd (memN_iff.1 h) hiQ
        · exact h
      simp only [Bool.and_eq_true] at hown'
      refine wpOp_of_GOp hdd ho (GOp_congr hsel (fun x hx => ?_) (hL i hm _ ho)) fun v w' hv => ?_
      · symm
        refine inv.env x (fun j hj hjQ hjl hdj => ?_)
        have h3 := List.all_eq_true.1 (List.all_eq_true.1 hlook x hx) j (List.mem_range.2 hj)
        simp only [hdj, beq_self_eq_true, Bool.not_true, Bool.or_eq_true, Bool.and_eq_true, Bool.false_eq_true, or_false] at h3
        rcases h3 with (h3 | h3) | h3
        · exact hjQ (memN_iff.1 h3)
        · exact hjl (hdeps j (memN_iff.1 h3))
        · exact hiQ (memN_iff.1 h3.1)
      · obtain ⟨⟨d', hd', hv⟩, rfl⟩ := hv
        refine ih done rest _ _ _ E ltr ⟨by simp [inv.size], by rw [put_size]; exact inv.tmps, by rw [put_defers']; exact inv.defs, inv.parts, ?_, ?_, cl_set inv.size hil inv.cl hdeps, ?_, inv.sub, ?_⟩ hL hR (by omega)
        · intro q hq
          rw [set_lst inv.size hil]; exact .inl (inv.isdone q hq)
        · intro q hq
          rw [set_lst inv.size hil]
          rintro (h1 | h1)
          · exact inv.open' q hq h1
          · subst h1; exact hiQ (by rw [inv.parts]; exact List.mem_append_right _ hq)
        · intro j hj hjQ hjl
          rw [set_lst inv.size hil] at hjl
          exact inv.late j hj hjQ (fun h => hjl (.inl h))
        · intro x hx
          rw [hd', envOf_put a inv.tmps (by rw [← inv.tmps]; exact hdd _ (List.mem_of_getElem? ho) d' hd')]
          by_cases hxd : x = d'
          · subst hxd; rw [upd_same, hv]
          · rw [upd_other _ _ hxd]
            refine inv.env x (fun j hj hjQ hjl hdj => ?_)
            by_cases hji : j = i
            · subst hji
              have : dstAt l j = some d' := by simp only [dstAt, ho]; exact hd'
              rw [this] at hdj; cases hdj; exact hxd rfl
            · refine hx j hj hjQ ?_ hdj
              rw [set_lst inv.size hil]
              rintro (h1 | h1)
              · exact hjl h1
              · exact hji h1

def nodupN : List Nat → Bool
  | [] => true
  | i :: r => !memN i r && nodupN r
theorem nodupN_spec : ∀ {r : List Nat}, nodupN r = true → r.Nodup
  | [], _ => List.nodup_nil
  | i :: r, h => by
    simp only [nodupN, Bool.and_eq_true, Bool.not_eq_true'] at h
    refine List.nodup_cons.2 ⟨fun hm => ?_, nodupN_spec h.2⟩
    rw [memN_iff.2 hm] at h; cases h.1
def updL (e : Env) : List (Nat × Value) → Env
  | [] => e
  | (d, v) :: r => updL (upd e d v) r
theorem updL_other {ds : List (Nat × Value)} : ∀ {e : Env} {x : Nat}, (∀ p ∈ ds, p.1 ≠ x) → updL e ds x = e x := by
  induction ds with
  | nil => intro e x _; rfl
  | cons p r ih =>
    intro e x h
    obtain ⟨d, v⟩ := p
    rw [updL, ih (fun p hp => h p (List.mem_cons_of_mem _ hp)), upd_other _ _ (fun hx => h (d, v) List.mem_cons_self hx.symm)]

theorem Swp.drawP {id : Nat} {k : List It} {Qr : Env → World → Prop} {l : List Oper} (Q lt : List Nat) (ds : List (Nat × Value)) (hm : P.follows .mixedOrders = true) (hok : dstsOk n l = true) (hq : okP l Q lt = true) (hnd : nodupN Q = true)
    (hd : ds.map (fun p => some p.1) = lt.map (dstAt l))
    (h : ∀ w1, Ext w w1 → LateP P l lt (updL e ds) w1 ∧ RlL P l (Swp P n k Qr) lt (pickO l Q) (updL e ds) w1) : Swp P n (.code (.region id l.toArray true) :: k) Qr e w := by
  intro a h1 h2 h3
  subst h3
  refine wp_region_any hm ?_
  have hE : Ext w { w with drawn := w.drawn + 1 } := Ext.drawn w _
  obtain ⟨hL, hR⟩ := h _ hE
  have hno : ∀ j, ¬ lst (Array.replicate l.toArray.size false) j := fun j hj => by unfold lst at hj; rw [getD_replicate_false] at hj; cases hj
  have hq' := hq
  simp only [okP, Bool.and_eq_true] at hq'
  obtain ⟨⟨⟨⟨hb, hch⟩, hin⟩, hlq⟩, hall⟩ := hq'
  refine anyP (K := Swp P n k Qr) hok hq (nodupN_spec hnd) (fun a' w' g1 g2 g3 => ⟨g1, g2, g3⟩) l.toArray.size [] Q (Array.replicate l.toArray.size false) a _ _ lt
    ⟨by simp, h1, h2, rfl, (fun q hq => by cases hq), (fun q _ => hno q), (fun j oj _ hj => absurd hj (hno j)), ?_, ?_, ?_⟩ hL hR ?_
  · intro i hi hiQ _
    have hai := List.all_eq_true.1 hall i (List.mem_range.2 hi)
    rw [List.getElem?_eq_getElem hi] at hai
    simp only [Bool.and_eq_true, Bool.or_eq_true] at hai
    rcases hai.1.2 with h | h
    · exact absurd (memN_iff.1 h) hiQ
    · exact memN_iff.1 h.1.1
  · intro i hi hiQ
    have := List.all_eq_true.1 hlq i hi
    rw [memN_iff.2 hiQ] at this; cases this
  · intro x hx
    rw [updL_other]
    intro p hp hpx
    have hm1 : some p.1 ∈ lt.map (dstAt l) := by rw [← hd]; exact List.mem_map.2 ⟨p, hp, rfl⟩
    obtain ⟨i, hi, hdi⟩ := List.mem_map.1 hm1
    have hil : i < l.length := by
      unfold dstAt at hdi
      rcases Nat.lt_or_ge i l.length with h | h
      · exact h
      · rw [List.getElem?_eq_none h] at hdi; cases hdi
    have hiQ : i ∉ Q := fun h => by
      have := List.all_eq_true.1 hlq i hi
      rw [memN_iff.2 h] at this; cases this
    exact hx i hil hiQ (hno i) (by rw [hdi, hpx])
  · unfold cnt
    refine Nat.le_trans (List.length_filter_le _ _) (by simp)
end
end Go.X

/-
  A region whose operations are carried out in an order that is drawn: its first operations (reading, reckoning, calls that leave alone what was there) in any order, then the others in theirs.
-/
import Derived.Test.YtpfbdhfpojbmlaaDoorX8
set_option linter.unusedSimpArgs false
set_option linter.unusedVariables false
namespace Go.X
open Go Go.RowKit

inductive Ph where
  | det (c : Value)
  | rel (Φ : Value → World → Prop)
def Ph.holds : Ph → Value → World → Prop
  | .det c, v, _ => v = c
  | .rel Φ, v, w => Φ v w
def depsOf (o : Oper) : List Nat := (o.after.toList.filter (Region.binds .any ·)).map (·.on)
def factsD (ds : List Nat) : List (Nat × (World → Prop)) → World → Prop
  | [], _ => True
  | (j, f) :: r, w => (bif memN j ds then f w else True) ∧ factsD ds r w
def factsA : List (Nat × (World → Prop)) → World → Prop
  | [], _ => True
  | (_, f) :: r, w => f w ∧ factsA r w
def GOp (P : Program) (l : List Oper) (o : Oper) (e : Env) (w : World) (R : Value → World → Prop) : Prop :=
  match wantedE l o e with
  | true => OpY P o.op o.type (ev e) w R
  | false => R undef w
def DrG (P : Program) (l : List Oper) (w0 : World) (K : Env → World → Prop) : List Oper → List Ph → Env → List (Nat × (World → Prop)) → Nat → Prop
  | [], _, e, F, _ => ∀ w', Ext w0 w' → factsA F w' → K e w'
  | o :: r, .det c :: Φs, e, F, i => (∀ w', Ext w0 w' → factsD (depsOf o) F w' → GOp P l o e w' fun v w'' => Ext w' w'' ∧ v = c) ∧ DrG P l w0 K r Φs (updo e o.dst c) F (i + 1)
  | o :: r, .rel Φ :: Φs, e, F, i => (∀ w', Ext w0 w' → factsD (depsOf o) F w' → GOp P l o e w' fun v w'' => Ext w' w'' ∧ Φ v w'') ∧ ∀ v, DrG P l w0 K r Φs (updo e o.dst v) ((i, Φ v) :: F) (i + 1)
  | _ :: _, [], _, _, _ => False

section
variable {P : Program} {l : List Oper} {e : Env} {w : World} {R : Value → World → Prop}
theorem GOp.op {d : Option Nat} {op : Op} {ty : TypeId} {pos : String} {after : Array Edge} (h : OpY P op ty (ev e) w R) : GOp P l { dst := d, op := op, type := ty, pos := pos, after := after, guard := none } e w R := h
theorem GOp.yes {d : Option Nat} {j dj : Nat} {b b' : Bool} {op : Op} {ty : TypeId} {pos : String} {after : Array Edge} (hd : dstAt l j = some dj) (hv : e dj = .bool b') (hb : b' = b) (h : OpY P op ty (ev e) w R) :
    GOp P l { dst := d, op := op, type := ty, pos := pos, after := after, guard := some (j, b) } e w R := by
  have : wantedE l { dst := d, op := op, type := ty, pos := pos, after := after, guard := some (j, b) } e = true := by simp [wantedE, gy, hd, hv, hb]
  simp only [GOp, this]; exact h
theorem GOp.no {d : Option Nat} {j dj : Nat} {b b' : Bool} {op : Op} {ty : TypeId} {pos : String} {after : Array Edge} (hd : dstAt l j = some dj) (hv : e dj = .bool b') (hb : b' = !b) (h : R undef w) :
    GOp P l { dst := d, op := op, type := ty, pos := pos, after := after, guard := some (j, b) } e w R := by
  have : wantedE l { dst := d, op := op, type := ty, pos := pos, after := after, guard := some (j, b) } e = false := by simp [wantedE, gy, hd, hv, hb]
  simp only [GOp, this]; exact h
theorem GOp.no_undef {d : Option Nat} {j dj : Nat} {b : Bool} {op : Op} {ty : TypeId} {pos : String} {after : Array Edge} (hd : dstAt l j = some dj) (hv : e dj = undef) (h : R undef w) :
    GOp P l { dst := d, op := op, type := ty, pos := pos, after := after, guard := some (j, b) } e w R := by
  have : wantedE l { dst := d, op := op, type := ty, pos := pos, after := after, guard := some (j, b) } e = false := by simp [wantedE, gy, hd, hv, undef]
  simp only [GOp, this]; exact h
end

/-! ## The check -/
def looksE (l : List Oper) (o : Oper) : List Nat :=
  (o.op.operands.toList.filterMap fun | .tmp t => some t | _ => none) ++ (match o.guard with | some (g, _) => (dstAt l g).toList | none => [])
def isSel : Op → Bool
  | .select _ _ => true
  | _ => false
/-- whatever the i-th operation looks at is written by an operation that it waits for, by one that waits for it, or by none of the first n0 -/
def lookOk (l : List Oper) (n0 i : Nat) (o : Oper) : Bool :=
  (looksE l o).all fun t => (List.range n0).all fun j => !(dstAt l j == some t) || (memN j (depsOf o) && Nat.blt j i) || (Nat.blt i j && match l[j]? with
    | some o' => memN i (depsOf o')
    | none => false)
def uniqOk (l : List Oper) (n0 : Nat) : Bool :=
  (List.range n0).all fun i => (List.range n0).all fun j => Nat.beq i j || !(dstAt l i == dstAt l j)
def headOk (l : List Oper) (n0 : Nat) : Bool :=
  (List.range n0).all fun i => match l[i]? with
    | some o => o.dst.isSome && lookOk l n0 i o && !isSel o.op
    | none => false
/-- every operation waits for earlier ones alone; each of the tail waits for the one before it; the first of the tail waits, through others, for all of the head -/
def backOk (l : List Oper) : Bool := (List.range l.length).all fun i => match l[i]? with
  | some o => (depsOf o).all fun j => Nat.blt j i
  | none => true
def waitB (l : List Oper) (j i : Nat) : Bool := match l[j]? with
  | some o => memN i (depsOf o)
  | none => false
def sinkOk (l : List Oper) (n0 : Nat) : Bool := Nat.beq n0 l.length || (List.range n0).all fun i => (List.range (n0 + 1)).any fun j => Nat.blt i j && waitB l j i
def chainOk (l : List Oper) (n0 : Nat) : Bool := (List.range l.length).all fun t => Nat.ble t n0 || waitB l t (t - 1)
def drawOk (l : List Oper) (n0 : Nat) : Bool := Nat.ble n0 l.length && headOk l n0 && uniqOk l n0 && backOk l && sinkOk l n0 && chainOk l n0

theorem memN_iff {i : Nat} {l : List Nat} : memN i l = true ↔ i ∈ l := by
  induction l with
  | nil => simp [memN]
  | cons x r ih =>
    simp only [memN, Bool.or_eq_true, ih, List.mem_cons]
    constructor
    · rintro (h | h)
      · exact .inl (Nat.eq_of_beq_eq_true h)
      · exact .inr h
    · rintro (h | h)
      · exact .inl (by subst h; exact Nat.beq_refl i)
      · exact .inr h

/-! ## Soundness -/
section
variable {P : Program} {l : List Oper} {n n0 : Nat} {K : Env → World → Prop} {e : Env} {w0 : World}

/-- the frame once the first i operations have handed on vs -/
def envAll (l : List Oper) (e : Env) (vs : Nat → Value) : Nat → Env
  | 0 => e
  | i + 1 => updo (envAll l e vs i) (dstAt l i) (vs i)
def Fall (Φs : List Ph) (vs : Nat → Value) : Nat → List (Nat × (World → Prop))
  | 0 => []
  | i + 1 => match Φs[i]? with
    | some (.rel Φ) => (i, Φ (vs i)) :: Fall Φs vs i
    | _ => Fall Φs vs i
def fits (Φs : List Ph) (vs : Nat → Value) : Prop := ∀ (i : Nat) c, Φs[i]? = some (Ph.det c) → vs i = c

theorem dr_at {Φs : List Ph} (hl : n0 ≤ l.length) (h : DrG P l w0 K (l.take n0) Φs e [] 0) (vs : Nat → Value) (hv : fits Φs vs) : ∀ i, i ≤ n0 → DrG P l w0 K ((l.take n0).drop i) (Φs.drop i) (envAll l e vs i) (Fall Φs vs i) i
  | 0, _ => by simpa [envAll, Fall] using h
  | i + 1, hi => by
    have ih := dr_at hl h vs hv i (by omega)
    have hlt : i < (l.take n0).length := by simp; omega
    rw [List.drop_eq_getElem_cons hlt] at ih
    have hd : dstAt l i = ((l.take n0)[i]).dst := by
      simp only [dstAt, List.getElem_take]
      rw [List.getElem?_eq_getElem (by omega)]; rfl
    cases hΦ : Φs[i]? with
    | none =>
      have : Φs.drop i = [] := List.drop_eq_nil_of_le (List.getElem?_eq_none_iff.1 hΦ)
      rw [this] at ih; exact ih.elim
    | some ph =>
      have hlt2 : i < Φs.length := by
        rcases Nat.lt_or_ge i Φs.length with h2 | h2
        · exact h2
        · rw [List.getElem?_eq_none h2] at hΦ; cases hΦ
      have hc : Φs.drop i = ph :: Φs.drop (i + 1) := by
        rw [List.drop_eq_getElem_cons hlt2]; congr 1
        rw [List.getElem?_eq_getElem hlt2] at hΦ; exact Option.some.inj hΦ
      rw [hc] at ih
      cases ph with
      | det c =>
        have := ih.2
        have hvc := hv i c hΦ
        simp only [envAll, Fall, hΦ, hd, hvc]
        exact this
      | rel Φ =>
        have := ih.2 (vs i)
        simp only [envAll, Fall, hΦ, hd]
        exact this

theorem factsD_of {Φs : List Ph} {vs : Nat → Value} {ds : List Nat} {w : World} : ∀ i, (∀ j ph, j < i → j ∈ ds → Φs[j]? = some ph → ph.holds (vs j) w) → factsD ds (Fall Φs vs i) w
  | 0, _ => trivial
  | i + 1, h => by
    have ih := factsD_of (Φs := Φs) (vs := vs) (ds := ds) (w := w) i (fun j ph hj => h j ph (by omega))
    simp only [Fall]
    cases hΦ : Φs[i]? with
    | none => exact ih
    | some ph =>
      cases ph with
      | det c => exact ih
      | rel Φ =>
        refine ⟨?_, ih⟩
        cases hm : memN i ds with
        | false => trivial
        | true => exact h i _ (by omega) (memN_iff.1 hm) hΦ
theorem factsA_of {Φs : List Ph} {vs : Nat → Value} {w : World} : ∀ i, (∀ j ph, j < i → Φs[j]? = some ph → ph.holds (vs j) w) → factsA (Fall Φs vs i) w
  | 0, _ => trivial
  | i + 1, h => by
    have ih := factsA_of (Φs := Φs) (vs := vs) (w := w) i (fun j ph hj => h j ph (by omega))
    simp only [Fall]
    cases hΦ : Φs[i]? with
    | none => exact ih
    | some ph =>
      cases ph with
      | det c => exact ih
      | rel Φ => exact ⟨h i _ (by omega) hΦ, ih⟩

theorem envAll_not {vs : Nat → Value} {t : Nat} : ∀ i, (∀ j, j < i → dstAt l j ≠ some t) → envAll l e vs i t = e t
  | 0, _ => rfl
  | i + 1, h => by
    have ih := envAll_not (vs := vs) (t := t) i (fun j hj => h j (by omega))
    simp only [envAll]
    cases hd : dstAt l i with
    | none => exact ih
    | some d =>
      simp only [updo]
      rw [upd_other _ _ (fun he => h i (by omega) (by rw [hd, he]))]
      exact ih
theorem envAll_at {vs : Nat → Value} {t j : Nat} (hd : dstAt l j = some t) : ∀ i, j < i → (∀ k, k < i → dstAt l k = some t → k = j) → envAll l e vs i t = vs j
  | i + 1, hj, hu => by
    simp only [envAll]
    by_cases h : i = j
    · subst h; rw [hd]; exact upd_same _ _ _
    · have ih := envAll_at (vs := vs) hd i (by omega) (fun k hk => hu k (by omega))
      cases hdi : dstAt l i with
      | none => exact ih
      | some d =>
        simp only [updo]
        rw [upd_other _ _ (fun he => h (hu i (by omega) (by rw [hdi, he])))]
        exact ih

theorem GOp_congr {o : Oper} {e e' : Env} {w : World} {R : Value → World → Prop} (hs : isSel o.op = false) (h : ∀ t, t ∈ looksE l o → e t = e' t) (hg : GOp P l o e w R) : GOp P l o e' w R := by
  have hw : wantedE l o e = wantedE l o e' := by
    unfold wantedE
    cases hgd : o.guard with
    | none => rfl
    | some p =>
      obtain ⟨j, b⟩ := p
      simp only [gy]
      cases hd : dstAt l j with
      | none => rfl
      | some d =>
        have : e d = e' d := h d (by simp [looksE, hgd, hd])
        simp only [this]
  have he : execOp (ev e) (bareOp o.op o.type) = execOp (ev e') (bareOp o.op o.type) := by
    refine execOp_congr _ (fun cs b hc => ?_) fun x hx => ?_
    · simp only [bareOp] at hc; rw [hc] at hs; simp [isSel] at hs
    · cases x with
      | tmp t => exact h t (List.mem_append_left _ (List.mem_filterMap.2 ⟨.tmp t, by simpa [bareOp] using hx, rfl⟩))
      | _ => rfl
  unfold GOp at *
  rw [← hw]
  cases hb : wantedE l o e with
  | true => rw [hb] at hg; simp only [OpY] at *; rw [← he]; exact hg
  | false => rw [hb] at hg; exact hg

def stable : List Ph → Prop
  | [] => True
  | .det _ :: r => stable r
  | .rel Φ :: r => (∀ v w w', Ext w w' → Φ v w → Φ v w') ∧ stable r
theorem stable_at {Φs : List Ph} (h : stable Φs) : ∀ (i : Nat) (ph : Ph), Φs[i]? = some ph → ∀ v w w', Ext w w' → ph.holds v w → ph.holds v w' := by
  induction Φs with
  | nil => intro i ph hi; simp at hi
  | cons x r ih =>
    intro i ph hi v w w' hE hv
    cases i with
    | zero =>
      simp at hi; subst hi
      cases x with
      | det c => exact hv
      | rel Φ => exact h.1 v w w' hE hv
    | succ i =>
      have hr : stable r := by cases x with | det c => exact h | rel Φ => exact h.2
      exact ih hr i ph (by simpa using hi) v w w' hE hv

def lst (listed : Array Bool) (j : Nat) : Prop := listed.getD j false = true

structure Inv (l : List Oper) (n n0 : Nat) (e : Env) (w0 : World) (Φs : List Ph) (listed : Array Bool) (a : Act) (w : World) (vs : Nat → Value) : Prop where
  size : listed.size = l.length
  tmps : a.tmps.size = n
  defs : a.defers = []
  ext : Ext w0 w
  fit : fits Φs vs
  env1 : ∀ t j, j < n0 → dstAt l j = some t → lst listed j → envOf a t = vs j
  env2 : ∀ t, (∀ j, j < n0 → lst listed j → dstAt l j ≠ some t) → envOf a t = e t
  holds : ∀ j ph, j < n0 → lst listed j → Φs[j]? = some ph → ph.holds (vs j) w

theorem lst_set {listed : Array Bool} {i j : Nat} : lst (listed.setIfInBounds i true) j → lst listed j ∨ (j = i) := by
  intro h
  by_cases hj : i = j
  · exact .inr hj.symm
  · left; unfold lst at *; rwa [getD_set_ne false hj] at h
theorem wpOp_of_GOp {Q : Exit → Act → World → Prop} {i : Nat} {o : Oper} {a : Act} {w : World} {R : Value → World → Prop} {K' : Act → World → Prop} (hd : ∀ o, o ∈ l → ∀ d, o.dst = some d → d < a.tmps.size) (ho : l[i]? = some o)
    (h : GOp P l o (envOf a) w R) (hk : ∀ v w', R v w' → K' (a.put o.dst v) w') : wpOp P l.toArray Q i K' a w := by
  unfold wpOp
  rw [List.getElem?_toArray, ho]
  simp only [wanted_eq hd o]
  unfold GOp at h
  cases hw : wantedE l o (envOf a) with
  | true => rw [hw] at h; simp only [if_true]; exact .inl (wp_of_OpY h hk)
  | false => rw [hw] at h; simp only [Bool.false_eq_true, if_false]; exact hk _ _ h

theorem drawOk_spec (h : drawOk l n0 = true) : n0 ≤ l.length ∧ headOk l n0 = true ∧ uniqOk l n0 = true ∧ backOk l = true ∧ sinkOk l n0 = true ∧ chainOk l n0 = true := by
  simp only [drawOk, Bool.and_eq_true] at h
  obtain ⟨⟨⟨⟨⟨h1, h2⟩, h3⟩, h4⟩, h5⟩, h6⟩ := h
  exact ⟨by simpa using h1, h2, h3, h4, h5, h6⟩

theorem head_at (h : headOk l n0 = true) {i : Nat} {o : Oper} (hi : i < n0) (ho : l[i]? = some o) : (∃ d, o.dst = some d) ∧ lookOk l n0 i o = true ∧ isSel o.op = false := by
  have := List.all_eq_true.1 h i (List.mem_range.2 hi)
  rw [ho] at this
  simp only [Bool.and_eq_true, Bool.not_eq_true'] at this
  exact ⟨Option.isSome_iff_exists.1 this.1.1, this.1.2, this.2⟩
theorem look_at {i j t : Nat} {o : Oper} (h : lookOk l n0 i o = true) (ht : t ∈ looksE l o) (hj : j < n0) (hd : dstAt l j = some t) : (j ∈ depsOf o ∧ j < i) ∨ (i < j ∧ ∃ o', l[j]? = some o' ∧ i ∈ depsOf o') := by
  have := List.all_eq_true.1 (List.all_eq_true.1 h t ht) j (List.mem_range.2 hj)
  rw [hd] at this
  simp only [beq_self_eq_true, Bool.not_true, Bool.false_or, Bool.or_eq_true, Bool.and_eq_true] at this
  rcases this with this | this
  · exact .inl ⟨memN_iff.1 this.1, by simpa using this.2⟩
  · refine .inr ⟨by simpa using this.1, ?_⟩
    have h2 := this.2
    cases ho : l[j]? with
    | none => rw [ho] at h2; cases h2
    | some o' => rw [ho] at h2; exact ⟨o', rfl, memN_iff.1 h2⟩
theorem uniq_at (h : uniqOk l n0 = true) {i j t : Nat} (hi : i < n0) (hj : j < n0) (h1 : dstAt l i = some t) (h2 : dstAt l j = some t) : i = j := by
  have := List.all_eq_true.1 (List.all_eq_true.1 h i (List.mem_range.2 hi)) j (List.mem_range.2 hj)
  rw [h1, h2] at this
  simp only [beq_self_eq_true, Bool.not_true, Bool.or_false] at this
  exact Nat.eq_of_beq_eq_true this
theorem back_at (h : backOk l = true) {i j : Nat} {o : Oper} (ho : l[i]? = some o) (hj : j ∈ depsOf o) : j < i := by
  have hi : i < l.length := by
    rcases Nat.lt_or_ge i l.length with h2 | h2
    · exact h2
    · rw [List.getElem?_eq_none h2] at ho; cases ho
  have := List.all_eq_true.1 h i (List.mem_range.2 hi)
  rw [ho] at this
  simpa using List.all_eq_true.1 this j hj
theorem ready_deps {listed : Array Bool} {i : Nat} {o : Oper} (h : i ∈ Region.ready .any l.toArray listed) (ho : l[i]? = some o) : listed.getD i true = false ∧ ∀ j ∈ depsOf o, lst listed j := by
  obtain ⟨h1, o', ho', h2⟩ := mem_ready.1 h
  rw [List.getElem?_toArray, ho] at ho'
  cases ho'
  refine ⟨h1, fun j hj => ?_⟩
  simp only [depsOf, List.mem_map, List.mem_filter] at hj
  obtain ⟨e, ⟨he, hb⟩, rfl⟩ := hj
  exact h2 e (by simpa using he) hb
theorem ready_of {listed : Array Bool} {i : Nat} {o : Oper} (ho : l[i]? = some o) (h1 : listed.getD i true = false) (h2 : ∀ j ∈ depsOf o, lst listed j) : i ∈ Region.ready .any l.toArray listed := by
  refine mem_ready.2 ⟨h1, o, by rw [List.getElem?_toArray]; exact ho, fun e he hb => h2 e.on ?_⟩
  simp only [depsOf, List.mem_map, List.mem_filter]
  exact ⟨e, ⟨by simpa using he, hb⟩, rfl⟩

/-- one operation of the head -/
theorem Inv.step {Φs : List Ph} {listed : Array Bool} {a : Act} {w : World} {vs : Nat → Value} {Q : Exit → Act → World → Prop} {K' : Act → World → Prop} (hok : dstsOk n l = true) (hdr : drawOk l n0 = true) (hst : stable Φs)
    (hDr : DrG P l w0 K (l.take n0) Φs e [] 0) (inv : Inv l n n0 e w0 Φs listed a w vs) (hcl : ∀ j oj, l[j]? = some oj → lst listed j → ∀ d ∈ depsOf oj, lst listed d) {i : Nat} (hi : i < n0) (hr : i ∈ Region.ready .any l.toArray listed)
    (hk : ∀ a' w' vs', Inv l n n0 e w0 Φs (listed.setIfInBounds i true) a' w' vs' → K' a' w') : wpOp P l.toArray Q i K' a w := by
  obtain ⟨hn, hh, hu, hb, _, _⟩ := drawOk_spec hdr
  have ho : l[i]? = some l[i] := List.getElem?_eq_getElem (by omega)
  obtain ⟨⟨d, hd⟩, hlook, hsel⟩ := head_at hh hi ho
  obtain ⟨hun, hdeps⟩ := ready_deps hr ho
  have hdst : dstAt l i = some d := by simp only [dstAt, ho]; exact hd
  have hsz : i < listed.size := by rw [inv.size]; omega
  have hset : ∀ j, lst (listed.setIfInBounds i true) j ↔ (lst listed j ∨ j = i) := by
    intro j
    constructor
    · exact lst_set
    · rintro (h | h)
      · exact getD_set_true h
      · subst h; simp [lst, hsz]
  have hnl : ¬ lst listed i := by
    intro h; unfold lst at h
    simp [hsz] at hun h; rw [hun] at h; cases h
  have hdd : ∀ o, o ∈ l → ∀ d, o.dst = some d → d < a.tmps.size := by rw [inv.tmps]; exact dstsOk_spec hok
  have hDi := dr_at hn hDr vs inv.fit i (by omega)
  have hlt : i < (l.take n0).length := by simp; omega
  rw [List.drop_eq_getElem_cons hlt] at hDi
  have hgi : (l.take n0)[i] = l[i] := by simp
  rw [hgi] at hDi
  -- the frame as the text has it, and the frame as it is
  have hagree : ∀ t, t ∈ looksE l l[i] → envAll l e vs i t = envOf a t := by
    intro t ht
    by_cases hex : ∃ j, j < n0 ∧ dstAt l j = some t
    · obtain ⟨j, hj, hjd⟩ := hex
      rcases look_at hlook ht hj hjd with ⟨h1, h2⟩ | ⟨h1, oj, h2, h3⟩
      · rw [envAll_at hjd i h2 (fun k hk hkd => uniq_at hu (by omega) hj hkd hjd), inv.env1 t j hj hjd (hdeps j h1)]
      · have hjn : ¬ lst listed j := fun h => hnl (hcl j oj h2 h i h3)
        rw [envAll_not i (fun k hk hkd => by have := uniq_at hu (show k < n0 by omega) hj hkd hjd; omega), inv.env2 t (fun k hk hl hkd => by have := uniq_at hu hk hj hkd hjd; subst this; exact hjn hl)]
    · rw [envAll_not i (fun j hj hjd => hex ⟨j, by omega, hjd⟩), inv.env2 t (fun j hj _ hjd => hex ⟨j, hj, hjd⟩)]
  have hfacts : factsD (depsOf l[i]) (Fall Φs vs i) w := factsD_of i (fun j ph hj hm hph => inv.holds j ph (by omega) (hdeps j hm) hph)
  -- what comes behind
  have next : ∀ ph, Φs[i]? = some ph → ∀ v w', Ext w w' → ph.holds v w' → K' (a.put l[i].dst v) w' := by
    intro ph hph v w' hE hv
    refine hk _ w' (fun j => if j = i then v else vs j) ⟨by simp [inv.size], by rw [put_size]; exact inv.tmps, by rw [put_defers']; exact inv.defs, inv.ext.trans hE, ?_, ?_, ?_, ?_⟩
    · intro j c hc
      by_cases hj : j = i
      · subst hj; rw [hph] at hc; cases hc; simpa [Ph.holds] using hv
      · simp only [hj, if_false]; exact inv.fit j c hc
    · intro t j hj hjd hl
      rw [hd, envOf_put a inv.tmps (by rw [← inv.tmps]; exact hdd _ (List.mem_of_getElem? ho) d hd)]
      by_cases hji : j = i
      · subst hji
        rw [hdst] at hjd; cases hjd
        simp [upd_same]
      · have htd : t ≠ d := fun h => hji (uniq_at hu hj hi hjd (by rw [hdst, h]))
        rw [upd_other _ _ htd]
        simp only [hji, if_false]
        exact inv.env1 t j hj hjd (((hset j).1 hl).resolve_right hji)
    · intro t ht
      rw [hd, envOf_put a inv.tmps (by rw [← inv.tmps]; exact hdd _ (List.mem_of_getElem? ho) d hd)]
      have htd : t ≠ d := fun h => ht i hi ((hset i).2 (.inr rfl)) (by rw [hdst, h])
      rw [upd_other _ _ htd]
      exact inv.env2 t (fun j hj hl => ht j hj ((hset j).2 (.inl hl)))
    · intro j ph' hj hl hph'
      by_cases hji : j = i
      · subst hji; rw [hph] at hph'; cases hph'; simpa using hv
      · simp only [hji, if_false]
        exact stable_at hst j ph' hph' _ _ _ hE (inv.holds j ph' hj (((hset j).1 hl).resolve_right hji) hph')
  cases hph : Φs[i]? with
  | none =>
    have : Φs.drop i = [] := List.drop_eq_nil_of_le (List.getElem?_eq_none_iff.1 hph)
    rw [this] at hDi; exact hDi.elim
  | some ph =>
    have hlt2 : i < Φs.length := by
      rcases Nat.lt_or_ge i Φs.length with h2 | h2
      · exact h2
      · rw [List.getElem?_eq_none h2] at hph; cases hph
    have hc : Φs.drop i = ph :: Φs.drop (i + 1) := by
      rw [List.drop_eq_getElem_cons hlt2]; congr 1
      rw [List.getElem?_eq_getElem hlt2] at hph; exact Option.some.inj hph
    rw [hc] at hDi
    cases ph with
    | det c => exact wpOp_of_GOp hdd ho (GOp_congr hsel hagree (hDi.1 w inv.ext hfacts)) fun v w' hv => next _ hph v w' hv.1 hv.2
    | rel Φ => exact wpOp_of_GOp hdd ho (GOp_congr hsel hagree (hDi.1 w inv.ext hfacts)) fun v w' hv => next _ hph v w' hv.1 hv.2

theorem filter_lt {p p' : Nat → Bool} : ∀ {xs : List Nat}, (∀ x ∈ xs, p' x = true → p x = true) → (∃ x ∈ xs, p x = true ∧ p' x = false) → (xs.filter p').length < (xs.filter p).length
  | [], _, h => by obtain ⟨x, hx, _⟩ := h; cases hx
  | y :: r, hs, h => by
    have hle : (r.filter p').length ≤ (r.filter p).length := by
      have : ∀ {zs : List Nat}, (∀ x ∈ zs, p' x = true → p x = true) → (zs.filter p').length ≤ (zs.filter p).length := by
        intro zs
        induction zs with
        | nil => intro _; simp
        | cons z zs ih =>
          intro hz
          have h1 := ih (fun x hx => hz x (List.mem_cons_of_mem _ hx))
          have h2 := hz z List.mem_cons_self
          cases h3 : p' z with
          | true => simp [h3, h2 h3]; omega
          | false =>
            cases h4 : p z <;> simp [h3, h4] <;> omega
      exact this (fun x hx => hs x (List.mem_cons_of_mem _ hx))
    obtain ⟨x, hx, h1, h2⟩ := h
    cases hx with
    | head => simp [h1, h2]; omega
    | tail _ hm =>
      have ih := filter_lt (xs := r) (fun x hx => hs x (List.mem_cons_of_mem _ hx)) ⟨x, hm, h1, h2⟩
      have h3 := hs y List.mem_cons_self
      cases h4 : p' y with
      | true => simp [h4, h3 h4]; omega
      | false => cases h5 : p y <;> simp [h4, h5] <;> omega
def cnt (l : List Oper) (listed : Array Bool) : Nat := ((List.range l.length).filter fun j => !(listed.getD j true)).length
theorem cnt_set {listed : Array Bool} {i : Nat} (hs : listed.size = l.length) (hi : i < l.length) (hu : listed.getD i true = false) : cnt l (listed.setIfInBounds i true) < cnt l listed := by
  refine filter_lt (fun x _ h => ?_) ⟨i, List.mem_range.2 hi, by simp only [hu, Bool.not_false], ?_⟩
  · by_cases hx : i = x
    · subst hx; simp only [hu, Bool.not_false]
    · rwa [getD_set_ne true hx] at h
  · have : i < listed.size := by omega
    simp [this]
theorem cnt_zero {listed : Array Bool} (h : cnt l listed = 0) {j : Nat} (hj : j < l.length) : listed.getD j true = true := by
  have := List.eq_nil_of_length_eq_zero h
  have h2 := List.filter_eq_nil_iff.1 this j (List.mem_range.2 hj)
  simpa using h2

theorem Rl_GOp {o : Oper} {r : List Oper} {E : Env} {w : World} : Rl P l (o :: r) K E w = GOp P l o E w (fun v w' => Rl P l r K (updo E o.dst v) w') := by
  first
  | (simp only [Rl, GOp]; done)
  | (simp only [Rl, GOp]; cases wantedE l o E <;> rfl)

theorem tail_any {Q : Exit → Act → World → Prop} (hok : dstsOk n l = true) (hdr : drawOk l n0 = true) (hQ : ∀ a w, a.tmps.size = n → a.defers = [] → K (envOf a) w → Q .normal a w) :
    ∀ (fuel t : Nat) (listed : Array Bool) (a : Act) (w : World), listed.size = l.length → (∀ j, j < t → lst listed j) → (∀ j, t ≤ j → j < l.length → listed.getD j true = false) → n0 ≤ t → t ≤ l.length → l.length - t ≤ fuel →
      a.tmps.size = n → a.defers = [] → Rl P l (l.drop t) K (envOf a) w → wpAny P .any l.toArray Q fuel listed a w := by
  obtain ⟨hn, hh, hu, hb, hsk, hch⟩ := drawOk_spec hdr
  intro fuel
  induction fuel with
  | zero =>
    intro t listed a w hs hlst hun h0 hle hf h1 h2 h
    have : t = l.length := by omega
    subst this
    rw [List.drop_length] at h
    refine ⟨?_, hQ a w h1 h2 h⟩
    apply List.eq_nil_iff_forall_not_mem.2
    intro i hi
    obtain ⟨g1, o, g2, _⟩ := mem_ready.1 hi
    have hil : i < l.length := by
      rw [List.getElem?_toArray] at g2
      exact (List.getElem?_eq_some_iff.1 g2).1
    have := hlst i hil
    unfold lst at this
    simp [hs, hil] at g1 this
    rw [g1] at this; cases this
  | succ fuel ih =>
    intro t listed a w hs hlst hun h0 hle hf h1 h2 h
    have hall : t = l.length → Region.ready .any l.toArray listed = [] := by
      intro ht; subst ht
      apply List.eq_nil_iff_forall_not_mem.2
      intro i hi
      obtain ⟨g1, o, g2, _⟩ := mem_ready.1 hi
      have hil : i < l.length := by
        rw [List.getElem?_toArray] at g2
        exact (List.getElem?_eq_some_iff.1 g2).1
      have := hlst i hil
      unfold lst at this
      simp [hs, hil] at g1 this
      rw [g1] at this; cases this
    refine ⟨fun hr => ?_, fun i hi => ?_⟩
    · by_cases ht : t = l.length
      · subst ht; rw [List.drop_length] at h; exact hQ a w h1 h2 h
      · have htl : t < l.length := by omega
        have : t ∈ Region.ready .any l.toArray listed := ready_of (List.getElem?_eq_getElem htl) (hun t (Nat.le_refl _) htl) (fun j hj => hlst j (back_at hb (List.getElem?_eq_getElem htl) hj))
        rw [hr] at this; cases this
    · have hil : i < l.length := by
        obtain ⟨_, o, g2, _⟩ := mem_ready.1 hi
        rw [List.getElem?_toArray] at g2
        exact (List.getElem?_eq_some_iff.1 g2).1
      obtain ⟨g1, g2⟩ := ready_deps hi (List.getElem?_eq_getElem hil)
      have hge : t ≤ i := by
        rcases Nat.lt_or_ge i t with h3 | h3
        · have := hlst i h3
          unfold lst at this
          simp [hs, hil] at g1 this
          rw [g1] at this; cases this
        · exact h3
      have hit : i = t := by
        rcases Nat.lt_or_ge t i with h3 | h3
        · exfalso
          have := List.all_eq_true.1 hch i (List.mem_range.2 hil)
          simp only [Bool.or_eq_true] at this
          rcases this with h4 | h4
          · have : i ≤ n0 := by simpa using h4
            omega
          · unfold waitB at h4
            rw [List.getElem?_eq_getElem hil] at h4
            have h5 := g2 (i - 1) (memN_iff.1 h4)
            have h6 := hun (i - 1) (by omega) (by omega)
            unfold lst at h5
            have hlt : i - 1 < listed.size := by omega
            simp [hlt] at h5 h6
            rw [h5] at h6; cases h6
        · omega
      subst hit
      rw [List.drop_eq_getElem_cons hil, Rl_GOp] at h
      have hdd : ∀ o, o ∈ l → ∀ d, o.dst = some d → d < a.tmps.size := by rw [h1]; exact dstsOk_spec hok
      refine wpOp_of_GOp hdd (List.getElem?_eq_getElem hil) h fun v w' hv => ?_
      refine ih (i + 1) _ _ _ (by simp [hs]) (fun j hj => ?_) (fun j hj hjl => ?_) (by omega) (by omega) (by omega) (by rw [put_size]; exact h1) (by rw [put_defers']; exact h2) ?_
      · by_cases hji : j = i
        · subst hji; simp [lst, hs, hil]
        · exact getD_set_true (hlst j (by omega))
      · rw [getD_set_ne true (by omega)]; exact hun j (by omega) hjl
      · rw [envOf_puto a h1 (fun k hk => by rw [← h1]; exact hdd _ (List.getElem_mem hil) k hk)]
        exact hv

theorem head_any {Q : Exit → Act → World → Prop} {Φs : List Ph} (hok : dstsOk n l = true) (hdr : drawOk l n0 = true) (hst : stable Φs) (hDr : DrG P l w0 (Rl P l (l.drop n0) K) (l.take n0) Φs e [] 0)
    (hQ : ∀ a w, a.tmps.size = n → a.defers = [] → K (envOf a) w → Q .normal a w) :
    ∀ (fuel : Nat) (listed : Array Bool) (a : Act) (w : World) (vs : Nat → Value), Inv l n n0 e w0 Φs listed a w vs → (∀ j oj, l[j]? = some oj → lst listed j → ∀ d ∈ depsOf oj, lst listed d) →
      (∀ t, n0 ≤ t → t < l.length → listed.getD t true = false) → cnt l listed ≤ fuel → wpAny P .any l.toArray Q fuel listed a w := by
  obtain ⟨hn, hh, hu, hb, hsk, hch⟩ := drawOk_spec hdr
  have hlt : ∀ {listed : Array Bool}, listed.size = l.length → ∀ j, j < l.length → (listed.getD j true = false ↔ ¬ lst listed j) := by
    intro listed hs j hj
    unfold lst
    simp [hs, hj]
  -- where the head is done
  have done : ∀ (fuel : Nat) (listed : Array Bool) (a : Act) (w : World) (vs : Nat → Value), Inv l n n0 e w0 Φs listed a w vs → (∀ t, n0 ≤ t → t < l.length → listed.getD t true = false) → (∀ j, j < n0 → lst listed j) → l.length - n0 ≤ fuel → wpAny P .any l.toArray Q fuel listed a w := by
    intro fuel listed a w vs inv htail hall hf
    have hDn := dr_at hn hDr vs inv.fit n0 (Nat.le_refl _)
    have hnil : (l.take n0).drop n0 = [] := by
      apply List.drop_eq_nil_of_le; simp; omega
    rw [hnil] at hDn
    have hE : envAll l e vs n0 = envOf a := by
      funext t
      by_cases hex : ∃ j, j < n0 ∧ dstAt l j = some t
      · obtain ⟨j, hj, hjd⟩ := hex
        rw [envAll_at hjd n0 hj (fun k hk hkd => uniq_at hu hk hj hkd hjd), inv.env1 t j hj hjd (hall j hj)]
      · rw [envAll_not n0 (fun j hj hjd => hex ⟨j, hj, hjd⟩), inv.env2 t (fun j hj _ hjd => hex ⟨j, hj, hjd⟩)]
    have hR : Rl P l (l.drop n0) K (envOf a) w := by
      rw [← hE]
      have hfa : factsA (Fall Φs vs n0) w := factsA_of n0 (fun j ph hj hph => inv.holds j ph hj (hall j hj) hph)
      cases hΦ : Φs.drop n0 with
      | nil => rw [hΦ] at hDn; exact hDn w inv.ext hfa
      | cons x r => rw [hΦ] at hDn; exact hDn w inv.ext hfa
    exact tail_any hok hdr hQ fuel n0 listed a w inv.size hall htail (Nat.le_refl _) hn hf inv.tmps inv.defs hR
  intro fuel
  induction fuel with
  | zero =>
    intro listed a w vs inv hcl htail hc
    have h0 : ∀ j, j < l.length → lst listed j := by
      intro j hj
      have := cnt_zero (by omega : cnt l listed = 0) hj
      unfold lst; simp [inv.size, hj] at this ⊢; exact this
    have hnn : n0 = l.length := by
      rcases Nat.lt_or_ge n0 l.length with h | h
      · have := (hlt inv.size n0 h).1 (htail n0 (Nat.le_refl _) h)
        exact absurd (h0 n0 h) this
      · omega
    exact done 0 listed a w vs inv htail (fun j hj => h0 j (by omega)) (by omega)
  | succ fuel ih =>
    intro listed a w vs inv hcl htail hc
    by_cases hall : ∀ j, j < n0 → lst listed j
    · refine done (fuel + 1) listed a w vs inv htail hall ?_
      -- the tail is unlisted: so many at least
      have : l.length - n0 ≤ cnt l listed := by
        have h1 : ((List.range' n0 (l.length - n0)).filter fun j => !(listed.getD j true)).length = l.length - n0 := by
          rw [List.filter_eq_self.2]
          · simp
          · intro j hj
            rw [List.mem_range'_1] at hj
            have := htail j hj.1 (by omega)
            simp only [this, Bool.not_false]
        have h2 : List.range l.length = List.range n0 ++ List.range' n0 (l.length - n0) := by
          rw [List.range_eq_range', List.range_eq_range']
          have := List.range'_append_1 (s := 0) (m := n0) (n := l.length - n0)
          rw [Nat.zero_add] at this
          rw [this]; congr 1; omega
        unfold cnt
        rw [h2, List.filter_append, List.length_append, h1]; omega
      omega
    · have hex : ∃ i, i < n0 ∧ ¬ lst listed i := by
        refine Classical.byContradiction fun h => hall fun j hj => Classical.byContradiction fun hn => h ⟨j, hj, hn⟩
      -- some operation of the head is ready
      have some_ready : ∀ m, m < n0 → ¬ lst listed m → ∃ i, i < n0 ∧ i ∈ Region.ready .any l.toArray listed := by
        intro m
        induction m using Nat.strongRecOn with
        | _ m ihm =>
          intro hm hml
          have hmo : l[m]? = some l[m] := List.getElem?_eq_getElem (by omega)
          by_cases hd : ∀ d ∈ depsOf l[m], lst listed d
          · exact ⟨m, hm, ready_of hmo ((hlt inv.size m (by omega)).2 hml) hd⟩
          · have : ∃ d, d ∈ depsOf l[m] ∧ ¬ lst listed d := by
              refine Classical.byContradiction fun h => hd fun d hdm => Classical.byContradiction fun hn => h ⟨d, hdm, hn⟩
            obtain ⟨d, hdm, hdl⟩ := this
            exact ihm d (back_at hb hmo hdm) (by have := back_at hb hmo hdm; omega) hdl
      -- none of the tail is
      have none_tail : ∀ (c i : Nat), n0 - i = c → i < n0 → ¬ lst listed i → ∀ t, n0 ≤ t → t ∉ Region.ready .any l.toArray listed := by
        intro c
        induction c using Nat.strongRecOn with
        | _ c ihc =>
          intro i hci hi hil t ht hr
          have htl : t < l.length := by
            obtain ⟨_, o, g2, _⟩ := mem_ready.1 hr
            rw [List.getElem?_toArray] at g2
            exact (List.getElem?_eq_some_iff.1 g2).1
          obtain ⟨_, hdeps⟩ := ready_deps hr (List.getElem?_eq_getElem htl)
          by_cases htn : t = n0
          · subst htn
            simp only [sinkOk, Bool.or_eq_true] at hsk
            rcases hsk with h1 | h1
            · have := Nat.eq_of_beq_eq_true h1; omega
            · have h2 := List.all_eq_true.1 h1 i (List.mem_range.2 hi)
              obtain ⟨j, hj, h3⟩ := List.any_eq_true.1 h2
              simp only [Bool.and_eq_true] at h3
              have hij : i < j := by simpa using h3.1
              have hjn : j ≤ t := by have := List.mem_range.1 hj; omega
              have h4 := h3.2
              unfold waitB at h4
              rw [List.getElem?_eq_getElem (by omega : j < l.length)] at h4
              have h5 := memN_iff.1 h4
              by_cases hjt : j = t
              · subst hjt; exact hil (hdeps i h5)
              · by_cases hjl : lst listed j
                · exact hil (hcl j _ (List.getElem?_eq_getElem (by omega)) hjl i h5)
                · exact ihc (t - j) (by omega) j rfl (by omega) hjl t (Nat.le_refl _) hr
          · have := List.all_eq_true.1 hch t (List.mem_range.2 htl)
            simp only [Bool.or_eq_true] at this
            rcases this with h4 | h4
            · have : t ≤ n0 := by simpa using h4
              omega
            · unfold waitB at h4
              rw [List.getElem?_eq_getElem htl] at h4
              have h5 := hdeps (t - 1) (memN_iff.1 h4)
              exact (hlt inv.size (t - 1) (by omega)).1 (htail (t - 1) (by omega) (by omega)) h5
      obtain ⟨i0, hi0, hi0l⟩ := hex
      refine ⟨fun hr => ?_, fun i hi => ?_⟩
      · obtain ⟨i, _, hir⟩ := some_ready i0 hi0 hi0l
        rw [hr] at hir; cases hir
      · have hin : i < n0 := by
          rcases Nat.lt_or_ge i n0 with h | h
          · exact h
          · exact absurd hi (none_tail _ i0 rfl hi0 hi0l i h)
        obtain ⟨hun, hdeps⟩ := ready_deps hi (List.getElem?_eq_getElem (by omega : i < l.length))
        refine inv.step hok hdr hst hDr hcl hin hi fun a' w' vs' inv' => ih _ a' w' vs' inv' ?_ ?_ ?_
        · intro j oj hoj hjl d hd
          rcases lst_set hjl with h1 | h1
          · exact getD_set_true (hcl j oj hoj h1 d hd)
          · subst h1
            rw [List.getElem?_eq_getElem (by omega : j < l.length)] at hoj
            cases hoj
            exact getD_set_true (hdeps d hd)
        · intro t ht htl
          rw [getD_set_ne true (by omega)]; exact htail t ht htl
        · have := cnt_set inv.size (by omega : i < l.length) hun
          omega
end

section
variable {P : Program} {n : Nat} {k : List It} {Q : Env → World → Prop} {e : Env} {w : World}
/-- A region that draws its order: its first n0 operations in whatever order, the others in theirs. -/
theorem Swp.draw {id : Nat} {l : List Oper} (n0 : Nat) (Φs : List Ph) (hm : P.follows .mixedOrders = true) (hok : dstsOk n l = true) (hdr : drawOk l n0 = true) (hst : stable Φs)
    (h : ∀ w1, Ext w w1 → DrG P l w1 (Rl P l (l.drop n0) (Swp P n k Q)) (l.take n0) Φs e [] 0) : Swp P n (.code (.region id l.toArray true) :: k) Q e w := by
  intro a h1 h2 h3
  subst h3
  refine wp_region_any hm ?_
  have hE : Ext w { w with drawn := w.drawn + 1 } := Ext.drawn w _
  have hD := h _ hE
  refine head_any (K := Swp P n k Q) hok hdr hst hD (fun a' w' g1 g2 g3 => ⟨g1, g2, g3⟩) l.toArray.size (Array.replicate l.toArray.size false) a _ (fun i => match Φs[i]? with | some (.det c) => c | _ => undef)
    ⟨by simp, h1, h2, Ext.refl _, fun i c hc => by simp [hc], fun t j _ _ hj => ?_, fun t _ => rfl, fun j ph _ hj _ => ?_⟩ (fun j oj _ hj => ?_) (fun t _ ht => by simp [ht]) ?_
  · unfold lst at hj; rw [getD_replicate_false] at hj; cases hj
  · unfold lst at hj; rw [getD_replicate_false] at hj; cases hj
  · unfold lst at hj; rw [getD_replicate_false] at hj; cases hj
  · unfold cnt
    refine Nat.le_trans (List.length_filter_le _ _) (by simp)
end

section
variable {P : Program} {l : List Oper} {w0 : World} {K : Env → World → Prop} {r : List Oper} {Φs : List Ph} {e : Env} {F : List (Nat × (World → Prop))} {i : Nat}
theorem DrG.det {d : Nat} {op : Op} {ty : TypeId} {pos : String} {after : Array Edge} {guard : Option (Nat × Bool)} {c : Value}
    (h1 : ∀ w', Ext w0 w' → factsD (depsOf { dst := some d, op := op, type := ty, pos := pos, after := after, guard := guard }) F w' → GOp P l { dst := some d, op := op, type := ty, pos := pos, after := after, guard := guard } e w' fun v w'' => Ext w' w'' ∧ v = c)
    (h2 : DrG P l w0 K r Φs (upd e d c) F (i + 1)) : DrG P l w0 K ({ dst := some d, op := op, type := ty, pos := pos, after := after, guard := guard } :: r) (.det c :: Φs) e F i := ⟨h1, h2⟩
theorem DrG.rel {d : Nat} {op : Op} {ty : TypeId} {pos : String} {after : Array Edge} {guard : Option (Nat × Bool)} {Φ : Value → World → Prop}
    (h1 : ∀ w', Ext w0 w' → factsD (depsOf { dst := some d, op := op, type := ty, pos := pos, after := after, guard := guard }) F w' → GOp P l { dst := some d, op := op, type := ty, pos := pos, after := after, guard := guard } e w' fun v w'' => Ext w' w'' ∧ Φ v w'')
    (h2 : ∀ v, DrG P l w0 K r Φs (upd e d v) ((i, Φ v) :: F) (i + 1)) : DrG P l w0 K ({ dst := some d, op := op, type := ty, pos := pos, after := after, guard := guard } :: r) (.rel Φ :: Φs) e F i := ⟨h1, h2⟩
theorem DrG.fin (h : ∀ w', Ext w0 w' → factsA F w' → K e w') : DrG P l w0 K [] Φs e F i := h
end
theorem OwnC.ext {w w' : World} {ob : Option Nat} {c : Cont} (h : OwnC w ob c) (hE : Ext w w') : OwnC w' ob c :=
  h.same fun k hk => hE.block k (by subst hk; exact h.lt)
end Go.X

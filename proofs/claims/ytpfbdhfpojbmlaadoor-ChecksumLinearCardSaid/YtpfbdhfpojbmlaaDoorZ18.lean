/-
  A region that draws its order, in which literals of integers are made at any time before they are waited for, beside a chain of operations and others that only look. Plain theorems over any program.
-/
import Derived.Test.YtpfbdhfpojbmlaaDoorZ12
set_option linter.unusedSimpArgs false
set_option linter.unusedVariables false
namespace Go.X
open Go Go.RowKit
def setF (V : Nat → Value) : List (Nat × Nat) → Env → Env
  | [], E => E
  | (f, d) :: r, E => upd (setF V r E) d (V f)
theorem setF_env {V : Nat → Value} {E ρ : Env} {x : Nat} : ∀ {fds : List (Nat × Nat)}, (∀ p ∈ fds, p.2 = x → V p.1 = ρ x) → ((∀ p ∈ fds, p.2 ≠ x) → E x = ρ x) → setF V fds E x = ρ x
  | [], _, h => h (fun p hp => by cases hp)
  | (f, d) :: r, h1, h2 => by
    by_cases hx : x = d
    · subst hx
      show upd _ x (V f) x = _
      rw [upd_same]; exact h1 (f, x) List.mem_cons_self rfl
    · show upd _ d (V f) x = _
      rw [upd_other _ _ hx]
      refine setF_env (fun p hp => h1 p (List.mem_cons_of_mem _ hp)) (fun h => h2 fun p hp => ?_)
      rcases List.mem_cons.1 hp with rfl | hp
      · exact fun e => hx e.symm
      · exact h p hp
def OB (O : List (Option Nat)) (w : World) : Prop := ∀ b, some b ∈ O → b < w.heap.size
def LateX (P : Program) (l : List Oper) (lt : List Nat) (E : Env) (w : World) : Prop := ∀ w', Ext w w' → LateP P l lt E w'
def RlF (P : Program) (l : List Oper) (K : Env → World → Prop) (fds : List (Nat × Nat)) (Φ : Nat → Value → List (Option Nat) → World → Prop) (s0 : Nat) : List Nat → List Nat → List (Option Nat) → Env → World → Prop
  | _, [], _, E, w => ∀ w' V, Ext w w' → K (setF V fds E) w'
  | lt, q :: r, O, E, w => ∀ w' V, Ext w w' → (∀ p ∈ fds, memN p.1 (depsOf (l.getD q noOper)) = true → Φ p.1 (V p.1) O w') →
      GOp P l (l.getD q noOper) (setF V fds E) w' fun v w'' => ∃ O', Step O O' w' w'' ∧ OB O' w'' ∧ s0 ≤ w''.heap.size ∧
        LateX P l (lt.filter fun i => !memN i (depsOf (l.getD q noOper))) (updo E (l.getD q noOper).dst v) w'' ∧
        RlF P l K fds Φ s0 (lt.filter fun i => !memN i (depsOf (l.getD q noOper))) r O' (updo E (l.getD q noOper).dst v) w''
/-- what is made at any time -/
def FloatP (P : Program) (l : List Oper) (fds : List (Nat × Nat)) (Φ : Nat → Value → List (Option Nat) → World → Prop) (s0 : Nat) (E : Env) : Prop :=
  ∀ p ∈ fds, ∀ o, l[p.1]? = some o → ∀ w1 O1, s0 ≤ w1.heap.size → OB O1 w1 → GOp P l o E w1 fun v w2 => Ext w1 w2 ∧ Φ p.1 v O1 w2
def okF (l : List Oper) (Q lt : List Nat) (fds : List (Nat × Nat)) : Bool :=
  backOk l && chainQ l Q && (Q.all fun q => Nat.blt q l.length) && (lt.all fun i => !memN i Q && !memN i (fds.map (·.1))) && (fds.all fun p => !memN p.1 Q && dstAt l p.1 == some p.2 && (List.range l.length).all fun j => Nat.beq j p.1 || !(dstAt l j == some p.2)) &&
  (List.range l.length).all fun i => match l[i]? with
    | some o => !isSel o.op && (memN i Q || memN i (fds.map (·.1)) || (memN i lt && o.dst.isSome && (List.range l.length).all fun j => Nat.beq j i || !(dstAt l j == dstAt l i))) &&
        ((looksE l o).all fun x => (List.range l.length).all fun j => (memN j Q && !memN i (fds.map (·.1))) || !(dstAt l j == some x) || memN j (depsOf o) || (memN i Q && Q.any fun q => Nat.blt q i && waitB l q j && okP.waitsQ l Q i q)) &&
        (memN i Q || (looksE l o).all fun x => fds.all fun p => !Nat.beq p.2 x) && (!memN i (fds.map (·.1)) || (looksE l o).all fun x => Q.all fun q => !(dstAt l q == some x))
    | none => true
theorem Els.ofIntsZ {k : IntKind} {H : Hp} : ∀ {xs : List Int}, Els (rInt k) H (xs.map (Value.int k)) xs
  | [] => rfl
  | x :: xs => Els.cons (a := [.int k x]) rfl Els.ofIntsZ
section
variable {P : Program} {l : List Oper} {n : Nat} {K : Env → World → Prop} {e : Env} {w : World} {fds : List (Nat × Nat)} {Φ : Nat → Value → List (Option Nat) → World → Prop} {s0 : Nat}
theorem RlF.ext : ∀ {rest lt : List Nat} {O : List (Option Nat)} {E : Env} {w w' : World}, RlF P l K fds Φ s0 lt rest O E w → Ext w w' → RlF P l K fds Φ s0 lt rest O E w'
  | [], _, _, _, _, _, h, hE => fun w2 V h2 => h w2 V (hE.trans h2)
  | _ :: _, _, _, _, _, _, h, hE => fun w2 V h2 => h w2 V (hE.trans h2)
theorem LateX.ext {lt : List Nat} {E : Env} {w w' : World} (h : LateX P l lt E w) (hE : Ext w w') : LateX P l lt E w' := fun w2 h2 => h w2 (hE.trans h2)
structure InvF (l : List Oper) (n : Nat) (Q : List Nat) (fds : List (Nat × Nat)) (Φ : Nat → Value → List (Option Nat) → World → Prop) (done rest : List Nat) (listed : Array Bool) (a : Act) (E E0 : Env) (O : List (Option Nat)) (w : World) (ltr : List Nat) : Prop where
  size : listed.size = l.length
  tmps : a.tmps.size = n
  defs : a.defers = []
  parts : Q = done ++ rest
  isdone : ∀ q ∈ done, lst listed q
  open' : ∀ q ∈ rest, ¬ lst listed q
  cl : ∀ j oj, l[j]? = some oj → lst listed j → ∀ d ∈ depsOf oj, lst listed d
  late : ∀ i, i < l.length → i ∉ Q → i ∉ fds.map (·.1) → ¬ lst listed i → i ∈ ltr
  env : ∀ x, (∀ p ∈ fds, p.2 ≠ x) → (∀ i, i < l.length → i ∉ Q → i ∉ fds.map (·.1) → ¬ lst listed i → dstAt l i ≠ some x) → envOf a x = E x
  env0 : ∀ x, (∀ q ∈ Q, dstAt l q ≠ some x) → E x = E0 x
  made : ∀ p ∈ fds, lst listed p.1 → Φ p.1 (envOf a p.2) O w
theorem anyF {Q lt : List Nat} {E0 : Env} {Qp : Exit → Act → World → Prop} (hok : dstsOk n l = true) (hq : okF l Q lt fds = true) (hnd : Q.Nodup) (hfl : FloatP P l fds Φ s0 E0)
    (hΦ : ∀ p v O O' w w', Φ p v O w → Step O O' w w' → Φ p v O' w') (hQ : ∀ a w, a.tmps.size = n → a.defers = [] → K (envOf a) w → Qp .normal a w) :
    ∀ (fuel : Nat) (done rest : List Nat) (listed : Array Bool) (a : Act) (w : World) (E : Env) (O : List (Option Nat)) (ltr : List Nat), InvF l n Q fds Φ done rest listed a E E0 O w ltr → OB O w → s0 ≤ w.heap.size → LateX P l ltr E w → RlF P l K fds Φ s0 ltr rest O E w → cnt l listed ≤ fuel → wpAny P .any l.toArray Qp fuel listed a w := by
  have hq' := hq
  simp only [okF, Bool.and_eq_true] at hq'
  obtain ⟨⟨⟨⟨⟨hb, hch⟩, hin⟩, hlq⟩, hfd⟩, hall⟩ := hq'
  have hfd1 : ∀ p ∈ fds, p.1 ∉ Q ∧ dstAt l p.1 = some p.2 ∧ ∀ j, j < l.length → dstAt l j = some p.2 → j = p.1 := by
    intro p hp
    have h := List.all_eq_true.1 hfd p hp
    simp only [Bool.and_eq_true, Bool.not_eq_true', beq_iff_eq] at h
    refine ⟨fun hm => ?_, h.1.2, fun j hj hd => ?_⟩
    · rw [memN_iff.2 hm] at h; cases h.1.1
    · have h2 := List.all_eq_true.1 h.2 j (List.mem_range.2 hj)
      rw [hd] at h2
      simp only [Bool.or_eq_true, beq_self_eq_true, Bool.not_true, Bool.false_eq_true, or_false] at h2
      exact Nat.eq_of_beq_eq_true h2
  have hV : ∀ {a : Act} {E : Env} {x : Nat}, ((∀ p ∈ fds, p.2 ≠ x) → envOf a x = E x) → setF (fun f => match dstAt l f with | some d => envOf a d | none => undef) fds E x = envOf a x := by
    intro a E x h
    refine setF_env (fun p hp hx => ?_) (fun h' => (h h').symm)
    show (match dstAt l p.1 with | some d => envOf a d | none => undef) = _
    rw [(hfd1 p hp).2.1]; show envOf a p.2 = _; rw [hx]
  have fin : ∀ (done rest : List Nat) (listed : Array Bool) (a : Act) (w : World) (E : Env) (O : List (Option Nat)) (ltr : List Nat), InvF l n Q fds Φ done rest listed a E E0 O w ltr → RlF P l K fds Φ s0 ltr rest O E w → Region.ready .any l.toArray listed = [] → Qp .normal a w := by
    intro done rest listed a w E O ltr inv hR hr
    have hal := allListed inv.size hb hr
    have hr0 : rest = [] := by
      cases rest with
      | nil => rfl
      | cons q r =>
        have hqm : q ∈ Q := by rw [inv.parts]; exact List.mem_append_right _ List.mem_cons_self
        have hql : q < l.length := by simpa using List.all_eq_true.1 hin q hqm
        exact absurd (hal q hql) (inv.open' q List.mem_cons_self)
    subst hr0
    refine hQ a w inv.tmps inv.defs ?_
    have := hR w (fun f => match dstAt l f with | some d => envOf a d | none => undef) (Ext.refl w)
    have hE : setF (fun f => match dstAt l f with | some d => envOf a d | none => undef) fds E = envOf a := by
      funext x
      exact hV (fun hx => inv.env x hx (fun i hi _ _ hil => absurd (hal i hi) hil))
    rw [hE] at this; exact this
  intro fuel
  induction fuel with
  | zero =>
    intro done rest listed a w E O ltr inv hO hs hL hR hc
    have hr : Region.ready .any l.toArray listed = [] := by
      apply List.eq_nil_iff_forall_not_mem.2
      intro i hi
      obtain ⟨g1, o, g2, _⟩ := mem_ready.1 hi
      have hil : i < l.length := by
        rw [List.getElem?_toArray] at g2
        exact (List.getElem?_eq_some_iff.1 g2).1
      have := cnt_zero (by omega : cnt l listed = 0) hil
      rw [g1] at this; cases this
    exact ⟨hr, fin done rest listed a w E O ltr inv hR hr⟩
  | succ fuel ih =>
    intro done rest listed a w E O ltr inv hO hs hL hR hc
    refine ⟨fun hr => fin done rest listed a w E O ltr inv hR hr, fun i hi => ?_⟩
    have hil : i < l.length := by
      obtain ⟨_, o, g2, _⟩ := mem_ready.1 hi
      rw [List.getElem?_toArray] at g2
      exact (List.getElem?_eq_some_iff.1 g2).1
    have ho : l[i]? = some l[i] := List.getElem?_eq_getElem hil
    obtain ⟨hun, hdeps⟩ := ready_deps hi ho
    have hnl : ¬ lst listed i := (unl inv.size hil).2 hun
    have hcn := cnt_set inv.size hil hun
    have hdd : ∀ o, o ∈ l → ∀ d, o.dst = some d → d < a.tmps.size := by rw [inv.tmps]; exact dstsOk_spec hok
    have hai := List.all_eq_true.1 hall i (List.mem_range.2 hil)
    rw [ho] at hai
    simp only [Bool.and_eq_true, Bool.not_eq_true'] at hai
    obtain ⟨⟨⟨⟨hsel, hown⟩, hlook⟩, hlk2⟩, hlk3⟩ := hai
    have hput : ∀ (v : Value) (d : Nat), l[i].dst = some d → envOf (a.put l[i].dst v) = upd (envOf a) d v := by
      intro v d hd
      rw [hd, envOf_put a inv.tmps (by rw [← inv.tmps]; exact hdd _ (List.mem_of_getElem? ho) d hd)]
    have hputn : ∀ (v : Value), l[i].dst = none → envOf (a.put l[i].dst v) = envOf a := by
      intro v hd; rw [hd]; rfl
    have hdi : dstAt l i = l[i].dst := by unfold dstAt; rw [ho]; rfl
    -- what a look sees, while late ones are open
    have hsee : ∀ x ∈ looksE l l[i], (∀ p ∈ fds, p.2 ≠ x) → envOf a x = E x := by
      intro x hx hxf
      refine inv.env x hxf (fun j hj hjQ hjf hjl hdj => ?_)
      have h3 := List.all_eq_true.1 (List.all_eq_true.1 hlook x hx) j (List.mem_range.2 hj)
      have hjQ' : memN j Q = false := by cases hm : memN j Q with
        | false => rfl
        | true => exact absurd (memN_iff.1 hm) hjQ
      simp only [hdj, hjQ', Bool.false_and, beq_self_eq_true, Bool.not_true, Bool.false_or, Bool.or_eq_true, Bool.and_eq_true] at h3
      rcases h3 with h3 | h3
      · exact hjl (hdeps j (memN_iff.1 h3))
      · obtain ⟨q, hqm, h4⟩ := List.any_eq_true.1 h3.2
        simp only [Bool.and_eq_true] at h4
        have hiQ := memN_iff.1 h3.1
        obtain ⟨r, hr⟩ : ∃ r, rest = i :: r := by
          have hir : i ∈ rest := by
            have := inv.parts ▸ hiQ
            rcases List.mem_append.1 this with h | h
            · exact absurd (inv.isdone i h) hnl
            · exact h
          obtain ⟨q2, r2, hqr⟩ : ∃ q r, rest = q :: r := by cases rest with | nil => cases hir | cons q r => exact ⟨q, r, rfl⟩
          rw [hqr] at hir
          rcases List.mem_cons.1 hir with h | h
          · exact ⟨r2, by rw [hqr, h]⟩
          · have hp9 := inv.parts
            rw [hqr] at hp9
            obtain ⟨p, hp, hw⟩ := chainQ_at hp9 hch i h
            unfold waitB at hw
            rw [ho] at hw
            exact absurd (hdeps p (memN_iff.1 hw)) (inv.open' p (by rw [hqr]; exact hp))
        have hqd : q ∈ done := by
          have h5 := h4.2
          unfold okP.waitsQ at h5
          obtain ⟨y, hy, hyq⟩ := List.any_eq_true.1 h5
          have hyq : y = q := Nat.eq_of_beq_eq_true hyq
          subst hyq
          rw [inv.parts, hr] at hy
          have htw : (done ++ i :: r).takeWhile (fun x => !(Nat.beq x i)) = done := by
            rw [List.takeWhile_append_of_pos]
            · simp
            · intro z hz
              have : z ≠ i := fun h => by
                subst h
                exact hnl (inv.isdone _ hz)
              cases hb9 : Nat.beq z i with
              | false => rfl
              | true => exact absurd (Nat.eq_of_beq_eq_true hb9) this
          rw [htw] at hy
          exact hy
        have h6 := h4.1.2
        unfold waitB at h6
        have hql : q < l.length := by simpa using List.all_eq_true.1 hin q hqm
        rw [List.getElem?_eq_getElem hql] at h6
        exact hjl (inv.cl q _ (List.getElem?_eq_getElem hql) (inv.isdone q hqd) j (memN_iff.1 h6))
    by_cases hiQ : i ∈ Q
    · -- the next of the chain
      have hir : i ∈ rest := by
        have := inv.parts ▸ hiQ
        rcases List.mem_append.1 this with h | h
        · exact absurd (inv.isdone i h) hnl
        · exact h
      obtain ⟨q, r, hqr⟩ : ∃ q r, rest = q :: r := by cases rest with | nil => cases hir | cons q r => exact ⟨q, r, rfl⟩
      subst hqr
      have hiq : i = q := by
        rcases List.mem_cons.1 hir with h | h
        · exact h
        · obtain ⟨p, hp, hw⟩ := chainQ_at inv.parts hch i h
          unfold waitB at hw
          rw [ho] at hw
          exact absurd (hdeps p (memN_iff.1 hw)) (inv.open' p hp)
      subst hiq
      have hQnd := hnd
      rw [inv.parts] at hQnd
      have hir2 : i ∉ r := (List.nodup_cons.1 (List.nodup_append.1 hQnd).2.1).1
      have hR' := hR w (fun f => match dstAt l f with | some d => envOf a d | none => undef) (Ext.refl w) (by
        rw [mem_pickO ho]
        intro p hp hm
        have := inv.made p hp (hdeps p.1 (memN_iff.1 hm))
        show Φ p.1 (match dstAt l p.1 with | some d => envOf a d | none => undef) O w
        rw [(hfd1 p hp).2.1]; exact this)
      rw [mem_pickO ho] at hR'
      refine wpOp_of_GOp hdd ho (GOp_congr hsel (fun x hx => hV (hsee x hx)) hR') fun v w' hv => ?_
      obtain ⟨O', hst, hO', hs', hL', hR2⟩ := hv
      refine ih (done ++ [i]) r _ _ w' _ O' _ ⟨by simp [inv.size], by rw [put_size]; exact inv.tmps, by rw [put_defers']; exact inv.defs, by rw [inv.parts]; simp, ?_, ?_, cl_set inv.size hil inv.cl hdeps, ?_, ?_, ?_, ?_⟩ hO' hs' hL' hR2 (by omega)
      · intro q hq
        rw [set_lst inv.size hil]
        rcases List.mem_append.1 hq with h | h
        · exact .inl (inv.isdone q h)
        · exact .inr (List.mem_singleton.1 h)
      · intro q hq
        rw [set_lst inv.size hil]
        rintro (h | h)
        · exact inv.open' q (List.mem_cons_of_mem _ hq) h
        · subst h; exact hir2 hq
      · intro j hj hjQ hjf hjl
        rw [set_lst inv.size hil] at hjl
        have hjl' : ¬ lst listed j := fun h => hjl (.inl h)
        refine List.mem_filter.2 ⟨inv.late j hj hjQ hjf hjl', ?_⟩
        cases hm : memN j (depsOf l[i]) with
        | false => rfl
        | true => exact absurd (hdeps j (memN_iff.1 hm)) hjl'
      · intro x hxf hx
        have he := inv.env x hxf (fun j hj hjQ hjf hjl => by
          refine hx j hj hjQ hjf ?_
          rw [set_lst inv.size hil]
          rintro (h1 | h1)
          · exact hjl h1
          · subst h1; exact hjQ hiQ)
        cases hd : l[i].dst with
        | none =>
          have := hputn v hd
          rw [hd] at this
          rw [this]; exact he
        | some d =>
          have := hput v d hd
          rw [hd] at this
          rw [this]
          simp only [updo]
          by_cases hxd : x = d
          · subst hxd; rw [upd_same, upd_same]
          · rw [upd_other _ _ hxd, upd_other _ _ hxd]; exact he
      · intro x hx
        have h0 := inv.env0 x hx
        cases hd : l[i].dst with
        | none => exact h0
        | some d =>
          simp only [updo]
          have hxd : x ≠ d := fun h => hx i hiQ (by rw [hdi, hd, h])
          rw [upd_other _ _ hxd]; exact h0
      · intro p hp hpl
        rw [set_lst inv.size hil] at hpl
        have hpi : p.1 ≠ i := fun h => (hfd1 p hp).1 (h ▸ hiQ)
        have hm := inv.made p hp (hpl.resolve_right hpi)
        have henv : envOf (a.put l[i].dst v) p.2 = envOf a p.2 := by
          cases hd : l[i].dst with
          | none => have := hputn v hd; rw [hd] at this; rw [this]
          | some d =>
            have := hput v d hd
            rw [hd] at this
            rw [this, upd_other]
            intro h
            exact hpi ((hfd1 p hp).2.2 i hil (by rw [hdi, hd, h])).symm
        rw [henv]
        exact hΦ _ _ _ _ _ _ hm hst
    · by_cases hif : i ∈ fds.map (·.1)
      · -- one that is made at any time
        obtain ⟨p, hp, hpi⟩ := List.mem_map.1 hif
        subst hpi
        have hg := hfl p hp l[p.1] ho w O hs hO
        have hif' : memN p.1 (fds.map (·.1)) = true := memN_iff.2 hif
        have hiQ' : memN p.1 Q = false := by cases hm : memN p.1 Q with
          | false => rfl
          | true => exact absurd (memN_iff.1 hm) hiQ
        refine wpOp_of_GOp hdd ho (GOp_congr hsel (fun x hx => ?_) hg) fun v w' hv => ?_
        · rw [hif'] at hlk3
          rw [hiQ'] at hlk2
          simp only [Bool.not_true, Bool.false_or] at hlk3 hlk2
          have h7 := List.all_eq_true.1 hlk3 x hx
          have h8 := List.all_eq_true.1 hlk2 x hx
          have h9 := hsee x hx (fun p' hp' h => by
            have := List.all_eq_true.1 h8 p' hp'
            rw [h] at this; simp at this)
          rw [h9]
          refine (inv.env0 x (fun q hq hdq => ?_)).symm
          have := List.all_eq_true.1 h7 q hq
          rw [hdq] at this; simp at this
        · obtain ⟨hE, hΦv⟩ := hv
          have hd : l[p.1].dst = some p.2 := by rw [← hdi]; exact (hfd1 p hp).2.1
          have hpe := hput v p.2 hd
          refine ih done rest _ _ _ E O ltr ⟨by simp [inv.size], by rw [put_size]; exact inv.tmps, by rw [put_defers']; exact inv.defs, inv.parts, ?_, ?_, cl_set inv.size hil inv.cl hdeps, ?_, ?_, inv.env0, ?_⟩ (fun b hb => Nat.lt_of_lt_of_le (hO b hb) hE.size) (Nat.le_trans hs hE.size) (hL.ext hE) (hR.ext hE) (by omega)
          · intro q hq
            rw [set_lst inv.size hil]; exact .inl (inv.isdone q hq)
          · intro q hq
            rw [set_lst inv.size hil]
            rintro (h1 | h1)
            · exact inv.open' q hq h1
            · subst h1; exact hiQ (by rw [inv.parts]; exact List.mem_append_right _ hq)
          · intro j hj hjQ hjf hjl
            rw [set_lst inv.size hil] at hjl
            exact inv.late j hj hjQ hjf (fun h => hjl (.inl h))
          · intro x hxf hx
            rw [hpe, upd_other _ _ (fun h => hxf p hp h.symm)]
            refine inv.env x hxf (fun j hj hjQ hjf hjl => ?_)
            refine hx j hj hjQ hjf ?_
            rw [set_lst inv.size hil]
            rintro (h1 | h1)
            · exact hjl h1
            · exact hjf (h1 ▸ hif)
          · intro p' hp' hpl
            rw [set_lst inv.size hil] at hpl
            by_cases h1 : p'.1 = p.1
            · have h2 : p'.2 = p.2 := by
                have a1 := (hfd1 p' hp').2.1
                rw [h1, (hfd1 p hp).2.1] at a1
                exact (Option.some.inj a1).symm
              rw [hpe, h1, h2, upd_same]; exact hΦv
            · have hm := inv.made p' hp' (hpl.resolve_right h1)
              rw [hpe, upd_other]
              · exact hΦ _ _ _ _ _ _ hm (Step.ext hE)
              · intro h
                exact h1 ((hfd1 p hp).2.2 p'.1 (lst_lt inv.size (hpl.resolve_right h1)) (by rw [(hfd1 p' hp').2.1, h]))
      · -- one that only looks
        have hm := inv.late i hil hiQ hif hnl
        have hown' : (memN i lt && l[i].dst.isSome && (List.range l.length).all fun j => Nat.beq j i || !(dstAt l j == dstAt l i)) = true := by
          rcases Bool.or_eq_true _ _ ▸ hown with h | h
          · rcases Bool.or_eq_true _ _ ▸ h with h | h
            · exact absurd (memN_iff.1 h) hiQ
            · exact absurd (memN_iff.1 h) hif
          · exact h
        have hiQ' : memN i Q = false := by cases hm : memN i Q with
          | false => rfl
          | true => exact absurd (memN_iff.1 hm) hiQ
        simp only [Bool.and_eq_true] at hown'
        refine wpOp_of_GOp hdd ho (GOp_congr hsel (fun x hx => ?_) (hL w (Ext.refl w) i hm _ ho)) fun v w' hv => ?_
        · symm
          refine hsee x hx (fun p' hp' h => ?_)
          rw [hiQ'] at hlk2
          simp only [Bool.false_or] at hlk2
          have := List.all_eq_true.1 (List.all_eq_true.1 hlk2 x hx) p' hp'
          rw [h] at this; simp at this
        · obtain ⟨⟨d', hd', hv⟩, rfl⟩ := hv
          have hpe := hput v d' hd'
          refine ih done rest _ _ _ E O ltr ⟨by simp [inv.size], by rw [put_size]; exact inv.tmps, by rw [put_defers']; exact inv.defs, inv.parts, ?_, ?_, cl_set inv.size hil inv.cl hdeps, ?_, ?_, inv.env0, ?_⟩ hO hs hL hR (by omega)
          · intro q hq
            rw [set_lst inv.size hil]; exact .inl (inv.isdone q hq)
          · intro q hq
            rw [set_lst inv.size hil]
            rintro (h1 | h1)
            · exact inv.open' q hq h1
            · subst h1; exact hiQ (by rw [inv.parts]; exact List.mem_append_right _ hq)
          · intro j hj hjQ hjf hjl
            rw [set_lst inv.size hil] at hjl
            exact inv.late j hj hjQ hjf (fun h => hjl (.inl h))
          · intro x hxf hx
            rw [hpe]
            by_cases hxd : x = d'
            · subst hxd; rw [upd_same, hv]
            · rw [upd_other _ _ hxd]
              refine inv.env x hxf (fun j hj hjQ hjf hjl hdj => ?_)
              by_cases hji : j = i
              · subst hji
                rw [hdi, hd'] at hdj; cases hdj; exact hxd rfl
              · refine hx j hj hjQ hjf ?_ hdj
                rw [set_lst inv.size hil]
                rintro (h1 | h1)
                · exact hjl h1
                · exact hji h1
          · intro p' hp' hpl
            rw [set_lst inv.size hil] at hpl
            have h1 : p'.1 ≠ i := fun h => hif (List.mem_map.2 ⟨p', hp', h⟩)
            have hm := inv.made p' hp' (hpl.resolve_right h1)
            rw [hpe, upd_other]
            · exact hm
            · intro h
              exact h1 ((hfd1 p' hp').2.2 i hil (by rw [hdi, hd', h])).symm

theorem Swp.drawF {id : Nat} {k : List It} {Qr : Env → World → Prop} {O : List (Option Nat)} (Q lt : List Nat) (fds : List (Nat × Nat)) (ds : List (Nat × Value)) (Φ : Nat → Value → List (Option Nat) → World → Prop) (s0 : Nat) (hm : P.follows .mixedOrders = true) (hok : dstsOk n l = true) (hq : okF l Q lt fds = true) (hnd : nodupN Q = true)
    (hd : ds.map (fun p => some p.1) = lt.map (dstAt l)) (hO : OB O w) (hs : s0 ≤ w.heap.size)
    (hΦ : ∀ p v O O' w w', Φ p v O w → Step O O' w w' → Φ p v O' w') (hfl : FloatP P l fds Φ s0 (updL e ds))
    (h : ∀ w1, Ext w w1 → LateX P l lt (updL e ds) w1 ∧ RlF P l (Swp P n k Qr) fds Φ s0 lt Q O (updL e ds) w1) : Swp P n (.code (.region id l.toArray true) :: k) Qr e w := by
  intro a h1 h2 h3
  subst h3
  refine wp_region_any hm ?_
  have hE : Ext w { w with drawn := w.drawn + 1 } := Ext.drawn w _
  obtain ⟨hL, hR⟩ := h _ hE
  have hno : ∀ j, ¬ lst (Array.replicate l.toArray.size false) j := fun j hj => by unfold lst at hj; rw [getD_replicate_false] at hj; cases hj
  have hq' := hq
  simp only [okF, Bool.and_eq_true] at hq'
  obtain ⟨⟨⟨⟨⟨hb, hch⟩, hin⟩, hlq⟩, hfd⟩, hall⟩ := hq'
  refine anyF (K := Swp P n k Qr) hok hq (nodupN_spec hnd) hfl hΦ (fun a' w' g1 g2 g3 => ⟨g1, g2, g3⟩) l.toArray.size [] Q (Array.replicate l.toArray.size false) a _ _ O lt
    ⟨by simp, h1, h2, rfl, (fun q hq => by cases hq), (fun q _ => hno q), (fun j oj _ hj => absurd hj (hno j)), ?_, ?_, (fun _ _ => rfl), (fun p _ hp => absurd hp (hno p.1))⟩ (fun b hb => Nat.lt_of_lt_of_le (hO b hb) hE.size) (Nat.le_trans hs hE.size) hL hR ?_
  · intro i hi hiQ hif _
    have hai := List.all_eq_true.1 hall i (List.mem_range.2 hi)
    rw [List.getElem?_eq_getElem hi] at hai
    simp only [Bool.and_eq_true, Bool.or_eq_true] at hai
    rcases hai.1.1.1.2 with (h | h) | h
    · exact absurd (memN_iff.1 h) hiQ
    · exact absurd (memN_iff.1 h) hif
    · exact memN_iff.1 h.1.1
  · intro x hxf hx
    rw [updL_other]
    intro p hp hpx
    have hm1 : some p.1 ∈ lt.map (dstAt l) := by rw [← hd]; exact List.mem_map.2 ⟨p, hp, rfl⟩
    obtain ⟨i, hi, hdi⟩ := List.mem_map.1 hm1
    have hil : i < l.length := by
      unfold dstAt at hdi
      rcases Nat.lt_or_ge i l.length with h | h
      · exact h
      · rw [List.getElem?_eq_none h] at hdi; cases hdi
    have hlq' := List.all_eq_true.1 hlq i hi
    simp only [Bool.and_eq_true, Bool.not_eq_true'] at hlq'
    refine hx i hil (fun h => ?_) (fun h => ?_) (hno i) (by rw [hdi, hpx])
    · rw [memN_iff.2 h] at hlq'; cases hlq'.1
    · rw [memN_iff.2 h] at hlq'; cases hlq'.2
  · unfold cnt
    refine Nat.le_trans (List.length_filter_le _ _) (by simp)
theorem RlF.op {lt r : List Nat} {q d : Nat} {O : List (Option Nat)} {E : Env} {op : Op} {ty : TypeId} {pos : String} {after : Array Edge} (ho : l.getD q noOper = { dst := some d, op := op, type := ty, pos := pos, after := after, guard := none })
    (h : ∀ w' V, Ext w w' → (∀ p ∈ fds, memN p.1 (depsOf (l.getD q noOper)) = true → Φ p.1 (V p.1) O w') → OpY P op ty (ev (setF V fds E)) w' fun v w'' => ∃ O', Step O O' w' w'' ∧ OB O' w'' ∧ s0 ≤ w''.heap.size ∧
      LateX P l (lt.filter fun i => !memN i (depsOf (l.getD q noOper))) (upd E d v) w'' ∧ RlF P l K fds Φ s0 (lt.filter fun i => !memN i (depsOf (l.getD q noOper))) r O' (upd E d v) w'') : RlF P l K fds Φ s0 lt (q :: r) O E w := by
  intro w' V hE hΦ
  have h' := h w' V hE hΦ
  rw [ho] at *
  exact GOp.op h'
theorem RlF.op0 {lt r : List Nat} {q : Nat} {O : List (Option Nat)} {E : Env} {op : Op} {ty : TypeId} {pos : String} {after : Array Edge} (ho : l.getD q noOper = { dst := none, op := op, type := ty, pos := pos, after := after, guard := none })
    (h : ∀ w' V, Ext w w' → (∀ p ∈ fds, memN p.1 (depsOf (l.getD q noOper)) = true → Φ p.1 (V p.1) O w') → OpY P op ty (ev (setF V fds E)) w' fun _ w'' => ∃ O', Step O O' w' w'' ∧ OB O' w'' ∧ s0 ≤ w''.heap.size ∧
      LateX P l (lt.filter fun i => !memN i (depsOf (l.getD q noOper))) E w'' ∧ RlF P l K fds Φ s0 (lt.filter fun i => !memN i (depsOf (l.getD q noOper))) r O' E w'') : RlF P l K fds Φ s0 lt (q :: r) O E w := by
  intro w' V hE hΦ
  have h' := h w' V hE hΦ
  rw [ho] at *
  exact GOp.op h'
theorem FloatP.nil {E : Env} : FloatP P l [] Φ s0 E := fun _ h => by cases h
theorem FloatP.cons {E : Env} {f d : Nat} {o : Oper} (ho : l[f]? = some o) (h : ∀ w1 O1, s0 ≤ w1.heap.size → OB O1 w1 → GOp P l o E w1 fun v w2 => Ext w1 w2 ∧ Φ f v O1 w2) (hr : FloatP P l fds Φ s0 E) : FloatP P l ((f, d) :: fds) Φ s0 E := fun p hp o' ho' w1 O1 hs hO => by
  rcases List.mem_cons.1 hp with rfl | hp
  · rw [ho] at ho'; cases ho'; exact h w1 O1 hs hO
  · exact hr p hp o' ho' w1 O1 hs hO
/-- a literal of integers -/
theorem OpY.litInts {ty : TypeId} {ρ : Operand → Value} {t el : TypeId} {k : IntKind} {n by' : Nat} {z : Value} {parts : List (Nat × Operand)} {ys : List Int} {O1 : List (Option Nat)} (hu : P.underlying t = some (.slice el)) (ti : TI P el 1 by' z) (hp : (parts.map fun p => (p.1, ρ p.2)) = numbered 0 (ys.map (Value.int k)))
    (hn : ys.length = n) (h0 : 0 < n) (hn1 : n ≤ 16777216) (hs : s0 ≤ w.heap.size) (hO : OB O1 w) : OpY P (.buildSlice t n parts.toArray) ty ρ w fun v w2 => Ext w w2 ∧ Rs (rInt k) (Hv s0 None O1 w2) v ys := by
  have hc : ∀ (ys : List Int), cellsAre 1 (ys.map (Value.int k)) (ys.map fun y => [Value.int k y]) := by
    intro ys
    induction ys with
    | nil => trivial
    | cons y ys ih => exact ⟨rfl, rfl, ih⟩
  refine OpY.buildSliceV hu ti (by omega) hp (by simpa using hn) (hc ys) (by omega) (Loc.begin0 w) fun b w' hL _ => ⟨hL.done, ?_⟩
  have hb : w.heap.size ≤ b := by
    rcases hL.fresh b List.mem_cons_self with h | h
    · cases h
    · exact h
  have hflat : (ys.map fun y => [Value.int k y]).flatten = ys.map (Value.int k) := by
    clear hp hn hL hc
    induction ys with
    | nil => rfl
    | cons y ys ih => simp only [List.map_cons, List.flatten_cons, ih]; rfl
  have hown := hL.at 0 rfl rfl
  rw [hflat] at hown
  have hr := row_rs (r := rInt k) (pre := []) (sp := []) (cs := ys.map (Value.int k)) (o := 0) (n := n) (cap := n) (own_at (H := Hv s0 None O1 w') (by simpa using hown) (fun q hq => vw_mk ⟨.inr (Nat.le_trans hs hb), fun hm => by have := hO b hm; omega⟩ hq)) Els.ofIntsZ rfl rfl hn.symm (by simp only [List.length_append, List.length_map, List.length_nil, hn]; exact (Nat.mul_one n).symm)
  exact hr
end
end Go.X

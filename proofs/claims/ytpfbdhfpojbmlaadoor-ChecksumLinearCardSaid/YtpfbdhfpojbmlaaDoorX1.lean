/-
  A walk over the model's code whose frame is a function from slots to values, and whose goal bears the list of what is still to be done. Plain theorems over any program.
-/
import Derived.StillTail
import Derived.Below
set_option linter.unusedSimpArgs false
set_option linter.unusedVariables false
namespace Go.X
open Go Go.RowKit

/-! ## Frames as functions -/
abbrev Env := Nat → Value
def upd (e : Env) (d : Nat) (v : Value) : Env := fun i => bif Nat.beq i d then v else e i
def updo (e : Env) : Option Nat → Value → Env
  | some d, v => upd e d v
  | none, _ => e
def ev (e : Env) : Operand → Value
  | .tmp t => e t
  | .const v => v
  | .global g => .pointer (some ⟨g, 0, none⟩)
  | .func f => .func (.func f) #[] #[]
def envOf (a : Act) : Env := fun i => a.tmps.getD i undef
def ofArgs (l : List Value) : Env := fun i => l.getD i undef

theorem upd_same (e : Env) (d : Nat) (v : Value) : upd e d v d = v := by simp [upd]
theorem upd_other (e : Env) {d i : Nat} (v : Value) (h : i ≠ d) : upd e d v i = e i := by
  unfold upd
  have : Nat.beq i d = false := by
    cases hb : Nat.beq i d
    · rfl
    · exact absurd (Nat.eq_of_beq_eq_true hb) h
  rw [this]; rfl

theorem ev_envOf (a : Act) : ev (envOf a) = a.eval := by
  funext x
  cases x <;> rfl

theorem envOf_put (a : Act) {n : Nat} (hn : a.tmps.size = n) {d : Nat} (hd : d < n) (v : Value) : envOf (a.put (some d) v) = upd (envOf a) d v := by
  funext i
  by_cases h : i = d
  · subst h
    rw [upd_same]
    simp [envOf, Act.put, hn, hd]
  · rw [upd_other _ _ h]
    simp [envOf, Act.put, Array.getElem?_setIfInBounds_ne (Ne.symm h)]

theorem envOf_puto (a : Act) {n : Nat} (hn : a.tmps.size = n) {d : Option Nat} (hd : ∀ k, d = some k → k < n) (v : Value) : envOf (a.put d v) = updo (envOf a) d v := by
  cases d with
  | none => rfl
  | some d => exact envOf_put a hn (hd d rfl) v

theorem put_size (a : Act) (d : Option Nat) (v : Value) : (a.put d v).tmps.size = a.tmps.size := by
  cases d <;> simp [Act.put]
theorem put_defers' (a : Act) (d : Option Nat) (v : Value) : (a.put d v).defers = a.defers := by
  cases d <;> simp [Act.put]

/-! ## One operation -/
def bareOp (op : Op) (ty : TypeId) : Oper := { dst := none, op := op, type := ty, pos := "", after := #[], guard := none }

def upon (P : Program) (R : Value → World → Prop) : Result Next → Prop
  | .ok (.value v) w' => R v w'
  | .ok .skip w' => R undef w'
  | .ok (.enter f args) w' => Calls P f args w' fun
      | .returned v, w'' => R v w''
      | _, _ => False
  | .ok (.row row args) w' => Rows P row args w' R
  | _ => False

/-- The operation 'op', carried out where the operands read as 'ρ' says, hands on a value and a world that meet R. -/
def OpY (P : Program) (op : Op) (ty : TypeId) (ρ : Operand → Value) (w : World) (R : Value → World → Prop) : Prop :=
  upon P R ((execOp ρ (bareOp op ty)).run P w)

theorem execOp_bare (ρ : Operand → Value) (o : Oper) : execOp ρ o = execOp ρ (bareOp o.op o.type) := by
  obtain ⟨dst, op, type, pos, after, guard⟩ := o
  rfl

theorem upon_mono {P : Program} {R R' : Value → World → Prop} (h : ∀ v w, R v w → R' v w) {r : Result Next} (hr : upon P R r) : upon P R' r := by
  cases r with
  | ok n w' =>
    cases n <;> simp only [upon] at hr ⊢ <;> first | exact h _ _ hr | exact Calls.mono hr (fun e w'' he => by cases e <;> first | exact h _ _ he | exact he) | exact Rows.mono hr (fun _ _ he => h _ _ he)
  | halt x w' => cases x <;> simp only [upon] at hr

theorem OpY.mono {P : Program} {op : Op} {ty : TypeId} {ρ : Operand → Value} {w : World} {R R' : Value → World → Prop} (h : OpY P op ty ρ w R) (hr : ∀ v w, R v w → R' v w) : OpY P op ty ρ w R' :=
  upon_mono hr h

theorem wp_of_OpY {P : Program} {o : Oper} {a : Act} {w : World} {K : Act → World → Prop} {Q : Exit → Act → World → Prop} {R : Value → World → Prop}
    (h : OpY P o.op o.type (ev (envOf a)) w R) (hk : ∀ v w', R v w' → K (a.put o.dst v) w') : o.wp P a w K Q := by
  unfold Oper.wp
  unfold OpY at h
  rw [execOp_bare, ← ev_envOf]
  generalize (execOp (ev (envOf a)) (bareOp o.op o.type)).run P w = r at *
  cases r with
  | ok n w' =>
    cases n <;> simp only [upon, Oper.upon] at h ⊢ <;>
      first
        | exact hk _ _ h
        | exact Calls.mono h (fun e w'' he => by cases e <;> first | exact hk _ _ he | exact he.elim)
        | exact Rows.mono h (fun _ _ he => hk _ _ he)
        | exact h.elim
  | halt x w' => cases x <;> simp only [upon] at h

/-! ## The list of what is to be done -/
inductive It where
  | code (c : Code)
  | blk (id : Nat)
  | scp
  | back (J : Env → World → Prop)

def Cwp (P : Program) (n : Nat) (c : Code) (Q : Exit → Env → World → Prop) (e : Env) (w : World) : Prop :=
  ∀ a : Act, a.tmps.size = n → a.defers = [] → envOf a = e → c.wp P (fun x a' w' => a'.tmps.size = n ∧ a'.defers = [] ∧ Q x (envOf a') w') a w

def Kwp (P : Program) (n : Nat) : List It → (Env → World → Prop) → Exit → Env → World → Prop
  | [], Q, x => fun e w => (match x with | .normal | .ret => Q e w | _ => False)
  | .code c :: k, Q, x => (match x with | .normal => Cwp P n c (Kwp P n k Q) | x => Kwp P n k Q x)
  | .blk id :: k, Q, x => (match x with | .exit j => (if j = id then Kwp P n k Q .normal else Kwp P n k Q (.exit j)) | x => Kwp P n k Q x)
  | .scp :: k, Q, x => Kwp P n k Q x
  | .back J :: k, Q, x => (match x with | .normal => J | x => Kwp P n k Q x)

def Swp (P : Program) (n : Nat) (k : List It) (Q : Env → World → Prop) (e : Env) (w : World) : Prop := Kwp P n k Q .normal e w

section
variable {P : Program} {n : Nat} {k : List It} {Q : Env → World → Prop} {e : Env} {w : World}

theorem Swp.nil (h : Q e w) : Swp P n [] Q e w := h
theorem Swp.skip (h : Swp P n k Q e w) : Swp P n (.code .skip :: k) Q e w :=
  fun _ h1 h2 h3 => wp_skip ⟨h1, h2, h3 ▸ h⟩
theorem Swp.label {l : Nat} (h : Swp P n k Q e w) : Swp P n (.code (.label l) :: k) Q e w :=
  fun _ h1 h2 h3 => wp_label ⟨h1, h2, h3 ▸ h⟩
theorem Swp.pop_blk {id : Nat} (h : Swp P n k Q e w) : Swp P n (.blk id :: k) Q e w := h
theorem Swp.pop_scp (h : Swp P n k Q e w) : Swp P n (.scp :: k) Q e w := h
theorem Swp.pop_back {J : Env → World → Prop} (h : J e w) : Swp P n (.back J :: k) Q e w := h

theorem Swp.seq {a b : Code} (h : Swp P n (.code a :: .code b :: k) Q e w) : Swp P n (.code (.seq a b) :: k) Q e w := by
  intro ac h1 h2 h3
  refine wp_seq (wp_mono (h ac h1 h2 h3) ?_)
  rintro x a' w' ⟨g1, g2, g3⟩
  cases x with
  | normal => exact g3 a' g1 g2 rfl
  | _ => exact ⟨g1, g2, g3⟩

theorem Swp.block {id : Nat} {c : Code} (h : Swp P n (.code c :: .blk id :: k) Q e w) : Swp P n (.code (.block id c) :: k) Q e w := by
  intro ac h1 h2 h3
  refine wp_block (wp_mono (h ac h1 h2 h3) ?_)
  rintro x a' w' ⟨g1, g2, g3⟩
  cases x with
  | exit j =>
    simp only [Exit.inBlock]
    simp only [Kwp] at g3
    by_cases hj : j = id
    · rw [if_pos hj] at g3 ⊢; exact ⟨g1, g2, g3⟩
    · rw [if_neg hj] at g3 ⊢; exact ⟨g1, g2, g3⟩
  | _ => exact ⟨g1, g2, g3⟩

theorem Swp.scope {c : Code} (hw : ∀ (Q' : Exit → Act → World → Prop) (a : Act), c.wp P Q' a w → (Code.scope c).wp P Q' a w) (h : Swp P n (.code c :: .scp :: k) Q e w) : Swp P n (.code (.scope c) :: k) Q e w := by
  intro ac h1 h2 h3
  exact hw _ _ (wp_mono (h ac h1 h2 h3) fun x a' w' g => g)

/-- An exit: what is left behind the block of that number. -/
def exitIt (id : Nat) : List It → Option (List It)
  | .blk j :: k => if id = j then some k else exitIt id k
  | _ :: k => exitIt id k
  | [] => none

theorem Kwp_exit {id : Nat} : ∀ {k k' : List It}, exitIt id k = some k' → ∀ {e w}, Swp P n k' Q e w → Kwp P n k Q (.exit id) e w := by
  intro k
  induction k with
  | nil => intro k' h; simp [exitIt] at h
  | cons x k ih =>
    intro k' h e w hs
    cases x with
    | blk j =>
      simp only [exitIt] at h
      simp only [Kwp]
      by_cases hj : id = j
      · rw [if_pos hj] at h ⊢; cases h; exact hs
      · rw [if_neg hj] at h ⊢; exact ih h hs
    | code c => exact ih h hs
    | scp => exact ih h hs
    | back J => exact ih h hs

theorem Swp.exit {id : Nat} {k' : List It} (hx : exitIt id k = some k') (h : Swp P n k' Q e w) : Swp P n (.code (.exit id) :: k) Q e w :=
  fun _ h1 h2 h3 => wp_exit ⟨h1, h2, by subst h3; exact Kwp_exit hx h⟩

theorem Kwp_ret : ∀ {k : List It} {e w}, Q e w → Kwp P n k Q .ret e w := by
  intro k
  induction k with
  | nil => intro e w h; exact h
  | cons x k ih => intro e w h; cases x <;> exact ih h

theorem Swp.ret (h : Q e w) : Swp P n (.code .ret :: k) Q e w :=
  fun _ h1 h2 h3 => wp_ret ⟨h1, h2, by subst h3; exact Kwp_ret h⟩

theorem Swp.cond {c : Operand} {x y : Code} (b : Bool) (hc : ev e c = .bool b) (ht : b = true → Swp P n (.code x :: k) Q e w) (hf : b = false → Swp P n (.code y :: k) Q e w) :
    Swp P n (.code (.cond c x y) :: k) Q e w := by
  intro a h1 h2 h3
  refine wp_cond_split (t := b) (by rw [← ev_envOf, h3]; exact hc) (fun h => ht h a h1 h2 h3) (fun h => hf h a h1 h2 h3)

theorem Swp.cond_d {c : Operand} {x y : Code} (p : Prop) [Decidable p] (hc : ev e c = .bool (decide p)) (ht : p → Swp P n (.code x :: k) Q e w) (hf : ¬ p → Swp P n (.code y :: k) Q e w) :
    Swp P n (.code (.cond c x y) :: k) Q e w :=
  Swp.cond _ hc (fun h => ht (of_decide_eq_true h)) (fun h => hf (of_decide_eq_false h))
theorem Swp.cond_t {c : Operand} {x y : Code} {b : Bool} (hc : ev e c = .bool b) (hb : b = true) (ht : Swp P n (.code x :: k) Q e w) : Swp P n (.code (.cond c x y) :: k) Q e w :=
  Swp.cond _ hc (fun _ => ht) (fun h => by rw [hb] at h; cases h)
theorem Swp.cond_f {c : Operand} {x y : Code} {b : Bool} (hc : ev e c = .bool b) (hb : b = false) (hf : Swp P n (.code y :: k) Q e w) : Swp P n (.code (.cond c x y) :: k) Q e w :=
  Swp.cond _ hc (fun h => by rw [hb] at h; cases h) (fun _ => hf)

/-- What is known in front of the rest may be forgotten, or the frame be written anew. -/
theorem Swp.conv {e' : Env} (he : e = e') (h : Swp P n k Q e' w) : Swp P n k Q e w := he ▸ h

theorem Kwp_mono {Q' : Env → World → Prop} (hq : ∀ e w, Q e w → Q' e w) : ∀ {k : List It} {x : Exit} {e w}, Kwp P n k Q x e w → Kwp P n k Q' x e w := by
  intro k
  induction k with
  | nil => intro x e w h; cases x <;> first | exact hq _ _ h | exact h
  | cons y k ih =>
    intro x e w h
    cases y with
    | code c =>
      cases x with
      | normal => exact fun a h1 h2 h3 => wp_mono (h a h1 h2 h3) fun x a' w' g => ⟨g.1, g.2.1, ih g.2.2⟩
      | _ => exact ih h
    | blk j =>
      cases x with
      | exit i =>
        simp only [Kwp] at h ⊢
        by_cases hj : i = j
        · rw [if_pos hj] at h ⊢; exact ih h
        · rw [if_neg hj] at h ⊢; exact ih h
      | _ => exact ih h
    | scp => exact ih h
    | back J => cases x <;> first | exact h | exact ih h

theorem Swp.mono {Q' : Env → World → Prop} (h : Swp P n k Q e w) (hq : ∀ e w, Q e w → Q' e w) : Swp P n k Q' e w := Kwp_mono hq h

/-- A loop: I holds at each round's head; a round comes back to I with a smaller measure, or leaves. -/
theorem Swp.loop {c : Code} (I : Env → World → Prop) (μ : Env → World → Nat) (h₀ : I e w)
    (round : ∀ e w, I e w → Swp P n (.code c :: .back (fun e' w' => I e' w' ∧ μ e' w' < μ e w) :: k) Q e w) : Swp P n (.code (.loop c) :: k) Q e w := by
  intro a h1 h2 h3
  refine wp_loop (I := fun a w => a.tmps.size = n ∧ a.defers = [] ∧ I (envOf a) w) (μ := fun a w => μ (envOf a) w) ⟨h1, h2, h3 ▸ h₀⟩ ?_
  rintro a w ⟨g1, g2, g3⟩
  refine wp_mono (round _ _ g3 a g1 g2 rfl) ?_
  rintro x a' w' ⟨r1, r2, r3⟩
  cases x with
  | normal => exact ⟨⟨r1, r2, r3.1⟩, r3.2⟩
  | _ => exact ⟨r1, r2, r3⟩

/-! ## A region in the order of the text -/
/-- What slot the j-th operation of the region writes. -/
def dstAt (l : List Oper) (j : Nat) : Option Nat := (l[j]?).bind (·.dst)
def gy (l : List Oper) (e : Env) (j : Nat) (b : Bool) : Bool :=
  match dstAt l j with
  | some d => (match e d with | .bool b' => b' == b | _ => false)
  | none => false
def wantedE (l : List Oper) (o : Oper) (e : Env) : Bool :=
  match o.guard with
  | none => true
  | some (j, b) => gy l e j b
def dstsOk (n : Nat) : List Oper → Bool
  | [] => true
  | o :: r => (match o.dst with | some d => Nat.blt d n | none => true) && dstsOk n r

def Rl (P : Program) (all : List Oper) : List Oper → (Env → World → Prop) → Env → World → Prop
  | [], K => K
  | o :: r, K => fun e w => match wantedE all o e with
    | true => OpY P o.op o.type (ev e) w fun v w' => Rl P all r K (updo e o.dst v) w'
    | false => Rl P all r K (updo e o.dst undef) w

theorem wanted_eq {l : List Oper} {a : Act} (hok : ∀ o, o ∈ l → ∀ d, o.dst = some d → d < a.tmps.size) (o : Oper) : Region.wanted o (yielded l.toArray a.tmps) = wantedE l o (envOf a) := by
  unfold Region.wanted wantedE
  cases hg : o.guard with
  | none => rfl
  | some p =>
    obtain ⟨j, b⟩ := p
    simp only [yielded, gy, dstAt, List.getElem?_toArray]
    cases hd : (l[j]?).bind (·.dst) with
    | none => simp
    | some d =>
      have hlt : d < a.tmps.size := by
        cases ho : l[j]? with
        | none => rw [ho] at hd; cases hd
        | some oj => rw [ho] at hd; exact hok oj (List.mem_of_getElem? ho) d hd
      simp only [Option.bind_some, envOf, Array.getD_eq_getD_getElem?, Array.getElem?_eq_getElem hlt, Option.getD_some]
      generalize a.tmps[d] = v
      cases v <;> simp

theorem dstsOk_spec {l : List Oper} (h : dstsOk n l = true) : ∀ o, o ∈ l → ∀ d, o.dst = some d → d < n := by
  induction l with
  | nil => intro o ho; cases ho
  | cons x r ih =>
    simp only [dstsOk, Bool.and_eq_true] at h
    intro o ho d hd
    cases ho with
    | head => have h1 := h.1; rw [hd] at h1; exact (by simpa using h1)
    | tail _ hm => exact ih h.2 o hm d hd

theorem wpList_of_Rl {all : List Oper} (hall : ∀ o, o ∈ all → ∀ d, o.dst = some d → d < n) {K : Env → World → Prop} {Q' : Exit → Act → World → Prop}
    (hK : ∀ a w, a.tmps.size = n → a.defers = [] → K (envOf a) w → Q' .normal a w) :
    ∀ (l : List Oper), (∀ o, o ∈ l → o ∈ all) → ∀ (a : Act) (w : World), a.tmps.size = n → a.defers = [] → Rl P all l K (envOf a) w → wpList P all.toArray Q' l a w := by
  intro l
  induction l with
  | nil => intro _ a w h1 h2 h; exact hK a w h1 h2 h
  | cons o r ih =>
    intro hsub a w h1 h2 h
    have hin := hsub o List.mem_cons_self
    have hd : ∀ d, o.dst = some d → d < n := hall o hin
    have hall' : ∀ o, o ∈ all → ∀ d, o.dst = some d → d < a.tmps.size := by rw [h1]; exact hall
    refine wpList_step fun K' hK' => ?_
    rw [wanted_eq hall' o]
    simp only [Rl] at h
    cases hw : wantedE all o (envOf a) with
    | true =>
      rw [hw] at h
      rw [if_pos rfl]
      refine wp_of_OpY h fun v w' hv => hK' _ _ ?_
      refine ih (fun o ho => hsub o (List.mem_cons_of_mem _ ho)) _ _ (by rw [put_size]; exact h1) (by rw [put_defers']; exact h2) ?_
      rw [envOf_puto a h1 hd]
      exact hv
    | false =>
      rw [hw] at h
      rw [if_neg (by simp)]
      refine hK' _ _ ?_
      refine ih (fun o ho => hsub o (List.mem_cons_of_mem _ ho)) _ _ (by rw [put_size]; exact h1) (by rw [put_defers']; exact h2) ?_
      rw [envOf_puto a h1 hd]
      exact h

theorem Swp.region {id : Nat} {l : List Oper} (hok : dstsOk n l = true) (h : Rl P l l (Swp P n k Q) e w) : Swp P n (.code (.region id l.toArray false) :: k) Q e w := by
  intro a h1 h2 h3
  subst h3
  refine wp_region_lit (wpList_of_Rl (dstsOk_spec hok) (K := Swp P n k Q) ?_ l (fun _ h => h) a w h1 h2 h)
  exact fun a' w' g1 g2 g3 => ⟨g1, g2, g3⟩

variable {all r : List Oper} {K : Env → World → Prop}
theorem Rl.nil (h : K e w) : Rl P all [] K e w := h
theorem Rl.op {d : Nat} {op : Op} {ty : TypeId} {pos : String} {after : Array Edge} (h : OpY P op ty (ev e) w fun v w' => Rl P all r K (upd e d v) w') :
    Rl P all ({ dst := some d, op := op, type := ty, pos := pos, after := after, guard := none } :: r) K e w := h
theorem Rl.op0 {op : Op} {ty : TypeId} {pos : String} {after : Array Edge} (h : OpY P op ty (ev e) w fun _ w' => Rl P all r K e w') :
    Rl P all ({ dst := none, op := op, type := ty, pos := pos, after := after, guard := none } :: r) K e w := h
theorem Rl.yes {d j dj : Nat} {b b' : Bool} {op : Op} {ty : TypeId} {pos : String} {after : Array Edge} (hd : dstAt all j = some dj) (hv : e dj = .bool b') (hb : b' = b)
    (h : OpY P op ty (ev e) w fun v w' => Rl P all r K (upd e d v) w') : Rl P all ({ dst := some d, op := op, type := ty, pos := pos, after := after, guard := some (j, b) } :: r) K e w := by
  have : wantedE all { dst := some d, op := op, type := ty, pos := pos, after := after, guard := some (j, b) } e = true := by simp [wantedE, gy, hd, hv, hb]
  simp only [Rl, this]; exact h
theorem Rl.no {d j dj : Nat} {b b' : Bool} {op : Op} {ty : TypeId} {pos : String} {after : Array Edge} (hd : dstAt all j = some dj) (hv : e dj = .bool b') (hb : b' = !b)
    (h : Rl P all r K (upd e d undef) w) : Rl P all ({ dst := some d, op := op, type := ty, pos := pos, after := after, guard := some (j, b) } :: r) K e w := by
  have : wantedE all { dst := some d, op := op, type := ty, pos := pos, after := after, guard := some (j, b) } e = false := by simp [wantedE, gy, hd, hv, hb]
  simp only [Rl, this]; exact h
/-- Under a guard whose own operation was not carried out. -/
theorem Rl.no_undef {d j dj : Nat} {b : Bool} {op : Op} {ty : TypeId} {pos : String} {after : Array Edge} (hd : dstAt all j = some dj) (hv : e dj = undef)
    (h : Rl P all r K (upd e d undef) w) : Rl P all ({ dst := some d, op := op, type := ty, pos := pos, after := after, guard := some (j, b) } :: r) K e w := by
  have : wantedE all { dst := some d, op := op, type := ty, pos := pos, after := after, guard := some (j, b) } e = false := by simp [wantedE, gy, hd, hv, undef]
  simp only [Rl, this]; exact h
end

/-! ## A function -/
def resVal (e : Env) : List ResultVar → List Value → Prop
  | [], [] => True
  | .tmp t :: r, v :: vs => e t = v ∧ resVal e r vs
  | _, _ => False

theorem calls_of_Swp {P : Program} {f : FuncId} {fn : Func} {c : Code} {l : List Value} {w : World} {R : Ending → World → Prop}
    (hf : P.funcs[f]? = some fn) (hb : fn.body = some c) (hl : l.length ≤ fn.ntmps)
    (h : Swp P fn.ntmps [.code c] (fun e w' => ∀ tmps : Array Value, (∀ i, tmps.getD i undef = e i) → ∃ v, (results fn tmps).run P w' = .ok v w' ∧ R (.returned v) w') (ofArgs l) w) :
    Calls P f l.toArray w R := by
  refine calls_of_wp hf hb ?_
  refine wp_mono (h { tmps := l.toArray ++ Array.replicate (fn.ntmps - l.toArray.size) undef, defers := [] } ?_ rfl ?_) ?_
  · simp; omega
  · funext i
    simp only [envOf, ofArgs, Array.getD_eq_getD_getElem?, List.getD_eq_getElem?_getD]
    by_cases hi : i < l.length
    · rw [Array.getElem?_append_left (by simpa using hi)]; simp
    · rw [Array.getElem?_append_right (by simpa using hi), List.getElem?_eq_none (by omega)]
      by_cases hj : i - l.toArray.size < fn.ntmps - l.toArray.size
      · rw [Array.getElem?_eq_getElem (by simpa using hj)]; simp
      · rw [Array.getElem?_eq_none (by simpa using hj)]
  · rintro x a w' ⟨h1, h2, h3⟩
    cases x <;> first | exact h3.elim | skip
    all_goals
      obtain ⟨v, hv, hR⟩ := h3 a.tmps (fun _ => rfl)
      exact ⟨h2, v, hv, hR⟩
end Go.X

/- Plain theorems of the library of this seat. -/
import Derived.StillTail
import Derived.Below
import Derived.WalkKit
import Derived.Laws.AppendOwn
import Derived.Laws.MakeOwn
import Derived.Laws.BytesArg
import Derived.Laws.IdiomStrings
import Derived.Carry
import Derived.ChangeSame
import Derived.ChangeSlices
import Derived.OpenShut
import Derived.ProofKit
import Derived.Deep.DeepHandedRow
import Derived.Lib.LaidTab
import Derived.Lib.LaidU8
set_option linter.unusedSimpArgs false
set_option linter.unusedVariables false
namespace Go.X
open Go Go.RowKit
abbrev Env := Nat → Value
def upd (e : Env) (d : Nat) (v : Value) : Env := fun i => bif Nat.beq i d then v else e i
def updo (e : Env) : Option Nat → Value → Env
 | some d, v => upd e d v
 | none, _ => e
def ev (e : Env) : Operand → Value
 | .tmp t => e t
 | .const v => v
 | .global g => .pointer (some ⟨g, 0, none⟩)
 | .func f => .func (.func f) #[] #[]
def envOf (a : Act) : Env := fun i => a.tmps.getD i undef
def ofArgs (l : List Value) : Env := fun i => l.getD i undef
theorem upd_same (e : Env) (d : Nat) (v : Value) : upd e d v d = v := by simp [upd]
theorem upd_other (e : Env) {d i : Nat} (v : Value) (h : i ≠ d) : upd e d v i = e i := by
 unfold upd
 have : Nat.beq i d = false := by
  cases hb : Nat.beq i d
  · rfl
  · exact absurd (Nat.eq_of_beq_eq_true hb) h
 rw [this]; rfl
theorem ev_envOf (a : Act) : ev (envOf a) = a.eval := by
 funext x
 cases x <;> rfl
theorem envOf_put (a : Act) {n : Nat} (hn : a.tmps.size = n) {d : Nat} (hd : d < n) (v : Value) : envOf (a.put (some d) v) = upd (envOf a) d v := by
 funext i
 by_cases h : i = d
 · subst h
   rw [upd_same]
   simp [envOf, Act.put, hn, hd]
 · rw [upd_other _ _ h]
   simp [envOf, Act.put, Array.getElem?_setIfInBounds_ne (Ne.symm h)]
theorem envOf_puto (a : Act) {n : Nat} (hn : a.tmps.size = n) {d : Option Nat} (hd : ∀ k, d = some k → k < n) (v : Value) : envOf (a.put d v) = updo (envOf a) d v := by
 cases d with
 | none => rfl
 | some d => exact envOf_put a hn (hd d rfl) v
theorem put_size (a : Act) (d : Option Nat) (v : Value) : (a.put d v).tmps.size = a.tmps.size := by
 cases d <;> simp [Act.put]
theorem put_defers' (a : Act) (d : Option Nat) (v : Value) : (a.put d v).defers = a.defers := by
 cases d <;> simp [Act.put]
def bareOp (op : Op) (ty : TypeId) : Oper := { dst := none, op := op, type := ty, pos := "", after := #[], guard := none }
def upon (P : Program) (R : Value → World → Prop) : Result Next → Prop
  | .ok (.value v) w' => R v w'
  | .ok .skip w' => R undef w'
  | .ok (.enter f args) w' => Calls P f args w' fun
      | .returned v, w'' => R v w''
      | _, _ => False
  | .ok (.row row args) w' => Rows P row args w' R
  | _ => False
def OpY (P : Program) (op : Op) (ty : TypeId) (ρ : Operand → Value) (w : World) (R : Value → World → Prop) : Prop :=
 upon P R ((execOp ρ (bareOp op ty)).run P w)
theorem execOp_bare (ρ : Operand → Value) (o : Oper) : execOp ρ o = execOp ρ (bareOp o.op o.type) := by
 obtain ⟨dst, op, type, pos, after, guard⟩ := o
 rfl
theorem upon_mono {P : Program} {R R' : Value → World → Prop} (h : ∀ v w, R v w → R' v w) {r : Result Next} (hr : upon P R r) : upon P R' r := by
 cases r with
 | ok n w' =>
  cases n <;> simp only [upon] at hr ⊢ <;> first | exact h _ _ hr | exact Calls.mono hr (fun e w'' he => by cases e <;> first | exact h _ _ he | exact he) | exact Rows.mono hr (fun _ _ he => h _ _ he)
 | halt x w' => cases x <;> simp only [upon] at hr
theorem OpY.mono {P : Program} {op : Op} {ty : TypeId} {ρ : Operand → Value} {w : World} {R R' : Value → World → Prop} (h : OpY P op ty ρ w R) (hr : ∀ v w, R v w → R' v w) : OpY P op ty ρ w R' :=
 upon_mono hr h
theorem wp_of_OpY {P : Program} {o : Oper} {a : Act} {w : World} {K : Act → World → Prop} {Q : Exit → Act → World → Prop} {R : Value → World → Prop}
 (h : OpY P o.op o.type (ev (envOf a)) w R) (hk : ∀ v w', R v w' → K (a.put o.dst v) w') : o.wp P a w K Q := by
 unfold Oper.wp
 unfold OpY at h
 rw [execOp_bare, ← ev_envOf]
 generalize (execOp (ev (envOf a)) (bareOp o.op o.type)).run P w = r at *
 cases r with
 | ok n w' =>
  cases n <;> simp only [upon, Oper.upon] at h ⊢ <;>
   first
    | exact hk _ _ h
    | exact Calls.mono h (fun e w'' he => by cases e <;> first | exact hk _ _ he | exact he.elim)
    | exact Rows.mono h (fun _ _ he => hk _ _ he)
    | exact h.elim
 | halt x w' => cases x <;> simp only [upon] at h
inductive It where
 | code (c : Code)
 | blk (id : Nat)
 | scp
 | back (J : Env → World → Prop)
def Cwp (P : Program) (n : Nat) (c : Code) (Q : Exit → Env → World → Prop) (e : Env) (w : World) : Prop :=
 ∀ a : Act, a.tmps.size = n → a.defers = [] → envOf a = e → c.wp P (fun x a' w' => a'.tmps.size = n ∧ a'.defers = [] ∧ Q x (envOf a') w') a w
def Kwp (P : Program) (n : Nat) : List It → (Env → World → Prop) → Exit → Env → World → Prop
 | [], Q, x => fun e w => (match x with | .normal | .ret => Q e w | _ => False)
 | .code c :: k, Q, x => (match x with | .normal => Cwp P n c (Kwp P n k Q) | x => Kwp P n k Q x)
 | .blk id :: k, Q, x => (match x with | .exit j => (if j = id then Kwp P n k Q .normal else Kwp P n k Q (.exit j)) | x => Kwp P n k Q x)
 | .scp :: k, Q, x => Kwp P n k Q x
 | .back J :: k, Q, x => (match x with | .normal => J | x => Kwp P n k Q x)
def Swp (P : Program) (n : Nat) (k : List It) (Q : Env → World → Prop) (e : Env) (w : World) : Prop := Kwp P n k Q .normal e w
section
variable {P : Program} {n : Nat} {k : List It} {Q : Env → World → Prop} {e : Env} {w : World}
theorem Swp.nil (h : Q e w) : Swp P n [] Q e w := h
theorem Swp.skip (h : Swp P n k Q e w) : Swp P n (.code .skip :: k) Q e w :=
 fun _ h1 h2 h3 => wp_skip ⟨h1, h2, h3 ▸ h⟩
theorem Swp.pop_blk {id : Nat} (h : Swp P n k Q e w) : Swp P n (.blk id :: k) Q e w := h
theorem Swp.pop_back {J : Env → World → Prop} (h : J e w) : Swp P n (.back J :: k) Q e w := h
theorem Swp.seq {a b : Code} (h : Swp P n (.code a :: .code b :: k) Q e w) : Swp P n (.code (.seq a b) :: k) Q e w := by
 intro ac h1 h2 h3
 refine wp_seq (wp_mono (h ac h1 h2 h3) ?_)
 rintro x a' w' ⟨g1, g2, g3⟩
 cases x with
 | normal => exact g3 a' g1 g2 rfl
 | _ => exact ⟨g1, g2, g3⟩
theorem Swp.block {id : Nat} {c : Code} (h : Swp P n (.code c :: .blk id :: k) Q e w) : Swp P n (.code (.block id c) :: k) Q e w := by
 intro ac h1 h2 h3
 refine wp_block (wp_mono (h ac h1 h2 h3) ?_)
 rintro x a' w' ⟨g1, g2, g3⟩
 cases x with
 | exit j =>
  simp only [Exit.inBlock]
  simp only [Kwp] at g3
  by_cases hj : j = id
  · rw [if_pos hj] at g3 ⊢; exact ⟨g1, g2, g3⟩
  · rw [if_neg hj] at g3 ⊢; exact ⟨g1, g2, g3⟩
 | _ => exact ⟨g1, g2, g3⟩
def exitIt (id : Nat) : List It → Option (List It)
 | .blk j :: k => if id = j then some k else exitIt id k
 | _ :: k => exitIt id k
 | [] => none
theorem Kwp_exit {id : Nat} : ∀ {k k' : List It}, exitIt id k = some k' → ∀ {e w}, Swp P n k' Q e w → Kwp P n k Q (.exit id) e w := by
 intro k
 induction k with
 | nil => intro k' h; simp [exitIt] at h
 | cons x k ih =>
  intro k' h e w hs
  cases x with
  | blk j =>
   simp only [exitIt] at h
   simp only [Kwp]
   by_cases hj : id = j
   · rw [if_pos hj] at h ⊢; cases h; exact hs
   · rw [if_neg hj] at h ⊢; exact ih h hs
  | code c => exact ih h hs
  | scp => exact ih h hs
  | back J => exact ih h hs
theorem Swp.exit {id : Nat} {k' : List It} (hx : exitIt id k = some k') (h : Swp P n k' Q e w) : Swp P n (.code (.exit id) :: k) Q e w :=
 fun _ h1 h2 h3 => wp_exit ⟨h1, h2, by subst h3; exact Kwp_exit hx h⟩
theorem Kwp_ret : ∀ {k : List It} {e w}, Q e w → Kwp P n k Q .ret e w := by
 intro k
 induction k with
 | nil => intro e w h; exact h
 | cons x k ih => intro e w h; cases x <;> exact ih h
theorem Swp.ret (h : Q e w) : Swp P n (.code .ret :: k) Q e w :=
 fun _ h1 h2 h3 => wp_ret ⟨h1, h2, by subst h3; exact Kwp_ret h⟩
theorem Swp.cond {c : Operand} {x y : Code} (b : Bool) (hc : ev e c = .bool b) (ht : b = true → Swp P n (.code x :: k) Q e w) (hf : b = false → Swp P n (.code y :: k) Q e w) :
 Swp P n (.code (.cond c x y) :: k) Q e w := by
 intro a h1 h2 h3
 refine wp_cond_split (t := b) (by rw [← ev_envOf, h3]; exact hc) (fun h => ht h a h1 h2 h3) (fun h => hf h a h1 h2 h3)
theorem Swp.cond_d {c : Operand} {x y : Code} (p : Prop) [Decidable p] (hc : ev e c = .bool (decide p)) (ht : p → Swp P n (.code x :: k) Q e w) (hf : ¬ p → Swp P n (.code y :: k) Q e w) :
 Swp P n (.code (.cond c x y) :: k) Q e w :=
 Swp.cond _ hc (fun h => ht (of_decide_eq_true h)) (fun h => hf (of_decide_eq_false h))
theorem Swp.conv {e' : Env} (he : e = e') (h : Swp P n k Q e' w) : Swp P n k Q e w := he ▸ h
theorem Kwp_mono {Q' : Env → World → Prop} (hq : ∀ e w, Q e w → Q' e w) : ∀ {k : List It} {x : Exit} {e w}, Kwp P n k Q x e w → Kwp P n k Q' x e w := by
 intro k
 induction k with
 | nil => intro x e w h; cases x <;> first | exact hq _ _ h | exact h
 | cons y k ih =>
  intro x e w h
  cases y with
  | code c =>
   cases x with
   | normal => exact fun a h1 h2 h3 => wp_mono (h a h1 h2 h3) fun x a' w' g => ⟨g.1, g.2.1, ih g.2.2⟩
   | _ => exact ih h
  | blk j =>
   cases x with
   | exit i =>
    simp only [Kwp] at h ⊢
    by_cases hj : i = j
    · rw [if_pos hj] at h ⊢; exact ih h
    · rw [if_neg hj] at h ⊢; exact ih h
   | _ => exact ih h
  | scp => exact ih h
  | back J => cases x <;> first | exact h | exact ih h
theorem Swp.mono {Q' : Env → World → Prop} (h : Swp P n k Q e w) (hq : ∀ e w, Q e w → Q' e w) : Swp P n k Q' e w := Kwp_mono hq h
theorem Swp.loop {c : Code} (I : Env → World → Prop) (μ : Env → World → Nat) (h₀ : I e w)
 (round : ∀ e w, I e w → Swp P n (.code c :: .back (fun e' w' => I e' w' ∧ μ e' w' < μ e w) :: k) Q e w) : Swp P n (.code (.loop c) :: k) Q e w := by
 intro a h1 h2 h3
 refine wp_loop (I := fun a w => a.tmps.size = n ∧ a.defers = [] ∧ I (envOf a) w) (μ := fun a w => μ (envOf a) w) ⟨h1, h2, h3 ▸ h₀⟩ ?_
 rintro a w ⟨g1, g2, g3⟩
 refine wp_mono (round _ _ g3 a g1 g2 rfl) ?_
 rintro x a' w' ⟨r1, r2, r3⟩
 cases x with
 | normal => exact ⟨⟨r1, r2, r3.1⟩, r3.2⟩
 | _ => exact ⟨r1, r2, r3⟩
def dstAt (l : List Oper) (j : Nat) : Option Nat := (l[j]?).bind (·.dst)
def gy (l : List Oper) (e : Env) (j : Nat) (b : Bool) : Bool :=
 match dstAt l j with
 | some d => (match e d with | .bool b' => b' == b | _ => false)
 | none => false
def wantedE (l : List Oper) (o : Oper) (e : Env) : Bool :=
 match o.guard with
 | none => true
 | some (j, b) => gy l e j b
def dstsOk (n : Nat) : List Oper → Bool
 | [] => true
 | o :: r => (match o.dst with | some d => Nat.blt d n | none => true) && dstsOk n r
def Rl (P : Program) (all : List Oper) : List Oper → (Env → World → Prop) → Env → World → Prop
 | [], K => K
 | o :: r, K => fun e w => match wantedE all o e with
  | true => OpY P o.op o.type (ev e) w fun v w' => Rl P all r K (updo e o.dst v) w'
  | false => Rl P all r K (updo e o.dst undef) w
theorem wanted_eq {l : List Oper} {a : Act} (hok : ∀ o, o ∈ l → ∀ d, o.dst = some d → d < a.tmps.size) (o : Oper) : Region.wanted o (yielded l.toArray a.tmps) = wantedE l o (envOf a) := by
 unfold Region.wanted wantedE
 cases hg : o.guard with
 | none => rfl
 | some p =>
  obtain ⟨j, b⟩ := p
  simp only [yielded, gy, dstAt, List.getElem?_toArray]
  cases hd : (l[j]?).bind (·.dst) with
  | none => simp
  | some d =>
   have hlt : d < a.tmps.size := by
    cases ho : l[j]? with
    | none => rw [ho] at hd; cases hd
    | some oj => rw [ho] at hd; exact hok oj (List.mem_of_getElem? ho) d hd
   simp only [Option.bind_some, envOf, Array.getD_eq_getD_getElem?, Array.getElem?_eq_getElem hlt, Option.getD_some]
   generalize a.tmps[d] = v
   cases v <;> simp
theorem dstsOk_spec {l : List Oper} (h : dstsOk n l = true) : ∀ o, o ∈ l → ∀ d, o.dst = some d → d < n := by
 induction l with
 | nil => intro o ho; cases ho
 | cons x r ih =>
  simp only [dstsOk, Bool.and_eq_true] at h
  intro o ho d hd
  cases ho with
  | head => have h1 := h.1; rw [hd] at h1; exact (by simpa using h1)
  | tail _ hm => exact ih h.2 o hm d hd
theorem wpList_of_Rl {all : List Oper} (hall : ∀ o, o ∈ all → ∀ d, o.dst = some d → d < n) {K : Env → World → Prop} {Q' : Exit → Act → World → Prop}
 (hK : ∀ a w, a.tmps.size = n → a.defers = [] → K (envOf a) w → Q' .normal a w) :
 ∀ (l : List Oper), (∀ o, o ∈ l → o ∈ all) → ∀ (a : Act) (w : World), a.tmps.size = n → a.defers = [] → Rl P all l K (envOf a) w → wpList P all.toArray Q' l a w := by
 intro l
 induction l with
 | nil => intro _ a w h1 h2 h; exact hK a w h1 h2 h
 | cons o r ih =>
  intro hsub a w h1 h2 h
  have hin := hsub o List.mem_cons_self
  have hd : ∀ d, o.dst = some d → d < n := hall o hin
  have hall' : ∀ o, o ∈ all → ∀ d, o.dst = some d → d < a.tmps.size := by rw [h1]; exact hall
  refine wpList_step fun K' hK' => ?_
  rw [wanted_eq hall' o]
  simp only [Rl] at h
  cases hw : wantedE all o (envOf a) with
  | true =>
   rw [hw] at h
   rw [if_pos rfl]
   refine wp_of_OpY h fun v w' hv => hK' _ _ ?_
   refine ih (fun o ho => hsub o (List.mem_cons_of_mem _ ho)) _ _ (by rw [put_size]; exact h1) (by rw [put_defers']; exact h2) ?_
   rw [envOf_puto a h1 hd]
   exact hv
  | false =>
   rw [hw] at h
   rw [if_neg (by simp)]
   refine hK' _ _ ?_
   refine ih (fun o ho => hsub o (List.mem_cons_of_mem _ ho)) _ _ (by rw [put_size]; exact h1) (by rw [put_defers']; exact h2) ?_
   rw [envOf_puto a h1 hd]
   exact h
theorem Swp.region {id : Nat} {l : List Oper} (hok : dstsOk n l = true) (h : Rl P l l (Swp P n k Q) e w) : Swp P n (.code (.region id l.toArray false) :: k) Q e w := by
 intro a h1 h2 h3
 subst h3
 refine wp_region_lit (wpList_of_Rl (dstsOk_spec hok) (K := Swp P n k Q) ?_ l (fun _ h => h) a w h1 h2 h)
 exact fun a' w' g1 g2 g3 => ⟨g1, g2, g3⟩
variable {all r : List Oper} {K : Env → World → Prop}
theorem Rl.nil (h : K e w) : Rl P all [] K e w := h
theorem Rl.op {d : Nat} {op : Op} {ty : TypeId} {pos : String} {after : Array Edge} (h : OpY P op ty (ev e) w fun v w' => Rl P all r K (upd e d v) w') :
 Rl P all ({ dst := some d, op := op, type := ty, pos := pos, after := after, guard := none } :: r) K e w := h
theorem Rl.op0 {op : Op} {ty : TypeId} {pos : String} {after : Array Edge} (h : OpY P op ty (ev e) w fun _ w' => Rl P all r K e w') :
 Rl P all ({ dst := none, op := op, type := ty, pos := pos, after := after, guard := none } :: r) K e w := h
theorem Rl.yes {d j dj : Nat} {b b' : Bool} {op : Op} {ty : TypeId} {pos : String} {after : Array Edge} (hd : dstAt all j = some dj) (hv : e dj = .bool b') (hb : b' = b)
 (h : OpY P op ty (ev e) w fun v w' => Rl P all r K (upd e d v) w') : Rl P all ({ dst := some d, op := op, type := ty, pos := pos, after := after, guard := some (j, b) } :: r) K e w := by
 have : wantedE all { dst := some d, op := op, type := ty, pos := pos, after := after, guard := some (j, b) } e = true := by simp [wantedE, gy, hd, hv, hb]
 simp only [Rl, this]; exact h
theorem Rl.no {d j dj : Nat} {b b' : Bool} {op : Op} {ty : TypeId} {pos : String} {after : Array Edge} (hd : dstAt all j = some dj) (hv : e dj = .bool b') (hb : b' = !b)
 (h : Rl P all r K (upd e d undef) w) : Rl P all ({ dst := some d, op := op, type := ty, pos := pos, after := after, guard := some (j, b) } :: r) K e w := by
 have : wantedE all { dst := some d, op := op, type := ty, pos := pos, after := after, guard := some (j, b) } e = false := by simp [wantedE, gy, hd, hv, hb]
 simp only [Rl, this]; exact h
theorem Rl.no_undef {d j dj : Nat} {b : Bool} {op : Op} {ty : TypeId} {pos : String} {after : Array Edge} (hd : dstAt all j = some dj) (hv : e dj = undef)
 (h : Rl P all r K (upd e d undef) w) : Rl P all ({ dst := some d, op := op, type := ty, pos := pos, after := after, guard := some (j, b) } :: r) K e w := by
 have : wantedE all { dst := some d, op := op, type := ty, pos := pos, after := after, guard := some (j, b) } e = false := by simp [wantedE, gy, hd, hv, undef]
 simp only [Rl, this]; exact h
end
theorem calls_of_Swp {P : Program} {f : FuncId} {fn : Func} {c : Code} {l : List Value} {w : World} {R : Ending → World → Prop}
 (hf : P.funcs[f]? = some fn) (hb : fn.body = some c) (hl : l.length ≤ fn.ntmps)
 (h : Swp P fn.ntmps [.code c] (fun e w' => ∀ tmps : Array Value, (∀ i, tmps.getD i undef = e i) → ∃ v, (results fn tmps).run P w' = .ok v w' ∧ R (.returned v) w') (ofArgs l) w) :
 Calls P f l.toArray w R := by
 refine calls_of_wp hf hb ?_
 refine wp_mono (h { tmps := l.toArray ++ Array.replicate (fn.ntmps - l.toArray.size) undef, defers := [] } ?_ rfl ?_) ?_
 · simp; omega
 · funext i
   simp only [envOf, ofArgs, Array.getD_eq_getD_getElem?, List.getD_eq_getElem?_getD]
   by_cases hi : i < l.length
   · rw [Array.getElem?_append_left (by simpa using hi)]; simp
   · rw [Array.getElem?_append_right (by simpa using hi), List.getElem?_eq_none (by omega)]
     by_cases hj : i - l.toArray.size < fn.ntmps - l.toArray.size
     · rw [Array.getElem?_eq_getElem (by simpa using hj)]; simp
     · rw [Array.getElem?_eq_none (by simpa using hj)]
 · rintro x a w' ⟨h1, h2, h3⟩
   cases x <;> first | exact h3.elim | skip
   all_goals
    obtain ⟨v, hv, hR⟩ := h3 a.tmps (fun _ => rfl)
    exact ⟨h2, v, hv, hR⟩
end Go.X
set_option linter.unusedSimpArgs false
set_option linter.unusedVariables false
namespace Go.X
open Go Go.RowKit
abbrev Hp := Nat → Option Obj
def Le (H H' : Hp) : Prop := ∀ b o, H b = some o → H' b = some o
theorem Le.refl (H : Hp) : Le H H := fun _ _ h => h
theorem Le.trans {H H' H'' : Hp} (h : Le H H') (h' : Le H' H'') : Le H H'' := fun b o hb => h' b o (h b o hb)
def view (A : List (Option Nat)) (w : World) : Hp := fun b => if some b ∈ A then none else w.heap[b]?
theorem view_some {A : List (Option Nat)} {w : World} {b : Nat} {o : Obj} (h : view A w b = some o) : w.heap[b]? = some o := by
 unfold view at h; split at h
 · cases h
 · exact h
theorem view_out {A : List (Option Nat)} {w : World} {b : Nat} {o : Obj} (h : view A w b = some o) : some b ∉ A := by
 unfold view at h; split at h
 · cases h
 · assumption
theorem view_mk {A : List (Option Nat)} {w : World} {b : Nat} {o : Obj} (h : w.heap[b]? = some o) (hn : some b ∉ A) : view A w b = some o := by
 unfold view; rw [if_neg hn]; exact h
def cellH (H : Hp) (b o : Nat) : Option Value :=
 match H b with
 | some (.cells c _ _) => c[o]?
 | _ => none
theorem cellH_le {H H' : Hp} (h : Le H H') {b o : Nat} {v : Value} (hc : cellH H b o = some v) : cellH H' b o = some v := by
 unfold cellH at *
 cases hb : H b with
 | none => rw [hb] at hc; cases hc
 | some x => rw [hb] at hc; rw [h b x hb]; exact hc
theorem cellH_view {A : List (Option Nat)} {w : World} {b o : Nat} {v : Value} (h : cellH (view A w) b o = some v) : w.cell? ⟨b, o, none⟩ = some v := by
 unfold cellH at h
 cases hb : view A w b with
 | none => rw [hb] at h; cases h
 | some x =>
  rw [hb] at h
  unfold World.cell?
  rw [view_some hb]
  cases x <;> first | exact h | cases h
def At (H : Hp) (b o : Nat) (vs : List Value) : Prop := ∀ i, i < vs.length → cellH H b (o + i) = vs[i]?
theorem At.mono {H H' : Hp} (h : Le H H') {b o : Nat} {vs : List Value} (ha : At H b o vs) : At H' b o vs := by
 intro i hi
 have := ha i hi
 rw [List.getElem?_eq_getElem hi] at this ⊢
 exact cellH_le h this
theorem At.nil {H : Hp} {b o : Nat} : At H b o [] := fun i hi => by simp at hi
theorem At.get {H : Hp} {b o : Nat} {vs : List Value} (ha : At H b o vs) (i : Nat) {v : Value} (hv : vs[i]? = some v) : cellH H b (o + i) = some v := by
 have hi : i < vs.length := by
  rcases Nat.lt_or_ge i vs.length with h | h
  · exact h
  · rw [List.getElem?_eq_none h] at hv; cases hv
 rw [ha i hi, hv]
theorem At.part {H : Hp} {b o : Nat} {vs us : List Value} (ha : At H b o vs) (k : Nat) (h : (vs.drop k).take us.length = us) : At H b (o + k) us := by
 intro i hi
 have h1 : us[i]? = vs[k + i]? := by
  conv => lhs; rw [← h]
  rw [List.getElem?_take, if_pos hi, List.getElem?_drop]
 have h2 : k + i < vs.length := by
  rcases Nat.lt_or_ge (k + i) vs.length with h3 | h3
  · exact h3
  · rw [List.getElem?_eq_none h3, List.getElem?_eq_getElem hi] at h1; cases h1
 rw [h1, ← ha (k + i) h2, Nat.add_assoc]
theorem At.append {H : Hp} {b o : Nat} {vs us : List Value} (ha : At H b o vs) (hb : At H b (o + vs.length) us) : At H b o (vs ++ us) := by
 intro i hi
 by_cases h : i < vs.length
 · rw [List.getElem?_append_left h]; exact ha i h
 · rw [List.getElem?_append_right (by omega)]
   have := hb (i - vs.length) (by simp at hi; omega)
   rw [← this]; congr 1; omega
def Sl {α : Type} (sz : Nat) (R : Hp → List Value → α → Prop) (H : Hp) (v : Value) (xs : List α) : Prop :=
 ((∃ oa, v = .slice oa 0 0) ∧ xs = []) ∨
 ∃ b o cap, v = .slice (some ⟨b, o, none⟩) xs.length cap ∧ xs.length ≤ cap ∧ ∀ i x, xs[i]? = some x → ∃ vs, vs.length = sz ∧ At H b (o + i * sz) vs ∧ R H vs x
theorem Sl.mono {α : Type} {sz : Nat} {R : Hp → List Value → α → Prop} (hR : ∀ H H' vs x, Le H H' → R H vs x → R H' vs x) {H H' : Hp} (h : Le H H') {v : Value} {xs : List α} (hs : Sl sz R H v xs) : Sl sz R H' v xs := by
 rcases hs with hs | ⟨b, o, cap, hv, hc, hx⟩
 · exact .inl hs
 · refine .inr ⟨b, o, cap, hv, hc, fun i x hi => ?_⟩
   obtain ⟨vs, h1, h2, h3⟩ := hx i x hi
   exact ⟨vs, h1, h2.mono h, hR _ _ _ _ h h3⟩
theorem Sl.map {α β : Type} {sz : Nat} {R : Hp → List Value → α → Prop} {R' : Hp → List Value → β → Prop} {H : Hp} {v : Value} {xs : List α} (f : α → β) (hR : ∀ vs x, x ∈ xs → R H vs x → R' H vs (f x)) (hs : Sl sz R H v xs) : Sl sz R' H v (xs.map f) := by
 rcases hs with ⟨h1, h2⟩ | ⟨b, o, cap, hv, hc, hx⟩
 · exact .inl ⟨h1, by simp [h2]⟩
 · refine .inr ⟨b, o, cap, by simpa using hv, by simpa using hc, fun i y hi => ?_⟩
   rw [List.getElem?_map] at hi
   cases hxi : xs[i]? with
   | none => rw [hxi] at hi; cases hi
   | some x =>
    rw [hxi] at hi
    cases hi
    obtain ⟨vs, h1, h2, h3⟩ := hx i x hxi
    exact ⟨vs, h1, h2, hR _ _ (List.mem_of_getElem? hxi) h3⟩
def Ints (k : IntKind) (H : Hp) (v : Value) (xs : List Nat) : Prop := Sl 1 (fun _ vs x => vs = [.int k (x : Nat)]) H v xs
theorem Ints.mono {k : IntKind} {H H' : Hp} {v : Value} {xs : List Nat} (hs : Ints k H v xs) (h : Le H H') : Ints k H' v xs := Sl.mono (fun _ _ _ _ _ h => h) h hs
def Ext (w w' : World) : Prop := Below w.heap.size w w'
theorem Ext.refl (w : World) : Ext w w := Below.refl _ _
theorem Ext.trans {a b c : World} (h : Ext a b) (h' : Ext b c) : Ext a c := Below.trans h (h'.mono h.size)
theorem Ext.le {w w' : World} (h : Ext w w') (A : List (Option Nat)) : Le (view A w) (view A w') := by
  intro b o hb
  have h1 := view_some hb
  refine view_mk ?_ (view_out hb)
  rw [h.block b (by rcases Nat.lt_or_ge b w.heap.size with h2 | h2; · exact h2
                    · rw [Array.getElem?_eq_none h2] at h1; cases h1)]
  exact h1
theorem Ext.drawn (w : World) (n : Nat) : Ext w { w with drawn := n } := ⟨rfl, rfl, rfl, Nat.le_refl _, fun _ _ => rfl⟩
inductive Cont where
 | cells (cs : List Value)
 | map (es : List (Value × Value))
def OwnC (w : World) : Option Nat → Cont → Prop
 | none, .cells cs => cs = []
 | none, .map _ => False
 | some b, .cells cs => ∃ t lo hi, w.heap[b]? = some (.cells cs.toArray t (lo, hi)) ∧ lo ≤ hi ∧ ∀ i, i < cs.length → ¬ (lo ≤ i ∧ i < hi)
 | some b, .map es => ∃ (ents : Array MapEntry) (clock : Nat), w.heap[b]? = some (.map ents clock) ∧ ents.toList.map (fun x => (x.key, x.val)) = es ∧ (∀ x ∈ ents.toList, x.born < clock) ∧ (ents.toList.map (·.born)).Nodup
def Owns (w : World) : List (Option Nat) → List Cont → Prop
 | [], [] => True
 | b :: O, c :: C => OwnC w b c ∧ Owns w O C
 | _, _ => False
def Bok (B : List (Option Nat)) (w : World) : Prop := ∀ b, some b ∈ B → b < w.heap.size
def Distinct : List (Option Nat) → Prop
 | [] => True
 | none :: O => Distinct O
 | some b :: O => some b ∉ O ∧ Distinct O
structure Loc (X B : List (Option Nat)) (w0 w : World) (O : List (Option Nat)) (C : List Cont) : Prop where
 os : w.os = w0.os
 tape : w.tape = w0.tape
 output : w.output = w0.output
 size : w0.heap.size ≤ w.heap.size
 keep : ∀ k, k < w0.heap.size → some k ∉ X → w.heap[k]? = w0.heap[k]?
 own : Owns w O C
 fresh : ∀ b, some b ∈ O → some b ∈ X ∨ w0.heap.size ≤ b
 dist : Distinct O
 apart : ∀ b, some b ∈ X → some b ∉ B
 bok : Bok B w0
theorem OwnC.lt {w : World} {b : Nat} {c : Cont} (h : OwnC w (some b) c) : b < w.heap.size := by
 have : ∃ o, w.heap[b]? = some o := by
  cases c with
  | cells cs => obtain ⟨t, lo, hi, h1, _⟩ := h; exact ⟨_, h1⟩
  | map es => obtain ⟨en, cl, h1, _⟩ := h; exact ⟨_, h1⟩
 obtain ⟨o, ho⟩ := this
 rcases Nat.lt_or_ge b w.heap.size with h | h
 · exact h
 · rw [Array.getElem?_eq_none h] at ho; cases ho
theorem OwnC.same {w w' : World} {b : Option Nat} {c : Cont} (h : OwnC w b c) (hs : ∀ k, b = some k → w'.heap[k]? = w.heap[k]?) : OwnC w' b c := by
 cases b with
 | none => cases c <;> exact h
 | some b =>
  cases c with
  | cells cs => obtain ⟨t, lo, hi, h1, h2⟩ := h; exact ⟨t, lo, hi, by rw [hs b rfl]; exact h1, h2⟩
  | map es => obtain ⟨en, cl, h1, h2⟩ := h; exact ⟨en, cl, by rw [hs b rfl]; exact h1, h2⟩
theorem Owns.same {w w' : World} : ∀ {O : List (Option Nat)} {C : List Cont}, Owns w O C → (∀ k, some k ∈ O → w'.heap[k]? = w.heap[k]?) → Owns w' O C
 | [], [], h, _ => h
 | b :: O, c :: C, h, hs => ⟨h.1.same fun k hk => hs k (by rw [hk]; exact List.mem_cons_self), h.2.same fun k hk => hs k (List.mem_cons_of_mem _ hk)⟩
 | [], _ :: _, h, _ => h.elim
 | _ :: _, [], h, _ => h.elim
theorem Owns.lt {w : World} : ∀ {O : List (Option Nat)} {C : List Cont}, Owns w O C → ∀ k, some k ∈ O → k < w.heap.size
 | [], [], _, _, hk => by cases hk
 | b :: O, c :: C, h, k, hk => by
  cases hk with
  | head => exact h.1.lt
  | tail _ hm => exact h.2.lt k hm
 | [], _ :: _, h, _, _ => h.elim
 | _ :: _, [], h, _, _ => h.elim
theorem Owns.at {w : World} : ∀ {O : List (Option Nat)} {C : List Cont}, Owns w O C → ∀ (i : Nat) {b c}, O[i]? = some b → C[i]? = some c → OwnC w b c
 | [], [], _, i, b, c, hb, _ => by simp at hb
 | b :: O, c :: C, h, 0, b', c', hb, hc => by
  simp at hb hc; subst hb; subst hc; exact h.1
 | b :: O, c :: C, h, i + 1, b', c', hb, hc => h.2.at i (by simpa using hb) (by simpa using hc)
 | [], _ :: _, h, _, _, _, _, _ => h.elim
 | _ :: _, [], h, _, _, _, _, _ => h.elim
section
variable {X B : List (Option Nat)} {w0 w w' : World} {O O' : List (Option Nat)} {C C' : List Cont}
theorem Loc.ext (hL : Loc X B w0 w O C) (h : Ext w w') : Loc X B w0 w' O C :=
 ⟨h.os.trans hL.os, h.tape.trans hL.tape, h.output.trans hL.output, Nat.le_trans hL.size h.size,
  fun k hk hx => (h.block k (Nat.lt_of_lt_of_le hk hL.size)).trans (hL.keep k hk hx),
  hL.own.same fun k hk => h.block k (hL.own.lt k hk), hL.fresh, hL.dist, hL.apart, hL.bok⟩
theorem Loc.at (hL : Loc X B w0 w O C) (i : Nat) {b : Option Nat} {c : Cont} (hb : O[i]? = some b) (hc : C[i]? = some c) : OwnC w b c := hL.own.at i hb hc
structure Step (O O' : List (Option Nat)) (w w' : World) : Prop where
 same : ∀ k, k < w.heap.size → some k ∉ O → w'.heap[k]? = w.heap[k]?
 grow : ∀ b, some b ∈ O' → some b ∈ O ∨ w.heap.size ≤ b
theorem Step.le (h : Step O O' w w') (B : List (Option Nat)) : Le (view (O ++ B) w) (view (O' ++ B) w') := by
 intro b o hb
 have h1 := view_some hb
 have h2 := view_out hb
 have hlt : b < w.heap.size := by
  rcases Nat.lt_or_ge b w.heap.size with h | h
  · exact h
  · rw [Array.getElem?_eq_none h] at h1; cases h1
 rw [List.mem_append, not_or] at h2
 refine view_mk ((h.same b hlt h2.1).trans h1) ?_
 rw [List.mem_append, not_or]
 refine ⟨fun h3 => ?_, h2.2⟩
 rcases h.grow b h3 with h4 | h4
 · exact h2.1 h4
 · omega
theorem Step.ext (h : Ext w w') : Step O O w w' := ⟨fun k hk _ => h.block k hk, fun _ h => .inl h⟩
theorem Step.refl : Step O O w w := ⟨fun _ _ _ => rfl, fun _ h => .inl h⟩
theorem Loc.alloc (hL : Loc X B w0 w O C) {o : Obj} {c : Cont} (hc : OwnC (w.alloc o) (some w.heap.size) c) :
 Loc X B w0 (w.alloc o) (some w.heap.size :: O) (c :: C) ∧ Step O (some w.heap.size :: O) w (w.alloc o) := by
 have hsame : ∀ k, k < w.heap.size → (w.alloc o).heap[k]? = w.heap[k]? := fun k hk => Below.heap_alloc w o k hk
 have hsz : w.heap.size ≤ (w.alloc o).heap.size := by simp
 refine ⟨⟨hL.os, hL.tape, hL.output, Nat.le_trans hL.size hsz, fun k hk hx => (hsame k (Nat.lt_of_lt_of_le hk hL.size)).trans (hL.keep k hk hx),
  ⟨hc, hL.own.same fun k hk => hsame k (hL.own.lt k hk)⟩, ?_, ⟨fun h => ?_, hL.dist⟩, hL.apart, hL.bok⟩, ⟨fun k hk _ => hsame k hk, ?_⟩⟩
 · intro b hb
   cases hb with
   | head => exact .inr hL.size
   | tail _ hm => exact hL.fresh b hm
 · exact absurd (hL.own.lt _ h) (Nat.lt_irrefl _)
 · intro b hb
   cases hb with
   | head => exact .inr (Nat.le_refl _)
   | tail _ hm => exact .inl hm
theorem Owns.set {w w' : World} : ∀ {O : List (Option Nat)} {C : List Cont}, Owns w O C → Distinct O → ∀ (i : Nat) {b : Nat} {c' : Cont}, O[i]? = some (some b) → OwnC w' (some b) c' →
 (∀ k, k < w.heap.size → k ≠ b → w'.heap[k]? = w.heap[k]?) → Owns w' O (C.set i c')
 | [], [], _, _, i, b, c', hb, _, _ => by simp at hb
 | x :: O, c :: C, h, hd, 0, b, c', hb, hc, hs => by
  simp at hb; subst hb
  refine ⟨hc, h.2.same fun k hk => hs k (h.2.lt k hk) ?_⟩
  rintro rfl
  exact hd.1 hk
 | x :: O, c :: C, h, hd, i + 1, b, c', hb, hc, hs => by
  have hb' : O[i]? = some (some b) := by simpa using hb
  have hd' : Distinct O := by cases x with | none => exact hd | some y => exact hd.2
  refine ⟨h.1.same fun k hk => hs k (by subst hk; exact h.1.lt) ?_, h.2.set hd' i hb' hc hs⟩
  subst hk
  rintro rfl
  exact hd.1 (List.mem_of_getElem? hb')
 | [], _ :: _, h, _, _, _, _, _, _, _ => h.elim
 | _ :: _, [], h, _, _, _, _, _, _, _ => h.elim
theorem Loc.put (hL : Loc X B w0 w O C) (i : Nat) {b : Nat} {c' : Cont} (hb : O[i]? = some (some b)) (hc : OwnC w' (some b) c')
 (hs : ∀ k, k ≠ b → w'.heap[k]? = w.heap[k]?) (hsz : w'.heap.size = w.heap.size) (h1 : w'.os = w.os) (h2 : w'.tape = w.tape) (h3 : w'.output = w.output) :
 Loc X B w0 w' O (C.set i c') ∧ Step O O w w' := by
 have hin : some b ∈ O := List.mem_of_getElem? hb
 refine ⟨⟨h1.trans hL.os, h2.trans hL.tape, h3.trans hL.output, by rw [hsz]; exact hL.size, fun k hk hx => ?_, hL.own.set hL.dist i hb hc fun k _ hk => hs k hk, hL.fresh, hL.dist, hL.apart, hL.bok⟩, ⟨fun k hk hn => hs k ?_, fun _ h => .inl h⟩⟩
 · rw [hs k]
   · exact hL.keep k hk hx
   · rintro rfl
     rcases hL.fresh _ hin with h | h
     · exact hx h
     · omega
 · rintro rfl; exact hn hin
theorem heap_setCell_same {w : World} {b o : Nat} {v : Value} {c : Array Value} {t : TypeId} {fz : Nat × Nat} (h : w.heap[b]? = some (.cells c t fz)) :
 (w.setCell ⟨b, o, none⟩ v).heap[b]? = some (.cells (c.setIfInBounds o v) t fz) := by
 simp [World.setCell, Array.getElem?_modify, h]
theorem Loc.setCell (hL : Loc X B w0 w O C) (i : Nat) {b o : Nat} {cs : List Value} (v : Value) (hb : O[i]? = some (some b)) (hc : C[i]? = some (.cells cs)) :
 Loc X B w0 (w.setCell ⟨b, o, none⟩ v) O (C.set i (.cells (cs.set o v))) ∧ Step O O w (w.setCell ⟨b, o, none⟩ v) := by
 obtain ⟨t, lo, hi, h1, h2⟩ := hL.at i hb hc
 refine hL.put i hb ⟨t, lo, hi, ?_, h2.1, fun j hj => h2.2 j (by simpa using hj)⟩ (fun k hk => Below.heap_setCell _ _ _ _ hk) (by simp [World.setCell]) rfl rfl rfl
 rw [heap_setCell_same h1]
 simp
theorem Distinct.sub {O : List (Option Nat)} : ∀ (i : Nat), Distinct O → Distinct (O.eraseIdx i) := by
 induction O with
 | nil => intro i h; simpa using h
 | cons x O ih =>
  intro i h
  cases i with
  | zero => cases x with | none => exact h | some y => exact h.2
  | succ i =>
   simp only [List.eraseIdx_cons_succ]
   cases x with
   | none => exact ih i h
   | some y => exact ⟨fun hm => h.1 (List.mem_of_mem_eraseIdx hm), ih i h.2⟩
theorem Owns.drop {w : World} : ∀ {O : List (Option Nat)} {C : List Cont} (i : Nat), Owns w O C → Owns w (O.eraseIdx i) (C.eraseIdx i)
 | [], [], _, h => h
 | _ :: _, _ :: _, 0, h => h.2
 | _ :: _, _ :: _, i + 1, h => ⟨h.1, h.2.drop i⟩
 | [], _ :: _, _, h => h.elim
 | _ :: _, [], _, h => h.elim
theorem Loc.drop (hL : Loc X B w0 w O C) (i : Nat) : Loc X B w0 w (O.eraseIdx i) (C.eraseIdx i) ∧ Step O (O.eraseIdx i) w w :=
 ⟨⟨hL.os, hL.tape, hL.output, hL.size, hL.keep, hL.own.drop i, fun b hb => hL.fresh b (List.mem_of_mem_eraseIdx hb), hL.dist.sub i, hL.apart, hL.bok⟩,
  ⟨fun _ _ _ => rfl, fun _ hb => .inl (List.mem_of_mem_eraseIdx hb)⟩⟩
theorem Distinct.not_mem_erase {O : List (Option Nat)} : ∀ {i : Nat} {b : Nat}, Distinct O → O[i]? = some (some b) → some b ∉ O.eraseIdx i := by
 induction O with
 | nil => intro i b _ h; simp at h
 | cons x O ih =>
  intro i b hd h
  cases i with
  | zero => simp at h; subst h; exact hd.1
  | succ i =>
   have h' : O[i]? = some (some b) := by simpa using h
   simp only [List.eraseIdx_cons_succ]
   intro hm
   cases hm with
   | head => exact hd.1 (List.mem_of_getElem? h')
   | tail _ hm =>
    cases x with
    | none => exact ih (i := i) hd h' hm
    | some y => exact ih (i := i) hd.2 h' hm
theorem Loc.done (hL : Loc [] B w0 w O C) : Ext w0 w :=
 ⟨hL.os, hL.tape, hL.output, hL.size, fun k hk => hL.keep k hk (by simp)⟩
end
def Ret (w : World) (Φ : Value → World → Prop) (e : Ending) (w' : World) : Prop := ∃ v, e = .returned v ∧ Ext w w' ∧ Φ v w'
end Go.X
set_option linter.unusedSimpArgs false
set_option linter.unusedVariables false
namespace Go.X
open Go Go.RowKit
theorem wq_i64 {z z' : Int} (h : z = z') (h1 : -9223372036854775808 ≤ z') (h2 : z' ≤ 9223372036854775807) : IntKind.i64.wrap z = z' := by
 subst h; simp [IntKind.wrap, IntKind.signed, IntKind.bits]; split <;> omega
section
variable {P : Program} {ty : TypeId} {ρ : Operand → Value} {w : World} {R : Value → World → Prop}
theorem OpY.move {x : Operand} {v : Value} (hx : ρ x = v) (h : R v w) : OpY P (.move x) ty ρ w R := by subst hx; exact h
theorem OpY.assign {x : Operand} {v : Value} (hx : ρ x = v) (h : R v w) : OpY P (.assign x) ty ρ w R := by subst hx; exact h
theorem OpY.pick {c a b : Operand} {t : Bool} {v : Value} (hc : ρ c = .bool t) (hv : (if t = true then ρ a else ρ b) = v) (h : R v w) : OpY P (.pick c a b) ty ρ w R := by
 subst hv
 cases t <;> simp [OpY, bareOp, execOp, hc, asBool, upon] at h ⊢ <;> exact h
theorem OpY.pick_t {c a b : Operand} {t : Bool} {v : Value} (hc : ρ c = .bool t) (ht : t = true) (hv : ρ a = v) (h : R v w) : OpY P (.pick c a b) ty ρ w R :=
 OpY.pick hc (by rw [if_pos ht]; exact hv) h
theorem OpY.pick_f {c a b : Operand} {t : Bool} {v : Value} (hc : ρ c = .bool t) (ht : t = false) (hv : ρ b = v) (h : R v w) : OpY P (.pick c a b) ty ρ w R :=
 OpY.pick hc (by rw [if_neg (by rw [ht]; simp)]; exact hv) h
theorem OpY.binInt {op : BinOp} {t u : TypeId} {a b : Operand} {k k' : IntKind} {x y : Int} {v : Value} (hx : ρ a = .int k x) (hy : ρ b = .int k' y) (hr : (binOp op t (.int k x) (.int k' y)).run P w = .ok v w) (h : R v w) :
 OpY P (.binOp op t a b u) ty ρ w R := by
 have hg : (eqGuard op t a b (.int k x) (.int k' y)).run P w = .ok () w := by
  unfold eqGuard; cases op <;> simp
 simp only [OpY, bareOp, execOp, hx, hy]
 simp [hg, hr, upon]
 exact h
theorem OpY.add {t u : TypeId} {a b : Operand} {k : IntKind} {x y z : Int} (hx : ρ a = .int k x) (hy : ρ b = .int k y) (hz : k.wrap (x + y) = z) (h : R (.int k z) w) : OpY P (.binOp .add t a b u) ty ρ w R :=
 OpY.binInt hx hy (by subst hz; simp [binOp, Op.intArith]) h
theorem OpY.sub {t u : TypeId} {a b : Operand} {k : IntKind} {x y z : Int} (hx : ρ a = .int k x) (hy : ρ b = .int k y) (hz : k.wrap (x - y) = z) (h : R (.int k z) w) : OpY P (.binOp .sub t a b u) ty ρ w R :=
 OpY.binInt hx hy (by subst hz; simp [binOp, Op.intArith]) h
theorem OpY.mul {t u : TypeId} {a b : Operand} {k : IntKind} {x y z : Int} (hx : ρ a = .int k x) (hy : ρ b = .int k y) (hz : k.wrap (x * y) = z) (h : R (.int k z) w) : OpY P (.binOp .mul t a b u) ty ρ w R :=
 OpY.binInt hx hy (by subst hz; simp [binOp, Op.intArith]) h
theorem OpY.quo {t u : TypeId} {a b : Operand} {k : IntKind} {x y : Nat} (hx : ρ a = .int k (x : Nat)) (hy : ρ b = .int k (y : Nat)) (h0 : 0 < y) (hz : k.wrap ((x : Nat) : Int) = ((x : Nat) : Int)) (h : R (.int k ((x / y : Nat) : Int)) w) : OpY P (.binOp .quo t a b u) ty ρ w R := by
 have hy0 : ¬ ((y : Int) = 0) := by omega
 have hle : x / y ≤ x := Nat.div_le_self _ _
 have ht : (Int.tdiv (x : Int) (y : Int)) = ((x / y : Nat) : Int) := rfl
 have hw : k.wrap (((x / y : Nat)) : Int) = ((x / y : Nat) : Int) := by
  generalize x / y = q at hle
  cases k <;> simp [IntKind.wrap, IntKind.signed, IntKind.bits] at hz ⊢ <;> omega
 refine OpY.binInt hx hy ?_ h
 simp only [binOp, Op.intDiv, hy0, if_false, ne_eq, not_true_eq_false]
 rw [ht, hw]; rfl
theorem OpY.rem {t u : TypeId} {a b : Operand} {k : IntKind} {x y : Nat} (hx : ρ a = .int k (x : Nat)) (hy : ρ b = .int k (y : Nat)) (h0 : 0 < y) (h : R (.int k ((x % y : Nat) : Int)) w) : OpY P (.binOp .rem t a b u) ty ρ w R := by
 have hy0 : ¬ ((y : Int) = 0) := by omega
 have ht : (Int.tmod (x : Int) (y : Int)) = ((x % y : Nat) : Int) := rfl
 refine OpY.binInt hx hy ?_ h
 simp only [binOp, Op.intDiv, hy0, if_false, ne_eq, not_true_eq_false]
 rw [ht]; rfl
theorem OpY.quoI {t u : TypeId} {a b : Operand} {k : IntKind} {x y z : Int} (hx : ρ a = .int k x) (hy : ρ b = .int k y) (h0 : ¬ y = 0) (hz : k.wrap (x.tdiv y) = z) (h : R (.int k z) w) : OpY P (.binOp .quo t a b u) ty ρ w R := by
 refine OpY.binInt hx hy ?_ h
 subst hz
 simp only [binOp, Op.intDiv, h0, if_false, ne_eq, not_true_eq_false]; rfl
theorem OpY.remI {t u : TypeId} {a b : Operand} {k : IntKind} {x y : Int} (hx : ρ a = .int k x) (hy : ρ b = .int k y) (h0 : ¬ y = 0) (h : R (.int k (x.tmod y)) w) : OpY P (.binOp .rem t a b u) ty ρ w R := by
 refine OpY.binInt hx hy ?_ h
 simp only [binOp, Op.intDiv, h0, if_false, ne_eq, not_true_eq_false]; rfl
theorem ofInt_nat (n m : Nat) : BitVec.ofInt n (m : Int) = BitVec.ofNat n m := by
 apply BitVec.eq_of_toNat_eq; simp [BitVec.toNat_ofInt]
theorem bits_wrap {k : IntKind} {z x y : Nat} (hx : k.wrap (x : Int) = (x : Int)) (hy : k.wrap (y : Int) = (y : Int)) (hz : z < 2 ^ k.bits) (hs : k.signed = true → z < 2 ^ (k.bits - 1)) : k.wrap (z : Int) = (z : Int) := by
 cases k <;> simp [IntKind.wrap, IntKind.signed, IntKind.bits] at hz hs ⊢ <;> omega
theorem nat_of_wrap {k : IntKind} {x : Nat} (hx : k.wrap (x : Int) = (x : Int)) : x < 2 ^ k.bits ∧ (k.signed = true → x < 2 ^ (k.bits - 1)) := by
 cases k <;> simp [IntKind.wrap, IntKind.signed, IntKind.bits] at hx ⊢ <;> omega
theorem OpY.or {t u : TypeId} {a b : Operand} {k : IntKind} {x y : Nat} (hx : ρ a = .int k (x : Nat)) (hy : ρ b = .int k (y : Nat)) (kx : k.wrap ((x : Nat) : Int) = ((x : Nat) : Int)) (ky : k.wrap ((y : Nat) : Int) = ((y : Nat) : Int))
 (h : R (.int k ((x ||| y : Nat) : Int)) w) : OpY P (.binOp .or t a b u) ty ρ w R := by
 refine OpY.binInt hx hy ?_ h
 obtain ⟨h1, h2⟩ := nat_of_wrap kx
 obtain ⟨h3, h4⟩ := nat_of_wrap ky
 have hw := bits_wrap (z := x ||| y) kx ky (Nat.or_lt_two_pow h1 h3) (fun hs => Nat.or_lt_two_pow (h2 hs) (h4 hs))
 simp only [binOp, Op.intBits, ne_eq, not_true_eq_false, if_false, ofInt_nat]
 rw [show (BitVec.ofNat k.bits x ||| BitVec.ofNat k.bits y).toNat = x ||| y by simp [BitVec.toNat_or, Nat.mod_eq_of_lt h1, Nat.mod_eq_of_lt h3], hw]; rfl
theorem OpY.shr {t u : TypeId} {a b : Operand} {k k' : IntKind} {x s : Nat} (hx : ρ a = .int k (x : Nat)) (hy : ρ b = .int k' (s : Nat)) (hs : s ≤ k.bits) {q : Nat} (hq : x / 2 ^ s = q) (h : R (.int k ((q : Nat) : Int)) w) : OpY P (.binOp .shr t a b u) ty ρ w R := by
 refine OpY.binInt hx hy ?_ h
 have h0 : ¬ ((s : Int) < 0) := by omega
 have : Int.fdiv (x : Int) (2 ^ s) = ((x / 2 ^ s : Nat) : Int) := by
  rw [Int.fdiv_eq_ediv_of_nonneg _ (by exact Int.le_of_lt (Int.pow_pos (by decide)))]; simp
 simp only [binOp, Op.shift, h0, if_false, Int.toNat_natCast, Nat.min_eq_left hs]
 rw [this, hq]; rfl
theorem OpY.shl {t u : TypeId} {a b : Operand} {k k' : IntKind} {x s : Nat} {z : Int} (hx : ρ a = .int k (x : Nat)) (hy : ρ b = .int k' (s : Nat)) (hs : s ≤ k.bits) (hz : k.wrap ((x * 2 ^ s : Nat) : Int) = z) (h : R (.int k z) w) : OpY P (.binOp .shl t a b u) ty ρ w R := by
 refine OpY.binInt hx hy ?_ h
 have h0 : ¬ ((s : Int) < 0) := by omega
 have : (x : Int) * 2 ^ s = ((x * 2 ^ s : Nat) : Int) := by simp
 simp only [binOp, Op.shift, h0, if_false, Int.toNat_natCast, Nat.min_eq_left hs]
 rw [this, hz]; rfl
theorem bool_dec {p q : Prop} [Decidable p] [Decidable q] (h : p ↔ q) : (decide p) = (decide q) := by simp [h]
theorem OpY.lss {t u : TypeId} {a b : Operand} {k : IntKind} {x y : Int} (p : Prop) [Decidable p] (hx : ρ a = .int k x) (hy : ρ b = .int k y) (hp : x < y ↔ p) (h : R (.bool (decide p)) w) : OpY P (.binOp .lss t a b u) ty ρ w R :=
 OpY.binInt hx hy (by simp [binOp, Op.intCmp, hp]) h
theorem OpY.leq {t u : TypeId} {a b : Operand} {k : IntKind} {x y : Int} (p : Prop) [Decidable p] (hx : ρ a = .int k x) (hy : ρ b = .int k y) (hp : x ≤ y ↔ p) (h : R (.bool (decide p)) w) : OpY P (.binOp .leq t a b u) ty ρ w R :=
 OpY.binInt hx hy (by simp [binOp, Op.intCmp, hp]) h
theorem OpY.gtr {t u : TypeId} {a b : Operand} {k : IntKind} {x y : Int} (p : Prop) [Decidable p] (hx : ρ a = .int k x) (hy : ρ b = .int k y) (hp : x > y ↔ p) (h : R (.bool (decide p)) w) : OpY P (.binOp .gtr t a b u) ty ρ w R :=
 OpY.binInt hx hy (by have : decide (y < x) = decide p := bool_dec hp; simp [binOp, Op.intCmp, this]) h
theorem OpY.geq {t u : TypeId} {a b : Operand} {k : IntKind} {x y : Int} (p : Prop) [Decidable p] (hx : ρ a = .int k x) (hy : ρ b = .int k y) (hp : x ≥ y ↔ p) (h : R (.bool (decide p)) w) : OpY P (.binOp .geq t a b u) ty ρ w R :=
 OpY.binInt hx hy (by have : decide (y ≤ x) = decide p := bool_dec hp; simp [binOp, Op.intCmp, this]) h
theorem OpY.eql {t u : TypeId} {a b : Operand} {k : IntKind} {x y : Int} (p : Prop) [Decidable p] (hx : ρ a = .int k x) (hy : ρ b = .int k y) (hp : x = y ↔ p) (h : R (.bool (decide p)) w) : OpY P (.binOp .eql t a b u) ty ρ w R :=
  OpY.binInt hx hy (by have : (x == y) = decide p := by rw [← bool_dec hp]; rfl
                       simp [binOp, Op.intCmp, this]) h
theorem OpY.neq {t u : TypeId} {a b : Operand} {k : IntKind} {x y : Int} (p : Prop) [Decidable p] (hx : ρ a = .int k x) (hy : ρ b = .int k y) (hp : x ≠ y ↔ p) (h : R (.bool (decide p)) w) : OpY P (.binOp .neq t a b u) ty ρ w R :=
  OpY.binInt hx hy (by have : (x != y) = decide p := by rw [← bool_dec hp]; simp [bne, BEq.beq]
                       simp [binOp, Op.intCmp, this]) h
theorem run_equalIn_bool (d : Nat) {t : TypeId} (ht : P.underlying t = some .bool) (x y : Bool) : (Op.equalIn (d + 1) t (.bool x) (.bool y)).run P w = .ok (x == y) w := by
 simp [Op.equalIn, run_underlying ht]
theorem OpY.eqlBool {t u : TypeId} {a b : Operand} {x y : Bool} (ht : P.underlying t = some .bool) (hx : ρ a = .bool x) (hy : ρ b = .bool y) (h : R (.bool (x == y)) w) : OpY P (.binOp .eql t a b u) ty ρ w R := by
 have hr : (Op.equal t (.bool x) (.bool y)).run P w = .ok (x == y) w := run_equalIn_bool 9999 ht x y
 simp only [OpY, bareOp, execOp, hx, hy]
 simp only [binOp, eqGuard]
 simp [hr, upon]
 exact h
theorem OpY.neqBool {t u : TypeId} {a b : Operand} {x y : Bool} (ht : P.underlying t = some .bool) (hx : ρ a = .bool x) (hy : ρ b = .bool y) (h : R (.bool (!(x == y))) w) : OpY P (.binOp .neq t a b u) ty ρ w R := by
 have hr : (Op.equal t (.bool x) (.bool y)).run P w = .ok (x == y) w := run_equalIn_bool 9999 ht x y
 simp only [OpY, bareOp, execOp, hx, hy]
 simp only [binOp, eqGuard]
 simp [hr, upon]
 exact h
theorem OpY.not {t : TypeId} {a : Operand} {x : Bool} (hx : ρ a = .bool x) (h : R (.bool (!x)) w) : OpY P (.unOp .not t a) ty ρ w R := by
 simp [OpY, bareOp, execOp, hx, Op.unary, upon]; exact h
theorem OpY.neg {t : TypeId} {a : Operand} {k : IntKind} {x z : Int} (hx : ρ a = .int k x) (hz : k.wrap (0 - x) = z) (h : R (.int k z) w) : OpY P (.unOp .neg t a) ty ρ w R := by
 subst hz; simp [OpY, bareOp, execOp, hx, Op.unary, Op.intArith, upon] at h ⊢; exact h
theorem OpY.convInt {s t : TypeId} {a : Operand} {k k' : IntKind} {x z : Int} {d : TypeDesc} (hs : P.underlying s = some d) (ht : P.underlying t = some (.int k')) (hx : ρ a = .int k x) (hz : k'.wrap x = z) (h : R (.int k' z) w) : OpY P (.convert s t a) ty ρ w R := by
 subst hz
 simp only [OpY, bareOp, execOp, hx]
 simp [convert, run_underlying hs, run_underlying ht, Conv.intToInt, upon]
 exact h
theorem OpY.extract {a : Operand} {vs : List Value} {i : Nat} {v : Value} (ha : ρ a = .tuple vs.toArray) (hv : vs[i]? = some v) (h : R v w) : OpY P (.extract a i) ty ρ w R := by
 simp [OpY, bareOp, execOp, ha, Instr.extract, hv, upon]; exact h
end
end Go.X
set_option linter.unusedSimpArgs false
set_option linter.unusedVariables false
namespace Go.X
open Go Go.RowKit
def TI (P : Program) (t : TypeId) (sz by' : Nat) (z : Value) : Prop := ∃ i, P.info? t = some i ∧ i.size = sz ∧ i.bytes = by' ∧ i.zero = some z
theorem TI.mk {P : Program} {t : TypeId} {sz b : Nat} {z : Value} (h : (P.info? t).map (fun i => (i.zero, i.size, i.bytes)) = some (some z, sz, b)) : TI P t sz b z := by
 cases hi : P.info? t with
 | none => rw [hi] at h; simp at h
 | some i => rw [hi] at h; simp at h; exact ⟨i, hi ▸ rfl, h.2.1, h.2.2, h.1⟩
def aggD : TypeDesc → Bool
 | .struct _ | .array _ _ => true
 | _ => false
def Enters (P : Program) (f : FuncId) : Prop := ∃ fn, P.funcs[f]? = some fn ∧ (fn.name == "runtime.NumGoroutine") = false ∧ fn.body.isNone = false
def one (v : Value) : Bool := v.oneCell'
def ones : List Value → Bool
 | [] => true
 | v :: r => one v && ones r
theorem ones_spec {l : List Value} (h : ones l = true) : ∀ v ∈ l, v.oneCell' = true := by
 induction l with
 | nil => intro v hv; cases hv
 | cons x r ih =>
  simp only [ones, Bool.and_eq_true] at h
  intro v hv
  cases hv with
  | head => exact h.1
  | tail _ hm => exact ih h.2 v hm
theorem add_plain (b o n : Nat) : (⟨b, o, none⟩ : Addr).add n = ⟨b, o + n, none⟩ := by
 unfold Addr.add; split
 · subst_vars; rfl
 · rfl
def putAt (cs : List Value) (o : Nat) : List Value → List Value
 | [] => cs
 | v :: r => putAt (cs.set o v) (o + 1) r
theorem length_putAt : ∀ (vs cs : List Value) (o : Nat), (putAt cs o vs).length = cs.length
 | [], _, _ => rfl
 | v :: r, cs, o => by simp [putAt, length_putAt r]
theorem get_putAt : ∀ (vs cs : List Value) (o i : Nat), o + vs.length ≤ cs.length → (putAt cs o vs)[i]? = if o ≤ i ∧ i < o + vs.length then vs[i - o]? else cs[i]?
 | [], cs, o, i, _ => by simp [putAt]; intro h1 h2; omega
 | v :: r, cs, o, i, h => by
  simp only [putAt, List.length_cons] at h ⊢
  rw [get_putAt r _ _ _ (by simp; omega)]
  by_cases h1 : i = o
  · subst h1
    rw [if_neg (by omega), if_pos (by omega), Nat.sub_self, List.getElem?_cons_zero, List.getElem?_set_self (by omega)]
  · by_cases h2 : o + 1 ≤ i ∧ i < o + 1 + r.length
    · rw [if_pos h2, if_pos (by omega), show i - o = (i - (o + 1)) + 1 by omega, List.getElem?_cons_succ]
    · rw [if_neg h2, if_neg (by omega), List.getElem?_set_ne (Ne.symm h1)]
theorem putAt_eq (vs cs : List Value) (o : Nat) (h : o + vs.length ≤ cs.length) : putAt cs o vs = cs.take o ++ vs ++ cs.drop (o + vs.length) := by
 apply List.ext_getElem?
 intro i
 rw [get_putAt _ _ _ _ h]
 by_cases h1 : i < o
 · rw [if_neg (by omega), List.append_assoc, List.getElem?_append_left (by simp; omega), List.getElem?_take, if_pos h1]
 · by_cases h2 : i < o + vs.length
   · rw [if_pos (by omega), List.append_assoc, List.getElem?_append_right (by simp; omega), List.getElem?_append_left (by simp; omega)]
     congr 1; simp; omega
   · rw [if_neg (by omega), List.getElem?_append_right (by simp; omega), List.getElem?_drop]
     congr 1; simp; omega
theorem putAt_append (xs sp vs : List Value) (h : vs.length ≤ sp.length) : putAt (xs ++ sp) xs.length vs = (xs ++ vs) ++ sp.drop vs.length := by
 rw [putAt_eq _ _ _ (by simp; omega)]; simp
section
variable {P : Program}
theorem run_store_own {w : World} {b o : Nat} {cs : List Value} {t : TypeId} {lo hi : Nat} (v : Value) (hb : w.heap[b]? = some (.cells cs.toArray t (lo, hi))) (hf : ∀ i, i < cs.length → ¬ (lo ≤ i ∧ i < hi)) (ho : o < cs.length) (h1 : v.oneCell' = true) (m : Go.Mode) :
 (store ⟨b, o, none⟩ v m).run P w = .ok () (w.setCell ⟨b, o, none⟩ v) := by
 have hc : w.cell? ⟨b, o, none⟩ = some cs[o] := by simp [World.cell?, hb, ho]
 have hz : w.frozen? ⟨b, o, none⟩ = false := by
  have := hf o ho
  simp [World.frozen?, hb]; omega
 rw [run_store P w _ v m h1]
 simp [hc, hz]
theorem run_storeCells_own {b : Nat} {t : TypeId} {lo hi : Nat} : ∀ (vs : List Value) (i o : Nat) (cs : List Value) (w : World), w.heap[b]? = some (.cells cs.toArray t (lo, hi)) → (∀ i, i < cs.length → ¬ (lo ≤ i ∧ i < hi)) →
 o + i + vs.length ≤ cs.length → (∀ v ∈ vs, v.oneCell' = true) →
 ∃ w', (storeCells ⟨b, o, none⟩ vs i).run P w = .ok () w' ∧ w'.heap[b]? = some (.cells (putAt cs (o + i) vs).toArray t (lo, hi)) ∧ (∀ k, k ≠ b → w'.heap[k]? = w.heap[k]?) ∧
  w'.heap.size = w.heap.size ∧ w'.os = w.os ∧ w'.tape = w.tape ∧ w'.output = w.output
 | [], i, o, cs, w, hb, _, _, _ => ⟨w, by simp [storeCells], hb, fun _ _ => rfl, rfl, rfl, rfl, rfl⟩
 | v :: r, i, o, cs, w, hb, hf, hl, h1 => by
  have hst := run_store_own (P := P) (o := o + i) v hb hf (by simp at hl; omega) (h1 v List.mem_cons_self) .plain
  have hb' : (w.setCell ⟨b, o + i, none⟩ v).heap[b]? = some (.cells (cs.set (o + i) v).toArray t (lo, hi)) := by
   rw [heap_setCell_same hb]; simp
  obtain ⟨w', g1, g2, g3, g4, g5, g6, g7⟩ := run_storeCells_own r (i + 1) o (cs.set (o + i) v) (w.setCell ⟨b, o + i, none⟩ v) hb' (fun j hj => hf j (by simpa using hj)) (by simp at hl ⊢; omega) (fun x hx => h1 x (List.mem_cons_of_mem _ hx))
  refine ⟨w', ?_, g2, fun k hk => (g3 k hk).trans (Below.heap_setCell _ _ _ _ hk), by rw [g4]; simp [World.setCell], g5, g6, g7⟩
  simp only [storeCells, add_plain, Sem.run_bind, hst, Result.andThen_ok]
  exact g1
theorem run_isAgg {w : World} {t : TypeId} {d : TypeDesc} (hd : P.underlying t = some d) : (isAgg t).run P w = .ok (aggD d) w := by
 unfold isAgg; simp [run_underlying hd]; cases d <;> rfl
theorem run_loadVar_one {w : World} {t : TypeId} {d : TypeDesc} {a : Addr} {v : Value} (hd : P.underlying t = some d) (hg : aggD d = false) (hc : w.cell? a = some v) : (loadVar t a).run P w = .ok v w := by
 unfold loadVar
 simp only [Sem.run_bind, run_isAgg hd, Result.andThen_ok, hg]
 simp [hc]
theorem run_loadVar_agg {w : World} {t : TypeId} {d : TypeDesc} {a : Addr} {vs : List Value} {sz by' : Nat} {z : Value} (hd : P.underlying t = some d) (hg : aggD d = true) (ti : TI P t sz by' z) (hl : vs.length = sz)
 (hc : ∀ j v, vs[j]? = some v → w.cell? (a.add j) = some v) : (loadVar t a).run P w = .ok (.agg vs.toArray) w := by
 obtain ⟨i, hi, hs, _, _⟩ := ti
 have := run_loadCells_list (P := P) w a vs hc
 unfold loadVar
 simp only [Sem.run_bind, run_isAgg hd, Result.andThen_ok, hg]
 simp [sizeOf, typeInfo, hi, hs, ← hl, this]
end
section
variable {P : Program} {ty : TypeId} {ρ : Operand → Value} {w : World} {R : Value → World → Prop} {X B : List (Option Nat)} {w0 : World} {O : List (Option Nat)} {C : List Cont}
theorem ownC_alloc (w : World) (cs : Array Value) (t : TypeId) : OwnC (w.alloc (.cells cs t)) (some w.heap.size) (.cells cs.toList) := by
 refine ⟨t, 0, 0, ?_, Nat.le_refl _, fun i _ h => by omega⟩
 show (w.heap.push _)[w.heap.size]? = _
 simp
theorem OpY.box {t : TypeId} {x : Operand} {v : Value} {cs : List Value} (hx : ρ x = v) (hv : v.cells = cs.toArray) (hL : Loc X B w0 w O C)
 (h : ∀ b w', Loc X B w0 w' (some b :: O) (.cells cs :: C) → Step O (some b :: O) w w' → R (.pointer (some ⟨b, 0, none⟩)) w') : OpY P (.box t x) ty ρ w R := by
 have ha := hL.alloc (o := .cells cs.toArray t) (c := .cells cs) (by simpa using ownC_alloc w cs.toArray t)
 simp only [OpY, bareOp, execOp, hx]
 simp [Instr.box, newVar, newRow, hv, upon]
 exact h _ _ ha.1 ha.2
theorem OpY.alloc {t : TypeId} {sz by' : Nat} {z : Value} {cs : List Value} (ti : TI P t sz by' z) (hv : z.cells = cs.toArray) (hL : Loc X B w0 w O C)
 (h : ∀ b w', Loc X B w0 w' (some b :: O) (.cells cs :: C) → Step O (some b :: O) w w' → R (.pointer (some ⟨b, 0, none⟩)) w') : OpY P (.alloc t) ty ρ w R := by
 obtain ⟨i, hi, _, _, hz⟩ := ti
 have ha := hL.alloc (o := .cells cs.toArray t) (c := .cells cs) (by simpa using ownC_alloc w cs.toArray t)
 simp only [OpY, bareOp, execOp]
 simp [Instr.alloc, zeroValue, typeInfo, hi, hz, newVar, newRow, hv, upon]
 exact h _ _ ha.1 ha.2
theorem cell_own {w : World} {b o : Nat} {cs : List Value} {v : Value} (h : OwnC w (some b) (.cells cs)) (hv : cs[o]? = some v) : w.cell? ⟨b, o, none⟩ = some v := by
 obtain ⟨t, lo, hi, h1, _⟩ := h
 simp [World.cell?, h1, hv]
theorem OpY.load_at {t : TypeId} {x : Operand} {d : TypeDesc} {A : List (Option Nat)} {b o : Nat} {v : Value} (hd : P.underlying t = some d) (hg : aggD d = false) (hx : ρ x = .pointer (some ⟨b, o, none⟩)) (hc : cellH (view A w) b o = some v) (h : R v w) : OpY P (.load t x) ty ρ w R := by
 have := run_loadVar_one (P := P) hd hg (cellH_view hc)
 simp only [OpY, bareOp, execOp, hx]
 simp [Instr.loadAt, Instr.sureAddr, this, upon]
 exact h
theorem OpY.load_at_agg {t : TypeId} {x : Operand} {d : TypeDesc} {A : List (Option Nat)} {b o : Nat} {vs : List Value} {sz by' : Nat} {z : Value} (hd : P.underlying t = some d) (hg : aggD d = true) (ti : TI P t sz by' z) (hx : ρ x = .pointer (some ⟨b, o, none⟩)) (hl : vs.length = sz) (hc : At (view A w) b o vs) (h : R (.agg vs.toArray) w) : OpY P (.load t x) ty ρ w R := by
 have hc' : ∀ j v, vs[j]? = some v → w.cell? ((⟨b, o, none⟩ : Addr).add j) = some v := by
  intro j v hj
  rw [add_plain]
  exact cellH_view (hc.get j hj)
 have := run_loadVar_agg (P := P) hd hg ti hl hc'
 simp only [OpY, bareOp, execOp, hx]
 simp [Instr.loadAt, Instr.sureAddr, this, upon]
 exact h
theorem OpY.store {t : TypeId} {x y : Operand} {b o : Nat} {cs vs : List Value} {v : Value} {sz by' : Nat} {z : Value} (ti : TI P t sz by' z) (hx : ρ x = .pointer (some ⟨b, o, none⟩)) (hy : ρ y = v) (hv : v.cells = vs.toArray) (hl : vs.length = sz) (h1 : ones vs = true)
 (hL : Loc X B w0 w O C) (i : Nat) (hO : O[i]? = some (some b)) (hC : C[i]? = some (.cells cs)) (hin : o + vs.length ≤ cs.length)
 (h : ∀ w', Loc X B w0 w' O (C.set i (.cells (putAt cs o vs))) → Step O O w w' → R undef w') : OpY P (.store t x y) ty ρ w R := by
 obtain ⟨inf, hi, hs, _, _⟩ := ti
 obtain ⟨tt, lo, hh, g1, g0, g2⟩ := hL.at i hO hC
 obtain ⟨w', r1, r2, r3, r4, r5, r6, r7⟩ := run_storeCells_own (P := P) vs 0 o cs w g1 g2 (by simpa using hin) (ones_spec h1)
 have hp := hL.put (w' := w') i hO (c' := .cells (putAt cs o vs)) ⟨tt, lo, hh, r2, g0, fun j hj => g2 j (by simpa [length_putAt] using hj)⟩ r3 r4 r5 r6 r7
 have hr : (Instr.storeAt t (.pointer (some ⟨b, o, none⟩)) v).run P w = .ok () w' := by
  simp [Instr.storeAt, Instr.sureAddr, storeVar, hv, sizeOf, typeInfo, hi, hs, hl, r1]
 simp only [OpY, bareOp, execOp, hx, hy]
 simp [hr, upon]
 exact h w' hp.1 hp.2
theorem OpY.fieldAddr {s : TypeId} {x : Operand} {fs : Array Field} {f : Field} {i b o q : Nat} {sz by' : Nat} {z : Value} (hs : P.underlying s = some (.struct fs)) (hf : fs[i]? = some f) (ti : TI P f.type sz by' z) (hsz : (sz == 0) = false)
 (hx : ρ x = .pointer (some ⟨b, o, none⟩)) (hq : o + f.offset = q) (h : R (.pointer (some ⟨b, q, none⟩)) w) : OpY P (.fieldAddr s x i) ty ρ w R := by
 obtain ⟨inf, hi, hz, _, _⟩ := ti
 have hn : ¬ sz = 0 := by simpa using hsz
 subst hq
 simp only [OpY, bareOp, execOp, hx]
 simp [Instr.fieldAt, run_underlying hs, hf, Instr.sureAddr, fieldPlace, sizeOf, typeInfo, hi, hz, hn, upon, add_plain]
 exact h
theorem OpY.indexAddr {t el : TypeId} {x y : Operand} {b o n cap i q : Nat} {k : IntKind} {sz by' : Nat} {z : Value} (hu : P.underlying t = some (.slice el)) (ti : TI P el sz by' z) (hx : ρ x = .slice (some ⟨b, o, none⟩) n cap) (hy : ρ y = .int k (i : Nat)) (hlt : i < n) (hq : o + i * sz = q)
 (h : R (.pointer (some ⟨b, q, none⟩)) w) : OpY P (.indexAddr t x y) ty ρ w R := by
 obtain ⟨inf, hi, hz, _, _⟩ := ti
 subst hq
 have h2 : (i : Int) < n := by omega
 simp only [OpY, bareOp, execOp, hx, hy]
 simp [Instr.indexAt, run_underlying hu, asIntOf, h2, hlt, sizeOf, typeInfo, hi, hz, upon, add_plain]
 exact h
theorem OpY.len_slice {x : Operand} {t el : TypeId} {a : Option Addr} {n cap : Nat} (hu : P.underlying t = some (.slice el)) (hx : ρ x = .slice a n cap) (h : R (.int .i64 ((n : Nat) : Int)) w) :
 OpY P (.call { callee := .builtin .len, args := #[x], argTypes := #[t] }) ty ρ w R := by
 simp only [OpY, bareOp, execOp, resolve, invoke, builtin]
 simp [hx, Builtin.len_, run_underlying hu, upon, goInt]
 exact h
theorem OpY.len_sl {α : Type} {sz : Nat} {Rr : Hp → List Value → α → Prop} {H : Hp} {xs : List α} {x : Operand} {t el : TypeId} {v : Value} (hu : P.underlying t = some (.slice el)) (hx : ρ x = v) (hS : Sl sz Rr H v xs) (h : R (.int .i64 ((xs.length : Nat) : Int)) w) :
 OpY P (.call { callee := .builtin .len, args := #[x], argTypes := #[t] }) ty ρ w R := by
 rcases hS with ⟨h1, h2⟩ | ⟨b, o, cap, hv, _, _⟩
 · obtain ⟨oa, h1⟩ := h1; exact OpY.len_slice hu (hx.trans h1) (by rw [h2] at h; exact h)
 · exact OpY.len_slice hu (hx.trans hv) h
theorem run_callFunc {f : FuncId} (he : Enters P f) (args : Array Value) : (callFunc f args).run P w = .ok (.enter f args) w := by
 obtain ⟨fn, h1, h2, h3⟩ := he
 simp only [callFunc, Sem.run_bind, run_program, Result.andThen_ok, h1, h2, h3]
 simp
theorem OpY.call {f : FuncId} {args : List Operand} {ats : Array TypeId} {l : List Value} {Φ : Value → World → Prop} (he : Enters P f) (hf : ρ (.func f) = .func (.func f) #[] #[]) (ha : args.map ρ = l) (hc : Calls P f l.toArray w (Ret w Φ)) (h : ∀ v w', Ext w w' → Φ v w' → R v w') :
 OpY P (.call { callee := .value (.func f), args := args.toArray, argTypes := ats }) ty ρ w R := by
 have hr := run_callFunc (w := w) he l.toArray
 simp only [OpY, bareOp, execOp, resolve, hf]
 simp [Deferred.ofValue, invoke, ha, hr, upon]
 refine hc.mono ?_
 rintro e w' ⟨v, rfl, h1, h2⟩
 exact h v w' h1 h2
theorem OpY.callg {f : FuncId} {args : List Operand} {ats : Array TypeId} {l : List Value} {T : Ending → World → Prop} (he : Enters P f) (hf : ρ (.func f) = .func (.func f) #[] #[]) (ha : args.map ρ = l) (hc : Calls P f l.toArray w T) (h : ∀ e w', T e w' → ∃ v, e = .returned v ∧ R v w') :
 OpY P (.call { callee := .value (.func f), args := args.toArray, argTypes := ats }) ty ρ w R := by
 have hr := run_callFunc (w := w) he l.toArray
 simp only [OpY, bareOp, execOp, resolve, hf]
 simp [Deferred.ofValue, invoke, ha, hr, upon]
 refine hc.mono ?_
 intro e w' ht
 obtain ⟨v, rfl, hv⟩ := h e w' ht
 exact hv
theorem OpY.callv {g : Operand} {f : FuncId} {fst cap : List Value} {args : List Operand} {ats : Array TypeId} {l : List Value} {T : Ending → World → Prop} (he : Enters P f) (hf : ρ g = .func (.func f) fst.toArray cap.toArray) (ha : fst ++ args.map ρ ++ cap = l) (hc : Calls P f l.toArray w T) (h : ∀ e w', T e w' → ∃ v, e = .returned v ∧ R v w') :
 OpY P (.call { callee := .value g, args := args.toArray, argTypes := ats }) ty ρ w R := by
 have hr := run_callFunc (w := w) he l.toArray
 subst ha
 simp only [OpY, bareOp, execOp, resolve, hf]
 simp [Deferred.ofValue, invoke, upon] at hr ⊢
 rw [hr]
 simp [upon]
 refine (by simpa using hc : Calls P f _ w T).mono ?_
 intro e w' ht
 obtain ⟨v, rfl, hv⟩ := h e w' ht
 exact hv
end
end Go.X
set_option linter.unusedSimpArgs false
set_option linter.unusedVariables false
namespace Go.X
open Go Go.RowKit
def memN (i : Nat) : List Nat → Bool
 | [] => false
 | x :: r => Nat.beq i x || memN i r
def upds : List (Nat × Value) → Env → Env
 | [], e => e
 | (d, v) :: r, e => upd (upds r e) d v
def slotsOk : List (Nat × Value) → Env → Prop
 | [], _ => True
 | (d, v) :: r, e => e d = v ∧ slotsOk r e
theorem upds_of_slotsOk : ∀ {L : List (Nat × Value)} {e : Env}, slotsOk L e → upds L e = e
 | [], _, _ => rfl
 | (d, v) :: r, e, h => by
  simp only [upds, upds_of_slotsOk h.2]
  funext i
  by_cases hi : i = d
  · subst hi; rw [upd_same]; exact h.1.symm
  · rw [upd_other _ _ hi]
section
variable {P : Program} {n : Nat} {k : List It} {Q : Env → World → Prop} {e : Env} {w : World}
theorem wp_loop_ghost {c : Code} {σ : Type} (I : σ → Act → World → Prop) (μ : σ → Nat) {Q : Exit → Act → World → Prop} {s0 : σ} {a : Act} {w : World} (h₀ : I s0 a w)
 (round : ∀ s a w, I s a w → c.wp P (Exit.then (fun a' w' => ∃ s', I s' a' w' ∧ μ s' < μ s) Q) a w) : (Code.loop c).wp P Q a w := by
 intro b k cs
 have key : ∀ n s a w, μ s = n → I s a w → ∃ e a' w', Q e a' w' ∧ Arrives P (lone (b.at a (.code c :: .inLoop c :: k)) cs w) b k cs e a' w' := by
  intro n
  induction n using Nat.strongRecOn with
  | _ n ih =>
   intro s a w hn hI
   obtain ⟨e, a₁, w₁, hq, harr⟩ := round s a w hI b (.inLoop c :: k) cs
   cases e with
   | normal =>
    obtain ⟨s', hI₁, hlt⟩ := hq
    obtain ⟨e₂, a₂, w₂, hq₂, harr₂⟩ := ih (μ s') (hn ▸ hlt) s' a₁ w₁ rfl hI₁
    exact ⟨e₂, a₂, w₂, hq₂, .of_steps (Steps.trans harr (.one step_inLoop)) harr₂⟩
   | exit id => exact ⟨_, a₁, w₁, hq, .pass (x := .inLoop c) rfl (fun _ _ => .inl (by simp)) harr⟩
   | goto l => exact ⟨_, a₁, w₁, hq, .pass (x := .inLoop c) rfl (fun _ _ => .inl (by simp)) harr⟩
   | ret => exact ⟨_, a₁, w₁, hq, .pass (x := .inLoop c) rfl (fun _ _ => .inl (by simp)) harr⟩
   | panic ch => exact ⟨_, a₁, w₁, hq, .pass (x := .inLoop c) rfl (fun _ _ => .inl (by simp)) harr⟩
   | outgrown => exact ⟨_, a₁, w₁, hq, .pass (x := .inLoop c) rfl (fun _ _ => .inl (by simp)) harr⟩
 obtain ⟨e, a', w', hq, harr⟩ := key _ s0 a w rfl h₀
 exact ⟨e, a', w', hq, .of_steps (.one step_loop) harr⟩
end
def packV : List Value → Value
 | [v] => v
 | vs => .tuple vs.toArray
def ResOk (P : Program) (e : Env) (w : World) : List ResultVar → List Value → Prop
 | [], [] => True
 | .tmp t :: r, v :: vs => e t = v ∧ ResOk P e w r vs
 | .cell a t :: r, v :: vs => (∃ p, e a = .pointer (some p) ∧ (loadVar t p).run P w = .ok v w) ∧ ResOk P e w r vs
 | _, _ => False
theorem run_results_list {P : Program} {e : Env} {w : World} {tmps : Array Value} (he : ∀ i, tmps.getD i undef = e i) (g : ResultVar → Sem Value)
 (g1 : ∀ t, g (.tmp t) = pure (tmps.getD t undef)) (g2 : ∀ a t, g (.cell a t) = (do loadVar t (← asAddr (tmps.getD a undef)))) : ∀ {rl : List ResultVar} {vs : List Value}, ResOk P e w rl vs →
 (rl.mapM g).run P w = .ok vs w
 | [], [], _ => by simp
 | .tmp t :: r, v :: vs, h => by
  simp only [List.mapM_cons, Sem.run_bind, Sem.run_pure, Result.andThen_ok, run_results_list he g g1 g2 h.2, g1, he t, h.1]
 | .cell a t :: r, v :: vs, h => by
  obtain ⟨p, hp, hl⟩ := h.1
  have : (asAddr (tmps.getD a undef)).run P w = .ok p w := by rw [he a, hp]; rfl
  simp only [List.mapM_cons, Sem.run_bind, g2, this, Result.andThen_ok, hl, run_results_list he g g1 g2 h.2, Sem.run_pure]
 | [], _ :: _, h => h.elim
 | .tmp _ :: _, [], h => h.elim
 | .cell _ _ :: _, [], h => h.elim
theorem calls_of {P : Program} {f : FuncId} {fn : Func} {c : Code} {l : List Value} {rl : List ResultVar} {n : Nat} {w : World} {R : Ending → World → Prop}
 (hf : P.funcs[f]? = some fn) (hb : fn.body = some c) (hn : fn.ntmps = n) (hr : fn.results = rl.toArray) (hl : l.length ≤ n)
 (h : Swp P n [.code c] (fun e w' => ∃ vs, ResOk P e w' rl vs ∧ R (.returned (packV vs)) w') (ofArgs l) w) :
 Calls P f l.toArray w R := by
 subst hn
 refine calls_of_Swp hf hb hl (h.mono ?_)
 rintro e w' ⟨vs, h1, h2⟩ tmps he
 refine ⟨packV vs, ?_, h2⟩
 unfold results
 rw [hr]
 simp only [List.mapM_toArray, Sem.run_bind, Sem.run_map]
 rw [run_results_list he _ (fun _ => rfl) (fun _ _ => rfl) h1]
 simp only [Result.andThen_ok]
 cases vs with
 | nil => rfl
 | cons v vs => cases vs <;> simp [packV]
end Go.X
set_option linter.unusedSimpArgs false
set_option linter.unusedVariables false
namespace Go.X
open Go Go.RowKit
def ints (k : IntKind) (xs : List Nat) : List Value := xs.map (fun x => Value.int k ((x : Nat) : Int))
theorem ints_length (k : IntKind) (xs : List Nat) : (ints k xs).length = xs.length := by simp [ints]
theorem ints_get {k : IntKind} {xs : List Nat} {i : Nat} (h : i < xs.length) : (ints k xs)[i]? = some (.int k ((xs[i] : Nat) : Int)) := by simp [ints, h]
theorem Ints.nil {k : IntKind} {H : Hp} : Ints k H (.slice none 0 0) [] := .inl ⟨⟨_, rfl⟩, rfl⟩
theorem Ints.cells {k : IntKind} {H : Hp} {b o n cap : Nat} {xs : List Nat} (h : Ints k H (.slice (some ⟨b, o, none⟩) n cap) xs) : n = xs.length ∧ At H b o (ints k xs) ∧ xs.length ≤ cap := by
 rcases h with ⟨⟨oa, h⟩, rfl⟩ | ⟨b', o', cap', hv, hc, hx⟩
 · cases h; exact ⟨rfl, fun i hi => by simp [ints] at hi, Nat.le_refl _⟩
 · cases hv
   refine ⟨rfl, ?_, hc⟩
   intro i hi
   rw [ints_length] at hi
   obtain ⟨vs, h1, h2, h3⟩ := hx i xs[i] (List.getElem?_eq_getElem hi)
   subst h3
   have := h2 0 (by simp)
   rw [ints_get hi]
   simpa using this
theorem Sl.one {α : Type} {sz : Nat} {R : Hp → List Value → α → Prop} {H : Hp} {v : Value} {xs : List α} (h : Sl sz R H v xs) : one v = true := by
 rcases h with ⟨⟨oa, h⟩, _⟩ | ⟨b, o, cap, hv, _⟩
 · rw [h]; rfl
 · rw [hv]; rfl
theorem Ints.one {k : IntKind} {H : Hp} {v : Value} {xs : List Nat} (h : Ints k H v xs) : X.one v = true := Sl.one h
theorem ones_nil : ones [] = true := rfl
theorem ones_cons {v : Value} {r : List Value} (h : X.one v = true) (hr : ones r = true) : ones (v :: r) = true := by simp [ones, h, hr]
def sv : Option Nat → Nat → Nat → Value
 | none, _, _ => .slice none 0 0
 | some b, n, cap => .slice (some ⟨b, 0, none⟩) n cap
section
variable {P : Program} {X B : List (Option Nat)} {w0 w w' : World} {O : List (Option Nat)} {C : List Cont}
theorem Owns.swap {w w' : World} : ∀ {O : List (Option Nat)} {C : List Cont}, Owns w O C → ∀ (i : Nat) {b : Option Nat} {c' : Cont}, i < O.length → OwnC w' b c' → (∀ k, k < w.heap.size → w'.heap[k]? = w.heap[k]?) → Owns w' (O.set i b) (C.set i c')
 | [], [], _, i, b, c', hi, _, _ => by simp at hi
 | x :: O, c :: C, h, 0, b, c', _, hc, hs => ⟨hc, h.2.same fun k hk => hs k (h.2.lt k hk)⟩
 | x :: O, c :: C, h, i + 1, b, c', hi, hc, hs => ⟨h.1.same fun k hk => hs k (by subst hk; exact h.1.lt), h.2.swap i (by simpa using hi) hc hs⟩
 | [], _ :: _, h, _, _, _, _, _, _ => h.elim
 | _ :: _, [], h, _, _, _, _, _, _ => h.elim
theorem Distinct.swap {O : List (Option Nat)} : ∀ (i : Nat) {b : Nat}, Distinct O → some b ∉ O → Distinct (O.set i (some b)) := by
 induction O with
 | nil => intro i b h _; simpa using h
 | cons x O ih =>
  intro i b h hn
  have hn' : some b ∉ O := fun hm => hn (List.mem_cons_of_mem _ hm)
  have hd : Distinct O := by cases x with | none => exact h | some y => exact h.2
  cases i with
  | zero => exact ⟨hn', hd⟩
  | succ i =>
   rw [List.set_cons_succ]
   cases x with
   | none => exact ih i hd hn'
   | some y =>
    refine ⟨fun hm => ?_, ih i hd hn'⟩
    rcases List.mem_or_eq_of_mem_set hm with h1 | h1
    · exact h.1 h1
    · cases h1; exact hn List.mem_cons_self
theorem Loc.swap (hL : Loc X B w0 w O C) (i : Nat) (hi : i < O.length) {b : Nat} {c' : Cont} (hE : Ext w w') (hb : w.heap.size ≤ b) (hc : OwnC w' (some b) c') :
 Loc X B w0 w' (O.set i (some b)) (C.set i c') ∧ Step O (O.set i (some b)) w w' := by
 have hL' := hL.ext hE
 have hsame : ∀ k, k < w.heap.size → w'.heap[k]? = w.heap[k]? := fun k hk => hE.block k hk
 have hnot : some b ∉ O := fun h => by have := hL.own.lt b h; omega
 refine ⟨⟨hL'.os, hL'.tape, hL'.output, hL'.size, hL'.keep, hL.own.swap i hi hc hsame, ?_, hL.dist.swap i hnot, hL.apart, hL.bok⟩, ⟨fun k hk _ => hsame k hk, ?_⟩⟩
 · intro c hcm
   rcases List.mem_or_eq_of_mem_set hcm with h1 | h1
   · exact hL.fresh c h1
   · cases h1; exact .inr (Nat.le_trans hL.size hb)
 · intro c hcm
   rcases List.mem_or_eq_of_mem_set hcm with h1 | h1
   · exact .inl h1
   · cases h1; exact .inr hb
theorem Loc.addNil (hL : Loc X B w0 w O C) : Loc X B w0 w (none :: O) (.cells [] :: C) ∧ Step O (none :: O) w w := by
 refine ⟨⟨hL.os, hL.tape, hL.output, hL.size, hL.keep, ⟨rfl, hL.own⟩, fun b hb => ?_, hL.dist, hL.apart, hL.bok⟩, ⟨fun _ _ _ => rfl, fun b hb => ?_⟩⟩
 · rcases List.mem_cons.1 hb with h | h
   · cases h
   · exact hL.fresh b h
 · rcases List.mem_cons.1 hb with h | h
   · cases h
   · exact .inl h
end
section
variable {P : Program} {ty : TypeId} {ρ : Operand → Value} {w : World} {R : Value → World → Prop} {X B : List (Option Nat)} {w0 : World} {O : List (Option Nat)} {C : List Cont}
theorem OpY.buildSlice0 {t el : TypeId} {sz by' : Nat} {z : Value} (hu : P.underlying t = some (.slice el)) (ti : TI P el sz by' z) (hL : Loc X B w0 w O C)
 (h : ∀ b w', Loc X B w0 w' (some b :: O) (.cells [] :: C) → Step O (some b :: O) w w' → R (.slice (some ⟨b, 0, none⟩) 0 0) w') : OpY P (.buildSlice t 0 #[]) ty ρ w R := by
 obtain ⟨i, hi, hs, hby, hzz⟩ := ti
 have hal := hL.alloc (o := .cells #[] el) (c := .cells []) (ownC_alloc w #[] el)
 simp only [OpY, bareOp, execOp]
 simp [Instr.buildSlice, run_underlying hu, sizeOf, typeInfo, hi, Instr.fill, newRow, upon, Array.range_zero']
 exact h _ _ hal.1 hal.2
theorem OpY.buildSlice {t el : TypeId} {n : Nat} {parts : List (Nat × Operand)} {sz by' : Nat} {z : Value} {cs : List Value} (hu : P.underlying t = some (.slice el)) (ti : TI P el sz by' z) (hn : n * sz ≤ 16777216)
 (hf : Instr.fill (fun i => some (i * sz, sz)) ((Array.range (n * sz)).map (z.cells[· % z.cells.size]!)) ((parts.map fun p => (p.1, ρ p.2))) = some cs.toArray) (h0 : 0 < n * sz) (hL : Loc X B w0 w O C)
 (h : ∀ b w', Loc X B w0 w' (some b :: O) (.cells cs :: C) → Step O (some b :: O) w w' → R (.slice (some ⟨b, 0, none⟩) n n) w') : OpY P (.buildSlice t n parts.toArray) ty ρ w R := by
 obtain ⟨i, hi, hs, hby, hzz⟩ := ti
 have hal := hL.alloc (o := .cells cs.toArray el) (c := .cells cs) (by simpa using ownC_alloc w cs.toArray el)
 have h1 : ¬ (16777216 < n * sz) := by omega
 have h2 : ¬ (n * sz = 0) := by omega
 have hr : (Instr.buildSlice t n ((parts.toArray.map fun (x : Nat × Operand) => (x.1, ρ x.2)))).run P w = .ok (.slice (some ⟨w.heap.size, 0, none⟩) n n) (w.alloc (.cells cs.toArray el)) := by
  have hf' : Instr.fill (fun i => some (i * sz, sz)) ((Array.range (n * sz)).map (z.cells[· % z.cells.size]!)) ((parts.toArray.map fun (x : Nat × Operand) => (x.1, ρ x.2))).toList = some cs.toArray := by
   simpa using hf
  simp only [Instr.buildSlice, Sem.run_bind, run_underlying hu, Result.andThen_ok, sizeOf, typeInfo, run_program, hi, Sem.run_pure, hs]
  simp only [gt_iff_lt, show (2 : Nat) ^ 24 = 16777216 from rfl, h1, if_false, h2, zeroValue, typeInfo, Sem.run_bind, run_program, Result.andThen_ok, hi, Sem.run_pure, hzz, hf', newRow, run_newObj]
  rfl
 simp only [OpY, bareOp, execOp]
 simp only [Sem.run_bind, hr, Result.andThen_ok, Sem.run_pure, upon]
 exact h _ _ hal.1 hal.2
end
end Go.X
set_option linter.unusedSimpArgs false
set_option linter.unusedVariables false
namespace Go.X
open Go Go.RowKit
section
variable {P : Program} {ty : TypeId} {ρ : Operand → Value} {w : World} {R : Value → World → Prop} {X B : List (Option Nat)} {w0 : World} {O : List (Option Nat)} {C : List Cont}
def Src (w : World) (x : Value) (m sz : Nat) (news : List Value) : Prop :=
 news.length = m * sz ∧ (((∃ oa, x = .slice oa 0 0) ∧ m = 0) ∨ ∃ b o cap, x = .slice (some ⟨b, o, none⟩) m cap ∧ ∀ j u, news[j]? = some u → w.cell? ⟨b, o + j, none⟩ = some u)
theorem Src.own {i b o n cap sz : Nat} {cs news : List Value} (hL : Loc X B w0 w O C) (hO : O[i]? = some (some b)) (hC : C[i]? = some (.cells cs)) (hn : news.length = n * sz) (hs : (cs.drop o).take news.length = news) : Src w (.slice (some ⟨b, o, none⟩) n cap) n sz news := by
 refine ⟨hn, .inr ⟨b, o, cap, rfl, fun j u hj => cell_own (hL.at i hO hC) ?_⟩⟩
 rw [← hj]; conv => rhs; rw [← hs]
 rw [List.getElem?_take, List.getElem?_drop, if_pos]
 rcases Nat.lt_or_ge j news.length with h | h
 · exact h
 · rw [List.getElem?_eq_none h] at hj; cases hj
theorem Src.nil {sz : Nat} : Src w (.slice none 0 0) 0 sz [] := ⟨by simp, .inl ⟨⟨_, rfl⟩, rfl⟩⟩
theorem Src.ints {k : IntKind} {A : List (Option Nat)} {v : Value} {xs : List Nat} (h : Ints k (view A w) v xs) : Src w v xs.length 1 (ints k xs) := by
 refine ⟨by simp [ints_length], ?_⟩
 have h' := h
 rcases h with ⟨h1, h2⟩ | ⟨b, o, cap, hv, hc, hx⟩
 · exact .inl ⟨h1, by simp [h2]⟩
 · refine .inr ⟨b, o, cap, hv, ?_⟩
   subst hv
   obtain ⟨_, ha, _⟩ := h'.cells
   intro j u hj
   exact cellH_view (ha.get j hj)
theorem run_append_src {t el : TypeId} {inf : TypeInfo} {z : Value} {sz : Nat} (hu : P.underlying t = some (.slice el)) (hi : P.info? el = some inf) (hs : inf.size = sz) (hz : inf.zero = some z) (hzc : z.cells.size = sz)
    {i : Nat} {ob : Option Nat} {n cap m : Nat} {xs sp news : List Value} {x : Value} (hL : Loc X B w0 w O C) (hO : O[i]? = some ob) (hC : C[i]? = some (.cells (xs ++ sp))) (hn : xs.length = n * sz) (hcap : (xs ++ sp).length = cap * sz) (hsz : 0 < sz)
    (hsrc : Src w x m sz news) (h1 : ones news = true) (h63 : n + m ≤ 9223372036854775807) (hb : (n + m) * inf.bytes ≤ 140737488355328) (ty : TypeId) :
    ∃ ob' cap' sp' w', (Builtin.append_ #[t, t] ty #[sv ob n cap, x]).run P w = .ok (sv ob' (n + m) cap') w' ∧ ((xs ++ news) ++ sp').length = cap' * sz ∧
      Loc X B w0 w' (O.set i ob') (C.set i (.cells ((xs ++ news) ++ sp'))) ∧ Step O (O.set i ob') w w' := by
  subst hs
  have hi' : i < O.length := by
    rcases Nat.lt_or_ge i O.length with h | h
    · exact h
    · rw [List.getElem?_eq_none h] at hO; cases hO
  obtain ⟨hnl, hsrc⟩ := hsrc
  have hset : O.set i ob = O := by
    apply List.ext_getElem?; intro j
    by_cases hj : j = i
    · subst hj; rw [List.getElem?_set_self hi', hO]
    · rw [List.getElem?_set_ne (Ne.symm hj)]
  have hcset : ∀ c, C[i]? = some c → C.set i c = C := by
    intro c hc
    apply List.ext_getElem?; intro j
    by_cases hj : j = i
    · subst hj
      have : j < C.length := by
        rcases Nat.lt_or_ge j C.length with h | h
        · exact h
        · rw [List.getElem?_eq_none h] at hc; cases hc
      rw [List.getElem?_set_self this, hc]
    · rw [List.getElem?_set_ne (Ne.symm hj)]
  have hle : n ≤ cap := by
    have : n * inf.size ≤ cap * inf.size := by rw [← hn, ← hcap]; simp
    exact Nat.le_of_mul_le_mul_right this hsz
  by_cases hm : m = 0
  · 
    subst hm
    have hnew : news = [] := List.eq_nil_of_length_eq_zero (by simpa using hnl)
    subst hnew
    refine ⟨ob, cap, sp, w, ?_, by simpa using hcap, by rw [hset, List.append_nil, hcset _ hC]; exact hL, by rw [hset]; exact Step.refl⟩
    have hx : (Builtin.lenOf x).run P w = .ok 0 w ∧ (Builtin.firstCells inf.size 0 x).run P w = .ok #[] w := by
      rcases hsrc with ⟨⟨oa, rfl⟩, _⟩ | ⟨b, o, c, rfl, _⟩
      · cases oa <;> exact ⟨rfl, by simp [Builtin.firstCells, loadCells, loadCellsFrom]⟩
      · exact ⟨rfl, by simp [Builtin.firstCells, loadCells, loadCellsFrom]⟩
    cases ob with
    | none =>
      have hz0 : xs ++ sp = [] := hL.at i hO hC
      have h0 : cap = 0 := by
        rw [hz0] at hcap
        have h2 : cap * inf.size = 0 := by simpa using hcap.symm
        rcases Nat.mul_eq_zero.1 h2 with h3 | h3
        · exact h3
        · omega
      have hn0 : n = 0 := by omega
      subst h0; subst hn0
      rcases hsrc with ⟨⟨oa, rfl⟩, _⟩ | ⟨b, o, c, rfl, _⟩
      · cases oa <;> simp [sv, Builtin.append_, run_underlying hu, sizeOf, typeInfo, hi, Builtin.lenOf, Builtin.firstCells, loadCells, loadCellsFrom]
      · simp [sv, Builtin.append_, run_underlying hu, sizeOf, typeInfo, hi, Builtin.lenOf, Builtin.firstCells, loadCells, loadCellsFrom]
    | some b =>
      rcases hsrc with ⟨⟨oa, rfl⟩, _⟩ | ⟨b2, o, c, rfl, _⟩
      · cases oa <;> simp [sv, Builtin.append_, run_underlying hu, sizeOf, typeInfo, hi, Builtin.lenOf, Builtin.firstCells, loadCells, loadCellsFrom, hle, storeCells]
      · simp [sv, Builtin.append_, run_underlying hu, sizeOf, typeInfo, hi, Builtin.lenOf, Builtin.firstCells, loadCells, loadCellsFrom, hle, storeCells]
  · obtain ⟨b2, o2, c2, rfl, hcell⟩ : ∃ b o cap, x = .slice (some ⟨b, o, none⟩) m cap ∧ ∀ j u, news[j]? = some u → w.cell? ⟨b, o + j, none⟩ = some u := by
      rcases hsrc with ⟨_, h⟩ | h
      · exact absurd h hm
      · exact h
    have hnews : ∀ j u, news[j]? = some u → w.cell? ((⟨b2, o2, none⟩ : Addr).add j) = some u := fun j u hj => by rw [add_plain]; exact hcell j u hj
    have grown : ∀ old, old < n + m → ∀ (wd : World), wd = w.drew.alloc (.cells (xs.toArray ++ news.toArray ++ Builtin.zeroCells z.cells (grownCap w (n + m) old el - (n + m))) el) →
        ((xs ++ news) ++ (Builtin.zeroCells z.cells (grownCap w (n + m) old el - (n + m))).toList).length = grownCap w (n + m) old el * inf.size ∧
        Loc X B w0 wd (O.set i (some w.heap.size)) (C.set i (.cells ((xs ++ news) ++ (Builtin.zeroCells z.cells (grownCap w (n + m) old el - (n + m))).toList))) ∧ Step O (O.set i (some w.heap.size)) w wd := by
      intro old ho wd hwd
      subst hwd
      have hge := grownCap_ge w (n + m) old el
      refine ⟨?_, ?_⟩
      · simp only [List.length_append, Array.length_toList, size_zeroCells, hzc, hn, hnl, ← Nat.add_mul]
        congr 1; omega
      · refine hL.swap i hi' ⟨rfl, rfl, rfl, by simp, fun k hk => Below.heap_alloc w.drew _ k hk⟩ (Nat.le_refl _) ?_
        have := ownC_alloc w.drew (xs.toArray ++ news.toArray ++ Builtin.zeroCells z.cells (grownCap w (n + m) old el - (n + m))) el
        simpa using this
    cases ob with
    | none =>
      have hz0 : xs ++ sp = [] := hL.at i hO hC
      have hx0 : xs = [] := (List.append_eq_nil_iff.1 hz0).1
      have hn0 : n = 0 := by
        subst hx0
        rcases Nat.mul_eq_zero.1 (show n * inf.size = 0 by simpa using hn.symm) with h3 | h3
        · exact h3
        · omega
      subst hx0; subst hn0
      have hr := run_append_nil (P := P) w t ty el inf z hu hi hz ⟨b2, o2, none⟩ m c2 news hnl hnews (by omega) (by omega) (by have := hb; simp only [Nat.zero_add] at this; omega)
      have hg := grown 0 (by omega) _ rfl
      simp only [Nat.zero_add, List.nil_append] at hg hr ⊢
      refine ⟨some w.heap.size, grownCap w m 0 el, _, _, hr, hg.1, ?_, ?_⟩
      · have := hg.2.1; simpa using this
      · have := hg.2.2; simpa using this
    | some g =>
      obtain ⟨tt, lo, hh, g1, g0, g2⟩ := hL.at i hO hC
      by_cases hroom : n + m ≤ cap
      · have hfit : n * inf.size + news.length ≤ (xs ++ sp).length := by rw [hnl, hcap, ← Nat.add_mul]; exact Nat.mul_le_mul_right _ hroom
        obtain ⟨w', r1, r2, r3, r4, r5, r6, r7⟩ := run_storeCells_own (P := P) news 0 (n * inf.size) (xs ++ sp) w g1 g2 (by simpa using hfit) (ones_spec h1)
        have hput : putAt (xs ++ sp) (n * inf.size) news = (xs ++ news) ++ sp.drop news.length := by
          rw [← hn]; exact putAt_append xs sp news (by rw [List.length_append] at hfit; omega)
        have hp := hL.put (w' := w') i hO (c' := .cells ((xs ++ news) ++ sp.drop news.length)) ⟨tt, lo, hh, by rw [r2, Nat.add_zero, hput], g0, fun j hj => g2 j (by rw [List.length_append] at hfit; simp at hj ⊢; omega)⟩ r3 r4 r5 r6 r7
        have hf := run_firstCells_some (P := P) w inf.size m ⟨b2, o2, none⟩ m c2 news hnl hnews
        refine ⟨some g, cap, sp.drop news.length, w', ?_, ?_, by rw [hset]; exact hp.1, by rw [hset]; exact hp.2⟩
        · simp only [sv]
          simp [Builtin.append_, run_underlying hu, sizeOf, typeInfo, hi, Builtin.lenOf, hroom, hf, add_plain, r1]
        · rw [List.length_append] at hfit; rw [← hcap]; simp; omega
      · have holds : ∀ j u, xs[j]? = some u → w.cell? ((⟨g, 0, none⟩ : Addr).add j) = some u := by
          intro j u hj
          rw [add_plain, Nat.zero_add]
          refine cell_own (hL.at i hO hC) ?_
          rw [List.getElem?_append_left, hj]
          rcases Nat.lt_or_ge j xs.length with h | h
          · exact h
          · rw [List.getElem?_eq_none h] at hj; cases hj
        have hr := run_append_grow (P := P) w t ty el inf z hu hi hz ⟨g, 0, none⟩ n cap xs hn holds ⟨b2, o2, none⟩ m c2 news hnl hnews (by omega) (by omega) (growslice_fits (by omega) hb)
        have hg := grown cap (by omega) _ rfl
        exact ⟨some w.heap.size, grownCap w (n + m) cap el, _, _, hr, hg.1, hg.2.1, hg.2.2⟩
theorem OpY.append {t el : TypeId} {a c : Operand} {sz by' n cap m i : Nat} {z x : Value} {ob : Option Nat} {xs sp news : List Value} (hu : P.underlying t = some (.slice el)) (ti : TI P el sz by' z) (hzc : z.cells.size = sz) (hsz : 0 < sz)
 (ha : ρ a = sv ob n cap) (hc : ρ c = x) (hL : Loc X B w0 w O C) (hO : O[i]? = some ob) (hC : C[i]? = some (.cells (xs ++ sp))) (hn : xs.length = n * sz) (hcap : (xs ++ sp).length = cap * sz) (hsrc : Src w x m sz news) (h1 : ones news = true)
 (h63 : n + m ≤ 9223372036854775807) (hb : (n + m) * by' ≤ 140737488355328)
 (h : ∀ ob' cap' sp' w', ((xs ++ news) ++ sp').length = cap' * sz → Loc X B w0 w' (O.set i ob') (C.set i (.cells ((xs ++ news) ++ sp'))) → Step O (O.set i ob') w w' → R (sv ob' (n + m) cap') w') :
 OpY P (.call { callee := .builtin .append, args := #[a, c], argTypes := #[t, t] }) ty ρ w R := by
 obtain ⟨inf, hi, hs, hby, hz⟩ := ti
 subst hby
 obtain ⟨ob', cap', sp', w', r1, r2, r3, r4⟩ := run_append_src (P := P) hu hi hs hz hzc hL hO hC hn hcap hsz hsrc h1 h63 hb ty
 simp only [OpY, bareOp, execOp, resolve, invoke, builtin]
 simp [ha, hc, r1, upon]
 exact h _ _ _ _ r2 r3 r4
theorem run_sliceAt {t el : TypeId} {inf : TypeInfo} (hu : P.underlying t = some (.slice el)) (hi : P.info? el = some inf) (a : Option Addr) (len cap l h : Nat) (lo hi' : Option Value) (hlo : (lo = none ∧ l = 0) ∨ ∃ k, lo = some (.int k ((l : Nat) : Int))) (hhi : (hi' = none ∧ h = len) ∨ ∃ k, hi' = some (.int k ((h : Nat) : Int))) (h1 : l ≤ h) (h2 : h ≤ cap) :
 (Instr.sliceAt t (.slice a len cap) lo hi' none).run P w = .ok (.slice (if cap = l then a else a.map (·.add (l * inf.size))) (h - l) (cap - l)) w := by
 have g1 : (l : Int) ≤ (h : Int) := by omega
 have g2 : (h : Int) ≤ (cap : Int) := by omega
 have b1 : ∀ k, (Instr.sliceBound (.int k ((h : Nat) : Int)) cap .sliceAcap).run P w = .ok h w := by
  intro k; simp [Instr.sliceBound, asIntOf, g2, h2]
 have b2 : ∀ k, (Instr.sliceBound (.int k ((l : Nat) : Int)) h .sliceB).run P w = .ok l w := by
  intro k; simp [Instr.sliceBound, asIntOf, g1, h1]
 rcases hlo with ⟨rfl, rfl⟩ | ⟨k, rfl⟩ <;> rcases hhi with ⟨rfl, rfl⟩ | ⟨k', rfl⟩ <;>
  simp [Instr.sliceAt, Instr.slice, run_underlying hu, Instr.sliceBounds, b1, b2, sizeOf, typeInfo, hi]
theorem Sl.cut {α : Type} {sz : Nat} {Rr : Hp → List Value → α → Prop} {H : Hp} {a : Option Addr} {len cap l h : Nat} {xs : List α} (hS : Sl sz Rr H (.slice a len cap) xs) (h1 : l ≤ h) (h2 : h ≤ xs.length) :
 len = xs.length ∧ h ≤ cap ∧ Sl sz Rr H (.slice (if cap = l then a else a.map (·.add (l * sz))) (h - l) (cap - l)) ((xs.take h).drop l) := by
 rcases hS with ⟨⟨oa, hv⟩, hx⟩ | ⟨b, o, cap', hv, hc, hxs⟩
 · cases hv; subst hx
   have : h = 0 := by simpa using h2
   subst this
   have : l = 0 := by omega
   subst this
   exact ⟨rfl, Nat.le_refl _, .inl ⟨⟨a, by simp⟩, by simp⟩⟩
 · cases hv
   refine ⟨rfl, by omega, ?_⟩
   have hlen : ((xs.take h).drop l).length = h - l := by simp; omega
   by_cases hcl : cap = l
   · have : h = l := by omega
     subst this
     have hnil : (xs.take h).drop h = [] := List.eq_nil_of_length_eq_zero (by rw [hlen]; omega)
     rw [if_pos hcl, hnil, Nat.sub_self]
     refine .inr ⟨b, o, cap - h, rfl, by simp, fun i x hi => by simp at hi⟩
   · rw [if_neg hcl]
     refine .inr ⟨b, o + l * sz, cap - l, ?_, by rw [hlen]; omega, fun i x hi => ?_⟩
     · rw [hlen]; simp [add_plain]
     · have hi2 : xs[l + i]? = some x := by
        rw [List.getElem?_drop, List.getElem?_take] at hi
        split at hi
        · exact hi
        · cases hi
       obtain ⟨vs, g1, g2, g3⟩ := hxs (l + i) x hi2
       refine ⟨vs, g1, ?_, g3⟩
       rw [Nat.add_assoc, ← Nat.add_mul]; exact g2
def isNil : Value → Bool
 | .slice none _ _ => true
 | _ => false
theorem run_equalIn_nil (d : Nat) {t el : TypeId} (hu : P.underlying t = some (.slice el)) (a : Option Addr) (n c : Nat) : (Op.equalIn (d + 1) t (.slice a n c) (.slice none 0 0)).run P w = .ok a.isNone w := by
 cases a <;> simp [Op.equalIn, run_underlying hu]
theorem OpY.eqlNil {t u el : TypeId} {a b : Operand} {v : Value} (hu : P.underlying t = some (.slice el)) (ha : ρ a = v) (hv : ∃ p n c, v = .slice p n c) (hb : ρ b = .slice none 0 0) (h : R (.bool (isNil v)) w) : OpY P (.binOp .eql t a b u) ty ρ w R := by
 obtain ⟨p, n, c, rfl⟩ := hv
 have hr : (Op.equal t (.slice p n c) (.slice none 0 0)).run P w = .ok p.isNone w := run_equalIn_nil 9999 hu p n c
 simp only [OpY, bareOp, execOp, ha, hb]
 simp only [binOp, eqGuard]
 simp [hr, upon]
 cases p <;> exact h
theorem Sl.isSlice {α : Type} {sz : Nat} {Rr : Hp → List Value → α → Prop} {H : Hp} {v : Value} {xs : List α} (hS : Sl sz Rr H v xs) : ∃ p n c, v = .slice p n c := by
 rcases hS with ⟨⟨oa, h⟩, _⟩ | ⟨b, o, c, h, _⟩ <;> exact ⟨_, _, _, h⟩
theorem Sl.of_isNil {α : Type} {sz : Nat} {Rr : Hp → List Value → α → Prop} {H : Hp} {v : Value} {xs : List α} (hS : Sl sz Rr H v xs) (h : isNil v = true) : xs = [] ∧ v = .slice none 0 0 := by
 rcases hS with ⟨h1, h2⟩ | ⟨b, o, c, h1, _⟩
 · obtain ⟨oa, h1⟩ := h1
   cases oa with
   | none => exact ⟨h2, h1⟩
   | some a => subst h1; simp [isNil] at h
 · subst h1; simp [isNil] at h
def bytesOk (xs : List Nat) : Prop := ∀ x ∈ xs, x < 256
theorem toList_loop_eq (s : ByteArray) : s.toList = s.data.toList := by
 have hsz : s.size = s.data.toList.length := rfl
 have key : ∀ (n i : Nat) (r : List UInt8), s.size - i = n → ByteArray.toList.loop s i r = r.reverse ++ s.data.toList.drop i := by
  intro n
  induction n with
  | zero =>
   intro i r h
   unfold ByteArray.toList.loop
   rw [if_neg (by omega), List.drop_of_length_le (by rw [← hsz]; omega)]
   simp
  | succ n ih =>
   intro i r h
   unfold ByteArray.toList.loop
   rw [if_pos (by omega), ih (i + 1) _ (by omega)]
   have hi : i < s.data.toList.length := by rw [← hsz]; omega
   rw [List.drop_eq_getElem_cons hi]
   have : s.get! i = s.data.toList[i] := by
    simp only [ByteArray.get!]
    simp [Array.getElem!_eq_getD]
    rw [Array.getElem?_eq_getElem (by simpa using hi)]; rfl
   simp [this]
 have := key s.size 0 [] (by simp)
 simpa [ByteArray.toList] using this
theorem ofNat_inj {a b : Nat} (ha : a < 256) (hb : b < 256) (h : UInt8.ofNat a = UInt8.ofNat b) : a = b := by
 have := congrArg UInt8.toNat h
 simp [UInt8.toNat_ofNat'] at this
 omega
end
end Go.X
set_option linter.unusedSimpArgs false
set_option linter.unusedVariables false
namespace Go.X
open Go Go.RowKit
section
variable {P : Program} {ty : TypeId} {ρ : Operand → Value} {w : World} {R : Value → World → Prop} {X B : List (Option Nat)} {w0 : World} {O : List (Option Nat)} {C : List Cont}
theorem Bok.sub {O O' A : List (Option Nat)} (hB : Bok (O ++ A) w) (h : ∀ b, b ∈ O' → b ∈ O) : Bok (O' ++ A) w := by
 intro b hb
 rcases List.mem_append.1 hb with h1 | h1
 · exact hB b (List.mem_append_left _ (h _ h1))
 · exact hB b (List.mem_append_right _ h1)
end
theorem own_cells {w : World} {b : Nat} {vs : List Value} (h : OwnC w (some b) (.cells vs)) {o : Nat} (ho : o = 0) : ∀ j v, vs[j]? = some v → w.cell? ((⟨b, o, none⟩ : Addr).add j) = some v := by
 intro j v hj
 subst ho
 rw [add_plain, Nat.zero_add]
 exact cell_own h hj
end Go.X
set_option linter.unusedSimpArgs false
set_option linter.unusedVariables false
namespace Go.X
open Go Go.RowKit
inductive Ph where
 | det (c : Value)
 | rel (Φ : Value → World → Prop)
def Ph.holds : Ph → Value → World → Prop
 | .det c, v, _ => v = c
 | .rel Φ, v, w => Φ v w
def depsOf (o : Oper) : List Nat := (o.after.toList.filter (Region.binds .any ·)).map (·.on)
def factsD (ds : List Nat) : List (Nat × (World → Prop)) → World → Prop
 | [], _ => True
 | (j, f) :: r, w => (bif memN j ds then f w else True) ∧ factsD ds r w
def factsA : List (Nat × (World → Prop)) → World → Prop
 | [], _ => True
 | (_, f) :: r, w => f w ∧ factsA r w
def GOp (P : Program) (l : List Oper) (o : Oper) (e : Env) (w : World) (R : Value → World → Prop) : Prop :=
 match wantedE l o e with
 | true => OpY P o.op o.type (ev e) w R
 | false => R undef w
def DrG (P : Program) (l : List Oper) (w0 : World) (K : Env → World → Prop) : List Oper → List Ph → Env → List (Nat × (World → Prop)) → Nat → Prop
 | [], _, e, F, _ => ∀ w', Ext w0 w' → factsA F w' → K e w'
 | o :: r, .det c :: Φs, e, F, i => (∀ w', Ext w0 w' → factsD (depsOf o) F w' → GOp P l o e w' fun v w'' => Ext w' w'' ∧ v = c) ∧ DrG P l w0 K r Φs (updo e o.dst c) F (i + 1)
 | o :: r, .rel Φ :: Φs, e, F, i => (∀ w', Ext w0 w' → factsD (depsOf o) F w' → GOp P l o e w' fun v w'' => Ext w' w'' ∧ Φ v w'') ∧ ∀ v, DrG P l w0 K r Φs (updo e o.dst v) ((i, Φ v) :: F) (i + 1)
 | _ :: _, [], _, _, _ => False
section
variable {P : Program} {l : List Oper} {e : Env} {w : World} {R : Value → World → Prop}
theorem GOp.op {d : Option Nat} {op : Op} {ty : TypeId} {pos : String} {after : Array Edge} (h : OpY P op ty (ev e) w R) : GOp P l { dst := d, op := op, type := ty, pos := pos, after := after, guard := none } e w R := h
theorem GOp.yes {d : Option Nat} {j dj : Nat} {b b' : Bool} {op : Op} {ty : TypeId} {pos : String} {after : Array Edge} (hd : dstAt l j = some dj) (hv : e dj = .bool b') (hb : b' = b) (h : OpY P op ty (ev e) w R) :
 GOp P l { dst := d, op := op, type := ty, pos := pos, after := after, guard := some (j, b) } e w R := by
 have : wantedE l { dst := d, op := op, type := ty, pos := pos, after := after, guard := some (j, b) } e = true := by simp [wantedE, gy, hd, hv, hb]
 simp only [GOp, this]; exact h
theorem GOp.no {d : Option Nat} {j dj : Nat} {b b' : Bool} {op : Op} {ty : TypeId} {pos : String} {after : Array Edge} (hd : dstAt l j = some dj) (hv : e dj = .bool b') (hb : b' = !b) (h : R undef w) :
 GOp P l { dst := d, op := op, type := ty, pos := pos, after := after, guard := some (j, b) } e w R := by
 have : wantedE l { dst := d, op := op, type := ty, pos := pos, after := after, guard := some (j, b) } e = false := by simp [wantedE, gy, hd, hv, hb]
 simp only [GOp, this]; exact h
theorem GOp.no_undef {d : Option Nat} {j dj : Nat} {b : Bool} {op : Op} {ty : TypeId} {pos : String} {after : Array Edge} (hd : dstAt l j = some dj) (hv : e dj = undef) (h : R undef w) :
 GOp P l { dst := d, op := op, type := ty, pos := pos, after := after, guard := some (j, b) } e w R := by
 have : wantedE l { dst := d, op := op, type := ty, pos := pos, after := after, guard := some (j, b) } e = false := by simp [wantedE, gy, hd, hv, undef]
 simp only [GOp, this]; exact h
end
def looksE (l : List Oper) (o : Oper) : List Nat :=
 (o.op.operands.toList.filterMap fun | .tmp t => some t | _ => none) ++ (match o.guard with | some (g, _) => (dstAt l g).toList | none => [])
def isSel : Op → Bool
 | .select _ _ => true
 | _ => false
def lookOk (l : List Oper) (n0 i : Nat) (o : Oper) : Bool :=
 (looksE l o).all fun t => (List.range n0).all fun j => !(dstAt l j == some t) || (memN j (depsOf o) && Nat.blt j i) || (Nat.blt i j && match l[j]? with
  | some o' => memN i (depsOf o')
  | none => false)
def uniqOk (l : List Oper) (n0 : Nat) : Bool :=
 (List.range n0).all fun i => (List.range n0).all fun j => Nat.beq i j || !(dstAt l i == dstAt l j)
def headOk (l : List Oper) (n0 : Nat) : Bool :=
 (List.range n0).all fun i => match l[i]? with
  | some o => o.dst.isSome && lookOk l n0 i o && !isSel o.op
  | none => false
def backOk (l : List Oper) : Bool := (List.range l.length).all fun i => match l[i]? with
 | some o => (depsOf o).all fun j => Nat.blt j i
 | none => true
def waitB (l : List Oper) (j i : Nat) : Bool := match l[j]? with
 | some o => memN i (depsOf o)
 | none => false
def sinkOk (l : List Oper) (n0 : Nat) : Bool := Nat.beq n0 l.length || (List.range n0).all fun i => (List.range (n0 + 1)).any fun j => Nat.blt i j && waitB l j i
def chainOk (l : List Oper) (n0 : Nat) : Bool := (List.range l.length).all fun t => Nat.ble t n0 || waitB l t (t - 1)
def drawOk (l : List Oper) (n0 : Nat) : Bool := Nat.ble n0 l.length && headOk l n0 && uniqOk l n0 && backOk l && sinkOk l n0 && chainOk l n0
theorem memN_iff {i : Nat} {l : List Nat} : memN i l = true ↔ i ∈ l := by
 induction l with
 | nil => simp [memN]
 | cons x r ih =>
  simp only [memN, Bool.or_eq_true, ih, List.mem_cons]
  constructor
  · rintro (h | h)
    · exact .inl (Nat.eq_of_beq_eq_true h)
    · exact .inr h
  · rintro (h | h)
    · exact .inl (by subst h; exact Nat.beq_refl i)
    · exact .inr h
section
variable {P : Program} {l : List Oper} {n n0 : Nat} {K : Env → World → Prop} {e : Env} {w0 : World}
def envAll (l : List Oper) (e : Env) (vs : Nat → Value) : Nat → Env
 | 0 => e
 | i + 1 => updo (envAll l e vs i) (dstAt l i) (vs i)
def Fall (Φs : List Ph) (vs : Nat → Value) : Nat → List (Nat × (World → Prop))
 | 0 => []
 | i + 1 => match Φs[i]? with
  | some (.rel Φ) => (i, Φ (vs i)) :: Fall Φs vs i
  | _ => Fall Φs vs i
def fits (Φs : List Ph) (vs : Nat → Value) : Prop := ∀ (i : Nat) c, Φs[i]? = some (Ph.det c) → vs i = c
theorem dr_at {Φs : List Ph} (hl : n0 ≤ l.length) (h : DrG P l w0 K (l.take n0) Φs e [] 0) (vs : Nat → Value) (hv : fits Φs vs) : ∀ i, i ≤ n0 → DrG P l w0 K ((l.take n0).drop i) (Φs.drop i) (envAll l e vs i) (Fall Φs vs i) i
 | 0, _ => by simpa [envAll, Fall] using h
 | i + 1, hi => by
  have ih := dr_at hl h vs hv i (by omega)
  have hlt : i < (l.take n0).length := by simp; omega
  rw [List.drop_eq_getElem_cons hlt] at ih
  have hd : dstAt l i = ((l.take n0)[i]).dst := by
   simp only [dstAt, List.getElem_take]
   rw [List.getElem?_eq_getElem (by omega)]; rfl
  cases hΦ : Φs[i]? with
  | none =>
   have : Φs.drop i = [] := List.drop_eq_nil_of_le (List.getElem?_eq_none_iff.1 hΦ)
   rw [this] at ih; exact ih.elim
  | some ph =>
   have hlt2 : i < Φs.length := by
    rcases Nat.lt_or_ge i Φs.length with h2 | h2
    · exact h2
    · rw [List.getElem?_eq_none h2] at hΦ; cases hΦ
   have hc : Φs.drop i = ph :: Φs.drop (i + 1) := by
    rw [List.drop_eq_getElem_cons hlt2]; congr 1
    rw [List.getElem?_eq_getElem hlt2] at hΦ; exact Option.some.inj hΦ
   rw [hc] at ih
   cases ph with
   | det c =>
    have := ih.2
    have hvc := hv i c hΦ
    simp only [envAll, Fall, hΦ, hd, hvc]
    exact this
   | rel Φ =>
    have := ih.2 (vs i)
    simp only [envAll, Fall, hΦ, hd]
    exact this
theorem factsD_of {Φs : List Ph} {vs : Nat → Value} {ds : List Nat} {w : World} : ∀ i, (∀ j ph, j < i → j ∈ ds → Φs[j]? = some ph → ph.holds (vs j) w) → factsD ds (Fall Φs vs i) w
 | 0, _ => trivial
 | i + 1, h => by
  have ih := factsD_of (Φs := Φs) (vs := vs) (ds := ds) (w := w) i (fun j ph hj => h j ph (by omega))
  simp only [Fall]
  cases hΦ : Φs[i]? with
  | none => exact ih
  | some ph =>
   cases ph with
   | det c => exact ih
   | rel Φ =>
    refine ⟨?_, ih⟩
    cases hm : memN i ds with
    | false => trivial
    | true => exact h i _ (by omega) (memN_iff.1 hm) hΦ
theorem envAll_not {vs : Nat → Value} {t : Nat} : ∀ i, (∀ j, j < i → dstAt l j ≠ some t) → envAll l e vs i t = e t
 | 0, _ => rfl
 | i + 1, h => by
  have ih := envAll_not (vs := vs) (t := t) i (fun j hj => h j (by omega))
  simp only [envAll]
  cases hd : dstAt l i with
  | none => exact ih
  | some d =>
   simp only [updo]
   rw [upd_other _ _ (fun he => h i (by omega) (by rw [hd, he]))]
   exact ih
theorem envAll_at {vs : Nat → Value} {t j : Nat} (hd : dstAt l j = some t) : ∀ i, j < i → (∀ k, k < i → dstAt l k = some t → k = j) → envAll l e vs i t = vs j
 | i + 1, hj, hu => by
  simp only [envAll]
  by_cases h : i = j
  · subst h; rw [hd]; exact upd_same _ _ _
  · have ih := envAll_at (vs := vs) hd i (by omega) (fun k hk => hu k (by omega))
    cases hdi : dstAt l i with
    | none => exact ih
    | some d =>
     simp only [updo]
     rw [upd_other _ _ (fun he => h (hu i (by omega) (by rw [hdi, he])))]
     exact ih
theorem GOp_congr {o : Oper} {e e' : Env} {w : World} {R : Value → World → Prop} (hs : isSel o.op = false) (h : ∀ t, t ∈ looksE l o → e t = e' t) (hg : GOp P l o e w R) : GOp P l o e' w R := by
 have hw : wantedE l o e = wantedE l o e' := by
  unfold wantedE
  cases hgd : o.guard with
  | none => rfl
  | some p =>
   obtain ⟨j, b⟩ := p
   simp only [gy]
   cases hd : dstAt l j with
   | none => rfl
   | some d =>
    have : e d = e' d := h d (by simp [looksE, hgd, hd])
    simp only [this]
 have he : execOp (ev e) (bareOp o.op o.type) = execOp (ev e') (bareOp o.op o.type) := by
  refine execOp_congr _ (fun cs b hc => ?_) fun x hx => ?_
  · simp only [bareOp] at hc; rw [hc] at hs; simp [isSel] at hs
  · cases x with
    | tmp t => exact h t (List.mem_append_left _ (List.mem_filterMap.2 ⟨.tmp t, by simpa [bareOp] using hx, rfl⟩))
    | _ => rfl
 unfold GOp at *
 rw [← hw]
 cases hb : wantedE l o e with
 | true => rw [hb] at hg; simp only [OpY] at *; rw [← he]; exact hg
 | false => rw [hb] at hg; exact hg
def stable : List Ph → Prop
 | [] => True
 | .det _ :: r => stable r
 | .rel Φ :: r => (∀ v w w', Ext w w' → Φ v w → Φ v w') ∧ stable r
theorem stable_at {Φs : List Ph} (h : stable Φs) : ∀ (i : Nat) (ph : Ph), Φs[i]? = some ph → ∀ v w w', Ext w w' → ph.holds v w → ph.holds v w' := by
 induction Φs with
 | nil => intro i ph hi; simp at hi
 | cons x r ih =>
  intro i ph hi v w w' hE hv
  cases i with
  | zero =>
   simp at hi; subst hi
   cases x with
   | det c => exact hv
   | rel Φ => exact h.1 v w w' hE hv
  | succ i =>
   have hr : stable r := by cases x with | det c => exact h | rel Φ => exact h.2
   exact ih hr i ph (by simpa using hi) v w w' hE hv
def lst (listed : Array Bool) (j : Nat) : Prop := listed.getD j false = true
structure Inv (l : List Oper) (n n0 : Nat) (e : Env) (w0 : World) (Φs : List Ph) (listed : Array Bool) (a : Act) (w : World) (vs : Nat → Value) : Prop where
 size : listed.size = l.length
 tmps : a.tmps.size = n
 defs : a.defers = []
 ext : Ext w0 w
 fit : fits Φs vs
 env1 : ∀ t j, j < n0 → dstAt l j = some t → lst listed j → envOf a t = vs j
 env2 : ∀ t, (∀ j, j < n0 → lst listed j → dstAt l j ≠ some t) → envOf a t = e t
 holds : ∀ j ph, j < n0 → lst listed j → Φs[j]? = some ph → ph.holds (vs j) w
theorem lst_set {listed : Array Bool} {i j : Nat} : lst (listed.setIfInBounds i true) j → lst listed j ∨ (j = i) := by
 intro h
 by_cases hj : i = j
 · exact .inr hj.symm
 · left; unfold lst at *; rwa [getD_set_ne false hj] at h
theorem wpOp_of_GOp {Q : Exit → Act → World → Prop} {i : Nat} {o : Oper} {a : Act} {w : World} {R : Value → World → Prop} {K' : Act → World → Prop} (hd : ∀ o, o ∈ l → ∀ d, o.dst = some d → d < a.tmps.size) (ho : l[i]? = some o)
 (h : GOp P l o (envOf a) w R) (hk : ∀ v w', R v w' → K' (a.put o.dst v) w') : wpOp P l.toArray Q i K' a w := by
 unfold wpOp
 rw [List.getElem?_toArray, ho]
 simp only [wanted_eq hd o]
 unfold GOp at h
 cases hw : wantedE l o (envOf a) with
 | true => rw [hw] at h; simp only [if_true]; exact .inl (wp_of_OpY h hk)
 | false => rw [hw] at h; simp only [Bool.false_eq_true, if_false]; exact hk _ _ h
theorem drawOk_spec (h : drawOk l n0 = true) : n0 ≤ l.length ∧ headOk l n0 = true ∧ uniqOk l n0 = true ∧ backOk l = true ∧ sinkOk l n0 = true ∧ chainOk l n0 = true := by
 simp only [drawOk, Bool.and_eq_true] at h
 obtain ⟨⟨⟨⟨⟨h1, h2⟩, h3⟩, h4⟩, h5⟩, h6⟩ := h
 exact ⟨by simpa using h1, h2, h3, h4, h5, h6⟩
theorem head_at (h : headOk l n0 = true) {i : Nat} {o : Oper} (hi : i < n0) (ho : l[i]? = some o) : (∃ d, o.dst = some d) ∧ lookOk l n0 i o = true ∧ isSel o.op = false := by
 have := List.all_eq_true.1 h i (List.mem_range.2 hi)
 rw [ho] at this
 simp only [Bool.and_eq_true, Bool.not_eq_true'] at this
 exact ⟨Option.isSome_iff_exists.1 this.1.1, this.1.2, this.2⟩
theorem look_at {i j t : Nat} {o : Oper} (h : lookOk l n0 i o = true) (ht : t ∈ looksE l o) (hj : j < n0) (hd : dstAt l j = some t) : (j ∈ depsOf o ∧ j < i) ∨ (i < j ∧ ∃ o', l[j]? = some o' ∧ i ∈ depsOf o') := by
 have := List.all_eq_true.1 (List.all_eq_true.1 h t ht) j (List.mem_range.2 hj)
 rw [hd] at this
 simp only [beq_self_eq_true, Bool.not_true, Bool.false_or, Bool.or_eq_true, Bool.and_eq_true] at this
 rcases this with this | this
 · exact .inl ⟨memN_iff.1 this.1, by simpa using this.2⟩
 · refine .inr ⟨by simpa using this.1, ?_⟩
   have h2 := this.2
   cases ho : l[j]? with
   | none => rw [ho] at h2; cases h2
   | some o' => rw [ho] at h2; exact ⟨o', rfl, memN_iff.1 h2⟩
theorem uniq_at (h : uniqOk l n0 = true) {i j t : Nat} (hi : i < n0) (hj : j < n0) (h1 : dstAt l i = some t) (h2 : dstAt l j = some t) : i = j := by
 have := List.all_eq_true.1 (List.all_eq_true.1 h i (List.mem_range.2 hi)) j (List.mem_range.2 hj)
 rw [h1, h2] at this
 simp only [beq_self_eq_true, Bool.not_true, Bool.or_false] at this
 exact Nat.eq_of_beq_eq_true this
theorem back_at (h : backOk l = true) {i j : Nat} {o : Oper} (ho : l[i]? = some o) (hj : j ∈ depsOf o) : j < i := by
 have hi : i < l.length := by
  rcases Nat.lt_or_ge i l.length with h2 | h2
  · exact h2
  · rw [List.getElem?_eq_none h2] at ho; cases ho
 have := List.all_eq_true.1 h i (List.mem_range.2 hi)
 rw [ho] at this
 simpa using List.all_eq_true.1 this j hj
theorem ready_deps {listed : Array Bool} {i : Nat} {o : Oper} (h : i ∈ Region.ready .any l.toArray listed) (ho : l[i]? = some o) : listed.getD i true = false ∧ ∀ j ∈ depsOf o, lst listed j := by
 obtain ⟨h1, o', ho', h2⟩ := mem_ready.1 h
 rw [List.getElem?_toArray, ho] at ho'
 cases ho'
 refine ⟨h1, fun j hj => ?_⟩
 simp only [depsOf, List.mem_map, List.mem_filter] at hj
 obtain ⟨e, ⟨he, hb⟩, rfl⟩ := hj
 exact h2 e (by simpa using he) hb
theorem ready_of {listed : Array Bool} {i : Nat} {o : Oper} (ho : l[i]? = some o) (h1 : listed.getD i true = false) (h2 : ∀ j ∈ depsOf o, lst listed j) : i ∈ Region.ready .any l.toArray listed := by
 refine mem_ready.2 ⟨h1, o, by rw [List.getElem?_toArray]; exact ho, fun e he hb => h2 e.on ?_⟩
 simp only [depsOf, List.mem_map, List.mem_filter]
 exact ⟨e, ⟨by simpa using he, hb⟩, rfl⟩
theorem Inv.step {Φs : List Ph} {listed : Array Bool} {a : Act} {w : World} {vs : Nat → Value} {Q : Exit → Act → World → Prop} {K' : Act → World → Prop} (hok : dstsOk n l = true) (hdr : drawOk l n0 = true) (hst : stable Φs)
 (hDr : DrG P l w0 K (l.take n0) Φs e [] 0) (inv : Inv l n n0 e w0 Φs listed a w vs) (hcl : ∀ j oj, l[j]? = some oj → lst listed j → ∀ d ∈ depsOf oj, lst listed d) {i : Nat} (hi : i < n0) (hr : i ∈ Region.ready .any l.toArray listed)
 (hk : ∀ a' w' vs', Inv l n n0 e w0 Φs (listed.setIfInBounds i true) a' w' vs' → K' a' w') : wpOp P l.toArray Q i K' a w := by
 obtain ⟨hn, hh, hu, hb, _, _⟩ := drawOk_spec hdr
 have ho : l[i]? = some l[i] := List.getElem?_eq_getElem (by omega)
 obtain ⟨⟨d, hd⟩, hlook, hsel⟩ := head_at hh hi ho
 obtain ⟨hun, hdeps⟩ := ready_deps hr ho
 have hdst : dstAt l i = some d := by simp only [dstAt, ho]; exact hd
 have hsz : i < listed.size := by rw [inv.size]; omega
 have hset : ∀ j, lst (listed.setIfInBounds i true) j ↔ (lst listed j ∨ j = i) := by
  intro j
  constructor
  · exact lst_set
  · rintro (h | h)
    · exact getD_set_true h
    · subst h; simp [lst, hsz]
 have hnl : ¬ lst listed i := by
  intro h; unfold lst at h
  simp [hsz] at hun h; rw [hun] at h; cases h
 have hdd : ∀ o, o ∈ l → ∀ d, o.dst = some d → d < a.tmps.size := by rw [inv.tmps]; exact dstsOk_spec hok
 have hDi := dr_at hn hDr vs inv.fit i (by omega)
 have hlt : i < (l.take n0).length := by simp; omega
 rw [List.drop_eq_getElem_cons hlt] at hDi
 have hgi : (l.take n0)[i] = l[i] := by simp
 rw [hgi] at hDi
 have hagree : ∀ t, t ∈ looksE l l[i] → envAll l e vs i t = envOf a t := by
  intro t ht
  by_cases hex : ∃ j, j < n0 ∧ dstAt l j = some t
  · obtain ⟨j, hj, hjd⟩ := hex
    rcases look_at hlook ht hj hjd with ⟨h1, h2⟩ | ⟨h1, oj, h2, h3⟩
    · rw [envAll_at hjd i h2 (fun k hk hkd => uniq_at hu (by omega) hj hkd hjd), inv.env1 t j hj hjd (hdeps j h1)]
    · have hjn : ¬ lst listed j := fun h => hnl (hcl j oj h2 h i h3)
      rw [envAll_not i (fun k hk hkd => by have := uniq_at hu (show k < n0 by omega) hj hkd hjd; omega), inv.env2 t (fun k hk hl hkd => by have := uniq_at hu hk hj hkd hjd; subst this; exact hjn hl)]
  · rw [envAll_not i (fun j hj hjd => hex ⟨j, by omega, hjd⟩), inv.env2 t (fun j hj _ hjd => hex ⟨j, hj, hjd⟩)]
 have hfacts : factsD (depsOf l[i]) (Fall Φs vs i) w := factsD_of i (fun j ph hj hm hph => inv.holds j ph (by omega) (hdeps j hm) hph)
 have next : ∀ ph, Φs[i]? = some ph → ∀ v w', Ext w w' → ph.holds v w' → K' (a.put l[i].dst v) w' := by
  intro ph hph v w' hE hv
  refine hk _ w' (fun j => if j = i then v else vs j) ⟨by simp [inv.size], by rw [put_size]; exact inv.tmps, by rw [put_defers']; exact inv.defs, inv.ext.trans hE, ?_, ?_, ?_, ?_⟩
  · intro j c hc
    by_cases hj : j = i
    · subst hj; rw [hph] at hc; cases hc; simpa [Ph.holds] using hv
    · simp only [hj, if_false]; exact inv.fit j c hc
  · intro t j hj hjd hl
    rw [hd, envOf_put a inv.tmps (by rw [← inv.tmps]; exact hdd _ (List.mem_of_getElem? ho) d hd)]
    by_cases hji : j = i
    · subst hji
      rw [hdst] at hjd; cases hjd
      simp [upd_same]
    · have htd : t ≠ d := fun h => hji (uniq_at hu hj hi hjd (by rw [hdst, h]))
      rw [upd_other _ _ htd]
      simp only [hji, if_false]
      exact inv.env1 t j hj hjd (((hset j).1 hl).resolve_right hji)
  · intro t ht
    rw [hd, envOf_put a inv.tmps (by rw [← inv.tmps]; exact hdd _ (List.mem_of_getElem? ho) d hd)]
    have htd : t ≠ d := fun h => ht i hi ((hset i).2 (.inr rfl)) (by rw [hdst, h])
    rw [upd_other _ _ htd]
    exact inv.env2 t (fun j hj hl => ht j hj ((hset j).2 (.inl hl)))
  · intro j ph' hj hl hph'
    by_cases hji : j = i
    · subst hji; rw [hph] at hph'; cases hph'; simpa using hv
    · simp only [hji, if_false]
      exact stable_at hst j ph' hph' _ _ _ hE (inv.holds j ph' hj (((hset j).1 hl).resolve_right hji) hph')
 cases hph : Φs[i]? with
 | none =>
  have : Φs.drop i = [] := List.drop_eq_nil_of_le (List.getElem?_eq_none_iff.1 hph)
  rw [this] at hDi; exact hDi.elim
 | some ph =>
  have hlt2 : i < Φs.length := by
   rcases Nat.lt_or_ge i Φs.length with h2 | h2
   · exact h2
   · rw [List.getElem?_eq_none h2] at hph; cases hph
  have hc : Φs.drop i = ph :: Φs.drop (i + 1) := by
   rw [List.drop_eq_getElem_cons hlt2]; congr 1
   rw [List.getElem?_eq_getElem hlt2] at hph; exact Option.some.inj hph
  rw [hc] at hDi
  cases ph with
  | det c => exact wpOp_of_GOp hdd ho (GOp_congr hsel hagree (hDi.1 w inv.ext hfacts)) fun v w' hv => next _ hph v w' hv.1 hv.2
  | rel Φ => exact wpOp_of_GOp hdd ho (GOp_congr hsel hagree (hDi.1 w inv.ext hfacts)) fun v w' hv => next _ hph v w' hv.1 hv.2
theorem filter_lt {p p' : Nat → Bool} : ∀ {xs : List Nat}, (∀ x ∈ xs, p' x = true → p x = true) → (∃ x ∈ xs, p x = true ∧ p' x = false) → (xs.filter p').length < (xs.filter p).length
 | [], _, h => by obtain ⟨x, hx, _⟩ := h; cases hx
 | y :: r, hs, h => by
  have hle : (r.filter p').length ≤ (r.filter p).length := by
   have : ∀ {zs : List Nat}, (∀ x ∈ zs, p' x = true → p x = true) → (zs.filter p').length ≤ (zs.filter p).length := by
    intro zs
    induction zs with
    | nil => intro _; simp
    | cons z zs ih =>
     intro hz
     have h1 := ih (fun x hx => hz x (List.mem_cons_of_mem _ hx))
     have h2 := hz z List.mem_cons_self
     cases h3 : p' z with
     | true => simp [h3, h2 h3]; omega
     | false =>
      cases h4 : p z <;> simp [h3, h4] <;> omega
   exact this (fun x hx => hs x (List.mem_cons_of_mem _ hx))
  obtain ⟨x, hx, h1, h2⟩ := h
  cases hx with
  | head => simp [h1, h2]; omega
  | tail _ hm =>
   have ih := filter_lt (xs := r) (fun x hx => hs x (List.mem_cons_of_mem _ hx)) ⟨x, hm, h1, h2⟩
   have h3 := hs y List.mem_cons_self
   cases h4 : p' y with
   | true => simp [h4, h3 h4]; omega
   | false => cases h5 : p y <;> simp [h4, h5] <;> omega
def cnt (l : List Oper) (listed : Array Bool) : Nat := ((List.range l.length).filter fun j => !(listed.getD j true)).length
theorem cnt_set {listed : Array Bool} {i : Nat} (hs : listed.size = l.length) (hi : i < l.length) (hu : listed.getD i true = false) : cnt l (listed.setIfInBounds i true) < cnt l listed := by
 refine filter_lt (fun x _ h => ?_) ⟨i, List.mem_range.2 hi, by simp only [hu, Bool.not_false], ?_⟩
 · by_cases hx : i = x
   · subst hx; simp only [hu, Bool.not_false]
   · rwa [getD_set_ne true hx] at h
 · have : i < listed.size := by omega
   simp [this]
theorem cnt_zero {listed : Array Bool} (h : cnt l listed = 0) {j : Nat} (hj : j < l.length) : listed.getD j true = true := by
 have := List.eq_nil_of_length_eq_zero h
 have h2 := List.filter_eq_nil_iff.1 this j (List.mem_range.2 hj)
 simpa using h2
theorem Rl_GOp {o : Oper} {r : List Oper} {E : Env} {w : World} : Rl P l (o :: r) K E w = GOp P l o E w (fun v w' => Rl P l r K (updo E o.dst v) w') := by
 first
 | (simp only [Rl, GOp]; done)
 | (simp only [Rl, GOp]; cases wantedE l o E <;> rfl)
end
section
variable {P : Program} {l : List Oper} {w0 : World} {K : Env → World → Prop} {r : List Oper} {Φs : List Ph} {e : Env} {F : List (Nat × (World → Prop))} {i : Nat}
theorem DrG.det {d : Nat} {op : Op} {ty : TypeId} {pos : String} {after : Array Edge} {guard : Option (Nat × Bool)} {c : Value}
 (h1 : ∀ w', Ext w0 w' → factsD (depsOf { dst := some d, op := op, type := ty, pos := pos, after := after, guard := guard }) F w' → GOp P l { dst := some d, op := op, type := ty, pos := pos, after := after, guard := guard } e w' fun v w'' => Ext w' w'' ∧ v = c)
 (h2 : DrG P l w0 K r Φs (upd e d c) F (i + 1)) : DrG P l w0 K ({ dst := some d, op := op, type := ty, pos := pos, after := after, guard := guard } :: r) (.det c :: Φs) e F i := ⟨h1, h2⟩
theorem DrG.rel {d : Nat} {op : Op} {ty : TypeId} {pos : String} {after : Array Edge} {guard : Option (Nat × Bool)} {Φ : Value → World → Prop}
 (h1 : ∀ w', Ext w0 w' → factsD (depsOf { dst := some d, op := op, type := ty, pos := pos, after := after, guard := guard }) F w' → GOp P l { dst := some d, op := op, type := ty, pos := pos, after := after, guard := guard } e w' fun v w'' => Ext w' w'' ∧ Φ v w'')
 (h2 : ∀ v, DrG P l w0 K r Φs (upd e d v) ((i, Φ v) :: F) (i + 1)) : DrG P l w0 K ({ dst := some d, op := op, type := ty, pos := pos, after := after, guard := guard } :: r) (.rel Φ :: Φs) e F i := ⟨h1, h2⟩
theorem DrG.fin (h : ∀ w', Ext w0 w' → factsA F w' → K e w') : DrG P l w0 K [] Φs e F i := h
end
theorem OwnC.ext {w w' : World} {ob : Option Nat} {c : Cont} (h : OwnC w ob c) (hE : Ext w w') : OwnC w' ob c :=
 h.same fun k hk => hE.block k (by subst hk; exact h.lt)
end Go.X
set_option linter.unusedSimpArgs false
set_option linter.unusedVariables false
namespace Go.X
open Go Go.RowKit
theorem zipfold : ∀ (cs A : List Value) (off k : Nat), (cs.zipIdx k).foldl (fun (a : Array Value) p => a.setIfInBounds (off + p.2) p.1) A.toArray = (putAt A (off + k) cs).toArray
 | [], A, off, k => rfl
 | v :: r, A, off, k => by
  simp only [List.zipIdx_cons, List.foldl_cons, putAt, List.setIfInBounds_toArray]
  rw [zipfold r (A.set (off + k) v) off (k + 1), Nat.add_assoc]
def numbered : Nat → List Value → List (Nat × Value)
 | _, [] => []
 | k, v :: r => (k, v) :: numbered (k + 1) r
def cellsAre (sz : Nat) : List Value → List (List Value) → Prop
 | [], [] => True
 | v :: r, c :: cs => v.cells = c.toArray ∧ c.length = sz ∧ cellsAre sz r cs
 | _, _ => False
theorem fill_run {sz : Nat} : ∀ (vs : List Value) (css : List (List Value)) (k : Nat) (pre post : List Value), pre.length = k * sz → post.length = vs.length * sz → cellsAre sz vs css →
 Instr.fill (fun i => some (i * sz, sz)) (pre ++ post).toArray (numbered k vs) = some (pre ++ css.flatten).toArray
 | [], [], k, pre, post, h1, h2, _ => by
  have : post = [] := List.eq_nil_of_length_eq_zero (by simpa using h2)
  subst this; simp [numbered, Instr.fill]
 | v :: r, c :: cs, k, pre, post, h1, h2, h3 => by
  obtain ⟨g1, g2, g3⟩ := h3
  have hl : sz ≤ post.length := by rw [h2, List.length_cons, Nat.add_mul]; omega
  have hf := zipfold c (pre ++ post) (k * sz) 0
  rw [Nat.add_zero] at hf
  have hp : putAt (pre ++ post) (k * sz) c = (pre ++ c) ++ post.drop sz := by
   rw [← h1, putAt_append pre post c (by omega), g2]
  have ih := fill_run r cs (k + 1) (pre ++ c) (post.drop sz) (by simp [h1, g2, Nat.add_mul]) (by simp [h2, Nat.add_mul]) g3
  simp only [numbered, Instr.fill]
  have h5 : ¬ (v.cells.size ≠ sz ∨ (pre ++ post).toArray.size < k * sz + v.cells.size) := by
   rw [g1]; simp [g2, h1]; omega
  rw [if_neg (by simpa using h5)]
  have h6 : v.cells.zipIdx.foldl (fun (cs : Array Value) (x : Value × Nat) => cs.setIfInBounds (k * sz + x.2) x.1) (pre ++ post).toArray = ((pre ++ c) ++ post.drop sz).toArray := by
   rw [g1, ← hp, ← hf]
   rw [← Array.foldl_toList]; simp
  rw [h6, ih]
  simp
 | [], _ :: _, _, _, _, _, _, h => h.elim
 | _ :: _, [], _, _, _, _, _, h => h.elim
section
variable {P : Program} {ty : TypeId} {ρ : Operand → Value} {w : World} {R : Value → World → Prop} {X B : List (Option Nat)} {w0 : World} {O : List (Option Nat)} {C : List Cont}
theorem OpY.buildSliceV {t el : TypeId} {n : Nat} {parts : List (Nat × Operand)} {sz by' : Nat} {z : Value} {vs : List Value} {css : List (List Value)} (hu : P.underlying t = some (.slice el)) (ti : TI P el sz by' z) (hn : n * sz ≤ 16777216)
 (hp : (parts.map fun p => (p.1, ρ p.2)) = numbered 0 vs) (hvs : vs.length = n) (hc : cellsAre sz vs css) (h0 : 0 < n * sz) (hL : Loc X B w0 w O C)
 (h : ∀ b w', Loc X B w0 w' (some b :: O) (.cells css.flatten :: C) → Step O (some b :: O) w w' → R (.slice (some ⟨b, 0, none⟩) n n) w') : OpY P (.buildSlice t n parts.toArray) ty ρ w R := by
 refine OpY.buildSlice hu ti hn ?_ h0 hL h
 have := fill_run (sz := sz) vs css 0 [] ((Array.range (n * sz)).map (z.cells[· % z.cells.size]!)).toList (by simp) (by simp [hvs]) hc
 rw [hp]
 rw [List.nil_append, List.nil_append, Array.toArray_toList] at this
 exact this
theorem OpY.indexAddr_arr {t el : TypeId} {x y : Operand} {b o n i q : Nat} {k : IntKind} {sz by' : Nat} {z : Value} (hu : P.underlying t = some (.array n el)) (ti : TI P el sz by' z) (hx : ρ x = .pointer (some ⟨b, o, none⟩)) (hy : ρ y = .int k ((i : Nat) : Int)) (hlt : i < n) (hq : o + i * sz = q)
 (h : R (.pointer (some ⟨b, q, none⟩)) w) : OpY P (.indexAddr t x y) ty ρ w R := by
 obtain ⟨inf, hi, hz, _, _⟩ := ti
 subst hq
 have h2 : (i : Int) < n := by omega
 simp only [OpY, bareOp, execOp, hx, hy]
 simp [Instr.indexAt, Instr.sureAddr, run_underlying hu, asIntOf, h2, hlt, sizeOf, typeInfo, hi, hz, upon, add_plain]
 exact h
end
instance (xs : List Nat) : Decidable (bytesOk xs) := inferInstanceAs (Decidable (∀ x ∈ xs, x < 256))
end Go.X
set_option linter.unusedSimpArgs false
set_option linter.unusedVariables false
namespace Go.X
open Go.ChangeShapes Go.WideShapes Go.ChangeAt Go.RowKit
section
variable {H : Type} {enc : TypeId × Value → H} {P : Program} {W : World}
theorem args_stay {W' : World} (hl : laidOutB P = true) (hE : Ext W W') {sp : Nat → Bool} :
 ∀ {ts : List TypeId} {vs : List Value} {ds : List (DataW H)} {p : List MemPlace}, (∀ t ∈ ts, P.readableRec t = true ∧ t < P.types.size) → (∀ x ∈ p, x.block < W.heap.size) → (∀ x ∈ p, sp x.block = true) →
  DataW.TrodAll enc P W 0 (fun _ => true) true ts vs ds p → DataW.TrodAll enc P W' 0 sp true ts vs ds p
 | [], _, _, _, _, _, _, h => by
  obtain ⟨rfl, rfl, rfl⟩ := trodAll_nil h
  exact trodAll_mk0
 | t :: ts, vs, ds, p, hr, hlt, hsp, h => by
  obtain ⟨v, vs1, d, ds1, a, b, rfl, rfl, rfl, h1, h2⟩ := trodAll_cons h
  have hrt := hr t List.mem_cons_self
  exact trodAll_cons_mk (WideElems.Trod_stays hl hrt.1 hrt.2 h1 (fun x hx => hE.same (hlt x (List.mem_append_left _ hx))) (fun x hx => hsp x (List.mem_append_left _ hx)))
   (args_stay hl hE (fun u hu => hr u (List.mem_cons_of_mem _ hu)) (fun x hx => hlt x (List.mem_append_right _ hx)) (fun x hx => hsp x (List.mem_append_right _ hx)) h2)
theorem post_true {f : Func} {s : ChangeSpec} {apart fresh handsOn again : Bool} {W' : World} {args : Array Value} {ds gs : List (DataW H)} {before : List MemPlace} {tb : TypeId}
 (hl : laidOutB P = true) (hr : ∀ t ∈ f.params.toList, P.readableRec t = true ∧ t < P.types.size) (hv : s.vars = []) (hrt : f.resultTypes = #[tb]) (htb : P.underlying tb = some .bool)
 (hW : DataW.Whole enc P f.params.toList s.vars apart W args.toList ds gs before) (hs : s.fn H (ds ++ gs) = { results := [.lit (.bool true)], args := ds }) (hE : Ext W W') :
 s.post enc P f apart fresh handsOn again W args (.bool true) W' := by
 have hlt := hW.lt
 have hW' := hW
 obtain ⟨p, q, hA, hV, rfl, hz, hn⟩ := hW
 rw [hv] at hV
 obtain ⟨rfl, rfl⟩ := trodVars_none hV
 simp only [List.append_nil] at *
 have hargs : ∀ sp : Nat → Bool, (∀ x ∈ p, sp x.block = true) → DataW.TrodAll enc P W' 0 sp true f.params.toList args.toList (s.fn H ds).args p := fun sp hsp => by
  rw [hs]; exact args_stay hl hE hr hlt hsp hA
 have hvars : ∀ sp : Nat → Bool, DataW.TrodVars enc P W' sp s.vars (s.fn H ds).vars [] := fun sp => by rw [hs, hv]; rfl
 have hres : ∀ (b : Nat) (sp : Nat → Bool) (hd : Bool), DataW.TrodAll enc P W' b sp hd f.resultTypes.toList ((Value.bool true).resultList f.resultTypes.size) (s.fn H ds).results [] := fun b sp hd => by
  rw [hs, hrt]
  exact trodAll_cons_mk (shut_bool htb _) trodAll_mk0
 have hok := ok_one (P := P) (W' := W') (f := f) (v := .bool true) hrt rfl (okWide_bool_mk htb _)
 refine ⟨ds, [], p, [], p, [], by simpa using hW', by simpa using hres _ _ _, by simpa using hargs _ (fun x hx => by simpa using hlt x hx), by simpa using hvars _, hE.frame _, fun _ => ?_⟩
 refine ⟨hok, _, _, ([] ++ p) ++ [], ⟨[] ++ p, [], trodAll_append (by simpa using hargs _ (fun _ _ => rfl)) (by simpa using hres _ _ _), by simpa using hvars _, rfl, ?_, ?_⟩, ?_⟩
 · intro b off hp
   have hp' : MemPlace.cell b off ∈ p := by simpa using hp
   have hlb := hlt _ hp'
   have := hz b off hp'
   have hb := hE.block b (show b < W.heap.size from hlb)
   simp only [World.frozen?, hb] at this ⊢
   exact this
 · intro ha; simpa using hn ha
 · intro x hx _; simpa using hx
end
end Go.X
set_option linter.unusedSimpArgs false
set_option linter.unusedVariables false
namespace Go.X
def litCells : DataW Unit → Array Value
 | .agg ds => (ds.map fun | .lit (.int k n) => Value.int k n | _ => .bool false).toArray
 | _ => #[]
def laying (w : World) : List (Nat × DataW Unit) → World
 | [] => w
 | (g, d) :: r => laying { w with heap := w.heap.modify g fun | .cells _ t fr => .cells (litCells d) t fr | o => o } r
end Go.X

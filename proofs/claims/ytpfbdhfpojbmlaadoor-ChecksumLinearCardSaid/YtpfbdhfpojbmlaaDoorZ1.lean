/-
  Plain answers: a function's Lean counterpart hands on an Option; 'none' where the function would stop, or would not end. Loops with fuel. Readings of data. Plain theorems over any program.
-/
import Derived.Test.YtpfbdhfpojbmlaaDoorX10
set_option linter.unusedSimpArgs false
set_option linter.unusedVariables false
namespace Go.X
open Go Go.RowKit

/-! ## Loops -/
inductive Stp (σ ρ : Type) where
  | next (s : σ)
  | done (r : ρ)
def loopM {σ ρ : Type} (body : σ → Option (Stp σ ρ)) : Nat → σ → Option ρ
  | 0, _ => none
  | n + 1, s => match body s with
    | none => none
    | some (.next s') => loopM body n s'
    | some (.done r) => some r
theorem bind_some {α β : Type} {a : Option α} {f : α → Option β} {r : β} (h : a.bind f = some r) : ∃ x, a = some x ∧ f x = some r := by
  cases a with
  | none => cases h
  | some x => exact ⟨x, rfl, h⟩
theorem loopM_next {σ ρ : Type} {body : σ → Option (Stp σ ρ)} {n : Nat} {s s' : σ} (h : body s = some (.next s')) : loopM body (n + 1) s = loopM body n s' := by simp [loopM, h]
theorem loopM_done {σ ρ : Type} {body : σ → Option (Stp σ ρ)} {n : Nat} {s : σ} {r : ρ} (h : body s = some (.done r)) : loopM body (n + 1) s = some r := by simp [loopM, h]
/-- A loop whose measure falls ends, and what it hands on meets the post. -/
theorem loopM_ends {σ ρ : Type} {body : σ → Option (Stp σ ρ)} (I : σ → Prop) (μ : σ → Nat) (Q : ρ → Prop)
    (step : ∀ s, I s → (∃ s', body s = some (.next s') ∧ I s' ∧ μ s' < μ s) ∨ (∃ r, body s = some (.done r) ∧ Q r)) :
    ∀ (n : Nat) (s : σ), I s → μ s < n → ∃ r, loopM body n s = some r ∧ Q r
  | 0, s, _, h => by omega
  | n + 1, s, hI, h => by
    rcases step s hI with ⟨s', h1, h2, h3⟩ | ⟨r, h1, h2⟩
    · rw [loopM_next h1]; exact loopM_ends I μ Q step n s' h2 (by omega)
    · exact ⟨r, loopM_done h1, h2⟩
/-- What a loop hands on meets whatever each round keeps. -/
theorem loopM_inv {σ ρ : Type} {body : σ → Option (Stp σ ρ)} (I : σ → Prop) (Q : ρ → Prop) (hn : ∀ s s', I s → body s = some (.next s') → I s') (hd : ∀ s r, I s → body s = some (.done r) → Q r) :
    ∀ (n : Nat) (s : σ) (r : ρ), I s → loopM body n s = some r → Q r
  | 0, s, r, _, h => by simp [loopM] at h
  | n + 1, s, r, hI, h => by
    simp only [loopM] at h
    cases hb : body s with
    | none => rw [hb] at h; cases h
    | some o =>
      rw [hb] at h
      cases o with
      | next s' => exact loopM_inv I Q hn hd n s' r (hn s s' hI hb) h
      | done r' => cases h; exact hd s r hI hb
theorem loopM_more {σ ρ : Type} {body : σ → Option (Stp σ ρ)} : ∀ {n m : Nat} {s : σ} {r : ρ}, loopM body n s = some r → n ≤ m → loopM body m s = some r
  | 0, _, _, _, h, _ => by simp [loopM] at h
  | n + 1, 0, _, _, _, h => by omega
  | n + 1, m + 1, s, r, h, hm => by
    simp only [loopM] at h ⊢
    cases hb : body s with
    | none => rw [hb] at h; cases h
    | some o =>
      rw [hb] at h
      cases o with
      | next s' => exact loopM_more h (by omega)
      | done r' => exact h

section
variable {P : Program} {n : Nat} {k : List It} {Q : Env → World → Prop} {e : Env} {w : World}
/-- A loop, by its plain counterpart. -/
theorem Swp.loopM {c : Code} {σ ρ : Type} {body : σ → Option (Stp σ ρ)} {N : Nat} {s0 : σ} {r : ρ} (hh : loopM body N s0 = some r) (I : σ → Env → World → Prop) (h0 : I s0 e w)
    (round : ∀ (s : σ) (o : Stp σ ρ) (e' : Env) (w' : World), I s e' w' → body s = some o → (∀ r', o = .done r' → r' = r) →
      Swp P n (.code c :: .back (fun e'' w'' => ∃ s', o = .next s' ∧ I s' e'' w'') :: k) Q e' w') :
    Swp P n (.code (.loop c) :: k) Q e w := by
  intro a h1 h2 h3
  refine wp_loop_ghost (σ := Nat × σ) (I := fun s a w => a.tmps.size = n ∧ a.defers = [] ∧ X.loopM body s.1 s.2 = some r ∧ I s.2 (envOf a) w) (fun s => s.1) (s0 := (N, s0)) ⟨h1, h2, hh, h3 ▸ h0⟩ ?_
  rintro ⟨m, s⟩ a w ⟨g1, g2, g3, g4⟩
  cases m with
  | zero => simp [X.loopM] at g3
  | succ m =>
    simp only [X.loopM] at g3
    cases hb : body s with
    | none => rw [hb] at g3; cases g3
    | some o =>
      have hr := round s o (envOf a) w g4 hb (by
        rintro r' rfl; rw [hb] at g3; exact Option.some.inj g3)
      refine wp_mono (hr a g1 g2 rfl) ?_
      rintro x a' w' ⟨r1, r2, r3⟩
      cases x with
      | normal =>
        obtain ⟨s', rfl, q2⟩ := r3
        rw [hb] at g3
        exact ⟨(m, s'), ⟨r1, r2, g3, q2⟩, Nat.lt_succ_self m⟩
      | _ => exact ⟨r1, r2, r3⟩
/-- The ways through a piece of code meet again. -/
theorem Kwp_join {J : Env → World → Prop} : ∀ {x : Exit} {e w}, (∀ e w, J e w → Swp P n k Q e w) → Kwp P n (.back J :: k) Q x e w → Kwp P n k Q x e w := by
  intro x e w hJ h
  cases x <;> first | exact hJ _ _ h | exact h
theorem Swp.join {c : Code} (J : Env → World → Prop) (h : Swp P n (.code c :: .back J :: k) Q e w) (hJ : ∀ e w, J e w → Swp P n k Q e w) : Swp P n (.code c :: k) Q e w := by
  intro a h1 h2 h3
  refine wp_mono (h a h1 h2 h3) ?_
  rintro x a' w' ⟨g1, g2, g3⟩
  exact ⟨g1, g2, Kwp_join hJ g3⟩
theorem Rl.mono {all : List Oper} {K K' : Env → World → Prop} (hK : ∀ e w, K e w → K' e w) : ∀ {l : List Oper} {e w}, Rl P all l K e w → Rl P all l K' e w := by
  intro l
  induction l with
  | nil => intro e w h; exact hK _ _ h
  | cons o r ih =>
    intro e w h
    simp only [Rl] at h ⊢
    cases hw : wantedE all o e with
    | true => rw [hw] at h; exact OpY.mono h fun v w' h' => ih h'
    | false => rw [hw] at h; exact ih h
end
/-- the slots that matter -/
theorem upds_self {L : List (Nat × Value)} {e : Env} (h : slotsOk L e) : ∃ u, e = upds L u := ⟨e, (upds_of_slotsOk h).symm⟩

/-! ## Plain operations -/
def idx {α : Type} (xs : List α) (i : Int) : Option α := if i < 0 then none else xs[i.toNat]?
theorem idx_some {α : Type} {xs : List α} {i : Int} {x : α} (h : idx xs i = some x) : ∃ n : Nat, i = (n : Int) ∧ xs[n]? = some x := by
  unfold idx at h
  split at h
  · cases h
  · exact ⟨i.toNat, by omega, h⟩
theorem idx_nat {α : Type} {xs : List α} {i : Nat} : idx xs (i : Int) = xs[i]? := by simp [idx]; intro h; omega
theorem idx_lt {α : Type} {xs : List α} {i : Nat} (h : i < xs.length) : idx xs (i : Int) = some xs[i] := by rw [idx_nat, List.getElem?_eq_getElem h]
/-- 'a[i] = y' -/
def upd1 {α : Type} (xs : List α) (i : Int) (y : α) : Option (List α) := if i < 0 ∨ (xs.length : Int) ≤ i then none else some (xs.set i.toNat y)
theorem upd1_some {α : Type} {xs ys : List α} {i : Int} {y : α} (h : upd1 xs i y = some ys) : ∃ n : Nat, i = (n : Int) ∧ n < xs.length ∧ ys = xs.set n y := by
  unfold upd1 at h
  split at h
  · cases h
  · exact ⟨i.toNat, by omega, by omega, (Option.some.inj h).symm⟩
theorem upd1_lt {α : Type} {xs : List α} {i : Nat} {y : α} (h : i < xs.length) : upd1 xs (i : Int) y = some (xs.set i y) := by
  unfold upd1; rw [if_neg (by omega)]; simp
/-- is an index in range -/
def inr {α : Type} (xs : List α) (i : Int) : Option Unit := if i < 0 ∨ (xs.length : Int) ≤ i then none else some ()
theorem inr_some {α : Type} {xs : List α} {i : Int} {u : Unit} (h : inr xs i = some u) : ∃ n : Nat, i = (n : Int) ∧ n < xs.length := by
  unfold inr at h
  split at h
  · cases h
  · exact ⟨i.toNat, by omega, by omega⟩
theorem inr_lt {α : Type} {xs : List α} {i : Nat} (h : i < xs.length) : inr xs (i : Int) = some () := by
  unfold inr; rw [if_neg (by omega)]
/-- 'a[l:h]' -/
def cut {α : Type} (xs : List α) (l h : Int) : Option (List α) := if l < 0 ∨ h < l ∨ (xs.length : Int) < h then none else some ((xs.take h.toNat).drop l.toNat)
theorem cut_some {α : Type} {xs ys : List α} {l h : Int} (hc : cut xs l h = some ys) : ∃ m n : Nat, l = (m : Int) ∧ h = (n : Int) ∧ m ≤ n ∧ n ≤ xs.length ∧ ys = (xs.take n).drop m := by
  unfold cut at hc
  split at hc
  · cases hc
  · exact ⟨l.toNat, h.toNat, by omega, by omega, by omega, by omega, (Option.some.inj hc).symm⟩
theorem cut_eq {α : Type} {xs : List α} {l h : Nat} (h1 : l ≤ h) (h2 : h ≤ xs.length) : cut xs (l : Int) (h : Int) = some ((xs.take h).drop l) := by
  unfold cut; rw [if_neg (by omega)]; simp
/-- 'append(a, b..)', elements of 'by' bytes -/
def apnd {α : Type} (bs : Nat) (xs ys : List α) : Option (List α) := if (xs.length + ys.length) * bs ≤ 140737488355328 ∧ xs.length + ys.length ≤ 9223372036854775807 then some (xs ++ ys) else none
theorem apnd_some {α : Type} {bs : Nat} {xs ys zs : List α} (h : apnd bs xs ys = some zs) : xs.length + ys.length ≤ 9223372036854775807 ∧ (xs.length + ys.length) * bs ≤ 140737488355328 ∧ zs = xs ++ ys := by
  unfold apnd at h
  split at h
  · rename_i g; exact ⟨g.2, g.1, (Option.some.inj h).symm⟩
  · cases h
theorem apnd_eq {α : Type} {bs : Nat} {xs ys : List α} (h : (xs.length + ys.length) * bs ≤ 140737488355328) (h2 : xs.length + ys.length ≤ 9223372036854775807) : apnd bs xs ys = some (xs ++ ys) := by
  unfold apnd; rw [if_pos ⟨h, h2⟩]
/-- 'make([]T, n)' -/
def mk1 {α : Type} (bs : Nat) (z : α) (n : Int) : Option (List α) := if n < 0 ∨ 281474976710656 < bs * n.toNat ∨ 9223372036854775807 < n then none else some (List.replicate n.toNat z)
theorem mk1_some {α : Type} {bs : Nat} {z : α} {n : Int} {xs : List α} (h : mk1 bs z n = some xs) : ∃ m : Nat, n = (m : Int) ∧ bs * m ≤ 281474976710656 ∧ m ≤ 9223372036854775807 ∧ xs = List.replicate m z := by
  unfold mk1 at h
  split at h
  · cases h
  · exact ⟨n.toNat, by omega, by omega, by omega, (Option.some.inj h).symm⟩
theorem mk1_eq {α : Type} {bs : Nat} {z : α} {n : Nat} (h : bs * n ≤ 281474976710656) (h2 : n ≤ 9223372036854775807) : mk1 bs z (n : Int) = some (List.replicate n z) := by
  unfold mk1; rw [if_neg (by simp; omega)]; simp
def sdiv (k : IntKind) (x y : Int) : Option Int := if y = 0 then none else some (k.wrap (x.tdiv y))
theorem sdiv_some {k : IntKind} {x y z : Int} (h : sdiv k x y = some z) : ¬ y = 0 ∧ k.wrap (x.tdiv y) = z := by
  unfold sdiv at h; split at h
  · cases h
  · exact ⟨by assumption, Option.some.inj h⟩
def srem (x y : Int) : Option Int := if y = 0 then none else some (x.tmod y)
theorem srem_some {x y z : Int} (h : srem x y = some z) : ¬ y = 0 ∧ x.tmod y = z := by
  unfold srem at h; split at h
  · cases h
  · exact ⟨by assumption, Option.some.inj h⟩
def chk (p : Prop) [Decidable p] : Option Unit := if p then some () else none
theorem chk_some {p : Prop} [Decidable p] {u : Unit} (h : chk p = some u) : p := by
  unfold chk at h; split at h
  · assumption
  · cases h
theorem chk_eq {p : Prop} [Decidable p] (h : p) : chk p = some () := by unfold chk; rw [if_pos h]

/-! ## Wraps -/
abbrev w8 (z : Int) : Int := IntKind.u8.wrap z
theorem wi64 {z : Int} (h1 : -9223372036854775808 ≤ z) (h2 : z ≤ 9223372036854775807) : IntKind.i64.wrap z = z := wq_i64 rfl h1 h2
theorem wu {z : Int} : IntKind.u64.wrap z = z % 18446744073709551616 := by simp [IntKind.wrap, IntKind.signed, IntKind.bits]
theorem wu32 {z : Int} : IntKind.u32.wrap z = z % 4294967296 := by simp [IntKind.wrap, IntKind.signed, IntKind.bits]
theorem wu16 {z : Int} : IntKind.u16.wrap z = z % 65536 := by simp [IntKind.wrap, IntKind.signed, IntKind.bits]
theorem wu8 {z : Int} : IntKind.u8.wrap z = z % 256 := by simp [IntKind.wrap, IntKind.signed, IntKind.bits]

/-! ## Views -/
open Classical in
noncomputable def vw (S : Nat → Prop) (w : World) : Hp := fun b => if S b then w.heap[b]? else none
theorem vw_some {S : Nat → Prop} {w : World} {b : Nat} {o : Obj} (h : vw S w b = some o) : S b ∧ w.heap[b]? = some o := by
  unfold vw at h; split at h
  · exact ⟨by assumption, h⟩
  · cases h
theorem vw_mk {S : Nat → Prop} {w : World} {b : Nat} {o : Obj} (hS : S b) (h : w.heap[b]? = some o) : vw S w b = some o := by
  unfold vw; rw [if_pos hS]; exact h
def HS (s : Nat) (S : Nat → Prop) (O : List (Option Nat)) : Nat → Prop := fun b => (S b ∨ s ≤ b) ∧ some b ∉ O
/-- What may be read: the old blocks of S, and the new ones (from s on), but none of O. -/
noncomputable def Hv (s : Nat) (S : Nat → Prop) (O : List (Option Nat)) (w : World) : Hp := vw (HS s S O) w
def None (_ : Nat) : Prop := False
theorem heap_lt {w : World} {b : Nat} {o : Obj} (h : w.heap[b]? = some o) : b < w.heap.size := by
  rcases Nat.lt_or_ge b w.heap.size with h1 | h1
  · exact h1
  · rw [Array.getElem?_eq_none h1] at h; cases h
section
variable {X : List (Option Nat)} {s s' : Nat} {S : Nat → Prop} {O O' : List (Option Nat)} {w w' w0 : World} {C : List Cont}
theorem Hv.view : Le (Hv s S O w) (view [] w) := fun b o h => view_mk (vw_some h).2 (by simp)
theorem Hv.none : Le (Hv s None O w) (Hv s S O w) := fun b o h => by
  obtain ⟨⟨h1, h2⟩, h3⟩ := vw_some h
  exact vw_mk ⟨h1.imp (fun h => h.elim) id, h2⟩ h3
theorem Hv.step (h : Step O O' w w') : Le (Hv s S O w) (Hv s S O' w') := fun b o hb => by
  obtain ⟨⟨h1, h2⟩, h3⟩ := vw_some hb
  have hlt := heap_lt h3
  refine vw_mk ⟨h1, fun hm => ?_⟩ ((h.same b hlt h2).trans h3)
  rcases h.grow b hm with g | g
  · exact h2 g
  · omega
theorem Hv.ext (h : Ext w w') : Le (Hv s S O w) (Hv s S O w') := Hv.step (Step.ext h)
theorem Step.trans {O'' : List (Option Nat)} {w'' : World} (h : Step O O' w w') (h' : Step O' O'' w' w'') (hsz : w.heap.size ≤ w'.heap.size) : Step O O'' w w'' := by
  refine ⟨fun k hk hn => ?_, fun b hb => ?_⟩
  · rw [h'.same k (by omega) (fun hm => ?_), h.same k hk hn]
    rcases h.grow k hm with g | g
    · exact hn g
    · omega
  · rcases h'.grow b hb with g | g
    · exact h.grow b g
    · exact .inr (by omega)
/-- into a callee: what the caller may read, the callee may read -/
theorem Hv.enter : Le (Hv s S O w) (Hv w.heap.size (HS s S O) [] w) := fun b o h => by
  obtain ⟨h1, h3⟩ := vw_some h
  exact vw_mk ⟨.inl h1, by simp⟩ h3
theorem Hv.sub (h : ∀ b, b ∈ O' → b ∈ O) : Le (Hv s S O w) (Hv s S O' w) := fun b o hb => by
  obtain ⟨⟨h1, h2⟩, h3⟩ := vw_some hb
  exact vw_mk ⟨h1, fun hm => h2 (h _ hm)⟩ h3
/-- out of a callee: what it has made, the caller may read -/
theorem Hv.fresh (hL : Loc X [] w0 w O C) : Le (Hv w.heap.size None [] w') (Hv w0.heap.size S O w') := fun b o h => by
  obtain ⟨⟨h1, _⟩, h3⟩ := vw_some h
  rcases h1 with h1 | h1
  · exact h1.elim
  · refine vw_mk ⟨.inr (Nat.le_trans hL.size h1), fun hm => ?_⟩ h3
    have := hL.own.lt b hm; omega
theorem Hv.alias (hL : Loc X [] w0 w O C) : Le (Hv w.heap.size (HS w0.heap.size S O) [] w') (Hv w0.heap.size S O w') := fun b o h => by
  obtain ⟨⟨h1, _⟩, h3⟩ := vw_some h
  rcases h1 with h1 | h1
  · exact vw_mk h1 h3
  · refine vw_mk ⟨.inr (Nat.le_trans hL.size h1), fun hm => ?_⟩ h3
    have := hL.own.lt b hm; omega
end

/-! ## Readings -/
structure Rep (α : Type) where
  sz : Nat
  R : Hp → List Value → α → Prop
  mono : ∀ (H H' : Hp) (vs : List Value) (x : α), Le H H' → R H vs x → R H' vs x
  len : ∀ (H : Hp) (vs : List Value) (x : α), R H vs x → vs.length = sz
  one : ∀ (H : Hp) (vs : List Value) (x : α), R H vs x → ones vs = true
/-- A slice, only read. -/
def Rs {α : Type} (r : Rep α) (H : Hp) (v : Value) (xs : List α) : Prop := Sl r.sz r.R H v xs
theorem Rs.mono {α : Type} {r : Rep α} {H H' : Hp} {v : Value} {xs : List α} (h : Rs r H v xs) (hle : Le H H') : Rs r H' v xs := Sl.mono r.mono hle h
theorem Rs.one {α : Type} {r : Rep α} {H : Hp} {v : Value} {xs : List α} (h : Rs r H v xs) : X.one v = true := Sl.one h
theorem Rs.nil {α : Type} {r : Rep α} {H : Hp} : Rs r H (.slice none 0 0) [] := .inl ⟨⟨_, rfl⟩, rfl⟩
theorem Rs.get {α : Type} {r : Rep α} {H : Hp} {v : Value} {xs : List α} {n : Nat} {x : α} (h : Rs r H v xs) (hx : xs[n]? = some x) :
    ∃ b o cap vs, v = .slice (some ⟨b, o, none⟩) xs.length cap ∧ vs.length = r.sz ∧ At H b (o + n * r.sz) vs ∧ r.R H vs x := by
  rcases h with ⟨_, h2⟩ | ⟨b, o, cap, hv, hc, hxs⟩
  · subst h2; simp at hx
  · obtain ⟨vs, g1, g2, g3⟩ := hxs n x hx
    exact ⟨b, o, cap, vs, hv, g1, g2, g3⟩
def s8 (xs : List UInt8) : ByteArray := ⟨xs.toArray⟩
theorem s8_size (xs : List UInt8) : (s8 xs).size = xs.length := by simp [s8, ByteArray.size]
theorem s8_append (xs ys : List UInt8) : s8 xs ++ s8 ys = s8 (xs ++ ys) := by apply ByteArray.ext; simp [s8]
theorem s8_toList (xs : List UInt8) : (s8 xs).toList = xs := by rw [toList_loop_eq]; simp [s8]
theorem s8_of (b : ByteArray) : b = s8 b.data.toList := by apply ByteArray.ext; simp [s8]
def rInt (k : IntKind) : Rep Int := ⟨1, fun _ vs x => vs = [.int k x], fun _ _ _ _ _ h => h, fun _ _ _ h => by rw [h]; rfl, fun _ _ _ h => by rw [h]; rfl⟩
def rBool : Rep Bool := ⟨1, fun _ vs x => vs = [.bool x], fun _ _ _ _ _ h => h, fun _ _ _ h => by rw [h]; rfl, fun _ _ _ h => by rw [h]; rfl⟩
def rStr : Rep (List UInt8) := ⟨1, fun _ vs x => vs = [.string (s8 x)], fun _ _ _ _ _ h => h, fun _ _ _ h => by rw [h]; rfl, fun _ _ _ h => by rw [h]; rfl⟩
def rSl {α : Type} (r : Rep α) : Rep (List α) :=
  ⟨1, fun H vs xs => ∃ v, vs = [v] ∧ Rs r H v xs, fun _ _ _ _ hle ⟨v, h1, h2⟩ => ⟨v, h1, h2.mono hle⟩, fun _ _ _ ⟨v, h1, _⟩ => by rw [h1]; rfl, fun _ _ _ ⟨v, h1, h2⟩ => by rw [h1]; exact ones_cons h2.one ones_nil⟩

/-! ## Rows of one's own -/
def Els {α : Type} (r : Rep α) (H : Hp) : List Value → List α → Prop
  | cs, [] => cs = []
  | cs, x :: xs => ∃ a b, cs = a ++ b ∧ r.R H a x ∧ Els r H b xs
section
variable {α : Type} {r : Rep α} {H H' : Hp}
theorem Els.nil : Els r H [] [] := rfl
theorem Els.cons {a b : List Value} {x : α} {xs : List α} (h : r.R H a x) (h' : Els r H b xs) : Els r H (a ++ b) (x :: xs) := ⟨a, b, rfl, h, h'⟩
theorem Els.one {a : List Value} {x : α} (h : r.R H a x) : Els r H a [x] := ⟨a, [], by simp, h, rfl⟩
theorem Els.mono : ∀ {cs : List Value} {xs : List α}, Els r H cs xs → Le H H' → Els r H' cs xs
  | _, [], h, _ => h
  | _, _ :: _, ⟨a, b, h1, h2, h3⟩, hle => ⟨a, b, h1, r.mono _ _ _ _ hle h2, h3.mono hle⟩
theorem Els.length : ∀ {cs : List Value} {xs : List α}, Els r H cs xs → cs.length = xs.length * r.sz
  | _, [], h => by rw [show _ = [] from h]; simp
  | _, _ :: xs, ⟨a, b, h1, h2, h3⟩ => by rw [h1, List.length_append, r.len _ _ _ h2, h3.length, List.length_cons, Nat.add_mul]; omega
theorem Els.ones : ∀ {cs : List Value} {xs : List α}, Els r H cs xs → Go.X.ones cs = true
  | _, [], h => by rw [show _ = [] from h]; rfl
  | _, _ :: xs, ⟨a, b, h1, h2, h3⟩ => by
    have e1 := r.one _ _ _ h2
    have e2 := h3.ones
    rw [h1]; clear h1 h2 h3
    induction a with
    | nil => exact e2
    | cons v a ih => simp only [List.cons_append, Go.X.ones, Bool.and_eq_true] at e1 ⊢; exact ⟨e1.1, ih e1.2⟩
theorem Els.append : ∀ {cs ds : List Value} {xs ys : List α}, Els r H cs xs → Els r H ds ys → Els r H (cs ++ ds) (xs ++ ys)
  | _, _, [], _, h, h' => by rw [show _ = [] from h]; exact h'
  | _, _, _ :: xs, _, ⟨a, b, h1, h2, h3⟩, h' => ⟨a, b ++ _, by rw [h1, List.append_assoc], h2, h3.append h'⟩
theorem Els.split : ∀ {cs : List Value} {xs ys : List α}, Els r H cs (xs ++ ys) → ∃ a b, cs = a ++ b ∧ Els r H a xs ∧ Els r H b ys
  | cs, [], ys, h => ⟨[], cs, rfl, rfl, h⟩
  | _, x :: xs, ys, ⟨a, b, h1, h2, h3⟩ => by
    obtain ⟨a', b', g1, g2, g3⟩ := Els.split (xs := xs) h3
    exact ⟨a ++ a', b', by rw [h1, g1, List.append_assoc], ⟨a, a', rfl, h2, g2⟩, g3⟩
theorem Els.get {cs : List Value} {xs : List α} {n : Nat} {x : α} (h : Els r H cs xs) (hx : xs[n]? = some x) : ∃ a, (cs.drop (n * r.sz)).take r.sz = a ∧ a.length = r.sz ∧ r.R H a x := by
  induction xs generalizing cs n with
  | nil => simp at hx
  | cons y xs ih =>
    obtain ⟨a, b, h1, h2, h3⟩ := h
    have hl := r.len _ _ _ h2
    subst h1
    cases n with
    | zero =>
      simp at hx; subst hx
      refine ⟨a, ?_, hl, h2⟩
      rw [Nat.zero_mul, List.drop_zero, ← hl, List.take_left']; rfl
    | succ n =>
      obtain ⟨a', g1, g2, g3⟩ := ih h3 (by simpa using hx)
      refine ⟨a', ?_, g2, g3⟩
      rw [← g1, Nat.add_mul, Nat.one_mul, ← hl, Nat.add_comm, ← List.drop_drop, List.drop_left']; rfl
theorem Els.set {cs vs : List Value} {xs : List α} {n : Nat} {y : α} (h : Els r H cs xs) (hy : r.R H vs y) (hn : n < xs.length) : Els r H (putAt cs (n * r.sz) vs) (xs.set n y) := by
  have hlen := h.length
  have hv := r.len _ _ _ hy
  have hb : n * r.sz + r.sz ≤ xs.length * r.sz := by rw [← Nat.succ_mul]; exact Nat.mul_le_mul_right _ hn
  rw [putAt_eq _ _ _ (by rw [hlen, hv]; exact hb), hv]
  obtain ⟨a, b, h1, h2, h3⟩ := Els.split (xs := xs.take n) (ys := xs.drop n) (by rw [List.take_append_drop]; exact h)
  have hal := h2.length
  rw [List.length_take, Nat.min_eq_left (Nat.le_of_lt hn)] at hal
  rw [List.drop_eq_getElem_cons hn] at h3
  obtain ⟨c, d, g1, g2, g3⟩ := h3
  have hcl := r.len _ _ _ g2
  have e1 : cs.take (n * r.sz) = a := by rw [h1, ← hal, List.take_left']; rfl
  have e2 : cs.drop (n * r.sz + r.sz) = d := by
    rw [h1, g1, ← List.append_assoc]
    have : n * r.sz + r.sz = (a ++ c).length := by simp [hal, hcl]
    rw [this, List.drop_left']; rfl
  rw [e1, e2, List.set_eq_take_append_cons_drop, if_pos hn, List.append_assoc]
  exact h2.append (Els.cons hy g3)
theorem Els.replicate {a : List Value} {x : α} (h : r.R H a x) : ∀ n, Els r H (List.replicate n a).flatten (List.replicate n x)
  | 0 => rfl
  | n + 1 => by rw [List.replicate_succ, List.replicate_succ, List.flatten_cons]; exact Els.cons h (Els.replicate h n)
theorem Els.cut {cs : List Value} {xs : List α} {m n : Nat} (h : Els r H cs xs) (h1 : m ≤ n) (h2 : n ≤ xs.length) : Els r H ((cs.take (n * r.sz)).drop (m * r.sz)) ((xs.take n).drop m) := by
  obtain ⟨a, b, e1, g1, g2⟩ := Els.split (xs := xs.take n) (ys := xs.drop n) (by rw [List.take_append_drop]; exact h)
  have hal := g1.length
  rw [List.length_take, Nat.min_eq_left h2] at hal
  have e : cs.take (n * r.sz) = a := by rw [e1, ← hal, List.take_left']; rfl
  rw [e]
  obtain ⟨c, d, e2, g3, g4⟩ := Els.split (xs := (xs.take n).take m) (ys := (xs.take n).drop m) (by rw [List.take_append_drop]; exact g1)
  have hcl := g3.length
  rw [List.length_take, List.length_take, Nat.min_eq_left h2, Nat.min_eq_left h1] at hcl
  rw [e2, ← hcl, List.drop_left' rfl]
  exact g4
/-- A row, read as a slice. -/
theorem Els.rs {b o cap : Nat} {pre cs : List Value} {xs : List α} (h : Els r H cs xs) (hA : At H b o cs) (hc : xs.length ≤ cap) : Rs r H (.slice (some ⟨b, o, none⟩) xs.length cap) xs := by
  refine .inr ⟨b, o, cap, rfl, hc, fun i x hx => ?_⟩
  obtain ⟨a, h1, h2, h3⟩ := h.get hx
  exact ⟨a, h2, hA.part (i * r.sz) (by rw [h2]; exact h1), h3⟩
/-- A slice that is only read: its cells. -/
theorem Rs.cells : ∀ {xs : List α} {b o : Nat}, (∀ i x, xs[i]? = some x → ∃ vs, vs.length = r.sz ∧ At H b (o + i * r.sz) vs ∧ r.R H vs x) → ∃ cs, At H b o cs ∧ Els r H cs xs
  | [], b, o, _ => ⟨[], At.nil, rfl⟩
  | x :: xs, b, o, h => by
    obtain ⟨a, h1, h2, h3⟩ := h 0 x rfl
    rw [Nat.zero_mul, Nat.add_zero] at h2
    obtain ⟨cs, g1, g2⟩ := Rs.cells (xs := xs) (b := b) (o := o + r.sz) (fun i y hy => by
      obtain ⟨vs, e1, e2, e3⟩ := h (i + 1) y (by simpa using hy)
      refine ⟨vs, e1, ?_, e3⟩
      rw [Nat.add_mul, Nat.one_mul] at e2
      rw [show o + r.sz + i * r.sz = o + (i * r.sz + r.sz) by omega]; exact e2)
    exact ⟨a ++ cs, h2.append (by rw [h1]; exact g1), Els.cons h3 g2⟩
theorem Rs.src {S : Nat → Prop} {w : World} {v : Value} {xs : List α} (h : Rs r (vw S w) v xs) : ∃ cs, Src w v xs.length r.sz cs ∧ Els r (vw S w) cs xs := by
  rcases h with ⟨h1, h2⟩ | ⟨b, o, cap, hv, hc, hxs⟩
  · subst h2; exact ⟨[], ⟨by simp, .inl ⟨h1, rfl⟩⟩, rfl⟩
  · obtain ⟨cs, g1, g2⟩ := Rs.cells hxs
    refine ⟨cs, ⟨g2.length, .inr ⟨b, o, cap, hv, fun j u hj => ?_⟩⟩, g2⟩
    exact cellH_view (A := []) (cellH_le (fun b o h => view_mk (vw_some h).2 (by simp)) (g1.get j hj))
end
end Go.X

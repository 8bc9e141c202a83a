/- Plain theorems of the library of this seat. -/
import Derived.Test.YtcakdidcpoolcaaGreatDoorX
import Derived.Laws.Tables
import Derived.Laws.StructEq
import Derived.Laws.BytesString
import Derived.Maps.Keyed
import Derived.Laws.IdiomStrings
import Derived.OpenShut
import Derived.ChangeMaps5
import Derived.ChangeKeysEq
set_option linter.unusedSimpArgs false
set_option linter.unusedVariables false
namespace Go.X
open Go Go.RowKit
inductive Stp (σ ρ : Type) where
 | next (s : σ)
 | done (r : ρ)
def loopM {σ ρ : Type} (body : σ → Option (Stp σ ρ)) : Nat → σ → Option ρ
 | 0, _ => none
 | n + 1, s => match body s with
  | none => none
  | some (.next s') => loopM body n s'
  | some (.done r) => some r
theorem bind_some {α β : Type} {a : Option α} {f : α → Option β} {r : β} (h : a.bind f = some r) : ∃ x, a = some x ∧ f x = some r := by
 cases a with
 | none => cases h
 | some x => exact ⟨x, rfl, h⟩
theorem loopM_next {σ ρ : Type} {body : σ → Option (Stp σ ρ)} {n : Nat} {s s' : σ} (h : body s = some (.next s')) : loopM body (n + 1) s = loopM body n s' := by simp [loopM, h]
theorem loopM_done {σ ρ : Type} {body : σ → Option (Stp σ ρ)} {n : Nat} {s : σ} {r : ρ} (h : body s = some (.done r)) : loopM body (n + 1) s = some r := by simp [loopM, h]
theorem loopM_more {σ ρ : Type} {body : σ → Option (Stp σ ρ)} : ∀ {n m : Nat} {s : σ} {r : ρ}, loopM body n s = some r → n ≤ m → loopM body m s = some r
 | 0, _, _, _, h, _ => by simp [loopM] at h
 | n + 1, 0, _, _, _, h => by omega
 | n + 1, m + 1, s, r, h, hm => by
  simp only [loopM] at h ⊢
  cases hb : body s with
  | none => rw [hb] at h; cases h
  | some o =>
   rw [hb] at h
   cases o with
   | next s' => exact loopM_more h (by omega)
   | done r' => exact h
section
variable {P : Program} {n : Nat} {k : List It} {Q : Env → World → Prop} {e : Env} {w : World}
theorem Swp.loopM {c : Code} {σ ρ : Type} {body : σ → Option (Stp σ ρ)} {N : Nat} {s0 : σ} {r : ρ} (hh : loopM body N s0 = some r) (I : σ → Env → World → Prop) (h0 : I s0 e w)
 (round : ∀ (s : σ) (o : Stp σ ρ) (e' : Env) (w' : World), I s e' w' → body s = some o → (∀ r', o = .done r' → r' = r) →
  Swp P n (.code c :: .back (fun e'' w'' => ∃ s', o = .next s' ∧ I s' e'' w'') :: k) Q e' w') :
 Swp P n (.code (.loop c) :: k) Q e w := by
 intro a h1 h2 h3
 refine wp_loop_ghost (σ := Nat × σ) (I := fun s a w => a.tmps.size = n ∧ a.defers = [] ∧ X.loopM body s.1 s.2 = some r ∧ I s.2 (envOf a) w) (fun s => s.1) (s0 := (N, s0)) ⟨h1, h2, hh, h3 ▸ h0⟩ ?_
 rintro ⟨m, s⟩ a w ⟨g1, g2, g3, g4⟩
 cases m with
 | zero => simp [X.loopM] at g3
 | succ m =>
  simp only [X.loopM] at g3
  cases hb : body s with
  | none => rw [hb] at g3; cases g3
  | some o =>
   have hr := round s o (envOf a) w g4 hb (by
    rintro r' rfl; rw [hb] at g3; exact Option.some.inj g3)
   refine wp_mono (hr a g1 g2 rfl) ?_
   rintro x a' w' ⟨r1, r2, r3⟩
   cases x with
   | normal =>
    obtain ⟨s', rfl, q2⟩ := r3
    rw [hb] at g3
    exact ⟨(m, s'), ⟨r1, r2, g3, q2⟩, Nat.lt_succ_self m⟩
   | _ => exact ⟨r1, r2, r3⟩
theorem Kwp_join {J : Env → World → Prop} : ∀ {x : Exit} {e w}, (∀ e w, J e w → Swp P n k Q e w) → Kwp P n (.back J :: k) Q x e w → Kwp P n k Q x e w := by
 intro x e w hJ h
 cases x <;> first | exact hJ _ _ h | exact h
theorem Swp.join {c : Code} (J : Env → World → Prop) (h : Swp P n (.code c :: .back J :: k) Q e w) (hJ : ∀ e w, J e w → Swp P n k Q e w) : Swp P n (.code c :: k) Q e w := by
 intro a h1 h2 h3
 refine wp_mono (h a h1 h2 h3) ?_
 rintro x a' w' ⟨g1, g2, g3⟩
 exact ⟨g1, g2, Kwp_join hJ g3⟩
theorem Rl.mono {all : List Oper} {K K' : Env → World → Prop} (hK : ∀ e w, K e w → K' e w) : ∀ {l : List Oper} {e w}, Rl P all l K e w → Rl P all l K' e w := by
 intro l
 induction l with
 | nil => intro e w h; exact hK _ _ h
 | cons o r ih =>
  intro e w h
  simp only [Rl] at h ⊢
  cases hw : wantedE all o e with
  | true => rw [hw] at h; exact OpY.mono h fun v w' h' => ih h'
  | false => rw [hw] at h; exact ih h
end
def idx {α : Type} (xs : List α) (i : Int) : Option α := if i < 0 then none else xs[i.toNat]?
theorem idx_some {α : Type} {xs : List α} {i : Int} {x : α} (h : idx xs i = some x) : ∃ n : Nat, i = (n : Int) ∧ xs[n]? = some x := by
 unfold idx at h
 split at h
 · cases h
 · exact ⟨i.toNat, by omega, h⟩
def upd1 {α : Type} (xs : List α) (i : Int) (y : α) : Option (List α) := if i < 0 ∨ (xs.length : Int) ≤ i then none else some (xs.set i.toNat y)
theorem upd1_some {α : Type} {xs ys : List α} {i : Int} {y : α} (h : upd1 xs i y = some ys) : ∃ n : Nat, i = (n : Int) ∧ n < xs.length ∧ ys = xs.set n y := by
 unfold upd1 at h
 split at h
 · cases h
 · exact ⟨i.toNat, by omega, by omega, (Option.some.inj h).symm⟩
def inr {α : Type} (xs : List α) (i : Int) : Option Unit := if i < 0 ∨ (xs.length : Int) ≤ i then none else some ()
def cut {α : Type} (xs : List α) (l h : Int) : Option (List α) := if l < 0 ∨ h < l ∨ (xs.length : Int) < h then none else some ((xs.take h.toNat).drop l.toNat)
theorem cut_some {α : Type} {xs ys : List α} {l h : Int} (hc : cut xs l h = some ys) : ∃ m n : Nat, l = (m : Int) ∧ h = (n : Int) ∧ m ≤ n ∧ n ≤ xs.length ∧ ys = (xs.take n).drop m := by
 unfold cut at hc
 split at hc
 · cases hc
 · exact ⟨l.toNat, h.toNat, by omega, by omega, by omega, by omega, (Option.some.inj hc).symm⟩
def apnd {α : Type} (bs : Nat) (xs ys : List α) : Option (List α) := if (xs.length + ys.length) * bs ≤ 140737488355328 ∧ xs.length + ys.length ≤ 9223372036854775807 then some (xs ++ ys) else none
theorem apnd_some {α : Type} {bs : Nat} {xs ys zs : List α} (h : apnd bs xs ys = some zs) : xs.length + ys.length ≤ 9223372036854775807 ∧ (xs.length + ys.length) * bs ≤ 140737488355328 ∧ zs = xs ++ ys := by
 unfold apnd at h
 split at h
 · rename_i g; exact ⟨g.2, g.1, (Option.some.inj h).symm⟩
 · cases h
def mk1 {α : Type} (bs : Nat) (z : α) (n : Int) : Option (List α) := if n < 0 ∨ 281474976710656 < bs * n.toNat ∨ 9223372036854775807 < n then none else some (List.replicate n.toNat z)
theorem mk1_some {α : Type} {bs : Nat} {z : α} {n : Int} {xs : List α} (h : mk1 bs z n = some xs) : ∃ m : Nat, n = (m : Int) ∧ bs * m ≤ 281474976710656 ∧ m ≤ 9223372036854775807 ∧ xs = List.replicate m z := by
 unfold mk1 at h
 split at h
 · cases h
 · exact ⟨n.toNat, by omega, by omega, by omega, (Option.some.inj h).symm⟩
def sdiv (k : IntKind) (x y : Int) : Option Int := if y = 0 then none else some (k.wrap (x.tdiv y))
theorem sdiv_some {k : IntKind} {x y z : Int} (h : sdiv k x y = some z) : ¬ y = 0 ∧ k.wrap (x.tdiv y) = z := by
 unfold sdiv at h; split at h
 · cases h
 · exact ⟨by assumption, Option.some.inj h⟩
def srem (x y : Int) : Option Int := if y = 0 then none else some (x.tmod y)
theorem srem_some {x y z : Int} (h : srem x y = some z) : ¬ y = 0 ∧ x.tmod y = z := by
 unfold srem at h; split at h
 · cases h
 · exact ⟨by assumption, Option.some.inj h⟩
def chk (p : Prop) [Decidable p] : Option Unit := if p then some () else none
theorem chk_some {p : Prop} [Decidable p] {u : Unit} (h : chk p = some u) : p := by
 unfold chk at h; split at h
 · assumption
 · cases h
theorem wi64 {z : Int} (h1 : -9223372036854775808 ≤ z) (h2 : z ≤ 9223372036854775807) : IntKind.i64.wrap z = z := wq_i64 rfl h1 h2
theorem wu {z : Int} : IntKind.u64.wrap z = z % 18446744073709551616 := by simp [IntKind.wrap, IntKind.signed, IntKind.bits]
theorem wu32 {z : Int} : IntKind.u32.wrap z = z % 4294967296 := by simp [IntKind.wrap, IntKind.signed, IntKind.bits]
theorem wu8 {z : Int} : IntKind.u8.wrap z = z % 256 := by simp [IntKind.wrap, IntKind.signed, IntKind.bits]
open Classical in
noncomputable def vw (S : Nat → Prop) (w : World) : Hp := fun b => if S b then w.heap[b]? else none
theorem vw_some {S : Nat → Prop} {w : World} {b : Nat} {o : Obj} (h : vw S w b = some o) : S b ∧ w.heap[b]? = some o := by
 unfold vw at h; split at h
 · exact ⟨by assumption, h⟩
 · cases h
theorem vw_mk {S : Nat → Prop} {w : World} {b : Nat} {o : Obj} (hS : S b) (h : w.heap[b]? = some o) : vw S w b = some o := by
 unfold vw; rw [if_pos hS]; exact h
def HS (s : Nat) (S : Nat → Prop) (O : List (Option Nat)) : Nat → Prop := fun b => (S b ∨ s ≤ b) ∧ some b ∉ O
noncomputable def Hv (s : Nat) (S : Nat → Prop) (O : List (Option Nat)) (w : World) : Hp := vw (HS s S O) w
def None (_ : Nat) : Prop := False
theorem heap_lt {w : World} {b : Nat} {o : Obj} (h : w.heap[b]? = some o) : b < w.heap.size := by
 rcases Nat.lt_or_ge b w.heap.size with h1 | h1
 · exact h1
 · rw [Array.getElem?_eq_none h1] at h; cases h
section
variable {X : List (Option Nat)} {s s' : Nat} {S : Nat → Prop} {O O' : List (Option Nat)} {w w' w0 : World} {C : List Cont}
theorem Hv.view : Le (Hv s S O w) (view [] w) := fun b o h => view_mk (vw_some h).2 (by simp)
theorem Hv.none : Le (Hv s None O w) (Hv s S O w) := fun b o h => by
 obtain ⟨⟨h1, h2⟩, h3⟩ := vw_some h
 exact vw_mk ⟨h1.imp (fun h => h.elim) id, h2⟩ h3
theorem Hv.step (h : Step O O' w w') : Le (Hv s S O w) (Hv s S O' w') := fun b o hb => by
 obtain ⟨⟨h1, h2⟩, h3⟩ := vw_some hb
 have hlt := heap_lt h3
 refine vw_mk ⟨h1, fun hm => ?_⟩ ((h.same b hlt h2).trans h3)
 rcases h.grow b hm with g | g
 · exact h2 g
 · omega
theorem Hv.ext (h : Ext w w') : Le (Hv s S O w) (Hv s S O w') := Hv.step (Step.ext h)
theorem Step.trans {O'' : List (Option Nat)} {w'' : World} (h : Step O O' w w') (h' : Step O' O'' w' w'') (hsz : w.heap.size ≤ w'.heap.size) : Step O O'' w w'' := by
 refine ⟨fun k hk hn => ?_, fun b hb => ?_⟩
 · rw [h'.same k (by omega) (fun hm => ?_), h.same k hk hn]
   rcases h.grow k hm with g | g
   · exact hn g
   · omega
 · rcases h'.grow b hb with g | g
   · exact h.grow b g
   · exact .inr (by omega)
theorem Hv.enter : Le (Hv s S O w) (Hv w.heap.size (HS s S O) [] w) := fun b o h => by
 obtain ⟨h1, h3⟩ := vw_some h
 exact vw_mk ⟨.inl h1, by simp⟩ h3
theorem Hv.sub (h : ∀ b, b ∈ O' → b ∈ O) : Le (Hv s S O w) (Hv s S O' w) := fun b o hb => by
 obtain ⟨⟨h1, h2⟩, h3⟩ := vw_some hb
 exact vw_mk ⟨h1, fun hm => h2 (h _ hm)⟩ h3
theorem Hv.fresh (hL : Loc X [] w0 w O C) : Le (Hv w.heap.size None [] w') (Hv w0.heap.size S O w') := fun b o h => by
 obtain ⟨⟨h1, _⟩, h3⟩ := vw_some h
 rcases h1 with h1 | h1
 · exact h1.elim
 · refine vw_mk ⟨.inr (Nat.le_trans hL.size h1), fun hm => ?_⟩ h3
   have := hL.own.lt b hm; omega
end
structure Rep (α : Type) where
 sz : Nat
 R : Hp → List Value → α → Prop
 mono : ∀ (H H' : Hp) (vs : List Value) (x : α), Le H H' → R H vs x → R H' vs x
 len : ∀ (H : Hp) (vs : List Value) (x : α), R H vs x → vs.length = sz
 one : ∀ (H : Hp) (vs : List Value) (x : α), R H vs x → ones vs = true
def Rs {α : Type} (r : Rep α) (H : Hp) (v : Value) (xs : List α) : Prop := Sl r.sz r.R H v xs
theorem Rs.mono {α : Type} {r : Rep α} {H H' : Hp} {v : Value} {xs : List α} (h : Rs r H v xs) (hle : Le H H') : Rs r H' v xs := Sl.mono r.mono hle h
theorem Rs.one {α : Type} {r : Rep α} {H : Hp} {v : Value} {xs : List α} (h : Rs r H v xs) : X.one v = true := Sl.one h
theorem Rs.nil {α : Type} {r : Rep α} {H : Hp} : Rs r H (.slice none 0 0) [] := .inl ⟨⟨_, rfl⟩, rfl⟩
theorem Rs.get {α : Type} {r : Rep α} {H : Hp} {v : Value} {xs : List α} {n : Nat} {x : α} (h : Rs r H v xs) (hx : xs[n]? = some x) :
 ∃ b o cap vs, v = .slice (some ⟨b, o, none⟩) xs.length cap ∧ vs.length = r.sz ∧ At H b (o + n * r.sz) vs ∧ r.R H vs x := by
 rcases h with ⟨_, h2⟩ | ⟨b, o, cap, hv, hc, hxs⟩
 · subst h2; simp at hx
 · obtain ⟨vs, g1, g2, g3⟩ := hxs n x hx
   exact ⟨b, o, cap, vs, hv, g1, g2, g3⟩
def s8 (xs : List UInt8) : ByteArray := ⟨xs.toArray⟩
theorem s8_size (xs : List UInt8) : (s8 xs).size = xs.length := by simp [s8, ByteArray.size]
theorem s8_append (xs ys : List UInt8) : s8 xs ++ s8 ys = s8 (xs ++ ys) := by apply ByteArray.ext; simp [s8]
theorem s8_toList (xs : List UInt8) : (s8 xs).toList = xs := by rw [toList_loop_eq]; simp [s8]
def rInt (k : IntKind) : Rep Int := ⟨1, fun _ vs x => vs = [.int k x], fun _ _ _ _ _ h => h, fun _ _ _ h => by rw [h]; rfl, fun _ _ _ h => by rw [h]; rfl⟩
def rBool : Rep Bool := ⟨1, fun _ vs x => vs = [.bool x], fun _ _ _ _ _ h => h, fun _ _ _ h => by rw [h]; rfl, fun _ _ _ h => by rw [h]; rfl⟩
def rSl {α : Type} (r : Rep α) : Rep (List α) :=
 ⟨1, fun H vs xs => ∃ v, vs = [v] ∧ Rs r H v xs, fun _ _ _ _ hle ⟨v, h1, h2⟩ => ⟨v, h1, h2.mono hle⟩, fun _ _ _ ⟨v, h1, _⟩ => by rw [h1]; rfl, fun _ _ _ ⟨v, h1, h2⟩ => by rw [h1]; exact ones_cons h2.one ones_nil⟩
def Els {α : Type} (r : Rep α) (H : Hp) : List Value → List α → Prop
 | cs, [] => cs = []
 | cs, x :: xs => ∃ a b, cs = a ++ b ∧ r.R H a x ∧ Els r H b xs
section
variable {α : Type} {r : Rep α} {H H' : Hp}
theorem Els.nil : Els r H [] [] := rfl
theorem Els.cons {a b : List Value} {x : α} {xs : List α} (h : r.R H a x) (h' : Els r H b xs) : Els r H (a ++ b) (x :: xs) := ⟨a, b, rfl, h, h'⟩
theorem Els.one {a : List Value} {x : α} (h : r.R H a x) : Els r H a [x] := ⟨a, [], by simp, h, rfl⟩
theorem Els.mono : ∀ {cs : List Value} {xs : List α}, Els r H cs xs → Le H H' → Els r H' cs xs
 | _, [], h, _ => h
 | _, _ :: _, ⟨a, b, h1, h2, h3⟩, hle => ⟨a, b, h1, r.mono _ _ _ _ hle h2, h3.mono hle⟩
theorem Els.length : ∀ {cs : List Value} {xs : List α}, Els r H cs xs → cs.length = xs.length * r.sz
 | _, [], h => by rw [show _ = [] from h]; simp
 | _, _ :: xs, ⟨a, b, h1, h2, h3⟩ => by rw [h1, List.length_append, r.len _ _ _ h2, h3.length, List.length_cons, Nat.add_mul]; omega
theorem Els.ones : ∀ {cs : List Value} {xs : List α}, Els r H cs xs → Go.X.ones cs = true
 | _, [], h => by rw [show _ = [] from h]; rfl
 | _, _ :: xs, ⟨a, b, h1, h2, h3⟩ => by
  have e1 := r.one _ _ _ h2
  have e2 := h3.ones
  rw [h1]; clear h1 h2 h3
  induction a with
  | nil => exact e2
  | cons v a ih => simp only [List.cons_append, Go.X.ones, Bool.and_eq_true] at e1 ⊢; exact ⟨e1.1, ih e1.2⟩
theorem Els.append : ∀ {cs ds : List Value} {xs ys : List α}, Els r H cs xs → Els r H ds ys → Els r H (cs ++ ds) (xs ++ ys)
 | _, _, [], _, h, h' => by rw [show _ = [] from h]; exact h'
 | _, _, _ :: xs, _, ⟨a, b, h1, h2, h3⟩, h' => ⟨a, b ++ _, by rw [h1, List.append_assoc], h2, h3.append h'⟩
theorem Els.split : ∀ {cs : List Value} {xs ys : List α}, Els r H cs (xs ++ ys) → ∃ a b, cs = a ++ b ∧ Els r H a xs ∧ Els r H b ys
 | cs, [], ys, h => ⟨[], cs, rfl, rfl, h⟩
 | _, x :: xs, ys, ⟨a, b, h1, h2, h3⟩ => by
  obtain ⟨a', b', g1, g2, g3⟩ := Els.split (xs := xs) h3
  exact ⟨a ++ a', b', by rw [h1, g1, List.append_assoc], ⟨a, a', rfl, h2, g2⟩, g3⟩
theorem Els.get {cs : List Value} {xs : List α} {n : Nat} {x : α} (h : Els r H cs xs) (hx : xs[n]? = some x) : ∃ a, (cs.drop (n * r.sz)).take r.sz = a ∧ a.length = r.sz ∧ r.R H a x := by
 induction xs generalizing cs n with
 | nil => simp at hx
 | cons y xs ih =>
  obtain ⟨a, b, h1, h2, h3⟩ := h
  have hl := r.len _ _ _ h2
  subst h1
  cases n with
  | zero =>
   simp at hx; subst hx
   refine ⟨a, ?_, hl, h2⟩
   rw [Nat.zero_mul, List.drop_zero, ← hl, List.take_left']; rfl
  | succ n =>
   obtain ⟨a', g1, g2, g3⟩ := ih h3 (by simpa using hx)
   refine ⟨a', ?_, g2, g3⟩
   rw [← g1, Nat.add_mul, Nat.one_mul, ← hl, Nat.add_comm, ← List.drop_drop, List.drop_left']; rfl
theorem Els.set {cs vs : List Value} {xs : List α} {n : Nat} {y : α} (h : Els r H cs xs) (hy : r.R H vs y) (hn : n < xs.length) : Els r H (putAt cs (n * r.sz) vs) (xs.set n y) := by
 have hlen := h.length
 have hv := r.len _ _ _ hy
 have hb : n * r.sz + r.sz ≤ xs.length * r.sz := by rw [← Nat.succ_mul]; exact Nat.mul_le_mul_right _ hn
 rw [putAt_eq _ _ _ (by rw [hlen, hv]; exact hb), hv]
 obtain ⟨a, b, h1, h2, h3⟩ := Els.split (xs := xs.take n) (ys := xs.drop n) (by rw [List.take_append_drop]; exact h)
 have hal := h2.length
 rw [List.length_take, Nat.min_eq_left (Nat.le_of_lt hn)] at hal
 rw [List.drop_eq_getElem_cons hn] at h3
 obtain ⟨c, d, g1, g2, g3⟩ := h3
 have hcl := r.len _ _ _ g2
 have e1 : cs.take (n * r.sz) = a := by rw [h1, ← hal, List.take_left']; rfl
 have e2 : cs.drop (n * r.sz + r.sz) = d := by
  rw [h1, g1, ← List.append_assoc]
  have : n * r.sz + r.sz = (a ++ c).length := by simp [hal, hcl]
  rw [this, List.drop_left']; rfl
 rw [e1, e2, List.set_eq_take_append_cons_drop, if_pos hn, List.append_assoc]
 exact h2.append (Els.cons hy g3)
theorem Els.replicate {a : List Value} {x : α} (h : r.R H a x) : ∀ n, Els r H (List.replicate n a).flatten (List.replicate n x)
 | 0 => rfl
 | n + 1 => by rw [List.replicate_succ, List.replicate_succ, List.flatten_cons]; exact Els.cons h (Els.replicate h n)
theorem Els.cut {cs : List Value} {xs : List α} {m n : Nat} (h : Els r H cs xs) (h1 : m ≤ n) (h2 : n ≤ xs.length) : Els r H ((cs.take (n * r.sz)).drop (m * r.sz)) ((xs.take n).drop m) := by
 obtain ⟨a, b, e1, g1, g2⟩ := Els.split (xs := xs.take n) (ys := xs.drop n) (by rw [List.take_append_drop]; exact h)
 have hal := g1.length
 rw [List.length_take, Nat.min_eq_left h2] at hal
 have e : cs.take (n * r.sz) = a := by rw [e1, ← hal, List.take_left']; rfl
 rw [e]
 obtain ⟨c, d, e2, g3, g4⟩ := Els.split (xs := (xs.take n).take m) (ys := (xs.take n).drop m) (by rw [List.take_append_drop]; exact g1)
 have hcl := g3.length
 rw [List.length_take, List.length_take, Nat.min_eq_left h2, Nat.min_eq_left h1] at hcl
 rw [e2, ← hcl, List.drop_left' rfl]
 exact g4
theorem Els.rs {b o cap : Nat} {pre cs : List Value} {xs : List α} (h : Els r H cs xs) (hA : At H b o cs) (hc : xs.length ≤ cap) : Rs r H (.slice (some ⟨b, o, none⟩) xs.length cap) xs := by
 refine .inr ⟨b, o, cap, rfl, hc, fun i x hx => ?_⟩
 obtain ⟨a, h1, h2, h3⟩ := h.get hx
 exact ⟨a, h2, hA.part (i * r.sz) (by rw [h2]; exact h1), h3⟩
theorem Rs.cells : ∀ {xs : List α} {b o : Nat}, (∀ i x, xs[i]? = some x → ∃ vs, vs.length = r.sz ∧ At H b (o + i * r.sz) vs ∧ r.R H vs x) → ∃ cs, At H b o cs ∧ Els r H cs xs
 | [], b, o, _ => ⟨[], At.nil, rfl⟩
 | x :: xs, b, o, h => by
  obtain ⟨a, h1, h2, h3⟩ := h 0 x rfl
  rw [Nat.zero_mul, Nat.add_zero] at h2
  obtain ⟨cs, g1, g2⟩ := Rs.cells (xs := xs) (b := b) (o := o + r.sz) (fun i y hy => by
   obtain ⟨vs, e1, e2, e3⟩ := h (i + 1) y (by simpa using hy)
   refine ⟨vs, e1, ?_, e3⟩
   rw [Nat.add_mul, Nat.one_mul] at e2
   rw [show o + r.sz + i * r.sz = o + (i * r.sz + r.sz) by omega]; exact e2)
  exact ⟨a ++ cs, h2.append (by rw [h1]; exact g1), Els.cons h3 g2⟩
theorem Rs.src {S : Nat → Prop} {w : World} {v : Value} {xs : List α} (h : Rs r (vw S w) v xs) : ∃ cs, Src w v xs.length r.sz cs ∧ Els r (vw S w) cs xs := by
 rcases h with ⟨h1, h2⟩ | ⟨b, o, cap, hv, hc, hxs⟩
 · subst h2; exact ⟨[], ⟨by simp, .inl ⟨h1, rfl⟩⟩, rfl⟩
 · obtain ⟨cs, g1, g2⟩ := Rs.cells hxs
   refine ⟨cs, ⟨g2.length, .inr ⟨b, o, cap, hv, fun j u hj => ?_⟩⟩, g2⟩
   exact cellH_view (A := []) (cellH_le (fun b o h => view_mk (vw_some h).2 (by simp)) (g1.get j hj))
end
end Go.X
set_option linter.unusedSimpArgs false
set_option linter.unusedVariables false
namespace Go.X
open Go Go.RowKit
section
variable {P : Program} {l : List Oper} {n n0 : Nat} {K : Env → World → Prop} {e : Env} {w0 : World}
structure InvJ (l : List Oper) (n n0 : Nat) (e : Env) (w0 : World) (J : (Nat → Prop) → (Nat → Value) → World → Prop) (listed : Array Bool) (a : Act) (w : World) (vs : Nat → Value) : Prop where
 size : listed.size = l.length
 tmps : a.tmps.size = n
 defs : a.defers = []
 ext : Ext w0 w
 env1 : ∀ t j, j < n0 → dstAt l j = some t → lst listed j → envOf a t = vs j
 env2 : ∀ t, (∀ j, j < n0 → lst listed j → dstAt l j ≠ some t) → envOf a t = e t
 holds : J (lst listed) vs w
theorem lst_set_iff {listed : Array Bool} {i : Nat} (hi : i < listed.size) : lst (listed.setIfInBounds i true) = fun j => lst listed j ∨ j = i := by
 funext j
 apply propext
 constructor
 · exact lst_set
 · rintro (h | h)
   · exact getD_set_true h
   · subst h; simp [lst, hi]
theorem GOp.mono {o : Oper} {E : Env} {w : World} {R R' : Value → World → Prop} (h : GOp P l o E w R) (hR : ∀ v w', R v w' → R' v w') : GOp P l o E w R' := by
 unfold GOp at *
 cases hw : wantedE l o E with
 | true => rw [hw] at h; exact OpY.mono h hR
 | false => rw [hw] at h; exact hR _ _ h
theorem InvJ.step {J : (Nat → Prop) → (Nat → Value) → World → Prop} {listed : Array Bool} {a : Act} {w : World} {vs : Nat → Value} {Q : Exit → Act → World → Prop} {K' : Act → World → Prop} (hb : backOk l = true) (hh : headOk l n0 = true) (hu : uniqOk l n0 = true) (hok : dstsOk n l = true)
 (hS : ∀ i o, i < n0 → l[i]? = some o → ∀ (L : Nat → Prop) (vs : Nat → Value) (w : World), (∀ d ∈ depsOf o, L d) → ¬ L i → Ext w0 w → J L vs w →
  GOp P l o (envAll l e vs i) w fun v w' => Ext w0 w' ∧ J (fun j => L j ∨ j = i) (fun j => if j = i then v else vs j) w')
 (inv : InvJ l n n0 e w0 J listed a w vs) (hcl : ∀ j oj, l[j]? = some oj → lst listed j → ∀ d ∈ depsOf oj, lst listed d) {i : Nat} (hi : i < n0) (hr : i ∈ Region.ready .any l.toArray listed)
 (hk : ∀ a' w' vs', InvJ l n n0 e w0 J (listed.setIfInBounds i true) a' w' vs' → K' a' w') : wpOp P l.toArray Q i K' a w := by
 have hil : i < l.length := by
  obtain ⟨_, o, g2, _⟩ := mem_ready.1 hr
  rw [List.getElem?_toArray] at g2
  exact (List.getElem?_eq_some_iff.1 g2).1
 have ho : l[i]? = some l[i] := List.getElem?_eq_getElem hil
 obtain ⟨⟨d, hd⟩, hlook, hsel⟩ := head_at hh hi ho
 obtain ⟨hun, hdeps⟩ := ready_deps hr ho
 have hdst : dstAt l i = some d := by simp only [dstAt, ho]; exact hd
 have hsz : i < listed.size := by rw [inv.size]; omega
 have hset := lst_set_iff (listed := listed) hsz
 have hnl : ¬ lst listed i := by
  intro h; unfold lst at h
  simp [hsz] at hun h; rw [hun] at h; cases h
 have hdd : ∀ o, o ∈ l → ∀ d, o.dst = some d → d < a.tmps.size := by rw [inv.tmps]; exact dstsOk_spec hok
 have hagree : ∀ t, t ∈ looksE l l[i] → envAll l e vs i t = envOf a t := by
  intro t ht
  by_cases hex : ∃ j, j < n0 ∧ dstAt l j = some t
  · obtain ⟨j, hj, hjd⟩ := hex
    rcases look_at hlook ht hj hjd with ⟨h1, h2⟩ | ⟨h1, oj, h2, h3⟩
    · rw [envAll_at hjd i h2 (fun k hk hkd => uniq_at hu (by omega) hj hkd hjd), inv.env1 t j hj hjd (hdeps j h1)]
    · have hjn : ¬ lst listed j := fun h => hnl (hcl j oj h2 h i h3)
      rw [envAll_not i (fun k hk hkd => by have := uniq_at hu (show k < n0 by omega) hj hkd hjd; omega), inv.env2 t (fun k hk hl hkd => by have := uniq_at hu hk hj hkd hjd; subst this; exact hjn hl)]
  · rw [envAll_not i (fun j hj hjd => hex ⟨j, by omega, hjd⟩), inv.env2 t (fun j hj _ hjd => hex ⟨j, hj, hjd⟩)]
 have hop := hS i l[i] hi ho (lst listed) vs w hdeps hnl inv.ext inv.holds
 refine wpOp_of_GOp hdd ho (GOp_congr hsel hagree hop) fun v w' hv => ?_
 refine hk _ w' (fun j => if j = i then v else vs j) ⟨by simp [inv.size], by rw [put_size]; exact inv.tmps, by rw [put_defers']; exact inv.defs, hv.1, ?_, ?_, ?_⟩
 · intro t j hj hjd hl
   rw [hd, envOf_put a inv.tmps (by rw [← inv.tmps]; exact hdd _ (List.mem_of_getElem? ho) d hd)]
   by_cases hji : j = i
   · subst hji
     rw [hdst] at hjd; cases hjd
     simp [upd_same]
   · have htd : t ≠ d := fun h => hji (uniq_at hu hj hi hjd (by rw [hdst, h]))
     rw [upd_other _ _ htd]
     simp only [hji, if_false]
     rw [hset] at hl
     exact inv.env1 t j hj hjd (hl.resolve_right hji)
 · intro t ht
   rw [hd, envOf_put a inv.tmps (by rw [← inv.tmps]; exact hdd _ (List.mem_of_getElem? ho) d hd)]
   rw [hset] at ht
   have htd : t ≠ d := fun h => ht i hi (.inr rfl) (by rw [hdst, h])
   rw [upd_other _ _ htd]
   exact inv.env2 t (fun j hj hl => ht j hj (.inl hl))
 · rw [hset]; exact hv.2
def sinkL (l : List Oper) (n0 : Nat) (lt : List Nat) : Bool := Nat.beq n0 l.length || (List.range n0).all fun i => memN i lt || (List.range (n0 + 1)).any fun j => Nat.blt i j && waitB l j i && !memN j lt
def lateOk (l : List Oper) (n0 : Nat) (lt : List Nat) : Bool := lt.isEmpty || ((lt.all fun i => Nat.blt i n0 && match l[i]? with
 | some o => (looksE l o).all fun x => (List.range n0).all fun j => !(dstAt l j == some x) || (memN j (depsOf o) && Nat.blt j i)
 | none => false) &&
 (List.range l.length).all fun t => Nat.blt t n0 || match l[t]? with
  | some o => !isSel o.op && lt.all fun i => (looksE l o).all (fun x => !(dstAt l i == some x)) || (List.range (t + 1)).any fun j => Nat.ble n0 j && waitB l j i
  | none => true)
def drawOkL (l : List Oper) (n0 : Nat) (lt : List Nat) : Bool := Nat.ble n0 l.length && headOk l n0 && uniqOk l n0 && backOk l && sinkL l n0 lt && chainOk l n0 && lateOk l n0 lt
theorem drawOkL_spec {lt : List Nat} (h : drawOkL l n0 lt = true) : n0 ≤ l.length ∧ headOk l n0 = true ∧ uniqOk l n0 = true ∧ backOk l = true ∧ sinkL l n0 lt = true ∧ chainOk l n0 = true ∧ lateOk l n0 lt = true := by
 simp only [drawOkL, Bool.and_eq_true] at h
 obtain ⟨⟨⟨⟨⟨⟨h1, h2⟩, h3⟩, h4⟩, h5⟩, h6⟩, h7⟩ := h
 exact ⟨by simpa using h1, h2, h3, h4, h5, h6, h7⟩
def LateP (P : Program) (l : List Oper) (lt : List Nat) (E : Env) (w : World) : Prop := ∀ i ∈ lt, ∀ o, l[i]? = some o → GOp P l o E w fun v w' => (∃ d, o.dst = some d ∧ v = E d) ∧ w' = w
def RlL (P : Program) (l : List Oper) (K : Env → World → Prop) : List Nat → List Oper → Env → World → Prop
 | _, [], e, w => K e w
 | lt, o :: r, e, w => GOp P l o e w fun v w' => LateP P l (lt.filter fun i => !memN i (depsOf o)) (updo e o.dst v) w' ∧ RlL P l K (lt.filter fun i => !memN i (depsOf o)) r (updo e o.dst v) w'
theorem RlL_nil : ∀ {r : List Oper} {E : Env} {w : World}, Rl P l r K E w → RlL P l K [] r E w
 | [], E, w, h => h
 | o :: r, E, w, h => by
  rw [Rl_GOp] at h
  exact GOp.mono h fun v w' h' => ⟨fun i hi => (by cases hi), RlL_nil h'⟩
theorem allListed {listed : Array Bool} (hs : listed.size = l.length) (hb : backOk l = true) (hr : Region.ready .any l.toArray listed = []) : ∀ j, j < l.length → lst listed j := by
 intro m
 induction m using Nat.strongRecOn with
 | _ m ih =>
  intro hm
  refine Classical.byContradiction fun hml => ?_
  have hmo : l[m]? = some l[m] := List.getElem?_eq_getElem hm
  have : m ∈ Region.ready .any l.toArray listed := by
   refine ready_of hmo ?_ (fun d hd => ih d (back_at hb hmo hd) (by have := back_at hb hmo hd; omega))
   unfold lst at hml
   simp [hs, hm] at hml ⊢; exact hml
  rw [hr] at this; cases this
structure Inv2 (l : List Oper) (n n0 : Nat) (lt : List Nat) (t : Nat) (listed : Array Bool) (a : Act) (E : Env) (ltr : List Nat) : Prop where
 size : listed.size = l.length
 tmps : a.tmps.size = n
 defs : a.defers = []
 t0 : n0 ≤ t
 t1 : t ≤ l.length
 tail : ∀ j, t ≤ j → j < l.length → ¬ lst listed j
 cl : ∀ j oj, l[j]? = some oj → lst listed j → ∀ d ∈ depsOf oj, lst listed d
 done : ∀ j, n0 ≤ j → j < t → lst listed j
 late : ∀ i, i < n0 → ¬ lst listed i → i ∈ ltr
 sub : ∀ i ∈ ltr, i ∈ lt
 env : ∀ x, (∀ i, i < n0 → ¬ lst listed i → dstAt l i ≠ some x) → envOf a x = E x
theorem unl {listed : Array Bool} (hs : listed.size = l.length) {j : Nat} (hj : j < l.length) : ¬ lst listed j ↔ listed.getD j true = false := by
 unfold lst; simp [hs, hj]
theorem lst_lt {listed : Array Bool} (hs : listed.size = l.length) {j : Nat} (h : lst listed j) : j < l.length := by
 rcases Nat.lt_or_ge j l.length with h1 | h1
 · exact h1
 · unfold lst at h
   rw [Array.getD_eq_getD_getElem?, Array.getElem?_eq_none (by rw [hs]; exact h1)] at h
   cases h
theorem set_lst {listed : Array Bool} (hs : listed.size = l.length) {i j : Nat} (hi : i < l.length) : lst (listed.setIfInBounds i true) j ↔ (lst listed j ∨ j = i) := by
 rw [lst_set_iff (by omega)]
theorem cl_set {listed : Array Bool} (hs : listed.size = l.length) {i : Nat} (hi : i < l.length) (hcl : ∀ j oj, l[j]? = some oj → lst listed j → ∀ d ∈ depsOf oj, lst listed d) (hd : ∀ d ∈ depsOf l[i], lst listed d) :
 ∀ j oj, l[j]? = some oj → lst (listed.setIfInBounds i true) j → ∀ d ∈ depsOf oj, lst (listed.setIfInBounds i true) d := by
 intro j oj hoj hjl d hdm
 rw [set_lst hs hi] at hjl ⊢
 rcases hjl with h1 | h1
 · exact .inl (hcl j oj hoj h1 d hdm)
 · subst h1
   rw [List.getElem?_eq_getElem hi] at hoj
   cases hoj
   exact .inl (hd d hdm)
theorem Inv2.next {lt ltr : List Nat} {t : Nat} {listed : Array Bool} {a : Act} {w : World} {E : Env} {Q : Exit → Act → World → Prop} {K' : Act → World → Prop} (hok : dstsOk n l = true) (hdr : drawOkL l n0 lt = true) (inv : Inv2 l n n0 lt t listed a E ltr)
 (hR : RlL P l K ltr (l.drop t) E w) (ht : t < l.length) (hr : t ∈ Region.ready .any l.toArray listed)
 (hk : ∀ a' w' E' ltr', Inv2 l n n0 lt (t + 1) (listed.setIfInBounds t true) a' E' ltr' → LateP P l ltr' E' w' → RlL P l K ltr' (l.drop (t + 1)) E' w' → K' a' w') : wpOp P l.toArray Q t K' a w := by
 obtain ⟨hn, hh, hu, hb, hsk, hch, hlo⟩ := drawOkL_spec hdr
 have ho : l[t]? = some l[t] := List.getElem?_eq_getElem ht
 obtain ⟨hun, hdeps⟩ := ready_deps hr ho
 have hdd : ∀ o, o ∈ l → ∀ d, o.dst = some d → d < a.tmps.size := by rw [inv.tmps]; exact dstsOk_spec hok
 rw [List.drop_eq_getElem_cons ht] at hR
 simp only [RlL] at hR
 have fin : ∀ v w', (LateP P l (ltr.filter fun i => !memN i (depsOf l[t])) (updo E l[t].dst v) w' ∧ RlL P l K (ltr.filter fun i => !memN i (depsOf l[t])) (l.drop (t + 1)) (updo E l[t].dst v) w') → K' (a.put l[t].dst v) w' := by
  intro v w' hv
  refine hk _ w' _ _ ⟨by simp [inv.size], by rw [put_size]; exact inv.tmps, by rw [put_defers']; exact inv.defs, by have := inv.t0; omega, by omega, ?_, ?_, ?_, ?_, ?_, ?_⟩ hv.1 hv.2
  · intro j hj hjl
    rw [set_lst inv.size ht]
    rintro (h1 | h1)
    · exact inv.tail j (by omega) hjl h1
    · omega
  · exact cl_set inv.size ht inv.cl hdeps
  · intro j h1 h2
    rw [set_lst inv.size ht]
    by_cases hjt : j = t
    · exact .inr hjt
    · exact .inl (inv.done j h1 (by omega))
  · intro i hi hil
    rw [set_lst inv.size ht] at hil
    have hil' : ¬ lst listed i := fun h => hil (.inl h)
    refine List.mem_filter.2 ⟨inv.late i hi hil', ?_⟩
    cases hm : memN i (depsOf l[t]) with
    | false => rfl
    | true => exact absurd (hdeps i (memN_iff.1 hm)) hil'
  · intro i hi
    exact inv.sub i (List.mem_filter.1 hi).1
  · intro x hx
    have hx' : ∀ i, i < n0 → ¬ lst listed i → dstAt l i ≠ some x := by
     intro i hi hil
     refine hx i hi ?_
     rw [set_lst inv.size ht]
     rintro (h1 | h1)
     · exact hil h1
     · have := inv.t0; omega
    have he := inv.env x hx'
    cases hd : l[t].dst with
    | none => exact he
    | some d =>
     rw [envOf_put a inv.tmps (by rw [← inv.tmps]; exact hdd _ (List.mem_of_getElem? ho) d hd)]
     simp only [updo]
     by_cases hxd : x = d
     · subst hxd; rw [upd_same, upd_same]
     · rw [upd_other _ _ hxd, upd_other _ _ hxd]; exact he
 by_cases hlt : lt = []
 · 
   have hall : ∀ i, i < n0 → lst listed i := fun i hi => Classical.byContradiction fun h => by have := inv.sub i (inv.late i hi h); rw [hlt] at this; cases this
   have hE : E = envOf a := by
    funext x
    exact (inv.env x (fun i hi hil => absurd (hall i hi) hil)).symm
   rw [hE] at hR fin
   exact wpOp_of_GOp hdd ho hR fin
 · have hlo' := hlo
   simp only [lateOk, Bool.or_eq_true, Bool.and_eq_true, List.isEmpty_iff] at hlo'
   have h2 := List.all_eq_true.1 ((hlo'.resolve_left hlt).2) t (List.mem_range.2 ht)
   rw [ho] at h2
   simp only [Bool.or_eq_true, Bool.and_eq_true, Bool.not_eq_true'] at h2
   have h3 : isSel l[t].op = false ∧ _ := h2.resolve_left (by have := inv.t0; simp; omega)
   refine wpOp_of_GOp hdd ho (GOp_congr h3.1 (fun x hx => ?_) hR) fin
   symm
   refine inv.env x (fun i hi hil hdi => ?_)
   have h4 := List.all_eq_true.1 h3.2 i (inv.sub i (inv.late i hi hil))
   simp only [Bool.or_eq_true] at h4
   rcases h4 with h4 | h4
   · have := List.all_eq_true.1 h4 x hx
     rw [hdi] at this; simp at this
   · obtain ⟨j, hj, h5⟩ := List.any_eq_true.1 h4
     simp only [Bool.and_eq_true] at h5
     have hjt : j ≤ t := by have := List.mem_range.1 hj; omega
     have hj0 : n0 ≤ j := by simpa using h5.1
     have h6 := h5.2
     unfold waitB at h6
     rw [List.getElem?_eq_getElem (by omega : j < l.length)] at h6
     have h7 := memN_iff.1 h6
     by_cases hjt' : j = t
     · subst hjt'; exact hil (hdeps i h7)
     · exact hil (inv.cl j _ (List.getElem?_eq_getElem (by omega)) (inv.done j hj0 (by omega)) i h7)
theorem tailL {lt : List Nat} {Q : Exit → Act → World → Prop} (hok : dstsOk n l = true) (hdr : drawOkL l n0 lt = true) (hQ : ∀ a w, a.tmps.size = n → a.defers = [] → K (envOf a) w → Q .normal a w) :
 ∀ (fuel t : Nat) (listed : Array Bool) (a : Act) (w : World) (E : Env) (ltr : List Nat), Inv2 l n n0 lt t listed a E ltr → LateP P l ltr E w → RlL P l K ltr (l.drop t) E w → cnt l listed ≤ fuel → wpAny P .any l.toArray Q fuel listed a w := by
 obtain ⟨hn, hh, hu, hb, hsk, hch, hlo⟩ := drawOkL_spec hdr
 have fin : ∀ (t : Nat) (listed : Array Bool) (a : Act) (w : World) (E : Env) (ltr : List Nat), Inv2 l n n0 lt t listed a E ltr → RlL P l K ltr (l.drop t) E w → Region.ready .any l.toArray listed = [] → Q .normal a w := by
  intro t listed a w E ltr inv hR hr
  have hall := allListed inv.size hb hr
  have htl : t = l.length := by
   rcases Nat.lt_or_ge t l.length with h | h
   · exact absurd (hall t h) (inv.tail t (Nat.le_refl _) h)
   · have := inv.t1; omega
  subst htl
  rw [List.drop_length] at hR
  have hE : envOf a = E := by
   funext x
   exact inv.env x (fun i hi hil => absurd (hall i (by omega)) hil)
  refine hQ a w inv.tmps inv.defs ?_
  rw [hE]; exact hR
 intro fuel
 induction fuel with
 | zero =>
  intro t listed a w E ltr inv hL hR hc
  have hr : Region.ready .any l.toArray listed = [] := by
   apply List.eq_nil_iff_forall_not_mem.2
   intro i hi
   obtain ⟨g1, o, g2, _⟩ := mem_ready.1 hi
   have hil : i < l.length := by
    rw [List.getElem?_toArray] at g2
    exact (List.getElem?_eq_some_iff.1 g2).1
   have := cnt_zero (by omega : cnt l listed = 0) hil
   rw [g1] at this; cases this
  exact ⟨hr, fin t listed a w E ltr inv hR hr⟩
 | succ fuel ih =>
  intro t listed a w E ltr inv hL hR hc
  refine ⟨fun hr => fin t listed a w E ltr inv hR hr, fun i hi => ?_⟩
  have hil : i < l.length := by
   obtain ⟨_, o, g2, _⟩ := mem_ready.1 hi
   rw [List.getElem?_toArray] at g2
   exact (List.getElem?_eq_some_iff.1 g2).1
  have ho : l[i]? = some l[i] := List.getElem?_eq_getElem hil
  obtain ⟨hun, hdeps⟩ := ready_deps hi ho
  have hnl : ¬ lst listed i := (unl inv.size hil).2 hun
  have hcn := cnt_set inv.size hil hun
  rcases Nat.lt_or_ge i n0 with hin | hin
  · 
    have hm := inv.late i hin hnl
    have hdd : ∀ o, o ∈ l → ∀ d, o.dst = some d → d < a.tmps.size := by rw [inv.tmps]; exact dstsOk_spec hok
    obtain ⟨⟨d, hd⟩, hlook, hsel⟩ := head_at hh hin ho
    have hmt := inv.sub i hm
    have hlt : lt ≠ [] := fun h => by rw [h] at hmt; cases hmt
    have hlo' := hlo
    simp only [lateOk, Bool.or_eq_true, Bool.and_eq_true, List.isEmpty_iff] at hlo'
    have h2 := List.all_eq_true.1 ((hlo'.resolve_left hlt).1) i hmt
    rw [ho] at h2
    simp only [Bool.and_eq_true] at h2
    refine wpOp_of_GOp hdd ho (GOp_congr hsel (fun x hx => ?_) (hL i hm _ ho)) fun v w' hv => ?_
    · symm
      refine inv.env x (fun j hj hjl hdj => ?_)
      have h3 := List.all_eq_true.1 (List.all_eq_true.1 h2.2 x hx) j (List.mem_range.2 hj)
      rw [hdj] at h3
      simp only [beq_self_eq_true, Bool.not_true, Bool.false_or, Bool.and_eq_true] at h3
      exact hjl (hdeps j (memN_iff.1 h3.1))
    · obtain ⟨⟨d', hd', hv⟩, rfl⟩ := hv
      refine ih t _ _ _ E ltr ⟨by simp [inv.size], by rw [put_size]; exact inv.tmps, by rw [put_defers']; exact inv.defs, inv.t0, inv.t1, ?_, cl_set inv.size hil inv.cl hdeps, ?_, ?_, inv.sub, ?_⟩ hL hR (by omega)
      · intro j hj hjl
        rw [set_lst inv.size hil]
        rintro (h1 | h1)
        · exact inv.tail j hj hjl h1
        · have := inv.t0; omega
      · intro j h1 h3
        rw [set_lst inv.size hil]; exact .inl (inv.done j h1 h3)
      · intro j hj hjl
        rw [set_lst inv.size hil] at hjl
        exact inv.late j hj (fun h => hjl (.inl h))
      · intro x hx
        rw [hd', envOf_put a inv.tmps (by rw [← inv.tmps]; exact hdd _ (List.mem_of_getElem? ho) d' hd')]
        by_cases hxd : x = d'
        · subst hxd; rw [upd_same, hv]
        · rw [upd_other _ _ hxd]
          refine inv.env x (fun j hj hjl hdj => ?_)
          by_cases hji : j = i
          · subst hji
            have : dstAt l j = some d' := by simp only [dstAt, ho]; exact hd'
            rw [this] at hdj; cases hdj; exact hxd rfl
          · refine hx j hj ?_ hdj
            rw [set_lst inv.size hil]
            rintro (h1 | h1)
            · exact hjl h1
            · exact hji h1
  · 
    have hit : i = t := by
     rcases Nat.lt_or_ge t i with h | h
     · have := List.all_eq_true.1 hch i (List.mem_range.2 hil)
       simp only [Bool.or_eq_true] at this
       rcases this with h4 | h4
       · have h5 : i ≤ n0 := by simpa using h4
         have := inv.t0; omega
       · unfold waitB at h4
         rw [ho] at h4
         exact absurd (hdeps (i - 1) (memN_iff.1 h4)) (inv.tail (i - 1) (by omega) (by omega))
     · rcases Nat.lt_or_ge i t with h' | h'
       · exact absurd (inv.done i hin h') hnl
       · omega
    subst hit
    exact inv.next hok hdr hR hil hi fun a' w' E' ltr' inv' hL' hR' => ih (i + 1) _ a' w' E' ltr' inv' hL' hR' (by omega)
theorem head_anyJ {lt : List Nat} {J : (Nat → Prop) → (Nat → Value) → World → Prop} {Q : Exit → Act → World → Prop} (hok : dstsOk n l = true) (hdr : drawOkL l n0 lt = true)
    (hS : ∀ i o, i < n0 → l[i]? = some o → ∀ (L : Nat → Prop) (vs : Nat → Value) (w : World), (∀ d ∈ depsOf o, L d) → ¬ L i → Ext w0 w → J L vs w →
      GOp P l o (envAll l e vs i) w fun v w' => Ext w0 w' ∧ J (fun j => L j ∨ j = i) (fun j => if j = i then v else vs j) w')
    (hlate : ∀ i ∈ lt, ∀ o, l[i]? = some o → ∀ (L : Nat → Prop) (vs : Nat → Value) (w : World), (∀ d ∈ depsOf o, L d) → ¬ L i → Ext w0 w → J L vs w → ∃ c, J (fun j => L j ∨ j = i) (fun j => if j = i then c else vs j) w)
    (hfin : ∀ (vs : Nat → Value) (w : World), Ext w0 w → J (fun j => j < n0) vs w → RlL P l K lt (l.drop n0) (envAll l e vs n0) w)
    (hQ : ∀ a w, a.tmps.size = n → a.defers = [] → K (envOf a) w → Q .normal a w) :
    ∀ (fuel : Nat) (listed : Array Bool) (a : Act) (w : World) (vs : Nat → Value), InvJ l n n0 e w0 J listed a w vs → (∀ j oj, l[j]? = some oj → lst listed j → ∀ d ∈ depsOf oj, lst listed d) →
      (∀ t, n0 ≤ t → t < l.length → ¬ lst listed t) → cnt l listed ≤ fuel → wpAny P .any l.toArray Q fuel listed a w := by
  obtain ⟨hn, hh, hu, hb, hsk, hch, hlo⟩ := drawOkL_spec hdr
  have begin2 : ∀ (listed : Array Bool) (a : Act) (w : World) (vs : Nat → Value), InvJ l n n0 e w0 J listed a w vs → (∀ j oj, l[j]? = some oj → lst listed j → ∀ d ∈ depsOf oj, lst listed d) → (∀ t, n0 ≤ t → t < l.length → ¬ lst listed t) →
      (∀ i, i < n0 → ¬ lst listed i → i ∈ lt) → ∃ E, Inv2 l n n0 lt n0 listed a E lt ∧ RlL P l K lt (l.drop n0) E w := by
    intro listed a w vs inv hcl htail hmis
    have key : ∀ k, k ≤ n0 → ∃ vs', (∀ j, lst listed j → vs' j = vs j) ∧ J (fun j => lst listed j ∨ j < k) vs' w := by
      intro k
      induction k with
      | zero =>
        intro _
        refine ⟨vs, fun _ _ => rfl, ?_⟩
        have : (fun j => lst listed j ∨ j < 0) = lst listed := by funext j; simp
        rw [this]; exact inv.holds
      | succ k ihk =>
        intro hk
        obtain ⟨vs', h1, h2⟩ := ihk (by omega)
        by_cases hkl : lst listed k
        · refine ⟨vs', h1, ?_⟩
          have : (fun j => lst listed j ∨ j < k + 1) = (fun j => lst listed j ∨ j < k) := by
            funext j
            apply propext
            constructor
            · rintro (h | h)
              · exact .inl h
              · by_cases hjk : j = k
                · subst hjk; exact .inl hkl
                · exact .inr (by omega)
            · rintro (h | h)
              · exact .inl h
              · exact .inr (by omega)
          rw [this]; exact h2
        · have hko : l[k]? = some l[k] := List.getElem?_eq_getElem (by omega)
          obtain ⟨c, hc⟩ := hlate k (hmis k (by omega) hkl) _ hko (fun j => lst listed j ∨ j < k) vs' w (fun d hd => .inr (back_at hb hko hd)) (by rintro (h | h); exact hkl h; omega) inv.ext h2
          refine ⟨fun j => if j = k then c else vs' j, fun j hj => ?_, ?_⟩
          · have : j ≠ k := fun h => hkl (h ▸ hj)
            simp only [this, if_false]; exact h1 j hj
          · have : (fun j => lst listed j ∨ j < k + 1) = (fun j => (lst listed j ∨ j < k) ∨ j = k) := by
              funext j
              apply propext
              constructor
              · rintro (h | h)
                · exact .inl (.inl h)
                · by_cases hjk : j = k
                  · exact .inr hjk
                  · exact .inl (.inr (by omega))
              · rintro ((h | h) | h)
                · exact .inl h
                · exact .inr (by omega)
                · exact .inr (by omega)
            rw [this]; exact hc
    obtain ⟨vs', h1, h2⟩ := key n0 (Nat.le_refl _)
    have hset : (fun j => lst listed j ∨ j < n0) = (fun j => j < n0) := by
      funext j
      apply propext
      constructor
      · rintro (h | h)
        · rcases Nat.lt_or_ge j n0 with h3 | h3
          · exact h3
          · exact absurd h (htail j h3 (lst_lt inv.size h))
        · exact h
      · exact .inr
    rw [hset] at h2
    refine ⟨envAll l e vs' n0, ⟨inv.size, inv.tmps, inv.defs, Nat.le_refl _, hn, htail, hcl, fun j h3 h4 => by omega, hmis, fun i hi => hi, fun x hx => ?_⟩, hfin vs' w inv.ext h2⟩
    by_cases hex : ∃ j, j < n0 ∧ dstAt l j = some x
    · obtain ⟨j, hj, hjd⟩ := hex
      have hjl : lst listed j := Classical.byContradiction fun h => hx j hj h hjd
      rw [envAll_at hjd n0 hj (fun k hk hkd => uniq_at hu hk hj hkd hjd), inv.env1 x j hj hjd hjl, h1 j hjl]
    · rw [envAll_not n0 (fun j hj hjd => hex ⟨j, hj, hjd⟩), inv.env2 x (fun j hj _ hjd => hex ⟨j, hj, hjd⟩)]
  have fin : ∀ (listed : Array Bool) (a : Act) (w : World) (vs : Nat → Value), InvJ l n n0 e w0 J listed a w vs → (∀ j oj, l[j]? = some oj → lst listed j → ∀ d ∈ depsOf oj, lst listed d) → (∀ t, n0 ≤ t → t < l.length → ¬ lst listed t) →
      Region.ready .any l.toArray listed = [] → Q .normal a w := by
    intro listed a w vs inv hcl htail hr
    have hall := allListed inv.size hb hr
    obtain ⟨E, inv2, hR⟩ := begin2 listed a w vs inv hcl htail (fun i hi hil => absurd (hall i (by omega)) hil)
    have hnn : n0 = l.length := by
      rcases Nat.lt_or_ge n0 l.length with h | h
      · exact absurd (hall n0 h) (htail n0 (Nat.le_refl _) h)
      · omega
    have hd : l.drop n0 = [] := List.drop_eq_nil_of_le (by omega)
    rw [hd] at hR
    have hE : envOf a = E := by
      funext x
      exact inv2.env x (fun i hi hil => absurd (hall i (by omega)) hil)
    refine hQ a w inv.tmps inv.defs ?_
    rw [hE]; exact hR
  intro fuel
  induction fuel with
  | zero =>
    intro listed a w vs inv hcl htail hc
    have hr : Region.ready .any l.toArray listed = [] := by
      apply List.eq_nil_iff_forall_not_mem.2
      intro i hi
      obtain ⟨g1, o, g2, _⟩ := mem_ready.1 hi
      have hil : i < l.length := by
        rw [List.getElem?_toArray] at g2
        exact (List.getElem?_eq_some_iff.1 g2).1
      have := cnt_zero (by omega : cnt l listed = 0) hil
      rw [g1] at this; cases this
    exact ⟨hr, fin listed a w vs inv hcl htail hr⟩
  | succ fuel ih =>
    intro listed a w vs inv hcl htail hc
    refine ⟨fun hr => fin listed a w vs inv hcl htail hr, fun i hi => ?_⟩
    have hil : i < l.length := by
      obtain ⟨_, o, g2, _⟩ := mem_ready.1 hi
      rw [List.getElem?_toArray] at g2
      exact (List.getElem?_eq_some_iff.1 g2).1
    obtain ⟨hun, hdeps⟩ := ready_deps hi (List.getElem?_eq_getElem hil)
    have hcn := cnt_set inv.size hil hun
    rcases Nat.lt_or_ge i n0 with hin | hin
    · refine inv.step hb hh hu hok hS hcl hin hi fun a' w' vs' inv' => ih _ a' w' vs' inv' (cl_set inv.size hil hcl hdeps) ?_ (by omega)
      intro t ht htl
      rw [set_lst inv.size hil]
      rintro (h1 | h1)
      · exact htail t ht htl h1
      · omega
    · 
      have hit : i = n0 := by
        have := List.all_eq_true.1 hch i (List.mem_range.2 hil)
        simp only [Bool.or_eq_true] at this
        rcases this with h4 | h4
        · have h5 : i ≤ n0 := by simpa using h4
          omega
        · rcases Nat.lt_or_ge n0 i with h | h
          · unfold waitB at h4
            rw [List.getElem?_eq_getElem hil] at h4
            exact absurd (hdeps (i - 1) (memN_iff.1 h4)) (htail (i - 1) (by omega) (by omega))
          · omega
      subst hit
      have hmis : ∀ (c j : Nat), i - j = c → j < i → ¬ lst listed j → j ∈ lt := by
        intro c
        induction c using Nat.strongRecOn with
        | _ c ihc =>
          intro j hjc hj hjl
          refine Classical.byContradiction fun hjt => ?_
          simp only [sinkL, Bool.or_eq_true] at hsk
          rcases hsk with h1 | h1
          · have := Nat.eq_of_beq_eq_true h1; omega
          · have h2 := List.all_eq_true.1 h1 j (List.mem_range.2 hj)
            simp only [Bool.or_eq_true] at h2
            obtain ⟨m, hm, h3⟩ := List.any_eq_true.1 (h2.resolve_left (fun h => hjt (memN_iff.1 h)))
            simp only [Bool.and_eq_true, Bool.not_eq_true'] at h3
            have hjm : j < m := by simpa using h3.1.1
            have hmi : m ≤ i := by have := List.mem_range.1 hm; omega
            have h4 := h3.1.2
            unfold waitB at h4
            rw [List.getElem?_eq_getElem (by omega : m < l.length)] at h4
            have h5 := memN_iff.1 h4
            by_cases hmt : m = i
            · subst hmt; exact hjl (hdeps j h5)
            · by_cases hml : lst listed m
              · exact hjl (hcl m _ (List.getElem?_eq_getElem (by omega)) hml j h5)
              · have := ihc (i - m) (by omega) m rfl (by omega) hml
                rw [memN_iff.2 this] at h3; cases h3.2
      obtain ⟨E, inv2, hR⟩ := begin2 listed a w vs inv hcl htail (fun j hj hjl => hmis _ j rfl hj hjl)
      exact inv2.next hok hdr hR hil hi fun a' w' E' ltr' inv' hL' hR' => tailL hok hdr hQ fuel (i + 1) _ a' w' E' ltr' inv' hL' hR' (by omega)
end
section
variable {P : Program} {n : Nat} {k : List It} {Q : Env → World → Prop} {e : Env} {w : World}
theorem Swp.drawJ {id : Nat} {l : List Oper} (n0 : Nat) (lt : List Nat) (J : World → (Nat → Prop) → (Nat → Value) → World → Prop) (hm : P.follows .mixedOrders = true) (hok : dstsOk n l = true) (hdr : drawOkL l n0 lt = true)
 (h0 : ∀ w1, Ext w w1 → ∃ vs, J w1 (fun _ => False) vs w1)
 (hS : ∀ w1, Ext w w1 → ∀ i o, i < n0 → l[i]? = some o → ∀ (L : Nat → Prop) (vs : Nat → Value) (w : World), (∀ d ∈ depsOf o, L d) → ¬ L i → Ext w1 w → J w1 L vs w →
  GOp P l o (envAll l e vs i) w fun v w' => Ext w1 w' ∧ J w1 (fun j => L j ∨ j = i) (fun j => if j = i then v else vs j) w')
 (hlate : ∀ w1, Ext w w1 → ∀ i ∈ lt, ∀ o, l[i]? = some o → ∀ (L : Nat → Prop) (vs : Nat → Value) (w : World), (∀ d ∈ depsOf o, L d) → ¬ L i → Ext w1 w → J w1 L vs w → ∃ c, J w1 (fun j => L j ∨ j = i) (fun j => if j = i then c else vs j) w)
 (hfin : ∀ w1, Ext w w1 → ∀ (vs : Nat → Value) (w : World), Ext w1 w → J w1 (fun j => j < n0) vs w → RlL P l (Swp P n k Q) lt (l.drop n0) (envAll l e vs n0) w) : Swp P n (.code (.region id l.toArray true) :: k) Q e w := by
 intro a h1 h2 h3
 subst h3
 refine wp_region_any hm ?_
 have hE : Ext w { w with drawn := w.drawn + 1 } := Ext.drawn w _
 obtain ⟨vs, hvs⟩ := h0 _ hE
 refine head_anyJ (K := Swp P n k Q) (J := J { w with drawn := w.drawn + 1 }) hok hdr (hS _ hE) (hlate _ hE) (hfin _ hE) (fun a' w' g1 g2 g3 => ⟨g1, g2, g3⟩) l.toArray.size (Array.replicate l.toArray.size false) a _ vs
  ⟨by simp, h1, h2, Ext.refl _, fun t j _ _ hj => ?_, fun t _ => rfl, ?_⟩ (fun j oj _ hj => ?_) (fun t _ _ hj => ?_) ?_
 · unfold lst at hj; rw [getD_replicate_false] at hj; cases hj
 · have : lst (Array.replicate l.toArray.size false) = fun _ => False := by
    funext j
    apply propext
    refine ⟨fun h => ?_, fun h => h.elim⟩
    unfold lst at h; rw [getD_replicate_false] at h; cases h
   rw [this]; exact hvs
 · unfold lst at hj; rw [getD_replicate_false] at hj; cases hj
 · unfold lst at hj; rw [getD_replicate_false] at hj; cases hj
 · unfold cnt
   refine Nat.le_trans (List.length_filter_le _ _) (by simp)
end
inductive Pz where
 | det (c : Value)
 | fn (m : Nat) (g : Value → Value)
 | rel (Φ : Value → (Nat → Prop) → World → Prop) (ft : Value → List (Option Nat))
structure FE where
 idx : Nat
 φ : (Nat → Prop) → World → Prop
 ft : List (Option Nat)
def usedBy (cs : List (List Nat)) (j : Nat) : List Nat := (List.range cs.length).filter fun c => memN j (cs.getD c [])
def seesB (l : List Oper) (cs : List (List Nat)) (i j : Nat) : Bool := (usedBy cs j).all fun c => Nat.beq c i || waitB l c i
def endsB (cs : List (List Nat)) (j : Nat) : Bool := (usedBy cs j).isEmpty
def conOk (l : List Oper) (cs : List (List Nat)) : Bool :=
 (List.range cs.length).all fun c => (cs.getD c []).all fun j => waitB l c j && (usedBy cs j).all fun c' => Nat.beq c' c
def Bnd (w1 w : World) (Z : Nat → Prop) (ft : List (Option Nat)) : Prop := ∀ b, some b ∈ ft → w1.heap.size ≤ b ∧ b < w.heap.size ∧ ¬ Z b
def factsI (l : List Oper) (cs : List (List Nat)) (w1 : World) (i : Nat) (ds : List Nat) : List FE → (Nat → Prop) → World → Prop
 | [], _, _ => True
 | x :: r, Z, w => (bif memN x.idx ds && seesB l cs i x.idx then x.φ Z w ∧ Bnd w1 w Z x.ft else True) ∧ factsI l cs w1 i ds r Z w
def factsE (cs : List (List Nat)) (w1 : World) : List FE → (Nat → Prop) → World → Prop
 | [], _, _ => True
 | x :: r, Z, w => (bif endsB cs x.idx then x.φ Z w ∧ Bnd w1 w Z x.ft else True) ∧ factsE cs w1 r Z w
def apartE (cs : List (List Nat)) (x : FE) : List FE → Prop
 | [] => True
 | y :: r => (bif endsB cs x.idx && endsB cs y.idx then ∀ b, some b ∈ x.ft → some b ∉ y.ft else True) ∧ apartE cs x r
def apartsE (cs : List (List Nat)) : List FE → Prop
 | [] => True
 | x :: r => apartE cs x r ∧ apartsE cs r
def feet (js : List Nat) : List FE → List (Option Nat)
 | [] => []
 | x :: r => bif memN x.idx js then x.ft ++ feet js r else feet js r
def ZB (w1 w : World) (Z : Nat → Prop) : Prop := ∀ b, Z b → w1.heap.size ≤ b ∧ b < w.heap.size
structure Use (cf : List (Option Nat)) (w w' : World) : Prop where
 os : w'.os = w.os
 tape : w'.tape = w.tape
 output : w'.output = w.output
 size : w.heap.size ≤ w'.heap.size
 keep : ∀ k, k < w.heap.size → some k ∉ cf → w'.heap[k]? = w.heap[k]?
theorem Use.ext {cf : List (Option Nat)} {w w' : World} (h : Ext w w') : Use cf w w' := ⟨h.os, h.tape, h.output, h.size, fun k hk _ => h.block k hk⟩
def New (cf : List (Option Nat)) (w w' : World) (b : Nat) : Prop := (w.heap.size ≤ b ∧ b < w'.heap.size) ∨ some b ∈ cf
def Made (cf ft : List (Option Nat)) (Z : Nat → Prop) (w w' : World) (φ : (Nat → Prop) → World → Prop) : Prop :=
 ∃ Z', (∀ b, Z b → Z' b) ∧ (∀ b, Z' b → Z b ∨ New cf w w' b) ∧ Use cf w w' ∧ φ Z' w' ∧ ∀ b, some b ∈ ft → New cf w w' b ∧ ¬ Z' b
def DrH (P : Program) (l : List Oper) (cs : List (List Nat)) (w1 : World) (K : Env → World → Prop) : List Oper → List Pz → Env → List FE → Nat → Prop
  | [], _, e, F, _ => ∀ w' Z, Ext w1 w' → ZB w1 w' Z → factsE cs w1 F Z w' → apartsE cs F → K e w'
  | o :: r, .det c :: Φs, e, F, i => (∀ w' Z, Ext w1 w' → ZB w1 w' Z → factsI l cs w1 i (depsOf o) F Z w' → GOp P l o e w' fun v w'' => Ext w' w'' ∧ v = c) ∧ DrH P l cs w1 K r Φs (updo e o.dst c) F (i + 1)
  | o :: r, .fn m g :: Φs, e, F, i => ∃ d, dstAt l m = some d ∧ (∀ w' Z, Ext w1 w' → ZB w1 w' Z → factsI l cs w1 i (depsOf o) F Z w' → GOp P l o e w' fun v w'' => Ext w' w'' ∧ v = g (e d)) ∧ DrH P l cs w1 K r Φs (updo e o.dst (g (e d))) F (i + 1)
  | o :: r, .rel Φ ft :: Φs, e, F, i => (∀ w' Z, Ext w1 w' → ZB w1 w' Z → factsI l cs w1 i (depsOf o) F Z w' → GOp P l o e w' fun v w'' => Made (feet (cs.getD i []) F) (ft v) Z w' w'' (Φ v)) ∧
      ∀ v, DrH P l cs w1 K r Φs (updo e o.dst v) (⟨i, Φ v, ft v⟩ :: F) (i + 1)
  | _ :: _, [], _, _, _ => False
def fitsZ (Φs : List Pz) (vs : Nat → Value) : Prop := ∀ (i : Nat) c, Φs[i]? = some (Pz.det c) → vs i = c
def isRel : Option Pz → Bool
 | some (.rel _ _) => true
 | _ => false
def reachB (l : List Oper) : Nat → Nat → Nat → Bool
 | 0, _, _ => false
 | f + 1, j, m => waitB l j m || match l[j]? with
  | some o => (depsOf o).any fun k => reachB l f k m
  | none => false
def fnOk (l : List Oper) (Φs : List Pz) : Bool := (List.range Φs.length).all fun j => match Φs[j]? with
 | some (.fn m _) => Nat.blt m j && reachB l l.length j m && isRel Φs[m]?
 | _ => true
def ltOk (lt : List Nat) (Φs : List Pz) : Bool := lt.all fun i => !isRel Φs[i]?
def vf (Φs : List Pz) (vs : Nat → Value) (j : Nat) : Value := match Φs[j]? with
 | some (.fn m g) => g (vs m)
 | _ => vs j
theorem fnOk_at {l : List Oper} {Φs : List Pz} (h : fnOk l Φs = true) {j m : Nat} {g : Value → Value} (hj : Φs[j]? = some (.fn m g)) : m < j ∧ reachB l l.length j m = true ∧ isRel Φs[m]? = true := by
 have hlt : j < Φs.length := (List.getElem?_eq_some_iff.1 hj).1
 have h1 := List.all_eq_true.1 h j (List.mem_range.2 hlt)
 rw [hj] at h1
 simp only [Bool.and_eq_true] at h1
 exact ⟨by simpa using h1.1.1, h1.1.2, h1.2⟩
theorem vf_rel {Φs : List Pz} {vs : Nat → Value} {j : Nat} (h : isRel Φs[j]? = true) : vf Φs vs j = vs j := by
 unfold vf
 cases hΦ : Φs[j]? with
 | none => rfl
 | some ph => cases ph with | fn m g => rw [hΦ] at h; cases h | _ => rfl
theorem reach_closed {l : List Oper} {L : Nat → Prop} (hcl : ∀ c o, L c → l[c]? = some o → ∀ d ∈ depsOf o, L d) : ∀ {f j m : Nat}, L j → reachB l f j m = true → L m
 | 0, _, _, _, h => by cases h
 | f + 1, j, m, hj, h => by
  simp only [reachB, Bool.or_eq_true] at h
  rcases h with h | h
  · unfold waitB at h
    cases ho : l[j]? with
    | none => rw [ho] at h; cases h
    | some o => rw [ho] at h; exact hcl j o hj ho m (memN_iff.1 h)
  · cases ho : l[j]? with
    | none => rw [ho] at h; cases h
    | some o =>
     rw [ho] at h
     obtain ⟨k, hk, h1⟩ := List.any_eq_true.1 h
     exact reach_closed hcl (hcl j o hj ho k hk) h1
theorem envAll_congr {l : List Oper} {e : Env} {vs vs' : Nat → Value} : ∀ {i : Nat}, (∀ j, j < i → vs j = vs' j) → envAll l e vs i = envAll l e vs' i
 | 0, _ => rfl
 | i + 1, h => by simp only [envAll]; rw [envAll_congr (i := i) (fun j hj => h j (by omega)), h i (by omega)]
def FallZ (Φs : List Pz) (vs : Nat → Value) : Nat → List FE
 | 0 => []
 | i + 1 => match Φs[i]? with
  | some (.rel Φ ft) => ⟨i, Φ (vs i), ft (vs i)⟩ :: FallZ Φs vs i
  | _ => FallZ Φs vs i
def stableZ (w1 : World) : List Pz → Prop
 | [] => True
 | .det _ :: r => stableZ w1 r
 | .fn _ _ :: r => stableZ w1 r
 | .rel Φ ft :: r => (∀ v Z Z' w w', Φ v Z w → (∀ b, Z b → Z' b) → Ext w1 w → Ext w1 w' → (∀ b, (b < w1.heap.size ∨ Z b ∨ some b ∈ ft v) → b < w.heap.size → w'.heap[b]? = w.heap[b]?) → Φ v Z' w') ∧ stableZ w1 r
section
variable {P : Program} {l : List Oper} {cs : List (List Nat)} {n n0 : Nat} {K : Env → World → Prop} {e : Env} {w1 : World}
theorem stableZ_at {Φs : List Pz} (h : stableZ w1 Φs) : ∀ (i : Nat) Φ ft, Φs[i]? = some (.rel Φ ft) → ∀ v Z Z' w w', Φ v Z w → (∀ b, Z b → Z' b) → Ext w1 w → Ext w1 w' → (∀ b, (b < w1.heap.size ∨ Z b ∨ some b ∈ ft v) → b < w.heap.size → w'.heap[b]? = w.heap[b]?) → Φ v Z' w' := by
 induction Φs with
 | nil => intro i Φ ft hi; simp at hi
 | cons x r ih =>
  intro i Φ ft hi
  cases i with
  | zero =>
   simp at hi; subst hi
   exact h.1
  | succ i =>
   have hr : stableZ w1 r := by cases x with | det c => exact h | fn m g => exact h | rel Φ ft => exact h.2
   exact ih hr i Φ ft (by simpa using hi)
theorem drH_at {Φs : List Pz} (hl : n0 ≤ l.length) (hu : uniqOk l n0 = true) (h : DrH P l cs w1 K (l.take n0) Φs e [] 0) (vs : Nat → Value) (hv : fitsZ Φs vs) (hf : ∀ i m g, Φs[i]? = some (.fn m g) → m < i ∧ vs i = g (vs m)) : ∀ i, i ≤ n0 → DrH P l cs w1 K ((l.take n0).drop i) (Φs.drop i) (envAll l e vs i) (FallZ Φs vs i) i
 | 0, _ => by simpa [envAll, FallZ] using h
 | i + 1, hi => by
  have ih := drH_at hl hu h vs hv hf i (by omega)
  have hlt : i < (l.take n0).length := by simp; omega
  rw [List.drop_eq_getElem_cons hlt] at ih
  have hd : dstAt l i = ((l.take n0)[i]).dst := by
   simp only [dstAt, List.getElem_take]
   rw [List.getElem?_eq_getElem (by omega)]; rfl
  cases hΦ : Φs[i]? with
  | none =>
   have : Φs.drop i = [] := List.drop_eq_nil_of_le (List.getElem?_eq_none_iff.1 hΦ)
   rw [this] at ih; exact ih.elim
  | some ph =>
   have hlt2 : i < Φs.length := by
    rcases Nat.lt_or_ge i Φs.length with h2 | h2
    · exact h2
    · rw [List.getElem?_eq_none h2] at hΦ; cases hΦ
   have hc : Φs.drop i = ph :: Φs.drop (i + 1) := by
    rw [List.drop_eq_getElem_cons hlt2]; congr 1
    rw [List.getElem?_eq_getElem hlt2] at hΦ; exact Option.some.inj hΦ
   rw [hc] at ih
   cases ph with
   | det c =>
    have := ih.2
    have hvc := hv i c hΦ
    simp only [envAll, FallZ, hΦ, hd, hvc]
    exact this
   | fn m g =>
    obtain ⟨d, h1, -, h3⟩ := ih
    obtain ⟨hm, hvi⟩ := hf i m g hΦ
    rw [envAll_at h1 i hm (fun k hk hkd => uniq_at hu (by omega) (by omega) hkd h1), ← hvi] at h3
    simp only [envAll, FallZ, hΦ, hd]
    exact h3
   | rel Φ ft =>
    have := ih.2 (vs i)
    simp only [envAll, FallZ, hΦ, hd]
    exact this
theorem FallZ_vf {Φs : List Pz} {vs : Nat → Value} : ∀ {i : Nat}, FallZ Φs (vf Φs vs) i = FallZ Φs vs i
 | 0 => rfl
 | i + 1 => by
  simp only [FallZ, FallZ_vf (i := i)]
  cases hΦ : Φs[i]? with
  | none => rfl
  | some ph => cases ph with | rel Φ ft => simp only [vf_rel (Φs := Φs) (vs := vs) (j := i) (by rw [hΦ]; rfl)] | _ => rfl
theorem mem_FallZ {Φs : List Pz} {vs : Nat → Value} {x : FE} : ∀ {i : Nat}, x ∈ FallZ Φs vs i → x.idx < i ∧ ∃ Φ ft, Φs[x.idx]? = some (.rel Φ ft) ∧ x.φ = Φ (vs x.idx) ∧ x.ft = ft (vs x.idx)
 | 0, h => by cases h
 | i + 1, h => by
  simp only [FallZ] at h
  cases hΦ : Φs[i]? with
  | none => rw [hΦ] at h; obtain ⟨h1, h2⟩ := mem_FallZ h; exact ⟨by omega, h2⟩
  | some ph =>
   rw [hΦ] at h
   cases ph with
   | det c => obtain ⟨h1, h2⟩ := mem_FallZ h; exact ⟨by omega, h2⟩
   | fn m g => obtain ⟨h1, h2⟩ := mem_FallZ h; exact ⟨by omega, h2⟩
   | rel Φ ft =>
    rcases List.mem_cons.1 h with h | h
    · subst h; exact ⟨by simp, Φ, ft, hΦ, rfl, rfl⟩
    · obtain ⟨h1, h2⟩ := mem_FallZ h; exact ⟨by omega, h2⟩
theorem factsI_of {w : World} {Z : Nat → Prop} {i : Nat} {ds : List Nat} : ∀ {F : List FE}, (∀ x ∈ F, memN x.idx ds = true → seesB l cs i x.idx = true → x.φ Z w ∧ Bnd w1 w Z x.ft) → factsI l cs w1 i ds F Z w
 | [], _ => trivial
 | x :: r, h => by
  refine ⟨?_, factsI_of fun y hy => h y (List.mem_cons_of_mem _ hy)⟩
  cases h1 : memN x.idx ds <;> cases h2 : seesB l cs i x.idx <;> simp
  exact h x List.mem_cons_self h1 h2
theorem factsE_of {w : World} {Z : Nat → Prop} : ∀ {F : List FE}, (∀ x ∈ F, endsB cs x.idx = true → x.φ Z w ∧ Bnd w1 w Z x.ft) → factsE cs w1 F Z w
 | [], _ => trivial
 | x :: r, h => by
  refine ⟨?_, factsE_of fun y hy => h y (List.mem_cons_of_mem _ hy)⟩
  cases h1 : endsB cs x.idx <;> simp
  exact h x List.mem_cons_self h1
theorem apartE_of {x : FE} : ∀ {F : List FE}, (∀ y ∈ F, endsB cs x.idx = true → endsB cs y.idx = true → ∀ b, some b ∈ x.ft → some b ∉ y.ft) → apartE cs x F
 | [], _ => trivial
 | y :: r, h => by
  refine ⟨?_, apartE_of fun z hz => h z (List.mem_cons_of_mem _ hz)⟩
  cases h1 : endsB cs x.idx <;> cases h2 : endsB cs y.idx <;> simp
  exact h y List.mem_cons_self h1 h2
theorem mem_usedBy {j c : Nat} : c ∈ usedBy cs j ↔ c < cs.length ∧ j ∈ cs.getD c [] := by
 simp only [usedBy, List.mem_filter, List.mem_range, memN_iff]
theorem mem_feet {js : List Nat} {b : Option Nat} : ∀ {F : List FE}, b ∈ feet js F ↔ ∃ x ∈ F, x.idx ∈ js ∧ b ∈ x.ft
 | [] => by simp [feet]
 | x :: r => by
  have ih := mem_feet (js := js) (b := b) (F := r)
  simp only [feet]
  cases h : memN x.idx js with
  | true =>
   have := memN_iff.1 h
   simp [ih, this]
  | false =>
   have : x.idx ∉ js := fun hm => by rw [memN_iff.2 hm] at h; cases h
   simp [ih, this]
def Lv (cs : List (List Nat)) (L : Nat → Prop) (i : Nat) : Prop := L i ∧ ∀ c, L c → i ∉ cs.getD c []
structure JZ (l : List Oper) (cs : List (List Nat)) (Φs : List Pz) (w1 : World) (L : Nat → Prop) (vs : Nat → Value) (w : World) (Z : Nat → Prop) : Prop where
 fit : fitsZ Φs vs
 cl : ∀ c o, L c → l[c]? = some o → ∀ d ∈ depsOf o, L d
 zb : ZB w1 w Z
 holds : ∀ i Φ ft, Φs[i]? = some (.rel Φ ft) → Lv cs L i → Φ (vs i) Z w ∧ Bnd w1 w Z (ft (vs i))
 fnv : ∀ j m g, Φs[j]? = some (.fn m g) → L j → vs j = g (vs m)
 apart : ∀ i j Φ ft Φ' ft', Φs[i]? = some (.rel Φ ft) → Φs[j]? = some (.rel Φ' ft') → i ≠ j → Lv cs L i → Lv cs L j → ∀ b, some b ∈ ft (vs i) → some b ∉ ft' (vs j)
end
theorem waitB_at {l : List Oper} {c j : Nat} (h : waitB l c j = true) : ∃ o, l[c]? = some o ∧ j ∈ depsOf o := by
 unfold waitB at h
 cases ho : l[c]? with
 | none => rw [ho] at h; cases h
 | some o => rw [ho] at h; exact ⟨o, rfl, memN_iff.1 h⟩
section
variable {P : Program} {n : Nat} {k : List It} {Q : Env → World → Prop} {e : Env} {w : World}
theorem Swp.drawL {id : Nat} {l : List Oper} (n0 : Nat) (cs : List (List Nat)) (lt : List Nat) (Ψ : World → List Pz) (hm : P.follows .mixedOrders = true) (hok : dstsOk n l = true) (hdr : drawOkL l n0 lt = true) (hcon : conOk l cs = true)
    (hfn : ∀ w1, fnOk l (Ψ w1) = true) (hlt : ∀ w1, ltOk lt (Ψ w1) = true) (hst : ∀ w1, Ext w w1 → stableZ w1 (Ψ w1))
    (h : ∀ w1, Ext w w1 → DrH P l cs w1 (RlL P l (Swp P n k Q) lt (l.drop n0)) (l.take n0) (Ψ w1) e [] 0) : Swp P n (.code (.region id l.toArray true) :: k) Q e w := by
  obtain ⟨hn, hh, hu, hb, hsk, hch, -⟩ := drawOkL_spec hdr
  have con : ∀ c j, j ∈ cs.getD c [] → waitB l c j = true ∧ ∀ c', c' < cs.length → j ∈ cs.getD c' [] → c' = c := by
    intro c j hj
    have hc : c < cs.length := by
      rcases Nat.lt_or_ge c cs.length with h1 | h1
      · exact h1
      · rw [List.getD_eq_getElem?_getD, List.getElem?_eq_none h1] at hj; simp at hj
    have h1 := List.all_eq_true.1 (List.all_eq_true.1 hcon c (List.mem_range.2 hc)) j hj
    simp only [Bool.and_eq_true] at h1
    refine ⟨h1.1, fun c' hc' hj' => ?_⟩
    exact Nat.eq_of_beq_eq_true (List.all_eq_true.1 h1.2 c' (mem_usedBy.2 ⟨hc', hj'⟩))
  have conlt : ∀ c j, j ∈ cs.getD c [] → c < cs.length := by
    intro c j hj
    rcases Nat.lt_or_ge c cs.length with h1 | h1
    · exact h1
    · rw [List.getD_eq_getElem?_getD, List.getElem?_eq_none h1] at hj; simp at hj
  have fits2 : ∀ (Φs : List Pz), fnOk l Φs = true → ∀ vs, fitsZ Φs vs → fitsZ Φs (vf Φs vs) ∧ ∀ i m g, Φs[i]? = some (.fn m g) → m < i ∧ vf Φs vs i = g (vf Φs vs m) := by
    intro Φs hfo vs hf
    refine ⟨fun i c hi => ?_, fun i m g hi => ?_⟩
    · have := hf i c hi
      unfold vf; rw [hi]; exact this
    · obtain ⟨h1, _, h3⟩ := fnOk_at hfo hi
      refine ⟨h1, ?_⟩
      rw [vf_rel h3]; unfold vf; rw [hi]
  refine Swp.drawJ n0 lt (fun w1 L vs w => ∃ Z, JZ l cs (Ψ w1) w1 L vs w Z) hm hok hdr ?_ ?_ ?_ ?_
  · intro w1 _
    generalize Ψ w1 = Φs
    refine ⟨fun i => match Φs[i]? with | some (.det c) => c | _ => undef, fun _ => False, fun i c hc => by simp [hc], fun _ _ h => h.elim, fun _ h => h.elim, fun _ _ _ _ h => h.1.elim, fun _ _ _ _ h => h.elim, fun _ _ _ _ _ _ _ _ _ h => h.1.elim⟩
  · intro w1 hE1 i o hi ho L vs w hdeps hnl hE ⟨Z, j⟩
    have hst1 := hst w1 hE1
    have hh1 := h w1 hE1
    have hfo := hfn w1
    generalize Ψ w1 = Φs at j hst1 hh1 hfo ⊢
    obtain ⟨ff1, ff2⟩ := fits2 Φs hfo vs j.fit
    have hD := drH_at hn hu hh1 (vf Φs vs) ff1 ff2 i (by omega)
    rw [FallZ_vf] at hD
    obtain ⟨_, hlook, hsel⟩ := head_at hh hi ho
    refine GOp_congr (e := envAll l e (vf Φs vs) i) hsel (fun t ht => ?_) ?_
    · by_cases hex : ∃ j, j < n0 ∧ dstAt l j = some t
      · obtain ⟨q, hq, hqd⟩ := hex
        rcases look_at hlook ht hq hqd with ⟨h1, h2⟩ | ⟨h1, _⟩
        · rw [envAll_at hqd i h2 (fun k hk hkd => uniq_at hu (by omega) hq hkd hqd), envAll_at hqd i h2 (fun k hk hkd => uniq_at hu (by omega) hq hkd hqd)]
          unfold vf
          cases hΦq : Φs[q]? with
          | none => rfl
          | some ph => cases ph with
            | fn m g => exact (j.fnv q m g hΦq (hdeps q h1)).symm
            | _ => rfl
        · rw [envAll_not i (fun k hk hkd => by have := uniq_at hu (show k < n0 by omega) hq hkd hqd; omega), envAll_not i (fun k hk hkd => by have := uniq_at hu (show k < n0 by omega) hq hkd hqd; omega)]
      · rw [envAll_not i (fun j hj hjd => hex ⟨j, by omega, hjd⟩), envAll_not i (fun j hj hjd => hex ⟨j, by omega, hjd⟩)]
    have fnKeep : ∀ (v : Value), (∀ m g, Φs[i]? = some (.fn m g) → v = g (vs m)) → ∀ q m g, Φs[q]? = some (.fn m g) → (L q ∨ q = i) → (if q = i then v else vs q) = g (if m = i then v else vs m) := by
      intro v hv q m g hq hLq
      obtain ⟨g1, g2, g3⟩ := fnOk_at hfo hq
      by_cases hqi : q = i
      · subst hqi
        rw [if_pos rfl, if_neg (by omega)]; exact hv m g hq
      · have hLq := hLq.resolve_right hqi
        have hLm := reach_closed j.cl hLq g2
        rw [if_neg hqi, if_neg (fun hmi : m = i => hnl (hmi ▸ hLm))]
        exact j.fnv q m g hq hLq
    have hlt : i < (l.take n0).length := by simp; omega
    rw [List.drop_eq_getElem_cons hlt] at hD
    have hgi : (l.take n0)[i] = o := by
      have : l[i]? = some l[i] := List.getElem?_eq_getElem (by omega)
      rw [ho] at this
      simp only [List.getElem_take]
      exact (Option.some.inj this).symm
    rw [hgi] at hD
    have see : ∀ x ∈ FallZ Φs vs i, memN x.idx (depsOf o) = true → seesB l cs i x.idx = true → x.φ Z w ∧ Bnd w1 w Z x.ft := by
      intro x hx hmx hsx
      obtain ⟨hxi, Φ, ft, g1, g2, g3⟩ := mem_FallZ hx
      have hlv : Lv cs L x.idx := by
        refine ⟨hdeps _ (memN_iff.1 hmx), fun c hc hj => ?_⟩
        have h1 := List.all_eq_true.1 hsx c (mem_usedBy.2 ⟨conlt c _ hj, hj⟩)
        simp only [Bool.or_eq_true] at h1
        rcases h1 with h1 | h1
        · have := Nat.eq_of_beq_eq_true h1; subst this; exact hnl hc
        · obtain ⟨oc, hoc, hd⟩ := waitB_at h1
          exact hnl (j.cl c oc hc hoc i hd)
      rw [g2, g3]
      exact j.holds x.idx Φ ft g1 hlv
    have hfacts := factsI_of (l := l) (cs := cs) (w1 := w1) (i := i) (ds := depsOf o) see
    cases hΦ : Φs[i]? with
    | none =>
      have : Φs.drop i = [] := List.drop_eq_nil_of_le (List.getElem?_eq_none_iff.1 hΦ)
      rw [this] at hD; exact hD.elim
    | some ph =>
      have hlt2 : i < Φs.length := by
        rcases Nat.lt_or_ge i Φs.length with h2 | h2
        · exact h2
        · rw [List.getElem?_eq_none h2] at hΦ; cases hΦ
      have hc : Φs.drop i = ph :: Φs.drop (i + 1) := by
        rw [List.drop_eq_getElem_cons hlt2]; congr 1
        rw [List.getElem?_eq_getElem hlt2] at hΦ; exact Option.some.inj hΦ
      rw [hc] at hD
      have clos : ∀ c oc, (L c ∨ c = i) → l[c]? = some oc → ∀ d ∈ depsOf oc, L d ∨ d = i := by
        intro c oc hcL hoc d hd
        rcases hcL with h1 | h1
        · exact .inl (j.cl c oc h1 hoc d hd)
        · subst h1; rw [ho] at hoc; cases hoc; exact .inl (hdeps d hd)
      have lvOld : ∀ m, m ≠ i → Lv cs (fun j => L j ∨ j = i) m → Lv cs L m := by
        intro m hm hlv
        exact ⟨hlv.1.resolve_right hm, fun c hcL => hlv.2 c (.inl hcL)⟩
      have quiet : (∀ Φ ft, Φs[i]? ≠ some (.rel Φ ft)) → ∀ v w', Ext w w' → (∀ c, Φs[i]? = some (.det c) → v = c) → (∀ m g, Φs[i]? = some (.fn m g) → v = g (vs m)) →
          JZ l cs Φs w1 (fun j => L j ∨ j = i) (fun j => if j = i then v else vs j) w' Z := by
        intro hnr v w' hE' hvd hvf
        refine ⟨fun m cm hm => ?_, clos, fun b hb => ⟨(j.zb b hb).1, Nat.lt_of_lt_of_le (j.zb b hb).2 hE'.size⟩, fun m Φ ft hm hlv => ?_, fnKeep v hvf, fun m m' Φ ft Φ' ft' hm hm' hne h1 h2 => ?_⟩
        · by_cases hmi : m = i
          · subst hmi; simp only [if_true]; exact hvd cm hm
          · simp only [hmi, if_false]; exact j.fit m cm hm
        · have hmi : m ≠ i := by rintro rfl; exact hnr _ _ hm
          simp only [hmi, if_false]
          obtain ⟨g1, g2⟩ := j.holds m Φ ft hm (lvOld m hmi hlv)
          refine ⟨stableZ_at hst1 m Φ ft hm _ Z Z w w' g1 (fun _ h => h) hE (hE.trans hE') (fun b _ hb => hE'.block b hb), fun b hb => ?_⟩
          obtain ⟨q1, q2, q3⟩ := g2 b hb
          exact ⟨q1, Nat.lt_of_lt_of_le q2 hE'.size, q3⟩
        · have hmi : m ≠ i := by rintro rfl; exact hnr _ _ hm
          have hmi' : m' ≠ i := by rintro rfl; exact hnr _ _ hm'
          simp only [hmi, hmi', if_false]
          exact j.apart m m' Φ ft Φ' ft' hm hm' hne (lvOld m hmi h1) (lvOld m' hmi' h2)
      cases ph with
      | det c =>
        refine GOp.mono (hD.1 w Z hE j.zb hfacts) ?_
        rintro v w' ⟨hE', rfl⟩
        exact ⟨hE.trans hE', Z, quiet (fun Φ ft h => by rw [hΦ] at h; cases h) v w' hE' (fun c hc => by rw [hΦ] at hc; cases hc; rfl) (fun m g h => by rw [hΦ] at h; cases h)⟩
      | fn m g =>
        obtain ⟨d, hdm, hop, -⟩ := hD
        refine GOp.mono (hop w Z hE j.zb hfacts) ?_
        rintro v w' ⟨hE', rfl⟩
        obtain ⟨hmi, -, hmr⟩ := fnOk_at hfo hΦ
        rw [envAll_at hdm i hmi (fun k hk hkd => uniq_at hu (by omega) (by omega) hkd hdm), vf_rel hmr]
        exact ⟨hE.trans hE', Z, quiet (fun Φ ft h => by rw [hΦ] at h; cases h) _ w' hE' (fun c hc => by rw [hΦ] at hc; cases hc) (fun m g h => by rw [hΦ] at h; cases h; rfl)⟩
      | rel Φ0 ft0 =>
        refine GOp.mono (hD.1 w Z hE j.zb hfacts) ?_
        rintro v w' ⟨Z', hz1, hz2, hU, hφ, hft⟩
        have cf : ∀ b, some b ∈ feet (cs.getD i []) (FallZ Φs vs i) → ∃ m Φ ft, m ∈ cs.getD i [] ∧ Φs[m]? = some (.rel Φ ft) ∧ some b ∈ ft (vs m) ∧ Lv cs L m := by
          intro b hb
          obtain ⟨x, hx, hxi, hbx⟩ := mem_feet.1 hb
          obtain ⟨_, Φ, ft, g1, g2, g3⟩ := mem_FallZ hx
          refine ⟨x.idx, Φ, ft, hxi, g1, by rw [← g3]; exact hbx, ?_, fun c hcL hj => ?_⟩
          · obtain ⟨oc, hoc, hd⟩ := waitB_at (con i _ hxi).1
            rw [ho] at hoc; cases hoc; exact hdeps _ hd
          · have := (con i _ hxi).2 c (conlt c _ hj) hj
            subst this; exact hnl hcL
        have cfb : ∀ b, some b ∈ feet (cs.getD i []) (FallZ Φs vs i) → w1.heap.size ≤ b ∧ b < w.heap.size ∧ ¬ Z b := by
          intro b hb
          obtain ⟨m, Φ, ft, _, g1, g2, g3⟩ := cf b hb
          exact (j.holds m Φ ft g1 g3).2 b g2
        have hE' : Ext w1 w' := by
          refine ⟨hU.os.trans hE.os, hU.tape.trans hE.tape, hU.output.trans hE.output, Nat.le_trans hE.size hU.size, fun b hb => ?_⟩
          rw [hU.keep b (Nat.lt_of_lt_of_le hb hE.size) (fun hm => by have := (cfb b hm).1; omega)]
          exact hE.block b hb
        have newb : ∀ b, New (feet (cs.getD i []) (FallZ Φs vs i)) w w' b → w1.heap.size ≤ b ∧ b < w'.heap.size := by
          rintro b (h1 | h1)
          · exact ⟨Nat.le_trans hE.size h1.1, h1.2⟩
          · exact ⟨(cfb b h1).1, Nat.lt_of_lt_of_le (cfb b h1).2.1 hU.size⟩
        have lvNot : ∀ m, Lv cs (fun j => L j ∨ j = i) m → m ∉ cs.getD i [] := fun m hlv => hlv.2 i (.inr rfl)
        have others : ∀ m Φ ft, m ≠ i → Φs[m]? = some (.rel Φ ft) → Lv cs (fun j => L j ∨ j = i) m → ∀ b, some b ∈ ft (vs m) → some b ∉ feet (cs.getD i []) (FallZ Φs vs i) := by
          intro m Φ ft hmi hm hlv b hb hcf
          obtain ⟨m', Φ', ft', g0, g1, g2, g3⟩ := cf b hcf
          have hne : m ≠ m' := by rintro rfl; exact lvNot m hlv g0
          exact j.apart m m' Φ ft Φ' ft' hm g1 hne (lvOld m hmi hlv) g3 b hb g2
        refine ⟨hE', Z', ⟨fun m cm hm => ?_, clos, fun b hb => ?_, fun m Φ ft hm hlv => ?_, fnKeep v (fun m g h => by rw [hΦ] at h; cases h), fun m m' Φ ft Φ' ft' hm hm' hne h1 h2 => ?_⟩⟩
        · have hmi : m ≠ i := by rintro rfl; rw [hΦ] at hm; cases hm
          simp only [hmi, if_false]; exact j.fit m cm hm
        · rcases hz2 b hb with h1 | h1
          · exact ⟨(j.zb b h1).1, Nat.lt_of_lt_of_le (j.zb b h1).2 hU.size⟩
          · exact newb b h1
        · by_cases hmi : m = i
          · subst hmi
            rw [hΦ] at hm; cases hm
            simp only [if_true]
            refine ⟨hφ, fun b hb => ?_⟩
            obtain ⟨q1, q2⟩ := hft b hb
            exact ⟨(newb b q1).1, (newb b q1).2, q2⟩
          · simp only [hmi, if_false]
            obtain ⟨g1, g2⟩ := j.holds m Φ ft hm (lvOld m hmi hlv)
            refine ⟨stableZ_at hst1 m Φ ft hm _ Z Z' w w' g1 hz1 hE hE' (fun b hb hlt => ?_), fun b hb => ?_⟩
            · refine hU.keep b hlt fun hcf => ?_
              rcases hb with hb | hb | hb
              · have := (cfb b hcf).1; omega
              · exact (cfb b hcf).2.2 hb
              · exact others m Φ ft hmi hm hlv b hb hcf
            · obtain ⟨q1, q2, q3⟩ := g2 b hb
              refine ⟨q1, Nat.lt_of_lt_of_le q2 hU.size, fun hz => ?_⟩
              rcases hz2 b hz with h1 | h1
              · exact q3 h1
              · rcases h1 with h1 | h1
                · omega
                · exact others m Φ ft hmi hm hlv b hb h1
        · intro b hb
          by_cases hmi : m = i
          · subst hmi
            have hmi' : m' ≠ m := fun h => hne h.symm
            rw [hΦ] at hm; cases hm
            simp only [if_true, hmi', if_false] at hb ⊢
            intro hb'
            obtain ⟨q1, q2⟩ := hft b hb
            rcases q1 with q1 | q1
            · have := ((j.holds m' Φ' ft' hm' (lvOld m' hmi' h2)).2 b hb').2.1; omega
            · exact others m' Φ' ft' hmi' hm' h2 b hb' q1
          · by_cases hmi' : m' = i
            · subst hmi'
              rw [hΦ] at hm'; cases hm'
              simp only [if_true, hmi, if_false] at hb ⊢
              intro hb'
              obtain ⟨q1, q2⟩ := hft b hb'
              rcases q1 with q1 | q1
              · have := ((j.holds m Φ ft hm (lvOld m hmi h1)).2 b hb).2.1; omega
              · exact others m Φ ft hmi hm h1 b hb q1
            · simp only [hmi, hmi', if_false] at hb ⊢
              exact j.apart m m' Φ ft Φ' ft' hm hm' hne (lvOld m hmi h1) (lvOld m' hmi' h2) b hb
  · 
    intro w1 hE1 i hil o ho L vs w hdeps hnl hE ⟨Z, j⟩
    have hfo := hfn w1
    have hl1 := hlt w1
    have hst1 := hst w1 hE1
    generalize Ψ w1 = Φs at j hfo hl1 hst1 ⊢
    have hnr : isRel Φs[i]? = false := by
      have := List.all_eq_true.1 hl1 i hil
      simpa using this
    have hnr' : ∀ Φ ft, Φs[i]? ≠ some (.rel Φ ft) := fun Φ ft h => by rw [h] at hnr; cases hnr
    have lvOld : ∀ m, m ≠ i → Lv cs (fun j => L j ∨ j = i) m → Lv cs L m := fun m hm hlv => ⟨hlv.1.resolve_right hm, fun c hcL => hlv.2 c (.inl hcL)⟩
    refine ⟨vf Φs vs i, Z, ⟨fun m cm hm => ?_, ?_, j.zb, fun m Φ ft hm hlv => ?_, fun q m g hq hLq => ?_, fun m m' Φ ft Φ' ft' hm hm' hne h1 h2 => ?_⟩⟩
    · by_cases hmi : m = i
      · subst hmi; simp only [if_true]; unfold vf; rw [hm]; exact j.fit m cm hm
      · simp only [hmi, if_false]; exact j.fit m cm hm
    · intro c oc hcL hoc d hd
      rcases hcL with h1 | h1
      · exact .inl (j.cl c oc h1 hoc d hd)
      · subst h1; rw [ho] at hoc; cases hoc; exact .inl (hdeps d hd)
    · have hmi : m ≠ i := by rintro rfl; exact hnr' _ _ hm
      simp only [hmi, if_false]
      exact j.holds m Φ ft hm (lvOld m hmi hlv)
    · obtain ⟨g1, g2, g3⟩ := fnOk_at hfo hq
      by_cases hqi : q = i
      · subst hqi
        rw [if_pos rfl, if_neg (by omega)]; unfold vf; rw [hq]
      · have hLq := hLq.resolve_right hqi
        have hLm := reach_closed j.cl hLq g2
        rw [if_neg hqi, if_neg (fun hmi : m = i => hnl (hmi ▸ hLm))]
        exact j.fnv q m g hq hLq
    · have hmi : m ≠ i := by rintro rfl; exact hnr' _ _ hm
      have hmi' : m' ≠ i := by rintro rfl; exact hnr' _ _ hm'
      simp only [hmi, hmi', if_false]
      exact j.apart m m' Φ ft Φ' ft' hm hm' hne (lvOld m hmi h1) (lvOld m' hmi' h2)
  · intro w1 hE1 vs w hE ⟨Z, j⟩
    have hh1 := h w1 hE1
    have hfo := hfn w1
    generalize Ψ w1 = Φs at j hh1 hfo ⊢
    obtain ⟨ff1, ff2⟩ := fits2 Φs hfo vs j.fit
    have hD := drH_at hn hu hh1 (vf Φs vs) ff1 ff2 n0 (Nat.le_refl _)
    rw [FallZ_vf, envAll_congr (vs' := vs) (fun q hq => by
      unfold vf
      cases hΦq : Φs[q]? with
      | none => rfl
      | some ph => cases ph with
        | fn m g => exact (j.fnv q m g hΦq hq).symm
        | _ => rfl)] at hD
    have hnil : (l.take n0).drop n0 = [] := by
      apply List.drop_eq_nil_of_le; simp; omega
    rw [hnil] at hD
    have lvE : ∀ x ∈ FallZ Φs vs n0, endsB cs x.idx = true → Lv cs (fun j => j < n0) x.idx := by
      intro x hx hend
      obtain ⟨hxi, _⟩ := mem_FallZ hx
      refine ⟨hxi, fun c hc hj => ?_⟩
      have : c ∈ usedBy cs x.idx := mem_usedBy.2 ⟨conlt c _ hj, hj⟩
      unfold endsB at hend
      rw [List.isEmpty_iff] at hend
      rw [hend] at this; cases this
    have f1 : factsE cs w1 (FallZ Φs vs n0) Z w := factsE_of fun x hx hend => by
      obtain ⟨hxi, Φ, ft, g1, g2, g3⟩ := mem_FallZ hx
      rw [g2, g3]
      exact j.holds x.idx Φ ft g1 (lvE x hx hend)
    have f2 : ∀ i, i ≤ n0 → apartsE cs (FallZ Φs vs i) := by
      intro i
      induction i with
      | zero => intro _; trivial
      | succ i ih =>
        intro hi
        simp only [FallZ]
        have sub : ∀ x ∈ FallZ Φs vs i, x ∈ FallZ Φs vs n0 := by
          have : ∀ m, i ≤ m → ∀ x ∈ FallZ Φs vs i, x ∈ FallZ Φs vs m := by
            intro m
            induction m with
            | zero => intro hm x hx; have : i = 0 := by omega
                      subst this; exact hx
            | succ m ihm =>
              intro hm x hx
              by_cases him : i = m + 1
              · subst him; exact hx
              · have := ihm (by omega) x hx
                simp only [FallZ]
                cases hq : Φs[m]? with
                | none => exact this
                | some ph => cases ph with | det c => exact this | fn m g => exact this | rel Φ ft => exact List.mem_cons_of_mem _ this
          exact this n0 (by omega)
        cases hΦ : Φs[i]? with
        | none => exact ih (by omega)
        | some ph =>
          cases ph with
          | det c => exact ih (by omega)
          | fn m g => exact ih (by omega)
          | rel Φ ft =>
            refine ⟨apartE_of fun y hy h1 h2 b hb => ?_, ih (by omega)⟩
            obtain ⟨hyi, Φ', ft', g1, g2, g3⟩ := mem_FallZ hy
            rw [g3]
            have hl1 : Lv cs (fun j => j < n0) i := by
              refine ⟨by omega, fun c hc hj => ?_⟩
              have : c ∈ usedBy cs i := mem_usedBy.2 ⟨conlt c _ hj, hj⟩
              unfold endsB at h1
              rw [List.isEmpty_iff] at h1
              rw [h1] at this; cases this
            exact j.apart i y.idx Φ ft Φ' ft' hΦ g1 (by omega) hl1 (lvE y (sub y hy) h2) b hb
    cases hΦ : Φs.drop n0 with
    | nil => rw [hΦ] at hD; exact hD w Z hE j.zb f1 (f2 n0 (Nat.le_refl _))
    | cons x r => rw [hΦ] at hD; exact hD w Z hE j.zb f1 (f2 n0 (Nat.le_refl _))
end
section
variable {P : Program} {l : List Oper} {cs : List (List Nat)} {w1 : World} {K : Env → World → Prop} {r : List Oper} {Φs : List Pz} {e : Env} {F : List FE} {i : Nat}
theorem DrH.det {d : Nat} {op : Op} {ty : TypeId} {pos : String} {after : Array Edge} {guard : Option (Nat × Bool)} {c : Value}
 (h1 : ∀ w' Z, Ext w1 w' → ZB w1 w' Z → factsI l cs w1 i (depsOf { dst := some d, op := op, type := ty, pos := pos, after := after, guard := guard }) F Z w' → GOp P l { dst := some d, op := op, type := ty, pos := pos, after := after, guard := guard } e w' fun v w'' => Ext w' w'' ∧ v = c)
 (h2 : DrH P l cs w1 K r Φs (upd e d c) F (i + 1)) : DrH P l cs w1 K ({ dst := some d, op := op, type := ty, pos := pos, after := after, guard := guard } :: r) (.det c :: Φs) e F i := ⟨h1, h2⟩
theorem er {w : World} {v c : Value} (h : v = c) : Ext w w ∧ v = c := ⟨Ext.refl _, h⟩
theorem DrH.de {d : Nat} {op : Op} {ty : TypeId} {pos : String} {after : Array Edge} {guard : Option (Nat × Bool)} {c : Value}
 (h1 : ∀ w', Ext w1 w' → GOp P l { dst := some d, op := op, type := ty, pos := pos, after := after, guard := guard } e w' fun v w'' => Ext w' w'' ∧ v = c)
 (h2 : DrH P l cs w1 K r Φs (upd e d c) F (i + 1)) : DrH P l cs w1 K ({ dst := some d, op := op, type := ty, pos := pos, after := after, guard := guard } :: r) (.det c :: Φs) e F i := ⟨fun w' _ hE _ _ => h1 w' hE, h2⟩
theorem DrH.fn {d m ds : Nat} {op : Op} {ty : TypeId} {pos : String} {after : Array Edge} {guard : Option (Nat × Bool)} {g : Value → Value} (hm : dstAt l m = some ds)
 (h1 : ∀ w' Z, Ext w1 w' → ZB w1 w' Z → factsI l cs w1 i (depsOf { dst := some d, op := op, type := ty, pos := pos, after := after, guard := guard }) F Z w' → GOp P l { dst := some d, op := op, type := ty, pos := pos, after := after, guard := guard } e w' fun v w'' => Ext w' w'' ∧ v = g (e ds))
 (h2 : DrH P l cs w1 K r Φs (upd e d (g (e ds))) F (i + 1)) : DrH P l cs w1 K ({ dst := some d, op := op, type := ty, pos := pos, after := after, guard := guard } :: r) (.fn m g :: Φs) e F i := ⟨ds, hm, h1, h2⟩
theorem DrH.rel {d : Nat} {op : Op} {ty : TypeId} {pos : String} {after : Array Edge} {guard : Option (Nat × Bool)} {Φ : Value → (Nat → Prop) → World → Prop} {ft : Value → List (Option Nat)}
 (h1 : ∀ w' Z, Ext w1 w' → ZB w1 w' Z → factsI l cs w1 i (depsOf { dst := some d, op := op, type := ty, pos := pos, after := after, guard := guard }) F Z w' → GOp P l { dst := some d, op := op, type := ty, pos := pos, after := after, guard := guard } e w' fun v w'' => Made (feet (cs.getD i []) F) (ft v) Z w' w'' (Φ v))
 (h2 : ∀ v, DrH P l cs w1 K r Φs (upd e d v) (⟨i, Φ v, ft v⟩ :: F) (i + 1)) : DrH P l cs w1 K ({ dst := some d, op := op, type := ty, pos := pos, after := after, guard := guard } :: r) (.rel Φ ft :: Φs) e F i := ⟨h1, h2⟩
theorem DrH.fin (h : ∀ w' Z, Ext w1 w' → ZB w1 w' Z → factsE cs w1 F Z w' → apartsE cs F → K e w') : DrH P l cs w1 K [] Φs e F i := h
theorem DrH.fin0 (h : ∀ w' Z, Ext w1 w' → ZB w1 w' Z → factsE cs w1 F Z w' → apartsE cs F → Rl P l r K e w') : DrH P l cs w1 (RlL P l K [] r) [] Φs e F i := fun w' Z h1 h2 h3 h4 => RlL_nil (h w' Z h1 h2 h3 h4)
end
section
variable {P : Program} {l : List Oper} {K : Env → World → Prop} {r : List Oper} {e : Env} {w : World} {lt : List Nat}
theorem LateP.nil : LateP P l [] e w := fun _ h => by cases h
theorem LateP.cons {i : Nat} {o : Oper} {d : Nat} (ho : l[i]? = some o) (hd : o.dst = some d) (h : GOp P l o e w fun v w' => v = e d ∧ w' = w) (hr : LateP P l lt e w) : LateP P l (i :: lt) e w := fun j hj o' ho' => by
 rcases List.mem_cons.1 hj with rfl | hj
 · rw [ho] at ho'; cases ho'
   exact GOp.mono h fun v w' h' => ⟨⟨d, hd, h'.1⟩, h'.2⟩
 · exact hr j hj o' ho'
theorem RlL.op {d : Nat} {op : Op} {ty : TypeId} {pos : String} {after : Array Edge}
 (h : OpY P op ty (ev e) w fun v w' => LateP P l (lt.filter fun i => !memN i (depsOf { dst := some d, op := op, type := ty, pos := pos, after := after, guard := none })) (upd e d v) w' ∧ RlL P l K (lt.filter fun i => !memN i (depsOf { dst := some d, op := op, type := ty, pos := pos, after := after, guard := none })) r (upd e d v) w') :
 RlL P l K lt ({ dst := some d, op := op, type := ty, pos := pos, after := after, guard := none } :: r) e w := GOp.op h
theorem RlL.op0 {op : Op} {ty : TypeId} {pos : String} {after : Array Edge}
 (h : OpY P op ty (ev e) w fun _ w' => LateP P l (lt.filter fun i => !memN i (depsOf { dst := none, op := op, type := ty, pos := pos, after := after, guard := none })) e w' ∧ RlL P l K (lt.filter fun i => !memN i (depsOf { dst := none, op := op, type := ty, pos := pos, after := after, guard := none })) r e w') :
 RlL P l K lt ({ dst := none, op := op, type := ty, pos := pos, after := after, guard := none } :: r) e w := GOp.op h
end
end Go.X
set_option linter.unusedSimpArgs false
set_option linter.unusedVariables false
namespace Go.X
open Go Go.RowKit
theorem one_cells {v : Value} (h : one v = true) : v.cells = #[v] := by
 cases v <;> first | rfl | (simp [one, Value.oneCell'] at h)
theorem Loc.begin {X : List (Option Nat)} {C : List Cont} {w : World} (h : Owns w X C) (hd : Distinct X) : Loc X [] w w X C :=
 ⟨rfl, rfl, rfl, Nat.le_refl _, fun _ _ _ => rfl, h, fun _ hb => .inl hb, hd, fun _ _ h => (by cases h), fun _ h => (by cases h)⟩
theorem Loc.add {X : List (Option Nat)} {w0 w : World} {O : List (Option Nat)} {C : List Cont} {ob : Option Nat} {c : Cont} (hL : Loc X [] w0 w O C) (hb : ∀ b, ob = some b → w0.heap.size ≤ b ∧ some b ∉ O) (hc : OwnC w ob c) :
 Loc X [] w0 w (ob :: O) (c :: C) := by
 refine ⟨hL.os, hL.tape, hL.output, hL.size, hL.keep, ⟨hc, hL.own⟩, fun b hm => ?_, ?_, fun _ _ h => (by cases h), fun _ h => (by cases h)⟩
 · rcases List.mem_cons.1 hm with h | h
   · exact .inr (hb b h.symm).1
   · exact hL.fresh b h
 · cases ob with
   | none => exact hL.dist
   | some b => exact ⟨(hb b rfl).2, hL.dist⟩
def osv : Option Nat → Nat → Nat → Nat → Value
 | none, _, _, _ => .slice none 0 0
 | some b, o, n, cap => .slice (some ⟨b, o, none⟩) n cap
theorem osv_one (ob : Option Nat) (o n cap : Nat) : one (osv ob o n cap) = true := by cases ob <;> rfl
theorem osv_zero (ob : Option Nat) (n cap : Nat) : osv ob 0 n cap = sv ob n cap := by cases ob <;> rfl
section
variable {P : Program} {ty : TypeId} {ρ : Operand → Value} {w w0 : World} {R : Value → World → Prop} {X : List (Option Nat)} {O : List (Option Nat)} {C : List Cont} {α : Type} {r : Rep α} {H : Hp}
theorem row_pos {pre cs sp : List Value} {xs : List α} {n : Nat} {a : α} (hE : Els r H cs xs) (hn : xs[n]? = some a) (hz : 0 < r.sz) : 0 < (pre ++ (cs ++ sp)).length := by
 have h1 := hE.length
 have h2 : n < xs.length := (List.getElem?_eq_some_iff.1 hn).1
 have : 1 * 1 ≤ xs.length * r.sz := Nat.mul_le_mul (by omega) hz
 simp; omega
theorem OpY.ldRo1 {t : TypeId} {x : Operand} {d : TypeDesc} {b o : Nat} {v : Value} (hd : P.underlying t = some d) (hg : aggD d = false) (hx : ρ x = .pointer (some ⟨b, o, none⟩)) (hle : Le H (view [] w)) (hA : At H b o [v]) (h : R v w) : OpY P (.load t x) ty ρ w R :=
 OpY.load_at hd hg hx (cellH_le hle (hA.get 0 rfl)) h
theorem OpY.ldRoA {t : TypeId} {x : Operand} {d : TypeDesc} {b o : Nat} {vs : List Value} {sz by' : Nat} {z : Value} (hd : P.underlying t = some d) (hg : aggD d = true) (ti : TI P t sz by' z) (hx : ρ x = .pointer (some ⟨b, o, none⟩)) (hl : vs.length = sz) (hle : Le H (view [] w)) (hA : At H b o vs) (h : R (.agg vs.toArray) w) : OpY P (.load t x) ty ρ w R :=
 OpY.load_at_agg hd hg ti hx hl (hA.mono hle) h
theorem OpY.ldBox1 {t : TypeId} {x : Operand} {d : TypeDesc} {b o : Nat} {cs : List Value} {v : Value} (hd : P.underlying t = some d) (hg : aggD d = false) (hx : ρ x = .pointer (some ⟨b, o, none⟩)) (hc : OwnC w (some b) (.cells cs))
 (hv : cs[o]? = some v) (h : R v w) : OpY P (.load t x) ty ρ w R := by
 have := run_loadVar_one (P := P) hd hg (cell_own hc hv)
 simp only [OpY, bareOp, execOp, hx]
 simp [Instr.loadAt, Instr.sureAddr, this, upon]
 exact h
theorem OpY.ldBoxA {t : TypeId} {x : Operand} {d : TypeDesc} {b o : Nat} {cs vs : List Value} {sz by' : Nat} {z : Value} (hd : P.underlying t = some d) (hg : aggD d = true) (ti : TI P t sz by' z) (hx : ρ x = .pointer (some ⟨b, o, none⟩)) (hc : OwnC w (some b) (.cells cs))
 (hl : vs.length = sz) (hv : (cs.drop o).take vs.length = vs) (h : R (.agg vs.toArray) w) : OpY P (.load t x) ty ρ w R := by
 have hc' : ∀ j v, vs[j]? = some v → w.cell? ((⟨b, o, none⟩ : Addr).add j) = some v := by
  intro j v hj
  rw [add_plain]
  refine cell_own hc ?_
  rw [← hj]; conv => rhs; rw [← hv]
  rw [List.getElem?_take, List.getElem?_drop, if_pos]
  rcases Nat.lt_or_ge j vs.length with h | h
  · exact h
  · rw [List.getElem?_eq_none h] at hj; cases hj
 have := run_loadVar_agg (P := P) hd hg ti hl hc'
 simp only [OpY, bareOp, execOp, hx]
 simp [Instr.loadAt, Instr.sureAddr, this, upon]
 exact h
theorem row_elem {pre cs sp : List Value} {xs : List α} {n : Nat} {a : α} (hE : Els r H cs xs) (hn : xs[n]? = some a) : ∃ vs, vs.length = r.sz ∧ r.R H vs a ∧ ((pre ++ (cs ++ sp)).drop (pre.length + n * r.sz)).take vs.length = vs := by
 obtain ⟨vs, h1, h2, h3⟩ := hE.get hn
 refine ⟨vs, h2, h3, ?_⟩
 have hlt : n < xs.length := (List.getElem?_eq_some_iff.1 hn).1
 have hlen := hE.length
 have hb : n * r.sz + r.sz ≤ cs.length := by rw [hlen, ← Nat.succ_mul]; exact Nat.mul_le_mul_right _ hlt
 rw [← List.drop_drop, List.drop_left' rfl, List.drop_append_of_le_length (by omega), List.take_append_of_le_length (by rw [List.length_drop, h2]; omega), h2, h1]
theorem OpY.stRow {t : TypeId} {x y : Operand} {b q n by' : Nat} {z v : Value} {pre cs sp vs : List Value} {xs : List α} {a : α} (ti : TI P t r.sz by' z) (hx : ρ x = .pointer (some ⟨b, q, none⟩)) (hy : ρ y = v) (hv : v.cells = vs.toArray) (hR : r.R H vs a)
 (hL : Loc X [] w0 w O C) (i : Nat) (hO : O[i]? = some (some b)) (hC : C[i]? = some (.cells (pre ++ (cs ++ sp)))) (hE : Els r H cs xs) (hn : n < xs.length) (hq : q = pre.length + n * r.sz)
 (h : ∀ w' cs', Loc X [] w0 w' O (C.set i (.cells (pre ++ (cs' ++ sp)))) → Step O O w w' → Els r H cs' (xs.set n a) → cs'.length = cs.length → R undef w') : OpY P (.store t x y) ty ρ w R := by
 have hlen := hE.length
 have hvl := r.len _ _ _ hR
 have hb : n * r.sz + r.sz ≤ cs.length := by rw [hlen, ← Nat.succ_mul]; exact Nat.mul_le_mul_right _ hn
 have hp : putAt (pre ++ (cs ++ sp)) q vs = pre ++ (putAt cs (n * r.sz) vs ++ sp) := by
  subst hq
  rw [putAt_eq _ _ _ (by simp [hvl]; omega), putAt_eq _ _ _ (by rw [hvl]; exact hb), hvl]
  rw [List.take_append, List.take_of_length_le (by omega), show pre.length + n * r.sz - pre.length = n * r.sz by omega,
   List.take_append_of_le_length (by omega), List.drop_append, List.drop_of_length_le (by omega), List.nil_append,
   show pre.length + n * r.sz + r.sz - pre.length = n * r.sz + r.sz by omega, List.drop_append_of_le_length hb]
  simp
 refine OpY.store ti hx hy hv hvl (r.one _ _ _ hR) hL i hO hC (by subst hq; simp [hvl]; omega) fun w' h1 h2 => ?_
 rw [hp] at h1
 exact h w' _ h1 h2 (hE.set hR hn) (length_putAt _ _ _)
theorem OpY.lenRo {x : Operand} {t el : TypeId} {v : Value} {xs : List α} (hu : P.underlying t = some (.slice el)) (hx : ρ x = v) (hS : Rs r H v xs) (h : R (.int .i64 (xs.length : Int)) w) :
 OpY P (.call { callee := .builtin .len, args := #[x], argTypes := #[t] }) ty ρ w R := OpY.len_sl hu hx hS h
theorem OpY.lenRow {x : Operand} {t el : TypeId} {o n cap : Nat} {ob : Option Nat} {pre cs sp : List Value} {xs : List α} (hu : P.underlying t = some (.slice el)) (hx : ρ x = osv ob o n cap) (hc : OwnC w ob (.cells (pre ++ (cs ++ sp)))) (hE : Els r H cs xs) (hz : (r.sz == 0) = false) (hn : n = xs.length)
    (h : R (.int .i64 (xs.length : Int)) w) : OpY P (.call { callee := .builtin .len, args := #[x], argTypes := #[t] }) ty ρ w R := by
  have hpos : 0 < r.sz := by have : ¬ r.sz = 0 := by simpa using hz
                             omega
  cases ob with
  | none =>
    have h0 : pre ++ (cs ++ sp) = [] := hc
    have hxs : xs.length = 0 := by
      rcases Nat.eq_zero_or_pos xs.length with h1 | h1
      · exact h1
      · have := row_pos (pre := pre) (sp := sp) hE (List.getElem?_eq_getElem h1) hpos
        rw [h0] at this; simp at this
    exact OpY.len_slice hu hx (by rw [hxs] at h; exact h)
  | some b => subst hn; exact OpY.len_slice hu hx h
theorem Src.row {o n cap : Nat} {ob : Option Nat} {pre cs sp : List Value} {xs : List α} (hc : OwnC w ob (.cells (pre ++ (cs ++ sp)))) (hE : Els r H cs xs) (hz : (r.sz == 0) = false) (ho : o = pre.length) (hn : n = xs.length) : Src w (osv ob o n cap) xs.length r.sz cs := by
  have hpos : 0 < r.sz := by have : ¬ r.sz = 0 := by simpa using hz
                             omega
  refine ⟨hE.length, ?_⟩
  cases ob with
  | none =>
    have h0 : pre ++ (cs ++ sp) = [] := hc
    left
    have hx0 : xs.length = 0 := by
     rcases Nat.eq_zero_or_pos xs.length with h1 | h1
     · exact h1
     · have := row_pos (pre := pre) (sp := sp) hE (List.getElem?_eq_getElem h1) hpos
       rw [h0] at this; simp at this
    refine ⟨⟨none, by simp [osv]⟩, ?_⟩
    rcases Nat.eq_zero_or_pos xs.length with h1 | h1
    · exact h1
    · have := row_pos (pre := pre) (sp := sp) hE (List.getElem?_eq_getElem h1) hpos
      rw [h0] at this; simp at this
  | some b =>
    subst hn; subst ho
    refine .inr ⟨b, _, cap, rfl, fun j u hj => cell_own hc ?_⟩
    have hjl : j < cs.length := (List.getElem?_eq_some_iff.1 hj).1
    rw [List.getElem?_append_right (by omega), show pre.length + j - pre.length = j by omega, List.getElem?_append_left hjl, hj]
theorem OpY.apRow {t el : TypeId} {a c : Operand} {by' n cap i : Nat} {z x : Value} {ob : Option Nat} {cs sp ds : List Value} {xs ys : List α} (hu : P.underlying t = some (.slice el)) (ti : TI P el r.sz by' z) (hzc : z.cells.size = r.sz) (hz : (r.sz == 0) = false)
    (ha : ρ a = osv ob 0 n cap) (hc : ρ c = x) (hL : Loc X [] w0 w O C) (hO : O[i]? = some ob) (hC : C[i]? = some (.cells ([] ++ (cs ++ sp)))) (hE : Els r H cs xs) (hn : n = xs.length) (hcap : (cs ++ sp).length = cap * r.sz) (hsrc : Src w x ys.length r.sz ds) (hD : Els r H ds ys)
    (h63 : xs.length + ys.length ≤ 9223372036854775807) (hb : (xs.length + ys.length) * by' ≤ 140737488355328)
    (h : ∀ ob' cap' sp' ds' w', Els r H ds' (xs ++ ys) → (ds' ++ sp').length = cap' * r.sz → Loc X [] w0 w' (O.set i ob') (C.set i (.cells ([] ++ (ds' ++ sp')))) → Step O (O.set i ob') w w' → R (osv ob' 0 (xs ++ ys).length cap') w') :
    OpY P (.call { callee := .builtin .append, args := #[a, c], argTypes := #[t, t] }) ty ρ w R := by
  have hpos : 0 < r.sz := by have : ¬ r.sz = 0 := by simpa using hz
                             omega
  subst hn
  refine OpY.append (m := ys.length) (xs := cs) (sp := sp) hu ti hzc hpos (by rw [ha, osv_zero]) hc hL hO hC hE.length hcap hsrc hD.ones h63 hb fun ob' cap' sp' w' h1 h2 h3 => ?_
  have := h ob' cap' sp' (cs ++ ds) w' (hE.append hD) h1 h2 h3
  rw [osv_zero, List.length_append] at this
  exact this
theorem madeCells_flat (zc : List Value) (n : Nat) : (madeCells zc.toArray (n * zc.length)).toList = (List.replicate n zc).flatten := by
 apply List.ext_getElem?
 intro i
 simp only [madeCells, Array.toList_map, List.getElem?_map, Array.toList_range]
 induction n generalizing i with
 | zero => simp
 | succ n ih =>
  rw [List.replicate_succ, List.flatten_cons]
  by_cases hi : i < zc.length
  · rw [List.getElem?_append_left hi, List.getElem?_range (by rw [Nat.add_mul]; omega)]
    simp [Nat.mod_eq_of_lt hi, hi]
  · rw [List.getElem?_append_right (by omega), ← ih (i - zc.length)]
    by_cases hlt : i < (n + 1) * zc.length
    · rw [Nat.add_mul, Nat.one_mul] at hlt
      rw [List.getElem?_range (by rw [Nat.add_mul]; omega), List.getElem?_range (by omega)]
      simp only [Option.map_some]
      congr 2
      show i % zc.length = (i - zc.length) % zc.length
      rw [Nat.mod_eq_sub_mod (by omega)]
    · rw [Nat.add_mul, Nat.one_mul] at hlt
      rw [List.getElem?_eq_none (by simp [Nat.add_mul]; omega), List.getElem?_eq_none (by simp; omega)]
theorem OpY.mkRow {t el : TypeId} {a c : Operand} {k k' : IntKind} {i : Int} {m by' : Nat} {z : Value} {zc : List Value} {x : α} (hu : P.underlying t = some (.slice el)) (ti : TI P el r.sz by' z) (hzc : z.cells = zc.toArray) (hR : r.R H zc x)
 (ha : ρ a = .int k i) (hc : ρ c = .int k' i) (hi : i = (m : Int)) (hb : by' * m ≤ 281474976710656) (hm : m ≤ 9223372036854775807) (hL : Loc X [] w0 w O C)
 (h : ∀ b w' cs, Els r H cs (List.replicate m x) → (cs ++ []).length = m * r.sz → Loc X [] w0 w' (some b :: O) (.cells ([] ++ (cs ++ [])) :: C) → Step O (some b :: O) w w' → R (osv (some b) 0 (List.replicate m x).length m) w') :
 OpY P (.makeSlice t a c) ty ρ w R := by
 obtain ⟨inf, hi', hs, hby, hzz⟩ := ti
 subst hi
 have hl := r.len _ _ _ hR
 have hb' : (inf.bytes : Int) * (m : Int) ≤ 281474976710656 := by
  subst hby
  have : ((inf.bytes * m : Nat) : Int) ≤ 281474976710656 := by omega
  rwa [Int.natCast_mul] at this
 have hr := run_make (P := P) w t el inf z hu hi' hzz k k' (m : Int) (m : Int) (by omega) (by omega) hb' (by omega)
 simp only [Int.toNat_natCast, hs] at hr
 have hfl := madeCells_flat zc m
 rw [hl, ← hzc] at hfl
 have hal := hL.alloc (o := .cells (madeCells z.cells (m * r.sz)) el) (c := .cells (List.replicate m zc).flatten) (by rw [← hfl]; exact ownC_alloc w _ el)
 simp only [OpY, bareOp, execOp, ha, hc]
 simp [hr, upon]
 have hE := Els.replicate (r := r) hR m
 have hln := hE.length
 have := h _ _ _ hE (by rw [List.append_nil, hln]; simp) (by rw [List.append_nil]; exact hal.1) hal.2
 rw [List.length_replicate] at this
 exact this
theorem OpY.litRow {t el : TypeId} {n : Nat} {parts : List (Nat × Operand)} {by' : Nat} {z : Value} {vs : List Value} {css : List (List Value)} {xs : List α} (hu : P.underlying t = some (.slice el)) (ti : TI P el r.sz by' z) (hn : n * r.sz ≤ 16777216)
 (hp : (parts.map fun p => (p.1, ρ p.2)) = numbered 0 vs) (hvs : vs.length = n) (hc : cellsAre r.sz vs css) (h0 : 0 < n * r.sz) (hE : Els r H css.flatten xs) (hxs : xs.length = n) (hL : Loc X [] w0 w O C)
 (h : ∀ b w', (css.flatten ++ []).length = n * r.sz → Loc X [] w0 w' (some b :: O) (.cells ([] ++ (css.flatten ++ [])) :: C) → Step O (some b :: O) w w' → R (osv (some b) 0 n n) w') : OpY P (.buildSlice t n parts.toArray) ty ρ w R := by
 refine OpY.buildSliceV hu ti hn hp hvs hc h0 hL fun b w' h1 h2 => ?_
 refine h b w' (by rw [List.append_nil, hE.length, hxs]) (by rw [List.append_nil]; exact h1) h2
theorem OpY.litRow0 {t el : TypeId} {sz by' : Nat} {z : Value} (hu : P.underlying t = some (.slice el)) (ti : TI P el sz by' z) (hL : Loc X [] w0 w O C)
 (h : ∀ b w', Loc X [] w0 w' (some b :: O) (.cells ([] ++ ([] ++ [])) :: C) → Step O (some b :: O) w w' → R (osv (some b) 0 0 0) w') : OpY P (.buildSlice t 0 #[]) ty ρ w R :=
 OpY.buildSlice0 hu ti hL h
theorem OpY.cutRo {t el : TypeId} {x : Operand} {lo hi : Option Operand} {by' l h' : Nat} {z v : Value} {xs : List α} (hu : P.underlying t = some (.slice el)) (ti : TI P el r.sz by' z)
    (hx : ρ x = v) (hS : Rs r H v xs) (hlo : (lo = none ∧ l = 0) ∨ ∃ k y, lo = some y ∧ ρ y = .int k ((l : Nat) : Int)) (hhi : (hi = none ∧ h' = xs.length) ∨ ∃ k y, hi = some y ∧ ρ y = .int k ((h' : Nat) : Int)) (h1 : l ≤ h') (h2 : h' ≤ xs.length)
    (hk : ∀ v', Rs r H v' ((xs.take h').drop l) → R v' w) : OpY P (.slice t x lo hi none) ty ρ w R := by
  obtain ⟨inf, hi', hs, _, _⟩ := ti
  obtain ⟨a, len, cap, rfl⟩ : ∃ a len cap, v = .slice a len cap := by
    rcases hS with ⟨⟨oa, h⟩, _⟩ | ⟨b, o, c, h, _⟩ <;> exact ⟨_, _, _, h⟩
  obtain ⟨hl, hc, hcut⟩ := Sl.cut hS h1 h2
  have hr := run_sliceAt (P := P) (w := w) hu hi' a len cap l h' (lo.map ρ) (hi.map ρ)
    (by rcases hlo with ⟨rfl, rfl⟩ | ⟨k, y, rfl, hy⟩
        · exact .inl ⟨rfl, rfl⟩
        · exact .inr ⟨k, by simp [hy]⟩)
    (by rcases hhi with ⟨rfl, rfl⟩ | ⟨k, y, rfl, hy⟩
        · exact .inl ⟨rfl, hl.symm⟩
        · exact .inr ⟨k, by simp [hy]⟩) h1 hc
  simp only [OpY, bareOp, execOp, hx]
  simp only [Option.map_none, Sem.run_bind, hr, Result.andThen_ok, Sem.run_pure, upon]
  rw [hs]
  exact hk _ hcut
def fillL (pl : List (Nat × Nat)) (cells : List Value) : List (Nat × List Value) → Option (List Value)
 | [] => some cells
 | (i, cs) :: r => match pl[i]? with
  | none => none
  | some (off, size) => bif !(Nat.beq cs.length size) || Nat.blt cells.length (off + cs.length) then none else fillL pl (putAt cells off cs) r
def partsAre : List Value → List (List Value) → Prop
 | [], [] => True
 | v :: vs, c :: cs => v.cells = c.toArray ∧ partsAre vs cs
 | _, _ => False
theorem fill_L {pl : List (Nat × Nat)} : ∀ (is : List Nat) (vs : List Value) (css : List (List Value)) (cells cs : List Value), is.length = vs.length → partsAre vs css → fillL pl cells (is.zip css) = some cs → Instr.fill (pl[·]?) cells.toArray (is.zip vs) = some cs.toArray
 | [], [], [], cells, cs, _, _, h => by simp [fillL] at h; subst h; rfl
 | i :: is, v :: vs, c :: css, cells, cs, hl, hp, h => by
  simp only [List.zip_cons_cons, fillL] at h
  simp only [List.zip_cons_cons, Instr.fill]
  cases hpl : pl[i]? with
  | none => rw [hpl] at h; cases h
  | some q =>
   obtain ⟨off, size⟩ := q
   rw [hpl] at h
   simp only at h
   cases hb : (!(Nat.beq c.length size) || Nat.blt cells.length (off + c.length)) with
   | true => rw [hb] at h; cases h
   | false =>
    rw [hb] at h
    simp only [cond_false] at h
    have h1 : c.length = size ∧ off + c.length ≤ cells.length := by
     simp only [Bool.or_eq_false_iff, Bool.not_eq_false'] at hb
     refine ⟨Nat.eq_of_beq_eq_true hb.1, ?_⟩
     rcases Nat.lt_or_ge cells.length (off + c.length) with h2 | h2
     · have : Nat.blt cells.length (off + c.length) = true := Nat.ble_eq_true_of_le h2
       rw [this] at hb; cases hb.2
     · exact h2
    have hv := hp.1
    have hsz : v.cells.size = c.length := by rw [hv]; simp
    simp only
    rw [if_neg (by simp [hsz, h1.1]; omega)]
    have hf := zipfold c cells off 0
    rw [Nat.add_zero] at hf
    rw [hv, show (c.toArray.zipIdx.foldl (fun (cs : Array Value) (x : Value × Nat) => cs.setIfInBounds (off + x.2) x.1) cells.toArray) = (putAt cells off c).toArray by
     rw [← hf, ← Array.foldl_toList]; simp]
    exact fill_L is vs css _ cs (by simpa using hl) hp.2 h
 | [], _ :: _, _, _, _, hl, _, _ => by simp at hl
 | _ :: _, [], _, _, _, hl, _, _ => by simp at hl
 | [], [], _ :: _, _, _, _, hp, _ => hp.elim
 | _ :: _, _ :: _, [], _, _, _, hp, _ => hp.elim
def placesOf (P : Program) (fs : List Field) : Option (List (Nat × Nat)) := fs.mapM fun f => (P.info? f.type).map fun i => (f.offset, i.size)
def placesT (P : Program) (t : TypeId) : Option (List (Nat × Nat)) := match P.underlying t with
 | some (.struct fs) => placesOf P fs.toList
 | _ => none
theorem OpY.build {t : TypeId} {pl : List (Nat × Nat)} {sz by' : Nat} {z : Value} {zc cs : List Value} {is : List Nat} {vs : List Value} {css : List (List Value)} {parts : List (Nat × Operand)} (hpl : placesT P t = some pl) (ti : TI P t sz by' z) (hz : z.cells = zc.toArray)
 (hp : (parts.map fun p => (p.1, ρ p.2)) = is.zip vs) (hil : is.length = vs.length) (hc : partsAre vs css) (hf : fillL pl zc (is.zip css) = some cs) (h : R (.agg cs.toArray) w) : OpY P (.build t parts.toArray) ty ρ w R := by
 obtain ⟨inf, hi, hs, hby, hzz⟩ := ti
 have hfill := fill_L is vs css zc cs hil hc hf
 unfold placesT at hpl
 split at hpl
 · rename_i fs hu
   have hpl' : (fs.mapM (fun (f : Field) => do pure (f.offset, ← sizeOf f.type)) : Sem (Array (Nat × Nat))).run P w = .ok pl.toArray w := by
    have := run_places (P := P) w fs.toList pl hpl
    have e : (fun (f : Field) => (do pure (f.offset, ← sizeOf f.type) : Sem (Nat × Nat))) = fun f => Prod.mk f.offset <$> sizeOf f.type := by
     funext f; rfl
    rw [e, ← Array.toArray_toList (xs := fs), List.mapM_toArray, Sem.run_map, this]
    rfl
   have hr : (Instr.build t ((parts.toArray.map fun (x : Nat × Operand) => (x.1, ρ x.2)))).run P w = .ok (.agg cs.toArray) w := by
    have hlist : ((parts.toArray.map fun (x : Nat × Operand) => (x.1, ρ x.2))).toList = is.zip vs := by simpa using hp
    have hfn : (fun (i : Nat) => pl.toArray[i]?) = (fun (i : Nat) => pl[i]?) := by funext i; simp
    simp only [Instr.build, Sem.run_bind, zeroValue, typeInfo, run_program, Result.andThen_ok, hi, Sem.run_pure, hzz, run_underlying hu, hpl', hz, hlist, hfn, hfill]
   simp only [OpY, bareOp, execOp]
   simp only [Sem.run_bind, hr, Result.andThen_ok, Sem.run_pure, upon]
   exact h
 · cases hpl
def imax (x y : Int) : Int := if y > x then y else x
def imin (x y : Int) : Int := if y < x then y else x
theorem OpY.max {a b : Operand} {ats : Array TypeId} {k k' : IntKind} {x y : Int} (hx : ρ a = .int k x) (hy : ρ b = .int k' y) (h : R (.int k (imax x y)) w) : OpY P (.call { callee := .builtin .max, args := #[a, b], argTypes := ats }) ty ρ w R := by
 simp only [OpY, bareOp, execOp, resolve, invoke, builtin]
 simp [hx, hy, Builtin.max_, Builtin.max2, upon]
 exact h
theorem OpY.min {a b : Operand} {ats : Array TypeId} {k k' : IntKind} {x y : Int} (hx : ρ a = .int k x) (hy : ρ b = .int k' y) (h : R (.int k (imin x y)) w) : OpY P (.call { callee := .builtin .min, args := #[a, b], argTypes := ats }) ty ρ w R := by
 simp only [OpY, bareOp, execOp, resolve, invoke, builtin]
 simp [hx, hy, Builtin.min_, Builtin.min2, upon]
 exact h
end
theorem res_boxA {P : Program} {w : World} {t : TypeId} {d : TypeDesc} {b sz by' : Nat} {z : Value} {cs : List Value} (hd : P.underlying t = some d) (hg : aggD d = true) (ti : TI P t sz by' z) (hc : OwnC w (some b) (.cells cs)) (hl : cs.length = sz) : (loadVar t ⟨b, 0, none⟩).run P w = .ok (.agg cs.toArray) w :=
 run_loadVar_agg hd hg ti hl (own_cells hc rfl)
end Go.X
set_option linter.unusedSimpArgs false
set_option linter.unusedVariables false
namespace Go.X
open Go Go.RowKit
theorem sl_imp {α : Type} {sz : Nat} {R R' : Hp → List Value → α → Prop} {H : Hp} {v : Value} {xs : List α} (h : ∀ vs x, R H vs x → R' H vs x) (hs : Sl sz R H v xs) : Sl sz R' H v xs := by
 rcases hs with ⟨h1, h2⟩ | ⟨b, o, cap, hv, hc, hx⟩
 · exact .inl ⟨h1, h2⟩
 · refine .inr ⟨b, o, cap, hv, hc, fun i y hi => ?_⟩
   obtain ⟨vs, h1, h2, h3⟩ := hx i y hi
   exact ⟨vs, h1, h2, h _ _ h3⟩
theorem list_bound {α : Type} {p : Nat → α → Nat → Prop} (hm : ∀ i x n m, n ≤ m → p i x n → p i x m) : ∀ (xs : List α) (k : Nat), (∀ i x, xs[i]? = some x → ∃ n, p (k + i) x n) → ∃ n, ∀ i x, xs[i]? = some x → p (k + i) x n
 | [], k, _ => ⟨0, fun i x h => by simp at h⟩
 | y :: xs, k, h => by
  obtain ⟨n1, h1⟩ := h 0 y rfl
  obtain ⟨n2, h2⟩ := list_bound hm xs (k + 1) (fun i x hx => by
   obtain ⟨n, hn⟩ := h (i + 1) x (by simpa using hx)
   exact ⟨n, by rw [show k + 1 + i = k + (i + 1) by omega]; exact hn⟩)
  refine ⟨max n1 n2, fun i x hx => ?_⟩
  cases i with
  | zero => simp at hx; subst hx; exact hm _ _ _ _ (Nat.le_max_left _ _) h1
  | succ i =>
   have := h2 i x (by simpa using hx)
   rw [show k + 1 + i = k + (i + 1) by omega] at this
   exact hm _ _ _ _ (Nat.le_max_right _ _) this
theorem sl_bound {α : Type} {sz : Nat} {Rn : Nat → Hp → List Value → α → Prop} {H : Hp} {v : Value} {xs : List α} (hm : ∀ n m vs x, n ≤ m → Rn n H vs x → Rn m H vs x) (hs : Sl sz (fun H vs x => ∃ n, Rn n H vs x) H v xs) : ∃ n, Sl sz (Rn n) H v xs := by
 rcases hs with ⟨h1, h2⟩ | ⟨b, o, cap, hv, hc, hx⟩
 · exact ⟨0, .inl ⟨h1, h2⟩⟩
 · obtain ⟨n, hn⟩ := list_bound (p := fun i (x : α) n => ∃ vs : List Value, vs.length = sz ∧ At H b (o + i * sz) vs ∧ Rn n H vs x) (fun i x n m hnm h => by obtain ⟨vs, g1, g2, g3⟩ := h; exact ⟨vs, g1, g2, hm _ _ _ _ hnm g3⟩) xs 0
    (fun i x hi => by
     obtain ⟨vs, g1, g2, n, g3⟩ := hx i x hi
     exact ⟨n, vs, g1, by rw [Nat.zero_add]; exact g2, g3⟩)
   refine ⟨n, .inr ⟨b, o, cap, hv, hc, fun i x hi => ?_⟩⟩
   have := hn i x hi
   rwa [Nat.zero_add] at this
def Keep (s : Nat) (O : List (Option Nat)) (w : World) (O' : List (Option Nat)) (w' : World) : Prop := ∀ S, Le (Hv s S O w) (Hv s S O' w')
def NewOwn (w w' : World) (OB : List (Option Nat)) (CB : List Cont) : Prop := (∀ b, some b ∈ OB → w.heap.size ≤ b) ∧ Distinct OB ∧ Owns w' OB CB
def pickL {α : Type} (l : List α) : List Nat → Option (List α)
 | [] => some []
 | i :: r => match l[i]?, pickL l r with
  | some x, some y => some (x :: y)
  | _, _ => none
def nodupB : List Nat → Bool
 | [] => true
 | i :: r => !(memN i r) && nodupB r
section
variable {P : Program} {s : Nat} {S : Nat → Prop} {X O O' O'' : List (Option Nat)} {C C' : List Cont} {w w' w'' w0 : World} {α : Type} {r : Rep α}
theorem Keep.refl : Keep s O w O w := fun _ => Le.refl _
theorem Keep.step (h : Step O O' w w') : Keep s O w O' w' := fun _ => Hv.step h
theorem Keep.ext (h : Ext w w') : Keep s O w O w' := fun _ => Hv.ext h
theorem ks (w : World) {O O' : List (Option Nat)} {w1 w2 : World} (h : Step O O' w1 w2) : Keep w.heap.size O w1 O' w2 := Keep.step h
theorem ke {X F : List (Option Nat)} {w0 w1 w2 : World} {O : List (Option Nat)} {C : List Cont} (hL : Loc X F w0 w1 O C) (h : Ext w1 w2) : Keep w0.heap.size O w1 O w2 := Keep.ext h
theorem Keep.trans (h : Keep s O w O' w') (h' : Keep s O' w' O'' w'') : Keep s O w O'' w'' := fun S => Le.trans (h S) (h' S)
theorem Hv.out : Le (Hv s S O w) (Hv s S [] w) := Hv.sub (fun b h => by cases h)
theorem Hv.one {ob : Option Nat} (i : Nat) (h : O[i]? = some ob) : Le (Hv s S O w) (Hv s S [ob] w) := Hv.sub (fun b hb => by
 have : b = ob := by simpa using hb
 subst this; exact List.mem_of_getElem? h)
theorem own_at {b : Nat} {cs : List Value} (hc : OwnC w (some b) (.cells cs)) {H : Hp} (hH : ∀ o, w.heap[b]? = some o → H b = some o) : At H b 0 cs := by
 obtain ⟨t, lo, hi, h1, _⟩ := hc
 intro i hi
 simp [cellH, hH _ h1]
theorem row_rs {H : Hp} {b o n cap : Nat} {pre cs sp : List Value} {xs : List α} (hA : At H b 0 (pre ++ (cs ++ sp))) (hE : Els r H cs xs) (hz : (r.sz == 0) = false) (ho : o = pre.length) (hn : n = xs.length) (hcap : (cs ++ sp).length = cap * r.sz) : Rs r H (osv (some b) o n cap) xs := by
  have hpos : 0 < r.sz := by have : ¬ r.sz = 0 := by simpa using hz
                             omega
  subst ho; subst hn
  have hcx : xs.length ≤ cap := by
    have : xs.length * r.sz ≤ cap * r.sz := by rw [← hcap, List.length_append, hE.length]; omega
    exact Nat.le_of_mul_le_mul_right this hpos
  refine Els.rs (pre := pre) hE ?_ hcx
  have := hA.part (us := cs) pre.length (by rw [List.drop_left' rfl, List.take_left' rfl])
  rwa [Nat.zero_add] at this
theorem row_nil {H H' : Hp} {o n cap : Nat} {pre cs sp : List Value} {xs : List α} (h0 : pre ++ (cs ++ sp) = []) (hE : Els r H cs xs) (hz : (r.sz == 0) = false) : Rs r H' (osv none o n cap) xs := by
  have hpos : 0 < r.sz := by have : ¬ r.sz = 0 := by simpa using hz
                             omega
  have : xs = [] := by
    apply List.eq_nil_of_length_eq_zero
    rcases Nat.eq_zero_or_pos xs.length with h1 | h1
    · exact h1
    · have := row_pos (pre := pre) (sp := sp) hE (List.getElem?_eq_getElem h1) hpos
      rw [h0] at this; simp at this
  subst this; exact Rs.nil
theorem Loc.freezeRow (hL : Loc [] [] w0 w O C) (i : Nat) {ob : Option Nat} {o n cap : Nat} {pre cs sp : List Value} {xs : List α} (hO : O[i]? = some ob) (hC : C[i]? = some (.cells (pre ++ (cs ++ sp)))) (hE : Els r (Hv w0.heap.size S O w) cs xs) (hz : (r.sz == 0) = false) (ho : o = pre.length) (hn : n = xs.length) (hcap : (cs ++ sp).length = cap * r.sz) :
 Rs r (Hv w0.heap.size S (O.eraseIdx i) w) (osv ob o n cap) xs := by
 cases ob with
 | none => exact row_nil (hL.at i hO hC) hE hz
 | some b =>
  have hge : w0.heap.size ≤ b := by
   rcases hL.fresh b (List.mem_of_getElem? hO) with h | h
   · cases h
   · exact h
  refine row_rs (own_at (hL.at i hO hC) fun q hq => vw_mk ⟨.inr hge, hL.dist.not_mem_erase hO⟩ hq) (hE.mono (Hv.sub fun b hb => List.mem_of_mem_eraseIdx hb)) hz ho hn hcap
theorem pickL_mem {β : Type} {l : List β} : ∀ {is : List Nat} {l' : List β}, pickL l is = some l' → ∀ x ∈ l', ∃ i ∈ is, l[i]? = some x
 | [], l', h, x, hx => by simp [pickL] at h; subst h; cases hx
 | i :: is, l', h, x, hx => by
  simp only [pickL] at h
  cases h1 : l[i]? with
  | none => rw [h1] at h; cases h
  | some y =>
   cases h2 : pickL l is with
   | none => rw [h1, h2] at h; cases h
   | some l2 =>
    rw [h1, h2] at h; cases h
    rcases List.mem_cons.1 hx with rfl | hx
    · exact ⟨i, List.mem_cons_self, h1⟩
    · obtain ⟨j, hj, hjx⟩ := pickL_mem h2 x hx
      exact ⟨j, List.mem_cons_of_mem _ hj, hjx⟩
theorem dist_inj : ∀ {O : List (Option Nat)} {i j b : Nat}, Distinct O → O[i]? = some (some b) → O[j]? = some (some b) → i = j
 | [], _, _, _, _, h, _ => by simp at h
 | x :: O, 0, 0, _, _, _, _ => rfl
 | x :: O, 0, j + 1, b, hd, h1, h2 => by
  simp at h1; subst h1
  exact absurd (List.mem_of_getElem? (by simpa using h2)) hd.1
 | x :: O, i + 1, 0, b, hd, h1, h2 => by
  simp at h2; subst h2
  exact absurd (List.mem_of_getElem? (by simpa using h1)) hd.1
 | x :: O, i + 1, j + 1, b, hd, h1, h2 => by
  have hd' : Distinct O := by cases x with | none => exact hd | some y => exact hd.2
  have h1' : O[i]? = some (some b) := by simpa using h1
  have h2' : O[j]? = some (some b) := by simpa using h2
  exact congrArg (· + 1) (dist_inj hd' h1' h2')
theorem Owns.pick {w : World} {O : List (Option Nat)} {C : List Cont} (h : Owns w O C) : ∀ {is : List Nat} {O' : List (Option Nat)} {C' : List Cont}, pickL O is = some O' → pickL C is = some C' → Owns w O' C'
 | [], O', C', h1, h2 => by simp [pickL] at h1 h2; subst h1; subst h2; trivial
 | i :: is, O', C', h1, h2 => by
  simp only [pickL] at h1 h2
  cases e1 : O[i]? with
  | none => rw [e1] at h1; cases h1
  | some ob =>
   cases e2 : pickL O is with
   | none => rw [e1, e2] at h1; cases h1
   | some O2 =>
    rw [e1, e2] at h1; cases h1
    cases e3 : C[i]? with
    | none => rw [e3] at h2; cases h2
    | some c =>
     cases e4 : pickL C is with
     | none => rw [e3, e4] at h2; cases h2
     | some C2 =>
      rw [e3, e4] at h2; cases h2
      exact ⟨h.at i e1 e3, Owns.pick h e2 e4⟩
theorem Distinct.pick {O : List (Option Nat)} (h : Distinct O) : ∀ {is : List Nat} {O' : List (Option Nat)}, pickL O is = some O' → nodupB is = true → Distinct O'
 | [], O', h1, _ => by simp [pickL] at h1; subst h1; trivial
 | i :: is, O', h1, hn => by
  simp only [pickL] at h1
  simp only [nodupB, Bool.and_eq_true, Bool.not_eq_true'] at hn
  cases e1 : O[i]? with
  | none => rw [e1] at h1; cases h1
  | some ob =>
   cases e2 : pickL O is with
   | none => rw [e1, e2] at h1; cases h1
   | some O2 =>
    rw [e1, e2] at h1; cases h1
    have ih := Distinct.pick h e2 hn.2
    cases ob with
    | none => exact ih
    | some b =>
     refine ⟨fun hm => ?_, ih⟩
     obtain ⟨j, hj, hjx⟩ := pickL_mem e2 _ hm
     have := dist_inj h e1 hjx
     subst this
     rw [memN_iff.2 hj] at hn; cases hn.1
theorem Loc.pick (hL : Loc X [] w0 w O C) (is : List Nat) (hO : pickL O is = some O') (hC : pickL C is = some C') (hn : nodupB is = true) : Loc X [] w0 w O' C' ∧ Step O O' w w := by
 have hsub : ∀ b, b ∈ O' → b ∈ O := fun b hb => by
  obtain ⟨i, _, hi⟩ := pickL_mem hO b hb
  exact List.mem_of_getElem? hi
 exact ⟨⟨hL.os, hL.tape, hL.output, hL.size, hL.keep, hL.own.pick hO hC, fun b hb => hL.fresh b (hsub _ hb), hL.dist.pick hO hn, fun _ _ h => (by cases h), fun _ h => (by cases h)⟩,
  ⟨fun _ _ _ => rfl, fun b hb => .inl (hsub _ hb)⟩⟩
theorem Owns.append {w : World} : ∀ {O O' : List (Option Nat)} {C C' : List Cont}, Owns w O C → Owns w O' C' → Owns w (O ++ O') (C ++ C')
 | [], _, [], _, _, h => h
 | _ :: _, _, _ :: _, _, h, h' => ⟨h.1, h.2.append h'⟩
 | [], _, _ :: _, _, h, _ => h.elim
 | _ :: _, _, [], _, h, _ => h.elim
theorem Distinct.append : ∀ {O O' : List (Option Nat)}, Distinct O → Distinct O' → (∀ b, some b ∈ O → some b ∉ O') → Distinct (O ++ O')
  | [], _, _, h, _ => h
  | none :: O, O', h, h', hd => Distinct.append (O := O) h h' fun b hb => hd b (List.mem_cons_of_mem _ hb)
  | some x :: O, O', h, h', hd => ⟨fun hm => by
      rcases List.mem_append.1 hm with h1 | h1
      · exact h.1 h1
      · exact hd x List.mem_cons_self h1, Distinct.append (O := O) h.2 h' fun b hb => hd b (List.mem_cons_of_mem _ hb)⟩
theorem Loc.adoptL (hL : Loc X [] w0 w O C) (hE : Ext w w') {OB : List (Option Nat)} {CB : List Cont} (h : NewOwn w w' OB CB) : Loc X [] w0 w' (OB ++ O) (CB ++ C) ∧ Step O (OB ++ O) w w' := by
 have hL' := hL.ext hE
 refine ⟨⟨hL'.os, hL'.tape, hL'.output, hL'.size, hL'.keep, h.2.2.append hL'.own, fun b hb => ?_, h.2.1.append hL'.dist fun b hb hb' => ?_, fun _ _ h => (by cases h), fun _ h => (by cases h)⟩, ⟨fun k hk _ => hE.block k hk, fun b hb => ?_⟩⟩
 · rcases List.mem_append.1 hb with h1 | h1
   · exact .inr (Nat.le_trans hL.size (h.1 b h1))
   · exact hL'.fresh b h1
 · have := h.1 b hb; have := hL.own.lt b hb'; omega
 · rcases List.mem_append.1 hb with h1 | h1
   · exact .inr (h.1 b h1)
   · exact .inl h1
theorem Loc.newOwn (hL : Loc [] [] w0 w O C) (is : List Nat) (hO : pickL O is = some O') (hC : pickL C is = some C') (hn : nodupB is = true) : NewOwn w0 w O' C' := by
 have h := (hL.pick is hO hC hn).1
 refine ⟨fun b hb => ?_, h.dist, h.own⟩
 rcases h.fresh b hb with h1 | h1
 · cases h1
 · exact h1
theorem Hv.freshO (hL : Loc X [] w0 w O C) (OB : List (Option Nat)) : Le (Hv w.heap.size None OB w') (Hv w0.heap.size S (OB ++ O) w') := fun b o h => by
 obtain ⟨⟨h1, h2⟩, h3⟩ := vw_some h
 rcases h1 with h1 | h1
 · exact h1.elim
 · refine vw_mk ⟨.inr (Nat.le_trans hL.size h1), fun hm => ?_⟩ h3
   rcases List.mem_append.1 hm with h4 | h4
   · exact h2 h4
   · have := hL.own.lt b h4; omega
theorem Hv.aliasO (hL : Loc X [] w0 w O C) (OB : List (Option Nat)) : Le (Hv w.heap.size (HS w0.heap.size S O) OB w') (Hv w0.heap.size S (OB ++ O) w') := fun b o h => by
 obtain ⟨⟨h1, h2⟩, h3⟩ := vw_some h
 rcases h1 with h1 | h1
 · refine vw_mk ⟨h1.1, fun hm => ?_⟩ h3
   rcases List.mem_append.1 hm with h4 | h4
   · exact h2 h4
   · exact h1.2 h4
 · refine vw_mk ⟨.inr (Nat.le_trans hL.size h1), fun hm => ?_⟩ h3
   rcases List.mem_append.1 hm with h4 | h4
   · exact h2 h4
   · have := hL.own.lt b h4; omega
end
def FunOk (P : Program) (f : Value) (args : List Value) (w : World) (Φ : Value → World → Prop) : Prop := ∃ fid caps, f = .func (.func fid) #[] (List.toArray caps) ∧ Enters P fid ∧ Calls P fid (args ++ caps).toArray w (Ret w Φ)
section
variable {P : Program} {ty : TypeId} {ρ : Operand → Value} {w : World} {R : Value → World → Prop}
theorem OpY.callF {g : Operand} {f : Value} {args : List Operand} {ats : Array TypeId} {l : List Value} {Φ : Value → World → Prop} (hf : ρ g = f) (ha : args.map ρ = l) (hF : FunOk P f l w Φ) (h : ∀ v w', Ext w w' → Φ v w' → R v w') :
 OpY P (.call { callee := .value g, args := args.toArray, argTypes := ats }) ty ρ w R := by
 obtain ⟨fid, caps, rfl, he, hc⟩ := hF
 refine OpY.callv (fst := []) (cap := caps) (T := Ret w Φ) he hf rfl (by rw [List.nil_append, ha]; exact hc) ?_
 rintro e w' ⟨v, rfl, h1, h2⟩
 exact ⟨v, rfl, h v w' h1 h2⟩
theorem OpY.makeFunc {f : FuncId} {caps : List Operand} {vs : List Value} (hv : caps.map ρ = vs) (h : R (.func (.func f) #[] vs.toArray) w) : OpY P (.makeFunc (.func f) #[] caps.toArray) ty ρ w R := by
 have : (caps.toArray.map ρ) = vs.toArray := by rw [← hv]; simp
 simp only [OpY, bareOp, execOp, this]
 simp [Instr.makeFunc, upon]
 exact h
end
section
variable {P : Program} {n : Nat} {k : List It} {Q : Env → World → Prop} {e : Env} {w : World}
theorem Swp.cond_b {c : Operand} {x y : Code} (b : Bool) (hc : ev e c = .bool b) (ht : b = true → Swp P n (.code x :: k) Q e w) (hf : ¬ b = true → Swp P n (.code y :: k) Q e w) :
 Swp P n (.code (.cond c x y) :: k) Q e w :=
 Swp.cond b hc ht fun h => hf (by rw [h]; simp)
end
end Go.X
set_option linter.unusedSimpArgs false
set_option linter.unusedVariables false
namespace Go.X
open Go Go.RowKit
def Any (_ : Nat) : Prop := True
def HZ (w1 : World) (s : Nat) (S : Nat → Prop) (O : List (Option Nat)) (Z : Nat → Prop) : Nat → Prop := fun b => (HS s S O b ∧ b < w1.heap.size) ∨ Z b
noncomputable def Zv (w1 : World) (s : Nat) (S : Nat → Prop) (O : List (Option Nat)) (Z : Nat → Prop) (w : World) : Hp := vw (HZ w1 s S O Z) w
def ZN (Z : Nat → Prop) (w w' : World) (OB : List (Option Nat)) : Nat → Prop := fun b => Z b ∨ (w.heap.size ≤ b ∧ b < w'.heap.size ∧ some b ∉ OB)
def footV : Value → List (Option Nat)
 | .slice (some a) _ _ => [some a.block]
 | .pointer (some a) => [some a.block]
 | _ => []
theorem footV_osv {ob : Option Nat} {o n cap b : Nat} : some b ∈ footV (osv ob o n cap) ↔ some b ∈ [ob] := by
 cases ob <;> simp [osv, footV]
section
variable {s : Nat} {S : Nat → Prop} {X O O' OB : List (Option Nat)} {C CB : List Cont} {w w' w'' w0 w1 : World} {α : Type} {r : Rep α} {Z Z' : Nat → Prop} {cf ft : List (Option Nat)} {φ : (Nat → Prop) → World → Prop}
theorem vw_any {S' : Nat → Prop} : Le (vw S' w) (Hv w.heap.size Any [] w) := fun b o h => vw_mk ⟨.inl trivial, by simp⟩ (vw_some h).2
theorem Hv.any : Le (Hv s S O w) (Hv w.heap.size Any [] w) := vw_any
theorem Zv.any : Le (Zv w1 s S O Z w) (Hv w.heap.size Any [] w) := vw_any
theorem vw_view {S' : Nat → Prop} : Le (vw S' w) (view [] w) := fun b o h => view_mk (vw_some h).2 (by simp)
theorem Zv.view : Le (Zv w1 s S O Z w) (view [] w) := vw_view
theorem Zv.none : Le (Zv w1 s None O Z w) (Zv w1 s S O Z w) := fun b o h => by
 obtain ⟨h1, h3⟩ := vw_some h
 rcases h1 with ⟨⟨h1, h2⟩, h4⟩ | h1
 · exact vw_mk (.inl ⟨⟨.inr (h1.resolve_left id), h2⟩, h4⟩) h3
 · exact vw_mk (.inr h1) h3
theorem Zv.old (hE : Ext w1 w) : Le (Hv s S O w1) (Zv w1 s S O Z w) := fun b o h => by
 obtain ⟨h1, h3⟩ := vw_some h
 exact vw_mk (.inl ⟨h1, heap_lt h3⟩) ((hE.block b (heap_lt h3)).trans h3)
theorem Zv.stay (hz : ∀ b, Z b → Z' b) {F : List (Option Nat)} (hs : ∀ b, (b < w1.heap.size ∨ Z b ∨ some b ∈ F) → b < w.heap.size → w'.heap[b]? = w.heap[b]?) : Le (Zv w1 s S O Z w) (Zv w1 s S O Z' w') := fun b o h => by
 obtain ⟨h1, h3⟩ := vw_some h
 rcases h1 with ⟨h1, h4⟩ | h1
 · exact vw_mk (.inl ⟨h1, h4⟩) ((hs b (.inl h4) (heap_lt h3)).trans h3)
 · exact vw_mk (.inr (hz b h1)) ((hs b (.inr (.inl h1)) (heap_lt h3)).trans h3)
theorem OwnC.stay {ob : Option Nat} {c : Cont} (h : OwnC w ob c) {F : List (Option Nat)} (hF : ∀ b, ob = some b → some b ∈ F) (hs : ∀ b, (b < w1.heap.size ∨ Z b ∨ some b ∈ F) → b < w.heap.size → w'.heap[b]? = w.heap[b]?) : OwnC w' ob c :=
 h.same fun k hk => hs k (.inr (.inr (hF k hk))) (by subst hk; exact h.lt)
theorem Zv.made : Le (Hv w.heap.size None OB w') (Zv w1 s S O (ZN Z w w' OB) w') := fun b o h => by
 obtain ⟨⟨h1, h2⟩, h3⟩ := vw_some h
 rcases h1 with h1 | h1
 · exact h1.elim
 · exact vw_mk (.inr (.inr ⟨h1, heap_lt h3, h2⟩)) h3
theorem Zv.enter : Le (Zv w1 s S O Z w) (Hv w.heap.size (HZ w1 s S O Z) [] w) := fun b o h => by
 obtain ⟨h1, h3⟩ := vw_some h
 exact vw_mk ⟨.inl h1, by simp⟩ h3
theorem Zv.grow (hE : Ext w w') : Le (Zv w1 s S O Z w) (Zv w1 s S O (ZN Z w w' OB) w') := fun b o h => by
 obtain ⟨h1, h3⟩ := vw_some h
 refine vw_mk ?_ ((hE.block b (heap_lt h3)).trans h3)
 rcases h1 with h1 | h1
 · exact .inl h1
 · exact .inr (.inl h1)
theorem Zv.fin (hL : Loc X [] w0 w1 O C) (hZ : ZB w1 w Z) (hB : ∀ b, some b ∈ OB → w1.heap.size ≤ b ∧ ¬ Z b) : Le (Zv w1 w0.heap.size S O Z w) (Hv w0.heap.size S (OB ++ O) w) := fun b o h => by
 obtain ⟨h1, h3⟩ := vw_some h
 rcases h1 with ⟨h1, h4⟩ | h1
 · refine vw_mk ⟨h1.1, fun hm => ?_⟩ h3
   rcases List.mem_append.1 hm with h2 | h2
   · have := (hB b h2).1; omega
   · exact h1.2 h2
 · have hz := hZ b h1
   refine vw_mk ⟨.inr (Nat.le_trans hL.size hz.1), fun hm => ?_⟩ h3
   rcases List.mem_append.1 hm with h2 | h2
   · exact (hB b h2).2 h1
   · have := hL.own.lt b h2; omega
theorem Made.same (hφ : φ Z w) : Made cf [] Z w w φ :=
 ⟨Z, fun _ h => h, fun _ h => .inl h, Use.ext (Ext.refl _), hφ, fun _ h => by cases h⟩
theorem Made.ext (hE : Ext w w') (hZ : ZB w1 w Z) (hN : NewOwn w w' OB CB) (hft : ∀ b, some b ∈ ft → some b ∈ OB) (hφ : φ (ZN Z w w' OB) w') : Made cf ft Z w w' φ := by
 refine ⟨ZN Z w w' OB, fun _ h => .inl h, fun b h => ?_, Use.ext hE, hφ, fun b hb => ?_⟩
 · rcases h with h | h
   · exact .inl h
   · exact .inr (.inl ⟨h.1, h.2.1⟩)
 · have hb' := hft b hb
   refine ⟨.inl ⟨hN.1 b hb', hN.2.2.lt b hb'⟩, fun h => ?_⟩
   rcases h with h | h
   · have := (hZ b h).2; have := hN.1 b hb'; omega
   · exact h.2.2 hb'
theorem Loc.begin0 (w : World) : Loc [] [] w w [] [] := Loc.begin trivial trivial
theorem NewOwn.nil : NewOwn w w' [] [] := ⟨fun _ h => (by simp at h), trivial, trivial⟩
theorem NewOwn.cons {ob : Option Nat} {c : Cont} (hN : NewOwn w w' OB CB) (hc : OwnC w' ob c) (hb : ∀ b, ob = some b → w.heap.size ≤ b) (hd : ∀ b, some b ∈ [ob] → some b ∉ OB) : NewOwn w w' (ob :: OB) (c :: CB) := by
 refine ⟨fun b hm => ?_, ?_, ⟨hc, hN.2.2⟩⟩
 · rcases List.mem_cons.1 hm with h | h
   · exact hb b h.symm
   · exact hN.1 b h
 · cases ob with
   | none => exact hN.2.1
   | some b => exact ⟨hd b (by simp), hN.2.1⟩
theorem own_row_any {ob : Option Nat} {o n cap : Nat} {pre cs sp : List Value} {xs : List α} {H : Hp} (hc : OwnC w ob (.cells (pre ++ (cs ++ sp)))) (hE : Els r H cs xs) (hle : Le H (Hv w.heap.size Any [] w)) (hz : (r.sz == 0) = false) (ho : o = pre.length) (hn : n = xs.length) (hcap : (cs ++ sp).length = cap * r.sz) :
 Rs r (Hv w.heap.size Any [] w) (osv ob o n cap) xs := by
 cases ob with
 | none => exact row_nil hc hE hz
 | some b => exact row_rs (own_at hc fun q hq => vw_mk ⟨.inl trivial, by simp⟩ hq) (hE.mono hle) hz ho hn hcap
end
theorem s8_beq (x y : List UInt8) : (x == y) = decide (x = y) := by
 by_cases h : x = y
 · subst h; simp
 · simp [h]
section
variable {P : Program} {ty : TypeId} {ρ : Operand → Value} {w : World} {R : Value → World → Prop}
theorem OpY.sAdd {t u : TypeId} {a b : Operand} {x y : List UInt8} (ha : ρ a = .string (s8 x)) (hb : ρ b = .string (s8 y)) (hl : (x.length : Int) + y.length ≤ 9223372036854775807) (h : R (.string (s8 (x ++ y))) w) : OpY P (.binOp .add t a b u) ty ρ w R := by
 have h1 : ¬ (((s8 x).size + (s8 y).size : Nat) : Int) > IntKind.i64.max := by
  have hm : IntKind.i64.max = 9223372036854775807 := by decide
  rw [s8_size, s8_size, hm]; omega
 have hr : (Op.stringOp .add (s8 x) (s8 y)).run P w = .ok (.string (s8 (x ++ y))) w := by
  simp only [Op.stringOp]
  rw [if_neg h1, s8_append]; rfl
 simp only [OpY, bareOp, execOp, ha, hb]
 simp only [binOp, eqGuard]
 simp [hr, upon]
 exact h
theorem OpY.sEql {t u : TypeId} {a b : Operand} {x y : List UInt8} (ha : ρ a = .string (s8 x)) (hb : ρ b = .string (s8 y)) (h : R (.bool (decide (x = y))) w) : OpY P (.binOp .eql t a b u) ty ρ w R := by
 have hr : (Op.stringOp .eql (s8 x) (s8 y)).run P w = .ok (.bool (decide (x = y))) w := by
  simp only [Op.stringOp, s8_toList]
  rw [s8_beq]; rfl
 simp only [OpY, bareOp, execOp, ha, hb]
 simp only [binOp, eqGuard]
 simp [hr, upon]
 exact h
end
end Go.X
set_option linter.unusedSimpArgs false
set_option linter.unusedVariables false
namespace Go.X
open Go Go.RowKit
def iw (z : Int) : Int := IntKind.i64.wrap z
def uw (z : Int) : Int := IntKind.u64.wrap z
def uw32 (z : Int) : Int := IntKind.u32.wrap z
def uw8 (z : Int) : Int := IntKind.u8.wrap z
theorem iw_eq {z : Int} (h1 : -9223372036854775808 ≤ z) (h2 : z ≤ 9223372036854775807) : iw z = z := wq_i64 rfl h1 h2
theorem uw_mod (z : Int) : uw z = z % 18446744073709551616 := wu
theorem uw32_mod (z : Int) : uw32 z = z % 4294967296 := wu32
def bor (k : IntKind) (x y : Int) : Int := k.wrap ((BitVec.ofInt k.bits x ||| BitVec.ofInt k.bits y).toNat : Int)
def bshl (k : IntKind) (x y : Int) : Int := k.wrap (x * 2 ^ (min y.toNat k.bits))
def bshr (k : IntKind) (x y : Int) : Int := x.fdiv (2 ^ (min y.toNat k.bits))
section
variable {P : Program} {ty : TypeId} {ρ : Operand → Value} {w : World} {R : Value → World → Prop}
theorem OpY.ior {t u : TypeId} {a b : Operand} {k : IntKind} {x y : Int} (hx : ρ a = .int k x) (hy : ρ b = .int k y) (h : R (.int k (bor k x y)) w) : OpY P (.binOp .or t a b u) ty ρ w R :=
 OpY.binInt hx hy (by simp [binOp, Op.intBits, bor]) h
theorem OpY.ishl {t u : TypeId} {a b : Operand} {k k' : IntKind} {x y : Int} (hx : ρ a = .int k x) (hy : ρ b = .int k' y) (h0 : ¬ y < 0) (h : R (.int k (bshl k x y)) w) : OpY P (.binOp .shl t a b u) ty ρ w R :=
 OpY.binInt hx hy (by simp [binOp, Op.shift, h0, bshl]) h
theorem OpY.ishr {t u : TypeId} {a b : Operand} {k k' : IntKind} {x y : Int} (hx : ρ a = .int k x) (hy : ρ b = .int k' y) (h0 : ¬ y < 0) (h : R (.int k (bshr k x y)) w) : OpY P (.binOp .shr t a b u) ty ρ w R :=
 OpY.binInt hx hy (by simp [binOp, Op.shift, h0, bshr]) h
end
section
variable {P : Program} {ty : TypeId} {ρ : Operand → Value} {w w0 : World} {R : Value → World → Prop} {X : List (Option Nat)} {O : List (Option Nat)} {C : List Cont} {α : Type} {r : Rep α} {H : Hp}
theorem OpY.mkRowX {t el : TypeId} {a c : Operand} {k k' : IntKind} {i : Int} {m by' : Nat} {z : Value} {zc : List Value} {x : α} {Y : List α} (hu : P.underlying t = some (.slice el)) (ti : TI P el r.sz by' z) (hzc : z.cells = zc.toArray) (hR : r.R H zc x)
 (ha : ρ a = .int k i) (hc : ρ c = .int k' i) (hi : i = (m : Int)) (hb : by' * m ≤ 281474976710656) (hm : m ≤ 9223372036854775807) (hY : Y = List.replicate m x) (hL : Loc X [] w0 w O C)
 (h : ∀ b w' cs, Els r H cs Y → (cs ++ []).length = m * r.sz → Loc X [] w0 w' (some b :: O) (.cells ([] ++ (cs ++ [])) :: C) → Step O (some b :: O) w w' → R (osv (some b) 0 Y.length m) w') :
 OpY P (.makeSlice t a c) ty ρ w R := by
 subst hY; exact OpY.mkRow hu ti hzc hR ha hc hi hb hm hL h
theorem OpY.apRowX {t el : TypeId} {a c : Operand} {by' n cap i : Nat} {z x : Value} {ob : Option Nat} {cs sp ds : List Value} {xs ys Y : List α} (hu : P.underlying t = some (.slice el)) (ti : TI P el r.sz by' z) (hzc : z.cells.size = r.sz) (hz : (r.sz == 0) = false)
 (ha : ρ a = osv ob 0 n cap) (hc : ρ c = x) (hL : Loc X [] w0 w O C) (hO : O[i]? = some ob) (hC : C[i]? = some (.cells ([] ++ (cs ++ sp)))) (hE : Els r H cs xs) (hn : n = xs.length) (hcap : (cs ++ sp).length = cap * r.sz) (hsrc : Src w x ys.length r.sz ds) (hD : Els r H ds ys)
 (h63 : xs.length + ys.length ≤ 9223372036854775807) (hb : (xs.length + ys.length) * by' ≤ 140737488355328) (hY : Y = xs ++ ys)
 (h : ∀ ob' cap' sp' ds' w', Els r H ds' Y → (ds' ++ sp').length = cap' * r.sz → Loc X [] w0 w' (O.set i ob') (C.set i (.cells ([] ++ (ds' ++ sp')))) → Step O (O.set i ob') w w' → R (osv ob' 0 Y.length cap') w') :
 OpY P (.call { callee := .builtin .append, args := #[a, c], argTypes := #[t, t] }) ty ρ w R := by
 subst hY; exact OpY.apRow hu ti hzc hz ha hc hL hO hC hE hn hcap hsrc hD h63 hb h
theorem OpY.stRowX {t : TypeId} {x y : Operand} {b q n by' : Nat} {z v : Value} {pre cs sp vs : List Value} {xs Y : List α} {a : α} (ti : TI P t r.sz by' z) (hx : ρ x = .pointer (some ⟨b, q, none⟩)) (hy : ρ y = v) (hv : v.cells = vs.toArray) (hR : r.R H vs a)
 (hL : Loc X [] w0 w O C) (i : Nat) (hO : O[i]? = some (some b)) (hC : C[i]? = some (.cells (pre ++ (cs ++ sp)))) (hE : Els r H cs xs) (hn : n < xs.length) (hq : q = pre.length + n * r.sz) (hY : Y = xs.set n a)
 (h : ∀ w' cs', Loc X [] w0 w' O (C.set i (.cells (pre ++ (cs' ++ sp)))) → Step O O w w' → Els r H cs' Y → cs'.length = cs.length → R undef w') : OpY P (.store t x y) ty ρ w R := by
 subst hY; exact OpY.stRow ti hx hy hv hR hL i hO hC hE hn hq h
theorem OpY.cutRoX {t el : TypeId} {x : Operand} {lo hi : Option Operand} {by' l h' : Nat} {z v : Value} {xs Y : List α} (hu : P.underlying t = some (.slice el)) (ti : TI P el r.sz by' z)
 (hx : ρ x = v) (hS : Rs r H v xs) (hlo : (lo = none ∧ l = 0) ∨ ∃ k y, lo = some y ∧ ρ y = .int k ((l : Nat) : Int)) (hhi : (hi = none ∧ h' = xs.length) ∨ ∃ k y, hi = some y ∧ ρ y = .int k ((h' : Nat) : Int)) (h1 : l ≤ h') (h2 : h' ≤ xs.length) (hY : Y = (xs.take h').drop l)
 (hk : ∀ v', Rs r H v' Y → R v' w) : OpY P (.slice t x lo hi none) ty ρ w R := by
 subst hY; exact OpY.cutRo hu ti hx hS hlo hhi h1 h2 hk
end
end Go.X
namespace Go.X
open Go Go.RowKit
theorem ite_t {α : Type} {p : Prop} [Decidable p] {A B r : α} (hc : p) (h : (if p then A else B) = r) : A = r := by rw [if_pos hc] at h; exact h
theorem ite_f {α : Type} {p : Prop} [Decidable p] {A B r : α} (hc : ¬ p) (h : (if p then A else B) = r) : B = r := by rw [if_neg hc] at h; exact h
section
variable {P : Program} {ty : TypeId} {ρ : Operand → Value} {w : World} {R : Value → World → Prop} {α : Type} {r : Rep α} {H : Hp}
theorem OpY.ixRoD {t el : TypeId} {x y : Operand} {b o m cap : Nat} {i : Int} {n : Nat} {k : IntKind} {by' : Nat} {z v : Value} {xs : List α} {a : α} (hu : P.underlying t = some (.slice el)) (ti : TI P el r.sz by' z)
 (hx : ρ x = v) (hv : v = .slice (some ⟨b, o, none⟩) xs.length cap) (hy : ρ y = .int k i) (hi : i = (n : Int)) (hn : xs[n]? = some a) (hm : m = o + n * r.sz)
 (h : R (.pointer (some ⟨b, m, none⟩)) w) : OpY P (.indexAddr t x y) ty ρ w R := by
 subst hi; subst hm
 exact OpY.indexAddr hu ti (hx.trans hv) hy (List.getElem?_eq_some_iff.1 hn).1 rfl h
theorem OpY.ixRowD {t el : TypeId} {x y : Operand} {b o m cap q : Nat} {i : Int} {n : Nat} {k : IntKind} {by' : Nat} {z : Value} {xs : List α} (hu : P.underlying t = some (.slice el)) (ti : TI P el r.sz by' z)
 (hx : ρ x = osv (some b) o m cap) (hm : m = xs.length) (hy : ρ y = .int k i) (hi : i = (n : Int)) (hn : n < xs.length) (hq : q = o + n * r.sz)
 (h : R (.pointer (some ⟨b, q, none⟩)) w) : OpY P (.indexAddr t x y) ty ρ w R := by
 subst hi; subst hq; subst hm
 exact OpY.indexAddr hu ti hx hy hn rfl h
theorem OpY.ldElem1 {t : TypeId} {x : Operand} {d : TypeDesc} {b q : Nat} {cs : List Value} {v : Value} (hd : P.underlying t = some d) (hg : aggD d = false) (hx : ρ x = .pointer (some ⟨b, q, none⟩)) (hc : OwnC w (some b) (.cells cs))
 (hv : (cs.drop q).take [v].length = [v]) (h : R v w) : OpY P (.load t x) ty ρ w R := by
 refine OpY.ldBox1 hd hg hx hc ?_ h
 have := congrArg (·[0]?) hv
 simp only [List.length_singleton, List.getElem?_take, List.getElem?_drop, Nat.lt_one_iff, if_true, Nat.add_zero] at this
 exact this
end
end Go.X
namespace Go.X
open Go Go.RowKit
theorem own_any {w : World} {b : Nat} {cs : List Value} (hc : OwnC w (some b) (.cells cs)) : At (Hv w.heap.size Any [] w) b 0 cs := own_at hc fun _ ho => vw_mk ⟨.inl trivial, by simp⟩ ho
theorem Hv.pick {s : Nat} {S : Nat → Prop} {O O' : List (Option Nat)} {w : World} (is : List Nat) (hO : pickL O is = some O') : Le (Hv s S O w) (Hv s S O' w) := Hv.sub fun b hb => by
 obtain ⟨i, _, hi⟩ := pickL_mem hO b hb
 exact List.mem_of_getElem? hi
end Go.X
namespace Go.X
theorem upds_sym {L : List (Nat × Value)} {e : Env} (h : slotsOk L e) : e = upds L e := (upds_of_slotsOk h).symm
end Go.X
namespace Go.X
open Go Go.RowKit
end Go.X
namespace Go.X
open Go Go.RowKit
end Go.X
namespace Go.X
open Go Go.RowKit
theorem Made.take {w w1 : World} {Z : Nat → Prop} {cf ft : List (Option Nat)} {φ : (Nat → Prop) → World → Prop} {ob : Option Nat} (hB : Bnd w1 w Z [ob]) (hcf : ∀ b, ob = some b → some b ∈ cf) (hft : ∀ b, some b ∈ ft → some b ∈ [ob]) (hφ : φ Z w) : Made cf ft Z w w φ :=
 ⟨Z, fun _ h => h, fun _ h => .inl h, Use.ext (Ext.refl _), hφ, fun b hb => ⟨.inr (hcf b (List.mem_singleton.1 (hft b hb)).symm), (hB b (hft b hb)).2.2⟩⟩
end Go.X
namespace Go.X
open Go Go.RowKit
def footA (i : Nat) : Value → List (Option Nat)
 | .agg cs => footV (cs.getD i .nilIface)
 | _ => []
theorem Els.anyH {α : Type} {r : Rep α} (hr : ∀ (H H' : Hp) (vs : List Value) (x : α), r.R H vs x → r.R H' vs x) {H H' : Hp} : ∀ {cs : List Value} {xs : List α}, Els r H cs xs → Els r H' cs xs
 | _, [], h => h
 | _, _ :: _, ⟨a, b, h1, h2, h3⟩ => ⟨a, b, h1, hr _ _ _ _ h2, h3.anyH hr⟩
end Go.X
namespace Go.X
open Go Go.RowKit
end Go.X
set_option linter.unusedSimpArgs false
set_option linter.unusedVariables false
namespace Go.X
open Go
theorem apE {cs : List (List Nat)} {x y : FE} {r : List FE} (h : apartE cs x (y :: r)) (h1 : endsB cs x.idx = true) (h2 : endsB cs y.idx = true) : ∀ b, some b ∈ x.ft → some b ∉ y.ft := by
 have := h.1
 rw [h1, h2] at this
 exact this
end Go.X
set_option linter.unusedSimpArgs false
set_option linter.unusedVariables false
namespace Go.X
open Go Go.ChangeShapes Go.WideShapes Go.ChangeAt Go.RowKit
section
variable {H : Type} {enc : TypeId × Value → H} {P : Program} {W : World}
noncomputable abbrev HW (W : World) : Hp := Hv W.heap.size (fun _ => True) [] W
theorem cellV {w : World} {b o : Nat} {v : Value} (h : w.cell? ⟨b, o, none⟩ = some v) : cellH (HW w) b o = some v := by
 unfold World.cell? at h
 unfold cellH HW Hv vw
 have hs : HS w.heap.size (fun _ => True) [] b := ⟨.inl trivial, by simp⟩
 rw [if_pos hs]
 cases hb : w.heap[b]? with
 | none => rw [hb] at h; cases h
 | some x =>
  rw [hb] at h
  cases x <;> simp_all
theorem cell_spot {w : World} {a : Addr} {v : Value} (h : w.cell? a = some v) : a.spot = none := by
 unfold World.cell? at h
 split at h
 · split at h
   · cases h
   · rename_i h1; cases hs : a.spot with
     | none => rfl
     | some _ => rw [hs] at h1; simp at h1
 · cases h
def Opn (enc : TypeId × Value → H) (P : Program) (W : World) (N : Nat) {α : Type} (r : Rep α) (t : TypeId) (G : α → Prop) : Prop :=
 ∀ fuel, fuel ≤ N → ∀ cs x, DataW.trod enc P W 0 (fun _ => true) true fuel t cs = some x → ∃ a, r.R (HW W) cs a ∧ G a
theorem Opn.int {N : Nat} {t : TypeId} {k : IntKind} (ht : P.underlying t = some (.int k)) : Opn enc P W N (rInt k) t (fun x => (Lit.int k x).wf = true) := by
 intro fuel _ cs x h
 obtain ⟨n, rfl, _, hw⟩ := DataW.trod_int ht h
 exact ⟨n, rfl, hw⟩
theorem Opn.bool {N : Nat} {t : TypeId} (ht : P.underlying t = some .bool) : Opn enc P W N rBool t (fun _ => True) := by
 intro fuel _ cs x h
 obtain ⟨b, rfl, _⟩ := DataW.trod_bool ht h
 exact ⟨b, rfl, trivial⟩
theorem Opn.imp {N : Nat} {α : Type} {r : Rep α} {t : TypeId} {G G' : α → Prop} (h : Opn enc P W N r t G) (k : ∀ a, G a → G' a) : Opn enc P W N r t G' := fun fuel hf cs x hx => by
 obtain ⟨a, h1, h2⟩ := h fuel hf cs x hx
 exact ⟨a, h1, k a h2⟩
theorem add_plain' (b o n : Nat) : (⟨b, o, none⟩ : Addr).add n = ⟨b, o + n, none⟩ := by unfold Addr.add; split <;> simp_all
theorem Opn.slice {N : Nat} {α : Type} {r : Rep α} {t e : TypeId} {G : α → Prop} (ht : P.underlying t = some (.slice e)) (hc : P.cellsOf e = r.sz) (hz : (r.sz == 0) = false) (he : Opn enc P W N r e G) :
 Opn enc P W (N + 1) (rSl r) t (fun xs => xs.length ≤ 9223372036854775807 ∧ ∀ x ∈ xs, G x) := by
 have hpos : 0 < r.sz := by
  have : ¬ r.sz = 0 := by simpa using hz
  omega
 intro fuel hf cs x h
 rcases DataW.trod_slice ht h with ⟨rfl, rfl⟩ | ⟨a, len, cap, elems, rest, n, hn, rfl, rfl, hb, hl, hm, hlen, hel, hsp, hns⟩
 · exact ⟨[], ⟨_, rfl, Rs.nil⟩, by simp, fun _ hx => by cases hx⟩
 have hcap : cap ≤ 9223372036854775807 := hm
 rcases Nat.eq_zero_or_pos cap with h0 | h0
 · subst h0
   obtain rfl : len = 0 := by omega
   exact ⟨[], ⟨_, rfl, .inl ⟨⟨_, rfl⟩, rfl⟩⟩, by simp, fun _ hx => by cases hx⟩
 have hfirst : ∃ y, (W.cells? 0 (a.add (0 * P.cellsOf e)) (P.cellsOf e)).bind (DataW.trod enc P W 0 (fun _ => true) true n e) = some y := by
  rcases Nat.eq_zero_or_pos len with h1 | h1
  · obtain ⟨hr, hs⟩ := hsp rfl
    have := hs 0 (by omega)
    rw [h1, Nat.zero_add] at this
    exact ⟨_, this.trans (List.getElem?_eq_getElem (by omega))⟩
  · exact ⟨_, (hel 0 h1).trans (List.getElem?_eq_getElem (by omega))⟩
 have hspot : a.spot = none := by
  obtain ⟨y, hy⟩ := hfirst
  rw [Option.bind_eq_some_iff] at hy
  obtain ⟨cs', hcs, -⟩ := hy
  obtain ⟨_, hl', hcell⟩ := World.cells?_some hcs
  have := hcell 0 (by omega)
  rw [List.getElem?_eq_getElem (by omega), Nat.zero_mul] at this
  have := cell_spot this
  simpa [Addr.add] using this
 obtain ⟨b, o, s⟩ := a
 cases hspot
 have each : ∀ i, i < len → ∃ x vs, vs.length = r.sz ∧ At (HW W) b (o + i * r.sz) vs ∧ r.R (HW W) vs x ∧ G x := by
  intro i hi
  have hy := (hel i hi).trans (List.getElem?_eq_getElem (by omega))
  rw [Option.bind_eq_some_iff] at hy
  obtain ⟨vs, hcs, hy⟩ := hy
  obtain ⟨_, hl', hcell⟩ := World.cells?_some hcs
  obtain ⟨x, hR, hG⟩ := he n (by omega) vs _ hy
  refine ⟨x, vs, by omega, fun j hj => ?_, hR, hG⟩
  have := hcell j (by omega)
  rw [List.getElem?_eq_getElem hj] at this ⊢
  rw [hc, add_plain', add_plain'] at this
  exact cellV this
 let xs : List α := List.ofFn (fun i : Fin len => Classical.choose (each i.1 i.2))
 have hxl : xs.length = len := by simp [xs]
 refine ⟨xs, ⟨_, rfl, .inr ⟨b, o, cap, by rw [hxl], by omega, fun i x hi => ?_⟩⟩, by omega, fun x hx => ?_⟩
 · have hil : i < len := by rw [← hxl]; exact (List.getElem?_eq_some_iff.1 hi).1
   have hx : x = Classical.choose (each i hil) := by
    have := (List.getElem?_eq_some_iff.1 hi).2
    simp only [xs, List.getElem_ofFn] at this
    exact this.symm
   subst hx
   obtain ⟨vs, h1, h2, h3, _⟩ := Classical.choose_spec (each i hil)
   exact ⟨vs, h1, h2, h3⟩
 · obtain ⟨i, hi, rfl⟩ := List.mem_iff_getElem.1 hx
   have hil : i < len := by omega
   simp only [xs, List.getElem_ofFn]
   obtain ⟨_, _, _, _, hG⟩ := Classical.choose_spec (each i hil)
   exact hG
theorem Opn.less {N : Nat} {α : Type} {r : Rep α} {t : TypeId} {G : α → Prop} (h : Opn enc P W (N + 1) r t G) : Opn enc P W N r t G := fun fuel hf => h fuel (by omega)
theorem trod_fields {t : TypeId} {fuel : Nat} {cs : List Value} {x : DataW H × List MemPlace} {fs : Array Field} (ht : P.underlying t = some (.struct fs)) (h : DataW.trod enc P W 0 (fun _ => true) true fuel t cs = some x) :
 cs.length = P.cellsOf t ∧ ∃ n, n < fuel ∧ ∀ (i : Nat) (f : Field), fs[i]? = some f → ∃ y, DataW.trod enc P W 0 (fun _ => true) true n f.type ((cs.drop f.offset).take (P.cellsOf f.type)) = some y := by
 obtain ⟨xs, n, hn, _, hl, hxl, hf⟩ := DataW.trod_struct ht h
 refine ⟨hl, n, by omega, fun i f hi => ?_⟩
 have hi' : i < xs.length := by rw [hxl]; exact (Array.getElem?_eq_some_iff.1 hi).1
 exact ⟨_, (hf i f hi).trans (List.getElem?_eq_getElem hi')⟩
end
end Go.X
set_option linter.unusedSimpArgs false
set_option linter.unusedVariables false
namespace Go.X
open Go Go.ChangeShapes Go.WideShapes Go.ChangeAt Go.RowKit
section
variable {H : Type} {enc : TypeId × Value → H} {P : Program} {W : World}
def OpnT (enc : TypeId × Value → H) (P : Program) (W : World) (N : Nat) {α : Type} (r : Rep α) (t : TypeId) (G : α → Prop) (T : α → DataW H → Prop) : Prop :=
 ∀ fuel, fuel ≤ N → ∀ cs x, DataW.trod enc P W 0 (fun _ => true) true fuel t cs = some x → ∃ a, r.R (HW W) cs a ∧ G a ∧ T a x.1
theorem Opn.t {N : Nat} {α : Type} {r : Rep α} {t : TypeId} {G : α → Prop} (h : Opn enc P W N r t G) : OpnT enc P W N r t G (fun _ _ => True) := fun fuel hf cs x hx => by
 obtain ⟨a, h1, h2⟩ := h fuel hf cs x hx
 exact ⟨a, h1, h2, trivial⟩
def SlT {α : Type} (T : α → DataW H → Prop) (xs : List α) (d : DataW H) : Prop :=
 (d = .nil ∧ xs = []) ∨ ∃ es sp, d = .slice es sp ∧ es.length = xs.length ∧ ∀ (i : Nat) x y, xs[i]? = some x → es[i]? = some y → T x y
theorem OpnT.less {N : Nat} {α : Type} {r : Rep α} {t : TypeId} {G : α → Prop} {T : α → DataW H → Prop} (h : OpnT enc P W (N + 1) r t G T) : OpnT enc P W N r t G T := fun fuel hf => h fuel (by omega)
theorem OpnT.slice {N : Nat} {α : Type} {r : Rep α} {t e : TypeId} {G : α → Prop} {T : α → DataW H → Prop} (ht : P.underlying t = some (.slice e)) (hc : P.cellsOf e = r.sz) (hz : (r.sz == 0) = false) (he : OpnT enc P W N r e G T) :
 OpnT enc P W (N + 1) (rSl r) t (fun xs => xs.length ≤ 9223372036854775807 ∧ ∀ x ∈ xs, G x) (SlT T) := by
 have hpos : 0 < r.sz := by
  have : ¬ r.sz = 0 := by simpa using hz
  omega
 intro fuel hf cs x h
 rcases DataW.trod_slice ht h with ⟨rfl, rfl⟩ | ⟨a, len, cap, elems, rest, n, hn, rfl, rfl, hb, hl, hm, hlen, hel, hsp, hns⟩
 · exact ⟨[], ⟨_, rfl, Rs.nil⟩, ⟨by simp, fun _ hx => by cases hx⟩, .inl ⟨rfl, rfl⟩⟩
 have hcap : cap ≤ 9223372036854775807 := hm
 rcases Nat.eq_zero_or_pos cap with h0 | h0
 · subst h0
   obtain rfl : len = 0 := by omega
   exact ⟨[], ⟨_, rfl, .inl ⟨⟨_, rfl⟩, rfl⟩⟩, ⟨by simp, fun _ hx => by cases hx⟩, .inr ⟨_, _, rfl, by simp; exact List.length_eq_zero_iff.1 hlen, fun i x y hx => by simp at hx⟩⟩
 have hfirst : ∃ y, (W.cells? 0 (a.add (0 * P.cellsOf e)) (P.cellsOf e)).bind (DataW.trod enc P W 0 (fun _ => true) true n e) = some y := by
  rcases Nat.eq_zero_or_pos len with h1 | h1
  · obtain ⟨hr, hs⟩ := hsp rfl
    have := hs 0 (by omega)
    rw [h1, Nat.zero_add] at this
    exact ⟨_, this.trans (List.getElem?_eq_getElem (by omega))⟩
  · exact ⟨_, (hel 0 h1).trans (List.getElem?_eq_getElem (by omega))⟩
 have hspot : a.spot = none := by
  obtain ⟨y, hy⟩ := hfirst
  rw [Option.bind_eq_some_iff] at hy
  obtain ⟨cs', hcs, -⟩ := hy
  obtain ⟨_, hl', hcell⟩ := World.cells?_some hcs
  have := hcell 0 (by omega)
  rw [List.getElem?_eq_getElem (by omega), Nat.zero_mul] at this
  have := cell_spot this
  simpa [Addr.add] using this
 obtain ⟨b, o, s⟩ := a
 cases hspot
 have each : ∀ i, (hi : i < len) → ∃ x vs, vs.length = r.sz ∧ At (HW W) b (o + i * r.sz) vs ∧ r.R (HW W) vs x ∧ G x ∧ T x (elems[i]'(by omega)).1 := by
  intro i hi
  have hy := (hel i hi).trans (List.getElem?_eq_getElem (by omega))
  rw [Option.bind_eq_some_iff] at hy
  obtain ⟨vs, hcs, hy⟩ := hy
  obtain ⟨_, hl', hcell⟩ := World.cells?_some hcs
  obtain ⟨x, hR, hG, hT⟩ := he n (by omega) vs _ hy
  refine ⟨x, vs, by omega, fun j hj => ?_, hR, hG, hT⟩
  have := hcell j (by omega)
  rw [List.getElem?_eq_getElem hj] at this ⊢
  rw [hc, add_plain', add_plain'] at this
  exact cellV this
 let xs : List α := List.ofFn (fun i : Fin len => Classical.choose (each i.1 i.2))
 have hxl : xs.length = len := by simp [xs]
 refine ⟨xs, ⟨_, rfl, .inr ⟨b, o, cap, by rw [hxl], by omega, fun i x hi => ?_⟩⟩, ⟨by omega, fun x hx => ?_⟩, .inr ⟨_, _, rfl, by rw [List.length_map]; omega, fun i x y hx hy => ?_⟩⟩
 · have hil : i < len := by rw [← hxl]; exact (List.getElem?_eq_some_iff.1 hi).1
   have hx : x = Classical.choose (each i hil) := by
    have := (List.getElem?_eq_some_iff.1 hi).2
    simp only [xs, List.getElem_ofFn] at this
    exact this.symm
   subst hx
   obtain ⟨vs, h1, h2, h3, _⟩ := Classical.choose_spec (each i hil)
   exact ⟨vs, h1, h2, h3⟩
 · obtain ⟨i, hi, rfl⟩ := List.mem_iff_getElem.1 hx
   have hil : i < len := by omega
   simp only [xs, List.getElem_ofFn]
   obtain ⟨_, _, _, _, hG, _⟩ := Classical.choose_spec (each i hil)
   exact hG
 · have hil : i < len := by rw [← hxl]; exact (List.getElem?_eq_some_iff.1 hx).1
   have hx : x = Classical.choose (each i hil) := by
    have := (List.getElem?_eq_some_iff.1 hx).2
    simp only [xs, List.getElem_ofFn] at this
    exact this.symm
   subst hx
   obtain ⟨_, _, _, _, _, hT⟩ := Classical.choose_spec (each i hil)
   rw [List.getElem?_map, List.getElem?_eq_getElem (by omega)] at hy
   cases hy
   exact hT
theorem trod_fieldsT {t : TypeId} {fuel : Nat} {cs : List Value} {x : DataW H × List MemPlace} {fs : Array Field} (ht : P.underlying t = some (.struct fs)) (h : DataW.trod enc P W 0 (fun _ => true) true fuel t cs = some x) :
 cs.length = P.cellsOf t ∧ ∃ n, n < fuel ∧ ∃ ds : List (DataW H), x.1 = .agg ds ∧ ds.length = fs.size ∧ ∀ (i : Nat) (f : Field), fs[i]? = some f → ∃ y, DataW.trod enc P W 0 (fun _ => true) true n f.type ((cs.drop f.offset).take (P.cellsOf f.type)) = some y ∧ ds[i]? = some y.1 := by
 obtain ⟨xs, n, hn, hx, hl, hxl, hf⟩ := DataW.trod_struct ht h
 refine ⟨hl, n, by omega, xs.map (·.1), by rw [hx], by rw [List.length_map, hxl], fun i f hi => ?_⟩
 have hi' : i < xs.length := by rw [hxl]; exact (Array.getElem?_eq_some_iff.1 hi).1
 exact ⟨_, (hf i f hi).trans (List.getElem?_eq_getElem hi'), by rw [List.getElem?_map, List.getElem?_eq_getElem hi']; rfl⟩
theorem open_structT {α : Type} {r : Rep α} {t : TypeId} {fs : Array Field} {G : α → Prop} {T : α → DataW H → Prop} {v : Value} {d : DataW H} {ps : List MemPlace} (ht : P.underlying t = some (.struct fs)) (ho : ∀ N, OpnT enc P W N r t G T) {rc : Reach} {base : Nat} (hval : Value.okWide P W rc base t v) (h : DataW.Trod enc P W 0 (fun _ => true) true t v d ps) :
 ∃ cs x, v = .agg cs.toArray ∧ r.R (HW W) cs x ∧ G x ∧ T x d := by
 obtain ⟨n, hn⟩ := h
 obtain ⟨x, hR, hG, hT⟩ := ho n n (Nat.le_refl _) _ _ hn
 simp only [Value.okWide, ht] at hval
 obtain ⟨cs, rfl, _⟩ := hval
 exact ⟨cs.toList, x, by simp, by simpa [Value.cells] using hR, hG, hT⟩
theorem sum_le {α : Type} {B : α → Nat} {bk : DataW H → Nat} : ∀ {xs : List α} {es : List (DataW H)}, es.length = xs.length → (∀ (i : Nat) x y, xs[i]? = some x → es[i]? = some y → B x ≤ bk y) → (xs.map B).sum ≤ (es.map bk).sum
 | [], [], _, _ => by simp
 | [], _ :: _, h, _ => by simp at h
 | _ :: _, [], h, _ => by simp at h
 | x :: xs, y :: es, h, hb => by
  have h1 := hb 0 x y rfl rfl
  have h2 := sum_le (xs := xs) (es := es) (by simpa using h) (fun i a b ha hb' => hb (i + 1) a b (by simpa using ha) (by simpa using hb'))
  simp only [List.map_cons, List.sum_cons]; omega
end
end Go.X
set_option linter.unusedSimpArgs false
set_option linter.unusedVariables false
namespace Go.X
open Go Go.RowKit
section
variable {P : Program} {ty : TypeId} {ρ : Operand → Value} {w w0 : World} {R : Value → World → Prop} {X : List (Option Nat)} {O : List (Option Nat)} {C : List Cont} {α : Type} {r : Rep α} {H : Hp}
def bstr (xs : List Int) : List UInt8 := xs.map fun n => UInt8.ofNat n.toNat
theorem foldl_push (ns : List Int) : ∀ b : ByteArray, ns.foldl (fun r n => r.push (UInt8.ofNat n.toNat)) b = b ++ s8 (bstr ns) := by
 induction ns with
 | nil => intro b; apply ByteArray.ext; simp [s8, bstr]
 | cons n ns ih =>
  intro b
  rw [List.foldl_cons, ih]
  apply ByteArray.ext
  simp [s8, bstr, ByteArray.push]
theorem Els.intCells {k : IntKind} : ∀ {cs : List Value} {xs : List Int}, Els (rInt k) H cs xs → cs = xs.map (Value.int k)
 | _, [], h => h
 | _, x :: xs, ⟨a, b, h1, h2, h3⟩ => by rw [h1, show a = [.int k x] from h2, h3.intCells]; rfl
theorem OpY.strSrc {t u e : TypeId} {x : Operand} {v : Value} {xs : List Int} {ds : List Value} (hs : P.underlying t = some (.slice e)) (hd : P.underlying u = some .string) (he : P.underlying e = some (.int .u8)) (hx : ρ x = v)
 (hsrc : Src w v xs.length 1 ds) (hD : Els (rInt .u8) H ds xs) (h : R (.string (s8 (bstr xs))) w) : OpY P (.convert t u x) ty ρ w R := by
 have key : (convert t u v).run P w = .ok (.string (s8 (bstr xs))) w := by
  obtain ⟨hnl, hsrc⟩ := hsrc
  have hds := hD.intCells
  rcases hsrc with ⟨⟨oa, rfl⟩, h0⟩ | ⟨b, o, cap, rfl, hcell⟩
  · rw [run_convert_bytes_string w t u e oa 0 0 hs he hd]
    have hx0 : xs = [] := List.eq_nil_of_length_eq_zero h0
    subst hx0
    cases oa with
    | none => rfl
    | some a =>
     have := run_bytesToString (P := P) w a 0 0 [] (by simp [loadCells, loadCellsFrom])
     rw [this, foldl_push]; congr 2
  · rw [run_convert_bytes_string w t u e _ _ _ hs he hd]
    have hl := run_loadCells_list (P := P) w ⟨b, o, none⟩ ds (fun j u hj => by rw [add_plain]; exact hcell j u hj)
    rw [hnl, Nat.mul_one] at hl
    have := run_bytesToString (P := P) w ⟨b, o, none⟩ xs.length cap xs (by rw [hl, hds])
    rw [this, foldl_push]; congr 2
 simp only [OpY, bareOp, execOp, hx]
 simp [key, upon]
 exact h
theorem OpY.strRow {t u e : TypeId} {x : Operand} {ob : Option Nat} {n cap : Nat} {pre cs sp : List Value} {xs : List Int} (hs : P.underlying t = some (.slice e)) (hd : P.underlying u = some .string) (he : P.underlying e = some (.int .u8)) (hx : ρ x = osv ob pre.length n cap)
 (hc : OwnC w ob (.cells (pre ++ (cs ++ sp)))) (hE : Els (rInt .u8) H cs xs) (hn : n = xs.length) (h : R (.string (s8 (bstr xs))) w) : OpY P (.convert t u x) ty ρ w R :=
 OpY.strSrc hs hd he hx (Src.row hc hE rfl rfl hn) hE h
end
end Go.X
set_option linter.unusedSimpArgs false
set_option linter.unusedVariables false
namespace Go.X
open Go Go.RowKit
section
variable {P : Program} {l : List Oper} {n : Nat} {K : Env → World → Prop} {e : Env} {w : World}
structure InvP (l : List Oper) (n : Nat) (Q done rest : List Nat) (listed : Array Bool) (a : Act) (E : Env) (ltr : List Nat) : Prop where
 size : listed.size = l.length
 tmps : a.tmps.size = n
 defs : a.defers = []
 parts : Q = done ++ rest
 isdone : ∀ q ∈ done, lst listed q
 open' : ∀ q ∈ rest, ¬ lst listed q
 cl : ∀ j oj, l[j]? = some oj → lst listed j → ∀ d ∈ depsOf oj, lst listed d
 late : ∀ i, i < l.length → i ∉ Q → ¬ lst listed i → i ∈ ltr
 sub : ∀ i ∈ ltr, i ∉ Q
 env : ∀ x, (∀ i, i < l.length → i ∉ Q → ¬ lst listed i → dstAt l i ≠ some x) → envOf a x = E x
end
end Go.X
set_option linter.unusedSimpArgs false
set_option linter.unusedVariables false
namespace Go.X
open Go Go.RowKit
section
variable {P : Program} {s : Nat} {S : Nat → Prop} {X O O' O'' OR : List (Option Nat)} {C C' C'' CR : List Cont} {w w' w0 : World} {α : Type} {r : Rep α} {H : Hp}
theorem RlL.fin {l : List Oper} {K : Env → World → Prop} {lt : List Nat} {e : Env} (h : K e w) : RlL P l K lt [] e w := h
end
end Go.X
set_option linter.unusedSimpArgs false
set_option linter.unusedVariables false
set_option linter.unusedSectionVars false
namespace Go.X
open Go Go.RowKit
end Go.X
set_option linter.unusedSimpArgs false
set_option linter.unusedVariables false
set_option linter.unusedSectionVars false
namespace Go.X
open Go Go.RowKit
theorem putAt_part {l vs us : List Value} {q off : Nat} (h : (l.drop q).take vs.length = vs) (ho : off + us.length ≤ vs.length) : putAt l (q + off) us = putAt l q (putAt vs off us) := by
 by_cases hv : vs.length = 0
 · have : us = [] := List.length_eq_zero_iff.1 (by omega)
   subst this
   have : vs = [] := List.length_eq_zero_iff.1 hv
   subst this
   rfl
 have hlen : q + vs.length ≤ l.length := by
  have := congrArg List.length h
  rw [List.length_take, List.length_drop] at this
  omega
 have hp : (putAt vs off us).length = vs.length := length_putAt us vs off
 apply List.ext_getElem?
 intro i
 rw [get_putAt _ _ _ _ (by omega), get_putAt _ _ _ _ (by rw [hp]; exact hlen), hp]
 have hget : ∀ j, j < vs.length → l[q + j]? = vs[j]? := fun j hj => by
  have := congrArg (·[j]?) h
  simp only [List.getElem?_take, hj, if_true, List.getElem?_drop] at this
  exact this
 by_cases h1 : q ≤ i ∧ i < q + vs.length
 · rw [if_pos h1, get_putAt _ _ _ _ ho]
   by_cases h2 : q + off ≤ i ∧ i < q + off + us.length
   · rw [if_pos h2, if_pos ⟨by omega, by omega⟩, show i - (q + off) = i - q - off by omega]
   · rw [if_neg h2, if_neg (by omega)]
     have := hget (i - q) (by omega)
     rw [show q + (i - q) = i by omega] at this
     exact this
 · rw [if_neg h1, if_neg (by omega)]
section
variable {P : Program} {ty : TypeId} {ρ : Operand → Value} {w w0 : World} {R : Value → World → Prop} {X : List (Option Nat)} {O : List (Option Nat)} {C : List Cont} {α : Type} {r : Rep α} {H : Hp}
theorem OpY.stPart {t : TypeId} {x y : Operand} {b q n off sz by' : Nat} {z v : Value} {pre cs sp us vs vs' : List Value} {xs Y : List α} {a : α} (ti : TI P t sz by' z) (hx : ρ x = .pointer (some ⟨b, q + off, none⟩)) (hy : ρ y = v) (hv : v.cells = us.toArray) (hul : us.length = sz) (hone : ones us = true)
 (hk : ((pre ++ (cs ++ sp)).drop q).take vs.length = vs) (hoff : off + us.length ≤ vs.length) (hvs : putAt vs off us = vs') (hR : r.R H vs' a)
 (hL : Loc X [] w0 w O C) (i : Nat) (hO : O[i]? = some (some b)) (hC : C[i]? = some (.cells (pre ++ (cs ++ sp)))) (hE : Els r H cs xs) (hn : n < xs.length) (hq : q = pre.length + n * r.sz) (hY : Y = xs.set n a)
 (h : ∀ w' cs', Loc X [] w0 w' O (C.set i (.cells (pre ++ (cs' ++ sp)))) → Step O O w w' → Els r H cs' Y → cs'.length = cs.length → R undef w') : OpY P (.store t x y) ty ρ w R := by
 subst hY
 have hlen := hE.length
 have hvl := r.len _ _ _ hR
 have hb : n * r.sz + r.sz ≤ cs.length := by rw [hlen, ← Nat.succ_mul]; exact Nat.mul_le_mul_right _ hn
 have hvsl : vs.length = r.sz := by rw [← hvl, ← hvs, length_putAt]
 have hp : putAt (pre ++ (cs ++ sp)) q vs' = pre ++ (putAt cs (n * r.sz) vs' ++ sp) := by
  subst hq
  rw [putAt_eq _ _ _ (by simp [hvl]; omega), putAt_eq _ _ _ (by rw [hvl]; exact hb), hvl]
  rw [List.take_append, List.take_of_length_le (by omega), show pre.length + n * r.sz - pre.length = n * r.sz by omega,
   List.take_append_of_le_length (by omega), List.drop_append, List.drop_of_length_le (by omega), List.nil_append,
   show pre.length + n * r.sz + r.sz - pre.length = n * r.sz + r.sz by omega, List.drop_append_of_le_length hb]
  simp
 refine OpY.store ti hx hy hv hul hone hL i hO hC (by subst hq; simp; omega) fun w' h1 h2 => ?_
 rw [putAt_part hk hoff, hvs, hp] at h1
 exact h w' _ h1 h2 (hE.set hR hn) (by rw [length_putAt])
end
end Go.X
set_option linter.unusedSimpArgs false
set_option linter.unusedVariables false
namespace Go.X
open Go Go.RowKit
end Go.X
set_option linter.unusedSimpArgs false
set_option linter.unusedVariables false
namespace Go.X
open Go Go.RowKit
end Go.X
set_option linter.unusedSimpArgs false
set_option linter.unusedVariables false
namespace Go.X
open Go Go.RowKit
end Go.X
set_option linter.unusedSimpArgs false
set_option linter.unusedVariables false
namespace Go.X
open Go Go.RowKit
def OB (O : List (Option Nat)) (w : World) : Prop := ∀ b, some b ∈ O → b < w.heap.size
def waitP (l : List Oper) : Nat → Nat → Nat → Bool
 | 0, _, _ => false
 | n + 1, i, q => waitB l i q || match l[i]? with
  | some o => (depsOf o).any fun j => waitP l n j q
  | none => false
section
variable {P : Program} {l : List Oper} {n : Nat} {K : Env → World → Prop} {e : Env} {w : World} {fds : List (Nat × Nat)} {Φ : Nat → Value → List (Option Nat) → World → Prop} {s0 : Nat} {O0 : List (Option Nat)} {w0 : World} {la lt0 : List Nat}
structure InvF (l : List Oper) (n : Nat) (la lt0 Q : List Nat) (fds : List (Nat × Nat)) (Φ : Nat → Value → List (Option Nat) → World → Prop) (rest : List Nat) (listed : Array Bool) (a : Act) (E E0 : Env) (O : List (Option Nat)) (w : World) (ltr : List Nat) : Prop where
 size : listed.size = l.length
 tmps : a.tmps.size = n
 defs : a.defers = []
 cover : ∀ q ∈ Q, q ∈ rest ∨ lst listed q
 restQ : ∀ q ∈ rest, q ∈ Q
 open' : ∀ q ∈ rest, ¬ lst listed q
 cl : ∀ j oj, l[j]? = some oj → lst listed j → ∀ d ∈ depsOf oj, lst listed d
 late : ∀ i, i < l.length → i ∉ Q → i ∉ fds.map (·.1) → ¬ lst listed i → i ∈ ltr ∨ ∃ q ∈ rest, waitP l 3 i q = true
 env : ∀ x, (∀ p ∈ fds, p.2 ≠ x) → (∀ i, i < l.length → i ∉ Q → i ∉ fds.map (·.1) → ¬ lst listed i → dstAt l i ≠ some x) → envOf a x = E x
 env0 : ∀ x, (∀ q ∈ Q, dstAt l q ≠ some x) → (∀ i ∈ la, i ∉ lt0 → dstAt l i ≠ some x) → E x = E0 x
 made : ∀ p ∈ fds, lst listed p.1 → Φ p.1 (envOf a p.2) O w
end
end Go.X
set_option linter.unusedSimpArgs false
set_option linter.unusedVariables false
namespace Go.X
open Go Go.RowKit
structure Xte (X : List (Option Nat)) (w w' : World) : Prop where
 os : w'.os = w.os
 tape : w'.tape = w.tape
 output : w'.output = w.output
 size : w.heap.size ≤ w'.heap.size
 keep : ∀ k, k < w.heap.size → some k ∉ X → w'.heap[k]? = w.heap[k]?
section
variable {X O O' Oq : List (Option Nat)} {C : List Cont} {w w' w0 w9 : World} {is : List Nat}
theorem Xte.ext (h : Xte [] w w') : Ext w w' := ⟨h.os, h.tape, h.output, h.size, fun k hk => h.keep k hk (by simp)⟩
end
end Go.X
set_option linter.unusedSimpArgs false
set_option linter.unusedVariables false
set_option linter.unusedSectionVars false
namespace Go.X
open Go Go.RowKit
def OkC (H : Hp) : Option Nat → Cont → Prop
 | some b, .cells cs => At H b 0 cs
 | none, .cells cs => cs = []
 | _, _ => True
structure DRep (α : Type) where
 r : Rep α
 nf : Nat
 R : List Value → List (Option Nat) → List Cont → α → Prop
 len : ∀ (vs : List Value) (bs : List (Option Nat)) (c : List Cont) (x : α), R vs bs c x → vs.length = r.sz ∧ bs.length = nf ∧ c.length = nf
 toR : ∀ (vs : List Value) (bs : List (Option Nat)) (c : List Cont) (x : α) (H : Hp), R vs bs c x → (∀ (f : Nat) (b : Option Nat) (k : Cont), bs[f]? = some b → c[f]? = some k → OkC H b k) → r.R H vs x
section
variable {w w0 : World} {X : List (Option Nat)} {Op Op' FB : List (Option Nat)} {Cp Cp' FC : List Cont}
theorem Owns.split : ∀ {Op : List (Option Nat)} {Cp : List Cont}, Owns w (Op ++ FB) (Cp ++ FC) → Op.length = Cp.length → Owns w Op Cp ∧ Owns w FB FC
 | [], [], h, _ => ⟨trivial, h⟩
 | _ :: _, _ :: _, h, hl => by
  obtain ⟨h1, h2⟩ := Owns.split h.2 (by simpa using hl)
  exact ⟨⟨h.1, h1⟩, h2⟩
 | [], _ :: _, _, hl => by simp at hl
 | _ :: _, [], _, hl => by simp at hl
theorem Distinct.split : ∀ {Op : List (Option Nat)}, Distinct (Op ++ FB) → Distinct Op ∧ Distinct FB ∧ ∀ b, some b ∈ Op → some b ∉ FB
 | [], h => ⟨trivial, h, fun _ hb => by cases hb⟩
 | none :: O, h => by
  obtain ⟨h1, h2, h3⟩ := Distinct.split (Op := O) h
  refine ⟨h1, h2, fun b hb => ?_⟩
  rcases List.mem_cons.1 hb with e | e
  · cases e
  · exact h3 b e
 | some x :: O, h => by
  obtain ⟨h1, h2, h3⟩ := Distinct.split (Op := O) h.2
  refine ⟨⟨fun hm => h.1 (List.mem_append_left _ hm), h1⟩, h2, fun b hb => ?_⟩
  rcases List.mem_cons.1 hb with e | e
  · cases e; exact fun hm => h.1 (List.mem_append_right _ hm)
  · exact h3 b e
end
end Go.X
set_option linter.unusedSimpArgs false
set_option linter.unusedVariables false
namespace Go.X
open Go Go.RowKit
end Go.X
set_option linter.unusedSimpArgs false
set_option linter.unusedVariables false
namespace Go.X
open Go Go.RowKit
section
variable {P : Program} {ty : TypeId} {ρ : Operand → Value} {w : World} {R : Value → World → Prop}
inductive Sc | ci (k : IntKind) (x y : Int) | cb (x y : Bool) | cs (x y : List UInt8)
def Sc.l : Sc → Value
 | .ci k a _ => .int k a
 | .cb a _ => .bool a
 | .cs a _ => .string (s8 a)
def Sc.r : Sc → Value
 | .ci k _ b => .int k b
 | .cb _ b => .bool b
 | .cs _ b => .string (s8 b)
def Sc.eq : Sc → Bool
 | .ci _ a b => decide (a = b)
 | .cb a b => a == b
 | .cs a b => decide (a = b)
def Sc.ok (P : Program) : Sc → TypeId → Prop
 | .ci _ _ _, t => ∃ k, P.underlying t = some (.int k)
 | .cb _ _, t => P.underlying t = some .bool
 | .cs _ _, t => P.underlying t = some .string
inductive ScsF (P : Program) : List Sc → List Field → Nat → Prop
 | nil {n : Nat} : ScsF P [] [] n
 | cons {x : Sc} {f : Field} {xs : List Sc} {fs : List Field} {n : Nat} : (f.name == "_") = false → f.offset = n → x.ok P f.type → ScsF P xs fs (n + 1) → ScsF P (x :: xs) (f :: fs) n
theorem Sc.run (x : Sc) {t : TypeId} (h : x.ok P t) (w : World) : (Op.equalIn 9999 t x.l x.r).run P w = .ok x.eq w := by
 cases x with
 | ci k a b =>
  obtain ⟨k', hk⟩ := h
  have e : (Op.equalIn (9998 + 1) t (.int k a) (.int k b)).run P w = .ok (a == b) w := run_equalIn_int (P := P) w 9998 t k k' a b hk
  show (Op.equalIn (9998 + 1) t (.int k a) (.int k b)).run P w = .ok (decide (a = b)) w
  rw [e]; rfl
 | cb a b => exact run_equalIn_bool 9998 h a b
 | cs a b =>
  have e : (Op.equalIn (9998 + 1) t (.string (s8 a)) (.string (s8 b))).run P w = .ok ((s8 a).toList == (s8 b).toList) w := run_equalIn_string (P := P) w 9998 t (s8 a) (s8 b) h
  show (Op.equalIn (9998 + 1) t (.string (s8 a)) (.string (s8 b))).run P w = .ok (decide (a = b)) w
  rw [e]
  congr 1
  rw [Bool.eq_iff_iff]
  simp [s8, ByteArray.toList_eq]
theorem Sc.part (x : Sc) {t : TypeId} (h : x.ok P t) {cs : Array Value} {v : Value} {n : Nat} (e : cs[n]? = some v) (w : World) : (Go.part t cs n).run P w = .ok v w := by
 obtain ⟨hn, hv⟩ := Array.getElem?_eq_some_iff.1 e
 cases x with
 | ci k a b => obtain ⟨k', hk⟩ := h; simp [Go.part, run_isAgg hk, aggD, hn, hv, e]
 | cb a b => have h : P.underlying t = some .bool := h; simp [Go.part, run_isAgg h, aggD, hn, hv, e]
 | cs a b => have h : P.underlying t = some .string := h; simp [Go.part, run_isAgg h, aggD, hn, hv, e]
end
end Go.X
set_option linter.unusedSimpArgs false
set_option linter.unusedVariables false
namespace Go.X
open Go Go.RowKit
section
variable {P : Program} {ty : TypeId} {ρ : Operand → Value} {w : World} {R : Value → World → Prop}
theorem s8_extract {s : List UInt8} {m n : Nat} : (s8 s).extract m n = s8 ((s.take n).drop m) := by
 apply ByteArray.ext
 simp [s8, ByteArray.data_extract]
 rw [List.drop_take]
theorem OpY.strFrom {t : TypeId} {x lo : Operand} {k : IntKind} {i : Int} {s y : List UInt8} (ht : P.underlying t = some .string) (hx : ρ x = .string (s8 s)) (hl : ρ lo = .int k i) (hc : cut s i (s.length : Int) = some y) (h : R (.string (s8 y)) w) : OpY P (.slice t x (some lo) none none) ty ρ w R := by
 obtain ⟨m, n, e1, e2, h1, h2, hy⟩ := cut_some hc
 have hi0 : 0 ≤ i := by omega
 have hin : i ≤ ((s8 s).size : Int) := by rw [s8_size]; omega
 have hr := run_slice_string_l (P := P) w t (s8 s) ht k i hi0 hin
 have ha := run_sliceAt_string (P := P) w t (.string (s8 s)) (some (.int k i)) none none ht
 rw [hr, s8_extract, s8_size] at ha
 have ey : (s.take s.length).drop i.toNat = y := by
  rw [hy]
  have : n = s.length := by omega
  subst this
  have : i.toNat = m := by omega
  rw [this]
 rw [ey] at ha
 simp only [OpY, bareOp, execOp, hx, Option.map_some, Option.map_none, hl]
 simp only [Sem.run_bind, ha, Result.andThen_ok, Sem.run_pure, upon]
 exact h
end
end Go.X

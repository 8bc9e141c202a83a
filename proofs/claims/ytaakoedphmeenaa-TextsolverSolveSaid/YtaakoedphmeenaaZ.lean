/- Plain theorems of the library of this seat. -/
import Derived.Test.YtaakoedphmeenaaX
import Derived.Laws.Tables
import Derived.Laws.StructEq
import Derived.Laws.BytesString
import Derived.Maps.Keyed
import Derived.Laws.IdiomStrings
import Derived.OpenShut
import Derived.ChangeMaps5
set_option linter.unusedSimpArgs false
set_option linter.unusedVariables false
namespace Go.X
open Go Go.RowKit
inductive Stp (σ ρ : Type) where
 | next (s : σ)
 | done (r : ρ)
def loopM {σ ρ : Type} (body : σ → Option (Stp σ ρ)) : Nat → σ → Option ρ
 | 0, _ => none
 | n + 1, s => match body s with
  | none => none
  | some (.next s') => loopM body n s'
  | some (.done r) => some r
theorem bind_some {α β : Type} {a : Option α} {f : α → Option β} {r : β} (h : a.bind f = some r) : ∃ x, a = some x ∧ f x = some r := by
 cases a with
 | none => cases h
 | some x => exact ⟨x, rfl, h⟩
theorem loopM_next {σ ρ : Type} {body : σ → Option (Stp σ ρ)} {n : Nat} {s s' : σ} (h : body s = some (.next s')) : loopM body (n + 1) s = loopM body n s' := by simp [loopM, h]
theorem loopM_done {σ ρ : Type} {body : σ → Option (Stp σ ρ)} {n : Nat} {s : σ} {r : ρ} (h : body s = some (.done r)) : loopM body (n + 1) s = some r := by simp [loopM, h]
theorem loopM_more {σ ρ : Type} {body : σ → Option (Stp σ ρ)} : ∀ {n m : Nat} {s : σ} {r : ρ}, loopM body n s = some r → n ≤ m → loopM body m s = some r
 | 0, _, _, _, h, _ => by simp [loopM] at h
 | n + 1, 0, _, _, _, h => by omega
 | n + 1, m + 1, s, r, h, hm => by
  simp only [loopM] at h ⊢
  cases hb : body s with
  | none => rw [hb] at h; cases h
  | some o =>
   rw [hb] at h
   cases o with
   | next s' => exact loopM_more h (by omega)
   | done r' => exact h
section
variable {P : Program} {n : Nat} {k : List It} {Q : Env → World → Prop} {e : Env} {w : World}
theorem Swp.loopM {c : Code} {σ ρ : Type} {body : σ → Option (Stp σ ρ)} {N : Nat} {s0 : σ} {r : ρ} (hh : loopM body N s0 = some r) (I : σ → Env → World → Prop) (h0 : I s0 e w)
 (round : ∀ (s : σ) (o : Stp σ ρ) (e' : Env) (w' : World), I s e' w' → body s = some o → (∀ r', o = .done r' → r' = r) →
  Swp P n (.code c :: .back (fun e'' w'' => ∃ s', o = .next s' ∧ I s' e'' w'') :: k) Q e' w') :
 Swp P n (.code (.loop c) :: k) Q e w := by
 intro a h1 h2 h3
 refine wp_loop_ghost (σ := Nat × σ) (I := fun s a w => a.tmps.size = n ∧ a.defers = [] ∧ X.loopM body s.1 s.2 = some r ∧ I s.2 (envOf a) w) (fun s => s.1) (s0 := (N, s0)) ⟨h1, h2, hh, h3 ▸ h0⟩ ?_
 rintro ⟨m, s⟩ a w ⟨g1, g2, g3, g4⟩
 cases m with
 | zero => simp [X.loopM] at g3
 | succ m =>
  simp only [X.loopM] at g3
  cases hb : body s with
  | none => rw [hb] at g3; cases g3
  | some o =>
   have hr := round s o (envOf a) w g4 hb (by
    rintro r' rfl; rw [hb] at g3; exact Option.some.inj g3)
   refine wp_mono (hr a g1 g2 rfl) ?_
   rintro x a' w' ⟨r1, r2, r3⟩
   cases x with
   | normal =>
    obtain ⟨s', rfl, q2⟩ := r3
    rw [hb] at g3
    exact ⟨(m, s'), ⟨r1, r2, g3, q2⟩, Nat.lt_succ_self m⟩
   | _ => exact ⟨r1, r2, r3⟩
theorem Kwp_join {J : Env → World → Prop} : ∀ {x : Exit} {e w}, (∀ e w, J e w → Swp P n k Q e w) → Kwp P n (.back J :: k) Q x e w → Kwp P n k Q x e w := by
 intro x e w hJ h
 cases x <;> first | exact hJ _ _ h | exact h
theorem Swp.join {c : Code} (J : Env → World → Prop) (h : Swp P n (.code c :: .back J :: k) Q e w) (hJ : ∀ e w, J e w → Swp P n k Q e w) : Swp P n (.code c :: k) Q e w := by
 intro a h1 h2 h3
 refine wp_mono (h a h1 h2 h3) ?_
 rintro x a' w' ⟨g1, g2, g3⟩
 exact ⟨g1, g2, Kwp_join hJ g3⟩
end
def idx {α : Type} (xs : List α) (i : Int) : Option α := if i < 0 then none else xs[i.toNat]?
theorem idx_some {α : Type} {xs : List α} {i : Int} {x : α} (h : idx xs i = some x) : ∃ n : Nat, i = (n : Int) ∧ xs[n]? = some x := by
 unfold idx at h
 split at h
 · cases h
 · exact ⟨i.toNat, by omega, h⟩
def upd1 {α : Type} (xs : List α) (i : Int) (y : α) : Option (List α) := if i < 0 ∨ (xs.length : Int) ≤ i then none else some (xs.set i.toNat y)
theorem upd1_some {α : Type} {xs ys : List α} {i : Int} {y : α} (h : upd1 xs i y = some ys) : ∃ n : Nat, i = (n : Int) ∧ n < xs.length ∧ ys = xs.set n y := by
 unfold upd1 at h
 split at h
 · cases h
 · exact ⟨i.toNat, by omega, by omega, (Option.some.inj h).symm⟩
def inr {α : Type} (xs : List α) (i : Int) : Option Unit := if i < 0 ∨ (xs.length : Int) ≤ i then none else some ()
def cut {α : Type} (xs : List α) (l h : Int) : Option (List α) := if l < 0 ∨ h < l ∨ (xs.length : Int) < h then none else some ((xs.take h.toNat).drop l.toNat)
theorem cut_some {α : Type} {xs ys : List α} {l h : Int} (hc : cut xs l h = some ys) : ∃ m n : Nat, l = (m : Int) ∧ h = (n : Int) ∧ m ≤ n ∧ n ≤ xs.length ∧ ys = (xs.take n).drop m := by
 unfold cut at hc
 split at hc
 · cases hc
 · exact ⟨l.toNat, h.toNat, by omega, by omega, by omega, by omega, (Option.some.inj hc).symm⟩
def apnd {α : Type} (bs : Nat) (xs ys : List α) : Option (List α) := if (xs.length + ys.length) * bs ≤ 140737488355328 ∧ xs.length + ys.length ≤ 9223372036854775807 then some (xs ++ ys) else none
theorem apnd_some {α : Type} {bs : Nat} {xs ys zs : List α} (h : apnd bs xs ys = some zs) : xs.length + ys.length ≤ 9223372036854775807 ∧ (xs.length + ys.length) * bs ≤ 140737488355328 ∧ zs = xs ++ ys := by
 unfold apnd at h
 split at h
 · rename_i g; exact ⟨g.2, g.1, (Option.some.inj h).symm⟩
 · cases h
def mk1 {α : Type} (bs : Nat) (z : α) (n : Int) : Option (List α) := if n < 0 ∨ 281474976710656 < bs * n.toNat ∨ 9223372036854775807 < n then none else some (List.replicate n.toNat z)
theorem mk1_some {α : Type} {bs : Nat} {z : α} {n : Int} {xs : List α} (h : mk1 bs z n = some xs) : ∃ m : Nat, n = (m : Int) ∧ bs * m ≤ 281474976710656 ∧ m ≤ 9223372036854775807 ∧ xs = List.replicate m z := by
 unfold mk1 at h
 split at h
 · cases h
 · exact ⟨n.toNat, by omega, by omega, by omega, (Option.some.inj h).symm⟩
def chk (p : Prop) [Decidable p] : Option Unit := if p then some () else none
theorem chk_some {p : Prop} [Decidable p] {u : Unit} (h : chk p = some u) : p := by
 unfold chk at h; split at h
 · assumption
 · cases h
theorem wu32 {z : Int} : IntKind.u32.wrap z = z % 4294967296 := by simp [IntKind.wrap, IntKind.signed, IntKind.bits]
theorem wu8 {z : Int} : IntKind.u8.wrap z = z % 256 := by simp [IntKind.wrap, IntKind.signed, IntKind.bits]
open Classical in
noncomputable def vw (S : Nat → Prop) (w : World) : Hp := fun b => if S b then w.heap[b]? else none
theorem vw_some {S : Nat → Prop} {w : World} {b : Nat} {o : Obj} (h : vw S w b = some o) : S b ∧ w.heap[b]? = some o := by
 unfold vw at h; split at h
 · exact ⟨by assumption, h⟩
 · cases h
theorem vw_mk {S : Nat → Prop} {w : World} {b : Nat} {o : Obj} (hS : S b) (h : w.heap[b]? = some o) : vw S w b = some o := by
 unfold vw; rw [if_pos hS]; exact h
def HS (s : Nat) (S : Nat → Prop) (O : List (Option Nat)) : Nat → Prop := fun b => (S b ∨ s ≤ b) ∧ some b ∉ O
noncomputable def Hv (s : Nat) (S : Nat → Prop) (O : List (Option Nat)) (w : World) : Hp := vw (HS s S O) w
def None (_ : Nat) : Prop := False
theorem heap_lt {w : World} {b : Nat} {o : Obj} (h : w.heap[b]? = some o) : b < w.heap.size := by
 rcases Nat.lt_or_ge b w.heap.size with h1 | h1
 · exact h1
 · rw [Array.getElem?_eq_none h1] at h; cases h
section
variable {X : List (Option Nat)} {s s' : Nat} {S : Nat → Prop} {O O' : List (Option Nat)} {w w' w0 : World} {C : List Cont}
theorem Hv.none : Le (Hv s None O w) (Hv s S O w) := fun b o h => by
 obtain ⟨⟨h1, h2⟩, h3⟩ := vw_some h
 exact vw_mk ⟨h1.imp (fun h => h.elim) id, h2⟩ h3
theorem Hv.step (h : Step O O' w w') : Le (Hv s S O w) (Hv s S O' w') := fun b o hb => by
 obtain ⟨⟨h1, h2⟩, h3⟩ := vw_some hb
 have hlt := heap_lt h3
 refine vw_mk ⟨h1, fun hm => ?_⟩ ((h.same b hlt h2).trans h3)
 rcases h.grow b hm with g | g
 · exact h2 g
 · omega
theorem Hv.ext (h : Ext w w') : Le (Hv s S O w) (Hv s S O w') := Hv.step (Step.ext h)
theorem Step.trans {O'' : List (Option Nat)} {w'' : World} (h : Step O O' w w') (h' : Step O' O'' w' w'') (hsz : w.heap.size ≤ w'.heap.size) : Step O O'' w w'' := by
 refine ⟨fun k hk hn => ?_, fun b hb => ?_⟩
 · rw [h'.same k (by omega) (fun hm => ?_), h.same k hk hn]
   rcases h.grow k hm with g | g
   · exact hn g
   · omega
 · rcases h'.grow b hb with g | g
   · exact h.grow b g
   · exact .inr (by omega)
theorem Hv.sub (h : ∀ b, b ∈ O' → b ∈ O) : Le (Hv s S O w) (Hv s S O' w) := fun b o hb => by
 obtain ⟨⟨h1, h2⟩, h3⟩ := vw_some hb
 exact vw_mk ⟨h1, fun hm => h2 (h _ hm)⟩ h3
end
structure Rep (α : Type) where
 sz : Nat
 R : Hp → List Value → α → Prop
 mono : ∀ (H H' : Hp) (vs : List Value) (x : α), Le H H' → R H vs x → R H' vs x
 len : ∀ (H : Hp) (vs : List Value) (x : α), R H vs x → vs.length = sz
 one : ∀ (H : Hp) (vs : List Value) (x : α), R H vs x → ones vs = true
def Rs {α : Type} (r : Rep α) (H : Hp) (v : Value) (xs : List α) : Prop := Sl r.sz r.R H v xs
theorem Rs.mono {α : Type} {r : Rep α} {H H' : Hp} {v : Value} {xs : List α} (h : Rs r H v xs) (hle : Le H H') : Rs r H' v xs := Sl.mono r.mono hle h
theorem Rs.one {α : Type} {r : Rep α} {H : Hp} {v : Value} {xs : List α} (h : Rs r H v xs) : X.one v = true := Sl.one h
theorem Rs.nil {α : Type} {r : Rep α} {H : Hp} : Rs r H (.slice none 0 0) [] := .inl ⟨⟨_, rfl⟩, rfl⟩
theorem Rs.get {α : Type} {r : Rep α} {H : Hp} {v : Value} {xs : List α} {n : Nat} {x : α} (h : Rs r H v xs) (hx : xs[n]? = some x) :
 ∃ b o cap vs, v = .slice (some ⟨b, o, none⟩) xs.length cap ∧ vs.length = r.sz ∧ At H b (o + n * r.sz) vs ∧ r.R H vs x := by
 rcases h with ⟨_, h2⟩ | ⟨b, o, cap, hv, hc, hxs⟩
 · subst h2; simp at hx
 · obtain ⟨vs, g1, g2, g3⟩ := hxs n x hx
   exact ⟨b, o, cap, vs, hv, g1, g2, g3⟩
def s8 (xs : List UInt8) : ByteArray := ⟨xs.toArray⟩
theorem s8_size (xs : List UInt8) : (s8 xs).size = xs.length := by simp [s8, ByteArray.size]
theorem s8_append (xs ys : List UInt8) : s8 xs ++ s8 ys = s8 (xs ++ ys) := by apply ByteArray.ext; simp [s8]
theorem s8_toList (xs : List UInt8) : (s8 xs).toList = xs := by rw [toList_loop_eq]; simp [s8]
theorem s8_of (b : ByteArray) : b = s8 b.data.toList := by apply ByteArray.ext; simp [s8]
def rInt (k : IntKind) : Rep Int := ⟨1, fun _ vs x => vs = [.int k x], fun _ _ _ _ _ h => h, fun _ _ _ h => by rw [h]; rfl, fun _ _ _ h => by rw [h]; rfl⟩
def rBool : Rep Bool := ⟨1, fun _ vs x => vs = [.bool x], fun _ _ _ _ _ h => h, fun _ _ _ h => by rw [h]; rfl, fun _ _ _ h => by rw [h]; rfl⟩
def rStr : Rep (List UInt8) := ⟨1, fun _ vs x => vs = [.string (s8 x)], fun _ _ _ _ _ h => h, fun _ _ _ h => by rw [h]; rfl, fun _ _ _ h => by rw [h]; rfl⟩
def rSl {α : Type} (r : Rep α) : Rep (List α) :=
 ⟨1, fun H vs xs => ∃ v, vs = [v] ∧ Rs r H v xs, fun _ _ _ _ hle ⟨v, h1, h2⟩ => ⟨v, h1, h2.mono hle⟩, fun _ _ _ ⟨v, h1, _⟩ => by rw [h1]; rfl, fun _ _ _ ⟨v, h1, h2⟩ => by rw [h1]; exact ones_cons h2.one ones_nil⟩
def Els {α : Type} (r : Rep α) (H : Hp) : List Value → List α → Prop
 | cs, [] => cs = []
 | cs, x :: xs => ∃ a b, cs = a ++ b ∧ r.R H a x ∧ Els r H b xs
section
variable {α : Type} {r : Rep α} {H H' : Hp}
theorem Els.nil : Els r H [] [] := rfl
theorem Els.cons {a b : List Value} {x : α} {xs : List α} (h : r.R H a x) (h' : Els r H b xs) : Els r H (a ++ b) (x :: xs) := ⟨a, b, rfl, h, h'⟩
theorem Els.mono : ∀ {cs : List Value} {xs : List α}, Els r H cs xs → Le H H' → Els r H' cs xs
 | _, [], h, _ => h
 | _, _ :: _, ⟨a, b, h1, h2, h3⟩, hle => ⟨a, b, h1, r.mono _ _ _ _ hle h2, h3.mono hle⟩
theorem Els.length : ∀ {cs : List Value} {xs : List α}, Els r H cs xs → cs.length = xs.length * r.sz
 | _, [], h => by rw [show _ = [] from h]; simp
 | _, _ :: xs, ⟨a, b, h1, h2, h3⟩ => by rw [h1, List.length_append, r.len _ _ _ h2, h3.length, List.length_cons, Nat.add_mul]; omega
theorem Els.ones : ∀ {cs : List Value} {xs : List α}, Els r H cs xs → Go.X.ones cs = true
 | _, [], h => by rw [show _ = [] from h]; rfl
 | _, _ :: xs, ⟨a, b, h1, h2, h3⟩ => by
  have e1 := r.one _ _ _ h2
  have e2 := h3.ones
  rw [h1]; clear h1 h2 h3
  induction a with
  | nil => exact e2
  | cons v a ih => simp only [List.cons_append, Go.X.ones, Bool.and_eq_true] at e1 ⊢; exact ⟨e1.1, ih e1.2⟩
theorem Els.append : ∀ {cs ds : List Value} {xs ys : List α}, Els r H cs xs → Els r H ds ys → Els r H (cs ++ ds) (xs ++ ys)
 | _, _, [], _, h, h' => by rw [show _ = [] from h]; exact h'
 | _, _, _ :: xs, _, ⟨a, b, h1, h2, h3⟩, h' => ⟨a, b ++ _, by rw [h1, List.append_assoc], h2, h3.append h'⟩
theorem Els.split : ∀ {cs : List Value} {xs ys : List α}, Els r H cs (xs ++ ys) → ∃ a b, cs = a ++ b ∧ Els r H a xs ∧ Els r H b ys
 | cs, [], ys, h => ⟨[], cs, rfl, rfl, h⟩
 | _, x :: xs, ys, ⟨a, b, h1, h2, h3⟩ => by
  obtain ⟨a', b', g1, g2, g3⟩ := Els.split (xs := xs) h3
  exact ⟨a ++ a', b', by rw [h1, g1, List.append_assoc], ⟨a, a', rfl, h2, g2⟩, g3⟩
theorem Els.get {cs : List Value} {xs : List α} {n : Nat} {x : α} (h : Els r H cs xs) (hx : xs[n]? = some x) : ∃ a, (cs.drop (n * r.sz)).take r.sz = a ∧ a.length = r.sz ∧ r.R H a x := by
 induction xs generalizing cs n with
 | nil => simp at hx
 | cons y xs ih =>
  obtain ⟨a, b, h1, h2, h3⟩ := h
  have hl := r.len _ _ _ h2
  subst h1
  cases n with
  | zero =>
   simp at hx; subst hx
   refine ⟨a, ?_, hl, h2⟩
   rw [Nat.zero_mul, List.drop_zero, ← hl, List.take_left']; rfl
  | succ n =>
   obtain ⟨a', g1, g2, g3⟩ := ih h3 (by simpa using hx)
   refine ⟨a', ?_, g2, g3⟩
   rw [← g1, Nat.add_mul, Nat.one_mul, ← hl, Nat.add_comm, ← List.drop_drop, List.drop_left']; rfl
theorem Els.set {cs vs : List Value} {xs : List α} {n : Nat} {y : α} (h : Els r H cs xs) (hy : r.R H vs y) (hn : n < xs.length) : Els r H (putAt cs (n * r.sz) vs) (xs.set n y) := by
 have hlen := h.length
 have hv := r.len _ _ _ hy
 have hb : n * r.sz + r.sz ≤ xs.length * r.sz := by rw [← Nat.succ_mul]; exact Nat.mul_le_mul_right _ hn
 rw [putAt_eq _ _ _ (by rw [hlen, hv]; exact hb), hv]
 obtain ⟨a, b, h1, h2, h3⟩ := Els.split (xs := xs.take n) (ys := xs.drop n) (by rw [List.take_append_drop]; exact h)
 have hal := h2.length
 rw [List.length_take, Nat.min_eq_left (Nat.le_of_lt hn)] at hal
 rw [List.drop_eq_getElem_cons hn] at h3
 obtain ⟨c, d, g1, g2, g3⟩ := h3
 have hcl := r.len _ _ _ g2
 have e1 : cs.take (n * r.sz) = a := by rw [h1, ← hal, List.take_left']; rfl
 have e2 : cs.drop (n * r.sz + r.sz) = d := by
  rw [h1, g1, ← List.append_assoc]
  have : n * r.sz + r.sz = (a ++ c).length := by simp [hal, hcl]
  rw [this, List.drop_left']; rfl
 rw [e1, e2, List.set_eq_take_append_cons_drop, if_pos hn, List.append_assoc]
 exact h2.append (Els.cons hy g3)
theorem Els.replicate {a : List Value} {x : α} (h : r.R H a x) : ∀ n, Els r H (List.replicate n a).flatten (List.replicate n x)
 | 0 => rfl
 | n + 1 => by rw [List.replicate_succ, List.replicate_succ, List.flatten_cons]; exact Els.cons h (Els.replicate h n)
theorem Els.rs {b o cap : Nat} {pre cs : List Value} {xs : List α} (h : Els r H cs xs) (hA : At H b o cs) (hc : xs.length ≤ cap) : Rs r H (.slice (some ⟨b, o, none⟩) xs.length cap) xs := by
 refine .inr ⟨b, o, cap, rfl, hc, fun i x hx => ?_⟩
 obtain ⟨a, h1, h2, h3⟩ := h.get hx
 exact ⟨a, h2, hA.part (i * r.sz) (by rw [h2]; exact h1), h3⟩
theorem Rs.cells : ∀ {xs : List α} {b o : Nat}, (∀ i x, xs[i]? = some x → ∃ vs, vs.length = r.sz ∧ At H b (o + i * r.sz) vs ∧ r.R H vs x) → ∃ cs, At H b o cs ∧ Els r H cs xs
 | [], b, o, _ => ⟨[], At.nil, rfl⟩
 | x :: xs, b, o, h => by
  obtain ⟨a, h1, h2, h3⟩ := h 0 x rfl
  rw [Nat.zero_mul, Nat.add_zero] at h2
  obtain ⟨cs, g1, g2⟩ := Rs.cells (xs := xs) (b := b) (o := o + r.sz) (fun i y hy => by
   obtain ⟨vs, e1, e2, e3⟩ := h (i + 1) y (by simpa using hy)
   refine ⟨vs, e1, ?_, e3⟩
   rw [Nat.add_mul, Nat.one_mul] at e2
   rw [show o + r.sz + i * r.sz = o + (i * r.sz + r.sz) by omega]; exact e2)
  exact ⟨a ++ cs, h2.append (by rw [h1]; exact g1), Els.cons h3 g2⟩
theorem Rs.src {S : Nat → Prop} {w : World} {v : Value} {xs : List α} (h : Rs r (vw S w) v xs) : ∃ cs, Src w v xs.length r.sz cs ∧ Els r (vw S w) cs xs := by
 rcases h with ⟨h1, h2⟩ | ⟨b, o, cap, hv, hc, hxs⟩
 · subst h2; exact ⟨[], ⟨by simp, .inl ⟨h1, rfl⟩⟩, rfl⟩
 · obtain ⟨cs, g1, g2⟩ := Rs.cells hxs
   refine ⟨cs, ⟨g2.length, .inr ⟨b, o, cap, hv, fun j u hj => ?_⟩⟩, g2⟩
   exact cellH_view (A := []) (cellH_le (fun b o h => view_mk (vw_some h).2 (by simp)) (g1.get j hj))
end
end Go.X
set_option linter.unusedSimpArgs false
set_option linter.unusedVariables false
namespace Go.X
open Go Go.RowKit
section
variable {P : Program} {l : List Oper} {n n0 : Nat} {K : Env → World → Prop} {e : Env} {w0 : World}
structure InvJ (l : List Oper) (n n0 : Nat) (e : Env) (w0 : World) (J : (Nat → Prop) → (Nat → Value) → World → Prop) (listed : Array Bool) (a : Act) (w : World) (vs : Nat → Value) : Prop where
 size : listed.size = l.length
 tmps : a.tmps.size = n
 defs : a.defers = []
 ext : Ext w0 w
 env1 : ∀ t j, j < n0 → dstAt l j = some t → lst listed j → envOf a t = vs j
 env2 : ∀ t, (∀ j, j < n0 → lst listed j → dstAt l j ≠ some t) → envOf a t = e t
 holds : J (lst listed) vs w
theorem lst_set_iff {listed : Array Bool} {i : Nat} (hi : i < listed.size) : lst (listed.setIfInBounds i true) = fun j => lst listed j ∨ j = i := by
 funext j
 apply propext
 constructor
 · exact lst_set
 · rintro (h | h)
   · exact getD_set_true h
   · subst h; simp [lst, hi]
theorem GOp.mono {o : Oper} {E : Env} {w : World} {R R' : Value → World → Prop} (h : GOp P l o E w R) (hR : ∀ v w', R v w' → R' v w') : GOp P l o E w R' := by
 unfold GOp at *
 cases hw : wantedE l o E with
 | true => rw [hw] at h; exact OpY.mono h hR
 | false => rw [hw] at h; exact hR _ _ h
theorem InvJ.step {J : (Nat → Prop) → (Nat → Value) → World → Prop} {listed : Array Bool} {a : Act} {w : World} {vs : Nat → Value} {Q : Exit → Act → World → Prop} {K' : Act → World → Prop} (hb : backOk l = true) (hh : headOk l n0 = true) (hu : uniqOk l n0 = true) (hok : dstsOk n l = true)
 (hS : ∀ i o, i < n0 → l[i]? = some o → ∀ (L : Nat → Prop) (vs : Nat → Value) (w : World), (∀ d ∈ depsOf o, L d) → ¬ L i → Ext w0 w → J L vs w →
  GOp P l o (envAll l e vs i) w fun v w' => Ext w0 w' ∧ J (fun j => L j ∨ j = i) (fun j => if j = i then v else vs j) w')
 (inv : InvJ l n n0 e w0 J listed a w vs) (hcl : ∀ j oj, l[j]? = some oj → lst listed j → ∀ d ∈ depsOf oj, lst listed d) {i : Nat} (hi : i < n0) (hr : i ∈ Region.ready .any l.toArray listed)
 (hk : ∀ a' w' vs', InvJ l n n0 e w0 J (listed.setIfInBounds i true) a' w' vs' → K' a' w') : wpOp P l.toArray Q i K' a w := by
 have hil : i < l.length := by
  obtain ⟨_, o, g2, _⟩ := mem_ready.1 hr
  rw [List.getElem?_toArray] at g2
  exact (List.getElem?_eq_some_iff.1 g2).1
 have ho : l[i]? = some l[i] := List.getElem?_eq_getElem hil
 obtain ⟨⟨d, hd⟩, hlook, hsel⟩ := head_at hh hi ho
 obtain ⟨hun, hdeps⟩ := ready_deps hr ho
 have hdst : dstAt l i = some d := by simp only [dstAt, ho]; exact hd
 have hsz : i < listed.size := by rw [inv.size]; omega
 have hset := lst_set_iff (listed := listed) hsz
 have hnl : ¬ lst listed i := by
  intro h; unfold lst at h
  simp [hsz] at hun h; rw [hun] at h; cases h
 have hdd : ∀ o, o ∈ l → ∀ d, o.dst = some d → d < a.tmps.size := by rw [inv.tmps]; exact dstsOk_spec hok
 have hagree : ∀ t, t ∈ looksE l l[i] → envAll l e vs i t = envOf a t := by
  intro t ht
  by_cases hex : ∃ j, j < n0 ∧ dstAt l j = some t
  · obtain ⟨j, hj, hjd⟩ := hex
    rcases look_at hlook ht hj hjd with ⟨h1, h2⟩ | ⟨h1, oj, h2, h3⟩
    · rw [envAll_at hjd i h2 (fun k hk hkd => uniq_at hu (by omega) hj hkd hjd), inv.env1 t j hj hjd (hdeps j h1)]
    · have hjn : ¬ lst listed j := fun h => hnl (hcl j oj h2 h i h3)
      rw [envAll_not i (fun k hk hkd => by have := uniq_at hu (show k < n0 by omega) hj hkd hjd; omega), inv.env2 t (fun k hk hl hkd => by have := uniq_at hu hk hj hkd hjd; subst this; exact hjn hl)]
  · rw [envAll_not i (fun j hj hjd => hex ⟨j, by omega, hjd⟩), inv.env2 t (fun j hj _ hjd => hex ⟨j, hj, hjd⟩)]
 have hop := hS i l[i] hi ho (lst listed) vs w hdeps hnl inv.ext inv.holds
 refine wpOp_of_GOp hdd ho (GOp_congr hsel hagree hop) fun v w' hv => ?_
 refine hk _ w' (fun j => if j = i then v else vs j) ⟨by simp [inv.size], by rw [put_size]; exact inv.tmps, by rw [put_defers']; exact inv.defs, hv.1, ?_, ?_, ?_⟩
 · intro t j hj hjd hl
   rw [hd, envOf_put a inv.tmps (by rw [← inv.tmps]; exact hdd _ (List.mem_of_getElem? ho) d hd)]
   by_cases hji : j = i
   · subst hji
     rw [hdst] at hjd; cases hjd
     simp [upd_same]
   · have htd : t ≠ d := fun h => hji (uniq_at hu hj hi hjd (by rw [hdst, h]))
     rw [upd_other _ _ htd]
     simp only [hji, if_false]
     rw [hset] at hl
     exact inv.env1 t j hj hjd (hl.resolve_right hji)
 · intro t ht
   rw [hd, envOf_put a inv.tmps (by rw [← inv.tmps]; exact hdd _ (List.mem_of_getElem? ho) d hd)]
   rw [hset] at ht
   have htd : t ≠ d := fun h => ht i hi (.inr rfl) (by rw [hdst, h])
   rw [upd_other _ _ htd]
   exact inv.env2 t (fun j hj hl => ht j hj (.inl hl))
 · rw [hset]; exact hv.2
def sinkL (l : List Oper) (n0 : Nat) (lt : List Nat) : Bool := Nat.beq n0 l.length || (List.range n0).all fun i => memN i lt || (List.range (n0 + 1)).any fun j => Nat.blt i j && waitB l j i && !memN j lt
def lateOk (l : List Oper) (n0 : Nat) (lt : List Nat) : Bool := lt.isEmpty || ((lt.all fun i => Nat.blt i n0 && match l[i]? with
 | some o => (looksE l o).all fun x => (List.range n0).all fun j => !(dstAt l j == some x) || (memN j (depsOf o) && Nat.blt j i)
 | none => false) &&
 (List.range l.length).all fun t => Nat.blt t n0 || match l[t]? with
  | some o => !isSel o.op && lt.all fun i => (looksE l o).all (fun x => !(dstAt l i == some x)) || (List.range (t + 1)).any fun j => Nat.ble n0 j && waitB l j i
  | none => true)
def drawOkL (l : List Oper) (n0 : Nat) (lt : List Nat) : Bool := Nat.ble n0 l.length && headOk l n0 && uniqOk l n0 && backOk l && sinkL l n0 lt && chainOk l n0 && lateOk l n0 lt
theorem drawOkL_spec {lt : List Nat} (h : drawOkL l n0 lt = true) : n0 ≤ l.length ∧ headOk l n0 = true ∧ uniqOk l n0 = true ∧ backOk l = true ∧ sinkL l n0 lt = true ∧ chainOk l n0 = true ∧ lateOk l n0 lt = true := by
 simp only [drawOkL, Bool.and_eq_true] at h
 obtain ⟨⟨⟨⟨⟨⟨h1, h2⟩, h3⟩, h4⟩, h5⟩, h6⟩, h7⟩ := h
 exact ⟨by simpa using h1, h2, h3, h4, h5, h6, h7⟩
def LateP (P : Program) (l : List Oper) (lt : List Nat) (E : Env) (w : World) : Prop := ∀ i ∈ lt, ∀ o, l[i]? = some o → GOp P l o E w fun v w' => (∃ d, o.dst = some d ∧ v = E d) ∧ w' = w
def RlL (P : Program) (l : List Oper) (K : Env → World → Prop) : List Nat → List Oper → Env → World → Prop
 | _, [], e, w => K e w
 | lt, o :: r, e, w => GOp P l o e w fun v w' => LateP P l (lt.filter fun i => !memN i (depsOf o)) (updo e o.dst v) w' ∧ RlL P l K (lt.filter fun i => !memN i (depsOf o)) r (updo e o.dst v) w'
theorem RlL_nil : ∀ {r : List Oper} {E : Env} {w : World}, Rl P l r K E w → RlL P l K [] r E w
 | [], E, w, h => h
 | o :: r, E, w, h => by
  rw [Rl_GOp] at h
  exact GOp.mono h fun v w' h' => ⟨fun i hi => (by cases hi), RlL_nil h'⟩
theorem allListed {listed : Array Bool} (hs : listed.size = l.length) (hb : backOk l = true) (hr : Region.ready .any l.toArray listed = []) : ∀ j, j < l.length → lst listed j := by
 intro m
 induction m using Nat.strongRecOn with
 | _ m ih =>
  intro hm
  refine Classical.byContradiction fun hml => ?_
  have hmo : l[m]? = some l[m] := List.getElem?_eq_getElem hm
  have : m ∈ Region.ready .any l.toArray listed := by
   refine ready_of hmo ?_ (fun d hd => ih d (back_at hb hmo hd) (by have := back_at hb hmo hd; omega))
   unfold lst at hml
   simp [hs, hm] at hml ⊢; exact hml
  rw [hr] at this; cases this
structure Inv2 (l : List Oper) (n n0 : Nat) (lt : List Nat) (t : Nat) (listed : Array Bool) (a : Act) (E : Env) (ltr : List Nat) : Prop where
 size : listed.size = l.length
 tmps : a.tmps.size = n
 defs : a.defers = []
 t0 : n0 ≤ t
 t1 : t ≤ l.length
 tail : ∀ j, t ≤ j → j < l.length → ¬ lst listed j
 cl : ∀ j oj, l[j]? = some oj → lst listed j → ∀ d ∈ depsOf oj, lst listed d
 done : ∀ j, n0 ≤ j → j < t → lst listed j
 late : ∀ i, i < n0 → ¬ lst listed i → i ∈ ltr
 sub : ∀ i ∈ ltr, i ∈ lt
 env : ∀ x, (∀ i, i < n0 → ¬ lst listed i → dstAt l i ≠ some x) → envOf a x = E x
theorem unl {listed : Array Bool} (hs : listed.size = l.length) {j : Nat} (hj : j < l.length) : ¬ lst listed j ↔ listed.getD j true = false := by
 unfold lst; simp [hs, hj]
theorem lst_lt {listed : Array Bool} (hs : listed.size = l.length) {j : Nat} (h : lst listed j) : j < l.length := by
 rcases Nat.lt_or_ge j l.length with h1 | h1
 · exact h1
 · unfold lst at h
   rw [Array.getD_eq_getD_getElem?, Array.getElem?_eq_none (by rw [hs]; exact h1)] at h
   cases h
theorem set_lst {listed : Array Bool} (hs : listed.size = l.length) {i j : Nat} (hi : i < l.length) : lst (listed.setIfInBounds i true) j ↔ (lst listed j ∨ j = i) := by
 rw [lst_set_iff (by omega)]
theorem cl_set {listed : Array Bool} (hs : listed.size = l.length) {i : Nat} (hi : i < l.length) (hcl : ∀ j oj, l[j]? = some oj → lst listed j → ∀ d ∈ depsOf oj, lst listed d) (hd : ∀ d ∈ depsOf l[i], lst listed d) :
 ∀ j oj, l[j]? = some oj → lst (listed.setIfInBounds i true) j → ∀ d ∈ depsOf oj, lst (listed.setIfInBounds i true) d := by
 intro j oj hoj hjl d hdm
 rw [set_lst hs hi] at hjl ⊢
 rcases hjl with h1 | h1
 · exact .inl (hcl j oj hoj h1 d hdm)
 · subst h1
   rw [List.getElem?_eq_getElem hi] at hoj
   cases hoj
   exact .inl (hd d hdm)
theorem Inv2.next {lt ltr : List Nat} {t : Nat} {listed : Array Bool} {a : Act} {w : World} {E : Env} {Q : Exit → Act → World → Prop} {K' : Act → World → Prop} (hok : dstsOk n l = true) (hdr : drawOkL l n0 lt = true) (inv : Inv2 l n n0 lt t listed a E ltr)
 (hR : RlL P l K ltr (l.drop t) E w) (ht : t < l.length) (hr : t ∈ Region.ready .any l.toArray listed)
 (hk : ∀ a' w' E' ltr', Inv2 l n n0 lt (t + 1) (listed.setIfInBounds t true) a' E' ltr' → LateP P l ltr' E' w' → RlL P l K ltr' (l.drop (t + 1)) E' w' → K' a' w') : wpOp P l.toArray Q t K' a w := by
 obtain ⟨hn, hh, hu, hb, hsk, hch, hlo⟩ := drawOkL_spec hdr
 have ho : l[t]? = some l[t] := List.getElem?_eq_getElem ht
 obtain ⟨hun, hdeps⟩ := ready_deps hr ho
 have hdd : ∀ o, o ∈ l → ∀ d, o.dst = some d → d < a.tmps.size := by rw [inv.tmps]; exact dstsOk_spec hok
 rw [List.drop_eq_getElem_cons ht] at hR
 simp only [RlL] at hR
 have fin : ∀ v w', (LateP P l (ltr.filter fun i => !memN i (depsOf l[t])) (updo E l[t].dst v) w' ∧ RlL P l K (ltr.filter fun i => !memN i (depsOf l[t])) (l.drop (t + 1)) (updo E l[t].dst v) w') → K' (a.put l[t].dst v) w' := by
  intro v w' hv
  refine hk _ w' _ _ ⟨by simp [inv.size], by rw [put_size]; exact inv.tmps, by rw [put_defers']; exact inv.defs, by have := inv.t0; omega, by omega, ?_, ?_, ?_, ?_, ?_, ?_⟩ hv.1 hv.2
  · intro j hj hjl
    rw [set_lst inv.size ht]
    rintro (h1 | h1)
    · exact inv.tail j (by omega) hjl h1
    · omega
  · exact cl_set inv.size ht inv.cl hdeps
  · intro j h1 h2
    rw [set_lst inv.size ht]
    by_cases hjt : j = t
    · exact .inr hjt
    · exact .inl (inv.done j h1 (by omega))
  · intro i hi hil
    rw [set_lst inv.size ht] at hil
    have hil' : ¬ lst listed i := fun h => hil (.inl h)
    refine List.mem_filter.2 ⟨inv.late i hi hil', ?_⟩
    cases hm : memN i (depsOf l[t]) with
    | false => rfl
    | true => exact absurd (hdeps i (memN_iff.1 hm)) hil'
  · intro i hi
    exact inv.sub i (List.mem_filter.1 hi).1
  · intro x hx
    have hx' : ∀ i, i < n0 → ¬ lst listed i → dstAt l i ≠ some x := by
     intro i hi hil
     refine hx i hi ?_
     rw [set_lst inv.size ht]
     rintro (h1 | h1)
     · exact hil h1
     · have := inv.t0; omega
    have he := inv.env x hx'
    cases hd : l[t].dst with
    | none => exact he
    | some d =>
     rw [envOf_put a inv.tmps (by rw [← inv.tmps]; exact hdd _ (List.mem_of_getElem? ho) d hd)]
     simp only [updo]
     by_cases hxd : x = d
     · subst hxd; rw [upd_same, upd_same]
     · rw [upd_other _ _ hxd, upd_other _ _ hxd]; exact he
 by_cases hlt : lt = []
 · 
   have hall : ∀ i, i < n0 → lst listed i := fun i hi => Classical.byContradiction fun h => by have := inv.sub i (inv.late i hi h); rw [hlt] at this; cases this
   have hE : E = envOf a := by
    funext x
    exact (inv.env x (fun i hi hil => absurd (hall i hi) hil)).symm
   rw [hE] at hR fin
   exact wpOp_of_GOp hdd ho hR fin
 · have hlo' := hlo
   simp only [lateOk, Bool.or_eq_true, Bool.and_eq_true, List.isEmpty_iff] at hlo'
   have h2 := List.all_eq_true.1 ((hlo'.resolve_left hlt).2) t (List.mem_range.2 ht)
   rw [ho] at h2
   simp only [Bool.or_eq_true, Bool.and_eq_true, Bool.not_eq_true'] at h2
   have h3 : isSel l[t].op = false ∧ _ := h2.resolve_left (by have := inv.t0; simp; omega)
   refine wpOp_of_GOp hdd ho (GOp_congr h3.1 (fun x hx => ?_) hR) fin
   symm
   refine inv.env x (fun i hi hil hdi => ?_)
   have h4 := List.all_eq_true.1 h3.2 i (inv.sub i (inv.late i hi hil))
   simp only [Bool.or_eq_true] at h4
   rcases h4 with h4 | h4
   · have := List.all_eq_true.1 h4 x hx
     rw [hdi] at this; simp at this
   · obtain ⟨j, hj, h5⟩ := List.any_eq_true.1 h4
     simp only [Bool.and_eq_true] at h5
     have hjt : j ≤ t := by have := List.mem_range.1 hj; omega
     have hj0 : n0 ≤ j := by simpa using h5.1
     have h6 := h5.2
     unfold waitB at h6
     rw [List.getElem?_eq_getElem (by omega : j < l.length)] at h6
     have h7 := memN_iff.1 h6
     by_cases hjt' : j = t
     · subst hjt'; exact hil (hdeps i h7)
     · exact hil (inv.cl j _ (List.getElem?_eq_getElem (by omega)) (inv.done j hj0 (by omega)) i h7)
theorem tailL {lt : List Nat} {Q : Exit → Act → World → Prop} (hok : dstsOk n l = true) (hdr : drawOkL l n0 lt = true) (hQ : ∀ a w, a.tmps.size = n → a.defers = [] → K (envOf a) w → Q .normal a w) :
 ∀ (fuel t : Nat) (listed : Array Bool) (a : Act) (w : World) (E : Env) (ltr : List Nat), Inv2 l n n0 lt t listed a E ltr → LateP P l ltr E w → RlL P l K ltr (l.drop t) E w → cnt l listed ≤ fuel → wpAny P .any l.toArray Q fuel listed a w := by
 obtain ⟨hn, hh, hu, hb, hsk, hch, hlo⟩ := drawOkL_spec hdr
 have fin : ∀ (t : Nat) (listed : Array Bool) (a : Act) (w : World) (E : Env) (ltr : List Nat), Inv2 l n n0 lt t listed a E ltr → RlL P l K ltr (l.drop t) E w → Region.ready .any l.toArray listed = [] → Q .normal a w := by
  intro t listed a w E ltr inv hR hr
  have hall := allListed inv.size hb hr
  have htl : t = l.length := by
   rcases Nat.lt_or_ge t l.length with h | h
   · exact absurd (hall t h) (inv.tail t (Nat.le_refl _) h)
   · have := inv.t1; omega
  subst htl
  rw [List.drop_length] at hR
  have hE : envOf a = E := by
   funext x
   exact inv.env x (fun i hi hil => absurd (hall i (by omega)) hil)
  refine hQ a w inv.tmps inv.defs ?_
  rw [hE]; exact hR
 intro fuel
 induction fuel with
 | zero =>
  intro t listed a w E ltr inv hL hR hc
  have hr : Region.ready .any l.toArray listed = [] := by
   apply List.eq_nil_iff_forall_not_mem.2
   intro i hi
   obtain ⟨g1, o, g2, _⟩ := mem_ready.1 hi
   have hil : i < l.length := by
    rw [List.getElem?_toArray] at g2
    exact (List.getElem?_eq_some_iff.1 g2).1
   have := cnt_zero (by omega : cnt l listed = 0) hil
   rw [g1] at this; cases this
  exact ⟨hr, fin t listed a w E ltr inv hR hr⟩
 | succ fuel ih =>
  intro t listed a w E ltr inv hL hR hc
  refine ⟨fun hr => fin t listed a w E ltr inv hR hr, fun i hi => ?_⟩
  have hil : i < l.length := by
   obtain ⟨_, o, g2, _⟩ := mem_ready.1 hi
   rw [List.getElem?_toArray] at g2
   exact (List.getElem?_eq_some_iff.1 g2).1
  have ho : l[i]? = some l[i] := List.getElem?_eq_getElem hil
  obtain ⟨hun, hdeps⟩ := ready_deps hi ho
  have hnl : ¬ lst listed i := (unl inv.size hil).2 hun
  have hcn := cnt_set inv.size hil hun
  rcases Nat.lt_or_ge i n0 with hin | hin
  · 
    have hm := inv.late i hin hnl
    have hdd : ∀ o, o ∈ l → ∀ d, o.dst = some d → d < a.tmps.size := by rw [inv.tmps]; exact dstsOk_spec hok
    obtain ⟨⟨d, hd⟩, hlook, hsel⟩ := head_at hh hin ho
    have hmt := inv.sub i hm
    have hlt : lt ≠ [] := fun h => by rw [h] at hmt; cases hmt
    have hlo' := hlo
    simp only [lateOk, Bool.or_eq_true, Bool.and_eq_true, List.isEmpty_iff] at hlo'
    have h2 := List.all_eq_true.1 ((hlo'.resolve_left hlt).1) i hmt
    rw [ho] at h2
    simp only [Bool.and_eq_true] at h2
    refine wpOp_of_GOp hdd ho (GOp_congr hsel (fun x hx => ?_) (hL i hm _ ho)) fun v w' hv => ?_
    · symm
      refine inv.env x (fun j hj hjl hdj => ?_)
      have h3 := List.all_eq_true.1 (List.all_eq_true.1 h2.2 x hx) j (List.mem_range.2 hj)
      rw [hdj] at h3
      simp only [beq_self_eq_true, Bool.not_true, Bool.false_or, Bool.and_eq_true] at h3
      exact hjl (hdeps j (memN_iff.1 h3.1))
    · obtain ⟨⟨d', hd', hv⟩, rfl⟩ := hv
      refine ih t _ _ _ E ltr ⟨by simp [inv.size], by rw [put_size]; exact inv.tmps, by rw [put_defers']; exact inv.defs, inv.t0, inv.t1, ?_, cl_set inv.size hil inv.cl hdeps, ?_, ?_, inv.sub, ?_⟩ hL hR (by omega)
      · intro j hj hjl
        rw [set_lst inv.size hil]
        rintro (h1 | h1)
        · exact inv.tail j hj hjl h1
        · have := inv.t0; omega
      · intro j h1 h3
        rw [set_lst inv.size hil]; exact .inl (inv.done j h1 h3)
      · intro j hj hjl
        rw [set_lst inv.size hil] at hjl
        exact inv.late j hj (fun h => hjl (.inl h))
      · intro x hx
        rw [hd', envOf_put a inv.tmps (by rw [← inv.tmps]; exact hdd _ (List.mem_of_getElem? ho) d' hd')]
        by_cases hxd : x = d'
        · subst hxd; rw [upd_same, hv]
        · rw [upd_other _ _ hxd]
          refine inv.env x (fun j hj hjl hdj => ?_)
          by_cases hji : j = i
          · subst hji
            have : dstAt l j = some d' := by simp only [dstAt, ho]; exact hd'
            rw [this] at hdj; cases hdj; exact hxd rfl
          · refine hx j hj ?_ hdj
            rw [set_lst inv.size hil]
            rintro (h1 | h1)
            · exact hjl h1
            · exact hji h1
  · 
    have hit : i = t := by
     rcases Nat.lt_or_ge t i with h | h
     · have := List.all_eq_true.1 hch i (List.mem_range.2 hil)
       simp only [Bool.or_eq_true] at this
       rcases this with h4 | h4
       · have h5 : i ≤ n0 := by simpa using h4
         have := inv.t0; omega
       · unfold waitB at h4
         rw [ho] at h4
         exact absurd (hdeps (i - 1) (memN_iff.1 h4)) (inv.tail (i - 1) (by omega) (by omega))
     · rcases Nat.lt_or_ge i t with h' | h'
       · exact absurd (inv.done i hin h') hnl
       · omega
    subst hit
    exact inv.next hok hdr hR hil hi fun a' w' E' ltr' inv' hL' hR' => ih (i + 1) _ a' w' E' ltr' inv' hL' hR' (by omega)
theorem head_anyJ {lt : List Nat} {J : (Nat → Prop) → (Nat → Value) → World → Prop} {Q : Exit → Act → World → Prop} (hok : dstsOk n l = true) (hdr : drawOkL l n0 lt = true)
    (hS : ∀ i o, i < n0 → l[i]? = some o → ∀ (L : Nat → Prop) (vs : Nat → Value) (w : World), (∀ d ∈ depsOf o, L d) → ¬ L i → Ext w0 w → J L vs w →
      GOp P l o (envAll l e vs i) w fun v w' => Ext w0 w' ∧ J (fun j => L j ∨ j = i) (fun j => if j = i then v else vs j) w')
    (hlate : ∀ i ∈ lt, ∀ o, l[i]? = some o → ∀ (L : Nat → Prop) (vs : Nat → Value) (w : World), (∀ d ∈ depsOf o, L d) → ¬ L i → Ext w0 w → J L vs w → ∃ c, J (fun j => L j ∨ j = i) (fun j => if j = i then c else vs j) w)
    (hfin : ∀ (vs : Nat → Value) (w : World), Ext w0 w → J (fun j => j < n0) vs w → RlL P l K lt (l.drop n0) (envAll l e vs n0) w)
    (hQ : ∀ a w, a.tmps.size = n → a.defers = [] → K (envOf a) w → Q .normal a w) :
    ∀ (fuel : Nat) (listed : Array Bool) (a : Act) (w : World) (vs : Nat → Value), InvJ l n n0 e w0 J listed a w vs → (∀ j oj, l[j]? = some oj → lst listed j → ∀ d ∈ depsOf oj, lst listed d) →
      (∀ t, n0 ≤ t → t < l.length → ¬ lst listed t) → cnt l listed ≤ fuel → wpAny P .any l.toArray Q fuel listed a w := by
  obtain ⟨hn, hh, hu, hb, hsk, hch, hlo⟩ := drawOkL_spec hdr
  have begin2 : ∀ (listed : Array Bool) (a : Act) (w : World) (vs : Nat → Value), InvJ l n n0 e w0 J listed a w vs → (∀ j oj, l[j]? = some oj → lst listed j → ∀ d ∈ depsOf oj, lst listed d) → (∀ t, n0 ≤ t → t < l.length → ¬ lst listed t) →
      (∀ i, i < n0 → ¬ lst listed i → i ∈ lt) → ∃ E, Inv2 l n n0 lt n0 listed a E lt ∧ RlL P l K lt (l.drop n0) E w := by
    intro listed a w vs inv hcl htail hmis
    have key : ∀ k, k ≤ n0 → ∃ vs', (∀ j, lst listed j → vs' j = vs j) ∧ J (fun j => lst listed j ∨ j < k) vs' w := by
      intro k
      induction k with
      | zero =>
        intro _
        refine ⟨vs, fun _ _ => rfl, ?_⟩
        have : (fun j => lst listed j ∨ j < 0) = lst listed := by funext j; simp
        rw [this]; exact inv.holds
      | succ k ihk =>
        intro hk
        obtain ⟨vs', h1, h2⟩ := ihk (by omega)
        by_cases hkl : lst listed k
        · refine ⟨vs', h1, ?_⟩
          have : (fun j => lst listed j ∨ j < k + 1) = (fun j => lst listed j ∨ j < k) := by
            funext j
            apply propext
            constructor
            · rintro (h | h)
              · exact .inl h
              · by_cases hjk : j = k
                · subst hjk; exact .inl hkl
                · exact .inr (by omega)
            · rintro (h | h)
              · exact .inl h
              · exact .inr (by omega)
          rw [this]; exact h2
        · have hko : l[k]? = some l[k] := List.getElem?_eq_getElem (by omega)
          obtain ⟨c, hc⟩ := hlate k (hmis k (by omega) hkl) _ hko (fun j => lst listed j ∨ j < k) vs' w (fun d hd => .inr (back_at hb hko hd)) (by rintro (h | h); exact hkl h; omega) inv.ext h2
          refine ⟨fun j => if j = k then c else vs' j, fun j hj => ?_, ?_⟩
          · have : j ≠ k := fun h => hkl (h ▸ hj)
            simp only [this, if_false]; exact h1 j hj
          · have : (fun j => lst listed j ∨ j < k + 1) = (fun j => (lst listed j ∨ j < k) ∨ j = k) := by
              funext j
              apply propext
              constructor
              · rintro (h | h)
                · exact .inl (.inl h)
                · by_cases hjk : j = k
                  · exact .inr hjk
                  · exact .inl (.inr (by omega))
              · rintro ((h | h) | h)
                · exact .inl h
                · exact .inr (by omega)
                · exact .inr (by omega)
            rw [this]; exact hc
    obtain ⟨vs', h1, h2⟩ := key n0 (Nat.le_refl _)
    have hset : (fun j => lst listed j ∨ j < n0) = (fun j => j < n0) := by
      funext j
      apply propext
      constructor
      · rintro (h | h)
        · rcases Nat.lt_or_ge j n0 with h3 | h3
          · exact h3
          · exact absurd h (htail j h3 (lst_lt inv.size h))
        · exact h
      · exact .inr
    rw [hset] at h2
    refine ⟨envAll l e vs' n0, ⟨inv.size, inv.tmps, inv.defs, Nat.le_refl _, hn, htail, hcl, fun j h3 h4 => by omega, hmis, fun i hi => hi, fun x hx => ?_⟩, hfin vs' w inv.ext h2⟩
    by_cases hex : ∃ j, j < n0 ∧ dstAt l j = some x
    · obtain ⟨j, hj, hjd⟩ := hex
      have hjl : lst listed j := Classical.byContradiction fun h => hx j hj h hjd
      rw [envAll_at hjd n0 hj (fun k hk hkd => uniq_at hu hk hj hkd hjd), inv.env1 x j hj hjd hjl, h1 j hjl]
    · rw [envAll_not n0 (fun j hj hjd => hex ⟨j, hj, hjd⟩), inv.env2 x (fun j hj _ hjd => hex ⟨j, hj, hjd⟩)]
  have fin : ∀ (listed : Array Bool) (a : Act) (w : World) (vs : Nat → Value), InvJ l n n0 e w0 J listed a w vs → (∀ j oj, l[j]? = some oj → lst listed j → ∀ d ∈ depsOf oj, lst listed d) → (∀ t, n0 ≤ t → t < l.length → ¬ lst listed t) →
      Region.ready .any l.toArray listed = [] → Q .normal a w := by
    intro listed a w vs inv hcl htail hr
    have hall := allListed inv.size hb hr
    obtain ⟨E, inv2, hR⟩ := begin2 listed a w vs inv hcl htail (fun i hi hil => absurd (hall i (by omega)) hil)
    have hnn : n0 = l.length := by
      rcases Nat.lt_or_ge n0 l.length with h | h
      · exact absurd (hall n0 h) (htail n0 (Nat.le_refl _) h)
      · omega
    have hd : l.drop n0 = [] := List.drop_eq_nil_of_le (by omega)
    rw [hd] at hR
    have hE : envOf a = E := by
      funext x
      exact inv2.env x (fun i hi hil => absurd (hall i (by omega)) hil)
    refine hQ a w inv.tmps inv.defs ?_
    rw [hE]; exact hR
  intro fuel
  induction fuel with
  | zero =>
    intro listed a w vs inv hcl htail hc
    have hr : Region.ready .any l.toArray listed = [] := by
      apply List.eq_nil_iff_forall_not_mem.2
      intro i hi
      obtain ⟨g1, o, g2, _⟩ := mem_ready.1 hi
      have hil : i < l.length := by
        rw [List.getElem?_toArray] at g2
        exact (List.getElem?_eq_some_iff.1 g2).1
      have := cnt_zero (by omega : cnt l listed = 0) hil
      rw [g1] at this; cases this
    exact ⟨hr, fin listed a w vs inv hcl htail hr⟩
  | succ fuel ih =>
    intro listed a w vs inv hcl htail hc
    refine ⟨fun hr => fin listed a w vs inv hcl htail hr, fun i hi => ?_⟩
    have hil : i < l.length := by
      obtain ⟨_, o, g2, _⟩ := mem_ready.1 hi
      rw [List.getElem?_toArray] at g2
      exact (List.getElem?_eq_some_iff.1 g2).1
    obtain ⟨hun, hdeps⟩ := ready_deps hi (List.getElem?_eq_getElem hil)
    have hcn := cnt_set inv.size hil hun
    rcases Nat.lt_or_ge i n0 with hin | hin
    · refine inv.step hb hh hu hok hS hcl hin hi fun a' w' vs' inv' => ih _ a' w' vs' inv' (cl_set inv.size hil hcl hdeps) ?_ (by omega)
      intro t ht htl
      rw [set_lst inv.size hil]
      rintro (h1 | h1)
      · exact htail t ht htl h1
      · omega
    · 
      have hit : i = n0 := by
        have := List.all_eq_true.1 hch i (List.mem_range.2 hil)
        simp only [Bool.or_eq_true] at this
        rcases this with h4 | h4
        · have h5 : i ≤ n0 := by simpa using h4
          omega
        · rcases Nat.lt_or_ge n0 i with h | h
          · unfold waitB at h4
            rw [List.getElem?_eq_getElem hil] at h4
            exact absurd (hdeps (i - 1) (memN_iff.1 h4)) (htail (i - 1) (by omega) (by omega))
          · omega
      subst hit
      have hmis : ∀ (c j : Nat), i - j = c → j < i → ¬ lst listed j → j ∈ lt := by
        intro c
        induction c using Nat.strongRecOn with
        | _ c ihc =>
          intro j hjc hj hjl
          refine Classical.byContradiction fun hjt => ?_
          simp only [sinkL, Bool.or_eq_true] at hsk
          rcases hsk with h1 | h1
          · have := Nat.eq_of_beq_eq_true h1; omega
          · have h2 := List.all_eq_true.1 h1 j (List.mem_range.2 hj)
            simp only [Bool.or_eq_true] at h2
            obtain ⟨m, hm, h3⟩ := List.any_eq_true.1 (h2.resolve_left (fun h => hjt (memN_iff.1 h)))
            simp only [Bool.and_eq_true, Bool.not_eq_true'] at h3
            have hjm : j < m := by simpa using h3.1.1
            have hmi : m ≤ i := by have := List.mem_range.1 hm; omega
            have h4 := h3.1.2
            unfold waitB at h4
            rw [List.getElem?_eq_getElem (by omega : m < l.length)] at h4
            have h5 := memN_iff.1 h4
            by_cases hmt : m = i
            · subst hmt; exact hjl (hdeps j h5)
            · by_cases hml : lst listed m
              · exact hjl (hcl m _ (List.getElem?_eq_getElem (by omega)) hml j h5)
              · have := ihc (i - m) (by omega) m rfl (by omega) hml
                rw [memN_iff.2 this] at h3; cases h3.2
      obtain ⟨E, inv2, hR⟩ := begin2 listed a w vs inv hcl htail (fun j hj hjl => hmis _ j rfl hj hjl)
      exact inv2.next hok hdr hR hil hi fun a' w' E' ltr' inv' hL' hR' => tailL hok hdr hQ fuel (i + 1) _ a' w' E' ltr' inv' hL' hR' (by omega)
end
section
variable {P : Program} {n : Nat} {k : List It} {Q : Env → World → Prop} {e : Env} {w : World}
theorem Swp.drawJ {id : Nat} {l : List Oper} (n0 : Nat) (lt : List Nat) (J : World → (Nat → Prop) → (Nat → Value) → World → Prop) (hm : P.follows .mixedOrders = true) (hok : dstsOk n l = true) (hdr : drawOkL l n0 lt = true)
 (h0 : ∀ w1, Ext w w1 → ∃ vs, J w1 (fun _ => False) vs w1)
 (hS : ∀ w1, Ext w w1 → ∀ i o, i < n0 → l[i]? = some o → ∀ (L : Nat → Prop) (vs : Nat → Value) (w : World), (∀ d ∈ depsOf o, L d) → ¬ L i → Ext w1 w → J w1 L vs w →
  GOp P l o (envAll l e vs i) w fun v w' => Ext w1 w' ∧ J w1 (fun j => L j ∨ j = i) (fun j => if j = i then v else vs j) w')
 (hlate : ∀ w1, Ext w w1 → ∀ i ∈ lt, ∀ o, l[i]? = some o → ∀ (L : Nat → Prop) (vs : Nat → Value) (w : World), (∀ d ∈ depsOf o, L d) → ¬ L i → Ext w1 w → J w1 L vs w → ∃ c, J w1 (fun j => L j ∨ j = i) (fun j => if j = i then c else vs j) w)
 (hfin : ∀ w1, Ext w w1 → ∀ (vs : Nat → Value) (w : World), Ext w1 w → J w1 (fun j => j < n0) vs w → RlL P l (Swp P n k Q) lt (l.drop n0) (envAll l e vs n0) w) : Swp P n (.code (.region id l.toArray true) :: k) Q e w := by
 intro a h1 h2 h3
 subst h3
 refine wp_region_any hm ?_
 have hE : Ext w { w with drawn := w.drawn + 1 } := Ext.drawn w _
 obtain ⟨vs, hvs⟩ := h0 _ hE
 refine head_anyJ (K := Swp P n k Q) (J := J { w with drawn := w.drawn + 1 }) hok hdr (hS _ hE) (hlate _ hE) (hfin _ hE) (fun a' w' g1 g2 g3 => ⟨g1, g2, g3⟩) l.toArray.size (Array.replicate l.toArray.size false) a _ vs
  ⟨by simp, h1, h2, Ext.refl _, fun t j _ _ hj => ?_, fun t _ => rfl, ?_⟩ (fun j oj _ hj => ?_) (fun t _ _ hj => ?_) ?_
 · unfold lst at hj; rw [getD_replicate_false] at hj; cases hj
 · have : lst (Array.replicate l.toArray.size false) = fun _ => False := by
    funext j
    apply propext
    refine ⟨fun h => ?_, fun h => h.elim⟩
    unfold lst at h; rw [getD_replicate_false] at h; cases h
   rw [this]; exact hvs
 · unfold lst at hj; rw [getD_replicate_false] at hj; cases hj
 · unfold lst at hj; rw [getD_replicate_false] at hj; cases hj
 · unfold cnt
   refine Nat.le_trans (List.length_filter_le _ _) (by simp)
end
inductive Pz where
 | det (c : Value)
 | fn (m : Nat) (g : Value → Value)
 | rel (Φ : Value → (Nat → Prop) → World → Prop) (ft : Value → List (Option Nat))
structure FE where
 idx : Nat
 φ : (Nat → Prop) → World → Prop
 ft : List (Option Nat)
def usedBy (cs : List (List Nat)) (j : Nat) : List Nat := (List.range cs.length).filter fun c => memN j (cs.getD c [])
def seesB (l : List Oper) (cs : List (List Nat)) (i j : Nat) : Bool := (usedBy cs j).all fun c => Nat.beq c i || waitB l c i
def endsB (cs : List (List Nat)) (j : Nat) : Bool := (usedBy cs j).isEmpty
def conOk (l : List Oper) (cs : List (List Nat)) : Bool :=
 (List.range cs.length).all fun c => (cs.getD c []).all fun j => waitB l c j && (usedBy cs j).all fun c' => Nat.beq c' c
def Bnd (w1 w : World) (Z : Nat → Prop) (ft : List (Option Nat)) : Prop := ∀ b, some b ∈ ft → w1.heap.size ≤ b ∧ b < w.heap.size ∧ ¬ Z b
def factsI (l : List Oper) (cs : List (List Nat)) (w1 : World) (i : Nat) (ds : List Nat) : List FE → (Nat → Prop) → World → Prop
 | [], _, _ => True
 | x :: r, Z, w => (bif memN x.idx ds && seesB l cs i x.idx then x.φ Z w ∧ Bnd w1 w Z x.ft else True) ∧ factsI l cs w1 i ds r Z w
def factsE (cs : List (List Nat)) (w1 : World) : List FE → (Nat → Prop) → World → Prop
 | [], _, _ => True
 | x :: r, Z, w => (bif endsB cs x.idx then x.φ Z w ∧ Bnd w1 w Z x.ft else True) ∧ factsE cs w1 r Z w
def apartE (cs : List (List Nat)) (x : FE) : List FE → Prop
 | [] => True
 | y :: r => (bif endsB cs x.idx && endsB cs y.idx then ∀ b, some b ∈ x.ft → some b ∉ y.ft else True) ∧ apartE cs x r
def apartsE (cs : List (List Nat)) : List FE → Prop
 | [] => True
 | x :: r => apartE cs x r ∧ apartsE cs r
def feet (js : List Nat) : List FE → List (Option Nat)
 | [] => []
 | x :: r => bif memN x.idx js then x.ft ++ feet js r else feet js r
def ZB (w1 w : World) (Z : Nat → Prop) : Prop := ∀ b, Z b → w1.heap.size ≤ b ∧ b < w.heap.size
structure Use (cf : List (Option Nat)) (w w' : World) : Prop where
 os : w'.os = w.os
 tape : w'.tape = w.tape
 output : w'.output = w.output
 size : w.heap.size ≤ w'.heap.size
 keep : ∀ k, k < w.heap.size → some k ∉ cf → w'.heap[k]? = w.heap[k]?
theorem Use.ext {cf : List (Option Nat)} {w w' : World} (h : Ext w w') : Use cf w w' := ⟨h.os, h.tape, h.output, h.size, fun k hk _ => h.block k hk⟩
def New (cf : List (Option Nat)) (w w' : World) (b : Nat) : Prop := (w.heap.size ≤ b ∧ b < w'.heap.size) ∨ some b ∈ cf
def Made (cf ft : List (Option Nat)) (Z : Nat → Prop) (w w' : World) (φ : (Nat → Prop) → World → Prop) : Prop :=
 ∃ Z', (∀ b, Z b → Z' b) ∧ (∀ b, Z' b → Z b ∨ New cf w w' b) ∧ Use cf w w' ∧ φ Z' w' ∧ ∀ b, some b ∈ ft → New cf w w' b ∧ ¬ Z' b
def DrH (P : Program) (l : List Oper) (cs : List (List Nat)) (w1 : World) (K : Env → World → Prop) : List Oper → List Pz → Env → List FE → Nat → Prop
  | [], _, e, F, _ => ∀ w' Z, Ext w1 w' → ZB w1 w' Z → factsE cs w1 F Z w' → apartsE cs F → K e w'
  | o :: r, .det c :: Φs, e, F, i => (∀ w' Z, Ext w1 w' → ZB w1 w' Z → factsI l cs w1 i (depsOf o) F Z w' → GOp P l o e w' fun v w'' => Ext w' w'' ∧ v = c) ∧ DrH P l cs w1 K r Φs (updo e o.dst c) F (i + 1)
  | o :: r, .fn m g :: Φs, e, F, i => ∃ d, dstAt l m = some d ∧ (∀ w' Z, Ext w1 w' → ZB w1 w' Z → factsI l cs w1 i (depsOf o) F Z w' → GOp P l o e w' fun v w'' => Ext w' w'' ∧ v = g (e d)) ∧ DrH P l cs w1 K r Φs (updo e o.dst (g (e d))) F (i + 1)
  | o :: r, .rel Φ ft :: Φs, e, F, i => (∀ w' Z, Ext w1 w' → ZB w1 w' Z → factsI l cs w1 i (depsOf o) F Z w' → GOp P l o e w' fun v w'' => Made (feet (cs.getD i []) F) (ft v) Z w' w'' (Φ v)) ∧
      ∀ v, DrH P l cs w1 K r Φs (updo e o.dst v) (⟨i, Φ v, ft v⟩ :: F) (i + 1)
  | _ :: _, [], _, _, _ => False
def fitsZ (Φs : List Pz) (vs : Nat → Value) : Prop := ∀ (i : Nat) c, Φs[i]? = some (Pz.det c) → vs i = c
def isRel : Option Pz → Bool
 | some (.rel _ _) => true
 | _ => false
def reachB (l : List Oper) : Nat → Nat → Nat → Bool
 | 0, _, _ => false
 | f + 1, j, m => waitB l j m || match l[j]? with
  | some o => (depsOf o).any fun k => reachB l f k m
  | none => false
def fnOk (l : List Oper) (Φs : List Pz) : Bool := (List.range Φs.length).all fun j => match Φs[j]? with
 | some (.fn m _) => Nat.blt m j && reachB l l.length j m && isRel Φs[m]?
 | _ => true
def ltOk (lt : List Nat) (Φs : List Pz) : Bool := lt.all fun i => !isRel Φs[i]?
def vf (Φs : List Pz) (vs : Nat → Value) (j : Nat) : Value := match Φs[j]? with
 | some (.fn m g) => g (vs m)
 | _ => vs j
theorem fnOk_at {l : List Oper} {Φs : List Pz} (h : fnOk l Φs = true) {j m : Nat} {g : Value → Value} (hj : Φs[j]? = some (.fn m g)) : m < j ∧ reachB l l.length j m = true ∧ isRel Φs[m]? = true := by
 have hlt : j < Φs.length := (List.getElem?_eq_some_iff.1 hj).1
 have h1 := List.all_eq_true.1 h j (List.mem_range.2 hlt)
 rw [hj] at h1
 simp only [Bool.and_eq_true] at h1
 exact ⟨by simpa using h1.1.1, h1.1.2, h1.2⟩
theorem vf_rel {Φs : List Pz} {vs : Nat → Value} {j : Nat} (h : isRel Φs[j]? = true) : vf Φs vs j = vs j := by
 unfold vf
 cases hΦ : Φs[j]? with
 | none => rfl
 | some ph => cases ph with | fn m g => rw [hΦ] at h; cases h | _ => rfl
theorem reach_closed {l : List Oper} {L : Nat → Prop} (hcl : ∀ c o, L c → l[c]? = some o → ∀ d ∈ depsOf o, L d) : ∀ {f j m : Nat}, L j → reachB l f j m = true → L m
 | 0, _, _, _, h => by cases h
 | f + 1, j, m, hj, h => by
  simp only [reachB, Bool.or_eq_true] at h
  rcases h with h | h
  · unfold waitB at h
    cases ho : l[j]? with
    | none => rw [ho] at h; cases h
    | some o => rw [ho] at h; exact hcl j o hj ho m (memN_iff.1 h)
  · cases ho : l[j]? with
    | none => rw [ho] at h; cases h
    | some o =>
     rw [ho] at h
     obtain ⟨k, hk, h1⟩ := List.any_eq_true.1 h
     exact reach_closed hcl (hcl j o hj ho k hk) h1
theorem envAll_congr {l : List Oper} {e : Env} {vs vs' : Nat → Value} : ∀ {i : Nat}, (∀ j, j < i → vs j = vs' j) → envAll l e vs i = envAll l e vs' i
 | 0, _ => rfl
 | i + 1, h => by simp only [envAll]; rw [envAll_congr (i := i) (fun j hj => h j (by omega)), h i (by omega)]
def FallZ (Φs : List Pz) (vs : Nat → Value) : Nat → List FE
 | 0 => []
 | i + 1 => match Φs[i]? with
  | some (.rel Φ ft) => ⟨i, Φ (vs i), ft (vs i)⟩ :: FallZ Φs vs i
  | _ => FallZ Φs vs i
def stableZ (w1 : World) : List Pz → Prop
 | [] => True
 | .det _ :: r => stableZ w1 r
 | .fn _ _ :: r => stableZ w1 r
 | .rel Φ ft :: r => (∀ v Z Z' w w', Φ v Z w → (∀ b, Z b → Z' b) → Ext w1 w → Ext w1 w' → (∀ b, (b < w1.heap.size ∨ Z b ∨ some b ∈ ft v) → b < w.heap.size → w'.heap[b]? = w.heap[b]?) → Φ v Z' w') ∧ stableZ w1 r
section
variable {P : Program} {l : List Oper} {cs : List (List Nat)} {n n0 : Nat} {K : Env → World → Prop} {e : Env} {w1 : World}
theorem stableZ_at {Φs : List Pz} (h : stableZ w1 Φs) : ∀ (i : Nat) Φ ft, Φs[i]? = some (.rel Φ ft) → ∀ v Z Z' w w', Φ v Z w → (∀ b, Z b → Z' b) → Ext w1 w → Ext w1 w' → (∀ b, (b < w1.heap.size ∨ Z b ∨ some b ∈ ft v) → b < w.heap.size → w'.heap[b]? = w.heap[b]?) → Φ v Z' w' := by
 induction Φs with
 | nil => intro i Φ ft hi; simp at hi
 | cons x r ih =>
  intro i Φ ft hi
  cases i with
  | zero =>
   simp at hi; subst hi
   exact h.1
  | succ i =>
   have hr : stableZ w1 r := by cases x with | det c => exact h | fn m g => exact h | rel Φ ft => exact h.2
   exact ih hr i Φ ft (by simpa using hi)
theorem drH_at {Φs : List Pz} (hl : n0 ≤ l.length) (hu : uniqOk l n0 = true) (h : DrH P l cs w1 K (l.take n0) Φs e [] 0) (vs : Nat → Value) (hv : fitsZ Φs vs) (hf : ∀ i m g, Φs[i]? = some (.fn m g) → m < i ∧ vs i = g (vs m)) : ∀ i, i ≤ n0 → DrH P l cs w1 K ((l.take n0).drop i) (Φs.drop i) (envAll l e vs i) (FallZ Φs vs i) i
 | 0, _ => by simpa [envAll, FallZ] using h
 | i + 1, hi => by
  have ih := drH_at hl hu h vs hv hf i (by omega)
  have hlt : i < (l.take n0).length := by simp; omega
  rw [List.drop_eq_getElem_cons hlt] at ih
  have hd : dstAt l i = ((l.take n0)[i]).dst := by
   simp only [dstAt, List.getElem_take]
   rw [List.getElem?_eq_getElem (by omega)]; rfl
  cases hΦ : Φs[i]? with
  | none =>
   have : Φs.drop i = [] := List.drop_eq_nil_of_le (List.getElem?_eq_none_iff.1 hΦ)
   rw [this] at ih; exact ih.elim
  | some ph =>
   have hlt2 : i < Φs.length := by
    rcases Nat.lt_or_ge i Φs.length with h2 | h2
    · exact h2
    · rw [List.getElem?_eq_none h2] at hΦ; cases hΦ
   have hc : Φs.drop i = ph :: Φs.drop (i + 1) := by
    rw [List.drop_eq_getElem_cons hlt2]; congr 1
    rw [List.getElem?_eq_getElem hlt2] at hΦ; exact Option.some.inj hΦ
   rw [hc] at ih
   cases ph with
   | det c =>
    have := ih.2
    have hvc := hv i c hΦ
    simp only [envAll, FallZ, hΦ, hd, hvc]
    exact this
   | fn m g =>
    obtain ⟨d, h1, -, h3⟩ := ih
    obtain ⟨hm, hvi⟩ := hf i m g hΦ
    rw [envAll_at h1 i hm (fun k hk hkd => uniq_at hu (by omega) (by omega) hkd h1), ← hvi] at h3
    simp only [envAll, FallZ, hΦ, hd]
    exact h3
   | rel Φ ft =>
    have := ih.2 (vs i)
    simp only [envAll, FallZ, hΦ, hd]
    exact this
theorem FallZ_vf {Φs : List Pz} {vs : Nat → Value} : ∀ {i : Nat}, FallZ Φs (vf Φs vs) i = FallZ Φs vs i
 | 0 => rfl
 | i + 1 => by
  simp only [FallZ, FallZ_vf (i := i)]
  cases hΦ : Φs[i]? with
  | none => rfl
  | some ph => cases ph with | rel Φ ft => simp only [vf_rel (Φs := Φs) (vs := vs) (j := i) (by rw [hΦ]; rfl)] | _ => rfl
theorem mem_FallZ {Φs : List Pz} {vs : Nat → Value} {x : FE} : ∀ {i : Nat}, x ∈ FallZ Φs vs i → x.idx < i ∧ ∃ Φ ft, Φs[x.idx]? = some (.rel Φ ft) ∧ x.φ = Φ (vs x.idx) ∧ x.ft = ft (vs x.idx)
 | 0, h => by cases h
 | i + 1, h => by
  simp only [FallZ] at h
  cases hΦ : Φs[i]? with
  | none => rw [hΦ] at h; obtain ⟨h1, h2⟩ := mem_FallZ h; exact ⟨by omega, h2⟩
  | some ph =>
   rw [hΦ] at h
   cases ph with
   | det c => obtain ⟨h1, h2⟩ := mem_FallZ h; exact ⟨by omega, h2⟩
   | fn m g => obtain ⟨h1, h2⟩ := mem_FallZ h; exact ⟨by omega, h2⟩
   | rel Φ ft =>
    rcases List.mem_cons.1 h with h | h
    · subst h; exact ⟨by simp, Φ, ft, hΦ, rfl, rfl⟩
    · obtain ⟨h1, h2⟩ := mem_FallZ h; exact ⟨by omega, h2⟩
theorem factsI_of {w : World} {Z : Nat → Prop} {i : Nat} {ds : List Nat} : ∀ {F : List FE}, (∀ x ∈ F, memN x.idx ds = true → seesB l cs i x.idx = true → x.φ Z w ∧ Bnd w1 w Z x.ft) → factsI l cs w1 i ds F Z w
 | [], _ => trivial
 | x :: r, h => by
  refine ⟨?_, factsI_of fun y hy => h y (List.mem_cons_of_mem _ hy)⟩
  cases h1 : memN x.idx ds <;> cases h2 : seesB l cs i x.idx <;> simp
  exact h x List.mem_cons_self h1 h2
theorem factsE_of {w : World} {Z : Nat → Prop} : ∀ {F : List FE}, (∀ x ∈ F, endsB cs x.idx = true → x.φ Z w ∧ Bnd w1 w Z x.ft) → factsE cs w1 F Z w
 | [], _ => trivial
 | x :: r, h => by
  refine ⟨?_, factsE_of fun y hy => h y (List.mem_cons_of_mem _ hy)⟩
  cases h1 : endsB cs x.idx <;> simp
  exact h x List.mem_cons_self h1
theorem apartE_of {x : FE} : ∀ {F : List FE}, (∀ y ∈ F, endsB cs x.idx = true → endsB cs y.idx = true → ∀ b, some b ∈ x.ft → some b ∉ y.ft) → apartE cs x F
 | [], _ => trivial
 | y :: r, h => by
  refine ⟨?_, apartE_of fun z hz => h z (List.mem_cons_of_mem _ hz)⟩
  cases h1 : endsB cs x.idx <;> cases h2 : endsB cs y.idx <;> simp
  exact h y List.mem_cons_self h1 h2
theorem mem_usedBy {j c : Nat} : c ∈ usedBy cs j ↔ c < cs.length ∧ j ∈ cs.getD c [] := by
 simp only [usedBy, List.mem_filter, List.mem_range, memN_iff]
theorem mem_feet {js : List Nat} {b : Option Nat} : ∀ {F : List FE}, b ∈ feet js F ↔ ∃ x ∈ F, x.idx ∈ js ∧ b ∈ x.ft
 | [] => by simp [feet]
 | x :: r => by
  have ih := mem_feet (js := js) (b := b) (F := r)
  simp only [feet]
  cases h : memN x.idx js with
  | true =>
   have := memN_iff.1 h
   simp [ih, this]
  | false =>
   have : x.idx ∉ js := fun hm => by rw [memN_iff.2 hm] at h; cases h
   simp [ih, this]
def Lv (cs : List (List Nat)) (L : Nat → Prop) (i : Nat) : Prop := L i ∧ ∀ c, L c → i ∉ cs.getD c []
structure JZ (l : List Oper) (cs : List (List Nat)) (Φs : List Pz) (w1 : World) (L : Nat → Prop) (vs : Nat → Value) (w : World) (Z : Nat → Prop) : Prop where
 fit : fitsZ Φs vs
 cl : ∀ c o, L c → l[c]? = some o → ∀ d ∈ depsOf o, L d
 zb : ZB w1 w Z
 holds : ∀ i Φ ft, Φs[i]? = some (.rel Φ ft) → Lv cs L i → Φ (vs i) Z w ∧ Bnd w1 w Z (ft (vs i))
 fnv : ∀ j m g, Φs[j]? = some (.fn m g) → L j → vs j = g (vs m)
 apart : ∀ i j Φ ft Φ' ft', Φs[i]? = some (.rel Φ ft) → Φs[j]? = some (.rel Φ' ft') → i ≠ j → Lv cs L i → Lv cs L j → ∀ b, some b ∈ ft (vs i) → some b ∉ ft' (vs j)
end
theorem waitB_at {l : List Oper} {c j : Nat} (h : waitB l c j = true) : ∃ o, l[c]? = some o ∧ j ∈ depsOf o := by
 unfold waitB at h
 cases ho : l[c]? with
 | none => rw [ho] at h; cases h
 | some o => rw [ho] at h; exact ⟨o, rfl, memN_iff.1 h⟩
section
variable {P : Program} {n : Nat} {k : List It} {Q : Env → World → Prop} {e : Env} {w : World}
theorem Swp.drawL {id : Nat} {l : List Oper} (n0 : Nat) (cs : List (List Nat)) (lt : List Nat) (Ψ : World → List Pz) (hm : P.follows .mixedOrders = true) (hok : dstsOk n l = true) (hdr : drawOkL l n0 lt = true) (hcon : conOk l cs = true)
    (hfn : ∀ w1, fnOk l (Ψ w1) = true) (hlt : ∀ w1, ltOk lt (Ψ w1) = true) (hst : ∀ w1, Ext w w1 → stableZ w1 (Ψ w1))
    (h : ∀ w1, Ext w w1 → DrH P l cs w1 (RlL P l (Swp P n k Q) lt (l.drop n0)) (l.take n0) (Ψ w1) e [] 0) : Swp P n (.code (.region id l.toArray true) :: k) Q e w := by
  obtain ⟨hn, hh, hu, hb, hsk, hch, -⟩ := drawOkL_spec hdr
  have con : ∀ c j, j ∈ cs.getD c [] → waitB l c j = true ∧ ∀ c', c' < cs.length → j ∈ cs.getD c' [] → c' = c := by
    intro c j hj
    have hc : c < cs.length := by
      rcases Nat.lt_or_ge c cs.length with h1 | h1
      · exact h1
      · rw [List.getD_eq_getElem?_getD, List.getElem?_eq_none h1] at hj; simp at hj
    have h1 := List.all_eq_true.1 (List.all_eq_true.1 hcon c (List.mem_range.2 hc)) j hj
    simp only [Bool.and_eq_true] at h1
    refine ⟨h1.1, fun c' hc' hj' => ?_⟩
    exact Nat.eq_of_beq_eq_true (List.all_eq_true.1 h1.2 c' (mem_usedBy.2 ⟨hc', hj'⟩))
  have conlt : ∀ c j, j ∈ cs.getD c [] → c < cs.length := by
    intro c j hj
    rcases Nat.lt_or_ge c cs.length with h1 | h1
    · exact h1
    · rw [List.getD_eq_getElem?_getD, List.getElem?_eq_none h1] at hj; simp at hj
  have fits2 : ∀ (Φs : List Pz), fnOk l Φs = true → ∀ vs, fitsZ Φs vs → fitsZ Φs (vf Φs vs) ∧ ∀ i m g, Φs[i]? = some (.fn m g) → m < i ∧ vf Φs vs i = g (vf Φs vs m) := by
    intro Φs hfo vs hf
    refine ⟨fun i c hi => ?_, fun i m g hi => ?_⟩
    · have := hf i c hi
      unfold vf; rw [hi]; exact this
    · obtain ⟨h1, _, h3⟩ := fnOk_at hfo hi
      refine ⟨h1, ?_⟩
      rw [vf_rel h3]; unfold vf; rw [hi]
  refine Swp.drawJ n0 lt (fun w1 L vs w => ∃ Z, JZ l cs (Ψ w1) w1 L vs w Z) hm hok hdr ?_ ?_ ?_ ?_
  · intro w1 _
    generalize Ψ w1 = Φs
    refine ⟨fun i => match Φs[i]? with | some (.det c) => c | _ => undef, fun _ => False, fun i c hc => by simp [hc], fun _ _ h => h.elim, fun _ h => h.elim, fun _ _ _ _ h => h.1.elim, fun _ _ _ _ h => h.elim, fun _ _ _ _ _ _ _ _ _ h => h.1.elim⟩
  · intro w1 hE1 i o hi ho L vs w hdeps hnl hE ⟨Z, j⟩
    have hst1 := hst w1 hE1
    have hh1 := h w1 hE1
    have hfo := hfn w1
    generalize Ψ w1 = Φs at j hst1 hh1 hfo ⊢
    obtain ⟨ff1, ff2⟩ := fits2 Φs hfo vs j.fit
    have hD := drH_at hn hu hh1 (vf Φs vs) ff1 ff2 i (by omega)
    rw [FallZ_vf] at hD
    obtain ⟨_, hlook, hsel⟩ := head_at hh hi ho
    refine GOp_congr (e := envAll l e (vf Φs vs) i) hsel (fun t ht => ?_) ?_
    · by_cases hex : ∃ j, j < n0 ∧ dstAt l j = some t
      · obtain ⟨q, hq, hqd⟩ := hex
        rcases look_at hlook ht hq hqd with ⟨h1, h2⟩ | ⟨h1, _⟩
        · rw [envAll_at hqd i h2 (fun k hk hkd => uniq_at hu (by omega) hq hkd hqd), envAll_at hqd i h2 (fun k hk hkd => uniq_at hu (by omega) hq hkd hqd)]
          unfold vf
          cases hΦq : Φs[q]? with
          | none => rfl
          | some ph => cases ph with
            | fn m g => exact (j.fnv q m g hΦq (hdeps q h1)).symm
            | _ => rfl
        · rw [envAll_not i (fun k hk hkd => by have := uniq_at hu (show k < n0 by omega) hq hkd hqd; omega), envAll_not i (fun k hk hkd => by have := uniq_at hu (show k < n0 by omega) hq hkd hqd; omega)]
      · rw [envAll_not i (fun j hj hjd => hex ⟨j, by omega, hjd⟩), envAll_not i (fun j hj hjd => hex ⟨j, by omega, hjd⟩)]
    have fnKeep : ∀ (v : Value), (∀ m g, Φs[i]? = some (.fn m g) → v = g (vs m)) → ∀ q m g, Φs[q]? = some (.fn m g) → (L q ∨ q = i) → (if q = i then v else vs q) = g (if m = i then v else vs m) := by
      intro v hv q m g hq hLq
      obtain ⟨g1, g2, g3⟩ := fnOk_at hfo hq
      by_cases hqi : q = i
      · subst hqi
        rw [if_pos rfl, if_neg (by omega)]; exact hv m g hq
      · have hLq := hLq.resolve_right hqi
        have hLm := reach_closed j.cl hLq g2
        rw [if_neg hqi, if_neg (fun hmi : m = i => hnl (hmi ▸ hLm))]
        exact j.fnv q m g hq hLq
    have hlt : i < (l.take n0).length := by simp; omega
    rw [List.drop_eq_getElem_cons hlt] at hD
    have hgi : (l.take n0)[i] = o := by
      have : l[i]? = some l[i] := List.getElem?_eq_getElem (by omega)
      rw [ho] at this
      simp only [List.getElem_take]
      exact (Option.some.inj this).symm
    rw [hgi] at hD
    have see : ∀ x ∈ FallZ Φs vs i, memN x.idx (depsOf o) = true → seesB l cs i x.idx = true → x.φ Z w ∧ Bnd w1 w Z x.ft := by
      intro x hx hmx hsx
      obtain ⟨hxi, Φ, ft, g1, g2, g3⟩ := mem_FallZ hx
      have hlv : Lv cs L x.idx := by
        refine ⟨hdeps _ (memN_iff.1 hmx), fun c hc hj => ?_⟩
        have h1 := List.all_eq_true.1 hsx c (mem_usedBy.2 ⟨conlt c _ hj, hj⟩)
        simp only [Bool.or_eq_true] at h1
        rcases h1 with h1 | h1
        · have := Nat.eq_of_beq_eq_true h1; subst this; exact hnl hc
        · obtain ⟨oc, hoc, hd⟩ := waitB_at h1
          exact hnl (j.cl c oc hc hoc i hd)
      rw [g2, g3]
      exact j.holds x.idx Φ ft g1 hlv
    have hfacts := factsI_of (l := l) (cs := cs) (w1 := w1) (i := i) (ds := depsOf o) see
    cases hΦ : Φs[i]? with
    | none =>
      have : Φs.drop i = [] := List.drop_eq_nil_of_le (List.getElem?_eq_none_iff.1 hΦ)
      rw [this] at hD; exact hD.elim
    | some ph =>
      have hlt2 : i < Φs.length := by
        rcases Nat.lt_or_ge i Φs.length with h2 | h2
        · exact h2
        · rw [List.getElem?_eq_none h2] at hΦ; cases hΦ
      have hc : Φs.drop i = ph :: Φs.drop (i + 1) := by
        rw [List.drop_eq_getElem_cons hlt2]; congr 1
        rw [List.getElem?_eq_getElem hlt2] at hΦ; exact Option.some.inj hΦ
      rw [hc] at hD
      have clos : ∀ c oc, (L c ∨ c = i) → l[c]? = some oc → ∀ d ∈ depsOf oc, L d ∨ d = i := by
        intro c oc hcL hoc d hd
        rcases hcL with h1 | h1
        · exact .inl (j.cl c oc h1 hoc d hd)
        · subst h1; rw [ho] at hoc; cases hoc; exact .inl (hdeps d hd)
      have lvOld : ∀ m, m ≠ i → Lv cs (fun j => L j ∨ j = i) m → Lv cs L m := by
        intro m hm hlv
        exact ⟨hlv.1.resolve_right hm, fun c hcL => hlv.2 c (.inl hcL)⟩
      have quiet : (∀ Φ ft, Φs[i]? ≠ some (.rel Φ ft)) → ∀ v w', Ext w w' → (∀ c, Φs[i]? = some (.det c) → v = c) → (∀ m g, Φs[i]? = some (.fn m g) → v = g (vs m)) →
          JZ l cs Φs w1 (fun j => L j ∨ j = i) (fun j => if j = i then v else vs j) w' Z := by
        intro hnr v w' hE' hvd hvf
        refine ⟨fun m cm hm => ?_, clos, fun b hb => ⟨(j.zb b hb).1, Nat.lt_of_lt_of_le (j.zb b hb).2 hE'.size⟩, fun m Φ ft hm hlv => ?_, fnKeep v hvf, fun m m' Φ ft Φ' ft' hm hm' hne h1 h2 => ?_⟩
        · by_cases hmi : m = i
          · subst hmi; simp only [if_true]; exact hvd cm hm
          · simp only [hmi, if_false]; exact j.fit m cm hm
        · have hmi : m ≠ i := by rintro rfl; exact hnr _ _ hm
          simp only [hmi, if_false]
          obtain ⟨g1, g2⟩ := j.holds m Φ ft hm (lvOld m hmi hlv)
          refine ⟨stableZ_at hst1 m Φ ft hm _ Z Z w w' g1 (fun _ h => h) hE (hE.trans hE') (fun b _ hb => hE'.block b hb), fun b hb => ?_⟩
          obtain ⟨q1, q2, q3⟩ := g2 b hb
          exact ⟨q1, Nat.lt_of_lt_of_le q2 hE'.size, q3⟩
        · have hmi : m ≠ i := by rintro rfl; exact hnr _ _ hm
          have hmi' : m' ≠ i := by rintro rfl; exact hnr _ _ hm'
          simp only [hmi, hmi', if_false]
          exact j.apart m m' Φ ft Φ' ft' hm hm' hne (lvOld m hmi h1) (lvOld m' hmi' h2)
      cases ph with
      | det c =>
        refine GOp.mono (hD.1 w Z hE j.zb hfacts) ?_
        rintro v w' ⟨hE', rfl⟩
        exact ⟨hE.trans hE', Z, quiet (fun Φ ft h => by rw [hΦ] at h; cases h) v w' hE' (fun c hc => by rw [hΦ] at hc; cases hc; rfl) (fun m g h => by rw [hΦ] at h; cases h)⟩
      | fn m g =>
        obtain ⟨d, hdm, hop, -⟩ := hD
        refine GOp.mono (hop w Z hE j.zb hfacts) ?_
        rintro v w' ⟨hE', rfl⟩
        obtain ⟨hmi, -, hmr⟩ := fnOk_at hfo hΦ
        rw [envAll_at hdm i hmi (fun k hk hkd => uniq_at hu (by omega) (by omega) hkd hdm), vf_rel hmr]
        exact ⟨hE.trans hE', Z, quiet (fun Φ ft h => by rw [hΦ] at h; cases h) _ w' hE' (fun c hc => by rw [hΦ] at hc; cases hc) (fun m g h => by rw [hΦ] at h; cases h; rfl)⟩
      | rel Φ0 ft0 =>
        refine GOp.mono (hD.1 w Z hE j.zb hfacts) ?_
        rintro v w' ⟨Z', hz1, hz2, hU, hφ, hft⟩
        have cf : ∀ b, some b ∈ feet (cs.getD i []) (FallZ Φs vs i) → ∃ m Φ ft, m ∈ cs.getD i [] ∧ Φs[m]? = some (.rel Φ ft) ∧ some b ∈ ft (vs m) ∧ Lv cs L m := by
          intro b hb
          obtain ⟨x, hx, hxi, hbx⟩ := mem_feet.1 hb
          obtain ⟨_, Φ, ft, g1, g2, g3⟩ := mem_FallZ hx
          refine ⟨x.idx, Φ, ft, hxi, g1, by rw [← g3]; exact hbx, ?_, fun c hcL hj => ?_⟩
          · obtain ⟨oc, hoc, hd⟩ := waitB_at (con i _ hxi).1
            rw [ho] at hoc; cases hoc; exact hdeps _ hd
          · have := (con i _ hxi).2 c (conlt c _ hj) hj
            subst this; exact hnl hcL
        have cfb : ∀ b, some b ∈ feet (cs.getD i []) (FallZ Φs vs i) → w1.heap.size ≤ b ∧ b < w.heap.size ∧ ¬ Z b := by
          intro b hb
          obtain ⟨m, Φ, ft, _, g1, g2, g3⟩ := cf b hb
          exact (j.holds m Φ ft g1 g3).2 b g2
        have hE' : Ext w1 w' := by
          refine ⟨hU.os.trans hE.os, hU.tape.trans hE.tape, hU.output.trans hE.output, Nat.le_trans hE.size hU.size, fun b hb => ?_⟩
          rw [hU.keep b (Nat.lt_of_lt_of_le hb hE.size) (fun hm => by have := (cfb b hm).1; omega)]
          exact hE.block b hb
        have newb : ∀ b, New (feet (cs.getD i []) (FallZ Φs vs i)) w w' b → w1.heap.size ≤ b ∧ b < w'.heap.size := by
          rintro b (h1 | h1)
          · exact ⟨Nat.le_trans hE.size h1.1, h1.2⟩
          · exact ⟨(cfb b h1).1, Nat.lt_of_lt_of_le (cfb b h1).2.1 hU.size⟩
        have lvNot : ∀ m, Lv cs (fun j => L j ∨ j = i) m → m ∉ cs.getD i [] := fun m hlv => hlv.2 i (.inr rfl)
        have others : ∀ m Φ ft, m ≠ i → Φs[m]? = some (.rel Φ ft) → Lv cs (fun j => L j ∨ j = i) m → ∀ b, some b ∈ ft (vs m) → some b ∉ feet (cs.getD i []) (FallZ Φs vs i) := by
          intro m Φ ft hmi hm hlv b hb hcf
          obtain ⟨m', Φ', ft', g0, g1, g2, g3⟩ := cf b hcf
          have hne : m ≠ m' := by rintro rfl; exact lvNot m hlv g0
          exact j.apart m m' Φ ft Φ' ft' hm g1 hne (lvOld m hmi hlv) g3 b hb g2
        refine ⟨hE', Z', ⟨fun m cm hm => ?_, clos, fun b hb => ?_, fun m Φ ft hm hlv => ?_, fnKeep v (fun m g h => by rw [hΦ] at h; cases h), fun m m' Φ ft Φ' ft' hm hm' hne h1 h2 => ?_⟩⟩
        · have hmi : m ≠ i := by rintro rfl; rw [hΦ] at hm; cases hm
          simp only [hmi, if_false]; exact j.fit m cm hm
        · rcases hz2 b hb with h1 | h1
          · exact ⟨(j.zb b h1).1, Nat.lt_of_lt_of_le (j.zb b h1).2 hU.size⟩
          · exact newb b h1
        · by_cases hmi : m = i
          · subst hmi
            rw [hΦ] at hm; cases hm
            simp only [if_true]
            refine ⟨hφ, fun b hb => ?_⟩
            obtain ⟨q1, q2⟩ := hft b hb
            exact ⟨(newb b q1).1, (newb b q1).2, q2⟩
          · simp only [hmi, if_false]
            obtain ⟨g1, g2⟩ := j.holds m Φ ft hm (lvOld m hmi hlv)
            refine ⟨stableZ_at hst1 m Φ ft hm _ Z Z' w w' g1 hz1 hE hE' (fun b hb hlt => ?_), fun b hb => ?_⟩
            · refine hU.keep b hlt fun hcf => ?_
              rcases hb with hb | hb | hb
              · have := (cfb b hcf).1; omega
              · exact (cfb b hcf).2.2 hb
              · exact others m Φ ft hmi hm hlv b hb hcf
            · obtain ⟨q1, q2, q3⟩ := g2 b hb
              refine ⟨q1, Nat.lt_of_lt_of_le q2 hU.size, fun hz => ?_⟩
              rcases hz2 b hz with h1 | h1
              · exact q3 h1
              · rcases h1 with h1 | h1
                · omega
                · exact others m Φ ft hmi hm hlv b hb h1
        · intro b hb
          by_cases hmi : m = i
          · subst hmi
            have hmi' : m' ≠ m := fun h => hne h.symm
            rw [hΦ] at hm; cases hm
            simp only [if_true, hmi', if_false] at hb ⊢
            intro hb'
            obtain ⟨q1, q2⟩ := hft b hb
            rcases q1 with q1 | q1
            · have := ((j.holds m' Φ' ft' hm' (lvOld m' hmi' h2)).2 b hb').2.1; omega
            · exact others m' Φ' ft' hmi' hm' h2 b hb' q1
          · by_cases hmi' : m' = i
            · subst hmi'
              rw [hΦ] at hm'; cases hm'
              simp only [if_true, hmi, if_false] at hb ⊢
              intro hb'
              obtain ⟨q1, q2⟩ := hft b hb'
              rcases q1 with q1 | q1
              · have := ((j.holds m Φ ft hm (lvOld m hmi h1)).2 b hb).2.1; omega
              · exact others m Φ ft hmi hm h1 b hb q1
            · simp only [hmi, hmi', if_false] at hb ⊢
              exact j.apart m m' Φ ft Φ' ft' hm hm' hne (lvOld m hmi h1) (lvOld m' hmi' h2) b hb
  · 
    intro w1 hE1 i hil o ho L vs w hdeps hnl hE ⟨Z, j⟩
    have hfo := hfn w1
    have hl1 := hlt w1
    have hst1 := hst w1 hE1
    generalize Ψ w1 = Φs at j hfo hl1 hst1 ⊢
    have hnr : isRel Φs[i]? = false := by
      have := List.all_eq_true.1 hl1 i hil
      simpa using this
    have hnr' : ∀ Φ ft, Φs[i]? ≠ some (.rel Φ ft) := fun Φ ft h => by rw [h] at hnr; cases hnr
    have lvOld : ∀ m, m ≠ i → Lv cs (fun j => L j ∨ j = i) m → Lv cs L m := fun m hm hlv => ⟨hlv.1.resolve_right hm, fun c hcL => hlv.2 c (.inl hcL)⟩
    refine ⟨vf Φs vs i, Z, ⟨fun m cm hm => ?_, ?_, j.zb, fun m Φ ft hm hlv => ?_, fun q m g hq hLq => ?_, fun m m' Φ ft Φ' ft' hm hm' hne h1 h2 => ?_⟩⟩
    · by_cases hmi : m = i
      · subst hmi; simp only [if_true]; unfold vf; rw [hm]; exact j.fit m cm hm
      · simp only [hmi, if_false]; exact j.fit m cm hm
    · intro c oc hcL hoc d hd
      rcases hcL with h1 | h1
      · exact .inl (j.cl c oc h1 hoc d hd)
      · subst h1; rw [ho] at hoc; cases hoc; exact .inl (hdeps d hd)
    · have hmi : m ≠ i := by rintro rfl; exact hnr' _ _ hm
      simp only [hmi, if_false]
      exact j.holds m Φ ft hm (lvOld m hmi hlv)
    · obtain ⟨g1, g2, g3⟩ := fnOk_at hfo hq
      by_cases hqi : q = i
      · subst hqi
        rw [if_pos rfl, if_neg (by omega)]; unfold vf; rw [hq]
      · have hLq := hLq.resolve_right hqi
        have hLm := reach_closed j.cl hLq g2
        rw [if_neg hqi, if_neg (fun hmi : m = i => hnl (hmi ▸ hLm))]
        exact j.fnv q m g hq hLq
    · have hmi : m ≠ i := by rintro rfl; exact hnr' _ _ hm
      have hmi' : m' ≠ i := by rintro rfl; exact hnr' _ _ hm'
      simp only [hmi, hmi', if_false]
      exact j.apart m m' Φ ft Φ' ft' hm hm' hne (lvOld m hmi h1) (lvOld m' hmi' h2)
  · intro w1 hE1 vs w hE ⟨Z, j⟩
    have hh1 := h w1 hE1
    have hfo := hfn w1
    generalize Ψ w1 = Φs at j hh1 hfo ⊢
    obtain ⟨ff1, ff2⟩ := fits2 Φs hfo vs j.fit
    have hD := drH_at hn hu hh1 (vf Φs vs) ff1 ff2 n0 (Nat.le_refl _)
    rw [FallZ_vf, envAll_congr (vs' := vs) (fun q hq => by
      unfold vf
      cases hΦq : Φs[q]? with
      | none => rfl
      | some ph => cases ph with
        | fn m g => exact (j.fnv q m g hΦq hq).symm
        | _ => rfl)] at hD
    have hnil : (l.take n0).drop n0 = [] := by
      apply List.drop_eq_nil_of_le; simp; omega
    rw [hnil] at hD
    have lvE : ∀ x ∈ FallZ Φs vs n0, endsB cs x.idx = true → Lv cs (fun j => j < n0) x.idx := by
      intro x hx hend
      obtain ⟨hxi, _⟩ := mem_FallZ hx
      refine ⟨hxi, fun c hc hj => ?_⟩
      have : c ∈ usedBy cs x.idx := mem_usedBy.2 ⟨conlt c _ hj, hj⟩
      unfold endsB at hend
      rw [List.isEmpty_iff] at hend
      rw [hend] at this; cases this
    have f1 : factsE cs w1 (FallZ Φs vs n0) Z w := factsE_of fun x hx hend => by
      obtain ⟨hxi, Φ, ft, g1, g2, g3⟩ := mem_FallZ hx
      rw [g2, g3]
      exact j.holds x.idx Φ ft g1 (lvE x hx hend)
    have f2 : ∀ i, i ≤ n0 → apartsE cs (FallZ Φs vs i) := by
      intro i
      induction i with
      | zero => intro _; trivial
      | succ i ih =>
        intro hi
        simp only [FallZ]
        have sub : ∀ x ∈ FallZ Φs vs i, x ∈ FallZ Φs vs n0 := by
          have : ∀ m, i ≤ m → ∀ x ∈ FallZ Φs vs i, x ∈ FallZ Φs vs m := by
            intro m
            induction m with
            | zero => intro hm x hx; have : i = 0 := by omega
                      subst this; exact hx
            | succ m ihm =>
              intro hm x hx
              by_cases him : i = m + 1
              · subst him; exact hx
              · have := ihm (by omega) x hx
                simp only [FallZ]
                cases hq : Φs[m]? with
                | none => exact this
                | some ph => cases ph with | det c => exact this | fn m g => exact this | rel Φ ft => exact List.mem_cons_of_mem _ this
          exact this n0 (by omega)
        cases hΦ : Φs[i]? with
        | none => exact ih (by omega)
        | some ph =>
          cases ph with
          | det c => exact ih (by omega)
          | fn m g => exact ih (by omega)
          | rel Φ ft =>
            refine ⟨apartE_of fun y hy h1 h2 b hb => ?_, ih (by omega)⟩
            obtain ⟨hyi, Φ', ft', g1, g2, g3⟩ := mem_FallZ hy
            rw [g3]
            have hl1 : Lv cs (fun j => j < n0) i := by
              refine ⟨by omega, fun c hc hj => ?_⟩
              have : c ∈ usedBy cs i := mem_usedBy.2 ⟨conlt c _ hj, hj⟩
              unfold endsB at h1
              rw [List.isEmpty_iff] at h1
              rw [h1] at this; cases this
            exact j.apart i y.idx Φ ft Φ' ft' hΦ g1 (by omega) hl1 (lvE y (sub y hy) h2) b hb
    cases hΦ : Φs.drop n0 with
    | nil => rw [hΦ] at hD; exact hD w Z hE j.zb f1 (f2 n0 (Nat.le_refl _))
    | cons x r => rw [hΦ] at hD; exact hD w Z hE j.zb f1 (f2 n0 (Nat.le_refl _))
end
section
variable {P : Program} {l : List Oper} {cs : List (List Nat)} {w1 : World} {K : Env → World → Prop} {r : List Oper} {Φs : List Pz} {e : Env} {F : List FE} {i : Nat}
theorem DrH.det {d : Nat} {op : Op} {ty : TypeId} {pos : String} {after : Array Edge} {guard : Option (Nat × Bool)} {c : Value}
 (h1 : ∀ w' Z, Ext w1 w' → ZB w1 w' Z → factsI l cs w1 i (depsOf { dst := some d, op := op, type := ty, pos := pos, after := after, guard := guard }) F Z w' → GOp P l { dst := some d, op := op, type := ty, pos := pos, after := after, guard := guard } e w' fun v w'' => Ext w' w'' ∧ v = c)
 (h2 : DrH P l cs w1 K r Φs (upd e d c) F (i + 1)) : DrH P l cs w1 K ({ dst := some d, op := op, type := ty, pos := pos, after := after, guard := guard } :: r) (.det c :: Φs) e F i := ⟨h1, h2⟩
theorem er {w : World} {v c : Value} (h : v = c) : Ext w w ∧ v = c := ⟨Ext.refl _, h⟩
theorem DrH.de {d : Nat} {op : Op} {ty : TypeId} {pos : String} {after : Array Edge} {guard : Option (Nat × Bool)} {c : Value}
 (h1 : ∀ w', Ext w1 w' → GOp P l { dst := some d, op := op, type := ty, pos := pos, after := after, guard := guard } e w' fun v w'' => Ext w' w'' ∧ v = c)
 (h2 : DrH P l cs w1 K r Φs (upd e d c) F (i + 1)) : DrH P l cs w1 K ({ dst := some d, op := op, type := ty, pos := pos, after := after, guard := guard } :: r) (.det c :: Φs) e F i := ⟨fun w' _ hE _ _ => h1 w' hE, h2⟩
theorem DrH.fn {d m ds : Nat} {op : Op} {ty : TypeId} {pos : String} {after : Array Edge} {guard : Option (Nat × Bool)} {g : Value → Value} (hm : dstAt l m = some ds)
 (h1 : ∀ w' Z, Ext w1 w' → ZB w1 w' Z → factsI l cs w1 i (depsOf { dst := some d, op := op, type := ty, pos := pos, after := after, guard := guard }) F Z w' → GOp P l { dst := some d, op := op, type := ty, pos := pos, after := after, guard := guard } e w' fun v w'' => Ext w' w'' ∧ v = g (e ds))
 (h2 : DrH P l cs w1 K r Φs (upd e d (g (e ds))) F (i + 1)) : DrH P l cs w1 K ({ dst := some d, op := op, type := ty, pos := pos, after := after, guard := guard } :: r) (.fn m g :: Φs) e F i := ⟨ds, hm, h1, h2⟩
theorem DrH.rel {d : Nat} {op : Op} {ty : TypeId} {pos : String} {after : Array Edge} {guard : Option (Nat × Bool)} {Φ : Value → (Nat → Prop) → World → Prop} {ft : Value → List (Option Nat)}
 (h1 : ∀ w' Z, Ext w1 w' → ZB w1 w' Z → factsI l cs w1 i (depsOf { dst := some d, op := op, type := ty, pos := pos, after := after, guard := guard }) F Z w' → GOp P l { dst := some d, op := op, type := ty, pos := pos, after := after, guard := guard } e w' fun v w'' => Made (feet (cs.getD i []) F) (ft v) Z w' w'' (Φ v))
 (h2 : ∀ v, DrH P l cs w1 K r Φs (upd e d v) (⟨i, Φ v, ft v⟩ :: F) (i + 1)) : DrH P l cs w1 K ({ dst := some d, op := op, type := ty, pos := pos, after := after, guard := guard } :: r) (.rel Φ ft :: Φs) e F i := ⟨h1, h2⟩
theorem DrH.fin (h : ∀ w' Z, Ext w1 w' → ZB w1 w' Z → factsE cs w1 F Z w' → apartsE cs F → K e w') : DrH P l cs w1 K [] Φs e F i := h
theorem DrH.fin0 (h : ∀ w' Z, Ext w1 w' → ZB w1 w' Z → factsE cs w1 F Z w' → apartsE cs F → Rl P l r K e w') : DrH P l cs w1 (RlL P l K [] r) [] Φs e F i := fun w' Z h1 h2 h3 h4 => RlL_nil (h w' Z h1 h2 h3 h4)
end
section
variable {P : Program} {l : List Oper} {K : Env → World → Prop} {r : List Oper} {e : Env} {w : World} {lt : List Nat}
theorem LateP.nil : LateP P l [] e w := fun _ h => by cases h
theorem LateP.cons {i : Nat} {o : Oper} {d : Nat} (ho : l[i]? = some o) (hd : o.dst = some d) (h : GOp P l o e w fun v w' => v = e d ∧ w' = w) (hr : LateP P l lt e w) : LateP P l (i :: lt) e w := fun j hj o' ho' => by
 rcases List.mem_cons.1 hj with rfl | hj
 · rw [ho] at ho'; cases ho'
   exact GOp.mono h fun v w' h' => ⟨⟨d, hd, h'.1⟩, h'.2⟩
 · exact hr j hj o' ho'
theorem RlL.op {d : Nat} {op : Op} {ty : TypeId} {pos : String} {after : Array Edge}
 (h : OpY P op ty (ev e) w fun v w' => LateP P l (lt.filter fun i => !memN i (depsOf { dst := some d, op := op, type := ty, pos := pos, after := after, guard := none })) (upd e d v) w' ∧ RlL P l K (lt.filter fun i => !memN i (depsOf { dst := some d, op := op, type := ty, pos := pos, after := after, guard := none })) r (upd e d v) w') :
 RlL P l K lt ({ dst := some d, op := op, type := ty, pos := pos, after := after, guard := none } :: r) e w := GOp.op h
theorem RlL.op0 {op : Op} {ty : TypeId} {pos : String} {after : Array Edge}
 (h : OpY P op ty (ev e) w fun _ w' => LateP P l (lt.filter fun i => !memN i (depsOf { dst := none, op := op, type := ty, pos := pos, after := after, guard := none })) e w' ∧ RlL P l K (lt.filter fun i => !memN i (depsOf { dst := none, op := op, type := ty, pos := pos, after := after, guard := none })) r e w') :
 RlL P l K lt ({ dst := none, op := op, type := ty, pos := pos, after := after, guard := none } :: r) e w := GOp.op h
def tg (i : Nat) : Value → Value
 | .tuple vs => vs.getD i undef
 | _ => undef
end
end Go.X
set_option linter.unusedSimpArgs false
set_option linter.unusedVariables false
namespace Go.X
open Go Go.RowKit
theorem one_cells {v : Value} (h : one v = true) : v.cells = #[v] := by
 cases v <;> first | rfl | (simp [one, Value.oneCell'] at h)
theorem Loc.begin {X : List (Option Nat)} {C : List Cont} {w : World} (h : Owns w X C) (hd : Distinct X) : Loc X [] w w X C :=
 ⟨rfl, rfl, rfl, Nat.le_refl _, fun _ _ _ => rfl, h, fun _ hb => .inl hb, hd, fun _ _ h => (by cases h), fun _ h => (by cases h)⟩
def osv : Option Nat → Nat → Nat → Nat → Value
 | none, _, _, _ => .slice none 0 0
 | some b, o, n, cap => .slice (some ⟨b, o, none⟩) n cap
theorem osv_one (ob : Option Nat) (o n cap : Nat) : one (osv ob o n cap) = true := by cases ob <;> rfl
theorem osv_zero (ob : Option Nat) (n cap : Nat) : osv ob 0 n cap = sv ob n cap := by cases ob <;> rfl
section
variable {P : Program} {ty : TypeId} {ρ : Operand → Value} {w w0 : World} {R : Value → World → Prop} {X : List (Option Nat)} {O : List (Option Nat)} {C : List Cont} {α : Type} {r : Rep α} {H : Hp}
theorem Loc.row_some (hL : Loc X [] w0 w O C) (i : Nat) {ob : Option Nat} {cs : List Value} (hO : O[i]? = some ob) (hC : C[i]? = some (.cells cs)) (h : 0 < cs.length) : ∃ b, ob = some b := by
 have := hL.at i hO hC
 cases ob with
 | none => have h0 : cs = [] := this; rw [h0] at h; simp at h
 | some b => exact ⟨b, rfl⟩
theorem row_pos {pre cs sp : List Value} {xs : List α} {n : Nat} {a : α} (hE : Els r H cs xs) (hn : xs[n]? = some a) (hz : 0 < r.sz) : 0 < (pre ++ (cs ++ sp)).length := by
 have h1 := hE.length
 have h2 : n < xs.length := (List.getElem?_eq_some_iff.1 hn).1
 have : 1 * 1 ≤ xs.length * r.sz := Nat.mul_le_mul (by omega) hz
 simp; omega
theorem OpY.ldRo1 {t : TypeId} {x : Operand} {d : TypeDesc} {b o : Nat} {v : Value} (hd : P.underlying t = some d) (hg : aggD d = false) (hx : ρ x = .pointer (some ⟨b, o, none⟩)) (hle : Le H (view [] w)) (hA : At H b o [v]) (h : R v w) : OpY P (.load t x) ty ρ w R :=
 OpY.load_at hd hg hx (cellH_le hle (hA.get 0 rfl)) h
theorem OpY.ldRoA {t : TypeId} {x : Operand} {d : TypeDesc} {b o : Nat} {vs : List Value} {sz by' : Nat} {z : Value} (hd : P.underlying t = some d) (hg : aggD d = true) (ti : TI P t sz by' z) (hx : ρ x = .pointer (some ⟨b, o, none⟩)) (hl : vs.length = sz) (hle : Le H (view [] w)) (hA : At H b o vs) (h : R (.agg vs.toArray) w) : OpY P (.load t x) ty ρ w R :=
 OpY.load_at_agg hd hg ti hx hl (hA.mono hle) h
theorem OpY.ldBox1 {t : TypeId} {x : Operand} {d : TypeDesc} {b o : Nat} {cs : List Value} {v : Value} (hd : P.underlying t = some d) (hg : aggD d = false) (hx : ρ x = .pointer (some ⟨b, o, none⟩)) (hc : OwnC w (some b) (.cells cs))
 (hv : cs[o]? = some v) (h : R v w) : OpY P (.load t x) ty ρ w R := by
 have := run_loadVar_one (P := P) hd hg (cell_own hc hv)
 simp only [OpY, bareOp, execOp, hx]
 simp [Instr.loadAt, Instr.sureAddr, this, upon]
 exact h
theorem OpY.ldBoxA {t : TypeId} {x : Operand} {d : TypeDesc} {b o : Nat} {cs vs : List Value} {sz by' : Nat} {z : Value} (hd : P.underlying t = some d) (hg : aggD d = true) (ti : TI P t sz by' z) (hx : ρ x = .pointer (some ⟨b, o, none⟩)) (hc : OwnC w (some b) (.cells cs))
 (hl : vs.length = sz) (hv : (cs.drop o).take vs.length = vs) (h : R (.agg vs.toArray) w) : OpY P (.load t x) ty ρ w R := by
 have hc' : ∀ j v, vs[j]? = some v → w.cell? ((⟨b, o, none⟩ : Addr).add j) = some v := by
  intro j v hj
  rw [add_plain]
  refine cell_own hc ?_
  rw [← hj]; conv => rhs; rw [← hv]
  rw [List.getElem?_take, List.getElem?_drop, if_pos]
  rcases Nat.lt_or_ge j vs.length with h | h
  · exact h
  · rw [List.getElem?_eq_none h] at hj; cases hj
 have := run_loadVar_agg (P := P) hd hg ti hl hc'
 simp only [OpY, bareOp, execOp, hx]
 simp [Instr.loadAt, Instr.sureAddr, this, upon]
 exact h
theorem elem_part {l vs us : List Value} {p q : Nat} (h : (l.drop p).take vs.length = vs) (hu : (vs.drop q).take us.length = us) : (l.drop (p + q)).take us.length = us := by
 rw [← List.drop_drop]
 generalize l.drop p = m at *
 have e : (m.take vs.length).drop q = vs.drop q := by rw [h]
 rw [List.drop_take] at e
 rw [← e, List.take_take] at hu
 have hk : us.length ≤ vs.length - q := by
  have := congrArg List.length hu
  rw [List.length_take] at this
  omega
 rw [Nat.min_eq_left hk] at hu
 exact hu
theorem row_elem {pre cs sp : List Value} {xs : List α} {n : Nat} {a : α} (hE : Els r H cs xs) (hn : xs[n]? = some a) : ∃ vs, vs.length = r.sz ∧ r.R H vs a ∧ ((pre ++ (cs ++ sp)).drop (pre.length + n * r.sz)).take vs.length = vs := by
 obtain ⟨vs, h1, h2, h3⟩ := hE.get hn
 refine ⟨vs, h2, h3, ?_⟩
 have hlt : n < xs.length := (List.getElem?_eq_some_iff.1 hn).1
 have hlen := hE.length
 have hb : n * r.sz + r.sz ≤ cs.length := by rw [hlen, ← Nat.succ_mul]; exact Nat.mul_le_mul_right _ hlt
 rw [← List.drop_drop, List.drop_left' rfl, List.drop_append_of_le_length (by omega), List.take_append_of_le_length (by rw [List.length_drop, h2]; omega), h2, h1]
theorem OpY.stRow {t : TypeId} {x y : Operand} {b q n by' : Nat} {z v : Value} {pre cs sp vs : List Value} {xs : List α} {a : α} (ti : TI P t r.sz by' z) (hx : ρ x = .pointer (some ⟨b, q, none⟩)) (hy : ρ y = v) (hv : v.cells = vs.toArray) (hR : r.R H vs a)
 (hL : Loc X [] w0 w O C) (i : Nat) (hO : O[i]? = some (some b)) (hC : C[i]? = some (.cells (pre ++ (cs ++ sp)))) (hE : Els r H cs xs) (hn : n < xs.length) (hq : q = pre.length + n * r.sz)
 (h : ∀ w' cs', Loc X [] w0 w' O (C.set i (.cells (pre ++ (cs' ++ sp)))) → Step O O w w' → Els r H cs' (xs.set n a) → cs'.length = cs.length → R undef w') : OpY P (.store t x y) ty ρ w R := by
 have hlen := hE.length
 have hvl := r.len _ _ _ hR
 have hb : n * r.sz + r.sz ≤ cs.length := by rw [hlen, ← Nat.succ_mul]; exact Nat.mul_le_mul_right _ hn
 have hp : putAt (pre ++ (cs ++ sp)) q vs = pre ++ (putAt cs (n * r.sz) vs ++ sp) := by
  subst hq
  rw [putAt_eq _ _ _ (by simp [hvl]; omega), putAt_eq _ _ _ (by rw [hvl]; exact hb), hvl]
  rw [List.take_append, List.take_of_length_le (by omega), show pre.length + n * r.sz - pre.length = n * r.sz by omega,
   List.take_append_of_le_length (by omega), List.drop_append, List.drop_of_length_le (by omega), List.nil_append,
   show pre.length + n * r.sz + r.sz - pre.length = n * r.sz + r.sz by omega, List.drop_append_of_le_length hb]
  simp
 refine OpY.store ti hx hy hv hvl (r.one _ _ _ hR) hL i hO hC (by subst hq; simp [hvl]; omega) fun w' h1 h2 => ?_
 rw [hp] at h1
 exact h w' _ h1 h2 (hE.set hR hn) (length_putAt _ _ _)
theorem OpY.lenRo {x : Operand} {t el : TypeId} {v : Value} {xs : List α} (hu : P.underlying t = some (.slice el)) (hx : ρ x = v) (hS : Rs r H v xs) (h : R (.int .i64 (xs.length : Int)) w) :
 OpY P (.call { callee := .builtin .len, args := #[x], argTypes := #[t] }) ty ρ w R := OpY.len_sl hu hx hS h
theorem OpY.lenRow {x : Operand} {t el : TypeId} {o n cap : Nat} {ob : Option Nat} {pre cs sp : List Value} {xs : List α} (hu : P.underlying t = some (.slice el)) (hx : ρ x = osv ob o n cap) (hc : OwnC w ob (.cells (pre ++ (cs ++ sp)))) (hE : Els r H cs xs) (hz : (r.sz == 0) = false) (hn : n = xs.length)
    (h : R (.int .i64 (xs.length : Int)) w) : OpY P (.call { callee := .builtin .len, args := #[x], argTypes := #[t] }) ty ρ w R := by
  have hpos : 0 < r.sz := by have : ¬ r.sz = 0 := by simpa using hz
                             omega
  cases ob with
  | none =>
    have h0 : pre ++ (cs ++ sp) = [] := hc
    have hxs : xs.length = 0 := by
      rcases Nat.eq_zero_or_pos xs.length with h1 | h1
      · exact h1
      · have := row_pos (pre := pre) (sp := sp) hE (List.getElem?_eq_getElem h1) hpos
        rw [h0] at this; simp at this
    exact OpY.len_slice hu hx (by rw [hxs] at h; exact h)
  | some b => subst hn; exact OpY.len_slice hu hx h
theorem OpY.lenStr {x : Operand} {t : TypeId} {s : List UInt8} (hu : P.underlying t = some .string) (hx : ρ x = .string (s8 s)) (h : R (.int .i64 (s.length : Int)) w) :
 OpY P (.call { callee := .builtin .len, args := #[x], argTypes := #[t] }) ty ρ w R := OpY.len_str hu hx (by rw [s8_size]; exact h)
theorem Src.row {o n cap : Nat} {ob : Option Nat} {pre cs sp : List Value} {xs : List α} (hc : OwnC w ob (.cells (pre ++ (cs ++ sp)))) (hE : Els r H cs xs) (hz : (r.sz == 0) = false) (ho : o = pre.length) (hn : n = xs.length) : Src w (osv ob o n cap) xs.length r.sz cs := by
  have hpos : 0 < r.sz := by have : ¬ r.sz = 0 := by simpa using hz
                             omega
  refine ⟨hE.length, ?_⟩
  cases ob with
  | none =>
    have h0 : pre ++ (cs ++ sp) = [] := hc
    left
    have hx0 : xs.length = 0 := by
     rcases Nat.eq_zero_or_pos xs.length with h1 | h1
     · exact h1
     · have := row_pos (pre := pre) (sp := sp) hE (List.getElem?_eq_getElem h1) hpos
       rw [h0] at this; simp at this
    refine ⟨⟨none, by simp [osv]⟩, ?_⟩
    rcases Nat.eq_zero_or_pos xs.length with h1 | h1
    · exact h1
    · have := row_pos (pre := pre) (sp := sp) hE (List.getElem?_eq_getElem h1) hpos
      rw [h0] at this; simp at this
  | some b =>
    subst hn; subst ho
    refine .inr ⟨b, _, cap, rfl, fun j u hj => cell_own hc ?_⟩
    have hjl : j < cs.length := (List.getElem?_eq_some_iff.1 hj).1
    rw [List.getElem?_append_right (by omega), show pre.length + j - pre.length = j by omega, List.getElem?_append_left hjl, hj]
theorem OpY.apRow {t el : TypeId} {a c : Operand} {by' n cap i : Nat} {z x : Value} {ob : Option Nat} {cs sp ds : List Value} {xs ys : List α} (hu : P.underlying t = some (.slice el)) (ti : TI P el r.sz by' z) (hzc : z.cells.size = r.sz) (hz : (r.sz == 0) = false)
    (ha : ρ a = osv ob 0 n cap) (hc : ρ c = x) (hL : Loc X [] w0 w O C) (hO : O[i]? = some ob) (hC : C[i]? = some (.cells ([] ++ (cs ++ sp)))) (hE : Els r H cs xs) (hn : n = xs.length) (hcap : (cs ++ sp).length = cap * r.sz) (hsrc : Src w x ys.length r.sz ds) (hD : Els r H ds ys)
    (h63 : xs.length + ys.length ≤ 9223372036854775807) (hb : (xs.length + ys.length) * by' ≤ 140737488355328)
    (h : ∀ ob' cap' sp' ds' w', Els r H ds' (xs ++ ys) → (ds' ++ sp').length = cap' * r.sz → Loc X [] w0 w' (O.set i ob') (C.set i (.cells ([] ++ (ds' ++ sp')))) → Step O (O.set i ob') w w' → R (osv ob' 0 (xs ++ ys).length cap') w') :
    OpY P (.call { callee := .builtin .append, args := #[a, c], argTypes := #[t, t] }) ty ρ w R := by
  have hpos : 0 < r.sz := by have : ¬ r.sz = 0 := by simpa using hz
                             omega
  subst hn
  refine OpY.append (m := ys.length) (xs := cs) (sp := sp) hu ti hzc hpos (by rw [ha, osv_zero]) hc hL hO hC hE.length hcap hsrc hD.ones h63 hb fun ob' cap' sp' w' h1 h2 h3 => ?_
  have := h ob' cap' sp' (cs ++ ds) w' (hE.append hD) h1 h2 h3
  rw [osv_zero, List.length_append] at this
  exact this
theorem madeCells_flat (zc : List Value) (n : Nat) : (madeCells zc.toArray (n * zc.length)).toList = (List.replicate n zc).flatten := by
 apply List.ext_getElem?
 intro i
 simp only [madeCells, Array.toList_map, List.getElem?_map, Array.toList_range]
 induction n generalizing i with
 | zero => simp
 | succ n ih =>
  rw [List.replicate_succ, List.flatten_cons]
  by_cases hi : i < zc.length
  · rw [List.getElem?_append_left hi, List.getElem?_range (by rw [Nat.add_mul]; omega)]
    simp [Nat.mod_eq_of_lt hi, hi]
  · rw [List.getElem?_append_right (by omega), ← ih (i - zc.length)]
    by_cases hlt : i < (n + 1) * zc.length
    · rw [Nat.add_mul, Nat.one_mul] at hlt
      rw [List.getElem?_range (by rw [Nat.add_mul]; omega), List.getElem?_range (by omega)]
      simp only [Option.map_some]
      congr 2
      show i % zc.length = (i - zc.length) % zc.length
      rw [Nat.mod_eq_sub_mod (by omega)]
    · rw [Nat.add_mul, Nat.one_mul] at hlt
      rw [List.getElem?_eq_none (by simp [Nat.add_mul]; omega), List.getElem?_eq_none (by simp; omega)]
theorem OpY.mkRow {t el : TypeId} {a c : Operand} {k k' : IntKind} {i : Int} {m by' : Nat} {z : Value} {zc : List Value} {x : α} (hu : P.underlying t = some (.slice el)) (ti : TI P el r.sz by' z) (hzc : z.cells = zc.toArray) (hR : r.R H zc x)
 (ha : ρ a = .int k i) (hc : ρ c = .int k' i) (hi : i = (m : Int)) (hb : by' * m ≤ 281474976710656) (hm : m ≤ 9223372036854775807) (hL : Loc X [] w0 w O C)
 (h : ∀ b w' cs, Els r H cs (List.replicate m x) → (cs ++ []).length = m * r.sz → Loc X [] w0 w' (some b :: O) (.cells ([] ++ (cs ++ [])) :: C) → Step O (some b :: O) w w' → R (osv (some b) 0 (List.replicate m x).length m) w') :
 OpY P (.makeSlice t a c) ty ρ w R := by
 obtain ⟨inf, hi', hs, hby, hzz⟩ := ti
 subst hi
 have hl := r.len _ _ _ hR
 have hb' : (inf.bytes : Int) * (m : Int) ≤ 281474976710656 := by
  subst hby
  have : ((inf.bytes * m : Nat) : Int) ≤ 281474976710656 := by omega
  rwa [Int.natCast_mul] at this
 have hr := run_make (P := P) w t el inf z hu hi' hzz k k' (m : Int) (m : Int) (by omega) (by omega) hb' (by omega)
 simp only [Int.toNat_natCast, hs] at hr
 have hfl := madeCells_flat zc m
 rw [hl, ← hzc] at hfl
 have hal := hL.alloc (o := .cells (madeCells z.cells (m * r.sz)) el) (c := .cells (List.replicate m zc).flatten) (by rw [← hfl]; exact ownC_alloc w _ el)
 simp only [OpY, bareOp, execOp, ha, hc]
 simp [hr, upon]
 have hE := Els.replicate (r := r) hR m
 have hln := hE.length
 have := h _ _ _ hE (by rw [List.append_nil, hln]; simp) (by rw [List.append_nil]; exact hal.1) hal.2
 rw [List.length_replicate] at this
 exact this
theorem OpY.litRow {t el : TypeId} {n : Nat} {parts : List (Nat × Operand)} {by' : Nat} {z : Value} {vs : List Value} {css : List (List Value)} {xs : List α} (hu : P.underlying t = some (.slice el)) (ti : TI P el r.sz by' z) (hn : n * r.sz ≤ 16777216)
 (hp : (parts.map fun p => (p.1, ρ p.2)) = numbered 0 vs) (hvs : vs.length = n) (hc : cellsAre r.sz vs css) (h0 : 0 < n * r.sz) (hE : Els r H css.flatten xs) (hxs : xs.length = n) (hL : Loc X [] w0 w O C)
 (h : ∀ b w', (css.flatten ++ []).length = n * r.sz → Loc X [] w0 w' (some b :: O) (.cells ([] ++ (css.flatten ++ [])) :: C) → Step O (some b :: O) w w' → R (osv (some b) 0 n n) w') : OpY P (.buildSlice t n parts.toArray) ty ρ w R := by
 refine OpY.buildSliceV hu ti hn hp hvs hc h0 hL fun b w' h1 h2 => ?_
 refine h b w' (by rw [List.append_nil, hE.length, hxs]) (by rw [List.append_nil]; exact h1) h2
theorem OpY.litRow0 {t el : TypeId} {sz by' : Nat} {z : Value} (hu : P.underlying t = some (.slice el)) (ti : TI P el sz by' z) (hL : Loc X [] w0 w O C)
 (h : ∀ b w', Loc X [] w0 w' (some b :: O) (.cells ([] ++ ([] ++ [])) :: C) → Step O (some b :: O) w w' → R (osv (some b) 0 0 0) w') : OpY P (.buildSlice t 0 #[]) ty ρ w R :=
 OpY.buildSlice0 hu ti hL h
theorem OpY.cutRo {t el : TypeId} {x : Operand} {lo hi : Option Operand} {by' l h' : Nat} {z v : Value} {xs : List α} (hu : P.underlying t = some (.slice el)) (ti : TI P el r.sz by' z)
    (hx : ρ x = v) (hS : Rs r H v xs) (hlo : (lo = none ∧ l = 0) ∨ ∃ k y, lo = some y ∧ ρ y = .int k ((l : Nat) : Int)) (hhi : (hi = none ∧ h' = xs.length) ∨ ∃ k y, hi = some y ∧ ρ y = .int k ((h' : Nat) : Int)) (h1 : l ≤ h') (h2 : h' ≤ xs.length)
    (hk : ∀ v', Rs r H v' ((xs.take h').drop l) → R v' w) : OpY P (.slice t x lo hi none) ty ρ w R := by
  obtain ⟨inf, hi', hs, _, _⟩ := ti
  obtain ⟨a, len, cap, rfl⟩ : ∃ a len cap, v = .slice a len cap := by
    rcases hS with ⟨⟨oa, h⟩, _⟩ | ⟨b, o, c, h, _⟩ <;> exact ⟨_, _, _, h⟩
  obtain ⟨hl, hc, hcut⟩ := Sl.cut hS h1 h2
  have hr := run_sliceAt (P := P) (w := w) hu hi' a len cap l h' (lo.map ρ) (hi.map ρ)
    (by rcases hlo with ⟨rfl, rfl⟩ | ⟨k, y, rfl, hy⟩
        · exact .inl ⟨rfl, rfl⟩
        · exact .inr ⟨k, by simp [hy]⟩)
    (by rcases hhi with ⟨rfl, rfl⟩ | ⟨k, y, rfl, hy⟩
        · exact .inl ⟨rfl, hl.symm⟩
        · exact .inr ⟨k, by simp [hy]⟩) h1 hc
  simp only [OpY, bareOp, execOp, hx]
  simp only [Option.map_none, Sem.run_bind, hr, Result.andThen_ok, Sem.run_pure, upon]
  rw [hs]
  exact hk _ hcut
def fillL (pl : List (Nat × Nat)) (cells : List Value) : List (Nat × List Value) → Option (List Value)
 | [] => some cells
 | (i, cs) :: r => match pl[i]? with
  | none => none
  | some (off, size) => bif !(Nat.beq cs.length size) || Nat.blt cells.length (off + cs.length) then none else fillL pl (putAt cells off cs) r
def partsAre : List Value → List (List Value) → Prop
 | [], [] => True
 | v :: vs, c :: cs => v.cells = c.toArray ∧ partsAre vs cs
 | _, _ => False
theorem fill_L {pl : List (Nat × Nat)} : ∀ (is : List Nat) (vs : List Value) (css : List (List Value)) (cells cs : List Value), is.length = vs.length → partsAre vs css → fillL pl cells (is.zip css) = some cs → Instr.fill (pl[·]?) cells.toArray (is.zip vs) = some cs.toArray
 | [], [], [], cells, cs, _, _, h => by simp [fillL] at h; subst h; rfl
 | i :: is, v :: vs, c :: css, cells, cs, hl, hp, h => by
  simp only [List.zip_cons_cons, fillL] at h
  simp only [List.zip_cons_cons, Instr.fill]
  cases hpl : pl[i]? with
  | none => rw [hpl] at h; cases h
  | some q =>
   obtain ⟨off, size⟩ := q
   rw [hpl] at h
   simp only at h
   cases hb : (!(Nat.beq c.length size) || Nat.blt cells.length (off + c.length)) with
   | true => rw [hb] at h; cases h
   | false =>
    rw [hb] at h
    simp only [cond_false] at h
    have h1 : c.length = size ∧ off + c.length ≤ cells.length := by
     simp only [Bool.or_eq_false_iff, Bool.not_eq_false'] at hb
     refine ⟨Nat.eq_of_beq_eq_true hb.1, ?_⟩
     rcases Nat.lt_or_ge cells.length (off + c.length) with h2 | h2
     · have : Nat.blt cells.length (off + c.length) = true := Nat.ble_eq_true_of_le h2
       rw [this] at hb; cases hb.2
     · exact h2
    have hv := hp.1
    have hsz : v.cells.size = c.length := by rw [hv]; simp
    simp only
    rw [if_neg (by simp [hsz, h1.1]; omega)]
    have hf := zipfold c cells off 0
    rw [Nat.add_zero] at hf
    rw [hv, show (c.toArray.zipIdx.foldl (fun (cs : Array Value) (x : Value × Nat) => cs.setIfInBounds (off + x.2) x.1) cells.toArray) = (putAt cells off c).toArray by
     rw [← hf, ← Array.foldl_toList]; simp]
    exact fill_L is vs css _ cs (by simpa using hl) hp.2 h
 | [], _ :: _, _, _, _, hl, _, _ => by simp at hl
 | _ :: _, [], _, _, _, hl, _, _ => by simp at hl
 | [], [], _ :: _, _, _, _, hp, _ => hp.elim
 | _ :: _, _ :: _, [], _, _, _, hp, _ => hp.elim
def placesOf (P : Program) (fs : List Field) : Option (List (Nat × Nat)) := fs.mapM fun f => (P.info? f.type).map fun i => (f.offset, i.size)
def placesT (P : Program) (t : TypeId) : Option (List (Nat × Nat)) := match P.underlying t with
 | some (.struct fs) => placesOf P fs.toList
 | _ => none
theorem OpY.build {t : TypeId} {pl : List (Nat × Nat)} {sz by' : Nat} {z : Value} {zc cs : List Value} {is : List Nat} {vs : List Value} {css : List (List Value)} {parts : List (Nat × Operand)} (hpl : placesT P t = some pl) (ti : TI P t sz by' z) (hz : z.cells = zc.toArray)
 (hp : (parts.map fun p => (p.1, ρ p.2)) = is.zip vs) (hil : is.length = vs.length) (hc : partsAre vs css) (hf : fillL pl zc (is.zip css) = some cs) (h : R (.agg cs.toArray) w) : OpY P (.build t parts.toArray) ty ρ w R := by
 obtain ⟨inf, hi, hs, hby, hzz⟩ := ti
 have hfill := fill_L is vs css zc cs hil hc hf
 unfold placesT at hpl
 split at hpl
 · rename_i fs hu
   have hpl' : (fs.mapM (fun (f : Field) => do pure (f.offset, ← sizeOf f.type)) : Sem (Array (Nat × Nat))).run P w = .ok pl.toArray w := by
    have := run_places (P := P) w fs.toList pl hpl
    have e : (fun (f : Field) => (do pure (f.offset, ← sizeOf f.type) : Sem (Nat × Nat))) = fun f => Prod.mk f.offset <$> sizeOf f.type := by
     funext f; rfl
    rw [e, ← Array.toArray_toList (xs := fs), List.mapM_toArray, Sem.run_map, this]
    rfl
   have hr : (Instr.build t ((parts.toArray.map fun (x : Nat × Operand) => (x.1, ρ x.2)))).run P w = .ok (.agg cs.toArray) w := by
    have hlist : ((parts.toArray.map fun (x : Nat × Operand) => (x.1, ρ x.2))).toList = is.zip vs := by simpa using hp
    have hfn : (fun (i : Nat) => pl.toArray[i]?) = (fun (i : Nat) => pl[i]?) := by funext i; simp
    simp only [Instr.build, Sem.run_bind, zeroValue, typeInfo, run_program, Result.andThen_ok, hi, Sem.run_pure, hzz, run_underlying hu, hpl', hz, hlist, hfn, hfill]
   simp only [OpY, bareOp, execOp]
   simp only [Sem.run_bind, hr, Result.andThen_ok, Sem.run_pure, upon]
   exact h
 · cases hpl
def imax (x y : Int) : Int := if y > x then y else x
def imin (x y : Int) : Int := if y < x then y else x
theorem OpY.max {a b : Operand} {ats : Array TypeId} {k k' : IntKind} {x y : Int} (hx : ρ a = .int k x) (hy : ρ b = .int k' y) (h : R (.int k (imax x y)) w) : OpY P (.call { callee := .builtin .max, args := #[a, b], argTypes := ats }) ty ρ w R := by
 simp only [OpY, bareOp, execOp, resolve, invoke, builtin]
 simp [hx, hy, Builtin.max_, Builtin.max2, upon]
 exact h
theorem OpY.min {a b : Operand} {ats : Array TypeId} {k k' : IntKind} {x y : Int} (hx : ρ a = .int k x) (hy : ρ b = .int k' y) (h : R (.int k (imin x y)) w) : OpY P (.call { callee := .builtin .min, args := #[a, b], argTypes := ats }) ty ρ w R := by
 simp only [OpY, bareOp, execOp, resolve, invoke, builtin]
 simp [hx, hy, Builtin.min_, Builtin.min2, upon]
 exact h
end
theorem res_boxA {P : Program} {w : World} {t : TypeId} {d : TypeDesc} {b sz by' : Nat} {z : Value} {cs : List Value} (hd : P.underlying t = some d) (hg : aggD d = true) (ti : TI P t sz by' z) (hc : OwnC w (some b) (.cells cs)) (hl : cs.length = sz) : (loadVar t ⟨b, 0, none⟩).run P w = .ok (.agg cs.toArray) w :=
 run_loadVar_agg hd hg ti hl (own_cells hc rfl)
end Go.X
set_option linter.unusedSimpArgs false
set_option linter.unusedVariables false
namespace Go.X
open Go Go.RowKit
def Keep (s : Nat) (O : List (Option Nat)) (w : World) (O' : List (Option Nat)) (w' : World) : Prop := ∀ S, Le (Hv s S O w) (Hv s S O' w')
def NewOwn (w w' : World) (OB : List (Option Nat)) (CB : List Cont) : Prop := (∀ b, some b ∈ OB → w.heap.size ≤ b) ∧ Distinct OB ∧ Owns w' OB CB
def pickL {α : Type} (l : List α) : List Nat → Option (List α)
 | [] => some []
 | i :: r => match l[i]?, pickL l r with
  | some x, some y => some (x :: y)
  | _, _ => none
def nodupB : List Nat → Bool
 | [] => true
 | i :: r => !(memN i r) && nodupB r
section
variable {P : Program} {s : Nat} {S : Nat → Prop} {X O O' O'' : List (Option Nat)} {C C' : List Cont} {w w' w'' w0 : World} {α : Type} {r : Rep α}
theorem Keep.refl : Keep s O w O w := fun _ => Le.refl _
theorem Keep.step (h : Step O O' w w') : Keep s O w O' w' := fun _ => Hv.step h
theorem Keep.ext (h : Ext w w') : Keep s O w O w' := fun _ => Hv.ext h
theorem ks (w : World) {O O' : List (Option Nat)} {w1 w2 : World} (h : Step O O' w1 w2) : Keep w.heap.size O w1 O' w2 := Keep.step h
theorem ke {X F : List (Option Nat)} {w0 w1 w2 : World} {O : List (Option Nat)} {C : List Cont} (hL : Loc X F w0 w1 O C) (h : Ext w1 w2) : Keep w0.heap.size O w1 O w2 := Keep.ext h
theorem Keep.trans (h : Keep s O w O' w') (h' : Keep s O' w' O'' w'') : Keep s O w O'' w'' := fun S => Le.trans (h S) (h' S)
theorem Hv.out : Le (Hv s S O w) (Hv s S [] w) := Hv.sub (fun b h => by cases h)
theorem own_at {b : Nat} {cs : List Value} (hc : OwnC w (some b) (.cells cs)) {H : Hp} (hH : ∀ o, w.heap[b]? = some o → H b = some o) : At H b 0 cs := by
 obtain ⟨t, lo, hi, h1, _⟩ := hc
 intro i hi
 simp [cellH, hH _ h1]
theorem row_rs {H : Hp} {b o n cap : Nat} {pre cs sp : List Value} {xs : List α} (hA : At H b 0 (pre ++ (cs ++ sp))) (hE : Els r H cs xs) (hz : (r.sz == 0) = false) (ho : o = pre.length) (hn : n = xs.length) (hcap : (cs ++ sp).length = cap * r.sz) : Rs r H (osv (some b) o n cap) xs := by
  have hpos : 0 < r.sz := by have : ¬ r.sz = 0 := by simpa using hz
                             omega
  subst ho; subst hn
  have hcx : xs.length ≤ cap := by
    have : xs.length * r.sz ≤ cap * r.sz := by rw [← hcap, List.length_append, hE.length]; omega
    exact Nat.le_of_mul_le_mul_right this hpos
  refine Els.rs (pre := pre) hE ?_ hcx
  have := hA.part (us := cs) pre.length (by rw [List.drop_left' rfl, List.take_left' rfl])
  rwa [Nat.zero_add] at this
theorem row_nil {H H' : Hp} {o n cap : Nat} {pre cs sp : List Value} {xs : List α} (h0 : pre ++ (cs ++ sp) = []) (hE : Els r H cs xs) (hz : (r.sz == 0) = false) : Rs r H' (osv none o n cap) xs := by
  have hpos : 0 < r.sz := by have : ¬ r.sz = 0 := by simpa using hz
                             omega
  have : xs = [] := by
    apply List.eq_nil_of_length_eq_zero
    rcases Nat.eq_zero_or_pos xs.length with h1 | h1
    · exact h1
    · have := row_pos (pre := pre) (sp := sp) hE (List.getElem?_eq_getElem h1) hpos
      rw [h0] at this; simp at this
  subst this; exact Rs.nil
theorem Loc.freezeRow (hL : Loc [] [] w0 w O C) (i : Nat) {ob : Option Nat} {o n cap : Nat} {pre cs sp : List Value} {xs : List α} (hO : O[i]? = some ob) (hC : C[i]? = some (.cells (pre ++ (cs ++ sp)))) (hE : Els r (Hv w0.heap.size S O w) cs xs) (hz : (r.sz == 0) = false) (ho : o = pre.length) (hn : n = xs.length) (hcap : (cs ++ sp).length = cap * r.sz) :
 Rs r (Hv w0.heap.size S (O.eraseIdx i) w) (osv ob o n cap) xs := by
 cases ob with
 | none => exact row_nil (hL.at i hO hC) hE hz
 | some b =>
  have hge : w0.heap.size ≤ b := by
   rcases hL.fresh b (List.mem_of_getElem? hO) with h | h
   · cases h
   · exact h
  refine row_rs (own_at (hL.at i hO hC) fun q hq => vw_mk ⟨.inr hge, hL.dist.not_mem_erase hO⟩ hq) (hE.mono (Hv.sub fun b hb => List.mem_of_mem_eraseIdx hb)) hz ho hn hcap
theorem pickL_mem {β : Type} {l : List β} : ∀ {is : List Nat} {l' : List β}, pickL l is = some l' → ∀ x ∈ l', ∃ i ∈ is, l[i]? = some x
 | [], l', h, x, hx => by simp [pickL] at h; subst h; cases hx
 | i :: is, l', h, x, hx => by
  simp only [pickL] at h
  cases h1 : l[i]? with
  | none => rw [h1] at h; cases h
  | some y =>
   cases h2 : pickL l is with
   | none => rw [h1, h2] at h; cases h
   | some l2 =>
    rw [h1, h2] at h; cases h
    rcases List.mem_cons.1 hx with rfl | hx
    · exact ⟨i, List.mem_cons_self, h1⟩
    · obtain ⟨j, hj, hjx⟩ := pickL_mem h2 x hx
      exact ⟨j, List.mem_cons_of_mem _ hj, hjx⟩
theorem dist_inj : ∀ {O : List (Option Nat)} {i j b : Nat}, Distinct O → O[i]? = some (some b) → O[j]? = some (some b) → i = j
 | [], _, _, _, _, h, _ => by simp at h
 | x :: O, 0, 0, _, _, _, _ => rfl
 | x :: O, 0, j + 1, b, hd, h1, h2 => by
  simp at h1; subst h1
  exact absurd (List.mem_of_getElem? (by simpa using h2)) hd.1
 | x :: O, i + 1, 0, b, hd, h1, h2 => by
  simp at h2; subst h2
  exact absurd (List.mem_of_getElem? (by simpa using h1)) hd.1
 | x :: O, i + 1, j + 1, b, hd, h1, h2 => by
  have hd' : Distinct O := by cases x with | none => exact hd | some y => exact hd.2
  have h1' : O[i]? = some (some b) := by simpa using h1
  have h2' : O[j]? = some (some b) := by simpa using h2
  exact congrArg (· + 1) (dist_inj hd' h1' h2')
theorem Owns.pick {w : World} {O : List (Option Nat)} {C : List Cont} (h : Owns w O C) : ∀ {is : List Nat} {O' : List (Option Nat)} {C' : List Cont}, pickL O is = some O' → pickL C is = some C' → Owns w O' C'
 | [], O', C', h1, h2 => by simp [pickL] at h1 h2; subst h1; subst h2; trivial
 | i :: is, O', C', h1, h2 => by
  simp only [pickL] at h1 h2
  cases e1 : O[i]? with
  | none => rw [e1] at h1; cases h1
  | some ob =>
   cases e2 : pickL O is with
   | none => rw [e1, e2] at h1; cases h1
   | some O2 =>
    rw [e1, e2] at h1; cases h1
    cases e3 : C[i]? with
    | none => rw [e3] at h2; cases h2
    | some c =>
     cases e4 : pickL C is with
     | none => rw [e3, e4] at h2; cases h2
     | some C2 =>
      rw [e3, e4] at h2; cases h2
      exact ⟨h.at i e1 e3, Owns.pick h e2 e4⟩
theorem Distinct.pick {O : List (Option Nat)} (h : Distinct O) : ∀ {is : List Nat} {O' : List (Option Nat)}, pickL O is = some O' → nodupB is = true → Distinct O'
 | [], O', h1, _ => by simp [pickL] at h1; subst h1; trivial
 | i :: is, O', h1, hn => by
  simp only [pickL] at h1
  simp only [nodupB, Bool.and_eq_true, Bool.not_eq_true'] at hn
  cases e1 : O[i]? with
  | none => rw [e1] at h1; cases h1
  | some ob =>
   cases e2 : pickL O is with
   | none => rw [e1, e2] at h1; cases h1
   | some O2 =>
    rw [e1, e2] at h1; cases h1
    have ih := Distinct.pick h e2 hn.2
    cases ob with
    | none => exact ih
    | some b =>
     refine ⟨fun hm => ?_, ih⟩
     obtain ⟨j, hj, hjx⟩ := pickL_mem e2 _ hm
     have := dist_inj h e1 hjx
     subst this
     rw [memN_iff.2 hj] at hn; cases hn.1
theorem Loc.pick (hL : Loc X [] w0 w O C) (is : List Nat) (hO : pickL O is = some O') (hC : pickL C is = some C') (hn : nodupB is = true) : Loc X [] w0 w O' C' ∧ Step O O' w w := by
 have hsub : ∀ b, b ∈ O' → b ∈ O := fun b hb => by
  obtain ⟨i, _, hi⟩ := pickL_mem hO b hb
  exact List.mem_of_getElem? hi
 exact ⟨⟨hL.os, hL.tape, hL.output, hL.size, hL.keep, hL.own.pick hO hC, fun b hb => hL.fresh b (hsub _ hb), hL.dist.pick hO hn, fun _ _ h => (by cases h), fun _ h => (by cases h)⟩,
  ⟨fun _ _ _ => rfl, fun b hb => .inl (hsub _ hb)⟩⟩
theorem Owns.append {w : World} : ∀ {O O' : List (Option Nat)} {C C' : List Cont}, Owns w O C → Owns w O' C' → Owns w (O ++ O') (C ++ C')
 | [], _, [], _, _, h => h
 | _ :: _, _, _ :: _, _, h, h' => ⟨h.1, h.2.append h'⟩
 | [], _, _ :: _, _, h, _ => h.elim
 | _ :: _, _, [], _, h, _ => h.elim
theorem Distinct.append : ∀ {O O' : List (Option Nat)}, Distinct O → Distinct O' → (∀ b, some b ∈ O → some b ∉ O') → Distinct (O ++ O')
  | [], _, _, h, _ => h
  | none :: O, O', h, h', hd => Distinct.append (O := O) h h' fun b hb => hd b (List.mem_cons_of_mem _ hb)
  | some x :: O, O', h, h', hd => ⟨fun hm => by
      rcases List.mem_append.1 hm with h1 | h1
      · exact h.1 h1
      · exact hd x List.mem_cons_self h1, Distinct.append (O := O) h.2 h' fun b hb => hd b (List.mem_cons_of_mem _ hb)⟩
theorem Loc.adoptL (hL : Loc X [] w0 w O C) (hE : Ext w w') {OB : List (Option Nat)} {CB : List Cont} (h : NewOwn w w' OB CB) : Loc X [] w0 w' (OB ++ O) (CB ++ C) ∧ Step O (OB ++ O) w w' := by
 have hL' := hL.ext hE
 refine ⟨⟨hL'.os, hL'.tape, hL'.output, hL'.size, hL'.keep, h.2.2.append hL'.own, fun b hb => ?_, h.2.1.append hL'.dist fun b hb hb' => ?_, fun _ _ h => (by cases h), fun _ h => (by cases h)⟩, ⟨fun k hk _ => hE.block k hk, fun b hb => ?_⟩⟩
 · rcases List.mem_append.1 hb with h1 | h1
   · exact .inr (Nat.le_trans hL.size (h.1 b h1))
   · exact hL'.fresh b h1
 · have := h.1 b hb; have := hL.own.lt b hb'; omega
 · rcases List.mem_append.1 hb with h1 | h1
   · exact .inr (h.1 b h1)
   · exact .inl h1
theorem Loc.newOwn (hL : Loc [] [] w0 w O C) (is : List Nat) (hO : pickL O is = some O') (hC : pickL C is = some C') (hn : nodupB is = true) : NewOwn w0 w O' C' := by
 have h := (hL.pick is hO hC hn).1
 refine ⟨fun b hb => ?_, h.dist, h.own⟩
 rcases h.fresh b hb with h1 | h1
 · cases h1
 · exact h1
theorem Hv.freshO (hL : Loc X [] w0 w O C) (OB : List (Option Nat)) : Le (Hv w.heap.size None OB w') (Hv w0.heap.size S (OB ++ O) w') := fun b o h => by
 obtain ⟨⟨h1, h2⟩, h3⟩ := vw_some h
 rcases h1 with h1 | h1
 · exact h1.elim
 · refine vw_mk ⟨.inr (Nat.le_trans hL.size h1), fun hm => ?_⟩ h3
   rcases List.mem_append.1 hm with h4 | h4
   · exact h2 h4
   · have := hL.own.lt b h4; omega
end
def FunOk (P : Program) (f : Value) (args : List Value) (w : World) (Φ : Value → World → Prop) : Prop := ∃ fid caps, f = .func (.func fid) #[] (List.toArray caps) ∧ Enters P fid ∧ Calls P fid (args ++ caps).toArray w (Ret w Φ)
section
variable {P : Program} {ty : TypeId} {ρ : Operand → Value} {w : World} {R : Value → World → Prop}
theorem OpY.callF {g : Operand} {f : Value} {args : List Operand} {ats : Array TypeId} {l : List Value} {Φ : Value → World → Prop} (hf : ρ g = f) (ha : args.map ρ = l) (hF : FunOk P f l w Φ) (h : ∀ v w', Ext w w' → Φ v w' → R v w') :
 OpY P (.call { callee := .value g, args := args.toArray, argTypes := ats }) ty ρ w R := by
 obtain ⟨fid, caps, rfl, he, hc⟩ := hF
 refine OpY.callv (fst := []) (cap := caps) (T := Ret w Φ) he hf rfl (by rw [List.nil_append, ha]; exact hc) ?_
 rintro e w' ⟨v, rfl, h1, h2⟩
 exact ⟨v, rfl, h v w' h1 h2⟩
theorem OpY.makeFunc {f : FuncId} {caps : List Operand} {vs : List Value} (hv : caps.map ρ = vs) (h : R (.func (.func f) #[] vs.toArray) w) : OpY P (.makeFunc (.func f) #[] caps.toArray) ty ρ w R := by
 have : (caps.toArray.map ρ) = vs.toArray := by rw [← hv]; simp
 simp only [OpY, bareOp, execOp, this]
 simp [Instr.makeFunc, upon]
 exact h
end
section
variable {P : Program} {n : Nat} {k : List It} {Q : Env → World → Prop} {e : Env} {w : World}
theorem Swp.cond_b {c : Operand} {x y : Code} (b : Bool) (hc : ev e c = .bool b) (ht : b = true → Swp P n (.code x :: k) Q e w) (hf : ¬ b = true → Swp P n (.code y :: k) Q e w) :
 Swp P n (.code (.cond c x y) :: k) Q e w :=
 Swp.cond b hc ht fun h => hf (by rw [h]; simp)
end
end Go.X
set_option linter.unusedSimpArgs false
set_option linter.unusedVariables false
namespace Go.X
open Go Go.RowKit
def Any (_ : Nat) : Prop := True
def HZ (w1 : World) (s : Nat) (S : Nat → Prop) (O : List (Option Nat)) (Z : Nat → Prop) : Nat → Prop := fun b => (HS s S O b ∧ b < w1.heap.size) ∨ Z b
noncomputable def Zv (w1 : World) (s : Nat) (S : Nat → Prop) (O : List (Option Nat)) (Z : Nat → Prop) (w : World) : Hp := vw (HZ w1 s S O Z) w
def ZN (Z : Nat → Prop) (w w' : World) (OB : List (Option Nat)) : Nat → Prop := fun b => Z b ∨ (w.heap.size ≤ b ∧ b < w'.heap.size ∧ some b ∉ OB)
def footV : Value → List (Option Nat)
 | .slice (some a) _ _ => [some a.block]
 | .pointer (some a) => [some a.block]
 | _ => []
theorem footV_osv {ob : Option Nat} {o n cap b : Nat} : some b ∈ footV (osv ob o n cap) ↔ some b ∈ [ob] := by
 cases ob <;> simp [osv, footV]
theorem dist_one (ob : Option Nat) : Distinct [ob] := by
 cases ob with
 | none => trivial
 | some b => exact ⟨fun h => by simp at h, trivial⟩
section
variable {s : Nat} {S : Nat → Prop} {X O O' OB : List (Option Nat)} {C CB : List Cont} {w w' w'' w0 w1 : World} {α : Type} {r : Rep α} {Z Z' : Nat → Prop} {cf ft : List (Option Nat)} {φ : (Nat → Prop) → World → Prop}
theorem vw_any {S' : Nat → Prop} : Le (vw S' w) (Hv w.heap.size Any [] w) := fun b o h => vw_mk ⟨.inl trivial, by simp⟩ (vw_some h).2
theorem vw_view {S' : Nat → Prop} : Le (vw S' w) (view [] w) := fun b o h => view_mk (vw_some h).2 (by simp)
theorem Zv.old (hE : Ext w1 w) : Le (Hv s S O w1) (Zv w1 s S O Z w) := fun b o h => by
 obtain ⟨h1, h3⟩ := vw_some h
 exact vw_mk (.inl ⟨h1, heap_lt h3⟩) ((hE.block b (heap_lt h3)).trans h3)
theorem Zv.stay (hz : ∀ b, Z b → Z' b) {F : List (Option Nat)} (hs : ∀ b, (b < w1.heap.size ∨ Z b ∨ some b ∈ F) → b < w.heap.size → w'.heap[b]? = w.heap[b]?) : Le (Zv w1 s S O Z w) (Zv w1 s S O Z' w') := fun b o h => by
 obtain ⟨h1, h3⟩ := vw_some h
 rcases h1 with ⟨h1, h4⟩ | h1
 · exact vw_mk (.inl ⟨h1, h4⟩) ((hs b (.inl h4) (heap_lt h3)).trans h3)
 · exact vw_mk (.inr (hz b h1)) ((hs b (.inr (.inl h1)) (heap_lt h3)).trans h3)
theorem OwnC.stay {ob : Option Nat} {c : Cont} (h : OwnC w ob c) {F : List (Option Nat)} (hF : ∀ b, ob = some b → some b ∈ F) (hs : ∀ b, (b < w1.heap.size ∨ Z b ∨ some b ∈ F) → b < w.heap.size → w'.heap[b]? = w.heap[b]?) : OwnC w' ob c :=
 h.same fun k hk => hs k (.inr (.inr (hF k hk))) (by subst hk; exact h.lt)
theorem Zv.made : Le (Hv w.heap.size None OB w') (Zv w1 s S O (ZN Z w w' OB) w') := fun b o h => by
 obtain ⟨⟨h1, h2⟩, h3⟩ := vw_some h
 rcases h1 with h1 | h1
 · exact h1.elim
 · exact vw_mk (.inr (.inr ⟨h1, heap_lt h3, h2⟩)) h3
theorem Zv.grow (hE : Ext w w') : Le (Zv w1 s S O Z w) (Zv w1 s S O (ZN Z w w' OB) w') := fun b o h => by
 obtain ⟨h1, h3⟩ := vw_some h
 refine vw_mk ?_ ((hE.block b (heap_lt h3)).trans h3)
 rcases h1 with h1 | h1
 · exact .inl h1
 · exact .inr (.inl h1)
theorem Zv.use {ob : Option Nat} (hB : Bnd w1 w Z [ob]) (hL : Loc [ob] [] w w' O' C) : Le (Zv w1 s S O Z w) (Zv w1 s S O (ZN Z w w' O') w') := fun b o h => by
 obtain ⟨h1, h3⟩ := vw_some h
 have hn : some b ∉ [ob] := fun hm => by
  obtain ⟨g1, g2, g3⟩ := hB b hm
  rcases h1 with h1 | h1
  · have := h1.2; omega
  · exact g3 h1
 refine vw_mk ?_ ((hL.keep b (heap_lt h3) hn).trans h3)
 rcases h1 with h1 | h1
 · exact .inl h1
 · exact .inr (.inl h1)
theorem Zv.fin (hL : Loc X [] w0 w1 O C) (hZ : ZB w1 w Z) (hB : ∀ b, some b ∈ OB → w1.heap.size ≤ b ∧ ¬ Z b) : Le (Zv w1 w0.heap.size S O Z w) (Hv w0.heap.size S (OB ++ O) w) := fun b o h => by
 obtain ⟨h1, h3⟩ := vw_some h
 rcases h1 with ⟨h1, h4⟩ | h1
 · refine vw_mk ⟨h1.1, fun hm => ?_⟩ h3
   rcases List.mem_append.1 hm with h2 | h2
   · have := (hB b h2).1; omega
   · exact h1.2 h2
 · have hz := hZ b h1
   refine vw_mk ⟨.inr (Nat.le_trans hL.size hz.1), fun hm => ?_⟩ h3
   rcases List.mem_append.1 hm with h2 | h2
   · exact (hB b h2).2 h1
   · have := hL.own.lt b h2; omega
theorem Made.same (hφ : φ Z w) : Made cf [] Z w w φ :=
 ⟨Z, fun _ h => h, fun _ h => .inl h, Use.ext (Ext.refl _), hφ, fun _ h => by cases h⟩
theorem Made.ext (hE : Ext w w') (hZ : ZB w1 w Z) (hN : NewOwn w w' OB CB) (hft : ∀ b, some b ∈ ft → some b ∈ OB) (hφ : φ (ZN Z w w' OB) w') : Made cf ft Z w w' φ := by
 refine ⟨ZN Z w w' OB, fun _ h => .inl h, fun b h => ?_, Use.ext hE, hφ, fun b hb => ?_⟩
 · rcases h with h | h
   · exact .inl h
   · exact .inr (.inl ⟨h.1, h.2.1⟩)
 · have hb' := hft b hb
   refine ⟨.inl ⟨hN.1 b hb', hN.2.2.lt b hb'⟩, fun h => ?_⟩
   rcases h with h | h
   · have := (hZ b h).2; have := hN.1 b hb'; omega
   · exact h.2.2 hb'
theorem Made.use {ob ob' : Option Nat} {c : Cont} (hZ : ZB w1 w Z) (hB : Bnd w1 w Z [ob]) (hL : Loc [ob] [] w w' [ob'] [c]) (hcf : ∀ b, ob = some b → some b ∈ cf) (hft : ∀ b, some b ∈ ft → some b ∈ [ob']) (hφ : φ (ZN Z w w' [ob']) w') : Made cf ft Z w w' φ := by
 refine ⟨ZN Z w w' [ob'], fun _ h => .inl h, fun b h => ?_, ⟨hL.os, hL.tape, hL.output, hL.size, fun k hk hn => hL.keep k hk fun hm => hn (hcf k (List.mem_singleton.1 hm).symm)⟩, hφ, fun b hb => ?_⟩
 · rcases h with h | h
   · exact .inl h
   · exact .inr (.inl ⟨h.1, h.2.1⟩)
 · have hb' := hft b hb
   have hlt := hL.own.lt b hb'
   have hn : ¬ ZN Z w w' [ob'] b := fun h => by
    rcases h with h | h
    · rcases hL.fresh b hb' with g | g
      · exact (hB b g).2.2 h
      · have := (hZ b h).2; omega
    · exact h.2.2 hb'
   refine ⟨?_, hn⟩
   rcases hL.fresh b hb' with g | g
   · exact .inr (hcf b (List.mem_singleton.1 g).symm)
   · exact .inl ⟨g, hlt⟩
theorem Loc.begin0 (w : World) : Loc [] [] w w [] [] := Loc.begin trivial trivial
theorem Loc.begin1 {ob : Option Nat} {c : Cont} (h : OwnC w ob c) : Loc [ob] [] w w [ob] [c] := Loc.begin ⟨h, trivial⟩ (dist_one ob)
theorem NewOwn.nil : NewOwn w w' [] [] := ⟨fun _ h => (by simp at h), trivial, trivial⟩
theorem NewOwn.cons {ob : Option Nat} {c : Cont} (hN : NewOwn w w' OB CB) (hc : OwnC w' ob c) (hb : ∀ b, ob = some b → w.heap.size ≤ b) (hd : ∀ b, some b ∈ [ob] → some b ∉ OB) : NewOwn w w' (ob :: OB) (c :: CB) := by
 refine ⟨fun b hm => ?_, ?_, ⟨hc, hN.2.2⟩⟩
 · rcases List.mem_cons.1 hm with h | h
   · exact hb b h.symm
   · exact hN.1 b h
 · cases ob with
   | none => exact hN.2.1
   | some b => exact ⟨hd b (by simp), hN.2.1⟩
theorem own_row_any {ob : Option Nat} {o n cap : Nat} {pre cs sp : List Value} {xs : List α} {H : Hp} (hc : OwnC w ob (.cells (pre ++ (cs ++ sp)))) (hE : Els r H cs xs) (hle : Le H (Hv w.heap.size Any [] w)) (hz : (r.sz == 0) = false) (ho : o = pre.length) (hn : n = xs.length) (hcap : (cs ++ sp).length = cap * r.sz) :
 Rs r (Hv w.heap.size Any [] w) (osv ob o n cap) xs := by
 cases ob with
 | none => exact row_nil hc hE hz
 | some b => exact row_rs (own_at hc fun q hq => vw_mk ⟨.inl trivial, by simp⟩ hq) (hE.mono hle) hz ho hn hcap
end
theorem s8_beq (x y : List UInt8) : (x == y) = decide (x = y) := by
 by_cases h : x = y
 · subst h; simp
 · simp [h]
section
variable {P : Program} {ty : TypeId} {ρ : Operand → Value} {w : World} {R : Value → World → Prop}
theorem OpY.sAdd {t u : TypeId} {a b : Operand} {x y : List UInt8} (ha : ρ a = .string (s8 x)) (hb : ρ b = .string (s8 y)) (hl : (x.length : Int) + y.length ≤ 9223372036854775807) (h : R (.string (s8 (x ++ y))) w) : OpY P (.binOp .add t a b u) ty ρ w R := by
 have h1 : ¬ (((s8 x).size + (s8 y).size : Nat) : Int) > IntKind.i64.max := by
  have hm : IntKind.i64.max = 9223372036854775807 := by decide
  rw [s8_size, s8_size, hm]; omega
 have hr : (Op.stringOp .add (s8 x) (s8 y)).run P w = .ok (.string (s8 (x ++ y))) w := by
  simp only [Op.stringOp]
  rw [if_neg h1, s8_append]; rfl
 simp only [OpY, bareOp, execOp, ha, hb]
 simp only [binOp, eqGuard]
 simp [hr, upon]
 exact h
theorem OpY.sEql {t u : TypeId} {a b : Operand} {x y : List UInt8} (ha : ρ a = .string (s8 x)) (hb : ρ b = .string (s8 y)) (h : R (.bool (decide (x = y))) w) : OpY P (.binOp .eql t a b u) ty ρ w R := by
 have hr : (Op.stringOp .eql (s8 x) (s8 y)).run P w = .ok (.bool (decide (x = y))) w := by
  simp only [Op.stringOp, s8_toList]
  rw [s8_beq]; rfl
 simp only [OpY, bareOp, execOp, ha, hb]
 simp only [binOp, eqGuard]
 simp [hr, upon]
 exact h
theorem OpY.sNeq {t u : TypeId} {a b : Operand} {x y : List UInt8} (ha : ρ a = .string (s8 x)) (hb : ρ b = .string (s8 y)) (h : R (.bool (decide (¬ x = y))) w) : OpY P (.binOp .neq t a b u) ty ρ w R := by
 have hr : (Op.stringOp .neq (s8 x) (s8 y)).run P w = .ok (.bool (decide (¬ x = y))) w := by
  simp only [Op.stringOp, s8_toList]
  rw [s8_beq, decide_not]; rfl
 simp only [OpY, bareOp, execOp, ha, hb]
 simp only [binOp, eqGuard]
 simp [hr, upon]
 simpa using h
end
end Go.X
set_option linter.unusedSimpArgs false
set_option linter.unusedVariables false
namespace Go.X
open Go Go.RowKit
def iw (z : Int) : Int := IntKind.i64.wrap z
def uw32 (z : Int) : Int := IntKind.u32.wrap z
def uw8 (z : Int) : Int := IntKind.u8.wrap z
def iw32 (z : Int) : Int := IntKind.i32.wrap z
theorem iw_eq {z : Int} (h1 : -9223372036854775808 ≤ z) (h2 : z ≤ 9223372036854775807) : iw z = z := wq_i64 rfl h1 h2
theorem uw32_mod (z : Int) : uw32 z = z % 4294967296 := wu32
theorem uw8_mod (z : Int) : uw8 z = z % 256 := wu8
theorem uw32_eq {z : Int} (h1 : 0 ≤ z) (h2 : z < 4294967296) : uw32 z = z := by rw [uw32_mod]; omega
theorem uw8_eq {z : Int} (h1 : 0 ≤ z) (h2 : z < 256) : uw8 z = z := by rw [uw8_mod]; omega
def band (k : IntKind) (x y : Int) : Int := k.wrap ((BitVec.ofInt k.bits x &&& BitVec.ofInt k.bits y).toNat : Int)
def bor (k : IntKind) (x y : Int) : Int := k.wrap ((BitVec.ofInt k.bits x ||| BitVec.ofInt k.bits y).toNat : Int)
def bshl (k : IntKind) (x y : Int) : Int := k.wrap (x * 2 ^ (min y.toNat k.bits))
def bshr (k : IntKind) (x y : Int) : Int := x.fdiv (2 ^ (min y.toNat k.bits))
theorem band_nat {k : IntKind} {x y : Nat} (hx : k.wrap (x : Int) = (x : Int)) (hy : k.wrap (y : Int) = (y : Int)) : band k x y = ((x &&& y : Nat) : Int) := by
 obtain ⟨h1, h2⟩ := nat_of_wrap hx
 obtain ⟨h3, h4⟩ := nat_of_wrap hy
 have hw := bits_wrap (z := x &&& y) hx hy (Nat.lt_of_le_of_lt Nat.and_le_left h1) (fun hs => Nat.lt_of_le_of_lt Nat.and_le_left (h2 hs))
 unfold band
 rw [ofInt_nat, ofInt_nat, show (BitVec.ofNat k.bits x &&& BitVec.ofNat k.bits y).toNat = x &&& y by simp [BitVec.toNat_and, Nat.mod_eq_of_lt h1, Nat.mod_eq_of_lt h3], hw]
theorem bor_nat {k : IntKind} {x y : Nat} (hx : k.wrap (x : Int) = (x : Int)) (hy : k.wrap (y : Int) = (y : Int)) : bor k x y = ((x ||| y : Nat) : Int) := by
 obtain ⟨h1, h2⟩ := nat_of_wrap hx
 obtain ⟨h3, h4⟩ := nat_of_wrap hy
 have hw := bits_wrap (z := x ||| y) hx hy (Nat.or_lt_two_pow h1 h3) (fun hs => Nat.or_lt_two_pow (h2 hs) (h4 hs))
 unfold bor
 rw [ofInt_nat, ofInt_nat, show (BitVec.ofNat k.bits x ||| BitVec.ofNat k.bits y).toNat = x ||| y by simp [BitVec.toNat_or, Nat.mod_eq_of_lt h1, Nat.mod_eq_of_lt h3], hw]
section
variable {P : Program} {ty : TypeId} {ρ : Operand → Value} {w : World} {R : Value → World → Prop}
theorem OpY.iand {t u : TypeId} {a b : Operand} {k : IntKind} {x y : Int} (hx : ρ a = .int k x) (hy : ρ b = .int k y) (h : R (.int k (band k x y)) w) : OpY P (.binOp .and t a b u) ty ρ w R :=
 OpY.binInt hx hy (by simp [binOp, Op.intBits, band]) h
theorem OpY.ior {t u : TypeId} {a b : Operand} {k : IntKind} {x y : Int} (hx : ρ a = .int k x) (hy : ρ b = .int k y) (h : R (.int k (bor k x y)) w) : OpY P (.binOp .or t a b u) ty ρ w R :=
 OpY.binInt hx hy (by simp [binOp, Op.intBits, bor]) h
theorem OpY.ishl {t u : TypeId} {a b : Operand} {k k' : IntKind} {x y : Int} (hx : ρ a = .int k x) (hy : ρ b = .int k' y) (h0 : ¬ y < 0) (h : R (.int k (bshl k x y)) w) : OpY P (.binOp .shl t a b u) ty ρ w R :=
 OpY.binInt hx hy (by simp [binOp, Op.shift, h0, bshl]) h
theorem OpY.ishr {t u : TypeId} {a b : Operand} {k k' : IntKind} {x y : Int} (hx : ρ a = .int k x) (hy : ρ b = .int k' y) (h0 : ¬ y < 0) (h : R (.int k (bshr k x y)) w) : OpY P (.binOp .shr t a b u) ty ρ w R :=
 OpY.binInt hx hy (by simp [binOp, Op.shift, h0, bshr]) h
end
section
variable {P : Program} {ty : TypeId} {ρ : Operand → Value} {w w0 : World} {R : Value → World → Prop} {X : List (Option Nat)} {O : List (Option Nat)} {C : List Cont} {α : Type} {r : Rep α} {H : Hp}
theorem OpY.mkRowX {t el : TypeId} {a c : Operand} {k k' : IntKind} {i : Int} {m by' : Nat} {z : Value} {zc : List Value} {x : α} {Y : List α} (hu : P.underlying t = some (.slice el)) (ti : TI P el r.sz by' z) (hzc : z.cells = zc.toArray) (hR : r.R H zc x)
 (ha : ρ a = .int k i) (hc : ρ c = .int k' i) (hi : i = (m : Int)) (hb : by' * m ≤ 281474976710656) (hm : m ≤ 9223372036854775807) (hY : Y = List.replicate m x) (hL : Loc X [] w0 w O C)
 (h : ∀ b w' cs, Els r H cs Y → (cs ++ []).length = m * r.sz → Loc X [] w0 w' (some b :: O) (.cells ([] ++ (cs ++ [])) :: C) → Step O (some b :: O) w w' → R (osv (some b) 0 Y.length m) w') :
 OpY P (.makeSlice t a c) ty ρ w R := by
 subst hY; exact OpY.mkRow hu ti hzc hR ha hc hi hb hm hL h
theorem OpY.apRowX {t el : TypeId} {a c : Operand} {by' n cap i : Nat} {z x : Value} {ob : Option Nat} {cs sp ds : List Value} {xs ys Y : List α} (hu : P.underlying t = some (.slice el)) (ti : TI P el r.sz by' z) (hzc : z.cells.size = r.sz) (hz : (r.sz == 0) = false)
 (ha : ρ a = osv ob 0 n cap) (hc : ρ c = x) (hL : Loc X [] w0 w O C) (hO : O[i]? = some ob) (hC : C[i]? = some (.cells ([] ++ (cs ++ sp)))) (hE : Els r H cs xs) (hn : n = xs.length) (hcap : (cs ++ sp).length = cap * r.sz) (hsrc : Src w x ys.length r.sz ds) (hD : Els r H ds ys)
 (h63 : xs.length + ys.length ≤ 9223372036854775807) (hb : (xs.length + ys.length) * by' ≤ 140737488355328) (hY : Y = xs ++ ys)
 (h : ∀ ob' cap' sp' ds' w', Els r H ds' Y → (ds' ++ sp').length = cap' * r.sz → Loc X [] w0 w' (O.set i ob') (C.set i (.cells ([] ++ (ds' ++ sp')))) → Step O (O.set i ob') w w' → R (osv ob' 0 Y.length cap') w') :
 OpY P (.call { callee := .builtin .append, args := #[a, c], argTypes := #[t, t] }) ty ρ w R := by
 subst hY; exact OpY.apRow hu ti hzc hz ha hc hL hO hC hE hn hcap hsrc hD h63 hb h
theorem OpY.stRowX {t : TypeId} {x y : Operand} {b q n by' : Nat} {z v : Value} {pre cs sp vs : List Value} {xs Y : List α} {a : α} (ti : TI P t r.sz by' z) (hx : ρ x = .pointer (some ⟨b, q, none⟩)) (hy : ρ y = v) (hv : v.cells = vs.toArray) (hR : r.R H vs a)
 (hL : Loc X [] w0 w O C) (i : Nat) (hO : O[i]? = some (some b)) (hC : C[i]? = some (.cells (pre ++ (cs ++ sp)))) (hE : Els r H cs xs) (hn : n < xs.length) (hq : q = pre.length + n * r.sz) (hY : Y = xs.set n a)
 (h : ∀ w' cs', Loc X [] w0 w' O (C.set i (.cells (pre ++ (cs' ++ sp)))) → Step O O w w' → Els r H cs' Y → cs'.length = cs.length → R undef w') : OpY P (.store t x y) ty ρ w R := by
 subst hY; exact OpY.stRow ti hx hy hv hR hL i hO hC hE hn hq h
theorem OpY.cutRoX {t el : TypeId} {x : Operand} {lo hi : Option Operand} {by' l h' : Nat} {z v : Value} {xs Y : List α} (hu : P.underlying t = some (.slice el)) (ti : TI P el r.sz by' z)
 (hx : ρ x = v) (hS : Rs r H v xs) (hlo : (lo = none ∧ l = 0) ∨ ∃ k y, lo = some y ∧ ρ y = .int k ((l : Nat) : Int)) (hhi : (hi = none ∧ h' = xs.length) ∨ ∃ k y, hi = some y ∧ ρ y = .int k ((h' : Nat) : Int)) (h1 : l ≤ h') (h2 : h' ≤ xs.length) (hY : Y = (xs.take h').drop l)
 (hk : ∀ v', Rs r H v' Y → R v' w) : OpY P (.slice t x lo hi none) ty ρ w R := by
 subst hY; exact OpY.cutRo hu ti hx hS hlo hhi h1 h2 hk
end
end Go.X
namespace Go.X
open Go Go.RowKit
theorem ite_t {α : Type} {p : Prop} [Decidable p] {A B r : α} (hc : p) (h : (if p then A else B) = r) : A = r := by rw [if_pos hc] at h; exact h
theorem ite_f {α : Type} {p : Prop} [Decidable p] {A B r : α} (hc : ¬ p) (h : (if p then A else B) = r) : B = r := by rw [if_neg hc] at h; exact h
section
variable {P : Program} {ty : TypeId} {ρ : Operand → Value} {w : World} {R : Value → World → Prop} {α : Type} {r : Rep α} {H : Hp}
theorem OpY.ixRoD {t el : TypeId} {x y : Operand} {b o m cap : Nat} {i : Int} {n : Nat} {k : IntKind} {by' : Nat} {z v : Value} {xs : List α} {a : α} (hu : P.underlying t = some (.slice el)) (ti : TI P el r.sz by' z)
 (hx : ρ x = v) (hv : v = .slice (some ⟨b, o, none⟩) xs.length cap) (hy : ρ y = .int k i) (hi : i = (n : Int)) (hn : xs[n]? = some a) (hm : m = o + n * r.sz)
 (h : R (.pointer (some ⟨b, m, none⟩)) w) : OpY P (.indexAddr t x y) ty ρ w R := by
 subst hi; subst hm
 exact OpY.indexAddr hu ti (hx.trans hv) hy (List.getElem?_eq_some_iff.1 hn).1 rfl h
theorem OpY.ixRowD {t el : TypeId} {x y : Operand} {b o m cap q : Nat} {i : Int} {n : Nat} {k : IntKind} {by' : Nat} {z : Value} {xs : List α} (hu : P.underlying t = some (.slice el)) (ti : TI P el r.sz by' z)
 (hx : ρ x = osv (some b) o m cap) (hm : m = xs.length) (hy : ρ y = .int k i) (hi : i = (n : Int)) (hn : n < xs.length) (hq : q = o + n * r.sz)
 (h : R (.pointer (some ⟨b, q, none⟩)) w) : OpY P (.indexAddr t x y) ty ρ w R := by
 subst hi; subst hq; subst hm
 exact OpY.indexAddr hu ti hx hy hn rfl h
theorem OpY.ldElem1 {t : TypeId} {x : Operand} {d : TypeDesc} {b q : Nat} {cs : List Value} {v : Value} (hd : P.underlying t = some d) (hg : aggD d = false) (hx : ρ x = .pointer (some ⟨b, q, none⟩)) (hc : OwnC w (some b) (.cells cs))
 (hv : (cs.drop q).take [v].length = [v]) (h : R v w) : OpY P (.load t x) ty ρ w R := by
 refine OpY.ldBox1 hd hg hx hc ?_ h
 have := congrArg (·[0]?) hv
 simp only [List.length_singleton, List.getElem?_take, List.getElem?_drop, Nat.lt_one_iff, if_true, Nat.add_zero] at this
 exact this
end
end Go.X
namespace Go.X
open Go Go.RowKit
theorem any_ext {a b : Nat} {w w' : World} (hE : Ext w w') : Le (Hv a Any [] w) (Hv b Any [] w') := fun k o h => by
 obtain ⟨_, h3⟩ := vw_some h
 exact vw_mk ⟨.inl trivial, by simp⟩ ((hE.block k (heap_lt h3)).trans h3)
theorem own_any {w : World} {b : Nat} {cs : List Value} (hc : OwnC w (some b) (.cells cs)) : At (Hv w.heap.size Any [] w) b 0 cs := own_at hc fun _ ho => vw_mk ⟨.inl trivial, by simp⟩ ho
theorem Hv.pick {s : Nat} {S : Nat → Prop} {O O' : List (Option Nat)} {w : World} (is : List Nat) (hO : pickL O is = some O') : Le (Hv s S O w) (Hv s S O' w) := Hv.sub fun b hb => by
 obtain ⟨i, _, hi⟩ := pickL_mem hO b hb
 exact List.mem_of_getElem? hi
end Go.X
namespace Go.X
theorem upds_sym {L : List (Nat × Value)} {e : Env} (h : slotsOk L e) : e = upds L e := (upds_of_slotsOk h).symm
end Go.X
namespace Go.X
open Go Go.RowKit
theorem own_some {w : World} {ob : Option Nat} {b : Nat} {c : Cont} (hb : ob = some b) (h : OwnC w ob c) : OwnC w (some b) c := hb ▸ h
theorem osv_some {ob : Option Nat} {b o n cap : Nat} (hb : ob = some b) : osv ob o n cap = osv (some b) o n cap := by rw [hb]
section
variable {P : Program} {ty : TypeId} {ρ : Operand → Value} {w w0 : World} {R : Value → World → Prop} {X : List (Option Nat)} {O : List (Option Nat)} {C : List Cont} {α : Type} {r : Rep α} {H : Hp}
theorem OpY.sIndex {t : TypeId} {x y : Operand} {xs : List UInt8} {i : Int} {n : Nat} {k : IntKind} {a : UInt8} (hu : P.underlying t = some .string) (hx : ρ x = .string (s8 xs)) (hy : ρ y = .int k i) (hi : i = (n : Int)) (hn : xs[n]? = some a) (hk : R (.int .u8 (a.toNat : Int)) w) : OpY P (.index t x y) ty ρ w R := by
 subst hi
 have hlt := (List.getElem?_eq_some_iff.1 hn).1
 have hg : (s8 xs)[n]? = some a := by
  have hs : n < (s8 xs).size := by rw [s8_size]; exact hlt
  rw [getElem?_pos (s8 xs) n hs]
  exact congrArg some (List.getElem?_eq_some_iff.1 hn).2
 have hr : (Instr.index t (.string (s8 xs)) (.int k ((n : Nat) : Int))).run P w = .ok (.int .u8 (a.toNat : Int)) w := by
  simp only [Instr.index, asIntOf, Sem.run_bind, Sem.run_pure, Result.andThen_ok, run_underlying hu, Int.toNat_natCast, hg]
  simp
 simp only [OpY, bareOp, execOp, hx, hy]
 simp only [Sem.run_bind, hr, Result.andThen_ok, Sem.run_pure, upon]
 exact hk
end
end Go.X
namespace Go.X
open Go Go.RowKit
theorem row_cap {α : Type} {r : Rep α} {H : Hp} {cs sp : List Value} {xs : List α} {cap : Nat} (hE : Els r H cs xs) (hz : (r.sz == 0) = false) (hcap : (cs ++ sp).length = cap * r.sz) : xs.length ≤ cap := by
  have hpos : 0 < r.sz := by have : ¬ r.sz = 0 := by simpa using hz
                             omega
  have : xs.length * r.sz ≤ cap * r.sz := by rw [← hcap, List.length_append, hE.length]; omega
  exact Nat.le_of_mul_le_mul_right this hpos
end Go.X
namespace Go.X
open Go Go.RowKit
end Go.X
namespace Go.X
open Go Go.RowKit
theorem Els.anyH {α : Type} {r : Rep α} (hr : ∀ (H H' : Hp) (vs : List Value) (x : α), r.R H vs x → r.R H' vs x) {H H' : Hp} : ∀ {cs : List Value} {xs : List α}, Els r H cs xs → Els r H' cs xs
 | _, [], h => h
 | _, _ :: _, ⟨a, b, h1, h2, h3⟩ => ⟨a, b, h1, hr _ _ _ _ h2, h3.anyH hr⟩
end Go.X
namespace Go.X
open Go Go.RowKit
end Go.X
set_option linter.unusedSimpArgs false
set_option linter.unusedVariables false
namespace Go.X
open Go
theorem apE {cs : List (List Nat)} {x y : FE} {r : List FE} (h : apartE cs x (y :: r)) (h1 : endsB cs x.idx = true) (h2 : endsB cs y.idx = true) : ∀ b, some b ∈ x.ft → some b ∉ y.ft := by
 have := h.1
 rw [h1, h2] at this
 exact this
end Go.X
set_option linter.unusedSimpArgs false
set_option linter.unusedVariables false
namespace Go.X
open Go Go.ChangeShapes Go.WideShapes Go.ChangeAt Go.RowKit
section
variable {H : Type} {enc : TypeId × Value → H} {P : Program} {W : World}
noncomputable abbrev HW (W : World) : Hp := Hv W.heap.size (fun _ => True) [] W
theorem cellV {w : World} {b o : Nat} {v : Value} (h : w.cell? ⟨b, o, none⟩ = some v) : cellH (HW w) b o = some v := by
 unfold World.cell? at h
 unfold cellH HW Hv vw
 have hs : HS w.heap.size (fun _ => True) [] b := ⟨.inl trivial, by simp⟩
 rw [if_pos hs]
 cases hb : w.heap[b]? with
 | none => rw [hb] at h; cases h
 | some x =>
  rw [hb] at h
  cases x <;> simp_all
theorem cell_spot {w : World} {a : Addr} {v : Value} (h : w.cell? a = some v) : a.spot = none := by
 unfold World.cell? at h
 split at h
 · split at h
   · cases h
   · rename_i h1; cases hs : a.spot with
     | none => rfl
     | some _ => rw [hs] at h1; simp at h1
 · cases h
def Opn (enc : TypeId × Value → H) (P : Program) (W : World) (N : Nat) {α : Type} (r : Rep α) (t : TypeId) (G : α → Prop) : Prop :=
 ∀ fuel, fuel ≤ N → ∀ cs x, DataW.trod enc P W 0 (fun _ => true) true fuel t cs = some x → ∃ a, r.R (HW W) cs a ∧ G a
theorem Opn.int {N : Nat} {t : TypeId} {k : IntKind} (ht : P.underlying t = some (.int k)) : Opn enc P W N (rInt k) t (fun x => (Lit.int k x).wf = true) := by
 intro fuel _ cs x h
 obtain ⟨n, rfl, _, hw⟩ := DataW.trod_int ht h
 exact ⟨n, rfl, hw⟩
theorem Opn.bool {N : Nat} {t : TypeId} (ht : P.underlying t = some .bool) : Opn enc P W N rBool t (fun _ => True) := by
 intro fuel _ cs x h
 obtain ⟨b, rfl, _⟩ := DataW.trod_bool ht h
 exact ⟨b, rfl, trivial⟩
theorem add_plain' (b o n : Nat) : (⟨b, o, none⟩ : Addr).add n = ⟨b, o + n, none⟩ := by unfold Addr.add; split <;> simp_all
theorem Opn.slice {N : Nat} {α : Type} {r : Rep α} {t e : TypeId} {G : α → Prop} (ht : P.underlying t = some (.slice e)) (hc : P.cellsOf e = r.sz) (hz : (r.sz == 0) = false) (he : Opn enc P W N r e G) :
 Opn enc P W (N + 1) (rSl r) t (fun xs => xs.length ≤ 9223372036854775807 ∧ ∀ x ∈ xs, G x) := by
 have hpos : 0 < r.sz := by
  have : ¬ r.sz = 0 := by simpa using hz
  omega
 intro fuel hf cs x h
 rcases DataW.trod_slice ht h with ⟨rfl, rfl⟩ | ⟨a, len, cap, elems, rest, n, hn, rfl, rfl, hb, hl, hm, hlen, hel, hsp, hns⟩
 · exact ⟨[], ⟨_, rfl, Rs.nil⟩, by simp, fun _ hx => by cases hx⟩
 have hcap : cap ≤ 9223372036854775807 := hm
 rcases Nat.eq_zero_or_pos cap with h0 | h0
 · subst h0
   obtain rfl : len = 0 := by omega
   exact ⟨[], ⟨_, rfl, .inl ⟨⟨_, rfl⟩, rfl⟩⟩, by simp, fun _ hx => by cases hx⟩
 have hfirst : ∃ y, (W.cells? 0 (a.add (0 * P.cellsOf e)) (P.cellsOf e)).bind (DataW.trod enc P W 0 (fun _ => true) true n e) = some y := by
  rcases Nat.eq_zero_or_pos len with h1 | h1
  · obtain ⟨hr, hs⟩ := hsp rfl
    have := hs 0 (by omega)
    rw [h1, Nat.zero_add] at this
    exact ⟨_, this.trans (List.getElem?_eq_getElem (by omega))⟩
  · exact ⟨_, (hel 0 h1).trans (List.getElem?_eq_getElem (by omega))⟩
 have hspot : a.spot = none := by
  obtain ⟨y, hy⟩ := hfirst
  rw [Option.bind_eq_some_iff] at hy
  obtain ⟨cs', hcs, -⟩ := hy
  obtain ⟨_, hl', hcell⟩ := World.cells?_some hcs
  have := hcell 0 (by omega)
  rw [List.getElem?_eq_getElem (by omega), Nat.zero_mul] at this
  have := cell_spot this
  simpa [Addr.add] using this
 obtain ⟨b, o, s⟩ := a
 cases hspot
 have each : ∀ i, i < len → ∃ x vs, vs.length = r.sz ∧ At (HW W) b (o + i * r.sz) vs ∧ r.R (HW W) vs x ∧ G x := by
  intro i hi
  have hy := (hel i hi).trans (List.getElem?_eq_getElem (by omega))
  rw [Option.bind_eq_some_iff] at hy
  obtain ⟨vs, hcs, hy⟩ := hy
  obtain ⟨_, hl', hcell⟩ := World.cells?_some hcs
  obtain ⟨x, hR, hG⟩ := he n (by omega) vs _ hy
  refine ⟨x, vs, by omega, fun j hj => ?_, hR, hG⟩
  have := hcell j (by omega)
  rw [List.getElem?_eq_getElem hj] at this ⊢
  rw [hc, add_plain', add_plain'] at this
  exact cellV this
 let xs : List α := List.ofFn (fun i : Fin len => Classical.choose (each i.1 i.2))
 have hxl : xs.length = len := by simp [xs]
 refine ⟨xs, ⟨_, rfl, .inr ⟨b, o, cap, by rw [hxl], by omega, fun i x hi => ?_⟩⟩, by omega, fun x hx => ?_⟩
 · have hil : i < len := by rw [← hxl]; exact (List.getElem?_eq_some_iff.1 hi).1
   have hx : x = Classical.choose (each i hil) := by
    have := (List.getElem?_eq_some_iff.1 hi).2
    simp only [xs, List.getElem_ofFn] at this
    exact this.symm
   subst hx
   obtain ⟨vs, h1, h2, h3, _⟩ := Classical.choose_spec (each i hil)
   exact ⟨vs, h1, h2, h3⟩
 · obtain ⟨i, hi, rfl⟩ := List.mem_iff_getElem.1 hx
   have hil : i < len := by omega
   simp only [xs, List.getElem_ofFn]
   obtain ⟨_, _, _, _, hG⟩ := Classical.choose_spec (each i hil)
   exact hG
theorem Opn.less {N : Nat} {α : Type} {r : Rep α} {t : TypeId} {G : α → Prop} (h : Opn enc P W (N + 1) r t G) : Opn enc P W N r t G := fun fuel hf => h fuel (by omega)
theorem trod_fields {t : TypeId} {fuel : Nat} {cs : List Value} {x : DataW H × List MemPlace} {fs : Array Field} (ht : P.underlying t = some (.struct fs)) (h : DataW.trod enc P W 0 (fun _ => true) true fuel t cs = some x) :
 cs.length = P.cellsOf t ∧ ∃ n, n < fuel ∧ ∀ (i : Nat) (f : Field), fs[i]? = some f → ∃ y, DataW.trod enc P W 0 (fun _ => true) true n f.type ((cs.drop f.offset).take (P.cellsOf f.type)) = some y := by
 obtain ⟨xs, n, hn, _, hl, hxl, hf⟩ := DataW.trod_struct ht h
 refine ⟨hl, n, by omega, fun i f hi => ?_⟩
 have hi' : i < xs.length := by rw [hxl]; exact (Array.getElem?_eq_some_iff.1 hi).1
 exact ⟨_, (hf i f hi).trans (List.getElem?_eq_getElem hi')⟩
theorem open_struct {α : Type} {r : Rep α} {t : TypeId} {fs : Array Field} {G : α → Prop} {v : Value} {d : DataW H} {ps : List MemPlace} (ht : P.underlying t = some (.struct fs)) (ho : ∀ N, Opn enc P W N r t G) {rc : Reach} {base : Nat} (hval : Value.okWide P W rc base t v) (h : DataW.Trod enc P W 0 (fun _ => true) true t v d ps) :
 ∃ cs x, v = .agg cs.toArray ∧ r.R (HW W) cs x ∧ G x := by
 obtain ⟨n, hn⟩ := h
 obtain ⟨x, hR, hG⟩ := ho n n (Nat.le_refl _) _ _ hn
 simp only [Value.okWide, ht] at hval
 obtain ⟨cs, rfl, _⟩ := hval
 exact ⟨cs.toList, x, by simp, by simpa [Value.cells] using hR, hG⟩
end
end Go.X
set_option linter.unusedSimpArgs false
set_option linter.unusedVariables false
namespace Go.X
open Go Go.ChangeShapes Go.WideShapes Go.ChangeAt Go.RowKit
section
variable {H : Type} {enc : TypeId × Value → H} {P : Program} {W : World}
def OpnT (enc : TypeId × Value → H) (P : Program) (W : World) (N : Nat) {α : Type} (r : Rep α) (t : TypeId) (G : α → Prop) (T : α → DataW H → Prop) : Prop :=
 ∀ fuel, fuel ≤ N → ∀ cs x, DataW.trod enc P W 0 (fun _ => true) true fuel t cs = some x → ∃ a, r.R (HW W) cs a ∧ G a ∧ T a x.1
theorem Opn.t {N : Nat} {α : Type} {r : Rep α} {t : TypeId} {G : α → Prop} (h : Opn enc P W N r t G) : OpnT enc P W N r t G (fun _ _ => True) := fun fuel hf cs x hx => by
 obtain ⟨a, h1, h2⟩ := h fuel hf cs x hx
 exact ⟨a, h1, h2, trivial⟩
def SlT {α : Type} (T : α → DataW H → Prop) (xs : List α) (d : DataW H) : Prop :=
 (d = .nil ∧ xs = []) ∨ ∃ es sp, d = .slice es sp ∧ es.length = xs.length ∧ ∀ (i : Nat) x y, xs[i]? = some x → es[i]? = some y → T x y
theorem OpnT.less {N : Nat} {α : Type} {r : Rep α} {t : TypeId} {G : α → Prop} {T : α → DataW H → Prop} (h : OpnT enc P W (N + 1) r t G T) : OpnT enc P W N r t G T := fun fuel hf => h fuel (by omega)
theorem OpnT.slice {N : Nat} {α : Type} {r : Rep α} {t e : TypeId} {G : α → Prop} {T : α → DataW H → Prop} (ht : P.underlying t = some (.slice e)) (hc : P.cellsOf e = r.sz) (hz : (r.sz == 0) = false) (he : OpnT enc P W N r e G T) :
 OpnT enc P W (N + 1) (rSl r) t (fun xs => xs.length ≤ 9223372036854775807 ∧ ∀ x ∈ xs, G x) (SlT T) := by
 have hpos : 0 < r.sz := by
  have : ¬ r.sz = 0 := by simpa using hz
  omega
 intro fuel hf cs x h
 rcases DataW.trod_slice ht h with ⟨rfl, rfl⟩ | ⟨a, len, cap, elems, rest, n, hn, rfl, rfl, hb, hl, hm, hlen, hel, hsp, hns⟩
 · exact ⟨[], ⟨_, rfl, Rs.nil⟩, ⟨by simp, fun _ hx => by cases hx⟩, .inl ⟨rfl, rfl⟩⟩
 have hcap : cap ≤ 9223372036854775807 := hm
 rcases Nat.eq_zero_or_pos cap with h0 | h0
 · subst h0
   obtain rfl : len = 0 := by omega
   exact ⟨[], ⟨_, rfl, .inl ⟨⟨_, rfl⟩, rfl⟩⟩, ⟨by simp, fun _ hx => by cases hx⟩, .inr ⟨_, _, rfl, by simp; exact List.length_eq_zero_iff.1 hlen, fun i x y hx => by simp at hx⟩⟩
 have hfirst : ∃ y, (W.cells? 0 (a.add (0 * P.cellsOf e)) (P.cellsOf e)).bind (DataW.trod enc P W 0 (fun _ => true) true n e) = some y := by
  rcases Nat.eq_zero_or_pos len with h1 | h1
  · obtain ⟨hr, hs⟩ := hsp rfl
    have := hs 0 (by omega)
    rw [h1, Nat.zero_add] at this
    exact ⟨_, this.trans (List.getElem?_eq_getElem (by omega))⟩
  · exact ⟨_, (hel 0 h1).trans (List.getElem?_eq_getElem (by omega))⟩
 have hspot : a.spot = none := by
  obtain ⟨y, hy⟩ := hfirst
  rw [Option.bind_eq_some_iff] at hy
  obtain ⟨cs', hcs, -⟩ := hy
  obtain ⟨_, hl', hcell⟩ := World.cells?_some hcs
  have := hcell 0 (by omega)
  rw [List.getElem?_eq_getElem (by omega), Nat.zero_mul] at this
  have := cell_spot this
  simpa [Addr.add] using this
 obtain ⟨b, o, s⟩ := a
 cases hspot
 have each : ∀ i, (hi : i < len) → ∃ x vs, vs.length = r.sz ∧ At (HW W) b (o + i * r.sz) vs ∧ r.R (HW W) vs x ∧ G x ∧ T x (elems[i]'(by omega)).1 := by
  intro i hi
  have hy := (hel i hi).trans (List.getElem?_eq_getElem (by omega))
  rw [Option.bind_eq_some_iff] at hy
  obtain ⟨vs, hcs, hy⟩ := hy
  obtain ⟨_, hl', hcell⟩ := World.cells?_some hcs
  obtain ⟨x, hR, hG, hT⟩ := he n (by omega) vs _ hy
  refine ⟨x, vs, by omega, fun j hj => ?_, hR, hG, hT⟩
  have := hcell j (by omega)
  rw [List.getElem?_eq_getElem hj] at this ⊢
  rw [hc, add_plain', add_plain'] at this
  exact cellV this
 let xs : List α := List.ofFn (fun i : Fin len => Classical.choose (each i.1 i.2))
 have hxl : xs.length = len := by simp [xs]
 refine ⟨xs, ⟨_, rfl, .inr ⟨b, o, cap, by rw [hxl], by omega, fun i x hi => ?_⟩⟩, ⟨by omega, fun x hx => ?_⟩, .inr ⟨_, _, rfl, by rw [List.length_map]; omega, fun i x y hx hy => ?_⟩⟩
 · have hil : i < len := by rw [← hxl]; exact (List.getElem?_eq_some_iff.1 hi).1
   have hx : x = Classical.choose (each i hil) := by
    have := (List.getElem?_eq_some_iff.1 hi).2
    simp only [xs, List.getElem_ofFn] at this
    exact this.symm
   subst hx
   obtain ⟨vs, h1, h2, h3, _⟩ := Classical.choose_spec (each i hil)
   exact ⟨vs, h1, h2, h3⟩
 · obtain ⟨i, hi, rfl⟩ := List.mem_iff_getElem.1 hx
   have hil : i < len := by omega
   simp only [xs, List.getElem_ofFn]
   obtain ⟨_, _, _, _, hG, _⟩ := Classical.choose_spec (each i hil)
   exact hG
 · have hil : i < len := by rw [← hxl]; exact (List.getElem?_eq_some_iff.1 hx).1
   have hx : x = Classical.choose (each i hil) := by
    have := (List.getElem?_eq_some_iff.1 hx).2
    simp only [xs, List.getElem_ofFn] at this
    exact this.symm
   subst hx
   obtain ⟨_, _, _, _, _, hT⟩ := Classical.choose_spec (each i hil)
   rw [List.getElem?_map, List.getElem?_eq_getElem (by omega)] at hy
   cases hy
   exact hT
end
end Go.X
set_option linter.unusedSimpArgs false
set_option linter.unusedVariables false
namespace Go.X
open Go Go.RowKit
section
variable {P : Program} {ty : TypeId} {ρ : Operand → Value} {w w0 : World} {R : Value → World → Prop} {X : List (Option Nat)} {O : List (Option Nat)} {C : List Cont} {α : Type} {r : Rep α} {H : Hp}
theorem OpY.nilCheck {x : Operand} {b : Addr} (hx : ρ x = .pointer (some b)) (h : R (.pointer (some b)) w) : OpY P (.nilCheck x) ty ρ w R := by
 simp only [OpY, bareOp, execOp, hx]; simp [upon]; exact h
def bstr (xs : List Int) : List UInt8 := xs.map fun n => UInt8.ofNat n.toNat
theorem foldl_push (ns : List Int) : ∀ b : ByteArray, ns.foldl (fun r n => r.push (UInt8.ofNat n.toNat)) b = b ++ s8 (bstr ns) := by
 induction ns with
 | nil => intro b; apply ByteArray.ext; simp [s8, bstr]
 | cons n ns ih =>
  intro b
  rw [List.foldl_cons, ih]
  apply ByteArray.ext
  simp [s8, bstr, ByteArray.push]
theorem Els.intCells {k : IntKind} : ∀ {cs : List Value} {xs : List Int}, Els (rInt k) H cs xs → cs = xs.map (Value.int k)
 | _, [], h => h
 | _, x :: xs, ⟨a, b, h1, h2, h3⟩ => by rw [h1, show a = [.int k x] from h2, h3.intCells]; rfl
theorem OpY.strSrc {t u e : TypeId} {x : Operand} {v : Value} {xs : List Int} {ds : List Value} (hs : P.underlying t = some (.slice e)) (hd : P.underlying u = some .string) (he : P.underlying e = some (.int .u8)) (hx : ρ x = v)
 (hsrc : Src w v xs.length 1 ds) (hD : Els (rInt .u8) H ds xs) (h : R (.string (s8 (bstr xs))) w) : OpY P (.convert t u x) ty ρ w R := by
 have key : (convert t u v).run P w = .ok (.string (s8 (bstr xs))) w := by
  obtain ⟨hnl, hsrc⟩ := hsrc
  have hds := hD.intCells
  rcases hsrc with ⟨⟨oa, rfl⟩, h0⟩ | ⟨b, o, cap, rfl, hcell⟩
  · rw [run_convert_bytes_string w t u e oa 0 0 hs he hd]
    have hx0 : xs = [] := List.eq_nil_of_length_eq_zero h0
    subst hx0
    cases oa with
    | none => rfl
    | some a =>
     have := run_bytesToString (P := P) w a 0 0 [] (by simp [loadCells, loadCellsFrom])
     rw [this, foldl_push]; congr 2
  · rw [run_convert_bytes_string w t u e _ _ _ hs he hd]
    have hl := run_loadCells_list (P := P) w ⟨b, o, none⟩ ds (fun j u hj => by rw [add_plain]; exact hcell j u hj)
    rw [hnl, Nat.mul_one] at hl
    have := run_bytesToString (P := P) w ⟨b, o, none⟩ xs.length cap xs (by rw [hl, hds])
    rw [this, foldl_push]; congr 2
 simp only [OpY, bareOp, execOp, hx]
 simp [key, upon]
 exact h
theorem OpY.strRow {t u e : TypeId} {x : Operand} {ob : Option Nat} {n cap : Nat} {pre cs sp : List Value} {xs : List Int} (hs : P.underlying t = some (.slice e)) (hd : P.underlying u = some .string) (he : P.underlying e = some (.int .u8)) (hx : ρ x = osv ob pre.length n cap)
 (hc : OwnC w ob (.cells (pre ++ (cs ++ sp)))) (hE : Els (rInt .u8) H cs xs) (hn : n = xs.length) (h : R (.string (s8 (bstr xs))) w) : OpY P (.convert t u x) ty ρ w R :=
 OpY.strSrc hs hd he hx (Src.row hc hE rfl rfl hn) hE h
theorem row_none {pre cs sp : List Value} {xs : List α} (h0 : OwnC w none (.cells (pre ++ (cs ++ sp)))) (hE : Els r H cs xs) (hz : (r.sz == 0) = false) : pre = [] ∧ cs = [] ∧ sp = [] ∧ xs = [] := by
 have h0 : pre ++ (cs ++ sp) = [] := h0
 obtain ⟨h1, h2⟩ := List.append_eq_nil_iff.1 h0
 obtain ⟨h2, h3⟩ := List.append_eq_nil_iff.1 h2
 have := hE.length
 rw [h2] at this
 have hsz : r.sz ≠ 0 := by simpa using hz
 have hx : xs.length = 0 := by
  rcases Nat.mul_eq_zero.1 (show xs.length * r.sz = 0 by simpa using this.symm) with h | h
  · exact h
  · exact absurd h hsz
 exact ⟨h1, h2, h3, List.eq_nil_of_length_eq_zero hx⟩
end
end Go.X
set_option linter.unusedSimpArgs false
set_option linter.unusedVariables false
namespace Go.X
open Go Go.RowKit
def noOper : Oper := { dst := none, op := .alloc 0, type := 0, pos := "", after := #[], guard := none }
def pickO (l : List Oper) : List Nat → List Oper
 | [] => []
 | i :: r => l.getD i noOper :: pickO l r
def chainQ (l : List Oper) : List Nat → Bool
 | [] => true
 | i :: r => (match r with | [] => true | j :: _ => waitB l j i) && chainQ l r
def okP (l : List Oper) (Q lt : List Nat) : Bool :=
  backOk l && chainQ l Q && (Q.all fun q => Nat.blt q l.length) && (lt.all fun i => !memN i Q) &&
  (List.range l.length).all fun i => match l[i]? with
    | some o => !isSel o.op && (memN i Q || (memN i lt && o.dst.isSome && (List.range l.length).all fun j => Nat.beq j i || !(dstAt l j == dstAt l i))) &&
        (looksE l o).all fun x => (List.range l.length).all fun j => memN j Q || !(dstAt l j == some x) || memN j (depsOf o) || (memN i Q && Q.any fun q => Nat.blt q i && waitB l q j && waitsQ l Q i q)
    | none => true
where waitsQ (l : List Oper) (Q : List Nat) (i q : Nat) : Bool := (Q.takeWhile fun x => !(Nat.beq x i)).any fun x => Nat.beq x q
section
variable {P : Program} {l : List Oper} {n : Nat} {K : Env → World → Prop} {e : Env} {w : World}
structure InvP (l : List Oper) (n : Nat) (Q done rest : List Nat) (listed : Array Bool) (a : Act) (E : Env) (ltr : List Nat) : Prop where
 size : listed.size = l.length
 tmps : a.tmps.size = n
 defs : a.defers = []
 parts : Q = done ++ rest
 isdone : ∀ q ∈ done, lst listed q
 open' : ∀ q ∈ rest, ¬ lst listed q
 cl : ∀ j oj, l[j]? = some oj → lst listed j → ∀ d ∈ depsOf oj, lst listed d
 late : ∀ i, i < l.length → i ∉ Q → ¬ lst listed i → i ∈ ltr
 sub : ∀ i ∈ ltr, i ∉ Q
 env : ∀ x, (∀ i, i < l.length → i ∉ Q → ¬ lst listed i → dstAt l i ≠ some x) → envOf a x = E x
theorem chainQ_at {Q : List Nat} : ∀ {done : List Nat} {q : Nat} {r : List Nat}, Q = done ++ q :: r → chainQ l Q = true → ∀ i ∈ r, ∃ p ∈ q :: r, waitB l i p = true := by
 intro done
 induction done generalizing Q with
 | nil =>
  intro q r hQ hc i hi
  subst hQ
  have gen : ∀ (r : List Nat) (q : Nat), chainQ l (q :: r) = true → ∀ i ∈ r, ∃ p ∈ q :: r, waitB l i p = true := by
   intro r
   induction r with
   | nil => intro q _ i hi; cases hi
   | cons j r ih =>
    intro q hc i hi
    simp only [chainQ, Bool.and_eq_true] at hc
    rcases List.mem_cons.1 hi with rfl | hi
    · exact ⟨q, List.mem_cons_self, hc.1⟩
    · have hc2 : chainQ l (j :: r) = true := by simp only [chainQ, Bool.and_eq_true]; exact hc.2
      obtain ⟨p, hp, h⟩ := ih j hc2 i hi
      exact ⟨p, List.mem_cons_of_mem _ hp, h⟩
  exact gen r q hc i hi
 | cons d done ih =>
  intro q r hQ hc i hi
  subst hQ
  rw [List.cons_append] at hc
  simp only [chainQ, Bool.and_eq_true] at hc
  exact ih rfl hc.2 i hi
theorem mem_pickO {i : Nat} {o : Oper} (ho : l[i]? = some o) : l.getD i noOper = o := by
 rw [List.getD_eq_getElem?_getD, ho]; rfl
theorem anyP {Q lt : List Nat} {Qp : Exit → Act → World → Prop} (hok : dstsOk n l = true) (hq : okP l Q lt = true) (hnd : Q.Nodup) (hQ : ∀ a w, a.tmps.size = n → a.defers = [] → K (envOf a) w → Qp .normal a w) :
 ∀ (fuel : Nat) (done rest : List Nat) (listed : Array Bool) (a : Act) (w : World) (E : Env) (ltr : List Nat), InvP l n Q done rest listed a E ltr → LateP P l ltr E w → RlL P l K ltr (pickO l rest) E w → cnt l listed ≤ fuel → wpAny P .any l.toArray Qp fuel listed a w := by
 have hq' := hq
 simp only [okP, Bool.and_eq_true] at hq'
 obtain ⟨⟨⟨⟨hb, hch⟩, hin⟩, hlq⟩, hall⟩ := hq'
 have fin : ∀ (done rest : List Nat) (listed : Array Bool) (a : Act) (w : World) (E : Env) (ltr : List Nat), InvP l n Q done rest listed a E ltr → RlL P l K ltr (pickO l rest) E w → Region.ready .any l.toArray listed = [] → Qp .normal a w := by
  intro done rest listed a w E ltr inv hR hr
  have hal := allListed inv.size hb hr
  have hr0 : rest = [] := by
   cases rest with
   | nil => rfl
   | cons q r =>
    have hqm : q ∈ Q := by rw [inv.parts]; exact List.mem_append_right _ List.mem_cons_self
    have hql : q < l.length := by simpa using List.all_eq_true.1 hin q hqm
    exact absurd (hal q hql) (inv.open' q List.mem_cons_self)
  subst hr0
  have hE : envOf a = E := by
   funext x
   exact inv.env x (fun i hi _ hil => absurd (hal i hi) hil)
  refine hQ a w inv.tmps inv.defs ?_
  rw [hE]; exact hR
 intro fuel
 induction fuel with
 | zero =>
  intro done rest listed a w E ltr inv hL hR hc
  have hr : Region.ready .any l.toArray listed = [] := by
   apply List.eq_nil_iff_forall_not_mem.2
   intro i hi
   obtain ⟨g1, o, g2, _⟩ := mem_ready.1 hi
   have hil : i < l.length := by
    rw [List.getElem?_toArray] at g2
    exact (List.getElem?_eq_some_iff.1 g2).1
   have := cnt_zero (by omega : cnt l listed = 0) hil
   rw [g1] at this; cases this
  exact ⟨hr, fin done rest listed a w E ltr inv hR hr⟩
 | succ fuel ih =>
  intro done rest listed a w E ltr inv hL hR hc
  refine ⟨fun hr => fin done rest listed a w E ltr inv hR hr, fun i hi => ?_⟩
  have hil : i < l.length := by
   obtain ⟨_, o, g2, _⟩ := mem_ready.1 hi
   rw [List.getElem?_toArray] at g2
   exact (List.getElem?_eq_some_iff.1 g2).1
  have ho : l[i]? = some l[i] := List.getElem?_eq_getElem hil
  obtain ⟨hun, hdeps⟩ := ready_deps hi ho
  have hnl : ¬ lst listed i := (unl inv.size hil).2 hun
  have hcn := cnt_set inv.size hil hun
  have hdd : ∀ o, o ∈ l → ∀ d, o.dst = some d → d < a.tmps.size := by rw [inv.tmps]; exact dstsOk_spec hok
  have hai := List.all_eq_true.1 hall i (List.mem_range.2 hil)
  rw [ho] at hai
  simp only [Bool.and_eq_true, Bool.not_eq_true'] at hai
  obtain ⟨⟨hsel, hown⟩, hlook⟩ := hai
  by_cases hiQ : i ∈ Q
  · 
    have hir : i ∈ rest := by
     have := inv.parts ▸ hiQ
     rcases List.mem_append.1 this with h | h
     · exact absurd (inv.isdone i h) hnl
     · exact h
    obtain ⟨q, r, hqr⟩ : ∃ q r, rest = q :: r := by cases rest with | nil => cases hir | cons q r => exact ⟨q, r, rfl⟩
    subst hqr
    have hiq : i = q := by
     rcases List.mem_cons.1 hir with h | h
     · exact h
     · obtain ⟨p, hp, hw⟩ := chainQ_at inv.parts hch i h
       unfold waitB at hw
       rw [ho] at hw
       exact absurd (hdeps p (memN_iff.1 hw)) (inv.open' p hp)
    subst hiq
    have hR' := hR
    simp only [pickO, mem_pickO ho, RlL] at hR'
    have hQnd := hnd
    rw [inv.parts] at hQnd
    have hir2 : i ∉ r := by
     have := (List.nodup_append.1 hQnd).2.1
     exact (List.nodup_cons.1 this).1
    refine wpOp_of_GOp hdd ho (GOp_congr hsel (fun x hx => ?_) hR') fun v w' hv => ?_
    · symm
      refine inv.env x (fun j hj hjQ hjl hdj => ?_)
      have h3 := List.all_eq_true.1 (List.all_eq_true.1 hlook x hx) j (List.mem_range.2 hj)
      simp only [hdj, beq_self_eq_true, Bool.not_true, Bool.or_eq_true, Bool.and_eq_true, Bool.false_eq_true, or_false] at h3
      rcases h3 with (h3 | h3) | h3
      · exact hjQ (memN_iff.1 h3)
      · exact hjl (hdeps j (memN_iff.1 h3))
      · obtain ⟨q, hqm, h4⟩ := List.any_eq_true.1 h3.2
        simp only [Bool.and_eq_true] at h4
        have hqd : q ∈ done := by
         have h5 := h4.2
         unfold okP.waitsQ at h5
         obtain ⟨y, hy, hyq⟩ := List.any_eq_true.1 h5
         have hyq : y = q := Nat.eq_of_beq_eq_true hyq
         subst hyq
         rw [inv.parts] at hy
         have htw : (done ++ i :: r).takeWhile (fun x => !(Nat.beq x i)) = done := by
          rw [List.takeWhile_append_of_pos]
          · simp
          · intro z hz
            have : z ≠ i := fun h => by
             subst h
             exact hnl (inv.isdone _ hz)
            cases hb9 : Nat.beq z i with
            | false => rfl
            | true => exact absurd (Nat.eq_of_beq_eq_true hb9) this
         rw [htw] at hy
         exact hy
        have h6 := h4.1.2
        unfold waitB at h6
        have hql : q < l.length := by simpa using List.all_eq_true.1 hin q hqm
        rw [List.getElem?_eq_getElem hql] at h6
        exact hjl (inv.cl q _ (List.getElem?_eq_getElem hql) (inv.isdone q hqd) j (memN_iff.1 h6))
    · refine ih (done ++ [i]) r _ _ w' _ _ ⟨by simp [inv.size], by rw [put_size]; exact inv.tmps, by rw [put_defers']; exact inv.defs, by rw [inv.parts]; simp, ?_, ?_, cl_set inv.size hil inv.cl hdeps, ?_, ?_, ?_⟩ hv.1 hv.2 (by omega)
      · intro q hq
        rw [set_lst inv.size hil]
        rcases List.mem_append.1 hq with h | h
        · exact .inl (inv.isdone q h)
        · exact .inr (List.mem_singleton.1 h)
      · intro q hq
        rw [set_lst inv.size hil]
        rintro (h | h)
        · exact inv.open' q (List.mem_cons_of_mem _ hq) h
        · subst h; exact hir2 hq
      · intro j hj hjQ hjl
        rw [set_lst inv.size hil] at hjl
        have hjl' : ¬ lst listed j := fun h => hjl (.inl h)
        refine List.mem_filter.2 ⟨inv.late j hj hjQ hjl', ?_⟩
        cases hm : memN j (depsOf l[i]) with
        | false => rfl
        | true => exact absurd (hdeps j (memN_iff.1 hm)) hjl'
      · intro j hj
        exact inv.sub j (List.mem_filter.1 hj).1
      · intro x hx
        have he := inv.env x (fun j hj hjQ hjl => by
         refine hx j hj hjQ ?_
         rw [set_lst inv.size hil]
         rintro (h1 | h1)
         · exact hjl h1
         · subst h1; exact hjQ hiQ)
        cases hd : l[i].dst with
        | none => exact he
        | some d =>
         rw [envOf_put a inv.tmps (by rw [← inv.tmps]; exact hdd _ (List.mem_of_getElem? ho) d hd)]
         simp only [updo]
         by_cases hxd : x = d
         · subst hxd; rw [upd_same, upd_same]
         · rw [upd_other _ _ hxd, upd_other _ _ hxd]; exact he
  · 
    have hm := inv.late i hil hiQ hnl
    have hown' : (memN i lt && l[i].dst.isSome && (List.range l.length).all fun j => Nat.beq j i || !(dstAt l j == dstAt l i)) = true := by
     rcases Bool.or_eq_true _ _ ▸ hown with h | h
     · exact absurd (memN_iff.1 h) hiQ
     · exact h
    simp only [Bool.and_eq_true] at hown'
    refine wpOp_of_GOp hdd ho (GOp_congr hsel (fun x hx => ?_) (hL i hm _ ho)) fun v w' hv => ?_
    · symm
      refine inv.env x (fun j hj hjQ hjl hdj => ?_)
      have h3 := List.all_eq_true.1 (List.all_eq_true.1 hlook x hx) j (List.mem_range.2 hj)
      simp only [hdj, beq_self_eq_true, Bool.not_true, Bool.or_eq_true, Bool.and_eq_true, Bool.false_eq_true, or_false] at h3
      rcases h3 with (h3 | h3) | h3
      · exact hjQ (memN_iff.1 h3)
      · exact hjl (hdeps j (memN_iff.1 h3))
      · exact hiQ (memN_iff.1 h3.1)
    · obtain ⟨⟨d', hd', hv⟩, rfl⟩ := hv
      refine ih done rest _ _ _ E ltr ⟨by simp [inv.size], by rw [put_size]; exact inv.tmps, by rw [put_defers']; exact inv.defs, inv.parts, ?_, ?_, cl_set inv.size hil inv.cl hdeps, ?_, inv.sub, ?_⟩ hL hR (by omega)
      · intro q hq
        rw [set_lst inv.size hil]; exact .inl (inv.isdone q hq)
      · intro q hq
        rw [set_lst inv.size hil]
        rintro (h1 | h1)
        · exact inv.open' q hq h1
        · subst h1; exact hiQ (by rw [inv.parts]; exact List.mem_append_right _ hq)
      · intro j hj hjQ hjl
        rw [set_lst inv.size hil] at hjl
        exact inv.late j hj hjQ (fun h => hjl (.inl h))
      · intro x hx
        rw [hd', envOf_put a inv.tmps (by rw [← inv.tmps]; exact hdd _ (List.mem_of_getElem? ho) d' hd')]
        by_cases hxd : x = d'
        · subst hxd; rw [upd_same, hv]
        · rw [upd_other _ _ hxd]
          refine inv.env x (fun j hj hjQ hjl hdj => ?_)
          by_cases hji : j = i
          · subst hji
            have : dstAt l j = some d' := by simp only [dstAt, ho]; exact hd'
            rw [this] at hdj; cases hdj; exact hxd rfl
          · refine hx j hj hjQ ?_ hdj
            rw [set_lst inv.size hil]
            rintro (h1 | h1)
            · exact hjl h1
            · exact hji h1
def nodupN : List Nat → Bool
 | [] => true
 | i :: r => !memN i r && nodupN r
theorem nodupN_spec : ∀ {r : List Nat}, nodupN r = true → r.Nodup
 | [], _ => List.nodup_nil
 | i :: r, h => by
  simp only [nodupN, Bool.and_eq_true, Bool.not_eq_true'] at h
  refine List.nodup_cons.2 ⟨fun hm => ?_, nodupN_spec h.2⟩
  rw [memN_iff.2 hm] at h; cases h.1
def updL (e : Env) : List (Nat × Value) → Env
 | [] => e
 | (d, v) :: r => updL (upd e d v) r
theorem updL_other {ds : List (Nat × Value)} : ∀ {e : Env} {x : Nat}, (∀ p ∈ ds, p.1 ≠ x) → updL e ds x = e x := by
 induction ds with
 | nil => intro e x _; rfl
 | cons p r ih =>
  intro e x h
  obtain ⟨d, v⟩ := p
  rw [updL, ih (fun p hp => h p (List.mem_cons_of_mem _ hp)), upd_other _ _ (fun hx => h (d, v) List.mem_cons_self hx.symm)]
theorem Swp.drawP {id : Nat} {k : List It} {Qr : Env → World → Prop} {l : List Oper} (Q lt : List Nat) (ds : List (Nat × Value)) (hm : P.follows .mixedOrders = true) (hok : dstsOk n l = true) (hq : okP l Q lt = true) (hnd : nodupN Q = true)
 (hd : ds.map (fun p => some p.1) = lt.map (dstAt l))
 (h : ∀ w1, Ext w w1 → LateP P l lt (updL e ds) w1 ∧ RlL P l (Swp P n k Qr) lt (pickO l Q) (updL e ds) w1) : Swp P n (.code (.region id l.toArray true) :: k) Qr e w := by
 intro a h1 h2 h3
 subst h3
 refine wp_region_any hm ?_
 have hE : Ext w { w with drawn := w.drawn + 1 } := Ext.drawn w _
 obtain ⟨hL, hR⟩ := h _ hE
 have hno : ∀ j, ¬ lst (Array.replicate l.toArray.size false) j := fun j hj => by unfold lst at hj; rw [getD_replicate_false] at hj; cases hj
 have hq' := hq
 simp only [okP, Bool.and_eq_true] at hq'
 obtain ⟨⟨⟨⟨hb, hch⟩, hin⟩, hlq⟩, hall⟩ := hq'
 refine anyP (K := Swp P n k Qr) hok hq (nodupN_spec hnd) (fun a' w' g1 g2 g3 => ⟨g1, g2, g3⟩) l.toArray.size [] Q (Array.replicate l.toArray.size false) a _ _ lt
  ⟨by simp, h1, h2, rfl, (fun q hq => by cases hq), (fun q _ => hno q), (fun j oj _ hj => absurd hj (hno j)), ?_, ?_, ?_⟩ hL hR ?_
 · intro i hi hiQ _
   have hai := List.all_eq_true.1 hall i (List.mem_range.2 hi)
   rw [List.getElem?_eq_getElem hi] at hai
   simp only [Bool.and_eq_true, Bool.or_eq_true] at hai
   rcases hai.1.2 with h | h
   · exact absurd (memN_iff.1 h) hiQ
   · exact memN_iff.1 h.1.1
 · intro i hi hiQ
   have := List.all_eq_true.1 hlq i hi
   rw [memN_iff.2 hiQ] at this; cases this
 · intro x hx
   rw [updL_other]
   intro p hp hpx
   have hm1 : some p.1 ∈ lt.map (dstAt l) := by rw [← hd]; exact List.mem_map.2 ⟨p, hp, rfl⟩
   obtain ⟨i, hi, hdi⟩ := List.mem_map.1 hm1
   have hil : i < l.length := by
    unfold dstAt at hdi
    rcases Nat.lt_or_ge i l.length with h | h
    · exact h
    · rw [List.getElem?_eq_none h] at hdi; cases hdi
   have hiQ : i ∉ Q := fun h => by
    have := List.all_eq_true.1 hlq i hi
    rw [memN_iff.2 h] at this; cases this
   exact hx i hil hiQ (hno i) (by rw [hdi, hpx])
 · unfold cnt
   refine Nat.le_trans (List.length_filter_le _ _) (by simp)
end
end Go.X
set_option linter.unusedSimpArgs false
set_option linter.unusedVariables false
namespace Go.X
open Go Go.RowKit
section
variable {P : Program} {s : Nat} {S : Nat → Prop} {X O O' O'' OR : List (Option Nat)} {C C' C'' CR : List Cont} {w w' w0 : World} {α : Type} {r : Rep α} {H : Hp}
theorem nodupB_append : ∀ {is rs : List Nat}, nodupB (is ++ rs) = true → nodupB rs = true ∧ ∀ i ∈ is, i ∉ rs
 | [], rs, h => ⟨h, fun _ hi => by cases hi⟩
 | i :: is, rs, h => by
  simp only [List.cons_append, nodupB, Bool.and_eq_true, Bool.not_eq_true'] at h
  obtain ⟨h1, h2⟩ := nodupB_append h.2
  refine ⟨h1, fun j hj hjr => ?_⟩
  rcases List.mem_cons.1 hj with rfl | hj
  · have := memN_iff.2 (List.mem_append_right is hjr)
    rw [this] at h; cases h.1
  · exact h2 j hj hjr
theorem Loc.lendW (hL : Loc X [] w0 w O C) (is : List Nat) (hO : pickL O is = some O') (hC : pickL C is = some C') (hn : nodupB is = true) : Loc O' [] w w O' C' :=
 ⟨rfl, rfl, rfl, Nat.le_refl _, fun _ _ _ => rfl, hL.own.pick hO hC, fun _ hb => .inl hb, hL.dist.pick hO hn, fun _ _ h => (by cases h), fun _ h => (by cases h)⟩
theorem Hv.lendW (is : List Nat) (hO : pickL O is = some O') : Le (Hv s S O w) (Hv w.heap.size Any O' w) := fun b o h => by
 obtain ⟨h1, h2⟩ := vw_some h
 refine vw_mk ⟨.inl trivial, fun hm => h1.2 ?_⟩ h2
 obtain ⟨i, _, hi⟩ := pickL_mem hO _ hm
 exact List.mem_of_getElem? hi
theorem own_row_lend (hL : Loc X [] w0 w O C) (i : Nat) {ob : Option Nat} {o n cap : Nat} {pre cs sp : List Value} {xs : List α} (is : List Nat) (hO : O[i]? = some ob) (hC : C[i]? = some (.cells (pre ++ (cs ++ sp)))) (hO' : pickL O is = some O') (hi : memN i is = false)
 (hE : Els r H cs xs) (hle : Le H (Hv w.heap.size Any O' w)) (hz : (r.sz == 0) = false) (ho : o = pre.length) (hn : n = xs.length) (hcap : (cs ++ sp).length = cap * r.sz) : Rs r (Hv w.heap.size Any O' w) (osv ob o n cap) xs := by
 cases ob with
 | none => exact row_nil (hL.at i hO hC) hE hz
 | some b =>
  refine row_rs (own_at (hL.at i hO hC) fun q hq => vw_mk ⟨.inl trivial, fun hm => ?_⟩ hq) (hE.mono hle) hz ho hn hcap
  obtain ⟨j, hj, hjx⟩ := pickL_mem hO' _ hm
  have := dist_inj hL.dist hO hjx
  subst this
  rw [memN_iff.2 hj] at hi; cases hi
theorem Loc.backW (hL : Loc X [] w0 w O C) (is rs : List Nat) (hO : pickL O is = some O') (hR : pickL O rs = some OR) (hCR : pickL C rs = some CR) (hn : nodupB (is ++ rs) = true) (hc : Loc O' [] w w' O'' C'') :
 Loc X [] w0 w' (O'' ++ OR) (C'' ++ CR) ∧ Step O (O'' ++ OR) w w' := by
 obtain ⟨hn1, hn2⟩ := nodupB_append hn
 have subO : ∀ b, b ∈ O' → b ∈ O := fun b hb => by
  obtain ⟨i, _, hi⟩ := pickL_mem hO b hb
  exact List.mem_of_getElem? hi
 have subR : ∀ b, b ∈ OR → b ∈ O := fun b hb => by
  obtain ⟨i, _, hi⟩ := pickL_mem hR b hb
  exact List.mem_of_getElem? hi
 have cross : ∀ b, some b ∈ O' → some b ∈ OR → False := fun b h1 h2 => by
  obtain ⟨i, hi, hix⟩ := pickL_mem hO _ h1
  obtain ⟨j, hj, hjx⟩ := pickL_mem hR _ h2
  have := dist_inj hL.dist hix hjx
  subst this
  exact hn2 i hi hj
 have hRo := hL.own.pick hR hCR
 refine ⟨⟨hc.os.trans hL.os, hc.tape.trans hL.tape, hc.output.trans hL.output, Nat.le_trans hL.size hc.size, fun k hk hx => ?_, Owns.append hc.own (hRo.same fun k hk => ?_), fun b hb => ?_, Distinct.append hc.dist (hL.dist.pick hR hn1) (fun b h1 h2 => ?_), fun _ _ h => (by cases h), fun _ h => (by cases h)⟩, ⟨fun k hk hx => hc.keep k hk (fun h => hx (subO _ h)), fun b hb => ?_⟩⟩
 · rw [hc.keep k (Nat.lt_of_lt_of_le hk hL.size) (fun h => ?_)]
   · exact hL.keep k hk hx
   · rcases hL.fresh k (subO _ h) with h1 | h1
     · exact hx h1
     · omega
 · exact hc.keep k (hRo.lt k hk) (fun h => cross k h hk)
 · rcases List.mem_append.1 hb with h | h
   · rcases hc.fresh b h with h1 | h1
     · exact hL.fresh b (subO _ h1)
     · exact .inr (Nat.le_trans hL.size h1)
   · exact hL.fresh b (subR _ h)
 · rcases hc.fresh b h1 with h3 | h3
   · exact cross b h3 h2
   · have := hRo.lt b h2; omega
 · rcases List.mem_append.1 hb with h | h
   · rcases hc.fresh b h with h1 | h1
     · exact .inl (subO _ h1)
     · exact .inr h1
   · exact .inl (subR _ h)
theorem Els.shrink {cs : List Value} {xs ys : List α} (h : Els r H cs (xs ++ ys)) : ∃ a b, cs = a ++ b ∧ Els r H a xs := by
 obtain ⟨a, b, h1, h2, _⟩ := h.split
 exact ⟨a, b, h1, h2⟩
theorem RlL.fin {l : List Oper} {K : Env → World → Prop} {lt : List Nat} {e : Env} (h : K e w) : RlL P l K lt [] e w := h
end
section
variable {P : Program} {ty : TypeId} {ρ : Operand → Value} {w w0 : World} {R : Value → World → Prop} {X : List (Option Nat)} {O : List (Option Nat)} {C : List Cont} {α : Type} {r : Rep α} {H : Hp}
theorem OpY.apRoom {t el : TypeId} {a c : Operand} {by' n cap i : Nat} {z x : Value} {ob : Option Nat} {cs sp ds : List Value} {xs ys Y : List α} (hu : P.underlying t = some (.slice el)) (ti : TI P el r.sz by' z) (hz : (r.sz == 0) = false)
    (ha : ρ a = osv ob 0 n cap) (hc : ρ c = x) (hL : Loc X [] w0 w O C) (hO : O[i]? = some ob) (hC : C[i]? = some (.cells ([] ++ (cs ++ sp)))) (hE : Els r H cs xs) (hn : n = xs.length) (hcap : (cs ++ sp).length = cap * r.sz) (hsrc : Src w x ys.length r.sz ds) (hD : Els r H ds ys) (hpos : 0 < ys.length)
    (hroom : n + ys.length ≤ cap) (hY : Y = xs ++ ys)
    (h : ∀ sp' ds' w', Els r H ds' Y → (ds' ++ sp').length = cap * r.sz → Loc X [] w0 w' O (C.set i (.cells ([] ++ (ds' ++ sp')))) → Step O O w w' → R (osv ob 0 Y.length cap) w') :
    OpY P (.call { callee := .builtin .append, args := #[a, c], argTypes := #[t, t] }) ty ρ w R := by
  obtain ⟨inf, hi, hs, hby, hzz⟩ := ti
  subst hY; subst hn
  have hsz : 0 < r.sz := by have : ¬ r.sz = 0 := by simpa using hz
                            omega
  obtain ⟨hnl, hsrc⟩ := hsrc
  obtain ⟨b2, o2, c2, rfl, hcell⟩ : ∃ b o cap, x = .slice (some ⟨b, o, none⟩) ys.length cap ∧ ∀ j u, ds[j]? = some u → w.cell? ⟨b, o + j, none⟩ = some u := by
    rcases hsrc with ⟨_, h⟩ | h
    · omega
    · exact h
  have hnews : ∀ j u, ds[j]? = some u → w.cell? ((⟨b2, o2, none⟩ : Addr).add j) = some u := fun j u hj => by rw [add_plain]; exact hcell j u hj
  cases ob with
  | none =>
    obtain ⟨_, h2, h3, h4⟩ := row_none (hL.at i hO hC) hE hz
    rw [h2, h3] at hcap
    have : cap = 0 := by
      rcases Nat.mul_eq_zero.1 (show cap * r.sz = 0 by simpa using hcap.symm) with h | h
      · exact h
      · omega
    omega
  | some g =>
    obtain ⟨tt, lo, hh, g1, g0, g2⟩ := hL.at i hO hC
    have hfit2 : xs.length * inf.size + ds.length ≤ (cs ++ sp).length := by
      rw [hcap, hnl, hs, ← Nat.add_mul]
      exact Nat.mul_le_mul_right _ hroom
    have g1' : w.heap[g]? = some (.cells (cs ++ sp).toArray tt (lo, hh)) := g1
    obtain ⟨w', r1, r2, r3, r4, r5, r6, r7⟩ := run_storeCells_own (P := P) ds 0 (xs.length * inf.size) (cs ++ sp) w g1' g2 (by simpa using hfit2) (ones_spec hD.ones)
    have hput : putAt (cs ++ sp) (xs.length * inf.size) ds = (cs ++ ds) ++ sp.drop ds.length := by
      have := putAt_append cs sp ds (by
        have := hfit2; simp only [List.length_append, hE.length, hs] at this; omega)
      rw [hE.length, ← hs] at this
      exact this
    have hp := hL.put (w' := w') i hO (c' := .cells ([] ++ ((cs ++ ds) ++ sp.drop ds.length))) ⟨tt, lo, hh, by rw [r2, Nat.add_zero, hput]; rfl, g0, fun j hj => g2 j (by
      simp only [List.nil_append, List.length_append, List.length_drop, hE.length, hs] at hj hfit2 ⊢; omega)⟩ r3 r4 r5 r6 r7
    have hf := run_firstCells_some (P := P) w inf.size ys.length ⟨b2, o2, none⟩ ys.length c2 ds (by rw [hnl, hs]) hnews
    have hr : (Builtin.append_ #[t, t] ty #[osv (some g) 0 xs.length cap, .slice (some ⟨b2, o2, none⟩) ys.length c2]).run P w = .ok (osv (some g) 0 (xs ++ ys).length cap) w' := by
      simp only [osv, List.length_append]
      simp [Builtin.append_, run_underlying hu, sizeOf, typeInfo, hi, Builtin.lenOf, hroom, hf, add_plain, r1]
    have hk := h (sp.drop ds.length) (cs ++ ds) w' (hE.append hD) (by
      have := hfit2
      rw [List.length_append] at hcap
      simp only [List.length_append, List.length_drop, hE.length, hs] at this hcap ⊢; omega) hp.1 hp.2
    simp only [OpY, bareOp, execOp, resolve, invoke, builtin]
    simp [ha, hc, hr, upon]
    rw [List.length_append] at hk
    exact hk
theorem OpY.apNew {t el : TypeId} {a c : Operand} {by' n cap i : Nat} {z x : Value} {ob : Option Nat} {cs sp ds : List Value} {xs ys Y : List α} (hu : P.underlying t = some (.slice el)) (ti : TI P el r.sz by' z) (hzc : z.cells.size = r.sz) (hz : (r.sz == 0) = false)
    (ha : ρ a = osv ob 0 n cap) (hc : ρ c = x) (hL : Loc X [] w0 w O C) (hO : O[i]? = some ob) (hC : C[i]? = some (.cells ([] ++ (cs ++ sp)))) (hE : Els r H cs xs) (hn : n = xs.length) (hcap : (cs ++ sp).length = cap * r.sz) (hsrc : Src w x ys.length r.sz ds) (hD : Els r H ds ys) (hpos : 0 < ys.length)
    (hroom : ¬ n + ys.length ≤ cap) (h63 : xs.length + ys.length ≤ 9223372036854775807) (hb : (xs.length + ys.length) * by' ≤ 140737488355328) (hY : Y = xs ++ ys)
    (h : ∀ b cap' sp' ds' w', Els r H ds' Y → (ds' ++ sp').length = cap' * r.sz → Loc X [] w0 w' (some b :: O) (.cells ([] ++ (ds' ++ sp')) :: C) → Step O (some b :: O) w w' → R (osv (some b) 0 Y.length cap') w') :
    OpY P (.call { callee := .builtin .append, args := #[a, c], argTypes := #[t, t] }) ty ρ w R := by
  obtain ⟨inf, hi, hs, hby, hzz⟩ := ti
  subst hby; subst hY; subst hn
  obtain ⟨hnl, hsrc⟩ := hsrc
  obtain ⟨b2, o2, c2, rfl, hcell⟩ : ∃ b o cap, x = .slice (some ⟨b, o, none⟩) ys.length cap ∧ ∀ j u, ds[j]? = some u → w.cell? ⟨b, o + j, none⟩ = some u := by
    rcases hsrc with ⟨_, h⟩ | h
    · omega
    · exact h
  have hnews : ∀ j u, ds[j]? = some u → w.cell? ((⟨b2, o2, none⟩ : Addr).add j) = some u := fun j u hj => by rw [add_plain]; exact hcell j u hj
  have grown : ∀ old, old < xs.length + ys.length →
      (Builtin.append_ #[t, t] ty #[osv ob 0 xs.length cap, .slice (some ⟨b2, o2, none⟩) ys.length c2]).run P w = .ok (.slice (some ⟨w.heap.size, 0, none⟩) (xs.length + ys.length) (grownCap w (xs.length + ys.length) old el))
        (w.drew.alloc (.cells (cs.toArray ++ ds.toArray ++ Builtin.zeroCells z.cells (grownCap w (xs.length + ys.length) old el - (xs.length + ys.length))) el)) →
      OpY P (.call { callee := .builtin .append, args := #[a, c], argTypes := #[t, t] }) ty ρ w R := by
    intro old ho hr
    have hge := grownCap_ge w (xs.length + ys.length) old el
    have hEL := Ext.drawn w (w.drawn + 1)
    have hL1 : Loc X [] w0 w.drew O C := hL.ext hEL
    have hal := hL1.alloc (o := .cells (cs.toArray ++ ds.toArray ++ Builtin.zeroCells z.cells (grownCap w (xs.length + ys.length) old el - (xs.length + ys.length))) el)
      (c := .cells ([] ++ ((cs ++ ds) ++ (Builtin.zeroCells z.cells (grownCap w (xs.length + ys.length) old el - (xs.length + ys.length))).toList)))
      (by have := ownC_alloc w.drew (cs.toArray ++ ds.toArray ++ Builtin.zeroCells z.cells (grownCap w (xs.length + ys.length) old el - (xs.length + ys.length))) el
          simpa using this)
    have hst : Step O (some w.heap.size :: O) w (w.drew.alloc (.cells (cs.toArray ++ ds.toArray ++ Builtin.zeroCells z.cells (grownCap w (xs.length + ys.length) old el - (xs.length + ys.length))) el)) :=
      Step.trans (Step.ext hEL) hal.2 (Nat.le_refl _)
    have hk := h w.heap.size (grownCap w (xs.length + ys.length) old el) (Builtin.zeroCells z.cells (grownCap w (xs.length + ys.length) old el - (xs.length + ys.length))).toList (cs ++ ds) _ (hE.append hD)
      (by simp only [List.length_append, Array.length_toList, size_zeroCells, hzc, hE.length, hnl, ← Nat.add_mul]; congr 1; omega) hal.1 hst
    rw [List.length_append] at hk
    simp only [OpY, bareOp, execOp, resolve, invoke, builtin]
    simp [ha, hc, hr, upon]
    simpa [osv] using hk
  cases ob with
  | none =>
    obtain ⟨_, h2, h3, h4⟩ := row_none (hL.at i hO hC) hE hz
    refine grown 0 (by omega) ?_
    have hr := run_append_nil (P := P) w t ty el inf z hu hi hzz ⟨b2, o2, none⟩ ys.length c2 ds (by rw [hnl, hs]) hnews hpos (by omega) (by
      have : ys.length * inf.bytes ≤ 140737488355328 := Nat.le_trans (Nat.mul_le_mul_right _ (by omega)) hb
      omega)
    rw [h4, h2]
    simpa [osv] using hr
  | some g =>
    have hle : xs.length ≤ cap := row_cap hE hz hcap
    refine grown cap (by omega) ?_
    have holds : ∀ j u, cs[j]? = some u → w.cell? ((⟨g, 0, none⟩ : Addr).add j) = some u := by
      intro j u hj
      rw [add_plain]
      refine cell_own (hL.at i hO hC) ?_
      have hlt := (List.getElem?_eq_some_iff.1 hj).1
      rw [List.nil_append, Nat.zero_add, List.getElem?_append_left hlt, hj]
    exact run_append_grow (P := P) w t ty el inf z hu hi hzz ⟨g, 0, none⟩ xs.length cap cs (by rw [hE.length, hs]) holds ⟨b2, o2, none⟩ ys.length c2 ds (by rw [hnl, hs]) hnews (by omega) (by omega) (growslice_fits (by omega) hb)
end
end Go.X
set_option linter.unusedSimpArgs false
set_option linter.unusedVariables false
set_option linter.unusedSectionVars false
namespace Go.X
open Go Go.RowKit
def mget {K V : Type} [DecidableEq K] : List (K × V) → K → V → V × Bool
 | [], _, z => (z, false)
 | p :: m, k, z => if p.1 = k then (p.2, true) else mget m k z
def mput {K V : Type} [DecidableEq K] : List (K × V) → K → V → List (K × V)
 | [], k, v => [(k, v)]
 | p :: m, k, v => if p.1 = k then (k, v) :: m else p :: mput m k v
def mfind {K V : Type} [DecidableEq K] (x : K) : List (K × V) → Nat → Option (Nat × V)
 | [], _ => none
 | p :: m, i => if p.1 = x then some (i, p.2) else mfind x m (i + 1)
theorem mfind_spec {K V : Type} [DecidableEq K] (x : K) : ∀ (m : List (K × V)) (i : Nat), (mfind x m i = none ∧ (∀ z, mget m x z = (z, false)) ∧ ∀ v, mput m x v = m ++ [(x, v)]) ∨
 ∃ j y, mfind x m i = some (i + j, y) ∧ m[j]? = some (x, y) ∧ (∀ z, mget m x z = (y, true)) ∧ ∀ v, mput m x v = m.set j (x, v)
 | [], i => .inl ⟨rfl, fun _ => rfl, fun _ => rfl⟩
 | (a, b) :: m, i => by
  by_cases h : a = x
  · subst h
    exact .inr ⟨0, b, by simp [mfind], rfl, fun _ => by simp [mget], fun _ => by simp [mput]⟩
  · rcases mfind_spec x m (i + 1) with ⟨h1, h2, h3⟩ | ⟨j, y, h1, h2, h3, h4⟩
    · exact .inl ⟨by simp [mfind, h, h1], fun z => by simp [mget, h, h2], fun v => by simp [mput, h, h3]⟩
    · refine .inr ⟨j + 1, y, ?_, by simpa using h2, fun z => by simp [mget, h, h3], fun v => by simp [mput, h, h4]⟩
      simp only [mfind, h, if_false, h1]
      rw [show i + 1 + j = i + (j + 1) by omega]
structure MKey (P : Program) (kt : TypeId) {K : Type} [DecidableEq K] (kf : K → Value) : Prop where
 check : ∀ (w : World) (em : Bool) (x : K), (Instr.checkKey em 10000 kt (kf x)).run P w = .ok () w
 find : ∀ (w : World) (x : K) {V : Type} (vf : V → Value) (m : List (K × V)) (es : List MapEntry), es.map (fun e => (e.key, e.val)) = m.map (fun p => (kf p.1, vf p.2)) →
  (Instr.findKey kt (kf x) es).run P w = .ok ((mfind x m 0).map fun p => (p.1, vf p.2)) w
 stays : ∀ (w : World) (x : K), (Instr.keyThatStays (kf x) (kf x)).run P w = .ok (kf x) w
theorem beq_s8 (x y : List UInt8) : (s8 x == s8 y) = decide (x = y) := by
 have h0 : (s8 x == s8 y) = (x.toArray == y.toArray) := rfl
 rw [h0]
 by_cases h : x = y
 · subst h; simp
 · simp [h]
section
variable {P : Program} {kt : TypeId} {w : World}
theorem findNow_find {K V : Type} [DecidableEq K] {kf : K → Value} {d : TypeDesc} (hs : ∀ x y, Instr.sameNow d (kf x) (kf y) = some (decide (y = x))) (x : K) (vf : V → Value) : ∀ (m : List (K × V)) (es : List MapEntry) (i : Nat),
 es.map (fun e => (e.key, e.val)) = m.map (fun p => (kf p.1, vf p.2)) → Instr.findNow d (kf x) es i = some ((mfind x m i).map fun p => (p.1, vf p.2))
 | [], [], i, _ => rfl
 | [], _ :: _, _, h => by cases h
 | _ :: _, [], _, h => by cases h
 | p :: m, e :: es, i, h => by
  simp only [List.map_cons, List.cons.injEq, Prod.mk.injEq] at h
  obtain ⟨⟨h1, h2⟩, h3⟩ := h
  simp only [Instr.findNow, h1, hs, mfind]
  by_cases hp : p.1 = x
  · simp [hp, h2]
  · simp only [hp, decide_false, if_false]
    exact findNow_find hs x vf m es (i + 1) h3
theorem MKey.now {K : Type} [DecidableEq K] {kf : K → Value} {d : TypeDesc} (hd : P.underlying kt = some d) (hs : ∀ x y, Instr.sameNow d (kf x) (kf y) = some (decide (y = x)))
 (hc : ∀ (w : World) (em : Bool) (x : K), (Instr.checkKey em 10000 kt (kf x)).run P w = .ok () w) (hb : ∀ x, Instr.sameBits 10000 (kf x) (kf x) = true) : MKey P kt kf :=
 ⟨hc, fun w x V vf m es h => by
  simp [Instr.findKey, run_underlying hd, findNow_find hs x vf m es 0 h], fun w x => by simp [Instr.keyThatStays, hb x]⟩
theorem MKey.str (hd : P.underlying kt = some .string) : MKey P kt (fun x : List UInt8 => Value.string (s8 x)) :=
  MKey.now hd (fun x y => by
      simp only [Instr.sameNow, Option.some.injEq]
      rw [beq_s8]
      by_cases h : y = x
      · subst h; simp
      · have : ¬ x = y := fun e => h e.symm
        simp [h, this])
    (fun w em x => by rw [show (10000 : Nat) = 9999 + 1 from rfl]; unfold Instr.checkKey; simp [run_underlying hd])
    (fun x => by rw [show (10000 : Nat) = 9999 + 1 from rfl]; simp [Instr.sameBits, beq_s8])
end
def mcont {K V : Type} (kf : K → Value) (vf : V → Value) (m : List (K × V)) : Cont := .map (m.map fun p => (kf p.1, vf p.2))
section
variable {P : Program} {ty : TypeId} {ρ : Operand → Value} {w w0 : World} {R : Value → World → Prop} {X : List (Option Nat)} {O : List (Option Nat)} {C : List Cont} {K V : Type} [DecidableEq K] {kf : K → Value} {vf : V → Value} {t kt et : TypeId} {b : Nat} {m : List (K × V)}
theorem mown (hc : OwnC w (some b) (mcont kf vf m)) : ∃ (ents : Array MapEntry) (clock : Nat), w.heap[b]? = some (.map ents clock) ∧ ents.toList.map (fun x => (x.key, x.val)) = m.map (fun p => (kf p.1, vf p.2)) ∧ (∀ x ∈ ents.toList, x.born < clock) ∧ (ents.toList.map (·.born)).Nodup := hc
theorem OpY.makeMap (hL : Loc X [] w0 w O C) (h : ∀ b w', Loc X [] w0 w' (some b :: O) (mcont kf vf ([] : List (K × V)) :: C) → Step O (some b :: O) w w' → R (.map (some b)) w') : OpY P (.makeMap t none) ty ρ w R := by
 have ha := hL.alloc (o := .map #[] 0) (c := mcont kf vf ([] : List (K × V))) ⟨#[], 0, by show (w.heap.push _)[w.heap.size]? = _; simp, rfl, fun x hx => (by simp at hx), by simp⟩
 have hr : (Instr.makeMap t none).run P w = .ok (.map (some w.heap.size)) (w.alloc (.map #[] 0)) := rfl
 simp only [OpY, bareOp, execOp]
 simp [hr, upon]
 exact h _ _ ha.1 ha.2
theorem run_look (hk : MKey P kt kf) (hu : P.underlying t = some (.map kt et)) {sz by' : Nat} {z : V} (ti : TI P et sz by' (vf z)) (hc : OwnC w (some b) (mcont kf vf m)) (x : K) (ok : Bool) :
 (Instr.lookup t (.map (some b)) (kf x) ok).run P w = .ok (if ok then .tuple #[vf (mget m x z).1, .bool (mget m x z).2] else vf (mget m x z).1) w := by
 obtain ⟨ents, clock, h1, h2, h3, h4⟩ := mown hc
 obtain ⟨inf, hi, _, _, hz⟩ := ti
 have hf := hk.find w x vf m ents.toList h2
 rcases mfind_spec x m 0 with ⟨g1, g2, _⟩ | ⟨j, y, g1, _, g3, _⟩
 · rw [g1] at hf
   simp [Instr.lookup, run_underlying hu, MapKept.run_getObj_map h1, hk.check, hf, g2, zeroValue, typeInfo, hi, hz, Result.andThen]
 · rw [g1] at hf
   simp [Instr.lookup, run_underlying hu, MapKept.run_getObj_map h1, hk.check, hf, g3, Result.andThen]
theorem OpY.look0 {a c : Operand} {x : K} {sz by' : Nat} {z : V} (hk : MKey P kt kf) (hu : P.underlying t = some (.map kt et)) (ti : TI P et sz by' (vf z)) (ha : ρ a = .map (some b)) (hc : OwnC w (some b) (mcont kf vf m)) (hx : ρ c = kf x)
 (h : R (vf (mget m x z).1) w) : OpY P (.lookup t a c false) ty ρ w R := by
 have hr := run_look hk hu ti hc x false
 simp only [OpY, bareOp, execOp, ha, hx]
 simp [hr, upon]
 exact h
theorem run_mput (hk : MKey P kt kf) (hu : P.underlying t = some (.map kt et)) (hL : Loc X [] w0 w O C) (i : Nat) (hO : O[i]? = some (some b)) (hC : C[i]? = some (mcont kf vf m)) (x : K) (y : V) :
    ∃ w', (Instr.mapUpdate t (.map (some b)) (kf x) (vf y)).run P w = .ok () w' ∧ Loc X [] w0 w' O (C.set i (mcont kf vf (mput m x y))) ∧ Step O O w w' := by
  obtain ⟨ents, clock, h1, h2, h3, h4⟩ := mown (hL.at i hO hC)
  have hf := hk.find w x vf m ents.toList h2
  have hlt := heap_lt h1
  have lay : ∀ (ents' : Array MapEntry) (clock' : Nat), ents'.toList.map (fun x => (x.key, x.val)) = (mput m x y).map (fun p => (kf p.1, vf p.2)) → (∀ x ∈ ents'.toList, x.born < clock') → (ents'.toList.map (·.born)).Nodup →
      Loc X [] w0 { w with heap := w.heap.setIfInBounds b (.map ents' clock') } O (C.set i (mcont kf vf (mput m x y))) ∧ Step O O w { w with heap := w.heap.setIfInBounds b (.map ents' clock') } := by
    intro ents' clock' g1 g2 g3
    refine hL.put i hO ⟨ents', clock', by simp [hlt], g1, g2, g3⟩ (fun k hk => ?_) (by simp) rfl rfl rfl
    simp [Array.getElem?_setIfInBounds, Ne.symm hk]
  rcases mfind_spec x m 0 with ⟨g1, _, g2⟩ | ⟨j, v, g1, g2, _, g3⟩
  · rw [g1] at hf
    refine ⟨_, by simp [Instr.mapUpdate, run_underlying hu, MapKept.run_getObj_map h1, hk.check, hf, MapKept.run_setObj_map _ h1, Result.andThen]; rfl, lay _ _ ?_ ?_ ?_⟩
    · rw [g2 y]; simp [h2]
    · intro e he
      simp only [Array.toList_push, List.mem_append, List.mem_singleton] at he
      rcases he with he | rfl
      · exact Nat.lt_succ_of_lt (h3 e he)
      · exact Nat.lt_succ_self _
    · simp only [Array.toList_push, List.map_append, List.map_cons, List.map_nil]
      refine List.nodup_append.2 ⟨h4, by simp, ?_⟩
      intro a ha b' hb e
      obtain ⟨q, hq, rfl⟩ := List.mem_map.1 ha
      simp only [List.mem_singleton] at hb
      have := h3 q hq
      omega
  · rw [g1, Nat.zero_add] at hf
    have hlen : ents.toList.length = m.length := by have := congrArg List.length h2; simpa using this
    have hjm : j < m.length := (List.getElem?_eq_some_iff.1 g2).1
    have hje : j < ents.toList.length := by omega
    have hkv : ((ents.toList[j]).key, (ents.toList[j]).val) = (kf x, vf v) := by
      have := congrArg (·[j]?) h2
      simp only [List.getElem?_map, List.getElem?_eq_getElem hje, g2, Option.map_some, Option.some.injEq] at this
      exact this
    have hj : ents[j]? = some ents.toList[j] := by rw [← Array.getElem?_toList]; exact List.getElem?_eq_getElem hje
    have hkey : (ents.toList[j]).key = kf x := congrArg Prod.fst hkv
    have hml : (ents.modify j (fun e' => { e' with key := kf x, val := vf y })).toList = ents.toList.set j { ents.toList[j] with key := kf x, val := vf y } := by rw [Array.toList_modify, ChangeMaps.modify_eq_set _ _ _ _ (List.getElem?_eq_getElem hje)]
    have hrun : (Instr.mapUpdate t (.map (some b)) (kf x) (vf y)).run P w = .ok () { w with heap := w.heap.setIfInBounds b (.map (ents.modify j (fun e' => { e' with key := kf x, val := vf y })) clock) } := by
      have hst : (Instr.keyThatStays ((Option.map (·.key) ents[j]?).getD (kf x)) (kf x)).run P w = .ok (kf x) w := by
        rw [hj]; simp only [Option.map_some, Option.getD_some, hkey]; exact hk.stays w x
      simp [Instr.mapUpdate, run_underlying hu, MapKept.run_getObj_map h1, hk.check, hf, hst, MapKept.run_setObj_map _ h1, Result.andThen]
    refine ⟨_, hrun, lay _ _ ?_ ?_ ?_⟩
    · rw [hml, g3 y, List.map_set, List.map_set, h2]
    · intro e he
      rw [hml] at he
      rcases List.mem_or_eq_of_mem_set he with he | rfl
      · exact h3 e he
      · exact h3 (ents.toList[j]) (List.getElem_mem hje)
    · rw [hml, List.map_set]
      have : (ents.toList.map (·.born)).set j (ents.toList[j]).born = ents.toList.map (·.born) := by
        apply List.ext_getElem?
        intro q
        rw [List.getElem?_set]
        split
        · rename_i hq; subst hq; simp only [List.length_map, hje, if_true, List.getElem?_map, List.getElem?_eq_getElem hje, Option.map_some]
        · rfl
      show ((ents.toList.map (·.born)).set j (ents.toList[j]).born).Nodup
      rw [this]; exact h4
theorem OpY.mapPut {a c d : Operand} {x : K} {y : V} (hk : MKey P kt kf) (hu : P.underlying t = some (.map kt et)) (ha : ρ a = .map (some b)) (hx : ρ c = kf x) (hy : ρ d = vf y) (hL : Loc X [] w0 w O C) (i : Nat) (hO : O[i]? = some (some b)) (hC : C[i]? = some (mcont kf vf m))
 (h : ∀ w', Loc X [] w0 w' O (C.set i (mcont kf vf (mput m x y))) → Step O O w w' → R undef w') : OpY P (.mapUpdate t a c d) ty ρ w R := by
 obtain ⟨w', h1, h2, h3⟩ := run_mput hk hu hL i hO hC x y
 simp only [OpY, bareOp, execOp, ha, hx, hy]
 simp [h1, upon]
 exact h w' h2 h3
end
end Go.X
set_option linter.unusedSimpArgs false
set_option linter.unusedVariables false
set_option linter.unusedSectionVars false
namespace Go.X
open Go Go.RowKit
theorem putAt_part {l vs us : List Value} {q off : Nat} (h : (l.drop q).take vs.length = vs) (ho : off + us.length ≤ vs.length) : putAt l (q + off) us = putAt l q (putAt vs off us) := by
 by_cases hv : vs.length = 0
 · have : us = [] := List.length_eq_zero_iff.1 (by omega)
   subst this
   have : vs = [] := List.length_eq_zero_iff.1 hv
   subst this
   rfl
 have hlen : q + vs.length ≤ l.length := by
  have := congrArg List.length h
  rw [List.length_take, List.length_drop] at this
  omega
 have hp : (putAt vs off us).length = vs.length := length_putAt us vs off
 apply List.ext_getElem?
 intro i
 rw [get_putAt _ _ _ _ (by omega), get_putAt _ _ _ _ (by rw [hp]; exact hlen), hp]
 have hget : ∀ j, j < vs.length → l[q + j]? = vs[j]? := fun j hj => by
  have := congrArg (·[j]?) h
  simp only [List.getElem?_take, hj, if_true, List.getElem?_drop] at this
  exact this
 by_cases h1 : q ≤ i ∧ i < q + vs.length
 · rw [if_pos h1, get_putAt _ _ _ _ ho]
   by_cases h2 : q + off ≤ i ∧ i < q + off + us.length
   · rw [if_pos h2, if_pos ⟨by omega, by omega⟩, show i - (q + off) = i - q - off by omega]
   · rw [if_neg h2, if_neg (by omega)]
     have := hget (i - q) (by omega)
     rw [show q + (i - q) = i by omega] at this
     exact this
 · rw [if_neg h1, if_neg (by omega)]
section
variable {P : Program} {ty : TypeId} {ρ : Operand → Value} {w w0 : World} {R : Value → World → Prop} {X : List (Option Nat)} {O : List (Option Nat)} {C : List Cont} {α : Type} {r : Rep α} {H : Hp}
theorem OpY.stPart {t : TypeId} {x y : Operand} {b q n off sz by' : Nat} {z v : Value} {pre cs sp us vs vs' : List Value} {xs Y : List α} {a : α} (ti : TI P t sz by' z) (hx : ρ x = .pointer (some ⟨b, q + off, none⟩)) (hy : ρ y = v) (hv : v.cells = us.toArray) (hul : us.length = sz) (hone : ones us = true)
 (hk : ((pre ++ (cs ++ sp)).drop q).take vs.length = vs) (hoff : off + us.length ≤ vs.length) (hvs : putAt vs off us = vs') (hR : r.R H vs' a)
 (hL : Loc X [] w0 w O C) (i : Nat) (hO : O[i]? = some (some b)) (hC : C[i]? = some (.cells (pre ++ (cs ++ sp)))) (hE : Els r H cs xs) (hn : n < xs.length) (hq : q = pre.length + n * r.sz) (hY : Y = xs.set n a)
 (h : ∀ w' cs', Loc X [] w0 w' O (C.set i (.cells (pre ++ (cs' ++ sp)))) → Step O O w w' → Els r H cs' Y → cs'.length = cs.length → R undef w') : OpY P (.store t x y) ty ρ w R := by
 subst hY
 have hlen := hE.length
 have hvl := r.len _ _ _ hR
 have hb : n * r.sz + r.sz ≤ cs.length := by rw [hlen, ← Nat.succ_mul]; exact Nat.mul_le_mul_right _ hn
 have hvsl : vs.length = r.sz := by rw [← hvl, ← hvs, length_putAt]
 have hp : putAt (pre ++ (cs ++ sp)) q vs' = pre ++ (putAt cs (n * r.sz) vs' ++ sp) := by
  subst hq
  rw [putAt_eq _ _ _ (by simp [hvl]; omega), putAt_eq _ _ _ (by rw [hvl]; exact hb), hvl]
  rw [List.take_append, List.take_of_length_le (by omega), show pre.length + n * r.sz - pre.length = n * r.sz by omega,
   List.take_append_of_le_length (by omega), List.drop_append, List.drop_of_length_le (by omega), List.nil_append,
   show pre.length + n * r.sz + r.sz - pre.length = n * r.sz + r.sz by omega, List.drop_append_of_le_length hb]
  simp
 refine OpY.store ti hx hy hv hul hone hL i hO hC (by subst hq; simp; omega) fun w' h1 h2 => ?_
 rw [putAt_part hk hoff, hvs, hp] at h1
 exact h w' _ h1 h2 (hE.set hR hn) (by rw [length_putAt])
end
end Go.X
set_option linter.unusedSimpArgs false
set_option linter.unusedVariables false
namespace Go.X
open Go Go.RowKit
end Go.X
set_option linter.unusedSimpArgs false
set_option linter.unusedVariables false
namespace Go.X
open Go Go.RowKit
theorem bif_t {α : Type} {c : Bool} {a b : α} (h : c = true) : (bif c then a else b) = a := by rw [h]; rfl
def sby (s : List UInt8) : List Int := s.map fun b => (b.toNat : Int)
theorem sby_len (s : List UInt8) : (sby s).length = s.length := by simp [sby]
theorem Els.ofInts {k : IntKind} {H : Hp} : ∀ {xs : List Int}, Els (rInt k) H (xs.map (Value.int k)) xs
 | [] => rfl
 | x :: xs => Els.cons (a := [.int k x]) rfl Els.ofInts
section
variable {P : Program} {X O : List (Option Nat)} {C : List Cont} {w w0 : World} {ρ : Operand → Value} {ty : TypeId} {R : Value → World → Prop} {H : Hp}
theorem OpY.strBytes {t u e : TypeId} {x : Operand} {s : List UInt8} (hs : P.underlying t = some .string) (hd : P.underlying u = some (.slice e)) (he : P.underlying e = some (.int .u8)) (hx : ρ x = .string (s8 s)) (hL : Loc X [] w0 w O C)
 (h : ∀ b cap sp cs w', Els (rInt .u8) H cs (sby s) → (cs ++ sp).length = cap * (rInt .u8).sz → Loc X [] w0 w' (some b :: O) (.cells ([] ++ (cs ++ sp)) :: C) → Step O (some b :: O) w w' → R (osv (some b) 0 (sby s).length cap) w') : OpY P (.convert t u x) ty ρ w R := by
 have hr := run_bytes_of_string (P := P) w t u e (s8 s) hs hd he
 have hge := grownCap_ge w (s8 s).size 0 e
 generalize grownCap w (s8 s).size 0 e = cap at hr hge
 rw [s8_size] at hr hge
 have hEL := Ext.drawn w (w.drawn + 1)
 have hL1 : Loc X [] w0 w.drew O C := hL.ext hEL
 have hrow : bytesRow (s8 s) cap = ((sby s).map (Value.int .u8) ++ List.replicate (cap - s.length) (Value.int .u8 0)).toArray := by
  unfold bytesRow
  rw [s8_size]
  apply Array.ext'
  simp [s8, sby]
 have hlen : ((sby s).map (Value.int .u8) ++ List.replicate (cap - s.length) (Value.int .u8 0)).length = cap := by
  simp [sby]; omega
 have hal := hL1.alloc (o := .cells (bytesRow (s8 s) cap) e ((bytesRow (s8 s) cap).size, (bytesRow (s8 s) cap).size + 1)) (c := .cells ([] ++ ((sby s).map (Value.int .u8) ++ List.replicate (cap - s.length) (Value.int .u8 0)))) (by
  refine ⟨e, (bytesRow (s8 s) cap).size, (bytesRow (s8 s) cap).size + 1, ?_, Nat.le_succ _, fun i hi h => ?_⟩
  · show (w.heap.push _)[w.heap.size]? = _
    rw [List.nil_append, ← hrow]; simp
  · rw [hrow] at h
    simp only [List.nil_append] at hi
    simp only [List.size_toArray] at h
    omega)
 have hst : Step O (some w.heap.size :: O) w (w.drew.alloc (.cells (bytesRow (s8 s) cap) e ((bytesRow (s8 s) cap).size, (bytesRow (s8 s) cap).size + 1))) :=
  Step.trans (Step.ext hEL) hal.2 (Nat.le_refl _)
 simp only [OpY, bareOp, execOp, hx]
 simp only [hr, upon, Sem.run_bind, Result.andThen_ok, Sem.run_pure]
 have := h w.heap.size cap _ _ _ (Els.ofInts (H := H)) (by rw [hlen]; exact (Nat.mul_one cap).symm) hal.1 hst
 rw [sby_len] at this
 exact this
theorem OpY.buildArr {t el : TypeId} {n szt byt : Nat} {zt : Value} {zc : List Value} {parts : List (Nat × Operand)} {sz by' : Nat} {z : Value} {vs : List Value} {css : List (List Value)} (hu : P.underlying t = some (.array n el)) (tt : TI P t szt byt zt) (hz : zt.cells = zc.toArray) (ti : TI P el sz by' z)
 (hzl : zc.length = vs.length * sz) (hp : (parts.map fun p => (p.1, ρ p.2)) = numbered 0 vs) (hc : cellsAre sz vs css) (h : R (.agg css.flatten.toArray) w) : OpY P (.build t parts.toArray) ty ρ w R := by
 obtain ⟨i, hi, _, _, hzz⟩ := tt
 obtain ⟨j, hj, hs, _, _⟩ := ti
 subst hs
 have hf := fill_run (sz := j.size) vs css 0 [] zc (by simp) hzl hc
 rw [List.nil_append, List.nil_append] at hf
 have hlist : ((parts.toArray.map fun (x : Nat × Operand) => (x.1, ρ x.2))).toList = numbered 0 vs := by simpa using hp
 have hr : (Instr.build t ((parts.toArray.map fun (x : Nat × Operand) => (x.1, ρ x.2)))).run P w = .ok (.agg css.flatten.toArray) w := by
  simp only [Instr.build, Sem.run_bind, zeroValue, typeInfo, run_program, Result.andThen_ok, hi, Sem.run_pure, hzz, run_underlying hu, sizeOf, hj, hz, hlist, hf]
 simp only [OpY, bareOp, execOp]
 simp only [Sem.run_bind, hr, Result.andThen_ok, Sem.run_pure, upon]
 exact h
end
end Go.X
set_option linter.unusedSimpArgs false
set_option linter.unusedVariables false
namespace Go.X
open Go Go.RowKit
section
variable {H : Type} {enc : TypeId × Value → H} {P : Program} {W : World}
theorem trod_elems {t e : TypeId} {n fuel : Nat} {cs : List Value} {x : DataW H × List MemPlace} (ht : P.underlying t = some (.array n e)) (h : DataW.trod enc P W 0 (fun _ => true) true fuel t cs = some x) :
 cs.length = P.cellsOf t ∧ ∃ m, m < fuel ∧ ∀ (i : Nat), i < n → ∃ y, DataW.trod enc P W 0 (fun _ => true) true m e ((cs.drop (i * P.cellsOf e)).take (P.cellsOf e)) = some y := by
 obtain ⟨xs, m, hm, _, hl, hxl, hf⟩ := DataW.trod_array ht h
 refine ⟨hl, m, by omega, fun i hi => ?_⟩
 exact ⟨_, (hf i hi).trans (List.getElem?_eq_getElem (by omega))⟩
end
end Go.X
set_option linter.unusedSimpArgs false
set_option linter.unusedVariables false
namespace Go.X
open Go Go.RowKit
def setF (V : Nat → Value) : List (Nat × Nat) → Env → Env
 | [], E => E
 | (f, d) :: r, E => upd (setF V r E) d (V f)
theorem setF_env {V : Nat → Value} {E ρ : Env} {x : Nat} : ∀ {fds : List (Nat × Nat)}, (∀ p ∈ fds, p.2 = x → V p.1 = ρ x) → ((∀ p ∈ fds, p.2 ≠ x) → E x = ρ x) → setF V fds E x = ρ x
 | [], _, h => h (fun p hp => by cases hp)
 | (f, d) :: r, h1, h2 => by
  by_cases hx : x = d
  · subst hx
    show upd _ x (V f) x = _
    rw [upd_same]; exact h1 (f, x) List.mem_cons_self rfl
  · show upd _ d (V f) x = _
    rw [upd_other _ _ hx]
    refine setF_env (fun p hp => h1 p (List.mem_cons_of_mem _ hp)) (fun h => h2 fun p hp => ?_)
    rcases List.mem_cons.1 hp with rfl | hp
    · exact fun e => hx e.symm
    · exact h p hp
def OB (O : List (Option Nat)) (w : World) : Prop := ∀ b, some b ∈ O → b < w.heap.size
def LateX (P : Program) (l : List Oper) (lt : List Nat) (E : Env) (w : World) : Prop := ∀ w', Ext w w' → LateP P l lt E w'
def waitP (l : List Oper) : Nat → Nat → Nat → Bool
 | 0, _, _ => false
 | n + 1, i, q => waitB l i q || match l[i]? with
  | some o => (depsOf o).any fun j => waitP l n j q
  | none => false
def enB (l : List Oper) (la lt0 : List Nat) (q : Nat) (r ne : List Nat) : Bool :=
 (la.all fun i => !waitP l 3 i q || memN i ne || r.any fun q' => waitP l 3 i q') && ne.all fun i => memN i la && !memN i lt0 && waitP l 3 i q && Nat.blt i l.length
def RlF (P : Program) (l : List Oper) (K : Env → World → Prop) (fds : List (Nat × Nat)) (Φ : Nat → Value → List (Option Nat) → World → Prop) (s0 : Nat) (la lt0 : List Nat) : Nat → List Nat → List Nat → List (Option Nat) → Env → World → Prop
  | 0, _, rest, _, E, w => rest = [] → ∀ w' V, Ext w w' → K (setF V fds E) w'
  | m + 1, lt, rest, O, E, w => (rest = [] → ∀ w' V, Ext w w' → K (setF V fds E) w') ∧ ∀ q ∈ rest, (rest.all fun x => !waitP l 3 q x) = true → ∀ w' V, Ext w w' → (∀ p ∈ fds, memN p.1 (depsOf (l.getD q noOper)) = true → Φ p.1 (V p.1) O w') →
      GOp P l (l.getD q noOper) (setF V fds E) w' fun v w'' => ∃ O' ne ds, Keep s0 O w' O' w'' ∧ OB O' w'' ∧ s0 ≤ w''.heap.size ∧ ds.map (fun p => some p.1) = ne.map (dstAt l) ∧ enB l la lt0 q (rest.filter fun x => !Nat.beq x q) ne = true ∧
        LateX P l ((lt.filter fun i => !memN i (depsOf (l.getD q noOper))) ++ ne) (updL (updo E (l.getD q noOper).dst v) ds) w'' ∧
        RlF P l K fds Φ s0 la lt0 m ((lt.filter fun i => !memN i (depsOf (l.getD q noOper))) ++ ne) (rest.filter fun x => !Nat.beq x q) O' (updL (updo E (l.getD q noOper).dst v) ds) w''
def FloatP (P : Program) (l : List Oper) (fds : List (Nat × Nat)) (Φ : Nat → Value → List (Option Nat) → World → Prop) (s0 : Nat) (O0 : List (Option Nat)) (w0 : World) (E : Env) : Prop :=
 ∀ p ∈ fds, ∀ o, l[p.1]? = some o → ∀ w1 O1, Keep s0 O0 w0 O1 w1 → s0 ≤ w1.heap.size → OB O1 w1 → GOp P l o E w1 fun v w2 => Ext w1 w2 ∧ Φ p.1 v O1 w2
def okF (l : List Oper) (Q lt lt0 : List Nat) (fds : List (Nat × Nat)) : Bool :=
  (lt.all fun i => memN i lt0 || Q.any fun q => waitP l 3 i q) && backOk l && (Q.all fun q => Nat.blt q l.length) && (lt.all fun i => !memN i Q && !memN i (fds.map (·.1))) && (fds.all fun p => !memN p.1 Q && dstAt l p.1 == some p.2 && (List.range l.length).all fun j => Nat.beq j p.1 || !(dstAt l j == some p.2)) &&
  (List.range l.length).all fun i => match l[i]? with
    | some o => !isSel o.op && (memN i Q || memN i (fds.map (·.1)) || (memN i lt && o.dst.isSome && (List.range l.length).all fun j => Nat.beq j i || !(dstAt l j == dstAt l i))) &&
        ((looksE l o).all fun x => (List.range l.length).all fun j => (memN j Q && !memN i (fds.map (·.1))) || !(dstAt l j == some x) || memN j (depsOf o) || waitP l 3 i j) &&
        (memN i Q || (looksE l o).all fun x => fds.all fun p => !Nat.beq p.2 x) && (!memN i (fds.map (·.1)) || (looksE l o).all fun x => (Q.all fun q => !(dstAt l q == some x)) && lt.all fun j => memN j lt0 || !(dstAt l j == some x))
    | none => true
theorem Els.ofIntsZ {k : IntKind} {H : Hp} : ∀ {xs : List Int}, Els (rInt k) H (xs.map (Value.int k)) xs
 | [] => rfl
 | x :: xs => Els.cons (a := [.int k x]) rfl Els.ofIntsZ
section
variable {P : Program} {l : List Oper} {n : Nat} {K : Env → World → Prop} {e : Env} {w : World} {fds : List (Nat × Nat)} {Φ : Nat → Value → List (Option Nat) → World → Prop} {s0 : Nat} {O0 : List (Option Nat)} {w0 : World} {la lt0 : List Nat}
theorem waitP_lst {listed : Array Bool} (cl : ∀ j oj, l[j]? = some oj → lst listed j → ∀ d ∈ depsOf oj, lst listed d) {q : Nat} : ∀ (n i : Nat) (o : Oper), l[i]? = some o → (∀ d ∈ depsOf o, lst listed d) → (∀ j, lst listed j → j < l.length) → waitP l n i q = true → lst listed q
 | 0, _, _, _, _, _, h => by simp [waitP] at h
 | n + 1, i, o, ho, hd, hl, h => by
  simp only [waitP, ho, Bool.or_eq_true] at h
  rcases h with h | h
  · unfold waitB at h
    rw [ho] at h
    exact hd q (memN_iff.1 h)
  · obtain ⟨j, hj, hw⟩ := List.any_eq_true.1 h
    have hjl := hd j hj
    have hjlt := hl j hjl
    have hjo : l[j]? = some l[j] := List.getElem?_eq_getElem hjlt
    exact waitP_lst cl n j _ hjo (cl j _ hjo hjl) hl hw
theorem RlF.ext : ∀ {m : Nat} {rest lt : List Nat} {O : List (Option Nat)} {E : Env} {w w' : World}, RlF P l K fds Φ s0 la lt0 m lt rest O E w → Ext w w' → RlF P l K fds Φ s0 la lt0 m lt rest O E w'
 | 0, _, _, _, _, _, _, h, hE => fun hr w2 V h2 => h hr w2 V (hE.trans h2)
 | _ + 1, _, _, _, _, _, _, h, hE => ⟨fun hr w2 V h2 => h.1 hr w2 V (hE.trans h2), fun q hq hen w2 V h2 => h.2 q hq hen w2 V (hE.trans h2)⟩
theorem LateX.ext {lt : List Nat} {E : Env} {w w' : World} (h : LateX P l lt E w) (hE : Ext w w') : LateX P l lt E w' := fun w2 h2 => h w2 (hE.trans h2)
structure InvF (l : List Oper) (n : Nat) (la lt0 Q : List Nat) (fds : List (Nat × Nat)) (Φ : Nat → Value → List (Option Nat) → World → Prop) (rest : List Nat) (listed : Array Bool) (a : Act) (E E0 : Env) (O : List (Option Nat)) (w : World) (ltr : List Nat) : Prop where
 size : listed.size = l.length
 tmps : a.tmps.size = n
 defs : a.defers = []
 cover : ∀ q ∈ Q, q ∈ rest ∨ lst listed q
 restQ : ∀ q ∈ rest, q ∈ Q
 open' : ∀ q ∈ rest, ¬ lst listed q
 cl : ∀ j oj, l[j]? = some oj → lst listed j → ∀ d ∈ depsOf oj, lst listed d
 late : ∀ i, i < l.length → i ∉ Q → i ∉ fds.map (·.1) → ¬ lst listed i → i ∈ ltr ∨ ∃ q ∈ rest, waitP l 3 i q = true
 env : ∀ x, (∀ p ∈ fds, p.2 ≠ x) → (∀ i, i < l.length → i ∉ Q → i ∉ fds.map (·.1) → ¬ lst listed i → dstAt l i ≠ some x) → envOf a x = E x
 env0 : ∀ x, (∀ q ∈ Q, dstAt l q ≠ some x) → (∀ i ∈ la, i ∉ lt0 → dstAt l i ≠ some x) → E x = E0 x
 made : ∀ p ∈ fds, lst listed p.1 → Φ p.1 (envOf a p.2) O w
theorem anyF {Q : List Nat} {E0 : Env} {Qp : Exit → Act → World → Prop} (hok : dstsOk n l = true) (hq : okF l Q la lt0 fds = true) (hfl : FloatP P l fds Φ s0 O0 w0 E0)
 (hΦ : ∀ p v O O' w w', Φ p v O w → Keep s0 O w O' w' → Φ p v O' w') (hQ : ∀ a w, a.tmps.size = n → a.defers = [] → K (envOf a) w → Qp .normal a w) :
 ∀ (fuel m : Nat) (rest : List Nat) (listed : Array Bool) (a : Act) (w : World) (E : Env) (O : List (Option Nat)) (ltr : List Nat), InvF l n la lt0 Q fds Φ rest listed a E E0 O w ltr → Keep s0 O0 w0 O w → OB O w → s0 ≤ w.heap.size → LateX P l ltr E w → RlF P l K fds Φ s0 la lt0 m ltr rest O E w → rest.length ≤ m → cnt l listed ≤ fuel → wpAny P .any l.toArray Qp fuel listed a w := by
 have hq' := hq
 simp only [okF, Bool.and_eq_true] at hq'
 obtain ⟨⟨⟨⟨⟨hst0, hb⟩, hin⟩, hlq⟩, hfd⟩, hall⟩ := hq'
 have hlaQ : ∀ i ∈ la, i ∉ Q ∧ i ∉ fds.map (·.1) := by
  intro i hi
  have h := List.all_eq_true.1 hlq i hi
  simp only [Bool.and_eq_true, Bool.not_eq_true'] at h
  refine ⟨fun hm => ?_, fun hm => ?_⟩
  · rw [memN_iff.2 hm] at h; cases h.1
  · rw [memN_iff.2 hm] at h; cases h.2
 have hlaIn : ∀ i, i < l.length → i ∉ Q → i ∉ fds.map (·.1) → i ∈ la := by
  intro i hi hiQ hif
  have hai := List.all_eq_true.1 hall i (List.mem_range.2 hi)
  rw [List.getElem?_eq_getElem hi] at hai
  simp only [Bool.and_eq_true, Bool.or_eq_true] at hai
  rcases hai.1.1.1.2 with (h | h) | h
  · exact absurd (memN_iff.1 h) hiQ
  · exact absurd (memN_iff.1 h) hif
  · exact memN_iff.1 h.1.1
 have hfd1 : ∀ p ∈ fds, p.1 ∉ Q ∧ dstAt l p.1 = some p.2 ∧ ∀ j, j < l.length → dstAt l j = some p.2 → j = p.1 := by
  intro p hp
  have h := List.all_eq_true.1 hfd p hp
  simp only [Bool.and_eq_true, Bool.not_eq_true', beq_iff_eq] at h
  refine ⟨fun hm => ?_, h.1.2, fun j hj hd => ?_⟩
  · rw [memN_iff.2 hm] at h; cases h.1.1
  · have h2 := List.all_eq_true.1 h.2 j (List.mem_range.2 hj)
    rw [hd] at h2
    simp only [Bool.or_eq_true, beq_self_eq_true, Bool.not_true, Bool.false_eq_true, or_false] at h2
    exact Nat.eq_of_beq_eq_true h2
 have hV : ∀ {a : Act} {E : Env} {x : Nat}, ((∀ p ∈ fds, p.2 ≠ x) → envOf a x = E x) → setF (fun f => match dstAt l f with | some d => envOf a d | none => undef) fds E x = envOf a x := by
  intro a E x h
  refine setF_env (fun p hp hx => ?_) (fun h' => (h h').symm)
  show (match dstAt l p.1 with | some d => envOf a d | none => undef) = _
  rw [(hfd1 p hp).2.1]; show envOf a p.2 = _; rw [hx]
 have fin : ∀ (m : Nat) (rest : List Nat) (listed : Array Bool) (a : Act) (w : World) (E : Env) (O : List (Option Nat)) (ltr : List Nat), InvF l n la lt0 Q fds Φ rest listed a E E0 O w ltr → RlF P l K fds Φ s0 la lt0 m ltr rest O E w → Region.ready .any l.toArray listed = [] → Qp .normal a w := by
  intro m rest listed a w E O ltr inv hR hr
  have hal := allListed inv.size hb hr
  have hr0 : rest = [] := by
   cases rest with
   | nil => rfl
   | cons q r =>
    have hqm : q ∈ Q := inv.restQ q List.mem_cons_self
    have hql : q < l.length := by simpa using List.all_eq_true.1 hin q hqm
    exact absurd (hal q hql) (inv.open' q List.mem_cons_self)
  refine hQ a w inv.tmps inv.defs ?_
  have hR1 : ∀ w' V, Ext w w' → K (setF V fds E) w' := by
   cases m with
   | zero => exact hR hr0
   | succ m => exact hR.1 hr0
  have := hR1 w (fun f => match dstAt l f with | some d => envOf a d | none => undef) (Ext.refl w)
  have hE : setF (fun f => match dstAt l f with | some d => envOf a d | none => undef) fds E = envOf a := by
   funext x
   exact hV (fun hx => inv.env x hx (fun i hi _ _ hil => absurd (hal i hi) hil))
  rw [hE] at this; exact this
 intro fuel
 induction fuel with
 | zero =>
  intro m rest listed a w E O ltr inv hk hO hs hL hR hml hc
  have hr : Region.ready .any l.toArray listed = [] := by
   apply List.eq_nil_iff_forall_not_mem.2
   intro i hi
   obtain ⟨g1, o, g2, _⟩ := mem_ready.1 hi
   have hil : i < l.length := by
    rw [List.getElem?_toArray] at g2
    exact (List.getElem?_eq_some_iff.1 g2).1
   have := cnt_zero (by omega : cnt l listed = 0) hil
   rw [g1] at this; cases this
  exact ⟨hr, fin m rest listed a w E O ltr inv hR hr⟩
 | succ fuel ih =>
  intro m rest listed a w E O ltr inv hk hO hs hL hR hml hc
  refine ⟨fun hr => fin m rest listed a w E O ltr inv hR hr, fun i hi => ?_⟩
  have hil : i < l.length := by
   obtain ⟨_, o, g2, _⟩ := mem_ready.1 hi
   rw [List.getElem?_toArray] at g2
   exact (List.getElem?_eq_some_iff.1 g2).1
  have ho : l[i]? = some l[i] := List.getElem?_eq_getElem hil
  obtain ⟨hun, hdeps⟩ := ready_deps hi ho
  have hnl : ¬ lst listed i := (unl inv.size hil).2 hun
  have hcn := cnt_set inv.size hil hun
  have hdd : ∀ o, o ∈ l → ∀ d, o.dst = some d → d < a.tmps.size := by rw [inv.tmps]; exact dstsOk_spec hok
  have hai := List.all_eq_true.1 hall i (List.mem_range.2 hil)
  rw [ho] at hai
  simp only [Bool.and_eq_true, Bool.not_eq_true'] at hai
  obtain ⟨⟨⟨⟨hsel, hown⟩, hlook⟩, hlk2⟩, hlk3⟩ := hai
  have hput : ∀ (v : Value) (d : Nat), l[i].dst = some d → envOf (a.put l[i].dst v) = upd (envOf a) d v := by
   intro v d hd
   rw [hd, envOf_put a inv.tmps (by rw [← inv.tmps]; exact hdd _ (List.mem_of_getElem? ho) d hd)]
  have hputn : ∀ (v : Value), l[i].dst = none → envOf (a.put l[i].dst v) = envOf a := by
   intro v hd; rw [hd]; rfl
  have hdi : dstAt l i = l[i].dst := by unfold dstAt; rw [ho]; rfl
  have hsee : ∀ x ∈ looksE l l[i], (∀ p ∈ fds, p.2 ≠ x) → envOf a x = E x := by
   intro x hx hxf
   refine inv.env x hxf (fun j hj hjQ hjf hjl hdj => ?_)
   have h3 := List.all_eq_true.1 (List.all_eq_true.1 hlook x hx) j (List.mem_range.2 hj)
   have hjQ' : memN j Q = false := by cases hm : memN j Q with
    | false => rfl
    | true => exact absurd (memN_iff.1 hm) hjQ
   simp only [hdj, hjQ', Bool.false_and, beq_self_eq_true, Bool.not_true, Bool.false_or, Bool.or_eq_true, Bool.and_eq_true] at h3
   rcases h3 with h3 | h3
   · exact hjl (hdeps j (memN_iff.1 h3))
   · exact hjl (waitP_lst inv.cl 3 i _ ho hdeps (fun k hk => lst_lt inv.size hk) h3)
  by_cases hiQ : i ∈ Q
  · 
    have hir : i ∈ rest := (inv.cover i hiQ).resolve_right hnl
    obtain ⟨m', rfl⟩ : ∃ m', m = m' + 1 := by
     cases m with
     | zero => rw [List.length_eq_zero_iff.1 (Nat.le_zero.1 hml)] at hir; cases hir
     | succ m' => exact ⟨m', rfl⟩
    have hen0 : (rest.all fun x => !waitP l 3 i x) = true := by
     refine List.all_eq_true.2 (fun x hx => ?_)
     cases hw : waitP l 3 i x with
     | false => rfl
     | true => exact absurd (waitP_lst inv.cl 3 i _ ho hdeps (fun k hk => lst_lt inv.size hk) hw) (inv.open' x hx)
    have hR' := hR.2 i hir hen0 w (fun f => match dstAt l f with | some d => envOf a d | none => undef) (Ext.refl w) (by
     rw [mem_pickO ho]
     intro p hp hm
     have := inv.made p hp (hdeps p.1 (memN_iff.1 hm))
     show Φ p.1 (match dstAt l p.1 with | some d => envOf a d | none => undef) O w
     rw [(hfd1 p hp).2.1]; exact this)
    rw [mem_pickO ho] at hR'
    refine wpOp_of_GOp hdd ho (GOp_congr hsel (fun x hx => hV (hsee x hx)) hR') fun v w' hv => ?_
    obtain ⟨O', ne, ds, hst, hO', hs', hdsn, hen, hL', hR2⟩ := hv
    simp only [enB, Bool.and_eq_true] at hen
    have hne : ∀ j ∈ ne, j ∈ la ∧ j ∉ lt0 ∧ waitP l 3 j i = true ∧ j < l.length := by
     intro j hj
     have h := List.all_eq_true.1 hen.2 j hj
     simp only [Bool.and_eq_true, Bool.not_eq_true'] at h
     refine ⟨memN_iff.1 h.1.1.1, fun hm => ?_, h.1.2, by simpa using h.2⟩
     rw [memN_iff.2 hm] at h; cases h.1.1.2
    have hnel : ∀ j ∈ ne, ¬ lst listed j := by
     intro j hj hl9
     obtain ⟨_, _, hw, hlt⟩ := hne j hj
     have hjo : l[j]? = some l[j] := List.getElem?_eq_getElem hlt
     exact hnl (waitP_lst inv.cl 3 j _ hjo (inv.cl j _ hjo hl9) (fun k hk => lst_lt inv.size hk) hw)
    have hdsx : ∀ p ∈ ds, ∃ j ∈ ne, dstAt l j = some p.1 := by
     intro p hp
     have hm1 : some p.1 ∈ ne.map (dstAt l) := by rw [← hdsn]; exact List.mem_map.2 ⟨p, hp, rfl⟩
     obtain ⟨j, hj, hdj⟩ := List.mem_map.1 hm1
     exact ⟨j, hj, hdj⟩
    refine ih m' (rest.filter fun x => !Nat.beq x i) _ _ w' _ O' _ ⟨by simp [inv.size], by rw [put_size]; exact inv.tmps, by rw [put_defers']; exact inv.defs, ?_, ?_, ?_, cl_set inv.size hil inv.cl hdeps, ?_, ?_, ?_, ?_⟩ (Keep.trans hk hst) hO' hs' hL' hR2 (by
     have h9 : (rest.filter fun x => !Nat.beq x i).length < rest.length := (List.length_filter_lt_length_iff_exists (p := fun x => !Nat.beq x i)).2 ⟨i, hir, by simp⟩
     omega) (by omega)
    · intro q hq
      rw [set_lst inv.size hil]
      by_cases hqi : q = i
      · exact .inr (.inr hqi)
      · rcases inv.cover q hq with h | h
        · refine .inl (List.mem_filter.2 ⟨h, ?_⟩)
          cases hb9 : Nat.beq q i with
          | false => rfl
          | true => exact absurd (Nat.eq_of_beq_eq_true hb9) hqi
        · exact .inr (.inl h)
    · intro q hq
      exact inv.restQ q (List.mem_filter.1 hq).1
    · intro q hq
      rw [set_lst inv.size hil]
      obtain ⟨hq1, hq2⟩ := List.mem_filter.1 hq
      rintro (h | h)
      · exact inv.open' q hq1 h
      · subst h; simp at hq2
    · intro j hj hjQ hjf hjl
      rw [set_lst inv.size hil] at hjl
      have hjl' : ¬ lst listed j := fun h => hjl (.inl h)
      rcases inv.late j hj hjQ hjf hjl' with hlt | ⟨q0, hq0, hw0⟩
      · refine .inl (List.mem_append_left _ (List.mem_filter.2 ⟨hlt, ?_⟩))
        cases hm : memN j (depsOf l[i]) with
        | false => rfl
        | true => exact absurd (hdeps j (memN_iff.1 hm)) hjl'
      · by_cases hqi : q0 = i
        · subst hqi
          have h := List.all_eq_true.1 hen.1 j (hlaIn j hj hjQ hjf)
          simp only [hw0, Bool.not_true, Bool.false_or, Bool.or_eq_true] at h
          rcases h with h | h
          · exact .inl (List.mem_append_right _ (memN_iff.1 h))
          · obtain ⟨q2, hq2, hw2⟩ := List.any_eq_true.1 h
            exact .inr ⟨q2, hq2, hw2⟩
        · refine .inr ⟨q0, List.mem_filter.2 ⟨hq0, ?_⟩, hw0⟩
          cases hb9 : Nat.beq q0 i with
          | false => rfl
          | true => exact absurd (Nat.eq_of_beq_eq_true hb9) hqi
    · intro x hxf hx
      rw [updL_other (fun p hp hpx => by
       obtain ⟨j, hj, hdj⟩ := hdsx p hp
       obtain ⟨hjla, _, _, hlt⟩ := hne j hj
       refine hx j hlt (hlaQ j hjla).1 (hlaQ j hjla).2 ?_ (by rw [hdj, hpx])
       rw [set_lst inv.size hil]
       rintro (h1 | h1)
       · exact hnel j hj h1
       · subst h1; exact (hlaQ j hjla).1 hiQ)]
      have he := inv.env x hxf (fun j hj hjQ hjf hjl => by
       refine hx j hj hjQ hjf ?_
       rw [set_lst inv.size hil]
       rintro (h1 | h1)
       · exact hjl h1
       · subst h1; exact hjQ hiQ)
      cases hd : l[i].dst with
      | none =>
       have := hputn v hd
       rw [hd] at this
       rw [this]; exact he
      | some d =>
       have := hput v d hd
       rw [hd] at this
       rw [this]
       simp only [updo]
       by_cases hxd : x = d
       · subst hxd; rw [upd_same, upd_same]
       · rw [upd_other _ _ hxd, upd_other _ _ hxd]; exact he
    · intro x hx hx2
      have h0 := inv.env0 x hx hx2
      rw [updL_other (fun p hp hpx => by
       obtain ⟨j, hj, hdj⟩ := hdsx p hp
       obtain ⟨hjla, hjl0, _, _⟩ := hne j hj
       exact hx2 j hjla hjl0 (by rw [hdj, hpx]))]
      cases hd : l[i].dst with
      | none => exact h0
      | some d =>
       simp only [updo]
       have hxd : x ≠ d := fun h => hx i hiQ (by rw [hdi, hd, h])
       rw [upd_other _ _ hxd]; exact h0
    · intro p hp hpl
      rw [set_lst inv.size hil] at hpl
      have hpi : p.1 ≠ i := fun h => (hfd1 p hp).1 (h ▸ hiQ)
      have hm := inv.made p hp (hpl.resolve_right hpi)
      have henv : envOf (a.put l[i].dst v) p.2 = envOf a p.2 := by
       cases hd : l[i].dst with
       | none => have := hputn v hd; rw [hd] at this; rw [this]
       | some d =>
        have := hput v d hd
        rw [hd] at this
        rw [this, upd_other]
        intro h
        exact hpi ((hfd1 p hp).2.2 i hil (by rw [hdi, hd, h])).symm
      rw [henv]
      exact hΦ _ _ _ _ _ _ hm hst
  · by_cases hif : i ∈ fds.map (·.1)
    · 
      obtain ⟨p, hp, hpi⟩ := List.mem_map.1 hif
      subst hpi
      have hg := hfl p hp l[p.1] ho w O hk hs hO
      have hif' : memN p.1 (fds.map (·.1)) = true := memN_iff.2 hif
      have hiQ' : memN p.1 Q = false := by cases hm : memN p.1 Q with
       | false => rfl
       | true => exact absurd (memN_iff.1 hm) hiQ
      refine wpOp_of_GOp hdd ho (GOp_congr hsel (fun x hx => ?_) hg) fun v w' hv => ?_
      · rw [hif'] at hlk3
        rw [hiQ'] at hlk2
        simp only [Bool.not_true, Bool.false_or] at hlk3 hlk2
        have h7 := List.all_eq_true.1 hlk3 x hx
        have h8 := List.all_eq_true.1 hlk2 x hx
        have h9 := hsee x hx (fun p' hp' h => by
         have := List.all_eq_true.1 h8 p' hp'
         rw [h] at this; simp at this)
        rw [h9]
        simp only [Bool.and_eq_true] at h7
        refine (inv.env0 x (fun q hq hdq => ?_) (fun j hj hj0 hdj => ?_)).symm
        · have := List.all_eq_true.1 h7.1 q hq
          rw [hdq] at this; simp at this
        · have := List.all_eq_true.1 h7.2 j hj
          rw [hdj] at this
          simp only [beq_self_eq_true, Bool.not_true, Bool.or_false] at this
          exact hj0 (memN_iff.1 this)
      · obtain ⟨hE, hΦv⟩ := hv
        have hd : l[p.1].dst = some p.2 := by rw [← hdi]; exact (hfd1 p hp).2.1
        have hpe := hput v p.2 hd
        refine ih m rest _ _ _ E O ltr ⟨by simp [inv.size], by rw [put_size]; exact inv.tmps, by rw [put_defers']; exact inv.defs, ?_, inv.restQ, ?_, cl_set inv.size hil inv.cl hdeps, ?_, ?_, inv.env0, ?_⟩ (Keep.trans hk (Keep.ext hE)) (fun b hb => Nat.lt_of_lt_of_le (hO b hb) hE.size) (Nat.le_trans hs hE.size) (hL.ext hE) (hR.ext hE) hml (by omega)
        · intro q hq
          rw [set_lst inv.size hil]; exact (inv.cover q hq).imp id .inl
        · intro q hq
          rw [set_lst inv.size hil]
          rintro (h1 | h1)
          · exact inv.open' q hq h1
          · subst h1; exact hiQ (inv.restQ _ hq)
        · intro j hj hjQ hjf hjl
          rw [set_lst inv.size hil] at hjl
          exact inv.late j hj hjQ hjf (fun h => hjl (.inl h))
        · intro x hxf hx
          rw [hpe, upd_other _ _ (fun h => hxf p hp h.symm)]
          refine inv.env x hxf (fun j hj hjQ hjf hjl => ?_)
          refine hx j hj hjQ hjf ?_
          rw [set_lst inv.size hil]
          rintro (h1 | h1)
          · exact hjl h1
          · exact hjf (h1 ▸ hif)
        · intro p' hp' hpl
          rw [set_lst inv.size hil] at hpl
          by_cases h1 : p'.1 = p.1
          · have h2 : p'.2 = p.2 := by
             have a1 := (hfd1 p' hp').2.1
             rw [h1, (hfd1 p hp).2.1] at a1
             exact (Option.some.inj a1).symm
            rw [hpe, h1, h2, upd_same]; exact hΦv
          · have hm := inv.made p' hp' (hpl.resolve_right h1)
            rw [hpe, upd_other]
            · exact hΦ _ _ _ _ _ _ hm (Keep.ext hE)
            · intro h
              exact h1 ((hfd1 p hp).2.2 p'.1 (lst_lt inv.size (hpl.resolve_right h1)) (by rw [(hfd1 p' hp').2.1, h]))
    · 
      have hm : i ∈ ltr := by
       rcases inv.late i hil hiQ hif hnl with h | ⟨q0, hq0, hw0⟩
       · exact h
       · exact absurd (waitP_lst inv.cl 3 i _ ho hdeps (fun k hk => lst_lt inv.size hk) hw0) (inv.open' q0 hq0)
      have hown' : (memN i la && l[i].dst.isSome && (List.range l.length).all fun j => Nat.beq j i || !(dstAt l j == dstAt l i)) = true := by
       rcases Bool.or_eq_true _ _ ▸ hown with h | h
       · rcases Bool.or_eq_true _ _ ▸ h with h | h
         · exact absurd (memN_iff.1 h) hiQ
         · exact absurd (memN_iff.1 h) hif
       · exact h
      have hiQ' : memN i Q = false := by cases hm : memN i Q with
       | false => rfl
       | true => exact absurd (memN_iff.1 hm) hiQ
      simp only [Bool.and_eq_true] at hown'
      refine wpOp_of_GOp hdd ho (GOp_congr hsel (fun x hx => ?_) (hL w (Ext.refl w) i hm _ ho)) fun v w' hv => ?_
      · symm
        refine hsee x hx (fun p' hp' h => ?_)
        rw [hiQ'] at hlk2
        simp only [Bool.false_or] at hlk2
        have := List.all_eq_true.1 (List.all_eq_true.1 hlk2 x hx) p' hp'
        rw [h] at this; simp at this
      · obtain ⟨⟨d', hd', hv⟩, rfl⟩ := hv
        have hpe := hput v d' hd'
        refine ih m rest _ _ _ E O ltr ⟨by simp [inv.size], by rw [put_size]; exact inv.tmps, by rw [put_defers']; exact inv.defs, ?_, inv.restQ, ?_, cl_set inv.size hil inv.cl hdeps, ?_, ?_, inv.env0, ?_⟩ hk hO hs hL hR hml (by omega)
        · intro q hq
          rw [set_lst inv.size hil]; exact (inv.cover q hq).imp id .inl
        · intro q hq
          rw [set_lst inv.size hil]
          rintro (h1 | h1)
          · exact inv.open' q hq h1
          · subst h1; exact hiQ (inv.restQ _ hq)
        · intro j hj hjQ hjf hjl
          rw [set_lst inv.size hil] at hjl
          exact inv.late j hj hjQ hjf (fun h => hjl (.inl h))
        · intro x hxf hx
          rw [hpe]
          by_cases hxd : x = d'
          · subst hxd; rw [upd_same, hv]
          · rw [upd_other _ _ hxd]
            refine inv.env x hxf (fun j hj hjQ hjf hjl hdj => ?_)
            by_cases hji : j = i
            · subst hji
              rw [hdi, hd'] at hdj; cases hdj; exact hxd rfl
            · refine hx j hj hjQ hjf ?_ hdj
              rw [set_lst inv.size hil]
              rintro (h1 | h1)
              · exact hjl h1
              · exact hji h1
        · intro p' hp' hpl
          rw [set_lst inv.size hil] at hpl
          have h1 : p'.1 ≠ i := fun h => hif (List.mem_map.2 ⟨p', hp', h⟩)
          have hm := inv.made p' hp' (hpl.resolve_right h1)
          rw [hpe, upd_other]
          · exact hm
          · intro h
            exact h1 ((hfd1 p' hp').2.2 i hil (by rw [hdi, hd', h])).symm
theorem Swp.drawF {id : Nat} {k : List It} {Qr : Env → World → Prop} {O : List (Option Nat)} (Q la lt : List Nat) (fds : List (Nat × Nat)) (ds : List (Nat × Value)) (Φ : Nat → Value → List (Option Nat) → World → Prop) (s0 : Nat) (hm : P.follows .mixedOrders = true) (hok : dstsOk n l = true) (hq : okF l Q la lt fds = true)
 (hlt0 : (lt.all fun i => memN i la) = true) (hd : ds.map (fun p => some p.1) = lt.map (dstAt l)) (hO : OB O w) (hs : s0 ≤ w.heap.size)
 (hΦ : ∀ p v O O' w w', Φ p v O w → Keep s0 O w O' w' → Φ p v O' w') (hfl : FloatP P l fds Φ s0 O w (updL e ds))
 (h : ∀ w1, Ext w w1 → LateX P l lt (updL e ds) w1 ∧ RlF P l (Swp P n k Qr) fds Φ s0 la lt Q.length lt Q O (updL e ds) w1) : Swp P n (.code (.region id l.toArray true) :: k) Qr e w := by
 intro a h1 h2 h3
 subst h3
 refine wp_region_any hm ?_
 have hE : Ext w { w with drawn := w.drawn + 1 } := Ext.drawn w _
 obtain ⟨hL, hR⟩ := h _ hE
 have hno : ∀ j, ¬ lst (Array.replicate l.toArray.size false) j := fun j hj => by unfold lst at hj; rw [getD_replicate_false] at hj; cases hj
 have hq' := hq
 simp only [okF, Bool.and_eq_true] at hq'
 obtain ⟨⟨⟨⟨⟨hst0, hb⟩, hin⟩, hlq⟩, hfd⟩, hall⟩ := hq'
 refine anyF (K := Swp P n k Qr) hok hq hfl hΦ (fun a' w' g1 g2 g3 => ⟨g1, g2, g3⟩) l.toArray.size Q.length Q (Array.replicate l.toArray.size false) a _ _ O lt
  ⟨by simp, h1, h2, (fun q hq => .inl hq), (fun q hq => hq), (fun q _ => hno q), (fun j oj _ hj => absurd hj (hno j)), ?_, ?_, (fun _ _ _ => rfl), (fun p _ hp => absurd hp (hno p.1))⟩ (Keep.ext hE) (fun b hb => Nat.lt_of_lt_of_le (hO b hb) hE.size) (Nat.le_trans hs hE.size) hL hR (Nat.le_refl _) ?_
 · intro i hi hiQ hif _
   have hai := List.all_eq_true.1 hall i (List.mem_range.2 hi)
   rw [List.getElem?_eq_getElem hi] at hai
   simp only [Bool.and_eq_true, Bool.or_eq_true] at hai
   rcases hai.1.1.1.2 with (h | h) | h
   · exact absurd (memN_iff.1 h) hiQ
   · exact absurd (memN_iff.1 h) hif
   · have hila := memN_iff.1 h.1.1
     have h2 := List.all_eq_true.1 hst0 i hila
     simp only [Bool.or_eq_true] at h2
     rcases h2 with h2 | h2
     · exact .inl (memN_iff.1 h2)
     · obtain ⟨q, hq, hw⟩ := List.any_eq_true.1 h2
       exact .inr ⟨q, hq, hw⟩
 · intro x hxf hx
   rw [updL_other]
   intro p hp hpx
   have hm1 : some p.1 ∈ lt.map (dstAt l) := by rw [← hd]; exact List.mem_map.2 ⟨p, hp, rfl⟩
   obtain ⟨i, hi, hdi⟩ := List.mem_map.1 hm1
   have hil : i < l.length := by
    unfold dstAt at hdi
    rcases Nat.lt_or_ge i l.length with h | h
    · exact h
    · rw [List.getElem?_eq_none h] at hdi; cases hdi
   have hil9 := List.all_eq_true.1 hlt0 i hi
   have hlq' := List.all_eq_true.1 hlq i (memN_iff.1 hil9)
   simp only [Bool.and_eq_true, Bool.not_eq_true'] at hlq'
   refine hx i hil (fun h => ?_) (fun h => ?_) (hno i) (by rw [hdi, hpx])
   · rw [memN_iff.2 h] at hlq'; cases hlq'.1
   · rw [memN_iff.2 h] at hlq'; cases hlq'.2
 · unfold cnt
   refine Nat.le_trans (List.length_filter_le _ _) (by simp)
def RlF1 (P : Program) (l : List Oper) (K : Env → World → Prop) (fds : List (Nat × Nat)) (Φ : Nat → Value → List (Option Nat) → World → Prop) (s0 : Nat) (la lt0 : List Nat) (m : Nat) (lt rest : List Nat) (O : List (Option Nat)) (E : Env) (w : World) (q : Nat) : Prop :=
 ∀ w' V, Ext w w' → (∀ p ∈ fds, memN p.1 (depsOf (l.getD q noOper)) = true → Φ p.1 (V p.1) O w') →
  GOp P l (l.getD q noOper) (setF V fds E) w' fun v w'' => ∃ O' ne ds, Keep s0 O w' O' w'' ∧ OB O' w'' ∧ s0 ≤ w''.heap.size ∧ ds.map (fun p => some p.1) = ne.map (dstAt l) ∧ enB l la lt0 q (rest.filter fun x => !Nat.beq x q) ne = true ∧
   LateX P l ((lt.filter fun i => !memN i (depsOf (l.getD q noOper))) ++ ne) (updL (updo E (l.getD q noOper).dst v) ds) w'' ∧
   RlF P l K fds Φ s0 la lt0 m ((lt.filter fun i => !memN i (depsOf (l.getD q noOper))) ++ ne) (rest.filter fun x => !Nat.beq x q) O' (updL (updo E (l.getD q noOper).dst v) ds) w''
theorem RlF.next {m : Nat} {lt rest : List Nat} {O : List (Option Nat)} {E : Env} (cs : List Nat) (hne : rest.isEmpty = false) (hc : (rest.all fun x => memN x cs || rest.any fun y => waitP l 3 x y) = true) (h : ∀ q ∈ cs, RlF1 P l K fds Φ s0 la lt0 m lt rest O E w q) : RlF P l K fds Φ s0 la lt0 (m + 1) lt rest O E w := by
 refine ⟨fun hr => (by subst hr; cases hne), fun q hq hen => h q ?_⟩
 have h1 := List.all_eq_true.1 hc q hq
 simp only [Bool.or_eq_true] at h1
 rcases h1 with h1 | h1
 · exact memN_iff.1 h1
 · obtain ⟨y, hy, hw⟩ := List.any_eq_true.1 h1
   have := List.all_eq_true.1 hen y hy
   rw [hw] at this; cases this
theorem RlF.fin {m : Nat} {lt : List Nat} {O : List (Option Nat)} {E : Env} (h : ∀ w' V, Ext w w' → K (setF V fds E) w') : RlF P l K fds Φ s0 la lt0 m lt [] O E w := by
 cases m with
 | zero => exact fun _ => h
 | succ m => exact ⟨fun _ => h, fun q hq => by cases hq⟩
theorem RlF1.op {m : Nat} {lt rest : List Nat} {q d : Nat} {O : List (Option Nat)} {E : Env} {op : Op} {ty : TypeId} {pos : String} {after : Array Edge} (ho : l.getD q noOper = { dst := some d, op := op, type := ty, pos := pos, after := after, guard := none })
 (h : ∀ w' V, Ext w w' → (∀ p ∈ fds, memN p.1 (depsOf (l.getD q noOper)) = true → Φ p.1 (V p.1) O w') → OpY P op ty (ev (setF V fds E)) w' fun v w'' => ∃ O' ne ds, Keep s0 O w' O' w'' ∧ OB O' w'' ∧ s0 ≤ w''.heap.size ∧ ds.map (fun p => some p.1) = ne.map (dstAt l) ∧ enB l la lt0 q (rest.filter fun x => !Nat.beq x q) ne = true ∧
  LateX P l ((lt.filter fun i => !memN i (depsOf (l.getD q noOper))) ++ ne) (updL (upd E d v) ds) w'' ∧ RlF P l K fds Φ s0 la lt0 m ((lt.filter fun i => !memN i (depsOf (l.getD q noOper))) ++ ne) (rest.filter fun x => !Nat.beq x q) O' (updL (upd E d v) ds) w'') : RlF1 P l K fds Φ s0 la lt0 m lt rest O E w q := by
 intro w' V hE hΦ
 have h' := h w' V hE hΦ
 rw [ho] at *
 exact GOp.op h'
theorem RlF1.op0 {m : Nat} {lt rest : List Nat} {q : Nat} {O : List (Option Nat)} {E : Env} {op : Op} {ty : TypeId} {pos : String} {after : Array Edge} (ho : l.getD q noOper = { dst := none, op := op, type := ty, pos := pos, after := after, guard := none })
 (h : ∀ w' V, Ext w w' → (∀ p ∈ fds, memN p.1 (depsOf (l.getD q noOper)) = true → Φ p.1 (V p.1) O w') → OpY P op ty (ev (setF V fds E)) w' fun _ w'' => ∃ O' ne ds, Keep s0 O w' O' w'' ∧ OB O' w'' ∧ s0 ≤ w''.heap.size ∧ ds.map (fun p => some p.1) = ne.map (dstAt l) ∧ enB l la lt0 q (rest.filter fun x => !Nat.beq x q) ne = true ∧
  LateX P l ((lt.filter fun i => !memN i (depsOf (l.getD q noOper))) ++ ne) (updL E ds) w'' ∧ RlF P l K fds Φ s0 la lt0 m ((lt.filter fun i => !memN i (depsOf (l.getD q noOper))) ++ ne) (rest.filter fun x => !Nat.beq x q) O' (updL E ds) w'') : RlF1 P l K fds Φ s0 la lt0 m lt rest O E w q := by
 intro w' V hE hΦ
 have h' := h w' V hE hΦ
 rw [ho] at *
 exact GOp.op h'
theorem FloatP.nil {E : Env} : FloatP P l [] Φ s0 O0 w0 E := fun _ h => by cases h
theorem FloatP.cons {E : Env} {f d : Nat} {o : Oper} (ho : l[f]? = some o) (h : ∀ w1 O1, Keep s0 O0 w0 O1 w1 → s0 ≤ w1.heap.size → OB O1 w1 → GOp P l o E w1 fun v w2 => Ext w1 w2 ∧ Φ f v O1 w2) (hr : FloatP P l fds Φ s0 O0 w0 E) : FloatP P l ((f, d) :: fds) Φ s0 O0 w0 E := fun p hp o' ho' w1 O1 hk hs hO => by
 rcases List.mem_cons.1 hp with rfl | hp
 · rw [ho] at ho'; cases ho'; exact h w1 O1 hk hs hO
 · exact hr p hp o' ho' w1 O1 hk hs hO
theorem OpY.litInts {S : Nat → Prop} {ty : TypeId} {ρ : Operand → Value} {t el : TypeId} {k : IntKind} {n by' : Nat} {z : Value} {parts : List (Nat × Operand)} {ys : List Int} {O1 : List (Option Nat)} (hu : P.underlying t = some (.slice el)) (ti : TI P el 1 by' z) (hp : (parts.map fun p => (p.1, ρ p.2)) = numbered 0 (ys.map (Value.int k)))
 (hn : ys.length = n) (h0 : 0 < n) (hn1 : n ≤ 16777216) (hs : s0 ≤ w.heap.size) (hO : OB O1 w) : OpY P (.buildSlice t n parts.toArray) ty ρ w fun v w2 => Ext w w2 ∧ Rs (rInt k) (Hv s0 S O1 w2) v ys := by
 have hc : ∀ (ys : List Int), cellsAre 1 (ys.map (Value.int k)) (ys.map fun y => [Value.int k y]) := by
  intro ys
  induction ys with
  | nil => trivial
  | cons y ys ih => exact ⟨rfl, rfl, ih⟩
 refine OpY.buildSliceV hu ti (by omega) hp (by simpa using hn) (hc ys) (by omega) (Loc.begin0 w) fun b w' hL _ => ⟨hL.done, ?_⟩
 have hb : w.heap.size ≤ b := by
  rcases hL.fresh b List.mem_cons_self with h | h
  · cases h
  · exact h
 have hflat : (ys.map fun y => [Value.int k y]).flatten = ys.map (Value.int k) := by
  clear hp hn hL hc
  induction ys with
  | nil => rfl
  | cons y ys ih => simp only [List.map_cons, List.flatten_cons, ih]; rfl
 have hown := hL.at 0 rfl rfl
 rw [hflat] at hown
 have hr := row_rs (r := rInt k) (pre := []) (sp := []) (cs := ys.map (Value.int k)) (o := 0) (n := n) (cap := n) (own_at (H := Hv s0 S O1 w') (by simpa using hown) (fun q hq => vw_mk ⟨.inr (Nat.le_trans hs hb), fun hm => by have := hO b hm; omega⟩ hq)) Els.ofIntsZ rfl rfl hn.symm (by simp only [List.length_append, List.length_map, List.length_nil, hn]; exact (Nat.mul_one n).symm)
 exact hr
end
end Go.X
set_option linter.unusedSimpArgs false
set_option linter.unusedVariables false
namespace Go.X
open Go Go.RowKit
structure Xte (X : List (Option Nat)) (w w' : World) : Prop where
 os : w'.os = w.os
 tape : w'.tape = w.tape
 output : w'.output = w.output
 size : w.heap.size ≤ w'.heap.size
 keep : ∀ k, k < w.heap.size → some k ∉ X → w'.heap[k]? = w.heap[k]?
theorem calls_args {P : Program} {f : FuncId} {l l' : Array Value} {w : World} {T : Ending → World → Prop} (h : l = l') (hc : Calls P f l w T) : Calls P f l' w T := h ▸ hc
section
variable {X O O' Oq : List (Option Nat)} {C : List Cont} {w w' w0 w9 : World} {is : List Nat}
theorem Loc.xte (hL : Loc X [] w0 w O C) : Xte X w0 w := ⟨hL.os, hL.tape, hL.output, hL.size, hL.keep⟩
theorem Xte.lent (hL : Loc X [] w0 w O C) (is : List Nat) (hO : pickL O is = some Oq) (h : Xte Oq w w9) : Xte X w0 w9 := by
 refine ⟨h.os.trans hL.os, h.tape.trans hL.tape, h.output.trans hL.output, Nat.le_trans hL.size h.size, fun k hk hX => ?_⟩
 rw [h.keep k (Nat.lt_of_lt_of_le hk hL.size) (fun hm => ?_)]
 · exact hL.keep k hk hX
 · obtain ⟨j, hj, hjx⟩ := pickL_mem hO _ hm
   rcases hL.fresh k (List.mem_of_getElem? hjx) with h1 | h1
   · exact hX h1
   · omega
theorem own_xte (hL : Loc X [] w0 w O C) (i : Nat) {b : Nat} {c : Cont} (is : List Nat) (hO : O[i]? = some (some b)) (hC : C[i]? = some c) (hO' : pickL O is = some Oq) (hi : memN i is = false) (h : Xte Oq w w9) : OwnC w9 (some b) c := by
 have hc := hL.at i hO hC
 refine hc.same (fun k hk => ?_)
 cases hk
 refine h.keep b hc.lt (fun hm => ?_)
 obtain ⟨j, hj, hjx⟩ := pickL_mem hO' _ hm
 have := dist_inj hL.dist hO hjx
 subst this
 rw [memN_iff.2 hj] at hi; cases hi
theorem any_xte (h : Xte Oq w w9) : Le (Hv w.heap.size Any Oq w) (Hv w9.heap.size Any [] w9) := fun b o hb => by
 obtain ⟨⟨_, h2⟩, h3⟩ := vw_some hb
 refine vw_mk ⟨.inl trivial, by simp⟩ ?_
 rw [h.keep b (heap_lt h3) h2]; exact h3
end
end Go.X
set_option linter.unusedSimpArgs false
set_option linter.unusedVariables false
set_option linter.unusedSectionVars false
namespace Go.X
open Go Go.RowKit
noncomputable def H0 : Hp := fun _ => none
def DS {β : Type} (r : Rep β) (v : Value) (ob : Option Nat) (c : Cont) (ys : List β) : Prop :=
 ∃ cap cs sp, v = osv ob 0 ys.length cap ∧ c = .cells ([] ++ (cs ++ sp)) ∧ (cs ++ sp).length = cap * r.sz ∧ Els r H0 cs ys
def OkC (H : Hp) : Option Nat → Cont → Prop
 | some b, .cells cs => At H b 0 cs
 | none, .cells cs => cs = []
 | _, _ => True
theorem DS.rs {β : Type} {r : Rep β} {v : Value} {ob : Option Nat} {c : Cont} {ys : List β} {H : Hp} (h : DS r v ob c ys) (hz : (r.sz == 0) = false) (hf : ∀ (H H' : Hp) (vs : List Value) (x : β), r.R H vs x → r.R H' vs x) (hc : OkC H ob c) : Rs r H v ys := by
 obtain ⟨cap, cs, sp, rfl, rfl, h1, h2⟩ := h
 have h3 : Els r H cs ys := h2.anyH hf
 cases ob with
 | none => exact row_nil hc h3 hz
 | some b => exact row_rs hc h3 hz rfl rfl h1
theorem DS.nil {β : Type} {r : Rep β} : DS r (.slice none 0 0) none (.cells []) ([] : List β) := ⟨0, [], [], rfl, rfl, by simp, rfl⟩
structure DRep (α : Type) where
 r : Rep α
 nf : Nat
 R : List Value → List (Option Nat) → List Cont → α → Prop
 len : ∀ (vs : List Value) (bs : List (Option Nat)) (c : List Cont) (x : α), R vs bs c x → vs.length = r.sz ∧ bs.length = nf ∧ c.length = nf
 toR : ∀ (vs : List Value) (bs : List (Option Nat)) (c : List Cont) (x : α) (H : Hp), R vs bs c x → (∀ (f : Nat) (b : Option Nat) (k : Cont), bs[f]? = some b → c[f]? = some k → OkC H b k) → r.R H vs x
def dRow {β : Type} (r : Rep β) (hz : (r.sz == 0) = false) (hf : ∀ (H H' : Hp) (vs : List Value) (x : β), r.R H vs x → r.R H' vs x) : DRep (List β) where
 r := rSl r
 nf := 1
 R vs bs c x := ∃ v b k, vs = [v] ∧ bs = [b] ∧ c = [k] ∧ DS r v b k x
 len := by rintro _ _ _ x ⟨v, b, k, rfl, rfl, rfl, h⟩; exact ⟨rfl, rfl, rfl⟩
 toR := by rintro _ _ _ x H ⟨v, b, k, rfl, rfl, rfl, h⟩ ho; exact ⟨v, rfl, h.rs hz hf (ho 0 b k rfl rfl)⟩
section
variable {α : Type} {D : DRep α}
def DEls (D : DRep α) : List Value → List (Option Nat) → List Cont → List α → Prop
 | cs, FB, FC, [] => cs = [] ∧ FB = [] ∧ FC = []
 | cs, FB, FC, x :: xs => ∃ vs cs' bs FB' c FC', cs = vs ++ cs' ∧ FB = bs ++ FB' ∧ FC = c ++ FC' ∧ D.R vs bs c x ∧ DEls D cs' FB' FC' xs
theorem DEls.len : ∀ {cs : List Value} {FB : List (Option Nat)} {FC : List Cont} {xs : List α}, DEls D cs FB FC xs → cs.length = xs.length * D.r.sz ∧ FB.length = xs.length * D.nf ∧ FC.length = xs.length * D.nf
 | _, _, _, [], ⟨h1, h2, h3⟩ => by subst h1; subst h2; subst h3; simp
 | _, _, _, x :: xs, ⟨vs, cs', bs, FB', c, FC', e1, e2, e3, h, ht⟩ => by
  obtain ⟨l1, l2, l3⟩ := D.len _ _ _ _ h
  obtain ⟨m1, m2, m3⟩ := ht.len
  subst e1; subst e2; subst e3
  simp only [List.length_append, List.length_cons, Nat.add_mul, Nat.one_mul]
  omega
theorem DEls.rep {zc : List Value} {x : α} (h : D.R zc (List.replicate D.nf none) (List.replicate D.nf (.cells [])) x) : ∀ m, DEls D (List.replicate m zc).flatten (List.replicate (m * D.nf) none) (List.replicate (m * D.nf) (.cells [])) (List.replicate m x)
 | 0 => ⟨rfl, by simp, by simp⟩
 | m + 1 => by
  refine ⟨zc, (List.replicate m zc).flatten, List.replicate D.nf none, List.replicate (m * D.nf) none, List.replicate D.nf (.cells []), List.replicate (m * D.nf) (.cells []), ?_, ?_, ?_, h, DEls.rep h m⟩
  · rw [List.replicate_succ, List.flatten_cons]
  · rw [List.replicate_append_replicate, Nat.add_mul, Nat.one_mul, Nat.add_comm]
  · rw [List.replicate_append_replicate, Nat.add_mul, Nat.one_mul, Nat.add_comm]
theorem DEls.at : ∀ {cs : List Value} {FB : List (Option Nat)} {FC : List Cont} {xs : List α} {n : Nat} {x : α}, DEls D cs FB FC xs → xs[n]? = some x →
 ∃ cs1 vs cs2 B1 bs B2 C1 c C2, cs = cs1 ++ (vs ++ cs2) ∧ FB = B1 ++ (bs ++ B2) ∧ FC = C1 ++ (c ++ C2) ∧ cs1.length = n * D.r.sz ∧ B1.length = n * D.nf ∧ C1.length = n * D.nf ∧ D.R vs bs c x ∧
  ∀ vs' bs' c' y, D.R vs' bs' c' y → DEls D (cs1 ++ (vs' ++ cs2)) (B1 ++ (bs' ++ B2)) (C1 ++ (c' ++ C2)) (xs.set n y)
 | _, _, _, [], n, x, _, hx => by simp at hx
 | _, _, _, z :: xs, 0, x, ⟨vs, cs', bs, FB', c, FC', e1, e2, e3, h, ht⟩, hx => by
  simp only [List.getElem?_cons_zero, Option.some.injEq] at hx
  subst hx
  exact ⟨[], vs, cs', [], bs, FB', [], c, FC', e1, e2, e3, by simp, by simp, by simp, h, fun vs' bs' c' y hy => ⟨vs', cs', bs', FB', c', FC', rfl, rfl, rfl, hy, ht⟩⟩
 | _, _, _, z :: xs, n + 1, x, ⟨vs, cs', bs, FB', c, FC', e1, e2, e3, h, ht⟩, hx => by
  obtain ⟨l1, l2, l3⟩ := D.len _ _ _ _ h
  obtain ⟨cs1, vs1, cs2, B1, bs1, B2, C1, c1, C2, g1, g2, g3, g4, g5, g6, g7, g8⟩ := ht.at (n := n) (x := x) (by simpa using hx)
  refine ⟨vs ++ cs1, vs1, cs2, bs ++ B1, bs1, B2, c ++ C1, c1, C2, by rw [e1, g1, List.append_assoc], by rw [e2, g2, List.append_assoc], by rw [e3, g3, List.append_assoc], ?_, ?_, ?_, g7, fun vs' bs' c' y hy => ?_⟩
  · rw [List.length_append, Nat.add_mul, Nat.one_mul]; omega
  · rw [List.length_append, Nat.add_mul, Nat.one_mul]; omega
  · rw [List.length_append, Nat.add_mul, Nat.one_mul]; omega
  · exact ⟨vs, _, bs, _, c, _, by rw [List.append_assoc], by rw [List.append_assoc], by rw [List.append_assoc], h, g8 vs' bs' c' y hy⟩
theorem DEls.elem {cs sp : List Value} {FB : List (Option Nat)} {FC : List Cont} {xs : List α} {n : Nat} {x : α} (h : DEls D cs FB FC xs) (hx : xs[n]? = some x) :
 ∃ vs bs c, D.R vs bs c x ∧ (([] ++ (cs ++ sp)).drop (0 + n * D.r.sz)).take vs.length = vs ∧ (∀ (f : Nat) (b : Option Nat), bs[f]? = some b → FB[n * D.nf + f]? = some b) ∧ (∀ (f : Nat) (k : Cont), c[f]? = some k → FC[n * D.nf + f]? = some k) := by
 obtain ⟨cs1, vs, cs2, B1, bs, B2, C1, c, C2, g1, g2, g3, g4, g5, g6, g7, _⟩ := h.at hx
 refine ⟨vs, bs, c, g7, ?_, fun f b hb => ?_, fun f k hk => ?_⟩
 · rw [List.nil_append, Nat.zero_add, g1, ← g4, List.append_assoc, List.drop_left' rfl, List.append_assoc, List.take_left' rfl]
 · rw [g2, ← g5, List.getElem?_append_right (by omega), Nat.add_sub_cancel_left, List.getElem?_append_left (List.getElem?_eq_some_iff.1 hb).1]; exact hb
 · rw [g3, ← g6, List.getElem?_append_right (by omega), Nat.add_sub_cancel_left, List.getElem?_append_left (List.getElem?_eq_some_iff.1 hk).1]; exact hk
theorem DEls.upd {cs sp : List Value} {FB : List (Option Nat)} {FC : List Cont} {xs : List α} {n off : Nat} {x y : α} {v : Value} (h : DEls D cs FB FC xs) (hx : xs[n]? = some x) (ho : off < D.r.sz)
 (hR : ∀ vs bs c, D.R vs bs c x → D.R (vs.set off v) bs c y) :
 ∃ cs', putAt ([] ++ (cs ++ sp)) (0 + n * D.r.sz + off) [v] = [] ++ (cs' ++ sp) ∧ cs'.length = cs.length ∧ DEls D cs' FB FC (xs.set n y) := by
 obtain ⟨cs1, vs, cs2, B1, bs, B2, C1, c, C2, g1, g2, g3, g4, g5, g6, g7, g8⟩ := h.at hx
 have hl := (D.len _ _ _ _ g7).1
 refine ⟨cs1 ++ (vs.set off v ++ cs2), ?_, by rw [g1]; simp, by rw [g2, g3]; exact g8 _ _ _ _ (hR _ _ _ g7)⟩
 show List.set _ _ _ = _
 rw [List.nil_append, List.nil_append, Nat.zero_add, g1, ← g4, List.append_assoc, List.append_assoc, List.set_append_right _ _ (by omega), Nat.add_sub_cancel_left, List.append_assoc, List.append_assoc, List.set_append_left _ _ (by omega)]
theorem DEls.updS {cs sp : List Value} {FB : List (Option Nat)} {FC : List Cont} {xs : List α} {n off f j : Nat} {x y : α} {v : Value} {ob : Option Nat} {k : Cont} (h : DEls D cs FB FC xs) (hx : xs[n]? = some x) (ho : off < D.r.sz) (hf : f < D.nf) (hj : n * D.nf + f = j)
 (hR : ∀ vs bs c, D.R vs bs c x → D.R (vs.set off v) (bs.set f ob) (c.set f k) y) :
 ∃ cs', putAt ([] ++ (cs ++ sp)) (0 + n * D.r.sz + off) [v] = [] ++ (cs' ++ sp) ∧ cs'.length = cs.length ∧ DEls D cs' (FB.set j ob) (FC.set j k) (xs.set n y) := by
 obtain ⟨cs1, vs, cs2, B1, bs, B2, C1, c, C2, g1, g2, g3, g4, g5, g6, g7, g8⟩ := h.at hx
 obtain ⟨hl, hl2, hl3⟩ := D.len _ _ _ _ g7
 subst hj
 refine ⟨cs1 ++ (vs.set off v ++ cs2), ?_, by rw [g1]; simp, ?_⟩
 · show List.set _ _ _ = _
   rw [List.nil_append, List.nil_append, Nat.zero_add, g1, ← g4, List.append_assoc, List.append_assoc, List.set_append_right _ _ (by omega), Nat.add_sub_cancel_left, List.append_assoc, List.append_assoc, List.set_append_left _ _ (by omega)]
 · have e2 : FB.set (n * D.nf + f) ob = B1 ++ (bs.set f ob ++ B2) := by
    rw [g2, ← g5, List.set_append_right _ _ (by omega), Nat.add_sub_cancel_left, List.set_append_left _ _ (by omega)]
   have e3 : FC.set (n * D.nf + f) k = C1 ++ (c.set f k ++ C2) := by
    rw [g3, ← g6, List.set_append_right _ _ (by omega), Nat.add_sub_cancel_left, List.set_append_left _ _ (by omega)]
   rw [e2, e3]
   exact g8 _ _ _ _ (hR _ _ _ g7)
end
section
variable {w w0 : World} {X : List (Option Nat)} {Op Op' FB : List (Option Nat)} {Cp Cp' FC : List Cont}
theorem Owns.split : ∀ {Op : List (Option Nat)} {Cp : List Cont}, Owns w (Op ++ FB) (Cp ++ FC) → Op.length = Cp.length → Owns w Op Cp ∧ Owns w FB FC
 | [], [], h, _ => ⟨trivial, h⟩
 | _ :: _, _ :: _, h, hl => by
  obtain ⟨h1, h2⟩ := Owns.split h.2 (by simpa using hl)
  exact ⟨⟨h.1, h1⟩, h2⟩
 | [], _ :: _, _, hl => by simp at hl
 | _ :: _, [], _, hl => by simp at hl
theorem Distinct.split : ∀ {Op : List (Option Nat)}, Distinct (Op ++ FB) → Distinct Op ∧ Distinct FB ∧ ∀ b, some b ∈ Op → some b ∉ FB
 | [], h => ⟨trivial, h, fun _ hb => by cases hb⟩
 | none :: O, h => by
  obtain ⟨h1, h2, h3⟩ := Distinct.split (Op := O) h
  refine ⟨h1, h2, fun b hb => ?_⟩
  rcases List.mem_cons.1 hb with e | e
  · cases e
  · exact h3 b e
 | some x :: O, h => by
  obtain ⟨h1, h2, h3⟩ := Distinct.split (Op := O) h.2
  refine ⟨⟨fun hm => h.1 (List.mem_append_left _ hm), h1⟩, h2, fun b hb => ?_⟩
  rcases List.mem_cons.1 hb with e | e
  · cases e; exact fun hm => h.1 (List.mem_append_right _ hm)
  · exact h3 b e
theorem Loc.pickT (hL : Loc X [] w0 w (Op ++ FB) (Cp ++ FC)) (is : List Nat) (hl : Op.length = Cp.length) (hO : pickL Op is = some Op') (hC : pickL Cp is = some Cp') (hn : nodupB is = true) : Loc X [] w0 w (Op' ++ FB) (Cp' ++ FC) ∧ Step (Op ++ FB) (Op' ++ FB) w w := by
 have hsub : ∀ b, b ∈ Op' → b ∈ Op := fun b hb => by
  obtain ⟨i, _, hi⟩ := pickL_mem hO b hb
  exact List.mem_of_getElem? hi
 have hsub2 : ∀ b, b ∈ Op' ++ FB → b ∈ Op ++ FB := fun b hb => by
  rcases List.mem_append.1 hb with h | h
  · exact List.mem_append_left _ (hsub b h)
  · exact List.mem_append_right _ h
 obtain ⟨o1, o2⟩ := hL.own.split hl
 obtain ⟨d1, d2, d3⟩ := hL.dist.split
 exact ⟨⟨hL.os, hL.tape, hL.output, hL.size, hL.keep, (o1.pick hO hC).append o2, fun b hb => hL.fresh b (hsub2 _ hb), (d1.pick hO hn).append d2 fun b hb => d3 b (hsub _ hb), fun _ _ h => (by cases h), fun _ h => (by cases h)⟩,
  ⟨fun _ _ _ => rfl, fun b hb => .inl (hsub2 _ hb)⟩⟩
theorem Loc.addNils (hL : Loc X [] w0 w Op Cp) (k : Nat) : Loc X [] w0 w (Op ++ List.replicate k none) (Cp ++ List.replicate k (.cells [])) ∧ Step Op (Op ++ List.replicate k none) w w := by
 have hnone : ∀ b : Nat, some b ∉ List.replicate k (none : Option Nat) := fun b hb => by
  have := (List.mem_replicate.1 hb).2; cases this
 have ho : ∀ k : Nat, Owns w (List.replicate k none) (List.replicate k (.cells [])) := fun k => by
  induction k with
  | zero => trivial
  | succ k ih => rw [List.replicate_succ, List.replicate_succ]; exact ⟨rfl, ih⟩
 have hd : ∀ k : Nat, Distinct (List.replicate k (none : Option Nat)) := fun k => by
  induction k with
  | zero => trivial
  | succ k ih => rw [List.replicate_succ]; exact ih
 refine ⟨⟨hL.os, hL.tape, hL.output, hL.size, hL.keep, hL.own.append (ho k), fun b hb => ?_, hL.dist.append (hd k) fun b _ => hnone b, hL.apart, hL.bok⟩, ⟨fun _ _ _ => rfl, fun b hb => ?_⟩⟩
 · rcases List.mem_append.1 hb with h | h
   · exact hL.fresh b h
   · exact absurd h (hnone b)
 · rcases List.mem_append.1 hb with h | h
   · exact .inl h
   · exact absurd h (hnone b)
theorem DEls.els {α : Type} {D : DRep α} {H : Hp} : ∀ {cs : List Value} {FB : List (Option Nat)} {FC : List Cont} {xs : List α}, DEls D cs FB FC xs → (∀ (i : Nat) (b : Option Nat) (k : Cont), FB[i]? = some b → FC[i]? = some k → OkC H b k) → Els D.r H cs xs
 | _, _, _, [], ⟨h1, _, _⟩, _ => h1
 | _, _, _, x :: xs, ⟨vs, cs', bs, FB', c, FC', e1, e2, e3, h, ht⟩, ho => by
  obtain ⟨_, l2, l3⟩ := D.len _ _ _ _ h
  subst e1; subst e2; subst e3
  refine ⟨vs, cs', rfl, D.toR _ _ _ _ _ h fun f b k hb hk => ho f b k ?_ ?_, ht.els fun i b k hb hk => ho (bs.length + i) b k ?_ ?_⟩
  · rw [List.getElem?_append_left (List.getElem?_eq_some_iff.1 hb).1]; exact hb
  · rw [List.getElem?_append_left (List.getElem?_eq_some_iff.1 hk).1]; exact hk
  · rw [List.getElem?_append_right (by omega), Nat.add_sub_cancel_left]; exact hb
  · rw [List.getElem?_append_right (by omega), show bs.length + i - c.length = i by omega]; exact hk
theorem Loc.settle {α : Type} {D : DRep α} {S : Nat → Prop} {cs : List Value} {xs : List α} (hL : Loc [] [] w0 w (Op ++ FB) (Cp ++ FC)) (hl : Op.length = Cp.length) (hD : DEls D cs FB FC xs) :
 Els D.r (Hv w0.heap.size S Op w) cs xs ∧ Loc [] [] w0 w Op Cp ∧ Step (Op ++ FB) Op w w := by
 obtain ⟨o1, o2⟩ := hL.own.split hl
 obtain ⟨d1, d2, d3⟩ := hL.dist.split
 have hnew : ∀ c, some c ∈ Op ++ FB → w0.heap.size ≤ c := fun c hc => by
  rcases hL.fresh c hc with h | h
  · cases h
  · exact h
 refine ⟨hD.els fun j ob k hj hk => ?_, ⟨hL.os, hL.tape, hL.output, hL.size, hL.keep, o1, fun b hb => hL.fresh b (List.mem_append_left _ hb), d1, fun _ h => (by cases h), fun _ h => (by cases h)⟩, ⟨fun _ _ _ => rfl, fun b hb => .inl (List.mem_append_left _ hb)⟩⟩
 have hc := o2.at j hj hk
 cases ob with
 | none => cases k <;> first | exact hc | trivial
 | some c =>
  cases k with
  | map es => trivial
  | cells ks => exact own_at hc fun q hq => vw_mk ⟨.inr (hnew c (List.mem_append_right _ (List.mem_of_getElem? hj))), fun hm => d3 c hm (List.mem_of_getElem? hj)⟩ hq
theorem Loc.atT {j : Nat} {b : Option Nat} {c : Cont} (hL : Loc X [] w0 w (Op ++ FB) (Cp ++ FC)) (hl : Op.length = Cp.length) (hb : FB[j]? = some b) (hc : FC[j]? = some c) : OwnC w b c := (hL.own.split hl).2.at j hb hc
theorem H0.le {H : Hp} : Le H0 H := fun _ _ h => by cases h
end
section
variable {P : Program} {ty : TypeId} {ρ : Operand → Value} {w w0 : World} {R : Value → World → Prop} {X O Op FB FBd : List (Option Nat)} {C Cp FC FCd : List Cont} {α : Type} {D : DRep α}
def rKon (zc : List Value) (h : ones zc = true) : Rep Unit := ⟨zc.length, fun _ vs _ => vs = zc, fun _ _ _ _ _ h => h, fun _ _ _ h => by rw [h], fun _ _ _ h' => by rw [h']; exact h⟩
theorem Els.kon {zc : List Value} {h1 : Go.X.ones zc = true} {H : Hp} : ∀ {m : Nat} {cs : List Value}, Els (rKon zc h1) H cs (List.replicate m ()) → cs = (List.replicate m zc).flatten
 | 0, cs, h => h
 | m + 1, cs, h => by
  rw [List.replicate_succ] at h
  obtain ⟨a, b, e1, e2, e3⟩ := h
  rw [e1, show a = zc from e2, Els.kon e3]; rfl
theorem OpY.mkDeep {t el : TypeId} {a c : Operand} {k k' : IntKind} {i : Int} {m by' : Nat} {z : Value} {zc : List Value} {x : α} {Y : List α} (hu : P.underlying t = some (.slice el)) (ti : TI P el D.r.sz by' z) (hzc : z.cells = zc.toArray) (h1 : ones zc = true)
 (hR : D.R zc (List.replicate D.nf none) (List.replicate D.nf (.cells [])) x)
 (ha : ρ a = .int k i) (hc : ρ c = .int k' i) (hi : i = (m : Int)) (hb : by' * m ≤ 281474976710656) (hm : m ≤ 9223372036854775807) (hY : Y = List.replicate m x) (hL : Loc X [] w0 w O C)
 (h : ∀ b w' cs FB FC, DEls D cs FB FC Y → (cs ++ []).length = m * D.r.sz → Loc X [] w0 w' (some b :: (O ++ FB)) (.cells ([] ++ (cs ++ [])) :: (C ++ FC)) → Step O (some b :: (O ++ FB)) w w' → R (osv (some b) 0 Y.length m) w') :
 OpY P (.makeSlice t a c) ty ρ w R := by
 subst hY
 have hl := (D.len _ _ _ _ hR).1
 refine OpY.mkRowX (r := rKon zc h1) (H := H0) (x := ()) (Y := List.replicate m ()) hu (by rw [← hl] at ti; exact ti) hzc rfl ha hc hi hb hm rfl hL fun b w' cs hE hc hL' hS => ?_
 have e := Els.kon hE
 obtain ⟨g1, g2⟩ := hL'.addNils (m * D.nf)
 have hS2 : Step O (some b :: (O ++ List.replicate (m * D.nf) none)) w w' := ⟨hS.same, fun q hq => by
  refine hS.grow q ?_
  rcases List.mem_cons.1 hq with h | h
  · rw [h]; exact List.mem_cons_self
  · rcases List.mem_append.1 h with h | h
    · exact List.mem_cons_of_mem _ h
    · have := (List.mem_replicate.1 h).2; cases this⟩
 have e2 : (cs ++ []).length = m * D.r.sz := by rw [hc]; show m * zc.length = _; rw [hl]
 have := h b w' cs (List.replicate (m * D.nf) none) (List.replicate (m * D.nf) (.cells [])) (by rw [e]; exact DEls.rep hR m) e2 g1 hS2
 rw [List.length_replicate] at this ⊢
 exact this
theorem OpY.lenDeep {t : TypeId} {x : Operand} {el : TypeId} {b n cap : Nat} {xs : List α} (hu : P.underlying t = some (.slice el)) (hx : ρ x = osv (some b) 0 n cap) (hn : n = xs.length) (h : R (.int .i64 (xs.length : Int)) w) :
 OpY P (.call { callee := .builtin .len, args := #[x], argTypes := #[t] }) ty ρ w R := by
 subst hn
 exact OpY.len_slice hu hx h
theorem OpY.apDeep {β : Type} {r : Rep β} {t el : TypeId} {a c : Operand} {by' n cap j : Nat} {z x : Value} {ob : Option Nat} {cs sp ds : List Value} {xs ys Y : List β} (hu : P.underlying t = some (.slice el)) (ti : TI P el r.sz by' z) (hzc : z.cells.size = r.sz) (hz : (r.sz == 0) = false)
 (ha : ρ a = osv ob 0 n cap) (hc : ρ c = x) (hL : Loc X [] w0 w (Op ++ FB) (Cp ++ FC)) (hl : Op.length = Cp.length) (hO : FB[j]? = some ob) (hC : FC[j]? = some (.cells ([] ++ (cs ++ sp)))) (hE : Els r H0 cs xs) (hn : n = xs.length) (hcap : (cs ++ sp).length = cap * r.sz) (hsrc : Src w x ys.length r.sz ds) (hD : Els r H0 ds ys)
 (h63 : xs.length + ys.length ≤ 9223372036854775807) (hb : (xs.length + ys.length) * by' ≤ 140737488355328) (hY : Y = xs ++ ys)
 (h : ∀ ob' cap' sp' ds' w', Els r H0 ds' Y → (ds' ++ sp').length = cap' * r.sz → Loc X [] w0 w' (Op ++ FB.set j ob') (Cp ++ FC.set j (.cells ([] ++ (ds' ++ sp')))) → Step (Op ++ FB) (Op ++ FB.set j ob') w w' → R (osv ob' 0 Y.length cap') w') :
 OpY P (.call { callee := .builtin .append, args := #[a, c], argTypes := #[t, t] }) ty ρ w R := by
 refine OpY.apRowX (i := Op.length + j) (H := H0) hu ti hzc hz ha hc hL (by rw [List.getElem?_append_right (by omega), Nat.add_sub_cancel_left]; exact hO) (by rw [List.getElem?_append_right (by omega), hl, Nat.add_sub_cancel_left]; exact hC) hE hn hcap hsrc hD h63 hb hY fun ob' cap' sp' ds' w' g1 g2 g3 g4 => ?_
 rw [List.set_append_right _ _ (by omega), Nat.add_sub_cancel_left] at g3 g4
 rw [List.set_append_right _ _ (by omega), hl, Nat.add_sub_cancel_left] at g3
 exact h ob' cap' sp' ds' w' g1 g2 g3 g4
theorem OpY.stDeep {t : TypeId} {x y : Operand} {b q n off by' sz : Nat} {z v : Value} {cs sp : List Value} {xs Y : List α} {a a' : α} (ti : TI P t sz by' z) (hsz : sz = 1) (hx : ρ x = .pointer (some ⟨b, q, none⟩)) (hy : ρ y = v) (hv : v.cells = [v].toArray) (hone : one v = true)
 (hL : Loc X [] w0 w O C) (i : Nat) (hO : O[i]? = some (some b)) (hC : C[i]? = some (.cells ([] ++ (cs ++ sp)))) (hD : DEls D cs FBd FCd xs) (hn : xs[n]? = some a) (hq : q = 0 + n * D.r.sz + off) (hY : Y = xs.set n a') (ho : off < D.r.sz)
 (hR : ∀ vs bs c, D.R vs bs c a → D.R (vs.set off v) bs c a')
 (h : ∀ w' cs', Loc X [] w0 w' O (C.set i (.cells ([] ++ (cs' ++ sp)))) → Step O O w w' → DEls D cs' FBd FCd Y → cs'.length = cs.length → R undef w') : OpY P (.store t x y) ty ρ w R := by
 subst hY; subst hq
 obtain ⟨cs', e1, e2, e3⟩ := hD.upd (sp := sp) hn ho hR
 have hlen := hD.len.1
 have hlt := (List.getElem?_eq_some_iff.1 hn).1
 have hb : n * D.r.sz + D.r.sz ≤ cs.length := by rw [hlen, ← Nat.succ_mul]; exact Nat.mul_le_mul_right _ hlt
 refine OpY.store ti hx hy hv (by rw [hsz]; rfl) (ones_cons hone ones_nil) hL i hO hC (by simp; omega) fun w' h1 h2 => ?_
 rw [e1] at h1
 exact h w' cs' h1 h2 e3 e2
theorem OpY.stDeepS {t : TypeId} {x y : Operand} {b q n off f j by' sz : Nat} {z v : Value} {cs sp : List Value} {xs Y : List α} {a a' : α} {ob : Option Nat} {k : Cont} (ti : TI P t sz by' z) (hsz : sz = 1) (hx : ρ x = .pointer (some ⟨b, q, none⟩)) (hy : ρ y = v) (hv : v.cells = [v].toArray) (hone : one v = true)
 (hL : Loc X [] w0 w O C) (i : Nat) (hO : O[i]? = some (some b)) (hC : C[i]? = some (.cells ([] ++ (cs ++ sp)))) (hD : DEls D cs FBd FCd xs) (hn : xs[n]? = some a) (hq : q = 0 + n * D.r.sz + off) (hY : Y = xs.set n a') (ho : off < D.r.sz) (hf : f < D.nf) (hj : n * D.nf + f = j)
 (hR : ∀ vs bs c, D.R vs bs c a → D.R (vs.set off v) (bs.set f ob) (c.set f k) a')
 (h : ∀ w' cs', Loc X [] w0 w' O (C.set i (.cells ([] ++ (cs' ++ sp)))) → Step O O w w' → DEls D cs' (FBd.set j ob) (FCd.set j k) Y → cs'.length = cs.length → R undef w') : OpY P (.store t x y) ty ρ w R := by
 subst hY; subst hq
 obtain ⟨cs', e1, e2, e3⟩ := hD.updS (sp := sp) hn ho hf hj hR
 have hlen := hD.len.1
 have hlt := (List.getElem?_eq_some_iff.1 hn).1
 have hb : n * D.r.sz + D.r.sz ≤ cs.length := by rw [hlen, ← Nat.succ_mul]; exact Nat.mul_le_mul_right _ hlt
 refine OpY.store ti hx hy hv (by rw [hsz]; rfl) (ones_cons hone ones_nil) hL i hO hC (by simp; omega) fun w' h1 h2 => ?_
 rw [e1] at h1
 exact h w' cs' h1 h2 e3 e2
end
end Go.X
set_option linter.unusedSimpArgs false
set_option linter.unusedVariables false
namespace Go.X
open Go Go.RowKit
section
variable {H : Type} {enc : TypeId × Value → H} {W : World} {P : Program}
theorem Opn.strL {N : Nat} {t : TypeId} (ht : P.underlying t = some .string) : Opn enc P W N rStr t (fun s => s.length ≤ 9223372036854775807) := by
 intro fuel _ cs x h
 obtain ⟨s, rfl, _, hl⟩ := DataW.trod_string ht h
 refine ⟨s.data.toList, ?_, ?_⟩
 · show [Value.string s] = [Value.string (s8 s.data.toList)]
   rw [← s8_of]
 · have : s.data.toList.length = s.size := Array.length_toList
   have h9 : s.size ≤ 2 ^ 63 - 1 := hl
   show s.data.toList.length ≤ 9223372036854775807
   omega
end
end Go.X

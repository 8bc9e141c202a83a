/-
 Plain counterparts that hand on an answer from some fuel on; numbers written in digits. Plain theorems.
-/
import Derived.Test.YtcakdidcpoolcaaGreatDoorZ
set_option linter.unusedSimpArgs false
set_option linter.unusedVariables false
namespace Go.X
open Go
def Tm {α : Type} (f : Nat → Option α) (Q : α → Prop) : Prop := ∃ a N0, Q a ∧ ∀ N, N0 ≤ N → f N = some a
section
variable {α β σ ρ : Type}
theorem Tm.pure {a : α} {Q : α → Prop} (h : Q a) : Tm (fun _ => some a) Q := ⟨a, 0, h, fun _ _ => rfl⟩
theorem Tm.bind {f : Nat → Option α} {g : Nat → α → Option β} {Q : α → Prop} {R : β → Prop} (h : Tm f Q) (k : ∀ a, Q a → Tm (fun N => g N a) R) : Tm (fun N => (f N).bind (g N)) R := by
 obtain ⟨a, N0, hQ, h⟩ := h
 obtain ⟨b, N1, hR, k⟩ := k a hQ
 exact ⟨b, max N0 N1, hR, fun N hN => by show (f N).bind (g N) = some b; rw [h N (by omega)]; exact k N (by omega)⟩
theorem Tm.step {f : Option α} {a : α} (e : f = some a) {g : Nat → α → Option β} {R : β → Prop} (k : Tm (fun N => g N a) R) : Tm (fun N => f.bind (g N)) R := by
 subst e; exact k
theorem Tm.mono {f : Nat → Option α} {Q R : α → Prop} (h : Tm f Q) (k : ∀ a, Q a → R a) : Tm f R := by
 obtain ⟨a, N0, hQ, h⟩ := h
 exact ⟨a, N0, k a hQ, h⟩
theorem Tm.pos {c : Prop} [Decidable c] {f g : Nat → Option α} {Q : α → Prop} (hc : c) (h : Tm f Q) : Tm (fun N => if c then f N else g N) Q := by simpa only [if_pos hc] using h
theorem Tm.neg {c : Prop} [Decidable c] {f g : Nat → Option α} {Q : α → Prop} (hc : ¬ c) (h : Tm g Q) : Tm (fun N => if c then f N else g N) Q := by simpa only [if_neg hc] using h
theorem Tm.ite {c : Prop} [Decidable c] {f g : Nat → Option α} {Q : α → Prop} (h1 : c → Tm f Q) (h2 : ¬ c → Tm g Q) : Tm (fun N => if c then f N else g N) Q := by
 by_cases hc : c
 · exact Tm.pos hc (h1 hc)
 · exact Tm.neg hc (h2 hc)
theorem Tm.succ {f : Nat → Option α} {Q : α → Prop} (h : Tm (fun N => f (N + 1)) Q) : Tm f Q := by
 obtain ⟨a, N0, hQ, h⟩ := h
 refine ⟨a, N0 + 1, hQ, fun N hN => ?_⟩
 have h1 : f (N - 1 + 1) = some a := h (N - 1) (by omega)
 rwa [show N - 1 + 1 = N by omega] at h1
theorem Tm.get {f : Nat → Option α} {Q : α → Prop} (h : Tm f Q) : ∃ N a, f N = some a ∧ Q a := by
 obtain ⟨a, N0, hQ, h⟩ := h
 exact ⟨N0, a, h N0 (Nat.le_refl _), hQ⟩
def Turn (I : σ → Prop) (μ : σ → Nat) (Q : ρ → Prop) (m : Nat) : Stp σ ρ → Prop
 | .next s => I s ∧ μ s < m
 | .done r => Q r
theorem Tm.loop {body : Nat → σ → Option (Stp σ ρ)} (I : σ → Prop) (μ : σ → Nat) {Q : ρ → Prop} {s0 : σ} (h0 : I s0) (h : ∀ s, I s → Tm (fun N => body N s) (Turn I μ Q (μ s))) :
 Tm (fun N => loopM (body N) N s0) Q := by
 have key : ∀ (m : Nat) (s : σ), μ s ≤ m → I s → ∃ a K, Q a ∧ ∀ N n, K ≤ N → K ≤ n → loopM (body N) n s = some a := by
  intro m
  induction m with
  | zero =>
   intro s hm hI
   obtain ⟨t, N0, hT, hN⟩ := h s hI
   cases t with
   | next s' => exact absurd hT.2 (by omega)
   | done r => exact ⟨r, N0 + 1, hT, fun N n h1 h2 => by obtain ⟨n, rfl⟩ : ∃ k, n = k + 1 := ⟨n - 1, by omega⟩; exact loopM_done (hN N (by omega))⟩
  | succ m ih =>
   intro s hm hI
   obtain ⟨t, N0, hT, hN⟩ := h s hI
   cases t with
   | next s' =>
    obtain ⟨a, K, hQ, hK⟩ := ih s' (by have := hT.2; omega) hT.1
    exact ⟨a, max N0 K + 1, hQ, fun N n h1 h2 => by obtain ⟨n, rfl⟩ : ∃ k, n = k + 1 := ⟨n - 1, by omega⟩; rw [loopM_next (hN N (by omega))]; exact hK N n (by omega) (by omega)⟩
   | done r => exact ⟨r, N0 + 1, hT, fun N n h1 h2 => by obtain ⟨n, rfl⟩ : ∃ k, n = k + 1 := ⟨n - 1, by omega⟩; exact loopM_done (hN N (by omega))⟩
 obtain ⟨a, K, hQ, hK⟩ := key (μ s0) s0 (Nat.le_refl _) h0
 exact ⟨a, K, hQ, fun N hN => hK N N hN hN⟩
end
theorem idx_get {α : Type} {xs : List α} {n : Nat} {x : α} (h : xs[n]? = some x) : idx xs (n : Int) = some x := by
 unfold idx; rw [if_neg (by omega)]; simpa using h
theorem idx_ok {α : Type} {xs : List α} {n : Nat} (h : n < xs.length) : idx xs (n : Int) = some xs[n] := idx_get (List.getElem?_eq_getElem h)
theorem idx_i {α : Type} {xs : List α} {i : Int} {n : Nat} (e : i = (n : Int)) (h : n < xs.length) : idx xs i = some xs[n] := by subst e; exact idx_ok h
theorem upd1_i {α : Type} {xs : List α} {i : Int} {n : Nat} {y : α} (e : i = (n : Int)) (h : n < xs.length) : upd1 xs i y = some (xs.set n y) := by
 subst e; unfold upd1; rw [if_neg (by omega)]; simp
theorem cut_i {α : Type} {xs : List α} {i j : Int} {m n : Nat} (e : i = (m : Int)) (e' : j = (n : Int)) (h : m ≤ n) (h' : n ≤ xs.length) : cut xs i j = some ((xs.take n).drop m) := by
 subst e; subst e'; unfold cut; rw [if_neg (by omega)]; simp
theorem apnd_ok {α : Type} {b : Nat} {xs ys : List α} (h : (xs.length + ys.length) * b ≤ 140737488355328) (hb : 0 < b) : apnd b xs ys = some (xs ++ ys) := by
 unfold apnd
 have : xs.length + ys.length ≤ (xs.length + ys.length) * b := Nat.le_mul_of_pos_right _ hb
 rw [if_pos ⟨h, by omega⟩]
theorem mk1_ok {α : Type} {b : Nat} {z : α} {i : Int} {n : Nat} (e : i = (n : Int)) (h : b * n ≤ 281474976710656) (hb : 0 < b) : mk1 b z i = some (List.replicate n z) := by
 subst e; unfold mk1
 have : n ≤ b * n := Nat.le_mul_of_pos_left _ hb
 rw [if_neg (by simp; omega)]; simp
theorem chk_ok {p : Prop} [Decidable p] (h : p) : chk p = some () := by unfold chk; rw [if_pos h]
def val (B : Int) : List Int → Int
 | [] => 0
 | x :: xs => x + B * val B xs
def InB (B : Int) (l : List Int) : Prop := ∀ x ∈ l, 0 ≤ x ∧ x < B
def Nrm (l : List Int) : Prop := l.getLast? ≠ some 0
structure Dg (B : Int) (l : List Int) (v : Int) : Prop where
 inB : InB B l
 nrm : Nrm l
 val : val B l = v
section
variable {B : Int}
theorem InB.nil : InB B [] := fun _ h => by cases h
theorem InB.cons {x : Int} {l : List Int} (hx : 0 ≤ x ∧ x < B) (h : InB B l) : InB B (x :: l) := fun y hy => by
 rcases List.mem_cons.1 hy with rfl | hy
 · exact hx
 · exact h y hy
theorem InB.append {l m : List Int} (h : InB B l) (h' : InB B m) : InB B (l ++ m) := fun y hy => by
 rcases List.mem_append.1 hy with hy | hy
 · exact h y hy
 · exact h' y hy
theorem InB.tail {x : Int} {l : List Int} (h : InB B (x :: l)) : InB B l := fun y hy => h y (List.mem_cons_of_mem _ hy)
theorem InB.head {x : Int} {l : List Int} (h : InB B (x :: l)) : 0 ≤ x ∧ x < B := h x List.mem_cons_self
theorem InB.take {l : List Int} (h : InB B l) (n : Nat) : InB B (l.take n) := fun y hy => h y (List.mem_of_mem_take hy)
theorem InB.drop {l : List Int} (h : InB B l) (n : Nat) : InB B (l.drop n) := fun y hy => h y (List.mem_of_mem_drop hy)
theorem InB.get {l : List Int} (h : InB B l) {n : Nat} (hn : n < l.length) : 0 ≤ l[n] ∧ l[n] < B := h _ (List.getElem_mem hn)
theorem InB.getD {l : List Int} (hB : 0 < B) (h : InB B l) (n : Nat) : 0 ≤ l.getD n 0 ∧ l.getD n 0 < B := by
 rw [List.getD_eq_getElem?_getD]
 rcases Nat.lt_or_ge n l.length with hn | hn
 · rw [List.getElem?_eq_getElem hn]; exact h.get hn
 · rw [List.getElem?_eq_none hn]; exact ⟨by simp, by simpa using hB⟩
theorem InB.set {l : List Int} (h : InB B l) {n : Nat} {y : Int} (hy : 0 ≤ y ∧ y < B) : InB B (l.set n y) := fun z hz => by
 rcases List.mem_or_eq_of_mem_set hz with hz | rfl
 · exact h z hz
 · exact hy
theorem InB.rep (hB : 0 < B) {n : Nat} : InB B (List.replicate n 0) := fun z hz => by
 rw [(List.mem_replicate.1 hz).2]; exact ⟨Int.le_refl _, hB⟩
theorem val_cons {x : Int} {l : List Int} : val B (x :: l) = x + B * val B l := rfl
theorem val_append : ∀ {l m : List Int}, val B (l ++ m) = val B l + B ^ l.length * val B m
 | [], m => by simp [val]
 | x :: l, m => by
  simp only [List.cons_append, val, val_append (l := l), List.length_cons, Int.pow_succ]
  grind
theorem val_rep {n : Nat} : val B (List.replicate n 0) = 0 := by
 induction n with
 | zero => rfl
 | succ n ih => simp [List.replicate_succ, val, ih]
theorem val_nonneg (hB : 0 ≤ B) : ∀ {l : List Int}, InB B l → 0 ≤ val B l
 | [], _ => Int.le_refl _
 | x :: l, h => by
  have h1 := val_nonneg hB h.tail
  have h2 := h.head
  have h3 := Int.mul_nonneg hB h1
  simp only [val]; omega
theorem val_lt (hB : 0 < B) : ∀ {l : List Int}, InB B l → val B l < B ^ l.length
 | [], _ => by simp [val]
 | x :: l, h => by
  have h1 := val_lt hB h.tail
  have h2 := h.head
  have h3 : B * (val B l + 1) ≤ B * B ^ l.length := Int.mul_le_mul_of_nonneg_left (by omega) (by omega)
  simp only [val, List.length_cons, Int.pow_succ]
  rw [Int.mul_comm (B ^ l.length)]
  rw [Int.mul_add] at h3
  omega
theorem val_take {l : List Int} {n : Nat} : val B (l.take (n + 1)) = val B (l.take n) + B ^ n * l.getD n 0 := by
 rw [List.getD_eq_getElem?_getD]
 rcases Nat.lt_or_ge n l.length with hn | hn
 · rw [List.take_succ_eq_append_getElem hn, val_append, List.getElem?_eq_getElem hn, List.length_take, Nat.min_eq_left (by omega)]
   simp [val]
 · rw [List.getElem?_eq_none hn, List.take_of_length_le (by omega), List.take_of_length_le (by omega)]
   simp
theorem val_split {l : List Int} (n : Nat) (h : n ≤ l.length) : val B l = val B (l.take n) + B ^ n * val B (l.drop n) := by
 have := val_append (B := B) (l := l.take n) (m := l.drop n)
 rw [List.take_append_drop, List.length_take, Nat.min_eq_left h] at this
 exact this
theorem pow_pos' (hB : 0 < B) (n : Nat) : 0 < B ^ n := Int.pow_pos hB
theorem nrm_cons {x : Int} {l : List Int} (h : Nrm (x :: l)) : Nrm l := by
 intro h'
 apply h
 cases l with
 | nil => cases h'
 | cons y l => rw [List.getLast?_cons_cons]; exact h'
theorem nrm_ge (hB : 0 < B) : ∀ {l : List Int}, InB B l → Nrm l → l ≠ [] → B ^ (l.length - 1) ≤ val B l
 | [], _, _, h => absurd rfl h
 | [x], h, hn, _ => by
  have h1 := h.head
  have h2 : x ≠ 0 := fun e => hn (by simp [e])
  simp [val]; omega
 | x :: y :: l, h, hn, _ => by
  have h1 := nrm_ge hB h.tail (nrm_cons hn) (by simp)
  have h2 := h.head
  have h3 : B * B ^ l.length ≤ B * val B (y :: l) := Int.mul_le_mul_of_nonneg_left (by simpa using h1) (by omega)
  simp only [List.length_cons, Nat.add_sub_cancel] at *
  rw [Int.pow_succ, Int.mul_comm, val_cons (x := x)]
  omega
theorem nrm_pos (hB : 0 < B) {l : List Int} (h : InB B l) (hn : Nrm l) (hl : l ≠ []) : 0 < val B l := by
 have := nrm_ge hB h hn hl
 have := pow_pos' hB (l.length - 1)
 omega
theorem nrm_nil : Nrm [] := by simp [Nrm]
theorem pow_mono (hB : 1 ≤ B) {m n : Nat} (h : m ≤ n) : B ^ m ≤ B ^ n := by
 obtain ⟨k, rfl⟩ := Nat.exists_eq_add_of_le h
 rw [Int.pow_add]
 have h1 := pow_pos' (B := B) (by omega) m
 have h2 := pow_pos' (B := B) (by omega) k
 have := Int.mul_le_mul_of_nonneg_left (show 1 ≤ B ^ k by omega) (show 0 ≤ B ^ m by omega)
 omega
theorem nrm_uniq (hB : 1 < B) : ∀ {a b : List Int}, InB B a → InB B b → Nrm a → Nrm b → val B a = val B b → a = b
 | [], [], _, _, _, _, _ => rfl
 | [], y :: b, _, h, _, hn, e => by have := nrm_pos (by omega) h hn (by simp); simp only [val] at *; omega
 | x :: a, [], h, _, hn, _, e => by have := nrm_pos (by omega) h hn (by simp); simp only [val] at *; omega
 | x :: a, y :: b, h, h', hn, hn', e => by
  simp only [val] at e
  have h1 := h.head
  have h2 := h'.head
  have hxy : x = y := by
   have e1 : (x + B * val B a) % B = x := by rw [Int.add_mul_emod_self_left]; exact Int.emod_eq_of_lt h1.1 h1.2
   have e2 : (y + B * val B b) % B = y := by rw [Int.add_mul_emod_self_left]; exact Int.emod_eq_of_lt h2.1 h2.2
   rw [← e1, ← e2, e]
  subst hxy
  have hv : val B a = val B b := Int.eq_of_mul_eq_mul_left (a := B) (by omega) (by omega)
  rw [nrm_uniq hB h.tail h'.tail (nrm_cons hn) (nrm_cons hn') hv]
theorem Dg.uniq (hB : 1 < B) {a b : List Int} {v : Int} (h : Dg B a v) (h' : Dg B b v) : a = b := nrm_uniq hB h.inB h'.inB h.nrm h'.nrm (h.val.trans h'.val.symm)
theorem Dg.nil : Dg B [] 0 := ⟨.nil, nrm_nil, rfl⟩
theorem Dg.zero (hB : 0 < B) {l : List Int} {v : Int} (h : Dg B l v) : l = [] ↔ v = 0 := by
 constructor
 · intro e; rw [← h.val, e]; rfl
 · intro e
   cases l with
   | nil => rfl
   | cons x l => have := nrm_pos hB h.inB h.nrm (by simp); have := h.val; omega
theorem Dg.nonneg (hB : 0 ≤ B) {l : List Int} {v : Int} (h : Dg B l v) : 0 ≤ v := h.val ▸ val_nonneg hB h.inB
theorem val_cut {l : List Int} {n : Nat} (hn : n ≤ l.length) (h : ∀ k, (hk : k < l.length) → n ≤ k → l[k] = 0) : val B (l.take n) = val B l := by
 rw [val_split n hn]
 have : l.drop n = List.replicate (l.length - n) 0 := by
  apply List.ext_getElem (by simp)
  intro i h1 h2
  simp only [List.getElem_drop, List.getElem_replicate]
  exact h _ _ (by omega)
 rw [this, val_rep]; simp
theorem dg_cut {l : List Int} {n : Nat} (hn : n ≤ l.length) (hl : InB B l) (h : ∀ k, (hk : k < l.length) → n ≤ k → l[k] = 0) (h0 : n = 0 ∨ ∃ hk : n - 1 < l.length, l[n - 1] ≠ 0) : Dg B (l.take n) (val B l) := by
 refine ⟨hl.take n, ?_, val_cut hn h⟩
 rcases h0 with rfl | ⟨hk, h0⟩
 · simp [Nrm]
 · intro e
   rw [List.getLast?_eq_getElem?, List.length_take, Nat.min_eq_left hn] at e
   rcases Nat.eq_zero_or_pos n with hz | hz
   · subst hz; simp at e
   · rw [List.getElem?_take_of_lt (by omega), List.getElem?_eq_getElem hk] at e
     exact h0 (Option.some.inj e)
end
def sgn (a b : Int) : Int := if a < b then -1 else if b < a then 1 else 0
theorem val_cmp {B : Int} (hB : 1 < B) {a b : List Int} (ha : InB B a) (hb : InB B b) (hl : a.length = b.length) {n : Nat} (hn : n < a.length) (hd : a.drop (n + 1) = b.drop (n + 1)) (hx : a[n] < b[n]'(by omega)) : val B a < val B b := by
 rw [val_split (l := a) (n + 1) (by omega), val_split (l := b) (n + 1) (by omega), hd, val_take, val_take]
 have h1 := val_lt (by omega) (ha.take n)
 have h2 := val_nonneg (B := B) (by omega) (hb.take n)
 rw [List.length_take, Nat.min_eq_left (by omega)] at h1
 rw [List.getD_eq_getElem?_getD, List.getD_eq_getElem?_getD, List.getElem?_eq_getElem hn, List.getElem?_eq_getElem (by omega)]
 simp only [Option.getD_some]
 have h3 := Int.mul_le_mul_of_nonneg_left (show a[n] + 1 ≤ b[n]'(by omega) by omega) (show 0 ≤ B ^ n from Int.le_of_lt (pow_pos' (by omega) n))
 rw [Int.mul_add] at h3
 omega
theorem len_cmp {B : Int} (hB : 1 < B) {a b : List Int} (ha : InB B a) (hb : InB B b) (hn : Nrm b) (hl : a.length < b.length) : val B a < val B b := by
 have h1 := val_lt (by omega) ha
 have h2 := nrm_ge (by omega) hb hn (by intro e; rw [e] at hl; simp at hl)
 have h3 := pow_mono (B := B) (by omega) (show a.length ≤ b.length - 1 by omega)
 omega
structure Lo {α : Type} (a b : Option α) : Prop where
 le : ∀ r, a = some r → b = some r
section
variable {α β σ ρ : Type}
theorem Lo.refl (a : Option α) : Lo a a := ⟨fun _ h => h⟩
theorem Lo.none {b : Option α} : Lo Option.none b := ⟨fun _ h => by cases h⟩
theorem Lo.bind {a b : Option α} {f g : α → Option β} (h : Lo a b) (k : ∀ x, Lo (f x) (g x)) : Lo (a.bind f) (b.bind g) := ⟨fun r hr => by
 cases a with
 | none => cases hr
 | some x => rw [h.le x rfl]; exact (k x).le r hr⟩
theorem Lo.ite {c : Prop} [Decidable c] {a b a' b' : Option α} (h : Lo a b) (h' : Lo a' b') : Lo (if c then a else a') (if c then b else b') := by
 by_cases hc : c
 · rw [if_pos hc, if_pos hc]; exact h
 · rw [if_neg hc, if_neg hc]; exact h'
theorem Lo.loop {f g : σ → Option (Stp σ ρ)} {N M : Nat} (hN : N ≤ M) (h : ∀ s, Lo (f s) (g s)) {s : σ} : Lo (loopM f N s) (loopM g M s) := by
 have key : ∀ (N : Nat) (s : σ) (r : ρ), loopM f N s = some r → loopM g N s = some r := by
  intro N
  induction N with
  | zero => intro s r hr; simp [loopM] at hr
  | succ N ih =>
   intro s r hr
   simp only [loopM] at hr ⊢
   cases hf : f s with
   | none => rw [hf] at hr; cases hr
   | some o =>
    rw [hf] at hr
    rw [(h s).le o hf]
    cases o with
    | next s' => exact ih s' r hr
    | done r' => exact hr
 exact ⟨fun r hr => loopM_more (key N s r hr) hN⟩
theorem Lo.tm {f : Nat → Option α} (h : ∀ {N M}, N ≤ M → Lo (f N) (f M)) {N : Nat} {a : α} (e : f N = some a) : Tm f (· = a) := ⟨a, N, rfl, fun _ hM => (h hM).le a e⟩
end
end Go.X

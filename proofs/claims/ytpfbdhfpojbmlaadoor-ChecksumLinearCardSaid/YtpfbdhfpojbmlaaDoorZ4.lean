/-
  Calls, results, lending; what the ways of a walk hand on. Plain theorems over any program.
-/
import Derived.Test.YtpfbdhfpojbmlaaDoorZ3
set_option linter.unusedSimpArgs false
set_option linter.unusedVariables false
namespace Go.X
open Go Go.RowKit

theorem sl_imp {α : Type} {sz : Nat} {R R' : Hp → List Value → α → Prop} {H : Hp} {v : Value} {xs : List α} (h : ∀ vs x, R H vs x → R' H vs x) (hs : Sl sz R H v xs) : Sl sz R' H v xs := by
  rcases hs with ⟨h1, h2⟩ | ⟨b, o, cap, hv, hc, hx⟩
  · exact .inl ⟨h1, h2⟩
  · refine .inr ⟨b, o, cap, hv, hc, fun i y hi => ?_⟩
    obtain ⟨vs, h1, h2, h3⟩ := hx i y hi
    exact ⟨vs, h1, h2, h _ _ h3⟩
theorem list_bound {α : Type} {p : Nat → α → Nat → Prop} (hm : ∀ i x n m, n ≤ m → p i x n → p i x m) : ∀ (xs : List α) (k : Nat), (∀ i x, xs[i]? = some x → ∃ n, p (k + i) x n) → ∃ n, ∀ i x, xs[i]? = some x → p (k + i) x n
  | [], k, _ => ⟨0, fun i x h => by simp at h⟩
  | y :: xs, k, h => by
    obtain ⟨n1, h1⟩ := h 0 y rfl
    obtain ⟨n2, h2⟩ := list_bound hm xs (k + 1) (fun i x hx => by
      obtain ⟨n, hn⟩ := h (i + 1) x (by simpa using hx)
      exact ⟨n, by rw [show k + 1 + i = k + (i + 1) by omega]; exact hn⟩)
    refine ⟨max n1 n2, fun i x hx => ?_⟩
    cases i with
    | zero => simp at hx; subst hx; exact hm _ _ _ _ (Nat.le_max_left _ _) h1
    | succ i =>
      have := h2 i x (by simpa using hx)
      rw [show k + 1 + i = k + (i + 1) by omega] at this
      exact hm _ _ _ _ (Nat.le_max_right _ _) this
theorem sl_bound {α : Type} {sz : Nat} {Rn : Nat → Hp → List Value → α → Prop} {H : Hp} {v : Value} {xs : List α} (hm : ∀ n m vs x, n ≤ m → Rn n H vs x → Rn m H vs x) (hs : Sl sz (fun H vs x => ∃ n, Rn n H vs x) H v xs) : ∃ n, Sl sz (Rn n) H v xs := by
  rcases hs with ⟨h1, h2⟩ | ⟨b, o, cap, hv, hc, hx⟩
  · exact ⟨0, .inl ⟨h1, h2⟩⟩
  · obtain ⟨n, hn⟩ := list_bound (p := fun i (x : α) n => ∃ vs : List Value, vs.length = sz ∧ At H b (o + i * sz) vs ∧ Rn n H vs x) (fun i x n m hnm h => by obtain ⟨vs, g1, g2, g3⟩ := h; exact ⟨vs, g1, g2, hm _ _ _ _ hnm g3⟩) xs 0
      (fun i x hi => by
        obtain ⟨vs, g1, g2, n, g3⟩ := hx i x hi
        exact ⟨n, vs, g1, by rw [Nat.zero_add]; exact g2, g3⟩)
    refine ⟨n, .inr ⟨b, o, cap, hv, hc, fun i x hi => ?_⟩⟩
    have := hn i x hi
    rwa [Nat.zero_add] at this

/-! ## Views -/
def HA (s : Nat) (S : Nat → Prop) (O : List (Option Nat)) : Nat → Prop := fun b => S b ∨ s ≤ b ∨ some b ∈ O
def Keep (s : Nat) (O : List (Option Nat)) (w : World) (O' : List (Option Nat)) (w' : World) : Prop := ∀ S, Le (Hv s S O w) (Hv s S O' w')
def NewOwn (w w' : World) (OB : List (Option Nat)) (CB : List Cont) : Prop := (∀ b, some b ∈ OB → w.heap.size ≤ b) ∧ Distinct OB ∧ Owns w' OB CB
def pickL {α : Type} (l : List α) : List Nat → Option (List α)
  | [] => some []
  | i :: r => match l[i]?, pickL l r with
    | some x, some y => some (x :: y)
    | _, _ => none
def nodupB : List Nat → Bool
  | [] => true
  | i :: r => !(memN i r) && nodupB r
section
variable {P : Program} {s : Nat} {S : Nat → Prop} {X O O' O'' : List (Option Nat)} {C C' : List Cont} {w w' w'' w0 : World} {α : Type} {r : Rep α}
theorem Keep.refl : Keep s O w O w := fun _ => Le.refl _
theorem Keep.step (h : Step O O' w w') : Keep s O w O' w' := fun _ => Hv.step h
theorem Keep.ext (h : Ext w w') : Keep s O w O w' := fun _ => Hv.ext h
theorem ks (w : World) {O O' : List (Option Nat)} {w1 w2 : World} (h : Step O O' w1 w2) : Keep w.heap.size O w1 O' w2 := Keep.step h
theorem ke {X F : List (Option Nat)} {w0 w1 w2 : World} {O : List (Option Nat)} {C : List Cont} (hL : Loc X F w0 w1 O C) (h : Ext w1 w2) : Keep w0.heap.size O w1 O w2 := Keep.ext h
theorem Keep.trans (h : Keep s O w O' w') (h' : Keep s O' w' O'' w'') : Keep s O w O'' w'' := fun S => Le.trans (h S) (h' S)
theorem Hv.lend : Le (Hv s S O w) (Hv w.heap.size (HA s S O') [] w) := fun b o h => by
  obtain ⟨⟨h1, h2⟩, h3⟩ := vw_some h
  exact vw_mk ⟨.inl (h1.imp id .inl), by simp⟩ h3
theorem Hv.out : Le (Hv s S O w) (Hv s S [] w) := Hv.sub (fun b h => by cases h)
theorem Hv.one {ob : Option Nat} (i : Nat) (h : O[i]? = some ob) : Le (Hv s S O w) (Hv s S [ob] w) := Hv.sub (fun b hb => by
  have : b = ob := by simpa using hb
  subst this; exact List.mem_of_getElem? h)
theorem own_at {b : Nat} {cs : List Value} (hc : OwnC w (some b) (.cells cs)) {H : Hp} (hH : ∀ o, w.heap[b]? = some o → H b = some o) : At H b 0 cs := by
  obtain ⟨t, lo, hi, h1, _⟩ := hc
  intro i hi
  simp [cellH, hH _ h1]
theorem Loc.lendAt (hL : Loc X [] w0 w O C) (i : Nat) {b : Nat} {cs : List Value} (hO : O[i]? = some (some b)) (hC : C[i]? = some (.cells cs)) : At (Hv w.heap.size (HA s S O) [] w) b 0 cs :=
  own_at (hL.at i hO hC) fun o ho => vw_mk ⟨.inl (.inr (.inr (List.mem_of_getElem? hO))), by simp⟩ ho
theorem row_rs {H : Hp} {b o n cap : Nat} {pre cs sp : List Value} {xs : List α} (hA : At H b 0 (pre ++ (cs ++ sp))) (hE : Els r H cs xs) (hz : (r.sz == 0) = false) (ho : o = pre.length) (hn : n = xs.length) (hcap : (cs ++ sp).length = cap * r.sz) : Rs r H (osv (some b) o n cap) xs := by
  have hpos : 0 < r.sz := by have : ¬ r.sz = 0 := by simpa using hz
                             omega
  subst ho; subst hn
  have hcx : xs.length ≤ cap := by
    have : xs.length * r.sz ≤ cap * r.sz := by rw [← hcap, List.length_append, hE.length]; omega
    exact Nat.le_of_mul_le_mul_right this hpos
  refine Els.rs (pre := pre) hE ?_ hcx
  have := hA.part (us := cs) pre.length (by rw [List.drop_left' rfl, List.take_left' rfl])
  rwa [Nat.zero_add] at this
theorem row_nil {H H' : Hp} {o n cap : Nat} {pre cs sp : List Value} {xs : List α} (h0 : pre ++ (cs ++ sp) = []) (hE : Els r H cs xs) (hz : (r.sz == 0) = false) : Rs r H' (osv none o n cap) xs := by
  have hpos : 0 < r.sz := by have : ¬ r.sz = 0 := by simpa using hz
                             omega
  have : xs = [] := by
    apply List.eq_nil_of_length_eq_zero
    rcases Nat.eq_zero_or_pos xs.length with h1 | h1
    · exact h1
    · have := row_pos (pre := pre) (sp := sp) hE (List.getElem?_eq_getElem h1) hpos
      rw [h0] at this; simp at this
  subst this; exact Rs.nil
theorem Loc.lendRow (hL : Loc X [] w0 w O C) (i : Nat) {ob : Option Nat} {o n cap : Nat} {pre cs sp : List Value} {xs : List α} (hO : O[i]? = some ob) (hC : C[i]? = some (.cells (pre ++ (cs ++ sp)))) (hE : Els r (Hv s S O w) cs xs) (hz : (r.sz == 0) = false) (ho : o = pre.length) (hn : n = xs.length) (hcap : (cs ++ sp).length = cap * r.sz) :
    Rs r (Hv w.heap.size (HA s S O) [] w) (osv ob o n cap) xs := by
  cases ob with
  | none => exact row_nil (hL.at i hO hC) hE hz
  | some b => exact row_rs (hL.lendAt i hO hC) (hE.mono Hv.lend) hz ho hn hcap
theorem Loc.freezeRow (hL : Loc [] [] w0 w O C) (i : Nat) {ob : Option Nat} {o n cap : Nat} {pre cs sp : List Value} {xs : List α} (hO : O[i]? = some ob) (hC : C[i]? = some (.cells (pre ++ (cs ++ sp)))) (hE : Els r (Hv w0.heap.size S O w) cs xs) (hz : (r.sz == 0) = false) (ho : o = pre.length) (hn : n = xs.length) (hcap : (cs ++ sp).length = cap * r.sz) :
    Rs r (Hv w0.heap.size S (O.eraseIdx i) w) (osv ob o n cap) xs := by
  cases ob with
  | none => exact row_nil (hL.at i hO hC) hE hz
  | some b =>
    have hge : w0.heap.size ≤ b := by
      rcases hL.fresh b (List.mem_of_getElem? hO) with h | h
      · cases h
      · exact h
    refine row_rs (own_at (hL.at i hO hC) fun q hq => vw_mk ⟨.inr hge, hL.dist.not_mem_erase hO⟩ hq) (hE.mono (Hv.sub fun b hb => List.mem_of_mem_eraseIdx hb)) hz ho hn hcap

theorem pickL_mem {β : Type} {l : List β} : ∀ {is : List Nat} {l' : List β}, pickL l is = some l' → ∀ x ∈ l', ∃ i ∈ is, l[i]? = some x
  | [], l', h, x, hx => by simp [pickL] at h; subst h; cases hx
  | i :: is, l', h, x, hx => by
    simp only [pickL] at h
    cases h1 : l[i]? with
    | none => rw [h1] at h; cases h
    | some y =>
      cases h2 : pickL l is with
      | none => rw [h1, h2] at h; cases h
      | some l2 =>
        rw [h1, h2] at h; cases h
        rcases List.mem_cons.1 hx with rfl | hx
        · exact ⟨i, List.mem_cons_self, h1⟩
        · obtain ⟨j, hj, hjx⟩ := pickL_mem h2 x hx
          exact ⟨j, List.mem_cons_of_mem _ hj, hjx⟩
theorem dist_inj : ∀ {O : List (Option Nat)} {i j b : Nat}, Distinct O → O[i]? = some (some b) → O[j]? = some (some b) → i = j
  | [], _, _, _, _, h, _ => by simp at h
  | x :: O, 0, 0, _, _, _, _ => rfl
  | x :: O, 0, j + 1, b, hd, h1, h2 => by
    simp at h1; subst h1
    exact absurd (List.mem_of_getElem? (by simpa using h2)) hd.1
  | x :: O, i + 1, 0, b, hd, h1, h2 => by
    simp at h2; subst h2
    exact absurd (List.mem_of_getElem? (by simpa using h1)) hd.1
  | x :: O, i + 1, j + 1, b, hd, h1, h2 => by
    have hd' : Distinct O := by cases x with | none => exact hd | some y => exact hd.2
    have h1' : O[i]? = some (some b) := by simpa using h1
    have h2' : O[j]? = some (some b) := by simpa using h2
    exact congrArg (· + 1) (dist_inj hd' h1' h2')
theorem Owns.pick {w : World} {O : List (Option Nat)} {C : List Cont} (h : Owns w O C) : ∀ {is : List Nat} {O' : List (Option Nat)} {C' : List Cont}, pickL O is = some O' → pickL C is = some C' → Owns w O' C'
  | [], O', C', h1, h2 => by simp [pickL] at h1 h2; subst h1; subst h2; trivial
  | i :: is, O', C', h1, h2 => by
    simp only [pickL] at h1 h2
    cases e1 : O[i]? with
    | none => rw [e1] at h1; cases h1
    | some ob =>
      cases e2 : pickL O is with
      | none => rw [e1, e2] at h1; cases h1
      | some O2 =>
        rw [e1, e2] at h1; cases h1
        cases e3 : C[i]? with
        | none => rw [e3] at h2; cases h2
        | some c =>
          cases e4 : pickL C is with
          | none => rw [e3, e4] at h2; cases h2
          | some C2 =>
            rw [e3, e4] at h2; cases h2
            exact ⟨h.at i e1 e3, Owns.pick h e2 e4⟩
theorem Distinct.pick {O : List (Option Nat)} (h : Distinct O) : ∀ {is : List Nat} {O' : List (Option Nat)}, pickL O is = some O' → nodupB is = true → Distinct O'
  | [], O', h1, _ => by simp [pickL] at h1; subst h1; trivial
  | i :: is, O', h1, hn => by
    simp only [pickL] at h1
    simp only [nodupB, Bool.and_eq_true, Bool.not_eq_true'] at hn
    cases e1 : O[i]? with
    | none => rw [e1] at h1; cases h1
    | some ob =>
      cases e2 : pickL O is with
      | none => rw [e1, e2] at h1; cases h1
      | some O2 =>
        rw [e1, e2] at h1; cases h1
        have ih := Distinct.pick h e2 hn.2
        cases ob with
        | none => exact ih
        | some b =>
          refine ⟨fun hm => ?_, ih⟩
          obtain ⟨j, hj, hjx⟩ := pickL_mem e2 _ hm
          have := dist_inj h e1 hjx
          subst this
          rw [memN_iff.2 hj] at hn; cases hn.1
theorem Loc.pick (hL : Loc X [] w0 w O C) (is : List Nat) (hO : pickL O is = some O') (hC : pickL C is = some C') (hn : nodupB is = true) : Loc X [] w0 w O' C' ∧ Step O O' w w := by
  have hsub : ∀ b, b ∈ O' → b ∈ O := fun b hb => by
    obtain ⟨i, _, hi⟩ := pickL_mem hO b hb
    exact List.mem_of_getElem? hi
  exact ⟨⟨hL.os, hL.tape, hL.output, hL.size, hL.keep, hL.own.pick hO hC, fun b hb => hL.fresh b (hsub _ hb), hL.dist.pick hO hn, fun _ _ h => (by cases h), fun _ h => (by cases h)⟩,
    ⟨fun _ _ _ => rfl, fun b hb => .inl (hsub _ hb)⟩⟩
theorem Owns.append {w : World} : ∀ {O O' : List (Option Nat)} {C C' : List Cont}, Owns w O C → Owns w O' C' → Owns w (O ++ O') (C ++ C')
  | [], _, [], _, _, h => h
  | _ :: _, _, _ :: _, _, h, h' => ⟨h.1, h.2.append h'⟩
  | [], _, _ :: _, _, h, _ => h.elim
  | _ :: _, _, [], _, h, _ => h.elim
theorem Distinct.append : ∀ {O O' : List (Option Nat)}, Distinct O → Distinct O' → (∀ b, some b ∈ O → some b ∉ O') → Distinct (O ++ O')
  | [], _, _, h, _ => h
  | none :: O, O', h, h', hd => Distinct.append (O := O) h h' fun b hb => hd b (List.mem_cons_of_mem _ hb)
  | some x :: O, O', h, h', hd => ⟨fun hm => by
      rcases List.mem_append.1 hm with h1 | h1
      · exact h.1 h1
      · exact hd x List.mem_cons_self h1, Distinct.append (O := O) h.2 h' fun b hb => hd b (List.mem_cons_of_mem _ hb)⟩
/-- What a call has made and hands over is taken over. -/
theorem Loc.adoptL (hL : Loc X [] w0 w O C) (hE : Ext w w') {OB : List (Option Nat)} {CB : List Cont} (h : NewOwn w w' OB CB) : Loc X [] w0 w' (OB ++ O) (CB ++ C) ∧ Step O (OB ++ O) w w' := by
  have hL' := hL.ext hE
  refine ⟨⟨hL'.os, hL'.tape, hL'.output, hL'.size, hL'.keep, h.2.2.append hL'.own, fun b hb => ?_, h.2.1.append hL'.dist fun b hb hb' => ?_, fun _ _ h => (by cases h), fun _ h => (by cases h)⟩, ⟨fun k hk _ => hE.block k hk, fun b hb => ?_⟩⟩
  · rcases List.mem_append.1 hb with h1 | h1
    · exact .inr (Nat.le_trans hL.size (h.1 b h1))
    · exact hL'.fresh b h1
  · have := h.1 b hb; have := hL.own.lt b hb'; omega
  · rcases List.mem_append.1 hb with h1 | h1
    · exact .inr (h.1 b h1)
    · exact .inl h1
theorem Loc.newOwn (hL : Loc [] [] w0 w O C) (is : List Nat) (hO : pickL O is = some O') (hC : pickL C is = some C') (hn : nodupB is = true) : NewOwn w0 w O' C' := by
  have h := (hL.pick is hO hC hn).1
  refine ⟨fun b hb => ?_, h.dist, h.own⟩
  rcases h.fresh b hb with h1 | h1
  · cases h1
  · exact h1
theorem Hv.freshO (hL : Loc X [] w0 w O C) (OB : List (Option Nat)) : Le (Hv w.heap.size None OB w') (Hv w0.heap.size S (OB ++ O) w') := fun b o h => by
  obtain ⟨⟨h1, h2⟩, h3⟩ := vw_some h
  rcases h1 with h1 | h1
  · exact h1.elim
  · refine vw_mk ⟨.inr (Nat.le_trans hL.size h1), fun hm => ?_⟩ h3
    rcases List.mem_append.1 hm with h4 | h4
    · exact h2 h4
    · have := hL.own.lt b h4; omega
theorem Hv.aliasO (hL : Loc X [] w0 w O C) (OB : List (Option Nat)) : Le (Hv w.heap.size (HS w0.heap.size S O) OB w') (Hv w0.heap.size S (OB ++ O) w') := fun b o h => by
  obtain ⟨⟨h1, h2⟩, h3⟩ := vw_some h
  rcases h1 with h1 | h1
  · refine vw_mk ⟨h1.1, fun hm => ?_⟩ h3
    rcases List.mem_append.1 hm with h4 | h4
    · exact h2 h4
    · exact h1.2 h4
  · refine vw_mk ⟨.inr (Nat.le_trans hL.size h1), fun hm => ?_⟩ h3
    rcases List.mem_append.1 hm with h4 | h4
    · exact h2 h4
    · have := hL.own.lt b h4; omega
end

/-! ## Function values -/
def FunOk (P : Program) (f : Value) (args : List Value) (w : World) (Φ : Value → World → Prop) : Prop := ∃ fid caps, f = .func (.func fid) #[] (List.toArray caps) ∧ Enters P fid ∧ Calls P fid (args ++ caps).toArray w (Ret w Φ)
section
variable {P : Program} {ty : TypeId} {ρ : Operand → Value} {w : World} {R : Value → World → Prop}
theorem OpY.callF {g : Operand} {f : Value} {args : List Operand} {ats : Array TypeId} {l : List Value} {Φ : Value → World → Prop} (hf : ρ g = f) (ha : args.map ρ = l) (hF : FunOk P f l w Φ) (h : ∀ v w', Ext w w' → Φ v w' → R v w') :
    OpY P (.call { callee := .value g, args := args.toArray, argTypes := ats }) ty ρ w R := by
  obtain ⟨fid, caps, rfl, he, hc⟩ := hF
  refine OpY.callv (fst := []) (cap := caps) (T := Ret w Φ) he hf rfl (by rw [List.nil_append, ha]; exact hc) ?_
  rintro e w' ⟨v, rfl, h1, h2⟩
  exact ⟨v, rfl, h v w' h1 h2⟩
theorem OpY.makeFunc {f : FuncId} {caps : List Operand} {vs : List Value} (hv : caps.map ρ = vs) (h : R (.func (.func f) #[] vs.toArray) w) : OpY P (.makeFunc (.func f) #[] caps.toArray) ty ρ w R := by
  have : (caps.toArray.map ρ) = vs.toArray := by rw [← hv]; simp
  simp only [OpY, bareOp, execOp, this]
  simp [Instr.makeFunc, upon]
  exact h
end

/-! ## Ways -/
section
variable {P : Program} {n : Nat} {k : List It} {Q : Env → World → Prop} {e : Env} {w : World}
theorem Swp.cond_b {c : Operand} {x y : Code} (b : Bool) (hc : ev e c = .bool b) (ht : b = true → Swp P n (.code x :: k) Q e w) (hf : ¬ b = true → Swp P n (.code y :: k) Q e w) :
    Swp P n (.code (.cond c x y) :: k) Q e w :=
  Swp.cond b hc ht fun h => hf (by rw [h]; simp)
end
end Go.X

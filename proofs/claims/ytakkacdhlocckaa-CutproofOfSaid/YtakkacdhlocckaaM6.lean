/-
  The law on what constraints say. Plain theorems.
-/
import Derived.Test.YtakkacdhlocckaaM5
import Derived.Test.YtakkacdhlocckaaM6a
namespace Go.D
open Go Go.X
theorem rSame1_refl {q : Ineq} (h1 : q.Coefs.length ≤ 9223372036854775807) (h2 : ∀ b ∈ q.Coefs, b.Digits.length ≤ 9223372036854775807) (h3 : q.Bound.Digits.length ≤ 9223372036854775807) : Tm (fun N => rSame1 N q q) (fun r => r = true) := by
  unfold rSame1
  refine Tm.bind (Q := (· = false)) (Tm.neg (by simp) (Tm.bind (rSame_refl (by omega)) ?_)) ?_
  · rintro _ rfl; exact Tm.pure rfl
  rintro _ rfl
  refine Tm.neg (by simp) (Tm.bind (Tm.each (body := fun N => rSame1_b1 N q q) q.Coefs (fun _ => True) (Q := fun r : Sum Unit Bool => r = .inl ()) h1 ?_ ?_) ?_)
  · intro n hn _
    unfold rSame1_b1
    have := h2 _ (List.getElem_mem hn)
    refine Tm.pos (by omega) (Tm.step (idx_ok hn) (Tm.step (idx_ok hn) (Tm.bind (rSame_refl (by omega)) ?_)))
    rintro _ rfl
    exact Tm.neg (by simp) (Tm.pure (.inl ⟨rfl, trivial⟩))
  · intro _
    unfold rSame1_b1
    exact Tm.neg (by omega) (Tm.pure ⟨_, rfl, rfl⟩)
  · rintro _ rfl
    exact Tm.pure rfl
def Same1 (q : Ineq) : Prop := q.Coefs.length ≤ 9223372036854775807 ∧ (∀ b ∈ q.Coefs, b.Digits.length ≤ 9223372036854775807) ∧ q.Bound.Digits.length ≤ 9223372036854775807
theorem rSames_refl {l : List Ineq} (h1 : l.length ≤ 9223372036854775807) (h2 : ∀ q ∈ l, Same1 q) : Tm (fun N => rSames N l l) (fun r => r = true) := by
  unfold rSames
  refine Tm.neg (by simp) (Tm.bind (Tm.each (body := fun N => rSames_b1 N l l) l (fun _ => True) (Q := fun r : Sum Unit Bool => r = .inl ()) h1 ?_ ?_) ?_)
  · intro n hn _
    unfold rSames_b1
    have := h2 _ (List.getElem_mem hn)
    refine Tm.pos (by omega) (Tm.step (idx_ok hn) (Tm.step (idx_ok hn) (Tm.bind (rSame1_refl this.1 this.2.1 this.2.2) ?_)))
    rintro _ rfl
    exact Tm.neg (by simp) (Tm.pure (.inl ⟨rfl, trivial⟩))
  · intro _
    unfold rSames_b1
    exact Tm.neg (by omega) (Tm.pure ⟨_, rfl, rfl⟩)
  · rintro _ rfl
    exact Tm.pure rfl
theorem IsI.same {q : Ineq} {vs : List Int} {b : Int} (h : IsI q vs b) (hv : ∀ v ∈ vs, (v.natAbs : Int) < W32 ^ 2) (hb : (b.natAbs : Int) < W32 ^ 2) (hl : vs.length ≤ 512) : OkI 512 q := by
  refine ⟨by rw [h.1.1]; exact hl, fun x hx => ?_, h.2.dg.inB, by have := h.2.len hb; omega⟩
  obtain ⟨j, hj, rfl⟩ := List.mem_iff_getElem.1 hx
  have := h.1.2 j hj (by rw [← h.1.1]; exact hj)
  exact ⟨this.dg.inB, by have := this.len (hv _ (List.getElem_mem _)); omega⟩
theorem abs64 {z : Int} (h : I64 z) : (z.natAbs : Int) < W32 ^ 2 := by unfold I64 at h; have e : W32 ^ 2 = 18446744073709551616 := (by decide); omega
theorem abs64' {z : Int} (h : I64 z) : ((-z).natAbs : Int) < W32 ^ 2 := by unfold I64 at h; have e : W32 ^ 2 = 18446744073709551616 := (by decide); omega
theorem OfP.ok {c : Constraint} {n : Int} {r : List Ineq} (hc : OkC c) (h : OfP c n r) : r.length ≤ 2 ∧ ∀ q ∈ r, OkI 512 q := by
  rcases h with ⟨_, rfl⟩ | ⟨hR, q, hq, h⟩
  · exact ⟨by simp, fun q hq => by cases hq⟩
  · have hn : (vals c n c.Linear.Coefs.length).length ≤ 512 := by rw [vals_len]; have := hR.2; omega
    have h1 : OkI 512 q := hq.same (fun v hv => abs64 (vals_I64 hc v hv)) (abs64' hc.const) hn
    rcases h with ⟨_, rfl⟩ | ⟨_, q', hq', rfl⟩
    · exact ⟨by simp, fun p hp => by simp at hp; exact hp ▸ h1⟩
    · have h2 : OkI 512 q' := hq'.same (fun v hv => by obtain ⟨u, hu, rfl⟩ := List.mem_map.1 hv; exact abs64' (vals_I64 hc u hu)) (abs64 hc.const) (by simpa using hn)
      refine ⟨by simp, fun p hp => ?_⟩
      simp only [List.mem_cons, List.not_mem_nil, or_false] at hp
      rcases hp with rfl | rfl
      · exact h1
      · exact h2
theorem OkI.same {K : Nat} {q : Ineq} (h : OkI K q) (hK : K ≤ 9223372036854775807) : Same1 q := ⟨by have := h.1; omega, fun b hb => by have := (h.2.1 b hb).2; omega, by have := h.2.2.2; omega⟩
def SysL (n : Int) : List Constraint → List Ineq → Prop
  | [], r => r = []
  | c :: l, r => ∃ a b, OfP c n a ∧ SysL n l b ∧ r = a ++ b
theorem SysL.uniq {n : Int} : ∀ {l : List Constraint} {r s : List Ineq}, SysL n l r → SysL n l s → r = s
  | [], _, _, h, h' => h.trans h'.symm
  | _ :: _, _, _, ⟨a, b, h1, h2, h3⟩, ⟨a', b', g1, g2, g3⟩ => by rw [h3, g3, h1.uniq g1, SysL.uniq h2 g2]
theorem SysL.snoc {n : Int} : ∀ {l : List Constraint} {c : Constraint} {r a : List Ineq}, SysL n l r → OfP c n a → SysL n (l ++ [c]) (r ++ a)
  | [], _, _, a, h, h' => ⟨a, [], h', rfl, by rw [show _ = [] from h]; simp⟩
  | _ :: _, _, _, _, ⟨x, y, h1, h2, h3⟩, h' => ⟨x, _, h1, h2.snoc h', by rw [h3]; simp⟩
theorem SysL.ok {n : Int} : ∀ {l : List Constraint} {r : List Ineq}, (∀ c ∈ l, OkC c) → SysL n l r → r.length ≤ 2 * l.length ∧ ∀ q ∈ r, OkI 512 q
  | [], _, _, h => by rw [show _ = [] from h]; exact ⟨by simp, fun q hq => by cases hq⟩
  | c :: l, _, hc, ⟨a, b, h1, h2, h3⟩ => by
    have e1 := h1.ok (hc c List.mem_cons_self)
    have e2 := h2.ok (fun c h => hc c (List.mem_cons_of_mem _ h))
    subst h3
    refine ⟨by simp; omega, fun q hq => ?_⟩
    rcases List.mem_append.1 hq with h | h
    · exact e1.2 q h
    · exact e2.2 q h
def SysP (l : List Constraint) (n : Int) (r : List Ineq) : Prop := ((∀ c ∈ l, RightP c n) ∧ SysL n l r) ∨ (¬ (∀ c ∈ l, RightP c n) ∧ r = [])
theorem SysP.uniq {l : List Constraint} {n : Int} {r s : List Ineq} (h : SysP l n r) (h' : SysP l n s) : r = s := by
  rcases h with ⟨h1, h2⟩ | ⟨h1, rfl⟩ <;> rcases h' with ⟨g1, g2⟩ | ⟨g1, rfl⟩
  · exact h2.uniq g2
  · exact absurd h1 g1
  · exact absurd g1 h1
  · rfl
theorem SysP.ok {l : List Constraint} {n : Int} {r : List Ineq} (hc : ∀ c ∈ l, OkC c) (h : SysP l n r) : r.length ≤ 2 * l.length ∧ ∀ q ∈ r, OkI 512 q := by
  rcases h with ⟨_, h⟩ | ⟨_, rfl⟩
  · exact h.ok hc
  · exact ⟨by simp, fun q hq => by cases hq⟩
theorem cSystem_tm {l : List Constraint} {n : Int} (hc : ∀ c ∈ l, OkC c) (hl : l.length ≤ 8) : Tm (fun N => cSystem N l n) (SysP l n) := by
  unfold cSystem
  refine Tm.bind (Tm.loop (fun s : List Ineq × Int => ∃ k : Nat, s.2 = k ∧ k ≤ l.length ∧ (∀ c ∈ l.take k, RightP c n) ∧ SysL n (l.take k) s.1) (fun s => l.length - s.2.toNat)
    (Q := fun r => SysP l n (match r with | .inl a => a | .inr a => a)) ⟨0, rfl, Nat.zero_le _, by simp, rfl⟩ ?_) (fun r h => by cases r <;> exact Tm.pure h)
  rintro ⟨out, i⟩ ⟨k, rfl, hk, hR, hS⟩
  dsimp only [cSystem_b1] at *
  refine Tm.ite (fun h1 => ?_) (fun h1 => Tm.pure ?_)
  · have hkl : k < l.length := by omega
    have hck := hc _ (List.getElem_mem hkl)
    refine Tm.step (idx_ok hkl) (Tm.bind (cvalid_tm hck.len) ?_)
    intro r hr
    refine Tm.ite (fun h => Tm.pure (.inr ⟨fun e => ?_, rfl⟩)) (fun h => Tm.bind (cOf_tm hck) ?_)
    · rw [hr.2 (e _ (List.getElem_mem hkl))] at h; cases h
    · intro a ha
      have h2 := hS.ok (fun c h => hc c (List.mem_of_mem_take h))
      have h3 := ha.ok hck
      have h4 : (l.take k).length ≤ 8 := by simp; omega
      refine Tm.step (apnd_ok (by omega) (by decide)) (Tm.pure ⟨⟨k + 1, by dsimp only; rw [iw_eq] <;> omega, by omega, ?_, ?_⟩, ?_⟩)
      · rw [List.take_succ_eq_append_getElem hkl]
        intro c hc'
        rcases List.mem_append.1 hc' with h' | h'
        · exact hR c h'
        · rw [List.mem_singleton.1 h']; exact hr.1 (by simpa using h)
      · rw [List.take_succ_eq_append_getElem hkl]; exact hS.snoc ha
      · show l.length - (iw ((k : Int) + 1)).toNat < l.length - ((k : Int)).toNat
        rw [iw_eq] <;> omega
  · rw [List.take_of_length_le (by omega)] at hR hS
    exact .inl ⟨hR, hS⟩
theorem rSystem_tm {l : List Constraint} {n : Int} (hc : ∀ c ∈ l, OkC c) (hl : l.length ≤ 8) : Tm (fun N => rSystem N l n) (SysP l n) := by
  unfold rSystem
  refine Tm.bind (Tm.loop (fun s : List Ineq × Int => ∃ k : Nat, s.2 = k ∧ k ≤ l.length ∧ (∀ c ∈ l.take k, RightP c n) ∧ SysL n (l.take k) s.1) (fun s => l.length - s.2.toNat)
    (Q := fun r => SysP l n (match r with | .inl a => a | .inr a => a)) ⟨0, rfl, Nat.zero_le _, by simp, rfl⟩ ?_) (fun r h => by cases r <;> exact Tm.pure h)
  rintro ⟨out, i⟩ ⟨k, rfl, hk, hR, hS⟩
  dsimp only [rSystem_b1] at *
  refine Tm.ite (fun h1 => ?_) (fun h1 => Tm.pure ?_)
  · have hkl : k < l.length := by omega
    have hck := hc _ (List.getElem_mem hkl)
    refine Tm.step (idx_ok hkl) (Tm.bind (rRight_tm hck.len) ?_)
    intro r hr
    refine Tm.ite (fun h => Tm.pure (.inr ⟨fun e => ?_, rfl⟩)) (fun h => Tm.step (idx_ok hkl) (Tm.bind (rIOf_tm hck) ?_))
    · rw [hr.2 (e _ (List.getElem_mem hkl))] at h; cases h
    · intro a ha
      have h2 := hS.ok (fun c h => hc c (List.mem_of_mem_take h))
      have h3 := ha.ok hck
      have h4 : (l.take k).length ≤ 8 := by simp; omega
      refine Tm.step (apnd_ok (by omega) (by decide)) (Tm.pure ⟨⟨k + 1, by dsimp only; rw [iw_eq] <;> omega, by omega, ?_, ?_⟩, ?_⟩)
      · rw [List.take_succ_eq_append_getElem hkl]
        intro c hc'
        rcases List.mem_append.1 hc' with h' | h'
        · exact hR c h'
        · rw [List.mem_singleton.1 h']; exact hr.1 (by simpa using h)
      · rw [List.take_succ_eq_append_getElem hkl]; exact hS.snoc ha
      · show l.length - (iw ((k : Int) + 1)).toNat < l.length - ((k : Int)).toNat
        rw [iw_eq] <;> omega
  · rw [List.take_of_length_le (by omega)] at hR hS
    exact .inl ⟨hR, hS⟩
theorem lawOf_tm {l : List Constraint} {n : Int} (hc : ∀ c ∈ l, OkC c) : Tm (fun N => lawOf N l n) (fun r => r = true) := by
  unfold lawOf
  refine Tm.bind (Q := fun r => r = false → l.length ≤ 8) (Tm.bind awake_tm ?_) ?_
  · rintro _ rfl
    exact Tm.neg (by simp) (Tm.pure (fun h => by have := of_decide_eq_false h; omega))
  intro r hr
  refine Tm.ite (fun h => Tm.bind awake_tm (fun _ h => Tm.pure h)) (fun h => ?_)
  have hl := hr (by simpa using h)
  refine Tm.bind (Tm.each (body := fun N => lawOf_b1 N l) l (fun _ => True) (Q := fun r : Sum Unit Bool => r = .inl () ∨ r = .inr true) (by omega) ?_ ?_) ?_
  · intro k hk _
    unfold lawOf_b1
    exact Tm.pos (by omega) (Tm.step (idx_ok hk) (Tm.ite (fun h => Tm.pure (.inr ⟨_, rfl, .inr rfl⟩)) (fun h => Tm.pure (.inl ⟨rfl, trivial⟩))))
  · intro _
    unfold lawOf_b1
    exact Tm.neg (by omega) (Tm.pure ⟨_, rfl, .inl rfl⟩)
  rintro _ (rfl | rfl)
  · refine Tm.bind (Tm.each (body := fun N => lawOf_b2 N l n) l (fun _ => True) (Q := fun r : Sum Unit Bool => r = .inl ()) (by omega) ?_ ?_) ?_
    · intro k hk _
      unfold lawOf_b2
      have hck := hc _ (List.getElem_mem hk)
      refine Tm.pos (by omega) (Tm.step (idx_ok hk) (Tm.bind (cOf_tm hck) ?_))
      intro a ha
      refine Tm.bind (rIOf_tm hck) ?_
      intro b hb
      obtain rfl := ha.uniq hb
      have := ha.ok hck
      refine Tm.bind (rSames_refl (by omega) (fun q hq => (this.2 q hq).same (by decide))) ?_
      rintro _ rfl
      exact Tm.neg (by simp) (Tm.pure (.inl ⟨rfl, trivial⟩))
    · intro _
      unfold lawOf_b2
      exact Tm.neg (by omega) (Tm.pure ⟨_, rfl, rfl⟩)
    · rintro _ rfl
      refine Tm.bind (cSystem_tm hc hl) ?_
      intro a ha
      refine Tm.bind (rSystem_tm hc hl) ?_
      intro b hb
      obtain rfl := ha.uniq hb
      have := ha.ok hc
      exact Tm.bind (rSames_refl (by omega) (fun q hq => (this.2 q hq).same (by decide))) (fun _ h => Tm.pure h)
  · exact Tm.pure rfl
end Go.D

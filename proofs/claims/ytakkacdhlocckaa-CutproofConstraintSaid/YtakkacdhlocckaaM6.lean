/-
  The law on what constraints say. Plain theorems.
-/
import Derived.Test.YtakkacdhlocckaaM5
import Derived.Test.YtakkacdhlocckaaM6a
namespace Go.D
open Go Go.X
def Same1 (q : Ineq) : Prop := q.Coefs.length ≤ 9223372036854775807 ∧ (∀ b ∈ q.Coefs, b.Digits.length ≤ 9223372036854775807) ∧ q.Bound.Digits.length ≤ 9223372036854775807
theorem IsI.same {q : Ineq} {vs : List Int} {b : Int} (h : IsI q vs b) (hv : ∀ v ∈ vs, (v.natAbs : Int) < W32 ^ 2) (hb : (b.natAbs : Int) < W32 ^ 2) (hl : vs.length ≤ 512) : OkI 512 q := by
  refine ⟨by rw [h.1.1]; exact hl, fun x hx => ?_, h.2.dg.inB, by have := h.2.len hb; omega⟩
  obtain ⟨j, hj, rfl⟩ := List.mem_iff_getElem.1 hx
  have := h.1.2 j hj (by rw [← h.1.1]; exact hj)
  exact ⟨this.dg.inB, by have := this.len (hv _ (List.getElem_mem _)); omega⟩
theorem abs64 {z : Int} (h : I64 z) : (z.natAbs : Int) < W32 ^ 2 := by unfold I64 at h; have e : W32 ^ 2 = 18446744073709551616 := (by decide); omega
theorem abs64' {z : Int} (h : I64 z) : ((-z).natAbs : Int) < W32 ^ 2 := by unfold I64 at h; have e : W32 ^ 2 = 18446744073709551616 := (by decide); omega
theorem OfP.ok {c : Constraint} {n : Int} {r : List Ineq} (hc : OkC c) (h : OfP c n r) : r.length ≤ 2 ∧ ∀ q ∈ r, OkI 512 q := by
  rcases h with ⟨_, rfl⟩ | ⟨hR, q, hq, h⟩
  · exact ⟨by simp, fun q hq => by cases hq⟩
  · have hn : (vals c n c.Linear.Coefs.length).length ≤ 512 := by rw [vals_len]; have := hR.2; omega
    have h1 : OkI 512 q := hq.same (fun v hv => abs64 (vals_I64 hc v hv)) (abs64' hc.const) hn
    rcases h with ⟨_, rfl⟩ | ⟨_, q', hq', rfl⟩
    · exact ⟨by simp, fun p hp => by simp at hp; exact hp ▸ h1⟩
    · have h2 : OkI 512 q' := hq'.same (fun v hv => by obtain ⟨u, hu, rfl⟩ := List.mem_map.1 hv; exact abs64' (vals_I64 hc u hu)) (abs64 hc.const) (by simpa using hn)
      refine ⟨by simp, fun p hp => ?_⟩
      simp only [List.mem_cons, List.not_mem_nil, or_false] at hp
      rcases hp with rfl | rfl
      · exact h1
      · exact h2
theorem OkI.same {K : Nat} {q : Ineq} (h : OkI K q) (hK : K ≤ 9223372036854775807) : Same1 q := ⟨by have := h.1; omega, fun b hb => by have := (h.2.1 b hb).2; omega, by have := h.2.2.2; omega⟩
def SysL (n : Int) : List Constraint → List Ineq → Prop
  | [], r => r = []
  | c :: l, r => ∃ a b, OfP c n a ∧ SysL n l b ∧ r = a ++ b
theorem SysL.snoc {n : Int} : ∀ {l : List Constraint} {c : Constraint} {r a : List Ineq}, SysL n l r → OfP c n a → SysL n (l ++ [c]) (r ++ a)
  | [], _, _, a, h, h' => ⟨a, [], h', rfl, by rw [show _ = [] from h]; simp⟩
  | _ :: _, _, _, _, ⟨x, y, h1, h2, h3⟩, h' => ⟨x, _, h1, h2.snoc h', by rw [h3]; simp⟩
theorem SysL.ok {n : Int} : ∀ {l : List Constraint} {r : List Ineq}, (∀ c ∈ l, OkC c) → SysL n l r → r.length ≤ 2 * l.length ∧ ∀ q ∈ r, OkI 512 q
  | [], _, _, h => by rw [show _ = [] from h]; exact ⟨by simp, fun q hq => by cases hq⟩
  | c :: l, _, hc, ⟨a, b, h1, h2, h3⟩ => by
    have e1 := h1.ok (hc c List.mem_cons_self)
    have e2 := h2.ok (fun c h => hc c (List.mem_cons_of_mem _ h))
    subst h3
    refine ⟨by simp; omega, fun q hq => ?_⟩
    rcases List.mem_append.1 hq with h | h
    · exact e1.2 q h
    · exact e2.2 q h
def SysP (l : List Constraint) (n : Int) (r : List Ineq) : Prop := ((∀ c ∈ l, RightP c n) ∧ SysL n l r) ∨ (¬ (∀ c ∈ l, RightP c n) ∧ r = [])
theorem SysP.ok {l : List Constraint} {n : Int} {r : List Ineq} (hc : ∀ c ∈ l, OkC c) (h : SysP l n r) : r.length ≤ 2 * l.length ∧ ∀ q ∈ r, OkI 512 q := by
  rcases h with ⟨_, h⟩ | ⟨_, rfl⟩
  · exact h.ok hc
  · exact ⟨by simp, fun q hq => by cases hq⟩
end Go.D

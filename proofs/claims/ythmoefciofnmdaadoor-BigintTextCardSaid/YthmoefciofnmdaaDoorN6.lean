/-
  What the program's Parse answers (chapter 02). Plain theorems.
-/
import Derived.Test.YthmoefciofnmdaaDoorN5
set_option linter.unusedSimpArgs false
set_option linter.unusedVariables false
namespace Go.D
open Go Go.X
theorem body_len (s : List UInt8) : (body s).length ≤ s.length := by
  by_cases h : s.head? = some 45
  · have := congrArg List.length (head_body h)
    simp only [List.length_cons] at this; omega
  · rw [nohead_body h]; omega
theorem body_eq {s : List UInt8} : body s = s ↔ s.head? ≠ some 45 := by
  constructor
  · intro h e
    have := congrArg List.length (head_body e)
    rw [h] at this
    simp only [List.length_cons] at this; omega
  · exact nohead_body
theorem take_dg {s : List UInt8} {k : Nat} (h : k < s.length) (h1 : ∀ c ∈ s.take k, IsDg c) (h2 : IsDg s[k]) : ∀ c ∈ s.take (k + 1), IsDg c := by
  intro c hc
  rw [List.take_succ_eq_append_getElem h] at hc
  rcases List.mem_append.1 hc with hc | hc
  · exact h1 c hc
  · rw [List.mem_singleton.1 hc]; exact h2
theorem bParse_tm {s : List UInt8} (hl : s.length ≤ 100) : Tm (fun N => bParse N s) (fun r => Parsed s r) := by
  unfold bParse
  refine Tm.step (a := body s) rfl ?_
  have hbl := body_len s
  refine Tm.bind (Q := fun x : Bool => (x = true → ¬ Good s) ∧ (x = false → body s ≠ [] ∧ ∀ c, (body s).head? = some c → c.toNat = 48 → s = [48])) (Tm.ite (fun h => Tm.pure ⟨fun _ g => g.1 h, fun h => by cases h⟩) (fun h => ?_)) ?_
  · have h0 : 0 < (body s).length := List.length_pos_iff.2 h
    have hh : (body s).head? = some (body s)[0] := by rw [List.head?_eq_getElem?]; exact List.getElem?_eq_getElem h0
    refine Tm.step (idx_i (n := 0) rfl h0) (Tm.ite (fun h1 => Tm.pure ⟨fun h2 g => ?_, fun h2 => ⟨h, fun c hc hc' => ?_⟩⟩) (fun h1 => Tm.pure ⟨fun h2 => by simp at h2, fun _ => ⟨h, fun c hc hc' => ?_⟩⟩))
    · have := g.2.2 _ hh (by omega)
      simp [this] at h2
    · simpa using h2
    · rw [hh] at hc
      simp only [Option.some.injEq] at hc
      subst hc
      exact absurd (by omega) h1
  · rintro x ⟨hx1, hx2⟩
    refine Tm.ite (fun h => Tm.pure ?_) (fun h => ?_)
    · exact ⟨fun g => absurd g (hx1 h), fun _ => rfl⟩
    · obtain ⟨hne, hz⟩ := hx2 (by simpa using h)
      refine Tm.bind (Q := fun t : Sum (List Int) (Big × Int) => match t with
          | .inl d => (∀ c ∈ body s, IsDg c) ∧ Dg W32 d (ndec (body s)) ∧ d.length ≤ 200
          | .inr z => z = (Big.mk false [], 2) ∧ ¬ ∀ c ∈ body s, IsDg c)
        (Tm.loop (fun t : List Int × Int => ∃ k : Nat, t.2 = k ∧ k ≤ (body s).length ∧ (∀ c ∈ (body s).take k, IsDg c) ∧ Dg W32 t.1 (ndec ((body s).take k)) ∧ t.1.length ≤ 2 * k) (fun t => (body s).length - t.2.toNat)
          ⟨0, rfl, by omega, by simp, Dg.nil, by simp⟩ ?_) ?_
      · rintro ⟨d, i⟩ ⟨k, rfl, hk, hdg, hd, hdl⟩
        dsimp only [bParse_b1] at *
        refine Tm.ite (fun h => ?_) (fun h => Tm.pure ?_)
        · have hk' : k < (body s).length := by omega
          refine Tm.step (idx_ok hk') ?_
          generalize hc : (body s)[k] = c at *
          refine Tm.bind (Q := fun x : Bool => (x = true ↔ ¬ IsDg c)) (Tm.ite (fun h => Tm.pure ⟨fun _ g => by unfold IsDg at g; omega, fun _ => rfl⟩) (fun h => Tm.pure ⟨fun h1 g => by unfold IsDg at g; simp at h1; omega, fun g => by unfold IsDg at g; simp; omega⟩)) ?_
          rintro x hx
          refine Tm.ite (fun h => Tm.pure ⟨rfl, fun g => hx.1 h (g c (hc ▸ List.getElem_mem hk'))⟩) (fun h => ?_)
          have hcd : IsDg c := Classical.byContradiction fun g => h (hx.2 g)
          have hcd' := hcd
          unfold IsDg at hcd'
          have h10 : InB W32 [10] := InB.cons (by decide) InB.nil
          have hcv : uw32 (uw8 ((UInt8.toNat c : Int) - 48)) = ((c.toNat - 48 : Nat) : Int) := by
            have e1 : uw8 ((UInt8.toNat c : Int) - 48) = (UInt8.toNat c : Int) - 48 := by
              show IntKind.u8.wrap _ = _
              rw [wu8]; omega
            rw [e1, uw32_mod]; omega
          refine Tm.bind (btimes_tm hd.inB h10 (by omega) (by simp)) ?_
          rintro e ⟨he1, he2, he3⟩
          simp only [List.length_cons, List.length_nil] at he3
          rw [hcv]
          have hcB : InB W32 [((c.toNat - 48 : Nat) : Int)] := InB.cons (by simp only [W32]; omega) InB.nil
          refine Tm.bind (bplus_tm he1 hcB (by omega) (by simp)) ?_
          rintro f ⟨hf1, hf2, hf3⟩
          simp only [List.length_cons, List.length_nil] at hf3
          refine Tm.bind (btrim_tm hf1 (by omega)) ?_
          rintro g ⟨hg1, hg2⟩
          refine Tm.pure ⟨⟨k + 1, ?_, hk', ?_, ?_, ?_⟩, ?_⟩
          · show iw ((k : Int) + 1) = _
            rw [iw_eq] <;> omega
          · exact take_dg hk' hdg (hc ▸ hcd)
          · rw [List.take_succ_eq_append_getElem hk', hc, ndec_snoc]
            have : val W32 f = ((10 * ndec ((body s).take k) + (c.toNat - 48) : Nat) : Int) := by
              rw [hf2, he2, hd.val]
              simp only [val]
              omega
            rw [← this]; exact hg1
          · show g.length ≤ _
            omega
          · show (body s).length - (iw ((k : Int) + 1)).toNat < (body s).length - ((k : Int)).toNat
            rw [iw_eq] <;> omega
        · have hke : k = (body s).length := by omega
          subst hke
          rw [List.take_length] at *
          exact ⟨hdg, hd, by omega⟩
      · rintro (d | z) hQ
        · obtain ⟨hdg, hd, hdl⟩ := hQ
          have hg : Good s := ⟨hne, hdg, hz⟩
          refine Tm.bind (bnormal_tm hd.inB (by omega)) ?_
          rintro y ⟨hy, _⟩
          refine Tm.pure ⟨fun _ => ⟨?_, rfl⟩, fun g => absurd hg g⟩
          rw [hd.val] at hy
          unfold sval
          by_cases hs : s.head? = some 45
          · rw [if_pos hs]
            rwa [if_pos (by simpa using fun e => body_eq.1 e hs)] at hy
          · rw [if_neg hs]
            rwa [if_neg (by simpa using body_eq.2 hs)] at hy
        · obtain ⟨rfl, hn⟩ := hQ
          exact Tm.pure ⟨fun g => absurd g.2.1 hn, fun _ => rfl⟩
end Go.D

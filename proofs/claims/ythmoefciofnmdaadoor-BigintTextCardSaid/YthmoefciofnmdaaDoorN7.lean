/-
  What the reference's Text and Parse answer, and the law BigintText (chapter 02). Plain theorems.
-/
import Derived.Test.YthmoefciofnmdaaDoorN6
set_option linter.unusedSimpArgs false
set_option linter.unusedVariables false
namespace Go.D
open Go Go.X
theorem inB10 : InB W16 [10] := InB.cons (by decide) InB.nil
theorem small16 {r : List Int} {v : Nat} (h : Dg W16 r v) (hv : v < 65536) : (v = 0 ∧ r = []) ∨ (0 < v ∧ r = [(v : Int)]) := by
  rcases Nat.eq_zero_or_pos v with h0 | h0
  · exact .inl ⟨h0, (h.zero (by decide)).2 (by omega)⟩
  · refine .inr ⟨h0, h.uniq w16_pos ⟨InB.cons (by simp only [W16]; omega) InB.nil, ?_, ?_⟩⟩
    · simp [Nrm]; omega
    · simp [val]
theorem bstr_dg {d : Nat} (h : d < 10) : bstr [uw8 (iw (48 + (d : Int)))] = [UInt8.ofNat (48 + d)] := by
  have e : uw8 (iw (48 + (d : Int))) = ((48 + d : Nat) : Int) := by
    show IntKind.u8.wrap _ = _
    rw [iw_eq (by omega) (by omega), wu8]; omega
  rw [e]; simp only [bstr, List.map_cons, List.map_nil, Int.toNat_natCast]
theorem val_8 {l : List Int} (h : InB W32 l) (hl : l.length ≤ 10) : (val W32 l).toNat < 10 ^ 97 := by
  have h1 := val_lt (B := W32) (by decide) h
  have h2 := pow_mono (B := W32) (by decide) hl
  have h3 := w32_8
  have h4 := val_nonneg (B := W32) (by decide) h
  have : ((val W32 l).toNat : Int) < ((10 ^ 97 : Nat) : Int) := by rw [Int.natCast_pow]; omega
  exact Int.ofNat_lt.1 this
theorem rText_tm {x : Big} (hd : InB W32 x.Digits) (hl : x.Digits.length ≤ 10) : Tm (fun N => rText N x) (fun r => r = txt (bv x)) := by
  unfold rText
  refine Tm.bind (halves_tm hd (by omega)) ?_
  rintro l ⟨hl1, hl2⟩
  have hV := val_8 hd hl
  have hnn := val_nonneg (B := W32) (by decide) hd
  generalize hVe : (val W32 x.Digits).toNat = V at *
  have hVi : val W32 x.Digits = (V : Int) := by omega
  have hlen := dec_len hV
  refine Tm.bind (Q := fun s : List UInt8 => s = dec V)
    (Tm.loop (fun t : List Int × List UInt8 => ∃ n : Nat, Dg W16 t.1 n ∧ t.1.length ≤ 20 ∧ dec n ++ t.2 = dec V) (fun t => (val W16 t.1).toNat)
      ⟨V, hVi ▸ hl1, by show l.length ≤ 20; omega, by simp⟩ ?_) ?_
  · rintro ⟨l, s⟩ ⟨n, hn, hln, hs⟩
    dsimp only [rText_b1] at *
    have hsl : s.length ≤ 97 := by
      have := congrArg List.length hs
      rw [List.length_append] at this; omega
    refine Tm.ite (fun h => ?_) (fun h => Tm.pure ?_)
    · have hn0 : (n : Int) ≠ 0 := (pos_len (by decide) hn).1 h
      refine Tm.bind (rsplit_tm hn.inB inB10 (by simp [Nrm]) (by decide) (by omega) (by simp)) ?_
      rintro ⟨q, r⟩ ⟨h1, h2, h3, h4⟩
      dsimp only at *
      rw [hn.val, show val W16 [10] = 10 by decide] at h1 h2
      have h1' : Dg W16 q ((n / 10 : Nat) : Int) := by
        rw [show ((n / 10 : Nat) : Int) = (n : Int) / 10 by omega]; exact h1
      have h2' : Dg W16 r ((n % 10 : Nat) : Int) := by
        rw [show ((n % 10 : Nat) : Int) = (n : Int) % 10 by omega]; exact h2
      refine Tm.bind (Q := fun d : Int => d = ((n % 10 : Nat) : Int)) (Tm.ite (fun h => ?_) (fun h => Tm.pure ?_)) ?_
      · rcases small16 h2' (by omega) with ⟨h5, rfl⟩ | ⟨h5, rfl⟩
        · simp at h
        · exact Tm.step (idx_i (n := 0) rfl (by simp)) (Tm.pure rfl)
      · rcases small16 h2' (by omega) with ⟨h5, rfl⟩ | ⟨h5, rfl⟩
        · rw [h5]; rfl
        · simp at h
      · rintro _ rfl
        rw [bstr_dg (by omega)]
        refine Tm.step (chk_ok (by simp only [List.length_cons, List.length_nil]; omega)) (Tm.pure ⟨⟨n / 10, h1', by show q.length ≤ 20; omega, ?_⟩, ?_⟩)
        · rw [← hs, dec_pos (n := n) (by omega), List.append_assoc]
        · show (val W16 q).toNat < (val W16 l).toNat
          rw [h1'.val, hn.val]; omega
    · have hn0 : n = 0 := by
        rcases Nat.eq_zero_or_pos n with h1 | h1
        · exact h1
        · exact absurd ((pos_len (by decide) hn).2 (by omega)) h
      rw [hn0, dec_zero] at hs
      exact hs
  · rintro s hs
    refine Tm.ite (fun h => Tm.pure ?_) (fun h => ?_)
    · have h0 : V = 0 := by
        rcases Nat.eq_zero_or_pos V with h1 | h1
        · exact h1
        · exact absurd (hs.symm.trans h) (dec_ne h1)
      have : bv x = 0 := by unfold bv; rw [hVi, h0]; split <;> rfl
      rw [this, txt_zero]
    · have h0 : 0 < V := by
        rcases Nat.eq_zero_or_pos V with h1 | h1
        · rw [h1, dec_zero] at hs; exact absurd hs h
        · exact h1
      refine Tm.ite (fun h => ?_) (fun h => Tm.pure ?_)
      · refine Tm.step (chk_ok (by rw [hs]; simp only [List.length_cons, List.length_nil]; omega)) (Tm.pure ?_)
        have : bv x = -(V : Int) := by unfold bv; rw [hVi, if_pos h]
        rw [this, txt_neg (by omega), show (-(V : Int)).natAbs = V by omega, hs]; rfl
      · have : bv x = (V : Int) := by unfold bv; rw [hVi, if_neg h]
        rw [this, txt_pos (by omega), Int.toNat_natCast, hs]
theorem body_take {s : List UInt8} {k : Nat} (h : k < s.length) (h1 : ¬ (k = 0 ∧ s.head? = some 45)) : body (s.take (k + 1)) = body (s.take k) ++ [s[k]] := by
  cases s with
  | nil => simp at h
  | cons c t =>
    simp only [List.length_cons] at h
    by_cases hc : c = 45
    · subst hc
      obtain ⟨j, rfl⟩ : ∃ j, k = j + 1 := ⟨k - 1, by simp at h1; omega⟩
      rw [List.take_succ_cons, List.take_succ_cons, body_cons, if_pos rfl, body_cons, if_pos rfl, List.take_succ_eq_append_getElem (by omega)]
      rfl
    · rw [List.take_succ_cons, body_cons, if_neg hc]
      cases k with
      | zero => simp [body_nil]
      | succ j =>
        rw [List.take_succ_cons, body_cons, if_neg hc, List.take_succ_eq_append_getElem (by omega)]
        rfl
theorem w16_17 : (10 : Int) ^ 80 ≤ W16 ^ 17 := by decide +kernel
theorem rParse_tm {s : List UInt8} (hl : s.length ≤ 80) : Tm (fun N => rParse N s) (fun r => Parsed s r ∧ r.1.Digits.length ≤ 10) := by
  unfold rParse
  refine Tm.bind (Q := fun x : Bool => (x = true ↔ s.head? = some 45)) (Tm.ite (fun h => ?_) (fun h => Tm.pure ⟨fun h1 => Bool.noConfusion h1, fun g => ?_⟩)) ?_
  · have h0 : 0 < s.length := by omega
    have hh : s.head? = some s[0] := by rw [List.head?_eq_getElem?]; exact List.getElem?_eq_getElem h0
    refine Tm.step (idx_i (n := 0) rfl h0) (Tm.pure ?_)
    rw [hh, decide_eq_true_iff, Option.some.injEq]
    constructor
    · intro h1
      exact UInt8.toNat_inj.1 (by show _ = 45; omega)
    · intro h1; rw [h1]; rfl
  · cases s with
    | nil => cases g
      | cons c t => simp at h
  · rintro neg hneg
    refine Tm.bind (Q := fun t : Sum (List Int) (Big × Int) => match t with
        | .inl d => (∀ c ∈ body s, IsDg c) ∧ Dg W16 d (ndec (body s)) ∧ d.length ≤ 200
        | .inr z => z = (Big.mk false [], 2) ∧ ¬ ∀ c ∈ body s, IsDg c)
      (Tm.loop (fun t : List Int × Int => ∃ k : Nat, t.2 = k ∧ k ≤ s.length ∧ (∀ c ∈ body (s.take k), IsDg c) ∧ Dg W16 t.1 (ndec (body (s.take k))) ∧ t.1.length ≤ 2 * k) (fun t => s.length - t.2.toNat)
        ⟨0, rfl, by omega, by simp [body_nil], by rw [List.take_zero, body_nil]; exact Dg.nil, by simp⟩ ?_) ?_
    · rintro ⟨d, i⟩ ⟨k, rfl, hk, hdg, hd, hdl⟩
      dsimp only [rParse_b1] at *
      refine Tm.ite (fun h => ?_) (fun h => Tm.pure ?_)
      · have hk' : k < s.length := by omega
        have hnx : iw ((k : Int) + 1) = ((k + 1 : Nat) : Int) := by rw [iw_eq] <;> omega
        have hmu : s.length - (iw ((k : Int) + 1)).toNat < s.length - ((k : Int)).toNat := by rw [hnx]; omega
        refine Tm.bind (Q := fun x : Bool => (x = true ↔ k = 0 ∧ s.head? = some 45)) (Tm.ite (fun h => Tm.pure ?_) (fun h => Tm.pure ?_)) ?_
        · rw [hneg]; exact ⟨fun g => ⟨by omega, g⟩, fun g => g.2⟩
        · exact ⟨fun g => Bool.noConfusion g, fun g => absurd (by have := g.1; omega) h⟩
        · rintro x hx
          refine Tm.ite (fun h => Tm.pure ⟨⟨k + 1, hnx, hk', ?_, ?_, by show d.length ≤ _; omega⟩, hmu⟩) (fun h => ?_)
          · have h1 := hx.1 h
            obtain ⟨rfl, h2⟩ := h1
            rw [head_body h2, List.take_succ_cons, List.take_zero, body_cons, if_pos rfl]; simp
          · have h1 := hx.1 h
            obtain ⟨rfl, h2⟩ := h1
            rw [head_body h2, List.take_succ_cons, List.take_zero, body_cons, if_pos rfl]
            rw [List.take_zero, body_nil] at hd
            exact hd
          · have hbt := body_take hk' (fun g => h (hx.2 g))
            have hmem : s[k] ∈ body s := by
              have h2 : s[k] ∈ body (s.take (k + 1)) := by rw [hbt]; simp
              have h3 : ∃ m, body (s.take (k + 1)) = (body s).take m := by
                cases s with
                | nil => simp at hk'
                | cons c t =>
                  rw [List.take_succ_cons, body_cons, body_cons]
                  split
                  · exact ⟨k, rfl⟩
                  · exact ⟨k + 1, rfl⟩
              obtain ⟨m, hm⟩ := h3
              rw [hm] at h2
              exact List.mem_of_mem_take h2
            have hix : idx s (k : Int) = some s[k] := idx_ok hk'
            generalize hc : s[k] = c at *
            refine Tm.bind (Q := fun x : Bool => (x = true ↔ ¬ IsDg c)) (Tm.step hix (Tm.ite (fun h => Tm.pure ⟨fun _ g => by unfold IsDg at g; omega, fun _ => rfl⟩) (fun h => Tm.step hix (Tm.pure ⟨fun h1 g => by unfold IsDg at g; simp at h1; omega, fun g => by unfold IsDg at g; simp; omega⟩)))) ?_
            rintro y hy
            refine Tm.ite (fun h => Tm.pure ⟨rfl, fun g => hy.1 h (g c hmem)⟩) (fun h => ?_)
            have hcd : IsDg c := Classical.byContradiction fun g => h (hy.2 g)
            have hcd' := hcd
            unfold IsDg at hcd'
            have hcv : iw ((iw (UInt8.toNat c : Int)) - 48) = ((c.toNat - 48 : Nat) : Int) := by
              rw [show iw (UInt8.toNat c : Int) = (UInt8.toNat c : Int) by rw [iw_eq] <;> omega, iw_eq] <;> omega
            refine Tm.bind (rtimes_tm hd.inB (by decide) (by decide) (by omega)) ?_
            rintro e ⟨he1, he2⟩
            refine Tm.step hix ?_
            rw [hcv]
            have hcB : InB W16 [((c.toNat - 48 : Nat) : Int)] := InB.cons (by simp only [W16]; omega) InB.nil
            refine Tm.bind (rtrim_tm hcB (by simp)) ?_
            rintro f ⟨hf1, hf2⟩
            simp only [List.length_cons, List.length_nil] at hf2
            refine Tm.bind (rplus_tm he1.inB hf1.inB (by omega) (by omega)) ?_
            rintro g ⟨hg1, hg2⟩
            refine Tm.pure ⟨⟨k + 1, hnx, hk', ?_, ?_, ?_⟩, hmu⟩
            · rw [hbt]
              intro c' hc'
              rcases List.mem_append.1 hc' with h1 | h1
              · exact hdg c' h1
              · rw [List.mem_singleton.1 h1]; exact hcd
            · rw [hbt, ndec_snoc]
              have : val W16 e + val W16 f = ((10 * ndec (body (s.take k)) + (c.toNat - 48) : Nat) : Int) := by
                rw [he1.val, hd.val, hf1.val]
                simp only [val]
                omega
              rw [← this]; exact hg1
            · show g.length ≤ _
              omega
      · have hke : k = s.length := by omega
        subst hke
        rw [List.take_length] at *
        exact ⟨hdg, hd, by omega⟩
    · rintro (d | z) hQ
      · obtain ⟨hdg, hd, hdl⟩ := hQ
        have hlt := ndec_lt hdg
        have hbl := body_len s
        have hp : (10 : Nat) ^ (body s).length ≤ 10 ^ 80 := Nat.pow_le_pow_right (by omega) (by omega)
        have hd17 : d.length ≤ 17 := by
          refine nrm_len w16_pos hd.inB hd.nrm ?_
          have h1 := w16_17
          have h2 : ((ndec (body s) : Nat) : Int) < ((10 ^ 80 : Nat) : Int) := Int.ofNat_lt.2 (by omega)
          rw [Int.natCast_pow] at h2
          rw [hd.val]; omega
        refine Tm.bind (rbig_tm hd.inB (by omega)) ?_
        rintro x ⟨hx, hxl⟩
        have hxv : Is x (sval s) := by
          rw [hd.val] at hx
          unfold sval
          by_cases hs : s.head? = some 45
          · rw [if_pos hs]
            rwa [if_pos (hneg.2 hs)] at hx
          · rw [if_neg hs]
            rwa [if_neg (fun e => hs (hneg.1 e))] at hx
        refine Tm.bind (rText_tm hxv.dg.inB (by omega)) ?_
        rintro _ rfl
        rw [hxv.bv]
        refine Tm.ite (fun h => Tm.pure ⟨⟨fun g => absurd (txt_good g) h, fun _ => rfl⟩, by simp⟩) (fun h => Tm.pure ⟨⟨fun _ => ⟨hxv, rfl⟩, fun g => absurd (good_iff.2 (Decidable.not_not.1 h)) g⟩, by show x.Digits.length ≤ 10; omega⟩)
      · obtain ⟨rfl, hn⟩ := hQ
        exact Tm.pure ⟨⟨fun g => absurd g.2.1 hn, fun _ => rfl⟩, by simp⟩
theorem rSame_nil : Tm (fun N => rSame N (Big.mk false []) (Big.mk false [])) (fun r => r = true) := rSame_refl (by simp)
theorem lawText_tm {x : Big} {s : List UInt8} (hx : InB W32 x.Digits) : Tm (fun N => lawText N x s) (fun r => r = true) := by
  unfold lawText
  refine Tm.bind (Q := fun r : Bool => r = false → x.Digits.length ≤ 8 ∧ s.length ≤ 80) (Tm.bind awake_tm ?_) ?_
  · rintro _ rfl
    refine Tm.neg (by simp) (Tm.bind (lsmall_tm (by simp)) (fun r hr => Tm.ite (fun h => Tm.pure (fun h => by cases h)) (fun h => Tm.pure (fun h1 => ?_))))
    exact ⟨hr (by simpa using h) x (by simp), by simp at h1; omega⟩
  · intro r hr
    refine Tm.ite (fun h => Tm.bind awake_tm (fun _ h => Tm.pure h)) (fun h => ?_)
    obtain ⟨lx, ls⟩ := hr (by simpa using h)
    refine cp_tm ⟨hx, lx⟩ (by decide) (Tm.bind (bFormat_tm hx (by omega)) ?_)
    rintro _ rfl
    have htl : (txt (bv x)).length ≤ 100 := by
      have h1 := val_8 hx (by omega)
      have h2 := dec_len h1
      have hnn := val_nonneg (B := W32) (by decide) hx
      have hab : (bv x).natAbs = (val W32 x.Digits).toNat := by unfold bv; split <;> omega
      rcases Int.lt_trichotomy (bv x) 0 with h | h | h
      · rw [txt_neg h, List.length_cons, hab]; omega
      · rw [h, txt_zero]; simp
      · rw [txt_pos h, show (bv x).toNat = (val W32 x.Digits).toNat by omega]; omega
    refine Tm.bind (bParse_tm htl) ?_
    rintro ⟨y, e⟩ ⟨hy, _⟩
    obtain ⟨hy1, hy2⟩ := hy (good_txt _)
    dsimp only at hy1 hy2
    rw [sval_txt] at hy1
    refine Tm.bind (bParse_tm (by omega)) ?_
    rintro ⟨z, f⟩ hz
    refine Tm.bind (rParse_tm ls) ?_
    rintro ⟨w, g⟩ ⟨hw, hwl⟩
    dsimp only at hwl
    refine Tm.bind (rText_tm hx (by omega)) ?_
    rintro _ rfl
    refine Tm.pos rfl (Tm.pos hy2 (Tm.bind (rNormal_tm hx (by omega)) ?_))
    rintro n ⟨hn, hnl⟩
    obtain rfl := hy1.uniq hn
    refine same_tm (K := 200) hy1 hy1 (by omega) (by decide) (Tm.pos rfl ?_)
    by_cases hg : Good s
    · obtain ⟨h1, h2⟩ := hz.1 hg
      obtain ⟨h3, h4⟩ := hw.1 hg
      dsimp only at h1 h2 h3 h4
      obtain rfl := h1.uniq h3
      exact Tm.pos (by show f = g; omega) (same_tm (K := 200) h1 h1 (by omega) (by decide) (Tm.pure rfl))
    · have h1 := hz.2 hg
      have h2 := hw.2 hg
      simp only [Prod.mk.injEq] at h1 h2
      obtain ⟨rfl, rfl⟩ := h1
      obtain ⟨rfl, rfl⟩ := h2
      refine Tm.pos rfl (Tm.bind rSame_nil ?_)
      rintro _ rfl
      exact Tm.pure rfl
end Go.D

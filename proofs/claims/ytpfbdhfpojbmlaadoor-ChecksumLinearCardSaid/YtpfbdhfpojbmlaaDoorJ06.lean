/-
  The law ChecksumLinear. Plain theorems.
-/
import Derived.Test.YtpfbdhfpojbmlaaDoorP06
import Derived.Test.YtpfbdhfpojbmlaaDoorM06b
import Derived.Test.YtpfbdhfpojbmlaaDoorM1
set_option linter.unusedSimpArgs false
set_option linter.unusedVariables false
namespace Go.D
open Go Go.X Go.C06
/-- three bytes -/
def Byt (x : Arr3Int) : Prop := (0 ≤ x.e0 ∧ x.e0 < 256) ∧ (0 ≤ x.e1 ∧ x.e1 < 256) ∧ (0 ≤ x.e2 ∧ x.e2 < 256)
theorem u8_nat {n : Nat} (h : n < 256) : IntKind.u8.wrap (n : Int) = (n : Int) := by rw [wu8]; omega
theorem u64_nat' {n : Nat} (h : n < 18446744073709551616) : IntKind.u64.wrap (n : Int) = (n : Int) := by rw [wu]; omega
theorem xor3 {x : Arr3Int} (h : Byt x) : bxor .u8 (bxor .u8 x.e0 x.e1) x.e2 = ((x.e0.toNat ^^^ x.e1.toNat ^^^ x.e2.toNat : Nat) : Int) := by
  obtain ⟨⟨h1, h2⟩, ⟨h3, h4⟩, ⟨h5, h6⟩⟩ := h
  obtain ⟨a, ha⟩ : ∃ a : Nat, x.e0 = a := ⟨x.e0.toNat, by omega⟩
  obtain ⟨b, hb⟩ : ∃ a : Nat, x.e1 = a := ⟨x.e1.toNat, by omega⟩
  obtain ⟨c, hc⟩ : ∃ a : Nat, x.e2 = a := ⟨x.e2.toNat, by omega⟩
  rw [ha, hb, hc, Int.toNat_natCast, Int.toNat_natCast, Int.toNat_natCast]
  have hab : a ^^^ b < 256 := Nat.xor_lt_two_pow (n := 8) (by omega) (by omega)
  rw [bxor_nat (u8_nat (by omega)) (u8_nat (by omega)), bxor_nat (u8_nat hab) (u8_nat (by omega))]
theorem ckSum_eq {N : Nat} {b : List Int} (h : ∀ x ∈ b, 0 ≤ x ∧ x < 256) (hl : b.length ≤ 1000000) : ckSum N b = some ((crcN 0 (b.map Int.toNat) : Nat) : Int) := by
  unfold ckSum; rw [if_pos ⟨h, hl⟩]
theorem ckSum_tm {b : List Int} (h : ∀ x ∈ b, 0 ≤ x ∧ x < 256) (hl : b.length ≤ 1000000) : Tm (fun N => ckSum N b) (fun r => r = ((crcN 0 (b.map Int.toNat) : Nat) : Int)) :=
  ⟨_, 0, rfl, fun N _ => ckSum_eq h hl⟩
theorem map_take {α β : Type} {l : List α} {k : Nat} (h : k < l.length) (f : α → β) : (l.take k).map f ++ [f l[k]] = (l.take (k + 1)).map f := by
  rw [List.take_succ_eq_append_getElem h, List.map_append]; rfl
theorem lawLinear_tm {l : List Arr3Int} (hb : ∀ x ∈ l, Byt x) : Tm (fun N => lawLinear N l) (fun r => r = true) := by
  unfold lawLinear
  refine Tm.bind (Q := fun r : Bool => r = false → l.length ≤ 300) (Tm.bind (Q := fun r => r = true) ⟨true, 0, rfl, fun _ _ => rfl⟩ ?_) ?_
  · rintro _ rfl
    exact Tm.neg (by simp) (Tm.pure (fun h => by simp at h; omega))
  · intro r hr
    refine Tm.ite (fun h => Tm.bind (Q := fun r => r = true) ⟨true, 0, rfl, fun _ _ => rfl⟩ (fun r h => Tm.pure h)) (fun h => ?_)
    have hl := hr (by simpa using h)
    refine Tm.bind (Q := fun t : List Int × List Int × List Int × List Int => t.1 = l.map (·.e0) ∧ t.2.1 = l.map (·.e1) ∧ t.2.2.1 = l.map (·.e2) ∧ t.2.2.2 = l.map fun x => bxor .u8 (bxor .u8 x.e0 x.e1) x.e2)
      (Tm.loop (fun t : List Int × List Int × List Int × List Int × Int => ∃ k : Nat, t.2.2.2.2 = k ∧ k ≤ l.length ∧ t.1 = (l.take k).map (·.e0) ∧ t.2.1 = (l.take k).map (·.e1) ∧ t.2.2.1 = (l.take k).map (·.e2) ∧ t.2.2.2.1 = (l.take k).map fun x => bxor .u8 (bxor .u8 x.e0 x.e1) x.e2) (fun t => l.length - t.2.2.2.2.toNat)
        ⟨0, rfl, by omega, rfl, rfl, rfl, rfl⟩ ?_) ?_
    · rintro ⟨a, b, c, d, i⟩ ⟨k, h1, hk, h2, h3, h4, h5⟩
      dsimp only at h1 h2 h3 h4 h5
      subst h1; subst h2; subst h3; subst h4; subst h5
      dsimp only [lawLinear_b1]
      refine Tm.ite (fun h => ?_) (fun h => Tm.pure ?_)
      · have hk' : k < l.length := by omega
        have hlen : ∀ f : Arr3Int → Int, ((l.take k).map f).length ≤ 300 := fun f => by rw [List.length_map, List.length_take]; omega
        refine Tm.step (idx_ok hk') ?_
        refine Tm.step (apnd_ok (by have := hlen (·.e0); simp only [List.length_cons, List.length_nil]; omega) (by decide)) ?_
        refine Tm.step (apnd_ok (by have := hlen (·.e1); simp only [List.length_cons, List.length_nil]; omega) (by decide)) ?_
        refine Tm.step (apnd_ok (by have := hlen (·.e2); simp only [List.length_cons, List.length_nil]; omega) (by decide)) ?_
        refine Tm.step (apnd_ok (by have := hlen (fun x => bxor .u8 (bxor .u8 x.e0 x.e1) x.e2); simp only [List.length_cons, List.length_nil]; omega) (by decide)) ?_
        have hnx : iw ((k : Int) + 1) = ((k + 1 : Nat) : Int) := by rw [iw_eq] <;> omega
        refine Tm.pure ⟨⟨k + 1, hnx, hk', map_take hk' (·.e0), map_take hk' (·.e1), map_take hk' (·.e2), map_take hk' (fun x => bxor .u8 (bxor .u8 x.e0 x.e1) x.e2)⟩, ?_⟩
        show l.length - (iw ((k : Int) + 1)).toNat < l.length - ((k : Int)).toNat
        rw [hnx]; omega
      · have hke : k = l.length := by omega
        subst hke
        rw [List.take_length]
        exact ⟨rfl, rfl, rfl, rfl⟩
    · rintro ⟨a, b, c, d⟩ ⟨h2, h3, h4, h5⟩
      dsimp only at h2 h3 h4 h5
      subst h2; subst h3; subst h4; subst h5
      have hd : (l.map fun x => bxor .u8 (bxor .u8 x.e0 x.e1) x.e2) = l.map fun x => ((x.e0.toNat ^^^ x.e1.toNat ^^^ x.e2.toNat : Nat) : Int) := List.map_congr_left fun x hx => xor3 (hb x hx)
      rw [hd]
      refine Tm.bind (ckSum_tm (fun y hy => ?_) (by simp; omega)) ?_
      · obtain ⟨x, hx, rfl⟩ := List.mem_map.1 hy
        obtain ⟨⟨g1, g2⟩, ⟨g3, g4⟩, ⟨g5, g6⟩⟩ := hb x hx
        have : x.e0.toNat ^^^ x.e1.toNat ^^^ x.e2.toNat < 256 := Nat.xor_lt_two_pow (n := 8) (Nat.xor_lt_two_pow (n := 8) (by omega) (by omega)) (by omega)
        omega
      rintro _ rfl
      refine Tm.bind (ckSum_tm (fun y hy => by obtain ⟨x, hx, rfl⟩ := List.mem_map.1 hy; exact (hb x hx).1) (by simp; omega)) ?_
      rintro _ rfl
      refine Tm.bind (ckSum_tm (fun y hy => by obtain ⟨x, hx, rfl⟩ := List.mem_map.1 hy; exact (hb x hx).2.1) (by simp; omega)) ?_
      rintro _ rfl
      refine Tm.bind (ckSum_tm (fun y hy => by obtain ⟨x, hx, rfl⟩ := List.mem_map.1 hy; exact (hb x hx).2.2) (by simp; omega)) ?_
      rintro _ rfl
      refine Tm.pure ?_
      have key := linear3 (l := l.map fun x => (x.e0.toNat, x.e1.toNat, x.e2.toNat)) (fun y hy => by
        obtain ⟨x, hx, rfl⟩ := List.mem_map.1 hy
        obtain ⟨⟨g1, g2⟩, ⟨g3, g4⟩, ⟨g5, g6⟩⟩ := hb x hx
        exact ⟨by show x.e0.toNat < 256; omega, by show x.e1.toNat < 256; omega, by show x.e2.toNat < 256; omega⟩)
      simp only [List.map_map] at key ⊢
      have e0 : (Int.toNat ∘ fun x : Arr3Int => ((x.e0.toNat ^^^ x.e1.toNat ^^^ x.e2.toNat : Nat) : Int)) = fun x => x.e0.toNat ^^^ x.e1.toNat ^^^ x.e2.toNat := by funext x; simp
      rw [e0]
      have hx1 : ∀ s : List Nat, crcN 0 s < 18446744073709551616 := fun s => crcN_lt 0 s
      rw [bxor_nat (u64_nat' (hx1 _)) (u64_nat' (hx1 _)), bxor_nat (u64_nat' (Nat.xor_lt_two_pow (n := 64) (hx1 _) (hx1 _))) (u64_nat' (hx1 _))]
      rw [decide_eq_true_iff]
      exact congrArg Int.ofNat key
end Go.D

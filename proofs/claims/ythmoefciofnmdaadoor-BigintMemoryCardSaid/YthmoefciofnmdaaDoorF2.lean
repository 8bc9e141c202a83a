/- The library functions that chapter 02 calls, as contracts over the plain counterparts: FormatUint, Repeat, TrimPrefix, Join, Reverse. -/
import Derived.Test.YthmoefciofnmdaaDoorF1
import Derived.Test.YthmoefciofnmdaaDoorFD
import Derived.Test.YthmoefciofnmdaaDoorZ7
set_option linter.unusedSimpArgs false
set_option linter.unusedVariables false
namespace Go.X
open Go Go.RowKit Go.Sort Go.Lib Go.Proofs
theorem Els.strs {H : Hp} : ∀ {cs : List Value} {xs : List (List UInt8)}, Els rStr H cs xs → cs = xs.map (fun x => Value.string (s8 x))
  | _, [], h => h
  | _, x :: xs, ⟨a, b, h1, h2, h3⟩ => by rw [h1, show a = [.string (s8 x)] from h2, h3.strs]; rfl
theorem Els.ofStrs {H : Hp} : ∀ (xs : List (List UInt8)), Els rStr H (xs.map (fun x => Value.string (s8 x))) xs
  | [] => rfl
  | x :: xs => ⟨[.string (s8 x)], _, rfl, rfl, Els.ofStrs xs⟩
theorem ext_grow (w : World) (k : Nat) (os : Array Obj) : Ext w (grow (w.drewN k) os) :=
  ⟨rfl, rfl, rfl, by simp [grow, World.drewN], fun g hg => Lib.heap_grow_old w k os g hg⟩
def G (w : World) : Prop := ∀ w', Ext w w' → Lib.TabIs Tryd.prog w' "internal/strconv.uint64pow10" .u64 Lib.pow10Tab
theorem G.ext {w w' : World} (h : G w) (hE : Ext w w') : G w' := fun w2 h2 => h w2 (hE.trans h2)
theorem putCells_own {xs ys : List (List UInt8)} {sp : List Value} (hl : ys.length = xs.length) :
    putCells encStr 0 ys.toArray ((xs.map (fun x => Value.string (s8 x)) ++ sp).toArray) = (ys.map (fun x => Value.string (s8 x)) ++ sp).toArray := by
  apply Array.ext_getElem?
  intro k
  simp only [putCells, Array.getElem?_mapIdx, List.getElem?_toArray, Nat.zero_le, true_and, Nat.zero_add, Nat.sub_zero, List.size_toArray]
  rcases Nat.lt_or_ge k ys.length with h | h
  · rw [List.getElem?_append_left (by simp; omega), List.getElem?_append_left (by simpa using h)]
    have h2 : k < xs.length := by omega
    simp only [List.getElem?_map, List.getElem?_eq_getElem h2, List.getElem?_eq_getElem h, Option.map_some, if_pos h, Option.some.injEq]
    rw [getElem!_pos _ k (by simpa using h)]
    simp [encStr, s8]
  · rw [List.getElem?_append_right (by simp; omega), List.getElem?_append_right (by simpa using h)]
    simp only [List.length_map, hl]
    cases hs : sp[k - xs.length]? with
    | none => rfl
    | some v => simp only [Option.map_some]; rw [if_neg (by omega)]
section
variable {ty : TypeId} {ρ : Operand → Value} {w w0 : World} {R : Value → World → Prop} {X : List (Option Nat)} {O : List (Option Nat)} {C : List Cont} {H : Hp}
theorem OpY.revRow {args : List Operand} {ats : Array TypeId} {n cap i : Nat} {ob : Option Nat} {cs sp : List Value} {xs Y : List (List UInt8)} (he : Enters Tryd.prog 57)
    (hf : ρ (.func 57) = .func (.func 57) #[] #[]) (ha : args.map ρ = [osv ob 0 n cap])
    (hL : Loc X [] w0 w O C) (hO : O[i]? = some ob) (hC : C[i]? = some (.cells ([] ++ (cs ++ sp)))) (hE : Els rStr H cs xs) (hn : n = xs.length) (hs : xs.length ≤ 9223372036854775807) (hY : Y = xs.reverse)
    (h : ∀ w' cs', Loc X [] w0 w' O (C.set i (.cells ([] ++ (cs' ++ sp)))) → Step O O w w' → Els rStr H cs' Y → cs'.length = cs.length → R (.tuple #[]) w') :
    OpY Tryd.prog (.call { callee := .value (.func 57), args := args.toArray, argTypes := ats }) ty ρ w R := by
  subst hn hY
  have hcs := hE.strs
  have hown := hL.at i hO hC
  cases ob with
  | none =>
    have h0 : [] ++ (cs ++ sp) = [] := hown
    have hcs0 : cs = [] := by simp at h0; exact h0.1
    have hx0 : xs = [] := by rw [hcs0] at hcs; cases xs with | nil => rfl | cons _ _ => cases hcs
    subst hx0
    refine OpY.callg he hf ha (Tryd.slices_Reverse_string_empty none 0 w) ?_
    rintro e w' ⟨rfl, rfl⟩
    refine ⟨_, rfl, h w' cs ?_ Step.refl ?_ rfl⟩
    · rw [set_same hC]; exact hL
    · rw [hcs0]; exact Els.nil
  | some b =>
    have hH : Holds encStr w b 0 xs.toArray := by
      intro j hj
      have hj' : j < xs.length := by simpa using hj
      have hcell : ([] ++ (cs ++ sp))[0 + j]? = some (Value.string (s8 xs[j])) := by
        rw [List.nil_append, hcs, Nat.zero_add, List.getElem?_append_left (by simpa using hj'), List.getElem?_map, List.getElem?_eq_getElem hj']; rfl
      refine ⟨?_, ?_⟩
      · rw [cell_own hown hcell, getElem!_pos _ j hj]; rfl
      · obtain ⟨t, lo, hi, h1, h2, h3⟩ := hown
        have := h3 (0 + j) (by rcases Nat.lt_or_ge (0 + j) ([] ++ (cs ++ sp)).length with h | h; · exact h
                               · rw [List.getElem?_eq_none h] at hcell; cases hcell)
        simp [World.frozen?, h1]; omega
    refine OpY.callg he hf ha (Tryd.slices_Reverse_string b 0 cap xs w hH hs) ?_
    rintro e w' ⟨rfl, n, rfl⟩
    obtain ⟨t, lo, hi, h1, h2, h3⟩ := hown
    have hlen : (xs.reverse.map (fun x => Value.string (s8 x)) ++ sp).length = (cs ++ sp).length := by rw [hcs]; simp
    have hp := hL.put (w' := putRow encStr (Sort.ahead w n) b 0 xs.reverse.toArray) i hO (c' := .cells ([] ++ (xs.reverse.map (fun x => Value.string (s8 x)) ++ sp)))
      ⟨t, lo, hi, by
        simp only [putRow, mapBlock, Sort.ahead, Array.getElem?_modify, if_true, h1, Option.map_some, onCells, List.nil_append]
        rw [hcs, putCells_own (by simp)], h2, fun j hj => h3 j (by rw [List.nil_append] at hj ⊢; rw [← hlen]; exact hj)⟩
      (fun k hk => by simp [putRow, mapBlock, Sort.ahead, Array.getElem?_modify, Ne.symm hk]) (by simp [putRow, mapBlock, Sort.ahead]) rfl rfl rfl
    exact ⟨_, rfl, h _ _ hp.1 hp.2 (Els.ofStrs _) (by rw [hcs]; simp)⟩
end
end Go.X
namespace Go.Proofs.YthmoefciofnmdaaDoor.WF
open Go Go.X Go.D Go.Lib Go.Proofs Go.Proofs.YthmoefciofnmdaaDoor.F
theorem formatUint_w (N : Nat) (i b : Int) (w : World) (S : Nat → Prop) (hG : G w) (r : List UInt8) (h : formatUint N i b = some r) :
    Calls Tryd.prog 55 #[.int .u64 i, .int .i64 b] w (Ret w (fun v w' => Value.string (s8 r) = v ∧ True)) := by
  unfold formatUint at h; split at h
  · rename_i hc
    obtain ⟨h0, h1, rfl⟩ := hc
    obtain ⟨u, rfl⟩ := Int.eq_ofNat_of_zero_le h0
    cases h
    refine (fmtUint u (by omega) w (hG w (Ext.refl _))).mono ?_
    rintro e w' ⟨rfl, k, os, rfl⟩
    exact ⟨_, rfl, ext_grow w k os, rfl, trivial⟩
  · cases h
theorem repeatStr_w (N : Nat) (s : List UInt8) (c : Int) (w : World) (S : Nat → Prop) (r : List UInt8) (h : repeatStr N s c = some r) :
    Calls Tryd.prog 56 #[.string (s8 s), .int .i64 c] w (Ret w (fun v w' => Value.string (s8 r) = v ∧ True)) := by
  unfold repeatStr at h; split at h
  · rename_i hc
    obtain ⟨h0, h1, h2⟩ := hc
    obtain ⟨u, rfl⟩ := Int.eq_ofNat_of_zero_le h0
    cases h
    refine (Tryd.strings_Repeat (s8 s) u w (by omega) (by rw [s8_size]; exact Int.ofNat_le.1 (by rw [Int.natCast_mul]; exact h2))).mono ?_
    rintro e w' ⟨rfl, hB⟩
    exact ⟨_, rfl, hB, rfl, trivial⟩
  · cases h
theorem trimPre_w (N : Nat) (s p : List UInt8) (w : World) (S : Nat → Prop) (r : List UInt8) (h : trimPre N s p = some r) :
    Calls Tryd.prog 59 #[.string (s8 s), .string (s8 p)] w (Ret w (fun v w' => Value.string (s8 r) = v ∧ True)) := by
  cases h
  refine (Tryd.strings_TrimPrefix (s8 s) (s8 p) w).mono ?_
  rintro e w' ⟨rfl, rfl⟩
  exact ⟨_, rfl, Ext.refl _, rfl, trivial⟩
theorem joinStr_w (N : Nat) (xs : List (List UInt8)) (s : List UInt8) (xs_v : Value) (w : World) (S : Nat → Prop) (xs_h : Rs rStr (Hv w.heap.size S [] w) xs_v xs) (r : List UInt8) (h : joinStr N xs s = some r) :
    Calls Tryd.prog 58 #[xs_v, .string (s8 s)] w (Ret w (fun v w' => Value.string (s8 r) = v ∧ True)) := by
  unfold joinStr at h; split at h
  · rename_i hc
    obtain ⟨h0, h1⟩ := hc
    cases h
    have hx : ∀ l : List (List UInt8), (l.map s8).map (·.data.toList) = l := fun l => by rw [List.map_map]; exact (List.map_congr_left fun x _ => by simp [s8]).trans (List.map_id l)
    have hj0 : Calls Tryd.prog 58 #[xs_v, .string (s8 s)] w fun e w' => e = .returned (.string (s8 (Lib.join xs s))) ∧ Ext w w' := by
      rcases xs_h with ⟨⟨oa, rfl⟩, rfl⟩ | ⟨b, o, cap, rfl, hcap, hxs⟩
      · refine (Tryd.strings_Join_none oa 0 (s8 s) w).mono ?_
        rintro e w' ⟨rfl, rfl⟩
        exact ⟨by simp [Lib.join, s8], Ext.refl _⟩
      · have hcell : ∀ (j : Nat) x, (xs.map s8)[j]? = some x → w.cell? ⟨b, o + j, none⟩ = some (.string x) := by
          intro j x hj
          rw [List.getElem?_map] at hj
          cases hx1 : xs[j]? with
          | none => rw [hx1] at hj; cases hj
          | some y =>
            rw [hx1] at hj; cases hj
            obtain ⟨vs, -, hA, hv⟩ := hxs j y hx1
            have hv' : vs = [.string (s8 y)] := hv
            have h3 := hA.get 0 (v := .string (s8 y)) (by rw [hv']; rfl)
            have h4 := cellH_view (A := []) (cellH_le Hv.view h3)
            rw [show o + j * rStr.sz + 0 = o + j from by show o + j * 1 + 0 = o + j; omega] at h4
            exact h4
        cases xs with
        | nil =>
          refine (Tryd.strings_Join_none (some ⟨b, o, none⟩) cap (s8 s) w).mono ?_
          rintro e w' ⟨rfl, rfl⟩
          exact ⟨by simp [Lib.join, s8], Ext.refl _⟩
        | cons y ys =>
          have hb : b < w.heap.size := by
            have h5 := hcell 0 (s8 y) rfl
            rcases Nat.lt_or_ge b w.heap.size with h6 | h6
            · exact h6
            · simp [World.cell?, Array.getElem?_eq_none h6] at h5
          have h7 := Tryd.strings_Join b o cap ((y :: ys).map s8) (s8 s) w hcell hb (by simpa using h0) (by simpa using hcap) (by rw [hx]; exact h1)
          rw [hx, List.length_map] at h7
          exact h7
    exact hj0.mono fun e w' ⟨he, hE⟩ => ⟨_, he, hE, rfl, trivial⟩
  · cases h
end Go.Proofs.YthmoefciofnmdaaDoor.WF

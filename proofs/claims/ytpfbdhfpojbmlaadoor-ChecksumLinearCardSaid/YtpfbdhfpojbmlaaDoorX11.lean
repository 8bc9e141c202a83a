/- The closing step: from the reading of the arguments to a contract's facts, and from the contract to the statement's demand. -/
import Derived.Test.YtpfbdhfpojbmlaaDoorX10
import Derived.Carry
import Derived.ChangeSame
import Derived.ChangeSlices
import Derived.OpenShut
import Derived.WalkKit
import Derived.ProofKit
import Derived.Deep.DeepHandedRow
import Derived.Lib.LaidTab
set_option linter.unusedSimpArgs false
set_option linter.unusedVariables false
namespace Go.X
open Go.ChangeShapes Go.WideShapes Go.ChangeAt Go.RowKit
section
variable {H : Type} {enc : TypeId × Value → H} {P : Program} {W : World}

theorem cellH_cell {w : World} {b o : Nat} {v : Value} (h : w.cell? ⟨b, o, none⟩ = some v) : cellH (view [] w) b o = some v := by
  unfold World.cell? at h
  unfold cellH view
  simp only [List.not_mem_nil, if_false]
  cases hb : w.heap[b]? with
  | none => rw [hb] at h; cases h
  | some x =>
    rw [hb] at h
    cases x <;> simp_all

theorem open_nats {t e : TypeId} {k : IntKind} {L : Nat} {v : Value} {d : DataW H} {ps : List MemPlace} (ht : P.underlying t = some (.slice e)) (he : P.underlying e = some (.int k)) (hc : P.cellsOf e = 1)
    (hk : ∀ n : Int, (Lit.int k n).wf = true → 0 ≤ n ∧ n < (L : Int)) {r : Reach} {base : Nat} (hval : Value.okWide P W r base t v) (h : DataW.Trod enc P W 0 (fun _ => true) true t v d ps) :
    ∃ xs : List Nat, Ints k (view [] W) v xs ∧ ∀ x ∈ xs, x < L := by
  obtain ⟨n, hn⟩ := h
  have hv1 : ∀ (x : Value) cs, x.cells.toList = cs → (∃ a l c, cs = [.slice a l c]) → x = .slice none 0 0 ∨ True := fun _ _ _ _ => .inr trivial
  rcases open_ints ht he hc hn with ⟨h1, _⟩ | ⟨a, len, cap, zs, h1, _, hlc, _, hzl, _, hz, hwf⟩
  · refine ⟨[], .inl ⟨?_, rfl⟩, fun _ hx => by cases hx⟩
    cases v <;> simp_all [Value.cells, Value.okWide, Cell.okWide, Cell.ok]
  · have hvv : v = .slice (some a) len cap := by
      cases v <;> simp_all [Value.cells, Value.okWide, Cell.okWide, Cell.ok]
    subst hvv
    have hsp : a.spot = none := by
      simp only [Value.okWide, ht, Cell.okWide, Cell.ok] at hval
      exact hval.2.2.2.1
    obtain ⟨b, o, s⟩ := a
    cases hsp
    simp only [if_true] at hzl
    have hl : ((zs.take len).map Int.toNat).length = len := by simp; omega
    refine ⟨(zs.take len).map Int.toNat, .inr ⟨b, o, cap, by rw [hl], by omega, fun i x hi => ⟨[.int k (x : Nat)], rfl, ?_, rfl⟩⟩, fun x hx => ?_⟩
    · intro j hj
      have hj0 : j = 0 := by simpa using hj
      subst hj0
      rw [List.getElem?_map, List.getElem?_take] at hi
      split at hi
      · rename_i hil
        have hiz : i < zs.length := by omega
        rw [List.getElem?_eq_getElem hiz] at hi
        have hx : x = (zs[i]).toNat := by simpa using hi.symm
        have h0 := hk _ (hwf _ (List.getElem_mem hiz))
        have hcell := hz i hiz
        rw [show zs.getD i 0 = zs[i] by simp [List.getD_eq_getElem?_getD, hiz]] at hcell
        have hadd : (⟨b, o, none⟩ : Addr).add i = ⟨b, o + i, none⟩ := by unfold Addr.add; split <;> simp_all
        rw [hadd] at hcell
        have := cellH_cell hcell
        simp only [Nat.mul_one, Nat.add_zero, List.getElem?_cons_zero]
        rw [this, hx, Int.toNat_of_nonneg h0.1]
      · cases hi
    · obtain ⟨z, hz1, rfl⟩ := List.mem_map.1 hx
      have h0 := hk _ (hwf _ (List.mem_of_mem_take hz1))
      omega
theorem wf_u8 (n : Int) (h : (Lit.int .u8 n).wf = true) : 0 ≤ n ∧ n < ((256 : Nat) : Int) := by have := bounds_u8 h; omega
theorem wf_u64 (n : Int) (h : (Lit.int .u64 n).wf = true) : 0 ≤ n ∧ n < ((18446744073709551616 : Nat) : Int) := by have := bounds_u64 h; omega
theorem wf_u16 (n : Int) (h : (Lit.int .u16 n).wf = true) : 0 ≤ n ∧ n < ((65536 : Nat) : Int) := by have := bounds_u16 h; omega
theorem wf_u32 (n : Int) (h : (Lit.int .u32 n).wf = true) : 0 ≤ n ∧ n < ((4294967296 : Nat) : Int) := by have := bounds_u32 h; omega
theorem open_nat {t : TypeId} {k : IntKind} {L : Nat} {v : Value} {d : DataW H} {ps : List MemPlace} (ht : P.underlying t = some (.int k)) (hk : ∀ n : Int, (Lit.int k n).wf = true → 0 ≤ n ∧ n < (L : Int)) {r : Reach} {base : Nat} (hval : Value.okWide P W r base t v)
    (h : DataW.Trod enc P W 0 (fun _ => true) true t v d ps) : ∃ n : Nat, v = .int k (n : Int) ∧ n < L := by
  obtain ⟨n, hn⟩ := open_int ht hval h
  have hv : v = .int k n := hn.1
  have h0 := hk n hn.2.2.2
  exact ⟨n.toNat, by rw [hv, Int.toNat_of_nonneg h0.1], by omega⟩

/-- What the arguments read as, they read as behind a call that changes nothing. -/
theorem args_stay {W' : World} (hl : laidOutB P = true) (hE : Ext W W') {sp : Nat → Bool} :
    ∀ {ts : List TypeId} {vs : List Value} {ds : List (DataW H)} {p : List MemPlace}, (∀ t ∈ ts, P.readableRec t = true ∧ t < P.types.size) → (∀ x ∈ p, x.block < W.heap.size) → (∀ x ∈ p, sp x.block = true) →
      DataW.TrodAll enc P W 0 (fun _ => true) true ts vs ds p → DataW.TrodAll enc P W' 0 sp true ts vs ds p
  | [], _, _, _, _, _, _, h => by
    obtain ⟨rfl, rfl, rfl⟩ := trodAll_nil h
    exact trodAll_mk0
  | t :: ts, vs, ds, p, hr, hlt, hsp, h => by
    obtain ⟨v, vs1, d, ds1, a, b, rfl, rfl, rfl, h1, h2⟩ := trodAll_cons h
    have hrt := hr t List.mem_cons_self
    exact trodAll_cons_mk (WideElems.Trod_stays hl hrt.1 hrt.2 h1 (fun x hx => hE.same (hlt x (List.mem_append_left _ hx))) (fun x hx => hsp x (List.mem_append_left _ hx)))
      (args_stay hl hE (fun u hu => hr u (List.mem_cons_of_mem _ hu)) (fun x hx => hlt x (List.mem_append_right _ hx)) (fun x hx => hsp x (List.mem_append_right _ hx)) h2)

/-- The statement's demand of a law that returns true and changes nothing. -/
theorem post_true {f : Func} {s : ChangeSpec} {apart fresh handsOn again : Bool} {W' : World} {args : Array Value} {ds gs : List (DataW H)} {before : List MemPlace} {tb : TypeId}
    (hl : laidOutB P = true) (hr : ∀ t ∈ f.params.toList, P.readableRec t = true ∧ t < P.types.size) (hv : s.vars = []) (hrt : f.resultTypes = #[tb]) (htb : P.underlying tb = some .bool)
    (hW : DataW.Whole enc P f.params.toList s.vars apart W args.toList ds gs before) (hs : s.fn H (ds ++ gs) = { results := [.lit (.bool true)], args := ds }) (hE : Ext W W') :
    s.post enc P f apart fresh handsOn again W args (.bool true) W' := by
  have hlt := hW.lt
  have hW' := hW
  obtain ⟨p, q, hA, hV, rfl, hz, hn⟩ := hW
  rw [hv] at hV
  obtain ⟨rfl, rfl⟩ := trodVars_none hV
  simp only [List.append_nil] at *
  have hargs : ∀ sp : Nat → Bool, (∀ x ∈ p, sp x.block = true) → DataW.TrodAll enc P W' 0 sp true f.params.toList args.toList (s.fn H ds).args p := fun sp hsp => by
    rw [hs]; exact args_stay hl hE hr hlt hsp hA
  have hvars : ∀ sp : Nat → Bool, DataW.TrodVars enc P W' sp s.vars (s.fn H ds).vars [] := fun sp => by rw [hs, hv]; rfl
  have hres : ∀ (b : Nat) (sp : Nat → Bool) (hd : Bool), DataW.TrodAll enc P W' b sp hd f.resultTypes.toList ((Value.bool true).resultList f.resultTypes.size) (s.fn H ds).results [] := fun b sp hd => by
    rw [hs, hrt]
    exact trodAll_cons_mk (shut_bool htb _) trodAll_mk0
  have hok := ok_one (P := P) (W' := W') (f := f) (v := .bool true) hrt rfl (okWide_bool_mk htb _)
  refine ⟨ds, [], p, [], p, [], by simpa using hW', by simpa using hres _ _ _, by simpa using hargs _ (fun x hx => by simpa using hlt x hx), by simpa using hvars _, hE.frame _, fun _ => ?_⟩
  refine ⟨hok, _, _, ([] ++ p) ++ [], ⟨[] ++ p, [], trodAll_append (by simpa using hargs _ (fun _ _ => rfl)) (by simpa using hres _ _ _), by simpa using hvars _, rfl, ?_, ?_⟩, ?_⟩
  · intro b off hp
    have hp' : MemPlace.cell b off ∈ p := by simpa using hp
    have hlb := hlt _ hp'
    have := hz b off hp'
    have hb := hE.block b (show b < W.heap.size from hlb)
    simp only [World.frozen?, hb] at this ⊢
    exact this
  · intro ha; simpa using hn ha
  · intro x hx _; simpa using hx
end
end Go.X

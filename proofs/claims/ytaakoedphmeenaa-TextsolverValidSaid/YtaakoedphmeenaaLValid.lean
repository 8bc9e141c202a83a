/- Proved here: the statement of TextsolverValid: for every input the law returns true, and its arguments read afterwards as before. -/
import Derived.Test.YtaakoedphmeenaaQ22
import Derived.Test.YtaakoedphmeenaaN1
import Derived.Test.YtaakoedphmeenaaWLValid
import Derived.Test.YtaakoedphmeenaaRows
open Go
open Go.X Go.ChangeShapes Go.WideShapes Go.ChangeAt Go.RowKit Go.D
set_option maxRecDepth 100000
namespace Go.Proofs.Ytaakoedphmeenaa.textsolverValid
open Q22 WL
theorem own : ownKnob Try.prog.godebug = none := by kernel_rfl
theorem laidOut : laidOutB Try.prog = true := by kernel_rfl
theorem slice_w {t e : TypeId} {n : Nat} {α : Type} {r : Rep α} {H : Type} {enc : TypeId × Value → H} {W : World} {fuel : Nat} {cs : List Value} {x : DataW H × List MemPlace} {v : Value} {xs : List α} (ht : Try.prog.underlying t = some (.slice e)) (hb : Try.prog.bytesOf e = n) (h : DataW.trod enc Try.prog W 0 (fun _ => true) true fuel t cs = some x) (hc : cs = [v]) (hR : Rs r (HW W) v xs) (hw : (x.1.weights Try.prog t).all (· ≤ reachBytes) = true) : xs.length * n ≤ 140737488351232 := by
  rcases DataW.trod_slice ht h with ⟨g1, g2⟩ | ⟨a, len, cap, elems, rest, m, hn, g1, g2, hbb, hl, hm, hlen, hel, hsp, hns⟩
  · have : v = .slice none 0 0 := by rw [hc] at g1; exact (List.cons.inj g1).1
    subst this
    rcases hR with ⟨_, rfl⟩ | ⟨b, o, cap, hv, _⟩
    · simp
    · cases hv
  · have : v = .slice (some a) len cap := by rw [hc] at g1; exact (List.cons.inj g1).1
    subst this
    have hx : xs.length ≤ len := by
      rcases hR with ⟨_, rfl⟩ | ⟨b, o, cap, hv, _⟩
      · simp
      · cases hv; exact Nat.le_refl _
    rw [g2] at hw
    unfold DataW.weights at hw
    rw [ht] at hw
    simp only [List.all_cons, Bool.and_eq_true, decide_eq_true_eq, hb] at hw
    have h1 := hw.1
    simp only [reachBytes, List.length_map] at h1
    have h2 : xs.length * n ≤ elems.length * n := Nat.mul_le_mul_right _ (by omega)
    have h3 : elems.length * n ≤ (elems.length + rest.length) * n := Nat.mul_le_mul_right _ (by omega)
    first | omega | (have := h1; simp at this; omega)
theorem contract (H : Type) (enc : TypeId × Value → H) (W : World) (base : Nat) (args : Array Value) (ds gs : List (DataW H)) (before : List MemPlace)
    (hval : ∀ (j : Nat) t v, Try.f10.params[j]? = some t → args[j]? = some v → Value.okWide Try.prog W .any base t v)
    (hW : DataW.Whole enc Try.prog Try.f10.params.toList Rows.textsolverValidSpec.vars Rows.textsolverValidRow.apart W args.toList ds gs before) (hw : (DataW.weightsEach Try.prog (Try.f10.params.toList ++ (OpenSpec.ofChange Rows.textsolverValidSpec).bare.plain.varTypes Try.prog) (ds ++ gs)).all (· ≤ reachBytes) = true) :
    Calls Try.prog 10 args W fun e W' => ∃ v, e = .returned v ∧ Rows.textsolverValidSpec.post enc Try.prog Try.f10 Rows.textsolverValidRow.apart true false false W args v W' := by
  have hW' := hW
  obtain ⟨p, q, hA0, hV, rfl, hfz, hnd⟩ := hW
  have hA : DataW.TrodAll enc Try.prog W 0 (fun _ => true) true Try.f10.params.toList args.toList ds p := hA0
  rw [Try.params10] at hA hval
  obtain ⟨v0, vs0, d0, ds0, p0, q0, ha0, rfl, rfl, h0, r0⟩ := trodAll_cons hA
  obtain ⟨rfl, rfl, rfl⟩ := trodAll_nil r0
  obtain rfl : args = #[v0] := by cases args; simp_all
  obtain ⟨rfl, rfl⟩ := trodVars_none hV
  obtain ⟨cs0, x0, rfl, R0, g0⟩ := open_struct Try.underlying26 o26 (hval 0 26 v0 rfl rfl) h0
  obtain ⟨u0_0, u0_1, u0_2, u0_3, u0_4, rfl, k0_0, k0_1, k0_2, k0_3, k0_4, -⟩ := R0
  have hw1 : Lw x0 := by
    rw [Try.params10] at hw
    have hw2 := (weights_cons (P := Try.prog) (t := 26) (ts := []) (d := d0) (r := []) hw).1
    obtain ⟨fu, hfu⟩ := h0
    obtain ⟨_, m, _, es, e1, e2, e3⟩ := trod_fieldsT Try.underlying26 hfu
    have e1 : d0 = .agg es := e1
    rw [e1] at hw2
    match es, e2, e3 with
    | [y0, y1, y2, y3, y4], _, e3 =>
      unfold DataW.weights at hw2
      rw [Try.underlying26] at hw2
      obtain ⟨w0, a0⟩ := weights_cons hw2
      obtain ⟨w1, a1⟩ := weights_cons a0
      obtain ⟨w2, a2⟩ := weights_cons a1
      obtain ⟨w3, a3⟩ := weights_cons a2
      obtain ⟨w4, a4⟩ := weights_cons a3
      obtain ⟨z0, f0, g0⟩ := e3 0 _ rfl
      have b0 := slice_w (n := 8) Try.underlying22 (by kernel_rfl) f0 rfl k0_0 (by have := Option.some.inj g0; rw [← this]; exact w0)
      obtain ⟨z1, f1, g1⟩ := e3 1 _ rfl
      have b1 := slice_w (n := 8) Try.underlying22 (by kernel_rfl) f1 rfl k0_1 (by have := Option.some.inj g1; rw [← this]; exact w1)
      obtain ⟨z2, f2, g2⟩ := e3 2 _ rfl
      have b2 := slice_w (n := 40) Try.underlying23 (by kernel_rfl) f2 rfl k0_2 (by have := Option.some.inj g2; rw [← this]; exact w2)
      obtain ⟨z3, f3, g3⟩ := e3 3 _ rfl
      have b3 := slice_w (n := 16) Try.underlying24 (by kernel_rfl) f3 rfl k0_3 (by have := Option.some.inj g3; rw [← this]; exact w3)
      obtain ⟨z4, f4, g4⟩ := e3 4 _ rfl
      have b4 := slice_w (n := 16) Try.underlying24 (by kernel_rfl) f4 rfl k0_4 (by have := Option.some.inj g4; rw [← this]; exact w4)
      exact ⟨by omega, by omega, by omega, by omega, by omega⟩
  clear hA0
  obtain ⟨N, r, hr, hr1⟩ := (lawValid_tm (p := x0) (lim_of g0) hw1).get
  subst hr1
  refine (lawValid_w N x0 _ _ _ _ _ W (fun _ => True) k0_0 k0_1 k0_2 k0_3 k0_4 true hr).mono fun e W' ⟨v, he, hE, hv, _⟩ => ?_
  subst he; subst hv
  exact ⟨_, rfl, post_true laidOut (by rw [Try.params10]; exact of_decide_eq_true (by kernel_rfl)) rfl (by kernel_rfl) Try.underlying4 hW' rfl hE⟩
noncomputable def world (os : Os) : World := World.holding Try.prog os ⟨#[], #[], []⟩
theorem reads (os : Os) {H : Type} (enc : TypeId × Value → H) : ∃ places, DataW.whole enc Try.prog ((world os).forCall (fun _ _ => 0) ⟨#[], #[.agg #[.slice none 0 0, .slice none 0 0, .slice none 0 0, .slice none 0 0, .slice none 0 0]], []⟩).memory Try.f10.params.toList Rows.textsolverValidSpec.vars Rows.textsolverValidRow.apart (#[.agg #[.slice none 0 0, .slice none 0 0, .slice none 0 0, .slice none 0 0, .slice none 0 0]] : Array Value).toList 8 = some ([.agg [.nil, .nil, .nil, .nil, .nil]], [], places) :=
  ⟨[], by kernel_rfl⟩
theorem lifted (os : Os) (started : os.Started) (H : Type) (enc : TypeId × Value → H) (F : Stop.Interp) :
    ReturnsInHanded {} Try.checked os 10 .any ((OpenSpec.ofChange Rows.textsolverValidSpec).preRow enc Try.prog Try.f10 Rows.textsolverValidRow.domain Rows.textsolverValidRow.apart Rows.textsolverValidRow.laid) (((OpenSpec.ofChange Rows.textsolverValidSpec).at F).post enc Try.prog Try.f10 Rows.textsolverValidRow.apart true false false) := by
  obtain ⟨places, hx⟩ := reads os enc
  refine returnsInHanded_of_row (C := Try.checked) (s := (OpenSpec.ofChange Rows.textsolverValidSpec)) own started (by kernel_rfl) Try.func10
    (witness_row_at (enc := enc) (C := Try.checked) false (world os) #[.agg #[.slice none 0 0, .slice none 0 0, .slice none 0 0, .slice none 0 0, .slice none 0 0]] rfl (by kernel_rfl) (by kernel_rfl) (by kernel_rfl)
      (OpenSpec.preRow_of_cond 8 hx (by kernel_rfl) (fun k hk => by cases hk) (by kernel_rfl) (laidMet_nil _ _))) ?_
  intro W base args ds gs before hval hW _ hk hw hL _ _
  exact contract H enc W base args ds gs before hval hW hw
theorem said : Rows.TextsolverValidSaid :=
  OpenClaim.holds_of_cond 10 Try.f10 rfl rfl rfl rfl rfl rfl rfl ⟨rfl, rfl, rfl, rfl, rfl⟩ rfl rfl rfl rfl rfl (by kernel_rfl) Try.func10 (by kernel_rfl)
    (of_decide_eq_true (by kernel_rfl)) (by unfold Func.isWrapper; first | (rw [if_pos (by decide +kernel)]; kernel_rfl) | (rw [if_neg (by decide +kernel)]; exact ⟨rfl, rfl⟩))
    (fun os started H enc _ F => by rw [OpenClaim.pre_eq_preRow]; exact lifted os started H enc F)
end Go.Proofs.Ytaakoedphmeenaa.textsolverValid

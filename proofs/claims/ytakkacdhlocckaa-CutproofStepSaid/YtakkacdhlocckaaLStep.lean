/- Proved here: the statement of CutproofStep: for every input the law returns true, and its arguments read afterwards as before. -/
import Derived.Test.YtakkacdhlocckaaK18c
import Derived.Test.YtakkacdhlocckaaWLStep
import Derived.Test.YtakkacdhlocckaaRows
open Go
open Go.X Go.ChangeShapes Go.WideShapes Go.ChangeAt Go.RowKit Go.D
set_option maxRecDepth 100000
namespace Go.Proofs.Ytakkacdhlocckaa.cutproofStep
open Q18 WL
theorem own : ownKnob Try.prog.godebug = none := by kernel_rfl
theorem laidOut : laidOutB Try.prog = true := by kernel_rfl
theorem contract (H : Type) (enc : TypeId × Value → H) (W : World) (base : Nat) (args : Array Value) (ds gs : List (DataW H)) (before : List MemPlace)
    (hval : ∀ (j : Nat) t v, Try.f6.params[j]? = some t → args[j]? = some v → Value.okWide Try.prog W .any base t v)
    (hW : DataW.Whole enc Try.prog Try.f6.params.toList Rows.cutproofStepSpec.vars Rows.cutproofStepRow.apart W args.toList ds gs before) (hw : (DataW.weightsEach Try.prog (Try.f6.params.toList ++ (OpenSpec.ofChange Rows.cutproofStepSpec).bare.plain.varTypes Try.prog) (ds ++ gs)).all (· ≤ reachBytes) = true) :
    Calls Try.prog 6 args W fun e W' => ∃ v, e = .returned v ∧ Rows.cutproofStepSpec.post enc Try.prog Try.f6 Rows.cutproofStepRow.apart true false false W args v W' := by
  have hW' := hW
  obtain ⟨p, q, hA0, hV, rfl, hfz, hnd⟩ := hW
  have hA : DataW.TrodAll enc Try.prog W 0 (fun _ => true) true Try.f6.params.toList args.toList ds p := hA0
  rw [Try.params6] at hA hval
  obtain ⟨v0, vs0, d0, ds0, p0, q0, ha0, rfl, rfl, h0, r0⟩ := trodAll_cons hA
  obtain ⟨v1, vs1, d1, ds1, p1, q1, ha1, rfl, rfl, h1, r1⟩ := trodAll_cons r0
  obtain ⟨v2, vs2, d2, ds2, p2, q2, ha2, rfl, rfl, h2, r2⟩ := trodAll_cons r1
  obtain ⟨rfl, rfl, rfl⟩ := trodAll_nil r2
  subst ha2
  subst ha1
  obtain rfl : args = #[v0, v1, v2] := by cases args; simp_all
  obtain ⟨rfl, rfl⟩ := trodVars_none hV
  have hw1 : (DataW.weightsEach Try.prog [22, 28, 32] [d0, d1, d2]).all (· ≤ reachBytes) = true := by rw [Try.params6] at hw; exact hw
  obtain ⟨x0, k0, g0, t0⟩ := open_sliceT Try.underlying22 oIneqs (hval 0 22 v0 rfl rfl) h0
  obtain ⟨cs1, x1, rfl, R1, g1⟩ := open_struct Try.underlying28 o28 (hval 1 28 v1 rfl rfl) h1
  obtain ⟨u1_0, u1_1, rfl, k1_0, k1_1, -⟩ := R1
  obtain ⟨x2, k2, g2⟩ := open_slice Try.underlying32 o32 (hval 2 32 v2 rfl rfl) h2
  clear hA0
  obtain ⟨N, r, hr, hr1⟩ := (lawStep_tm (l := x0) (s := x1) (x := x2) (by have := t0.weight Try.underlying22 (n := 56) (by kernel_rfl) (weights_cons hw1).1; omega) (ineqs_of g0) (inS_of g1) (bigs_of g2) g2.1).get
  subst hr1
  refine (lawStep_w N x0 x1 x2 _ _ _ _ W (fun _ => True) k0 k1_0 k1_1 k2 true hr).mono fun e W' ⟨v, he, hE, hv, _⟩ => ?_
  subst he; subst hv
  exact ⟨_, rfl, post_true laidOut (by rw [Try.params6]; exact of_decide_eq_true (by kernel_rfl)) rfl (by kernel_rfl) Try.underlying4 hW' rfl hE⟩
noncomputable def world (os : Os) : World := World.holding Try.prog os ⟨#[], #[], []⟩
theorem reads (os : Os) {H : Type} (enc : TypeId × Value → H) : ∃ places, DataW.whole enc Try.prog ((world os).forCall (fun _ _ => 0) ⟨#[], #[.slice none 0 0, .agg #[.slice none 0 0, .bool false, .slice none 0 0], .slice none 0 0], []⟩).memory Try.f6.params.toList Rows.cutproofStepSpec.vars Rows.cutproofStepRow.apart (#[.slice none 0 0, .agg #[.slice none 0 0, .bool false, .slice none 0 0], .slice none 0 0] : Array Value).toList 8 = some ([.nil, .agg [.nil, .agg [.lit (.bool false), .nil]], .nil], [], places) :=
  ⟨[], by kernel_rfl⟩
theorem lifted (os : Os) (started : os.Started) (H : Type) (enc : TypeId × Value → H) (F : Stop.Interp) :
    ReturnsInHanded {} Try.checked os 6 .any ((OpenSpec.ofChange Rows.cutproofStepSpec).preRow enc Try.prog Try.f6 Rows.cutproofStepRow.domain Rows.cutproofStepRow.apart Rows.cutproofStepRow.laid) (((OpenSpec.ofChange Rows.cutproofStepSpec).at F).post enc Try.prog Try.f6 Rows.cutproofStepRow.apart true false false) := by
  obtain ⟨places, hx⟩ := reads os enc
  refine returnsInHanded_of_row (C := Try.checked) (s := (OpenSpec.ofChange Rows.cutproofStepSpec)) own started (by kernel_rfl) Try.func6
    (witness_row_at (enc := enc) (C := Try.checked) false (world os) #[.slice none 0 0, .agg #[.slice none 0 0, .bool false, .slice none 0 0], .slice none 0 0] rfl (by kernel_rfl) (by kernel_rfl) (by kernel_rfl)
      (OpenSpec.preRow_of_cond 8 hx (by kernel_rfl) (fun k hk => by cases hk) (by kernel_rfl) (laidMet_nil _ _))) ?_
  intro W base args ds gs before hval hW _ hk hw hL _ _
  exact contract H enc W base args ds gs before hval hW hw
theorem said : Rows.CutproofStepSaid :=
  OpenClaim.holds_of_cond 6 Try.f6 rfl rfl rfl rfl rfl rfl rfl ⟨rfl, rfl, rfl, rfl, rfl⟩ rfl rfl rfl rfl rfl (by kernel_rfl) Try.func6 (by kernel_rfl)
    (of_decide_eq_true (by kernel_rfl)) (by unfold Func.isWrapper; first | (rw [if_pos (by decide +kernel)]; kernel_rfl) | (rw [if_neg (by decide +kernel)]; exact ⟨rfl, rfl⟩))
    (fun os started H enc _ F => by rw [OpenClaim.pre_eq_preRow]; exact lifted os started H enc F)
end Go.Proofs.Ytakkacdhlocckaa.cutproofStep

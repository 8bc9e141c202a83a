/- Proved here: the statement of TextsolverSolve: for every input the law returns true, and its arguments read afterwards as before. -/
import Derived.Test.YtaakoedphmeenaaQ22
import Derived.Test.YtaakoedphmeenaaN4
import Derived.Test.YtaakoedphmeenaaWLSolve
import Derived.Test.YtaakoedphmeenaaRows
open Go
open Go.X Go.ChangeShapes Go.WideShapes Go.ChangeAt Go.RowKit Go.D
set_option maxRecDepth 100000
namespace Go.Proofs.Ytaakoedphmeenaa.textsolverSolve
open Q22 WL
theorem own : ownKnob Try.prog.godebug = none := by kernel_rfl
theorem laidOut : laidOutB Try.prog = true := by kernel_rfl
theorem contract (H : Type) (enc : TypeId × Value → H) (W : World) (base : Nat) (args : Array Value) (ds gs : List (DataW H)) (before : List MemPlace)
    (hval : ∀ (j : Nat) t v, Try.f4.params[j]? = some t → args[j]? = some v → Value.okWide Try.prog W .any base t v)
    (hW : DataW.Whole enc Try.prog Try.f4.params.toList Rows.textsolverSolveSpec.vars Rows.textsolverSolveRow.apart W args.toList ds gs before) :
    Calls Try.prog 4 args W fun e W' => ∃ v, e = .returned v ∧ Rows.textsolverSolveSpec.post enc Try.prog Try.f4 Rows.textsolverSolveRow.apart true false false W args v W' := by
  have hW' := hW
  obtain ⟨p, q, hA0, hV, rfl, hfz, hnd⟩ := hW
  have hA : DataW.TrodAll enc Try.prog W 0 (fun _ => true) true Try.f4.params.toList args.toList ds p := hA0
  rw [Try.params4] at hA hval
  obtain ⟨v0, vs0, d0, ds0, p0, q0, ha0, rfl, rfl, h0, r0⟩ := trodAll_cons hA
  obtain ⟨rfl, rfl, rfl⟩ := trodAll_nil r0
  obtain rfl : args = #[v0] := by cases args; simp_all
  obtain ⟨rfl, rfl⟩ := trodVars_none hV
  obtain ⟨cs0, x0, rfl, R0, g0⟩ := open_struct Try.underlying26 o26 (hval 0 26 v0 rfl rfl) h0
  obtain ⟨u0_0, u0_1, u0_2, u0_3, u0_4, rfl, k0_0, k0_1, k0_2, k0_3, k0_4, -⟩ := R0
  clear hA0
  obtain ⟨N, r, hr, hr1⟩ := (lawSolve_tm (p := x0) (lim_of g0)).get
  subst hr1
  refine (lawSolve_w N x0 _ _ _ _ _ W (fun _ => True) k0_0 k0_1 k0_2 k0_3 k0_4 true hr).mono fun e W' ⟨v, he, hE, hv, _⟩ => ?_
  subst he; subst hv
  exact ⟨_, rfl, post_true laidOut (by rw [Try.params4]; exact of_decide_eq_true (by kernel_rfl)) rfl (by kernel_rfl) Try.underlying4 hW' rfl hE⟩
noncomputable def world (os : Os) : World := World.holding Try.prog os ⟨#[], #[], []⟩
theorem reads (os : Os) {H : Type} (enc : TypeId × Value → H) : ∃ places, DataW.whole enc Try.prog ((world os).forCall (fun _ _ => 0) ⟨#[], #[.agg #[.slice none 0 0, .slice none 0 0, .slice none 0 0, .slice none 0 0, .slice none 0 0]], []⟩).memory Try.f4.params.toList Rows.textsolverSolveSpec.vars Rows.textsolverSolveRow.apart (#[.agg #[.slice none 0 0, .slice none 0 0, .slice none 0 0, .slice none 0 0, .slice none 0 0]] : Array Value).toList 8 = some ([.agg [.nil, .nil, .nil, .nil, .nil]], [], places) :=
  ⟨[], by kernel_rfl⟩
theorem lifted (os : Os) (started : os.Started) (H : Type) (enc : TypeId × Value → H) (F : Stop.Interp) :
    ReturnsInHanded {} Try.checked os 4 .any ((OpenSpec.ofChange Rows.textsolverSolveSpec).preRow enc Try.prog Try.f4 Rows.textsolverSolveRow.domain Rows.textsolverSolveRow.apart Rows.textsolverSolveRow.laid) (((OpenSpec.ofChange Rows.textsolverSolveSpec).at F).post enc Try.prog Try.f4 Rows.textsolverSolveRow.apart true false false) := by
  obtain ⟨places, hx⟩ := reads os enc
  refine returnsInHanded_of_row (C := Try.checked) (s := (OpenSpec.ofChange Rows.textsolverSolveSpec)) own started (by kernel_rfl) Try.func4
    (witness_row_at (enc := enc) (C := Try.checked) false (world os) #[.agg #[.slice none 0 0, .slice none 0 0, .slice none 0 0, .slice none 0 0, .slice none 0 0]] rfl (by kernel_rfl) (by kernel_rfl) (by kernel_rfl)
      (OpenSpec.preRow_of_cond 8 hx (by kernel_rfl) (fun k hk => by cases hk) (by kernel_rfl) (laidMet_nil _ _))) ?_
  intro W base args ds gs before hval hW _ hk hw hL _ _
  exact contract H enc W base args ds gs before hval hW
theorem said : Rows.TextsolverSolveSaid :=
  OpenClaim.holds_of_cond 4 Try.f4 rfl rfl rfl rfl rfl rfl rfl ⟨rfl, rfl, rfl, rfl, rfl⟩ rfl rfl rfl rfl rfl (by kernel_rfl) Try.func4 (by kernel_rfl)
    (of_decide_eq_true (by kernel_rfl)) (by unfold Func.isWrapper; first | (rw [if_pos (by decide +kernel)]; kernel_rfl) | (rw [if_neg (by decide +kernel)]; exact ⟨rfl, rfl⟩))
    (fun os started H enc _ F => by rw [OpenClaim.pre_eq_preRow]; exact lifted os started H enc F)
end Go.Proofs.Ytaakoedphmeenaa.textsolverSolve

/- Proved here: the statement of TextsolverMonotone: for every input the law returns true, and its arguments read afterwards as before. -/
import Derived.Test.YtaakoedphmeenaaQ22
import Derived.Test.YtaakoedphmeenaaN3
import Derived.Test.YtaakoedphmeenaaWLMonotone
import Derived.Test.YtaakoedphmeenaaRows
open Go
open Go.X Go.ChangeShapes Go.WideShapes Go.ChangeAt Go.RowKit Go.D
set_option maxRecDepth 100000
namespace Go.Proofs.Ytaakoedphmeenaa.textsolverMonotone
open Q22 WL
theorem own : ownKnob Try.prog.godebug = none := by kernel_rfl
theorem laidOut : laidOutB Try.prog = true := by kernel_rfl
theorem contract (H : Type) (enc : TypeId × Value → H) (W : World) (base : Nat) (args : Array Value) (ds gs : List (DataW H)) (before : List MemPlace)
    (hval : ∀ (j : Nat) t v, Try.f9.params[j]? = some t → args[j]? = some v → Value.okWide Try.prog W .any base t v)
    (hW : DataW.Whole enc Try.prog Try.f9.params.toList Rows.textsolverMonotoneSpec.vars Rows.textsolverMonotoneRow.apart W args.toList ds gs before) :
    Calls Try.prog 9 args W fun e W' => ∃ v, e = .returned v ∧ Rows.textsolverMonotoneSpec.post enc Try.prog Try.f9 Rows.textsolverMonotoneRow.apart true false false W args v W' := by
  have hW' := hW
  obtain ⟨p, q, hA0, hV, rfl, hfz, hnd⟩ := hW
  have hA : DataW.TrodAll enc Try.prog W 0 (fun _ => true) true Try.f9.params.toList args.toList ds p := hA0
  rw [Try.params9] at hA hval
  obtain ⟨v0, vs0, d0, ds0, p0, q0, ha0, rfl, rfl, h0, r0⟩ := trodAll_cons hA
  obtain ⟨v1, vs1, d1, ds1, p1, q1, ha1, rfl, rfl, h1, r1⟩ := trodAll_cons r0
  obtain ⟨v2, vs2, d2, ds2, p2, q2, ha2, rfl, rfl, h2, r2⟩ := trodAll_cons r1
  obtain ⟨rfl, rfl, rfl⟩ := trodAll_nil r2
  subst ha2
  subst ha1
  obtain rfl : args = #[v0, v1, v2] := by cases args; simp_all
  obtain ⟨rfl, rfl⟩ := trodVars_none hV
  obtain ⟨cs0, x0, rfl, R0, g0⟩ := open_struct Try.underlying26 o26 (hval 0 26 v0 rfl rfl) h0
  obtain ⟨u0_0, u0_1, u0_2, u0_3, u0_4, rfl, k0_0, k0_1, k0_2, k0_3, k0_4, -⟩ := R0
  obtain ⟨cs1, x1, rfl, R1, g1⟩ := open_struct Try.underlying44 o44 (hval 1 44 v1 rfl rfl) h1
  obtain ⟨rfl, -⟩ := R1
  obtain ⟨cs2, x2, rfl, R2, g2⟩ := open_array Try.underlying45 o45 (hval 2 45 v2 rfl rfl) h2
  obtain ⟨rfl, -⟩ := R2
  clear hA0
  obtain ⟨N, r, hr, hr1⟩ := (lawMonotone_tm (p := x0) (t := x1) (pr := x2) (lim_of g0) (lt_of g1)).get
  subst hr1
  refine (lawMonotone_w N x0 x1 x2 _ _ _ _ _ W (fun _ => True) k0_0 k0_1 k0_2 k0_3 k0_4 true hr).mono fun e W' ⟨v, he, hE, hv, _⟩ => ?_
  subst he; subst hv
  exact ⟨_, rfl, post_true laidOut (by rw [Try.params9]; exact of_decide_eq_true (by kernel_rfl)) rfl (by kernel_rfl) Try.underlying4 hW' rfl hE⟩
noncomputable def world (os : Os) : World := World.holding Try.prog os ⟨#[], #[], []⟩
theorem reads (os : Os) {H : Type} (enc : TypeId × Value → H) : ∃ places, DataW.whole enc Try.prog ((world os).forCall (fun _ _ => 0) ⟨#[], #[.agg #[.slice none 0 0, .slice none 0 0, .slice none 0 0, .slice none 0 0, .slice none 0 0], .agg #[.int .i64 0, .int .i64 0, .bool false, .string ⟨#[]⟩], .agg #[.int .i64 0, .int .i64 0]], []⟩).memory Try.f9.params.toList Rows.textsolverMonotoneSpec.vars Rows.textsolverMonotoneRow.apart (#[.agg #[.slice none 0 0, .slice none 0 0, .slice none 0 0, .slice none 0 0, .slice none 0 0], .agg #[.int .i64 0, .int .i64 0, .bool false, .string ⟨#[]⟩], .agg #[.int .i64 0, .int .i64 0]] : Array Value).toList 8 = some ([.agg [.nil, .nil, .nil, .nil, .nil], .agg [.lit (.int .i64 0), .lit (.int .i64 0), .lit (.bool false), .lit (.string [])], .agg [.lit (.int .i64 0), .lit (.int .i64 0)]], [], places) :=
  ⟨[], by kernel_rfl⟩
theorem lifted (os : Os) (started : os.Started) (H : Type) (enc : TypeId × Value → H) (F : Stop.Interp) :
    ReturnsInHanded {} Try.checked os 9 .any ((OpenSpec.ofChange Rows.textsolverMonotoneSpec).preRow enc Try.prog Try.f9 Rows.textsolverMonotoneRow.domain Rows.textsolverMonotoneRow.apart Rows.textsolverMonotoneRow.laid) (((OpenSpec.ofChange Rows.textsolverMonotoneSpec).at F).post enc Try.prog Try.f9 Rows.textsolverMonotoneRow.apart true false false) := by
  obtain ⟨places, hx⟩ := reads os enc
  refine returnsInHanded_of_row (C := Try.checked) (s := (OpenSpec.ofChange Rows.textsolverMonotoneSpec)) own started (by kernel_rfl) Try.func9
    (witness_row_at (enc := enc) (C := Try.checked) false (world os) #[.agg #[.slice none 0 0, .slice none 0 0, .slice none 0 0, .slice none 0 0, .slice none 0 0], .agg #[.int .i64 0, .int .i64 0, .bool false, .string ⟨#[]⟩], .agg #[.int .i64 0, .int .i64 0]] rfl (by kernel_rfl) (by kernel_rfl) (by kernel_rfl)
      (OpenSpec.preRow_of_cond 8 hx (by kernel_rfl) (fun k hk => by cases hk) (by kernel_rfl) (laidMet_nil _ _))) ?_
  intro W base args ds gs before hval hW _ hk hw hL _ _
  exact contract H enc W base args ds gs before hval hW
theorem said : Rows.TextsolverMonotoneSaid :=
  OpenClaim.holds_of_cond 9 Try.f9 rfl rfl rfl rfl rfl rfl rfl ⟨rfl, rfl, rfl, rfl, rfl⟩ rfl rfl rfl rfl rfl (by kernel_rfl) Try.func9 (by kernel_rfl)
    (of_decide_eq_true (by kernel_rfl)) (by unfold Func.isWrapper; first | (rw [if_pos (by decide +kernel)]; kernel_rfl) | (rw [if_neg (by decide +kernel)]; exact ⟨rfl, rfl⟩))
    (fun os started H enc _ F => by rw [OpenClaim.pre_eq_preRow]; exact lifted os started H enc F)
end Go.Proofs.Ytaakoedphmeenaa.textsolverMonotone

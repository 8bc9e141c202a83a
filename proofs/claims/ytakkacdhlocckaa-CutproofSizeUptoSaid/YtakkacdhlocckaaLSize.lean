/- Proved here: the statement of CutproofSize: for every input the law returns true, and its arguments read afterwards as before. -/
import Derived.Test.YtakkacdhlocckaaK18c
import Derived.Test.YtakkacdhlocckaaWLSize
import Derived.Test.YtakkacdhlocckaaRows
open Go
open Go.X Go.ChangeShapes Go.WideShapes Go.ChangeAt Go.RowKit Go.D
set_option maxRecDepth 100000
namespace Go.Proofs.Ytakkacdhlocckaa.cutproofSize
open Q18 WL
theorem own : ownKnob Try.prog.godebug = none := by kernel_rfl
theorem laidOut : laidOutB Try.prog = true := by kernel_rfl
theorem contract (H : Type) (enc : TypeId × Value → H) (W : World) (base : Nat) (args : Array Value) (ds gs : List (DataW H)) (before : List MemPlace)
    (hval : ∀ (j : Nat) t v, Try.f5.params[j]? = some t → args[j]? = some v → Value.okWide Try.prog W .any base t v)
    (hW : DataW.Whole enc Try.prog Try.f5.params.toList Rows.cutproofSizeSpec.vars Rows.cutproofSizeUptoRow.apart W args.toList ds gs before) (hk : Rows.uptoSmall H (ds ++ gs) = true) :
    Calls Try.prog 5 args W fun e W' => ∃ v, e = .returned v ∧ Rows.cutproofSizeSpec.post enc Try.prog Try.f5 Rows.cutproofSizeUptoRow.apart true false false W args v W' := by
  have hW' := hW
  obtain ⟨p, q, hA0, hV, rfl, hfz, hnd⟩ := hW
  have hA : DataW.TrodAll enc Try.prog W 0 (fun _ => true) true Try.f5.params.toList args.toList ds p := hA0
  rw [Try.params5] at hA hval
  obtain ⟨v0, vs0, d0, ds0, p0, q0, ha0, rfl, rfl, h0, r0⟩ := trodAll_cons hA
  obtain ⟨v1, vs1, d1, ds1, p1, q1, ha1, rfl, rfl, h1, r1⟩ := trodAll_cons r0
  obtain ⟨rfl, rfl, rfl⟩ := trodAll_nil r1
  subst ha1
  obtain rfl : args = #[v0, v1] := by cases args; simp_all
  obtain ⟨rfl, rfl⟩ := trodVars_none hV
  simp only [List.append_nil] at hk
  obtain ⟨cs0, x0, rfl, R0, g0, t0⟩ := open_structT Try.underlying42 oProof (hval 0 42 v0 rfl rfl) h0
  obtain ⟨u0_0, u0_1, u0_2, u0_3, rfl, k0_0, k0_1, k0_2, k0_3, -⟩ := rProof_open R0
  obtain ⟨x1, k1, g1, t1⟩ := open_sliceT Try.underlying23 oUses (hval 1 23 v1 rfl rfl) h1
  clear hA0
  obtain ⟨N, r, hr, hr1⟩ := (lawSize_tm (p := x0) (us := x1) (by have := bulk_at hk (i := 0) rfl; omega) g0 g1.1 (fun u hu => ⟨in32_of (g1.2 u hu).2.1, by have := slT_mem t1 u hu; have := bulk_at hk (i := 1) rfl; omega⟩)).get
  subst hr1
  refine (lawSize_w N x0 x1 _ _ _ _ _ W (fun _ => True) k0_0 k0_1 k0_2 k0_3 k1 true hr).mono fun e W' ⟨v, he, hE, hv, _⟩ => ?_
  subst he; subst hv
  exact ⟨_, rfl, post_true laidOut (by rw [Try.params5]; exact of_decide_eq_true (by kernel_rfl)) rfl (by kernel_rfl) Try.underlying4 hW' rfl hE⟩
noncomputable def world (os : Os) : World := World.holding Try.prog os ⟨#[], #[], []⟩
theorem reads (os : Os) {H : Type} (enc : TypeId × Value → H) : ∃ places, DataW.whole enc Try.prog ((world os).forCall (fun _ _ => 0) ⟨#[], #[.agg #[.slice none 0 0, .slice none 0 0, .bool false, .slice none 0 0, .slice none 0 0], .slice none 0 0], []⟩).memory Try.f5.params.toList Rows.cutproofSizeSpec.vars Rows.cutproofSizeUptoRow.apart (#[.agg #[.slice none 0 0, .slice none 0 0, .bool false, .slice none 0 0, .slice none 0 0], .slice none 0 0] : Array Value).toList 8 = some ([.agg [.nil, .nil, .agg [.lit (.bool false), .nil], .nil], .nil], [], places) :=
  ⟨[], by kernel_rfl⟩
theorem lifted (os : Os) (started : os.Started) (H : Type) (enc : TypeId × Value → H) (F : Stop.Interp) :
    ReturnsInHanded {} Try.checked os 5 .any ((Rows.OpenSpec.upto Rows.cutproofSizeSpec).preRow enc Try.prog Try.f5 Rows.cutproofSizeUptoRow.domain Rows.cutproofSizeUptoRow.apart Rows.cutproofSizeUptoRow.laid) (((Rows.OpenSpec.upto Rows.cutproofSizeSpec).at F).post enc Try.prog Try.f5 Rows.cutproofSizeUptoRow.apart true false false) := by
  obtain ⟨places, hx⟩ := reads os enc
  refine returnsInHanded_of_row (C := Try.checked) (s := (Rows.OpenSpec.upto Rows.cutproofSizeSpec)) own started (by kernel_rfl) Try.func5
    (witness_row_at (enc := enc) (C := Try.checked) false (world os) #[.agg #[.slice none 0 0, .slice none 0 0, .bool false, .slice none 0 0, .slice none 0 0], .slice none 0 0] rfl (by kernel_rfl) (by kernel_rfl) (by kernel_rfl)
      (OpenSpec.preRow_of_cond 8 hx (by kernel_rfl) (fun k hk => by cases hk; kernel_rfl) (by kernel_rfl) (laidMet_nil _ _))) ?_
  intro W base args ds gs before hval hW _ hk hw hL _ _
  exact contract H enc W base args ds gs before hval hW (hk _ rfl)
theorem said : Rows.CutproofSizeUptoSaid :=
  OpenClaim.holds_of_cond 5 Try.f5 rfl rfl rfl rfl rfl rfl rfl ⟨rfl, rfl, rfl, rfl, rfl⟩ rfl rfl rfl rfl rfl (by kernel_rfl) Try.func5 (by kernel_rfl)
    (of_decide_eq_true (by kernel_rfl)) (by unfold Func.isWrapper; first | (rw [if_pos (by decide +kernel)]; kernel_rfl) | (rw [if_neg (by decide +kernel)]; exact ⟨rfl, rfl⟩))
    (fun os started H enc _ F => by rw [OpenClaim.pre_eq_preRow]; exact lifted os started H enc F)
end Go.Proofs.Ytakkacdhlocckaa.cutproofSize

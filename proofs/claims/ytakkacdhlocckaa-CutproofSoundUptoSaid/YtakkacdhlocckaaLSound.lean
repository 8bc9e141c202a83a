/- Proved here: the statement of CutproofSound: for every input the law returns true, and its arguments read afterwards as before. -/
import Derived.Test.YtakkacdhlocckaaK18c
import Derived.Test.YtakkacdhlocckaaWLSound
import Derived.Test.YtakkacdhlocckaaRows
open Go
open Go.X Go.ChangeShapes Go.WideShapes Go.ChangeAt Go.RowKit Go.D
set_option maxRecDepth 100000
namespace Go.Proofs.Ytakkacdhlocckaa.cutproofSound
open Q18 WL
theorem own : ownKnob Try.prog.godebug = none := by kernel_rfl
theorem laidOut : laidOutB Try.prog = true := by kernel_rfl
theorem contract (H : Type) (enc : TypeId × Value → H) (W : World) (base : Nat) (args : Array Value) (ds gs : List (DataW H)) (before : List MemPlace)
    (hval : ∀ (j : Nat) t v, Try.f7.params[j]? = some t → args[j]? = some v → Value.okWide Try.prog W .any base t v)
    (hW : DataW.Whole enc Try.prog Try.f7.params.toList Rows.cutproofSoundSpec.vars Rows.cutproofSoundUptoRow.apart W args.toList ds gs before) (hk : Rows.uptoSmall H (ds ++ gs) = true) :
    Calls Try.prog 7 args W fun e W' => ∃ v, e = .returned v ∧ Rows.cutproofSoundSpec.post enc Try.prog Try.f7 Rows.cutproofSoundUptoRow.apart true false false W args v W' := by
  have hW' := hW
  obtain ⟨p, q, hA0, hV, rfl, hfz, hnd⟩ := hW
  have hA : DataW.TrodAll enc Try.prog W 0 (fun _ => true) true Try.f7.params.toList args.toList ds p := hA0
  rw [Try.params7] at hA hval
  obtain ⟨v0, vs0, d0, ds0, p0, q0, ha0, rfl, rfl, h0, r0⟩ := trodAll_cons hA
  obtain ⟨v1, vs1, d1, ds1, p1, q1, ha1, rfl, rfl, h1, r1⟩ := trodAll_cons r0
  obtain ⟨v2, vs2, d2, ds2, p2, q2, ha2, rfl, rfl, h2, r2⟩ := trodAll_cons r1
  obtain ⟨rfl, rfl, rfl⟩ := trodAll_nil r2
  subst ha2
  subst ha1
  obtain rfl : args = #[v0, v1, v2] := by cases args; simp_all
  obtain ⟨rfl, rfl⟩ := trodVars_none hV
  simp only [List.append_nil] at hk
  obtain ⟨x0, k0, g0, t0⟩ := open_sliceT Try.underlying22 oIneqs (hval 0 22 v0 rfl rfl) h0
  obtain ⟨cs1, x1, rfl, R1, g1, t1⟩ := open_structT Try.underlying42 oProof (hval 1 42 v1 rfl rfl) h1
  obtain ⟨u1_0, u1_1, u1_2, u1_3, rfl, k1_0, k1_1, k1_2, k1_3, -⟩ := rProof_open R1
  obtain ⟨x2, k2, g2⟩ := open_slice Try.underlying32 o32 (hval 2 32 v2 rfl rfl) h2
  clear hA0
  obtain ⟨N, r, hr, hr1⟩ := (lawSound_tm (l := x0) (p := x1) (x := x2) (by have := slT_len t0; have := bulk_at hk (i := 0) rfl; omega) (ineqs_of g0) (by have := bulk_at hk (i := 1) rfl; omega) g1 (bigs_of g2) g2.1).get
  subst hr1
  refine (lawSound_w N x0 x1 x2 _ _ _ _ _ _ W (fun _ => True) k0 k1_0 k1_1 k1_2 k1_3 k2 true hr).mono fun e W' ⟨v, he, hE, hv, _⟩ => ?_
  subst he; subst hv
  exact ⟨_, rfl, post_true laidOut (by rw [Try.params7]; exact of_decide_eq_true (by kernel_rfl)) rfl (by kernel_rfl) Try.underlying4 hW' rfl hE⟩
noncomputable def world (os : Os) : World := World.holding Try.prog os ⟨#[], #[], []⟩
theorem reads (os : Os) {H : Type} (enc : TypeId × Value → H) : ∃ places, DataW.whole enc Try.prog ((world os).forCall (fun _ _ => 0) ⟨#[], #[.slice none 0 0, .agg #[.slice none 0 0, .slice none 0 0, .bool false, .slice none 0 0, .slice none 0 0], .slice none 0 0], []⟩).memory Try.f7.params.toList Rows.cutproofSoundSpec.vars Rows.cutproofSoundUptoRow.apart (#[.slice none 0 0, .agg #[.slice none 0 0, .slice none 0 0, .bool false, .slice none 0 0, .slice none 0 0], .slice none 0 0] : Array Value).toList 8 = some ([.nil, .agg [.nil, .nil, .agg [.lit (.bool false), .nil], .nil], .nil], [], places) :=
  ⟨[], by kernel_rfl⟩
theorem lifted (os : Os) (started : os.Started) (H : Type) (enc : TypeId × Value → H) (F : Stop.Interp) :
    ReturnsInHanded {} Try.checked os 7 .any ((Rows.OpenSpec.upto Rows.cutproofSoundSpec).preRow enc Try.prog Try.f7 Rows.cutproofSoundUptoRow.domain Rows.cutproofSoundUptoRow.apart Rows.cutproofSoundUptoRow.laid) (((Rows.OpenSpec.upto Rows.cutproofSoundSpec).at F).post enc Try.prog Try.f7 Rows.cutproofSoundUptoRow.apart true false false) := by
  obtain ⟨places, hx⟩ := reads os enc
  refine returnsInHanded_of_row (C := Try.checked) (s := (Rows.OpenSpec.upto Rows.cutproofSoundSpec)) own started (by kernel_rfl) Try.func7
    (witness_row_at (enc := enc) (C := Try.checked) false (world os) #[.slice none 0 0, .agg #[.slice none 0 0, .slice none 0 0, .bool false, .slice none 0 0, .slice none 0 0], .slice none 0 0] rfl (by kernel_rfl) (by kernel_rfl) (by kernel_rfl)
      (OpenSpec.preRow_of_cond 8 hx (by kernel_rfl) (fun k hk => by cases hk; kernel_rfl) (by kernel_rfl) (laidMet_nil _ _))) ?_
  intro W base args ds gs before hval hW _ hk hw hL _ _
  exact contract H enc W base args ds gs before hval hW (hk _ rfl)
theorem said : Rows.CutproofSoundUptoSaid :=
  OpenClaim.holds_of_cond 7 Try.f7 rfl rfl rfl rfl rfl rfl rfl ⟨rfl, rfl, rfl, rfl, rfl⟩ rfl rfl rfl rfl rfl (by kernel_rfl) Try.func7 (by kernel_rfl)
    (of_decide_eq_true (by kernel_rfl)) (by unfold Func.isWrapper; first | (rw [if_pos (by decide +kernel)]; kernel_rfl) | (rw [if_neg (by decide +kernel)]; exact ⟨rfl, rfl⟩))
    (fun os started H enc _ F => by rw [OpenClaim.pre_eq_preRow]; exact lifted os started H enc F)
end Go.Proofs.Ytakkacdhlocckaa.cutproofSound

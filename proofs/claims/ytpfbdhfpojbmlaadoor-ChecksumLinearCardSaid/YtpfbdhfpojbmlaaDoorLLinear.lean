/- Proved here: the statement of ChecksumLinear: for every input the law returns true, and its arguments read afterwards as before. Condition: the listed package-level variables hold at the start what the program lays in them (the card ties that to the text); the program is a pruned copy of the repository. -/
import Derived.Test.YtpfbdhfpojbmlaaDoorQ06
import Derived.Test.YtpfbdhfpojbmlaaDoorJ06
import Derived.Test.YtpfbdhfpojbmlaaDoorW06
import Derived.Test.YtpfbdhfpojbmlaaDoorRows
import Derived.Test.YtpfbdhfpojbmlaaDoorCards
import Derived.Test.YtpfbdhfpojbmlaaDoorTie
open Go
open Go.X Go.ChangeShapes Go.WideShapes Go.ChangeAt Go.RowKit Go.D
set_option maxRecDepth 100000
namespace Go.Proofs.YtpfbdhfpojbmlaaDoor.checksumLinear
open Q06 W06
theorem own : ownKnob Tryd.prog.godebug = none := by kernel_rfl
theorem laidOut : laidOutB Tryd.prog = true := by kernel_rfl
theorem contract (H : Type) (enc : TypeId × Value → H) (W : World) (base : Nat) (args : Array Value) (ds gs : List (DataW H)) (before : List MemPlace)
    (hval : ∀ (j : Nat) t v, Tryd.f9.params[j]? = some t → args[j]? = some v → Value.okWide Tryd.prog W .any base t v)
    (hW : DataW.Whole enc Tryd.prog Tryd.f9.params.toList Rows.checksumLinearSpec.vars Rows.checksumLinearRow.apart W args.toList ds gs before) (hL : laidMet Tryd.prog Rows.checksumLinearRow.laid W) :
    Calls Tryd.prog 9 args W fun e W' => ∃ v, e = .returned v ∧ Rows.checksumLinearSpec.post enc Tryd.prog Tryd.f9 Rows.checksumLinearRow.apart true false false W args v W' := by
  have hW' := hW
  have hG : G W := gfact hL
  obtain ⟨p, q, hA0, hV, rfl, hfz, hnd⟩ := hW
  have hA : DataW.TrodAll enc Tryd.prog W 0 (fun _ => true) true Tryd.f9.params.toList args.toList ds p := hA0
  rw [Tryd.params9] at hA hval
  obtain ⟨v0, vs0, d0, ds0, p0, q0, ha0, rfl, rfl, h0, r0⟩ := trodAll_cons hA
  obtain ⟨rfl, rfl, rfl⟩ := trodAll_nil r0
  obtain rfl : args = #[v0] := by cases args; simp_all
  obtain ⟨rfl, rfl⟩ := trodVars_none hV
  obtain ⟨x0, k0_0, g0⟩ := open_slice Tryd.underlying38 o38 (hval 0 38 v0 rfl rfl) h0
  clear hA0
  obtain ⟨N, r, hr, hr1⟩ := (lawLinear_tm (l := x0) (byt_of g0)).get
  subst hr1
  refine (lawLinear_w N x0 v0 W (fun _ => True) hG k0_0 true hr).mono fun e W' ⟨v, he, hE, hv, _⟩ => ?_
  subst he; subst hv
  exact ⟨_, rfl, post_true laidOut (by rw [Tryd.params9]; exact of_decide_eq_true (by kernel_rfl)) rfl (by kernel_rfl) Tryd.underlying4 hW' rfl hE⟩
noncomputable def world (os : Os) : World := laying (World.holding Tryd.prog os ⟨#[], #[], []⟩) [(2, Rows.laid_math_bits_deBruijn32tab), (3, Rows.laid_math_bits_deBruijn64tab), (0, Rows.laid_internal_strconv_uint64pow10)]
theorem laid_met (os : Os) : laidMet Tryd.prog Rows.checksumLinearRow.laid ((world os).forCall (fun _ _ => 0) ⟨#[], #[.slice none 0 0], []⟩).memory :=
  laidMet_of_run' 8 (by kernel_rfl) (by kernel_rfl)
theorem reads (os : Os) {H : Type} (enc : TypeId × Value → H) : ∃ places, DataW.whole enc Tryd.prog ((world os).forCall (fun _ _ => 0) ⟨#[], #[.slice none 0 0], []⟩).memory Tryd.f9.params.toList Rows.checksumLinearSpec.vars Rows.checksumLinearRow.apart (#[.slice none 0 0] : Array Value).toList 8 = some ([.nil], [], places) :=
  ⟨[], by kernel_rfl⟩
theorem lifted (os : Os) (started : os.Started) (H : Type) (enc : TypeId × Value → H) (F : Stop.Interp) :
    ReturnsInHanded {} Tryd.checked os 9 .any ((OpenSpec.ofChange Rows.checksumLinearSpec).preRow enc Tryd.prog Tryd.f9 Rows.checksumLinearRow.domain Rows.checksumLinearRow.apart Rows.checksumLinearRow.laid) (((OpenSpec.ofChange Rows.checksumLinearSpec).at F).post enc Tryd.prog Tryd.f9 Rows.checksumLinearRow.apart true false false) := by
  obtain ⟨places, hx⟩ := reads os enc
  refine returnsInHanded_of_row (C := Tryd.checked) (s := (OpenSpec.ofChange Rows.checksumLinearSpec)) own started (by kernel_rfl) Tryd.func9
    (witness_row_at (enc := enc) (C := Tryd.checked) false (world os) #[.slice none 0 0] rfl (by kernel_rfl) (by kernel_rfl) (by kernel_rfl)
      (OpenSpec.preRow_of_cond 8 hx (by kernel_rfl) (fun k hk => by cases hk) (by kernel_rfl) (laid_met os))) ?_
  intro W base args ds gs before hval hW _ _ _ hL _ _
  exact contract H enc W base args ds gs before hval hW hL
theorem said : Rows.ChecksumLinearSaid :=
  OpenClaim.holds_of_cond 9 Tryd.f9 rfl rfl rfl rfl rfl rfl rfl ⟨rfl, rfl, rfl, rfl, rfl⟩ rfl rfl rfl rfl rfl (by kernel_rfl) Tryd.func9 (by kernel_rfl)
    (of_decide_eq_true (by kernel_rfl)) (by unfold Func.isWrapper; first | (rw [if_pos (by decide +kernel)]; kernel_rfl) | (rw [if_neg (by decide +kernel)]; exact ⟨rfl, rfl⟩))
    (fun os started H enc _ F => by rw [OpenClaim.pre_eq_preRow]; exact lifted os started H enc F)
theorem plain (f : FuncId) (fn : Func) (hf : Tryd.pinned.checked.prog.funcNamed "disjoint/disjointlaw06.ChecksumLinear" = some f) (hfn : Tryd.pinned.checked.prog.funcs[f]? = some fn) :
    false = Tryd.pinned.checked.prog.looks [] ∧ ∀ (j : Nat) t, fn.params[j]? = some t → Tryd.pinned.checked.prog.wantsStandIn t = false := by
  obtain rfl : f = 9 := Option.some.inj ((show Tryd.prog.funcNamed "disjoint/disjointlaw06.ChecksumLinear" = some 9 by kernel_rfl).symm.trans hf) |>.symm
  obtain rfl : fn = Tryd.f9 := (Option.some.inj (Tryd.func9.symm.trans hfn)).symm
  refine ⟨by kernel_rfl, fun j t ht => ?_⟩
  rw [Tryd.params9] at ht
  have h := Array.mem_of_getElem? ht
  exact (show ∀ t ∈ (#[38] : Array TypeId), Tryd.prog.wantsStandIn t = false from of_decide_eq_true (by kernel_rfl)) t h
theorem card : Rows.ChecksumLinearCardSaid :=
  Claim7.holds_tied_plain_at .later [] _ _ _ _ said (fun _ h => by cases h) (by kernel_rfl) (fun _ h => by cases h) checksumLinear_row_tie rfl ⟨rfl, rfl⟩ (by kernel_rfl) rfl plain (by kernel_rfl)
end Go.Proofs.YtpfbdhfpojbmlaaDoor.checksumLinear

/- Proved here: the statement of ChecksumBurst: for every input the law returns true, and its arguments read afterwards as before. Condition: the listed package-level variables hold at the start what the program lays in them (the card ties that to the text); the program is a pruned copy of the repository. -/
import Derived.Test.YtpfbdhfpojbmlaaDoorCards
import Derived.Test.YtpfbdhfpojbmlaaDoorTie
import Derived.Test.YtpfbdhfpojbmlaaDoorX12
import Derived.Test.YtpfbdhfpojbmlaaDoorW5
import Derived.Test.YtpfbdhfpojbmlaaDoorX14
open Go
open Go.X Go.ChangeShapes Go.WideShapes Go.ChangeAt Go.RowKit
set_option maxRecDepth 100000
namespace Go.Proofs.YtpfbdhfpojbmlaaDoor
open P2 P3 P5
theorem gTab : Tryd.prog.globalNamed "math/bits.deBruijn64tab" = some 3 := by kernel_rfl
theorem gTabType : (Tryd.prog.globals[3]?).map (·.type) = some 83 := by kernel_rfl
def tab64 : List Int := [0, 1, 56, 2, 57, 49, 28, 3, 61, 58, 42, 50, 38, 29, 17, 4, 62, 47, 59, 36, 45, 43, 51, 22, 53, 39, 33, 30, 24, 18, 12, 5, 63, 55, 48, 27, 60, 41, 37, 16, 46, 35, 44, 21, 52, 32, 23, 11, 54, 26, 40, 15, 34, 20, 31, 10, 25, 14, 19, 9, 13, 8, 7, 6]
theorem gfact {W : World} {r : List (String × DataW Unit)} {x : String × DataW Unit} (h : laidMet Tryd.prog (x :: ("math/bits.deBruijn64tab", Rows.laid_math_bits_deBruijn64tab) :: r) W) : At (view [] W) 3 15 [.int .u8 ((4 : Nat) : Int)] :=
  tab_at (zs := tab64) h (.tail _ (.head _)) gTab gTabType Tryd.underlying83 Tryd.underlying5 (by kernel_rfl) (by kernel_rfl) 15 (by decide)
theorem own : ownKnob Tryd.prog.godebug = none := by kernel_rfl
theorem laidOut : laidOutB Tryd.prog = true := by kernel_rfl
namespace checksumBurst
theorem contract (H : Type) (enc : TypeId × Value → H) (W : World) (base : Nat) (args : Array Value) (ds gs : List (DataW H)) (before : List MemPlace)
    (hval : ∀ (j : Nat) t v, Tryd.f8.params[j]? = some t → args[j]? = some v → Value.okWide Tryd.prog W .any base t v)
    (hW : DataW.Whole enc Tryd.prog Tryd.f8.params.toList Rows.checksumBurstSpec.vars Rows.checksumBurstRow.apart W args.toList ds gs before) (hL : laidMet Tryd.prog Rows.checksumBurstRow.laid W) :
    Calls Tryd.prog 8 args W fun e W' => ∃ v, e = .returned v ∧ Rows.checksumBurstSpec.post enc Tryd.prog Tryd.f8 Rows.checksumBurstRow.apart true false false W args v W' := by
  have hW' := hW
  obtain ⟨p, q, hA0, hV, rfl, hfz, hnd⟩ := hW
  have hA : DataW.TrodAll enc Tryd.prog W 0 (fun _ => true) true Tryd.f8.params.toList args.toList ds p := hA0
  rw [Tryd.params8] at hA hval
  obtain ⟨v0, vs0, d0, ds0, p0, q0, ha0, rfl, rfl, h0, r0⟩ := trodAll_cons hA
  obtain ⟨v1, vs1, d1, ds1, p1, q1, ha1, rfl, rfl, h1, r1⟩ := trodAll_cons r0
  obtain ⟨v2, vs2, d2, ds2, p2, q2, ha2, rfl, rfl, h2, r2⟩ := trodAll_cons r1
  obtain ⟨rfl, rfl, rfl⟩ := trodAll_nil r2
  subst ha2
  subst ha1
  obtain rfl : args = #[v0, v1, v2] := by cases args; simp_all
  obtain ⟨rfl, rfl⟩ := trodVars_none hV
  obtain ⟨x0, h_x0, x0_ok⟩ := open_nats Tryd.underlying22 Tryd.underlying5 (by kernel_rfl) wf_u8 (hval 0 22 v0 rfl rfl) h0
  obtain ⟨x1, rfl, x1_lt⟩ := open_nat Tryd.underlying35 wf_u16 (hval 1 35 v1 rfl rfl) h1
  obtain ⟨x2, rfl, x2_ln, x2_ok⟩ := open_arr Tryd.underlying36 Tryd.underlying5 (by kernel_rfl) (by kernel_rfl) wf_u8 (hval 2 36 v2 rfl rfl) h2
  clear hA0
  refine (P5.ChecksumBurst_c v0 x0 x0_ok x1 x1_lt x2 x2_ok x2_ln [] W (fun _ h => by cases h) h_x0 (gfact hL)).mono fun e W' ⟨v, he, hE, hv⟩ => ?_
  subst he; subst hv
  exact ⟨_, rfl, post_true laidOut (by rw [Tryd.params8]; exact of_decide_eq_true (by kernel_rfl)) rfl (by kernel_rfl) Tryd.underlying4 hW' rfl hE⟩
noncomputable def world (os : Os) : World := laying (World.holding Tryd.prog os ⟨#[], #[], []⟩) [(2, Rows.laid_math_bits_deBruijn32tab), (3, Rows.laid_math_bits_deBruijn64tab), (0, Rows.laid_internal_strconv_uint64pow10)]
theorem laid_met (os : Os) : laidMet Tryd.prog Rows.checksumBurstRow.laid ((world os).forCall (fun _ _ => 0) ⟨#[], #[.slice none 0 0, .int .u16 0, .agg #[.int .u8 0, .int .u8 0, .int .u8 0, .int .u8 0, .int .u8 0, .int .u8 0, .int .u8 0, .int .u8 0]], []⟩).memory :=
  laidMet_of_run' 8 (by kernel_rfl) (by kernel_rfl)
theorem reads (os : Os) {H : Type} (enc : TypeId × Value → H) : ∃ places, DataW.whole enc Tryd.prog ((world os).forCall (fun _ _ => 0) ⟨#[], #[.slice none 0 0, .int .u16 0, .agg #[.int .u8 0, .int .u8 0, .int .u8 0, .int .u8 0, .int .u8 0, .int .u8 0, .int .u8 0, .int .u8 0]], []⟩).memory Tryd.f8.params.toList Rows.checksumBurstSpec.vars Rows.checksumBurstRow.apart (#[.slice none 0 0, .int .u16 0, .agg #[.int .u8 0, .int .u8 0, .int .u8 0, .int .u8 0, .int .u8 0, .int .u8 0, .int .u8 0, .int .u8 0]] : Array Value).toList 8 = some ([.nil, .lit (.int .u16 0), .agg [.lit (.int .u8 0), .lit (.int .u8 0), .lit (.int .u8 0), .lit (.int .u8 0), .lit (.int .u8 0), .lit (.int .u8 0), .lit (.int .u8 0), .lit (.int .u8 0)]], [], places) :=
  ⟨[], by kernel_rfl⟩
theorem lifted (os : Os) (started : os.Started) (H : Type) (enc : TypeId × Value → H) (F : Stop.Interp) :
    ReturnsInHanded {} Tryd.checked os 8 .any ((OpenSpec.ofChange Rows.checksumBurstSpec).preRow enc Tryd.prog Tryd.f8 Rows.checksumBurstRow.domain Rows.checksumBurstRow.apart Rows.checksumBurstRow.laid) (((OpenSpec.ofChange Rows.checksumBurstSpec).at F).post enc Tryd.prog Tryd.f8 Rows.checksumBurstRow.apart true false false) := by
  obtain ⟨places, hx⟩ := reads os enc
  refine returnsInHanded_of_row (C := Tryd.checked) (s := OpenSpec.ofChange Rows.checksumBurstSpec) own started (by kernel_rfl) Tryd.func8
    (witness_row_at (enc := enc) (C := Tryd.checked) false (world os) #[.slice none 0 0, .int .u16 0, .agg #[.int .u8 0, .int .u8 0, .int .u8 0, .int .u8 0, .int .u8 0, .int .u8 0, .int .u8 0, .int .u8 0]] rfl (by kernel_rfl) (by kernel_rfl) (by kernel_rfl)
      (OpenSpec.preRow_of_cond 8 hx (by kernel_rfl) (fun k hk => by cases hk) (by kernel_rfl) (laid_met os))) ?_
  intro W base args ds gs before hval hW _ _ _ hL _ _
  exact contract H enc W base args ds gs before hval hW hL
theorem said : Rows.ChecksumBurstSaid :=
  OpenClaim.holds_of_cond 8 Tryd.f8 rfl rfl rfl rfl rfl rfl rfl ⟨rfl, rfl, rfl, rfl, rfl⟩ rfl rfl rfl rfl rfl (by kernel_rfl) Tryd.func8 (by kernel_rfl)
    (of_decide_eq_true (by kernel_rfl)) (by unfold Func.isWrapper; first | (rw [if_pos (by decide +kernel)]; kernel_rfl) | (rw [if_neg (by decide +kernel)]; exact ⟨rfl, rfl⟩))
    (fun os started H enc _ F => by rw [OpenClaim.pre_eq_preRow]; exact lifted os started H enc F)
theorem plain (f : FuncId) (fn : Func) (hf : Tryd.pinned.checked.prog.funcNamed "disjoint/disjointlaw06.ChecksumBurst" = some f) (hfn : Tryd.pinned.checked.prog.funcs[f]? = some fn) :
    false = Tryd.pinned.checked.prog.looks [] ∧ ∀ (j : Nat) t, fn.params[j]? = some t → Tryd.pinned.checked.prog.wantsStandIn t = false := by
  obtain rfl : f = 8 := Option.some.inj ((show Tryd.prog.funcNamed "disjoint/disjointlaw06.ChecksumBurst" = some 8 by kernel_rfl).symm.trans hf) |>.symm
  obtain rfl : fn = Tryd.f8 := (Option.some.inj (Tryd.func8.symm.trans hfn)).symm
  refine ⟨by kernel_rfl, fun j t ht => ?_⟩
  rw [Tryd.params8] at ht
  have h := Array.mem_of_getElem? ht
  exact (show ∀ t ∈ (#[22, 35, 36] : Array TypeId), Tryd.prog.wantsStandIn t = false from of_decide_eq_true (by kernel_rfl)) t h
theorem card : Rows.ChecksumBurstCardSaid :=
  Claim7.holds_tied_plain_at .later [] _ _ _ _ said (fun _ h => by cases h) (by kernel_rfl) (fun _ h => by cases h) checksumBurst_row_tie rfl ⟨rfl, rfl⟩ (by kernel_rfl) rfl plain (by kernel_rfl)
end checksumBurst
end Go.Proofs.YtpfbdhfpojbmlaaDoor

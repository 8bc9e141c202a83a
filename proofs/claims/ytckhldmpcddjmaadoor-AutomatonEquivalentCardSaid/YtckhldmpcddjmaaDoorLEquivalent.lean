/- Proved here: the statement of AutomatonEquivalent: for every input the law returns true, and its arguments read afterwards as before. Condition: the listed package-level variables hold at the start what the program lays in them (the card ties that to the text); the program is a pruned copy of the repository. -/
import Derived.Test.YtckhldmpcddjmaaDoorQ20
import Derived.Test.YtckhldmpcddjmaaDoorKB
import Derived.Test.YtckhldmpcddjmaaDoorWLEquivalent
import Derived.Test.YtckhldmpcddjmaaDoorRows
import Derived.Test.YtckhldmpcddjmaaDoorCards
import Derived.Test.YtckhldmpcddjmaaDoorTie
open Go
open Go.X Go.ChangeShapes Go.WideShapes Go.ChangeAt Go.RowKit Go.D
set_option maxRecDepth 100000
namespace Go.Proofs.YtckhldmpcddjmaaDoor.automatonEquivalent
open Q20 WL
theorem own : ownKnob Tryd.prog.godebug = none := by kernel_rfl
theorem laidOut : laidOutB Tryd.prog = true := by kernel_rfl
theorem contract (H : Type) (enc : TypeId × Value → H) (W : World) (base : Nat) (args : Array Value) (ds gs : List (DataW H)) (before : List MemPlace)
    (hval : ∀ (j : Nat) t v, Tryd.f6.params[j]? = some t → args[j]? = some v → Value.okWide Tryd.prog W .any base t v)
    (hW : DataW.Whole enc Tryd.prog Tryd.f6.params.toList Rows.automatonEquivalentSpec.vars Rows.automatonEquivalentRow.apart W args.toList ds gs before) (hL : laidMet Tryd.prog Rows.automatonEquivalentRow.laid W) :
    Calls Tryd.prog 6 args W fun e W' => ∃ v, e = .returned v ∧ Rows.automatonEquivalentSpec.post enc Tryd.prog Tryd.f6 Rows.automatonEquivalentRow.apart true false false W args v W' := by
  have hW' := hW
  obtain ⟨p, q, hA0, hV, rfl, hfz, hnd⟩ := hW
  have hA : DataW.TrodAll enc Tryd.prog W 0 (fun _ => true) true Tryd.f6.params.toList args.toList ds p := hA0
  rw [Tryd.params6] at hA hval
  obtain ⟨v0, vs0, d0, ds0, p0, q0, ha0, rfl, rfl, h0, r0⟩ := trodAll_cons hA
  obtain ⟨v1, vs1, d1, ds1, p1, q1, ha1, rfl, rfl, h1, r1⟩ := trodAll_cons r0
  obtain ⟨rfl, rfl, rfl⟩ := trodAll_nil r1
  subst ha1
  obtain rfl : args = #[v0, v1] := by cases args; simp_all
  obtain ⟨rfl, rfl⟩ := trodVars_none hV
  obtain ⟨cs0, x0, rfl, R0, g0⟩ := open_struct Tryd.underlying25 o25 (hval 0 25 v0 rfl rfl) h0
  obtain ⟨u0_0, u0_1, rfl, k0_0, k0_1, -⟩ := R0
  obtain ⟨cs1, x1, rfl, R1, g1⟩ := open_struct Tryd.underlying25 o25 (hval 1 25 v1 rfl rfl) h1
  obtain ⟨u1_0, u1_1, rfl, k1_0, k1_1, -⟩ := R1
  have hG : G W := g_of hL
  clear hA0
  obtain ⟨N, r, hr, hr1⟩ := (lawEquivalent_tm (a := x0) (b := x1) (lim_of g0) (wf_of g0) (lim_of g1) (wf_of g1)).get
  subst hr1
  refine (lawEquivalent_w N x0 x1 _ _ _ _ W (fun _ => True) hG k0_0 k0_1 k1_0 k1_1 true hr).mono fun e W' ⟨v, he, hE, hv, _⟩ => ?_
  subst he; subst hv
  exact ⟨_, rfl, post_true laidOut (by rw [Tryd.params6]; exact of_decide_eq_true (by kernel_rfl)) rfl (by kernel_rfl) Tryd.underlying4 hW' rfl hE⟩
noncomputable def world (os : Os) : World := laying (World.holding Tryd.prog os ⟨#[], #[], []⟩) [(1, Rows.laid_math_bits_deBruijn32tab), (2, Rows.laid_math_bits_deBruijn64tab), (0, Rows.laid_internal_strconv_uint64pow10)]
theorem laid_met (os : Os) : laidMet Tryd.prog Rows.automatonEquivalentRow.laid ((world os).forCall (fun _ _ => 0) ⟨#[], #[.agg #[.slice none 0 0, .slice none 0 0], .agg #[.slice none 0 0, .slice none 0 0]], []⟩).memory :=
  laidMet_of_run' 8 (by kernel_rfl) (by kernel_rfl)
theorem reads (os : Os) {H : Type} (enc : TypeId × Value → H) : ∃ places, DataW.whole enc Tryd.prog ((world os).forCall (fun _ _ => 0) ⟨#[], #[.agg #[.slice none 0 0, .slice none 0 0], .agg #[.slice none 0 0, .slice none 0 0]], []⟩).memory Tryd.f6.params.toList Rows.automatonEquivalentSpec.vars Rows.automatonEquivalentRow.apart (#[.agg #[.slice none 0 0, .slice none 0 0], .agg #[.slice none 0 0, .slice none 0 0]] : Array Value).toList 8 = some ([.agg [.nil, .nil], .agg [.nil, .nil]], [], places) :=
  ⟨[], by kernel_rfl⟩
theorem lifted (os : Os) (started : os.Started) (H : Type) (enc : TypeId × Value → H) (F : Stop.Interp) :
    ReturnsInHanded {} Tryd.checked os 6 .any ((OpenSpec.ofChange Rows.automatonEquivalentSpec).preRow enc Tryd.prog Tryd.f6 Rows.automatonEquivalentRow.domain Rows.automatonEquivalentRow.apart Rows.automatonEquivalentRow.laid) (((OpenSpec.ofChange Rows.automatonEquivalentSpec).at F).post enc Tryd.prog Tryd.f6 Rows.automatonEquivalentRow.apart true false false) := by
  obtain ⟨places, hx⟩ := reads os enc
  refine returnsInHanded_of_row (C := Tryd.checked) (s := (OpenSpec.ofChange Rows.automatonEquivalentSpec)) own started (by kernel_rfl) Tryd.func6
    (witness_row_at (enc := enc) (C := Tryd.checked) false (world os) #[.agg #[.slice none 0 0, .slice none 0 0], .agg #[.slice none 0 0, .slice none 0 0]] rfl (by kernel_rfl) (by kernel_rfl) (by kernel_rfl)
      (OpenSpec.preRow_of_cond 8 hx (by kernel_rfl) (fun k hk => by cases hk) (by kernel_rfl) (laid_met os))) ?_
  intro W base args ds gs before hval hW _ _ _ hL _ _
  exact contract H enc W base args ds gs before hval hW hL
theorem said : Rows.AutomatonEquivalentSaid :=
  OpenClaim.holds_of_cond 6 Tryd.f6 rfl rfl rfl rfl rfl rfl rfl ⟨rfl, rfl, rfl, rfl, rfl⟩ rfl rfl rfl rfl rfl (by kernel_rfl) Tryd.func6 (by kernel_rfl)
    (of_decide_eq_true (by kernel_rfl)) (by unfold Func.isWrapper; first | (rw [if_pos (by decide +kernel)]; kernel_rfl) | (rw [if_neg (by decide +kernel)]; exact ⟨rfl, rfl⟩))
    (fun os started H enc _ F => by rw [OpenClaim.pre_eq_preRow]; exact lifted os started H enc F)
theorem plain (f : FuncId) (fn : Func) (hf : Tryd.pinned.checked.prog.funcNamed "disjoint/disjointlaw20.AutomatonEquivalent" = some f) (hfn : Tryd.pinned.checked.prog.funcs[f]? = some fn) :
    false = Tryd.pinned.checked.prog.looks [] ∧ ∀ (j : Nat) t, fn.params[j]? = some t → Tryd.pinned.checked.prog.wantsStandIn t = false := by
  obtain rfl : f = 6 := Option.some.inj ((show Tryd.prog.funcNamed "disjoint/disjointlaw20.AutomatonEquivalent" = some 6 by kernel_rfl).symm.trans hf) |>.symm
  obtain rfl : fn = Tryd.f6 := (Option.some.inj (Tryd.func6.symm.trans hfn)).symm
  refine ⟨by kernel_rfl, fun j t ht => ?_⟩
  rw [Tryd.params6] at ht
  have h := Array.mem_of_getElem? ht
  exact (show ∀ t ∈ (#[25, 25] : Array TypeId), Tryd.prog.wantsStandIn t = false from of_decide_eq_true (by kernel_rfl)) t h
theorem card : Rows.AutomatonEquivalentCardSaid :=
  Claim7.holds_tied_plain_at .later [] _ _ _ _ said (fun _ h => by cases h) (by kernel_rfl) (fun _ h => by cases h) automatonEquivalent_row_tie rfl ⟨rfl, rfl⟩ (by kernel_rfl) rfl plain (by kernel_rfl)
end Go.Proofs.YtckhldmpcddjmaaDoor.automatonEquivalent

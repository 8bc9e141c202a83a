/- Proved here: the statement of AutomatonAtMost: for every input the law returns true, and its arguments read afterwards as before. Condition: the listed package-level variables hold at the start what the program lays in them (the card ties that to the text); the program is a pruned copy of the repository. -/
import Derived.Test.YtckhldmpcddjmaaDoorQ20
import Derived.Test.YtckhldmpcddjmaaDoorK3
import Derived.Test.YtckhldmpcddjmaaDoorWLAtMost
import Derived.Test.YtckhldmpcddjmaaDoorRows
import Derived.Test.YtckhldmpcddjmaaDoorCards
import Derived.Test.YtckhldmpcddjmaaDoorTie
open Go
open Go.X Go.ChangeShapes Go.WideShapes Go.ChangeAt Go.RowKit Go.D
set_option maxRecDepth 100000
namespace Go.Proofs.YtckhldmpcddjmaaDoor.automatonAtMost
open Q20 WL
theorem own : ownKnob Tryd.prog.godebug = none := by kernel_rfl
theorem laidOut : laidOutB Tryd.prog = true := by kernel_rfl
theorem contract (H : Type) (enc : TypeId × Value → H) (W : World) (base : Nat) (args : Array Value) (ds gs : List (DataW H)) (before : List MemPlace)
    (hval : ∀ (j : Nat) t v, Tryd.f7.params[j]? = some t → args[j]? = some v → Value.okWide Tryd.prog W .any base t v)
    (hW : DataW.Whole enc Tryd.prog Tryd.f7.params.toList Rows.automatonAtMostSpec.vars Rows.automatonAtMostRow.apart W args.toList ds gs before) (hL : laidMet Tryd.prog Rows.automatonAtMostRow.laid W) :
    Calls Tryd.prog 7 args W fun e W' => ∃ v, e = .returned v ∧ Rows.automatonAtMostSpec.post enc Tryd.prog Tryd.f7 Rows.automatonAtMostRow.apart true false false W args v W' := by
  have hW' := hW
  obtain ⟨p, q, hA0, hV, rfl, hfz, hnd⟩ := hW
  have hA : DataW.TrodAll enc Tryd.prog W 0 (fun _ => true) true Tryd.f7.params.toList args.toList ds p := hA0
  rw [Tryd.params7] at hA hval
  obtain ⟨v0, vs0, d0, ds0, p0, q0, ha0, rfl, rfl, h0, r0⟩ := trodAll_cons hA
  obtain ⟨v1, vs1, d1, ds1, p1, q1, ha1, rfl, rfl, h1, r1⟩ := trodAll_cons r0
  obtain ⟨rfl, rfl, rfl⟩ := trodAll_nil r1
  subst ha1
  obtain rfl : args = #[v0, v1] := by cases args; simp_all
  obtain ⟨rfl, rfl⟩ := trodVars_none hV
  obtain ⟨x0, rfl, -, -, g0⟩ := open_int Tryd.underlying3 (hval 0 3 v0 rfl rfl) h0
  obtain ⟨b1, rfl, rfl, rfl, g1⟩ := Go.ChangeMaps.open_string Tryd.underlying9 (hval 1 9 v1 rfl rfl) h1
  obtain ⟨x1, hx1⟩ : ∃ x, b1 = s8 x := ⟨_, s8_of b1⟩
  subst hx1
  clear hA0
  obtain ⟨N, r, hr, hr1⟩ := (lawAtMost_tm (n := x0) (s := x1)).get
  subst hr1
  refine (lawAtMost_w N x0 x1 W (fun _ => True) true hr).mono fun e W' ⟨v, he, hE, hv, _⟩ => ?_
  subst he; subst hv
  exact ⟨_, rfl, post_true laidOut (by rw [Tryd.params7]; exact of_decide_eq_true (by kernel_rfl)) rfl (by kernel_rfl) Tryd.underlying4 hW' rfl hE⟩
noncomputable def world (os : Os) : World := laying (World.holding Tryd.prog os ⟨#[], #[], []⟩) [(1, Rows.laid_math_bits_deBruijn32tab), (2, Rows.laid_math_bits_deBruijn64tab), (0, Rows.laid_internal_strconv_uint64pow10)]
theorem laid_met (os : Os) : laidMet Tryd.prog Rows.automatonAtMostRow.laid ((world os).forCall (fun _ _ => 0) ⟨#[], #[.int .i64 0, .string ⟨#[]⟩], []⟩).memory :=
  laidMet_of_run' 8 (by kernel_rfl) (by kernel_rfl)
theorem reads (os : Os) {H : Type} (enc : TypeId × Value → H) : ∃ places, DataW.whole enc Tryd.prog ((world os).forCall (fun _ _ => 0) ⟨#[], #[.int .i64 0, .string ⟨#[]⟩], []⟩).memory Tryd.f7.params.toList Rows.automatonAtMostSpec.vars Rows.automatonAtMostRow.apart (#[.int .i64 0, .string ⟨#[]⟩] : Array Value).toList 8 = some ([.lit (.int .i64 0), .lit (.string [])], [], places) :=
  ⟨[], by kernel_rfl⟩
theorem lifted (os : Os) (started : os.Started) (H : Type) (enc : TypeId × Value → H) (F : Stop.Interp) :
    ReturnsInHanded {} Tryd.checked os 7 .any ((OpenSpec.ofChange Rows.automatonAtMostSpec).preRow enc Tryd.prog Tryd.f7 Rows.automatonAtMostRow.domain Rows.automatonAtMostRow.apart Rows.automatonAtMostRow.laid) (((OpenSpec.ofChange Rows.automatonAtMostSpec).at F).post enc Tryd.prog Tryd.f7 Rows.automatonAtMostRow.apart true false false) := by
  obtain ⟨places, hx⟩ := reads os enc
  refine returnsInHanded_of_row (C := Tryd.checked) (s := (OpenSpec.ofChange Rows.automatonAtMostSpec)) own started (by kernel_rfl) Tryd.func7
    (witness_row_at (enc := enc) (C := Tryd.checked) false (world os) #[.int .i64 0, .string ⟨#[]⟩] rfl (by kernel_rfl) (by kernel_rfl) (by kernel_rfl)
      (OpenSpec.preRow_of_cond 8 hx (by kernel_rfl) (fun k hk => by cases hk) (by kernel_rfl) (laid_met os))) ?_
  intro W base args ds gs before hval hW _ _ _ hL _ _
  exact contract H enc W base args ds gs before hval hW hL
theorem said : Rows.AutomatonAtMostSaid :=
  OpenClaim.holds_of_cond 7 Tryd.f7 rfl rfl rfl rfl rfl rfl rfl ⟨rfl, rfl, rfl, rfl, rfl⟩ rfl rfl rfl rfl rfl (by kernel_rfl) Tryd.func7 (by kernel_rfl)
    (of_decide_eq_true (by kernel_rfl)) (by unfold Func.isWrapper; first | (rw [if_pos (by decide +kernel)]; kernel_rfl) | (rw [if_neg (by decide +kernel)]; exact ⟨rfl, rfl⟩))
    (fun os started H enc _ F => by rw [OpenClaim.pre_eq_preRow]; exact lifted os started H enc F)
theorem plain (f : FuncId) (fn : Func) (hf : Tryd.pinned.checked.prog.funcNamed "disjoint/disjointlaw20.AutomatonAtMost" = some f) (hfn : Tryd.pinned.checked.prog.funcs[f]? = some fn) :
    false = Tryd.pinned.checked.prog.looks [] ∧ ∀ (j : Nat) t, fn.params[j]? = some t → Tryd.pinned.checked.prog.wantsStandIn t = false := by
  obtain rfl : f = 7 := Option.some.inj ((show Tryd.prog.funcNamed "disjoint/disjointlaw20.AutomatonAtMost" = some 7 by kernel_rfl).symm.trans hf) |>.symm
  obtain rfl : fn = Tryd.f7 := (Option.some.inj (Tryd.func7.symm.trans hfn)).symm
  refine ⟨by kernel_rfl, fun j t ht => ?_⟩
  rw [Tryd.params7] at ht
  have h := Array.mem_of_getElem? ht
  exact (show ∀ t ∈ (#[3, 9] : Array TypeId), Tryd.prog.wantsStandIn t = false from of_decide_eq_true (by kernel_rfl)) t h
theorem card : Rows.AutomatonAtMostCardSaid :=
  Claim7.holds_tied_plain_at .later [] _ _ _ _ said (fun _ h => by cases h) (by kernel_rfl) (fun _ h => by cases h) automatonAtMost_row_tie rfl ⟨rfl, rfl⟩ (by kernel_rfl) rfl plain (by kernel_rfl)
end Go.Proofs.YtckhldmpcddjmaaDoor.automatonAtMost

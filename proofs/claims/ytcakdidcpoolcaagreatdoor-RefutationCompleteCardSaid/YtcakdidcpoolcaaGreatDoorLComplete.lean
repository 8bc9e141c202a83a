/- Proved here: the statement of RefutationComplete: for every input the law returns true, and its arguments read afterwards as before. Condition: the listed package-level variables hold at the start what the program lays in them (the card ties that to the text); the program is a pruned copy of the repository. -/
import Derived.Test.YtcakdidcpoolcaaGreatDoorAd
import Derived.Test.YtcakdidcpoolcaaGreatDoorAe
import Derived.Test.YtcakdidcpoolcaaGreatDoorSL
import Derived.Test.YtcakdidcpoolcaaGreatDoorRows
import Derived.Test.YtcakdidcpoolcaaGreatDoorCards
import Derived.Test.YtcakdidcpoolcaaGreatDoorTie
open Go
open Go.X Go.ChangeShapes Go.WideShapes Go.ChangeAt Go.RowKit Go.D
set_option maxRecDepth 100000
set_option linter.unusedVariables false
namespace Go.Proofs.YtcakdidcpoolcaaGreatDoor.refutationComplete
open Q25 SL Go.Q
theorem own : ownKnob Tryz.prog.godebug = none := by kernel_rfl
theorem laidOut : laidOutB Tryz.prog = true := by kernel_rfl
theorem slice_w {t e : TypeId} {n : Nat} {α : Type} {r : Rep α} {H : Type} {enc : TypeId × Value → H} {W : World} {fuel : Nat} {cs : List Value} {x : DataW H × List MemPlace} {v : Value} {xs : List α} (ht : Tryz.prog.underlying t = some (.slice e)) (hb : Tryz.prog.bytesOf e = n) (h : DataW.trod enc Tryz.prog W 0 (fun _ => true) true fuel t cs = some x) (hc : cs = [v]) (hR : Rs r (HW W) v xs) (hw : (x.1.weights Tryz.prog t).all (· ≤ reachBytes) = true) : xs.length * n ≤ 140737488351232 := by
  rcases DataW.trod_slice ht h with ⟨g1, g2⟩ | ⟨a, len, cap, elems, rest, m, hn, g1, g2, hbb, hl, hm, hlen, hel, hsp, hns⟩
  · have : v = .slice none 0 0 := by rw [hc] at g1; exact (List.cons.inj g1).1
    subst this
    rcases hR with ⟨_, rfl⟩ | ⟨b, o, cap, hv, _⟩
    · simp
    · cases hv
  · have : v = .slice (some a) len cap := by rw [hc] at g1; exact (List.cons.inj g1).1
    subst this
    have hx : xs.length ≤ len := by
      rcases hR with ⟨_, rfl⟩ | ⟨b, o, cap, hv, _⟩
      · simp
      · cases hv; exact Nat.le_refl _
    rw [g2] at hw
    unfold DataW.weights at hw
    rw [ht] at hw
    simp only [List.all_cons, Bool.and_eq_true, decide_eq_true_eq, hb] at hw
    have h1 := hw.1
    simp only [reachBytes, List.length_map] at h1
    have h2 : xs.length * n ≤ elems.length * n := Nat.mul_le_mul_right _ (by omega)
    have h3 : elems.length * n ≤ (elems.length + rest.length) * n := Nat.mul_le_mul_right _ (by omega)
    first | omega | (have := h1; simp at this; omega)
theorem contract (H : Type) (enc : TypeId × Value → H) (W : World) (base : Nat) (args : Array Value) (ds gs : List (DataW H)) (before : List MemPlace)
    (hval : ∀ (j : Nat) t v, Tryz.f5.params[j]? = some t → args[j]? = some v → Value.okWide Tryz.prog W .any base t v)
    (hW : DataW.Whole enc Tryz.prog Tryz.f5.params.toList Rows.refutationCompleteSpec.vars Rows.refutationCompleteRow.apart W args.toList ds gs before) (hL : laidMet Tryz.prog Rows.refutationCompleteRow.laid W) (hw : (DataW.weightsEach Tryz.prog (Tryz.f5.params.toList ++ (OpenSpec.ofChange Rows.refutationCompleteSpec).bare.plain.varTypes Tryz.prog) (ds ++ gs)).all (· ≤ reachBytes) = true) :
    Calls Tryz.prog 5 args W fun e W' => ∃ v, e = .returned v ∧ Rows.refutationCompleteSpec.post enc Tryz.prog Tryz.f5 Rows.refutationCompleteRow.apart true false false W args v W' := by
  have hW' := hW
  obtain ⟨p, q, hA0, hV, rfl, hfz, hnd⟩ := hW
  have hA : DataW.TrodAll enc Tryz.prog W 0 (fun _ => true) true Tryz.f5.params.toList args.toList ds p := hA0
  rw [Tryz.params5] at hA hval
  obtain ⟨v0, vs0, d0, ds0, p0, q0, ha0, rfl, rfl, h0, r0⟩ := trodAll_cons hA
  obtain ⟨rfl, rfl, rfl⟩ := trodAll_nil r0
  obtain rfl : args = #[v0] := by cases args; simp_all
  obtain ⟨rfl, rfl⟩ := trodVars_none hV
  obtain ⟨cs0, x0, rfl, R0, g0⟩ := open_struct Tryz.underlying33 o33 (hval 0 33 v0 rfl rfl) h0
  have R0x := R0
  obtain ⟨u0_0, u0_1, u0_2, u0_3, u0_4, u0_5, u0_6, u0_7, u0_8, u0_9, rfl, k0_0, k0_1, k0_2, k0_3, k0_4, k0_5, k0_6, k0_7, k0_8, k0_9, -⟩ := R0
  have hw1 : LwC x0.C := by
    rw [Tryz.params5] at hw
    have hwS := (weights_cons (P := Tryz.prog) (t := 33) (ts := []) (d := d0) (r := []) hw).1
    obtain ⟨fu, hfS⟩ := h0
    obtain ⟨_, mS, _, esS, e1S, e2S, e3S⟩ := trod_fieldsT Tryz.underlying33 hfS
    have e1S : d0 = .agg esS := e1S
    rw [e1S] at hwS
    match esS, e2S, e3S with
    | [yS_0, yS_1, yS_2, yS_3], _, e3S =>
      unfold DataW.weights at hwS
      rw [Tryz.underlying33] at hwS
      obtain ⟨wS_0, aS_0⟩ := weights_cons hwS
      obtain ⟨wS_1, aS_1⟩ := weights_cons aS_0
      obtain ⟨wS_2, aS_2⟩ := weights_cons aS_1
      obtain ⟨wS_3, aS_3⟩ := weights_cons aS_2
      obtain ⟨zS_1, fS_1, gS_1⟩ := e3S 1 _ rfl
      have hy1 : yS_1 = zS_1.1 := Option.some.inj gS_1
      rw [hy1] at wS_1
      obtain ⟨_, mC, _, esC, e1C, e2C, e3C⟩ := trod_fieldsT Tryz.underlying29 fS_1
      have e1C : zS_1.1 = .agg esC := e1C
      rw [e1C] at wS_1
      match esC, e2C, e3C with
      | [yC_0, yC_1, yC_2, yC_3, yC_4, yC_5, yC_6], _, e3C =>
        unfold DataW.weights at wS_1
        rw [Tryz.underlying29] at wS_1
        obtain ⟨wC_0, aC_0⟩ := weights_cons wS_1
        obtain ⟨wC_1, aC_1⟩ := weights_cons aC_0
        obtain ⟨wC_2, aC_2⟩ := weights_cons aC_1
        obtain ⟨wC_3, aC_3⟩ := weights_cons aC_2
        obtain ⟨wC_4, aC_4⟩ := weights_cons aC_3
        obtain ⟨wC_5, aC_5⟩ := weights_cons aC_4
        obtain ⟨wC_6, aC_6⟩ := weights_cons aC_5
        obtain ⟨zC_0, fC_0, gC_0⟩ := e3C 0 _ rfl
        have bC_0 := slice_w (n := 8) Tryz.underlying23 (by kernel_rfl) fC_0 rfl k0_1 (by have := Option.some.inj gC_0; rw [← this]; exact wC_0)
        obtain ⟨zC_1, fC_1, gC_1⟩ := e3C 1 _ rfl
        have bC_1 := slice_w (n := 8) Tryz.underlying23 (by kernel_rfl) fC_1 rfl k0_2 (by have := Option.some.inj gC_1; rw [← this]; exact wC_1)
        obtain ⟨zC_2, fC_2, gC_2⟩ := e3C 2 _ rfl
        have bC_2 := slice_w (n := 48) Tryz.underlying24 (by kernel_rfl) fC_2 rfl k0_3 (by have := Option.some.inj gC_2; rw [← this]; exact wC_2)
        obtain ⟨zC_3, fC_3, gC_3⟩ := e3C 3 _ rfl
        have bC_3 := slice_w (n := 40) Tryz.underlying25 (by kernel_rfl) fC_3 rfl k0_4 (by have := Option.some.inj gC_3; rw [← this]; exact wC_3)
        obtain ⟨zC_4, fC_4, gC_4⟩ := e3C 4 _ rfl
        have bC_4 := slice_w (n := 40) Tryz.underlying26 (by kernel_rfl) fC_4 rfl k0_5 (by have := Option.some.inj gC_4; rw [← this]; exact wC_4)
        obtain ⟨zC_5, fC_5, gC_5⟩ := e3C 5 _ rfl
        have bC_5 := slice_w (n := 16) Tryz.underlying27 (by kernel_rfl) fC_5 rfl k0_6 (by have := Option.some.inj gC_5; rw [← this]; exact wC_5)
        obtain ⟨zC_6, fC_6, gC_6⟩ := e3C 6 _ rfl
        have bC_6 := slice_w (n := 16) Tryz.underlying27 (by kernel_rfl) fC_6 rfl k0_7 (by have := Option.some.inj gC_6; rw [← this]; exact wC_6)
        exact ⟨by omega, by omega, by omega, by omega, by omega, by omega, by omega⟩
  clear hA0
  obtain ⟨N, r, hr, hr1⟩ := (lawComplete_tm (x := x0) (limx_of g0 hw1) (limr_of g0).1 (limr_of g0).2).get
  subst hr1
  refine (law_calls (lawComplete_c N x0 true hr) ⟨_, [], rfl, ⟨_, rfl, Opn.op R0x⟩, rfl⟩).mono fun e W' ⟨v, he, hE, hv, _⟩ => ?_
  subst he; subst hv
  exact ⟨_, rfl, post_true laidOut (by rw [Tryz.params5]; exact of_decide_eq_true (by kernel_rfl)) rfl (by kernel_rfl) Tryz.underlying4 hW' rfl hE⟩
noncomputable def world (os : Os) : World := laying (World.holding Tryz.prog os ⟨#[], #[], []⟩) [(1, Rows.laid_math_bits_deBruijn32tab), (2, Rows.laid_math_bits_deBruijn64tab), (0, Rows.laid_internal_strconv_uint64pow10)]
theorem laid_met (os : Os) : laidMet Tryz.prog Rows.refutationCompleteRow.laid ((world os).forCall (fun _ _ => 0) ⟨#[], #[.agg #[.slice none 0 0, .slice none 0 0, .slice none 0 0, .slice none 0 0, .slice none 0 0, .slice none 0 0, .slice none 0 0, .slice none 0 0, .slice none 0 0, .slice none 0 0]], []⟩).memory :=
  laidMet_of_run' 8 (by kernel_rfl) (by kernel_rfl)
theorem reads (os : Os) {H : Type} (enc : TypeId × Value → H) : ∃ places, DataW.whole enc Tryz.prog ((world os).forCall (fun _ _ => 0) ⟨#[], #[.agg #[.slice none 0 0, .slice none 0 0, .slice none 0 0, .slice none 0 0, .slice none 0 0, .slice none 0 0, .slice none 0 0, .slice none 0 0, .slice none 0 0, .slice none 0 0]], []⟩).memory Tryz.f5.params.toList Rows.refutationCompleteSpec.vars Rows.refutationCompleteRow.apart (#[.agg #[.slice none 0 0, .slice none 0 0, .slice none 0 0, .slice none 0 0, .slice none 0 0, .slice none 0 0, .slice none 0 0, .slice none 0 0, .slice none 0 0, .slice none 0 0]] : Array Value).toList 8 = some ([.agg [.nil, .agg [.nil, .nil, .nil, .nil, .nil, .nil, .nil], .nil, .nil]], [], places) :=
  ⟨[], by kernel_rfl⟩
theorem lifted (os : Os) (started : os.Started) (H : Type) (enc : TypeId × Value → H) (F : Stop.Interp) :
    ReturnsInHanded {} Tryz.checked os 5 .any ((OpenSpec.ofChange Rows.refutationCompleteSpec).preRow enc Tryz.prog Tryz.f5 Rows.refutationCompleteRow.domain Rows.refutationCompleteRow.apart Rows.refutationCompleteRow.laid) (((OpenSpec.ofChange Rows.refutationCompleteSpec).at F).post enc Tryz.prog Tryz.f5 Rows.refutationCompleteRow.apart true false false) := by
  obtain ⟨places, hx⟩ := reads os enc
  refine returnsInHanded_of_row (C := Tryz.checked) (s := (OpenSpec.ofChange Rows.refutationCompleteSpec)) own started (by kernel_rfl) Tryz.func5
    (witness_row_at (enc := enc) (C := Tryz.checked) false (world os) #[.agg #[.slice none 0 0, .slice none 0 0, .slice none 0 0, .slice none 0 0, .slice none 0 0, .slice none 0 0, .slice none 0 0, .slice none 0 0, .slice none 0 0, .slice none 0 0]] rfl (by kernel_rfl) (by kernel_rfl) (by kernel_rfl)
      (OpenSpec.preRow_of_cond 8 hx (by kernel_rfl) (fun k hk => by cases hk) (by kernel_rfl) (laid_met os))) ?_
  intro W base args ds gs before hval hW _ hk hw hL _ _
  exact contract H enc W base args ds gs before hval hW hL hw
theorem said : Rows.RefutationCompleteSaid :=
  OpenClaim.holds_of_cond 5 Tryz.f5 rfl rfl rfl rfl rfl rfl rfl ⟨rfl, rfl, rfl, rfl, rfl⟩ rfl rfl rfl rfl rfl (by kernel_rfl) Tryz.func5 (by kernel_rfl)
    (of_decide_eq_true (by kernel_rfl)) (by unfold Func.isWrapper; first | (rw [if_pos (by decide +kernel)]; kernel_rfl) | (rw [if_neg (by decide +kernel)]; exact ⟨rfl, rfl⟩))
    (fun os started H enc _ F => by rw [OpenClaim.pre_eq_preRow]; exact lifted os started H enc F)
theorem plain (f : FuncId) (fn : Func) (hf : Tryz.pinned.checked.prog.funcNamed "disjoint/disjointlaw25.RefutationComplete" = some f) (hfn : Tryz.pinned.checked.prog.funcs[f]? = some fn) :
    false = Tryz.pinned.checked.prog.looks [] ∧ ∀ (j : Nat) t, fn.params[j]? = some t → Tryz.pinned.checked.prog.wantsStandIn t = false := by
  obtain rfl : f = 5 := Option.some.inj ((show Tryz.prog.funcNamed "disjoint/disjointlaw25.RefutationComplete" = some 5 by kernel_rfl).symm.trans hf) |>.symm
  obtain rfl : fn = Tryz.f5 := (Option.some.inj (Tryz.func5.symm.trans hfn)).symm
  refine ⟨by kernel_rfl, fun j t ht => ?_⟩
  rw [Tryz.params5] at ht
  have h := Array.mem_of_getElem? ht
  exact (show ∀ t ∈ (#[33] : Array TypeId), Tryz.prog.wantsStandIn t = false from of_decide_eq_true (by kernel_rfl)) t h
theorem card : Rows.RefutationCompleteCardSaid :=
  Claim7.holds_tied_plain_at .later [] _ _ _ _ said (fun _ h => by cases h) (by kernel_rfl) (fun _ h => by cases h) refutationComplete_row_tie rfl ⟨rfl, rfl⟩ (by kernel_rfl) rfl plain (by kernel_rfl)
end Go.Proofs.YtcakdidcpoolcaaGreatDoor.refutationComplete

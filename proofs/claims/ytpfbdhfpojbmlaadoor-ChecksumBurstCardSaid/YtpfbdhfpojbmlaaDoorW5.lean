/- Walks. Written by a program of mine (wip/tool/gen.py); the kernel checks them. -/
import Derived.Test.YtpfbdhfpojbmlaaDoorProg
import Derived.Test.YtpfbdhfpojbmlaaDoorX10
import Derived.Test.YtpfbdhfpojbmlaaDoorM06
import Derived.Test.YtpfbdhfpojbmlaaDoorW1
import Derived.Test.YtpfbdhfpojbmlaaDoorW2
import Derived.Test.YtpfbdhfpojbmlaaDoorW3
import Derived.Test.YtpfbdhfpojbmlaaDoorM06b
import Derived.Test.YtpfbdhfpojbmlaaDoorX13
namespace Go.Proofs.YtpfbdhfpojbmlaaDoor.P5
open Go Go.RowKit Go.X Go.C06 Go.Proofs.YtpfbdhfpojbmlaaDoor.P2 Go.Proofs.YtpfbdhfpojbmlaaDoor.P3

theorem mixed : Tryd.prog.follows .mixedOrders = true := by kernel_rfl

theorem ti5 : TI Tryd.prog 5 1 1 (Value.int .u8 0) := TI.mk (by kernel_rfl)
theorem ti36 : TI Tryd.prog 36 8 8 (Value.agg #[(Value.int .u8 0), (Value.int .u8 0), (Value.int .u8 0), (Value.int .u8 0), (Value.int .u8 0), (Value.int .u8 0), (Value.int .u8 0), (Value.int .u8 0)]) := TI.mk (by kernel_rfl)
theorem en11 : Enters Tryd.prog 11 := ⟨Tryd.f11, Tryd.func11, by kernel_rfl, by kernel_rfl⟩
theorem en12 : Enters Tryd.prog 12 := ⟨Tryd.f12, Tryd.func12, by kernel_rfl, by kernel_rfl⟩
theorem en13 : Enters Tryd.prog 13 := ⟨Tryd.f13, Tryd.func13, by kernel_rfl, by kernel_rfl⟩
theorem en15 : Enters Tryd.prog 15 := ⟨Tryd.f15, Tryd.func15, by kernel_rfl, by kernel_rfl⟩
theorem en17 : Enters Tryd.prog 17 := ⟨Tryd.f17, Tryd.func17, by kernel_rfl, by kernel_rfl⟩
theorem en18 : Enters Tryd.prog 18 := ⟨Tryd.f18, Tryd.func18, by kernel_rfl, by kernel_rfl⟩
theorem en19 : Enters Tryd.prog 19 := ⟨Tryd.f19, Tryd.func19, by kernel_rfl, by kernel_rfl⟩
theorem en24 : Enters Tryd.prog 24 := ⟨Tryd.f24, Tryd.func24, by kernel_rfl, by kernel_rfl⟩
theorem en25 : Enters Tryd.prog 25 := ⟨Tryd.f25, Tryd.func25, by kernel_rfl, by kernel_rfl⟩
theorem en26 : Enters Tryd.prog 26 := ⟨Tryd.f26, Tryd.func26, by kernel_rfl, by kernel_rfl⟩
theorem check_o (b_v : Value) (b : List (Nat)) (b_ok : ∀ x ∈ b, x < 256) (b_ln : b.length ≤ 1000000) (B : List (Option Nat)) (w : World) (hB : Bok B w) (h_b : Ints .u8 (view B w) b_v b)  :
    Calls Tryd.prog 18 #[b_v] w (Ret w (fun r w' => ∃ r0 : Value, (Value.tuple #[r0, (Value.int .i64 ((checkN b).2 : Int))]) = r ∧ HandsInts .u8 w w' r0 ((checkN b).1))) := by
  have hL := Loc.start hB
  refine calls_of (l := [b_v]) (rl := [.tmp 2, .tmp 3]) (n := 24) Tryd.func18 rfl rfl rfl (by simp) ?_
  refine Swp.seq ?_
  refine Swp.region rfl ?_
  refine Rl.op (OpY.assign (v := (Value.slice none 0 0)) rfl ?_)
  refine Rl.op (OpY.assign (v := (Value.int .i64 ((0 : Nat) : Int))) rfl ?_)
  refine Rl.nil ?_
  refine Swp.seq ?_
  refine Swp.seq ?_
  refine Swp.region rfl ?_
  refine Rl.op (OpY.move (v := b_v) rfl ?_)
  refine Rl.op (OpY.len_sl Tryd.underlying22 rfl h_b ?_)
  refine Rl.op (OpY.lss (x := ((b.length : Nat) : Int)) (y := ((8 : Nat) : Int)) (b.length < 8) rfl rfl (by omega) ?_)
  refine Rl.nil ?_
  refine Swp.cond_d (b.length < 8) rfl (fun hc1 => ?_) (fun hc1 => ?_)
  ·
    skip
    refine Swp.seq ?_
    refine Swp.region rfl ?_
    refine Rl.op (OpY.assign (v := (Value.slice none 0 0)) rfl ?_)
    refine Rl.op (OpY.assign (v := (Value.int .i64 ((2 : Nat) : Int))) rfl ?_)
    refine Rl.nil ?_
    refine Swp.ret ?_
    refine ⟨[(Value.slice none 0 0), (Value.int .i64 ((2 : Nat) : Int))], ⟨rfl, ⟨rfl, trivial⟩⟩, ?_⟩
    refine ⟨_, rfl, hL.done, ?_⟩
    refine ⟨(Value.slice none 0 0), ?_, ?_⟩
    · rw [checkN_short (by assumption)]; rfl
    ·
      have hq : ([] : List Nat) = (checkN b).1 := by (rw [checkN_short (by assumption)])
      rw [← hq]
      exact ⟨none, 0, [], rfl, (fun _ h => by cases h), rfl, rfl⟩
  ·
    skip
    refine Swp.skip ?_
    refine Swp.seq ?_
    refine Swp.region rfl ?_
    refine Rl.op (OpY.move (v := b_v) rfl ?_)
    refine Rl.op (OpY.move (v := b_v) rfl ?_)
    refine Rl.op (OpY.len_sl Tryd.underlying22 rfl h_b ?_)
    refine Rl.op (OpY.sub (x := ((b.length : Nat) : Int)) (y := ((8 : Nat) : Int)) (z := (((b.length - 8) : Nat) : Int)) rfl rfl (wq_i64 (by omega) (by omega) (by omega)) ?_)
    refine Rl.op (OpY.slice_sl (l := 0) (h := (b.length - 8)) Tryd.underlying22 ti5 rfl h_b (.inl ⟨rfl, rfl⟩) (.inr ⟨_, _, rfl, rfl⟩) (by first | omega | (simp; done) | (simp; omega)) (by first | omega | (simp; done) | (simp; omega)) ?_)
    intro v2 hcut3
    simp only [List.drop_zero] at hcut3
    have hf4 : Ints .u8 (view ([] ++ B) w) v2 ((b).take ((b.length - 8))) := hcut3 _ h_b
    clear hcut3
    refine Rl.op (OpY.assign (v := v2) rfl ?_)
    refine Rl.nil ?_
    refine Swp.seq ?_
    refine Swp.seq ?_
    refine Swp.draw 7 [.det v2, .det (Value.int .u64 ((crcN 0 (((b).take ((b.length - 8)))) : Nat) : Int)), .rel (fun v w' => ∃ r0_20 : Value, r0_20 = v ∧ (∀ A, Bok A w → Ints .u8 (view ([] ++ A) w') r0_20 (bytesN (crcN 0 (((b).take ((b.length - 8)))))))), .det b_v, .det v2, .det (Value.int .i64 ((((b).take ((b.length - 8))).length : Nat) : Int)), .rel (fun v w' => ∃ v42 : Value, v42 = v ∧ (Ints .u8 (view ([] ++ B) w') v42 ((b).drop (((b).take ((b.length - 8))).length))))] mixed rfl rfl (⟨fun v w w' hE => by rintro ⟨r0_20, rfl, k0⟩; exact ⟨r0_20, rfl, fun A hA => (k0 A hA).mono (hE.le _)⟩, ⟨fun v w w' hE => by rintro ⟨v42, rfl, k0⟩; exact ⟨v42, rfl, k0.mono (hE.le _)⟩, trivial⟩⟩) ?_
    intro w5 hE6
    replace h_b := h_b.mono (hE6.le ([] ++ B))
    replace hf4 := hf4.mono (hE6.le ([] ++ B))
    have hL7 := hL.ext hE6
    refine DrG.det ?_ ?_
    ·
      rintro w8 hE9 ⟨-⟩
      replace h_b := h_b.mono (hE9.le ([] ++ B))
      replace hf4 := hf4.mono (hE9.le ([] ++ B))
      have hL11 := hL7.ext hE9
      refine GOp.op (OpY.move (v := v2) rfl ?_)
      exact ⟨Ext.refl _, rfl⟩
    refine DrG.det ?_ ?_
    ·
      rintro w12 hE13 ⟨-⟩
      replace h_b := h_b.mono (hE13.le ([] ++ B))
      replace hf4 := hf4.mono (hE13.le ([] ++ B))
      have hL15 := hL7.ext hE13
      refine GOp.op (OpY.callq (v := (Value.int .u64 ((crcN 0 (((b).take ((b.length - 8)))) : Nat) : Int))) en12 rfl rfl (csum_c v2 (((b).take ((b.length - 8)))) ((ok_take b_ok)) (by first | assumption | omega | (simp; done) | (simp; omega)) ([] ++ B) _ hL15.bokO hf4 ) ?_)
      exact ⟨Ext.refl _, rfl⟩
    refine DrG.rel ?_ ?_
    ·
      rintro w16 hE17 ⟨-⟩
      replace h_b := h_b.mono (hE17.le ([] ++ B))
      replace hf4 := hf4.mono (hE17.le ([] ++ B))
      have hL19 := hL7.ext hE17
      refine GOp.op (OpY.call en25 rfl rfl (encode_c (crcN 0 (((b).take ((b.length - 8))))) ((crcN_lt _ _)) ([] ++ B) _ hL19.bokO  ) ?_)
      rintro r20 w21 hE22 ⟨r0_23, rfl, hr24⟩
      replace h_b := h_b.mono (hE22.le ([] ++ B))
      replace hf4 := hf4.mono (hE22.le ([] ++ B))
      have hf26 := Fr.atO hr24 hL19
      have hL25 := hL19.ext hE22
      exact ⟨hE22, r0_23, rfl, hf26⟩
    intro v27
    refine DrG.det ?_ ?_
    ·
      rintro w28 hE29 ⟨-, -⟩
      replace h_b := h_b.mono (hE29.le ([] ++ B))
      replace hf4 := hf4.mono (hE29.le ([] ++ B))
      have hL31 := hL7.ext hE29
      refine GOp.op (OpY.move (v := b_v) rfl ?_)
      exact ⟨Ext.refl _, rfl⟩
    refine DrG.det ?_ ?_
    ·
      rintro w32 hE33 ⟨-, -⟩
      replace h_b := h_b.mono (hE33.le ([] ++ B))
      replace hf4 := hf4.mono (hE33.le ([] ++ B))
      have hL35 := hL7.ext hE33
      refine GOp.op (OpY.move (v := v2) rfl ?_)
      exact ⟨Ext.refl _, rfl⟩
    refine DrG.det ?_ ?_
    ·
      rintro w36 hE37 ⟨-, -⟩
      replace h_b := h_b.mono (hE37.le ([] ++ B))
      replace hf4 := hf4.mono (hE37.le ([] ++ B))
      have hL39 := hL7.ext hE37
      refine GOp.op (OpY.len_sl Tryd.underlying22 rfl hf4 ?_)
      exact ⟨Ext.refl _, rfl⟩
    refine DrG.rel ?_ ?_
    ·
      rintro w40 hE41 ⟨-, -⟩
      replace h_b := h_b.mono (hE41.le ([] ++ B))
      replace hf4 := hf4.mono (hE41.le ([] ++ B))
      have hL43 := hL7.ext hE41
      refine GOp.op (OpY.slice_sl (l := ((b).take ((b.length - 8))).length) (h := b.length) Tryd.underlying22 ti5 rfl h_b (.inr ⟨_, _, rfl, rfl⟩) (.inl ⟨rfl, rfl⟩) (by first | omega | (simp; done) | (simp; omega)) (by first | omega | (simp; done) | (simp; omega)) ?_)
      intro v44 hcut45
      simp only [List.take_length] at hcut45
      have hf46 : Ints .u8 (view ([] ++ B) w40) v44 ((b).drop (((b).take ((b.length - 8))).length)) := hcut45 _ h_b
      clear hcut45
      exact ⟨Ext.refl _, v44, rfl, hf46⟩
    intro v47
    refine DrG.fin ?_
    rintro w48 hE49 ⟨⟨v44, rfl, hf46⟩, ⟨r0_23, rfl, hf26⟩, -⟩
    replace h_b := h_b.mono (hE49.le ([] ++ B))
    replace hf4 := hf4.mono (hE49.le ([] ++ B))
    have hL50 := hL7.ext hE49
    refine Rl.op (OpY.callq (v := (Value.bool (decide (((bytesN (crcN 0 (((b).take ((b.length - 8))))))) = (((b).drop (((b).take ((b.length - 8))).length))))))) en26 rfl rfl (equal_c r0_23 ((bytesN (crcN 0 (((b).take ((b.length - 8))))))) ((bytesN_ok (crcN 0 (((b).take ((b.length - 8))))))) (by first | assumption | omega | (simp; done) | (simp; omega)) v44 (((b).drop (((b).take ((b.length - 8))).length))) ((ok_drop b_ok)) (by first | assumption | omega | (simp; done) | (simp; omega)) ([] ++ B) _ hL50.bokO (hf26 B hB) hf46 ) ?_)
    refine Rl.op (OpY.not_d (p := ((bytesN (crcN 0 (((b).take ((b.length - 8))))))) = (((b).drop (((b).take ((b.length - 8))).length)))) rfl ?_)
    refine Rl.nil ?_
    refine Swp.cond_d (¬ (((bytesN (crcN 0 (((b).take ((b.length - 8))))))) = (((b).drop (((b).take ((b.length - 8))).length))))) rfl (fun hc51 => ?_) (fun hc51 => ?_)
    ·
      skip
      refine Swp.seq ?_
      refine Swp.region rfl ?_
      refine Rl.op (OpY.assign (v := (Value.slice none 0 0)) rfl ?_)
      refine Rl.op (OpY.assign (v := (Value.int .i64 ((17 : Nat) : Int))) rfl ?_)
      refine Rl.nil ?_
      refine Swp.ret ?_
      refine ⟨[(Value.slice none 0 0), (Value.int .i64 ((17 : Nat) : Int))], ⟨rfl, ⟨rfl, trivial⟩⟩, ?_⟩
      refine ⟨_, rfl, hL50.done, ?_⟩
      refine ⟨(Value.slice none 0 0), ?_, ?_⟩
      · rw [checkN_bad (by assumption) (by have h9 := take_len (b := b); simp only [h9] at *; assumption)]; rfl
      ·
        have hq : ([] : List Nat) = (checkN b).1 := by (rw [checkN_bad (by assumption) (by have h9 := take_len (b := b); simp only [h9] at *; assumption)])
        rw [← hq]
        exact ⟨none, 0, [], rfl, (fun _ h => by cases h), rfl, rfl⟩
    ·
      skip
      refine Swp.skip ?_
      refine Swp.seq ?_
      refine Swp.region rfl ?_
      refine Rl.op (OpY.move (v := v2) rfl ?_)
      refine Rl.op (OpY.call en24 rfl rfl (clone_c v2 (((b).take ((b.length - 8)))) ((ok_take b_ok)) (by first | assumption | omega | (simp; done) | (simp; omega)) ([] ++ B) _ hL50.bokO hf4 ) ?_)
      rintro r52 w53 hE54 ⟨_, rfl, ob55, cap56, sp57, rfl, hfr58, ho59, hcap60⟩
      have hL61 := (hL50.adopt hE54 hfr58 ho59).1
      replace h_b := h_b.mono ((hL50.adopt hE54 hfr58 ho59).2.le B)
      replace hf4 := hf4.mono ((hL50.adopt hE54 hfr58 ho59).2.le B)
      replace hf26 := fun A hA => (hf26 A hA).mono ((hL50.adopt hE54 hfr58 ho59).2.le A)
      replace hf46 := hf46.mono ((hL50.adopt hE54 hfr58 ho59).2.le B)
      clear hL50
      replace hcap60 : (ints .u8 ((((b).take ((b.length - 8))))) ++ sp57).length = cap56 * 1 := by rw [hcap60, Nat.mul_one]
      replace hL61 : X.Loc [] B w w53 [ob55] [.cells (ints .u8 ((((b).take ((b.length - 8))))) ++ (sp57))] := hL61
      refine Rl.op (OpY.assign (v := (sv ob55 (((((b).take ((b.length - 8))))).length) (cap56))) rfl ?_)
      refine Rl.op (OpY.assign (v := (Value.int .i64 ((0 : Nat) : Int))) rfl ?_)
      refine Rl.nil ?_
      refine Swp.ret ?_
      refine ⟨[(sv ob55 (((((b).take ((b.length - 8))))).length) (cap56)), (Value.int .i64 ((0 : Nat) : Int))], ⟨rfl, ⟨rfl, trivial⟩⟩, ?_⟩
      refine ⟨_, rfl, hL61.done, ?_⟩
      refine ⟨(sv ob55 (((((b).take ((b.length - 8))))).length) (cap56)), ?_, ?_⟩
      · rw [checkN_good (by assumption) (by have h9 := take_len (b := b); simp only [h9, Decidable.not_not] at *; assumption)]; rfl
      ·
        have hq : (((b).take ((b.length - 8)))) = (checkN b).1 := by (rw [checkN_good (by assumption) (by have h9 := take_len (b := b); simp only [h9, Decidable.not_not] at *; assumption)])
        rw [← hq]
        exact hL61.hands 0 rfl rfl (by simp) (by rw [hcap60, Nat.mul_one])
theorem ChecksumMemory_c (b_v : Value) (b : List (Nat)) (b_ok : ∀ x ∈ b, x < 256) (B : List (Option Nat)) (w : World) (hB : Bok B w) (h_b : Ints .u8 (view B w) b_v b) (hg : At (view B w) 3 15 [(Value.int .u8 ((4 : Nat) : Int))])  :
    Calls Tryd.prog 10 #[b_v] w (Ret w (fun r w' => (Value.bool true) = r)) := by
  have hL := Loc.start hB
  have hal := appN_length b
  have hdl : (checkN (appN b)).1.length = b.length := by rw [checkN_appN]
  refine calls_of (l := [b_v]) (rl := [.tmp 2]) (n := 70) Tryd.func10 rfl rfl rfl (by simp) ?_
  refine Swp.seq ?_
  refine Swp.region rfl ?_
  refine Rl.op (OpY.assign (v := (Value.bool false)) rfl ?_)
  refine Rl.nil ?_
  refine Swp.seq ?_
  refine Swp.seq ?_
  refine Swp.region rfl ?_
  refine Rl.op (OpY.call en11 rfl rfl (awake_c  ([] ++ B) _ hL.bokO hg ) ?_)
  rintro r1 w2 hE3 ⟨rfl⟩
  replace h_b := h_b.mono (hE3.le ([] ++ B))
  replace hg := hg.mono (hE3.le ([] ++ B))
  have hL4 := hL.ext hE3
  refine Rl.op (OpY.not (x := true) rfl ?_)
  refine Rl.op (OpY.move (v := (Value.bool false)) rfl ?_)
  refine Rl.yes (b' := false) rfl rfl rfl (OpY.move (v := b_v) rfl ?_)
  refine Rl.yes (b' := false) rfl rfl rfl (OpY.len_sl Tryd.underlying22 rfl h_b ?_)
  refine Rl.yes (b' := false) rfl rfl rfl (OpY.gtr (x := ((b.length : Nat) : Int)) (y := ((300 : Nat) : Int)) (b.length > 300) rfl rfl (by omega) ?_)
  refine Rl.op (OpY.pick_f (t := false) (v := (Value.bool (decide (b.length > 300)))) rfl rfl rfl ?_)
  refine Rl.nil ?_
  refine Swp.cond_d (b.length > 300) rfl (fun hc5 => ?_) (fun hc5 => ?_)
  ·
    skip
    refine Swp.seq ?_
    refine Swp.region rfl ?_
    refine Rl.op (OpY.call en11 rfl rfl (awake_c  ([] ++ B) _ hL4.bokO hg ) ?_)
    rintro r6 w7 hE8 ⟨rfl⟩
    replace h_b := h_b.mono (hE8.le ([] ++ B))
    replace hg := hg.mono (hE8.le ([] ++ B))
    have hL9 := hL4.ext hE8
    refine Rl.op (OpY.assign (v := (Value.bool true)) rfl ?_)
    refine Rl.nil ?_
    refine Swp.ret ?_
    refine ⟨[(Value.bool true)], ⟨rfl, trivial⟩, ?_⟩
    refine ⟨_, rfl, hL9.done, ?_⟩
    · first | rfl | exact absurd rfl (by assumption) | exact absurd (crcN_crcN (by assumption)) (by assumption) | exact congrArg Value.bool (Eq.symm (decide_eq_true (crcN_crcN (by assumption)))) | (exfalso; simp_all [checkN_appN]; done) | exact congrArg Value.bool (by simp [checkN_appN]; done) | exact congrArg Value.bool (by simp; done) | exact congrArg Value.bool (by simp_all; done)
  ·
    skip
    refine Swp.skip ?_
    refine Swp.seq ?_
    refine Swp.region rfl ?_
    refine Rl.op (OpY.move (v := b_v) rfl ?_)
    refine Rl.op (OpY.call en13 rfl rfl (cp_c b_v (b) (b_ok) (by first | assumption | omega | (simp; done) | (simp; omega)) ([] ++ B) _ hL4.bokO h_b ) ?_)
    rintro r10 w11 hE12 ⟨_, rfl, ob13, cap14, sp15, rfl, hfr16, ho17, hcap18⟩
    have hL19 := (hL4.adopt hE12 hfr16 ho17).1
    replace h_b := h_b.mono ((hL4.adopt hE12 hfr16 ho17).2.le B)
    replace hg := hg.mono ((hL4.adopt hE12 hfr16 ho17).2.le B)
    clear hL4
    replace hcap18 : (ints .u8 ((b)) ++ sp15).length = cap14 * 1 := by rw [hcap18, Nat.mul_one]
    replace hL19 : X.Loc [] B w w11 [ob13] [.cells (ints .u8 ((b)) ++ (sp15))] := hL19
    refine Rl.op (OpY.assign (v := (sv ob13 (((b)).length) (cap14))) rfl ?_)
    refine Rl.nil ?_
    refine Swp.seq ?_
    refine Swp.region rfl ?_
    refine Rl.op (OpY.move (v := (sv ob13 (((b)).length) (cap14))) rfl ?_)
    refine Rl.op (OpY.call en17 rfl rfl (append_c (sv ob13 (((b)).length) (cap14)) ((b)) (((b_ok))) (by first | assumption | omega | (simp; done) | (simp; omega)) ([] ++ B) _ (Bok.sub hL19.bokO (by simp +contextual)) (hL19.intsB rfl 0 rfl rfl hcap18 (by first | rfl | omega | (simp; done) | (simp; omega)) B hB) ) ?_)
    rintro r20 w21 hE22 ⟨_, rfl, ob23, cap24, sp25, rfl, hfr26, ho27, hcap28⟩
    have hL29 := (hL19.adopt hE22 hfr26 ho27).1
    replace h_b := h_b.mono ((hL19.adopt hE22 hfr26 ho27).2.le B)
    replace hg := hg.mono ((hL19.adopt hE22 hfr26 ho27).2.le B)
    clear hL19
    replace hcap28 : (ints .u8 (appN ((b))) ++ sp25).length = cap24 * 1 := by rw [hcap28, Nat.mul_one]
    replace hL29 : X.Loc [] B w w21 [ob23, ob13] [.cells (ints .u8 (appN ((b))) ++ (sp25)), .cells (ints .u8 ((b)) ++ (sp15))] := hL29
    refine Rl.op (OpY.assign (v := (sv ob23 ((appN ((b))).length) (cap24))) rfl ?_)
    refine Rl.nil ?_
    refine Swp.seq ?_
    refine Swp.region rfl ?_
    refine Rl.op (OpY.move (v := (sv ob23 ((appN ((b))).length) (cap24))) rfl ?_)
    refine Rl.op (OpY.call en13 rfl rfl (cp_c (sv ob23 ((appN ((b))).length) (cap24)) (appN ((b))) ((appN_ok (((b_ok))))) (by first | assumption | omega | (simp; done) | (simp; omega)) ([ob13] ++ B) _ (Bok.sub hL29.bokO (by simp +contextual)) (hL29.intsB rfl 0 rfl rfl hcap28 (by first | rfl | omega | (simp; done) | (simp; omega)) B hB) ) ?_)
    rintro r30 w31 hE32 ⟨_, rfl, ob33, cap34, sp35, rfl, hfr36, ho37, hcap38⟩
    have hL39 := (hL29.adopt hE32 hfr36 ho37).1
    replace h_b := h_b.mono ((hL29.adopt hE32 hfr36 ho37).2.le B)
    replace hg := hg.mono ((hL29.adopt hE32 hfr36 ho37).2.le B)
    clear hL29
    replace hcap38 : (ints .u8 ((appN ((b)))) ++ sp35).length = cap34 * 1 := by rw [hcap38, Nat.mul_one]
    replace hL39 : X.Loc [] B w w31 [ob33, ob23, ob13] [.cells (ints .u8 ((appN ((b)))) ++ (sp35)), .cells (ints .u8 (appN ((b))) ++ (sp25)), .cells (ints .u8 ((b)) ++ (sp15))] := hL39
    refine Rl.op (OpY.assign (v := (sv ob33 (((appN ((b)))).length) (cap34))) rfl ?_)
    refine Rl.nil ?_
    refine Swp.seq ?_
    refine Swp.region rfl ?_
    refine Rl.op (OpY.move (v := (sv ob33 (((appN ((b)))).length) (cap34))) rfl ?_)
    refine Rl.op (OpY.call en18 rfl rfl (check_o (sv ob33 (((appN ((b)))).length) (cap34)) ((appN ((b)))) ((((appN_ok (((b_ok))))))) (by first | assumption | omega | (simp; done) | (simp; omega)) ([ob23, ob13] ++ B) _ (Bok.sub hL39.bokO (by simp +contextual)) (hL39.intsB rfl 0 rfl rfl hcap38 (by first | rfl | omega | (simp; done) | (simp; omega)) B hB) ) ?_)
    rintro r40 w41 hE42 ⟨_, rfl, ob43, cap44, sp45, rfl, hfr46, ho47, hcap48⟩
    have hL49 := (hL39.adopt hE42 hfr46 ho47).1
    replace h_b := h_b.mono ((hL39.adopt hE42 hfr46 ho47).2.le B)
    replace hg := hg.mono ((hL39.adopt hE42 hfr46 ho47).2.le B)
    clear hL39
    replace hcap48 : (ints .u8 ((checkN ((appN ((b))))).1) ++ sp45).length = cap44 * 1 := by rw [hcap48, Nat.mul_one]
    replace hL49 : X.Loc [] B w w41 [ob43, ob33, ob23, ob13] [.cells (ints .u8 ((checkN ((appN ((b))))).1) ++ (sp45)), .cells (ints .u8 ((appN ((b)))) ++ (sp35)), .cells (ints .u8 (appN ((b))) ++ (sp25)), .cells (ints .u8 ((b)) ++ (sp15))] := hL49
    refine Rl.op (OpY.move (v := (Value.tuple #[(sv ob43 (((checkN ((appN ((b))))).1).length) (cap44)), (Value.int .i64 ((checkN ((appN ((b))))).2 : Int))])) rfl ?_)
    refine Rl.op (OpY.extract (vs := [(sv ob43 (((checkN ((appN ((b))))).1).length) (cap44)), (Value.int .i64 ((checkN ((appN ((b))))).2 : Int))]) (v := (sv ob43 (((checkN ((appN ((b))))).1).length) (cap44))) rfl rfl ?_)
    refine Rl.op (OpY.extract (vs := [(sv ob43 (((checkN ((appN ((b))))).1).length) (cap44)), (Value.int .i64 ((checkN ((appN ((b))))).2 : Int))]) (v := (Value.int .i64 ((checkN ((appN ((b))))).2 : Int))) rfl rfl ?_)
    refine Rl.op (OpY.assign (v := (sv ob43 (((checkN ((appN ((b))))).1).length) (cap44))) rfl ?_)
    refine Rl.op (OpY.assign (v := (Value.int .i64 ((checkN ((appN ((b))))).2 : Int))) rfl ?_)
    refine Rl.nil ?_
    refine Swp.seq ?_
    refine Swp.region rfl ?_
    refine Rl.op (OpY.move (v := (sv ob13 (((b)).length) (cap14))) rfl ?_)
    refine Rl.op (OpY.callq (v := (Value.int .u64 ((crcN 0 ((b)) : Nat) : Int))) en12 rfl rfl (csum_c (sv ob13 (((b)).length) (cap14)) ((b)) (((b_ok))) (by first | assumption | omega | (simp; done) | (simp; omega)) ([ob43, ob33, ob23] ++ B) _ (Bok.sub hL49.bokO (by simp +contextual)) (hL49.intsB rfl 3 rfl rfl hcap18 (by first | rfl | omega | (simp; done) | (simp; omega)) B hB) ) ?_)
    refine Rl.nil ?_
    refine Swp.seq ?_
    refine Swp.region rfl ?_
    refine Rl.op (OpY.move (v := (sv ob13 (((b)).length) (cap14))) rfl ?_)
    refine Rl.op (OpY.callq (v := (Value.int .u64 ((crcN (7) ((b)) : Nat) : Int))) en15 rfl rfl (update_c (7) ((by decide)) (sv ob13 (((b)).length) (cap14)) ((b)) (((b_ok))) (by first | assumption | omega | (simp; done) | (simp; omega)) ([ob43, ob33, ob23] ++ B) _ (Bok.sub hL49.bokO (by simp +contextual)) (hL49.intsB rfl 3 rfl rfl hcap18 (by first | rfl | omega | (simp; done) | (simp; omega)) B hB) ) ?_)
    refine Rl.nil ?_
    refine Swp.seq ?_
    refine Swp.seq ?_
    refine Swp.region rfl ?_
    refine Rl.op (OpY.move (v := (sv ob23 ((appN ((b))).length) (cap24))) rfl ?_)
    refine Rl.op (OpY.len_sv Tryd.underlying22 rfl (OwnC.len0 (hL49.at 2 rfl rfl) (by first | rfl | omega | (simp; done) | (simp; omega))) ?_)
    refine Rl.op (OpY.move (v := (Value.int .i64 ((0 : Nat) : Int))) rfl ?_)
    refine Rl.nil ?_
    refine Swp.block ?_
    refine Swp.loopS [8, 35, 36, 37, 38, 39, 40, 41, 42, 43, 44] (σ := (Nat) × (List Nat)) (fun ss => (fun (k : Nat) (ys : List Nat) => [(35, (Value.int .i64 ((k : Nat) : Int)))]) ss.1 ss.2) (fun ss w' => (fun (k : Nat) (ys : List Nat) => X.Loc [] B w w' [ob43, ob33, ob23, ob13] [.cells (ints .u8 ((checkN ((appN ((b))))).1) ++ (sp45)), .cells (ints .u8 ((appN ((b)))) ++ (sp35)), .cells (ints .u8 (ys) ++ (sp25)), .cells (ints .u8 ((b)) ++ (sp15))] ∧ Ints .u8 (view ([ob43, ob33, ob23, ob13] ++ B) w') b_v b ∧ At (view ([ob43, ob33, ob23, ob13] ++ B) w') 3 15 [(Value.int .u8 ((4 : Nat) : Int))] ∧ (k ≤ (appN ((b))).length) ∧ (ys.length = (appN ((b))).length) ∧ ((ints .u8 (ys) ++ sp25).length = cap24 * 1) ∧ True) ss.1 ss.2) (fun ss => (fun (k : Nat) (ys : List Nat) => (appN ((b))).length - k) ss.1 ss.2) ((0), (appN ((b)))) ⟨hL49, h_b, hg, (by omega), (rfl), (hcap28), trivial⟩ ⟨rfl, trivial⟩ ?_
    clear h_b
    clear hg
    clear hL49
    rintro ⟨k, ys⟩ e50 w51 ⟨hL52, h_b, hg, hk, hyl, hyc, -⟩
    replace hk : k ≤ (appN ((b))).length := hk
    replace hyl : ys.length = (appN ((b))).length := hyl
    replace hyc : (ints .u8 (ys) ++ sp25).length = cap24 * 1 := hyc
    show Swp _ _ _ _ ((upd (mix _ e50 _) 35 (Value.int .i64 ((k : Nat) : Int)))) w51
    refine Swp.seq ?_
    refine Swp.region rfl ?_
    refine Rl.op (OpY.lss (x := ((k : Nat) : Int)) (y := (((appN ((b))).length : Nat) : Int)) (k < (appN ((b))).length) rfl rfl (by omega) ?_)
    refine Rl.nil ?_
    refine Swp.seq ?_
    refine Swp.cond_d (k < (appN ((b))).length) rfl (fun hc53 => ?_) (fun hc53 => ?_)
    ·
      skip
      refine Swp.skip ?_
      refine Swp.seq ?_
      refine Swp.block ?_
      refine Swp.seq ?_
      refine Swp.region rfl ?_
      refine Rl.op (OpY.move (v := (Value.int .i64 ((k : Nat) : Int))) rfl ?_)
      refine Rl.op (OpY.assign (v := (Value.int .i64 ((k : Nat) : Int))) rfl ?_)
      refine Rl.nil ?_
      refine Swp.region rfl ?_
      refine Rl.op (OpY.move (v := (sv ob23 ((appN ((b))).length) (cap24))) rfl ?_)
      refine Rl.op (OpY.move (v := (Value.int .i64 ((k : Nat) : Int))) rfl ?_)
      obtain ⟨b54, hb55⟩ := OwnC.some_of (hL52.at 2 rfl rfl) (len_ints_pos (xs := ys) (i := k) (by first | omega | (simp; omega)))
      refine Rl.op (OpY.indexAddr (i := k) (q := k) Tryd.underlying22 ti5 (congrArg (fun z => sv z ((appN ((b))).length) (cap24)) hb55) rfl (by omega) (by omega) ?_)
      refine Rl.op (OpY.load_intsD (k := .u8) (j := k) (xs := ys) (sp := sp25) Tryd.underlying5 rfl rfl hL52 2 (congrArg some hb55) rfl (by omega) ?_)
      refine Rl.op (OpY.add (x := ((((ys).getD (k) 0) : Nat) : Int)) (y := ((1 : Nat) : Int)) (z := (((((ys).getD (k) 0) + 1) % 256 : Nat) : Int)) rfl rfl (wm_u8 (by simp)) ?_)
      obtain ⟨b57, hb58⟩ := OwnC.some_of (hL52.at 2 rfl rfl) (len_ints_pos (xs := ys) (i := k) (by first | omega | (simp; omega)))
      refine Rl.op (OpY.indexAddr (i := k) (q := k) Tryd.underlying22 ti5 (congrArg (fun z => sv z ((appN ((b))).length) (cap24)) hb58) rfl (by omega) (by omega) ?_)
      refine Rl.op0 (OpY.store_ints (k := .u8) (j := k) (v := ((((ys).getD (k) 0) + 1) % 256)) (xs := ys) (sp := sp25) ti5 rfl rfl hL52 2 (congrArg some hb58) rfl (by omega) ?_)
      intro w59 hL60 hS61
      replace h_b := h_b.mono (hS61.le B)
      replace hg := hg.mono (hS61.le B)
      clear hL52 hS61
      replace hL60 : X.Loc [] B w w59 [ob43, ob33, ob23, ob13] [.cells (ints .u8 ((checkN ((appN ((b))))).1) ++ (sp45)), .cells (ints .u8 ((appN ((b)))) ++ (sp35)), .cells (ints .u8 ((ys).set (k) (((((ys).getD (k) 0) + 1) % 256))) ++ (sp25)), .cells (ints .u8 ((b)) ++ (sp15))] := hL60
      refine Rl.nil ?_
      refine Swp.pop_blk ?_
      refine Swp.region rfl ?_
      refine Rl.op (OpY.add (x := ((k : Nat) : Int)) (y := ((1 : Nat) : Int)) (z := (((k + 1) : Nat) : Int)) rfl rfl (wq_i64 (by omega) (by omega) (by omega)) ?_)
      refine Rl.op (OpY.move (v := (Value.int .i64 (((k + 1) : Nat) : Int))) rfl ?_)
      refine Rl.nil ?_
      refine Swp.pop_back ⟨(((k + 1)), ((ys).set (k) (((((ys).getD (k) 0) + 1) % 256)))), ⟨hL60, h_b, hg, ?_, ?_, ?_, trivial⟩, ?_, ⟨rfl, trivial⟩, ?_⟩
      · show ((k + 1)) ≤ (appN ((b))).length
        omega
      · show ((ys).set (k) (((((ys).getD (k) 0) + 1) % 256))).length = (appN ((b))).length
        simp only [List.length_set]; omega
      · show (ints .u8 (((ys).set (k) (((((ys).getD (k) 0) + 1) % 256)))) ++ sp25).length = cap24 * 1
        simp only [List.length_append, ints_length, List.length_set] at *; omega
      · show (appN ((b))).length - ((k + 1)) < (appN ((b))).length - k
        omega
      · repeat (first | exact agree_mix | exact agree_refl | refine agree_upd rfl ?_ | refine agree_mix2 rfl ?_)
    ·
      skip
      refine Swp.exit rfl ?_
      refine Swp.seq ?_
      refine Swp.seq ?_
      refine Swp.region rfl ?_
      refine Rl.op (OpY.move (v := (sv ob43 (((checkN ((appN ((b))))).1).length) (cap44))) rfl ?_)
      refine Rl.op (OpY.len_sv Tryd.underlying22 rfl (OwnC.len0 (hL52.at 0 rfl rfl) (by first | rfl | omega | (simp; done) | (simp; omega))) ?_)
      refine Rl.op (OpY.move (v := (Value.int .i64 ((0 : Nat) : Int))) rfl ?_)
      refine Rl.nil ?_
      refine Swp.block ?_
      refine Swp.loopS [9, 47, 48, 49, 50, 51, 52, 53, 54, 55, 56] (σ := (Nat) × (List Nat)) (fun ss => (fun (m : Nat) (zs : List Nat) => [(47, (Value.int .i64 ((m : Nat) : Int)))]) ss.1 ss.2) (fun ss w' => (fun (m : Nat) (zs : List Nat) => X.Loc [] B w w' [ob43, ob33, ob23, ob13] [.cells (ints .u8 (zs) ++ (sp45)), .cells (ints .u8 ((appN ((b)))) ++ (sp35)), .cells (ints .u8 (ys) ++ (sp25)), .cells (ints .u8 ((b)) ++ (sp15))] ∧ Ints .u8 (view ([ob43, ob33, ob23, ob13] ++ B) w') b_v b ∧ At (view ([ob43, ob33, ob23, ob13] ++ B) w') 3 15 [(Value.int .u8 ((4 : Nat) : Int))] ∧ (m ≤ ((checkN ((appN ((b))))).1).length) ∧ (zs.length = ((checkN ((appN ((b))))).1).length) ∧ ((ints .u8 (zs) ++ sp45).length = cap44 * 1) ∧ True) ss.1 ss.2) (fun ss => (fun (m : Nat) (zs : List Nat) => ((checkN ((appN ((b))))).1).length - m) ss.1 ss.2) ((0), ((checkN ((appN ((b))))).1)) ⟨hL52, h_b, hg, (by omega), (rfl), (hcap48), trivial⟩ ⟨rfl, trivial⟩ ?_
      clear h_b
      clear hg
      clear hL52
      rintro ⟨m, zs⟩ e62 w63 ⟨hL64, h_b, hg, hm, hzl, hzc, -⟩
      replace hm : m ≤ ((checkN ((appN ((b))))).1).length := hm
      replace hzl : zs.length = ((checkN ((appN ((b))))).1).length := hzl
      replace hzc : (ints .u8 (zs) ++ sp45).length = cap44 * 1 := hzc
      show Swp _ _ _ _ ((upd (mix _ e62 _) 47 (Value.int .i64 ((m : Nat) : Int)))) w63
      refine Swp.seq ?_
      refine Swp.region rfl ?_
      refine Rl.op (OpY.lss (x := ((m : Nat) : Int)) (y := ((((checkN ((appN ((b))))).1).length : Nat) : Int)) (m < ((checkN ((appN ((b))))).1).length) rfl rfl (by omega) ?_)
      refine Rl.nil ?_
      refine Swp.seq ?_
      refine Swp.cond_d (m < ((checkN ((appN ((b))))).1).length) rfl (fun hc65 => ?_) (fun hc65 => ?_)
      ·
        skip
        refine Swp.skip ?_
        refine Swp.seq ?_
        refine Swp.block ?_
        refine Swp.seq ?_
        refine Swp.region rfl ?_
        refine Rl.op (OpY.move (v := (Value.int .i64 ((m : Nat) : Int))) rfl ?_)
        refine Rl.op (OpY.assign (v := (Value.int .i64 ((m : Nat) : Int))) rfl ?_)
        refine Rl.nil ?_
        refine Swp.region rfl ?_
        refine Rl.op (OpY.move (v := (sv ob43 (((checkN ((appN ((b))))).1).length) (cap44))) rfl ?_)
        refine Rl.op (OpY.move (v := (Value.int .i64 ((m : Nat) : Int))) rfl ?_)
        obtain ⟨b66, hb67⟩ := OwnC.some_of (hL64.at 0 rfl rfl) (len_ints_pos (xs := zs) (i := m) (by first | omega | (simp; omega)))
        refine Rl.op (OpY.indexAddr (i := m) (q := m) Tryd.underlying22 ti5 (congrArg (fun z => sv z (((checkN ((appN ((b))))).1).length) (cap44)) hb67) rfl (by omega) (by omega) ?_)
        refine Rl.op (OpY.load_intsD (k := .u8) (j := m) (xs := zs) (sp := sp45) Tryd.underlying5 rfl rfl hL64 0 (congrArg some hb67) rfl (by omega) ?_)
        refine Rl.op (OpY.add (x := ((((zs).getD (m) 0) : Nat) : Int)) (y := ((1 : Nat) : Int)) (z := (((((zs).getD (m) 0) + 1) % 256 : Nat) : Int)) rfl rfl (wm_u8 (by simp)) ?_)
        obtain ⟨b69, hb70⟩ := OwnC.some_of (hL64.at 0 rfl rfl) (len_ints_pos (xs := zs) (i := m) (by first | omega | (simp; omega)))
        refine Rl.op (OpY.indexAddr (i := m) (q := m) Tryd.underlying22 ti5 (congrArg (fun z => sv z (((checkN ((appN ((b))))).1).length) (cap44)) hb70) rfl (by omega) (by omega) ?_)
        refine Rl.op0 (OpY.store_ints (k := .u8) (j := m) (v := ((((zs).getD (m) 0) + 1) % 256)) (xs := zs) (sp := sp45) ti5 rfl rfl hL64 0 (congrArg some hb70) rfl (by omega) ?_)
        intro w71 hL72 hS73
        replace h_b := h_b.mono (hS73.le B)
        replace hg := hg.mono (hS73.le B)
        clear hL64 hS73
        replace hL72 : X.Loc [] B w w71 [ob43, ob33, ob23, ob13] [.cells (ints .u8 ((zs).set (m) (((((zs).getD (m) 0) + 1) % 256))) ++ (sp45)), .cells (ints .u8 ((appN ((b)))) ++ (sp35)), .cells (ints .u8 (ys) ++ (sp25)), .cells (ints .u8 ((b)) ++ (sp15))] := hL72
        refine Rl.nil ?_
        refine Swp.pop_blk ?_
        refine Swp.region rfl ?_
        refine Rl.op (OpY.add (x := ((m : Nat) : Int)) (y := ((1 : Nat) : Int)) (z := (((m + 1) : Nat) : Int)) rfl rfl (wq_i64 (by omega) (by omega) (by omega)) ?_)
        refine Rl.op (OpY.move (v := (Value.int .i64 (((m + 1) : Nat) : Int))) rfl ?_)
        refine Rl.nil ?_
        refine Swp.pop_back ⟨(((m + 1)), ((zs).set (m) (((((zs).getD (m) 0) + 1) % 256)))), ⟨hL72, h_b, hg, ?_, ?_, ?_, trivial⟩, ?_, ⟨rfl, trivial⟩, ?_⟩
        · show ((m + 1)) ≤ ((checkN ((appN ((b))))).1).length
          omega
        · show ((zs).set (m) (((((zs).getD (m) 0) + 1) % 256))).length = ((checkN ((appN ((b))))).1).length
          simp only [List.length_set]; omega
        · show (ints .u8 (((zs).set (m) (((((zs).getD (m) 0) + 1) % 256)))) ++ sp45).length = cap44 * 1
          simp only [List.length_append, ints_length, List.length_set] at *; omega
        · show ((checkN ((appN ((b))))).1).length - ((m + 1)) < ((checkN ((appN ((b))))).1).length - m
          omega
        · repeat (first | exact agree_mix | exact agree_refl | refine agree_upd rfl ?_ | refine agree_mix2 rfl ?_)
      ·
        skip
        refine Swp.exit rfl ?_
        refine Swp.seq ?_
        by_cases hg74 : ((b)) = b
        ·
          have hg74_b : (decide (((b)) = b)) = true := decide_eq_true hg74
          refine Swp.draw 11 [.det (sv ob13 (((b)).length) (cap14)), .det (Value.string (str (((b))))), .det b_v, .det (Value.string (str (b))), .det (Value.bool (decide (((b)) = b))), .det (Value.bool (decide (((b)) = b))), .det (sv ob33 (((appN ((b)))).length) (cap34)), .det (Value.string (str (((appN ((b))))))), .det b_v, .rel (fun v w' => ∃ r0_118 : Value, r0_118 = v ∧ (∀ A, Bok A w → Ints .u8 (view ([ob43, ob33, ob23, ob13] ++ A) w') r0_118 (appN (b)))), .det (Value.string (str ((appN (b)))))] mixed rfl rfl (⟨fun v w w' hE => by rintro ⟨r0_118, rfl, k0⟩; exact ⟨r0_118, rfl, fun A hA => (k0 A hA).mono (hE.le _)⟩, trivial⟩) ?_
          intro w75 hE76
          replace h_b := h_b.mono (hE76.le ([ob43, ob33, ob23, ob13] ++ B))
          replace hg := hg.mono (hE76.le ([ob43, ob33, ob23, ob13] ++ B))
          have hL77 := hL64.ext hE76
          refine DrG.det ?_ ?_
          ·
            rintro w78 hE79 ⟨-⟩
            replace h_b := h_b.mono (hE79.le ([ob43, ob33, ob23, ob13] ++ B))
            replace hg := hg.mono (hE79.le ([ob43, ob33, ob23, ob13] ++ B))
            have hL81 := hL77.ext hE79
            refine GOp.op (OpY.move (v := (sv ob13 (((b)).length) (cap14))) rfl ?_)
            exact ⟨Ext.refl _, rfl⟩
          refine DrG.det ?_ ?_
          ·
            rintro w82 hE83 ⟨-⟩
            replace h_b := h_b.mono (hE83.le ([ob43, ob33, ob23, ob13] ++ B))
            replace hg := hg.mono (hE83.le ([ob43, ob33, ob23, ob13] ++ B))
            have hL85 := hL77.ext hE83
            refine GOp.op (OpY.bytesToStr Tryd.underlying22 Tryd.underlying5 Tryd.underlying9 rfl (hL85.intsB rfl 3 rfl rfl hcap18 (by first | rfl | omega | (simp; done) | (simp; omega)) B hB) ?_)
            exact ⟨Ext.refl _, rfl⟩
          refine DrG.det ?_ ?_
          ·
            rintro w86 hE87 ⟨-⟩
            replace h_b := h_b.mono (hE87.le ([ob43, ob33, ob23, ob13] ++ B))
            replace hg := hg.mono (hE87.le ([ob43, ob33, ob23, ob13] ++ B))
            have hL89 := hL77.ext hE87
            refine GOp.op (OpY.move (v := b_v) rfl ?_)
            exact ⟨Ext.refl _, rfl⟩
          refine DrG.det ?_ ?_
          ·
            rintro w90 hE91 ⟨-⟩
            replace h_b := h_b.mono (hE91.le ([ob43, ob33, ob23, ob13] ++ B))
            replace hg := hg.mono (hE91.le ([ob43, ob33, ob23, ob13] ++ B))
            have hL93 := hL77.ext hE91
            refine GOp.op (OpY.bytesToStr (v := b_v) (xs := b) Tryd.underlying22 Tryd.underlying5 Tryd.underlying9 rfl h_b ?_)
            exact ⟨Ext.refl _, rfl⟩
          refine DrG.det ?_ ?_
          ·
            rintro w94 hE95 ⟨-⟩
            replace h_b := h_b.mono (hE95.le ([ob43, ob33, ob23, ob13] ++ B))
            replace hg := hg.mono (hE95.le ([ob43, ob33, ob23, ob13] ++ B))
            have hL97 := hL77.ext hE95
            refine GOp.op (OpY.strEql (x := ((b))) (y := b) rfl rfl ((b_ok)) b_ok ?_)
            exact ⟨Ext.refl _, rfl⟩
          refine DrG.det ?_ ?_
          ·
            rintro w98 hE99 ⟨-⟩
            replace h_b := h_b.mono (hE99.le ([ob43, ob33, ob23, ob13] ++ B))
            replace hg := hg.mono (hE99.le ([ob43, ob33, ob23, ob13] ++ B))
            have hL101 := hL77.ext hE99
            refine GOp.op (OpY.move (v := (Value.bool (decide (((b)) = b)))) rfl ?_)
            exact ⟨Ext.refl _, rfl⟩
          refine DrG.det ?_ ?_
          ·
            rintro w102 hE103 ⟨-⟩
            replace h_b := h_b.mono (hE103.le ([ob43, ob33, ob23, ob13] ++ B))
            replace hg := hg.mono (hE103.le ([ob43, ob33, ob23, ob13] ++ B))
            have hL105 := hL77.ext hE103
            refine GOp.yes (b' := (decide (((b)) = b))) rfl rfl hg74_b (OpY.move (v := (sv ob33 (((appN ((b)))).length) (cap34))) rfl ?_)
            exact ⟨Ext.refl _, rfl⟩
          refine DrG.det ?_ ?_
          ·
            rintro w106 hE107 ⟨-⟩
            replace h_b := h_b.mono (hE107.le ([ob43, ob33, ob23, ob13] ++ B))
            replace hg := hg.mono (hE107.le ([ob43, ob33, ob23, ob13] ++ B))
            have hL109 := hL77.ext hE107
            refine GOp.yes (b' := (decide (((b)) = b))) rfl rfl hg74_b (OpY.bytesToStr Tryd.underlying22 Tryd.underlying5 Tryd.underlying9 rfl (hL109.intsB rfl 1 rfl rfl hcap38 (by first | rfl | omega | (simp; done) | (simp; omega)) B hB) ?_)
            exact ⟨Ext.refl _, rfl⟩
          refine DrG.det ?_ ?_
          ·
            rintro w110 hE111 ⟨-⟩
            replace h_b := h_b.mono (hE111.le ([ob43, ob33, ob23, ob13] ++ B))
            replace hg := hg.mono (hE111.le ([ob43, ob33, ob23, ob13] ++ B))
            have hL113 := hL77.ext hE111
            refine GOp.yes (b' := (decide (((b)) = b))) rfl rfl hg74_b (OpY.move (v := b_v) rfl ?_)
            exact ⟨Ext.refl _, rfl⟩
          refine DrG.rel ?_ ?_
          ·
            rintro w114 hE115 ⟨-⟩
            replace h_b := h_b.mono (hE115.le ([ob43, ob33, ob23, ob13] ++ B))
            replace hg := hg.mono (hE115.le ([ob43, ob33, ob23, ob13] ++ B))
            have hL117 := hL77.ext hE115
            refine GOp.yes (b' := (decide (((b)) = b))) rfl rfl hg74_b (OpY.call en19 rfl rfl (rappend_c b_v (b) (b_ok) (by first | assumption | omega | (simp; done) | (simp; omega)) ([ob43, ob33, ob23, ob13] ++ B) _ hL117.bokO h_b ) ?_)
            rintro r118 w119 hE120 ⟨r0_121, rfl, hh122⟩
            replace h_b := h_b.mono (hE120.le ([ob43, ob33, ob23, ob13] ++ B))
            replace hg := hg.mono (hE120.le ([ob43, ob33, ob23, ob13] ++ B))
            have hf124 := Fr.atO hh122.fr hL117
            have hL123 := hL117.ext hE120
            exact ⟨hE120, r0_121, rfl, hf124⟩
          intro v125
          refine DrG.det ?_ ?_
          ·
            rintro w126 hE127 ⟨⟨r0_121, rfl, hf124⟩, -⟩
            replace h_b := h_b.mono (hE127.le ([ob43, ob33, ob23, ob13] ++ B))
            replace hg := hg.mono (hE127.le ([ob43, ob33, ob23, ob13] ++ B))
            have hL129 := hL77.ext hE127
            refine GOp.yes (b' := (decide (((b)) = b))) rfl rfl hg74_b (OpY.bytesToStr (v := r0_121) (xs := (appN (b))) Tryd.underlying22 Tryd.underlying5 Tryd.underlying9 rfl (hf124 B hB) ?_)
            exact ⟨Ext.refl _, rfl⟩
          refine DrG.fin ?_
          rintro w130 hE131 ⟨⟨r0_121, rfl, hf124⟩, -⟩
          replace h_b := h_b.mono (hE131.le ([ob43, ob33, ob23, ob13] ++ B))
          replace hg := hg.mono (hE131.le ([ob43, ob33, ob23, ob13] ++ B))
          have hL132 := hL77.ext hE131
          refine Rl.yes (b' := (decide (((b)) = b))) rfl rfl hg74_b (OpY.strEql (x := ((appN ((b))))) (y := (appN (b))) rfl rfl (((appN_ok (((b_ok)))))) (appN_ok (b_ok)) ?_)
          refine Rl.op (OpY.pick_t (t := (decide (((b)) = b))) (v := (Value.bool (decide (((appN ((b)))) = (appN (b)))))) rfl hg74_b rfl ?_)
          refine Rl.op (OpY.assign (v := (Value.bool (decide (((appN ((b)))) = (appN (b)))))) rfl ?_)
          refine Rl.nil ?_
          refine Swp.ret ?_
          refine ⟨[(Value.bool (decide (((appN ((b)))) = (appN (b)))))], ⟨rfl, trivial⟩, ?_⟩
          refine ⟨_, rfl, hL132.done, ?_⟩
          · first | rfl | exact absurd rfl (by assumption) | exact absurd (crcN_crcN (by assumption)) (by assumption) | exact congrArg Value.bool (Eq.symm (decide_eq_true (crcN_crcN (by assumption)))) | (exfalso; simp_all [checkN_appN]; done) | exact congrArg Value.bool (by simp [checkN_appN]; done) | exact congrArg Value.bool (by simp; done) | exact congrArg Value.bool (by simp_all; done)
        ·
          have hg74_b : (decide (((b)) = b)) = false := decide_eq_false hg74
          refine Swp.draw 11 [.det (sv ob13 (((b)).length) (cap14)), .det (Value.string (str (((b))))), .det b_v, .det (Value.string (str (b))), .det (Value.bool (decide (((b)) = b))), .det (Value.bool (decide (((b)) = b))), .det undef, .det undef, .det undef, .det undef, .det undef] mixed rfl rfl (trivial) ?_
          intro w133 hE134
          replace h_b := h_b.mono (hE134.le ([ob43, ob33, ob23, ob13] ++ B))
          replace hg := hg.mono (hE134.le ([ob43, ob33, ob23, ob13] ++ B))
          have hL135 := hL64.ext hE134
          refine DrG.det ?_ ?_
          ·
            rintro w136 hE137 ⟨-⟩
            replace h_b := h_b.mono (hE137.le ([ob43, ob33, ob23, ob13] ++ B))
            replace hg := hg.mono (hE137.le ([ob43, ob33, ob23, ob13] ++ B))
            have hL139 := hL135.ext hE137
            refine GOp.op (OpY.move (v := (sv ob13 (((b)).length) (cap14))) rfl ?_)
            exact ⟨Ext.refl _, rfl⟩
          refine DrG.det ?_ ?_
          ·
            rintro w140 hE141 ⟨-⟩
            replace h_b := h_b.mono (hE141.le ([ob43, ob33, ob23, ob13] ++ B))
            replace hg := hg.mono (hE141.le ([ob43, ob33, ob23, ob13] ++ B))
            have hL143 := hL135.ext hE141
            refine GOp.op (OpY.bytesToStr Tryd.underlying22 Tryd.underlying5 Tryd.underlying9 rfl (hL143.intsB rfl 3 rfl rfl hcap18 (by first | rfl | omega | (simp; done) | (simp; omega)) B hB) ?_)
            exact ⟨Ext.refl _, rfl⟩
          refine DrG.det ?_ ?_
          ·
            rintro w144 hE145 ⟨-⟩
            replace h_b := h_b.mono (hE145.le ([ob43, ob33, ob23, ob13] ++ B))
            replace hg := hg.mono (hE145.le ([ob43, ob33, ob23, ob13] ++ B))
            have hL147 := hL135.ext hE145
            refine GOp.op (OpY.move (v := b_v) rfl ?_)
            exact ⟨Ext.refl _, rfl⟩
          refine DrG.det ?_ ?_
          ·
            rintro w148 hE149 ⟨-⟩
            replace h_b := h_b.mono (hE149.le ([ob43, ob33, ob23, ob13] ++ B))
            replace hg := hg.mono (hE149.le ([ob43, ob33, ob23, ob13] ++ B))
            have hL151 := hL135.ext hE149
            refine GOp.op (OpY.bytesToStr (v := b_v) (xs := b) Tryd.underlying22 Tryd.underlying5 Tryd.underlying9 rfl h_b ?_)
            exact ⟨Ext.refl _, rfl⟩
          refine DrG.det ?_ ?_
          ·
            rintro w152 hE153 ⟨-⟩
            replace h_b := h_b.mono (hE153.le ([ob43, ob33, ob23, ob13] ++ B))
            replace hg := hg.mono (hE153.le ([ob43, ob33, ob23, ob13] ++ B))
            have hL155 := hL135.ext hE153
            refine GOp.op (OpY.strEql (x := ((b))) (y := b) rfl rfl ((b_ok)) b_ok ?_)
            exact ⟨Ext.refl _, rfl⟩
          refine DrG.det ?_ ?_
          ·
            rintro w156 hE157 ⟨-⟩
            replace h_b := h_b.mono (hE157.le ([ob43, ob33, ob23, ob13] ++ B))
            replace hg := hg.mono (hE157.le ([ob43, ob33, ob23, ob13] ++ B))
            have hL159 := hL135.ext hE157
            refine GOp.op (OpY.move (v := (Value.bool (decide (((b)) = b)))) rfl ?_)
            exact ⟨Ext.refl _, rfl⟩
          refine DrG.det ?_ ?_
          ·
            rintro w160 hE161 ⟨-⟩
            replace h_b := h_b.mono (hE161.le ([ob43, ob33, ob23, ob13] ++ B))
            replace hg := hg.mono (hE161.le ([ob43, ob33, ob23, ob13] ++ B))
            have hL163 := hL135.ext hE161
            refine GOp.no (b' := (decide (((b)) = b))) rfl rfl hg74_b ⟨Ext.refl _, rfl⟩
          refine DrG.det ?_ ?_
          ·
            rintro w164 hE165 ⟨-⟩
            replace h_b := h_b.mono (hE165.le ([ob43, ob33, ob23, ob13] ++ B))
            replace hg := hg.mono (hE165.le ([ob43, ob33, ob23, ob13] ++ B))
            have hL167 := hL135.ext hE165
            refine GOp.no (b' := (decide (((b)) = b))) rfl rfl hg74_b ⟨Ext.refl _, rfl⟩
          refine DrG.det ?_ ?_
          ·
            rintro w168 hE169 ⟨-⟩
            replace h_b := h_b.mono (hE169.le ([ob43, ob33, ob23, ob13] ++ B))
            replace hg := hg.mono (hE169.le ([ob43, ob33, ob23, ob13] ++ B))
            have hL171 := hL135.ext hE169
            refine GOp.no (b' := (decide (((b)) = b))) rfl rfl hg74_b ⟨Ext.refl _, rfl⟩
          refine DrG.det ?_ ?_
          ·
            rintro w172 hE173 ⟨-⟩
            replace h_b := h_b.mono (hE173.le ([ob43, ob33, ob23, ob13] ++ B))
            replace hg := hg.mono (hE173.le ([ob43, ob33, ob23, ob13] ++ B))
            have hL175 := hL135.ext hE173
            refine GOp.no (b' := (decide (((b)) = b))) rfl rfl hg74_b ⟨Ext.refl _, rfl⟩
          refine DrG.det ?_ ?_
          ·
            rintro w176 hE177 ⟨-⟩
            replace h_b := h_b.mono (hE177.le ([ob43, ob33, ob23, ob13] ++ B))
            replace hg := hg.mono (hE177.le ([ob43, ob33, ob23, ob13] ++ B))
            have hL179 := hL135.ext hE177
            refine GOp.no (b' := (decide (((b)) = b))) rfl rfl hg74_b ⟨Ext.refl _, rfl⟩
          refine DrG.fin ?_
          rintro w180 hE181 ⟨-⟩
          replace h_b := h_b.mono (hE181.le ([ob43, ob33, ob23, ob13] ++ B))
          replace hg := hg.mono (hE181.le ([ob43, ob33, ob23, ob13] ++ B))
          have hL182 := hL135.ext hE181
          refine Rl.no (b' := (decide (((b)) = b))) rfl rfl hg74_b ?_
          refine Rl.op (OpY.pick_f (t := (decide (((b)) = b))) (v := (Value.bool false)) rfl hg74_b rfl ?_)
          refine Rl.op (OpY.assign (v := (Value.bool false)) rfl ?_)
          refine Rl.nil ?_
          refine Swp.ret ?_
          refine ⟨[(Value.bool false)], ⟨rfl, trivial⟩, ?_⟩
          refine ⟨_, rfl, hL182.done, ?_⟩
          · first | rfl | exact absurd rfl (by assumption) | exact absurd (crcN_crcN (by assumption)) (by assumption) | exact congrArg Value.bool (Eq.symm (decide_eq_true (crcN_crcN (by assumption)))) | (exfalso; simp_all [checkN_appN]; done) | exact congrArg Value.bool (by simp [checkN_appN]; done) | exact congrArg Value.bool (by simp; done) | exact congrArg Value.bool (by simp_all; done)
theorem ChecksumBurst_c (b_v : Value) (b : List (Nat)) (b_ok : ∀ x ∈ b, x < 256) (at0 : Nat) (at0_lt : at0 < 65536) (change : List Nat) (change_ok : ∀ x ∈ change, x < 256) (change_ln : change.length = 8) (B : List (Option Nat)) (w : World) (hB : Bok B w) (h_b : Ints .u8 (view B w) b_v b) (hg : At (view B w) 3 15 [(Value.int .u8 ((4 : Nat) : Int))])  :
    Calls Tryd.prog 8 #[b_v, (Value.int .u16 ((at0 : Nat) : Int)), (Value.agg (ints .u8 (change)).toArray)] w (Ret w (fun r w' => (Value.bool true) = r)) := by
  have hL := Loc.start hB
  have hmm := Nat.mod_le at0 b.length
  refine calls_of (l := [b_v, (Value.int .u16 ((at0 : Nat) : Int)), (Value.agg (ints .u8 (change)).toArray)]) (rl := [.tmp 6]) (n := 74) Tryd.func8 rfl rfl rfl (by simp) ?_
  refine Swp.seq ?_
  refine Swp.region rfl ?_
  refine Rl.op (OpY.box (v := (Value.agg (ints .u8 (change)).toArray)) (cs := ints .u8 (change) ++ []) rfl (by simp [Value.cells]) hL ?_)
  intro b1 w2 hL3 hS4
  replace h_b := h_b.mono (hS4.le B)
  replace hg := hg.mono (hS4.le B)
  clear hL hS4
  replace hL3 : X.Loc [] B w w2 [some b1] [.cells (ints .u8 (change) ++ ([]))] := hL3
  refine Rl.op (OpY.assign (v := (Value.bool false)) rfl ?_)
  refine Rl.nil ?_
  refine Swp.seq ?_
  refine Swp.seq ?_
  refine Swp.region rfl ?_
  refine Rl.op (OpY.call en11 rfl rfl (awake_c  ([some b1] ++ B) _ hL3.bokO hg ) ?_)
  rintro r5 w6 hE7 ⟨rfl⟩
  replace h_b := h_b.mono (hE7.le ([some b1] ++ B))
  replace hg := hg.mono (hE7.le ([some b1] ++ B))
  have hL8 := hL3.ext hE7
  refine Rl.op (OpY.not (x := true) rfl ?_)
  refine Rl.op (OpY.move (v := (Value.bool false)) rfl ?_)
  refine Rl.yes (b' := false) rfl rfl rfl (OpY.move (v := b_v) rfl ?_)
  refine Rl.yes (b' := false) rfl rfl rfl (OpY.len_sl Tryd.underlying22 rfl h_b ?_)
  refine Rl.yes (b' := false) rfl rfl rfl (OpY.gtr (x := ((b.length : Nat) : Int)) (y := ((300 : Nat) : Int)) (b.length > 300) rfl rfl (by omega) ?_)
  refine Rl.op (OpY.pick_f (t := false) (v := (Value.bool (decide (b.length > 300)))) rfl rfl rfl ?_)
  refine Rl.op (OpY.move (v := (Value.bool (decide (b.length > 300)))) rfl ?_)
  by_cases hg9 : b.length > 300
  ·
    have hg9_b : (decide (b.length > 300)) = true := decide_eq_true hg9
    refine Rl.no (b' := (decide (b.length > 300))) rfl rfl hg9_b ?_
    refine Rl.no (b' := (decide (b.length > 300))) rfl rfl hg9_b ?_
    refine Rl.no (b' := (decide (b.length > 300))) rfl rfl hg9_b ?_
    refine Rl.op (OpY.pick_t (t := (decide (b.length > 300))) (v := (Value.bool true)) rfl hg9_b rfl ?_)
    refine Rl.op (OpY.move (v := (Value.bool true)) rfl ?_)
    refine Rl.no (b' := true) rfl rfl rfl ?_
    refine Rl.no (b' := true) rfl rfl rfl ?_
    refine Rl.no (b' := true) rfl rfl rfl ?_
    refine Rl.op (OpY.pick_t (t := true) (v := (Value.bool true)) rfl rfl rfl ?_)
    refine Rl.nil ?_
    refine Swp.cond_t (b := true) rfl rfl ?_
    refine Swp.seq ?_
    refine Swp.region rfl ?_
    refine Rl.op (OpY.call en11 rfl rfl (awake_c  ([some b1] ++ B) _ hL8.bokO hg ) ?_)
    rintro r10 w11 hE12 ⟨rfl⟩
    replace h_b := h_b.mono (hE12.le ([some b1] ++ B))
    replace hg := hg.mono (hE12.le ([some b1] ++ B))
    have hL13 := hL8.ext hE12
    refine Rl.op (OpY.assign (v := (Value.bool true)) rfl ?_)
    refine Rl.nil ?_
    refine Swp.ret ?_
    refine ⟨[(Value.bool true)], ⟨rfl, trivial⟩, ?_⟩
    refine ⟨_, rfl, hL13.done, ?_⟩
    · first | rfl | exact congrArg Value.bool (Eq.symm (by rw [hg1]; simp [burst_shows b_ok hyo hk hE hr]))
  ·
    have hg9_b : (decide (b.length > 300)) = false := decide_eq_false hg9
    refine Rl.yes (b' := (decide (b.length > 300))) rfl rfl hg9_b (OpY.move (v := b_v) rfl ?_)
    refine Rl.yes (b' := (decide (b.length > 300))) rfl rfl hg9_b (OpY.len_sl Tryd.underlying22 rfl h_b ?_)
    refine Rl.yes (b' := (decide (b.length > 300))) rfl rfl hg9_b (OpY.eql (x := ((b.length : Nat) : Int)) (y := ((0 : Nat) : Int)) (b.length = 0) rfl rfl (by omega) ?_)
    refine Rl.op (OpY.pick_f (t := (decide (b.length > 300))) (v := (Value.bool (decide (b.length = 0)))) rfl hg9_b rfl ?_)
    refine Rl.op (OpY.move (v := (Value.bool (decide (b.length = 0)))) rfl ?_)
    by_cases hg14 : b.length = 0
    ·
      have hg14_b : (decide (b.length = 0)) = true := decide_eq_true hg14
      refine Rl.no (b' := (decide (b.length = 0))) rfl rfl hg14_b ?_
      refine Rl.no (b' := (decide (b.length = 0))) rfl rfl hg14_b ?_
      refine Rl.no (b' := (decide (b.length = 0))) rfl rfl hg14_b ?_
      refine Rl.op (OpY.pick_t (t := (decide (b.length = 0))) (v := (Value.bool true)) rfl hg14_b rfl ?_)
      refine Rl.nil ?_
      refine Swp.cond_t (b := true) rfl rfl ?_
      refine Swp.seq ?_
      refine Swp.region rfl ?_
      refine Rl.op (OpY.call en11 rfl rfl (awake_c  ([some b1] ++ B) _ hL8.bokO hg ) ?_)
      rintro r15 w16 hE17 ⟨rfl⟩
      replace h_b := h_b.mono (hE17.le ([some b1] ++ B))
      replace hg := hg.mono (hE17.le ([some b1] ++ B))
      have hL18 := hL8.ext hE17
      refine Rl.op (OpY.assign (v := (Value.bool true)) rfl ?_)
      refine Rl.nil ?_
      refine Swp.ret ?_
      refine ⟨[(Value.bool true)], ⟨rfl, trivial⟩, ?_⟩
      refine ⟨_, rfl, hL18.done, ?_⟩
      · first | rfl | exact congrArg Value.bool (Eq.symm (by rw [hg1]; simp [burst_shows b_ok hyo hk hE hr]))
    ·
      have hg14_b : (decide (b.length = 0)) = false := decide_eq_false hg14
      refine Rl.yes (b' := (decide (b.length = 0))) rfl rfl hg14_b (OpY.load_own_agg (vs := ints .u8 (change)) Tryd.underlying36 rfl ti36 rfl hL8 0 rfl rfl (by rw [ints_length]; exact change_ln) (by simp) ?_)
      refine Rl.yes (b' := (decide (b.length = 0))) rfl rfl hg14_b (OpY.buildZero (cs := (ints .u8 (List.replicate 8 0)).toArray) Tryd.underlying36 ti36 ti5 rfl ?_)
      refine Rl.yes (b' := (decide (b.length = 0))) rfl rfl hg14_b (OpY.eqlArr (k := .u8) (xs := change) (ys := List.replicate 8 0) Tryd.underlying36 Tryd.underlying5 ti5 (by kernel_rfl) rfl rfl (change_ln) ((by simp)) (by kernel_rfl) ?_)
      refine Rl.op (OpY.pick_f (t := (decide (b.length = 0))) (v := (Value.bool (decide (change = List.replicate 8 0)))) rfl hg14_b rfl ?_)
      refine Rl.nil ?_
      refine Swp.cond_d (change = List.replicate 8 0) rfl (fun hc19 => ?_) (fun hc19 => ?_)
      ·
        skip
        refine Swp.seq ?_
        refine Swp.region rfl ?_
        refine Rl.op (OpY.call en11 rfl rfl (awake_c  ([some b1] ++ B) _ hL8.bokO hg ) ?_)
        rintro r20 w21 hE22 ⟨rfl⟩
        replace h_b := h_b.mono (hE22.le ([some b1] ++ B))
        replace hg := hg.mono (hE22.le ([some b1] ++ B))
        have hL23 := hL8.ext hE22
        refine Rl.op (OpY.assign (v := (Value.bool true)) rfl ?_)
        refine Rl.nil ?_
        refine Swp.ret ?_
        refine ⟨[(Value.bool true)], ⟨rfl, trivial⟩, ?_⟩
        refine ⟨_, rfl, hL23.done, ?_⟩
        · first | rfl | exact congrArg Value.bool (Eq.symm (by rw [hg1]; simp [burst_shows b_ok hyo hk hE hr]))
      ·
        skip
        refine Swp.skip ?_
        refine Swp.seq ?_
        refine Swp.region rfl ?_
        refine Rl.op (OpY.move (v := b_v) rfl ?_)
        refine Rl.op (OpY.call en13 rfl rfl (cp_c b_v (b) (b_ok) (by first | assumption | omega | (simp; done) | (simp; omega)) ([some b1] ++ B) _ hL8.bokO h_b ) ?_)
        rintro r24 w25 hE26 ⟨_, rfl, ob27, cap28, sp29, rfl, hfr30, ho31, hcap32⟩
        have hL33 := (hL8.adopt hE26 hfr30 ho31).1
        replace h_b := h_b.mono ((hL8.adopt hE26 hfr30 ho31).2.le B)
        replace hg := hg.mono ((hL8.adopt hE26 hfr30 ho31).2.le B)
        clear hL8
        replace hcap32 : (ints .u8 ((b)) ++ sp29).length = cap28 * 1 := by rw [hcap32, Nat.mul_one]
        replace hL33 : X.Loc [] B w w25 [ob27, some b1] [.cells (ints .u8 ((b)) ++ (sp29)), .cells (ints .u8 (change) ++ ([]))] := hL33
        refine Rl.op (OpY.assign (v := (sv ob27 (((b)).length) (cap28))) rfl ?_)
        refine Rl.nil ?_
        refine Swp.seq ?_
        refine Swp.region rfl ?_
        refine Rl.op (OpY.move (v := (Value.int .u16 ((at0 : Nat) : Int))) rfl ?_)
        refine Rl.op (OpY.convInt (x := ((at0 : Nat) : Int)) (z := ((at0 : Nat) : Int)) Tryd.underlying35 Tryd.underlying3 rfl (wq_i64 rfl (by omega) (by have := (show at0 < 65536 from (at0_lt)); omega)) ?_)
        refine Rl.op (OpY.move (v := b_v) rfl ?_)
        refine Rl.op (OpY.len_sl Tryd.underlying22 rfl h_b ?_)
        refine Rl.op (OpY.rem (x := at0) (y := b.length) rfl rfl (by omega) ?_)
        refine Rl.op (OpY.assign (v := (Value.int .i64 (((at0 % b.length) : Nat) : Int))) rfl ?_)
        refine Rl.op (OpY.assign (v := (Value.bool false)) rfl ?_)
        refine Rl.nil ?_
        refine Swp.seq ?_
        refine Swp.seq ?_
        refine Swp.region rfl ?_
        refine Rl.op (OpY.assign (v := (Value.int .i64 ((0 : Nat) : Int))) rfl ?_)
        refine Rl.nil ?_
        refine Swp.block ?_
        refine Swp.loopS [9, 10, 36, 37, 38, 39, 40, 41, 42, 43, 44, 45, 46, 47, 48, 49, 50, 51, 52, 53, 54, 55, 56, 57, 58, 59, 60, 61, 62, 63, 64, 65] (σ := (Nat) × (Bool) × (Nat) × (List Nat)) (fun ss => (fun (k : Nat) (g : Bool) (E : Nat) (ys : List Nat) => [(10, (Value.int .i64 ((k : Nat) : Int))), (9, (Value.bool (g)))]) ss.1 ss.2.1 ss.2.2.1 ss.2.2.2) (fun ss w' => (fun (k : Nat) (g : Bool) (E : Nat) (ys : List Nat) => X.Loc [] B w w' [ob27, some b1] [.cells (ints .u8 (ys) ++ (sp29)), .cells (ints .u8 (change) ++ ([]))] ∧ Ints .u8 (view ([ob27, some b1] ++ B) w') b_v b ∧ At (view ([ob27, some b1] ++ B) w') 3 15 [(Value.int .u8 ((4 : Nat) : Int))] ∧ (k ≤ 8) ∧ (E < 2 ^ (8 * k)) ∧ (g = decide (¬ E = 0)) ∧ (ys.length = b.length) ∧ (∀ x ∈ ys, x < 256) ∧ ((ints .u8 (ys) ++ sp29).length = cap28 * 1) ∧ (reg 18446744073709551615 ys = reg 18446744073709551615 b ^^^ rounds (8 * (b.length - at0 % b.length)) E) ∧ True) ss.1 ss.2.1 ss.2.2.1 ss.2.2.2) (fun ss => (fun (k : Nat) (g : Bool) (E : Nat) (ys : List Nat) => 8 - k) ss.1 ss.2.1 ss.2.2.1 ss.2.2.2) ((0), (false), (0), ((b))) ⟨hL33, h_b, hg, (by omega), (by simp), (rfl), (rfl), (b_ok), (hcap32), (by rw [rounds_nil, Nat.xor_zero]), trivial⟩ ⟨rfl, rfl, trivial⟩ ?_
        clear h_b
        clear hg
        clear hL33
        rintro ⟨k, g, E, ys⟩ e34 w35 ⟨hL36, h_b, hg, hk, hE, hg1, hyl, hyo, hyc, hr, -⟩
        replace hk : k ≤ 8 := hk
        replace hE : E < 2 ^ (8 * k) := hE
        replace hg1 : g = decide (¬ E = 0) := hg1
        replace hyl : ys.length = b.length := hyl
        replace hyo : ∀ x ∈ ys, x < 256 := hyo
        replace hyc : (ints .u8 (ys) ++ sp29).length = cap28 * 1 := hyc
        replace hr : reg 18446744073709551615 ys = reg 18446744073709551615 b ^^^ rounds (8 * (b.length - at0 % b.length)) E := hr
        show Swp _ _ _ _ ((upd (upd (mix _ e34 _) 9 (Value.bool (g))) 10 (Value.int .i64 ((k : Nat) : Int)))) w35
        obtain ⟨bxb37, hb38⟩ := OwnC.some_of (hL36.at 0 rfl rfl) (len_ints_pos (xs := ys) (i := 0) (by omega))
        refine Swp.seq ?_
        refine Swp.seq ?_
        refine Swp.region rfl ?_
        refine Rl.op (OpY.move (v := (Value.int .i64 ((k : Nat) : Int))) rfl ?_)
        refine Rl.op (OpY.lss (x := ((k : Nat) : Int)) (y := ((8 : Nat) : Int)) (k < 8) rfl rfl (by omega) ?_)
        refine Rl.op (OpY.move (v := (Value.bool (decide (k < 8)))) rfl ?_)
        by_cases hg39 : k < 8
        ·
          have hg39_b : (decide (k < 8)) = true := decide_eq_true hg39
          refine Rl.yes (b' := (decide (k < 8))) rfl rfl hg39_b (OpY.move (v := (Value.int .i64 (((at0 % b.length) : Nat) : Int))) rfl ?_)
          refine Rl.yes (b' := (decide (k < 8))) rfl rfl hg39_b (OpY.move (v := (Value.int .i64 ((k : Nat) : Int))) rfl ?_)
          refine Rl.yes (b' := (decide (k < 8))) rfl rfl hg39_b (OpY.add (x := (((at0 % b.length) : Nat) : Int)) (y := ((k : Nat) : Int)) (z := ((((at0 % b.length) + k) : Nat) : Int)) rfl rfl (wq_i64 (by omega) (by omega) (by omega)) ?_)
          refine Rl.yes (b' := (decide (k < 8))) rfl rfl hg39_b (OpY.move (v := (sv ob27 (((b)).length) (cap28))) rfl ?_)
          refine Rl.yes (b' := (decide (k < 8))) rfl rfl hg39_b (OpY.len_sv Tryd.underlying22 rfl (OwnC.len0 (hL36.at 0 rfl rfl) (by first | rfl | omega | (simp; done) | (simp; omega))) ?_)
          refine Rl.yes (b' := (decide (k < 8))) rfl rfl hg39_b (OpY.lss (x := ((((at0 % b.length) + k) : Nat) : Int)) (y := ((((b)).length : Nat) : Int)) (((at0 % b.length) + k) < ((b)).length) rfl rfl (by omega) ?_)
          refine Rl.op (OpY.pick_t (t := (decide (k < 8))) (v := (Value.bool (decide (((at0 % b.length) + k) < ((b)).length)))) rfl hg39_b rfl ?_)
          refine Rl.nil ?_
          refine Swp.cond_d (((at0 % b.length) + k) < ((b)).length) rfl (fun hc40 => ?_) (fun hc40 => ?_)
          ·
            skip
            refine Swp.skip ?_
            refine Swp.seq ?_
            refine Swp.block ?_
            refine Swp.seq ?_
            refine Swp.draw 9 [.det (sv ob27 (((b)).length) (cap28)), .det (Value.int .i64 (((at0 % b.length) : Nat) : Int)), .det (Value.int .i64 ((k : Nat) : Int)), .det (Value.int .i64 ((((at0 % b.length) + k) : Nat) : Int)), .det (Value.pointer (some ⟨bxb37, ((at0 % b.length) + k), none⟩)), .det (Value.int .u8 ((((ys).getD (((at0 % b.length) + k)) 0) : Nat) : Int)), .det (Value.int .i64 ((k : Nat) : Int)), .det (Value.pointer (some ⟨b1, k, none⟩)), .det (Value.int .u8 ((((change).getD (k) 0) : Nat) : Int))] mixed rfl rfl (trivial) ?_
            intro w41 hE42
            replace h_b := h_b.mono (hE42.le ([ob27, some b1] ++ B))
            replace hg := hg.mono (hE42.le ([ob27, some b1] ++ B))
            have hL43 := hL36.ext hE42
            refine DrG.det ?_ ?_
            ·
              rintro w44 hE45 ⟨-⟩
              replace h_b := h_b.mono (hE45.le ([ob27, some b1] ++ B))
              replace hg := hg.mono (hE45.le ([ob27, some b1] ++ B))
              have hL47 := hL43.ext hE45
              refine GOp.op (OpY.move (v := (sv ob27 (((b)).length) (cap28))) rfl ?_)
              exact ⟨Ext.refl _, rfl⟩
            refine DrG.det ?_ ?_
            ·
              rintro w48 hE49 ⟨-⟩
              replace h_b := h_b.mono (hE49.le ([ob27, some b1] ++ B))
              replace hg := hg.mono (hE49.le ([ob27, some b1] ++ B))
              have hL51 := hL43.ext hE49
              refine GOp.op (OpY.move (v := (Value.int .i64 (((at0 % b.length) : Nat) : Int))) rfl ?_)
              exact ⟨Ext.refl _, rfl⟩
            refine DrG.det ?_ ?_
            ·
              rintro w52 hE53 ⟨-⟩
              replace h_b := h_b.mono (hE53.le ([ob27, some b1] ++ B))
              replace hg := hg.mono (hE53.le ([ob27, some b1] ++ B))
              have hL55 := hL43.ext hE53
              refine GOp.op (OpY.move (v := (Value.int .i64 ((k : Nat) : Int))) rfl ?_)
              exact ⟨Ext.refl _, rfl⟩
            refine DrG.det ?_ ?_
            ·
              rintro w56 hE57 ⟨-⟩
              replace h_b := h_b.mono (hE57.le ([ob27, some b1] ++ B))
              replace hg := hg.mono (hE57.le ([ob27, some b1] ++ B))
              have hL59 := hL43.ext hE57
              refine GOp.op (OpY.add (x := (((at0 % b.length) : Nat) : Int)) (y := ((k : Nat) : Int)) (z := ((((at0 % b.length) + k) : Nat) : Int)) rfl rfl (wq_i64 (by omega) (by omega) (by omega)) ?_)
              exact ⟨Ext.refl _, rfl⟩
            refine DrG.det ?_ ?_
            ·
              rintro w60 hE61 ⟨-⟩
              replace h_b := h_b.mono (hE61.le ([ob27, some b1] ++ B))
              replace hg := hg.mono (hE61.le ([ob27, some b1] ++ B))
              have hL63 := hL43.ext hE61
              refine GOp.op (OpY.indexAddr (i := ((at0 % b.length) + k)) (q := ((at0 % b.length) + k)) Tryd.underlying22 ti5 (congrArg (fun z => sv z (((b)).length) (cap28)) hb38) rfl (by omega) (by omega) ?_)
              exact ⟨Ext.refl _, rfl⟩
            refine DrG.det ?_ ?_
            ·
              rintro w64 hE65 ⟨-⟩
              replace h_b := h_b.mono (hE65.le ([ob27, some b1] ++ B))
              replace hg := hg.mono (hE65.le ([ob27, some b1] ++ B))
              have hL67 := hL43.ext hE65
              refine GOp.op (OpY.load_intsD (k := .u8) (j := ((at0 % b.length) + k)) (xs := ys) (sp := sp29) Tryd.underlying5 rfl rfl hL67 0 (congrArg some hb38) rfl (by first | omega | (simp; omega)) ?_)
              exact ⟨Ext.refl _, rfl⟩
            refine DrG.det ?_ ?_
            ·
              rintro w69 hE70 ⟨-⟩
              replace h_b := h_b.mono (hE70.le ([ob27, some b1] ++ B))
              replace hg := hg.mono (hE70.le ([ob27, some b1] ++ B))
              have hL72 := hL43.ext hE70
              refine GOp.op (OpY.move (v := (Value.int .i64 ((k : Nat) : Int))) rfl ?_)
              exact ⟨Ext.refl _, rfl⟩
            refine DrG.det ?_ ?_
            ·
              rintro w73 hE74 ⟨-⟩
              replace h_b := h_b.mono (hE74.le ([ob27, some b1] ++ B))
              replace hg := hg.mono (hE74.le ([ob27, some b1] ++ B))
              have hL76 := hL43.ext hE74
              refine GOp.op (OpY.indexAddr_arr (i := k) (q := k) Tryd.underlying36 ti5 rfl rfl (by omega) (by omega) ?_)
              exact ⟨Ext.refl _, rfl⟩
            refine DrG.det ?_ ?_
            ·
              rintro w77 hE78 ⟨-⟩
              replace h_b := h_b.mono (hE78.le ([ob27, some b1] ++ B))
              replace hg := hg.mono (hE78.le ([ob27, some b1] ++ B))
              have hL80 := hL43.ext hE78
              refine GOp.op (OpY.load_intsD (k := .u8) (j := k) (xs := change) (sp := []) Tryd.underlying5 rfl rfl hL80 1 rfl rfl (by first | omega | (simp; omega)) ?_)
              exact ⟨Ext.refl _, rfl⟩
            refine DrG.fin ?_
            rintro w82 hE83 ⟨-⟩
            replace h_b := h_b.mono (hE83.le ([ob27, some b1] ++ B))
            replace hg := hg.mono (hE83.le ([ob27, some b1] ++ B))
            have hL84 := hL43.ext hE83
            refine Rl.op (OpY.xor (x := ((ys).getD (((at0 % b.length) + k)) 0)) (y := ((change).getD (k) 0)) rfl rfl (wq_u8 rfl ((getD_lt hyo (by decide) _))) (wq_u8 rfl ((getD_lt change_ok (by decide) _))) ?_)
            refine Rl.op (OpY.indexAddr (i := ((at0 % b.length) + k)) (q := ((at0 % b.length) + k)) Tryd.underlying22 ti5 (congrArg (fun z => sv z (((b)).length) (cap28)) hb38) rfl (by omega) (by omega) ?_)
            refine Rl.op0 (OpY.store_ints (k := .u8) (j := ((at0 % b.length) + k)) (v := (((ys).getD (((at0 % b.length) + k)) 0) ^^^ ((change).getD (k) 0))) (xs := ys) (sp := sp29) ti5 rfl rfl hL84 0 (congrArg some hb38) rfl (by first | omega | (simp; omega)) ?_)
            intro w85 hL86 hS87
            replace h_b := h_b.mono (hS87.le B)
            replace hg := hg.mono (hS87.le B)
            clear hL84 hS87
            replace hL86 : X.Loc [] B w w85 [ob27, some b1] [.cells (ints .u8 ((ys).set (((at0 % b.length) + k)) ((((ys).getD (((at0 % b.length) + k)) 0) ^^^ ((change).getD (k) 0)))) ++ (sp29)), .cells (ints .u8 (change) ++ ([]))] := hL86
            refine Rl.nil ?_
            refine Swp.region rfl ?_
            refine Rl.op (OpY.move (v := (Value.bool (g))) rfl ?_)
            refine Rl.op (OpY.move (v := (Value.bool (g))) rfl ?_)
            by_cases hg88 : (g) = true
            ·
              have hg88_b : (g) = true := hg88
              refine Rl.no (b' := (g)) rfl rfl hg88_b ?_
              refine Rl.no (b' := (g)) rfl rfl hg88_b ?_
              refine Rl.no (b' := (g)) rfl rfl hg88_b ?_
              refine Rl.no (b' := (g)) rfl rfl hg88_b ?_
              refine Rl.op (OpY.pick_t (t := (g)) (v := (Value.bool true)) rfl hg88_b rfl ?_)
              refine Rl.op (OpY.assign (v := (Value.bool true)) rfl ?_)
              refine Rl.nil ?_
              refine Swp.pop_blk ?_
              refine Swp.region rfl ?_
              refine Rl.op (OpY.move (v := (Value.int .i64 ((k : Nat) : Int))) rfl ?_)
              refine Rl.op (OpY.add (x := ((k : Nat) : Int)) (y := ((1 : Nat) : Int)) (z := (((k + 1) : Nat) : Int)) rfl rfl (wq_i64 (by omega) (by omega) (by omega)) ?_)
              refine Rl.op (OpY.assign (v := (Value.int .i64 (((k + 1) : Nat) : Int))) rfl ?_)
              refine Rl.nil ?_
              refine Swp.pop_back ⟨(((k + 1)), (true), (E ^^^ 2 ^ (8 * k) * change.getD k 0), ((ys).set (((at0 % b.length) + k)) ((((ys).getD (((at0 % b.length) + k)) 0) ^^^ ((change).getD (k) 0))))), ⟨hL86, h_b, hg, ?_, ?_, ?_, ?_, ?_, ?_, ?_, trivial⟩, ?_, ⟨rfl, rfl, trivial⟩, ?_⟩
              · show ((k + 1)) ≤ 8
                omega
              · show (E ^^^ 2 ^ (8 * k) * change.getD k 0) < 2 ^ (8 * ((k + 1)))
                exact (burst_lt hE (getD_lt change_ok (by decide) _)).1
              · show (true) = decide (¬ (E ^^^ 2 ^ (8 * k) * change.getD k 0) = 0)
                have h9 := (burst_lt hE (getD_lt change_ok (by decide) k)).2
                rw [Bool.eq_iff_iff]
                simp_all
              · show ((ys).set (((at0 % b.length) + k)) ((((ys).getD (((at0 % b.length) + k)) 0) ^^^ ((change).getD (k) 0)))).length = b.length
                simp only [List.length_set]; omega
              · show ∀ x ∈ ((ys).set (((at0 % b.length) + k)) ((((ys).getD (((at0 % b.length) + k)) 0) ^^^ ((change).getD (k) 0)))), x < 256
                intro x hx
                rcases List.mem_or_eq_of_mem_set hx with h | h
                · exact hyo x h
                · rw [h]; exact Nat.xor_lt_two_pow (n := 8) (getD_lt hyo (by decide) _) (getD_lt change_ok (by decide) _)
              · show (ints .u8 (((ys).set (((at0 % b.length) + k)) ((((ys).getD (((at0 % b.length) + k)) 0) ^^^ ((change).getD (k) 0))))) ++ sp29).length = cap28 * 1
                simp only [List.length_append, ints_length, List.length_set] at *; omega
              · show reg 18446744073709551615 ((ys).set (((at0 % b.length) + k)) ((((ys).getD (((at0 % b.length) + k)) 0) ^^^ ((change).getD (k) 0)))) = reg 18446744073709551615 b ^^^ rounds (8 * (b.length - at0 % b.length)) (E ^^^ 2 ^ (8 * k) * change.getD k 0)
                exact reg_burst hyl (by omega) hr
              · show 8 - ((k + 1)) < 8 - k
                omega
              · repeat (first | exact agree_mix | exact agree_refl | refine agree_upd rfl ?_ | refine agree_mix2 rfl ?_)
            ·
              have hg88_b : (g) = false := Bool.eq_false_iff.2 hg88
              refine Rl.yes (b' := (g)) rfl rfl hg88_b (OpY.move (v := (Value.int .i64 ((k : Nat) : Int))) rfl ?_)
              refine Rl.yes (b' := (g)) rfl rfl hg88_b (OpY.indexAddr_arr (i := k) (q := k) Tryd.underlying36 ti5 rfl rfl (by omega) (by omega) ?_)
              refine Rl.yes (b' := (g)) rfl rfl hg88_b (OpY.load_intsD (k := .u8) (j := k) (xs := change) (sp := []) Tryd.underlying5 rfl rfl hL86 1 rfl rfl (by first | omega | (simp; omega)) ?_)
              refine Rl.yes (b' := (g)) rfl rfl hg88_b (OpY.neq (x := ((((change).getD (k) 0) : Nat) : Int)) (y := ((0 : Nat) : Int)) (((change).getD (k) 0) ≠ 0) rfl rfl (by omega) ?_)
              refine Rl.op (OpY.pick_f (t := (g)) (v := (Value.bool (decide (((change).getD (k) 0) ≠ 0)))) rfl hg88_b rfl ?_)
              refine Rl.op (OpY.assign (v := (Value.bool (decide (((change).getD (k) 0) ≠ 0)))) rfl ?_)
              refine Rl.nil ?_
              refine Swp.pop_blk ?_
              refine Swp.region rfl ?_
              refine Rl.op (OpY.move (v := (Value.int .i64 ((k : Nat) : Int))) rfl ?_)
              refine Rl.op (OpY.add (x := ((k : Nat) : Int)) (y := ((1 : Nat) : Int)) (z := (((k + 1) : Nat) : Int)) rfl rfl (wq_i64 (by omega) (by omega) (by omega)) ?_)
              refine Rl.op (OpY.assign (v := (Value.int .i64 (((k + 1) : Nat) : Int))) rfl ?_)
              refine Rl.nil ?_
              refine Swp.pop_back ⟨(((k + 1)), ((decide (((change).getD (k) 0) ≠ 0))), (E ^^^ 2 ^ (8 * k) * change.getD k 0), ((ys).set (((at0 % b.length) + k)) ((((ys).getD (((at0 % b.length) + k)) 0) ^^^ ((change).getD (k) 0))))), ⟨hL86, h_b, hg, ?_, ?_, ?_, ?_, ?_, ?_, ?_, trivial⟩, ?_, ⟨rfl, rfl, trivial⟩, ?_⟩
              · show ((k + 1)) ≤ 8
                omega
              · show (E ^^^ 2 ^ (8 * k) * change.getD k 0) < 2 ^ (8 * ((k + 1)))
                exact (burst_lt hE (getD_lt change_ok (by decide) _)).1
              · show ((decide (((change).getD (k) 0) ≠ 0))) = decide (¬ (E ^^^ 2 ^ (8 * k) * change.getD k 0) = 0)
                have h9 := (burst_lt hE (getD_lt change_ok (by decide) k)).2
                rw [Bool.eq_iff_iff]
                simp_all
              · show ((ys).set (((at0 % b.length) + k)) ((((ys).getD (((at0 % b.length) + k)) 0) ^^^ ((change).getD (k) 0)))).length = b.length
                simp only [List.length_set]; omega
              · show ∀ x ∈ ((ys).set (((at0 % b.length) + k)) ((((ys).getD (((at0 % b.length) + k)) 0) ^^^ ((change).getD (k) 0)))), x < 256
                intro x hx
                rcases List.mem_or_eq_of_mem_set hx with h | h
                · exact hyo x h
                · rw [h]; exact Nat.xor_lt_two_pow (n := 8) (getD_lt hyo (by decide) _) (getD_lt change_ok (by decide) _)
              · show (ints .u8 (((ys).set (((at0 % b.length) + k)) ((((ys).getD (((at0 % b.length) + k)) 0) ^^^ ((change).getD (k) 0))))) ++ sp29).length = cap28 * 1
                simp only [List.length_append, ints_length, List.length_set] at *; omega
              · show reg 18446744073709551615 ((ys).set (((at0 % b.length) + k)) ((((ys).getD (((at0 % b.length) + k)) 0) ^^^ ((change).getD (k) 0)))) = reg 18446744073709551615 b ^^^ rounds (8 * (b.length - at0 % b.length)) (E ^^^ 2 ^ (8 * k) * change.getD k 0)
                exact reg_burst hyl (by omega) hr
              · show 8 - ((k + 1)) < 8 - k
                omega
              · repeat (first | exact agree_mix | exact agree_refl | refine agree_upd rfl ?_ | refine agree_mix2 rfl ?_)
          ·
            skip
            refine Swp.exit rfl ?_
            refine Swp.seq ?_
            refine Swp.region rfl ?_
            refine Rl.op (OpY.move (v := (sv ob27 (((b)).length) (cap28))) rfl ?_)
            refine Rl.op (OpY.callq (v := (Value.int .u64 ((crcN 0 (ys) : Nat) : Int))) en12 rfl rfl (csum_c (sv ob27 (((b)).length) (cap28)) (ys) (hyo) (by first | assumption | omega | (simp; done) | (simp; omega)) ([some b1] ++ B) _ (Bok.sub hL36.bokO (by simp +contextual)) (hL36.intsB rfl 0 rfl rfl hyc (by first | rfl | omega | (simp; done) | (simp; omega)) B hB) ) ?_)
            refine Rl.op (OpY.move (v := b_v) rfl ?_)
            refine Rl.op (OpY.call en13 rfl rfl (cp_c b_v (b) (b_ok) (by first | assumption | omega | (simp; done) | (simp; omega)) ([ob27, some b1] ++ B) _ hL36.bokO h_b ) ?_)
            rintro r90 w91 hE92 ⟨_, rfl, ob93, cap94, sp95, rfl, hfr96, ho97, hcap98⟩
            have hL99 := (hL36.adopt hE92 hfr96 ho97).1
            replace h_b := h_b.mono ((hL36.adopt hE92 hfr96 ho97).2.le B)
            replace hg := hg.mono ((hL36.adopt hE92 hfr96 ho97).2.le B)
            clear hL36
            replace hcap98 : (ints .u8 ((b)) ++ sp95).length = cap94 * 1 := by rw [hcap98, Nat.mul_one]
            replace hL99 : X.Loc [] B w w91 [ob93, ob27, some b1] [.cells (ints .u8 ((b)) ++ (sp95)), .cells (ints .u8 (ys) ++ (sp29)), .cells (ints .u8 (change) ++ ([]))] := hL99
            refine Rl.op (OpY.callq (v := (Value.int .u64 ((crcN 0 ((b)) : Nat) : Int))) en12 rfl rfl (csum_c (sv ob93 (((b)).length) (cap94)) ((b)) (((b_ok))) (by first | assumption | omega | (simp; done) | (simp; omega)) ([ob27, some b1] ++ B) _ (Bok.sub hL99.bokO (by simp +contextual)) (hL99.intsB rfl 0 rfl rfl hcap98 (by first | rfl | omega | (simp; done) | (simp; omega)) B hB) ) ?_)
            refine Rl.op (OpY.neq (x := ((crcN 0 (ys) : Nat) : Int)) (y := ((crcN 0 ((b)) : Nat) : Int)) (crcN 0 (ys) ≠ crcN 0 ((b))) rfl rfl (by omega) ?_)
            refine Rl.op (OpY.move (v := (Value.bool (g))) rfl ?_)
            refine Rl.op (OpY.eqlBool (x := (decide (crcN 0 (ys) ≠ crcN 0 ((b))))) (y := (g)) Tryd.underlying4 rfl rfl ?_)
            refine Rl.op (OpY.assign (v := (Value.bool ((decide (crcN 0 (ys) ≠ crcN 0 ((b)))) == (g)))) rfl ?_)
            refine Rl.nil ?_
            refine Swp.ret ?_
            refine ⟨[(Value.bool ((decide (crcN 0 (ys) ≠ crcN 0 ((b)))) == (g)))], ⟨rfl, trivial⟩, ?_⟩
            refine ⟨_, rfl, hL99.done, ?_⟩
            · first | rfl | exact congrArg Value.bool (Eq.symm (by rw [hg1]; simp [burst_shows b_ok hyo hk hE hr]))
        ·
          have hg39_b : (decide (k < 8)) = false := decide_eq_false hg39
          refine Rl.no (b' := (decide (k < 8))) rfl rfl hg39_b ?_
          refine Rl.no (b' := (decide (k < 8))) rfl rfl hg39_b ?_
          refine Rl.no (b' := (decide (k < 8))) rfl rfl hg39_b ?_
          refine Rl.no (b' := (decide (k < 8))) rfl rfl hg39_b ?_
          refine Rl.no (b' := (decide (k < 8))) rfl rfl hg39_b ?_
          refine Rl.no (b' := (decide (k < 8))) rfl rfl hg39_b ?_
          refine Rl.op (OpY.pick_f (t := (decide (k < 8))) (v := (Value.bool false)) rfl hg39_b rfl ?_)
          refine Rl.nil ?_
          refine Swp.cond_f (b := false) rfl rfl ?_
          refine Swp.exit rfl ?_
          refine Swp.seq ?_
          refine Swp.region rfl ?_
          refine Rl.op (OpY.move (v := (sv ob27 (((b)).length) (cap28))) rfl ?_)
          refine Rl.op (OpY.callq (v := (Value.int .u64 ((crcN 0 (ys) : Nat) : Int))) en12 rfl rfl (csum_c (sv ob27 (((b)).length) (cap28)) (ys) (hyo) (by first | assumption | omega | (simp; done) | (simp; omega)) ([some b1] ++ B) _ (Bok.sub hL36.bokO (by simp +contextual)) (hL36.intsB rfl 0 rfl rfl hyc (by first | rfl | omega | (simp; done) | (simp; omega)) B hB) ) ?_)
          refine Rl.op (OpY.move (v := b_v) rfl ?_)
          refine Rl.op (OpY.call en13 rfl rfl (cp_c b_v (b) (b_ok) (by first | assumption | omega | (simp; done) | (simp; omega)) ([ob27, some b1] ++ B) _ hL36.bokO h_b ) ?_)
          rintro r100 w101 hE102 ⟨_, rfl, ob103, cap104, sp105, rfl, hfr106, ho107, hcap108⟩
          have hL109 := (hL36.adopt hE102 hfr106 ho107).1
          replace h_b := h_b.mono ((hL36.adopt hE102 hfr106 ho107).2.le B)
          replace hg := hg.mono ((hL36.adopt hE102 hfr106 ho107).2.le B)
          clear hL36
          replace hcap108 : (ints .u8 ((b)) ++ sp105).length = cap104 * 1 := by rw [hcap108, Nat.mul_one]
          replace hL109 : X.Loc [] B w w101 [ob103, ob27, some b1] [.cells (ints .u8 ((b)) ++ (sp105)), .cells (ints .u8 (ys) ++ (sp29)), .cells (ints .u8 (change) ++ ([]))] := hL109
          refine Rl.op (OpY.callq (v := (Value.int .u64 ((crcN 0 ((b)) : Nat) : Int))) en12 rfl rfl (csum_c (sv ob103 (((b)).length) (cap104)) ((b)) (((b_ok))) (by first | assumption | omega | (simp; done) | (simp; omega)) ([ob27, some b1] ++ B) _ (Bok.sub hL109.bokO (by simp +contextual)) (hL109.intsB rfl 0 rfl rfl hcap108 (by first | rfl | omega | (simp; done) | (simp; omega)) B hB) ) ?_)
          refine Rl.op (OpY.neq (x := ((crcN 0 (ys) : Nat) : Int)) (y := ((crcN 0 ((b)) : Nat) : Int)) (crcN 0 (ys) ≠ crcN 0 ((b))) rfl rfl (by omega) ?_)
          refine Rl.op (OpY.move (v := (Value.bool (g))) rfl ?_)
          refine Rl.op (OpY.eqlBool (x := (decide (crcN 0 (ys) ≠ crcN 0 ((b))))) (y := (g)) Tryd.underlying4 rfl rfl ?_)
          refine Rl.op (OpY.assign (v := (Value.bool ((decide (crcN 0 (ys) ≠ crcN 0 ((b)))) == (g)))) rfl ?_)
          refine Rl.nil ?_
          refine Swp.ret ?_
          refine ⟨[(Value.bool ((decide (crcN 0 (ys) ≠ crcN 0 ((b)))) == (g)))], ⟨rfl, trivial⟩, ?_⟩
          refine ⟨_, rfl, hL109.done, ?_⟩
          · first | rfl | exact congrArg Value.bool (Eq.symm (by rw [hg1]; simp [burst_shows b_ok hyo hk hE hr]))
end Go.Proofs.YtpfbdhfpojbmlaaDoor.P5

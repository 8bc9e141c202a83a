/- Walks. Written by a program of mine (wip/tool/gen.py); the kernel checks them. -/
import Derived.Test.YtpfbdhfpojbmlaaDoorProg
import Derived.Test.YtpfbdhfpojbmlaaDoorX10
import Derived.Test.YtpfbdhfpojbmlaaDoorM06
import Derived.Test.YtpfbdhfpojbmlaaDoorW1
import Derived.Test.YtpfbdhfpojbmlaaDoorW2
import Derived.Test.YtpfbdhfpojbmlaaDoorW3
namespace Go.Proofs.YtpfbdhfpojbmlaaDoor.P4
open Go Go.RowKit Go.X Go.C06 Go.Proofs.YtpfbdhfpojbmlaaDoor.P2 Go.Proofs.YtpfbdhfpojbmlaaDoor.P3

theorem mixed : Tryd.prog.follows .mixedOrders = true := by kernel_rfl

theorem ti5 : TI Tryd.prog 5 1 1 (Value.int .u8 0) := TI.mk (by kernel_rfl)
theorem en11 : Enters Tryd.prog 11 := ⟨Tryd.f11, Tryd.func11, by kernel_rfl, by kernel_rfl⟩
theorem en12 : Enters Tryd.prog 12 := ⟨Tryd.f12, Tryd.func12, by kernel_rfl, by kernel_rfl⟩
theorem en13 : Enters Tryd.prog 13 := ⟨Tryd.f13, Tryd.func13, by kernel_rfl, by kernel_rfl⟩
theorem en14 : Enters Tryd.prog 14 := ⟨Tryd.f14, Tryd.func14, by kernel_rfl, by kernel_rfl⟩
theorem en15 : Enters Tryd.prog 15 := ⟨Tryd.f15, Tryd.func15, by kernel_rfl, by kernel_rfl⟩
theorem en16 : Enters Tryd.prog 16 := ⟨Tryd.f16, Tryd.func16, by kernel_rfl, by kernel_rfl⟩
theorem en17 : Enters Tryd.prog 17 := ⟨Tryd.f17, Tryd.func17, by kernel_rfl, by kernel_rfl⟩
theorem en18 : Enters Tryd.prog 18 := ⟨Tryd.f18, Tryd.func18, by kernel_rfl, by kernel_rfl⟩
theorem en19 : Enters Tryd.prog 19 := ⟨Tryd.f19, Tryd.func19, by kernel_rfl, by kernel_rfl⟩
theorem en20 : Enters Tryd.prog 20 := ⟨Tryd.f20, Tryd.func20, by kernel_rfl, by kernel_rfl⟩
theorem en21 : Enters Tryd.prog 21 := ⟨Tryd.f21, Tryd.func21, by kernel_rfl, by kernel_rfl⟩
theorem en22 : Enters Tryd.prog 22 := ⟨Tryd.f22, Tryd.func22, by kernel_rfl, by kernel_rfl⟩
attribute [local irreducible] crcN checkN hexN appN
theorem ChecksumSum_c (b_v : Value) (b : List (Nat)) (b_ok : ∀ x ∈ b, x < 256) (B : List (Option Nat)) (w : World) (hB : Bok B w) (h_b : Ints .u8 (view B w) b_v b) (hg : At (view B w) 3 15 [(Value.int .u8 ((4 : Nat) : Int))])  :
    Calls Tryd.prog 3 #[b_v] w (Ret w (fun r w' => (Value.bool true) = r)) := by
  have hL := Loc.start hB
  refine calls_of (l := [b_v]) (rl := [.tmp 2]) (n := 17) Tryd.func3 rfl rfl rfl (by simp) ?_
  refine Swp.seq ?_
  refine Swp.region rfl ?_
  refine Rl.op (OpY.assign (v := (Value.bool false)) rfl ?_)
  refine Rl.nil ?_
  refine Swp.seq ?_
  refine Swp.region rfl ?_
  refine Rl.op (OpY.call en11 rfl rfl (awake_c  ([] ++ B) _ hL.bokO hg ) ?_)
  rintro r1 w2 hE3 ⟨rfl⟩
  replace h_b := h_b.mono (hE3.le ([] ++ B))
  replace hg := hg.mono (hE3.le ([] ++ B))
  have hL4 := hL.ext hE3
  refine Rl.op (OpY.move (v := (Value.bool true)) rfl ?_)
  refine Rl.yes (b' := true) rfl rfl rfl (OpY.move (v := b_v) rfl ?_)
  refine Rl.yes (b' := true) rfl rfl rfl (OpY.len_sl Tryd.underlying22 rfl h_b ?_)
  refine Rl.yes (b' := true) rfl rfl rfl (OpY.gtr (x := ((b.length : Nat) : Int)) (y := ((300 : Nat) : Int)) (b.length > 300) rfl rfl (by omega) ?_)
  refine Rl.yes (b' := true) rfl rfl rfl (OpY.move (v := (Value.bool (decide (b.length > 300)))) rfl ?_)
  by_cases hg5 : b.length > 300
  ·
    have hg5_b : (decide (b.length > 300)) = true := decide_eq_true hg5
    refine Rl.no (b' := (decide (b.length > 300))) rfl rfl hg5_b ?_
    refine Rl.no (b' := (decide (b.length > 300))) rfl rfl hg5_b ?_
    refine Rl.no (b' := (decide (b.length > 300))) rfl rfl hg5_b ?_
    refine Rl.no (b' := (decide (b.length > 300))) rfl rfl hg5_b ?_
    refine Rl.no (b' := (decide (b.length > 300))) rfl rfl hg5_b ?_
    refine Rl.no (b' := (decide (b.length > 300))) rfl rfl hg5_b ?_
    refine Rl.yes (b' := true) rfl rfl rfl (OpY.pick_t (t := (decide (b.length > 300))) (v := (Value.bool true)) rfl hg5_b rfl ?_)
    refine Rl.op (OpY.pick_t (t := true) (v := (Value.bool true)) rfl rfl rfl ?_)
    refine Rl.op (OpY.assign (v := (Value.bool true)) rfl ?_)
    refine Rl.nil ?_
    refine Swp.ret ?_
    refine ⟨[(Value.bool true)], ⟨rfl, trivial⟩, ?_⟩
    refine ⟨_, rfl, hL4.done, ?_⟩
    · first | rfl | exact absurd rfl (by assumption) | exact absurd (crcN_crcN (by assumption)) (by assumption) | exact congrArg Value.bool (Eq.symm (decide_eq_true (crcN_crcN (by assumption)))) | (exfalso; simp_all [checkN_appN]; done) | exact congrArg Value.bool (by simp [checkN_appN]; done) | exact congrArg Value.bool (by simp; done) | exact congrArg Value.bool (by simp_all; done)
  ·
    have hg5_b : (decide (b.length > 300)) = false := decide_eq_false hg5
    refine Rl.yes (b' := (decide (b.length > 300))) rfl rfl hg5_b (OpY.move (v := b_v) rfl ?_)
    refine Rl.yes (b' := (decide (b.length > 300))) rfl rfl hg5_b (OpY.call en13 rfl rfl (cp_c b_v (b) (b_ok) (by first | assumption | omega | (simp; done) | (simp; omega)) ([] ++ B) _ hL4.bokO h_b ) ?_)
    rintro r6 w7 hE8 ⟨_, rfl, ob9, cap10, sp11, rfl, hfr12, ho13, hcap14⟩
    have hL15 := (hL4.adopt hE8 hfr12 ho13).1
    replace h_b := h_b.mono ((hL4.adopt hE8 hfr12 ho13).2.le B)
    replace hg := hg.mono ((hL4.adopt hE8 hfr12 ho13).2.le B)
    clear hL4
    replace hcap14 : (ints .u8 ((b)) ++ sp11).length = cap10 * 1 := by rw [hcap14, Nat.mul_one]
    replace hL15 : X.Loc [] B w w7 [ob9] [.cells (ints .u8 ((b)) ++ (sp11))] := hL15
    refine Rl.yes (b' := (decide (b.length > 300))) rfl rfl hg5_b (OpY.callq (v := (Value.int .u64 ((crcN 0 ((b)) : Nat) : Int))) en12 rfl rfl (csum_c (sv ob9 (((b)).length) (cap10)) ((b)) (((b_ok))) (by first | assumption | omega | (simp; done) | (simp; omega)) ([] ++ B) _ (Bok.sub hL15.bokO (by simp +contextual)) (hL15.intsB rfl 0 rfl rfl hcap14 (by simp) B hB) ) ?_)
    refine Rl.yes (b' := (decide (b.length > 300))) rfl rfl hg5_b (OpY.move (v := b_v) rfl ?_)
    refine Rl.yes (b' := (decide (b.length > 300))) rfl rfl hg5_b (OpY.callq (v := (Value.int .u64 ((crcN 0 (b) : Nat) : Int))) en14 rfl rfl (rsum_c b_v (b) (b_ok) (by first | assumption | omega | (simp; done) | (simp; omega)) ([ob9] ++ B) _ hL15.bokO h_b ) ?_)
    refine Rl.yes (b' := (decide (b.length > 300))) rfl rfl hg5_b (OpY.eql (x := ((crcN 0 ((b)) : Nat) : Int)) (y := ((crcN 0 (b) : Nat) : Int)) (crcN 0 ((b)) = crcN 0 (b)) rfl rfl (by omega) ?_)
    refine Rl.yes (b' := true) rfl rfl rfl (OpY.pick_f (t := (decide (b.length > 300))) (v := (Value.bool (decide (crcN 0 ((b)) = crcN 0 (b))))) rfl hg5_b rfl ?_)
    refine Rl.op (OpY.pick_t (t := true) (v := (Value.bool (decide (crcN 0 ((b)) = crcN 0 (b))))) rfl rfl rfl ?_)
    refine Rl.op (OpY.assign (v := (Value.bool (decide (crcN 0 ((b)) = crcN 0 (b))))) rfl ?_)
    refine Rl.nil ?_
    refine Swp.ret ?_
    refine ⟨[(Value.bool (decide (crcN 0 ((b)) = crcN 0 (b))))], ⟨rfl, trivial⟩, ?_⟩
    refine ⟨_, rfl, hL15.done, ?_⟩
    · first | rfl | exact absurd rfl (by assumption) | exact absurd (crcN_crcN (by assumption)) (by assumption) | exact congrArg Value.bool (Eq.symm (decide_eq_true (crcN_crcN (by assumption)))) | (exfalso; simp_all [checkN_appN]; done) | exact congrArg Value.bool (by simp [checkN_appN]; done) | exact congrArg Value.bool (by simp; done) | exact congrArg Value.bool (by simp_all; done)
theorem ChecksumUpdate_c (sum : Nat) (sum_lt : sum < 18446744073709551616) (a_v : Value) (a : List (Nat)) (a_ok : ∀ x ∈ a, x < 256) (b_v : Value) (b : List (Nat)) (b_ok : ∀ x ∈ b, x < 256) (B : List (Option Nat)) (w : World) (hB : Bok B w) (h_a : Ints .u8 (view B w) a_v a) (h_b : Ints .u8 (view B w) b_v b) (hg : At (view B w) 3 15 [(Value.int .u8 ((4 : Nat) : Int))])  :
    Calls Tryd.prog 4 #[(Value.int .u64 ((sum : Nat) : Int)), a_v, b_v] w (Ret w (fun r w' => (Value.bool true) = r)) := by
  have hL := Loc.start hB
  refine calls_of (l := [(Value.int .u64 ((sum : Nat) : Int)), a_v, b_v]) (rl := [.tmp 6]) (n := 42) Tryd.func4 rfl rfl rfl (by simp) ?_
  refine Swp.seq ?_
  refine Swp.region rfl ?_
  refine Rl.op (OpY.assign (v := (Value.bool false)) rfl ?_)
  refine Rl.nil ?_
  refine Swp.seq ?_
  refine Swp.seq ?_
  refine Swp.region rfl ?_
  refine Rl.op (OpY.call en11 rfl rfl (awake_c  ([] ++ B) _ hL.bokO hg ) ?_)
  rintro r1 w2 hE3 ⟨rfl⟩
  replace h_a := h_a.mono (hE3.le ([] ++ B))
  replace h_b := h_b.mono (hE3.le ([] ++ B))
  replace hg := hg.mono (hE3.le ([] ++ B))
  have hL4 := hL.ext hE3
  refine Rl.op (OpY.not (x := true) rfl ?_)
  refine Rl.op (OpY.move (v := (Value.bool false)) rfl ?_)
  refine Rl.yes (b' := false) rfl rfl rfl (OpY.move (v := a_v) rfl ?_)
  refine Rl.yes (b' := false) rfl rfl rfl (OpY.len_sl Tryd.underlying22 rfl h_a ?_)
  refine Rl.yes (b' := false) rfl rfl rfl (OpY.gtr (x := ((a.length : Nat) : Int)) (y := ((300 : Nat) : Int)) (a.length > 300) rfl rfl (by omega) ?_)
  refine Rl.op (OpY.pick_f (t := false) (v := (Value.bool (decide (a.length > 300)))) rfl rfl rfl ?_)
  refine Rl.op (OpY.move (v := (Value.bool (decide (a.length > 300)))) rfl ?_)
  by_cases hg5 : a.length > 300
  ·
    have hg5_b : (decide (a.length > 300)) = true := decide_eq_true hg5
    refine Rl.no (b' := (decide (a.length > 300))) rfl rfl hg5_b ?_
    refine Rl.no (b' := (decide (a.length > 300))) rfl rfl hg5_b ?_
    refine Rl.no (b' := (decide (a.length > 300))) rfl rfl hg5_b ?_
    refine Rl.op (OpY.pick_t (t := (decide (a.length > 300))) (v := (Value.bool true)) rfl hg5_b rfl ?_)
    refine Rl.nil ?_
    refine Swp.cond_t (b := true) rfl rfl ?_
    refine Swp.seq ?_
    refine Swp.region rfl ?_
    refine Rl.op (OpY.call en11 rfl rfl (awake_c  ([] ++ B) _ hL4.bokO hg ) ?_)
    rintro r6 w7 hE8 ⟨rfl⟩
    replace h_a := h_a.mono (hE8.le ([] ++ B))
    replace h_b := h_b.mono (hE8.le ([] ++ B))
    replace hg := hg.mono (hE8.le ([] ++ B))
    have hL9 := hL4.ext hE8
    refine Rl.op (OpY.assign (v := (Value.bool true)) rfl ?_)
    refine Rl.nil ?_
    refine Swp.ret ?_
    refine ⟨[(Value.bool true)], ⟨rfl, trivial⟩, ?_⟩
    refine ⟨_, rfl, hL9.done, ?_⟩
    · first | rfl | exact absurd rfl (by assumption) | exact absurd (crcN_crcN (by assumption)) (by assumption) | exact congrArg Value.bool (Eq.symm (decide_eq_true (crcN_crcN (by assumption)))) | (exfalso; simp_all [checkN_appN]; done) | exact congrArg Value.bool (by simp [checkN_appN]; done) | exact congrArg Value.bool (by simp; done) | exact congrArg Value.bool (by simp_all; done)
  ·
    have hg5_b : (decide (a.length > 300)) = false := decide_eq_false hg5
    refine Rl.yes (b' := (decide (a.length > 300))) rfl rfl hg5_b (OpY.move (v := b_v) rfl ?_)
    refine Rl.yes (b' := (decide (a.length > 300))) rfl rfl hg5_b (OpY.len_sl Tryd.underlying22 rfl h_b ?_)
    refine Rl.yes (b' := (decide (a.length > 300))) rfl rfl hg5_b (OpY.gtr (x := ((b.length : Nat) : Int)) (y := ((300 : Nat) : Int)) (b.length > 300) rfl rfl (by omega) ?_)
    refine Rl.op (OpY.pick_f (t := (decide (a.length > 300))) (v := (Value.bool (decide (b.length > 300)))) rfl hg5_b rfl ?_)
    refine Rl.nil ?_
    refine Swp.cond_d (b.length > 300) rfl (fun hc10 => ?_) (fun hc10 => ?_)
    ·
      skip
      refine Swp.seq ?_
      refine Swp.region rfl ?_
      refine Rl.op (OpY.call en11 rfl rfl (awake_c  ([] ++ B) _ hL4.bokO hg ) ?_)
      rintro r11 w12 hE13 ⟨rfl⟩
      replace h_a := h_a.mono (hE13.le ([] ++ B))
      replace h_b := h_b.mono (hE13.le ([] ++ B))
      replace hg := hg.mono (hE13.le ([] ++ B))
      have hL14 := hL4.ext hE13
      refine Rl.op (OpY.assign (v := (Value.bool true)) rfl ?_)
      refine Rl.nil ?_
      refine Swp.ret ?_
      refine ⟨[(Value.bool true)], ⟨rfl, trivial⟩, ?_⟩
      refine ⟨_, rfl, hL14.done, ?_⟩
      · first | rfl | exact absurd rfl (by assumption) | exact absurd (crcN_crcN (by assumption)) (by assumption) | exact congrArg Value.bool (Eq.symm (decide_eq_true (crcN_crcN (by assumption)))) | (exfalso; simp_all [checkN_appN]; done) | exact congrArg Value.bool (by simp [checkN_appN]; done) | exact congrArg Value.bool (by simp; done) | exact congrArg Value.bool (by simp_all; done)
    ·
      skip
      refine Swp.skip ?_
      refine Swp.seq ?_
      refine Swp.region rfl ?_
      refine Rl.op (OpY.move (v := (Value.int .u64 ((sum : Nat) : Int))) rfl ?_)
      refine Rl.op (OpY.move (v := a_v) rfl ?_)
      refine Rl.op (OpY.call en13 rfl rfl (cp_c a_v (a) (a_ok) (by first | assumption | omega | (simp; done) | (simp; omega)) ([] ++ B) _ hL4.bokO h_a ) ?_)
      rintro r15 w16 hE17 ⟨_, rfl, ob18, cap19, sp20, rfl, hfr21, ho22, hcap23⟩
      have hL24 := (hL4.adopt hE17 hfr21 ho22).1
      replace h_a := h_a.mono ((hL4.adopt hE17 hfr21 ho22).2.le B)
      replace h_b := h_b.mono ((hL4.adopt hE17 hfr21 ho22).2.le B)
      replace hg := hg.mono ((hL4.adopt hE17 hfr21 ho22).2.le B)
      clear hL4
      replace hcap23 : (ints .u8 ((a)) ++ sp20).length = cap19 * 1 := by rw [hcap23, Nat.mul_one]
      replace hL24 : X.Loc [] B w w16 [ob18] [.cells (ints .u8 ((a)) ++ (sp20))] := hL24
      refine Rl.op (OpY.callq (v := (Value.int .u64 ((crcN (sum) ((a)) : Nat) : Int))) en15 rfl rfl (update_c (sum) (sum_lt) (sv ob18 (((a)).length) (cap19)) ((a)) (((a_ok))) (by first | assumption | omega | (simp; done) | (simp; omega)) ([] ++ B) _ (Bok.sub hL24.bokO (by simp +contextual)) (hL24.intsB rfl 0 rfl rfl hcap23 (by simp) B hB) ) ?_)
      refine Rl.op (OpY.move (v := (Value.int .u64 ((sum : Nat) : Int))) rfl ?_)
      refine Rl.op (OpY.move (v := a_v) rfl ?_)
      refine Rl.op (OpY.callq (v := (Value.int .u64 ((crcN (sum) (a) : Nat) : Int))) en16 rfl rfl (rupdate_c (sum) (sum_lt) a_v (a) (a_ok) (by first | assumption | omega | (simp; done) | (simp; omega)) ([ob18] ++ B) _ hL24.bokO h_a ) ?_)
      refine Rl.op (OpY.eql (x := ((crcN (sum) ((a)) : Nat) : Int)) (y := ((crcN (sum) (a) : Nat) : Int)) (crcN (sum) ((a)) = crcN (sum) (a)) rfl rfl (by omega) ?_)
      refine Rl.op (OpY.move (v := (Value.bool (decide (crcN (sum) ((a)) = crcN (sum) (a))))) rfl ?_)
      by_cases hg25 : crcN (sum) ((a)) = crcN (sum) (a)
      ·
        have hg25_b : (decide (crcN (sum) ((a)) = crcN (sum) (a))) = true := decide_eq_true hg25
        refine Rl.yes (b' := (decide (crcN (sum) ((a)) = crcN (sum) (a)))) rfl rfl hg25_b (OpY.move (v := a_v) rfl ?_)
        refine Rl.yes (b' := (decide (crcN (sum) ((a)) = crcN (sum) (a)))) rfl rfl hg25_b (OpY.call en13 rfl rfl (cp_c a_v (a) (a_ok) (by first | assumption | omega | (simp; done) | (simp; omega)) ([ob18] ++ B) _ hL24.bokO h_a ) ?_)
        rintro r26 w27 hE28 ⟨_, rfl, ob29, cap30, sp31, rfl, hfr32, ho33, hcap34⟩
        have hL35 := (hL24.adopt hE28 hfr32 ho33).1
        replace h_a := h_a.mono ((hL24.adopt hE28 hfr32 ho33).2.le B)
        replace h_b := h_b.mono ((hL24.adopt hE28 hfr32 ho33).2.le B)
        replace hg := hg.mono ((hL24.adopt hE28 hfr32 ho33).2.le B)
        clear hL24
        replace hcap34 : (ints .u8 ((a)) ++ sp31).length = cap30 * 1 := by rw [hcap34, Nat.mul_one]
        replace hL35 : X.Loc [] B w w27 [ob29, ob18] [.cells (ints .u8 ((a)) ++ (sp31)), .cells (ints .u8 ((a)) ++ (sp20))] := hL35
        refine Rl.yes (b' := (decide (crcN (sum) ((a)) = crcN (sum) (a)))) rfl rfl hg25_b (OpY.callq (v := (Value.int .u64 ((crcN 0 ((a)) : Nat) : Int))) en12 rfl rfl (csum_c (sv ob29 (((a)).length) (cap30)) ((a)) (((a_ok))) (by first | assumption | omega | (simp; done) | (simp; omega)) ([ob18] ++ B) _ (Bok.sub hL35.bokO (by simp +contextual)) (hL35.intsB rfl 0 rfl rfl hcap34 (by simp) B hB) ) ?_)
        refine Rl.yes (b' := (decide (crcN (sum) ((a)) = crcN (sum) (a)))) rfl rfl hg25_b (OpY.move (v := b_v) rfl ?_)
        refine Rl.yes (b' := (decide (crcN (sum) ((a)) = crcN (sum) (a)))) rfl rfl hg25_b (OpY.call en13 rfl rfl (cp_c b_v (b) (b_ok) (by first | assumption | omega | (simp; done) | (simp; omega)) ([ob29, ob18] ++ B) _ hL35.bokO h_b ) ?_)
        rintro r36 w37 hE38 ⟨_, rfl, ob39, cap40, sp41, rfl, hfr42, ho43, hcap44⟩
        have hL45 := (hL35.adopt hE38 hfr42 ho43).1
        replace h_a := h_a.mono ((hL35.adopt hE38 hfr42 ho43).2.le B)
        replace h_b := h_b.mono ((hL35.adopt hE38 hfr42 ho43).2.le B)
        replace hg := hg.mono ((hL35.adopt hE38 hfr42 ho43).2.le B)
        clear hL35
        replace hcap44 : (ints .u8 ((b)) ++ sp41).length = cap40 * 1 := by rw [hcap44, Nat.mul_one]
        replace hL45 : X.Loc [] B w w37 [ob39, ob29, ob18] [.cells (ints .u8 ((b)) ++ (sp41)), .cells (ints .u8 ((a)) ++ (sp31)), .cells (ints .u8 ((a)) ++ (sp20))] := hL45
        refine Rl.yes (b' := (decide (crcN (sum) ((a)) = crcN (sum) (a)))) rfl rfl hg25_b (OpY.callq (v := (Value.int .u64 ((crcN (crcN 0 ((a))) ((b)) : Nat) : Int))) en15 rfl rfl (update_c (crcN 0 ((a))) ((crcN_lt _ _)) (sv ob39 (((b)).length) (cap40)) ((b)) (((b_ok))) (by first | assumption | omega | (simp; done) | (simp; omega)) ([ob29, ob18] ++ B) _ (Bok.sub hL45.bokO (by simp +contextual)) (hL45.intsB rfl 0 rfl rfl hcap44 (by simp) B hB) ) ?_)
        refine Rl.yes (b' := (decide (crcN (sum) ((a)) = crcN (sum) (a)))) rfl rfl hg25_b (OpY.move (v := a_v) rfl ?_)
        refine Rl.yes (b' := (decide (crcN (sum) ((a)) = crcN (sum) (a)))) rfl rfl hg25_b (OpY.call en13 rfl rfl (cp_c a_v (a) (a_ok) (by first | assumption | omega | (simp; done) | (simp; omega)) ([ob39, ob29, ob18] ++ B) _ hL45.bokO h_a ) ?_)
        rintro r46 w47 hE48 ⟨_, rfl, ob49, cap50, sp51, rfl, hfr52, ho53, hcap54⟩
        have hL55 := (hL45.adopt hE48 hfr52 ho53).1
        replace h_a := h_a.mono ((hL45.adopt hE48 hfr52 ho53).2.le B)
        replace h_b := h_b.mono ((hL45.adopt hE48 hfr52 ho53).2.le B)
        replace hg := hg.mono ((hL45.adopt hE48 hfr52 ho53).2.le B)
        clear hL45
        replace hcap54 : (ints .u8 ((a)) ++ sp51).length = cap50 * 1 := by rw [hcap54, Nat.mul_one]
        replace hL55 : X.Loc [] B w w47 [ob49, ob39, ob29, ob18] [.cells (ints .u8 ((a)) ++ (sp51)), .cells (ints .u8 ((b)) ++ (sp41)), .cells (ints .u8 ((a)) ++ (sp31)), .cells (ints .u8 ((a)) ++ (sp20))] := hL55
        refine Rl.yes (b' := (decide (crcN (sum) ((a)) = crcN (sum) (a)))) rfl rfl hg25_b (OpY.move (v := b_v) rfl ?_)
        refine Rl.yes (b' := (decide (crcN (sum) ((a)) = crcN (sum) (a)))) rfl rfl hg25_b (OpY.append (n := ((a)).length) (cap := cap50) (m := b.length) (i := 0) (ob := ob49) (xs := ints .u8 ((a))) (sp := sp51) (news := ints .u8 (b)) Tryd.underlying22 ti5 rfl (by decide) rfl rfl hL55 rfl rfl (by simp [ints_length]) (hcap54) (Src.ints h_b) (ones_ints _ _) (by first | omega | (simp; omega)) (by first | omega | (simp; omega)) ?_)
        intro ob56 cap57 sp58 w59 hcap60 hL61 hS62
        replace h_a := h_a.mono (hS62.le B)
        replace h_b := h_b.mono (hS62.le B)
        replace hg := hg.mono (hS62.le B)
        clear hL55 hS62
        rw [ints_append] at hcap60
        replace hcap60 : (ints .u8 (((a)) ++ (b)) ++ sp58).length = cap57 * 1 := hcap60
        simp only [List.set, ints_append] at hL61
        replace hL61 : X.Loc [] B w w59 [ob56, ob39, ob29, ob18] [.cells (ints .u8 (((a)) ++ (b)) ++ (sp58)), .cells (ints .u8 ((b)) ++ (sp41)), .cells (ints .u8 ((a)) ++ (sp31)), .cells (ints .u8 ((a)) ++ (sp20))] := hL61
        refine Rl.yes (b' := (decide (crcN (sum) ((a)) = crcN (sum) (a)))) rfl rfl hg25_b (OpY.callq (v := (Value.int .u64 ((crcN 0 (((a)) ++ (b)) : Nat) : Int))) en12 rfl rfl (csum_c (sv ob56 (((a)).length + b.length) (cap57)) (((a)) ++ (b)) (by first | assumption | (simp_all; done) | (refine bytesOk_append ?_ ?_ <;> first | assumption | (simp_all; done))) (by first | assumption | omega | (simp; done) | (simp; omega)) ([ob39, ob29, ob18] ++ B) _ (Bok.sub hL61.bokO (by simp +contextual)) (hL61.intsB rfl 0 rfl rfl hcap60 (by simp) B hB) ) ?_)
        refine Rl.yes (b' := (decide (crcN (sum) ((a)) = crcN (sum) (a)))) rfl rfl hg25_b (OpY.eql (x := ((crcN (crcN 0 ((a))) ((b)) : Nat) : Int)) (y := ((crcN 0 (((a)) ++ (b)) : Nat) : Int)) (crcN (crcN 0 ((a))) ((b)) = crcN 0 (((a)) ++ (b))) rfl rfl (by omega) ?_)
        refine Rl.op (OpY.pick_t (t := (decide (crcN (sum) ((a)) = crcN (sum) (a)))) (v := (Value.bool (decide (crcN (crcN 0 ((a))) ((b)) = crcN 0 (((a)) ++ (b)))))) rfl hg25_b rfl ?_)
        refine Rl.op (OpY.assign (v := (Value.bool (decide (crcN (crcN 0 ((a))) ((b)) = crcN 0 (((a)) ++ (b)))))) rfl ?_)
        refine Rl.nil ?_
        refine Swp.ret ?_
        refine ⟨[(Value.bool (decide (crcN (crcN 0 ((a))) ((b)) = crcN 0 (((a)) ++ (b)))))], ⟨rfl, trivial⟩, ?_⟩
        refine ⟨_, rfl, hL61.done, ?_⟩
        · first | rfl | exact absurd rfl (by assumption) | exact absurd (crcN_crcN (by assumption)) (by assumption) | exact congrArg Value.bool (Eq.symm (decide_eq_true (crcN_crcN (by assumption)))) | (exfalso; simp_all [checkN_appN]; done) | exact congrArg Value.bool (by simp [checkN_appN]; done) | exact congrArg Value.bool (by simp; done) | exact congrArg Value.bool (by simp_all; done)
      ·
        have hg25_b : (decide (crcN (sum) ((a)) = crcN (sum) (a))) = false := decide_eq_false hg25
        refine Rl.no (b' := (decide (crcN (sum) ((a)) = crcN (sum) (a)))) rfl rfl hg25_b ?_
        refine Rl.no (b' := (decide (crcN (sum) ((a)) = crcN (sum) (a)))) rfl rfl hg25_b ?_
        refine Rl.no (b' := (decide (crcN (sum) ((a)) = crcN (sum) (a)))) rfl rfl hg25_b ?_
        refine Rl.no (b' := (decide (crcN (sum) ((a)) = crcN (sum) (a)))) rfl rfl hg25_b ?_
        refine Rl.no (b' := (decide (crcN (sum) ((a)) = crcN (sum) (a)))) rfl rfl hg25_b ?_
        refine Rl.no (b' := (decide (crcN (sum) ((a)) = crcN (sum) (a)))) rfl rfl hg25_b ?_
        refine Rl.no (b' := (decide (crcN (sum) ((a)) = crcN (sum) (a)))) rfl rfl hg25_b ?_
        refine Rl.no (b' := (decide (crcN (sum) ((a)) = crcN (sum) (a)))) rfl rfl hg25_b ?_
        refine Rl.no (b' := (decide (crcN (sum) ((a)) = crcN (sum) (a)))) rfl rfl hg25_b ?_
        refine Rl.no (b' := (decide (crcN (sum) ((a)) = crcN (sum) (a)))) rfl rfl hg25_b ?_
        refine Rl.no (b' := (decide (crcN (sum) ((a)) = crcN (sum) (a)))) rfl rfl hg25_b ?_
        refine Rl.no (b' := (decide (crcN (sum) ((a)) = crcN (sum) (a)))) rfl rfl hg25_b ?_
        refine Rl.op (OpY.pick_f (t := (decide (crcN (sum) ((a)) = crcN (sum) (a)))) (v := (Value.bool false)) rfl hg25_b rfl ?_)
        refine Rl.op (OpY.assign (v := (Value.bool false)) rfl ?_)
        refine Rl.nil ?_
        refine Swp.ret ?_
        refine ⟨[(Value.bool false)], ⟨rfl, trivial⟩, ?_⟩
        refine ⟨_, rfl, hL24.done, ?_⟩
        · first | rfl | exact absurd rfl (by assumption) | exact absurd (crcN_crcN (by assumption)) (by assumption) | exact congrArg Value.bool (Eq.symm (decide_eq_true (crcN_crcN (by assumption)))) | (exfalso; simp_all [checkN_appN]; done) | exact congrArg Value.bool (by simp [checkN_appN]; done) | exact congrArg Value.bool (by simp; done) | exact congrArg Value.bool (by simp_all; done)
theorem ChecksumAppend_c (b_v : Value) (b : List (Nat)) (b_ok : ∀ x ∈ b, x < 256) (B : List (Option Nat)) (w : World) (hB : Bok B w) (h_b : Ints .u8 (view B w) b_v b) (hg : At (view B w) 3 15 [(Value.int .u8 ((4 : Nat) : Int))])  :
    Calls Tryd.prog 5 #[b_v] w (Ret w (fun r w' => (Value.bool true) = r)) := by
  have hL := Loc.start hB
  refine calls_of (l := [b_v]) (rl := [.tmp 2]) (n := 40) Tryd.func5 rfl rfl rfl (by simp) ?_
  refine Swp.seq ?_
  refine Swp.region rfl ?_
  refine Rl.op (OpY.assign (v := (Value.bool false)) rfl ?_)
  refine Rl.nil ?_
  refine Swp.seq ?_
  refine Swp.seq ?_
  refine Swp.region rfl ?_
  refine Rl.op (OpY.call en11 rfl rfl (awake_c  ([] ++ B) _ hL.bokO hg ) ?_)
  rintro r1 w2 hE3 ⟨rfl⟩
  replace h_b := h_b.mono (hE3.le ([] ++ B))
  replace hg := hg.mono (hE3.le ([] ++ B))
  have hL4 := hL.ext hE3
  refine Rl.op (OpY.not (x := true) rfl ?_)
  refine Rl.op (OpY.move (v := (Value.bool false)) rfl ?_)
  refine Rl.yes (b' := false) rfl rfl rfl (OpY.move (v := b_v) rfl ?_)
  refine Rl.yes (b' := false) rfl rfl rfl (OpY.len_sl Tryd.underlying22 rfl h_b ?_)
  refine Rl.yes (b' := false) rfl rfl rfl (OpY.gtr (x := ((b.length : Nat) : Int)) (y := ((300 : Nat) : Int)) (b.length > 300) rfl rfl (by omega) ?_)
  refine Rl.op (OpY.pick_f (t := false) (v := (Value.bool (decide (b.length > 300)))) rfl rfl rfl ?_)
  refine Rl.nil ?_
  refine Swp.cond_d (b.length > 300) rfl (fun hc5 => ?_) (fun hc5 => ?_)
  ·
    skip
    refine Swp.seq ?_
    refine Swp.region rfl ?_
    refine Rl.op (OpY.call en11 rfl rfl (awake_c  ([] ++ B) _ hL4.bokO hg ) ?_)
    rintro r6 w7 hE8 ⟨rfl⟩
    replace h_b := h_b.mono (hE8.le ([] ++ B))
    replace hg := hg.mono (hE8.le ([] ++ B))
    have hL9 := hL4.ext hE8
    refine Rl.op (OpY.assign (v := (Value.bool true)) rfl ?_)
    refine Rl.nil ?_
    refine Swp.ret ?_
    refine ⟨[(Value.bool true)], ⟨rfl, trivial⟩, ?_⟩
    refine ⟨_, rfl, hL9.done, ?_⟩
    · first | rfl | exact absurd rfl (by assumption) | exact absurd (crcN_crcN (by assumption)) (by assumption) | exact congrArg Value.bool (Eq.symm (decide_eq_true (crcN_crcN (by assumption)))) | (exfalso; simp_all [checkN_appN]; done) | exact congrArg Value.bool (by simp [checkN_appN]; done) | exact congrArg Value.bool (by simp; done) | exact congrArg Value.bool (by simp_all; done)
  ·
    skip
    refine Swp.skip ?_
    refine Swp.seq ?_
    refine Swp.region rfl ?_
    refine Rl.op (OpY.move (v := b_v) rfl ?_)
    refine Rl.op (OpY.call en13 rfl rfl (cp_c b_v (b) (b_ok) (by first | assumption | omega | (simp; done) | (simp; omega)) ([] ++ B) _ hL4.bokO h_b ) ?_)
    rintro r10 w11 hE12 ⟨_, rfl, ob13, cap14, sp15, rfl, hfr16, ho17, hcap18⟩
    have hL19 := (hL4.adopt hE12 hfr16 ho17).1
    replace h_b := h_b.mono ((hL4.adopt hE12 hfr16 ho17).2.le B)
    replace hg := hg.mono ((hL4.adopt hE12 hfr16 ho17).2.le B)
    clear hL4
    replace hcap18 : (ints .u8 ((b)) ++ sp15).length = cap14 * 1 := by rw [hcap18, Nat.mul_one]
    replace hL19 : X.Loc [] B w w11 [ob13] [.cells (ints .u8 ((b)) ++ (sp15))] := hL19
    refine Rl.op (OpY.call en17 rfl rfl (append_c (sv ob13 (((b)).length) (cap14)) ((b)) (((b_ok))) (by first | assumption | omega | (simp; done) | (simp; omega)) ([] ++ B) _ (Bok.sub hL19.bokO (by simp +contextual)) (hL19.intsB rfl 0 rfl rfl hcap18 (by simp) B hB) ) ?_)
    rintro r20 w21 hE22 ⟨_, rfl, ob23, cap24, sp25, rfl, hfr26, ho27, hcap28⟩
    have hL29 := (hL19.adopt hE22 hfr26 ho27).1
    replace h_b := h_b.mono ((hL19.adopt hE22 hfr26 ho27).2.le B)
    replace hg := hg.mono ((hL19.adopt hE22 hfr26 ho27).2.le B)
    clear hL19
    replace hcap28 : (ints .u8 (appN ((b))) ++ sp25).length = cap24 * 1 := by rw [hcap28, Nat.mul_one]
    replace hL29 : X.Loc [] B w w21 [ob23, ob13] [.cells (ints .u8 (appN ((b))) ++ (sp25)), .cells (ints .u8 ((b)) ++ (sp15))] := hL29
    refine Rl.op (OpY.assign (v := (sv ob23 ((appN ((b))).length) (cap24))) rfl ?_)
    refine Rl.nil ?_
    refine Swp.seq ?_
    refine Swp.region rfl ?_
    refine Rl.op (OpY.move (v := (sv ob23 ((appN ((b))).length) (cap24))) rfl ?_)
    refine Rl.op (OpY.call en13 rfl rfl (cp_c (sv ob23 ((appN ((b))).length) (cap24)) (appN ((b))) ((appN_ok (((b_ok))))) (by first | assumption | omega | (simp; done) | (simp; omega)) ([ob13] ++ B) _ (Bok.sub hL29.bokO (by simp +contextual)) (hL29.intsB rfl 0 rfl rfl hcap28 (by simp) B hB) ) ?_)
    rintro r30 w31 hE32 ⟨_, rfl, ob33, cap34, sp35, rfl, hfr36, ho37, hcap38⟩
    have hL39 := (hL29.adopt hE32 hfr36 ho37).1
    replace h_b := h_b.mono ((hL29.adopt hE32 hfr36 ho37).2.le B)
    replace hg := hg.mono ((hL29.adopt hE32 hfr36 ho37).2.le B)
    clear hL29
    replace hcap38 : (ints .u8 ((appN ((b)))) ++ sp35).length = cap34 * 1 := by rw [hcap38, Nat.mul_one]
    replace hL39 : X.Loc [] B w w31 [ob33, ob23, ob13] [.cells (ints .u8 ((appN ((b)))) ++ (sp35)), .cells (ints .u8 (appN ((b))) ++ (sp25)), .cells (ints .u8 ((b)) ++ (sp15))] := hL39
    refine Rl.op (OpY.call en18 rfl rfl (check_c (sv ob33 (((appN ((b)))).length) (cap34)) ((appN ((b)))) ((((appN_ok (((b_ok))))))) (by first | assumption | omega | (simp; done) | (simp; omega)) ([ob23, ob13] ++ B) _ (Bok.sub hL39.bokO (by simp +contextual)) (hL39.intsB rfl 0 rfl rfl hcap38 (by simp) B hB) ) ?_)
    rintro r40 w41 hE42 ⟨r0_43, rfl, hr44⟩
    replace h_b := h_b.mono (hE42.le ([ob33, ob23, ob13] ++ B))
    replace hg := hg.mono (hE42.le ([ob33, ob23, ob13] ++ B))
    have hf46 := Fr.atO hr44 hL39
    have hL45 := hL39.ext hE42
    refine Rl.op (OpY.move (v := (Value.tuple #[r0_43, (Value.int .i64 ((checkN ((appN ((b))))).2 : Int))])) rfl ?_)
    refine Rl.op (OpY.extract (vs := [r0_43, (Value.int .i64 ((checkN ((appN ((b))))).2 : Int))]) (v := r0_43) rfl rfl ?_)
    refine Rl.op (OpY.extract (vs := [r0_43, (Value.int .i64 ((checkN ((appN ((b))))).2 : Int))]) (v := (Value.int .i64 ((checkN ((appN ((b))))).2 : Int))) rfl rfl ?_)
    refine Rl.op (OpY.assign (v := r0_43) rfl ?_)
    refine Rl.op (OpY.assign (v := (Value.int .i64 ((checkN ((appN ((b))))).2 : Int))) rfl ?_)
    refine Rl.nil ?_
    refine Swp.seq ?_
    by_cases hg47 : (appN ((b))) = (appN (b))
    ·
      have hg47_b : (decide ((appN ((b))) = (appN (b)))) = true := decide_eq_true hg47
      by_cases hg48 : ((checkN ((appN ((b))))).2 : Int) = ((0 : Nat) : Int)
      ·
        have hg48_b : (decide (((checkN ((appN ((b))))).2 : Int) = ((0 : Nat) : Int))) = true := decide_eq_true hg48
        refine Swp.draw 15 [.det (sv ob23 ((appN ((b))).length) (cap24)), .det (Value.string (str ((appN ((b)))))), .det b_v, .rel (fun v w' => ∃ r0_68 : Value, r0_68 = v ∧ (∀ A, Bok A w → Ints .u8 (view ([ob33, ob23, ob13] ++ A) w') r0_68 (appN (b)))), .det (Value.string (str ((appN (b))))), .det (Value.bool (decide ((appN ((b))) = (appN (b))))), .det (Value.bool (decide ((appN ((b))) = (appN (b))))), .det (Value.int .i64 ((checkN ((appN ((b))))).2 : Int)), .det (Value.bool (decide (((checkN ((appN ((b))))).2 : Int) = ((0 : Nat) : Int)))), .det (Value.bool (decide (((checkN ((appN ((b))))).2 : Int) = ((0 : Nat) : Int)))), .det (Value.bool (decide (((checkN ((appN ((b))))).2 : Int) = ((0 : Nat) : Int)))), .det r0_43, .det (Value.string (str (((checkN ((appN ((b))))).1)))), .det b_v, .det (Value.string (str (b)))] mixed rfl rfl (⟨fun v w w' hE => by rintro ⟨r0_68, rfl, k0⟩; exact ⟨r0_68, rfl, fun A hA => (k0 A hA).mono (hE.le _)⟩, trivial⟩) ?_
        intro w49 hE50
        replace h_b := h_b.mono (hE50.le ([ob33, ob23, ob13] ++ B))
        replace hg := hg.mono (hE50.le ([ob33, ob23, ob13] ++ B))
        replace hf46 := fun A hA => (hf46 A hA).mono (hE50.le ([ob33, ob23, ob13] ++ A))
        have hL51 := hL45.ext hE50
        refine DrG.det ?_ ?_
        ·
          rintro w52 hE53 ⟨-⟩
          replace h_b := h_b.mono (hE53.le ([ob33, ob23, ob13] ++ B))
          replace hg := hg.mono (hE53.le ([ob33, ob23, ob13] ++ B))
          replace hf46 := fun A hA => (hf46 A hA).mono (hE53.le ([ob33, ob23, ob13] ++ A))
          have hL55 := hL51.ext hE53
          refine GOp.op (OpY.move (v := (sv ob23 ((appN ((b))).length) (cap24))) rfl ?_)
          exact ⟨Ext.refl _, rfl⟩
        refine DrG.det ?_ ?_
        ·
          rintro w56 hE57 ⟨-⟩
          replace h_b := h_b.mono (hE57.le ([ob33, ob23, ob13] ++ B))
          replace hg := hg.mono (hE57.le ([ob33, ob23, ob13] ++ B))
          replace hf46 := fun A hA => (hf46 A hA).mono (hE57.le ([ob33, ob23, ob13] ++ A))
          have hL59 := hL51.ext hE57
          refine GOp.op (OpY.bytesToStr Tryd.underlying22 Tryd.underlying5 Tryd.underlying9 rfl (hL59.intsB rfl 1 rfl rfl hcap28 (by simp) B hB) ?_)
          exact ⟨Ext.refl _, rfl⟩
        refine DrG.det ?_ ?_
        ·
          rintro w60 hE61 ⟨-⟩
          replace h_b := h_b.mono (hE61.le ([ob33, ob23, ob13] ++ B))
          replace hg := hg.mono (hE61.le ([ob33, ob23, ob13] ++ B))
          replace hf46 := fun A hA => (hf46 A hA).mono (hE61.le ([ob33, ob23, ob13] ++ A))
          have hL63 := hL51.ext hE61
          refine GOp.op (OpY.move (v := b_v) rfl ?_)
          exact ⟨Ext.refl _, rfl⟩
        refine DrG.rel ?_ ?_
        ·
          rintro w64 hE65 ⟨-⟩
          replace h_b := h_b.mono (hE65.le ([ob33, ob23, ob13] ++ B))
          replace hg := hg.mono (hE65.le ([ob33, ob23, ob13] ++ B))
          replace hf46 := fun A hA => (hf46 A hA).mono (hE65.le ([ob33, ob23, ob13] ++ A))
          have hL67 := hL51.ext hE65
          refine GOp.op (OpY.call en19 rfl rfl (rappend_c b_v (b) (b_ok) (by first | assumption | omega | (simp; done) | (simp; omega)) ([ob33, ob23, ob13] ++ B) _ hL67.bokO h_b ) ?_)
          rintro r68 w69 hE70 ⟨r0_71, rfl, hh72⟩
          replace h_b := h_b.mono (hE70.le ([ob33, ob23, ob13] ++ B))
          replace hg := hg.mono (hE70.le ([ob33, ob23, ob13] ++ B))
          replace hf46 := fun A hA => (hf46 A hA).mono (hE70.le ([ob33, ob23, ob13] ++ A))
          have hf74 := Fr.atO hh72.fr hL67
          have hL73 := hL67.ext hE70
          exact ⟨hE70, r0_71, rfl, hf74⟩
        intro v75
        refine DrG.det ?_ ?_
        ·
          rintro w76 hE77 ⟨⟨r0_71, rfl, hf74⟩, -⟩
          replace h_b := h_b.mono (hE77.le ([ob33, ob23, ob13] ++ B))
          replace hg := hg.mono (hE77.le ([ob33, ob23, ob13] ++ B))
          replace hf46 := fun A hA => (hf46 A hA).mono (hE77.le ([ob33, ob23, ob13] ++ A))
          have hL79 := hL51.ext hE77
          refine GOp.op (OpY.bytesToStr (v := r0_71) (xs := (appN (b))) Tryd.underlying22 Tryd.underlying5 Tryd.underlying9 rfl (hf74 B hB) ?_)
          exact ⟨Ext.refl _, rfl⟩
        refine DrG.det ?_ ?_
        ·
          rintro w80 hE81 ⟨-, -⟩
          replace h_b := h_b.mono (hE81.le ([ob33, ob23, ob13] ++ B))
          replace hg := hg.mono (hE81.le ([ob33, ob23, ob13] ++ B))
          replace hf46 := fun A hA => (hf46 A hA).mono (hE81.le ([ob33, ob23, ob13] ++ A))
          have hL83 := hL51.ext hE81
          refine GOp.op (OpY.strEql (x := (appN ((b)))) (y := (appN (b))) rfl rfl (appN_ok (((b_ok)))) (appN_ok (b_ok)) ?_)
          exact ⟨Ext.refl _, rfl⟩
        refine DrG.det ?_ ?_
        ·
          rintro w84 hE85 ⟨⟨r0_71, rfl, hf74⟩, -⟩
          replace h_b := h_b.mono (hE85.le ([ob33, ob23, ob13] ++ B))
          replace hg := hg.mono (hE85.le ([ob33, ob23, ob13] ++ B))
          replace hf46 := fun A hA => (hf46 A hA).mono (hE85.le ([ob33, ob23, ob13] ++ A))
          have hL87 := hL51.ext hE85
          refine GOp.op (OpY.move (v := (Value.bool (decide ((appN ((b))) = (appN (b)))))) rfl ?_)
          exact ⟨Ext.refl _, rfl⟩
        refine DrG.det ?_ ?_
        ·
          rintro w88 hE89 ⟨-, -⟩
          replace h_b := h_b.mono (hE89.le ([ob33, ob23, ob13] ++ B))
          replace hg := hg.mono (hE89.le ([ob33, ob23, ob13] ++ B))
          replace hf46 := fun A hA => (hf46 A hA).mono (hE89.le ([ob33, ob23, ob13] ++ A))
          have hL91 := hL51.ext hE89
          refine GOp.yes (b' := (decide ((appN ((b))) = (appN (b))))) rfl rfl hg47_b (OpY.move (v := (Value.int .i64 ((checkN ((appN ((b))))).2 : Int))) rfl ?_)
          exact ⟨Ext.refl _, rfl⟩
        refine DrG.det ?_ ?_
        ·
          rintro w92 hE93 ⟨-, -⟩
          replace h_b := h_b.mono (hE93.le ([ob33, ob23, ob13] ++ B))
          replace hg := hg.mono (hE93.le ([ob33, ob23, ob13] ++ B))
          replace hf46 := fun A hA => (hf46 A hA).mono (hE93.le ([ob33, ob23, ob13] ++ A))
          have hL95 := hL51.ext hE93
          refine GOp.yes (b' := (decide ((appN ((b))) = (appN (b))))) rfl rfl hg47_b (OpY.eql (x := ((checkN ((appN ((b))))).2 : Int)) (y := ((0 : Nat) : Int)) (((checkN ((appN ((b))))).2 : Int) = ((0 : Nat) : Int)) rfl rfl (by omega) ?_)
          exact ⟨Ext.refl _, rfl⟩
        refine DrG.det ?_ ?_
        ·
          rintro w96 hE97 ⟨-, -⟩
          replace h_b := h_b.mono (hE97.le ([ob33, ob23, ob13] ++ B))
          replace hg := hg.mono (hE97.le ([ob33, ob23, ob13] ++ B))
          replace hf46 := fun A hA => (hf46 A hA).mono (hE97.le ([ob33, ob23, ob13] ++ A))
          have hL99 := hL51.ext hE97
          refine GOp.op (OpY.pick_t (t := (decide ((appN ((b))) = (appN (b))))) (v := (Value.bool (decide (((checkN ((appN ((b))))).2 : Int) = ((0 : Nat) : Int))))) rfl hg47_b rfl ?_)
          exact ⟨Ext.refl _, rfl⟩
        refine DrG.det ?_ ?_
        ·
          rintro w100 hE101 ⟨-, -⟩
          replace h_b := h_b.mono (hE101.le ([ob33, ob23, ob13] ++ B))
          replace hg := hg.mono (hE101.le ([ob33, ob23, ob13] ++ B))
          replace hf46 := fun A hA => (hf46 A hA).mono (hE101.le ([ob33, ob23, ob13] ++ A))
          have hL103 := hL51.ext hE101
          refine GOp.op (OpY.move (v := (Value.bool (decide (((checkN ((appN ((b))))).2 : Int) = ((0 : Nat) : Int))))) rfl ?_)
          exact ⟨Ext.refl _, rfl⟩
        refine DrG.det ?_ ?_
        ·
          rintro w104 hE105 ⟨-, -⟩
          replace h_b := h_b.mono (hE105.le ([ob33, ob23, ob13] ++ B))
          replace hg := hg.mono (hE105.le ([ob33, ob23, ob13] ++ B))
          replace hf46 := fun A hA => (hf46 A hA).mono (hE105.le ([ob33, ob23, ob13] ++ A))
          have hL107 := hL51.ext hE105
          refine GOp.yes (b' := (decide (((checkN ((appN ((b))))).2 : Int) = ((0 : Nat) : Int)))) rfl rfl hg48_b (OpY.move (v := r0_43) rfl ?_)
          exact ⟨Ext.refl _, rfl⟩
        refine DrG.det ?_ ?_
        ·
          rintro w108 hE109 ⟨-, -⟩
          replace h_b := h_b.mono (hE109.le ([ob33, ob23, ob13] ++ B))
          replace hg := hg.mono (hE109.le ([ob33, ob23, ob13] ++ B))
          replace hf46 := fun A hA => (hf46 A hA).mono (hE109.le ([ob33, ob23, ob13] ++ A))
          have hL111 := hL51.ext hE109
          refine GOp.yes (b' := (decide (((checkN ((appN ((b))))).2 : Int) = ((0 : Nat) : Int)))) rfl rfl hg48_b (OpY.bytesToStr (v := r0_43) (xs := ((checkN ((appN ((b))))).1)) Tryd.underlying22 Tryd.underlying5 Tryd.underlying9 rfl (hf46 B hB) ?_)
          exact ⟨Ext.refl _, rfl⟩
        refine DrG.det ?_ ?_
        ·
          rintro w112 hE113 ⟨-, -⟩
          replace h_b := h_b.mono (hE113.le ([ob33, ob23, ob13] ++ B))
          replace hg := hg.mono (hE113.le ([ob33, ob23, ob13] ++ B))
          replace hf46 := fun A hA => (hf46 A hA).mono (hE113.le ([ob33, ob23, ob13] ++ A))
          have hL115 := hL51.ext hE113
          refine GOp.yes (b' := (decide (((checkN ((appN ((b))))).2 : Int) = ((0 : Nat) : Int)))) rfl rfl hg48_b (OpY.move (v := b_v) rfl ?_)
          exact ⟨Ext.refl _, rfl⟩
        refine DrG.det ?_ ?_
        ·
          rintro w116 hE117 ⟨-, -⟩
          replace h_b := h_b.mono (hE117.le ([ob33, ob23, ob13] ++ B))
          replace hg := hg.mono (hE117.le ([ob33, ob23, ob13] ++ B))
          replace hf46 := fun A hA => (hf46 A hA).mono (hE117.le ([ob33, ob23, ob13] ++ A))
          have hL119 := hL51.ext hE117
          refine GOp.yes (b' := (decide (((checkN ((appN ((b))))).2 : Int) = ((0 : Nat) : Int)))) rfl rfl hg48_b (OpY.bytesToStr (v := b_v) (xs := b) Tryd.underlying22 Tryd.underlying5 Tryd.underlying9 rfl h_b ?_)
          exact ⟨Ext.refl _, rfl⟩
        refine DrG.fin ?_
        rintro w120 hE121 ⟨⟨r0_71, rfl, hf74⟩, -⟩
        replace h_b := h_b.mono (hE121.le ([ob33, ob23, ob13] ++ B))
        replace hg := hg.mono (hE121.le ([ob33, ob23, ob13] ++ B))
        replace hf46 := fun A hA => (hf46 A hA).mono (hE121.le ([ob33, ob23, ob13] ++ A))
        have hL122 := hL51.ext hE121
        refine Rl.yes (b' := (decide (((checkN ((appN ((b))))).2 : Int) = ((0 : Nat) : Int)))) rfl rfl hg48_b (OpY.strEql (x := ((checkN ((appN ((b))))).1)) (y := b) rfl rfl (checkN_ok ((((appN_ok (((b_ok)))))))) b_ok ?_)
        refine Rl.op (OpY.pick_t (t := (decide (((checkN ((appN ((b))))).2 : Int) = ((0 : Nat) : Int)))) (v := (Value.bool (decide (((checkN ((appN ((b))))).1) = b)))) rfl hg48_b rfl ?_)
        refine Rl.op (OpY.assign (v := (Value.bool (decide (((checkN ((appN ((b))))).1) = b)))) rfl ?_)
        refine Rl.nil ?_
        refine Swp.ret ?_
        refine ⟨[(Value.bool (decide (((checkN ((appN ((b))))).1) = b)))], ⟨rfl, trivial⟩, ?_⟩
        refine ⟨_, rfl, hL122.done, ?_⟩
        · first | rfl | exact absurd rfl (by assumption) | exact absurd (crcN_crcN (by assumption)) (by assumption) | exact congrArg Value.bool (Eq.symm (decide_eq_true (crcN_crcN (by assumption)))) | (exfalso; simp_all [checkN_appN]; done) | exact congrArg Value.bool (by simp [checkN_appN]; done) | exact congrArg Value.bool (by simp; done) | exact congrArg Value.bool (by simp_all; done)
      ·
        have hg48_b : (decide (((checkN ((appN ((b))))).2 : Int) = ((0 : Nat) : Int))) = false := decide_eq_false hg48
        refine Swp.draw 15 [.det (sv ob23 ((appN ((b))).length) (cap24)), .det (Value.string (str ((appN ((b)))))), .det b_v, .rel (fun v w' => ∃ r0_142 : Value, r0_142 = v ∧ (∀ A, Bok A w → Ints .u8 (view ([ob33, ob23, ob13] ++ A) w') r0_142 (appN (b)))), .det (Value.string (str ((appN (b))))), .det (Value.bool (decide ((appN ((b))) = (appN (b))))), .det (Value.bool (decide ((appN ((b))) = (appN (b))))), .det (Value.int .i64 ((checkN ((appN ((b))))).2 : Int)), .det (Value.bool (decide (((checkN ((appN ((b))))).2 : Int) = ((0 : Nat) : Int)))), .det (Value.bool (decide (((checkN ((appN ((b))))).2 : Int) = ((0 : Nat) : Int)))), .det (Value.bool (decide (((checkN ((appN ((b))))).2 : Int) = ((0 : Nat) : Int)))), .det undef, .det undef, .det undef, .det undef] mixed rfl rfl (⟨fun v w w' hE => by rintro ⟨r0_142, rfl, k0⟩; exact ⟨r0_142, rfl, fun A hA => (k0 A hA).mono (hE.le _)⟩, trivial⟩) ?_
        intro w123 hE124
        replace h_b := h_b.mono (hE124.le ([ob33, ob23, ob13] ++ B))
        replace hg := hg.mono (hE124.le ([ob33, ob23, ob13] ++ B))
        replace hf46 := fun A hA => (hf46 A hA).mono (hE124.le ([ob33, ob23, ob13] ++ A))
        have hL125 := hL45.ext hE124
        refine DrG.det ?_ ?_
        ·
          rintro w126 hE127 ⟨-⟩
          replace h_b := h_b.mono (hE127.le ([ob33, ob23, ob13] ++ B))
          replace hg := hg.mono (hE127.le ([ob33, ob23, ob13] ++ B))
          replace hf46 := fun A hA => (hf46 A hA).mono (hE127.le ([ob33, ob23, ob13] ++ A))
          have hL129 := hL125.ext hE127
          refine GOp.op (OpY.move (v := (sv ob23 ((appN ((b))).length) (cap24))) rfl ?_)
          exact ⟨Ext.refl _, rfl⟩
        refine DrG.det ?_ ?_
        ·
          rintro w130 hE131 ⟨-⟩
          replace h_b := h_b.mono (hE131.le ([ob33, ob23, ob13] ++ B))
          replace hg := hg.mono (hE131.le ([ob33, ob23, ob13] ++ B))
          replace hf46 := fun A hA => (hf46 A hA).mono (hE131.le ([ob33, ob23, ob13] ++ A))
          have hL133 := hL125.ext hE131
          refine GOp.op (OpY.bytesToStr Tryd.underlying22 Tryd.underlying5 Tryd.underlying9 rfl (hL133.intsB rfl 1 rfl rfl hcap28 (by simp) B hB) ?_)
          exact ⟨Ext.refl _, rfl⟩
        refine DrG.det ?_ ?_
        ·
          rintro w134 hE135 ⟨-⟩
          replace h_b := h_b.mono (hE135.le ([ob33, ob23, ob13] ++ B))
          replace hg := hg.mono (hE135.le ([ob33, ob23, ob13] ++ B))
          replace hf46 := fun A hA => (hf46 A hA).mono (hE135.le ([ob33, ob23, ob13] ++ A))
          have hL137 := hL125.ext hE135
          refine GOp.op (OpY.move (v := b_v) rfl ?_)
          exact ⟨Ext.refl _, rfl⟩
        refine DrG.rel ?_ ?_
        ·
          rintro w138 hE139 ⟨-⟩
          replace h_b := h_b.mono (hE139.le ([ob33, ob23, ob13] ++ B))
          replace hg := hg.mono (hE139.le ([ob33, ob23, ob13] ++ B))
          replace hf46 := fun A hA => (hf46 A hA).mono (hE139.le ([ob33, ob23, ob13] ++ A))
          have hL141 := hL125.ext hE139
          refine GOp.op (OpY.call en19 rfl rfl (rappend_c b_v (b) (b_ok) (by first | assumption | omega | (simp; done) | (simp; omega)) ([ob33, ob23, ob13] ++ B) _ hL141.bokO h_b ) ?_)
          rintro r142 w143 hE144 ⟨r0_145, rfl, hh146⟩
          replace h_b := h_b.mono (hE144.le ([ob33, ob23, ob13] ++ B))
          replace hg := hg.mono (hE144.le ([ob33, ob23, ob13] ++ B))
          replace hf46 := fun A hA => (hf46 A hA).mono (hE144.le ([ob33, ob23, ob13] ++ A))
          have hf148 := Fr.atO hh146.fr hL141
          have hL147 := hL141.ext hE144
          exact ⟨hE144, r0_145, rfl, hf148⟩
        intro v149
        refine DrG.det ?_ ?_
        ·
          rintro w150 hE151 ⟨⟨r0_145, rfl, hf148⟩, -⟩
          replace h_b := h_b.mono (hE151.le ([ob33, ob23, ob13] ++ B))
          replace hg := hg.mono (hE151.le ([ob33, ob23, ob13] ++ B))
          replace hf46 := fun A hA => (hf46 A hA).mono (hE151.le ([ob33, ob23, ob13] ++ A))
          have hL153 := hL125.ext hE151
          refine GOp.op (OpY.bytesToStr (v := r0_145) (xs := (appN (b))) Tryd.underlying22 Tryd.underlying5 Tryd.underlying9 rfl (hf148 B hB) ?_)
          exact ⟨Ext.refl _, rfl⟩
        refine DrG.det ?_ ?_
        ·
          rintro w154 hE155 ⟨-, -⟩
          replace h_b := h_b.mono (hE155.le ([ob33, ob23, ob13] ++ B))
          replace hg := hg.mono (hE155.le ([ob33, ob23, ob13] ++ B))
          replace hf46 := fun A hA => (hf46 A hA).mono (hE155.le ([ob33, ob23, ob13] ++ A))
          have hL157 := hL125.ext hE155
          refine GOp.op (OpY.strEql (x := (appN ((b)))) (y := (appN (b))) rfl rfl (appN_ok (((b_ok)))) (appN_ok (b_ok)) ?_)
          exact ⟨Ext.refl _, rfl⟩
        refine DrG.det ?_ ?_
        ·
          rintro w158 hE159 ⟨⟨r0_145, rfl, hf148⟩, -⟩
          replace h_b := h_b.mono (hE159.le ([ob33, ob23, ob13] ++ B))
          replace hg := hg.mono (hE159.le ([ob33, ob23, ob13] ++ B))
          replace hf46 := fun A hA => (hf46 A hA).mono (hE159.le ([ob33, ob23, ob13] ++ A))
          have hL161 := hL125.ext hE159
          refine GOp.op (OpY.move (v := (Value.bool (decide ((appN ((b))) = (appN (b)))))) rfl ?_)
          exact ⟨Ext.refl _, rfl⟩
        refine DrG.det ?_ ?_
        ·
          rintro w162 hE163 ⟨-, -⟩
          replace h_b := h_b.mono (hE163.le ([ob33, ob23, ob13] ++ B))
          replace hg := hg.mono (hE163.le ([ob33, ob23, ob13] ++ B))
          replace hf46 := fun A hA => (hf46 A hA).mono (hE163.le ([ob33, ob23, ob13] ++ A))
          have hL165 := hL125.ext hE163
          refine GOp.yes (b' := (decide ((appN ((b))) = (appN (b))))) rfl rfl hg47_b (OpY.move (v := (Value.int .i64 ((checkN ((appN ((b))))).2 : Int))) rfl ?_)
          exact ⟨Ext.refl _, rfl⟩
        refine DrG.det ?_ ?_
        ·
          rintro w166 hE167 ⟨-, -⟩
          replace h_b := h_b.mono (hE167.le ([ob33, ob23, ob13] ++ B))
          replace hg := hg.mono (hE167.le ([ob33, ob23, ob13] ++ B))
          replace hf46 := fun A hA => (hf46 A hA).mono (hE167.le ([ob33, ob23, ob13] ++ A))
          have hL169 := hL125.ext hE167
          refine GOp.yes (b' := (decide ((appN ((b))) = (appN (b))))) rfl rfl hg47_b (OpY.eql (x := ((checkN ((appN ((b))))).2 : Int)) (y := ((0 : Nat) : Int)) (((checkN ((appN ((b))))).2 : Int) = ((0 : Nat) : Int)) rfl rfl (by omega) ?_)
          exact ⟨Ext.refl _, rfl⟩
        refine DrG.det ?_ ?_
        ·
          rintro w170 hE171 ⟨-, -⟩
          replace h_b := h_b.mono (hE171.le ([ob33, ob23, ob13] ++ B))
          replace hg := hg.mono (hE171.le ([ob33, ob23, ob13] ++ B))
          replace hf46 := fun A hA => (hf46 A hA).mono (hE171.le ([ob33, ob23, ob13] ++ A))
          have hL173 := hL125.ext hE171
          refine GOp.op (OpY.pick_t (t := (decide ((appN ((b))) = (appN (b))))) (v := (Value.bool (decide (((checkN ((appN ((b))))).2 : Int) = ((0 : Nat) : Int))))) rfl hg47_b rfl ?_)
          exact ⟨Ext.refl _, rfl⟩
        refine DrG.det ?_ ?_
        ·
          rintro w174 hE175 ⟨-, -⟩
          replace h_b := h_b.mono (hE175.le ([ob33, ob23, ob13] ++ B))
          replace hg := hg.mono (hE175.le ([ob33, ob23, ob13] ++ B))
          replace hf46 := fun A hA => (hf46 A hA).mono (hE175.le ([ob33, ob23, ob13] ++ A))
          have hL177 := hL125.ext hE175
          refine GOp.op (OpY.move (v := (Value.bool (decide (((checkN ((appN ((b))))).2 : Int) = ((0 : Nat) : Int))))) rfl ?_)
          exact ⟨Ext.refl _, rfl⟩
        refine DrG.det ?_ ?_
        ·
          rintro w178 hE179 ⟨-, -⟩
          replace h_b := h_b.mono (hE179.le ([ob33, ob23, ob13] ++ B))
          replace hg := hg.mono (hE179.le ([ob33, ob23, ob13] ++ B))
          replace hf46 := fun A hA => (hf46 A hA).mono (hE179.le ([ob33, ob23, ob13] ++ A))
          have hL181 := hL125.ext hE179
          refine GOp.no (b' := (decide (((checkN ((appN ((b))))).2 : Int) = ((0 : Nat) : Int)))) rfl rfl hg48_b ⟨Ext.refl _, rfl⟩
        refine DrG.det ?_ ?_
        ·
          rintro w182 hE183 ⟨-, -⟩
          replace h_b := h_b.mono (hE183.le ([ob33, ob23, ob13] ++ B))
          replace hg := hg.mono (hE183.le ([ob33, ob23, ob13] ++ B))
          replace hf46 := fun A hA => (hf46 A hA).mono (hE183.le ([ob33, ob23, ob13] ++ A))
          have hL185 := hL125.ext hE183
          refine GOp.no (b' := (decide (((checkN ((appN ((b))))).2 : Int) = ((0 : Nat) : Int)))) rfl rfl hg48_b ⟨Ext.refl _, rfl⟩
        refine DrG.det ?_ ?_
        ·
          rintro w186 hE187 ⟨-, -⟩
          replace h_b := h_b.mono (hE187.le ([ob33, ob23, ob13] ++ B))
          replace hg := hg.mono (hE187.le ([ob33, ob23, ob13] ++ B))
          replace hf46 := fun A hA => (hf46 A hA).mono (hE187.le ([ob33, ob23, ob13] ++ A))
          have hL189 := hL125.ext hE187
          refine GOp.no (b' := (decide (((checkN ((appN ((b))))).2 : Int) = ((0 : Nat) : Int)))) rfl rfl hg48_b ⟨Ext.refl _, rfl⟩
        refine DrG.det ?_ ?_
        ·
          rintro w190 hE191 ⟨-, -⟩
          replace h_b := h_b.mono (hE191.le ([ob33, ob23, ob13] ++ B))
          replace hg := hg.mono (hE191.le ([ob33, ob23, ob13] ++ B))
          replace hf46 := fun A hA => (hf46 A hA).mono (hE191.le ([ob33, ob23, ob13] ++ A))
          have hL193 := hL125.ext hE191
          refine GOp.no (b' := (decide (((checkN ((appN ((b))))).2 : Int) = ((0 : Nat) : Int)))) rfl rfl hg48_b ⟨Ext.refl _, rfl⟩
        refine DrG.fin ?_
        rintro w194 hE195 ⟨⟨r0_145, rfl, hf148⟩, -⟩
        replace h_b := h_b.mono (hE195.le ([ob33, ob23, ob13] ++ B))
        replace hg := hg.mono (hE195.le ([ob33, ob23, ob13] ++ B))
        replace hf46 := fun A hA => (hf46 A hA).mono (hE195.le ([ob33, ob23, ob13] ++ A))
        have hL196 := hL125.ext hE195
        refine Rl.no (b' := (decide (((checkN ((appN ((b))))).2 : Int) = ((0 : Nat) : Int)))) rfl rfl hg48_b ?_
        refine Rl.op (OpY.pick_f (t := (decide (((checkN ((appN ((b))))).2 : Int) = ((0 : Nat) : Int)))) (v := (Value.bool false)) rfl hg48_b rfl ?_)
        refine Rl.op (OpY.assign (v := (Value.bool false)) rfl ?_)
        refine Rl.nil ?_
        refine Swp.ret ?_
        refine ⟨[(Value.bool false)], ⟨rfl, trivial⟩, ?_⟩
        refine ⟨_, rfl, hL196.done, ?_⟩
        · first | rfl | exact absurd rfl (by assumption) | exact absurd (crcN_crcN (by assumption)) (by assumption) | exact congrArg Value.bool (Eq.symm (decide_eq_true (crcN_crcN (by assumption)))) | (exfalso; simp_all [checkN_appN]; done) | exact congrArg Value.bool (by simp [checkN_appN]; done) | exact congrArg Value.bool (by simp; done) | exact congrArg Value.bool (by simp_all; done)
    ·
      have hg47_b : (decide ((appN ((b))) = (appN (b)))) = false := decide_eq_false hg47
      refine Swp.draw 15 [.det (sv ob23 ((appN ((b))).length) (cap24)), .det (Value.string (str ((appN ((b)))))), .det b_v, .rel (fun v w' => ∃ r0_216 : Value, r0_216 = v ∧ (∀ A, Bok A w → Ints .u8 (view ([ob33, ob23, ob13] ++ A) w') r0_216 (appN (b)))), .det (Value.string (str ((appN (b))))), .det (Value.bool (decide ((appN ((b))) = (appN (b))))), .det (Value.bool (decide ((appN ((b))) = (appN (b))))), .det undef, .det undef, .det (Value.bool false), .det (Value.bool false), .det undef, .det undef, .det undef, .det undef] mixed rfl rfl (⟨fun v w w' hE => by rintro ⟨r0_216, rfl, k0⟩; exact ⟨r0_216, rfl, fun A hA => (k0 A hA).mono (hE.le _)⟩, trivial⟩) ?_
      intro w197 hE198
      replace h_b := h_b.mono (hE198.le ([ob33, ob23, ob13] ++ B))
      replace hg := hg.mono (hE198.le ([ob33, ob23, ob13] ++ B))
      replace hf46 := fun A hA => (hf46 A hA).mono (hE198.le ([ob33, ob23, ob13] ++ A))
      have hL199 := hL45.ext hE198
      refine DrG.det ?_ ?_
      ·
        rintro w200 hE201 ⟨-⟩
        replace h_b := h_b.mono (hE201.le ([ob33, ob23, ob13] ++ B))
        replace hg := hg.mono (hE201.le ([ob33, ob23, ob13] ++ B))
        replace hf46 := fun A hA => (hf46 A hA).mono (hE201.le ([ob33, ob23, ob13] ++ A))
        have hL203 := hL199.ext hE201
        refine GOp.op (OpY.move (v := (sv ob23 ((appN ((b))).length) (cap24))) rfl ?_)
        exact ⟨Ext.refl _, rfl⟩
      refine DrG.det ?_ ?_
      ·
        rintro w204 hE205 ⟨-⟩
        replace h_b := h_b.mono (hE205.le ([ob33, ob23, ob13] ++ B))
        replace hg := hg.mono (hE205.le ([ob33, ob23, ob13] ++ B))
        replace hf46 := fun A hA => (hf46 A hA).mono (hE205.le ([ob33, ob23, ob13] ++ A))
        have hL207 := hL199.ext hE205
        refine GOp.op (OpY.bytesToStr Tryd.underlying22 Tryd.underlying5 Tryd.underlying9 rfl (hL207.intsB rfl 1 rfl rfl hcap28 (by simp) B hB) ?_)
        exact ⟨Ext.refl _, rfl⟩
      refine DrG.det ?_ ?_
      ·
        rintro w208 hE209 ⟨-⟩
        replace h_b := h_b.mono (hE209.le ([ob33, ob23, ob13] ++ B))
        replace hg := hg.mono (hE209.le ([ob33, ob23, ob13] ++ B))
        replace hf46 := fun A hA => (hf46 A hA).mono (hE209.le ([ob33, ob23, ob13] ++ A))
        have hL211 := hL199.ext hE209
        refine GOp.op (OpY.move (v := b_v) rfl ?_)
        exact ⟨Ext.refl _, rfl⟩
      refine DrG.rel ?_ ?_
      ·
        rintro w212 hE213 ⟨-⟩
        replace h_b := h_b.mono (hE213.le ([ob33, ob23, ob13] ++ B))
        replace hg := hg.mono (hE213.le ([ob33, ob23, ob13] ++ B))
        replace hf46 := fun A hA => (hf46 A hA).mono (hE213.le ([ob33, ob23, ob13] ++ A))
        have hL215 := hL199.ext hE213
        refine GOp.op (OpY.call en19 rfl rfl (rappend_c b_v (b) (b_ok) (by first | assumption | omega | (simp; done) | (simp; omega)) ([ob33, ob23, ob13] ++ B) _ hL215.bokO h_b ) ?_)
        rintro r216 w217 hE218 ⟨r0_219, rfl, hh220⟩
        replace h_b := h_b.mono (hE218.le ([ob33, ob23, ob13] ++ B))
        replace hg := hg.mono (hE218.le ([ob33, ob23, ob13] ++ B))
        replace hf46 := fun A hA => (hf46 A hA).mono (hE218.le ([ob33, ob23, ob13] ++ A))
        have hf222 := Fr.atO hh220.fr hL215
        have hL221 := hL215.ext hE218
        exact ⟨hE218, r0_219, rfl, hf222⟩
      intro v223
      refine DrG.det ?_ ?_
      ·
        rintro w224 hE225 ⟨⟨r0_219, rfl, hf222⟩, -⟩
        replace h_b := h_b.mono (hE225.le ([ob33, ob23, ob13] ++ B))
        replace hg := hg.mono (hE225.le ([ob33, ob23, ob13] ++ B))
        replace hf46 := fun A hA => (hf46 A hA).mono (hE225.le ([ob33, ob23, ob13] ++ A))
        have hL227 := hL199.ext hE225
        refine GOp.op (OpY.bytesToStr (v := r0_219) (xs := (appN (b))) Tryd.underlying22 Tryd.underlying5 Tryd.underlying9 rfl (hf222 B hB) ?_)
        exact ⟨Ext.refl _, rfl⟩
      refine DrG.det ?_ ?_
      ·
        rintro w228 hE229 ⟨-, -⟩
        replace h_b := h_b.mono (hE229.le ([ob33, ob23, ob13] ++ B))
        replace hg := hg.mono (hE229.le ([ob33, ob23, ob13] ++ B))
        replace hf46 := fun A hA => (hf46 A hA).mono (hE229.le ([ob33, ob23, ob13] ++ A))
        have hL231 := hL199.ext hE229
        refine GOp.op (OpY.strEql (x := (appN ((b)))) (y := (appN (b))) rfl rfl (appN_ok (((b_ok)))) (appN_ok (b_ok)) ?_)
        exact ⟨Ext.refl _, rfl⟩
      refine DrG.det ?_ ?_
      ·
        rintro w232 hE233 ⟨⟨r0_219, rfl, hf222⟩, -⟩
        replace h_b := h_b.mono (hE233.le ([ob33, ob23, ob13] ++ B))
        replace hg := hg.mono (hE233.le ([ob33, ob23, ob13] ++ B))
        replace hf46 := fun A hA => (hf46 A hA).mono (hE233.le ([ob33, ob23, ob13] ++ A))
        have hL235 := hL199.ext hE233
        refine GOp.op (OpY.move (v := (Value.bool (decide ((appN ((b))) = (appN (b)))))) rfl ?_)
        exact ⟨Ext.refl _, rfl⟩
      refine DrG.det ?_ ?_
      ·
        rintro w236 hE237 ⟨-, -⟩
        replace h_b := h_b.mono (hE237.le ([ob33, ob23, ob13] ++ B))
        replace hg := hg.mono (hE237.le ([ob33, ob23, ob13] ++ B))
        replace hf46 := fun A hA => (hf46 A hA).mono (hE237.le ([ob33, ob23, ob13] ++ A))
        have hL239 := hL199.ext hE237
        refine GOp.no (b' := (decide ((appN ((b))) = (appN (b))))) rfl rfl hg47_b ⟨Ext.refl _, rfl⟩
      refine DrG.det ?_ ?_
      ·
        rintro w240 hE241 ⟨-, -⟩
        replace h_b := h_b.mono (hE241.le ([ob33, ob23, ob13] ++ B))
        replace hg := hg.mono (hE241.le ([ob33, ob23, ob13] ++ B))
        replace hf46 := fun A hA => (hf46 A hA).mono (hE241.le ([ob33, ob23, ob13] ++ A))
        have hL243 := hL199.ext hE241
        refine GOp.no (b' := (decide ((appN ((b))) = (appN (b))))) rfl rfl hg47_b ⟨Ext.refl _, rfl⟩
      refine DrG.det ?_ ?_
      ·
        rintro w244 hE245 ⟨-, -⟩
        replace h_b := h_b.mono (hE245.le ([ob33, ob23, ob13] ++ B))
        replace hg := hg.mono (hE245.le ([ob33, ob23, ob13] ++ B))
        replace hf46 := fun A hA => (hf46 A hA).mono (hE245.le ([ob33, ob23, ob13] ++ A))
        have hL247 := hL199.ext hE245
        refine GOp.op (OpY.pick_f (t := (decide ((appN ((b))) = (appN (b))))) (v := (Value.bool false)) rfl hg47_b rfl ?_)
        exact ⟨Ext.refl _, rfl⟩
      refine DrG.det ?_ ?_
      ·
        rintro w248 hE249 ⟨-, -⟩
        replace h_b := h_b.mono (hE249.le ([ob33, ob23, ob13] ++ B))
        replace hg := hg.mono (hE249.le ([ob33, ob23, ob13] ++ B))
        replace hf46 := fun A hA => (hf46 A hA).mono (hE249.le ([ob33, ob23, ob13] ++ A))
        have hL251 := hL199.ext hE249
        refine GOp.op (OpY.move (v := (Value.bool false)) rfl ?_)
        exact ⟨Ext.refl _, rfl⟩
      refine DrG.det ?_ ?_
      ·
        rintro w252 hE253 ⟨-, -⟩
        replace h_b := h_b.mono (hE253.le ([ob33, ob23, ob13] ++ B))
        replace hg := hg.mono (hE253.le ([ob33, ob23, ob13] ++ B))
        replace hf46 := fun A hA => (hf46 A hA).mono (hE253.le ([ob33, ob23, ob13] ++ A))
        have hL255 := hL199.ext hE253
        refine GOp.no (b' := false) rfl rfl rfl ⟨Ext.refl _, rfl⟩
      refine DrG.det ?_ ?_
      ·
        rintro w256 hE257 ⟨-, -⟩
        replace h_b := h_b.mono (hE257.le ([ob33, ob23, ob13] ++ B))
        replace hg := hg.mono (hE257.le ([ob33, ob23, ob13] ++ B))
        replace hf46 := fun A hA => (hf46 A hA).mono (hE257.le ([ob33, ob23, ob13] ++ A))
        have hL259 := hL199.ext hE257
        refine GOp.no (b' := false) rfl rfl rfl ⟨Ext.refl _, rfl⟩
      refine DrG.det ?_ ?_
      ·
        rintro w260 hE261 ⟨-, -⟩
        replace h_b := h_b.mono (hE261.le ([ob33, ob23, ob13] ++ B))
        replace hg := hg.mono (hE261.le ([ob33, ob23, ob13] ++ B))
        replace hf46 := fun A hA => (hf46 A hA).mono (hE261.le ([ob33, ob23, ob13] ++ A))
        have hL263 := hL199.ext hE261
        refine GOp.no (b' := false) rfl rfl rfl ⟨Ext.refl _, rfl⟩
      refine DrG.det ?_ ?_
      ·
        rintro w264 hE265 ⟨-, -⟩
        replace h_b := h_b.mono (hE265.le ([ob33, ob23, ob13] ++ B))
        replace hg := hg.mono (hE265.le ([ob33, ob23, ob13] ++ B))
        replace hf46 := fun A hA => (hf46 A hA).mono (hE265.le ([ob33, ob23, ob13] ++ A))
        have hL267 := hL199.ext hE265
        refine GOp.no (b' := false) rfl rfl rfl ⟨Ext.refl _, rfl⟩
      refine DrG.fin ?_
      rintro w268 hE269 ⟨⟨r0_219, rfl, hf222⟩, -⟩
      replace h_b := h_b.mono (hE269.le ([ob33, ob23, ob13] ++ B))
      replace hg := hg.mono (hE269.le ([ob33, ob23, ob13] ++ B))
      replace hf46 := fun A hA => (hf46 A hA).mono (hE269.le ([ob33, ob23, ob13] ++ A))
      have hL270 := hL199.ext hE269
      refine Rl.no (b' := false) rfl rfl rfl ?_
      refine Rl.op (OpY.pick_f (t := false) (v := (Value.bool false)) rfl rfl rfl ?_)
      refine Rl.op (OpY.assign (v := (Value.bool false)) rfl ?_)
      refine Rl.nil ?_
      refine Swp.ret ?_
      refine ⟨[(Value.bool false)], ⟨rfl, trivial⟩, ?_⟩
      refine ⟨_, rfl, hL270.done, ?_⟩
      · first | rfl | exact absurd rfl (by assumption) | exact absurd (crcN_crcN (by assumption)) (by assumption) | exact congrArg Value.bool (Eq.symm (decide_eq_true (crcN_crcN (by assumption)))) | (exfalso; simp_all [checkN_appN]; done) | exact congrArg Value.bool (by simp [checkN_appN]; done) | exact congrArg Value.bool (by simp; done) | exact congrArg Value.bool (by simp_all; done)
theorem ChecksumCheck_c (b_v : Value) (b : List (Nat)) (b_ok : ∀ x ∈ b, x < 256) (B : List (Option Nat)) (w : World) (hB : Bok B w) (h_b : Ints .u8 (view B w) b_v b) (hg : At (view B w) 3 15 [(Value.int .u8 ((4 : Nat) : Int))])  :
    Calls Tryd.prog 6 #[b_v] w (Ret w (fun r w' => (Value.bool true) = r)) := by
  have hL := Loc.start hB
  refine calls_of (l := [b_v]) (rl := [.tmp 2]) (n := 36) Tryd.func6 rfl rfl rfl (by simp) ?_
  refine Swp.seq ?_
  refine Swp.region rfl ?_
  refine Rl.op (OpY.assign (v := (Value.bool false)) rfl ?_)
  refine Rl.nil ?_
  refine Swp.seq ?_
  refine Swp.seq ?_
  refine Swp.region rfl ?_
  refine Rl.op (OpY.call en11 rfl rfl (awake_c  ([] ++ B) _ hL.bokO hg ) ?_)
  rintro r1 w2 hE3 ⟨rfl⟩
  replace h_b := h_b.mono (hE3.le ([] ++ B))
  replace hg := hg.mono (hE3.le ([] ++ B))
  have hL4 := hL.ext hE3
  refine Rl.op (OpY.not (x := true) rfl ?_)
  refine Rl.op (OpY.move (v := (Value.bool false)) rfl ?_)
  refine Rl.yes (b' := false) rfl rfl rfl (OpY.move (v := b_v) rfl ?_)
  refine Rl.yes (b' := false) rfl rfl rfl (OpY.len_sl Tryd.underlying22 rfl h_b ?_)
  refine Rl.yes (b' := false) rfl rfl rfl (OpY.gtr (x := ((b.length : Nat) : Int)) (y := ((300 : Nat) : Int)) (b.length > 300) rfl rfl (by omega) ?_)
  refine Rl.op (OpY.pick_f (t := false) (v := (Value.bool (decide (b.length > 300)))) rfl rfl rfl ?_)
  refine Rl.nil ?_
  refine Swp.cond_d (b.length > 300) rfl (fun hc5 => ?_) (fun hc5 => ?_)
  ·
    skip
    refine Swp.seq ?_
    refine Swp.region rfl ?_
    refine Rl.op (OpY.call en11 rfl rfl (awake_c  ([] ++ B) _ hL4.bokO hg ) ?_)
    rintro r6 w7 hE8 ⟨rfl⟩
    replace h_b := h_b.mono (hE8.le ([] ++ B))
    replace hg := hg.mono (hE8.le ([] ++ B))
    have hL9 := hL4.ext hE8
    refine Rl.op (OpY.assign (v := (Value.bool true)) rfl ?_)
    refine Rl.nil ?_
    refine Swp.ret ?_
    refine ⟨[(Value.bool true)], ⟨rfl, trivial⟩, ?_⟩
    refine ⟨_, rfl, hL9.done, ?_⟩
    · first | rfl | exact absurd rfl (by assumption) | exact absurd (crcN_crcN (by assumption)) (by assumption) | exact congrArg Value.bool (Eq.symm (decide_eq_true (crcN_crcN (by assumption)))) | (exfalso; simp_all [checkN_appN]; done) | exact congrArg Value.bool (by simp [checkN_appN]; done) | exact congrArg Value.bool (by simp; done) | exact congrArg Value.bool (by simp_all; done)
  ·
    skip
    refine Swp.skip ?_
    refine Swp.seq ?_
    refine Swp.region rfl ?_
    refine Rl.op (OpY.move (v := b_v) rfl ?_)
    refine Rl.op (OpY.call en13 rfl rfl (cp_c b_v (b) (b_ok) (by first | assumption | omega | (simp; done) | (simp; omega)) ([] ++ B) _ hL4.bokO h_b ) ?_)
    rintro r10 w11 hE12 ⟨_, rfl, ob13, cap14, sp15, rfl, hfr16, ho17, hcap18⟩
    have hL19 := (hL4.adopt hE12 hfr16 ho17).1
    replace h_b := h_b.mono ((hL4.adopt hE12 hfr16 ho17).2.le B)
    replace hg := hg.mono ((hL4.adopt hE12 hfr16 ho17).2.le B)
    clear hL4
    replace hcap18 : (ints .u8 ((b)) ++ sp15).length = cap14 * 1 := by rw [hcap18, Nat.mul_one]
    replace hL19 : X.Loc [] B w w11 [ob13] [.cells (ints .u8 ((b)) ++ (sp15))] := hL19
    refine Rl.op (OpY.call en18 rfl rfl (check_c (sv ob13 (((b)).length) (cap14)) ((b)) (((b_ok))) (by first | assumption | omega | (simp; done) | (simp; omega)) ([] ++ B) _ (Bok.sub hL19.bokO (by simp +contextual)) (hL19.intsB rfl 0 rfl rfl hcap18 (by simp) B hB) ) ?_)
    rintro r20 w21 hE22 ⟨r0_23, rfl, hr24⟩
    replace h_b := h_b.mono (hE22.le ([ob13] ++ B))
    replace hg := hg.mono (hE22.le ([ob13] ++ B))
    have hf26 := Fr.atO hr24 hL19
    have hL25 := hL19.ext hE22
    refine Rl.op (OpY.move (v := (Value.tuple #[r0_23, (Value.int .i64 ((checkN ((b))).2 : Int))])) rfl ?_)
    refine Rl.op (OpY.extract (vs := [r0_23, (Value.int .i64 ((checkN ((b))).2 : Int))]) (v := r0_23) rfl rfl ?_)
    refine Rl.op (OpY.extract (vs := [r0_23, (Value.int .i64 ((checkN ((b))).2 : Int))]) (v := (Value.int .i64 ((checkN ((b))).2 : Int))) rfl rfl ?_)
    refine Rl.op (OpY.assign (v := r0_23) rfl ?_)
    refine Rl.op (OpY.assign (v := (Value.int .i64 ((checkN ((b))).2 : Int))) rfl ?_)
    refine Rl.nil ?_
    refine Swp.seq ?_
    refine Swp.region rfl ?_
    refine Rl.op (OpY.move (v := b_v) rfl ?_)
    refine Rl.op (OpY.call en20 rfl rfl (rcheck_c b_v (b) (b_ok) (by first | assumption | omega | (simp; done) | (simp; omega)) ([ob13] ++ B) _ hL25.bokO h_b ) ?_)
    rintro r27 w28 hE29 ⟨r0_30, rfl, hr31⟩
    replace h_b := h_b.mono (hE29.le ([ob13] ++ B))
    replace hg := hg.mono (hE29.le ([ob13] ++ B))
    replace hf26 := fun A hA => (hf26 A hA).mono (hE29.le ([ob13] ++ A))
    have hf33 := Fr.atO hr31 hL25
    have hL32 := hL25.ext hE29
    refine Rl.op (OpY.move (v := (Value.tuple #[r0_30, (Value.int .i64 ((checkN (b)).2 : Int))])) rfl ?_)
    refine Rl.op (OpY.extract (vs := [r0_30, (Value.int .i64 ((checkN (b)).2 : Int))]) (v := r0_30) rfl rfl ?_)
    refine Rl.op (OpY.extract (vs := [r0_30, (Value.int .i64 ((checkN (b)).2 : Int))]) (v := (Value.int .i64 ((checkN (b)).2 : Int))) rfl rfl ?_)
    refine Rl.op (OpY.assign (v := r0_30) rfl ?_)
    refine Rl.op (OpY.assign (v := (Value.int .i64 ((checkN (b)).2 : Int))) rfl ?_)
    refine Rl.nil ?_
    refine Swp.seq ?_
    refine Swp.region rfl ?_
    refine Rl.op (OpY.move (v := r0_23) rfl ?_)
    refine Rl.op (OpY.bytesToStr (v := r0_23) (xs := ((checkN ((b))).1)) Tryd.underlying22 Tryd.underlying5 Tryd.underlying9 rfl (hf26 B hB) ?_)
    refine Rl.op (OpY.move (v := r0_30) rfl ?_)
    refine Rl.op (OpY.bytesToStr (v := r0_30) (xs := ((checkN (b)).1)) Tryd.underlying22 Tryd.underlying5 Tryd.underlying9 rfl (hf33 B hB) ?_)
    refine Rl.op (OpY.strEql (x := ((checkN ((b))).1)) (y := ((checkN (b)).1)) rfl rfl (checkN_ok (((b_ok)))) (checkN_ok (b_ok)) ?_)
    refine Rl.op (OpY.move (v := (Value.bool (decide (((checkN ((b))).1) = ((checkN (b)).1))))) rfl ?_)
    by_cases hg34 : ((checkN ((b))).1) = ((checkN (b)).1)
    ·
      have hg34_b : (decide (((checkN ((b))).1) = ((checkN (b)).1))) = true := decide_eq_true hg34
      refine Rl.yes (b' := (decide (((checkN ((b))).1) = ((checkN (b)).1)))) rfl rfl hg34_b (OpY.move (v := (Value.int .i64 ((checkN ((b))).2 : Int))) rfl ?_)
      refine Rl.yes (b' := (decide (((checkN ((b))).1) = ((checkN (b)).1)))) rfl rfl hg34_b (OpY.move (v := (Value.int .i64 ((checkN (b)).2 : Int))) rfl ?_)
      refine Rl.yes (b' := (decide (((checkN ((b))).1) = ((checkN (b)).1)))) rfl rfl hg34_b (OpY.eql (x := ((checkN ((b))).2 : Int)) (y := ((checkN (b)).2 : Int)) (((checkN ((b))).2 : Int) = ((checkN (b)).2 : Int)) rfl rfl (by omega) ?_)
      refine Rl.op (OpY.pick_t (t := (decide (((checkN ((b))).1) = ((checkN (b)).1)))) (v := (Value.bool (decide (((checkN ((b))).2 : Int) = ((checkN (b)).2 : Int))))) rfl hg34_b rfl ?_)
      refine Rl.op (OpY.assign (v := (Value.bool (decide (((checkN ((b))).2 : Int) = ((checkN (b)).2 : Int))))) rfl ?_)
      refine Rl.nil ?_
      refine Swp.ret ?_
      refine ⟨[(Value.bool (decide (((checkN ((b))).2 : Int) = ((checkN (b)).2 : Int))))], ⟨rfl, trivial⟩, ?_⟩
      refine ⟨_, rfl, hL32.done, ?_⟩
      · first | rfl | exact absurd rfl (by assumption) | exact absurd (crcN_crcN (by assumption)) (by assumption) | exact congrArg Value.bool (Eq.symm (decide_eq_true (crcN_crcN (by assumption)))) | (exfalso; simp_all [checkN_appN]; done) | exact congrArg Value.bool (by simp [checkN_appN]; done) | exact congrArg Value.bool (by simp; done) | exact congrArg Value.bool (by simp_all; done)
    ·
      have hg34_b : (decide (((checkN ((b))).1) = ((checkN (b)).1))) = false := decide_eq_false hg34
      refine Rl.no (b' := (decide (((checkN ((b))).1) = ((checkN (b)).1)))) rfl rfl hg34_b ?_
      refine Rl.no (b' := (decide (((checkN ((b))).1) = ((checkN (b)).1)))) rfl rfl hg34_b ?_
      refine Rl.no (b' := (decide (((checkN ((b))).1) = ((checkN (b)).1)))) rfl rfl hg34_b ?_
      refine Rl.op (OpY.pick_f (t := (decide (((checkN ((b))).1) = ((checkN (b)).1)))) (v := (Value.bool false)) rfl hg34_b rfl ?_)
      refine Rl.op (OpY.assign (v := (Value.bool false)) rfl ?_)
      refine Rl.nil ?_
      refine Swp.ret ?_
      refine ⟨[(Value.bool false)], ⟨rfl, trivial⟩, ?_⟩
      refine ⟨_, rfl, hL32.done, ?_⟩
      · first | rfl | exact absurd rfl (by assumption) | exact absurd (crcN_crcN (by assumption)) (by assumption) | exact congrArg Value.bool (Eq.symm (decide_eq_true (crcN_crcN (by assumption)))) | (exfalso; simp_all [checkN_appN]; done) | exact congrArg Value.bool (by simp [checkN_appN]; done) | exact congrArg Value.bool (by simp; done) | exact congrArg Value.bool (by simp_all; done)
theorem ChecksumFormat_c (sum : Nat) (sum_lt : sum < 18446744073709551616) (B : List (Option Nat)) (w : World) (hB : Bok B w) (hg : At (view B w) 3 15 [(Value.int .u8 ((4 : Nat) : Int))])  :
    Calls Tryd.prog 7 #[(Value.int .u64 ((sum : Nat) : Int))] w (Ret w (fun r w' => (Value.bool true) = r)) := by
  have hL := Loc.start hB
  refine calls_of (l := [(Value.int .u64 ((sum : Nat) : Int))]) (rl := [.tmp 2]) (n := 11) Tryd.func7 rfl rfl rfl (by simp) ?_
  refine Swp.seq ?_
  refine Swp.region rfl ?_
  refine Rl.op (OpY.assign (v := (Value.bool false)) rfl ?_)
  refine Rl.nil ?_
  refine Swp.seq ?_
  refine Swp.region rfl ?_
  refine Rl.op (OpY.call en11 rfl rfl (awake_c  ([] ++ B) _ hL.bokO hg ) ?_)
  rintro r1 w2 hE3 ⟨rfl⟩
  replace hg := hg.mono (hE3.le ([] ++ B))
  have hL4 := hL.ext hE3
  refine Rl.op (OpY.move (v := (Value.bool true)) rfl ?_)
  refine Rl.yes (b' := true) rfl rfl rfl (OpY.move (v := (Value.int .u64 ((sum : Nat) : Int))) rfl ?_)
  refine Rl.yes (b' := true) rfl rfl rfl (OpY.call en21 rfl rfl (form_c (sum) (sum_lt) ([] ++ B) _ hL4.bokO hg ) ?_)
  rintro r5 w6 hE7 ⟨rfl⟩
  replace hg := hg.mono (hE7.le ([] ++ B))
  have hL8 := hL4.ext hE7
  refine Rl.yes (b' := true) rfl rfl rfl (OpY.move (v := (Value.int .u64 ((sum : Nat) : Int))) rfl ?_)
  refine Rl.yes (b' := true) rfl rfl rfl (OpY.callq (v := (Value.string (str ((hexN (sum)))))) en22 rfl rfl (text_c (sum) (sum_lt) ([] ++ B) _ hL8.bokO  ) ?_)
  refine Rl.yes (b' := true) rfl rfl rfl (OpY.strEql (x := (hexN (sum))) (y := (hexN (sum))) rfl rfl (hexN_ok (sum)) (hexN_ok (sum)) ?_)
  refine Rl.op (OpY.pick_t (t := true) (v := (Value.bool (decide ((hexN (sum)) = (hexN (sum)))))) rfl rfl rfl ?_)
  refine Rl.op (OpY.assign (v := (Value.bool (decide ((hexN (sum)) = (hexN (sum)))))) rfl ?_)
  refine Rl.nil ?_
  refine Swp.ret ?_
  refine ⟨[(Value.bool (decide ((hexN (sum)) = (hexN (sum)))))], ⟨rfl, trivial⟩, ?_⟩
  refine ⟨_, rfl, hL8.done, ?_⟩
  · first | rfl | exact absurd rfl (by assumption) | exact absurd (crcN_crcN (by assumption)) (by assumption) | exact congrArg Value.bool (Eq.symm (decide_eq_true (crcN_crcN (by assumption)))) | (exfalso; simp_all [checkN_appN]; done) | exact congrArg Value.bool (by simp [checkN_appN]; done) | exact congrArg Value.bool (by simp; done) | exact congrArg Value.bool (by simp_all; done)
end Go.Proofs.YtpfbdhfpojbmlaaDoor.P4

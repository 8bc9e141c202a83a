/- Walks. Written by a program of mine (wip/tool/gen.py); the kernel checks them. -/
import Derived.Test.YtpfbdhfpojbmlaaDoorProg
import Derived.Test.YtpfbdhfpojbmlaaDoorX10
import Derived.Test.YtpfbdhfpojbmlaaDoorM06
namespace Go.Proofs.YtpfbdhfpojbmlaaDoor
open Go Go.RowKit Go.X Go.C06

theorem mixed : Tryd.prog.follows .mixedOrders = true := by kernel_rfl

theorem ti5 : TI Tryd.prog 5 1 1 (Value.int .u8 0) := TI.mk (by kernel_rfl)
theorem en12 : Enters Tryd.prog 12 := ⟨Tryd.f12, Tryd.func12, by kernel_rfl, by kernel_rfl⟩
theorem en14 : Enters Tryd.prog 14 := ⟨Tryd.f14, Tryd.func14, by kernel_rfl, by kernel_rfl⟩
theorem en15 : Enters Tryd.prog 15 := ⟨Tryd.f15, Tryd.func15, by kernel_rfl, by kernel_rfl⟩
theorem en16 : Enters Tryd.prog 16 := ⟨Tryd.f16, Tryd.func16, by kernel_rfl, by kernel_rfl⟩
theorem en19 : Enters Tryd.prog 19 := ⟨Tryd.f19, Tryd.func19, by kernel_rfl, by kernel_rfl⟩
theorem en23 : Enters Tryd.prog 23 := ⟨Tryd.f23, Tryd.func23, by kernel_rfl, by kernel_rfl⟩
theorem en24 : Enters Tryd.prog 24 := ⟨Tryd.f24, Tryd.func24, by kernel_rfl, by kernel_rfl⟩
theorem en25 : Enters Tryd.prog 25 := ⟨Tryd.f25, Tryd.func25, by kernel_rfl, by kernel_rfl⟩
theorem en26 : Enters Tryd.prog 26 := ⟨Tryd.f26, Tryd.func26, by kernel_rfl, by kernel_rfl⟩
theorem turn_c (state : Nat) (state_lt : state < 18446744073709551616) (c : Nat) (c_lt : c < 256) (B : List (Option Nat)) (w : World) (hB : Bok B w)   :
    Calls Tryd.prog 23 #[(Value.int .u64 ((state : Nat) : Int)), (Value.int .u8 ((c : Nat) : Int))] w (RetQ w (Value.int .u64 ((turnN state c : Nat) : Int))) := by
  have hL := Loc.start hB
  refine calls_of (l := [(Value.int .u64 ((state : Nat) : Int)), (Value.int .u8 ((c : Nat) : Int))]) (rl := [.tmp 4]) (n := 24) Tryd.func23 rfl rfl rfl (by simp) ?_
  refine Swp.seq ?_
  refine Swp.region rfl ?_
  refine Rl.op (OpY.assign (v := (Value.int .u64 ((0 : Nat) : Int))) rfl ?_)
  refine Rl.nil ?_
  refine Swp.seq ?_
  refine Swp.region rfl ?_
  refine Rl.op (OpY.move (v := (Value.int .u64 ((state : Nat) : Int))) rfl ?_)
  refine Rl.op (OpY.move (v := (Value.int .u8 ((c : Nat) : Int))) rfl ?_)
  refine Rl.op (OpY.convInt (x := ((c : Nat) : Int)) (z := ((c : Nat) : Int)) Tryd.underlying5 Tryd.underlying24 rfl (wq_u64 rfl (Nat.lt_of_lt_of_le (c_lt) (by decide))) ?_)
  refine Rl.op (OpY.xor (x := state) (y := c) rfl rfl (wq_u64 rfl (state_lt)) (wq_u64 rfl ((Nat.lt_of_lt_of_le (c_lt) (by decide)))) ?_)
  refine Rl.op (OpY.assign (v := (Value.int .u64 (((state ^^^ c) : Nat) : Int))) rfl ?_)
  refine Rl.nil ?_
  refine Swp.seq ?_
  refine Swp.seq ?_
  refine Swp.region rfl ?_
  refine Rl.op (OpY.assign (v := (Value.int .i64 ((0 : Nat) : Int))) rfl ?_)
  refine Rl.nil ?_
  refine Swp.block ?_
  refine Swp.loopS [0, 5, 6, 11, 12, 13, 14, 15, 16, 17, 18, 19, 20, 21, 22] (σ := (Nat) × (Nat)) (fun ss => (fun (i : Nat) (r : Nat) => [(0, (Value.int .u64 ((r : Nat) : Int))), (5, (Value.int .i64 ((i : Nat) : Int)))]) ss.1 ss.2) (fun ss w' => (fun (i : Nat) (r : Nat) => w = w' ∧ (i ≤ 8) ∧ (r < 18446744073709551616) ∧ (r = rounds i (state ^^^ c)) ∧ True) ss.1 ss.2) (fun ss => (fun (i : Nat) (r : Nat) => 8 - i) ss.1 ss.2) ((0), ((state ^^^ c))) ⟨rfl, (by omega), (Nat.xor_lt_two_pow (n := 64) state_lt (by omega)), (rfl), trivial⟩ ⟨rfl, rfl, trivial⟩ ?_
  rintro ⟨i, r⟩ e1 _ ⟨rfl, hi, hr, hm, -⟩
  replace hi : i ≤ 8 := hi
  replace hr : r < 18446744073709551616 := hr
  replace hm : r = rounds i (state ^^^ c) := hm
  show Swp _ _ _ _ ((upd (upd (mix _ e1 _) 5 (Value.int .i64 ((i : Nat) : Int))) 0 (Value.int .u64 ((r : Nat) : Int)))) _
  refine Swp.seq ?_
  refine Swp.seq ?_
  refine Swp.region rfl ?_
  refine Rl.op (OpY.move (v := (Value.int .i64 ((i : Nat) : Int))) rfl ?_)
  refine Rl.op (OpY.lss (x := ((i : Nat) : Int)) (y := ((8 : Nat) : Int)) (i < 8) rfl rfl (by omega) ?_)
  refine Rl.nil ?_
  refine Swp.cond_d (i < 8) rfl (fun hc4 => ?_) (fun hc4 => ?_)
  ·
    skip
    refine Swp.skip ?_
    refine Swp.seq ?_
    refine Swp.block ?_
    refine Swp.seq ?_
    refine Swp.region rfl ?_
    refine Rl.op (OpY.move (v := (Value.int .u64 ((r : Nat) : Int))) rfl ?_)
    refine Rl.op (OpY.rem (x := r) (y := 2) rfl rfl (by omega) ?_)
    refine Rl.op (OpY.eql (x := (((r % 2) : Nat) : Int)) (y := ((1 : Nat) : Int)) ((r % 2) = 1) rfl rfl (by omega) ?_)
    refine Rl.op (OpY.assign (v := (Value.bool (decide ((r % 2) = 1)))) rfl ?_)
    refine Rl.nil ?_
    refine Swp.seq ?_
    refine Swp.region rfl ?_
    refine Rl.op (OpY.move (v := (Value.int .u64 ((r : Nat) : Int))) rfl ?_)
    refine Rl.op (OpY.quo (x := r) (y := 2) rfl rfl (by omega) (wq_u64 rfl (hr)) ?_)
    refine Rl.op (OpY.assign (v := (Value.int .u64 (((r / 2) : Nat) : Int))) rfl ?_)
    refine Rl.nil ?_
    refine Swp.seq ?_
    refine Swp.region rfl ?_
    refine Rl.op (OpY.move (v := (Value.bool (decide ((r % 2) = 1)))) rfl ?_)
    refine Rl.nil ?_
    refine Swp.cond_d ((r % 2) = 1) rfl (fun hc5 => ?_) (fun hc5 => ?_)
    ·
      skip
      refine Swp.region rfl ?_
      refine Rl.op (OpY.move (v := (Value.int .u64 (((r / 2) : Nat) : Int))) rfl ?_)
      refine Rl.op (OpY.xor (x := (r / 2)) (y := 14514072000185962306) rfl rfl (wq_u64 rfl ((Nat.lt_of_le_of_lt (Nat.div_le_self _ _) (hr)))) (wq_u64 rfl ((by decide))) ?_)
      refine Rl.op (OpY.assign (v := (Value.int .u64 ((((r / 2) ^^^ 14514072000185962306) : Nat) : Int))) rfl ?_)
      refine Rl.nil ?_
      refine Swp.pop_blk ?_
      refine Swp.region rfl ?_
      refine Rl.op (OpY.move (v := (Value.int .i64 ((i : Nat) : Int))) rfl ?_)
      refine Rl.op (OpY.add (x := ((i : Nat) : Int)) (y := ((1 : Nat) : Int)) (z := (((i + 1) : Nat) : Int)) rfl rfl (wq_i64 (by omega) (by omega) (by omega)) ?_)
      refine Rl.op (OpY.assign (v := (Value.int .i64 (((i + 1) : Nat) : Int))) rfl ?_)
      refine Rl.nil ?_
      refine Swp.pop_back ⟨(((i + 1)), (((r / 2) ^^^ 14514072000185962306))), ⟨rfl, ?_, ?_, ?_, trivial⟩, ?_, ⟨rfl, rfl, trivial⟩, ?_⟩
      · show ((i + 1)) ≤ 8
        omega
      · show (((r / 2) ^^^ 14514072000185962306)) < 18446744073709551616
        exact ((Nat.xor_lt_two_pow (n := 64) ((Nat.lt_of_le_of_lt (Nat.div_le_self _ _) (hr))) ((by decide))))
      · show (((r / 2) ^^^ 14514072000185962306)) = rounds ((i + 1)) (state ^^^ c)
        show _ = step1 (rounds _ _); rw [← hm]; unfold step1; first | rw [if_pos (by assumption)] | rw [if_neg (by assumption)]
      · show 8 - ((i + 1)) < 8 - i
        omega
      · repeat (first | exact agree_mix | exact agree_refl | refine agree_upd rfl ?_ | refine agree_mix2 rfl ?_)
    ·
      skip
      refine Swp.skip ?_
      refine Swp.pop_blk ?_
      refine Swp.region rfl ?_
      refine Rl.op (OpY.move (v := (Value.int .i64 ((i : Nat) : Int))) rfl ?_)
      refine Rl.op (OpY.add (x := ((i : Nat) : Int)) (y := ((1 : Nat) : Int)) (z := (((i + 1) : Nat) : Int)) rfl rfl (wq_i64 (by omega) (by omega) (by omega)) ?_)
      refine Rl.op (OpY.assign (v := (Value.int .i64 (((i + 1) : Nat) : Int))) rfl ?_)
      refine Rl.nil ?_
      refine Swp.pop_back ⟨(((i + 1)), ((r / 2))), ⟨rfl, ?_, ?_, ?_, trivial⟩, ?_, ⟨rfl, rfl, trivial⟩, ?_⟩
      · show ((i + 1)) ≤ 8
        omega
      · show ((r / 2)) < 18446744073709551616
        exact ((Nat.lt_of_le_of_lt (Nat.div_le_self _ _) (hr)))
      · show ((r / 2)) = rounds ((i + 1)) (state ^^^ c)
        show _ = step1 (rounds _ _); rw [← hm]; unfold step1; first | rw [if_pos (by assumption)] | rw [if_neg (by assumption)]
      · show 8 - ((i + 1)) < 8 - i
        omega
      · repeat (first | exact agree_mix | exact agree_refl | refine agree_upd rfl ?_ | refine agree_mix2 rfl ?_)
  ·
    skip
    refine Swp.exit rfl ?_
    refine Swp.seq ?_
    refine Swp.region rfl ?_
    refine Rl.op (OpY.move (v := (Value.int .u64 ((r : Nat) : Int))) rfl ?_)
    refine Rl.op (OpY.assign (v := (Value.int .u64 ((r : Nat) : Int))) rfl ?_)
    refine Rl.nil ?_
    refine Swp.ret ?_
    refine ⟨[(Value.int .u64 ((r : Nat) : Int))], ⟨rfl, trivial⟩, ?_, rfl⟩
    show Ending.returned (Value.int .u64 ((r : Nat) : Int)) = Ending.returned (Value.int .u64 ((turnN state c : Nat) : Int))
    obtain rfl : i = 8 := by omega
    rw [hm]; rfl
theorem rupdate_c (s : Nat) (s_lt : s < 18446744073709551616) (b_v : Value) (b : List (Nat)) (b_ok : ∀ x ∈ b, x < 256) (b_ln : b.length ≤ 1000000) (B : List (Option Nat)) (w : World) (hB : Bok B w) (h_b : Ints .u8 (view B w) b_v b)  :
    Calls Tryd.prog 16 #[(Value.int .u64 ((s : Nat) : Int)), b_v] w (RetQ w (Value.int .u64 ((crcN s b : Nat) : Int))) := by
  have hL := Loc.start hB
  refine calls_of (l := [(Value.int .u64 ((s : Nat) : Int)), b_v]) (rl := [.tmp 4]) (n := 23) Tryd.func16 rfl rfl rfl (by simp) ?_
  refine Swp.seq ?_
  refine Swp.region rfl ?_
  refine Rl.op (OpY.assign (v := (Value.int .u64 ((0 : Nat) : Int))) rfl ?_)
  refine Rl.nil ?_
  refine Swp.seq ?_
  refine Swp.region rfl ?_
  refine Rl.op (OpY.move (v := (Value.int .u64 ((s : Nat) : Int))) rfl ?_)
  refine Rl.op (OpY.xor_u64 (x := s) rfl (s_lt) ?_)
  refine Rl.op (OpY.assign (v := (Value.int .u64 (((18446744073709551615 - s) : Nat) : Int))) rfl ?_)
  refine Rl.nil ?_
  refine Swp.seq ?_
  refine Swp.seq ?_
  refine Swp.region rfl ?_
  refine Rl.op (OpY.assign (v := (Value.int .i64 ((0 : Nat) : Int))) rfl ?_)
  refine Rl.nil ?_
  refine Swp.block ?_
  refine Swp.loopS [5, 6, 9, 10, 11, 12, 13, 14, 15, 16, 17, 18, 19, 20] (σ := (Nat) × (Nat)) (fun ss => (fun (k : Nat) (r : Nat) => [(5, (Value.int .u64 ((r : Nat) : Int))), (6, (Value.int .i64 ((k : Nat) : Int)))]) ss.1 ss.2) (fun ss w' => (fun (k : Nat) (r : Nat) => w = w' ∧ (k ≤ b.length) ∧ (r < 18446744073709551616) ∧ (r = (b.take k).foldl turnN (18446744073709551615 - s)) ∧ True) ss.1 ss.2) (fun ss => (fun (k : Nat) (r : Nat) => b.length - k) ss.1 ss.2) ((0), ((18446744073709551615 - s))) ⟨rfl, (by omega), (by omega), (rfl), trivial⟩ ⟨rfl, rfl, trivial⟩ ?_
  rintro ⟨k, r⟩ e1 _ ⟨rfl, hk, hr, hm, -⟩
  replace hk : k ≤ b.length := hk
  replace hr : r < 18446744073709551616 := hr
  replace hm : r = (b.take k).foldl turnN (18446744073709551615 - s) := hm
  show Swp _ _ _ _ ((upd (upd (mix _ e1 _) 6 (Value.int .i64 ((k : Nat) : Int))) 5 (Value.int .u64 ((r : Nat) : Int)))) _
  refine Swp.seq ?_
  refine Swp.seq ?_
  refine Swp.region rfl ?_
  refine Rl.op (OpY.move (v := (Value.int .i64 ((k : Nat) : Int))) rfl ?_)
  refine Rl.op (OpY.move (v := b_v) rfl ?_)
  refine Rl.op (OpY.len_sl Tryd.underlying22 rfl h_b ?_)
  refine Rl.op (OpY.lss (x := ((k : Nat) : Int)) (y := ((b.length : Nat) : Int)) (k < b.length) rfl rfl (by omega) ?_)
  refine Rl.nil ?_
  refine Swp.cond_d (k < b.length) rfl (fun hc4 => ?_) (fun hc4 => ?_)
  ·
    skip
    refine Swp.skip ?_
    refine Swp.seq ?_
    refine Swp.block ?_
    refine Swp.region rfl ?_
    refine Rl.op (OpY.move (v := (Value.int .u64 ((r : Nat) : Int))) rfl ?_)
    refine Rl.op (OpY.move (v := b_v) rfl ?_)
    refine Rl.op (OpY.move (v := (Value.int .i64 ((k : Nat) : Int))) rfl ?_)
    refine Rl.op (OpY.indexAddr_sl (i := k) Tryd.underlying22 ti5 rfl h_b rfl (by omega) ?_)
    rintro b5 o6 vs7 hn8 ha9 he10
    obtain rfl := Ints.elem he10
    refine Rl.op (OpY.load_at (v := (Value.int .u8 (((b.getD (k) 0) : Nat) : Int))) Tryd.underlying5 rfl rfl (cellH_of_at ha9 rfl) ?_)
    refine Rl.op (OpY.callq (v := (Value.int .u64 ((turnN (r) ((b.getD (k) 0)) : Nat) : Int))) en23 rfl rfl (turn_c (r) (hr) ((b.getD (k) 0)) ((getD_lt b_ok (by decide) _)) ([] ++ B) _ hL.bokO  ) ?_)
    refine Rl.op (OpY.assign (v := (Value.int .u64 ((turnN (r) ((b.getD (k) 0)) : Nat) : Int))) rfl ?_)
    refine Rl.nil ?_
    refine Swp.pop_blk ?_
    refine Swp.region rfl ?_
    refine Rl.op (OpY.move (v := (Value.int .i64 ((k : Nat) : Int))) rfl ?_)
    refine Rl.op (OpY.add (x := ((k : Nat) : Int)) (y := ((1 : Nat) : Int)) (z := (((k + 1) : Nat) : Int)) rfl rfl (wq_i64 (by omega) (by omega) (by omega)) ?_)
    refine Rl.op (OpY.assign (v := (Value.int .i64 (((k + 1) : Nat) : Int))) rfl ?_)
    refine Rl.nil ?_
    refine Swp.pop_back ⟨(((k + 1)), (turnN (r) ((b.getD (k) 0)))), ⟨rfl, ?_, ?_, ?_, trivial⟩, ?_, ⟨rfl, rfl, trivial⟩, ?_⟩
    · show ((k + 1)) ≤ b.length
      omega
    · show (turnN (r) ((b.getD (k) 0))) < 18446744073709551616
      exact turnN_lt hr (getD_lt b_ok (by decide) _)
    · show (turnN (r) ((b.getD (k) 0))) = (b.take ((k + 1))).foldl turnN (18446744073709551615 - s)
      rw [foldl_take_succ _ _ _ _ (by assumption), ← hm]
    · show b.length - ((k + 1)) < b.length - k
      omega
    · repeat (first | exact agree_mix | exact agree_refl | refine agree_upd rfl ?_ | refine agree_mix2 rfl ?_)
  ·
    skip
    refine Swp.exit rfl ?_
    refine Swp.seq ?_
    refine Swp.region rfl ?_
    refine Rl.op (OpY.move (v := (Value.int .u64 ((r : Nat) : Int))) rfl ?_)
    refine Rl.op (OpY.xor_u64 (x := r) rfl (hr) ?_)
    refine Rl.op (OpY.assign (v := (Value.int .u64 (((18446744073709551615 - r) : Nat) : Int))) rfl ?_)
    refine Rl.nil ?_
    refine Swp.ret ?_
    refine ⟨[(Value.int .u64 (((18446744073709551615 - r) : Nat) : Int))], ⟨rfl, trivial⟩, ?_, rfl⟩
    show Ending.returned (Value.int .u64 (((18446744073709551615 - r) : Nat) : Int)) = Ending.returned (Value.int .u64 ((crcN s b : Nat) : Int))
    obtain rfl : k = b.length := by omega
    rw [hm, List.take_length]; rfl
theorem update_c (s : Nat) (s_lt : s < 18446744073709551616) (b_v : Value) (b : List (Nat)) (b_ok : ∀ x ∈ b, x < 256) (b_ln : b.length ≤ 1000000) (B : List (Option Nat)) (w : World) (hB : Bok B w) (h_b : Ints .u8 (view B w) b_v b)  :
    Calls Tryd.prog 15 #[(Value.int .u64 ((s : Nat) : Int)), b_v] w (RetQ w (Value.int .u64 ((crcN s b : Nat) : Int))) := by
  have hL := Loc.start hB
  refine calls_of (l := [(Value.int .u64 ((s : Nat) : Int)), b_v]) (rl := [.tmp 4]) (n := 35) Tryd.func15 rfl rfl rfl (by simp) ?_
  refine Swp.seq ?_
  refine Swp.region rfl ?_
  refine Rl.op (OpY.assign (v := (Value.int .u64 ((0 : Nat) : Int))) rfl ?_)
  refine Rl.nil ?_
  refine Swp.seq ?_
  refine Swp.region rfl ?_
  refine Rl.op (OpY.move (v := (Value.int .u64 ((s : Nat) : Int))) rfl ?_)
  refine Rl.op (OpY.xor_u64 (x := s) rfl (s_lt) ?_)
  refine Rl.op (OpY.assign (v := (Value.int .u64 (((18446744073709551615 - s) : Nat) : Int))) rfl ?_)
  refine Rl.nil ?_
  refine Swp.seq ?_
  refine Swp.seq ?_
  refine Swp.region rfl ?_
  refine Rl.op (OpY.move (v := b_v) rfl ?_)
  refine Rl.op (OpY.len_sl Tryd.underlying22 rfl h_b ?_)
  refine Rl.op (OpY.move (v := (Value.int .i64 ((0 : Nat) : Int))) rfl ?_)
  refine Rl.nil ?_
  refine Swp.block ?_
  refine Swp.loopS [5, 7, 8, 13, 14, 15, 16, 17, 18, 19, 20, 21, 22, 23, 24, 25, 26, 27, 28, 29, 30, 31, 32] (σ := (Nat) × (Nat)) (fun ss => (fun (k : Nat) (r : Nat) => [(5, (Value.int .u64 ((r : Nat) : Int))), (13, (Value.int .i64 ((k : Nat) : Int)))]) ss.1 ss.2) (fun ss w' => (fun (k : Nat) (r : Nat) => w = w' ∧ (k ≤ b.length) ∧ (r < 18446744073709551616) ∧ (r = (b.take k).foldl turnN (18446744073709551615 - s)) ∧ True) ss.1 ss.2) (fun ss => (fun (k : Nat) (r : Nat) => b.length - k) ss.1 ss.2) ((0), ((18446744073709551615 - s))) ⟨rfl, (by omega), (by omega), (rfl), trivial⟩ ⟨rfl, rfl, trivial⟩ ?_
  rintro ⟨k, r⟩ e1 _ ⟨rfl, hk, hr, hm, -⟩
  replace hk : k ≤ b.length := hk
  replace hr : r < 18446744073709551616 := hr
  replace hm : r = (b.take k).foldl turnN (18446744073709551615 - s) := hm
  show Swp _ _ _ _ ((upd (upd (mix _ e1 _) 13 (Value.int .i64 ((k : Nat) : Int))) 5 (Value.int .u64 ((r : Nat) : Int)))) _
  refine Swp.seq ?_
  refine Swp.region rfl ?_
  refine Rl.op (OpY.lss (x := ((k : Nat) : Int)) (y := ((b.length : Nat) : Int)) (k < b.length) rfl rfl (by omega) ?_)
  refine Rl.nil ?_
  refine Swp.seq ?_
  refine Swp.cond_d (k < b.length) rfl (fun hc4 => ?_) (fun hc4 => ?_)
  ·
    skip
    refine Swp.skip ?_
    refine Swp.seq ?_
    refine Swp.block ?_
    refine Swp.seq ?_
    refine Swp.region rfl ?_
    refine Rl.op (OpY.indexAddr_sl (i := k) Tryd.underlying22 ti5 rfl h_b rfl (by omega) ?_)
    rintro b5 o6 vs7 hn8 ha9 he10
    obtain rfl := Ints.elem he10
    refine Rl.op (OpY.load_at (v := (Value.int .u8 (((b.getD (k) 0) : Nat) : Int))) Tryd.underlying5 rfl rfl (cellH_of_at ha9 rfl) ?_)
    refine Rl.op (OpY.assign (v := (Value.int .u8 (((b.getD (k) 0) : Nat) : Int))) rfl ?_)
    refine Rl.nil ?_
    refine Swp.seq ?_
    refine Swp.region rfl ?_
    refine Rl.op (OpY.move (v := (Value.int .u64 ((r : Nat) : Int))) rfl ?_)
    refine Rl.op (OpY.move (v := (Value.int .u8 (((b.getD (k) 0) : Nat) : Int))) rfl ?_)
    refine Rl.op (OpY.convInt (x := (((b.getD (k) 0) : Nat) : Int)) (z := (((b.getD (k) 0) : Nat) : Int)) Tryd.underlying5 Tryd.underlying24 rfl (wq_u64 rfl (Nat.lt_of_lt_of_le ((getD_lt b_ok (by decide) _)) (by decide))) ?_)
    refine Rl.op (OpY.xor (x := r) (y := (b.getD (k) 0)) rfl rfl (wq_u64 rfl (hr)) (wq_u64 rfl ((Nat.lt_of_lt_of_le ((getD_lt b_ok (by decide) _)) (by decide)))) ?_)
    refine Rl.op (OpY.assign (v := (Value.int .u64 (((r ^^^ (b.getD (k) 0)) : Nat) : Int))) rfl ?_)
    refine Rl.nil ?_
    refine Swp.seq ?_
    refine Swp.region rfl ?_
    refine Rl.op (OpY.move (v := (Value.int .i64 ((0 : Nat) : Int))) rfl ?_)
    refine Rl.nil ?_
    refine Swp.block ?_
    refine Swp.loopS [5, 8, 21, 22, 23, 24, 25, 26, 27, 28, 29, 30, 31] (σ := (Nat) × (Nat)) (fun ss => (fun (i : Nat) (r2 : Nat) => [(5, (Value.int .u64 ((r2 : Nat) : Int))), (21, (Value.int .i64 ((i : Nat) : Int)))]) ss.1 ss.2) (fun ss w' => (fun (i : Nat) (r2 : Nat) => w = w' ∧ (i ≤ 8) ∧ (r2 < 18446744073709551616) ∧ (r2 = rounds i (r ^^^ b.getD k 0)) ∧ True) ss.1 ss.2) (fun ss => (fun (i : Nat) (r2 : Nat) => 8 - i) ss.1 ss.2) ((0), ((r ^^^ (b.getD (k) 0)))) ⟨rfl, (by omega), (Nat.xor_lt_two_pow (n := 64) hr (Nat.lt_trans (getD_lt b_ok (by decide) _) (by decide))), (rfl), trivial⟩ ⟨rfl, rfl, trivial⟩ ?_
    rintro ⟨i, r2⟩ e11 _ ⟨rfl, hi, hr2, hm2, -⟩
    replace hi : i ≤ 8 := hi
    replace hr2 : r2 < 18446744073709551616 := hr2
    replace hm2 : r2 = rounds i (r ^^^ b.getD k 0) := hm2
    show Swp _ _ _ _ ((upd (upd (mix _ e11 _) 21 (Value.int .i64 ((i : Nat) : Int))) 5 (Value.int .u64 ((r2 : Nat) : Int)))) _
    refine Swp.seq ?_
    refine Swp.region rfl ?_
    refine Rl.op (OpY.lss (x := ((i : Nat) : Int)) (y := ((8 : Nat) : Int)) (i < 8) rfl rfl (by omega) ?_)
    refine Rl.nil ?_
    refine Swp.seq ?_
    refine Swp.cond_d (i < 8) rfl (fun hc14 => ?_) (fun hc14 => ?_)
    ·
      skip
      refine Swp.skip ?_
      refine Swp.seq ?_
      refine Swp.block ?_
      refine Swp.seq ?_
      refine Swp.region rfl ?_
      refine Rl.op (OpY.move (v := (Value.int .u64 ((r2 : Nat) : Int))) rfl ?_)
      refine Rl.op (OpY.and (x := r2) (y := 1) rfl rfl (wq_u64 rfl (hr2)) (wq_u64 rfl ((by decide))) ?_)
      refine Rl.op (OpY.assign (v := (Value.int .u64 (((r2 &&& 1) : Nat) : Int))) rfl ?_)
      refine Rl.nil ?_
      refine Swp.seq ?_
      refine Swp.region rfl ?_
      refine Rl.op (OpY.move (v := (Value.int .u64 ((r2 : Nat) : Int))) rfl ?_)
      refine Rl.op (OpY.shr (x := r2) (s := 1) (q := (r2 / 2)) rfl rfl (by decide) rfl ?_)
      refine Rl.op (OpY.assign (v := (Value.int .u64 (((r2 / 2) : Nat) : Int))) rfl ?_)
      refine Rl.nil ?_
      refine Swp.seq ?_
      refine Swp.region rfl ?_
      refine Rl.op (OpY.move (v := (Value.int .u64 (((r2 &&& 1) : Nat) : Int))) rfl ?_)
      refine Rl.op (OpY.eql (x := (((r2 &&& 1) : Nat) : Int)) (y := ((1 : Nat) : Int)) ((r2 &&& 1) = 1) rfl rfl (by omega) ?_)
      refine Rl.nil ?_
      refine Swp.cond_d ((r2 &&& 1) = 1) rfl (fun hc15 => ?_) (fun hc15 => ?_)
      ·
        skip
        refine Swp.region rfl ?_
        refine Rl.op (OpY.move (v := (Value.int .u64 (((r2 / 2) : Nat) : Int))) rfl ?_)
        refine Rl.op (OpY.xor (x := (r2 / 2)) (y := 14514072000185962306) rfl rfl (wq_u64 rfl ((Nat.lt_of_le_of_lt (Nat.div_le_self _ _) (hr2)))) (wq_u64 rfl ((by decide))) ?_)
        refine Rl.op (OpY.assign (v := (Value.int .u64 ((((r2 / 2) ^^^ 14514072000185962306) : Nat) : Int))) rfl ?_)
        refine Rl.nil ?_
        refine Swp.pop_blk ?_
        refine Swp.region rfl ?_
        refine Rl.op (OpY.add (x := ((i : Nat) : Int)) (y := ((1 : Nat) : Int)) (z := (((i + 1) : Nat) : Int)) rfl rfl (wq_i64 (by omega) (by omega) (by omega)) ?_)
        refine Rl.op (OpY.move (v := (Value.int .i64 (((i + 1) : Nat) : Int))) rfl ?_)
        refine Rl.nil ?_
        refine Swp.pop_back ⟨(((i + 1)), (((r2 / 2) ^^^ 14514072000185962306))), ⟨rfl, ?_, ?_, ?_, trivial⟩, ?_, ⟨rfl, rfl, trivial⟩, ?_⟩
        · show ((i + 1)) ≤ 8
          omega
        · show (((r2 / 2) ^^^ 14514072000185962306)) < 18446744073709551616
          exact ((Nat.xor_lt_two_pow (n := 64) ((Nat.lt_of_le_of_lt (Nat.div_le_self _ _) (hr2))) ((by decide))))
        · show (((r2 / 2) ^^^ 14514072000185962306)) = rounds ((i + 1)) (r ^^^ b.getD k 0)
          show _ = step1 (rounds _ _); rw [← hm2]; unfold step1; simp only [Nat.and_one_is_mod] at *; first | rw [if_pos (by assumption)] | rw [if_neg (by assumption)]
        · show 8 - ((i + 1)) < 8 - i
          omega
        · repeat (first | exact agree_mix | exact agree_refl | refine agree_upd rfl ?_ | refine agree_mix2 rfl ?_)
      ·
        skip
        refine Swp.skip ?_
        refine Swp.pop_blk ?_
        refine Swp.region rfl ?_
        refine Rl.op (OpY.add (x := ((i : Nat) : Int)) (y := ((1 : Nat) : Int)) (z := (((i + 1) : Nat) : Int)) rfl rfl (wq_i64 (by omega) (by omega) (by omega)) ?_)
        refine Rl.op (OpY.move (v := (Value.int .i64 (((i + 1) : Nat) : Int))) rfl ?_)
        refine Rl.nil ?_
        refine Swp.pop_back ⟨(((i + 1)), ((r2 / 2))), ⟨rfl, ?_, ?_, ?_, trivial⟩, ?_, ⟨rfl, rfl, trivial⟩, ?_⟩
        · show ((i + 1)) ≤ 8
          omega
        · show ((r2 / 2)) < 18446744073709551616
          exact ((Nat.lt_of_le_of_lt (Nat.div_le_self _ _) (hr2)))
        · show ((r2 / 2)) = rounds ((i + 1)) (r ^^^ b.getD k 0)
          show _ = step1 (rounds _ _); rw [← hm2]; unfold step1; simp only [Nat.and_one_is_mod] at *; first | rw [if_pos (by assumption)] | rw [if_neg (by assumption)]
        · show 8 - ((i + 1)) < 8 - i
          omega
        · repeat (first | exact agree_mix | exact agree_refl | refine agree_upd rfl ?_ | refine agree_mix2 rfl ?_)
    ·
      skip
      refine Swp.exit rfl ?_
      refine Swp.pop_blk ?_
      refine Swp.region rfl ?_
      refine Rl.op (OpY.add (x := ((k : Nat) : Int)) (y := ((1 : Nat) : Int)) (z := (((k + 1) : Nat) : Int)) rfl rfl (wq_i64 (by omega) (by omega) (by omega)) ?_)
      refine Rl.op (OpY.move (v := (Value.int .i64 (((k + 1) : Nat) : Int))) rfl ?_)
      refine Rl.nil ?_
      refine Swp.pop_back ⟨(((k + 1)), (r2)), ⟨rfl, ?_, ?_, ?_, trivial⟩, ?_, ⟨rfl, rfl, trivial⟩, ?_⟩
      · show ((k + 1)) ≤ b.length
        omega
      · show (r2) < 18446744073709551616
        assumption
      · show (r2) = (b.take ((k + 1))).foldl turnN (18446744073709551615 - s)
        obtain rfl : i = 8 := by omega
        rw [foldl_take_succ _ _ _ _ (by assumption), ← hm]; exact hm2
      · show b.length - ((k + 1)) < b.length - k
        omega
      · repeat (first | exact agree_mix | exact agree_refl | refine agree_upd rfl ?_ | refine agree_mix2 rfl ?_)
  ·
    skip
    refine Swp.exit rfl ?_
    refine Swp.seq ?_
    refine Swp.region rfl ?_
    refine Rl.op (OpY.move (v := (Value.int .u64 ((r : Nat) : Int))) rfl ?_)
    refine Rl.op (OpY.xor_u64 (x := r) rfl (hr) ?_)
    refine Rl.op (OpY.assign (v := (Value.int .u64 (((18446744073709551615 - r) : Nat) : Int))) rfl ?_)
    refine Rl.nil ?_
    refine Swp.ret ?_
    refine ⟨[(Value.int .u64 (((18446744073709551615 - r) : Nat) : Int))], ⟨rfl, trivial⟩, ?_, rfl⟩
    show Ending.returned (Value.int .u64 (((18446744073709551615 - r) : Nat) : Int)) = Ending.returned (Value.int .u64 ((crcN s b : Nat) : Int))
    obtain rfl : k = b.length := by omega
    rw [hm, List.take_length]; rfl
theorem rsum_c (b_v : Value) (b : List (Nat)) (b_ok : ∀ x ∈ b, x < 256) (b_ln : b.length ≤ 1000000) (B : List (Option Nat)) (w : World) (hB : Bok B w) (h_b : Ints .u8 (view B w) b_v b)  :
    Calls Tryd.prog 14 #[b_v] w (RetQ w (Value.int .u64 ((crcN 0 b : Nat) : Int))) := by
  have hL := Loc.start hB
  refine calls_of (l := [b_v]) (rl := [.tmp 2]) (n := 5) Tryd.func14 rfl rfl rfl (by simp) ?_
  refine Swp.seq ?_
  refine Swp.region rfl ?_
  refine Rl.op (OpY.assign (v := (Value.int .u64 ((0 : Nat) : Int))) rfl ?_)
  refine Rl.nil ?_
  refine Swp.seq ?_
  refine Swp.region rfl ?_
  refine Rl.op (OpY.move (v := b_v) rfl ?_)
  refine Rl.op (OpY.callq (v := (Value.int .u64 ((crcN (0) (b) : Nat) : Int))) en16 rfl rfl (rupdate_c (0) ((by decide)) b_v (b) (b_ok) (by first | assumption | omega | (simp; done) | (simp; omega)) ([] ++ B) _ hL.bokO h_b ) ?_)
  refine Rl.op (OpY.assign (v := (Value.int .u64 ((crcN (0) (b) : Nat) : Int))) rfl ?_)
  refine Rl.nil ?_
  refine Swp.ret ?_
  refine ⟨[(Value.int .u64 ((crcN (0) (b) : Nat) : Int))], ⟨rfl, trivial⟩, ?_, rfl⟩
  show Ending.returned (Value.int .u64 ((crcN (0) (b) : Nat) : Int)) = Ending.returned (Value.int .u64 ((crcN 0 b : Nat) : Int))
  rfl
theorem csum_c (b_v : Value) (b : List (Nat)) (b_ok : ∀ x ∈ b, x < 256) (b_ln : b.length ≤ 1000000) (B : List (Option Nat)) (w : World) (hB : Bok B w) (h_b : Ints .u8 (view B w) b_v b)  :
    Calls Tryd.prog 12 #[b_v] w (RetQ w (Value.int .u64 ((crcN 0 b : Nat) : Int))) := by
  have hL := Loc.start hB
  refine calls_of (l := [b_v]) (rl := [.tmp 2]) (n := 5) Tryd.func12 rfl rfl rfl (by simp) ?_
  refine Swp.seq ?_
  refine Swp.region rfl ?_
  refine Rl.op (OpY.assign (v := (Value.int .u64 ((0 : Nat) : Int))) rfl ?_)
  refine Rl.nil ?_
  refine Swp.seq ?_
  refine Swp.region rfl ?_
  refine Rl.op (OpY.move (v := b_v) rfl ?_)
  refine Rl.op (OpY.callq (v := (Value.int .u64 ((crcN (0) (b) : Nat) : Int))) en15 rfl rfl (update_c (0) ((by decide)) b_v (b) (b_ok) (by first | assumption | omega | (simp; done) | (simp; omega)) ([] ++ B) _ hL.bokO h_b ) ?_)
  refine Rl.op (OpY.assign (v := (Value.int .u64 ((crcN (0) (b) : Nat) : Int))) rfl ?_)
  refine Rl.nil ?_
  refine Swp.ret ?_
  refine ⟨[(Value.int .u64 ((crcN (0) (b) : Nat) : Int))], ⟨rfl, trivial⟩, ?_, rfl⟩
  show Ending.returned (Value.int .u64 ((crcN (0) (b) : Nat) : Int)) = Ending.returned (Value.int .u64 ((crcN 0 b : Nat) : Int))
  rfl
theorem cp_c (b_v : Value) (b : List (Nat)) (b_ok : ∀ x ∈ b, x < 256) (b_ln : b.length ≤ 1000000) (B : List (Option Nat)) (w : World) (hB : Bok B w) (h_b : Ints .u8 (view B w) b_v b)  :
    Calls Tryd.prog 13 #[b_v] w (Ret w (fun r w' => ∃ r0 : Value, r0 = r ∧ HandsInts .u8 w w' r0 (b))) := by
  have hL := Loc.start hB
  refine calls_of (l := [b_v]) (rl := [.tmp 2]) (n := 6) Tryd.func13 rfl rfl rfl (by simp) ?_
  refine Swp.seq ?_
  refine Swp.region rfl ?_
  refine Rl.op (OpY.assign (v := (Value.slice none 0 0)) rfl ?_)
  refine Rl.nil ?_
  refine Swp.seq ?_
  refine Swp.region rfl ?_
  refine Rl.op (OpY.buildSlice0 Tryd.underlying22 ti5 hL ?_)
  intro b1 w2 hL3 hS4
  replace h_b := h_b.mono (hS4.le B)
  clear hL hS4
  replace hL3 : X.Loc [] B w w2 [some b1] [.cells (ints .u8 ([]) ++ ([]))] := hL3
  refine Rl.op (OpY.move (v := b_v) rfl ?_)
  refine Rl.op (OpY.append (n := 0) (cap := 0) (m := b.length) (i := 0) (ob := some b1) (xs := ints .u8 ([])) (sp := []) (news := ints .u8 (b)) Tryd.underlying22 ti5 rfl (by decide) rfl rfl hL3 rfl rfl (by simp [ints_length]) (by simp [ints_length]) (Src.ints h_b) (ones_ints _ _) (by first | omega | (simp; omega)) (by first | omega | (simp; omega)) ?_)
  intro ob5 cap6 sp7 w8 hcap9 hL10 hS11
  replace h_b := h_b.mono (hS11.le B)
  clear hL3 hS11
  rw [ints_append] at hcap9
  rw [List.nil_append] at hcap9
  replace hcap9 : (ints .u8 (b) ++ sp7).length = cap6 * 1 := hcap9
  simp only [List.set, ints_append, List.nil_append] at hL10
  replace hL10 : X.Loc [] B w w8 [ob5] [.cells (ints .u8 (b) ++ (sp7))] := hL10
  refine Rl.op (OpY.assign (v := (sv ob5 ((0 + b.length)) (cap6))) rfl ?_)
  refine Rl.nil ?_
  refine Swp.ret ?_
  refine ⟨[(sv ob5 ((0 + b.length)) (cap6))], ⟨rfl, trivial⟩, ?_⟩
  refine ⟨_, rfl, hL10.done, ?_⟩
  refine ⟨(sv ob5 ((0 + b.length)) (cap6)), ?_, ?_⟩
  · rfl
  ·
    have hq : b = b := by rfl
    rw [← hq]
    exact hL10.hands 0 rfl rfl (by simp) (by rw [hcap9, Nat.mul_one])
theorem clone_c (b_v : Value) (b : List (Nat)) (b_ok : ∀ x ∈ b, x < 256) (b_ln : b.length ≤ 1000000) (B : List (Option Nat)) (w : World) (hB : Bok B w) (h_b : Ints .u8 (view B w) b_v b)  :
    Calls Tryd.prog 24 #[b_v] w (Ret w (fun r w' => ∃ r0 : Value, r0 = r ∧ HandsInts .u8 w w' r0 (b))) := by
  have hL := Loc.start hB
  refine calls_of (l := [b_v]) (rl := [.tmp 2]) (n := 8) Tryd.func24 rfl rfl rfl (by simp) ?_
  refine Swp.seq ?_
  refine Swp.region rfl ?_
  refine Rl.op (OpY.assign (v := (Value.slice none 0 0)) rfl ?_)
  refine Rl.nil ?_
  refine Swp.seq ?_
  refine Swp.seq ?_
  refine Swp.region rfl ?_
  refine Rl.op (OpY.move (v := b_v) rfl ?_)
  refine Rl.op (OpY.eqlNil (v := b_v) Tryd.underlying22 rfl (Sl.isSlice h_b) rfl ?_)
  refine Rl.nil ?_
  refine Swp.cond (isNil b_v) rfl (fun hc1 => ?_) (fun hc1 => ?_)
  ·
    skip
    refine Swp.seq ?_
    refine Swp.region rfl ?_
    refine Rl.op (OpY.assign (v := (Value.slice none 0 0)) rfl ?_)
    refine Rl.nil ?_
    refine Swp.ret ?_
    refine ⟨[(Value.slice none 0 0)], ⟨rfl, trivial⟩, ?_⟩
    refine ⟨_, rfl, hL.done, ?_⟩
    refine ⟨(Value.slice none 0 0), ?_, ?_⟩
    · rfl
    ·
      have hq : ([] : List Nat) = b := by (exact (Sl.of_isNil h_b (by assumption)).1.symm)
      rw [← hq]
      exact ⟨none, 0, [], rfl, (fun _ h => by cases h), rfl, rfl⟩
  ·
    skip
    refine Swp.skip ?_
    refine Swp.seq ?_
    refine Swp.region rfl ?_
    refine Rl.op (OpY.buildSlice0 Tryd.underlying22 ti5 hL ?_)
    intro b2 w3 hL4 hS5
    replace h_b := h_b.mono (hS5.le B)
    clear hL hS5
    replace hL4 : X.Loc [] B w w3 [some b2] [.cells (ints .u8 ([]) ++ ([]))] := hL4
    refine Rl.op (OpY.move (v := b_v) rfl ?_)
    refine Rl.op (OpY.append (n := 0) (cap := 0) (m := b.length) (i := 0) (ob := some b2) (xs := ints .u8 ([])) (sp := []) (news := ints .u8 (b)) Tryd.underlying22 ti5 rfl (by decide) rfl rfl hL4 rfl rfl (by simp [ints_length]) (by simp [ints_length]) (Src.ints h_b) (ones_ints _ _) (by first | omega | (simp; omega)) (by first | omega | (simp; omega)) ?_)
    intro ob6 cap7 sp8 w9 hcap10 hL11 hS12
    replace h_b := h_b.mono (hS12.le B)
    clear hL4 hS12
    rw [ints_append] at hcap10
    rw [List.nil_append] at hcap10
    replace hcap10 : (ints .u8 (b) ++ sp8).length = cap7 * 1 := hcap10
    simp only [List.set, ints_append, List.nil_append] at hL11
    replace hL11 : X.Loc [] B w w9 [ob6] [.cells (ints .u8 (b) ++ (sp8))] := hL11
    refine Rl.op (OpY.assign (v := (sv ob6 ((0 + b.length)) (cap7))) rfl ?_)
    refine Rl.nil ?_
    refine Swp.ret ?_
    refine ⟨[(sv ob6 ((0 + b.length)) (cap7))], ⟨rfl, trivial⟩, ?_⟩
    refine ⟨_, rfl, hL11.done, ?_⟩
    refine ⟨(sv ob6 ((0 + b.length)) (cap7)), ?_, ?_⟩
    · rfl
    ·
      have hq : b = b := by rfl
      rw [← hq]
      exact hL11.hands 0 rfl rfl (by simp) (by rw [hcap10, Nat.mul_one])
theorem encode_c (sum : Nat) (sum_lt : sum < 18446744073709551616) (B : List (Option Nat)) (w : World) (hB : Bok B w)   :
    Calls Tryd.prog 25 #[(Value.int .u64 ((sum : Nat) : Int))] w (Ret w (fun r w' => ∃ r0 : Value, r0 = r ∧ Fr w w' (fun H => Ints .u8 H r0 (bytesN sum)))) := by
  have hL := Loc.start hB
  refine calls_of (l := [(Value.int .u64 ((sum : Nat) : Int))]) (rl := [.tmp 2]) (n := 21) Tryd.func25 rfl rfl rfl (by simp) ?_
  refine Swp.seq ?_
  refine Swp.region rfl ?_
  refine Rl.op (OpY.assign (v := (Value.slice none 0 0)) rfl ?_)
  refine Rl.nil ?_
  refine Swp.seq ?_
  refine Swp.region rfl ?_
  refine Rl.op (OpY.make (n := 8) Tryd.underlying22 ti5 rfl rfl rfl (by omega) (by omega) hL ?_)
  intro b1 w2 hL3 hS4
  clear hL hS4
  rw [show List.replicate (8) (Value.int .u8 0) = ints .u8 (List.replicate (8) 0) ++ [] by rw [List.append_nil]; exact ints_replicate .u8 _ 0] at hL3
  replace hL3 : X.Loc [] B w w2 [some b1] [.cells (ints .u8 (List.replicate (8) 0) ++ ([]))] := hL3
  refine Rl.op (OpY.assign (v := (Value.slice (some ⟨b1, 0, none⟩) (8) (8))) rfl ?_)
  refine Rl.nil ?_
  refine Swp.seq ?_
  refine Swp.seq ?_
  refine Swp.region rfl ?_
  refine Rl.op (OpY.move (v := (Value.slice (some ⟨b1, 0, none⟩) (8) (8))) rfl ?_)
  refine Rl.op (OpY.len_slice (n := 8) Tryd.underlying22 rfl ?_)
  refine Rl.op (OpY.move (v := (Value.int .i64 ((0 : Nat) : Int))) rfl ?_)
  refine Rl.nil ?_
  refine Swp.block ?_
  refine Swp.loopS [4, 8, 9, 10, 11, 12, 13, 14, 15, 16, 17, 18, 19] (σ := (Nat) × (List Nat)) (fun ss => (fun (k : Nat) (xs : List Nat) => [(8, (Value.int .i64 ((k : Nat) : Int)))]) ss.1 ss.2) (fun ss w' => (fun (k : Nat) (xs : List Nat) => X.Loc [] B w w' [some b1] [.cells (ints .u8 (xs) ++ ([]))] ∧ (k ≤ 8) ∧ (xs.length = 8) ∧ (xs.take k = (bytesN sum).take k) ∧ True) ss.1 ss.2) (fun ss => (fun (k : Nat) (xs : List Nat) => 8 - k) ss.1 ss.2) ((0), (List.replicate 8 0)) ⟨hL3, (by omega), (by simp), (by simp), trivial⟩ ⟨rfl, trivial⟩ ?_
  clear hL3
  rintro ⟨k, xs⟩ e5 w6 ⟨hL7, hk, hl, hm, -⟩
  replace hk : k ≤ 8 := hk
  replace hl : xs.length = 8 := hl
  replace hm : xs.take k = (bytesN sum).take k := hm
  show Swp _ _ _ _ ((upd (mix _ e5 _) 8 (Value.int .i64 ((k : Nat) : Int)))) w6
  refine Swp.seq ?_
  refine Swp.region rfl ?_
  refine Rl.op (OpY.lss (x := ((k : Nat) : Int)) (y := ((8 : Nat) : Int)) (k < 8) rfl rfl (by omega) ?_)
  refine Rl.nil ?_
  refine Swp.seq ?_
  refine Swp.cond_d (k < 8) rfl (fun hc8 => ?_) (fun hc8 => ?_)
  ·
    skip
    refine Swp.skip ?_
    refine Swp.seq ?_
    refine Swp.block ?_
    refine Swp.seq ?_
    refine Swp.region rfl ?_
    refine Rl.op (OpY.move (v := (Value.int .i64 ((k : Nat) : Int))) rfl ?_)
    refine Rl.op (OpY.assign (v := (Value.int .i64 ((k : Nat) : Int))) rfl ?_)
    refine Rl.nil ?_
    refine Swp.region rfl ?_
    refine Rl.op (OpY.move (v := (Value.slice (some ⟨b1, 0, none⟩) (8) (8))) rfl ?_)
    refine Rl.op (OpY.move (v := (Value.int .i64 ((k : Nat) : Int))) rfl ?_)
    refine Rl.op (OpY.move (v := (Value.int .u64 ((sum : Nat) : Int))) rfl ?_)
    refine Rl.op (OpY.move (v := (Value.int .i64 ((k : Nat) : Int))) rfl ?_)
    refine Rl.op (OpY.mul (x := ((8 : Nat) : Int)) (y := ((k : Nat) : Int)) (z := (((8 * k) : Nat) : Int)) rfl rfl (wq_i64 (by first | omega | exact (Int.natCast_mul _ _).symm) (by omega) (by omega)) ?_)
    refine Rl.op (OpY.shr (x := sum) (s := (8 * k)) (q := (sum / 2 ^ ((8 * k)))) rfl rfl (by simp only [IntKind.bits]; omega) rfl ?_)
    refine Rl.op (OpY.convInt (x := (((sum / 2 ^ ((8 * k))) : Nat) : Int)) (z := ((((sum / 2 ^ ((8 * k))) % 256) : Nat) : Int)) Tryd.underlying24 Tryd.underlying5 rfl (wm_u8 rfl) ?_)
    refine Rl.op (OpY.indexAddr (i := k) (q := k) Tryd.underlying22 ti5 rfl rfl (by omega) (by omega) ?_)
    refine Rl.op0 (OpY.store_ints (k := .u8) (j := k) (v := ((sum / 2 ^ ((8 * k))) % 256)) (xs := xs) (sp := []) ti5 rfl rfl hL7 0 rfl rfl (by omega) ?_)
    intro w9 hL10 hS11
    clear hL7 hS11
    replace hL10 : X.Loc [] B w w9 [some b1] [.cells (ints .u8 ((xs).set (k) (((sum / 2 ^ ((8 * k))) % 256))) ++ ([]))] := hL10
    refine Rl.nil ?_
    refine Swp.pop_blk ?_
    refine Swp.region rfl ?_
    refine Rl.op (OpY.add (x := ((k : Nat) : Int)) (y := ((1 : Nat) : Int)) (z := (((k + 1) : Nat) : Int)) rfl rfl (wq_i64 (by omega) (by omega) (by omega)) ?_)
    refine Rl.op (OpY.move (v := (Value.int .i64 (((k + 1) : Nat) : Int))) rfl ?_)
    refine Rl.nil ?_
    refine Swp.pop_back ⟨(((k + 1)), ((xs).set (k) (((sum / 2 ^ ((8 * k))) % 256)))), ⟨hL10, ?_, ?_, ?_, trivial⟩, ?_, ⟨rfl, trivial⟩, ?_⟩
    · show ((k + 1)) ≤ 8
      omega
    · show ((xs).set (k) (((sum / 2 ^ ((8 * k))) % 256))).length = 8
      simp [hl]
    · show ((xs).set (k) (((sum / 2 ^ ((8 * k))) % 256))).take ((k + 1)) = (bytesN sum).take ((k + 1))
      exact take_set_succ hm (by omega) (bytesN_get (by omega))
    · show 8 - ((k + 1)) < 8 - k
      omega
    · repeat (first | exact agree_mix | exact agree_refl | refine agree_upd rfl ?_ | refine agree_mix2 rfl ?_)
  ·
    skip
    refine Swp.exit rfl ?_
    refine Swp.seq ?_
    refine Swp.region rfl ?_
    refine Rl.op (OpY.move (v := (Value.slice (some ⟨b1, 0, none⟩) (8) (8))) rfl ?_)
    refine Rl.op (OpY.assign (v := (Value.slice (some ⟨b1, 0, none⟩) (8) (8))) rfl ?_)
    refine Rl.nil ?_
    refine Swp.ret ?_
    refine ⟨[(Value.slice (some ⟨b1, 0, none⟩) (8) (8))], ⟨rfl, trivial⟩, ?_⟩
    refine ⟨_, rfl, hL7.done, ?_⟩
    refine ⟨(Value.slice (some ⟨b1, 0, none⟩) (8) (8)), ?_, ?_⟩
    · rfl
    ·
      have hq : xs = bytesN sum := by (obtain rfl : k = 8 := (by omega); rw [List.take_of_length_le (by omega), List.take_of_length_le (by rw [bytesN_length]; omega)] at hm; exact hm)
      rw [← hq]
      exact hL7.intsN rfl 0 (ob := some b1) (n := 8) (cap := 8) rfl rfl (by first | omega | (simp; done) | (simp; omega)) (by simp [ints_length]; try omega)
theorem append_c (b_v : Value) (b : List (Nat)) (b_ok : ∀ x ∈ b, x < 256) (b_ln : b.length ≤ 1000000) (B : List (Option Nat)) (w : World) (hB : Bok B w) (h_b : Ints .u8 (view B w) b_v b)  :
    Calls Tryd.prog 17 #[b_v] w (Ret w (fun r w' => ∃ r0 : Value, r0 = r ∧ HandsInts .u8 w w' r0 (appN b))) := by
  have hL := Loc.start hB
  have hbl := bytesN_length (crcN 0 b)
  refine calls_of (l := [b_v]) (rl := [.tmp 2]) (n := 9) Tryd.func17 rfl rfl rfl (by simp) ?_
  refine Swp.seq ?_
  refine Swp.region rfl ?_
  refine Rl.op (OpY.assign (v := (Value.slice none 0 0)) rfl ?_)
  refine Rl.nil ?_
  refine Swp.seq ?_
  refine Swp.region rfl ?_
  refine Rl.op (OpY.move (v := b_v) rfl ?_)
  refine Rl.op (OpY.call en24 rfl rfl (clone_c b_v (b) (b_ok) (by first | assumption | omega | (simp; done) | (simp; omega)) ([] ++ B) _ hL.bokO h_b ) ?_)
  rintro r1 w2 hE3 ⟨_, rfl, ob4, cap5, sp6, rfl, hfr7, ho8, hcap9⟩
  have hL10 := (hL.adopt hE3 hfr7 ho8).1
  replace h_b := h_b.mono ((hL.adopt hE3 hfr7 ho8).2.le B)
  clear hL
  replace hcap9 : (ints .u8 ((b)) ++ sp6).length = cap5 * 1 := by rw [hcap9, Nat.mul_one]
  replace hL10 : X.Loc [] B w w2 [ob4] [.cells (ints .u8 ((b)) ++ (sp6))] := hL10
  refine Rl.op (OpY.move (v := b_v) rfl ?_)
  refine Rl.op (OpY.callq (v := (Value.int .u64 ((crcN 0 (b) : Nat) : Int))) en12 rfl rfl (csum_c b_v (b) (b_ok) (by first | assumption | omega | (simp; done) | (simp; omega)) ([ob4] ++ B) _ hL10.bokO h_b ) ?_)
  refine Rl.op (OpY.call en25 rfl rfl (encode_c (crcN 0 (b)) ((crcN_lt _ _)) ([ob4] ++ B) _ hL10.bokO  ) ?_)
  rintro r11 w12 hE13 ⟨r0_14, rfl, hr15⟩
  replace h_b := h_b.mono (hE13.le ([ob4] ++ B))
  have hf17 := Fr.atO hr15 hL10
  have hL16 := hL10.ext hE13
  refine Rl.op (OpY.append (n := ((b)).length) (cap := cap5) (m := (bytesN (crcN 0 (b))).length) (i := 0) (ob := ob4) (xs := ints .u8 ((b))) (sp := sp6) (news := ints .u8 ((bytesN (crcN 0 (b))))) Tryd.underlying22 ti5 rfl (by decide) rfl rfl hL16 rfl rfl (by simp [ints_length]) (hcap9) (Src.ints (hf17 B hB)) (ones_ints _ _) (by first | omega | (simp; omega)) (by first | omega | (simp; omega)) ?_)
  intro ob18 cap19 sp20 w21 hcap22 hL23 hS24
  replace h_b := h_b.mono (hS24.le B)
  replace hf17 := fun A hA => (hf17 A hA).mono (hS24.le A)
  clear hL16 hS24
  rw [ints_append] at hcap22
  replace hcap22 : (ints .u8 (((b)) ++ ((bytesN (crcN 0 (b))))) ++ sp20).length = cap19 * 1 := hcap22
  simp only [List.set, ints_append] at hL23
  replace hL23 : X.Loc [] B w w21 [ob18] [.cells (ints .u8 (((b)) ++ ((bytesN (crcN 0 (b))))) ++ (sp20))] := hL23
  refine Rl.op (OpY.assign (v := (sv ob18 (((b)).length + (bytesN (crcN 0 (b))).length) (cap19))) rfl ?_)
  refine Rl.nil ?_
  refine Swp.ret ?_
  refine ⟨[(sv ob18 (((b)).length + (bytesN (crcN 0 (b))).length) (cap19))], ⟨rfl, trivial⟩, ?_⟩
  refine ⟨_, rfl, hL23.done, ?_⟩
  refine ⟨(sv ob18 (((b)).length + (bytesN (crcN 0 (b))).length) (cap19)), ?_, ?_⟩
  · rfl
  ·
    have hq : ((b)) ++ ((bytesN (crcN 0 (b)))) = appN b := by rfl
    rw [← hq]
    exact hL23.hands 0 rfl rfl (by simp) (by rw [hcap22, Nat.mul_one])
theorem equal_c (a_v : Value) (a : List (Nat)) (a_ok : ∀ x ∈ a, x < 256) (a_ln : a.length ≤ 1000000) (b_v : Value) (b : List (Nat)) (b_ok : ∀ x ∈ b, x < 256) (b_ln : b.length ≤ 1000000) (B : List (Option Nat)) (w : World) (hB : Bok B w) (h_a : Ints .u8 (view B w) a_v a) (h_b : Ints .u8 (view B w) b_v b)  :
    Calls Tryd.prog 26 #[a_v, b_v] w (RetQ w (Value.bool (decide (a = b)))) := by
  have hL := Loc.start hB
  refine calls_of (l := [a_v, b_v]) (rl := [.tmp 4]) (n := 10) Tryd.func26 rfl rfl rfl (by simp) ?_
  refine Swp.seq ?_
  refine Swp.region rfl ?_
  refine Rl.op (OpY.assign (v := (Value.bool false)) rfl ?_)
  refine Rl.nil ?_
  refine Swp.seq ?_
  refine Swp.region rfl ?_
  refine Rl.op (OpY.move (v := a_v) rfl ?_)
  refine Rl.op (OpY.bytesToStr (v := a_v) (xs := a) Tryd.underlying22 Tryd.underlying5 Tryd.underlying9 rfl h_a ?_)
  refine Rl.op (OpY.move (v := b_v) rfl ?_)
  refine Rl.op (OpY.bytesToStr (v := b_v) (xs := b) Tryd.underlying22 Tryd.underlying5 Tryd.underlying9 rfl h_b ?_)
  refine Rl.op (OpY.strEql (x := a) (y := b) rfl rfl a_ok b_ok ?_)
  refine Rl.op (OpY.assign (v := (Value.bool (decide (a = b)))) rfl ?_)
  refine Rl.nil ?_
  refine Swp.ret ?_
  refine ⟨[(Value.bool (decide (a = b)))], ⟨rfl, trivial⟩, ?_, rfl⟩
  show Ending.returned (Value.bool (decide (a = b))) = Ending.returned (Value.bool (decide (a = b)))
  rfl
theorem check_c (b_v : Value) (b : List (Nat)) (b_ok : ∀ x ∈ b, x < 256) (b_ln : b.length ≤ 1000000) (B : List (Option Nat)) (w : World) (hB : Bok B w) (h_b : Ints .u8 (view B w) b_v b)  :
    Calls Tryd.prog 18 #[b_v] w (Ret w (fun r w' => ∃ r0 : Value, (Value.tuple #[r0, (Value.int .i64 ((checkN b).2 : Int))]) = r ∧ Fr w w' (fun H => Ints .u8 H r0 ((checkN b).1)))) := by
  have hL := Loc.start hB
  refine calls_of (l := [b_v]) (rl := [.tmp 2, .tmp 3]) (n := 24) Tryd.func18 rfl rfl rfl (by simp) ?_
  refine Swp.seq ?_
  refine Swp.region rfl ?_
  refine Rl.op (OpY.assign (v := (Value.slice none 0 0)) rfl ?_)
  refine Rl.op (OpY.assign (v := (Value.int .i64 ((0 : Nat) : Int))) rfl ?_)
  refine Rl.nil ?_
  refine Swp.seq ?_
  refine Swp.seq ?_
  refine Swp.region rfl ?_
  refine Rl.op (OpY.move (v := b_v) rfl ?_)
  refine Rl.op (OpY.len_sl Tryd.underlying22 rfl h_b ?_)
  refine Rl.op (OpY.lss (x := ((b.length : Nat) : Int)) (y := ((8 : Nat) : Int)) (b.length < 8) rfl rfl (by omega) ?_)
  refine Rl.nil ?_
  refine Swp.cond_d (b.length < 8) rfl (fun hc1 => ?_) (fun hc1 => ?_)
  ·
    skip
    refine Swp.seq ?_
    refine Swp.region rfl ?_
    refine Rl.op (OpY.assign (v := (Value.slice none 0 0)) rfl ?_)
    refine Rl.op (OpY.assign (v := (Value.int .i64 ((2 : Nat) : Int))) rfl ?_)
    refine Rl.nil ?_
    refine Swp.ret ?_
    refine ⟨[(Value.slice none 0 0), (Value.int .i64 ((2 : Nat) : Int))], ⟨rfl, ⟨rfl, trivial⟩⟩, ?_⟩
    refine ⟨_, rfl, hL.done, ?_⟩
    refine ⟨(Value.slice none 0 0), ?_, ?_⟩
    · rw [checkN_short (by assumption)]; rfl
    ·
      have hq : [] = (checkN b).1 := by (rw [checkN_short (by assumption)])
      rw [← hq]
      exact fun A hA => .inl ⟨⟨_, rfl⟩, rfl⟩
  ·
    skip
    refine Swp.skip ?_
    refine Swp.seq ?_
    refine Swp.region rfl ?_
    refine Rl.op (OpY.move (v := b_v) rfl ?_)
    refine Rl.op (OpY.move (v := b_v) rfl ?_)
    refine Rl.op (OpY.len_sl Tryd.underlying22 rfl h_b ?_)
    refine Rl.op (OpY.sub (x := ((b.length : Nat) : Int)) (y := ((8 : Nat) : Int)) (z := (((b.length - 8) : Nat) : Int)) rfl rfl (wq_i64 (by omega) (by omega) (by omega)) ?_)
    refine Rl.op (OpY.slice_sl (l := 0) (h := (b.length - 8)) Tryd.underlying22 ti5 rfl h_b (.inl ⟨rfl, rfl⟩) (.inr ⟨_, _, rfl, rfl⟩) (by first | omega | (simp; done) | (simp; omega)) (by first | omega | (simp; done) | (simp; omega)) ?_)
    intro v2 hcut3
    simp only [List.drop_zero] at hcut3
    have hf4 : Ints .u8 (view ([] ++ B) w) v2 ((b).take ((b.length - 8))) := hcut3 _ h_b
    clear hcut3
    refine Rl.op (OpY.assign (v := v2) rfl ?_)
    refine Rl.nil ?_
    refine Swp.seq ?_
    refine Swp.seq ?_
    refine Swp.draw 7 [.det v2, .det (Value.int .u64 ((crcN 0 (((b).take ((b.length - 8)))) : Nat) : Int)), .rel (fun v w' => ∃ r0_20 : Value, r0_20 = v ∧ (∀ A, Bok A w → Ints .u8 (view ([] ++ A) w') r0_20 (bytesN (crcN 0 (((b).take ((b.length - 8)))))))), .det b_v, .det v2, .det (Value.int .i64 ((((b).take ((b.length - 8))).length : Nat) : Int)), .rel (fun v w' => ∃ v42 : Value, v42 = v ∧ (Ints .u8 (view ([] ++ B) w') v42 ((b).drop (((b).take ((b.length - 8))).length))))] mixed rfl rfl (⟨fun v w w' hE => by rintro ⟨r0_20, rfl, k0⟩; exact ⟨r0_20, rfl, fun A hA => (k0 A hA).mono (hE.le _)⟩, ⟨fun v w w' hE => by rintro ⟨v42, rfl, k0⟩; exact ⟨v42, rfl, k0.mono (hE.le _)⟩, trivial⟩⟩) ?_
    intro w5 hE6
    replace h_b := h_b.mono (hE6.le ([] ++ B))
    replace hf4 := hf4.mono (hE6.le ([] ++ B))
    have hL7 := hL.ext hE6
    refine DrG.det ?_ ?_
    ·
      rintro w8 hE9 ⟨-⟩
      replace h_b := h_b.mono (hE9.le ([] ++ B))
      replace hf4 := hf4.mono (hE9.le ([] ++ B))
      have hL11 := hL7.ext hE9
      refine GOp.op (OpY.move (v := v2) rfl ?_)
      exact ⟨Ext.refl _, rfl⟩
    refine DrG.det ?_ ?_
    ·
      rintro w12 hE13 ⟨-⟩
      replace h_b := h_b.mono (hE13.le ([] ++ B))
      replace hf4 := hf4.mono (hE13.le ([] ++ B))
      have hL15 := hL7.ext hE13
      refine GOp.op (OpY.callq (v := (Value.int .u64 ((crcN 0 (((b).take ((b.length - 8)))) : Nat) : Int))) en12 rfl rfl (csum_c v2 (((b).take ((b.length - 8)))) ((ok_take b_ok)) (by first | assumption | omega | (simp; done) | (simp; omega)) ([] ++ B) _ hL15.bokO hf4 ) ?_)
      exact ⟨Ext.refl _, rfl⟩
    refine DrG.rel ?_ ?_
    ·
      rintro w16 hE17 ⟨-⟩
      replace h_b := h_b.mono (hE17.le ([] ++ B))
      replace hf4 := hf4.mono (hE17.le ([] ++ B))
      have hL19 := hL7.ext hE17
      refine GOp.op (OpY.call en25 rfl rfl (encode_c (crcN 0 (((b).take ((b.length - 8))))) ((crcN_lt _ _)) ([] ++ B) _ hL19.bokO  ) ?_)
      rintro r20 w21 hE22 ⟨r0_23, rfl, hr24⟩
      replace h_b := h_b.mono (hE22.le ([] ++ B))
      replace hf4 := hf4.mono (hE22.le ([] ++ B))
      have hf26 := Fr.atO hr24 hL19
      have hL25 := hL19.ext hE22
      exact ⟨hE22, r0_23, rfl, hf26⟩
    intro v27
    refine DrG.det ?_ ?_
    ·
      rintro w28 hE29 ⟨-, -⟩
      replace h_b := h_b.mono (hE29.le ([] ++ B))
      replace hf4 := hf4.mono (hE29.le ([] ++ B))
      have hL31 := hL7.ext hE29
      refine GOp.op (OpY.move (v := b_v) rfl ?_)
      exact ⟨Ext.refl _, rfl⟩
    refine DrG.det ?_ ?_
    ·
      rintro w32 hE33 ⟨-, -⟩
      replace h_b := h_b.mono (hE33.le ([] ++ B))
      replace hf4 := hf4.mono (hE33.le ([] ++ B))
      have hL35 := hL7.ext hE33
      refine GOp.op (OpY.move (v := v2) rfl ?_)
      exact ⟨Ext.refl _, rfl⟩
    refine DrG.det ?_ ?_
    ·
      rintro w36 hE37 ⟨-, -⟩
      replace h_b := h_b.mono (hE37.le ([] ++ B))
      replace hf4 := hf4.mono (hE37.le ([] ++ B))
      have hL39 := hL7.ext hE37
      refine GOp.op (OpY.len_sl Tryd.underlying22 rfl hf4 ?_)
      exact ⟨Ext.refl _, rfl⟩
    refine DrG.rel ?_ ?_
    ·
      rintro w40 hE41 ⟨-, -⟩
      replace h_b := h_b.mono (hE41.le ([] ++ B))
      replace hf4 := hf4.mono (hE41.le ([] ++ B))
      have hL43 := hL7.ext hE41
      refine GOp.op (OpY.slice_sl (l := ((b).take ((b.length - 8))).length) (h := b.length) Tryd.underlying22 ti5 rfl h_b (.inr ⟨_, _, rfl, rfl⟩) (.inl ⟨rfl, rfl⟩) (by first | omega | (simp; done) | (simp; omega)) (by first | omega | (simp; done) | (simp; omega)) ?_)
      intro v44 hcut45
      simp only [List.take_length] at hcut45
      have hf46 : Ints .u8 (view ([] ++ B) w40) v44 ((b).drop (((b).take ((b.length - 8))).length)) := hcut45 _ h_b
      clear hcut45
      exact ⟨Ext.refl _, v44, rfl, hf46⟩
    intro v47
    refine DrG.fin ?_
    rintro w48 hE49 ⟨⟨v44, rfl, hf46⟩, ⟨r0_23, rfl, hf26⟩, -⟩
    replace h_b := h_b.mono (hE49.le ([] ++ B))
    replace hf4 := hf4.mono (hE49.le ([] ++ B))
    have hL50 := hL7.ext hE49
    refine Rl.op (OpY.callq (v := (Value.bool (decide (((bytesN (crcN 0 (((b).take ((b.length - 8))))))) = (((b).drop (((b).take ((b.length - 8))).length))))))) en26 rfl rfl (equal_c r0_23 ((bytesN (crcN 0 (((b).take ((b.length - 8))))))) ((bytesN_ok (crcN 0 (((b).take ((b.length - 8))))))) (by first | assumption | omega | (simp; done) | (simp; omega)) v44 (((b).drop (((b).take ((b.length - 8))).length))) ((ok_drop b_ok)) (by first | assumption | omega | (simp; done) | (simp; omega)) ([] ++ B) _ hL50.bokO (hf26 B hB) hf46 ) ?_)
    refine Rl.op (OpY.not_d (p := ((bytesN (crcN 0 (((b).take ((b.length - 8))))))) = (((b).drop (((b).take ((b.length - 8))).length)))) rfl ?_)
    refine Rl.nil ?_
    refine Swp.cond_d (¬ (((bytesN (crcN 0 (((b).take ((b.length - 8))))))) = (((b).drop (((b).take ((b.length - 8))).length))))) rfl (fun hc51 => ?_) (fun hc51 => ?_)
    ·
      skip
      refine Swp.seq ?_
      refine Swp.region rfl ?_
      refine Rl.op (OpY.assign (v := (Value.slice none 0 0)) rfl ?_)
      refine Rl.op (OpY.assign (v := (Value.int .i64 ((17 : Nat) : Int))) rfl ?_)
      refine Rl.nil ?_
      refine Swp.ret ?_
      refine ⟨[(Value.slice none 0 0), (Value.int .i64 ((17 : Nat) : Int))], ⟨rfl, ⟨rfl, trivial⟩⟩, ?_⟩
      refine ⟨_, rfl, hL50.done, ?_⟩
      refine ⟨(Value.slice none 0 0), ?_, ?_⟩
      · rw [checkN_bad (by assumption) (by have h9 := take_len (b := b); simp only [h9] at *; assumption)]; rfl
      ·
        have hq : [] = (checkN b).1 := by (rw [checkN_bad (by assumption) (by have h9 := take_len (b := b); simp only [h9] at *; assumption)])
        rw [← hq]
        exact fun A hA => .inl ⟨⟨_, rfl⟩, rfl⟩
    ·
      skip
      refine Swp.skip ?_
      refine Swp.seq ?_
      refine Swp.region rfl ?_
      refine Rl.op (OpY.move (v := v2) rfl ?_)
      refine Rl.op (OpY.call en24 rfl rfl (clone_c v2 (((b).take ((b.length - 8)))) ((ok_take b_ok)) (by first | assumption | omega | (simp; done) | (simp; omega)) ([] ++ B) _ hL50.bokO hf4 ) ?_)
      rintro r52 w53 hE54 ⟨_, rfl, ob55, cap56, sp57, rfl, hfr58, ho59, hcap60⟩
      have hL61 := (hL50.adopt hE54 hfr58 ho59).1
      replace h_b := h_b.mono ((hL50.adopt hE54 hfr58 ho59).2.le B)
      replace hf4 := hf4.mono ((hL50.adopt hE54 hfr58 ho59).2.le B)
      replace hf26 := fun A hA => (hf26 A hA).mono ((hL50.adopt hE54 hfr58 ho59).2.le A)
      replace hf46 := hf46.mono ((hL50.adopt hE54 hfr58 ho59).2.le B)
      clear hL50
      replace hcap60 : (ints .u8 ((((b).take ((b.length - 8))))) ++ sp57).length = cap56 * 1 := by rw [hcap60, Nat.mul_one]
      replace hL61 : X.Loc [] B w w53 [ob55] [.cells (ints .u8 ((((b).take ((b.length - 8))))) ++ (sp57))] := hL61
      refine Rl.op (OpY.assign (v := (sv ob55 (((((b).take ((b.length - 8))))).length) (cap56))) rfl ?_)
      refine Rl.op (OpY.assign (v := (Value.int .i64 ((0 : Nat) : Int))) rfl ?_)
      refine Rl.nil ?_
      refine Swp.ret ?_
      refine ⟨[(sv ob55 (((((b).take ((b.length - 8))))).length) (cap56)), (Value.int .i64 ((0 : Nat) : Int))], ⟨rfl, ⟨rfl, trivial⟩⟩, ?_⟩
      refine ⟨_, rfl, hL61.done, ?_⟩
      refine ⟨(sv ob55 (((((b).take ((b.length - 8))))).length) (cap56)), ?_, ?_⟩
      · rw [checkN_good (by assumption) (by have h9 := take_len (b := b); simp only [h9, Decidable.not_not] at *; assumption)]; rfl
      ·
        have hq : (((b).take ((b.length - 8)))) = (checkN b).1 := by (rw [checkN_good (by assumption) (by have h9 := take_len (b := b); simp only [h9, Decidable.not_not] at *; assumption)])
        rw [← hq]
        exact hL61.intsN rfl 0 (ob := ob55) (n := ((((b).take ((b.length - 8))))).length) (cap := cap56) rfl rfl (by first | omega | (simp; done) | (simp; omega)) (by rw [hcap60, Nat.mul_one])
theorem rappend_c (b_v : Value) (b : List (Nat)) (b_ok : ∀ x ∈ b, x < 256) (b_ln : b.length ≤ 1000000) (B : List (Option Nat)) (w : World) (hB : Bok B w) (h_b : Ints .u8 (view B w) b_v b)  :
    Calls Tryd.prog 19 #[b_v] w (Ret w (fun r w' => ∃ r0 : Value, r0 = r ∧ HandsInts .u8 w w' r0 (appN b))) := by
  have hL := Loc.start hB
  have hcl := crcN_lt 0 b
  refine calls_of (l := [b_v]) (rl := [.tmp 2]) (n := 24) Tryd.func19 rfl rfl rfl (by simp) ?_
  refine Swp.seq ?_
  refine Swp.region rfl ?_
  refine Rl.op (OpY.assign (v := (Value.slice none 0 0)) rfl ?_)
  refine Rl.nil ?_
  refine Swp.seq ?_
  refine Swp.region rfl ?_
  refine Rl.op (OpY.buildSlice0 Tryd.underlying22 ti5 hL ?_)
  intro b1 w2 hL3 hS4
  replace h_b := h_b.mono (hS4.le B)
  clear hL hS4
  replace hL3 : X.Loc [] B w w2 [some b1] [.cells (ints .u8 ([]) ++ ([]))] := hL3
  refine Rl.op (OpY.move (v := b_v) rfl ?_)
  refine Rl.op (OpY.append (n := 0) (cap := 0) (m := b.length) (i := 0) (ob := some b1) (xs := ints .u8 ([])) (sp := []) (news := ints .u8 (b)) Tryd.underlying22 ti5 rfl (by decide) rfl rfl hL3 rfl rfl (by simp [ints_length]) (by simp [ints_length]) (Src.ints h_b) (ones_ints _ _) (by first | omega | (simp; omega)) (by first | omega | (simp; omega)) ?_)
  intro ob5 cap6 sp7 w8 hcap9 hL10 hS11
  replace h_b := h_b.mono (hS11.le B)
  clear hL3 hS11
  rw [ints_append] at hcap9
  rw [List.nil_append] at hcap9
  replace hcap9 : (ints .u8 (b) ++ sp7).length = cap6 * 1 := hcap9
  simp only [List.set, ints_append, List.nil_append] at hL10
  replace hL10 : X.Loc [] B w w8 [ob5] [.cells (ints .u8 (b) ++ (sp7))] := hL10
  refine Rl.op (OpY.assign (v := (sv ob5 ((0 + b.length)) (cap6))) rfl ?_)
  refine Rl.nil ?_
  refine Swp.seq ?_
  refine Swp.region rfl ?_
  refine Rl.op (OpY.move (v := b_v) rfl ?_)
  refine Rl.op (OpY.callq (v := (Value.int .u64 ((crcN 0 (b) : Nat) : Int))) en14 rfl rfl (rsum_c b_v (b) (b_ok) (by first | assumption | omega | (simp; done) | (simp; omega)) ([ob5] ++ B) _ hL10.bokO h_b ) ?_)
  refine Rl.op (OpY.assign (v := (Value.int .u64 ((crcN 0 (b) : Nat) : Int))) rfl ?_)
  refine Rl.nil ?_
  refine Swp.seq ?_
  refine Swp.seq ?_
  refine Swp.region rfl ?_
  refine Rl.op (OpY.assign (v := (Value.int .i64 ((0 : Nat) : Int))) rfl ?_)
  refine Rl.nil ?_
  refine Swp.block ?_
  refine Swp.loopS [3, 4, 5, 11, 12, 13, 14, 15, 16, 17, 18, 19, 20, 21, 22] (σ := (Nat) × (Nat) × (Option Nat) × (Nat) × (List Value) × (List Nat)) (fun ss => (fun (i : Nat) (m : Nat) (ob : Option Nat) (cap : Nat) (sp : List Value) (xs : List Nat) => [(5, (Value.int .i64 ((i : Nat) : Int))), (4, (Value.int .u64 ((m : Nat) : Int))), (3, (sv ob (xs.length) (cap)))]) ss.1 ss.2.1 ss.2.2.1 ss.2.2.2.1 ss.2.2.2.2.1 ss.2.2.2.2.2) (fun ss w' => (fun (i : Nat) (m : Nat) (ob : Option Nat) (cap : Nat) (sp : List Value) (xs : List Nat) => X.Loc [] B w w' [ob] [.cells (ints .u8 (xs) ++ (sp))] ∧ Ints .u8 (view ([ob] ++ B) w') b_v b ∧ (i ≤ 8) ∧ (m < 18446744073709551616) ∧ ((ints .u8 (xs) ++ sp).length = cap * 1) ∧ (xs.length = b.length + i) ∧ (m = crcN 0 b / 2 ^ (8 * i)) ∧ (xs = b ++ (bytesN (crcN 0 b)).take i) ∧ True) ss.1 ss.2.1 ss.2.2.1 ss.2.2.2.1 ss.2.2.2.2.1 ss.2.2.2.2.2) (fun ss => (fun (i : Nat) (m : Nat) (ob : Option Nat) (cap : Nat) (sp : List Value) (xs : List Nat) => 8 - i) ss.1 ss.2.1 ss.2.2.1 ss.2.2.2.1 ss.2.2.2.2.1 ss.2.2.2.2.2) ((0), (crcN 0 (b)), (ob5), (cap6), (sp7), (b)) ⟨hL10, h_b, (by omega), (by omega), (hcap9), (by simp), (by simp), (by simp), trivial⟩ ⟨rfl, rfl, (by show (sv ob5 ((0 + b.length)) (cap6)) = _; simp), trivial⟩ ?_
  clear h_b
  clear hL10
  rintro ⟨i, m, ob, cap, sp, xs⟩ e12 w13 ⟨hL14, h_b, hi, hml, hcp, hxl, hm, hx, -⟩
  replace hi : i ≤ 8 := hi
  replace hml : m < 18446744073709551616 := hml
  replace hcp : (ints .u8 (xs) ++ sp).length = cap * 1 := hcp
  replace hxl : xs.length = b.length + i := hxl
  replace hm : m = crcN 0 b / 2 ^ (8 * i) := hm
  replace hx : xs = b ++ (bytesN (crcN 0 b)).take i := hx
  show Swp _ _ _ _ ((upd (upd (upd (mix _ e12 _) 3 (sv ob (xs.length) (cap))) 4 (Value.int .u64 ((m : Nat) : Int))) 5 (Value.int .i64 ((i : Nat) : Int)))) w13
  refine Swp.seq ?_
  refine Swp.seq ?_
  refine Swp.region rfl ?_
  refine Rl.op (OpY.move (v := (Value.int .i64 ((i : Nat) : Int))) rfl ?_)
  refine Rl.op (OpY.lss (x := ((i : Nat) : Int)) (y := ((8 : Nat) : Int)) (i < 8) rfl rfl (by omega) ?_)
  refine Rl.nil ?_
  refine Swp.cond_d (i < 8) rfl (fun hc15 => ?_) (fun hc15 => ?_)
  ·
    skip
    refine Swp.skip ?_
    refine Swp.seq ?_
    refine Swp.block ?_
    refine Swp.seq ?_
    refine Swp.region rfl ?_
    refine Rl.op (OpY.move (v := (sv ob (xs.length) (cap))) rfl ?_)
    refine Rl.op (OpY.move (v := (Value.int .u64 ((m : Nat) : Int))) rfl ?_)
    refine Rl.op (OpY.rem (x := m) (y := 256) rfl rfl (by omega) ?_)
    refine Rl.op (OpY.convInt (x := (((m % 256) : Nat) : Int)) (z := (((m % 256) : Nat) : Int)) Tryd.underlying24 Tryd.underlying5 rfl (wq_u8 rfl (by first | omega | decide)) ?_)
    refine Rl.op (OpY.buildSliceV (n := 1) (vs := [(Value.int .u8 (((m % 256) : Nat) : Int))]) (css := [[(Value.int .u8 (((m % 256) : Nat) : Int))]]) Tryd.underlying22 ti5 (by decide) rfl rfl (⟨rfl, rfl, trivial⟩) (by decide) hL14 ?_)
    intro b16 w17 hL18 hS19
    replace h_b := h_b.mono (hS19.le B)
    clear hL14 hS19
    replace hL18 : X.Loc [] B w w17 [some b16, ob] [.cells (ints .u8 ([(m % 256)]) ++ ([])), .cells (ints .u8 (xs) ++ (sp))] := hL18
    refine Rl.op (OpY.append (n := xs.length) (cap := cap) (m := 1) (i := 1) (ob := ob) (xs := ints .u8 (xs)) (sp := sp) (news := ints .u8 ([(m % 256)])) Tryd.underlying22 ti5 rfl (by decide) rfl rfl hL18 rfl rfl (by simp [ints_length]) (hcp) (Src.own (news := ints .u8 ([(m % 256)])) hL18 rfl (i := 0) rfl (by simp [ints_length]) (by first | rfl | simp | simp [ints_length])) (ones_ints _ _) (by first | omega | (simp; omega)) (by first | omega | (simp; omega)) ?_)
    intro ob20 cap21 sp22 w23 hcap24 hL25 hS26
    replace h_b := h_b.mono (hS26.le B)
    clear hL18 hS26
    rw [ints_append] at hcap24
    replace hcap24 : (ints .u8 ((xs) ++ ([(m % 256)])) ++ sp22).length = cap21 * 1 := hcap24
    simp only [List.set, ints_append] at hL25
    replace hL25 : X.Loc [] B w w23 [some b16, ob20] [.cells (ints .u8 ([(m % 256)]) ++ ([])), .cells (ints .u8 ((xs) ++ ([(m % 256)])) ++ (sp22))] := hL25
    have hL27 := (hL25.drop 0).1
    replace h_b := h_b.mono ((hL25.drop 0).2.le B)
    clear hL25
    replace hL27 : X.Loc [] B w w23 [ob20] [.cells (ints .u8 ((xs) ++ ([(m % 256)])) ++ (sp22))] := hL27
    refine Rl.op (OpY.assign (v := (sv ob20 (xs.length + 1) (cap21))) rfl ?_)
    refine Rl.nil ?_
    refine Swp.region rfl ?_
    refine Rl.op (OpY.move (v := (Value.int .u64 ((m : Nat) : Int))) rfl ?_)
    refine Rl.op (OpY.quo (x := m) (y := 256) rfl rfl (by omega) (wq_u64 rfl (hml)) ?_)
    refine Rl.op (OpY.assign (v := (Value.int .u64 (((m / 256) : Nat) : Int))) rfl ?_)
    refine Rl.nil ?_
    refine Swp.pop_blk ?_
    refine Swp.region rfl ?_
    refine Rl.op (OpY.move (v := (Value.int .i64 ((i : Nat) : Int))) rfl ?_)
    refine Rl.op (OpY.add (x := ((i : Nat) : Int)) (y := ((1 : Nat) : Int)) (z := (((i + 1) : Nat) : Int)) rfl rfl (wq_i64 (by omega) (by omega) (by omega)) ?_)
    refine Rl.op (OpY.assign (v := (Value.int .i64 (((i + 1) : Nat) : Int))) rfl ?_)
    refine Rl.nil ?_
    refine Swp.pop_back ⟨(((i + 1)), ((m / 256)), (ob20), (cap21), (sp22), ((xs) ++ ([(m % 256)]))), ⟨hL27, h_b, ?_, ?_, ?_, ?_, ?_, ?_, trivial⟩, ?_, ⟨rfl, rfl, ?_, trivial⟩, ?_⟩
    · show ((i + 1)) ≤ 8
      omega
    · show ((m / 256)) < 18446744073709551616
      omega
    · show (ints .u8 (((xs) ++ ([(m % 256)]))) ++ (sp22)).length = (cap21) * 1
      exact hcap24
    · show ((xs) ++ ([(m % 256)])).length = b.length + ((i + 1))
      simp; omega
    · show ((m / 256)) = crcN 0 b / 2 ^ (8 * ((i + 1)))
      rw [hm]; exact div_step _ _
    · show ((xs) ++ ([(m % 256)])) = b ++ (bytesN (crcN 0 b)).take ((i + 1))
      rw [bytesN_take (by omega), ← List.append_assoc, ← hx, ← hm]
    · show 8 - ((i + 1)) < 8 - i
      omega
    · show (sv ob20 (xs.length + 1) (cap21)) = _; simp
    · repeat (first | exact agree_mix | exact agree_refl | refine agree_upd rfl ?_ | refine agree_mix2 rfl ?_)
  ·
    skip
    refine Swp.exit rfl ?_
    refine Swp.seq ?_
    refine Swp.region rfl ?_
    refine Rl.op (OpY.move (v := (sv ob (xs.length) (cap))) rfl ?_)
    refine Rl.op (OpY.assign (v := (sv ob (xs.length) (cap))) rfl ?_)
    refine Rl.nil ?_
    refine Swp.ret ?_
    refine ⟨[(sv ob (xs.length) (cap))], ⟨rfl, trivial⟩, ?_⟩
    refine ⟨_, rfl, hL14.done, ?_⟩
    refine ⟨(sv ob (xs.length) (cap)), ?_, ?_⟩
    · rfl
    ·
      have hq : xs = appN b := by (obtain rfl : i = 8 := (by omega); rw [hx, List.take_of_length_le (by simp)]; rfl)
      rw [← hq]
      exact hL14.hands 0 rfl rfl (by simp) (by rw [hcp, Nat.mul_one])
theorem rcheck_c (b_v : Value) (b : List (Nat)) (b_ok : ∀ x ∈ b, x < 256) (b_ln : b.length ≤ 1000000) (B : List (Option Nat)) (w : World) (hB : Bok B w) (h_b : Ints .u8 (view B w) b_v b)  :
    Calls Tryd.prog 20 #[b_v] w (Ret w (fun r w' => ∃ r0 : Value, (Value.tuple #[r0, (Value.int .i64 ((checkN b).2 : Int))]) = r ∧ Fr w w' (fun H => Ints .u8 H r0 ((checkN b).1)))) := by
  have hL := Loc.start hB
  refine calls_of (l := [b_v]) (rl := [.tmp 2, .tmp 3]) (n := 22) Tryd.func20 rfl rfl rfl (by simp) ?_
  refine Swp.seq ?_
  refine Swp.region rfl ?_
  refine Rl.op (OpY.assign (v := (Value.slice none 0 0)) rfl ?_)
  refine Rl.op (OpY.assign (v := (Value.int .i64 ((0 : Nat) : Int))) rfl ?_)
  refine Rl.nil ?_
  refine Swp.seq ?_
  refine Swp.seq ?_
  refine Swp.region rfl ?_
  refine Rl.op (OpY.move (v := b_v) rfl ?_)
  refine Rl.op (OpY.len_sl Tryd.underlying22 rfl h_b ?_)
  refine Rl.op (OpY.lss (x := ((b.length : Nat) : Int)) (y := ((8 : Nat) : Int)) (b.length < 8) rfl rfl (by omega) ?_)
  refine Rl.nil ?_
  refine Swp.cond_d (b.length < 8) rfl (fun hc1 => ?_) (fun hc1 => ?_)
  ·
    skip
    refine Swp.seq ?_
    refine Swp.region rfl ?_
    refine Rl.op (OpY.assign (v := (Value.slice none 0 0)) rfl ?_)
    refine Rl.op (OpY.assign (v := (Value.int .i64 ((2 : Nat) : Int))) rfl ?_)
    refine Rl.nil ?_
    refine Swp.ret ?_
    refine ⟨[(Value.slice none 0 0), (Value.int .i64 ((2 : Nat) : Int))], ⟨rfl, ⟨rfl, trivial⟩⟩, ?_⟩
    refine ⟨_, rfl, hL.done, ?_⟩
    refine ⟨(Value.slice none 0 0), ?_, ?_⟩
    · rw [checkN_short (by assumption)]; rfl
    ·
      have hq : [] = (checkN b).1 := by (rw [checkN_short (by assumption)])
      rw [← hq]
      exact fun A hA => .inl ⟨⟨_, rfl⟩, rfl⟩
  ·
    skip
    refine Swp.skip ?_
    refine Swp.seq ?_
    refine Swp.region rfl ?_
    refine Rl.op (OpY.move (v := b_v) rfl ?_)
    refine Rl.op (OpY.move (v := b_v) rfl ?_)
    refine Rl.op (OpY.len_sl Tryd.underlying22 rfl h_b ?_)
    refine Rl.op (OpY.sub (x := ((b.length : Nat) : Int)) (y := ((8 : Nat) : Int)) (z := (((b.length - 8) : Nat) : Int)) rfl rfl (wq_i64 (by omega) (by omega) (by omega)) ?_)
    refine Rl.op (OpY.slice_sl (l := 0) (h := (b.length - 8)) Tryd.underlying22 ti5 rfl h_b (.inl ⟨rfl, rfl⟩) (.inr ⟨_, _, rfl, rfl⟩) (by first | omega | (simp; done) | (simp; omega)) (by first | omega | (simp; done) | (simp; omega)) ?_)
    intro v2 hcut3
    simp only [List.drop_zero] at hcut3
    have hf4 : Ints .u8 (view ([] ++ B) w) v2 ((b).take ((b.length - 8))) := hcut3 _ h_b
    clear hcut3
    refine Rl.op (OpY.assign (v := v2) rfl ?_)
    refine Rl.nil ?_
    refine Swp.seq ?_
    refine Swp.seq ?_
    refine Swp.draw 5 [.det v2, .rel (fun v w' => ∃ r0_16 : Value, r0_16 = v ∧ (∀ A, Bok A w → Ints .u8 (view ([] ++ A) w') r0_16 (appN (((b).take ((b.length - 8))))))), .det (Value.string (str ((appN (((b).take ((b.length - 8)))))))), .det b_v, .det (Value.string (str (b)))] mixed rfl rfl (⟨fun v w w' hE => by rintro ⟨r0_16, rfl, k0⟩; exact ⟨r0_16, rfl, fun A hA => (k0 A hA).mono (hE.le _)⟩, trivial⟩) ?_
    intro w5 hE6
    replace h_b := h_b.mono (hE6.le ([] ++ B))
    replace hf4 := hf4.mono (hE6.le ([] ++ B))
    have hL7 := hL.ext hE6
    refine DrG.det ?_ ?_
    ·
      rintro w8 hE9 ⟨-⟩
      replace h_b := h_b.mono (hE9.le ([] ++ B))
      replace hf4 := hf4.mono (hE9.le ([] ++ B))
      have hL11 := hL7.ext hE9
      refine GOp.op (OpY.move (v := v2) rfl ?_)
      exact ⟨Ext.refl _, rfl⟩
    refine DrG.rel ?_ ?_
    ·
      rintro w12 hE13 ⟨-⟩
      replace h_b := h_b.mono (hE13.le ([] ++ B))
      replace hf4 := hf4.mono (hE13.le ([] ++ B))
      have hL15 := hL7.ext hE13
      refine GOp.op (OpY.call en19 rfl rfl (rappend_c v2 (((b).take ((b.length - 8)))) ((ok_take b_ok)) (by first | assumption | omega | (simp; done) | (simp; omega)) ([] ++ B) _ hL15.bokO hf4 ) ?_)
      rintro r16 w17 hE18 ⟨r0_19, rfl, hh20⟩
      replace h_b := h_b.mono (hE18.le ([] ++ B))
      replace hf4 := hf4.mono (hE18.le ([] ++ B))
      have hf22 := Fr.atO hh20.fr hL15
      have hL21 := hL15.ext hE18
      exact ⟨hE18, r0_19, rfl, hf22⟩
    intro v23
    refine DrG.det ?_ ?_
    ·
      rintro w24 hE25 ⟨⟨r0_19, rfl, hf22⟩, -⟩
      replace h_b := h_b.mono (hE25.le ([] ++ B))
      replace hf4 := hf4.mono (hE25.le ([] ++ B))
      have hL27 := hL7.ext hE25
      refine GOp.op (OpY.bytesToStr (v := r0_19) (xs := (appN (((b).take ((b.length - 8)))))) Tryd.underlying22 Tryd.underlying5 Tryd.underlying9 rfl (hf22 B hB) ?_)
      exact ⟨Ext.refl _, rfl⟩
    refine DrG.det ?_ ?_
    ·
      rintro w28 hE29 ⟨-, -⟩
      replace h_b := h_b.mono (hE29.le ([] ++ B))
      replace hf4 := hf4.mono (hE29.le ([] ++ B))
      have hL31 := hL7.ext hE29
      refine GOp.op (OpY.move (v := b_v) rfl ?_)
      exact ⟨Ext.refl _, rfl⟩
    refine DrG.det ?_ ?_
    ·
      rintro w32 hE33 ⟨-, -⟩
      replace h_b := h_b.mono (hE33.le ([] ++ B))
      replace hf4 := hf4.mono (hE33.le ([] ++ B))
      have hL35 := hL7.ext hE33
      refine GOp.op (OpY.bytesToStr (v := b_v) (xs := b) Tryd.underlying22 Tryd.underlying5 Tryd.underlying9 rfl h_b ?_)
      exact ⟨Ext.refl _, rfl⟩
    refine DrG.fin ?_
    rintro w36 hE37 ⟨⟨r0_19, rfl, hf22⟩, -⟩
    replace h_b := h_b.mono (hE37.le ([] ++ B))
    replace hf4 := hf4.mono (hE37.le ([] ++ B))
    have hL38 := hL7.ext hE37
    refine Rl.op (OpY.strNeq (x := (appN (((b).take ((b.length - 8)))))) (y := b) rfl rfl (appN_ok ((ok_take b_ok))) b_ok ?_)
    refine Rl.nil ?_
    refine Swp.cond_d (¬ ((appN (((b).take ((b.length - 8))))) = b)) rfl (fun hc39 => ?_) (fun hc39 => ?_)
    ·
      skip
      refine Swp.seq ?_
      refine Swp.region rfl ?_
      refine Rl.op (OpY.assign (v := (Value.slice none 0 0)) rfl ?_)
      refine Rl.op (OpY.assign (v := (Value.int .i64 ((17 : Nat) : Int))) rfl ?_)
      refine Rl.nil ?_
      refine Swp.ret ?_
      refine ⟨[(Value.slice none 0 0), (Value.int .i64 ((17 : Nat) : Int))], ⟨rfl, ⟨rfl, trivial⟩⟩, ?_⟩
      refine ⟨_, rfl, hL38.done, ?_⟩
      refine ⟨(Value.slice none 0 0), ?_, ?_⟩
      · rw [checkN_bad (by assumption) (by rw [← appN_iff (by assumption)]; assumption)]; rfl
      ·
        have hq : [] = (checkN b).1 := by (rw [checkN_bad (by assumption) (by rw [← appN_iff (by assumption)]; assumption)])
        rw [← hq]
        exact fun A hA => .inl ⟨⟨_, rfl⟩, rfl⟩
    ·
      skip
      refine Swp.skip ?_
      refine Swp.seq ?_
      refine Swp.region rfl ?_
      refine Rl.op (OpY.buildSlice0 Tryd.underlying22 ti5 hL38 ?_)
      intro b40 w41 hL42 hS43
      replace h_b := h_b.mono (hS43.le B)
      replace hf4 := hf4.mono (hS43.le B)
      replace hf22 := fun A hA => (hf22 A hA).mono (hS43.le A)
      clear hL38 hS43
      replace hL42 : X.Loc [] B w w41 [some b40] [.cells (ints .u8 ([]) ++ ([]))] := hL42
      refine Rl.op (OpY.move (v := v2) rfl ?_)
      refine Rl.op (OpY.append (n := 0) (cap := 0) (m := ((b).take ((b.length - 8))).length) (i := 0) (ob := some b40) (xs := ints .u8 ([])) (sp := []) (news := ints .u8 (((b).take ((b.length - 8))))) Tryd.underlying22 ti5 rfl (by decide) rfl rfl hL42 rfl rfl (by simp [ints_length]) (by simp [ints_length]) (Src.ints hf4) (ones_ints _ _) (by first | omega | (simp; omega)) (by first | omega | (simp; omega)) ?_)
      intro ob44 cap45 sp46 w47 hcap48 hL49 hS50
      replace h_b := h_b.mono (hS50.le B)
      replace hf4 := hf4.mono (hS50.le B)
      replace hf22 := fun A hA => (hf22 A hA).mono (hS50.le A)
      clear hL42 hS50
      rw [ints_append] at hcap48
      rw [List.nil_append] at hcap48
      replace hcap48 : (ints .u8 (((b).take ((b.length - 8)))) ++ sp46).length = cap45 * 1 := hcap48
      simp only [List.set, ints_append, List.nil_append] at hL49
      replace hL49 : X.Loc [] B w w47 [ob44] [.cells (ints .u8 (((b).take ((b.length - 8)))) ++ (sp46))] := hL49
      refine Rl.op (OpY.assign (v := (sv ob44 ((0 + ((b).take ((b.length - 8))).length)) (cap45))) rfl ?_)
      refine Rl.op (OpY.assign (v := (Value.int .i64 ((0 : Nat) : Int))) rfl ?_)
      refine Rl.nil ?_
      refine Swp.ret ?_
      refine ⟨[(sv ob44 ((0 + ((b).take ((b.length - 8))).length)) (cap45)), (Value.int .i64 ((0 : Nat) : Int))], ⟨rfl, ⟨rfl, trivial⟩⟩, ?_⟩
      refine ⟨_, rfl, hL49.done, ?_⟩
      refine ⟨(sv ob44 ((0 + ((b).take ((b.length - 8))).length)) (cap45)), ?_, ?_⟩
      · rw [checkN_good (by assumption) (by rw [← appN_iff (by assumption)]; exact Decidable.not_not.1 (by assumption))]; rfl
      ·
        have hq : ((b).take ((b.length - 8))) = (checkN b).1 := by (rw [checkN_good (by assumption) (by rw [← appN_iff (by assumption)]; exact Decidable.not_not.1 (by assumption))])
        rw [← hq]
        exact hL49.intsN rfl 0 (ob := ob44) (n := (0 + ((b).take ((b.length - 8))).length)) (cap := cap45) rfl rfl (by first | omega | (simp; done) | (simp; omega)) (by rw [hcap48, Nat.mul_one])
theorem text_c (n : Nat) (n_lt : n < 18446744073709551616) (B : List (Option Nat)) (w : World) (hB : Bok B w)   :
    Calls Tryd.prog 22 #[(Value.int .u64 ((n : Nat) : Int))] w (RetQ w (Value.string (str ((hexN n))))) := by
  have hL := Loc.start hB
  refine calls_of (l := [(Value.int .u64 ((n : Nat) : Int))]) (rl := [.tmp 2]) (n := 22) Tryd.func22 rfl rfl rfl (by simp) ?_
  refine Swp.seq ?_
  refine Swp.region rfl ?_
  refine Rl.op (OpY.assign (v := (Value.string (str (([] : List Nat))))) rfl ?_)
  refine Rl.nil ?_
  refine Swp.seq ?_
  refine Swp.region rfl ?_
  refine Rl.op (OpY.assign (v := (Value.string (str (([48, 49, 50, 51, 52, 53, 54, 55, 56, 57, 97, 98, 99, 100, 101, 102] : List Nat))))) rfl ?_)
  refine Rl.nil ?_
  refine Swp.seq ?_
  refine Swp.region rfl ?_
  refine Rl.op (OpY.assign (v := (Value.string (str (([] : List Nat))))) rfl ?_)
  refine Rl.nil ?_
  refine Swp.seq ?_
  refine Swp.seq ?_
  refine Swp.region rfl ?_
  refine Rl.op (OpY.assign (v := (Value.int .i64 ((0 : Nat) : Int))) rfl ?_)
  refine Rl.nil ?_
  refine Swp.block ?_
  refine Swp.loopS [0, 4, 5, 6, 7, 8, 9, 10, 11, 12, 13, 14, 15, 16, 17, 18, 19, 20] (σ := (Nat) × (Nat) × (List Nat)) (fun ss => (fun (i : Nat) (m : Nat) (xs : List Nat) => [(5, (Value.int .i64 ((i : Nat) : Int))), (0, (Value.int .u64 ((m : Nat) : Int))), (4, (Value.string (str (xs))))]) ss.1 ss.2.1 ss.2.2) (fun ss w' => (fun (i : Nat) (m : Nat) (xs : List Nat) => w = w' ∧ (i ≤ 16) ∧ (m < 18446744073709551616) ∧ (bytesOk xs) ∧ (m = n / 16 ^ i) ∧ (xs = padR i n) ∧ True) ss.1 ss.2.1 ss.2.2) (fun ss => (fun (i : Nat) (m : Nat) (xs : List Nat) => 16 - i) ss.1 ss.2.1 ss.2.2) ((0), (n), ([])) ⟨rfl, (by omega), (by omega), (by intro x hx; cases hx), (by simp), (rfl), trivial⟩ ⟨rfl, rfl, rfl, trivial⟩ ?_
  rintro ⟨i, m, xs⟩ e1 _ ⟨rfl, hi, hml, hok, hm, hx, -⟩
  replace hi : i ≤ 16 := hi
  replace hml : m < 18446744073709551616 := hml
  replace hok : bytesOk xs := hok
  replace hm : m = n / 16 ^ i := hm
  replace hx : xs = padR i n := hx
  show Swp _ _ _ _ ((upd (upd (upd (mix _ e1 _) 4 (Value.string (str (xs)))) 0 (Value.int .u64 ((m : Nat) : Int))) 5 (Value.int .i64 ((i : Nat) : Int)))) _
  refine Swp.seq ?_
  refine Swp.seq ?_
  refine Swp.region rfl ?_
  refine Rl.op (OpY.move (v := (Value.int .i64 ((i : Nat) : Int))) rfl ?_)
  refine Rl.op (OpY.lss (x := ((i : Nat) : Int)) (y := ((16 : Nat) : Int)) (i < 16) rfl rfl (by omega) ?_)
  refine Rl.nil ?_
  refine Swp.cond_d (i < 16) rfl (fun hc4 => ?_) (fun hc4 => ?_)
  ·
    skip
    refine Swp.skip ?_
    refine Swp.seq ?_
    refine Swp.block ?_
    refine Swp.seq ?_
    refine Swp.region rfl ?_
    refine Rl.op (OpY.move (v := (Value.string (str (([48, 49, 50, 51, 52, 53, 54, 55, 56, 57, 97, 98, 99, 100, 101, 102] : List Nat))))) rfl ?_)
    refine Rl.op (OpY.move (v := (Value.int .u64 ((m : Nat) : Int))) rfl ?_)
    refine Rl.op (OpY.rem (x := m) (y := 16) rfl rfl (by omega) ?_)
    refine Rl.op (OpY.move (v := (Value.int .u64 ((m : Nat) : Int))) rfl ?_)
    refine Rl.op (OpY.rem (x := m) (y := 16) rfl rfl (by omega) ?_)
    refine Rl.op (OpY.add (x := (((m % 16) : Nat) : Int)) (y := ((1 : Nat) : Int)) (z := ((((m % 16) + 1) : Nat) : Int)) rfl rfl (wq_u64 (by omega) (by omega)) ?_)
    refine Rl.op (OpY.strSlice (xs := ([48, 49, 50, 51, 52, 53, 54, 55, 56, 57, 97, 98, 99, 100, 101, 102] : List Nat)) (l := (m % 16)) (h := ((m % 16) + 1)) Tryd.underlying9 rfl (.inr ⟨_, _, rfl, rfl⟩) (.inr ⟨_, _, rfl, rfl⟩) (by first | omega | (simp; done) | (simp; omega)) (by first | omega | (simp; done) | (simp; omega)) ?_)
    refine Rl.op (OpY.move (v := (Value.string (str (xs)))) rfl ?_)
    refine Rl.op (OpY.strAdd (x := ((([48, 49, 50, 51, 52, 53, 54, 55, 56, 57, 97, 98, 99, 100, 101, 102] : List Nat)).take (((m % 16) + 1))).drop ((m % 16))) (y := xs) rfl rfl (by have := congrArg List.length hx; rw [padR_length] at this; simp; omega) ?_)
    refine Rl.op (OpY.assign (v := (Value.string (str ((((([48, 49, 50, 51, 52, 53, 54, 55, 56, 57, 97, 98, 99, 100, 101, 102] : List Nat)).take (((m % 16) + 1))).drop ((m % 16))) ++ (xs))))) rfl ?_)
    refine Rl.nil ?_
    refine Swp.region rfl ?_
    refine Rl.op (OpY.move (v := (Value.int .u64 ((m : Nat) : Int))) rfl ?_)
    refine Rl.op (OpY.quo (x := m) (y := 16) rfl rfl (by omega) (wq_u64 rfl (hml)) ?_)
    refine Rl.op (OpY.assign (v := (Value.int .u64 (((m / 16) : Nat) : Int))) rfl ?_)
    refine Rl.nil ?_
    refine Swp.pop_blk ?_
    refine Swp.region rfl ?_
    refine Rl.op (OpY.move (v := (Value.int .i64 ((i : Nat) : Int))) rfl ?_)
    refine Rl.op (OpY.add (x := ((i : Nat) : Int)) (y := ((1 : Nat) : Int)) (z := (((i + 1) : Nat) : Int)) rfl rfl (wq_i64 (by omega) (by omega) (by omega)) ?_)
    refine Rl.op (OpY.assign (v := (Value.int .i64 (((i + 1) : Nat) : Int))) rfl ?_)
    refine Rl.nil ?_
    refine Swp.pop_back ⟨(((i + 1)), ((m / 16)), ((((([48, 49, 50, 51, 52, 53, 54, 55, 56, 57, 97, 98, 99, 100, 101, 102] : List Nat)).take (((m % 16) + 1))).drop ((m % 16))) ++ (xs))), ⟨rfl, ?_, ?_, ?_, ?_, ?_, trivial⟩, ?_, ⟨rfl, rfl, rfl, trivial⟩, ?_⟩
    · show ((i + 1)) ≤ 16
      omega
    · show ((m / 16)) < 18446744073709551616
      omega
    · show bytesOk ((((([48, 49, 50, 51, 52, 53, 54, 55, 56, 57, 97, 98, 99, 100, 101, 102] : List Nat)).take (((m % 16) + 1))).drop ((m % 16))) ++ (xs))
      rw [digs_cut' _ (Nat.mod_lt _ (by decide))]; intro x hx; rcases List.mem_append.1 hx with h | h
      · have : x = hexD (m % 16) := by simpa using h
        subst this; exact hexD_lt _ (Nat.mod_lt _ (by decide))
      · exact hok x h
    · show ((m / 16)) = n / 16 ^ ((i + 1))
      rw [hm, Nat.div_div_eq_div_mul, Nat.pow_succ]
    · show ((((([48, 49, 50, 51, 52, 53, 54, 55, 56, 57, 97, 98, 99, 100, 101, 102] : List Nat)).take (((m % 16) + 1))).drop ((m % 16))) ++ (xs)) = padR ((i + 1)) n
      rw [digs_cut' _ (Nat.mod_lt _ (by decide)), padR_cons, hx, hm]; rfl
    · show 16 - ((i + 1)) < 16 - i
      omega
    · repeat (first | exact agree_mix | exact agree_refl | refine agree_upd rfl ?_ | refine agree_mix2 rfl ?_)
  ·
    skip
    refine Swp.exit rfl ?_
    refine Swp.seq ?_
    refine Swp.region rfl ?_
    refine Rl.op (OpY.move (v := (Value.string (str (xs)))) rfl ?_)
    refine Rl.op (OpY.assign (v := (Value.string (str (xs)))) rfl ?_)
    refine Rl.nil ?_
    refine Swp.ret ?_
    refine ⟨[(Value.string (str (xs)))], ⟨rfl, trivial⟩, ?_, rfl⟩
    show Ending.returned (Value.string (str (xs))) = Ending.returned (Value.string (str ((hexN n))))
    obtain rfl : i = 16 := by omega
    rw [hx]; rfl
end Go.Proofs.YtpfbdhfpojbmlaaDoor

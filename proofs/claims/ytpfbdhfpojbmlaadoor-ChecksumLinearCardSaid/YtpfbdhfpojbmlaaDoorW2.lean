/- Walks. Written by a program of mine (wip/tool/gen.py); the kernel checks them. -/
import Derived.Test.YtpfbdhfpojbmlaaDoorProg
import Derived.Test.YtpfbdhfpojbmlaaDoorX10
import Derived.Test.YtpfbdhfpojbmlaaDoorM06
namespace Go.Proofs.YtpfbdhfpojbmlaaDoor.P2
open Go Go.RowKit Go.X Go.C06

theorem ti5 : TI Tryd.prog 5 1 1 (Value.int .u8 0) := TI.mk (by kernel_rfl)
theorem ti75 : TI Tryd.prog 75 65 65 (Value.agg #[(Value.int .u8 0), (Value.int .u8 0), (Value.int .u8 0), (Value.int .u8 0), (Value.int .u8 0), (Value.int .u8 0), (Value.int .u8 0), (Value.int .u8 0), (Value.int .u8 0), (Value.int .u8 0), (Value.int .u8 0), (Value.int .u8 0), (Value.int .u8 0), (Value.int .u8 0), (Value.int .u8 0), (Value.int .u8 0), (Value.int .u8 0), (Value.int .u8 0), (Value.int .u8 0), (Value.int .u8 0), (Value.int .u8 0), (Value.int .u8 0), (Value.int .u8 0), (Value.int .u8 0), (Value.int .u8 0), (Value.int .u8 0), (Value.int .u8 0), (Value.int .u8 0), (Value.int .u8 0), (Value.int .u8 0), (Value.int .u8 0), (Value.int .u8 0), (Value.int .u8 0), (Value.int .u8 0), (Value.int .u8 0), (Value.int .u8 0), (Value.int .u8 0), (Value.int .u8 0), (Value.int .u8 0), (Value.int .u8 0), (Value.int .u8 0), (Value.int .u8 0), (Value.int .u8 0), (Value.int .u8 0), (Value.int .u8 0), (Value.int .u8 0), (Value.int .u8 0), (Value.int .u8 0), (Value.int .u8 0), (Value.int .u8 0), (Value.int .u8 0), (Value.int .u8 0), (Value.int .u8 0), (Value.int .u8 0), (Value.int .u8 0), (Value.int .u8 0), (Value.int .u8 0), (Value.int .u8 0), (Value.int .u8 0), (Value.int .u8 0), (Value.int .u8 0), (Value.int .u8 0), (Value.int .u8 0), (Value.int .u8 0), (Value.int .u8 0)]) := TI.mk (by kernel_rfl)
theorem en27 : Enters Tryd.prog 27 := ⟨Tryd.f27, Tryd.func27, by kernel_rfl, by kernel_rfl⟩
theorem en28 : Enters Tryd.prog 28 := ⟨Tryd.f28, Tryd.func28, by kernel_rfl, by kernel_rfl⟩
theorem en29 : Enters Tryd.prog 29 := ⟨Tryd.f29, Tryd.func29, by kernel_rfl, by kernel_rfl⟩
theorem en30 : Enters Tryd.prog 30 := ⟨Tryd.f30, Tryd.func30, by kernel_rfl, by kernel_rfl⟩
theorem en31 : Enters Tryd.prog 31 := ⟨Tryd.f31, Tryd.func31, by kernel_rfl, by kernel_rfl⟩
theorem en39 : Enters Tryd.prog 39 := ⟨Tryd.f39, Tryd.func39, by kernel_rfl, by kernel_rfl⟩
theorem en41 : Enters Tryd.prog 41 := ⟨Tryd.f41, Tryd.func41, by kernel_rfl, by kernel_rfl⟩
theorem en42 : Enters Tryd.prog 42 := ⟨Tryd.f42, Tryd.func42, by kernel_rfl, by kernel_rfl⟩
theorem en48 : Enters Tryd.prog 48 := ⟨Tryd.f48, Tryd.func48, by kernel_rfl, by kernel_rfl⟩
theorem en49 : Enters Tryd.prog 49 := ⟨Tryd.f49, Tryd.func49, by kernel_rfl, by kernel_rfl⟩
theorem en53 : Enters Tryd.prog 53 := ⟨Tryd.f53, Tryd.func53, by kernel_rfl, by kernel_rfl⟩
theorem ipow_c  (B : List (Option Nat)) (w : World) (hB : Bok B w)   :
    Calls Tryd.prog 48 #[(Value.int .i64 ((16 : Nat) : Int))] w (RetQ w (Value.bool true)) := by
  have hL := Loc.start hB
  refine calls_of (l := [(Value.int .i64 ((16 : Nat) : Int))]) (rl := [.tmp 2]) (n := 8) Tryd.func48 rfl rfl rfl (by simp) ?_
  refine Swp.seq ?_
  refine Swp.region rfl ?_
  refine Rl.op (OpY.assign (v := (Value.bool false)) rfl ?_)
  refine Rl.nil ?_
  refine Swp.seq ?_
  refine Swp.region rfl ?_
  refine Rl.op (OpY.move (v := (Value.int .i64 ((16 : Nat) : Int))) rfl ?_)
  refine Rl.op (OpY.move (v := (Value.int .i64 ((16 : Nat) : Int))) rfl ?_)
  refine Rl.op (OpY.sub (x := ((16 : Nat) : Int)) (y := ((1 : Nat) : Int)) (z := ((15 : Nat) : Int)) rfl rfl (by decide) ?_)
  refine Rl.op (OpY.and (x := 16) (y := 15) rfl rfl (by decide) (by decide) ?_)
  refine Rl.op (OpY.eql (x := ((0 : Nat) : Int)) (y := ((0 : Nat) : Int)) (0 = 0) rfl rfl (by omega) ?_)
  refine Rl.op (OpY.assign (v := (Value.bool (decide (0 = 0)))) rfl ?_)
  refine Rl.nil ?_
  refine Swp.ret ?_
  refine ⟨[(Value.bool (decide (0 = 0)))], ⟨rfl, trivial⟩, ?_, rfl⟩
  show Ending.returned (Value.bool (decide (0 = 0))) = Ending.returned (Value.bool true)
  rfl
theorem tz64_c  (B : List (Option Nat)) (w : World) (hB : Bok B w) (hg : At (view B w) 3 15 [(Value.int .u8 ((4 : Nat) : Int))])  :
    Calls Tryd.prog 53 #[(Value.int .u64 ((16 : Nat) : Int))] w (RetQ w (Value.int .i64 ((4 : Nat) : Int))) := by
  have hL := Loc.start hB
  refine calls_of (l := [(Value.int .u64 ((16 : Nat) : Int))]) (rl := [.tmp 2]) (n := 14) Tryd.func53 rfl rfl rfl (by simp) ?_
  refine Swp.seq ?_
  refine Swp.region rfl ?_
  refine Rl.op (OpY.assign (v := (Value.int .i64 ((0 : Nat) : Int))) rfl ?_)
  refine Rl.nil ?_
  refine Swp.seq ?_
  refine Swp.seq ?_
  refine Swp.region rfl ?_
  refine Rl.op (OpY.move (v := (Value.int .u64 ((16 : Nat) : Int))) rfl ?_)
  refine Rl.op (OpY.eql (x := ((16 : Nat) : Int)) (y := ((0 : Nat) : Int)) (16 = 0) rfl rfl (by omega) ?_)
  refine Rl.nil ?_
  refine Swp.cond_f (b := (decide (16 = 0))) rfl (by decide) ?_
  refine Swp.skip ?_
  refine Swp.seq ?_
  refine Swp.region rfl ?_
  refine Rl.op (OpY.move (v := (Value.int .u64 ((16 : Nat) : Int))) rfl ?_)
  refine Rl.op (OpY.move (v := (Value.int .u64 ((16 : Nat) : Int))) rfl ?_)
  refine Rl.op (OpY.neg (x := ((16 : Nat) : Int)) (z := ((18446744073709551600 : Nat) : Int)) rfl (by decide) ?_)
  refine Rl.op (OpY.and (x := 16) (y := 18446744073709551600) rfl rfl (by decide) (by decide) ?_)
  refine Rl.op (OpY.mul (x := ((16 : Nat) : Int)) (y := ((285870213051353865 : Nat) : Int)) (z := ((4573923408821661840 : Nat) : Int)) rfl rfl (by decide) ?_)
  refine Rl.op (OpY.shr (x := 4573923408821661840) (s := 58) (q := 15) rfl rfl (by decide) (by decide) ?_)
  refine Rl.op (OpY.indexAddr_arr (i := 15) (q := 15) Tryd.underlying83 ti5 rfl rfl (by omega) (by omega) ?_)
  refine Rl.op (OpY.load_at (v := (Value.int .u8 ((4 : Nat) : Int))) Tryd.underlying5 rfl rfl (cellH_of_at hg rfl) ?_)
  refine Rl.op (OpY.convInt (x := ((4 : Nat) : Int)) (z := ((4 : Nat) : Int)) Tryd.underlying5 Tryd.underlying3 rfl (wq_i64 rfl (by omega) (by have := (show 4 < 256 from ((by decide))); omega)) ?_)
  refine Rl.op (OpY.assign (v := (Value.int .i64 ((4 : Nat) : Int))) rfl ?_)
  refine Rl.nil ?_
  refine Swp.ret ?_
  refine ⟨[(Value.int .i64 ((4 : Nat) : Int))], ⟨rfl, trivial⟩, ?_, rfl⟩
  show Ending.returned (Value.int .i64 ((4 : Nat) : Int)) = Ending.returned (Value.int .i64 ((4 : Nat) : Int))
  rfl
theorem tz_c  (B : List (Option Nat)) (w : World) (hB : Bok B w) (hg : At (view B w) 3 15 [(Value.int .u8 ((4 : Nat) : Int))])  :
    Calls Tryd.prog 49 #[(Value.int .u64 ((16 : Nat) : Int))] w (RetQ w (Value.int .i64 ((4 : Nat) : Int))) := by
  have hL := Loc.start hB
  refine calls_of (l := [(Value.int .u64 ((16 : Nat) : Int))]) (rl := [.tmp 2]) (n := 8) Tryd.func49 rfl rfl rfl (by simp) ?_
  refine Swp.seq ?_
  refine Swp.region rfl ?_
  refine Rl.op (OpY.assign (v := (Value.int .i64 ((0 : Nat) : Int))) rfl ?_)
  refine Rl.nil ?_
  refine Swp.seq ?_
  refine Swp.cond_f (b := false) rfl rfl ?_
  refine Swp.skip ?_
  refine Swp.seq ?_
  refine Swp.region rfl ?_
  refine Rl.op (OpY.move (v := (Value.int .u64 ((16 : Nat) : Int))) rfl ?_)
  refine Rl.op (OpY.callq (v := (Value.int .i64 ((4 : Nat) : Int))) en53 rfl rfl (tz64_c  ([] ++ B) _ hL.bokO hg ) ?_)
  refine Rl.op (OpY.assign (v := (Value.int .i64 ((4 : Nat) : Int))) rfl ?_)
  refine Rl.nil ?_
  refine Swp.ret ?_
  refine ⟨[(Value.int .i64 ((4 : Nat) : Int))], ⟨rfl, trivial⟩, ?_, rfl⟩
  show Ending.returned (Value.int .i64 ((4 : Nat) : Int)) = Ending.returned (Value.int .i64 ((4 : Nat) : Int))
  rfl
theorem fbits_c (u : Nat) (u_lt : u < 18446744073709551616) (B : List (Option Nat)) (w : World) (hB : Bok B w) (hg : At (view B w) 3 15 [(Value.int .u8 ((4 : Nat) : Int))])  :
    Calls Tryd.prog 39 #[(Value.slice none 0 0), (Value.int .u64 ((u : Nat) : Int)), (Value.int .i64 ((16 : Nat) : Int)), (Value.bool false), (Value.bool false)] w (Ret w (fun r w' => (Value.tuple #[(Value.slice none 0 0), (Value.string (str ((hexMin u))))]) = r)) := by
  have hL := Loc.start hB
  refine calls_of (l := [(Value.slice none 0 0), (Value.int .u64 ((u : Nat) : Int)), (Value.int .i64 ((16 : Nat) : Int)), (Value.bool false), (Value.bool false)]) (rl := [.tmp 10, .tmp 11]) (n := 102) Tryd.func39 rfl rfl rfl (by simp) ?_
  refine Swp.seq ?_
  refine Swp.region rfl ?_
  refine Rl.op (OpY.assign (v := (Value.slice none 0 0)) rfl ?_)
  refine Rl.op (OpY.assign (v := (Value.string (str (([] : List Nat))))) rfl ?_)
  refine Rl.nil ?_
  refine Swp.seq ?_
  refine Swp.seq ?_
  refine Swp.region rfl ?_
  refine Rl.op (OpY.move (v := (Value.int .i64 ((16 : Nat) : Int))) rfl ?_)
  refine Rl.op (OpY.lss (x := ((16 : Nat) : Int)) (y := ((2 : Nat) : Int)) (16 < 2) rfl rfl (by omega) ?_)
  refine Rl.op (OpY.move (v := (Value.bool (decide (16 < 2)))) rfl ?_)
  refine Rl.yes (b' := (decide (16 < 2))) rfl rfl (by decide) (OpY.move (v := (Value.int .i64 ((16 : Nat) : Int))) rfl ?_)
  refine Rl.yes (b' := (decide (16 < 2))) rfl rfl (by decide) (OpY.eql (x := ((16 : Nat) : Int)) (y := ((10 : Nat) : Int)) (16 = 10) rfl rfl (by omega) ?_)
  refine Rl.op (OpY.pick_f (t := (decide (16 < 2))) (v := (Value.bool (decide (16 = 10)))) rfl (by decide) rfl ?_)
  refine Rl.op (OpY.move (v := (Value.bool (decide (16 = 10)))) rfl ?_)
  refine Rl.yes (b' := (decide (16 = 10))) rfl rfl (by decide) (OpY.move (v := (Value.int .i64 ((16 : Nat) : Int))) rfl ?_)
  refine Rl.yes (b' := (decide (16 = 10))) rfl rfl (by decide) (OpY.gtr (x := ((16 : Nat) : Int)) (y := ((36 : Nat) : Int)) (16 > 36) rfl rfl (by omega) ?_)
  refine Rl.op (OpY.pick_f (t := (decide (16 = 10))) (v := (Value.bool (decide (16 > 36)))) rfl (by decide) rfl ?_)
  refine Rl.nil ?_
  refine Swp.cond_f (b := (decide (16 > 36))) rfl (by decide) ?_
  refine Swp.skip ?_
  refine Swp.seq ?_
  refine Swp.region rfl ?_
  refine Rl.op (OpY.alloc (cs := ints .u8 (List.replicate 65 0) ++ []) ti75 rfl hL ?_)
  intro b1 w2 hL3 hS4
  replace hg := hg.mono (hS4.le B)
  clear hL hS4
  replace hL3 : X.Loc [] B w w2 [some b1] [.cells (ints .u8 (List.replicate 65 0) ++ ([]))] := hL3
  refine Rl.nil ?_
  refine Swp.seq ?_
  refine Swp.region rfl ?_
  refine Rl.op (OpY.assign (v := (Value.int .i64 ((65 : Nat) : Int))) rfl ?_)
  refine Rl.nil ?_
  refine Swp.seq ?_
  refine Swp.seq ?_
  refine Swp.region rfl ?_
  refine Rl.op (OpY.move (v := (Value.bool false)) rfl ?_)
  refine Rl.nil ?_
  refine Swp.cond_f (b := false) rfl rfl ?_
  refine Swp.skip ?_
  refine Swp.seq ?_
  refine Swp.seq ?_
  refine Swp.region rfl ?_
  refine Rl.op (OpY.move (v := (Value.int .i64 ((16 : Nat) : Int))) rfl ?_)
  refine Rl.op (OpY.callq (v := (Value.bool true)) en48 rfl rfl (ipow_c  ([some b1] ++ B) _ hL3.bokO  ) ?_)
  refine Rl.nil ?_
  refine Swp.cond_t (b := true) rfl rfl ?_
  refine Swp.seq ?_
  refine Swp.region rfl ?_
  refine Rl.op (OpY.move (v := (Value.int .i64 ((16 : Nat) : Int))) rfl ?_)
  refine Rl.op (OpY.convInt (x := ((16 : Nat) : Int)) (z := ((16 : Nat) : Int)) Tryd.underlying3 Tryd.underlying41 rfl (wq_u64 rfl (by first | omega | decide)) ?_)
  refine Rl.op (OpY.callq (v := (Value.int .i64 ((4 : Nat) : Int))) en49 rfl rfl (tz_c  ([some b1] ++ B) _ hL3.bokO hg ) ?_)
  refine Rl.op (OpY.convInt (x := ((4 : Nat) : Int)) (z := ((4 : Nat) : Int)) Tryd.underlying3 Tryd.underlying41 rfl (wq_u64 rfl (by first | omega | decide)) ?_)
  refine Rl.op (OpY.assign (v := (Value.int .u64 ((4 : Nat) : Int))) rfl ?_)
  refine Rl.nil ?_
  refine Swp.seq ?_
  refine Swp.region rfl ?_
  refine Rl.op (OpY.move (v := (Value.int .i64 ((16 : Nat) : Int))) rfl ?_)
  refine Rl.op (OpY.convInt (x := ((16 : Nat) : Int)) (z := ((16 : Nat) : Int)) Tryd.underlying3 Tryd.underlying24 rfl (wq_u64 rfl (by first | omega | decide)) ?_)
  refine Rl.op (OpY.assign (v := (Value.int .u64 ((16 : Nat) : Int))) rfl ?_)
  refine Rl.nil ?_
  refine Swp.seq ?_
  refine Swp.region rfl ?_
  refine Rl.op (OpY.move (v := (Value.int .i64 ((16 : Nat) : Int))) rfl ?_)
  refine Rl.op (OpY.convInt (x := ((16 : Nat) : Int)) (z := ((16 : Nat) : Int)) Tryd.underlying3 Tryd.underlying41 rfl (wq_u64 rfl (by first | omega | decide)) ?_)
  refine Rl.op (OpY.sub (x := ((16 : Nat) : Int)) (y := ((1 : Nat) : Int)) (z := ((15 : Nat) : Int)) rfl rfl (by decide) ?_)
  refine Rl.op (OpY.assign (v := (Value.int .u64 ((15 : Nat) : Int))) rfl ?_)
  refine Rl.nil ?_
  refine Swp.seq ?_
  refine Swp.block ?_
  refine Swp.loopS [1, 13, 44, 45, 46, 47, 48, 49, 50, 51, 52, 53, 54, 55, 56, 57] (σ := (Nat) × (Nat) × (List Nat)) (fun ss => (fun (i : Nat) (m : Nat) (xs : List Nat) => [(13, (Value.int .i64 ((i : Nat) : Int))), (1, (Value.int .u64 ((m : Nat) : Int)))]) ss.1 ss.2.1 ss.2.2) (fun ss w' => (fun (i : Nat) (m : Nat) (xs : List Nat) => X.Loc [] B w w' [some b1] [.cells (ints .u8 (xs) ++ ([]))] ∧ At (view ([some b1] ++ B) w') 3 15 [(Value.int .u8 ((4 : Nat) : Int))] ∧ (50 ≤ i ∧ i ≤ 65) ∧ (m < 18446744073709551616) ∧ (m < 16 ^ (i - 49)) ∧ (xs.length = 65) ∧ (hexMin u = hexF (i - 48) m ++ xs.drop i) ∧ True) ss.1 ss.2.1 ss.2.2) (fun ss => (fun (i : Nat) (m : Nat) (xs : List Nat) => m) ss.1 ss.2.1 ss.2.2) ((65), (u), (List.replicate 65 0)) ⟨hL3, hg, (by omega), (by omega), (by simpa using u_lt), (by simp), (by simp [hexMin]), trivial⟩ ⟨rfl, rfl, trivial⟩ ?_
  clear hg
  clear hL3
  rintro ⟨i, m, xs⟩ e5 w6 ⟨hL7, hg, hi, hml, hu, hxl, hx, -⟩
  replace hi : 50 ≤ i ∧ i ≤ 65 := hi
  replace hml : m < 18446744073709551616 := hml
  replace hu : m < 16 ^ (i - 49) := hu
  replace hxl : xs.length = 65 := hxl
  replace hx : hexMin u = hexF (i - 48) m ++ xs.drop i := hx
  show Swp _ _ _ _ ((upd (upd (mix _ e5 _) 1 (Value.int .u64 ((m : Nat) : Int))) 13 (Value.int .i64 ((i : Nat) : Int)))) w6
  refine Swp.seq ?_
  refine Swp.seq ?_
  refine Swp.region rfl ?_
  refine Rl.op (OpY.move (v := (Value.int .u64 ((m : Nat) : Int))) rfl ?_)
  refine Rl.op (OpY.move (v := (Value.int .u64 ((16 : Nat) : Int))) rfl ?_)
  refine Rl.op (OpY.geq (x := ((m : Nat) : Int)) (y := ((16 : Nat) : Int)) (m ≥ 16) rfl rfl (by omega) ?_)
  refine Rl.nil ?_
  refine Swp.cond_d (m ≥ 16) rfl (fun hc8 => ?_) (fun hc8 => ?_)
  ·
    skip
    refine Swp.skip ?_
    refine Swp.block ?_
    refine Swp.seq ?_
    refine Swp.region rfl ?_
    refine Rl.op (OpY.move (v := (Value.int .i64 ((i : Nat) : Int))) rfl ?_)
    refine Rl.op (OpY.sub (x := ((i : Nat) : Int)) (y := ((1 : Nat) : Int)) (z := (((i - 1) : Nat) : Int)) rfl rfl (wq_i64 (by omega) (by omega) (by omega)) ?_)
    refine Rl.op (OpY.assign (v := (Value.int .i64 (((i - 1) : Nat) : Int))) rfl ?_)
    refine Rl.nil ?_
    refine Swp.seq ?_
    refine Swp.region rfl ?_
    refine Rl.op (OpY.move (v := (Value.int .i64 (((i - 1) : Nat) : Int))) rfl ?_)
    refine Rl.op (OpY.move (v := (Value.int .u64 ((m : Nat) : Int))) rfl ?_)
    refine Rl.op (OpY.move (v := (Value.int .u64 ((15 : Nat) : Int))) rfl ?_)
    refine Rl.op (OpY.and (x := m) (y := 15) rfl rfl (wq_u64 rfl (hml)) (wq_u64 rfl ((by decide))) ?_)
    refine Rl.op (OpY.strIndexD (xs := ([48, 49, 50, 51, 52, 53, 54, 55, 56, 57, 97, 98, 99, 100, 101, 102, 103, 104, 105, 106, 107, 108, 109, 110, 111, 112, 113, 114, 115, 116, 117, 118, 119, 120, 121, 122] : List Nat)) (i := (m &&& 15)) Tryd.underlying9 rfl rfl (by decide) (by first | exact Nat.lt_of_le_of_lt Nat.and_le_right (by decide) | (simp; omega)) ?_)
    refine Rl.op (OpY.indexAddr_arr (i := (i - 1)) (q := (i - 1)) Tryd.underlying75 ti5 rfl rfl (by omega) (by omega) ?_)
    refine Rl.op0 (OpY.store_ints (k := .u8) (j := (i - 1)) (v := ((([48, 49, 50, 51, 52, 53, 54, 55, 56, 57, 97, 98, 99, 100, 101, 102, 103, 104, 105, 106, 107, 108, 109, 110, 111, 112, 113, 114, 115, 116, 117, 118, 119, 120, 121, 122] : List Nat)).getD ((m &&& 15)) 0)) (xs := xs) (sp := []) ti5 rfl rfl hL7 0 rfl rfl (by first | omega | (simp; omega)) ?_)
    intro w9 hL10 hS11
    replace hg := hg.mono (hS11.le B)
    clear hL7 hS11
    replace hL10 : X.Loc [] B w w9 [some b1] [.cells (ints .u8 ((xs).set ((i - 1)) (((([48, 49, 50, 51, 52, 53, 54, 55, 56, 57, 97, 98, 99, 100, 101, 102, 103, 104, 105, 106, 107, 108, 109, 110, 111, 112, 113, 114, 115, 116, 117, 118, 119, 120, 121, 122] : List Nat)).getD ((m &&& 15)) 0))) ++ ([]))] := hL10
    refine Rl.nil ?_
    refine Swp.region rfl ?_
    refine Rl.op (OpY.move (v := (Value.int .u64 ((m : Nat) : Int))) rfl ?_)
    refine Rl.op (OpY.move (v := (Value.int .u64 ((4 : Nat) : Int))) rfl ?_)
    refine Rl.op (OpY.shr (x := m) (s := 4) (q := (m / 16)) rfl rfl (by decide) rfl ?_)
    refine Rl.op (OpY.assign (v := (Value.int .u64 (((m / 16) : Nat) : Int))) rfl ?_)
    refine Rl.nil ?_
    refine Swp.pop_blk ?_
    refine Swp.pop_back ⟨(((i - 1)), ((m / 16)), ((xs).set ((i - 1)) (((([48, 49, 50, 51, 52, 53, 54, 55, 56, 57, 97, 98, 99, 100, 101, 102, 103, 104, 105, 106, 107, 108, 109, 110, 111, 112, 113, 114, 115, 116, 117, 118, 119, 120, 121, 122] : List Nat)).getD ((m &&& 15)) 0)))), ⟨hL10, hg, ?_, ?_, ?_, ?_, ?_, trivial⟩, ?_, ⟨rfl, rfl, trivial⟩, ?_⟩
    · show 50 ≤ ((i - 1)) ∧ ((i - 1)) ≤ 65
      have h9 := hex_step (by assumption) hu hi.1
      omega
    · show ((m / 16)) < 18446744073709551616
      omega
    · show ((m / 16)) < 16 ^ (((i - 1)) - 49)
      exact (hex_step (by assumption) hu hi.1).2
    · show ((xs).set ((i - 1)) (((([48, 49, 50, 51, 52, 53, 54, 55, 56, 57, 97, 98, 99, 100, 101, 102, 103, 104, 105, 106, 107, 108, 109, 110, 111, 112, 113, 114, 115, 116, 117, 118, 119, 120, 121, 122] : List Nat)).getD ((m &&& 15)) 0))).length = 65
      simp [hxl]
    · show hexMin u = hexF (((i - 1)) - 48) ((m / 16)) ++ ((xs).set ((i - 1)) (((([48, 49, 50, 51, 52, 53, 54, 55, 56, 57, 97, 98, 99, 100, 101, 102, 103, 104, 105, 106, 107, 108, 109, 110, 111, 112, 113, 114, 115, 116, 117, 118, 119, 120, 121, 122] : List Nat)).getD ((m &&& 15)) 0))).drop ((i - 1))
      exact hex_round hx hxl (hex_step (by assumption) hu hi.1).1 hi.2 (by assumption) (by rw [and_15]; exact digs36_get _ (Nat.mod_lt _ (by decide)))
    · show ((m / 16)) < m
      omega
    · repeat (first | exact agree_mix | exact agree_refl | refine agree_upd rfl ?_ | refine agree_mix2 rfl ?_)
  ·
    skip
    refine Swp.exit rfl ?_
    refine Swp.seq ?_
    refine Swp.region rfl ?_
    refine Rl.op (OpY.move (v := (Value.int .i64 ((i : Nat) : Int))) rfl ?_)
    refine Rl.op (OpY.sub (x := ((i : Nat) : Int)) (y := ((1 : Nat) : Int)) (z := (((i - 1) : Nat) : Int)) rfl rfl (wq_i64 (by omega) (by omega) (by omega)) ?_)
    refine Rl.op (OpY.assign (v := (Value.int .i64 (((i - 1) : Nat) : Int))) rfl ?_)
    refine Rl.nil ?_
    refine Swp.region rfl ?_
    refine Rl.op (OpY.move (v := (Value.int .i64 (((i - 1) : Nat) : Int))) rfl ?_)
    refine Rl.op (OpY.move (v := (Value.int .u64 ((m : Nat) : Int))) rfl ?_)
    refine Rl.op (OpY.strIndexD (xs := ([48, 49, 50, 51, 52, 53, 54, 55, 56, 57, 97, 98, 99, 100, 101, 102, 103, 104, 105, 106, 107, 108, 109, 110, 111, 112, 113, 114, 115, 116, 117, 118, 119, 120, 121, 122] : List Nat)) (i := m) Tryd.underlying9 rfl rfl (by decide) (by first | exact Nat.lt_of_le_of_lt Nat.and_le_right (by decide) | (simp; omega)) ?_)
    refine Rl.op (OpY.indexAddr_arr (i := (i - 1)) (q := (i - 1)) Tryd.underlying75 ti5 rfl rfl (by omega) (by omega) ?_)
    refine Rl.op0 (OpY.store_ints (k := .u8) (j := (i - 1)) (v := ((([48, 49, 50, 51, 52, 53, 54, 55, 56, 57, 97, 98, 99, 100, 101, 102, 103, 104, 105, 106, 107, 108, 109, 110, 111, 112, 113, 114, 115, 116, 117, 118, 119, 120, 121, 122] : List Nat)).getD (m) 0)) (xs := xs) (sp := []) ti5 rfl rfl hL7 0 rfl rfl (by first | omega | (simp; omega)) ?_)
    intro w12 hL13 hS14
    replace hg := hg.mono (hS14.le B)
    clear hL7 hS14
    replace hL13 : X.Loc [] B w w12 [some b1] [.cells (ints .u8 ((xs).set ((i - 1)) (((([48, 49, 50, 51, 52, 53, 54, 55, 56, 57, 97, 98, 99, 100, 101, 102, 103, 104, 105, 106, 107, 108, 109, 110, 111, 112, 113, 114, 115, 116, 117, 118, 119, 120, 121, 122] : List Nat)).getD (m) 0))) ++ ([]))] := hL13
    refine Rl.nil ?_
    refine Swp.seq ?_
    refine Swp.seq ?_
    refine Swp.region rfl ?_
    refine Rl.op (OpY.move (v := (Value.bool false)) rfl ?_)
    refine Rl.nil ?_
    refine Swp.cond_f (b := false) rfl rfl ?_
    refine Swp.skip ?_
    refine Swp.seq ?_
    refine Swp.seq ?_
    refine Swp.region rfl ?_
    refine Rl.op (OpY.move (v := (Value.bool false)) rfl ?_)
    refine Rl.nil ?_
    refine Swp.cond_f (b := false) rfl rfl ?_
    refine Swp.skip ?_
    refine Swp.seq ?_
    refine Swp.region rfl ?_
    refine Rl.op (OpY.move (v := (Value.int .i64 (((i - 1) : Nat) : Int))) rfl ?_)
    refine Rl.op (OpY.slice_arr (l := (i - 1)) (h := 65) Tryd.underlying75 ti5 rfl (.inr ⟨_, _, rfl, rfl⟩) (.inl ⟨rfl, rfl⟩) (by omega) (by omega) (by omega) ?_)
    refine Rl.op (OpY.ownToStr (i := 0) (xs := (xs).set ((i - 1)) (((([48, 49, 50, 51, 52, 53, 54, 55, 56, 57, 97, 98, 99, 100, 101, 102, 103, 104, 105, 106, 107, 108, 109, 110, 111, 112, 113, 114, 115, 116, 117, 118, 119, 120, 121, 122] : List Nat)).getD (m) 0))) (sp := []) (ys := hexMin u) Tryd.underlying22 Tryd.underlying5 Tryd.underlying9 rfl hL13 rfl rfl (by have h9 := hex_last hx hxl hi.1 hi.2 (by omega) (digs36_get m (by omega)); have h8 := congrArg List.length h9; simp only [List.length_drop, List.length_set, hxl] at h8; omega) (by have h9 := hex_last hx hxl hi.1 hi.2 (by omega) (digs36_get m (by omega)); have h8 := congrArg List.length h9; simp only [List.length_drop, List.length_set, hxl] at h8; simp only [Nat.zero_add, Nat.mul_one]; rw [List.take_of_length_le (by simp; omega)]; exact h9) (by have h9 := hex_last hx hxl hi.1 hi.2 (by omega) (digs36_get m (by omega)); have h8 := congrArg List.length h9; simp only [List.length_drop, List.length_set, hxl] at h8; omega) ?_)
    refine Rl.op (OpY.assign (v := (Value.string (str ((hexMin u))))) rfl ?_)
    refine Rl.nil ?_
    refine Swp.ret ?_
    refine ⟨[(Value.slice none 0 0), (Value.string (str ((hexMin u))))], ⟨rfl, ⟨rfl, trivial⟩⟩, ?_⟩
    refine ⟨_, rfl, hL13.done, ?_⟩
    · rfl
theorem ifu_c (u : Nat) (u_lt : u < 18446744073709551616) (B : List (Option Nat)) (w : World) (hB : Bok B w) (hg : At (view B w) 3 15 [(Value.int .u8 ((4 : Nat) : Int))])  :
    Calls Tryd.prog 29 #[(Value.int .u64 ((u : Nat) : Int)), (Value.int .i64 ((16 : Nat) : Int))] w (Ret w (fun r w' => (Value.string (str ((hexMin u)))) = r)) := by
  have hL := Loc.start hB
  refine calls_of (l := [(Value.int .u64 ((u : Nat) : Int)), (Value.int .i64 ((16 : Nat) : Int))]) (rl := [.tmp 4]) (n := 32) Tryd.func29 rfl rfl rfl (by simp) ?_
  refine Swp.seq ?_
  refine Swp.region rfl ?_
  refine Rl.op (OpY.assign (v := (Value.string (str (([] : List Nat))))) rfl ?_)
  refine Rl.nil ?_
  refine Swp.seq ?_
  refine Swp.seq ?_
  refine Swp.region rfl ?_
  refine Rl.op (OpY.move (v := (Value.int .i64 ((16 : Nat) : Int))) rfl ?_)
  refine Rl.op (OpY.eql (x := ((16 : Nat) : Int)) (y := ((10 : Nat) : Int)) (16 = 10) rfl rfl (by omega) ?_)
  refine Rl.nil ?_
  refine Swp.cond_f (b := (decide (16 = 10))) rfl (by decide) ?_
  refine Swp.skip ?_
  refine Swp.seq ?_
  refine Swp.region rfl ?_
  refine Rl.op (OpY.move (v := (Value.int .u64 ((u : Nat) : Int))) rfl ?_)
  refine Rl.op (OpY.move (v := (Value.int .i64 ((16 : Nat) : Int))) rfl ?_)
  refine Rl.op (OpY.call en39 rfl rfl (fbits_c (u) (u_lt) ([] ++ B) _ hL.bokO hg ) ?_)
  rintro r1 w2 hE3 ⟨rfl⟩
  replace hg := hg.mono (hE3.le ([] ++ B))
  have hL4 := hL.ext hE3
  refine Rl.op (OpY.move (v := (Value.tuple #[(Value.slice none 0 0), (Value.string (str ((hexMin (u)))))])) rfl ?_)
  refine Rl.op (OpY.extract (vs := [(Value.slice none 0 0), (Value.string (str ((hexMin (u)))))]) (v := (Value.slice none 0 0)) rfl rfl ?_)
  refine Rl.op (OpY.extract (vs := [(Value.slice none 0 0), (Value.string (str ((hexMin (u)))))]) (v := (Value.string (str ((hexMin (u)))))) rfl rfl ?_)
  refine Rl.op (OpY.assign (v := (Value.slice none 0 0)) rfl ?_)
  refine Rl.op (OpY.assign (v := (Value.string (str ((hexMin (u)))))) rfl ?_)
  refine Rl.nil ?_
  refine Swp.seq ?_
  refine Swp.region rfl ?_
  refine Rl.op (OpY.move (v := (Value.string (str ((hexMin (u)))))) rfl ?_)
  refine Rl.op (OpY.assign (v := (Value.string (str ((hexMin (u)))))) rfl ?_)
  refine Rl.nil ?_
  refine Swp.ret ?_
  refine ⟨[(Value.string (str ((hexMin (u)))))], ⟨rfl, trivial⟩, ?_⟩
  refine ⟨_, rfl, hL4.done, ?_⟩
  · rfl
theorem fu_c (u : Nat) (u_lt : u < 18446744073709551616) (B : List (Option Nat)) (w : World) (hB : Bok B w) (hg : At (view B w) 3 15 [(Value.int .u8 ((4 : Nat) : Int))])  :
    Calls Tryd.prog 27 #[(Value.int .u64 ((u : Nat) : Int)), (Value.int .i64 ((16 : Nat) : Int))] w (Ret w (fun r w' => (Value.string (str ((hexMin u)))) = r)) := by
  have hL := Loc.start hB
  refine calls_of (l := [(Value.int .u64 ((u : Nat) : Int)), (Value.int .i64 ((16 : Nat) : Int))]) (rl := [.tmp 4]) (n := 8) Tryd.func27 rfl rfl rfl (by simp) ?_
  refine Swp.seq ?_
  refine Swp.region rfl ?_
  refine Rl.op (OpY.assign (v := (Value.string (str (([] : List Nat))))) rfl ?_)
  refine Rl.nil ?_
  refine Swp.seq ?_
  refine Swp.region rfl ?_
  refine Rl.op (OpY.move (v := (Value.int .u64 ((u : Nat) : Int))) rfl ?_)
  refine Rl.op (OpY.move (v := (Value.int .i64 ((16 : Nat) : Int))) rfl ?_)
  refine Rl.op (OpY.call en29 rfl rfl (ifu_c (u) (u_lt) ([] ++ B) _ hL.bokO hg ) ?_)
  rintro r1 w2 hE3 ⟨rfl⟩
  replace hg := hg.mono (hE3.le ([] ++ B))
  have hL4 := hL.ext hE3
  refine Rl.op (OpY.assign (v := (Value.string (str ((hexMin (u)))))) rfl ?_)
  refine Rl.nil ?_
  refine Swp.ret ?_
  refine ⟨[(Value.string (str ((hexMin (u)))))], ⟨rfl, trivial⟩, ?_⟩
  refine ⟨_, rfl, hL4.done, ?_⟩
  · rfl
theorem mul64_c (c : Nat) (c_lt : c < 18446744073709551616) (B : List (Option Nat)) (w : World) (hB : Bok B w)  (c_le : c ≤ 64) :
    Calls Tryd.prog 41 #[(Value.int .u64 ((1 : Nat) : Int)), (Value.int .u64 ((c : Nat) : Int))] w (RetQ w (Value.tuple #[(Value.int .u64 ((0 : Nat) : Int)), (Value.int .u64 ((c : Nat) : Int))])) := by
  have hL := Loc.start hB
  refine calls_of (l := [(Value.int .u64 ((1 : Nat) : Int)), (Value.int .u64 ((c : Nat) : Int))]) (rl := [.tmp 4, .tmp 5]) (n := 51) Tryd.func41 rfl rfl rfl (by simp) ?_
  refine Swp.seq ?_
  refine Swp.region rfl ?_
  refine Rl.op (OpY.assign (v := (Value.int .u64 ((0 : Nat) : Int))) rfl ?_)
  refine Rl.op (OpY.assign (v := (Value.int .u64 ((0 : Nat) : Int))) rfl ?_)
  refine Rl.nil ?_
  refine Swp.seq ?_
  refine Swp.region rfl ?_
  refine Rl.op (OpY.move (v := (Value.int .u64 ((1 : Nat) : Int))) rfl ?_)
  refine Rl.op (OpY.and (x := 1) (y := 4294967295) rfl rfl (by decide) (by decide) ?_)
  refine Rl.op (OpY.assign (v := (Value.int .u64 ((1 : Nat) : Int))) rfl ?_)
  refine Rl.nil ?_
  refine Swp.seq ?_
  refine Swp.region rfl ?_
  refine Rl.op (OpY.move (v := (Value.int .u64 ((1 : Nat) : Int))) rfl ?_)
  refine Rl.op (OpY.shr (x := 1) (s := 32) (q := 0) rfl rfl (by decide) (by decide) ?_)
  refine Rl.op (OpY.assign (v := (Value.int .u64 ((0 : Nat) : Int))) rfl ?_)
  refine Rl.nil ?_
  refine Swp.seq ?_
  refine Swp.region rfl ?_
  refine Rl.op (OpY.move (v := (Value.int .u64 ((c : Nat) : Int))) rfl ?_)
  refine Rl.op (OpY.and (x := c) (y := 4294967295) rfl rfl (wq_u64 rfl (c_lt)) (wq_u64 rfl ((by decide))) ?_)
  refine Rl.op (OpY.assign (v := (Value.int .u64 (((c &&& 4294967295) : Nat) : Int))) rfl ?_)
  refine Rl.nil ?_
  refine Swp.seq ?_
  refine Swp.region rfl ?_
  refine Rl.op (OpY.move (v := (Value.int .u64 ((c : Nat) : Int))) rfl ?_)
  refine Rl.op (OpY.shr (x := c) (s := 32) (q := (c / 4294967296)) rfl rfl (by decide) rfl ?_)
  refine Rl.op (OpY.assign (v := (Value.int .u64 (((c / 4294967296) : Nat) : Int))) rfl ?_)
  refine Rl.nil ?_
  refine Swp.seq ?_
  refine Swp.region rfl ?_
  refine Rl.op (OpY.move (v := (Value.int .u64 ((1 : Nat) : Int))) rfl ?_)
  refine Rl.op (OpY.move (v := (Value.int .u64 (((c &&& 4294967295) : Nat) : Int))) rfl ?_)
  refine Rl.op (OpY.mul (x := ((1 : Nat) : Int)) (y := (((c &&& 4294967295) : Nat) : Int)) (z := (((1 * (c &&& 4294967295)) : Nat) : Int)) rfl rfl (wq_u64 (by first | omega | exact (Int.natCast_mul _ _).symm) (by first | omega | (simp only [and_mask]; omega))) ?_)
  refine Rl.op (OpY.assign (v := (Value.int .u64 (((1 * (c &&& 4294967295)) : Nat) : Int))) rfl ?_)
  refine Rl.nil ?_
  refine Swp.seq ?_
  refine Swp.region rfl ?_
  refine Rl.op (OpY.move (v := (Value.int .u64 ((0 : Nat) : Int))) rfl ?_)
  refine Rl.op (OpY.move (v := (Value.int .u64 (((c &&& 4294967295) : Nat) : Int))) rfl ?_)
  refine Rl.op (OpY.mul (x := ((0 : Nat) : Int)) (y := (((c &&& 4294967295) : Nat) : Int)) (z := (((0 * (c &&& 4294967295)) : Nat) : Int)) rfl rfl (wq_u64 (by first | omega | exact (Int.natCast_mul _ _).symm) (by first | omega | (simp only [and_mask]; omega))) ?_)
  refine Rl.op (OpY.move (v := (Value.int .u64 (((1 * (c &&& 4294967295)) : Nat) : Int))) rfl ?_)
  refine Rl.op (OpY.shr (x := (1 * (c &&& 4294967295))) (s := 32) (q := ((1 * (c &&& 4294967295)) / 4294967296)) rfl rfl (by decide) rfl ?_)
  refine Rl.op (OpY.add (x := (((0 * (c &&& 4294967295)) : Nat) : Int)) (y := ((((1 * (c &&& 4294967295)) / 4294967296) : Nat) : Int)) (z := ((((0 * (c &&& 4294967295)) + ((1 * (c &&& 4294967295)) / 4294967296)) : Nat) : Int)) rfl rfl (wq_u64 (by omega) (by first | omega | (simp only [and_mask]; omega))) ?_)
  refine Rl.op (OpY.assign (v := (Value.int .u64 ((((0 * (c &&& 4294967295)) + ((1 * (c &&& 4294967295)) / 4294967296)) : Nat) : Int))) rfl ?_)
  refine Rl.nil ?_
  refine Swp.seq ?_
  refine Swp.region rfl ?_
  refine Rl.op (OpY.move (v := (Value.int .u64 ((((0 * (c &&& 4294967295)) + ((1 * (c &&& 4294967295)) / 4294967296)) : Nat) : Int))) rfl ?_)
  refine Rl.op (OpY.and (x := ((0 * (c &&& 4294967295)) + ((1 * (c &&& 4294967295)) / 4294967296))) (y := 4294967295) rfl rfl (wq_u64 rfl ((by first | omega | (simp only [and_mask]; omega)))) (wq_u64 rfl ((by decide))) ?_)
  refine Rl.op (OpY.assign (v := (Value.int .u64 (((((0 * (c &&& 4294967295)) + ((1 * (c &&& 4294967295)) / 4294967296)) &&& 4294967295) : Nat) : Int))) rfl ?_)
  refine Rl.nil ?_
  refine Swp.seq ?_
  refine Swp.region rfl ?_
  refine Rl.op (OpY.move (v := (Value.int .u64 ((((0 * (c &&& 4294967295)) + ((1 * (c &&& 4294967295)) / 4294967296)) : Nat) : Int))) rfl ?_)
  refine Rl.op (OpY.shr (x := ((0 * (c &&& 4294967295)) + ((1 * (c &&& 4294967295)) / 4294967296))) (s := 32) (q := (((0 * (c &&& 4294967295)) + ((1 * (c &&& 4294967295)) / 4294967296)) / 4294967296)) rfl rfl (by decide) rfl ?_)
  refine Rl.op (OpY.assign (v := (Value.int .u64 (((((0 * (c &&& 4294967295)) + ((1 * (c &&& 4294967295)) / 4294967296)) / 4294967296) : Nat) : Int))) rfl ?_)
  refine Rl.nil ?_
  refine Swp.seq ?_
  refine Swp.region rfl ?_
  refine Rl.op (OpY.move (v := (Value.int .u64 (((((0 * (c &&& 4294967295)) + ((1 * (c &&& 4294967295)) / 4294967296)) &&& 4294967295) : Nat) : Int))) rfl ?_)
  refine Rl.op (OpY.move (v := (Value.int .u64 ((1 : Nat) : Int))) rfl ?_)
  refine Rl.op (OpY.move (v := (Value.int .u64 (((c / 4294967296) : Nat) : Int))) rfl ?_)
  refine Rl.op (OpY.mul (x := ((1 : Nat) : Int)) (y := (((c / 4294967296) : Nat) : Int)) (z := (((1 * (c / 4294967296)) : Nat) : Int)) rfl rfl (wq_u64 (by first | omega | exact (Int.natCast_mul _ _).symm) (by first | omega | (simp only [and_mask]; omega))) ?_)
  refine Rl.op (OpY.add (x := (((((0 * (c &&& 4294967295)) + ((1 * (c &&& 4294967295)) / 4294967296)) &&& 4294967295) : Nat) : Int)) (y := (((1 * (c / 4294967296)) : Nat) : Int)) (z := ((((((0 * (c &&& 4294967295)) + ((1 * (c &&& 4294967295)) / 4294967296)) &&& 4294967295) + (1 * (c / 4294967296))) : Nat) : Int)) rfl rfl (wq_u64 (by omega) (by first | omega | (simp only [and_mask]; omega))) ?_)
  refine Rl.op (OpY.assign (v := (Value.int .u64 ((((((0 * (c &&& 4294967295)) + ((1 * (c &&& 4294967295)) / 4294967296)) &&& 4294967295) + (1 * (c / 4294967296))) : Nat) : Int))) rfl ?_)
  refine Rl.nil ?_
  refine Swp.seq ?_
  refine Swp.region rfl ?_
  refine Rl.op (OpY.move (v := (Value.int .u64 ((0 : Nat) : Int))) rfl ?_)
  refine Rl.op (OpY.move (v := (Value.int .u64 (((c / 4294967296) : Nat) : Int))) rfl ?_)
  refine Rl.op (OpY.mul (x := ((0 : Nat) : Int)) (y := (((c / 4294967296) : Nat) : Int)) (z := (((0 * (c / 4294967296)) : Nat) : Int)) rfl rfl (wq_u64 (by first | omega | exact (Int.natCast_mul _ _).symm) (by first | omega | (simp only [and_mask]; omega))) ?_)
  refine Rl.op (OpY.move (v := (Value.int .u64 (((((0 * (c &&& 4294967295)) + ((1 * (c &&& 4294967295)) / 4294967296)) / 4294967296) : Nat) : Int))) rfl ?_)
  refine Rl.op (OpY.add (x := (((0 * (c / 4294967296)) : Nat) : Int)) (y := (((((0 * (c &&& 4294967295)) + ((1 * (c &&& 4294967295)) / 4294967296)) / 4294967296) : Nat) : Int)) (z := ((((0 * (c / 4294967296)) + (((0 * (c &&& 4294967295)) + ((1 * (c &&& 4294967295)) / 4294967296)) / 4294967296)) : Nat) : Int)) rfl rfl (wq_u64 (by omega) (by first | omega | (simp only [and_mask]; omega))) ?_)
  refine Rl.op (OpY.move (v := (Value.int .u64 ((((((0 * (c &&& 4294967295)) + ((1 * (c &&& 4294967295)) / 4294967296)) &&& 4294967295) + (1 * (c / 4294967296))) : Nat) : Int))) rfl ?_)
  refine Rl.op (OpY.shr (x := ((((0 * (c &&& 4294967295)) + ((1 * (c &&& 4294967295)) / 4294967296)) &&& 4294967295) + (1 * (c / 4294967296)))) (s := 32) (q := (((((0 * (c &&& 4294967295)) + ((1 * (c &&& 4294967295)) / 4294967296)) &&& 4294967295) + (1 * (c / 4294967296))) / 4294967296)) rfl rfl (by decide) rfl ?_)
  refine Rl.op (OpY.add (x := ((((0 * (c / 4294967296)) + (((0 * (c &&& 4294967295)) + ((1 * (c &&& 4294967295)) / 4294967296)) / 4294967296)) : Nat) : Int)) (y := (((((((0 * (c &&& 4294967295)) + ((1 * (c &&& 4294967295)) / 4294967296)) &&& 4294967295) + (1 * (c / 4294967296))) / 4294967296) : Nat) : Int)) (z := (((((0 * (c / 4294967296)) + (((0 * (c &&& 4294967295)) + ((1 * (c &&& 4294967295)) / 4294967296)) / 4294967296)) + (((((0 * (c &&& 4294967295)) + ((1 * (c &&& 4294967295)) / 4294967296)) &&& 4294967295) + (1 * (c / 4294967296))) / 4294967296)) : Nat) : Int)) rfl rfl (wq_u64 (by omega) (by first | omega | (simp only [and_mask]; omega))) ?_)
  refine Rl.op (OpY.assign (v := (Value.int .u64 (((((0 * (c / 4294967296)) + (((0 * (c &&& 4294967295)) + ((1 * (c &&& 4294967295)) / 4294967296)) / 4294967296)) + (((((0 * (c &&& 4294967295)) + ((1 * (c &&& 4294967295)) / 4294967296)) &&& 4294967295) + (1 * (c / 4294967296))) / 4294967296)) : Nat) : Int))) rfl ?_)
  refine Rl.nil ?_
  refine Swp.seq ?_
  refine Swp.region rfl ?_
  refine Rl.op (OpY.move (v := (Value.int .u64 ((1 : Nat) : Int))) rfl ?_)
  refine Rl.op (OpY.move (v := (Value.int .u64 ((c : Nat) : Int))) rfl ?_)
  refine Rl.op (OpY.mul (x := ((1 : Nat) : Int)) (y := ((c : Nat) : Int)) (z := (((1 * c) : Nat) : Int)) rfl rfl (wq_u64 (by first | omega | exact (Int.natCast_mul _ _).symm) (by first | omega | (simp only [and_mask]; omega))) ?_)
  refine Rl.op (OpY.assign (v := (Value.int .u64 (((1 * c) : Nat) : Int))) rfl ?_)
  refine Rl.nil ?_
  refine Swp.ret ?_
  refine ⟨[(Value.int .u64 (((((0 * (c / 4294967296)) + (((0 * (c &&& 4294967295)) + ((1 * (c &&& 4294967295)) / 4294967296)) / 4294967296)) + (((((0 * (c &&& 4294967295)) + ((1 * (c &&& 4294967295)) / 4294967296)) &&& 4294967295) + (1 * (c / 4294967296))) / 4294967296)) : Nat) : Int)), (Value.int .u64 (((1 * c) : Nat) : Int))], ⟨rfl, rfl, trivial⟩, ?_, rfl⟩
  show Ending.returned (Value.tuple #[(Value.int .u64 (((((0 * (c / 4294967296)) + (((0 * (c &&& 4294967295)) + ((1 * (c &&& 4294967295)) / 4294967296)) / 4294967296)) + (((((0 * (c &&& 4294967295)) + ((1 * (c &&& 4294967295)) / 4294967296)) &&& 4294967295) + (1 * (c / 4294967296))) / 4294967296)) : Nat) : Int)), (Value.int .u64 (((1 * c) : Nat) : Int))]) = Ending.returned (Value.tuple #[(Value.int .u64 ((0 : Nat) : Int)), (Value.int .u64 ((c : Nat) : Int))])
  simp only [and_mask]
  congr 4
  · simp; omega
  · simp
theorem mulc_c (c : Nat) (c_lt : c < 18446744073709551616) (B : List (Option Nat)) (w : World) (hB : Bok B w)  (c_le : c ≤ 64) :
    Calls Tryd.prog 30 #[(Value.int .u64 ((1 : Nat) : Int)), (Value.int .u64 ((c : Nat) : Int))] w (RetQ w (Value.tuple #[(Value.int .u64 ((0 : Nat) : Int)), (Value.int .u64 ((c : Nat) : Int))])) := by
  have hL := Loc.start hB
  refine calls_of (l := [(Value.int .u64 ((1 : Nat) : Int)), (Value.int .u64 ((c : Nat) : Int))]) (rl := [.tmp 4, .tmp 5]) (n := 30) Tryd.func30 rfl rfl rfl (by simp) ?_
  refine Swp.seq ?_
  refine Swp.region rfl ?_
  refine Rl.op (OpY.assign (v := (Value.int .u64 ((0 : Nat) : Int))) rfl ?_)
  refine Rl.op (OpY.assign (v := (Value.int .u64 ((0 : Nat) : Int))) rfl ?_)
  refine Rl.nil ?_
  refine Swp.seq ?_
  refine Swp.cond_f (b := false) rfl rfl ?_
  refine Swp.skip ?_
  refine Swp.seq ?_
  refine Swp.region rfl ?_
  refine Rl.op (OpY.move (v := (Value.int .u64 ((1 : Nat) : Int))) rfl ?_)
  refine Rl.op (OpY.move (v := (Value.int .u64 ((c : Nat) : Int))) rfl ?_)
  refine Rl.op (OpY.callq (v := (Value.tuple #[(Value.int .u64 ((0 : Nat) : Int)), (Value.int .u64 (((c) : Nat) : Int))])) en41 rfl rfl (mul64_c (c) (c_lt) ([] ++ B) _ hL.bokO  (by omega)) ?_)
  refine Rl.op (OpY.move (v := (Value.tuple #[(Value.int .u64 ((0 : Nat) : Int)), (Value.int .u64 (((c) : Nat) : Int))])) rfl ?_)
  refine Rl.op (OpY.extract (vs := [(Value.int .u64 ((0 : Nat) : Int)), (Value.int .u64 (((c) : Nat) : Int))]) (v := (Value.int .u64 ((0 : Nat) : Int))) rfl rfl ?_)
  refine Rl.op (OpY.extract (vs := [(Value.int .u64 ((0 : Nat) : Int)), (Value.int .u64 (((c) : Nat) : Int))]) (v := (Value.int .u64 (((c) : Nat) : Int))) rfl rfl ?_)
  refine Rl.op (OpY.assign (v := (Value.int .u64 ((0 : Nat) : Int))) rfl ?_)
  refine Rl.op (OpY.assign (v := (Value.int .u64 (((c) : Nat) : Int))) rfl ?_)
  refine Rl.nil ?_
  refine Swp.seq ?_
  refine Swp.region rfl ?_
  refine Rl.op (OpY.move (v := (Value.int .u64 ((0 : Nat) : Int))) rfl ?_)
  refine Rl.op (OpY.move (v := (Value.int .u64 (((c) : Nat) : Int))) rfl ?_)
  refine Rl.op (OpY.assign (v := (Value.int .u64 ((0 : Nat) : Int))) rfl ?_)
  refine Rl.op (OpY.assign (v := (Value.int .u64 (((c) : Nat) : Int))) rfl ?_)
  refine Rl.nil ?_
  refine Swp.ret ?_
  refine ⟨[(Value.int .u64 ((0 : Nat) : Int)), (Value.int .u64 (((c) : Nat) : Int))], ⟨rfl, rfl, trivial⟩, ?_, rfl⟩
  show Ending.returned (Value.tuple #[(Value.int .u64 ((0 : Nat) : Int)), (Value.int .u64 (((c) : Nat) : Int))]) = Ending.returned (Value.tuple #[(Value.int .u64 ((0 : Nat) : Int)), (Value.int .u64 ((c : Nat) : Int))])
  rfl
theorem hasp1_c (s : List Nat) (s_ok : bytesOk s) (s_ln : s.length ≤ 1000000) (p : List Nat) (p_ok : bytesOk p) (p_ln : p.length ≤ 1000000) (B : List (Option Nat)) (w : World) (hB : Bok B w)   :
    Calls Tryd.prog 42 #[(Value.string (str (s))), (Value.string (str (p)))] w (RetQ w (Value.bool (hasP s p))) := by
  have hL := Loc.start hB
  refine calls_of (l := [(Value.string (str (s))), (Value.string (str (p)))]) (rl := [.tmp 4]) (n := 18) Tryd.func42 rfl rfl rfl (by simp) ?_
  refine Swp.seq ?_
  refine Swp.region rfl ?_
  refine Rl.op (OpY.assign (v := (Value.bool false)) rfl ?_)
  refine Rl.nil ?_
  refine Swp.seq ?_
  refine Swp.region rfl ?_
  refine Rl.op (OpY.move (v := (Value.string (str (s)))) rfl ?_)
  refine Rl.op (OpY.len_strx (xs := s) Tryd.underlying9 rfl ?_)
  refine Rl.op (OpY.move (v := (Value.string (str (p)))) rfl ?_)
  refine Rl.op (OpY.len_strx (xs := p) Tryd.underlying9 rfl ?_)
  refine Rl.op (OpY.geq (x := (((s).length : Nat) : Int)) (y := (((p).length : Nat) : Int)) ((s).length ≥ (p).length) rfl rfl (by omega) ?_)
  refine Rl.op (OpY.move (v := (Value.bool (decide ((s).length ≥ (p).length)))) rfl ?_)
  by_cases hg1 : (s).length ≥ (p).length
  ·
    have hg1_b : (decide ((s).length ≥ (p).length)) = true := decide_eq_true hg1
    refine Rl.yes (b' := (decide ((s).length ≥ (p).length))) rfl rfl hg1_b (OpY.move (v := (Value.string (str (s)))) rfl ?_)
    refine Rl.yes (b' := (decide ((s).length ≥ (p).length))) rfl rfl hg1_b (OpY.move (v := (Value.string (str (p)))) rfl ?_)
    refine Rl.yes (b' := (decide ((s).length ≥ (p).length))) rfl rfl hg1_b (OpY.len_strx (xs := p) Tryd.underlying9 rfl ?_)
    refine Rl.yes (b' := (decide ((s).length ≥ (p).length))) rfl rfl hg1_b (OpY.strSlice (xs := s) (l := 0) (h := (p).length) Tryd.underlying9 rfl (.inl ⟨rfl, rfl⟩) (.inr ⟨_, _, rfl, rfl⟩) (by first | omega | (simp; done) | (simp; omega)) (by first | omega | (simp; done) | (simp; omega)) ?_)
    refine Rl.yes (b' := (decide ((s).length ≥ (p).length))) rfl rfl hg1_b (OpY.move (v := (Value.string (str (p)))) rfl ?_)
    refine Rl.yes (b' := (decide ((s).length ≥ (p).length))) rfl rfl hg1_b (OpY.strEql (x := ((s).take ((p).length)).drop (0)) (y := p) rfl rfl (ok_drop (ok_take s_ok)) p_ok ?_)
    refine Rl.op (OpY.pick_t (t := (decide ((s).length ≥ (p).length))) (v := (Value.bool (decide (((s).take ((p).length)).drop (0) = p)))) rfl hg1_b rfl ?_)
    refine Rl.op (OpY.assign (v := (Value.bool (decide (((s).take ((p).length)).drop (0) = p)))) rfl ?_)
    refine Rl.nil ?_
    refine Swp.ret ?_
    refine ⟨[(Value.bool (decide (((s).take ((p).length)).drop (0) = p)))], ⟨rfl, trivial⟩, ?_, rfl⟩
    show Ending.returned (Value.bool (decide (((s).take ((p).length)).drop (0) = p))) = Ending.returned (Value.bool (hasP s p))
    first | (simp_all [hasP]; done) | (simp_all [hasP]; omega)
  ·
    have hg1_b : (decide ((s).length ≥ (p).length)) = false := decide_eq_false hg1
    refine Rl.no (b' := (decide ((s).length ≥ (p).length))) rfl rfl hg1_b ?_
    refine Rl.no (b' := (decide ((s).length ≥ (p).length))) rfl rfl hg1_b ?_
    refine Rl.no (b' := (decide ((s).length ≥ (p).length))) rfl rfl hg1_b ?_
    refine Rl.no (b' := (decide ((s).length ≥ (p).length))) rfl rfl hg1_b ?_
    refine Rl.no (b' := (decide ((s).length ≥ (p).length))) rfl rfl hg1_b ?_
    refine Rl.no (b' := (decide ((s).length ≥ (p).length))) rfl rfl hg1_b ?_
    refine Rl.op (OpY.pick_f (t := (decide ((s).length ≥ (p).length))) (v := (Value.bool false)) rfl hg1_b rfl ?_)
    refine Rl.op (OpY.assign (v := (Value.bool false)) rfl ?_)
    refine Rl.nil ?_
    refine Swp.ret ?_
    refine ⟨[(Value.bool false)], ⟨rfl, trivial⟩, ?_, rfl⟩
    show Ending.returned (Value.bool false) = Ending.returned (Value.bool (hasP s p))
    first | (simp_all [hasP]; done) | (simp_all [hasP]; omega)
theorem hasp_c (s : List Nat) (s_ok : bytesOk s) (s_ln : s.length ≤ 1000000) (p : List Nat) (p_ok : bytesOk p) (p_ln : p.length ≤ 1000000) (B : List (Option Nat)) (w : World) (hB : Bok B w)   :
    Calls Tryd.prog 31 #[(Value.string (str (s))), (Value.string (str (p)))] w (RetQ w (Value.bool (hasP s p))) := by
  have hL := Loc.start hB
  refine calls_of (l := [(Value.string (str (s))), (Value.string (str (p)))]) (rl := [.tmp 4]) (n := 8) Tryd.func31 rfl rfl rfl (by simp) ?_
  refine Swp.seq ?_
  refine Swp.region rfl ?_
  refine Rl.op (OpY.assign (v := (Value.bool false)) rfl ?_)
  refine Rl.nil ?_
  refine Swp.seq ?_
  refine Swp.region rfl ?_
  refine Rl.op (OpY.move (v := (Value.string (str (s)))) rfl ?_)
  refine Rl.op (OpY.move (v := (Value.string (str (p)))) rfl ?_)
  refine Rl.op (OpY.callq (v := (Value.bool (hasP (s) (p)))) en42 rfl rfl (hasp1_c (s) s_ok (by first | assumption | omega | (simp; done) | (simp; omega)) (p) p_ok (by first | assumption | omega | (simp; done) | (simp; omega)) ([] ++ B) _ hL.bokO  ) ?_)
  refine Rl.op (OpY.assign (v := (Value.bool (hasP (s) (p)))) rfl ?_)
  refine Rl.nil ?_
  refine Swp.ret ?_
  refine ⟨[(Value.bool (hasP (s) (p)))], ⟨rfl, trivial⟩, ?_, rfl⟩
  show Ending.returned (Value.bool (hasP (s) (p))) = Ending.returned (Value.bool (hasP s p))
  rfl
set_option maxRecDepth 20000 in
set_option maxHeartbeats 1000000 in
theorem rep_c (c : Nat) (c_lt : c < 9223372036854775808) (B : List (Option Nat)) (w : World) (hB : Bok B w)  (c_le : c ≤ 64) :
    Calls Tryd.prog 28 #[(Value.string (str (([48] : List Nat)))), (Value.int .i64 ((c : Nat) : Int))] w (RetQ w (Value.string (str ((List.replicate c 48))))) := by
  have hL := Loc.start hB
  refine calls_of (l := [(Value.string (str (([48] : List Nat)))), (Value.int .i64 ((c : Nat) : Int))]) (rl := [.tmp 4]) (n := 125) Tryd.func28 rfl rfl rfl (by simp) ?_
  refine Swp.seq ?_
  refine Swp.region rfl ?_
  refine Rl.op (OpY.assign (v := (Value.string (str (([] : List Nat))))) rfl ?_)
  refine Rl.nil ?_
  refine Swp.seq ?_
  refine Swp.seq ?_
  refine Swp.region rfl ?_
  refine Rl.op (OpY.move (v := (Value.int .i64 ((c : Nat) : Int))) rfl ?_)
  refine Rl.nil ?_
  refine Swp.block ?_
  refine Swp.seq ?_
  refine Swp.region rfl ?_
  refine Rl.op (OpY.eql (x := ((c : Nat) : Int)) (y := ((0 : Nat) : Int)) (c = 0) rfl rfl (by omega) ?_)
  refine Rl.op (OpY.assign (v := (Value.bool (decide (c = 0)))) rfl ?_)
  refine Rl.nil ?_
  refine Swp.cond_d (c = 0) rfl (fun hc1 => ?_) (fun hc1 => ?_)
  ·
    skip
    refine Swp.seq ?_
    refine Swp.region rfl ?_
    refine Rl.op (OpY.assign (v := (Value.string (str (([] : List Nat))))) rfl ?_)
    refine Rl.nil ?_
    refine Swp.ret ?_
    refine ⟨[(Value.string (str (([] : List Nat))))], ⟨rfl, trivial⟩, ?_, rfl⟩
    show Ending.returned (Value.string (str (([] : List Nat)))) = Ending.returned (Value.string (str ((List.replicate c 48))))
    first | (subst c; rfl) | (rw [show c = 0 by omega]; rfl) | (rw [show c = 1 by omega]; rfl) | (exact congrArg (fun l => Ending.returned (Value.string (str l))) (by rw [List.drop_zero]; exact (show List.take c (List.replicate 64 48) = List.replicate c 48 by rw [List.take_replicate, Nat.min_eq_left c_le])))
  ·
    skip
    refine Swp.seq ?_
    refine Swp.region rfl ?_
    refine Rl.op (OpY.eql (x := ((c : Nat) : Int)) (y := ((1 : Nat) : Int)) (c = 1) rfl rfl (by omega) ?_)
    refine Rl.op (OpY.assign (v := (Value.bool (decide (c = 1)))) rfl ?_)
    refine Rl.nil ?_
    refine Swp.cond_d (c = 1) rfl (fun hc2 => ?_) (fun hc2 => ?_)
    ·
      skip
      refine Swp.seq ?_
      refine Swp.region rfl ?_
      refine Rl.op (OpY.move (v := (Value.string (str (([48] : List Nat))))) rfl ?_)
      refine Rl.op (OpY.assign (v := (Value.string (str (([48] : List Nat))))) rfl ?_)
      refine Rl.nil ?_
      refine Swp.ret ?_
      refine ⟨[(Value.string (str (([48] : List Nat))))], ⟨rfl, trivial⟩, ?_, rfl⟩
      show Ending.returned (Value.string (str (([48] : List Nat)))) = Ending.returned (Value.string (str ((List.replicate c 48))))
      first | (subst c; rfl) | (rw [show c = 0 by omega]; rfl) | (rw [show c = 1 by omega]; rfl) | (exact congrArg (fun l => Ending.returned (Value.string (str l))) (by rw [List.drop_zero]; exact (show List.take c (List.replicate 64 48) = List.replicate c 48 by rw [List.take_replicate, Nat.min_eq_left c_le])))
    ·
      skip
      refine Swp.skip ?_
      refine Swp.pop_blk ?_
      refine Swp.seq ?_
      refine Swp.seq ?_
      refine Swp.region rfl ?_
      refine Rl.op (OpY.move (v := (Value.int .i64 ((c : Nat) : Int))) rfl ?_)
      refine Rl.op (OpY.lss (x := ((c : Nat) : Int)) (y := ((0 : Nat) : Int)) (c < 0) rfl rfl (by omega) ?_)
      refine Rl.nil ?_
      refine Swp.cond_f (b := (decide (c < 0))) rfl (by simp) ?_
      refine Swp.skip ?_
      refine Swp.seq ?_
      refine Swp.region rfl ?_
      refine Rl.op (OpY.move (v := (Value.string (str (([48] : List Nat))))) rfl ?_)
      refine Rl.op (OpY.len_strx (xs := ([48] : List Nat)) Tryd.underlying9 rfl ?_)
      refine Rl.op (OpY.convInt (x := (((([48] : List Nat)).length : Nat) : Int)) (z := (((([48] : List Nat)).length : Nat) : Int)) Tryd.underlying3 Tryd.underlying41 rfl (wq_u64 rfl (by first | omega | decide)) ?_)
      refine Rl.op (OpY.move (v := (Value.int .i64 ((c : Nat) : Int))) rfl ?_)
      refine Rl.op (OpY.convInt (x := ((c : Nat) : Int)) (z := ((c : Nat) : Int)) Tryd.underlying3 Tryd.underlying41 rfl (wq_u64 rfl (by first | omega | decide)) ?_)
      refine Rl.op (OpY.callq (v := (Value.tuple #[(Value.int .u64 ((0 : Nat) : Int)), (Value.int .u64 (((c) : Nat) : Int))])) en30 rfl rfl (mulc_c (c) (by omega) ([] ++ B) _ hL.bokO  (by omega)) ?_)
      refine Rl.op (OpY.move (v := (Value.tuple #[(Value.int .u64 ((0 : Nat) : Int)), (Value.int .u64 (((c) : Nat) : Int))])) rfl ?_)
      refine Rl.op (OpY.extract (vs := [(Value.int .u64 ((0 : Nat) : Int)), (Value.int .u64 (((c) : Nat) : Int))]) (v := (Value.int .u64 ((0 : Nat) : Int))) rfl rfl ?_)
      refine Rl.op (OpY.extract (vs := [(Value.int .u64 ((0 : Nat) : Int)), (Value.int .u64 (((c) : Nat) : Int))]) (v := (Value.int .u64 (((c) : Nat) : Int))) rfl rfl ?_)
      refine Rl.op (OpY.assign (v := (Value.int .u64 ((0 : Nat) : Int))) rfl ?_)
      refine Rl.op (OpY.assign (v := (Value.int .u64 (((c) : Nat) : Int))) rfl ?_)
      refine Rl.nil ?_
      refine Swp.seq ?_
      refine Swp.seq ?_
      refine Swp.region rfl ?_
      refine Rl.op (OpY.move (v := (Value.int .u64 ((0 : Nat) : Int))) rfl ?_)
      refine Rl.op (OpY.gtr (x := ((0 : Nat) : Int)) (y := ((0 : Nat) : Int)) (0 > 0) rfl rfl (by omega) ?_)
      refine Rl.op (OpY.move (v := (Value.bool (decide (0 > 0)))) rfl ?_)
      refine Rl.yes (b' := (decide (0 > 0))) rfl rfl (by decide) (OpY.move (v := (Value.int .u64 (((c) : Nat) : Int))) rfl ?_)
      refine Rl.yes (b' := (decide (0 > 0))) rfl rfl (by decide) (OpY.gtr (x := (((c) : Nat) : Int)) (y := ((9223372036854775807 : Nat) : Int)) ((c) > 9223372036854775807) rfl rfl (by omega) ?_)
      refine Rl.op (OpY.pick_f (t := (decide (0 > 0))) (v := (Value.bool (decide ((c) > 9223372036854775807)))) rfl (by decide) rfl ?_)
      refine Rl.nil ?_
      refine Swp.cond_f (b := (decide ((c) > 9223372036854775807))) rfl (by simp; omega) ?_
      refine Swp.skip ?_
      refine Swp.seq ?_
      refine Swp.region rfl ?_
      refine Rl.op (OpY.move (v := (Value.int .u64 (((c) : Nat) : Int))) rfl ?_)
      refine Rl.op (OpY.convInt (x := (((c) : Nat) : Int)) (z := (((c) : Nat) : Int)) Tryd.underlying41 Tryd.underlying3 rfl (wq_i64 rfl (by omega) (by have := (show (c) < 18446744073709551616 from (((by omega)))); omega)) ?_)
      refine Rl.op (OpY.assign (v := (Value.int .i64 (((c) : Nat) : Int))) rfl ?_)
      refine Rl.nil ?_
      refine Swp.seq ?_
      refine Swp.seq ?_
      refine Swp.region rfl ?_
      refine Rl.op (OpY.move (v := (Value.string (str (([48] : List Nat))))) rfl ?_)
      refine Rl.op (OpY.len_strx (xs := ([48] : List Nat)) Tryd.underlying9 rfl ?_)
      refine Rl.op (OpY.eql (x := (((([48] : List Nat)).length : Nat) : Int)) (y := ((0 : Nat) : Int)) ((([48] : List Nat)).length = 0) rfl rfl (by omega) ?_)
      refine Rl.nil ?_
      refine Swp.cond_f (b := (decide ((([48] : List Nat)).length = 0))) rfl (by decide) ?_
      refine Swp.skip ?_
      refine Swp.seq ?_
      refine Swp.seq ?_
      refine Swp.region rfl ?_
      refine Rl.op (OpY.move (v := (Value.string (str (([48] : List Nat))))) rfl ?_)
      refine Rl.op (OpY.strIndexD (xs := ([48] : List Nat)) (i := 0) Tryd.underlying9 rfl rfl (by decide) (by first | omega | (simp; done) | (simp; omega)) ?_)
      refine Rl.nil ?_
      refine Swp.block ?_
      refine Swp.seq ?_
      refine Swp.seq ?_
      refine Swp.region rfl ?_
      refine Rl.op (OpY.eql (x := ((((([48] : List Nat)).getD (0) 0) : Nat) : Int)) (y := ((32 : Nat) : Int)) (((([48] : List Nat)).getD (0) 0) = 32) rfl rfl (by omega) ?_)
      refine Rl.op (OpY.assign (v := (Value.bool (decide (((([48] : List Nat)).getD (0) 0) = 32)))) rfl ?_)
      refine Rl.nil ?_
      refine Swp.cond_f (b := (decide (((([48] : List Nat)).getD (0) 0) = 32))) rfl (by decide) ?_
      refine Swp.seq ?_
      refine Swp.region rfl ?_
      refine Rl.op (OpY.eql (x := ((((([48] : List Nat)).getD (0) 0) : Nat) : Int)) (y := ((45 : Nat) : Int)) (((([48] : List Nat)).getD (0) 0) = 45) rfl rfl (by omega) ?_)
      refine Rl.op (OpY.assign (v := (Value.bool (decide (((([48] : List Nat)).getD (0) 0) = 45)))) rfl ?_)
      refine Rl.nil ?_
      refine Swp.cond_f (b := (decide (((([48] : List Nat)).getD (0) 0) = 45))) rfl (by decide) ?_
      refine Swp.seq ?_
      refine Swp.region rfl ?_
      refine Rl.op (OpY.eql (x := ((((([48] : List Nat)).getD (0) 0) : Nat) : Int)) (y := ((48 : Nat) : Int)) (((([48] : List Nat)).getD (0) 0) = 48) rfl rfl (by omega) ?_)
      refine Rl.op (OpY.assign (v := (Value.bool (decide (((([48] : List Nat)).getD (0) 0) = 48)))) rfl ?_)
      refine Rl.nil ?_
      refine Swp.cond_t (b := (decide (((([48] : List Nat)).getD (0) 0) = 48))) rfl (by decide) ?_
      refine Swp.skip ?_
      refine Swp.cond_t (b := (decide (((([48] : List Nat)).getD (0) 0) = 48))) rfl (by decide) ?_
      refine Swp.block ?_
      refine Swp.seq ?_
      refine Swp.region rfl ?_
      refine Rl.op (OpY.move (v := (Value.int .i64 (((c) : Nat) : Int))) rfl ?_)
      refine Rl.op (OpY.leq (x := (((c) : Nat) : Int)) (y := ((128 : Nat) : Int)) ((c) ≤ 128) rfl rfl (by omega) ?_)
      refine Rl.op (OpY.move (v := (Value.bool (decide ((c) ≤ 128)))) rfl ?_)
      refine Rl.yes (b' := (decide ((c) ≤ 128))) rfl rfl (by simp; omega) (OpY.move (v := (Value.string (str (([48] : List Nat))))) rfl ?_)
      refine Rl.yes (b' := (decide ((c) ≤ 128))) rfl rfl (by simp; omega) (OpY.callq (v := (Value.bool (hasP (([32, 32, 32, 32, 32, 32, 32, 32, 32, 32, 32, 32, 32, 32, 32, 32, 32, 32, 32, 32, 32, 32, 32, 32, 32, 32, 32, 32, 32, 32, 32, 32, 32, 32, 32, 32, 32, 32, 32, 32, 32, 32, 32, 32, 32, 32, 32, 32, 32, 32, 32, 32, 32, 32, 32, 32, 32, 32, 32, 32, 32, 32, 32, 32, 32, 32, 32, 32, 32, 32, 32, 32, 32, 32, 32, 32, 32, 32, 32, 32, 32, 32, 32, 32, 32, 32, 32, 32, 32, 32, 32, 32, 32, 32, 32, 32, 32, 32, 32, 32, 32, 32, 32, 32, 32, 32, 32, 32, 32, 32, 32, 32, 32, 32, 32, 32, 32, 32, 32, 32, 32, 32, 32, 32, 32, 32, 32, 32] : List Nat)) (([48] : List Nat))))) en31 rfl rfl (hasp_c (([32, 32, 32, 32, 32, 32, 32, 32, 32, 32, 32, 32, 32, 32, 32, 32, 32, 32, 32, 32, 32, 32, 32, 32, 32, 32, 32, 32, 32, 32, 32, 32, 32, 32, 32, 32, 32, 32, 32, 32, 32, 32, 32, 32, 32, 32, 32, 32, 32, 32, 32, 32, 32, 32, 32, 32, 32, 32, 32, 32, 32, 32, 32, 32, 32, 32, 32, 32, 32, 32, 32, 32, 32, 32, 32, 32, 32, 32, 32, 32, 32, 32, 32, 32, 32, 32, 32, 32, 32, 32, 32, 32, 32, 32, 32, 32, 32, 32, 32, 32, 32, 32, 32, 32, 32, 32, 32, 32, 32, 32, 32, 32, 32, 32, 32, 32, 32, 32, 32, 32, 32, 32, 32, 32, 32, 32, 32, 32] : List Nat)) (by decide) (by first | assumption | omega | (simp; done) | (simp; omega)) (([48] : List Nat)) (by decide) (by first | assumption | omega | (simp; done) | (simp; omega)) ([] ++ B) _ hL.bokO  ) ?_)
      refine Rl.op (OpY.pick_t (t := (decide ((c) ≤ 128))) (v := (Value.bool (hasP (([32, 32, 32, 32, 32, 32, 32, 32, 32, 32, 32, 32, 32, 32, 32, 32, 32, 32, 32, 32, 32, 32, 32, 32, 32, 32, 32, 32, 32, 32, 32, 32, 32, 32, 32, 32, 32, 32, 32, 32, 32, 32, 32, 32, 32, 32, 32, 32, 32, 32, 32, 32, 32, 32, 32, 32, 32, 32, 32, 32, 32, 32, 32, 32, 32, 32, 32, 32, 32, 32, 32, 32, 32, 32, 32, 32, 32, 32, 32, 32, 32, 32, 32, 32, 32, 32, 32, 32, 32, 32, 32, 32, 32, 32, 32, 32, 32, 32, 32, 32, 32, 32, 32, 32, 32, 32, 32, 32, 32, 32, 32, 32, 32, 32, 32, 32, 32, 32, 32, 32, 32, 32, 32, 32, 32, 32, 32, 32] : List Nat)) (([48] : List Nat))))) rfl (by simp; omega) rfl ?_)
      refine Rl.op (OpY.assign (v := (Value.bool (hasP (([32, 32, 32, 32, 32, 32, 32, 32, 32, 32, 32, 32, 32, 32, 32, 32, 32, 32, 32, 32, 32, 32, 32, 32, 32, 32, 32, 32, 32, 32, 32, 32, 32, 32, 32, 32, 32, 32, 32, 32, 32, 32, 32, 32, 32, 32, 32, 32, 32, 32, 32, 32, 32, 32, 32, 32, 32, 32, 32, 32, 32, 32, 32, 32, 32, 32, 32, 32, 32, 32, 32, 32, 32, 32, 32, 32, 32, 32, 32, 32, 32, 32, 32, 32, 32, 32, 32, 32, 32, 32, 32, 32, 32, 32, 32, 32, 32, 32, 32, 32, 32, 32, 32, 32, 32, 32, 32, 32, 32, 32, 32, 32, 32, 32, 32, 32, 32, 32, 32, 32, 32, 32, 32, 32, 32, 32, 32, 32] : List Nat)) (([48] : List Nat))))) rfl ?_)
      refine Rl.nil ?_
      refine Swp.cond_f (b := (hasP (([32, 32, 32, 32, 32, 32, 32, 32, 32, 32, 32, 32, 32, 32, 32, 32, 32, 32, 32, 32, 32, 32, 32, 32, 32, 32, 32, 32, 32, 32, 32, 32, 32, 32, 32, 32, 32, 32, 32, 32, 32, 32, 32, 32, 32, 32, 32, 32, 32, 32, 32, 32, 32, 32, 32, 32, 32, 32, 32, 32, 32, 32, 32, 32, 32, 32, 32, 32, 32, 32, 32, 32, 32, 32, 32, 32, 32, 32, 32, 32, 32, 32, 32, 32, 32, 32, 32, 32, 32, 32, 32, 32, 32, 32, 32, 32, 32, 32, 32, 32, 32, 32, 32, 32, 32, 32, 32, 32, 32, 32, 32, 32, 32, 32, 32, 32, 32, 32, 32, 32, 32, 32, 32, 32, 32, 32, 32, 32] : List Nat)) (([48] : List Nat)))) rfl (by decide) ?_
      refine Swp.seq ?_
      refine Swp.region rfl ?_
      refine Rl.op (OpY.move (v := (Value.int .i64 (((c) : Nat) : Int))) rfl ?_)
      refine Rl.op (OpY.leq (x := (((c) : Nat) : Int)) (y := ((128 : Nat) : Int)) ((c) ≤ 128) rfl rfl (by omega) ?_)
      refine Rl.op (OpY.move (v := (Value.bool (decide ((c) ≤ 128)))) rfl ?_)
      refine Rl.yes (b' := (decide ((c) ≤ 128))) rfl rfl (by simp; omega) (OpY.move (v := (Value.string (str (([48] : List Nat))))) rfl ?_)
      refine Rl.yes (b' := (decide ((c) ≤ 128))) rfl rfl (by simp; omega) (OpY.callq (v := (Value.bool (hasP (([45, 45, 45, 45, 45, 45, 45, 45, 45, 45, 45, 45, 45, 45, 45, 45, 45, 45, 45, 45, 45, 45, 45, 45, 45, 45, 45, 45, 45, 45, 45, 45, 45, 45, 45, 45, 45, 45, 45, 45, 45, 45, 45, 45, 45, 45, 45, 45, 45, 45, 45, 45, 45, 45, 45, 45, 45, 45, 45, 45, 45, 45, 45, 45, 45, 45, 45, 45, 45, 45, 45, 45, 45, 45, 45, 45, 45, 45, 45, 45, 45, 45, 45, 45, 45, 45, 45, 45, 45, 45, 45, 45, 45, 45, 45, 45, 45, 45, 45, 45, 45, 45, 45, 45, 45, 45, 45, 45, 45, 45, 45, 45, 45, 45, 45, 45, 45, 45, 45, 45, 45, 45, 45, 45, 45, 45, 45, 45] : List Nat)) (([48] : List Nat))))) en31 rfl rfl (hasp_c (([45, 45, 45, 45, 45, 45, 45, 45, 45, 45, 45, 45, 45, 45, 45, 45, 45, 45, 45, 45, 45, 45, 45, 45, 45, 45, 45, 45, 45, 45, 45, 45, 45, 45, 45, 45, 45, 45, 45, 45, 45, 45, 45, 45, 45, 45, 45, 45, 45, 45, 45, 45, 45, 45, 45, 45, 45, 45, 45, 45, 45, 45, 45, 45, 45, 45, 45, 45, 45, 45, 45, 45, 45, 45, 45, 45, 45, 45, 45, 45, 45, 45, 45, 45, 45, 45, 45, 45, 45, 45, 45, 45, 45, 45, 45, 45, 45, 45, 45, 45, 45, 45, 45, 45, 45, 45, 45, 45, 45, 45, 45, 45, 45, 45, 45, 45, 45, 45, 45, 45, 45, 45, 45, 45, 45, 45, 45, 45] : List Nat)) (by decide) (by first | assumption | omega | (simp; done) | (simp; omega)) (([48] : List Nat)) (by decide) (by first | assumption | omega | (simp; done) | (simp; omega)) ([] ++ B) _ hL.bokO  ) ?_)
      refine Rl.op (OpY.pick_t (t := (decide ((c) ≤ 128))) (v := (Value.bool (hasP (([45, 45, 45, 45, 45, 45, 45, 45, 45, 45, 45, 45, 45, 45, 45, 45, 45, 45, 45, 45, 45, 45, 45, 45, 45, 45, 45, 45, 45, 45, 45, 45, 45, 45, 45, 45, 45, 45, 45, 45, 45, 45, 45, 45, 45, 45, 45, 45, 45, 45, 45, 45, 45, 45, 45, 45, 45, 45, 45, 45, 45, 45, 45, 45, 45, 45, 45, 45, 45, 45, 45, 45, 45, 45, 45, 45, 45, 45, 45, 45, 45, 45, 45, 45, 45, 45, 45, 45, 45, 45, 45, 45, 45, 45, 45, 45, 45, 45, 45, 45, 45, 45, 45, 45, 45, 45, 45, 45, 45, 45, 45, 45, 45, 45, 45, 45, 45, 45, 45, 45, 45, 45, 45, 45, 45, 45, 45, 45] : List Nat)) (([48] : List Nat))))) rfl (by simp; omega) rfl ?_)
      refine Rl.op (OpY.assign (v := (Value.bool (hasP (([45, 45, 45, 45, 45, 45, 45, 45, 45, 45, 45, 45, 45, 45, 45, 45, 45, 45, 45, 45, 45, 45, 45, 45, 45, 45, 45, 45, 45, 45, 45, 45, 45, 45, 45, 45, 45, 45, 45, 45, 45, 45, 45, 45, 45, 45, 45, 45, 45, 45, 45, 45, 45, 45, 45, 45, 45, 45, 45, 45, 45, 45, 45, 45, 45, 45, 45, 45, 45, 45, 45, 45, 45, 45, 45, 45, 45, 45, 45, 45, 45, 45, 45, 45, 45, 45, 45, 45, 45, 45, 45, 45, 45, 45, 45, 45, 45, 45, 45, 45, 45, 45, 45, 45, 45, 45, 45, 45, 45, 45, 45, 45, 45, 45, 45, 45, 45, 45, 45, 45, 45, 45, 45, 45, 45, 45, 45, 45] : List Nat)) (([48] : List Nat))))) rfl ?_)
      refine Rl.nil ?_
      refine Swp.cond_f (b := (hasP (([45, 45, 45, 45, 45, 45, 45, 45, 45, 45, 45, 45, 45, 45, 45, 45, 45, 45, 45, 45, 45, 45, 45, 45, 45, 45, 45, 45, 45, 45, 45, 45, 45, 45, 45, 45, 45, 45, 45, 45, 45, 45, 45, 45, 45, 45, 45, 45, 45, 45, 45, 45, 45, 45, 45, 45, 45, 45, 45, 45, 45, 45, 45, 45, 45, 45, 45, 45, 45, 45, 45, 45, 45, 45, 45, 45, 45, 45, 45, 45, 45, 45, 45, 45, 45, 45, 45, 45, 45, 45, 45, 45, 45, 45, 45, 45, 45, 45, 45, 45, 45, 45, 45, 45, 45, 45, 45, 45, 45, 45, 45, 45, 45, 45, 45, 45, 45, 45, 45, 45, 45, 45, 45, 45, 45, 45, 45, 45] : List Nat)) (([48] : List Nat)))) rfl (by decide) ?_
      refine Swp.seq ?_
      refine Swp.region rfl ?_
      refine Rl.op (OpY.move (v := (Value.int .i64 (((c) : Nat) : Int))) rfl ?_)
      refine Rl.op (OpY.leq (x := (((c) : Nat) : Int)) (y := ((64 : Nat) : Int)) ((c) ≤ 64) rfl rfl (by omega) ?_)
      refine Rl.op (OpY.move (v := (Value.bool (decide ((c) ≤ 64)))) rfl ?_)
      refine Rl.yes (b' := (decide ((c) ≤ 64))) rfl rfl (by simp; omega) (OpY.move (v := (Value.string (str (([48] : List Nat))))) rfl ?_)
      refine Rl.yes (b' := (decide ((c) ≤ 64))) rfl rfl (by simp; omega) (OpY.callq (v := (Value.bool (hasP (([48, 48, 48, 48, 48, 48, 48, 48, 48, 48, 48, 48, 48, 48, 48, 48, 48, 48, 48, 48, 48, 48, 48, 48, 48, 48, 48, 48, 48, 48, 48, 48, 48, 48, 48, 48, 48, 48, 48, 48, 48, 48, 48, 48, 48, 48, 48, 48, 48, 48, 48, 48, 48, 48, 48, 48, 48, 48, 48, 48, 48, 48, 48, 48] : List Nat)) (([48] : List Nat))))) en31 rfl rfl (hasp_c (([48, 48, 48, 48, 48, 48, 48, 48, 48, 48, 48, 48, 48, 48, 48, 48, 48, 48, 48, 48, 48, 48, 48, 48, 48, 48, 48, 48, 48, 48, 48, 48, 48, 48, 48, 48, 48, 48, 48, 48, 48, 48, 48, 48, 48, 48, 48, 48, 48, 48, 48, 48, 48, 48, 48, 48, 48, 48, 48, 48, 48, 48, 48, 48] : List Nat)) (by decide) (by first | assumption | omega | (simp; done) | (simp; omega)) (([48] : List Nat)) (by decide) (by first | assumption | omega | (simp; done) | (simp; omega)) ([] ++ B) _ hL.bokO  ) ?_)
      refine Rl.op (OpY.pick_t (t := (decide ((c) ≤ 64))) (v := (Value.bool (hasP (([48, 48, 48, 48, 48, 48, 48, 48, 48, 48, 48, 48, 48, 48, 48, 48, 48, 48, 48, 48, 48, 48, 48, 48, 48, 48, 48, 48, 48, 48, 48, 48, 48, 48, 48, 48, 48, 48, 48, 48, 48, 48, 48, 48, 48, 48, 48, 48, 48, 48, 48, 48, 48, 48, 48, 48, 48, 48, 48, 48, 48, 48, 48, 48] : List Nat)) (([48] : List Nat))))) rfl (by simp; omega) rfl ?_)
      refine Rl.op (OpY.assign (v := (Value.bool (hasP (([48, 48, 48, 48, 48, 48, 48, 48, 48, 48, 48, 48, 48, 48, 48, 48, 48, 48, 48, 48, 48, 48, 48, 48, 48, 48, 48, 48, 48, 48, 48, 48, 48, 48, 48, 48, 48, 48, 48, 48, 48, 48, 48, 48, 48, 48, 48, 48, 48, 48, 48, 48, 48, 48, 48, 48, 48, 48, 48, 48, 48, 48, 48, 48] : List Nat)) (([48] : List Nat))))) rfl ?_)
      refine Rl.nil ?_
      refine Swp.cond_t (b := (hasP (([48, 48, 48, 48, 48, 48, 48, 48, 48, 48, 48, 48, 48, 48, 48, 48, 48, 48, 48, 48, 48, 48, 48, 48, 48, 48, 48, 48, 48, 48, 48, 48, 48, 48, 48, 48, 48, 48, 48, 48, 48, 48, 48, 48, 48, 48, 48, 48, 48, 48, 48, 48, 48, 48, 48, 48, 48, 48, 48, 48, 48, 48, 48, 48] : List Nat)) (([48] : List Nat)))) rfl (by decide) ?_
      refine Swp.seq ?_
      refine Swp.region rfl ?_
      refine Rl.op (OpY.move (v := (Value.int .i64 (((c) : Nat) : Int))) rfl ?_)
      refine Rl.op (OpY.strSlice (xs := ([48, 48, 48, 48, 48, 48, 48, 48, 48, 48, 48, 48, 48, 48, 48, 48, 48, 48, 48, 48, 48, 48, 48, 48, 48, 48, 48, 48, 48, 48, 48, 48, 48, 48, 48, 48, 48, 48, 48, 48, 48, 48, 48, 48, 48, 48, 48, 48, 48, 48, 48, 48, 48, 48, 48, 48, 48, 48, 48, 48, 48, 48, 48, 48] : List Nat)) (l := 0) (h := (c)) Tryd.underlying9 rfl (.inl ⟨rfl, rfl⟩) (.inr ⟨_, _, rfl, rfl⟩) (by first | omega | (simp; done) | (simp; omega)) (by first | omega | (simp; done) | (simp; omega)) ?_)
      refine Rl.op (OpY.assign (v := (Value.string (str (((([48, 48, 48, 48, 48, 48, 48, 48, 48, 48, 48, 48, 48, 48, 48, 48, 48, 48, 48, 48, 48, 48, 48, 48, 48, 48, 48, 48, 48, 48, 48, 48, 48, 48, 48, 48, 48, 48, 48, 48, 48, 48, 48, 48, 48, 48, 48, 48, 48, 48, 48, 48, 48, 48, 48, 48, 48, 48, 48, 48, 48, 48, 48, 48] : List Nat)).take ((c))).drop (0))))) rfl ?_)
      refine Rl.nil ?_
      refine Swp.ret ?_
      refine ⟨[(Value.string (str (((([48, 48, 48, 48, 48, 48, 48, 48, 48, 48, 48, 48, 48, 48, 48, 48, 48, 48, 48, 48, 48, 48, 48, 48, 48, 48, 48, 48, 48, 48, 48, 48, 48, 48, 48, 48, 48, 48, 48, 48, 48, 48, 48, 48, 48, 48, 48, 48, 48, 48, 48, 48, 48, 48, 48, 48, 48, 48, 48, 48, 48, 48, 48, 48] : List Nat)).take ((c))).drop (0))))], ⟨rfl, trivial⟩, ?_, rfl⟩
      show Ending.returned (Value.string (str (((([48, 48, 48, 48, 48, 48, 48, 48, 48, 48, 48, 48, 48, 48, 48, 48, 48, 48, 48, 48, 48, 48, 48, 48, 48, 48, 48, 48, 48, 48, 48, 48, 48, 48, 48, 48, 48, 48, 48, 48, 48, 48, 48, 48, 48, 48, 48, 48, 48, 48, 48, 48, 48, 48, 48, 48, 48, 48, 48, 48, 48, 48, 48, 48] : List Nat)).take ((c))).drop (0)))) = Ending.returned (Value.string (str ((List.replicate c 48))))
      first | (subst c; rfl) | (rw [show c = 0 by omega]; rfl) | (rw [show c = 1 by omega]; rfl) | (exact congrArg (fun l => Ending.returned (Value.string (str l))) (by rw [List.drop_zero]; exact (show List.take c (List.replicate 64 48) = List.replicate c 48 by rw [List.take_replicate, Nat.min_eq_left c_le])))
theorem form_c (u : Nat) (u_lt : u < 18446744073709551616) (B : List (Option Nat)) (w : World) (hB : Bok B w) (hg : At (view B w) 3 15 [(Value.int .u8 ((4 : Nat) : Int))])  :
    Calls Tryd.prog 21 #[(Value.int .u64 ((u : Nat) : Int))] w (Ret w (fun r w' => (Value.string (str ((hexN u)))) = r)) := by
  have hL := Loc.start hB
  have hml := hexMin_len u_lt
  refine calls_of (l := [(Value.int .u64 ((u : Nat) : Int))]) (rl := [.tmp 2]) (n := 12) Tryd.func21 rfl rfl rfl (by simp) ?_
  refine Swp.seq ?_
  refine Swp.region rfl ?_
  refine Rl.op (OpY.assign (v := (Value.string (str (([] : List Nat))))) rfl ?_)
  refine Rl.nil ?_
  refine Swp.seq ?_
  refine Swp.region rfl ?_
  refine Rl.op (OpY.move (v := (Value.int .u64 ((u : Nat) : Int))) rfl ?_)
  refine Rl.op (OpY.call en27 rfl rfl (fu_c (u) (u_lt) ([] ++ B) _ hL.bokO hg ) ?_)
  rintro r1 w2 hE3 ⟨rfl⟩
  replace hg := hg.mono (hE3.le ([] ++ B))
  have hL4 := hL.ext hE3
  refine Rl.op (OpY.assign (v := (Value.string (str ((hexMin (u)))))) rfl ?_)
  refine Rl.nil ?_
  refine Swp.seq ?_
  refine Swp.region rfl ?_
  refine Rl.op (OpY.move (v := (Value.string (str ((hexMin (u)))))) rfl ?_)
  refine Rl.op (OpY.len_strx (xs := (hexMin (u))) Tryd.underlying9 rfl ?_)
  refine Rl.op (OpY.sub (x := ((16 : Nat) : Int)) (y := ((((hexMin (u))).length : Nat) : Int)) (z := (((16 - ((hexMin (u))).length) : Nat) : Int)) rfl rfl (wq_i64 (by omega) (by omega) (by omega)) ?_)
  refine Rl.op (OpY.callq (v := (Value.string (str ((List.replicate ((16 - ((hexMin (u))).length)) 48))))) en28 rfl rfl (rep_c ((16 - ((hexMin (u))).length)) (by omega) ([] ++ B) _ hL4.bokO  (by omega)) ?_)
  refine Rl.op (OpY.move (v := (Value.string (str ((hexMin (u)))))) rfl ?_)
  refine Rl.op (OpY.strAdd (x := (List.replicate ((16 - ((hexMin (u))).length)) 48)) (y := (hexMin (u))) rfl rfl (by simp; omega) ?_)
  refine Rl.op (OpY.assign (v := (Value.string (str (((List.replicate ((16 - ((hexMin (u))).length)) 48)) ++ ((hexMin (u))))))) rfl ?_)
  refine Rl.nil ?_
  refine Swp.ret ?_
  refine ⟨[(Value.string (str (((List.replicate ((16 - ((hexMin (u))).length)) 48)) ++ ((hexMin (u))))))], ⟨rfl, trivial⟩, ?_⟩
  refine ⟨_, rfl, hL4.done, ?_⟩
  · rw [hexMin_pad u_lt]; rfl
end Go.Proofs.YtpfbdhfpojbmlaaDoor.P2

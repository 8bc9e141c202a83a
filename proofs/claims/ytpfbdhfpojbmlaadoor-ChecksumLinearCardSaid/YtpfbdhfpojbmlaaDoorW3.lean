/- Walks. Written by a program of mine (wip/tool/gen.py); the kernel checks them. -/
import Derived.Test.YtpfbdhfpojbmlaaDoorProg
import Derived.Test.YtpfbdhfpojbmlaaDoorX10
import Derived.Test.YtpfbdhfpojbmlaaDoorM06
import Derived.Test.YtpfbdhfpojbmlaaDoorW1
import Derived.Test.YtpfbdhfpojbmlaaDoorW2
namespace Go.Proofs.YtpfbdhfpojbmlaaDoor.P3
open Go Go.RowKit Go.X Go.C06 Go.Proofs.YtpfbdhfpojbmlaaDoor.P2

theorem ti5 : TI Tryd.prog 5 1 1 (Value.int .u8 0) := TI.mk (by kernel_rfl)
theorem en12 : Enters Tryd.prog 12 := ⟨Tryd.f12, Tryd.func12, by kernel_rfl, by kernel_rfl⟩
theorem en17 : Enters Tryd.prog 17 := ⟨Tryd.f17, Tryd.func17, by kernel_rfl, by kernel_rfl⟩
theorem en18 : Enters Tryd.prog 18 := ⟨Tryd.f18, Tryd.func18, by kernel_rfl, by kernel_rfl⟩
theorem en21 : Enters Tryd.prog 21 := ⟨Tryd.f21, Tryd.func21, by kernel_rfl, by kernel_rfl⟩
attribute [local irreducible] crcN checkN hexN appN
theorem awake_c  (B : List (Option Nat)) (w : World) (hB : Bok B w) (hg : At (view B w) 3 15 [(Value.int .u8 ((4 : Nat) : Int))])  :
    Calls Tryd.prog 11 #[] w (Ret w (fun r w' => (Value.bool true) = r)) := by
  have hL := Loc.start hB
  refine calls_of (l := []) (rl := [.tmp 0]) (n := 67) Tryd.func11 rfl rfl rfl (by simp) ?_
  refine Swp.seq ?_
  refine Swp.region rfl ?_
  refine Rl.op (OpY.assign (v := (Value.bool false)) rfl ?_)
  refine Rl.nil ?_
  refine Swp.seq ?_
  refine Swp.region rfl ?_
  refine Rl.op (OpY.buildSliceV (n := 2) (vs := [(Value.int .u8 ((97 : Nat) : Int)), (Value.int .u8 ((98 : Nat) : Int))]) (css := [[(Value.int .u8 ((97 : Nat) : Int))], [(Value.int .u8 ((98 : Nat) : Int))]]) Tryd.underlying22 ti5 (by decide) rfl rfl (⟨rfl, rfl, ⟨rfl, rfl, trivial⟩⟩) (by decide) hL ?_)
  intro b1 w2 hL3 hS4
  replace hg := hg.mono (hS4.le B)
  clear hL hS4
  replace hL3 : X.Loc [] B w w2 [some b1] [.cells (ints .u8 ([97, 98]) ++ ([]))] := hL3
  refine Rl.op (OpY.convSame (i := 0) Tryd.underlying22 Tryd.underlying5 rfl hL3 rfl rfl ?_)
  intro w5 hL6 hS7
  replace hg := hg.mono (hS7.le B)
  clear hL3 hS7
  replace hL6 : X.Loc [] B w w5 [some b1] [.cells (ints .u8 ([97, 98]) ++ ([]))] := hL6
  refine Rl.op (OpY.call en17 rfl rfl (append_c (Value.slice (some ⟨b1, 0, none⟩) (2) (2)) ([97, 98]) (by first | assumption | (simp_all; done) | (refine bytesOk_append ?_ ?_ <;> first | assumption | (simp_all; done))) (by first | assumption | omega | (simp; done) | (simp; omega)) ([] ++ B) _ (Bok.sub hL6.bokO (by simp +contextual)) (hL6.intsO 0 (o := 0) (ys := [97, 98]) rfl rfl (by simp) (by simp) (by simp)) ) ?_)
  rintro r8 w9 hE10 ⟨_, rfl, ob11, cap12, sp13, rfl, hfr14, ho15, hcap16⟩
  have hL17 := (hL6.adopt hE10 hfr14 ho15).1
  replace hg := hg.mono ((hL6.adopt hE10 hfr14 ho15).2.le B)
  clear hL6
  replace hcap16 : (ints .u8 (appN ([97, 98])) ++ sp13).length = cap12 * 1 := by rw [hcap16, Nat.mul_one]
  replace hL17 : X.Loc [] B w w9 [ob11, some b1] [.cells (ints .u8 (appN ([97, 98])) ++ (sp13)), .cells (ints .u8 ([97, 98]) ++ ([]))] := hL17
  refine Rl.op (OpY.call en18 rfl rfl (check_c (sv ob11 ((appN ([97, 98])).length) (cap12)) (appN ([97, 98])) ((appN_ok (by first | assumption | (simp_all; done) | (refine bytesOk_append ?_ ?_ <;> first | assumption | (simp_all; done))))) (by first | assumption | omega | (simp; done) | (simp; omega)) ([some b1] ++ B) _ (Bok.sub hL17.bokO (by simp +contextual)) (hL17.intsB rfl 0 rfl rfl hcap16 (by first | rfl | omega | (simp; done) | (simp; omega)) B hB) ) ?_)
  rintro r18 w19 hE20 ⟨r0_21, rfl, hr22⟩
  replace hg := hg.mono (hE20.le ([ob11, some b1] ++ B))
  have hf24 := Fr.atO hr22 hL17
  have hL23 := hL17.ext hE20
  refine Rl.op (OpY.move (v := (Value.tuple #[r0_21, (Value.int .i64 ((checkN (appN ([97, 98]))).2 : Int))])) rfl ?_)
  refine Rl.op (OpY.extract (vs := [r0_21, (Value.int .i64 ((checkN (appN ([97, 98]))).2 : Int))]) (v := r0_21) rfl rfl ?_)
  refine Rl.op (OpY.extract (vs := [r0_21, (Value.int .i64 ((checkN (appN ([97, 98]))).2 : Int))]) (v := (Value.int .i64 ((checkN (appN ([97, 98]))).2 : Int))) rfl rfl ?_)
  refine Rl.op (OpY.assign (v := r0_21) rfl ?_)
  refine Rl.op (OpY.assign (v := (Value.int .i64 ((checkN (appN ([97, 98]))).2 : Int))) rfl ?_)
  refine Rl.nil ?_
  refine Swp.seq ?_
  refine Swp.region rfl ?_
  refine Rl.op (OpY.buildSliceV (n := 8) (vs := [(Value.int .u8 ((97 : Nat) : Int)), (Value.int .u8 ((98 : Nat) : Int)), (Value.int .u8 ((99 : Nat) : Int)), (Value.int .u8 ((100 : Nat) : Int)), (Value.int .u8 ((101 : Nat) : Int)), (Value.int .u8 ((102 : Nat) : Int)), (Value.int .u8 ((103 : Nat) : Int)), (Value.int .u8 ((104 : Nat) : Int))]) (css := [[(Value.int .u8 ((97 : Nat) : Int))], [(Value.int .u8 ((98 : Nat) : Int))], [(Value.int .u8 ((99 : Nat) : Int))], [(Value.int .u8 ((100 : Nat) : Int))], [(Value.int .u8 ((101 : Nat) : Int))], [(Value.int .u8 ((102 : Nat) : Int))], [(Value.int .u8 ((103 : Nat) : Int))], [(Value.int .u8 ((104 : Nat) : Int))]]) Tryd.underlying22 ti5 (by decide) rfl rfl (⟨rfl, rfl, ⟨rfl, rfl, ⟨rfl, rfl, ⟨rfl, rfl, ⟨rfl, rfl, ⟨rfl, rfl, ⟨rfl, rfl, ⟨rfl, rfl, trivial⟩⟩⟩⟩⟩⟩⟩⟩) (by decide) hL23 ?_)
  intro b25 w26 hL27 hS28
  replace hg := hg.mono (hS28.le B)
  replace hf24 := fun A hA => (hf24 A hA).mono (hS28.le A)
  clear hL23 hS28
  replace hL27 : X.Loc [] B w w26 [some b25, ob11, some b1] [.cells (ints .u8 ([97, 98, 99, 100, 101, 102, 103, 104]) ++ ([])), .cells (ints .u8 (appN ([97, 98])) ++ (sp13)), .cells (ints .u8 ([97, 98]) ++ ([]))] := hL27
  refine Rl.op (OpY.convSame (i := 0) Tryd.underlying22 Tryd.underlying5 rfl hL27 rfl rfl ?_)
  intro w29 hL30 hS31
  replace hg := hg.mono (hS31.le B)
  replace hf24 := fun A hA => (hf24 A hA).mono (hS31.le A)
  clear hL27 hS31
  replace hL30 : X.Loc [] B w w29 [some b25, ob11, some b1] [.cells (ints .u8 ([97, 98, 99, 100, 101, 102, 103, 104]) ++ ([])), .cells (ints .u8 (appN ([97, 98])) ++ (sp13)), .cells (ints .u8 ([97, 98]) ++ ([]))] := hL30
  refine Rl.op (OpY.call en18 rfl rfl (check_c (Value.slice (some ⟨b25, 0, none⟩) (8) (8)) ([97, 98, 99, 100, 101, 102, 103, 104]) (by first | assumption | (simp_all; done) | (refine bytesOk_append ?_ ?_ <;> first | assumption | (simp_all; done))) (by first | assumption | omega | (simp; done) | (simp; omega)) ([ob11, some b1] ++ B) _ (Bok.sub hL30.bokO (by simp +contextual)) (hL30.intsO 0 (o := 0) (ys := [97, 98, 99, 100, 101, 102, 103, 104]) rfl rfl (by simp) (by simp) (by simp)) ) ?_)
  rintro r32 w33 hE34 ⟨r0_35, rfl, hr36⟩
  replace hg := hg.mono (hE34.le ([some b25, ob11, some b1] ++ B))
  replace hf24 := fun A hA => (hf24 A hA).mono (hE34.le ([some b25, ob11, some b1] ++ A))
  have hf38 := Fr.atO hr36 hL30
  have hL37 := hL30.ext hE34
  refine Rl.op (OpY.move (v := (Value.tuple #[r0_35, (Value.int .i64 ((checkN ([97, 98, 99, 100, 101, 102, 103, 104])).2 : Int))])) rfl ?_)
  refine Rl.op (OpY.extract (vs := [r0_35, (Value.int .i64 ((checkN ([97, 98, 99, 100, 101, 102, 103, 104])).2 : Int))]) (v := r0_35) rfl rfl ?_)
  refine Rl.op (OpY.extract (vs := [r0_35, (Value.int .i64 ((checkN ([97, 98, 99, 100, 101, 102, 103, 104])).2 : Int))]) (v := (Value.int .i64 ((checkN ([97, 98, 99, 100, 101, 102, 103, 104])).2 : Int))) rfl rfl ?_)
  refine Rl.op (OpY.assign (v := r0_35) rfl ?_)
  refine Rl.op (OpY.assign (v := (Value.int .i64 ((checkN ([97, 98, 99, 100, 101, 102, 103, 104])).2 : Int))) rfl ?_)
  refine Rl.nil ?_
  refine Swp.seq ?_
  refine Swp.region rfl ?_
  refine Rl.op (OpY.buildSliceV (n := 3) (vs := [(Value.int .u8 ((97 : Nat) : Int)), (Value.int .u8 ((98 : Nat) : Int)), (Value.int .u8 ((99 : Nat) : Int))]) (css := [[(Value.int .u8 ((97 : Nat) : Int))], [(Value.int .u8 ((98 : Nat) : Int))], [(Value.int .u8 ((99 : Nat) : Int))]]) Tryd.underlying22 ti5 (by decide) rfl rfl (⟨rfl, rfl, ⟨rfl, rfl, ⟨rfl, rfl, trivial⟩⟩⟩) (by decide) hL37 ?_)
  intro b39 w40 hL41 hS42
  replace hg := hg.mono (hS42.le B)
  replace hf24 := fun A hA => (hf24 A hA).mono (hS42.le A)
  replace hf38 := fun A hA => (hf38 A hA).mono (hS42.le A)
  clear hL37 hS42
  replace hL41 : X.Loc [] B w w40 [some b39, some b25, ob11, some b1] [.cells (ints .u8 ([97, 98, 99]) ++ ([])), .cells (ints .u8 ([97, 98, 99, 100, 101, 102, 103, 104]) ++ ([])), .cells (ints .u8 (appN ([97, 98])) ++ (sp13)), .cells (ints .u8 ([97, 98]) ++ ([]))] := hL41
  refine Rl.op (OpY.convSame (i := 0) Tryd.underlying22 Tryd.underlying5 rfl hL41 rfl rfl ?_)
  intro w43 hL44 hS45
  replace hg := hg.mono (hS45.le B)
  replace hf24 := fun A hA => (hf24 A hA).mono (hS45.le A)
  replace hf38 := fun A hA => (hf38 A hA).mono (hS45.le A)
  clear hL41 hS45
  replace hL44 : X.Loc [] B w w43 [some b39, some b25, ob11, some b1] [.cells (ints .u8 ([97, 98, 99]) ++ ([])), .cells (ints .u8 ([97, 98, 99, 100, 101, 102, 103, 104]) ++ ([])), .cells (ints .u8 (appN ([97, 98])) ++ (sp13)), .cells (ints .u8 ([97, 98]) ++ ([]))] := hL44
  refine Rl.op (OpY.call en18 rfl rfl (check_c (Value.slice (some ⟨b39, 0, none⟩) (3) (3)) ([97, 98, 99]) (by first | assumption | (simp_all; done) | (refine bytesOk_append ?_ ?_ <;> first | assumption | (simp_all; done))) (by first | assumption | omega | (simp; done) | (simp; omega)) ([some b25, ob11, some b1] ++ B) _ (Bok.sub hL44.bokO (by simp +contextual)) (hL44.intsO 0 (o := 0) (ys := [97, 98, 99]) rfl rfl (by simp) (by simp) (by simp)) ) ?_)
  rintro r46 w47 hE48 ⟨r0_49, rfl, hr50⟩
  replace hg := hg.mono (hE48.le ([some b39, some b25, ob11, some b1] ++ B))
  replace hf24 := fun A hA => (hf24 A hA).mono (hE48.le ([some b39, some b25, ob11, some b1] ++ A))
  replace hf38 := fun A hA => (hf38 A hA).mono (hE48.le ([some b39, some b25, ob11, some b1] ++ A))
  have hf52 := Fr.atO hr50 hL44
  have hL51 := hL44.ext hE48
  refine Rl.op (OpY.move (v := (Value.tuple #[r0_49, (Value.int .i64 ((checkN ([97, 98, 99])).2 : Int))])) rfl ?_)
  refine Rl.op (OpY.extract (vs := [r0_49, (Value.int .i64 ((checkN ([97, 98, 99])).2 : Int))]) (v := r0_49) rfl rfl ?_)
  refine Rl.op (OpY.extract (vs := [r0_49, (Value.int .i64 ((checkN ([97, 98, 99])).2 : Int))]) (v := (Value.int .i64 ((checkN ([97, 98, 99])).2 : Int))) rfl rfl ?_)
  refine Rl.op (OpY.assign (v := r0_49) rfl ?_)
  refine Rl.op (OpY.assign (v := (Value.int .i64 ((checkN ([97, 98, 99])).2 : Int))) rfl ?_)
  refine Rl.nil ?_
  refine Swp.seq ?_
  refine Swp.region rfl ?_
  refine Rl.op (OpY.callq (v := (Value.int .u64 ((crcN 0 [] : Nat) : Int))) en12 rfl rfl (csum_c (Value.slice none 0 0) [] (by first | assumption | (simp_all; done) | (refine bytesOk_append ?_ ?_ <;> first | assumption | (simp_all; done))) (by first | assumption | omega | (simp; done) | (simp; omega)) ([some b39, some b25, ob11, some b1] ++ B) _ hL51.bokO (.inl ⟨⟨_, rfl⟩, rfl⟩) ) ?_)
  refine Rl.op (OpY.eql (x := ((crcN 0 [] : Nat) : Int)) (y := ((0 : Nat) : Int)) (crcN 0 [] = 0) rfl rfl (by omega) ?_)
  refine Rl.op (OpY.move (v := (Value.bool (decide (crcN 0 [] = 0)))) rfl ?_)
  refine Rl.yes (b' := (decide (crcN 0 [] = 0))) rfl rfl (by decide +kernel) (OpY.buildSliceV (n := 1) (vs := [(Value.int .u8 ((255 : Nat) : Int))]) (css := [[(Value.int .u8 ((255 : Nat) : Int))]]) Tryd.underlying22 ti5 (by decide) rfl rfl (⟨rfl, rfl, trivial⟩) (by decide) hL51 ?_)
  intro b53 w54 hL55 hS56
  replace hg := hg.mono (hS56.le B)
  replace hf24 := fun A hA => (hf24 A hA).mono (hS56.le A)
  replace hf38 := fun A hA => (hf38 A hA).mono (hS56.le A)
  replace hf52 := fun A hA => (hf52 A hA).mono (hS56.le A)
  clear hL51 hS56
  replace hL55 : X.Loc [] B w w54 [some b53, some b39, some b25, ob11, some b1] [.cells (ints .u8 ([255]) ++ ([])), .cells (ints .u8 ([97, 98, 99]) ++ ([])), .cells (ints .u8 ([97, 98, 99, 100, 101, 102, 103, 104]) ++ ([])), .cells (ints .u8 (appN ([97, 98])) ++ (sp13)), .cells (ints .u8 ([97, 98]) ++ ([]))] := hL55
  refine Rl.yes (b' := (decide (crcN 0 [] = 0))) rfl rfl (by decide +kernel) (OpY.callq (v := (Value.int .u64 ((crcN 0 ([255]) : Nat) : Int))) en12 rfl rfl (csum_c (Value.slice (some ⟨b53, 0, none⟩) (1) (1)) ([255]) (by first | assumption | (simp_all; done) | (refine bytesOk_append ?_ ?_ <;> first | assumption | (simp_all; done))) (by first | assumption | omega | (simp; done) | (simp; omega)) ([some b39, some b25, ob11, some b1] ++ B) _ (Bok.sub hL55.bokO (by simp +contextual)) (hL55.intsO 0 (o := 0) (ys := [255]) rfl rfl (by simp) (by simp) (by simp)) ) ?_)
  refine Rl.yes (b' := (decide (crcN 0 [] = 0))) rfl rfl (by decide +kernel) (OpY.eql (x := ((crcN 0 ([255]) : Nat) : Int)) (y := ((18374686479671623680 : Nat) : Int)) (crcN 0 ([255]) = 18374686479671623680) rfl rfl (by omega) ?_)
  refine Rl.op (OpY.pick_t (t := (decide (crcN 0 [] = 0))) (v := (Value.bool (decide (crcN 0 ([255]) = 18374686479671623680)))) rfl (by decide +kernel) rfl ?_)
  refine Rl.op (OpY.move (v := (Value.bool (decide (crcN 0 ([255]) = 18374686479671623680)))) rfl ?_)
  refine Rl.yes (b' := (decide (crcN 0 ([255]) = 18374686479671623680))) rfl rfl (by decide +kernel) (OpY.buildSliceV (n := 1) (vs := [(Value.int .u8 ((127 : Nat) : Int))]) (css := [[(Value.int .u8 ((127 : Nat) : Int))]]) Tryd.underlying22 ti5 (by decide) rfl rfl (⟨rfl, rfl, trivial⟩) (by decide) hL55 ?_)
  intro b57 w58 hL59 hS60
  replace hg := hg.mono (hS60.le B)
  replace hf24 := fun A hA => (hf24 A hA).mono (hS60.le A)
  replace hf38 := fun A hA => (hf38 A hA).mono (hS60.le A)
  replace hf52 := fun A hA => (hf52 A hA).mono (hS60.le A)
  clear hL55 hS60
  replace hL59 : X.Loc [] B w w58 [some b57, some b53, some b39, some b25, ob11, some b1] [.cells (ints .u8 ([127]) ++ ([])), .cells (ints .u8 ([255]) ++ ([])), .cells (ints .u8 ([97, 98, 99]) ++ ([])), .cells (ints .u8 ([97, 98, 99, 100, 101, 102, 103, 104]) ++ ([])), .cells (ints .u8 (appN ([97, 98])) ++ (sp13)), .cells (ints .u8 ([97, 98]) ++ ([]))] := hL59
  refine Rl.yes (b' := (decide (crcN 0 ([255]) = 18374686479671623680))) rfl rfl (by decide +kernel) (OpY.callq (v := (Value.int .u64 ((crcN 0 ([127]) : Nat) : Int))) en12 rfl rfl (csum_c (Value.slice (some ⟨b57, 0, none⟩) (1) (1)) ([127]) (by first | assumption | (simp_all; done) | (refine bytesOk_append ?_ ?_ <;> first | assumption | (simp_all; done))) (by first | assumption | omega | (simp; done) | (simp; omega)) ([some b53, some b39, some b25, ob11, some b1] ++ B) _ (Bok.sub hL59.bokO (by simp +contextual)) (hL59.intsO 0 (o := 0) (ys := [127]) rfl rfl (by simp) (by simp) (by simp)) ) ?_)
  refine Rl.yes (b' := (decide (crcN 0 ([255]) = 18374686479671623680))) rfl rfl (by decide +kernel) (OpY.eql (x := ((crcN 0 ([127]) : Nat) : Int)) (y := ((3921605676610555714 : Nat) : Int)) (crcN 0 ([127]) = 3921605676610555714) rfl rfl (by omega) ?_)
  refine Rl.op (OpY.pick_t (t := (decide (crcN 0 ([255]) = 18374686479671623680))) (v := (Value.bool (decide (crcN 0 ([127]) = 3921605676610555714)))) rfl (by decide +kernel) rfl ?_)
  refine Rl.op (OpY.move (v := (Value.bool (decide (crcN 0 ([127]) = 3921605676610555714)))) rfl ?_)
  refine Rl.yes (b' := (decide (crcN 0 ([127]) = 3921605676610555714))) rfl rfl (by decide +kernel) (OpY.buildSliceV (n := 9) (vs := [(Value.int .u8 ((49 : Nat) : Int)), (Value.int .u8 ((50 : Nat) : Int)), (Value.int .u8 ((51 : Nat) : Int)), (Value.int .u8 ((52 : Nat) : Int)), (Value.int .u8 ((53 : Nat) : Int)), (Value.int .u8 ((54 : Nat) : Int)), (Value.int .u8 ((55 : Nat) : Int)), (Value.int .u8 ((56 : Nat) : Int)), (Value.int .u8 ((57 : Nat) : Int))]) (css := [[(Value.int .u8 ((49 : Nat) : Int))], [(Value.int .u8 ((50 : Nat) : Int))], [(Value.int .u8 ((51 : Nat) : Int))], [(Value.int .u8 ((52 : Nat) : Int))], [(Value.int .u8 ((53 : Nat) : Int))], [(Value.int .u8 ((54 : Nat) : Int))], [(Value.int .u8 ((55 : Nat) : Int))], [(Value.int .u8 ((56 : Nat) : Int))], [(Value.int .u8 ((57 : Nat) : Int))]]) Tryd.underlying22 ti5 (by decide) rfl rfl (⟨rfl, rfl, ⟨rfl, rfl, ⟨rfl, rfl, ⟨rfl, rfl, ⟨rfl, rfl, ⟨rfl, rfl, ⟨rfl, rfl, ⟨rfl, rfl, ⟨rfl, rfl, trivial⟩⟩⟩⟩⟩⟩⟩⟩⟩) (by decide) hL59 ?_)
  intro b61 w62 hL63 hS64
  replace hg := hg.mono (hS64.le B)
  replace hf24 := fun A hA => (hf24 A hA).mono (hS64.le A)
  replace hf38 := fun A hA => (hf38 A hA).mono (hS64.le A)
  replace hf52 := fun A hA => (hf52 A hA).mono (hS64.le A)
  clear hL59 hS64
  replace hL63 : X.Loc [] B w w62 [some b61, some b57, some b53, some b39, some b25, ob11, some b1] [.cells (ints .u8 ([49, 50, 51, 52, 53, 54, 55, 56, 57]) ++ ([])), .cells (ints .u8 ([127]) ++ ([])), .cells (ints .u8 ([255]) ++ ([])), .cells (ints .u8 ([97, 98, 99]) ++ ([])), .cells (ints .u8 ([97, 98, 99, 100, 101, 102, 103, 104]) ++ ([])), .cells (ints .u8 (appN ([97, 98])) ++ (sp13)), .cells (ints .u8 ([97, 98]) ++ ([]))] := hL63
  refine Rl.yes (b' := (decide (crcN 0 ([127]) = 3921605676610555714))) rfl rfl (by decide +kernel) (OpY.convSame (i := 0) Tryd.underlying22 Tryd.underlying5 rfl hL63 rfl rfl ?_)
  intro w65 hL66 hS67
  replace hg := hg.mono (hS67.le B)
  replace hf24 := fun A hA => (hf24 A hA).mono (hS67.le A)
  replace hf38 := fun A hA => (hf38 A hA).mono (hS67.le A)
  replace hf52 := fun A hA => (hf52 A hA).mono (hS67.le A)
  clear hL63 hS67
  replace hL66 : X.Loc [] B w w65 [some b61, some b57, some b53, some b39, some b25, ob11, some b1] [.cells (ints .u8 ([49, 50, 51, 52, 53, 54, 55, 56, 57]) ++ ([])), .cells (ints .u8 ([127]) ++ ([])), .cells (ints .u8 ([255]) ++ ([])), .cells (ints .u8 ([97, 98, 99]) ++ ([])), .cells (ints .u8 ([97, 98, 99, 100, 101, 102, 103, 104]) ++ ([])), .cells (ints .u8 (appN ([97, 98])) ++ (sp13)), .cells (ints .u8 ([97, 98]) ++ ([]))] := hL66
  refine Rl.yes (b' := (decide (crcN 0 ([127]) = 3921605676610555714))) rfl rfl (by decide +kernel) (OpY.callq (v := (Value.int .u64 ((crcN 0 ([49, 50, 51, 52, 53, 54, 55, 56, 57]) : Nat) : Int))) en12 rfl rfl (csum_c (Value.slice (some ⟨b61, 0, none⟩) (9) (9)) ([49, 50, 51, 52, 53, 54, 55, 56, 57]) (by first | assumption | (simp_all; done) | (refine bytesOk_append ?_ ?_ <;> first | assumption | (simp_all; done))) (by first | assumption | omega | (simp; done) | (simp; omega)) ([some b57, some b53, some b39, some b25, ob11, some b1] ++ B) _ (Bok.sub hL66.bokO (by simp +contextual)) (hL66.intsO 0 (o := 0) (ys := [49, 50, 51, 52, 53, 54, 55, 56, 57]) rfl rfl (by simp) (by simp) (by simp)) ) ?_)
  refine Rl.yes (b' := (decide (crcN 0 ([127]) = 3921605676610555714))) rfl rfl (by decide +kernel) (OpY.eql (x := ((crcN 0 ([49, 50, 51, 52, 53, 54, 55, 56, 57]) : Nat) : Int)) (y := ((11051210869376104954 : Nat) : Int)) (crcN 0 ([49, 50, 51, 52, 53, 54, 55, 56, 57]) = 11051210869376104954) rfl rfl (by omega) ?_)
  refine Rl.op (OpY.pick_t (t := (decide (crcN 0 ([127]) = 3921605676610555714))) (v := (Value.bool (decide (crcN 0 ([49, 50, 51, 52, 53, 54, 55, 56, 57]) = 11051210869376104954)))) rfl (by decide +kernel) rfl ?_)
  refine Rl.op (OpY.move (v := (Value.bool (decide (crcN 0 ([49, 50, 51, 52, 53, 54, 55, 56, 57]) = 11051210869376104954)))) rfl ?_)
  refine Rl.yes (b' := (decide (crcN 0 ([49, 50, 51, 52, 53, 54, 55, 56, 57]) = 11051210869376104954))) rfl rfl (by decide +kernel) (OpY.buildSliceV (n := 1) (vs := [(Value.int .u8 ((255 : Nat) : Int))]) (css := [[(Value.int .u8 ((255 : Nat) : Int))]]) Tryd.underlying22 ti5 (by decide) rfl rfl (⟨rfl, rfl, trivial⟩) (by decide) hL66 ?_)
  intro b68 w69 hL70 hS71
  replace hg := hg.mono (hS71.le B)
  replace hf24 := fun A hA => (hf24 A hA).mono (hS71.le A)
  replace hf38 := fun A hA => (hf38 A hA).mono (hS71.le A)
  replace hf52 := fun A hA => (hf52 A hA).mono (hS71.le A)
  clear hL66 hS71
  replace hL70 : X.Loc [] B w w69 [some b68, some b61, some b57, some b53, some b39, some b25, ob11, some b1] [.cells (ints .u8 ([255]) ++ ([])), .cells (ints .u8 ([49, 50, 51, 52, 53, 54, 55, 56, 57]) ++ ([])), .cells (ints .u8 ([127]) ++ ([])), .cells (ints .u8 ([255]) ++ ([])), .cells (ints .u8 ([97, 98, 99]) ++ ([])), .cells (ints .u8 ([97, 98, 99, 100, 101, 102, 103, 104]) ++ ([])), .cells (ints .u8 (appN ([97, 98])) ++ (sp13)), .cells (ints .u8 ([97, 98]) ++ ([]))] := hL70
  refine Rl.yes (b' := (decide (crcN 0 ([49, 50, 51, 52, 53, 54, 55, 56, 57]) = 11051210869376104954))) rfl rfl (by decide +kernel) (OpY.callq (v := (Value.int .u64 ((crcN 0 ([255]) : Nat) : Int))) en12 rfl rfl (csum_c (Value.slice (some ⟨b68, 0, none⟩) (1) (1)) ([255]) (by first | assumption | (simp_all; done) | (refine bytesOk_append ?_ ?_ <;> first | assumption | (simp_all; done))) (by first | assumption | omega | (simp; done) | (simp; omega)) ([some b61, some b57, some b53, some b39, some b25, ob11, some b1] ++ B) _ (Bok.sub hL70.bokO (by simp +contextual)) (hL70.intsO 0 (o := 0) (ys := [255]) rfl rfl (by simp) (by simp) (by simp)) ) ?_)
  refine Rl.yes (b' := (decide (crcN 0 ([49, 50, 51, 52, 53, 54, 55, 56, 57]) = 11051210869376104954))) rfl rfl (by decide +kernel) (OpY.call en21 rfl rfl (form_c (crcN 0 ([255])) ((crcN_lt _ _)) ([some b68, some b61, some b57, some b53, some b39, some b25, ob11, some b1] ++ B) _ hL70.bokO hg ) ?_)
  rintro r72 w73 hE74 ⟨rfl⟩
  replace hg := hg.mono (hE74.le ([some b68, some b61, some b57, some b53, some b39, some b25, ob11, some b1] ++ B))
  replace hf24 := fun A hA => (hf24 A hA).mono (hE74.le ([some b68, some b61, some b57, some b53, some b39, some b25, ob11, some b1] ++ A))
  replace hf38 := fun A hA => (hf38 A hA).mono (hE74.le ([some b68, some b61, some b57, some b53, some b39, some b25, ob11, some b1] ++ A))
  replace hf52 := fun A hA => (hf52 A hA).mono (hE74.le ([some b68, some b61, some b57, some b53, some b39, some b25, ob11, some b1] ++ A))
  have hL75 := hL70.ext hE74
  refine Rl.yes (b' := (decide (crcN 0 ([49, 50, 51, 52, 53, 54, 55, 56, 57]) = 11051210869376104954))) rfl rfl (by decide +kernel) (OpY.strEql (x := (hexN (crcN 0 ([255])))) (y := ([102, 102, 48, 48, 48, 48, 48, 48, 48, 48, 48, 48, 48, 48, 48, 48] : List Nat)) rfl rfl (hexN_ok (crcN 0 ([255]))) (by decide) ?_)
  refine Rl.op (OpY.pick_t (t := (decide (crcN 0 ([49, 50, 51, 52, 53, 54, 55, 56, 57]) = 11051210869376104954))) (v := (Value.bool (decide ((hexN (crcN 0 ([255]))) = ([102, 102, 48, 48, 48, 48, 48, 48, 48, 48, 48, 48, 48, 48, 48, 48] : List Nat))))) rfl (by decide +kernel) rfl ?_)
  refine Rl.op (OpY.move (v := (Value.bool (decide ((hexN (crcN 0 ([255]))) = ([102, 102, 48, 48, 48, 48, 48, 48, 48, 48, 48, 48, 48, 48, 48, 48] : List Nat))))) rfl ?_)
  refine Rl.yes (b' := (decide ((hexN (crcN 0 ([255]))) = ([102, 102, 48, 48, 48, 48, 48, 48, 48, 48, 48, 48, 48, 48, 48, 48] : List Nat)))) rfl rfl (by decide +kernel) (OpY.move (v := (Value.int .i64 ((checkN (appN ([97, 98]))).2 : Int))) rfl ?_)
  refine Rl.yes (b' := (decide ((hexN (crcN 0 ([255]))) = ([102, 102, 48, 48, 48, 48, 48, 48, 48, 48, 48, 48, 48, 48, 48, 48] : List Nat)))) rfl rfl (by decide +kernel) (OpY.eql (x := ((checkN (appN ([97, 98]))).2 : Int)) (y := ((0 : Nat) : Int)) (((checkN (appN ([97, 98]))).2 : Int) = ((0 : Nat) : Int)) rfl rfl (by omega) ?_)
  refine Rl.op (OpY.pick_t (t := (decide ((hexN (crcN 0 ([255]))) = ([102, 102, 48, 48, 48, 48, 48, 48, 48, 48, 48, 48, 48, 48, 48, 48] : List Nat)))) (v := (Value.bool (decide (((checkN (appN ([97, 98]))).2 : Int) = ((0 : Nat) : Int))))) rfl (by decide +kernel) rfl ?_)
  refine Rl.op (OpY.move (v := (Value.bool (decide (((checkN (appN ([97, 98]))).2 : Int) = ((0 : Nat) : Int))))) rfl ?_)
  refine Rl.yes (b' := (decide (((checkN (appN ([97, 98]))).2 : Int) = ((0 : Nat) : Int)))) rfl rfl (by decide +kernel) (OpY.move (v := r0_21) rfl ?_)
  refine Rl.yes (b' := (decide (((checkN (appN ([97, 98]))).2 : Int) = ((0 : Nat) : Int)))) rfl rfl (by decide +kernel) (OpY.bytesToStr (v := r0_21) (xs := ((checkN (appN ([97, 98]))).1)) Tryd.underlying22 Tryd.underlying5 Tryd.underlying9 rfl (hf24 B hB) ?_)
  refine Rl.yes (b' := (decide (((checkN (appN ([97, 98]))).2 : Int) = ((0 : Nat) : Int)))) rfl rfl (by decide +kernel) (OpY.strEql (x := ((checkN (appN ([97, 98]))).1)) (y := ([97, 98] : List Nat)) rfl rfl (checkN_ok ((appN_ok (by first | assumption | (simp_all; done) | (refine bytesOk_append ?_ ?_ <;> first | assumption | (simp_all; done)))))) (by decide) ?_)
  refine Rl.op (OpY.pick_t (t := (decide (((checkN (appN ([97, 98]))).2 : Int) = ((0 : Nat) : Int)))) (v := (Value.bool (decide (((checkN (appN ([97, 98]))).1) = ([97, 98] : List Nat))))) rfl (by decide +kernel) rfl ?_)
  refine Rl.op (OpY.move (v := (Value.bool (decide (((checkN (appN ([97, 98]))).1) = ([97, 98] : List Nat))))) rfl ?_)
  refine Rl.yes (b' := (decide (((checkN (appN ([97, 98]))).1) = ([97, 98] : List Nat)))) rfl rfl (by decide +kernel) (OpY.move (v := (Value.int .i64 ((checkN ([97, 98, 99, 100, 101, 102, 103, 104])).2 : Int))) rfl ?_)
  refine Rl.yes (b' := (decide (((checkN (appN ([97, 98]))).1) = ([97, 98] : List Nat)))) rfl rfl (by decide +kernel) (OpY.eql (x := ((checkN ([97, 98, 99, 100, 101, 102, 103, 104])).2 : Int)) (y := ((17 : Nat) : Int)) (((checkN ([97, 98, 99, 100, 101, 102, 103, 104])).2 : Int) = ((17 : Nat) : Int)) rfl rfl (by omega) ?_)
  refine Rl.op (OpY.pick_t (t := (decide (((checkN (appN ([97, 98]))).1) = ([97, 98] : List Nat)))) (v := (Value.bool (decide (((checkN ([97, 98, 99, 100, 101, 102, 103, 104])).2 : Int) = ((17 : Nat) : Int))))) rfl (by decide +kernel) rfl ?_)
  refine Rl.op (OpY.move (v := (Value.bool (decide (((checkN ([97, 98, 99, 100, 101, 102, 103, 104])).2 : Int) = ((17 : Nat) : Int))))) rfl ?_)
  refine Rl.yes (b' := (decide (((checkN ([97, 98, 99, 100, 101, 102, 103, 104])).2 : Int) = ((17 : Nat) : Int)))) rfl rfl (by decide +kernel) (OpY.move (v := (Value.int .i64 ((checkN ([97, 98, 99])).2 : Int))) rfl ?_)
  refine Rl.yes (b' := (decide (((checkN ([97, 98, 99, 100, 101, 102, 103, 104])).2 : Int) = ((17 : Nat) : Int)))) rfl rfl (by decide +kernel) (OpY.eql (x := ((checkN ([97, 98, 99])).2 : Int)) (y := ((2 : Nat) : Int)) (((checkN ([97, 98, 99])).2 : Int) = ((2 : Nat) : Int)) rfl rfl (by omega) ?_)
  refine Rl.op (OpY.pick_t (t := (decide (((checkN ([97, 98, 99, 100, 101, 102, 103, 104])).2 : Int) = ((17 : Nat) : Int)))) (v := (Value.bool (decide (((checkN ([97, 98, 99])).2 : Int) = ((2 : Nat) : Int))))) rfl (by decide +kernel) rfl ?_)
  refine Rl.op (OpY.assign (v := (Value.bool (decide (((checkN ([97, 98, 99])).2 : Int) = ((2 : Nat) : Int))))) rfl ?_)
  refine Rl.nil ?_
  refine Swp.ret ?_
  refine ⟨[(Value.bool (decide (((checkN ([97, 98, 99])).2 : Int) = ((2 : Nat) : Int))))], ⟨rfl, trivial⟩, ?_⟩
  refine ⟨_, rfl, hL75.done, ?_⟩
  · exact congrArg Value.bool (Eq.symm (by decide +kernel))
end Go.Proofs.YtpfbdhfpojbmlaaDoor.P3

/- Walks, written by a program of mine (wip/tool); the kernel checks them. -/
import Derived.Test.YtckhldmpcddjmaaDoorProg
import Derived.Test.YtckhldmpcddjmaaDoorZ12
import Derived.Test.YtckhldmpcddjmaaDoorA20
import Derived.Test.YtckhldmpcddjmaaDoorPL
import Derived.Test.YtckhldmpcddjmaaDoorWAAtMost
set_option maxRecDepth 100000
set_option maxHeartbeats 40000000
set_option linter.unusedVariables false
set_option linter.unusedSimpArgs false
namespace Go.Proofs.YtckhldmpcddjmaaDoor.WL
open Go Go.RowKit Go.X Go.D Go.Proofs.YtckhldmpcddjmaaDoor.WA
theorem ti23 : TI Tryd.prog 23 1 24 (Value.slice none 0 0) := TI.mk (by kernel_rfl)
theorem ti39 : TI Tryd.prog 39 1 24 (Value.slice none 0 0) := TI.mk (by kernel_rfl)
theorem ti63 : TI Tryd.prog 63 3 16 (Value.agg #[(Value.int .u8 0), (Value.int .u8 0), (Value.int .i64 0)]) := TI.mk (by kernel_rfl)
theorem ti25 : TI Tryd.prog 25 2 48 (Value.agg #[(Value.slice none 0 0), (Value.slice none 0 0)]) := TI.mk (by kernel_rfl)
theorem pl25 : placesT Tryd.prog 25 = some [(0, 1), (1, 1)] := by kernel_rfl
theorem pl63 : placesT Tryd.prog 63 = some [(0, 1), (1, 1), (2, 1)] := by kernel_rfl
theorem en33 : Go.X.Enters Tryd.prog 33 := ⟨Tryd.f33, Tryd.func33, by kernel_rfl, by kernel_rfl⟩
theorem en13 : Go.X.Enters Tryd.prog 13 := ⟨Tryd.f13, Tryd.func13, by kernel_rfl, by kernel_rfl⟩
theorem en16 : Go.X.Enters Tryd.prog 16 := ⟨Tryd.f16, Tryd.func16, by kernel_rfl, by kernel_rfl⟩
theorem en22 : Go.X.Enters Tryd.prog 22 := ⟨Tryd.f22, Tryd.func22, by kernel_rfl, by kernel_rfl⟩
theorem en20 : Go.X.Enters Tryd.prog 20 := ⟨Tryd.f20, Tryd.func20, by kernel_rfl, by kernel_rfl⟩
theorem en24 : Go.X.Enters Tryd.prog 24 := ⟨Tryd.f24, Tryd.func24, by kernel_rfl, by kernel_rfl⟩
theorem en18 : Go.X.Enters Tryd.prog 18 := ⟨Tryd.f18, Tryd.func18, by kernel_rfl, by kernel_rfl⟩
theorem en11 : Go.X.Enters Tryd.prog 11 := ⟨Tryd.f11, Tryd.func11, by kernel_rfl, by kernel_rfl⟩
theorem en14 : Go.X.Enters Tryd.prog 14 := ⟨Tryd.f14, Tryd.func14, by kernel_rfl, by kernel_rfl⟩
theorem en19 : Go.X.Enters Tryd.prog 19 := ⟨Tryd.f19, Tryd.func19, by kernel_rfl, by kernel_rfl⟩
theorem en21 : Go.X.Enters Tryd.prog 21 := ⟨Tryd.f21, Tryd.func21, by kernel_rfl, by kernel_rfl⟩
theorem en12 : Go.X.Enters Tryd.prog 12 := ⟨Tryd.f12, Tryd.func12, by kernel_rfl, by kernel_rfl⟩
theorem en28 : Go.X.Enters Tryd.prog 28 := ⟨Tryd.f28, Tryd.func28, by kernel_rfl, by kernel_rfl⟩
theorem en29 : Go.X.Enters Tryd.prog 29 := ⟨Tryd.f29, Tryd.func29, by kernel_rfl, by kernel_rfl⟩
theorem en30 : Go.X.Enters Tryd.prog 30 := ⟨Tryd.f30, Tryd.func30, by kernel_rfl, by kernel_rfl⟩
theorem en31 : Go.X.Enters Tryd.prog 31 := ⟨Tryd.f31, Tryd.func31, by kernel_rfl, by kernel_rfl⟩
theorem en32 : Go.X.Enters Tryd.prog 32 := ⟨Tryd.f32, Tryd.func32, by kernel_rfl, by kernel_rfl⟩
theorem en27 : Go.X.Enters Tryd.prog 27 := ⟨Tryd.f27, Tryd.func27, by kernel_rfl, by kernel_rfl⟩
theorem en15 : Go.X.Enters Tryd.prog 15 := ⟨Tryd.f15, Tryd.func15, by kernel_rfl, by kernel_rfl⟩
theorem en17 : Go.X.Enters Tryd.prog 17 := ⟨Tryd.f17, Tryd.func17, by kernel_rfl, by kernel_rfl⟩
theorem en23 : Go.X.Enters Tryd.prog 23 := ⟨Tryd.f23, Tryd.func23, by kernel_rfl, by kernel_rfl⟩
theorem en25 : Go.X.Enters Tryd.prog 25 := ⟨Tryd.f25, Tryd.func25, by kernel_rfl, by kernel_rfl⟩
theorem en26 : Go.X.Enters Tryd.prog 26 := ⟨Tryd.f26, Tryd.func26, by kernel_rfl, by kernel_rfl⟩
theorem lexample_w (N : Nat)   (w : World) (S : Nat → Prop)  (r : ADfa) (h : lexample N  = some r) :
  Calls Tryd.prog 33 #[] w (Ret w (fun v w' => ∃ (v0_0 : Value) (v0_1 : Value), (Value.agg #[v0_0, v0_1]) = v ∧ Rs rBool (Hv w.heap.size None [] w') v0_0 r.Accept ∧ Rs (rSl rAEdge) (Hv w.heap.size None [] w') v0_1 r.Edges ∧ True)) := by
 unfold lexample at h
 have hL : Go.X.Loc [] [] w w [] [] := Go.X.Loc.begin0 w
 refine calls_of (l := []) (rl := [.cell 0 32]) (n := 8) Tryd.func33 rfl rfl rfl (Nat.le_of_ble_eq_true rfl) ?_
 refine Swp.seq (Swp.region rfl (Rl.op (OpY.alloc (cs := [(Value.slice none 0 0), (Value.slice none 0 0)]) ti32 rfl hL ?_)))
 intro b1 w2 hL3 hS5
 refine Rl.nil (Swp.seq (Swp.region rfl ?_))
 have hE7 : Els rBool (Hv w.heap.size None [some b1] w2) [(Value.bool false), (Value.bool false), (Value.bool true)] [false, false, true] := (Els.cons (a := [(Value.bool false)]) rfl (Els.cons (a := [(Value.bool false)]) rfl (Els.cons (a := [(Value.bool true)]) rfl Els.nil)))
 refine Rl.op (OpY.litRow (r := rBool) (vs := [(Value.bool false), (Value.bool false), (Value.bool true)]) (css := [[(Value.bool false)], [(Value.bool false)], [(Value.bool true)]]) (xs := [false, false, true]) Tryd.underlying22 ti4 (Nat.le_of_ble_eq_true rfl) rfl rfl ⟨rfl, rfl, ⟨rfl, rfl, ⟨rfl, rfl, trivial⟩⟩⟩ (Nat.le_of_ble_eq_true rfl) hE7 rfl hL3 ?_)
 intro b6 w10 hc8 hL10 hS10
 have K10 := ks w hS10
 refine Rl.op (OpY.build (zc := [(Value.int .u8 0), (Value.int .u8 0), (Value.int .i64 0)]) (cs := [(Value.int .u8 97), (Value.int .u8 99), (Value.int .i64 1)]) (is := [0, 1, 2]) (vs := [(Value.int .u8 97), (Value.int .u8 99), (Value.int .i64 1)]) (css := [[(Value.int .u8 97)], [(Value.int .u8 99)], [(Value.int .i64 1)]]) pl57 ti57 rfl rfl rfl ⟨rfl, rfl, rfl, trivial⟩ rfl ?_)
 have hE10 : Els rAEdge (Hv w.heap.size None [some b6, some b1] w10) [(Value.int .u8 97), (Value.int .u8 99), (Value.int .i64 1)] [(AEdge.mk 97 99 1)] := (Els.cons (a := [(Value.int .u8 97), (Value.int .u8 99), (Value.int .i64 1)]) (rAEdge_close ⟨rfl, trivial⟩) Els.nil)
 refine Rl.op (OpY.litRow (r := rAEdge) (vs := [(Value.agg #[(Value.int .u8 97), (Value.int .u8 99), (Value.int .i64 1)])]) (css := [[(Value.int .u8 97), (Value.int .u8 99), (Value.int .i64 1)]]) (xs := [(AEdge.mk 97 99 1)]) Tryd.underlying58 ti57 (Nat.le_of_ble_eq_true rfl) rfl rfl ⟨rfl, rfl, trivial⟩ (Nat.le_of_ble_eq_true rfl) hE10 rfl hL10 ?_)
 intro b10 w11 hc10 hL11 hS11
 have K11 := ks w hS11
 refine Rl.op (OpY.build (zc := [(Value.int .u8 0), (Value.int .u8 0), (Value.int .i64 0)]) (cs := [(Value.int .u8 100), (Value.int .u8 100), (Value.int .i64 2)]) (is := [0, 1, 2]) (vs := [(Value.int .u8 100), (Value.int .u8 100), (Value.int .i64 2)]) (css := [[(Value.int .u8 100)], [(Value.int .u8 100)], [(Value.int .i64 2)]]) pl57 ti57 rfl rfl rfl ⟨rfl, rfl, rfl, trivial⟩ rfl ?_)
 have hE11 : Els rAEdge (Hv w.heap.size None [some b10, some b6, some b1] w11) [(Value.int .u8 100), (Value.int .u8 100), (Value.int .i64 2)] [(AEdge.mk 100 100 2)] := (Els.cons (a := [(Value.int .u8 100), (Value.int .u8 100), (Value.int .i64 2)]) (rAEdge_close ⟨rfl, trivial⟩) Els.nil)
 refine Rl.op (OpY.litRow (r := rAEdge) (vs := [(Value.agg #[(Value.int .u8 100), (Value.int .u8 100), (Value.int .i64 2)])]) (css := [[(Value.int .u8 100), (Value.int .u8 100), (Value.int .i64 2)]]) (xs := [(AEdge.mk 100 100 2)]) Tryd.underlying58 ti57 (Nat.le_of_ble_eq_true rfl) rfl rfl ⟨rfl, rfl, trivial⟩ (Nat.le_of_ble_eq_true rfl) hE11 rfl hL11 ?_)
 intro b11 w12 hc11 hL12 hS12
 have K12 := ks w hS12
 have f10 := ((hE10.mono (K11 None)).mono (K12 None))
 have f11 := hL12.freezeRow 1 rfl rfl f10 rfl rfl rfl hc10
 have hp10 := hL12.pick [0, 2, 3] rfl rfl rfl
 have hL13 : Go.X.Loc [] [] w w12 [some b11, some b6, some b1] [Cont.cells ([] ++ ([(Value.int .u8 100), (Value.int .u8 100), (Value.int .i64 2)] ++ [])), Cont.cells ([] ++ ([(Value.bool false), (Value.bool false), (Value.bool true)] ++ [])), Cont.cells [(Value.slice none 0 0), (Value.slice none 0 0)]] := hp10.1
 have K13 := ks w hp10.2
 have f12 := ((hE11.mono (K12 None)).mono (K13 None))
 have f13 := hL13.freezeRow 0 rfl rfl f12 rfl rfl rfl hc11
 have hp11 := hL13.pick [1, 2] rfl rfl rfl
 have hL14 : Go.X.Loc [] [] w w12 [some b6, some b1] [Cont.cells ([] ++ ([(Value.bool false), (Value.bool false), (Value.bool true)] ++ [])), Cont.cells [(Value.slice none 0 0), (Value.slice none 0 0)]] := hp11.1
 have K14 := ks w hp11.2
 have f14 := (f11.mono (K14 None))
 have hE12 : Els (rSl rAEdge) (Hv w.heap.size None [some b6, some b1] w12) [(osv (some b10) 0 1 1), (osv (some b11) 0 1 1), (Value.slice none 0 0)] [[(AEdge.mk 97 99 1)], [(AEdge.mk 100 100 2)], []] := (Els.cons (a := [(osv (some b10) 0 1 1)]) ⟨_, rfl, f14⟩ (Els.cons (a := [(osv (some b11) 0 1 1)]) ⟨_, rfl, f13⟩ (Els.cons (a := [(Value.slice none 0 0)]) ⟨_, rfl, Rs.nil⟩ Els.nil)))
 refine Rl.op (OpY.litRow (r := (rSl rAEdge)) (vs := [(osv (some b10) 0 1 1), (osv (some b11) 0 1 1), (Value.slice none 0 0)]) (css := [[(osv (some b10) 0 1 1)], [(osv (some b11) 0 1 1)], [(Value.slice none 0 0)]]) (xs := [[(AEdge.mk 97 99 1)], [(AEdge.mk 100 100 2)], []]) Tryd.underlying30 ti58 (Nat.le_of_ble_eq_true rfl) rfl rfl ⟨(one_cells f14.one), rfl, ⟨(one_cells f13.one), rfl, ⟨rfl, rfl, trivial⟩⟩⟩ (Nat.le_of_ble_eq_true rfl) hE12 rfl hL14 ?_)
 intro b12 w13 hc12 hL15 hS13
 have K15 := ks w hS13
 refine Rl.op (OpY.build (zc := [(Value.slice none 0 0), (Value.slice none 0 0)]) (cs := [(osv (some b6) 0 3 3), (osv (some b12) 0 3 3)]) (is := [0, 1]) (vs := [(osv (some b6) 0 3 3), (osv (some b12) 0 3 3)]) (css := [[(osv (some b6) 0 3 3)], [(osv (some b12) 0 3 3)]]) pl32 ti32 rfl rfl rfl ⟨(one_cells (osv_one _ _ _ _)), ⟨(one_cells (osv_one _ _ _ _)), trivial⟩⟩ rfl ?_)
 refine Rl.op0 (OpY.store (vs := [(osv (some b6) 0 3 3), (osv (some b12) 0 3 3)]) ti32 rfl rfl rfl rfl (ones_cons (osv_one _ _ _ _) (ones_cons (osv_one _ _ _ _) ones_nil)) hL15 2 rfl rfl (Nat.le_of_ble_eq_true rfl) ?_)
 intro w14 (hL16 : Go.X.Loc [] [] w w14 [some b12, some b6, some b1] [Cont.cells ([] ++ ([(osv (some b10) 0 1 1), (osv (some b11) 0 1 1), (Value.slice none 0 0)] ++ [])), Cont.cells ([] ++ ([(Value.bool false), (Value.bool false), (Value.bool true)] ++ [])), Cont.cells [(osv (some b6) 0 3 3), (osv (some b12) 0 3 3)]]) hS14
 have K16 := ks w hS14
 refine Rl.nil ?_
 have f15 := (((((((hE7.mono (K10 None)).mono (K11 None)).mono (K12 None)).mono (K13 None)).mono (K14 None)).mono (K15 None)).mono (K16 None))
 have f16 := hL16.freezeRow 1 rfl rfl f15 rfl rfl rfl hc8
 have hp12 := hL16.pick [0, 2] rfl rfl rfl
 have hL17 : Go.X.Loc [] [] w w14 [some b12, some b1] [Cont.cells ([] ++ ([(osv (some b10) 0 1 1), (osv (some b11) 0 1 1), (Value.slice none 0 0)] ++ [])), Cont.cells [(osv (some b6) 0 3 3), (osv (some b12) 0 3 3)]] := hp12.1
 have K17 := ks w hp12.2
 have f17 := (((hE12.mono (K15 None)).mono (K16 None)).mono (K17 None))
 have f18 := hL17.freezeRow 0 rfl rfl f17 rfl rfl rfl hc12
 have hp13 := hL17.pick [1] rfl rfl rfl
 have hL18 : Go.X.Loc [] [] w w14 [some b1] [Cont.cells [(osv (some b6) 0 3 3), (osv (some b12) 0 3 3)]] := hp13.1
 have K18 := ks w hp13.2
 refine Swp.ret ?_
 obtain rfl := Option.some.inj h
 refine ⟨[(Value.agg #[(osv (some b6) 0 3 3), (osv (some b12) 0 3 3)])], ⟨⟨⟨b1, 0, none⟩, rfl, res_boxA Tryd.underlying32 rfl ti32 (hL18.at 0 rfl rfl) rfl⟩, trivial⟩, ⟨_, rfl, hL18.done, ?_⟩⟩
 have f19 := (f16.mono (K18 None))
 exact ⟨(osv (some b6) 0 3 3), (osv (some b12) 0 3 3), rfl, (f19.mono Hv.out), (f18.mono Hv.out), trivial⟩
theorem awake_w0 (N : Nat)   (w : World) (S : Nat → Prop)  (r : Bool) (h : awake N  = some r) (hr : r = true) :
  Calls Tryd.prog 11 #[] w (Ret w (fun v w' => (Value.bool r) = v ∧ True)) := by
 unfold awake at h
 have hL : Go.X.Loc [] [] w w [] [] := Go.X.Loc.begin0 w
 refine calls_of (l := []) (rl := [.tmp 0]) (n := 79) Tryd.func11 rfl rfl rfl (Nat.le_of_ble_eq_true rfl) ?_
 refine Swp.seq (Swp.region rfl (Rl.op (OpY.assign (v := (Value.bool false)) rfl ?_)))
 refine Rl.nil (Swp.seq (Swp.region rfl ?_))
 obtain ⟨r1, q2, h⟩ := bind_some h
 refine Rl.op (OpY.call en33 rfl rfl (lexample_w N _ Any r1 q2) ?_)
 rintro _ w8 hE10 ⟨v3, v5, rfl, k4, k6, -⟩
 replace k4 := k4.mono (Hv.freshO (S := None) hL [])
 replace k6 := k6.mono (Hv.freshO (S := None) hL [])
 have hL9 := hL.ext hE10
 refine Rl.op (OpY.alloc (cs := [(Value.slice none 0 0), (Value.slice none 0 0)]) ti32 rfl hL9 ?_)
 intro b10 w10 hL10 hS10
 have K10 := ks w hS10
 have f10 := (k6.mono (K10 None))
 have f11 := (k4.mono (K10 None))
 refine Rl.op0 (OpY.store (vs := [v3, v5]) ti32 rfl rfl rfl rfl (ones_cons f11.one (ones_cons f10.one ones_nil)) hL10 0 rfl rfl (Nat.le_of_ble_eq_true rfl) ?_)
 intro w11 (hL11 : Go.X.Loc [] [] w w11 [some b10] [Cont.cells [v3, v5]]) hS11
 have K11 := ks w hS11
 refine Rl.nil (Swp.seq (Swp.region rfl (Rl.op (OpY.ldBoxA (vs := [v3, v5]) Tryd.underlying32 rfl ti32 rfl (hL11.at 0 rfl rfl) rfl rfl ?_))))
 obtain ⟨r10, q10, h⟩ := bind_some h
 have f12 := (f11.mono (K11 None))
 have f13 := (f10.mono (K11 None))
 refine Rl.op (OpY.call en13 rfl rfl (aShortest_w N r1 v3 v5 _ Any (f12.mono vw_any) (f13.mono vw_any) r10 q10) ?_)
 rintro _ w12 hE11 ⟨rfl, -⟩
 have hL12 := hL11.ext hE11
 have K12 := ke hL11 hE11
 refine Rl.op (OpY.move (v := (Value.tuple #[(Value.string (s8 r10.1)), (Value.bool r10.2)])) rfl ?_)
 refine Rl.op (OpY.extract (vs := [(Value.string (s8 r10.1)), (Value.bool r10.2)]) (v := (Value.string (s8 r10.1))) rfl rfl ?_)
 refine Rl.op (OpY.extract (vs := [(Value.string (s8 r10.1)), (Value.bool r10.2)]) (v := (Value.bool r10.2)) rfl rfl ?_)
 refine Rl.op (OpY.assign (v := (Value.string (s8 r10.1))) rfl ?_)
 refine Rl.op (OpY.assign (v := (Value.bool r10.2)) rfl ?_)
 refine Rl.nil (Swp.seq (Swp.region rfl (Rl.op (OpY.ldBoxA (vs := [v3, v5]) Tryd.underlying32 rfl ti32 rfl (hL12.at 0 rfl rfl) rfl rfl ?_))))
 obtain ⟨r11, q11, h⟩ := bind_some h
 have f14 := (f12.mono (K12 None))
 have f15 := (f13.mono (K12 None))
 refine Rl.op (OpY.call en16 rfl rfl (aWords_w N r1 2 2 v3 v5 _ Any (f14.mono vw_any) (f15.mono vw_any) r11 q11) ?_)
 rintro _ w13 hE12 ⟨ob10, cap10, cs10, sp10, rfl, hN10, hE13, hc10, -⟩
 replace hE13 := hE13.mono (Hv.freshO (S := None) hL12 [ob10])
 have hp10 := hL12.adoptL hE12 hN10
 have hL13 := hp10.1
 have K13 := ks w hp10.2
 refine Rl.op (OpY.assign (v := (osv ob10 0 (List.length r11) cap10)) rfl ?_)
 refine Rl.nil (Swp.seq (Swp.region rfl ?_))
 have hE14 : Els rBool (Hv w.heap.size None [ob10, some b10] w13) [(Value.bool false), (Value.bool false)] [false, false] := (Els.cons (a := [(Value.bool false)]) rfl (Els.cons (a := [(Value.bool false)]) rfl Els.nil))
 refine Rl.op (OpY.litRow (r := rBool) (vs := [(Value.bool false), (Value.bool false)]) (css := [[(Value.bool false)], [(Value.bool false)]]) (xs := [false, false]) Tryd.underlying22 ti4 (Nat.le_of_ble_eq_true rfl) rfl rfl ⟨rfl, rfl, ⟨rfl, rfl, trivial⟩⟩ (Nat.le_of_ble_eq_true rfl) hE14 rfl hL13 ?_)
 intro b11 w14 hc11 hL14 hS12
 have K14 := ks w hS12
 refine Rl.op (OpY.build (zc := [(Value.int .u8 0), (Value.int .u8 0), (Value.int .i64 0)]) (cs := [(Value.int .u8 97), (Value.int .u8 122), (Value.int .i64 1)]) (is := [0, 1, 2]) (vs := [(Value.int .u8 97), (Value.int .u8 122), (Value.int .i64 1)]) (css := [[(Value.int .u8 97)], [(Value.int .u8 122)], [(Value.int .i64 1)]]) pl57 ti57 rfl rfl rfl ⟨rfl, rfl, rfl, trivial⟩ rfl ?_)
 have hE15 : Els rAEdge (Hv w.heap.size None [some b11, ob10, some b10] w14) [(Value.int .u8 97), (Value.int .u8 122), (Value.int .i64 1)] [(AEdge.mk 97 122 1)] := (Els.cons (a := [(Value.int .u8 97), (Value.int .u8 122), (Value.int .i64 1)]) (rAEdge_close ⟨rfl, trivial⟩) Els.nil)
 refine Rl.op (OpY.litRow (r := rAEdge) (vs := [(Value.agg #[(Value.int .u8 97), (Value.int .u8 122), (Value.int .i64 1)])]) (css := [[(Value.int .u8 97), (Value.int .u8 122), (Value.int .i64 1)]]) (xs := [(AEdge.mk 97 122 1)]) Tryd.underlying58 ti57 (Nat.le_of_ble_eq_true rfl) rfl rfl ⟨rfl, rfl, trivial⟩ (Nat.le_of_ble_eq_true rfl) hE15 rfl hL14 ?_)
 intro b12 w15 hc12 hL15 hS13
 have K15 := ks w hS13
 have f16 := (hE15.mono (K15 None))
 have f17 := hL15.freezeRow 0 rfl rfl f16 rfl rfl rfl hc12
 have hp11 := hL15.pick [1, 2, 3] rfl rfl rfl
 have hL16 : Go.X.Loc [] [] w w15 [some b11, ob10, some b10] [Cont.cells ([] ++ ([(Value.bool false), (Value.bool false)] ++ [])), Cont.cells ([] ++ (cs10 ++ sp10)), Cont.cells [v3, v5]] := hp11.1
 have K16 := ks w hp11.2
 have hE16 : Els (rSl rAEdge) (Hv w.heap.size None [some b11, ob10, some b10] w15) [(osv (some b12) 0 1 1), (Value.slice none 0 0)] [[(AEdge.mk 97 122 1)], []] := (Els.cons (a := [(osv (some b12) 0 1 1)]) ⟨_, rfl, f17⟩ (Els.cons (a := [(Value.slice none 0 0)]) ⟨_, rfl, Rs.nil⟩ Els.nil))
 refine Rl.op (OpY.litRow (r := (rSl rAEdge)) (vs := [(osv (some b12) 0 1 1), (Value.slice none 0 0)]) (css := [[(osv (some b12) 0 1 1)], [(Value.slice none 0 0)]]) (xs := [[(AEdge.mk 97 122 1)], []]) Tryd.underlying30 ti58 (Nat.le_of_ble_eq_true rfl) rfl rfl ⟨(one_cells f17.one), rfl, ⟨rfl, rfl, trivial⟩⟩ (Nat.le_of_ble_eq_true rfl) hE16 rfl hL16 ?_)
 intro b13 w16 hc13 hL17 hS14
 have K17 := ks w hS14
 refine Rl.op (OpY.build (zc := [(Value.slice none 0 0), (Value.slice none 0 0)]) (cs := [(osv (some b11) 0 2 2), (osv (some b13) 0 2 2)]) (is := [0, 1]) (vs := [(osv (some b11) 0 2 2), (osv (some b13) 0 2 2)]) (css := [[(osv (some b11) 0 2 2)], [(osv (some b13) 0 2 2)]]) pl32 ti32 rfl rfl rfl ⟨(one_cells (osv_one (some b11) 0 2 2)), ⟨(one_cells (osv_one (some b13) 0 2 2)), trivial⟩⟩ rfl ?_)
 obtain ⟨r12, q12, h⟩ := bind_some h
 have f18 := ((((hE14.mono (K14 None)).mono (K15 None)).mono (K16 None)).mono (K17 None))
 have f19 := (hE16.mono (K17 None))
 refine Rl.op (OpY.call en22 rfl rfl (aMinimize_w N (ADfa.mk [false, false] [[(AEdge.mk 97 122 1)], []]) (osv (some b11) 0 2 2) (osv (some b13) 0 2 2) _ Any (own_row_any (pre := []) (o := 0) (n := 2) (cap := 2) (hL17.at 1 rfl rfl) f18 vw_any rfl rfl rfl hc11) (own_row_any (pre := []) (o := 0) (n := 2) (cap := 2) (hL17.at 0 rfl rfl) f19 vw_any rfl rfl rfl hc13) r12 q12) ?_)
 rintro _ w17 hE17 ⟨v10, v11, rfl, k10, k11, -⟩
 replace k10 := k10.mono (Hv.freshO (S := None) hL17 [])
 replace k11 := k11.mono (Hv.freshO (S := None) hL17 [])
 have hL18 := hL17.ext hE17
 have K18 := ke hL17 hE17
 refine Rl.op (OpY.move (v := (Value.tuple #[(Value.agg #[v10, v11]), (Value.int .i64 r12.2)])) rfl ?_)
 refine Rl.op (OpY.extract (vs := [(Value.agg #[v10, v11]), (Value.int .i64 r12.2)]) (v := (Value.agg #[v10, v11])) rfl rfl ?_)
 refine Rl.op (OpY.extract (vs := [(Value.agg #[v10, v11]), (Value.int .i64 r12.2)]) (v := (Value.int .i64 r12.2)) rfl rfl ?_)
 refine Rl.op (OpY.alloc (cs := [(Value.slice none 0 0), (Value.slice none 0 0)]) ti32 rfl hL18 ?_)
 intro b14 w18 hL19 hS15
 have K19 := ks w hS15
 have f20 := (k11.mono (K19 None))
 have f21 := (k10.mono (K19 None))
 refine Rl.op0 (OpY.store (vs := [v10, v11]) ti32 rfl rfl rfl rfl (ones_cons f21.one (ones_cons f20.one ones_nil)) hL19 0 rfl rfl (Nat.le_of_ble_eq_true rfl) ?_)
 intro w19 (hL20 : Go.X.Loc [] [] w w19 [some b14, some b13, some b11, ob10, some b10] [Cont.cells [v10, v11], Cont.cells ([] ++ ([(osv (some b12) 0 1 1), (Value.slice none 0 0)] ++ [])), Cont.cells ([] ++ ([(Value.bool false), (Value.bool false)] ++ [])), Cont.cells ([] ++ (cs10 ++ sp10)), Cont.cells [v3, v5]]) hS16
 have K20 := ks w hS16
 refine Rl.op (OpY.assign (v := (Value.int .i64 r12.2)) rfl ?_)
 refine Rl.nil (Swp.seq (Swp.region rfl (Rl.op (OpY.move (v := (Value.string (s8 r10.1))) rfl ?_))))
 refine Rl.op (OpY.sEql (x := r10.1) (y := ([97, 100] : List UInt8)) rfl rfl ?_)
 refine Rl.op (OpY.move (v := (Value.bool (decide (r10.1 = ([97, 100] : List UInt8))))) rfl ?_)
 by_cases hc14 : r10.1 = ([97, 100] : List UInt8)
 ·
  replace h := ite_t hc14 h
  refine Rl.yes rfl rfl (decide_eq_true hc14) (OpY.move (v := (Value.bool r10.2)) rfl ?_)
  refine Rl.op (OpY.pick_t (t := (decide (r10.1 = ([97, 100] : List UInt8)))) (v := (Value.bool r10.2)) rfl (decide_eq_true hc14) rfl ?_)
  refine Rl.op (OpY.move (v := (Value.bool r10.2)) rfl ?_)
  by_cases hc15 : r10.2 = true
  ·
   replace h := ite_t hc15 h
   refine Rl.yes rfl rfl hc15 (OpY.move (v := (osv ob10 0 (List.length r11) cap10)) rfl ?_)
   have f22 := (((((((hE13.mono (K14 None)).mono (K15 None)).mono (K16 None)).mono (K17 None)).mono (K18 None)).mono (K19 None)).mono (K20 None))
   refine Rl.yes rfl rfl hc15 (OpY.lenRow (pre := []) (r := rStr) (xs := r11) Tryd.underlying35 rfl (hL20.at 3 rfl rfl) f22 rfl rfl ?_)
   refine Rl.yes rfl rfl hc15 (OpY.eql (x := (List.length r11 : Int)) (y := 2) (((List.length r11 : Int) : Int) = 2) rfl rfl Iff.rfl ?_)
   refine Rl.op (OpY.pick_t (t := r10.2) (v := (Value.bool (decide (((List.length r11 : Int) : Int) = 2)))) rfl hc15 rfl ?_)
   refine Rl.op (OpY.move (v := (Value.bool (decide (((List.length r11 : Int) : Int) = 2)))) rfl ?_)
   by_cases hc16 : ((List.length r11 : Int) : Int) = 2
   ·
    replace h := ite_t hc16 h
    refine Rl.yes rfl rfl (decide_eq_true hc16) (OpY.move (v := (osv ob10 0 (List.length r11) cap10)) rfl ?_)
    obtain ⟨x10, q13, h⟩ := bind_some h
    obtain ⟨n10, q14, q15⟩ := idx_some q13
    have q16 := (List.getElem?_eq_some_iff.1 q15).1
    obtain ⟨b15, hb10⟩ := hL20.row_some 3 rfl rfl (row_pos (pre := []) f22 q15 (Nat.lt_of_sub_eq_succ rfl))
    refine Rl.yes rfl rfl (decide_eq_true hc16) (OpY.ixRowD (r := rStr) (b := b15) (o := 0) (n := n10) (m := (List.length r11)) (xs := r11) (q := (0 + n10 * rStr.sz)) Tryd.underlying35 ti9 (osv_some hb10) rfl rfl q14 q16 rfl ?_)
    obtain ⟨vs10, q17, q18, q19⟩ := row_elem (pre := []) (sp := sp10) f22 q15
    obtain rfl := q18
    refine Rl.yes rfl rfl (decide_eq_true hc16) (OpY.ldElem1 (v := (Value.string (s8 x10))) Tryd.underlying9 rfl rfl (own_some hb10 (hL20.at 3 rfl rfl)) q19 ?_)
    refine Rl.yes rfl rfl (decide_eq_true hc16) (OpY.sEql (x := x10) (y := ([97, 100] : List UInt8)) rfl rfl ?_)
    refine Rl.op (OpY.pick_t (t := (decide (((List.length r11 : Int) : Int) = 2))) (v := (Value.bool (decide (x10 = ([97, 100] : List UInt8))))) rfl (decide_eq_true hc16) rfl ?_)
    refine Rl.op (OpY.move (v := (Value.bool (decide (x10 = ([97, 100] : List UInt8))))) rfl ?_)
    by_cases hc17 : x10 = ([97, 100] : List UInt8)
    ·
     replace h := ite_t hc17 h
     refine Rl.yes rfl rfl (decide_eq_true hc17) (OpY.move (v := (osv ob10 0 (List.length r11) cap10)) rfl ?_)
     obtain ⟨x11, q20, h⟩ := bind_some h
     obtain ⟨n11, q21, q22⟩ := idx_some q20
     have q23 := (List.getElem?_eq_some_iff.1 q22).1
     refine Rl.yes rfl rfl (decide_eq_true hc17) (OpY.ixRowD (r := rStr) (b := b15) (o := 0) (n := n11) (m := (List.length r11)) (xs := r11) (q := (0 + n11 * rStr.sz)) Tryd.underlying35 ti9 (osv_some hb10) rfl rfl q21 q23 rfl ?_)
     obtain ⟨vs11, q24, q25, q26⟩ := row_elem (pre := []) (sp := sp10) f22 q22
     obtain rfl := q25
     refine Rl.yes rfl rfl (decide_eq_true hc17) (OpY.ldElem1 (v := (Value.string (s8 x11))) Tryd.underlying9 rfl rfl (own_some hb10 (hL20.at 3 rfl rfl)) q26 ?_)
     refine Rl.yes rfl rfl (decide_eq_true hc17) (OpY.sEql (x := x11) (y := ([98, 100] : List UInt8)) rfl rfl ?_)
     refine Rl.op (OpY.pick_t (t := (decide (x10 = ([97, 100] : List UInt8)))) (v := (Value.bool (decide (x11 = ([98, 100] : List UInt8))))) rfl (decide_eq_true hc17) rfl ?_)
     refine Rl.op (OpY.move (v := (Value.bool (decide (x11 = ([98, 100] : List UInt8))))) rfl ?_)
     by_cases hc18 : x11 = ([98, 100] : List UInt8)
     ·
      replace h := ite_t hc18 h
      refine Rl.yes rfl rfl (decide_eq_true hc18) (OpY.move (v := (Value.int .i64 r12.2)) rfl ?_)
      refine Rl.yes rfl rfl (decide_eq_true hc18) (OpY.eql (x := r12.2) (y := 0) ((r12.2 : Int) = 0) rfl rfl Iff.rfl ?_)
      refine Rl.op (OpY.pick_t (t := (decide (x11 = ([98, 100] : List UInt8)))) (v := (Value.bool (decide ((r12.2 : Int) = 0)))) rfl (decide_eq_true hc18) rfl ?_)
      refine Rl.op (OpY.move (v := (Value.bool (decide ((r12.2 : Int) = 0)))) rfl ?_)
      by_cases hc19 : (r12.2 : Int) = 0
      ·
       replace h := ite_t hc19 h
       refine Rl.yes rfl rfl (decide_eq_true hc19) (OpY.fieldAddr (q := 0) Tryd.underlying32 rfl ti22 rfl rfl rfl ?_)
       refine Rl.yes rfl rfl (decide_eq_true hc19) (OpY.ldBox1 (v := v10) Tryd.underlying22 rfl rfl (hL20.at 0 rfl rfl) rfl ?_)
       have f23 := (f21.mono (K20 None))
       refine Rl.yes rfl rfl (decide_eq_true hc19) (OpY.lenRo (v := v10) Tryd.underlying22 rfl f23 ?_)
       refine Rl.yes rfl rfl (decide_eq_true hc19) (OpY.eql (x := (List.length r12.1.Accept : Int)) (y := 1) (((List.length r12.1.Accept : Int) : Int) = 1) rfl rfl Iff.rfl ?_)
       refine Rl.op (OpY.pick_t (t := (decide ((r12.2 : Int) = 0))) (v := (Value.bool (decide (((List.length r12.1.Accept : Int) : Int) = 1)))) rfl (decide_eq_true hc19) rfl ?_)
       refine Rl.op (OpY.move (v := (Value.bool (decide (((List.length r12.1.Accept : Int) : Int) = 1)))) rfl ?_)
       by_cases hc20 : ((List.length r12.1.Accept : Int) : Int) = 1
       ·
        replace h := ite_t hc20 h
        refine Rl.yes rfl rfl (decide_eq_true hc20) (OpY.fieldAddr (q := 1) Tryd.underlying32 rfl ti30 rfl rfl rfl ?_)
        refine Rl.yes rfl rfl (decide_eq_true hc20) (OpY.ldBox1 (v := v11) Tryd.underlying30 rfl rfl (hL20.at 0 rfl rfl) rfl ?_)
        have f24 := (f20.mono (K20 None))
        refine Rl.yes rfl rfl (decide_eq_true hc20) (OpY.lenRo (v := v11) Tryd.underlying30 rfl f24 ?_)
        refine Rl.yes rfl rfl (decide_eq_true hc20) (OpY.eql (x := (List.length r12.1.Edges : Int)) (y := 1) (((List.length r12.1.Edges : Int) : Int) = 1) rfl rfl Iff.rfl ?_)
        refine Rl.op (OpY.pick_t (t := (decide (((List.length r12.1.Accept : Int) : Int) = 1))) (v := (Value.bool (decide (((List.length r12.1.Edges : Int) : Int) = 1)))) rfl (decide_eq_true hc20) rfl ?_)
        refine Rl.op (OpY.move (v := (Value.bool (decide (((List.length r12.1.Edges : Int) : Int) = 1)))) rfl ?_)
        by_cases hc21 : ((List.length r12.1.Edges : Int) : Int) = 1
        ·
         replace h := ite_t hc21 h
         refine Rl.yes rfl rfl (decide_eq_true hc21) (OpY.fieldAddr (q := 1) Tryd.underlying32 rfl ti30 rfl rfl rfl ?_)
         refine Rl.yes rfl rfl (decide_eq_true hc21) (OpY.ldBox1 (v := v11) Tryd.underlying30 rfl rfl (hL20.at 0 rfl rfl) rfl ?_)
         obtain ⟨x12, q27, h⟩ := bind_some h
         obtain ⟨n12, q28, q29⟩ := idx_some q27
         obtain ⟨b16, o10, c10, vs12, q30, q31, f25, q32⟩ := Rs.get f24 q29
         obtain ⟨v12, rfl, k12⟩ := q32
         refine Rl.yes rfl rfl (decide_eq_true hc21) (OpY.ixRoD (r := (rSl rAEdge)) (v := v11) (n := n12) (m := (o10 + n12 * (rSl rAEdge).sz)) Tryd.underlying30 ti58 rfl q30 rfl q28 q29 rfl ?_)
         refine Rl.yes rfl rfl (decide_eq_true hc21) (OpY.ldRo1 (v := v12) Tryd.underlying58 rfl rfl vw_view f25 ?_)
         refine Rl.yes rfl rfl (decide_eq_true hc21) (OpY.lenRo (v := v12) Tryd.underlying58 rfl k12 ?_)
         refine Rl.yes rfl rfl (decide_eq_true hc21) (OpY.eql (x := (List.length x12 : Int)) (y := 0) (((List.length x12 : Int) : Int) = 0) rfl rfl Iff.rfl ?_)
         refine Rl.op (OpY.pick_t (t := (decide (((List.length r12.1.Edges : Int) : Int) = 1))) (v := (Value.bool (decide (((List.length x12 : Int) : Int) = 0)))) rfl (decide_eq_true hc21) rfl ?_)
         refine Rl.op (OpY.move (v := (Value.bool (decide (((List.length x12 : Int) : Int) = 0)))) rfl ?_)
         by_cases hc22 : ((List.length x12 : Int) : Int) = 0
         ·
          replace h := ite_t hc22 h
          refine Rl.yes rfl rfl (decide_eq_true hc22) (OpY.ldBoxA (vs := [v3, v5]) Tryd.underlying32 rfl ti32 rfl (hL20.at 4 rfl rfl) rfl rfl ?_)
          obtain ⟨r13, q33, h⟩ := bind_some h
          have f26 := ((((((((f14.mono (K13 None)).mono (K14 None)).mono (K15 None)).mono (K16 None)).mono (K17 None)).mono (K18 None)).mono (K19 None)).mono (K20 None))
          have f27 := ((((((((f15.mono (K13 None)).mono (K14 None)).mono (K15 None)).mono (K16 None)).mono (K17 None)).mono (K18 None)).mono (K19 None)).mono (K20 None))
          refine Rl.yes rfl rfl (decide_eq_true hc22) (OpY.call en20 rfl rfl (aAccepts_w N r1 ([99, 100] : List UInt8) v3 v5 _ Any (f26.mono vw_any) (f27.mono vw_any) r13 q33) ?_)
          rintro _ w20 hE18 ⟨rfl, -⟩
          have hL21 := hL20.ext hE18
          have K21 := ke hL20 hE18
          refine Rl.op (OpY.pick_t (t := (decide (((List.length x12 : Int) : Int) = 0))) (v := (Value.bool r13)) rfl (decide_eq_true hc22) rfl ?_)
          refine Rl.op (OpY.move (v := (Value.bool r13)) rfl ?_)
          by_cases hc23 : r13 = true
          ·
           replace h := ite_t hc23 h
           refine Rl.yes rfl rfl hc23 (OpY.ldBoxA (vs := [v3, v5]) Tryd.underlying32 rfl ti32 rfl (hL21.at 4 rfl rfl) rfl rfl ?_)
           obtain ⟨r14, q34, h⟩ := bind_some h
           have f28 := (f26.mono (K21 None))
           have f29 := (f27.mono (K21 None))
           refine Rl.yes rfl rfl hc23 (OpY.call en20 rfl rfl (aAccepts_w N r1 ([100, 100] : List UInt8) v3 v5 _ Any (f28.mono vw_any) (f29.mono vw_any) r14 q34) ?_)
           rintro _ w21 hE19 ⟨rfl, -⟩
           have hL22 := hL21.ext hE19
           refine Rl.yes rfl rfl hc23 (OpY.not (x := r14) rfl ?_)
           refine Rl.op (OpY.pick_t (t := r13) (v := (Value.bool (!r14))) rfl hc23 rfl ?_)
           refine Rl.op (OpY.assign (v := (Value.bool (!r14))) rfl ?_)
           refine Rl.nil (Swp.ret ?_)
           obtain rfl := Option.some.inj h
           refine ⟨[(Value.bool (!r14))], ⟨rfl, trivial⟩, ⟨_, rfl, hL22.done, ?_⟩⟩
           exact ⟨rfl, trivial⟩
          ·
           exact absurd ((Option.some.inj (ite_f hc23 h)).trans hr) Bool.false_ne_true
         ·
          exact absurd ((Option.some.inj (ite_f hc22 h)).trans hr) Bool.false_ne_true
        ·
         exact absurd ((Option.some.inj (ite_f hc21 h)).trans hr) Bool.false_ne_true
       ·
        exact absurd ((Option.some.inj (ite_f hc20 h)).trans hr) Bool.false_ne_true
      ·
       exact absurd ((Option.some.inj (ite_f hc19 h)).trans hr) Bool.false_ne_true
     ·
      exact absurd ((Option.some.inj (ite_f hc18 h)).trans hr) Bool.false_ne_true
    ·
     exact absurd ((Option.some.inj (ite_f hc17 h)).trans hr) Bool.false_ne_true
   ·
    exact absurd ((Option.some.inj (ite_f hc16 h)).trans hr) Bool.false_ne_true
  ·
   exact absurd ((Option.some.inj (ite_f hc15 h)).trans hr) Bool.false_ne_true
 ·
  exact absurd ((Option.some.inj (ite_f hc14 h)).trans hr) Bool.false_ne_true
theorem awake_w (N : Nat) (w : World) (S : Nat → Prop) (r : Bool) (h : awake N = some r) :
  Calls Tryd.prog 11 #[] w (Ret w (fun v w' => (Value.bool r) = v ∧ True)) := awake_w0 N w S r h (awake_true h)

theorem lawAtMost_w (N : Nat) (n : Int) (s : (List UInt8))  (w : World) (S : Nat → Prop)  (r : Bool) (h : lawAtMost N n s = some r) :
  Calls Tryd.prog 7 #[(Value.int .i64 n), (Value.string (s8 s))] w (Ret w (fun v w' => (Value.bool r) = v ∧ True)) := by
 unfold lawAtMost at h
 have hL : Go.X.Loc [] [] w w [] [] := Go.X.Loc.begin0 w
 refine calls_of (l := [(Value.int .i64 n), (Value.string (s8 s))]) (rl := [.tmp 4]) (n := 53) Tryd.func7 rfl rfl rfl (Nat.le_of_ble_eq_true rfl) ?_
 refine Swp.seq (Swp.region rfl (Rl.op (OpY.assign (v := (Value.bool false)) rfl ?_)))
 refine Rl.nil (Swp.seq (Swp.seq ?_))
 obtain ⟨s10, h, g10⟩ := bind_some h
 refine Swp.join (fun e w' => ∃ (x9 : Bool) (u : Env), x9 = s10 ∧ e = upds [(0, (Value.int .i64 n)), (1, (Value.string (s8 s))), (14, (Value.bool x9))] u ∧ Go.X.Loc [] [] w w' [] [] ∧ Keep w.heap.size [] w [] w' ∧ True) ?_ ?_
 ·
  refine Swp.region rfl ?_
  obtain ⟨r10, q10, h⟩ := bind_some h
  refine Rl.op (OpY.call en11 rfl rfl (awake_w N _ Any r10 q10) ?_)
  rintro _ w10 hE10 ⟨rfl, -⟩
  have hL10 := hL.ext hE10
  have K10 := ke hL hE10
  refine Rl.op (OpY.not (x := r10) rfl ?_)
  refine Rl.op (OpY.move (v := (Value.bool (!r10))) rfl ?_)
  by_cases hc10 : (!r10) = true
  ·
   replace h := ite_t hc10 h
   refine Rl.no rfl rfl hc10 ?_
   refine Rl.no rfl rfl hc10 ?_
   refine Rl.no rfl rfl hc10 ?_
   refine Rl.op (OpY.pick_t (t := (!r10)) (v := (Value.bool true)) rfl hc10 rfl ?_)
   refine Rl.nil ?_
   obtain rfl := Option.some.inj h
   refine Swp.pop_back ?_
   exact ⟨true, _, rfl, (upds_sym ⟨rfl, rfl, rfl, trivial⟩), hL10, K10, trivial⟩
  ·
   replace h := ite_f hc10 h
   refine Rl.yes rfl rfl (eq_false_of_ne_true hc10) (OpY.move (v := (Value.string (s8 s))) rfl ?_)
   refine Rl.yes rfl rfl (eq_false_of_ne_true hc10) (OpY.lenStr Tryd.underlying9 rfl ?_)
   refine Rl.yes rfl rfl (eq_false_of_ne_true hc10) (OpY.gtr (x := (List.length s : Int)) (y := 100) (((List.length s : Int) : Int) > 100) rfl rfl Iff.rfl ?_)
   refine Rl.op (OpY.pick_f (t := (!r10)) (v := (Value.bool (decide (((List.length s : Int) : Int) > 100)))) rfl (eq_false_of_ne_true hc10) rfl ?_)
   refine Rl.nil ?_
   obtain rfl := Option.some.inj h
   refine Swp.pop_back ?_
   exact ⟨(decide (((List.length s : Int) : Int) > 100)), _, rfl, (upds_sym ⟨rfl, rfl, rfl, trivial⟩), hL10, K10, trivial⟩
 ·
  rintro _ w11 ⟨x9, u, rfl, rfl, hL11, K11, -⟩
  replace h := g10
  try dsimp only at h
  refine Swp.cond_b x9 rfl (fun hc11 => ?_) (fun hc11 => ?_)
  ·
   replace h := ite_t hc11 h
   refine Swp.seq (Swp.region rfl ?_)
   obtain ⟨r11, q11, h⟩ := bind_some h
   refine Rl.op (OpY.call en11 rfl rfl (awake_w N _ Any r11 q11) ?_)
   rintro _ w12 hE11 ⟨rfl, -⟩
   have hL12 := hL11.ext hE11
   refine Rl.op (OpY.assign (v := (Value.bool r11)) rfl ?_)
   refine Rl.nil (Swp.ret ?_)
   obtain rfl := Option.some.inj h
   refine ⟨[(Value.bool r11)], ⟨rfl, trivial⟩, ⟨_, rfl, hL12.done, ?_⟩⟩
   exact ⟨rfl, trivial⟩
  ·
   replace h := ite_f hc11 h
   refine Swp.skip (Swp.seq (Swp.region rfl (Rl.op (OpY.move (v := (Value.int .i64 n)) rfl ?_))))
   obtain ⟨r12, q12, h⟩ := bind_some h
   refine Rl.op (OpY.call en27 rfl rfl (aAtMost_w N n _ Any r12 q12) ?_)
   rintro _ w13 hE12 ⟨v10, v11, rfl, k10, k11, -⟩
   replace k10 := k10.mono (Hv.freshO (S := None) hL11 [])
   replace k11 := k11.mono (Hv.freshO (S := None) hL11 [])
   have hL13 := hL11.ext hE12
   refine Rl.op (OpY.alloc (cs := [(Value.slice none 0 0), (Value.slice none 0 0)]) ti32 rfl hL13 ?_)
   intro b10 w14 hL14 hS10
   have K12 := ks w hS10
   have f10 := (k11.mono (K12 None))
   have f11 := (k10.mono (K12 None))
   refine Rl.op0 (OpY.store (vs := [v10, v11]) ti32 rfl rfl rfl rfl (ones_cons f11.one (ones_cons f10.one ones_nil)) hL14 0 rfl rfl (Nat.le_of_ble_eq_true rfl) ?_)
   intro w15 (hL15 : Go.X.Loc [] [] w w15 [some b10] [Cont.cells [v10, v11]]) hS11
   have K13 := ks w hS11
   refine Rl.nil (Swp.seq (Swp.region rfl (Rl.op (OpY.assign (v := (Value.bool true)) rfl ?_))))
   refine Rl.nil (Swp.seq (Swp.seq (Swp.region rfl (Rl.op (OpY.move (v := (Value.string (s8 s))) rfl ?_)))))
   refine Rl.op (OpY.lenStr Tryd.underlying9 rfl ?_)
   refine Rl.op (OpY.move (v := (Value.int .i64 0)) rfl ?_)
   refine Rl.nil ?_
   obtain ⟨s11, hl10, g11⟩ := bind_some h
   refine Swp.join (fun e w' => ∃ (good10 : Bool) (u : Env), good10 = s11 ∧ e = upds [(0, (Value.int .i64 n)), (1, (Value.string (s8 s))), (5, (Value.pointer (some ⟨b10, 0, none⟩))), (6, (Value.bool good10))] u ∧ Go.X.Loc [] [] w w' [some b10] [Cont.cells [v10, v11]] ∧ Keep w.heap.size [some b10] w15 [some b10] w' ∧ True) ?_ ?_
   ·
    refine Swp.block ?_
    refine Swp.loopM hl10 (fun (ss : (Bool × Int)) (e : Env) (w' : World) => match ss with | (good11, x10) => ∃ (u : Env), e = upds [(0, (Value.int .i64 n)), (1, (Value.string (s8 s))), (5, (Value.pointer (some ⟨b10, 0, none⟩))), (6, (Value.bool good11)), (19, (Value.int .i64 (List.length s : Int))), (20, (Value.int .i64 x10))] u ∧ Go.X.Loc [] [] w w' [some b10] [Cont.cells [v10, v11]] ∧ Keep w.heap.size [some b10] w15 [some b10] w' ∧ True) ⟨_, (upds_sym ⟨rfl, rfl, rfl, rfl, rfl, rfl, trivial⟩), hL15, Keep.refl, trivial⟩ ?_
    rintro ⟨good11, x10⟩ oo _ w16 ⟨u, rfl, hL16, K14, -⟩ h hd10
    rw [lawAtMost_b1] at h
    refine Swp.seq (Swp.region rfl (Rl.op (OpY.lss (x := x10) (y := (List.length s : Int)) ((x10 : Int) < (List.length s : Int)) rfl rfl Iff.rfl ?_)))
    refine Rl.nil (Swp.seq ?_)
    refine Swp.cond_d ((x10 : Int) < (List.length s : Int)) rfl (fun hc12 => ?_) (fun hc12 => ?_)
    ·
     replace h := ite_t hc12 h
     refine Swp.skip (Swp.seq (Swp.block (Swp.seq (Swp.region rfl (Rl.op (OpY.move (v := (Value.int .i64 x10)) rfl ?_))))))
     refine Rl.op (OpY.assign (v := (Value.int .i64 x10)) rfl ?_)
     refine Rl.nil (Swp.region rfl (Rl.op (OpY.move (v := (Value.bool good11)) rfl ?_)))
     refine Rl.op (OpY.move (v := (Value.bool good11)) rfl ?_)
     by_cases hc13 : good11 = true
     ·
      replace h := ite_t hc13 h
      refine Rl.yes rfl rfl hc13 (OpY.move (v := (Value.string (s8 s))) rfl ?_)
      refine Rl.yes rfl rfl hc13 (OpY.move (v := (Value.int .i64 x10)) rfl ?_)
      obtain ⟨x11, q13, h⟩ := bind_some h
      obtain ⟨n10, q14, q15⟩ := idx_some q13
      refine Rl.yes rfl rfl hc13 (OpY.sIndex (xs := s) (i := x10) (n := n10) (a := x11) Tryd.underlying9 rfl rfl q14 q15 ?_)
      refine Rl.yes rfl rfl hc13 (OpY.geq (x := (UInt8.toNat x11 : Int)) (y := 32) (((UInt8.toNat x11 : Int) : Int) ≥ 32) rfl rfl Iff.rfl ?_)
      refine Rl.op (OpY.pick_t (t := good11) (v := (Value.bool (decide (((UInt8.toNat x11 : Int) : Int) ≥ 32)))) rfl hc13 rfl ?_)
      refine Rl.op (OpY.move (v := (Value.bool (decide (((UInt8.toNat x11 : Int) : Int) ≥ 32)))) rfl ?_)
      by_cases hc14 : ((UInt8.toNat x11 : Int) : Int) ≥ 32
      ·
       replace h := ite_t hc14 h
       refine Rl.yes rfl rfl (decide_eq_true hc14) (OpY.move (v := (Value.string (s8 s))) rfl ?_)
       refine Rl.yes rfl rfl (decide_eq_true hc14) (OpY.move (v := (Value.int .i64 x10)) rfl ?_)
       obtain ⟨x12, q16, h⟩ := bind_some h
       obtain ⟨n11, q17, q18⟩ := idx_some q16
       refine Rl.yes rfl rfl (decide_eq_true hc14) (OpY.sIndex (xs := s) (i := x10) (n := n11) (a := x12) Tryd.underlying9 rfl rfl q17 q18 ?_)
       refine Rl.yes rfl rfl (decide_eq_true hc14) (OpY.leq (x := (UInt8.toNat x12 : Int)) (y := 126) (((UInt8.toNat x12 : Int) : Int) ≤ 126) rfl rfl Iff.rfl ?_)
       refine Rl.op (OpY.pick_t (t := (decide (((UInt8.toNat x11 : Int) : Int) ≥ 32))) (v := (Value.bool (decide (((UInt8.toNat x12 : Int) : Int) ≤ 126)))) rfl (decide_eq_true hc14) rfl ?_)
       refine Rl.op (OpY.assign (v := (Value.bool (decide (((UInt8.toNat x12 : Int) : Int) ≤ 126)))) rfl ?_)
       refine Rl.nil (Swp.pop_blk (Swp.region rfl (Rl.op (OpY.add (x := x10) (y := 1) (z := (iw (x10 + 1))) rfl rfl rfl ?_))))
       refine Rl.op (OpY.move (v := (Value.int .i64 (iw (x10 + 1)))) rfl ?_)
       refine Rl.nil ?_
       obtain rfl := Option.some.inj h
       refine Swp.pop_back ⟨((decide (((UInt8.toNat x12 : Int) : Int) ≤ 126)), (iw (x10 + 1))), rfl, ?_⟩
       exact ⟨_, (upds_sym ⟨rfl, rfl, rfl, rfl, rfl, rfl, trivial⟩), hL16, K14, trivial⟩
      ·
       replace h := ite_f hc14 h
       refine Rl.no rfl rfl (decide_eq_false hc14) ?_
       refine Rl.no rfl rfl (decide_eq_false hc14) ?_
       refine Rl.no rfl rfl (decide_eq_false hc14) ?_
       refine Rl.no rfl rfl (decide_eq_false hc14) ?_
       refine Rl.op (OpY.pick_f (t := (decide (((UInt8.toNat x11 : Int) : Int) ≥ 32))) (v := (Value.bool false)) rfl (decide_eq_false hc14) rfl ?_)
       refine Rl.op (OpY.assign (v := (Value.bool false)) rfl ?_)
       refine Rl.nil (Swp.pop_blk (Swp.region rfl (Rl.op (OpY.add (x := x10) (y := 1) (z := (iw (x10 + 1))) rfl rfl rfl ?_))))
       refine Rl.op (OpY.move (v := (Value.int .i64 (iw (x10 + 1)))) rfl ?_)
       refine Rl.nil ?_
       obtain rfl := Option.some.inj h
       refine Swp.pop_back ⟨(false, (iw (x10 + 1))), rfl, ?_⟩
       exact ⟨_, (upds_sym ⟨rfl, rfl, rfl, rfl, rfl, rfl, trivial⟩), hL16, K14, trivial⟩
     ·
      replace h := ite_f hc13 h
      refine Rl.no rfl rfl (eq_false_of_ne_true hc13) ?_
      refine Rl.no rfl rfl (eq_false_of_ne_true hc13) ?_
      refine Rl.no rfl rfl (eq_false_of_ne_true hc13) ?_
      refine Rl.no rfl rfl (eq_false_of_ne_true hc13) ?_
      refine Rl.op (OpY.pick_f (t := good11) (v := (Value.bool false)) rfl (eq_false_of_ne_true hc13) rfl ?_)
      refine Rl.op (OpY.move (v := (Value.bool false)) rfl ?_)
      refine Rl.no rfl rfl rfl ?_
      refine Rl.no rfl rfl rfl ?_
      refine Rl.no rfl rfl rfl ?_
      refine Rl.no rfl rfl rfl ?_
      refine Rl.op (OpY.pick_f (t := false) (v := (Value.bool false)) rfl rfl rfl ?_)
      refine Rl.op (OpY.assign (v := (Value.bool false)) rfl ?_)
      refine Rl.nil (Swp.pop_blk (Swp.region rfl (Rl.op (OpY.add (x := x10) (y := 1) (z := (iw (x10 + 1))) rfl rfl rfl ?_))))
      refine Rl.op (OpY.move (v := (Value.int .i64 (iw (x10 + 1)))) rfl ?_)
      refine Rl.nil ?_
      obtain rfl := Option.some.inj h
      refine Swp.pop_back ⟨(false, (iw (x10 + 1))), rfl, ?_⟩
      exact ⟨_, (upds_sym ⟨rfl, rfl, rfl, rfl, rfl, rfl, trivial⟩), hL16, K14, trivial⟩
    ·
     replace h := ite_f hc12 h
     refine Swp.exit rfl ?_
     obtain rfl := Option.some.inj h
     obtain rfl := hd10 _ rfl
     replace h := g11
     try dsimp only at h
     skip
     refine Swp.pop_back ?_
     exact ⟨good11, _, rfl, (upds_sym ⟨rfl, rfl, rfl, rfl, trivial⟩), hL16, K14, trivial⟩
   ·
    rintro _ w17 ⟨good10, u, rfl, rfl, hL17, K15, -⟩
    replace h := g11
    try dsimp only at h
    refine Swp.seq (Swp.region rfl (Rl.op (OpY.ldBoxA (vs := [v10, v11]) Tryd.underlying32 rfl ti32 rfl (hL17.at 0 rfl rfl) rfl rfl ?_)))
    obtain ⟨r13, q19, h⟩ := bind_some h
    have f12 := ((f11.mono (K13 None)).mono (K15 None))
    have f13 := ((f10.mono (K13 None)).mono (K15 None))
    refine Rl.op (OpY.call en19 rfl rfl (aValid_w N r12 v10 v11 _ Any (f12.mono vw_any) (f13.mono vw_any) r13 q19) ?_)
    rintro _ w18 hE13 ⟨rfl, -⟩
    have hL18 := hL17.ext hE13
    have K16 := ke hL17 hE13
    refine Rl.op (OpY.move (v := (Value.bool r13)) rfl ?_)
    by_cases hc15 : r13 = true
    ·
     replace h := ite_t hc15 h
     refine Rl.yes rfl rfl hc15 (OpY.ldBoxA (vs := [v10, v11]) Tryd.underlying32 rfl ti32 rfl (hL18.at 0 rfl rfl) rfl rfl ?_)
     refine Rl.yes rfl rfl hc15 (OpY.move (v := (Value.string (s8 s))) rfl ?_)
     obtain ⟨r14, q20, h⟩ := bind_some h
     have f14 := (f12.mono (K16 None))
     have f15 := (f13.mono (K16 None))
     refine Rl.yes rfl rfl hc15 (OpY.call en20 rfl rfl (aAccepts_w N r12 s v10 v11 _ Any (f14.mono vw_any) (f15.mono vw_any) r14 q20) ?_)
     rintro _ w19 hE14 ⟨rfl, -⟩
     have hL19 := hL18.ext hE14
     refine Rl.yes rfl rfl hc15 (OpY.move (v := (Value.bool good10)) rfl ?_)
     refine Rl.yes rfl rfl hc15 (OpY.move (v := (Value.bool good10)) rfl ?_)
     by_cases hc16 : good10 = true
     ·
      replace h := ite_t hc16 h
      refine Rl.yes rfl rfl hc16 (OpY.move (v := (Value.string (s8 s))) rfl ?_)
      refine Rl.yes rfl rfl hc16 (OpY.lenStr Tryd.underlying9 rfl ?_)
      refine Rl.yes rfl rfl hc16 (OpY.move (v := (Value.int .i64 n)) rfl ?_)
      refine Rl.yes rfl rfl hc16 (OpY.max (x := n) (y := 0) rfl rfl ?_)
      refine Rl.yes rfl rfl hc16 (OpY.leq (x := (List.length s : Int)) (y := (imax n 0)) (((List.length s : Int) : Int) ≤ (imax n 0)) rfl rfl Iff.rfl ?_)
      refine Rl.yes rfl rfl hc15 (OpY.pick_t (t := good10) (v := (Value.bool (decide (((List.length s : Int) : Int) ≤ (imax n 0))))) rfl hc16 rfl ?_)
      refine Rl.yes rfl rfl hc15 (OpY.eqlBool (x := r14) (y := (decide (((List.length s : Int) : Int) ≤ (imax n 0)))) Tryd.underlying4 rfl rfl ?_)
      refine Rl.op (OpY.pick_t (t := r13) (v := (Value.bool (r14 == (decide (((List.length s : Int) : Int) ≤ (imax n 0)))))) rfl hc15 rfl ?_)
      refine Rl.op (OpY.assign (v := (Value.bool (r14 == (decide (((List.length s : Int) : Int) ≤ (imax n 0)))))) rfl ?_)
      refine Rl.nil (Swp.ret ?_)
      obtain rfl := Option.some.inj h
      refine ⟨[(Value.bool (r14 == (decide (((List.length s : Int) : Int) ≤ (imax n 0)))))], ⟨rfl, trivial⟩, ⟨_, rfl, hL19.done, ?_⟩⟩
      exact ⟨rfl, trivial⟩
     ·
      replace h := ite_f hc16 h
      refine Rl.no rfl rfl (eq_false_of_ne_true hc16) ?_
      refine Rl.no rfl rfl (eq_false_of_ne_true hc16) ?_
      refine Rl.no rfl rfl (eq_false_of_ne_true hc16) ?_
      refine Rl.no rfl rfl (eq_false_of_ne_true hc16) ?_
      refine Rl.no rfl rfl (eq_false_of_ne_true hc16) ?_
      refine Rl.yes rfl rfl hc15 (OpY.pick_f (t := good10) (v := (Value.bool false)) rfl (eq_false_of_ne_true hc16) rfl ?_)
      refine Rl.yes rfl rfl hc15 (OpY.eqlBool (x := r14) (y := false) Tryd.underlying4 rfl rfl ?_)
      refine Rl.op (OpY.pick_t (t := r13) (v := (Value.bool (r14 == false))) rfl hc15 rfl ?_)
      refine Rl.op (OpY.assign (v := (Value.bool (r14 == false))) rfl ?_)
      refine Rl.nil (Swp.ret ?_)
      obtain rfl := Option.some.inj h
      refine ⟨[(Value.bool (r14 == false))], ⟨rfl, trivial⟩, ⟨_, rfl, hL19.done, ?_⟩⟩
      exact ⟨rfl, trivial⟩
    ·
     replace h := ite_f hc15 h
     refine Rl.no rfl rfl (eq_false_of_ne_true hc15) ?_
     refine Rl.no rfl rfl (eq_false_of_ne_true hc15) ?_
     refine Rl.no rfl rfl (eq_false_of_ne_true hc15) ?_
     refine Rl.no rfl rfl (eq_false_of_ne_true hc15) ?_
     refine Rl.no rfl rfl (eq_false_of_ne_true hc15) ?_
     refine Rl.no_undef rfl rfl ?_
     refine Rl.no_undef rfl rfl ?_
     refine Rl.no_undef rfl rfl ?_
     refine Rl.no_undef rfl rfl ?_
     refine Rl.no_undef rfl rfl ?_
     refine Rl.no rfl rfl (eq_false_of_ne_true hc15) ?_
     refine Rl.no rfl rfl (eq_false_of_ne_true hc15) ?_
     refine Rl.op (OpY.pick_f (t := r13) (v := (Value.bool false)) rfl (eq_false_of_ne_true hc15) rfl ?_)
     refine Rl.op (OpY.assign (v := (Value.bool false)) rfl ?_)
     refine Rl.nil (Swp.ret ?_)
     obtain rfl := Option.some.inj h
     refine ⟨[(Value.bool false)], ⟨rfl, trivial⟩, ⟨_, rfl, hL18.done, ?_⟩⟩
     exact ⟨rfl, trivial⟩
end Go.Proofs.YtckhldmpcddjmaaDoor.WL

/- Walks, written by a program of mine (wip/tool); the kernel checks them. -/
import Derived.Test.YthmoefciofnmdaaDoorProg
import Derived.Test.YthmoefciofnmdaaDoorZ7
import Derived.Test.YthmoefciofnmdaaDoorF2
import Derived.Test.YthmoefciofnmdaaDoorA02
import Derived.Test.YthmoefciofnmdaaDoorPL
import Derived.Test.YthmoefciofnmdaaDoorWARing
import Derived.Test.YthmoefciofnmdaaDoorWRRing
import Derived.Test.YthmoefciofnmdaaDoorWBRing
set_option maxRecDepth 100000
set_option maxHeartbeats 40000000
set_option linter.unusedVariables false
set_option linter.unusedSimpArgs false
namespace Go.Proofs.YthmoefciofnmdaaDoor.WL
open Go Go.RowKit Go.X Go.D Go.Proofs.YthmoefciofnmdaaDoor.WF Go.Proofs.YthmoefciofnmdaaDoor.WA Go.Proofs.YthmoefciofnmdaaDoor.WR Go.Proofs.YthmoefciofnmdaaDoor.WB
theorem en49 : Go.X.Enters Tryd.prog 49 := ⟨Tryd.f49, Tryd.func49, by kernel_rfl, by kernel_rfl⟩
theorem en44 : Go.X.Enters Tryd.prog 44 := ⟨Tryd.f44, Tryd.func44, by kernel_rfl, by kernel_rfl⟩
theorem en20 : Go.X.Enters Tryd.prog 20 := ⟨Tryd.f20, Tryd.func20, by kernel_rfl, by kernel_rfl⟩
theorem en30 : Go.X.Enters Tryd.prog 30 := ⟨Tryd.f30, Tryd.func30, by kernel_rfl, by kernel_rfl⟩
theorem en15 : Go.X.Enters Tryd.prog 15 := ⟨Tryd.f15, Tryd.func15, by kernel_rfl, by kernel_rfl⟩
theorem en26 : Go.X.Enters Tryd.prog 26 := ⟨Tryd.f26, Tryd.func26, by kernel_rfl, by kernel_rfl⟩
theorem en18 : Go.X.Enters Tryd.prog 18 := ⟨Tryd.f18, Tryd.func18, by kernel_rfl, by kernel_rfl⟩
theorem en19 : Go.X.Enters Tryd.prog 19 := ⟨Tryd.f19, Tryd.func19, by kernel_rfl, by kernel_rfl⟩
theorem en13 : Go.X.Enters Tryd.prog 13 := ⟨Tryd.f13, Tryd.func13, by kernel_rfl, by kernel_rfl⟩
theorem en14 : Go.X.Enters Tryd.prog 14 := ⟨Tryd.f14, Tryd.func14, by kernel_rfl, by kernel_rfl⟩
theorem en16 : Go.X.Enters Tryd.prog 16 := ⟨Tryd.f16, Tryd.func16, by kernel_rfl, by kernel_rfl⟩
theorem en17 : Go.X.Enters Tryd.prog 17 := ⟨Tryd.f17, Tryd.func17, by kernel_rfl, by kernel_rfl⟩
theorem en24 : Go.X.Enters Tryd.prog 24 := ⟨Tryd.f24, Tryd.func24, by kernel_rfl, by kernel_rfl⟩
theorem en25 : Go.X.Enters Tryd.prog 25 := ⟨Tryd.f25, Tryd.func25, by kernel_rfl, by kernel_rfl⟩
theorem en27 : Go.X.Enters Tryd.prog 27 := ⟨Tryd.f27, Tryd.func27, by kernel_rfl, by kernel_rfl⟩
theorem en28 : Go.X.Enters Tryd.prog 28 := ⟨Tryd.f28, Tryd.func28, by kernel_rfl, by kernel_rfl⟩
theorem en31 : Go.X.Enters Tryd.prog 31 := ⟨Tryd.f31, Tryd.func31, by kernel_rfl, by kernel_rfl⟩
theorem en34 : Go.X.Enters Tryd.prog 34 := ⟨Tryd.f34, Tryd.func34, by kernel_rfl, by kernel_rfl⟩
theorem en36 : Go.X.Enters Tryd.prog 36 := ⟨Tryd.f36, Tryd.func36, by kernel_rfl, by kernel_rfl⟩
theorem en38 : Go.X.Enters Tryd.prog 38 := ⟨Tryd.f38, Tryd.func38, by kernel_rfl, by kernel_rfl⟩
theorem en23 : Go.X.Enters Tryd.prog 23 := ⟨Tryd.f23, Tryd.func23, by kernel_rfl, by kernel_rfl⟩
theorem lcp_w (N : Nat) (x : Big) (x_v : Value) (w : World) (S : Nat → Prop) (x_h : Rs (rInt .u32) (Hv w.heap.size S [] w) x_v x.Digits) (r : Big) (h : lcp N x = some r) :
  Calls Tryd.prog 16 #[(Value.agg #[(Value.bool x.Negative), x_v])] w (Ret w (fun v w' => ∃ (v0_0 : Value), (Value.agg #[(Value.bool r.Negative), v0_0]) = v ∧ Rs (rInt .u32) (Hv w.heap.size None [] w') v0_0 r.Digits ∧ True)) := by
 unfold lcp at h
 have hL : Go.X.Loc [] [] w w [] [] := Go.X.Loc.begin0 w
 refine calls_of (l := [(Value.agg #[(Value.bool x.Negative), x_v])]) (rl := [.cell 2 24]) (n := 5) Tryd.func16 rfl rfl rfl (Nat.le_of_ble_eq_true rfl) ?_
 refine Swp.seq (Swp.region rfl (Rl.op (OpY.box (cs := [(Value.bool x.Negative), x_v]) rfl rfl hL ?_)))
 intro b1 w2 hL3 hS5
 have K4 := ks w hS5
 refine Rl.op (OpY.alloc (cs := [(Value.bool false), (Value.slice none 0 0)]) ti24 rfl hL3 ?_)
 intro b6 w7 hL8 hS10
 have K9 := ks w hS10
 refine Rl.nil (Swp.seq (Swp.region rfl (Rl.op (OpY.ldBoxA (vs := [(Value.bool x.Negative), x_v]) Tryd.underlying24 rfl ti24 rfl (hL8.at 1 rfl rfl) rfl rfl ?_))))
 obtain ⟨r10, q10, h⟩ := bind_some h
 have f10 := ((x_h.mono (K4 S)).mono (K9 S))
 refine Rl.op (OpY.call en49 rfl rfl (rCopy_w N x x_v _ Any (f10.mono vw_any) r10 q10) ?_)
 rintro _ w10 hE10 ⟨v10, rfl, k10, -⟩
 replace k10 := k10.mono (Hv.freshO (S := None) hL8 [])
 have hL10 := hL8.ext hE10
 refine Rl.op0 (OpY.store (vs := [(Value.bool r10.Negative), v10]) ti24 rfl rfl rfl rfl (ones_cons rfl (ones_cons k10.one ones_nil)) hL10 0 rfl rfl (Nat.le_of_ble_eq_true rfl) ?_)
 intro w11 (hL11 : Go.X.Loc [] [] w w11 [some b6, some b1] [Cont.cells [(Value.bool r10.Negative), v10], Cont.cells [(Value.bool x.Negative), x_v]]) hS11
 have K10 := ks w hS11
 refine Rl.nil (Swp.ret ?_)
 obtain rfl := Option.some.inj h
 refine ⟨[(Value.agg #[(Value.bool r10.Negative), v10])], ⟨⟨⟨b6, 0, none⟩, rfl, res_boxA Tryd.underlying24 rfl ti24 (hL11.at 0 rfl rfl) rfl⟩, trivial⟩, ⟨_, rfl, hL11.done, ?_⟩⟩
 have f11 := (k10.mono (K10 None))
 exact ⟨v10, rfl, (f11.mono Hv.out), trivial⟩
theorem lsmall_w (N : Nat) (l : (List Big)) (l_v : Value) (w : World) (S : Nat → Prop) (l_h : Rs rBig (Hv w.heap.size S [] w) l_v l) (r : Bool) (h : lsmall N l = some r) :
  Calls Tryd.prog 14 #[l_v] w (Ret w (fun v w' => (Value.bool r) = v ∧ True)) := by
 unfold lsmall at h
 have hL : Go.X.Loc [] [] w w [] [] := Go.X.Loc.begin0 w
 refine calls_of (l := [l_v]) (rl := [.tmp 2]) (n := 15) Tryd.func14 rfl rfl rfl (Nat.le_of_ble_eq_true rfl) ?_
 refine Swp.seq (Swp.region rfl (Rl.op (OpY.assign (v := (Value.bool false)) rfl ?_)))
 refine Rl.nil (Swp.seq (Swp.seq (Swp.region rfl (Rl.op (OpY.move (v := l_v) rfl ?_)))))
 refine Rl.op (OpY.lenRo (v := l_v) Tryd.underlying45 rfl l_h ?_)
 refine Rl.op (OpY.move (v := (Value.int .i64 0)) rfl ?_)
 refine Rl.nil ?_
 obtain ⟨s10, hl10, g10⟩ := bind_some h
 refine Swp.join (fun e w' => ∃  (u : Env), (Sum.inl ()) = s10 ∧ e = upds [] u ∧ Go.X.Loc [] [] w w' [] [] ∧ Keep w.heap.size [] w [] w' ∧ True) ?_ ?_
 ·
  refine Swp.block ?_
  refine Swp.loopM hl10 (fun (ss : Int) (e : Env) (w' : World) => match ss with | x10 => ∃ (u : Env), e = upds [(5, l_v), (6, (Value.int .i64 (List.length l : Int))), (7, (Value.int .i64 x10))] u ∧ Go.X.Loc [] [] w w' [] [] ∧ Keep w.heap.size [] w [] w' ∧ True) ⟨_, (upds_sym ⟨rfl, rfl, rfl, trivial⟩), hL, Keep.refl, trivial⟩ ?_
  rintro x10 oo _ w10 ⟨u, rfl, hL10, K10, -⟩ h hd10
  rw [lsmall_b1] at h
  refine Swp.seq (Swp.region rfl (Rl.op (OpY.lss (x := x10) (y := (List.length l : Int)) ((x10 : Int) < (List.length l : Int)) rfl rfl Iff.rfl ?_)))
  refine Rl.nil (Swp.seq ?_)
  refine Swp.cond_d ((x10 : Int) < (List.length l : Int)) rfl (fun hc10 => ?_) (fun hc10 => ?_)
  ·
   replace h := ite_t hc10 h
   refine Swp.skip (Swp.seq (Swp.block (Swp.seq (Swp.region rfl ?_))))
   obtain ⟨x11, q10, h⟩ := bind_some h
   obtain ⟨n10, q11, q12⟩ := idx_some q10
   have f10 := (l_h.mono (K10 S))
   obtain ⟨b10, o10, c10, vs10, q13, q14, f11, q15⟩ := Rs.get f10 q12
   obtain ⟨v10, rfl, k10, -⟩ := rBig_open q15
   refine Rl.op (OpY.ixRoD (r := rBig) (v := l_v) (n := n10) (m := (o10 + n10 * rBig.sz)) Tryd.underlying45 ti24 rfl q13 rfl q11 q12 rfl ?_)
   refine Rl.op (OpY.ldRoA (vs := [(Value.bool x11.Negative), v10]) Tryd.underlying24 rfl ti24 rfl rfl vw_view f11 ?_)
   refine Rl.op (OpY.alloc (cs := [(Value.bool false), (Value.slice none 0 0)]) ti24 rfl hL10 ?_)
   intro b11 w11 hL11 hS10
   have K11 := ks w hS10
   have f12 := (k10.mono (K11 S))
   refine Rl.op0 (OpY.store (vs := [(Value.bool x11.Negative), v10]) ti24 rfl rfl rfl rfl (ones_cons rfl (ones_cons f12.one ones_nil)) hL11 0 rfl rfl (Nat.le_of_ble_eq_true rfl) ?_)
   intro w12 (hL12 : Go.X.Loc [] [] w w12 [some b11] [Cont.cells [(Value.bool x11.Negative), v10]]) hS11
   have K12 := ks w hS11
   refine Rl.nil (Swp.seq (Swp.region rfl (Rl.op (OpY.ldBoxA (vs := [(Value.bool x11.Negative), v10]) Tryd.underlying24 rfl ti24 rfl (hL12.at 0 rfl rfl) rfl rfl ?_))))
   obtain ⟨r10, q16, h⟩ := bind_some h
   have f13 := (f12.mono (K12 S))
   refine Rl.op (OpY.call en44 rfl rfl (rSmallB_w N x11 v10 _ Any (f13.mono vw_any) r10 q16) ?_)
   rintro _ w13 hE10 ⟨rfl, -⟩
   have hL13 := hL12.ext hE10
   have K13 := ke hL12 hE10
   refine Rl.op (OpY.not (x := r10) rfl ?_)
   refine Rl.nil ?_
   refine Swp.cond_b (!r10) rfl (fun hc11 => ?_) (fun hc11 => ?_)
   ·
    replace h := ite_t hc11 h
    refine Swp.seq (Swp.region rfl (Rl.op (OpY.assign (v := (Value.bool false)) rfl ?_)))
    refine Rl.nil (Swp.ret ?_)
    obtain rfl := Option.some.inj h
    obtain rfl := hd10 _ rfl
    replace h := g10
    try dsimp only at h
    obtain rfl := Option.some.inj h
    refine ⟨[(Value.bool false)], ⟨rfl, trivial⟩, ⟨_, rfl, hL13.done, ?_⟩⟩
    exact ⟨rfl, trivial⟩
   ·
    replace h := ite_f hc11 h
    refine Swp.skip (Swp.pop_blk (Swp.region rfl (Rl.op (OpY.add (x := x10) (y := 1) (z := (iw (x10 + 1))) rfl rfl rfl ?_))))
    refine Rl.op (OpY.move (v := (Value.int .i64 (iw (x10 + 1)))) rfl ?_)
    refine Rl.nil ?_
    have hp10 := hL13.pick [] rfl rfl rfl
    have hL14 : Go.X.Loc [] [] w w13 [] [] := hp10.1
    have K14 := ks w hp10.2
    obtain rfl := Option.some.inj h
    refine Swp.pop_back ⟨(iw (x10 + 1)), rfl, ?_⟩
    exact ⟨_, (upds_sym ⟨rfl, rfl, rfl, trivial⟩), hL14, (Keep.trans (Keep.trans (Keep.trans (Keep.trans K10 K11) K12) K13) K14), trivial⟩
  ·
   replace h := ite_f hc10 h
   refine Swp.exit rfl ?_
   obtain rfl := Option.some.inj h
   obtain rfl := hd10 _ rfl
   replace h := g10
   try dsimp only at h
   skip
   refine Swp.pop_back ?_
   exact ⟨_, rfl, (upds_sym trivial), hL10, K10, trivial⟩
 ·
  rintro _ w14 ⟨u, rfl, rfl, hL15, K15, -⟩
  replace h := g10
  try dsimp only at h
  refine Swp.seq (Swp.region rfl (Rl.op (OpY.assign (v := (Value.bool true)) rfl ?_)))
  refine Rl.nil (Swp.ret ?_)
  obtain rfl := Option.some.inj h
  refine ⟨[(Value.bool true)], ⟨rfl, trivial⟩, ⟨_, rfl, hL15.done, ?_⟩⟩
  exact ⟨rfl, trivial⟩
theorem awake_w0 (N : Nat)   (w : World) (S : Nat → Prop) (hG : G w)  (r : Bool) (h : awake N  = some r) (hr : r = true) :
  Calls Tryd.prog 13 #[] w (Ret w (fun v w' => (Value.bool r) = v ∧ True)) := by
 unfold awake at h
 have hL : Go.X.Loc [] [] w w [] [] := Go.X.Loc.begin0 w
 refine calls_of (l := []) (rl := [.tmp 0]) (n := 95) Tryd.func13 rfl rfl rfl (Nat.le_of_ble_eq_true rfl) ?_
 refine Swp.seq (Swp.region rfl (Rl.op (OpY.assign (v := (Value.bool false)) rfl ?_)))
 refine Rl.nil (Swp.seq (Swp.region rfl ?_))
 obtain ⟨r1, q2, h⟩ := bind_some h
 refine Rl.op (OpY.call en20 rfl rfl (bParse_w N awake_lit20 _ Any r1 q2) ?_)
 rintro _ w6 hE9 ⟨v3, rfl, k4, -⟩
 replace k4 := k4.mono (Hv.freshO (S := None) hL [])
 have hL7 := hL.ext hE9
 refine Rl.op (OpY.move (v := (Value.tuple #[(Value.agg #[(Value.bool r1.1.Negative), v3]), (Value.int .i64 r1.2)])) rfl ?_)
 refine Rl.op (OpY.extract (vs := [(Value.agg #[(Value.bool r1.1.Negative), v3]), (Value.int .i64 r1.2)]) (v := (Value.agg #[(Value.bool r1.1.Negative), v3])) rfl rfl ?_)
 refine Rl.op (OpY.extract (vs := [(Value.agg #[(Value.bool r1.1.Negative), v3]), (Value.int .i64 r1.2)]) (v := (Value.int .i64 r1.2)) rfl rfl ?_)
 refine Rl.op (OpY.alloc (cs := [(Value.bool false), (Value.slice none 0 0)]) ti24 rfl hL7 ?_)
 intro b10 w10 hL10 hS10
 have K10 := ks w hS10
 have f10 := (k4.mono (K10 None))
 refine Rl.op0 (OpY.store (vs := [(Value.bool r1.1.Negative), v3]) ti24 rfl rfl rfl rfl (ones_cons rfl (ones_cons f10.one ones_nil)) hL10 0 rfl rfl (Nat.le_of_ble_eq_true rfl) ?_)
 intro w11 (hL11 : Go.X.Loc [] [] w w11 [some b10] [Cont.cells [(Value.bool r1.1.Negative), v3]]) hS11
 have K11 := ks w hS11
 refine Rl.op (OpY.assign (v := (Value.int .i64 r1.2)) rfl ?_)
 refine Rl.nil (Swp.seq (Swp.region rfl ?_))
 obtain ⟨r10, q10, h⟩ := bind_some h
 refine Rl.op (OpY.call en20 rfl rfl (bParse_w N ([45, 48] : List UInt8) _ Any r10 q10) ?_)
 rintro _ w12 hE10 ⟨v10, rfl, k10, -⟩
 replace k10 := k10.mono (Hv.freshO (S := None) hL11 [])
 have hL12 := hL11.ext hE10
 have K12 := ke hL11 hE10
 refine Rl.op (OpY.move (v := (Value.tuple #[(Value.agg #[(Value.bool r10.1.Negative), v10]), (Value.int .i64 r10.2)])) rfl ?_)
 refine Rl.op (OpY.extract (vs := [(Value.agg #[(Value.bool r10.1.Negative), v10]), (Value.int .i64 r10.2)]) (v := (Value.agg #[(Value.bool r10.1.Negative), v10])) rfl rfl ?_)
 refine Rl.op (OpY.extract (vs := [(Value.agg #[(Value.bool r10.1.Negative), v10]), (Value.int .i64 r10.2)]) (v := (Value.int .i64 r10.2)) rfl rfl ?_)
 refine Rl.op (OpY.alloc (cs := [(Value.bool false), (Value.slice none 0 0)]) ti24 rfl hL12 ?_)
 intro b11 w13 hL13 hS12
 have K13 := ks w hS12
 have f11 := (k10.mono (K13 None))
 refine Rl.op0 (OpY.store (vs := [(Value.bool r10.1.Negative), v10]) ti24 rfl rfl rfl rfl (ones_cons rfl (ones_cons f11.one ones_nil)) hL13 0 rfl rfl (Nat.le_of_ble_eq_true rfl) ?_)
 intro w14 (hL14 : Go.X.Loc [] [] w w14 [some b11, some b10] [Cont.cells [(Value.bool r10.1.Negative), v10], Cont.cells [(Value.bool r1.1.Negative), v3]]) hS13
 have K14 := ks w hS13
 refine Rl.op (OpY.assign (v := (Value.int .i64 r10.2)) rfl ?_)
 refine Rl.nil (Swp.seq (Swp.region rfl ?_))
 obtain ⟨r11, q11, h⟩ := bind_some h
 refine Rl.op (OpY.call en20 rfl rfl (bParse_w N ([48, 48, 55] : List UInt8) _ Any r11 q11) ?_)
 rintro _ w15 hE11 ⟨v11, rfl, k11, -⟩
 replace k11 := k11.mono (Hv.freshO (S := None) hL14 [])
 have hL15 := hL14.ext hE11
 have K15 := ke hL14 hE11
 refine Rl.op (OpY.move (v := (Value.tuple #[(Value.agg #[(Value.bool r11.1.Negative), v11]), (Value.int .i64 r11.2)])) rfl ?_)
 refine Rl.op (OpY.extract (vs := [(Value.agg #[(Value.bool r11.1.Negative), v11]), (Value.int .i64 r11.2)]) (v := (Value.agg #[(Value.bool r11.1.Negative), v11])) rfl rfl ?_)
 refine Rl.op (OpY.extract (vs := [(Value.agg #[(Value.bool r11.1.Negative), v11]), (Value.int .i64 r11.2)]) (v := (Value.int .i64 r11.2)) rfl rfl ?_)
 refine Rl.op (OpY.alloc (cs := [(Value.bool false), (Value.slice none 0 0)]) ti24 rfl hL15 ?_)
 intro b12 w16 hL16 hS14
 have K16 := ks w hS14
 have f12 := (k11.mono (K16 None))
 refine Rl.op0 (OpY.store (vs := [(Value.bool r11.1.Negative), v11]) ti24 rfl rfl rfl rfl (ones_cons rfl (ones_cons f12.one ones_nil)) hL16 0 rfl rfl (Nat.le_of_ble_eq_true rfl) ?_)
 intro w17 (hL17 : Go.X.Loc [] [] w w17 [some b12, some b11, some b10] [Cont.cells [(Value.bool r11.1.Negative), v11], Cont.cells [(Value.bool r10.1.Negative), v10], Cont.cells [(Value.bool r1.1.Negative), v3]]) hS15
 have K17 := ks w hS15
 refine Rl.op (OpY.assign (v := (Value.int .i64 r11.2)) rfl ?_)
 refine Rl.nil (Swp.seq (Swp.region rfl ?_))
 obtain ⟨r12, q12, h⟩ := bind_some h
 refine Rl.op (OpY.call en30 rfl rfl (bOf_w N (-7) _ Any r12 q12) ?_)
 rintro _ w18 hE12 ⟨v12, rfl, k12, -⟩
 replace k12 := k12.mono (Hv.freshO (S := None) hL17 [])
 have hL18 := hL17.ext hE12
 have K18 := ke hL17 hE12
 obtain ⟨r13, q13, h⟩ := bind_some h
 refine Rl.op (OpY.call en30 rfl rfl (bOf_w N 2 _ Any r13 q13) ?_)
 rintro _ w19 hE13 ⟨v13, rfl, k13, -⟩
 replace k13 := k13.mono (Hv.freshO (S := None) hL18 [])
 have hL19 := hL18.ext hE13
 have K19 := ke hL18 hE13
 obtain ⟨r14, q14, h⟩ := bind_some h
 have f13 := (k12.mono (K19 None))
 refine Rl.op (OpY.call en15 rfl rfl (bDivFloor_w N r12 r13 v12 v13 _ Any (f13.mono vw_any) (k13.mono vw_any) r14 q14) ?_)
 rintro _ w20 hE14 ⟨v14, v15, rfl, k14, k15, -⟩
 replace k14 := k14.mono (Hv.freshO (S := None) hL19 [])
 replace k15 := k15.mono (Hv.freshO (S := None) hL19 [])
 have hL20 := hL19.ext hE14
 have K20 := ke hL19 hE14
 refine Rl.op (OpY.move (v := (Value.tuple #[(Value.agg #[(Value.bool r14.1.Negative), v14]), (Value.agg #[(Value.bool r14.2.1.Negative), v15]), (Value.bool r14.2.2)])) rfl ?_)
 refine Rl.op (OpY.extract (vs := [(Value.agg #[(Value.bool r14.1.Negative), v14]), (Value.agg #[(Value.bool r14.2.1.Negative), v15]), (Value.bool r14.2.2)]) (v := (Value.agg #[(Value.bool r14.1.Negative), v14])) rfl rfl ?_)
 refine Rl.op (OpY.extract (vs := [(Value.agg #[(Value.bool r14.1.Negative), v14]), (Value.agg #[(Value.bool r14.2.1.Negative), v15]), (Value.bool r14.2.2)]) (v := (Value.agg #[(Value.bool r14.2.1.Negative), v15])) rfl rfl ?_)
 refine Rl.op (OpY.extract (vs := [(Value.agg #[(Value.bool r14.1.Negative), v14]), (Value.agg #[(Value.bool r14.2.1.Negative), v15]), (Value.bool r14.2.2)]) (v := (Value.bool r14.2.2)) rfl rfl ?_)
 refine Rl.op (OpY.alloc (cs := [(Value.bool false), (Value.slice none 0 0)]) ti24 rfl hL20 ?_)
 intro b13 w21 hL21 hS16
 have K21 := ks w hS16
 refine Rl.op (OpY.alloc (cs := [(Value.bool false), (Value.slice none 0 0)]) ti24 rfl hL21 ?_)
 intro b14 w22 hL22 hS17
 have K22 := ks w hS17
 have f14 := ((k14.mono (K21 None)).mono (K22 None))
 refine Rl.op0 (OpY.store (vs := [(Value.bool r14.1.Negative), v14]) ti24 rfl rfl rfl rfl (ones_cons rfl (ones_cons f14.one ones_nil)) hL22 1 rfl rfl (Nat.le_of_ble_eq_true rfl) ?_)
 intro w23 (hL23 : Go.X.Loc [] [] w w23 [some b14, some b13, some b12, some b11, some b10] [Cont.cells [(Value.bool false), (Value.slice none 0 0)], Cont.cells [(Value.bool r14.1.Negative), v14], Cont.cells [(Value.bool r11.1.Negative), v11], Cont.cells [(Value.bool r10.1.Negative), v10], Cont.cells [(Value.bool r1.1.Negative), v3]]) hS18
 have K23 := ks w hS18
 have f15 := (((k15.mono (K21 None)).mono (K22 None)).mono (K23 None))
 refine Rl.op0 (OpY.store (vs := [(Value.bool r14.2.1.Negative), v15]) ti24 rfl rfl rfl rfl (ones_cons rfl (ones_cons f15.one ones_nil)) hL23 0 rfl rfl (Nat.le_of_ble_eq_true rfl) ?_)
 intro w24 (hL24 : Go.X.Loc [] [] w w24 [some b14, some b13, some b12, some b11, some b10] [Cont.cells [(Value.bool r14.2.1.Negative), v15], Cont.cells [(Value.bool r14.1.Negative), v14], Cont.cells [(Value.bool r11.1.Negative), v11], Cont.cells [(Value.bool r10.1.Negative), v10], Cont.cells [(Value.bool r1.1.Negative), v3]]) hS19
 have K24 := ks w hS19
 refine Rl.op (OpY.assign (v := (Value.bool r14.2.2)) rfl ?_)
 refine Rl.nil (Swp.seq (Swp.region rfl ?_))
 obtain ⟨r15, q15, h⟩ := bind_some h
 refine Rl.op (OpY.call en30 rfl rfl (bOf_w N 7 _ Any r15 q15) ?_)
 rintro _ w25 hE15 ⟨v16, rfl, k16, -⟩
 replace k16 := k16.mono (Hv.freshO (S := None) hL24 [])
 have hL25 := hL24.ext hE15
 have K25 := ke hL24 hE15
 obtain ⟨r16, q16, h⟩ := bind_some h
 refine Rl.op (OpY.call en30 rfl rfl (bOf_w N (-2) _ Any r16 q16) ?_)
 rintro _ w26 hE16 ⟨v17, rfl, k17, -⟩
 replace k17 := k17.mono (Hv.freshO (S := None) hL25 [])
 have hL26 := hL25.ext hE16
 have K26 := ke hL25 hE16
 obtain ⟨r17, q17, h⟩ := bind_some h
 have f16 := (k16.mono (K26 None))
 refine Rl.op (OpY.call en15 rfl rfl (bDivFloor_w N r15 r16 v16 v17 _ Any (f16.mono vw_any) (k17.mono vw_any) r17 q17) ?_)
 rintro _ w27 hE17 ⟨v18, v19, rfl, k18, k19, -⟩
 replace k18 := k18.mono (Hv.freshO (S := None) hL26 [])
 replace k19 := k19.mono (Hv.freshO (S := None) hL26 [])
 have hL27 := hL26.ext hE17
 have K27 := ke hL26 hE17
 refine Rl.op (OpY.move (v := (Value.tuple #[(Value.agg #[(Value.bool r17.1.Negative), v18]), (Value.agg #[(Value.bool r17.2.1.Negative), v19]), (Value.bool r17.2.2)])) rfl ?_)
 refine Rl.op (OpY.extract (vs := [(Value.agg #[(Value.bool r17.1.Negative), v18]), (Value.agg #[(Value.bool r17.2.1.Negative), v19]), (Value.bool r17.2.2)]) (v := (Value.agg #[(Value.bool r17.1.Negative), v18])) rfl rfl ?_)
 refine Rl.op (OpY.extract (vs := [(Value.agg #[(Value.bool r17.1.Negative), v18]), (Value.agg #[(Value.bool r17.2.1.Negative), v19]), (Value.bool r17.2.2)]) (v := (Value.agg #[(Value.bool r17.2.1.Negative), v19])) rfl rfl ?_)
 refine Rl.op (OpY.extract (vs := [(Value.agg #[(Value.bool r17.1.Negative), v18]), (Value.agg #[(Value.bool r17.2.1.Negative), v19]), (Value.bool r17.2.2)]) (v := (Value.bool r17.2.2)) rfl rfl ?_)
 refine Rl.op (OpY.alloc (cs := [(Value.bool false), (Value.slice none 0 0)]) ti24 rfl hL27 ?_)
 intro b15 w28 hL28 hS20
 have K28 := ks w hS20
 refine Rl.op (OpY.alloc (cs := [(Value.bool false), (Value.slice none 0 0)]) ti24 rfl hL28 ?_)
 intro b16 w29 hL29 hS21
 have K29 := ks w hS21
 have f17 := ((k18.mono (K28 None)).mono (K29 None))
 refine Rl.op0 (OpY.store (vs := [(Value.bool r17.1.Negative), v18]) ti24 rfl rfl rfl rfl (ones_cons rfl (ones_cons f17.one ones_nil)) hL29 1 rfl rfl (Nat.le_of_ble_eq_true rfl) ?_)
 intro w30 (hL30 : Go.X.Loc [] [] w w30 [some b16, some b15, some b14, some b13, some b12, some b11, some b10] [Cont.cells [(Value.bool false), (Value.slice none 0 0)], Cont.cells [(Value.bool r17.1.Negative), v18], Cont.cells [(Value.bool r14.2.1.Negative), v15], Cont.cells [(Value.bool r14.1.Negative), v14], Cont.cells [(Value.bool r11.1.Negative), v11], Cont.cells [(Value.bool r10.1.Negative), v10], Cont.cells [(Value.bool r1.1.Negative), v3]]) hS22
 have K30 := ks w hS22
 have f18 := (((k19.mono (K28 None)).mono (K29 None)).mono (K30 None))
 refine Rl.op0 (OpY.store (vs := [(Value.bool r17.2.1.Negative), v19]) ti24 rfl rfl rfl rfl (ones_cons rfl (ones_cons f18.one ones_nil)) hL30 0 rfl rfl (Nat.le_of_ble_eq_true rfl) ?_)
 intro w31 (hL31 : Go.X.Loc [] [] w w31 [some b16, some b15, some b14, some b13, some b12, some b11, some b10] [Cont.cells [(Value.bool r17.2.1.Negative), v19], Cont.cells [(Value.bool r17.1.Negative), v18], Cont.cells [(Value.bool r14.2.1.Negative), v15], Cont.cells [(Value.bool r14.1.Negative), v14], Cont.cells [(Value.bool r11.1.Negative), v11], Cont.cells [(Value.bool r10.1.Negative), v10], Cont.cells [(Value.bool r1.1.Negative), v3]]) hS23
 have K31 := ks w hS23
 refine Rl.op (OpY.assign (v := (Value.bool r17.2.2)) rfl ?_)
 refine Rl.nil (Swp.seq (Swp.region rfl ?_))
 obtain ⟨r18, q18, h⟩ := bind_some h
 refine Rl.op (OpY.call en30 rfl rfl (bOf_w N (-12) _ Any r18 q18) ?_)
 rintro _ w32 hE18 ⟨v20, rfl, k20, -⟩
 replace k20 := k20.mono (Hv.freshO (S := None) hL31 [])
 have hL32 := hL31.ext hE18
 have K32 := ke hL31 hE18
 obtain ⟨r19, q19, h⟩ := bind_some h
 refine Rl.op (OpY.call en30 rfl rfl (bOf_w N 18 _ Any r19 q19) ?_)
 rintro _ w33 hE19 ⟨v21, rfl, k21, -⟩
 replace k21 := k21.mono (Hv.freshO (S := None) hL32 [])
 have hL33 := hL32.ext hE19
 have K33 := ke hL32 hE19
 obtain ⟨r20, q20, h⟩ := bind_some h
 have f19 := (k20.mono (K33 None))
 refine Rl.op (OpY.call en26 rfl rfl (bGCD_w N r18 r19 v20 v21 _ Any (f19.mono vw_any) (k21.mono vw_any) r20 q20) ?_)
 rintro _ w34 hE20 ⟨v22, rfl, k22, -⟩
 replace k22 := k22.mono (Hv.freshO (S := None) hL33 [])
 have hL34 := hL33.ext hE20
 have K34 := ke hL33 hE20
 refine Rl.op (OpY.alloc (cs := [(Value.bool false), (Value.slice none 0 0)]) ti24 rfl hL34 ?_)
 intro b17 w35 hL35 hS24
 have K35 := ks w hS24
 have f20 := (k22.mono (K35 None))
 refine Rl.op0 (OpY.store (vs := [(Value.bool r20.Negative), v22]) ti24 rfl rfl rfl rfl (ones_cons rfl (ones_cons f20.one ones_nil)) hL35 0 rfl rfl (Nat.le_of_ble_eq_true rfl) ?_)
 intro w36 (hL36 : Go.X.Loc [] [] w w36 [some b17, some b16, some b15, some b14, some b13, some b12, some b11, some b10] [Cont.cells [(Value.bool r20.Negative), v22], Cont.cells [(Value.bool r17.2.1.Negative), v19], Cont.cells [(Value.bool r17.1.Negative), v18], Cont.cells [(Value.bool r14.2.1.Negative), v15], Cont.cells [(Value.bool r14.1.Negative), v14], Cont.cells [(Value.bool r11.1.Negative), v11], Cont.cells [(Value.bool r10.1.Negative), v10], Cont.cells [(Value.bool r1.1.Negative), v3]]) hS25
 have K36 := ks w hS25
 refine Rl.nil (Swp.seq (Swp.region rfl (Rl.op (OpY.move (v := (Value.int .i64 r1.2)) rfl ?_))))
 refine Rl.op (OpY.eql (x := r1.2) (y := 0) ((r1.2 : Int) = 0) rfl rfl Iff.rfl ?_)
 refine Rl.op (OpY.move (v := (Value.bool (decide ((r1.2 : Int) = 0)))) rfl ?_)
 by_cases hc10 : (r1.2 : Int) = 0
 ·
  replace h := ite_t hc10 h
  refine Rl.yes rfl rfl (decide_eq_true hc10) (OpY.ldBoxA (vs := [(Value.bool r1.1.Negative), v3]) Tryd.underlying24 rfl ti24 rfl (hL36.at 7 rfl rfl) rfl rfl ?_)
  have hE21 : Els (rInt .u32) (Hv w.heap.size None [some b17, some b16, some b15, some b14, some b13, some b12, some b11, some b10] w36) [(Value.int .u32 0), (Value.int .u32 0), (Value.int .u32 1)] [0, 0, 1] := (Els.cons (a := [(Value.int .u32 0)]) rfl (Els.cons (a := [(Value.int .u32 0)]) rfl (Els.cons (a := [(Value.int .u32 1)]) rfl Els.nil)))
  refine Rl.yes rfl rfl (decide_eq_true hc10) (OpY.litRow (r := (rInt .u32)) (vs := [(Value.int .u32 0), (Value.int .u32 0), (Value.int .u32 1)]) (css := [[(Value.int .u32 0)], [(Value.int .u32 0)], [(Value.int .u32 1)]]) (xs := [0, 0, 1]) Tryd.underlying22 ti47 (Nat.le_of_ble_eq_true rfl) rfl rfl ⟨rfl, rfl, ⟨rfl, rfl, ⟨rfl, rfl, trivial⟩⟩⟩ (Nat.le_of_ble_eq_true rfl) hE21 rfl hL36 ?_)
  intro b18 w37 hc11 hL37 hS26
  have K37 := ks w hS26
  refine Rl.yes rfl rfl (decide_eq_true hc10) (OpY.build (zc := [(Value.bool false), (Value.slice none 0 0)]) (cs := [(Value.bool false), (osv (some b18) 0 3 3)]) (is := [1]) (vs := [(osv (some b18) 0 3 3)]) (css := [[(osv (some b18) 0 3 3)]]) pl24 ti24 rfl rfl rfl ⟨(one_cells (osv_one _ _ _ _)), trivial⟩ rfl ?_)
  obtain ⟨r21, q21, h⟩ := bind_some h
  have f21 := (((((((((((((((((((((((((((f10.mono (K11 None)).mono (K12 None)).mono (K13 None)).mono (K14 None)).mono (K15 None)).mono (K16 None)).mono (K17 None)).mono (K18 None)).mono (K19 None)).mono (K20 None)).mono (K21 None)).mono (K22 None)).mono (K23 None)).mono (K24 None)).mono (K25 None)).mono (K26 None)).mono (K27 None)).mono (K28 None)).mono (K29 None)).mono (K30 None)).mono (K31 None)).mono (K32 None)).mono (K33 None)).mono (K34 None)).mono (K35 None)).mono (K36 None)).mono (K37 None))
  have f22 := (hE21.mono (K37 None))
  refine Rl.yes rfl rfl (decide_eq_true hc10) (OpY.call en18 rfl rfl (rSame_w N r1.1 (Big.mk false [0, 0, 1]) v3 (osv (some b18) 0 3 3) _ Any (f21.mono vw_any) (own_row_any (pre := []) (o := 0) (n := 3) (cap := 3) (hL37.at 0 rfl rfl) f22 vw_any rfl rfl rfl hc11) r21 q21) ?_)
  rintro _ w38 hE22 ⟨rfl, -⟩
  have hL38 := hL37.ext hE22
  have K38 := ke hL37 hE22
  refine Rl.op (OpY.pick_t (t := (decide ((r1.2 : Int) = 0))) (v := (Value.bool r21)) rfl (decide_eq_true hc10) rfl ?_)
  refine Rl.op (OpY.move (v := (Value.bool r21)) rfl ?_)
  by_cases hc12 : r21 = true
  ·
   replace h := ite_t hc12 h
   refine Rl.yes rfl rfl hc12 (OpY.ldBoxA (vs := [(Value.bool r1.1.Negative), v3]) Tryd.underlying24 rfl ti24 rfl (hL38.at 8 rfl rfl) rfl rfl ?_)
   obtain ⟨r22, q22, h⟩ := bind_some h
   have f23 := (f21.mono (K38 None))
   refine Rl.yes rfl rfl hc12 (OpY.call en19 rfl rfl (bFormat_w N r1.1 v3 _ Any (hG.ext hL38.done) (f23.mono vw_any) r22 q22) ?_)
   rintro _ w39 hE23 ⟨rfl, -⟩
   have hL39 := hL38.ext hE23
   have K39 := ke hL38 hE23
   refine Rl.yes rfl rfl hc12 (OpY.sEql (x := r22) (y := awake_lit20) rfl rfl ?_)
   refine Rl.op (OpY.pick_t (t := r21) (v := (Value.bool (decide (r22 = awake_lit20)))) rfl hc12 rfl ?_)
   refine Rl.op (OpY.move (v := (Value.bool (decide (r22 = awake_lit20)))) rfl ?_)
   by_cases hc13 : r22 = awake_lit20
   ·
    replace h := ite_t hc13 h
    refine Rl.yes rfl rfl (decide_eq_true hc13) (OpY.move (v := (Value.int .i64 r10.2)) rfl ?_)
    refine Rl.yes rfl rfl (decide_eq_true hc13) (OpY.eql (x := r10.2) (y := 2) ((r10.2 : Int) = 2) rfl rfl Iff.rfl ?_)
    refine Rl.op (OpY.pick_t (t := (decide (r22 = awake_lit20))) (v := (Value.bool (decide ((r10.2 : Int) = 2)))) rfl (decide_eq_true hc13) rfl ?_)
    refine Rl.op (OpY.move (v := (Value.bool (decide ((r10.2 : Int) = 2)))) rfl ?_)
    by_cases hc14 : (r10.2 : Int) = 2
    ·
     replace h := ite_t hc14 h
     refine Rl.yes rfl rfl (decide_eq_true hc14) (OpY.move (v := (Value.int .i64 r11.2)) rfl ?_)
     refine Rl.yes rfl rfl (decide_eq_true hc14) (OpY.eql (x := r11.2) (y := 2) ((r11.2 : Int) = 2) rfl rfl Iff.rfl ?_)
     refine Rl.op (OpY.pick_t (t := (decide ((r10.2 : Int) = 2))) (v := (Value.bool (decide ((r11.2 : Int) = 2)))) rfl (decide_eq_true hc14) rfl ?_)
     refine Rl.op (OpY.move (v := (Value.bool (decide ((r11.2 : Int) = 2)))) rfl ?_)
     by_cases hc15 : (r11.2 : Int) = 2
     ·
      replace h := ite_t hc15 h
      refine Rl.yes rfl rfl (decide_eq_true hc15) (OpY.move (v := (Value.bool r14.2.2)) rfl ?_)
      refine Rl.op (OpY.pick_t (t := (decide ((r11.2 : Int) = 2))) (v := (Value.bool r14.2.2)) rfl (decide_eq_true hc15) rfl ?_)
      refine Rl.op (OpY.move (v := (Value.bool r14.2.2)) rfl ?_)
      by_cases hc16 : r14.2.2 = true
      ·
       replace h := ite_t hc16 h
       refine Rl.yes rfl rfl hc16 (OpY.move (v := (Value.bool r17.2.2)) rfl ?_)
       refine Rl.op (OpY.pick_t (t := r14.2.2) (v := (Value.bool r17.2.2)) rfl hc16 rfl ?_)
       refine Rl.op (OpY.move (v := (Value.bool r17.2.2)) rfl ?_)
       by_cases hc17 : r17.2.2 = true
       ·
        replace h := ite_t hc17 h
        refine Rl.yes rfl rfl hc17 (OpY.ldBoxA (vs := [(Value.bool r14.1.Negative), v14]) Tryd.underlying24 rfl ti24 rfl (hL39.at 5 rfl rfl) rfl rfl ?_)
        obtain ⟨r23, q23, h⟩ := bind_some h
        have f24 := (((((((((((((((((f14.mono (K23 None)).mono (K24 None)).mono (K25 None)).mono (K26 None)).mono (K27 None)).mono (K28 None)).mono (K29 None)).mono (K30 None)).mono (K31 None)).mono (K32 None)).mono (K33 None)).mono (K34 None)).mono (K35 None)).mono (K36 None)).mono (K37 None)).mono (K38 None)).mono (K39 None))
        refine Rl.yes rfl rfl hc17 (OpY.call en19 rfl rfl (bFormat_w N r14.1 v14 _ Any (hG.ext hL39.done) (f24.mono vw_any) r23 q23) ?_)
        rintro _ w40 hE24 ⟨rfl, -⟩
        have hL40 := hL39.ext hE24
        have K40 := ke hL39 hE24
        refine Rl.yes rfl rfl hc17 (OpY.sEql (x := r23) (y := ([45, 52] : List UInt8)) rfl rfl ?_)
        refine Rl.op (OpY.pick_t (t := r17.2.2) (v := (Value.bool (decide (r23 = ([45, 52] : List UInt8))))) rfl hc17 rfl ?_)
        refine Rl.op (OpY.move (v := (Value.bool (decide (r23 = ([45, 52] : List UInt8))))) rfl ?_)
        by_cases hc18 : r23 = ([45, 52] : List UInt8)
        ·
         replace h := ite_t hc18 h
         refine Rl.yes rfl rfl (decide_eq_true hc18) (OpY.ldBoxA (vs := [(Value.bool r14.2.1.Negative), v15]) Tryd.underlying24 rfl ti24 rfl (hL40.at 4 rfl rfl) rfl rfl ?_)
         obtain ⟨r24, q24, h⟩ := bind_some h
         have f25 := (((((((((((((((((f15.mono (K24 None)).mono (K25 None)).mono (K26 None)).mono (K27 None)).mono (K28 None)).mono (K29 None)).mono (K30 None)).mono (K31 None)).mono (K32 None)).mono (K33 None)).mono (K34 None)).mono (K35 None)).mono (K36 None)).mono (K37 None)).mono (K38 None)).mono (K39 None)).mono (K40 None))
         refine Rl.yes rfl rfl (decide_eq_true hc18) (OpY.call en19 rfl rfl (bFormat_w N r14.2.1 v15 _ Any (hG.ext hL40.done) (f25.mono vw_any) r24 q24) ?_)
         rintro _ w41 hE25 ⟨rfl, -⟩
         have hL41 := hL40.ext hE25
         have K41 := ke hL40 hE25
         refine Rl.yes rfl rfl (decide_eq_true hc18) (OpY.sEql (x := r24) (y := ([49] : List UInt8)) rfl rfl ?_)
         refine Rl.op (OpY.pick_t (t := (decide (r23 = ([45, 52] : List UInt8)))) (v := (Value.bool (decide (r24 = ([49] : List UInt8))))) rfl (decide_eq_true hc18) rfl ?_)
         refine Rl.op (OpY.move (v := (Value.bool (decide (r24 = ([49] : List UInt8))))) rfl ?_)
         by_cases hc19 : r24 = ([49] : List UInt8)
         ·
          replace h := ite_t hc19 h
          refine Rl.yes rfl rfl (decide_eq_true hc19) (OpY.ldBoxA (vs := [(Value.bool r17.1.Negative), v18]) Tryd.underlying24 rfl ti24 rfl (hL41.at 3 rfl rfl) rfl rfl ?_)
          obtain ⟨r25, q25, h⟩ := bind_some h
          have f26 := ((((((((((((f17.mono (K30 None)).mono (K31 None)).mono (K32 None)).mono (K33 None)).mono (K34 None)).mono (K35 None)).mono (K36 None)).mono (K37 None)).mono (K38 None)).mono (K39 None)).mono (K40 None)).mono (K41 None))
          refine Rl.yes rfl rfl (decide_eq_true hc19) (OpY.call en19 rfl rfl (bFormat_w N r17.1 v18 _ Any (hG.ext hL41.done) (f26.mono vw_any) r25 q25) ?_)
          rintro _ w42 hE26 ⟨rfl, -⟩
          have hL42 := hL41.ext hE26
          have K42 := ke hL41 hE26
          refine Rl.yes rfl rfl (decide_eq_true hc19) (OpY.sEql (x := r25) (y := ([45, 52] : List UInt8)) rfl rfl ?_)
          refine Rl.op (OpY.pick_t (t := (decide (r24 = ([49] : List UInt8)))) (v := (Value.bool (decide (r25 = ([45, 52] : List UInt8))))) rfl (decide_eq_true hc19) rfl ?_)
          refine Rl.op (OpY.move (v := (Value.bool (decide (r25 = ([45, 52] : List UInt8))))) rfl ?_)
          by_cases hc20 : r25 = ([45, 52] : List UInt8)
          ·
           replace h := ite_t hc20 h
           refine Rl.yes rfl rfl (decide_eq_true hc20) (OpY.ldBoxA (vs := [(Value.bool r17.2.1.Negative), v19]) Tryd.underlying24 rfl ti24 rfl (hL42.at 2 rfl rfl) rfl rfl ?_)
           obtain ⟨r26, q26, h⟩ := bind_some h
           have f27 := ((((((((((((f18.mono (K31 None)).mono (K32 None)).mono (K33 None)).mono (K34 None)).mono (K35 None)).mono (K36 None)).mono (K37 None)).mono (K38 None)).mono (K39 None)).mono (K40 None)).mono (K41 None)).mono (K42 None))
           refine Rl.yes rfl rfl (decide_eq_true hc20) (OpY.call en19 rfl rfl (bFormat_w N r17.2.1 v19 _ Any (hG.ext hL42.done) (f27.mono vw_any) r26 q26) ?_)
           rintro _ w43 hE27 ⟨rfl, -⟩
           have hL43 := hL42.ext hE27
           have K43 := ke hL42 hE27
           refine Rl.yes rfl rfl (decide_eq_true hc20) (OpY.sEql (x := r26) (y := ([45, 49] : List UInt8)) rfl rfl ?_)
           refine Rl.op (OpY.pick_t (t := (decide (r25 = ([45, 52] : List UInt8)))) (v := (Value.bool (decide (r26 = ([45, 49] : List UInt8))))) rfl (decide_eq_true hc20) rfl ?_)
           refine Rl.op (OpY.move (v := (Value.bool (decide (r26 = ([45, 49] : List UInt8))))) rfl ?_)
           by_cases hc21 : r26 = ([45, 49] : List UInt8)
           ·
            replace h := ite_t hc21 h
            refine Rl.yes rfl rfl (decide_eq_true hc21) (OpY.ldBoxA (vs := [(Value.bool r20.Negative), v22]) Tryd.underlying24 rfl ti24 rfl (hL43.at 1 rfl rfl) rfl rfl ?_)
            obtain ⟨r27, q27, h⟩ := bind_some h
            have f28 := ((((((((f20.mono (K36 None)).mono (K37 None)).mono (K38 None)).mono (K39 None)).mono (K40 None)).mono (K41 None)).mono (K42 None)).mono (K43 None))
            refine Rl.yes rfl rfl (decide_eq_true hc21) (OpY.call en19 rfl rfl (bFormat_w N r20 v22 _ Any (hG.ext hL43.done) (f28.mono vw_any) r27 q27) ?_)
            rintro _ w44 hE28 ⟨rfl, -⟩
            have hL44 := hL43.ext hE28
            refine Rl.yes rfl rfl (decide_eq_true hc21) (OpY.sEql (x := r27) (y := ([54] : List UInt8)) rfl rfl ?_)
            refine Rl.op (OpY.pick_t (t := (decide (r26 = ([45, 49] : List UInt8)))) (v := (Value.bool (decide (r27 = ([54] : List UInt8))))) rfl (decide_eq_true hc21) rfl ?_)
            refine Rl.op (OpY.assign (v := (Value.bool (decide (r27 = ([54] : List UInt8))))) rfl ?_)
            refine Rl.nil (Swp.ret ?_)
            obtain rfl := Option.some.inj h
            refine ⟨[(Value.bool (decide (r27 = ([54] : List UInt8))))], ⟨rfl, trivial⟩, ⟨_, rfl, hL44.done, ?_⟩⟩
            exact ⟨rfl, trivial⟩
           ·
            exact absurd ((Option.some.inj (ite_f hc21 h)).trans hr) Bool.false_ne_true
          ·
           exact absurd ((Option.some.inj (ite_f hc20 h)).trans hr) Bool.false_ne_true
         ·
          exact absurd ((Option.some.inj (ite_f hc19 h)).trans hr) Bool.false_ne_true
        ·
         exact absurd ((Option.some.inj (ite_f hc18 h)).trans hr) Bool.false_ne_true
       ·
        exact absurd ((Option.some.inj (ite_f hc17 h)).trans hr) Bool.false_ne_true
      ·
       exact absurd ((Option.some.inj (ite_f hc16 h)).trans hr) Bool.false_ne_true
     ·
      exact absurd ((Option.some.inj (ite_f hc15 h)).trans hr) Bool.false_ne_true
    ·
     exact absurd ((Option.some.inj (ite_f hc14 h)).trans hr) Bool.false_ne_true
   ·
    exact absurd ((Option.some.inj (ite_f hc13 h)).trans hr) Bool.false_ne_true
  ·
   exact absurd ((Option.some.inj (ite_f hc12 h)).trans hr) Bool.false_ne_true
 ·
  exact absurd ((Option.some.inj (ite_f hc10 h)).trans hr) Bool.false_ne_true
theorem awake_w (N : Nat) (w : World) (S : Nat → Prop) (hG : G w) (r : Bool) (h : awake N = some r) :
  Calls Tryd.prog 13 #[] w (Ret w (fun v w' => (Value.bool r) = v ∧ True)) := awake_w0 N w S hG r h (awake_true h)

theorem lawRing_w (N : Nat) (a : Big) (b : Big) (c : Big) (a_v : Value) (b_v : Value) (c_v : Value) (w : World) (S : Nat → Prop) (hG : G w) (a_h : Rs (rInt .u32) (Hv w.heap.size S [] w) a_v a.Digits) (b_h : Rs (rInt .u32) (Hv w.heap.size S [] w) b_v b.Digits) (c_h : Rs (rInt .u32) (Hv w.heap.size S [] w) c_v c.Digits) (r : Bool) (h : lawRing N a b c = some r) :
  Calls Tryd.prog 7 #[(Value.agg #[(Value.bool a.Negative), a_v]), (Value.agg #[(Value.bool b.Negative), b_v]), (Value.agg #[(Value.bool c.Negative), c_v])] w (Ret w (fun v w' => (Value.bool r) = v ∧ True)) := by
 unfold lawRing at h
 have hL : Go.X.Loc [] [] w w [] [] := Go.X.Loc.begin0 w
 refine calls_of (l := [(Value.agg #[(Value.bool a.Negative), a_v]), (Value.agg #[(Value.bool b.Negative), b_v]), (Value.agg #[(Value.bool c.Negative), c_v])]) (rl := [.tmp 6]) (n := 101) Tryd.func7 rfl rfl rfl (Nat.le_of_ble_eq_true rfl) ?_
 refine Swp.seq (Swp.region rfl (Rl.op (OpY.box (cs := [(Value.bool a.Negative), a_v]) rfl rfl hL ?_)))
 intro b1 w2 hL3 hS5
 have K4 := ks w hS5
 refine Rl.op (OpY.box (cs := [(Value.bool b.Negative), b_v]) rfl rfl hL3 ?_)
 intro b6 w7 hL8 hS10
 have K9 := ks w hS10
 refine Rl.op (OpY.box (cs := [(Value.bool c.Negative), c_v]) rfl rfl hL8 ?_)
 intro b10 w10 hL10 hS11
 have K10 := ks w hS11
 refine Rl.op (OpY.assign (v := (Value.bool false)) rfl ?_)
 refine Rl.nil (Swp.seq (Swp.seq ?_))
 obtain ⟨s10, h, g10⟩ := bind_some h
 refine Swp.join (fun e w' => ∃ (x10 : Bool) (u : Env), x10 = s10 ∧ e = upds [(3, (Value.pointer (some ⟨b1, 0, none⟩))), (4, (Value.pointer (some ⟨b6, 0, none⟩))), (5, (Value.pointer (some ⟨b10, 0, none⟩))), (22, (Value.bool x10))] u ∧ Go.X.Loc [] [] w w' [some b1, some b6, some b10] [Cont.cells [(Value.bool a.Negative), a_v], Cont.cells [(Value.bool b.Negative), b_v], Cont.cells [(Value.bool c.Negative), c_v]] ∧ Keep w.heap.size [some b10, some b6, some b1] w10 [some b1, some b6, some b10] w' ∧ True) ?_ ?_
 ·
  refine Swp.region rfl ?_
  obtain ⟨r10, q10, h⟩ := bind_some h
  refine Rl.op (OpY.call en13 rfl rfl (awake_w N _ Any (hG.ext hL10.done) r10 q10) ?_)
  rintro _ w11 hE10 ⟨rfl, -⟩
  have hL11 := hL10.ext hE10
  have K11 := ke hL10 hE10
  refine Rl.op (OpY.not (x := r10) rfl ?_)
  refine Rl.op (OpY.move (v := (Value.bool (!r10))) rfl ?_)
  by_cases hc10 : (!r10) = true
  ·
   replace h := ite_t hc10 h
   refine Rl.no rfl rfl hc10 ?_
   refine Rl.no rfl rfl hc10 ?_
   refine Rl.no rfl rfl hc10 ?_
   refine Rl.no rfl rfl hc10 ?_
   refine Rl.no rfl rfl hc10 ?_
   refine Rl.no rfl rfl hc10 ?_
   refine Rl.op (OpY.pick_t (t := (!r10)) (v := (Value.bool true)) rfl hc10 rfl ?_)
   refine Rl.nil ?_
   have hp10 := hL11.pick [2, 1, 0] rfl rfl rfl
   have hL12 : Go.X.Loc [] [] w w11 [some b1, some b6, some b10] [Cont.cells [(Value.bool a.Negative), a_v], Cont.cells [(Value.bool b.Negative), b_v], Cont.cells [(Value.bool c.Negative), c_v]] := hp10.1
   have K12 := ks w hp10.2
   obtain rfl := Option.some.inj h
   refine Swp.pop_back ?_
   exact ⟨true, _, rfl, (upds_sym ⟨rfl, rfl, rfl, rfl, trivial⟩), hL12, (Keep.trans K11 K12), trivial⟩
  ·
   replace h := ite_f hc10 h
   refine Rl.yes rfl rfl (eq_false_of_ne_true hc10) (OpY.ldBoxA (vs := [(Value.bool a.Negative), a_v]) Tryd.underlying24 rfl ti24 rfl (hL11.at 2 rfl rfl) rfl rfl ?_)
   refine Rl.yes rfl rfl (eq_false_of_ne_true hc10) (OpY.ldBoxA (vs := [(Value.bool b.Negative), b_v]) Tryd.underlying24 rfl ti24 rfl (hL11.at 1 rfl rfl) rfl rfl ?_)
   refine Rl.yes rfl rfl (eq_false_of_ne_true hc10) (OpY.ldBoxA (vs := [(Value.bool c.Negative), c_v]) Tryd.underlying24 rfl ti24 rfl (hL11.at 0 rfl rfl) rfl rfl ?_)
   have f10 := ((((c_h.mono (K4 S)).mono (K9 S)).mono (K10 S)).mono (K11 S))
   have f11 := ((((b_h.mono (K4 S)).mono (K9 S)).mono (K10 S)).mono (K11 S))
   have f12 := ((((a_h.mono (K4 S)).mono (K9 S)).mono (K10 S)).mono (K11 S))
   have hE11 : Els rBig (Hv w.heap.size S [some b10, some b6, some b1] w11) [(Value.bool a.Negative), a_v, (Value.bool b.Negative), b_v, (Value.bool c.Negative), c_v] [a, b, c] := (Els.cons (a := [(Value.bool a.Negative), a_v]) (rBig_close ⟨a_v, rfl, f12, trivial⟩) (Els.cons (a := [(Value.bool b.Negative), b_v]) (rBig_close ⟨b_v, rfl, f11, trivial⟩) (Els.cons (a := [(Value.bool c.Negative), c_v]) (rBig_close ⟨c_v, rfl, f10, trivial⟩) Els.nil)))
   refine Rl.yes rfl rfl (eq_false_of_ne_true hc10) (OpY.litRow (r := rBig) (vs := [(Value.agg #[(Value.bool a.Negative), a_v]), (Value.agg #[(Value.bool b.Negative), b_v]), (Value.agg #[(Value.bool c.Negative), c_v])]) (css := [[(Value.bool a.Negative), a_v], [(Value.bool b.Negative), b_v], [(Value.bool c.Negative), c_v]]) (xs := [a, b, c]) Tryd.underlying45 ti24 (Nat.le_of_ble_eq_true rfl) rfl rfl ⟨rfl, rfl, ⟨rfl, rfl, ⟨rfl, rfl, trivial⟩⟩⟩ (Nat.le_of_ble_eq_true rfl) hE11 rfl hL11 ?_)
   intro b11 w12 hc11 hL13 hS12
   have K13 := ks w hS12
   obtain ⟨r11, q11, h⟩ := bind_some h
   have f13 := (hE11.mono (K13 S))
   refine Rl.yes rfl rfl (eq_false_of_ne_true hc10) (OpY.call en14 rfl rfl (lsmall_w N [a, b, c] (osv (some b11) 0 3 3) _ Any (own_row_any (pre := []) (o := 0) (n := 3) (cap := 3) (hL13.at 0 rfl rfl) f13 vw_any rfl rfl rfl hc11) r11 q11) ?_)
   rintro _ w13 hE12 ⟨rfl, -⟩
   have hL14 := hL13.ext hE12
   have K14 := ke hL13 hE12
   refine Rl.yes rfl rfl (eq_false_of_ne_true hc10) (OpY.not (x := r11) rfl ?_)
   refine Rl.op (OpY.pick_f (t := (!r10)) (v := (Value.bool (!r11))) rfl (eq_false_of_ne_true hc10) rfl ?_)
   refine Rl.nil ?_
   have hp11 := hL14.pick [3, 2, 1] rfl rfl rfl
   have hL15 : Go.X.Loc [] [] w w13 [some b1, some b6, some b10] [Cont.cells [(Value.bool a.Negative), a_v], Cont.cells [(Value.bool b.Negative), b_v], Cont.cells [(Value.bool c.Negative), c_v]] := hp11.1
   have K15 := ks w hp11.2
   obtain rfl := Option.some.inj h
   refine Swp.pop_back ?_
   exact ⟨(!r11), _, rfl, (upds_sym ⟨rfl, rfl, rfl, rfl, trivial⟩), hL15, (Keep.trans (Keep.trans (Keep.trans K11 K13) K14) K15), trivial⟩
 ·
  rintro _ w14 ⟨x10, u, rfl, rfl, hL16, K16, -⟩
  replace h := g10
  try dsimp only at h
  refine Swp.cond_b x10 rfl (fun hc12 => ?_) (fun hc12 => ?_)
  ·
   replace h := ite_t hc12 h
   refine Swp.seq (Swp.region rfl ?_)
   obtain ⟨r12, q12, h⟩ := bind_some h
   refine Rl.op (OpY.call en13 rfl rfl (awake_w N _ Any (hG.ext hL16.done) r12 q12) ?_)
   rintro _ w15 hE13 ⟨rfl, -⟩
   have hL17 := hL16.ext hE13
   refine Rl.op (OpY.assign (v := (Value.bool r12)) rfl ?_)
   refine Rl.nil (Swp.ret ?_)
   obtain rfl := Option.some.inj h
   refine ⟨[(Value.bool r12)], ⟨rfl, trivial⟩, ⟨_, rfl, hL17.done, ?_⟩⟩
   exact ⟨rfl, trivial⟩
  ·
   replace h := ite_f hc12 h
   refine Swp.skip (Swp.seq ?_)
   obtain ⟨r13, q13, h⟩ := bind_some h
   obtain ⟨r14, q14, h⟩ := bind_some h
   obtain ⟨r15, q15, h⟩ := bind_some h
   obtain ⟨r16, q16, h⟩ := bind_some h
   obtain ⟨r17, q17, h⟩ := bind_some h
   refine Swp.drawL 9 [] [] (fun W1 => [.det (Value.agg #[(Value.bool a.Negative), a_v]), .rel (fun v Z w' => ∃ v10, (Value.agg #[(Value.bool r13.Negative), v10]) = v ∧ Rs (rInt .u32) (Zv W1 w.heap.size None [some b1, some b6, some b10] Z w') v10 r13.Digits ∧ True) (fun _ => []), .det (Value.agg #[(Value.bool b.Negative), b_v]), .rel (fun v Z w' => ∃ v11, (Value.agg #[(Value.bool r14.Negative), v11]) = v ∧ Rs (rInt .u32) (Zv W1 w.heap.size None [some b1, some b6, some b10] Z w') v11 r14.Digits ∧ True) (fun _ => []), .rel (fun v Z w' => ∃ v12, (Value.agg #[(Value.bool r15.Negative), v12]) = v ∧ Rs (rInt .u32) (Zv W1 w.heap.size None [some b1, some b6, some b10] Z w') v12 r15.Digits ∧ True) (fun _ => []), .det (Value.agg #[(Value.bool c.Negative), c_v]), .rel (fun v Z w' => ∃ v13, (Value.agg #[(Value.bool r16.Negative), v13]) = v ∧ Rs (rInt .u32) (Zv W1 w.heap.size None [some b1, some b6, some b10] Z w') v13 r16.Digits ∧ True) (fun _ => []), .rel (fun v Z w' => ∃ v14, (Value.agg #[(Value.bool r17.Negative), v14]) = v ∧ Rs (rInt .u32) (Zv W1 w.heap.size None [some b1, some b6, some b10] Z w') v14 r17.Digits ∧ True) (fun _ => []), .rel (fun v Z w' => ∃ b12, (Value.pointer (some ⟨b12, 0, none⟩)) = v ∧ OwnC w' (some b12) (Cont.cells [(Value.bool false), (Value.slice none 0 0)]) ∧ True) footV]) mixed rfl rfl rfl (fun _ => rfl) (fun _ => rfl) ?_ ?_
   ·
    intro W1 _
    exact ⟨fun v Z Z' w w' hΦ hz _ _ hs => by obtain ⟨v10, rfl, k10, -⟩ := hΦ; exact ⟨v10, rfl, (k10.mono (Zv.stay hz hs)), trivial⟩, ⟨fun v Z Z' w w' hΦ hz _ _ hs => by obtain ⟨v11, rfl, k11, -⟩ := hΦ; exact ⟨v11, rfl, (k11.mono (Zv.stay hz hs)), trivial⟩, ⟨fun v Z Z' w w' hΦ hz _ _ hs => by obtain ⟨v12, rfl, k12, -⟩ := hΦ; exact ⟨v12, rfl, (k12.mono (Zv.stay hz hs)), trivial⟩, ⟨fun v Z Z' w w' hΦ hz _ _ hs => by obtain ⟨v13, rfl, k13, -⟩ := hΦ; exact ⟨v13, rfl, (k13.mono (Zv.stay hz hs)), trivial⟩, ⟨fun v Z Z' w w' hΦ hz _ _ hs => by obtain ⟨v14, rfl, k14, -⟩ := hΦ; exact ⟨v14, rfl, (k14.mono (Zv.stay hz hs)), trivial⟩, ⟨fun v Z Z' w w' hΦ hz _ _ hs => by obtain ⟨b12, rfl, hO10, -⟩ := hΦ; exact ⟨b12, rfl, (hO10.stay (fun b hb => by cases hb; exact List.mem_cons_self) hs), trivial⟩, trivial⟩⟩⟩⟩⟩⟩
   ·
    intro w16 hE14
    have hL18 := hL16.ext hE14
    have K17 := ke hL16 hE14
    refine DrH.de (fun _ hE15 => GOp.op (OpY.ldBoxA (vs := [(Value.bool a.Negative), a_v]) Tryd.underlying24 rfl ti24 rfl ((hL18.ext hE15).at 0 rfl rfl) rfl rfl (er rfl))) ?_
    refine DrH.rel ?_ ?_
    ·
     rintro w18 Z13 hE16 hZ11 ⟨-⟩
     have K18 := ke hL18 hE16
     refine GOp.op (OpY.call en16 rfl rfl (lcp_w N a a_v _ Any (((((((a_h.mono (K4 S)).mono (K9 S)).mono (K10 S)).mono (K16 S)).mono (K17 S)).mono (K18 S)).mono vw_any) r13 q13) ?_)
     rintro _ w19 hE17 ⟨v10, rfl, k10, -⟩
     exact Made.ext hE17 hZ11 NewOwn.nil (fun _ h => h) ⟨v10, rfl, (k10.mono Zv.made), trivial⟩
    intro z1
    refine DrH.de (fun _ hE18 => GOp.op (OpY.ldBoxA (vs := [(Value.bool b.Negative), b_v]) Tryd.underlying24 rfl ti24 rfl ((hL18.ext hE18).at 1 rfl rfl) rfl rfl (er rfl))) ?_
    refine DrH.rel ?_ ?_
    ·
     rintro w21 Z15 hE19 hZ13 ⟨⟨⟨v10, rfl, k10, -⟩, hB1⟩, -⟩
     have K19 := ke hL18 hE19
     refine GOp.op (OpY.call en16 rfl rfl (lcp_w N b b_v _ Any (((((((b_h.mono (K4 S)).mono (K9 S)).mono (K10 S)).mono (K16 S)).mono (K17 S)).mono (K19 S)).mono vw_any) r14 q14) ?_)
     rintro _ w22 hE20 ⟨v11, rfl, k11, -⟩
     exact Made.ext hE20 hZ13 NewOwn.nil (fun _ h => h) ⟨v11, rfl, (k11.mono Zv.made), trivial⟩
    intro z3
    refine DrH.rel ?_ ?_
    ·
     rintro w23 Z16 hE21 hZ14 ⟨⟨⟨v11, rfl, k11, -⟩, hB3⟩, ⟨⟨v10, rfl, k10, -⟩, hB1⟩, -⟩
     refine GOp.op (OpY.call en29 rfl rfl (bAdd_w N r13 r14 v10 v11 _ Any (k10.mono vw_any) (k11.mono vw_any) r15 q15) ?_)
     rintro _ w24 hE22 ⟨v12, rfl, k12, -⟩
     exact Made.ext hE22 hZ14 NewOwn.nil (fun _ h => h) ⟨v12, rfl, (k12.mono Zv.made), trivial⟩
    intro z4
    refine DrH.de (fun _ hE23 => GOp.op (OpY.ldBoxA (vs := [(Value.bool c.Negative), c_v]) Tryd.underlying24 rfl ti24 rfl ((hL18.ext hE23).at 2 rfl rfl) rfl rfl (er rfl))) ?_
    refine DrH.rel ?_ ?_
    ·
     rintro w26 Z18 hE24 hZ16 ⟨⟨⟨v12, rfl, k12, -⟩, hB4⟩, -, -, -⟩
     have K20 := ke hL18 hE24
     refine GOp.op (OpY.call en16 rfl rfl (lcp_w N c c_v _ Any (((((((c_h.mono (K4 S)).mono (K9 S)).mono (K10 S)).mono (K16 S)).mono (K17 S)).mono (K20 S)).mono vw_any) r16 q16) ?_)
     rintro _ w27 hE25 ⟨v13, rfl, k13, -⟩
     exact Made.ext hE25 hZ16 NewOwn.nil (fun _ h => h) ⟨v13, rfl, (k13.mono Zv.made), trivial⟩
    intro z6
    refine DrH.rel ?_ ?_
    ·
     rintro w28 Z19 hE26 hZ17 ⟨⟨⟨v13, rfl, k13, -⟩, hB6⟩, ⟨⟨v12, rfl, k12, -⟩, hB4⟩, -, -, -⟩
     refine GOp.op (OpY.call en24 rfl rfl (bMul_w N r15 r16 v12 v13 _ Any (k12.mono vw_any) (k13.mono vw_any) r17 q17) ?_)
     rintro _ w29 hE27 ⟨v14, rfl, k14, -⟩
     exact Made.ext hE27 hZ17 NewOwn.nil (fun _ h => h) ⟨v14, rfl, (k14.mono Zv.made), trivial⟩
    intro z7
    refine DrH.rel ?_ ?_
    ·
     rintro w30 Z20 hE28 hZ18 ⟨-, -, -, -, -, -⟩
     refine GOp.op (OpY.alloc (cs := [(Value.bool false), (Value.slice none 0 0)]) ti24 rfl (Go.X.Loc.begin0 w30) ?_)
     intro b12 w31 hL22 hS13
     have hN10 : NewOwn w30 w31 [some b12] [Cont.cells [(Value.bool false), (Value.slice none 0 0)]] := hL22.newOwn [0] rfl rfl rfl
     exact Made.ext hL22.done hZ18 hN10 (fun _ h => h) ⟨b12, rfl, hN10.2.2.1, trivial⟩
    intro z8
    refine DrH.fin0 ?_
    rintro w32 Z21 hE29 hZ19 ⟨⟨⟨b12, rfl, hO10, -⟩, hB8⟩, ⟨⟨v14, rfl, k14, -⟩, hB7⟩, ⟨⟨v13, rfl, k13, -⟩, hB6⟩, ⟨⟨v12, rfl, k12, -⟩, hB4⟩, ⟨⟨v11, rfl, k11, -⟩, hB3⟩, ⟨⟨v10, rfl, k10, -⟩, hB1⟩, -⟩ ap10
    have hB10 : ∀ b, some b ∈ ([some b12] : List (Option Nat)) → w16.heap.size ≤ b ∧ ¬ Z21 b := by
     intro b hb
     rcases List.mem_cons.1 hb with hb' | hb
     ·
      have := hB8 b (by rw [hb']; exact List.mem_cons_self); exact ⟨this.1, this.2.2⟩
     cases hb
    replace k14 := k14.mono (Zv.fin hL18 hZ19 hB10)
    replace k13 := k13.mono (Zv.fin hL18 hZ19 hB10)
    replace k12 := k12.mono (Zv.fin hL18 hZ19 hB10)
    replace k11 := k11.mono (Zv.fin hL18 hZ19 hB10)
    replace k10 := k10.mono (Zv.fin hL18 hZ19 hB10)
    have hN11 : NewOwn w16 w32 [some b12] [Cont.cells [(Value.bool false), (Value.slice none 0 0)]] := (NewOwn.cons NewOwn.nil hO10 (fun b hb => (hB10 b (by rw [← hb]; simp)).1) (fun b _ hb => by cases hb))
    have hp12 := hL18.adoptL hE29 hN11
    have hL23 := hp12.1
    have K21 := ks w hp12.2
    refine Rl.op0 (OpY.store (vs := [(Value.bool r17.Negative), v14]) ti24 rfl rfl rfl rfl (ones_cons rfl (ones_cons k14.one ones_nil)) hL23 0 rfl rfl (Nat.le_of_ble_eq_true rfl) ?_)
    intro w33 (hL24 : Go.X.Loc [] [] w w33 [some b12, some b1, some b6, some b10] [Cont.cells [(Value.bool r17.Negative), v14], Cont.cells [(Value.bool a.Negative), a_v], Cont.cells [(Value.bool b.Negative), b_v], Cont.cells [(Value.bool c.Negative), c_v]]) hS14
    have K22 := ks w hS14
    refine Rl.nil (Swp.seq ?_)
    obtain ⟨r18, q18, h⟩ := bind_some h
    obtain ⟨r19, q19, h⟩ := bind_some h
    obtain ⟨r20, q20, h⟩ := bind_some h
    obtain ⟨r21, q21, h⟩ := bind_some h
    obtain ⟨r22, q22, h⟩ := bind_some h
    obtain ⟨r23, q23, h⟩ := bind_some h
    obtain ⟨r24, q24, h⟩ := bind_some h
    refine Swp.drawL 12 [] [] (fun W1 => [.det (Value.agg #[(Value.bool a.Negative), a_v]), .rel (fun v Z w' => ∃ v15, (Value.agg #[(Value.bool r18.Negative), v15]) = v ∧ Rs (rInt .u32) (Zv W1 w.heap.size None [some b12, some b1, some b6, some b10] Z w') v15 r18.Digits ∧ True) (fun _ => []), .det (Value.agg #[(Value.bool c.Negative), c_v]), .rel (fun v Z w' => ∃ v16, (Value.agg #[(Value.bool r19.Negative), v16]) = v ∧ Rs (rInt .u32) (Zv W1 w.heap.size None [some b12, some b1, some b6, some b10] Z w') v16 r19.Digits ∧ True) (fun _ => []), .rel (fun v Z w' => ∃ v17, (Value.agg #[(Value.bool r20.Negative), v17]) = v ∧ Rs (rInt .u32) (Zv W1 w.heap.size None [some b12, some b1, some b6, some b10] Z w') v17 r20.Digits ∧ True) (fun _ => []), .det (Value.agg #[(Value.bool b.Negative), b_v]), .rel (fun v Z w' => ∃ v18, (Value.agg #[(Value.bool r21.Negative), v18]) = v ∧ Rs (rInt .u32) (Zv W1 w.heap.size None [some b12, some b1, some b6, some b10] Z w') v18 r21.Digits ∧ True) (fun _ => []), .det (Value.agg #[(Value.bool c.Negative), c_v]), .rel (fun v Z w' => ∃ v19, (Value.agg #[(Value.bool r22.Negative), v19]) = v ∧ Rs (rInt .u32) (Zv W1 w.heap.size None [some b12, some b1, some b6, some b10] Z w') v19 r22.Digits ∧ True) (fun _ => []), .rel (fun v Z w' => ∃ v20, (Value.agg #[(Value.bool r23.Negative), v20]) = v ∧ Rs (rInt .u32) (Zv W1 w.heap.size None [some b12, some b1, some b6, some b10] Z w') v20 r23.Digits ∧ True) (fun _ => []), .rel (fun v Z w' => ∃ v21, (Value.agg #[(Value.bool r24.Negative), v21]) = v ∧ Rs (rInt .u32) (Zv W1 w.heap.size None [some b12, some b1, some b6, some b10] Z w') v21 r24.Digits ∧ True) (fun _ => []), .rel (fun v Z w' => ∃ b13, (Value.pointer (some ⟨b13, 0, none⟩)) = v ∧ OwnC w' (some b13) (Cont.cells [(Value.bool false), (Value.slice none 0 0)]) ∧ True) footV]) mixed rfl rfl rfl (fun _ => rfl) (fun _ => rfl) ?_ ?_
    ·
     intro W1 _
     exact ⟨fun v Z Z' w w' hΦ hz _ _ hs => by obtain ⟨v15, rfl, k15, -⟩ := hΦ; exact ⟨v15, rfl, (k15.mono (Zv.stay hz hs)), trivial⟩, ⟨fun v Z Z' w w' hΦ hz _ _ hs => by obtain ⟨v16, rfl, k16, -⟩ := hΦ; exact ⟨v16, rfl, (k16.mono (Zv.stay hz hs)), trivial⟩, ⟨fun v Z Z' w w' hΦ hz _ _ hs => by obtain ⟨v17, rfl, k17, -⟩ := hΦ; exact ⟨v17, rfl, (k17.mono (Zv.stay hz hs)), trivial⟩, ⟨fun v Z Z' w w' hΦ hz _ _ hs => by obtain ⟨v18, rfl, k18, -⟩ := hΦ; exact ⟨v18, rfl, (k18.mono (Zv.stay hz hs)), trivial⟩, ⟨fun v Z Z' w w' hΦ hz _ _ hs => by obtain ⟨v19, rfl, k19, -⟩ := hΦ; exact ⟨v19, rfl, (k19.mono (Zv.stay hz hs)), trivial⟩, ⟨fun v Z Z' w w' hΦ hz _ _ hs => by obtain ⟨v20, rfl, k20, -⟩ := hΦ; exact ⟨v20, rfl, (k20.mono (Zv.stay hz hs)), trivial⟩, ⟨fun v Z Z' w w' hΦ hz _ _ hs => by obtain ⟨v21, rfl, k21, -⟩ := hΦ; exact ⟨v21, rfl, (k21.mono (Zv.stay hz hs)), trivial⟩, ⟨fun v Z Z' w w' hΦ hz _ _ hs => by obtain ⟨b13, rfl, hO11, -⟩ := hΦ; exact ⟨b13, rfl, (hO11.stay (fun b hb => by cases hb; exact List.mem_cons_self) hs), trivial⟩, trivial⟩⟩⟩⟩⟩⟩⟩⟩
    ·
     intro w34 hE30
     have hL25 := hL24.ext hE30
     have K23 := ke hL24 hE30
     refine DrH.de (fun _ hE31 => GOp.op (OpY.ldBoxA (vs := [(Value.bool a.Negative), a_v]) Tryd.underlying24 rfl ti24 rfl ((hL25.ext hE31).at 1 rfl rfl) rfl rfl (er rfl))) ?_
     refine DrH.rel ?_ ?_
     ·
      rintro w36 Z23 hE32 hZ21 ⟨-⟩
      have K24 := ke hL25 hE32
      refine GOp.op (OpY.call en16 rfl rfl (lcp_w N a a_v _ Any ((((((((((a_h.mono (K4 S)).mono (K9 S)).mono (K10 S)).mono (K16 S)).mono (K17 S)).mono (K21 S)).mono (K22 S)).mono (K23 S)).mono (K24 S)).mono vw_any) r18 q18) ?_)
      rintro _ w37 hE33 ⟨v15, rfl, k15, -⟩
      exact Made.ext hE33 hZ21 NewOwn.nil (fun _ h => h) ⟨v15, rfl, (k15.mono Zv.made), trivial⟩
     intro z1
     refine DrH.de (fun _ hE34 => GOp.op (OpY.ldBoxA (vs := [(Value.bool c.Negative), c_v]) Tryd.underlying24 rfl ti24 rfl ((hL25.ext hE34).at 3 rfl rfl) rfl rfl (er rfl))) ?_
     refine DrH.rel ?_ ?_
     ·
      rintro w39 Z25 hE35 hZ23 ⟨⟨⟨v15, rfl, k15, -⟩, hB1⟩, -⟩
      have K25 := ke hL25 hE35
      refine GOp.op (OpY.call en16 rfl rfl (lcp_w N c c_v _ Any ((((((((((c_h.mono (K4 S)).mono (K9 S)).mono (K10 S)).mono (K16 S)).mono (K17 S)).mono (K21 S)).mono (K22 S)).mono (K23 S)).mono (K25 S)).mono vw_any) r19 q19) ?_)
      rintro _ w40 hE36 ⟨v16, rfl, k16, -⟩
      exact Made.ext hE36 hZ23 NewOwn.nil (fun _ h => h) ⟨v16, rfl, (k16.mono Zv.made), trivial⟩
     intro z3
     refine DrH.rel ?_ ?_
     ·
      rintro w41 Z26 hE37 hZ24 ⟨⟨⟨v16, rfl, k16, -⟩, hB3⟩, ⟨⟨v15, rfl, k15, -⟩, hB1⟩, -⟩
      refine GOp.op (OpY.call en24 rfl rfl (bMul_w N r18 r19 v15 v16 _ Any (k15.mono vw_any) (k16.mono vw_any) r20 q20) ?_)
      rintro _ w42 hE38 ⟨v17, rfl, k17, -⟩
      exact Made.ext hE38 hZ24 NewOwn.nil (fun _ h => h) ⟨v17, rfl, (k17.mono Zv.made), trivial⟩
     intro z4
     refine DrH.de (fun _ hE39 => GOp.op (OpY.ldBoxA (vs := [(Value.bool b.Negative), b_v]) Tryd.underlying24 rfl ti24 rfl ((hL25.ext hE39).at 2 rfl rfl) rfl rfl (er rfl))) ?_
     refine DrH.rel ?_ ?_
     ·
      rintro w44 Z28 hE40 hZ26 ⟨⟨⟨v17, rfl, k17, -⟩, hB4⟩, -, -, -⟩
      have K26 := ke hL25 hE40
      refine GOp.op (OpY.call en16 rfl rfl (lcp_w N b b_v _ Any ((((((((((b_h.mono (K4 S)).mono (K9 S)).mono (K10 S)).mono (K16 S)).mono (K17 S)).mono (K21 S)).mono (K22 S)).mono (K23 S)).mono (K26 S)).mono vw_any) r21 q21) ?_)
      rintro _ w45 hE41 ⟨v18, rfl, k18, -⟩
      exact Made.ext hE41 hZ26 NewOwn.nil (fun _ h => h) ⟨v18, rfl, (k18.mono Zv.made), trivial⟩
     intro z6
     refine DrH.de (fun _ hE42 => GOp.op (OpY.ldBoxA (vs := [(Value.bool c.Negative), c_v]) Tryd.underlying24 rfl ti24 rfl ((hL25.ext hE42).at 3 rfl rfl) rfl rfl (er rfl))) ?_
     refine DrH.rel ?_ ?_
     ·
      rintro w47 Z30 hE43 hZ28 ⟨⟨⟨v18, rfl, k18, -⟩, hB6⟩, -, -, -, -⟩
      have K27 := ke hL25 hE43
      refine GOp.op (OpY.call en16 rfl rfl (lcp_w N c c_v _ Any ((((((((((c_h.mono (K4 S)).mono (K9 S)).mono (K10 S)).mono (K16 S)).mono (K17 S)).mono (K21 S)).mono (K22 S)).mono (K23 S)).mono (K27 S)).mono vw_any) r22 q22) ?_)
      rintro _ w48 hE44 ⟨v19, rfl, k19, -⟩
      exact Made.ext hE44 hZ28 NewOwn.nil (fun _ h => h) ⟨v19, rfl, (k19.mono Zv.made), trivial⟩
     intro z8
     refine DrH.rel ?_ ?_
     ·
      rintro w49 Z31 hE45 hZ29 ⟨⟨⟨v19, rfl, k19, -⟩, hB8⟩, ⟨⟨v18, rfl, k18, -⟩, hB6⟩, -, -, -, -⟩
      refine GOp.op (OpY.call en24 rfl rfl (bMul_w N r21 r22 v18 v19 _ Any (k18.mono vw_any) (k19.mono vw_any) r23 q23) ?_)
      rintro _ w50 hE46 ⟨v20, rfl, k20, -⟩
      exact Made.ext hE46 hZ29 NewOwn.nil (fun _ h => h) ⟨v20, rfl, (k20.mono Zv.made), trivial⟩
     intro z9
     refine DrH.rel ?_ ?_
     ·
      rintro w51 Z32 hE47 hZ30 ⟨⟨⟨v20, rfl, k20, -⟩, hB9⟩, -, -, ⟨⟨v17, rfl, k17, -⟩, hB4⟩, -, -, -⟩
      refine GOp.op (OpY.call en29 rfl rfl (bAdd_w N r20 r23 v17 v20 _ Any (k17.mono vw_any) (k20.mono vw_any) r24 q24) ?_)
      rintro _ w52 hE48 ⟨v21, rfl, k21, -⟩
      exact Made.ext hE48 hZ30 NewOwn.nil (fun _ h => h) ⟨v21, rfl, (k21.mono Zv.made), trivial⟩
     intro z10
     refine DrH.rel ?_ ?_
     ·
      rintro w53 Z33 hE49 hZ31 ⟨-, -, -, -, -, -, -, -⟩
      refine GOp.op (OpY.alloc (cs := [(Value.bool false), (Value.slice none 0 0)]) ti24 rfl (Go.X.Loc.begin0 w53) ?_)
      intro b13 w54 hL30 hS15
      have hN12 : NewOwn w53 w54 [some b13] [Cont.cells [(Value.bool false), (Value.slice none 0 0)]] := hL30.newOwn [0] rfl rfl rfl
      exact Made.ext hL30.done hZ31 hN12 (fun _ h => h) ⟨b13, rfl, hN12.2.2.1, trivial⟩
     intro z11
     refine DrH.fin0 ?_
     rintro w55 Z34 hE50 hZ32 ⟨⟨⟨b13, rfl, hO11, -⟩, hB11⟩, ⟨⟨v21, rfl, k21, -⟩, hB12⟩, ⟨⟨v20, rfl, k20, -⟩, hB9⟩, ⟨⟨v19, rfl, k19, -⟩, hB8⟩, ⟨⟨v18, rfl, k18, -⟩, hB6⟩, ⟨⟨v17, rfl, k17, -⟩, hB4⟩, ⟨⟨v16, rfl, k16, -⟩, hB3⟩, ⟨⟨v15, rfl, k15, -⟩, hB1⟩, -⟩ ap11
     have hB13 : ∀ b, some b ∈ ([some b13] : List (Option Nat)) → w34.heap.size ≤ b ∧ ¬ Z34 b := by
      intro b hb
      rcases List.mem_cons.1 hb with hb' | hb
      ·
       have := hB11 b (by rw [hb']; exact List.mem_cons_self); exact ⟨this.1, this.2.2⟩
      cases hb
     replace k21 := k21.mono (Zv.fin hL25 hZ32 hB13)
     replace k20 := k20.mono (Zv.fin hL25 hZ32 hB13)
     replace k19 := k19.mono (Zv.fin hL25 hZ32 hB13)
     replace k18 := k18.mono (Zv.fin hL25 hZ32 hB13)
     replace k17 := k17.mono (Zv.fin hL25 hZ32 hB13)
     replace k16 := k16.mono (Zv.fin hL25 hZ32 hB13)
     replace k15 := k15.mono (Zv.fin hL25 hZ32 hB13)
     have hN13 : NewOwn w34 w55 [some b13] [Cont.cells [(Value.bool false), (Value.slice none 0 0)]] := (NewOwn.cons NewOwn.nil hO11 (fun b hb => (hB13 b (by rw [← hb]; simp)).1) (fun b _ hb => by cases hb))
     have hp13 := hL25.adoptL hE50 hN13
     have hL31 := hp13.1
     have K28 := ks w hp13.2
     refine Rl.op0 (OpY.store (vs := [(Value.bool r24.Negative), v21]) ti24 rfl rfl rfl rfl (ones_cons rfl (ones_cons k21.one ones_nil)) hL31 0 rfl rfl (Nat.le_of_ble_eq_true rfl) ?_)
     intro w56 (hL32 : Go.X.Loc [] [] w w56 [some b13, some b12, some b1, some b6, some b10] [Cont.cells [(Value.bool r24.Negative), v21], Cont.cells [(Value.bool r17.Negative), v14], Cont.cells [(Value.bool a.Negative), a_v], Cont.cells [(Value.bool b.Negative), b_v], Cont.cells [(Value.bool c.Negative), c_v]]) hS16
     have K29 := ks w hS16
     refine Rl.nil (Swp.seq ?_)
     obtain ⟨r25, q25, h⟩ := bind_some h
     obtain ⟨r26, q26, h⟩ := bind_some h
     obtain ⟨r27, q27, h⟩ := bind_some h
     obtain ⟨r28, q28, h⟩ := bind_some h
     obtain ⟨r29, q29, h⟩ := bind_some h
     obtain ⟨r30, q30, h⟩ := bind_some h
     obtain ⟨r31, q31, h⟩ := bind_some h
     obtain ⟨r32, q32, h⟩ := bind_some h
     obtain ⟨r33, q33, h⟩ := bind_some h
     obtain ⟨r34, q34, h⟩ := bind_some h
     refine Swp.drawL 18 [] [] (fun W1 => [.det (Value.agg #[(Value.bool a.Negative), a_v]), .rel (fun v Z w' => ∃ v22, (Value.agg #[(Value.bool r25.Negative), v22]) = v ∧ Rs (rInt .u32) (Zv W1 w.heap.size None [some b13, some b12, some b1, some b6, some b10] Z w') v22 r25.Digits ∧ True) (fun _ => []), .det (Value.agg #[(Value.bool b.Negative), b_v]), .rel (fun v Z w' => ∃ v23, (Value.agg #[(Value.bool r26.Negative), v23]) = v ∧ Rs (rInt .u32) (Zv W1 w.heap.size None [some b13, some b12, some b1, some b6, some b10] Z w') v23 r26.Digits ∧ True) (fun _ => []), .rel (fun v Z w' => ∃ v24, (Value.agg #[(Value.bool r27.Negative), v24]) = v ∧ Rs (rInt .u32) (Zv W1 w.heap.size None [some b13, some b12, some b1, some b6, some b10] Z w') v24 r27.Digits ∧ True) (fun _ => []), .det (Value.agg #[(Value.bool c.Negative), c_v]), .rel (fun v Z w' => ∃ v25, (Value.agg #[(Value.bool r28.Negative), v25]) = v ∧ Rs (rInt .u32) (Zv W1 w.heap.size None [some b13, some b12, some b1, some b6, some b10] Z w') v25 r28.Digits ∧ True) (fun _ => []), .rel (fun v Z w' => ∃ v26, (Value.agg #[(Value.bool r29.Negative), v26]) = v ∧ Rs (rInt .u32) (Zv W1 w.heap.size None [some b13, some b12, some b1, some b6, some b10] Z w') v26 r29.Digits ∧ True) (fun _ => []), .det (Value.agg #[(Value.bool a.Negative), a_v]), .rel (fun v Z w' => ∃ v27, (Value.agg #[(Value.bool r30.Negative), v27]) = v ∧ Rs (rInt .u32) (Zv W1 w.heap.size None [some b13, some b12, some b1, some b6, some b10] Z w') v27 r30.Digits ∧ True) (fun _ => []), .det (Value.agg #[(Value.bool b.Negative), b_v]), .rel (fun v Z w' => ∃ v28, (Value.agg #[(Value.bool r31.Negative), v28]) = v ∧ Rs (rInt .u32) (Zv W1 w.heap.size None [some b13, some b12, some b1, some b6, some b10] Z w') v28 r31.Digits ∧ True) (fun _ => []), .det (Value.agg #[(Value.bool c.Negative), c_v]), .rel (fun v Z w' => ∃ v29, (Value.agg #[(Value.bool r32.Negative), v29]) = v ∧ Rs (rInt .u32) (Zv W1 w.heap.size None [some b13, some b12, some b1, some b6, some b10] Z w') v29 r32.Digits ∧ True) (fun _ => []), .rel (fun v Z w' => ∃ v30, (Value.agg #[(Value.bool r33.Negative), v30]) = v ∧ Rs (rInt .u32) (Zv W1 w.heap.size None [some b13, some b12, some b1, some b6, some b10] Z w') v30 r33.Digits ∧ True) (fun _ => []), .rel (fun v Z w' => ∃ v31, (Value.agg #[(Value.bool r34.Negative), v31]) = v ∧ Rs (rInt .u32) (Zv W1 w.heap.size None [some b13, some b12, some b1, some b6, some b10] Z w') v31 r34.Digits ∧ True) (fun _ => []), .rel (fun v Z w' => ∃ b14, (Value.pointer (some ⟨b14, 0, none⟩)) = v ∧ OwnC w' (some b14) (Cont.cells [(Value.bool false), (Value.slice none 0 0)]) ∧ True) footV, .rel (fun v Z w' => ∃ b15, (Value.pointer (some ⟨b15, 0, none⟩)) = v ∧ OwnC w' (some b15) (Cont.cells [(Value.bool false), (Value.slice none 0 0)]) ∧ True) footV]) mixed rfl rfl rfl (fun _ => rfl) (fun _ => rfl) ?_ ?_
     ·
      intro W1 _
      exact ⟨fun v Z Z' w w' hΦ hz _ _ hs => by obtain ⟨v22, rfl, k22, -⟩ := hΦ; exact ⟨v22, rfl, (k22.mono (Zv.stay hz hs)), trivial⟩, ⟨fun v Z Z' w w' hΦ hz _ _ hs => by obtain ⟨v23, rfl, k23, -⟩ := hΦ; exact ⟨v23, rfl, (k23.mono (Zv.stay hz hs)), trivial⟩, ⟨fun v Z Z' w w' hΦ hz _ _ hs => by obtain ⟨v24, rfl, k24, -⟩ := hΦ; exact ⟨v24, rfl, (k24.mono (Zv.stay hz hs)), trivial⟩, ⟨fun v Z Z' w w' hΦ hz _ _ hs => by obtain ⟨v25, rfl, k25, -⟩ := hΦ; exact ⟨v25, rfl, (k25.mono (Zv.stay hz hs)), trivial⟩, ⟨fun v Z Z' w w' hΦ hz _ _ hs => by obtain ⟨v26, rfl, k26, -⟩ := hΦ; exact ⟨v26, rfl, (k26.mono (Zv.stay hz hs)), trivial⟩, ⟨fun v Z Z' w w' hΦ hz _ _ hs => by obtain ⟨v27, rfl, k27, -⟩ := hΦ; exact ⟨v27, rfl, (k27.mono (Zv.stay hz hs)), trivial⟩, ⟨fun v Z Z' w w' hΦ hz _ _ hs => by obtain ⟨v28, rfl, k28, -⟩ := hΦ; exact ⟨v28, rfl, (k28.mono (Zv.stay hz hs)), trivial⟩, ⟨fun v Z Z' w w' hΦ hz _ _ hs => by obtain ⟨v29, rfl, k29, -⟩ := hΦ; exact ⟨v29, rfl, (k29.mono (Zv.stay hz hs)), trivial⟩, ⟨fun v Z Z' w w' hΦ hz _ _ hs => by obtain ⟨v30, rfl, k30, -⟩ := hΦ; exact ⟨v30, rfl, (k30.mono (Zv.stay hz hs)), trivial⟩, ⟨fun v Z Z' w w' hΦ hz _ _ hs => by obtain ⟨v31, rfl, k31, -⟩ := hΦ; exact ⟨v31, rfl, (k31.mono (Zv.stay hz hs)), trivial⟩, ⟨fun v Z Z' w w' hΦ hz _ _ hs => by obtain ⟨b14, rfl, hO12, -⟩ := hΦ; exact ⟨b14, rfl, (hO12.stay (fun b hb => by cases hb; exact List.mem_cons_self) hs), trivial⟩, ⟨fun v Z Z' w w' hΦ hz _ _ hs => by obtain ⟨b15, rfl, hO13, -⟩ := hΦ; exact ⟨b15, rfl, (hO13.stay (fun b hb => by cases hb; exact List.mem_cons_self) hs), trivial⟩, trivial⟩⟩⟩⟩⟩⟩⟩⟩⟩⟩⟩⟩
     ·
      intro w57 hE51
      have hL33 := hL32.ext hE51
      have K30 := ke hL32 hE51
      refine DrH.de (fun _ hE52 => GOp.op (OpY.ldBoxA (vs := [(Value.bool a.Negative), a_v]) Tryd.underlying24 rfl ti24 rfl ((hL33.ext hE52).at 2 rfl rfl) rfl rfl (er rfl))) ?_
      refine DrH.rel ?_ ?_
      ·
       rintro w59 Z36 hE53 hZ34 ⟨-⟩
       have K31 := ke hL33 hE53
       refine GOp.op (OpY.call en16 rfl rfl (lcp_w N a a_v _ Any (((((((((((((a_h.mono (K4 S)).mono (K9 S)).mono (K10 S)).mono (K16 S)).mono (K17 S)).mono (K21 S)).mono (K22 S)).mono (K23 S)).mono (K28 S)).mono (K29 S)).mono (K30 S)).mono (K31 S)).mono vw_any) r25 q25) ?_)
       rintro _ w60 hE54 ⟨v22, rfl, k22, -⟩
       exact Made.ext hE54 hZ34 NewOwn.nil (fun _ h => h) ⟨v22, rfl, (k22.mono Zv.made), trivial⟩
      intro z1
      refine DrH.de (fun _ hE55 => GOp.op (OpY.ldBoxA (vs := [(Value.bool b.Negative), b_v]) Tryd.underlying24 rfl ti24 rfl ((hL33.ext hE55).at 3 rfl rfl) rfl rfl (er rfl))) ?_
      refine DrH.rel ?_ ?_
      ·
       rintro w62 Z38 hE56 hZ36 ⟨⟨⟨v22, rfl, k22, -⟩, hB1⟩, -⟩
       have K32 := ke hL33 hE56
       refine GOp.op (OpY.call en16 rfl rfl (lcp_w N b b_v _ Any (((((((((((((b_h.mono (K4 S)).mono (K9 S)).mono (K10 S)).mono (K16 S)).mono (K17 S)).mono (K21 S)).mono (K22 S)).mono (K23 S)).mono (K28 S)).mono (K29 S)).mono (K30 S)).mono (K32 S)).mono vw_any) r26 q26) ?_)
       rintro _ w63 hE57 ⟨v23, rfl, k23, -⟩
       exact Made.ext hE57 hZ36 NewOwn.nil (fun _ h => h) ⟨v23, rfl, (k23.mono Zv.made), trivial⟩
      intro z3
      refine DrH.rel ?_ ?_
      ·
       rintro w64 Z39 hE58 hZ37 ⟨⟨⟨v23, rfl, k23, -⟩, hB3⟩, ⟨⟨v22, rfl, k22, -⟩, hB1⟩, -⟩
       refine GOp.op (OpY.call en29 rfl rfl (bAdd_w N r25 r26 v22 v23 _ Any (k22.mono vw_any) (k23.mono vw_any) r27 q27) ?_)
       rintro _ w65 hE59 ⟨v24, rfl, k24, -⟩
       exact Made.ext hE59 hZ37 NewOwn.nil (fun _ h => h) ⟨v24, rfl, (k24.mono Zv.made), trivial⟩
      intro z4
      refine DrH.de (fun _ hE60 => GOp.op (OpY.ldBoxA (vs := [(Value.bool c.Negative), c_v]) Tryd.underlying24 rfl ti24 rfl ((hL33.ext hE60).at 4 rfl rfl) rfl rfl (er rfl))) ?_
      refine DrH.rel ?_ ?_
      ·
       rintro w67 Z41 hE61 hZ39 ⟨⟨⟨v24, rfl, k24, -⟩, hB4⟩, -, -, -⟩
       have K33 := ke hL33 hE61
       refine GOp.op (OpY.call en16 rfl rfl (lcp_w N c c_v _ Any (((((((((((((c_h.mono (K4 S)).mono (K9 S)).mono (K10 S)).mono (K16 S)).mono (K17 S)).mono (K21 S)).mono (K22 S)).mono (K23 S)).mono (K28 S)).mono (K29 S)).mono (K30 S)).mono (K33 S)).mono vw_any) r28 q28) ?_)
       rintro _ w68 hE62 ⟨v25, rfl, k25, -⟩
       exact Made.ext hE62 hZ39 NewOwn.nil (fun _ h => h) ⟨v25, rfl, (k25.mono Zv.made), trivial⟩
      intro z6
      refine DrH.rel ?_ ?_
      ·
       rintro w69 Z42 hE63 hZ40 ⟨⟨⟨v25, rfl, k25, -⟩, hB6⟩, ⟨⟨v24, rfl, k24, -⟩, hB4⟩, -, -, -⟩
       refine GOp.op (OpY.call en29 rfl rfl (bAdd_w N r27 r28 v24 v25 _ Any (k24.mono vw_any) (k25.mono vw_any) r29 q29) ?_)
       rintro _ w70 hE64 ⟨v26, rfl, k26, -⟩
       exact Made.ext hE64 hZ40 NewOwn.nil (fun _ h => h) ⟨v26, rfl, (k26.mono Zv.made), trivial⟩
      intro z7
      refine DrH.de (fun _ hE65 => GOp.op (OpY.ldBoxA (vs := [(Value.bool a.Negative), a_v]) Tryd.underlying24 rfl ti24 rfl ((hL33.ext hE65).at 2 rfl rfl) rfl rfl (er rfl))) ?_
      refine DrH.rel ?_ ?_
      ·
       rintro w72 Z44 hE66 hZ42 ⟨⟨⟨v26, rfl, k26, -⟩, hB7⟩, -, -, -, -, -⟩
       have K34 := ke hL33 hE66
       refine GOp.op (OpY.call en16 rfl rfl (lcp_w N a a_v _ Any (((((((((((((a_h.mono (K4 S)).mono (K9 S)).mono (K10 S)).mono (K16 S)).mono (K17 S)).mono (K21 S)).mono (K22 S)).mono (K23 S)).mono (K28 S)).mono (K29 S)).mono (K30 S)).mono (K34 S)).mono vw_any) r30 q30) ?_)
       rintro _ w73 hE67 ⟨v27, rfl, k27, -⟩
       exact Made.ext hE67 hZ42 NewOwn.nil (fun _ h => h) ⟨v27, rfl, (k27.mono Zv.made), trivial⟩
      intro z9
      refine DrH.de (fun _ hE68 => GOp.op (OpY.ldBoxA (vs := [(Value.bool b.Negative), b_v]) Tryd.underlying24 rfl ti24 rfl ((hL33.ext hE68).at 3 rfl rfl) rfl rfl (er rfl))) ?_
      refine DrH.rel ?_ ?_
      ·
       rintro w75 Z46 hE69 hZ44 ⟨⟨⟨v27, rfl, k27, -⟩, hB9⟩, -, -, -, -, -, -⟩
       have K35 := ke hL33 hE69
       refine GOp.op (OpY.call en16 rfl rfl (lcp_w N b b_v _ Any (((((((((((((b_h.mono (K4 S)).mono (K9 S)).mono (K10 S)).mono (K16 S)).mono (K17 S)).mono (K21 S)).mono (K22 S)).mono (K23 S)).mono (K28 S)).mono (K29 S)).mono (K30 S)).mono (K35 S)).mono vw_any) r31 q31) ?_)
       rintro _ w76 hE70 ⟨v28, rfl, k28, -⟩
       exact Made.ext hE70 hZ44 NewOwn.nil (fun _ h => h) ⟨v28, rfl, (k28.mono Zv.made), trivial⟩
      intro z11
      refine DrH.de (fun _ hE71 => GOp.op (OpY.ldBoxA (vs := [(Value.bool c.Negative), c_v]) Tryd.underlying24 rfl ti24 rfl ((hL33.ext hE71).at 4 rfl rfl) rfl rfl (er rfl))) ?_
      refine DrH.rel ?_ ?_
      ·
       rintro w78 Z48 hE72 hZ46 ⟨⟨⟨v28, rfl, k28, -⟩, hB11⟩, -, -, -, -, -, -, -⟩
       have K36 := ke hL33 hE72
       refine GOp.op (OpY.call en16 rfl rfl (lcp_w N c c_v _ Any (((((((((((((c_h.mono (K4 S)).mono (K9 S)).mono (K10 S)).mono (K16 S)).mono (K17 S)).mono (K21 S)).mono (K22 S)).mono (K23 S)).mono (K28 S)).mono (K29 S)).mono (K30 S)).mono (K36 S)).mono vw_any) r32 q32) ?_)
       rintro _ w79 hE73 ⟨v29, rfl, k29, -⟩
       exact Made.ext hE73 hZ46 NewOwn.nil (fun _ h => h) ⟨v29, rfl, (k29.mono Zv.made), trivial⟩
      intro z12
      refine DrH.rel ?_ ?_
      ·
       rintro w80 Z49 hE74 hZ47 ⟨⟨⟨v29, rfl, k29, -⟩, hB14⟩, ⟨⟨v28, rfl, k28, -⟩, hB11⟩, -, -, -, -, -, -, -⟩
       refine GOp.op (OpY.call en29 rfl rfl (bAdd_w N r31 r32 v28 v29 _ Any (k28.mono vw_any) (k29.mono vw_any) r33 q33) ?_)
       rintro _ w81 hE75 ⟨v30, rfl, k30, -⟩
       exact Made.ext hE75 hZ47 NewOwn.nil (fun _ h => h) ⟨v30, rfl, (k30.mono Zv.made), trivial⟩
      intro z13
      refine DrH.rel ?_ ?_
      ·
       rintro w82 Z50 hE76 hZ48 ⟨⟨⟨v30, rfl, k30, -⟩, hB15⟩, -, -, ⟨⟨v27, rfl, k27, -⟩, hB9⟩, -, -, -, -, -, -⟩
       refine GOp.op (OpY.call en29 rfl rfl (bAdd_w N r30 r33 v27 v30 _ Any (k27.mono vw_any) (k30.mono vw_any) r34 q34) ?_)
       rintro _ w83 hE77 ⟨v31, rfl, k31, -⟩
       exact Made.ext hE77 hZ48 NewOwn.nil (fun _ h => h) ⟨v31, rfl, (k31.mono Zv.made), trivial⟩
      intro z14
      refine DrH.rel ?_ ?_
      ·
       rintro w84 Z51 hE78 hZ49 ⟨-, -, -, -, -, -, -, -, -, -, -⟩
       refine GOp.op (OpY.alloc (cs := [(Value.bool false), (Value.slice none 0 0)]) ti24 rfl (Go.X.Loc.begin0 w84) ?_)
       intro b14 w85 hL40 hS17
       have hN14 : NewOwn w84 w85 [some b14] [Cont.cells [(Value.bool false), (Value.slice none 0 0)]] := hL40.newOwn [0] rfl rfl rfl
       exact Made.ext hL40.done hZ49 hN14 (fun _ h => h) ⟨b14, rfl, hN14.2.2.1, trivial⟩
      intro z15
      refine DrH.rel ?_ ?_
      ·
       rintro w86 Z52 hE79 hZ50 ⟨-, -, -, -, -, -, -, -, -, -, -, -⟩
       refine GOp.op (OpY.alloc (cs := [(Value.bool false), (Value.slice none 0 0)]) ti24 rfl (Go.X.Loc.begin0 w86) ?_)
       intro b15 w87 hL41 hS18
       have hN15 : NewOwn w86 w87 [some b15] [Cont.cells [(Value.bool false), (Value.slice none 0 0)]] := hL41.newOwn [0] rfl rfl rfl
       exact Made.ext hL41.done hZ50 hN15 (fun _ h => h) ⟨b15, rfl, hN15.2.2.1, trivial⟩
      intro z16
      refine DrH.fin0 ?_
      rintro w88 Z53 hE80 hZ51 ⟨⟨⟨b15, rfl, hO13, -⟩, hB16⟩, ⟨⟨b14, rfl, hO12, -⟩, hB17⟩, ⟨⟨v31, rfl, k31, -⟩, hB18⟩, ⟨⟨v30, rfl, k30, -⟩, hB15⟩, ⟨⟨v29, rfl, k29, -⟩, hB14⟩, ⟨⟨v28, rfl, k28, -⟩, hB11⟩, ⟨⟨v27, rfl, k27, -⟩, hB9⟩, ⟨⟨v26, rfl, k26, -⟩, hB7⟩, ⟨⟨v25, rfl, k25, -⟩, hB6⟩, ⟨⟨v24, rfl, k24, -⟩, hB4⟩, ⟨⟨v23, rfl, k23, -⟩, hB3⟩, ⟨⟨v22, rfl, k22, -⟩, hB1⟩, -⟩ ap12
      have hB19 : ∀ b, some b ∈ ([some b15, some b14] : List (Option Nat)) → w57.heap.size ≤ b ∧ ¬ Z53 b := by
       intro b hb
       rcases List.mem_cons.1 hb with hb' | hb
       ·
        have := hB16 b (by rw [hb']; exact List.mem_cons_self); exact ⟨this.1, this.2.2⟩
       rcases List.mem_cons.1 hb with hb' | hb
       ·
        have := hB17 b (by rw [hb']; exact List.mem_cons_self); exact ⟨this.1, this.2.2⟩
       cases hb
      replace k31 := k31.mono (Zv.fin hL33 hZ51 hB19)
      replace k30 := k30.mono (Zv.fin hL33 hZ51 hB19)
      replace k29 := k29.mono (Zv.fin hL33 hZ51 hB19)
      replace k28 := k28.mono (Zv.fin hL33 hZ51 hB19)
      replace k27 := k27.mono (Zv.fin hL33 hZ51 hB19)
      replace k26 := k26.mono (Zv.fin hL33 hZ51 hB19)
      replace k25 := k25.mono (Zv.fin hL33 hZ51 hB19)
      replace k24 := k24.mono (Zv.fin hL33 hZ51 hB19)
      replace k23 := k23.mono (Zv.fin hL33 hZ51 hB19)
      replace k22 := k22.mono (Zv.fin hL33 hZ51 hB19)
      have hN16 : NewOwn w57 w88 [some b15, some b14] [Cont.cells [(Value.bool false), (Value.slice none 0 0)], Cont.cells [(Value.bool false), (Value.slice none 0 0)]] := (NewOwn.cons (NewOwn.cons NewOwn.nil hO12 (fun b hb => (hB19 b (by rw [← hb]; simp)).1) (fun b _ hb => by cases hb)) hO13 (fun b hb => (hB19 b (by rw [← hb]; simp)).1) (fun b hb hm => (List.mem_cons.1 hm).elim (fun e => apE (ap12.1) rfl rfl b (hb) ((by rw [e]; exact List.mem_cons_self))) (fun hm => by cases hm)))
      have hp14 := hL33.adoptL hE80 hN16
      have hL42 := hp14.1
      have K37 := ks w hp14.2
      refine Rl.op0 (OpY.store (vs := [(Value.bool r29.Negative), v26]) ti24 rfl rfl rfl rfl (ones_cons rfl (ones_cons k26.one ones_nil)) hL42 1 rfl rfl (Nat.le_of_ble_eq_true rfl) ?_)
      intro w89 (hL43 : Go.X.Loc [] [] w w89 [some b15, some b14, some b13, some b12, some b1, some b6, some b10] [Cont.cells [(Value.bool false), (Value.slice none 0 0)], Cont.cells [(Value.bool r29.Negative), v26], Cont.cells [(Value.bool r24.Negative), v21], Cont.cells [(Value.bool r17.Negative), v14], Cont.cells [(Value.bool a.Negative), a_v], Cont.cells [(Value.bool b.Negative), b_v], Cont.cells [(Value.bool c.Negative), c_v]]) hS19
      have K38 := ks w hS19
      have f14 := (k31.mono (K38 None))
      refine Rl.op0 (OpY.store (vs := [(Value.bool r34.Negative), v31]) ti24 rfl rfl rfl rfl (ones_cons rfl (ones_cons f14.one ones_nil)) hL43 0 rfl rfl (Nat.le_of_ble_eq_true rfl) ?_)
      intro w90 (hL44 : Go.X.Loc [] [] w w90 [some b15, some b14, some b13, some b12, some b1, some b6, some b10] [Cont.cells [(Value.bool r34.Negative), v31], Cont.cells [(Value.bool r29.Negative), v26], Cont.cells [(Value.bool r24.Negative), v21], Cont.cells [(Value.bool r17.Negative), v14], Cont.cells [(Value.bool a.Negative), a_v], Cont.cells [(Value.bool b.Negative), b_v], Cont.cells [(Value.bool c.Negative), c_v]]) hS20
      have K39 := ks w hS20
      refine Rl.nil (Swp.seq ?_)
      obtain ⟨r35, q35, h⟩ := bind_some h
      obtain ⟨r36, q36, h⟩ := bind_some h
      obtain ⟨r37, q37, h⟩ := bind_some h
      obtain ⟨r38, q38, h⟩ := bind_some h
      obtain ⟨r39, q39, h⟩ := bind_some h
      obtain ⟨r40, q40, h⟩ := bind_some h
      obtain ⟨r41, q41, h⟩ := bind_some h
      obtain ⟨r42, q42, h⟩ := bind_some h
      obtain ⟨r43, q43, h⟩ := bind_some h
      obtain ⟨r44, q44, h⟩ := bind_some h
      refine Swp.drawL 18 [] [] (fun W1 => [.det (Value.agg #[(Value.bool a.Negative), a_v]), .rel (fun v Z w' => ∃ v32, (Value.agg #[(Value.bool r35.Negative), v32]) = v ∧ Rs (rInt .u32) (Zv W1 w.heap.size None [some b15, some b14, some b13, some b12, some b1, some b6, some b10] Z w') v32 r35.Digits ∧ True) (fun _ => []), .det (Value.agg #[(Value.bool b.Negative), b_v]), .rel (fun v Z w' => ∃ v33, (Value.agg #[(Value.bool r36.Negative), v33]) = v ∧ Rs (rInt .u32) (Zv W1 w.heap.size None [some b15, some b14, some b13, some b12, some b1, some b6, some b10] Z w') v33 r36.Digits ∧ True) (fun _ => []), .rel (fun v Z w' => ∃ v34, (Value.agg #[(Value.bool r37.Negative), v34]) = v ∧ Rs (rInt .u32) (Zv W1 w.heap.size None [some b15, some b14, some b13, some b12, some b1, some b6, some b10] Z w') v34 r37.Digits ∧ True) (fun _ => []), .det (Value.agg #[(Value.bool c.Negative), c_v]), .rel (fun v Z w' => ∃ v35, (Value.agg #[(Value.bool r38.Negative), v35]) = v ∧ Rs (rInt .u32) (Zv W1 w.heap.size None [some b15, some b14, some b13, some b12, some b1, some b6, some b10] Z w') v35 r38.Digits ∧ True) (fun _ => []), .rel (fun v Z w' => ∃ v36, (Value.agg #[(Value.bool r39.Negative), v36]) = v ∧ Rs (rInt .u32) (Zv W1 w.heap.size None [some b15, some b14, some b13, some b12, some b1, some b6, some b10] Z w') v36 r39.Digits ∧ True) (fun _ => []), .det (Value.agg #[(Value.bool a.Negative), a_v]), .rel (fun v Z w' => ∃ v37, (Value.agg #[(Value.bool r40.Negative), v37]) = v ∧ Rs (rInt .u32) (Zv W1 w.heap.size None [some b15, some b14, some b13, some b12, some b1, some b6, some b10] Z w') v37 r40.Digits ∧ True) (fun _ => []), .det (Value.agg #[(Value.bool b.Negative), b_v]), .rel (fun v Z w' => ∃ v38, (Value.agg #[(Value.bool r41.Negative), v38]) = v ∧ Rs (rInt .u32) (Zv W1 w.heap.size None [some b15, some b14, some b13, some b12, some b1, some b6, some b10] Z w') v38 r41.Digits ∧ True) (fun _ => []), .det (Value.agg #[(Value.bool c.Negative), c_v]), .rel (fun v Z w' => ∃ v39, (Value.agg #[(Value.bool r42.Negative), v39]) = v ∧ Rs (rInt .u32) (Zv W1 w.heap.size None [some b15, some b14, some b13, some b12, some b1, some b6, some b10] Z w') v39 r42.Digits ∧ True) (fun _ => []), .rel (fun v Z w' => ∃ v40, (Value.agg #[(Value.bool r43.Negative), v40]) = v ∧ Rs (rInt .u32) (Zv W1 w.heap.size None [some b15, some b14, some b13, some b12, some b1, some b6, some b10] Z w') v40 r43.Digits ∧ True) (fun _ => []), .rel (fun v Z w' => ∃ v41, (Value.agg #[(Value.bool r44.Negative), v41]) = v ∧ Rs (rInt .u32) (Zv W1 w.heap.size None [some b15, some b14, some b13, some b12, some b1, some b6, some b10] Z w') v41 r44.Digits ∧ True) (fun _ => []), .rel (fun v Z w' => ∃ b16, (Value.pointer (some ⟨b16, 0, none⟩)) = v ∧ OwnC w' (some b16) (Cont.cells [(Value.bool false), (Value.slice none 0 0)]) ∧ True) footV, .rel (fun v Z w' => ∃ b17, (Value.pointer (some ⟨b17, 0, none⟩)) = v ∧ OwnC w' (some b17) (Cont.cells [(Value.bool false), (Value.slice none 0 0)]) ∧ True) footV]) mixed rfl rfl rfl (fun _ => rfl) (fun _ => rfl) ?_ ?_
      ·
       intro W1 _
       exact ⟨fun v Z Z' w w' hΦ hz _ _ hs => by obtain ⟨v32, rfl, k32, -⟩ := hΦ; exact ⟨v32, rfl, (k32.mono (Zv.stay hz hs)), trivial⟩, ⟨fun v Z Z' w w' hΦ hz _ _ hs => by obtain ⟨v33, rfl, k33, -⟩ := hΦ; exact ⟨v33, rfl, (k33.mono (Zv.stay hz hs)), trivial⟩, ⟨fun v Z Z' w w' hΦ hz _ _ hs => by obtain ⟨v34, rfl, k34, -⟩ := hΦ; exact ⟨v34, rfl, (k34.mono (Zv.stay hz hs)), trivial⟩, ⟨fun v Z Z' w w' hΦ hz _ _ hs => by obtain ⟨v35, rfl, k35, -⟩ := hΦ; exact ⟨v35, rfl, (k35.mono (Zv.stay hz hs)), trivial⟩, ⟨fun v Z Z' w w' hΦ hz _ _ hs => by obtain ⟨v36, rfl, k36, -⟩ := hΦ; exact ⟨v36, rfl, (k36.mono (Zv.stay hz hs)), trivial⟩, ⟨fun v Z Z' w w' hΦ hz _ _ hs => by obtain ⟨v37, rfl, k37, -⟩ := hΦ; exact ⟨v37, rfl, (k37.mono (Zv.stay hz hs)), trivial⟩, ⟨fun v Z Z' w w' hΦ hz _ _ hs => by obtain ⟨v38, rfl, k38, -⟩ := hΦ; exact ⟨v38, rfl, (k38.mono (Zv.stay hz hs)), trivial⟩, ⟨fun v Z Z' w w' hΦ hz _ _ hs => by obtain ⟨v39, rfl, k39, -⟩ := hΦ; exact ⟨v39, rfl, (k39.mono (Zv.stay hz hs)), trivial⟩, ⟨fun v Z Z' w w' hΦ hz _ _ hs => by obtain ⟨v40, rfl, k40, -⟩ := hΦ; exact ⟨v40, rfl, (k40.mono (Zv.stay hz hs)), trivial⟩, ⟨fun v Z Z' w w' hΦ hz _ _ hs => by obtain ⟨v41, rfl, k41, -⟩ := hΦ; exact ⟨v41, rfl, (k41.mono (Zv.stay hz hs)), trivial⟩, ⟨fun v Z Z' w w' hΦ hz _ _ hs => by obtain ⟨b16, rfl, hO14, -⟩ := hΦ; exact ⟨b16, rfl, (hO14.stay (fun b hb => by cases hb; exact List.mem_cons_self) hs), trivial⟩, ⟨fun v Z Z' w w' hΦ hz _ _ hs => by obtain ⟨b17, rfl, hO15, -⟩ := hΦ; exact ⟨b17, rfl, (hO15.stay (fun b hb => by cases hb; exact List.mem_cons_self) hs), trivial⟩, trivial⟩⟩⟩⟩⟩⟩⟩⟩⟩⟩⟩⟩
      ·
       intro w91 hE81
       have hL45 := hL44.ext hE81
       have K40 := ke hL44 hE81
       refine DrH.de (fun _ hE82 => GOp.op (OpY.ldBoxA (vs := [(Value.bool a.Negative), a_v]) Tryd.underlying24 rfl ti24 rfl ((hL45.ext hE82).at 4 rfl rfl) rfl rfl (er rfl))) ?_
       refine DrH.rel ?_ ?_
       ·
        rintro w93 Z55 hE83 hZ53 ⟨-⟩
        have K41 := ke hL45 hE83
        refine GOp.op (OpY.call en16 rfl rfl (lcp_w N a a_v _ Any (((((((((((((((((a_h.mono (K4 S)).mono (K9 S)).mono (K10 S)).mono (K16 S)).mono (K17 S)).mono (K21 S)).mono (K22 S)).mono (K23 S)).mono (K28 S)).mono (K29 S)).mono (K30 S)).mono (K37 S)).mono (K38 S)).mono (K39 S)).mono (K40 S)).mono (K41 S)).mono vw_any) r35 q35) ?_)
        rintro _ w94 hE84 ⟨v32, rfl, k32, -⟩
        exact Made.ext hE84 hZ53 NewOwn.nil (fun _ h => h) ⟨v32, rfl, (k32.mono Zv.made), trivial⟩
       intro z1
       refine DrH.de (fun _ hE85 => GOp.op (OpY.ldBoxA (vs := [(Value.bool b.Negative), b_v]) Tryd.underlying24 rfl ti24 rfl ((hL45.ext hE85).at 5 rfl rfl) rfl rfl (er rfl))) ?_
       refine DrH.rel ?_ ?_
       ·
        rintro w96 Z57 hE86 hZ55 ⟨⟨⟨v32, rfl, k32, -⟩, hB1⟩, -⟩
        have K42 := ke hL45 hE86
        refine GOp.op (OpY.call en16 rfl rfl (lcp_w N b b_v _ Any (((((((((((((((((b_h.mono (K4 S)).mono (K9 S)).mono (K10 S)).mono (K16 S)).mono (K17 S)).mono (K21 S)).mono (K22 S)).mono (K23 S)).mono (K28 S)).mono (K29 S)).mono (K30 S)).mono (K37 S)).mono (K38 S)).mono (K39 S)).mono (K40 S)).mono (K42 S)).mono vw_any) r36 q36) ?_)
        rintro _ w97 hE87 ⟨v33, rfl, k33, -⟩
        exact Made.ext hE87 hZ55 NewOwn.nil (fun _ h => h) ⟨v33, rfl, (k33.mono Zv.made), trivial⟩
       intro z3
       refine DrH.rel ?_ ?_
       ·
        rintro w98 Z58 hE88 hZ56 ⟨⟨⟨v33, rfl, k33, -⟩, hB3⟩, ⟨⟨v32, rfl, k32, -⟩, hB1⟩, -⟩
        refine GOp.op (OpY.call en24 rfl rfl (bMul_w N r35 r36 v32 v33 _ Any (k32.mono vw_any) (k33.mono vw_any) r37 q37) ?_)
        rintro _ w99 hE89 ⟨v34, rfl, k34, -⟩
        exact Made.ext hE89 hZ56 NewOwn.nil (fun _ h => h) ⟨v34, rfl, (k34.mono Zv.made), trivial⟩
       intro z4
       refine DrH.de (fun _ hE90 => GOp.op (OpY.ldBoxA (vs := [(Value.bool c.Negative), c_v]) Tryd.underlying24 rfl ti24 rfl ((hL45.ext hE90).at 6 rfl rfl) rfl rfl (er rfl))) ?_
       refine DrH.rel ?_ ?_
       ·
        rintro w101 Z60 hE91 hZ58 ⟨⟨⟨v34, rfl, k34, -⟩, hB4⟩, -, -, -⟩
        have K43 := ke hL45 hE91
        refine GOp.op (OpY.call en16 rfl rfl (lcp_w N c c_v _ Any (((((((((((((((((c_h.mono (K4 S)).mono (K9 S)).mono (K10 S)).mono (K16 S)).mono (K17 S)).mono (K21 S)).mono (K22 S)).mono (K23 S)).mono (K28 S)).mono (K29 S)).mono (K30 S)).mono (K37 S)).mono (K38 S)).mono (K39 S)).mono (K40 S)).mono (K43 S)).mono vw_any) r38 q38) ?_)
        rintro _ w102 hE92 ⟨v35, rfl, k35, -⟩
        exact Made.ext hE92 hZ58 NewOwn.nil (fun _ h => h) ⟨v35, rfl, (k35.mono Zv.made), trivial⟩
       intro z6
       refine DrH.rel ?_ ?_
       ·
        rintro w103 Z61 hE93 hZ59 ⟨⟨⟨v35, rfl, k35, -⟩, hB6⟩, ⟨⟨v34, rfl, k34, -⟩, hB4⟩, -, -, -⟩
        refine GOp.op (OpY.call en24 rfl rfl (bMul_w N r37 r38 v34 v35 _ Any (k34.mono vw_any) (k35.mono vw_any) r39 q39) ?_)
        rintro _ w104 hE94 ⟨v36, rfl, k36, -⟩
        exact Made.ext hE94 hZ59 NewOwn.nil (fun _ h => h) ⟨v36, rfl, (k36.mono Zv.made), trivial⟩
       intro z7
       refine DrH.de (fun _ hE95 => GOp.op (OpY.ldBoxA (vs := [(Value.bool a.Negative), a_v]) Tryd.underlying24 rfl ti24 rfl ((hL45.ext hE95).at 4 rfl rfl) rfl rfl (er rfl))) ?_
       refine DrH.rel ?_ ?_
       ·
        rintro w106 Z63 hE96 hZ61 ⟨⟨⟨v36, rfl, k36, -⟩, hB7⟩, -, -, -, -, -⟩
        have K44 := ke hL45 hE96
        refine GOp.op (OpY.call en16 rfl rfl (lcp_w N a a_v _ Any (((((((((((((((((a_h.mono (K4 S)).mono (K9 S)).mono (K10 S)).mono (K16 S)).mono (K17 S)).mono (K21 S)).mono (K22 S)).mono (K23 S)).mono (K28 S)).mono (K29 S)).mono (K30 S)).mono (K37 S)).mono (K38 S)).mono (K39 S)).mono (K40 S)).mono (K44 S)).mono vw_any) r40 q40) ?_)
        rintro _ w107 hE97 ⟨v37, rfl, k37, -⟩
        exact Made.ext hE97 hZ61 NewOwn.nil (fun _ h => h) ⟨v37, rfl, (k37.mono Zv.made), trivial⟩
       intro z9
       refine DrH.de (fun _ hE98 => GOp.op (OpY.ldBoxA (vs := [(Value.bool b.Negative), b_v]) Tryd.underlying24 rfl ti24 rfl ((hL45.ext hE98).at 5 rfl rfl) rfl rfl (er rfl))) ?_
       refine DrH.rel ?_ ?_
       ·
        rintro w109 Z65 hE99 hZ63 ⟨⟨⟨v37, rfl, k37, -⟩, hB9⟩, -, -, -, -, -, -⟩
        have K45 := ke hL45 hE99
        refine GOp.op (OpY.call en16 rfl rfl (lcp_w N b b_v _ Any (((((((((((((((((b_h.mono (K4 S)).mono (K9 S)).mono (K10 S)).mono (K16 S)).mono (K17 S)).mono (K21 S)).mono (K22 S)).mono (K23 S)).mono (K28 S)).mono (K29 S)).mono (K30 S)).mono (K37 S)).mono (K38 S)).mono (K39 S)).mono (K40 S)).mono (K45 S)).mono vw_any) r41 q41) ?_)
        rintro _ w110 hE100 ⟨v38, rfl, k38, -⟩
        exact Made.ext hE100 hZ63 NewOwn.nil (fun _ h => h) ⟨v38, rfl, (k38.mono Zv.made), trivial⟩
       intro z11
       refine DrH.de (fun _ hE101 => GOp.op (OpY.ldBoxA (vs := [(Value.bool c.Negative), c_v]) Tryd.underlying24 rfl ti24 rfl ((hL45.ext hE101).at 6 rfl rfl) rfl rfl (er rfl))) ?_
       refine DrH.rel ?_ ?_
       ·
        rintro w112 Z67 hE102 hZ65 ⟨⟨⟨v38, rfl, k38, -⟩, hB11⟩, -, -, -, -, -, -, -⟩
        have K46 := ke hL45 hE102
        refine GOp.op (OpY.call en16 rfl rfl (lcp_w N c c_v _ Any (((((((((((((((((c_h.mono (K4 S)).mono (K9 S)).mono (K10 S)).mono (K16 S)).mono (K17 S)).mono (K21 S)).mono (K22 S)).mono (K23 S)).mono (K28 S)).mono (K29 S)).mono (K30 S)).mono (K37 S)).mono (K38 S)).mono (K39 S)).mono (K40 S)).mono (K46 S)).mono vw_any) r42 q42) ?_)
        rintro _ w113 hE103 ⟨v39, rfl, k39, -⟩
        exact Made.ext hE103 hZ65 NewOwn.nil (fun _ h => h) ⟨v39, rfl, (k39.mono Zv.made), trivial⟩
       intro z12
       refine DrH.rel ?_ ?_
       ·
        rintro w114 Z68 hE104 hZ66 ⟨⟨⟨v39, rfl, k39, -⟩, hB14⟩, ⟨⟨v38, rfl, k38, -⟩, hB11⟩, -, -, -, -, -, -, -⟩
        refine GOp.op (OpY.call en24 rfl rfl (bMul_w N r41 r42 v38 v39 _ Any (k38.mono vw_any) (k39.mono vw_any) r43 q43) ?_)
        rintro _ w115 hE105 ⟨v40, rfl, k40, -⟩
        exact Made.ext hE105 hZ66 NewOwn.nil (fun _ h => h) ⟨v40, rfl, (k40.mono Zv.made), trivial⟩
       intro z13
       refine DrH.rel ?_ ?_
       ·
        rintro w116 Z69 hE106 hZ67 ⟨⟨⟨v40, rfl, k40, -⟩, hB15⟩, -, -, ⟨⟨v37, rfl, k37, -⟩, hB9⟩, -, -, -, -, -, -⟩
        refine GOp.op (OpY.call en24 rfl rfl (bMul_w N r40 r43 v37 v40 _ Any (k37.mono vw_any) (k40.mono vw_any) r44 q44) ?_)
        rintro _ w117 hE107 ⟨v41, rfl, k41, -⟩
        exact Made.ext hE107 hZ67 NewOwn.nil (fun _ h => h) ⟨v41, rfl, (k41.mono Zv.made), trivial⟩
       intro z14
       refine DrH.rel ?_ ?_
       ·
        rintro w118 Z70 hE108 hZ68 ⟨-, -, -, -, -, -, -, -, -, -, -⟩
        refine GOp.op (OpY.alloc (cs := [(Value.bool false), (Value.slice none 0 0)]) ti24 rfl (Go.X.Loc.begin0 w118) ?_)
        intro b16 w119 hL52 hS21
        have hN17 : NewOwn w118 w119 [some b16] [Cont.cells [(Value.bool false), (Value.slice none 0 0)]] := hL52.newOwn [0] rfl rfl rfl
        exact Made.ext hL52.done hZ68 hN17 (fun _ h => h) ⟨b16, rfl, hN17.2.2.1, trivial⟩
       intro z15
       refine DrH.rel ?_ ?_
       ·
        rintro w120 Z71 hE109 hZ69 ⟨-, -, -, -, -, -, -, -, -, -, -, -⟩
        refine GOp.op (OpY.alloc (cs := [(Value.bool false), (Value.slice none 0 0)]) ti24 rfl (Go.X.Loc.begin0 w120) ?_)
        intro b17 w121 hL53 hS22
        have hN18 : NewOwn w120 w121 [some b17] [Cont.cells [(Value.bool false), (Value.slice none 0 0)]] := hL53.newOwn [0] rfl rfl rfl
        exact Made.ext hL53.done hZ69 hN18 (fun _ h => h) ⟨b17, rfl, hN18.2.2.1, trivial⟩
       intro z16
       refine DrH.fin0 ?_
       rintro w122 Z72 hE110 hZ70 ⟨⟨⟨b17, rfl, hO15, -⟩, hB16⟩, ⟨⟨b16, rfl, hO14, -⟩, hB17⟩, ⟨⟨v41, rfl, k41, -⟩, hB18⟩, ⟨⟨v40, rfl, k40, -⟩, hB15⟩, ⟨⟨v39, rfl, k39, -⟩, hB14⟩, ⟨⟨v38, rfl, k38, -⟩, hB11⟩, ⟨⟨v37, rfl, k37, -⟩, hB9⟩, ⟨⟨v36, rfl, k36, -⟩, hB7⟩, ⟨⟨v35, rfl, k35, -⟩, hB6⟩, ⟨⟨v34, rfl, k34, -⟩, hB4⟩, ⟨⟨v33, rfl, k33, -⟩, hB3⟩, ⟨⟨v32, rfl, k32, -⟩, hB1⟩, -⟩ ap13
       have hB20 : ∀ b, some b ∈ ([some b17, some b16] : List (Option Nat)) → w91.heap.size ≤ b ∧ ¬ Z72 b := by
        intro b hb
        rcases List.mem_cons.1 hb with hb' | hb
        ·
         have := hB16 b (by rw [hb']; exact List.mem_cons_self); exact ⟨this.1, this.2.2⟩
        rcases List.mem_cons.1 hb with hb' | hb
        ·
         have := hB17 b (by rw [hb']; exact List.mem_cons_self); exact ⟨this.1, this.2.2⟩
        cases hb
       replace k41 := k41.mono (Zv.fin hL45 hZ70 hB20)
       replace k40 := k40.mono (Zv.fin hL45 hZ70 hB20)
       replace k39 := k39.mono (Zv.fin hL45 hZ70 hB20)
       replace k38 := k38.mono (Zv.fin hL45 hZ70 hB20)
       replace k37 := k37.mono (Zv.fin hL45 hZ70 hB20)
       replace k36 := k36.mono (Zv.fin hL45 hZ70 hB20)
       replace k35 := k35.mono (Zv.fin hL45 hZ70 hB20)
       replace k34 := k34.mono (Zv.fin hL45 hZ70 hB20)
       replace k33 := k33.mono (Zv.fin hL45 hZ70 hB20)
       replace k32 := k32.mono (Zv.fin hL45 hZ70 hB20)
       have hN19 : NewOwn w91 w122 [some b17, some b16] [Cont.cells [(Value.bool false), (Value.slice none 0 0)], Cont.cells [(Value.bool false), (Value.slice none 0 0)]] := (NewOwn.cons (NewOwn.cons NewOwn.nil hO14 (fun b hb => (hB20 b (by rw [← hb]; simp)).1) (fun b _ hb => by cases hb)) hO15 (fun b hb => (hB20 b (by rw [← hb]; simp)).1) (fun b hb hm => (List.mem_cons.1 hm).elim (fun e => apE (ap13.1) rfl rfl b (hb) ((by rw [e]; exact List.mem_cons_self))) (fun hm => by cases hm)))
       have hp15 := hL45.adoptL hE110 hN19
       have hL54 := hp15.1
       have K47 := ks w hp15.2
       refine Rl.op0 (OpY.store (vs := [(Value.bool r39.Negative), v36]) ti24 rfl rfl rfl rfl (ones_cons rfl (ones_cons k36.one ones_nil)) hL54 1 rfl rfl (Nat.le_of_ble_eq_true rfl) ?_)
       intro w123 (hL55 : Go.X.Loc [] [] w w123 [some b17, some b16, some b15, some b14, some b13, some b12, some b1, some b6, some b10] [Cont.cells [(Value.bool false), (Value.slice none 0 0)], Cont.cells [(Value.bool r39.Negative), v36], Cont.cells [(Value.bool r34.Negative), v31], Cont.cells [(Value.bool r29.Negative), v26], Cont.cells [(Value.bool r24.Negative), v21], Cont.cells [(Value.bool r17.Negative), v14], Cont.cells [(Value.bool a.Negative), a_v], Cont.cells [(Value.bool b.Negative), b_v], Cont.cells [(Value.bool c.Negative), c_v]]) hS23
       have K48 := ks w hS23
       have f15 := (k41.mono (K48 None))
       refine Rl.op0 (OpY.store (vs := [(Value.bool r44.Negative), v41]) ti24 rfl rfl rfl rfl (ones_cons rfl (ones_cons f15.one ones_nil)) hL55 0 rfl rfl (Nat.le_of_ble_eq_true rfl) ?_)
       intro w124 (hL56 : Go.X.Loc [] [] w w124 [some b17, some b16, some b15, some b14, some b13, some b12, some b1, some b6, some b10] [Cont.cells [(Value.bool r44.Negative), v41], Cont.cells [(Value.bool r39.Negative), v36], Cont.cells [(Value.bool r34.Negative), v31], Cont.cells [(Value.bool r29.Negative), v26], Cont.cells [(Value.bool r24.Negative), v21], Cont.cells [(Value.bool r17.Negative), v14], Cont.cells [(Value.bool a.Negative), a_v], Cont.cells [(Value.bool b.Negative), b_v], Cont.cells [(Value.bool c.Negative), c_v]]) hS24
       have K49 := ks w hS24
       refine Rl.nil (Swp.seq ?_)
       obtain ⟨r45, q45, h⟩ := bind_some h
       by_cases hc13 : r45 = true
       ·
        replace h := ite_t hc13 h
        obtain ⟨r46, q46, h⟩ := bind_some h
        by_cases hc14 : r46 = true
        ·
         replace h := ite_t hc14 h
         obtain ⟨r47, q47, h⟩ := bind_some h
         by_cases hc15 : r47 = true
         ·
          replace h := ite_t hc15 h
          obtain ⟨r48, q48, h⟩ := bind_some h
          obtain ⟨r49, q49, h⟩ := bind_some h
          obtain ⟨r50, q50, h⟩ := bind_some h
          obtain ⟨r51, q51, h⟩ := bind_some h
          refine Swp.drawL 22 [] [] (fun W1 => [.det (Value.agg #[(Value.bool r17.Negative), v14]), .det (Value.agg #[(Value.bool r24.Negative), v21]), .det (Value.bool r45), .det (Value.bool r45), .det (Value.agg #[(Value.bool r29.Negative), v26]), .det (Value.agg #[(Value.bool r34.Negative), v31]), .det (Value.bool r46), .det (Value.bool r46), .det (Value.bool r46), .det (Value.agg #[(Value.bool r39.Negative), v36]), .det (Value.agg #[(Value.bool r44.Negative), v41]), .det (Value.bool r47), .det (Value.bool r47), .det (Value.bool r47), .det (Value.agg #[(Value.bool a.Negative), a_v]), .rel (fun v Z w' => ∃ v42, (Value.agg #[(Value.bool r48.Negative), v42]) = v ∧ Rs (rInt .u32) (Zv W1 w.heap.size None [some b17, some b16, some b15, some b14, some b13, some b12, some b1, some b6, some b10] Z w') v42 r48.Digits ∧ True) (fun _ => []), .det (Value.agg #[(Value.bool b.Negative), b_v]), .rel (fun v Z w' => ∃ v43, (Value.agg #[(Value.bool r49.Negative), v43]) = v ∧ Rs (rInt .u32) (Zv W1 w.heap.size None [some b17, some b16, some b15, some b14, some b13, some b12, some b1, some b6, some b10] Z w') v43 r49.Digits ∧ True) (fun _ => []), .rel (fun v Z w' => ∃ v44, (Value.agg #[(Value.bool r50.Negative), v44]) = v ∧ Rs (rInt .u32) (Zv W1 w.heap.size None [some b17, some b16, some b15, some b14, some b13, some b12, some b1, some b6, some b10] Z w') v44 r50.Digits ∧ True) (fun _ => []), .det (Value.agg #[(Value.bool b.Negative), b_v]), .rel (fun v Z w' => ∃ v45, (Value.agg #[(Value.bool r51.Negative), v45]) = v ∧ Rs (rInt .u32) (Zv W1 w.heap.size None [some b17, some b16, some b15, some b14, some b13, some b12, some b1, some b6, some b10] Z w') v45 r51.Digits ∧ True) (fun _ => []), .det (Value.agg #[(Value.bool a.Negative), a_v])]) mixed rfl rfl rfl (fun _ => rfl) (fun _ => rfl) ?_ ?_
          ·
           intro W1 _
           exact ⟨fun v Z Z' w w' hΦ hz _ _ hs => by obtain ⟨v42, rfl, k42, -⟩ := hΦ; exact ⟨v42, rfl, (k42.mono (Zv.stay hz hs)), trivial⟩, ⟨fun v Z Z' w w' hΦ hz _ _ hs => by obtain ⟨v43, rfl, k43, -⟩ := hΦ; exact ⟨v43, rfl, (k43.mono (Zv.stay hz hs)), trivial⟩, ⟨fun v Z Z' w w' hΦ hz _ _ hs => by obtain ⟨v44, rfl, k44, -⟩ := hΦ; exact ⟨v44, rfl, (k44.mono (Zv.stay hz hs)), trivial⟩, ⟨fun v Z Z' w w' hΦ hz _ _ hs => by obtain ⟨v45, rfl, k45, -⟩ := hΦ; exact ⟨v45, rfl, (k45.mono (Zv.stay hz hs)), trivial⟩, trivial⟩⟩⟩⟩
          ·
           intro w125 hE111
           have hL57 := hL56.ext hE111
           have K50 := ke hL56 hE111
           refine DrH.de (fun _ hE112 => GOp.op (OpY.ldBoxA (vs := [(Value.bool r17.Negative), v14]) Tryd.underlying24 rfl ti24 rfl ((hL57.ext hE112).at 5 rfl rfl) rfl rfl (er rfl))) ?_
           refine DrH.de (fun _ hE113 => GOp.op (OpY.ldBoxA (vs := [(Value.bool r24.Negative), v21]) Tryd.underlying24 rfl ti24 rfl ((hL57.ext hE113).at 4 rfl rfl) rfl rfl (er rfl))) ?_
           refine DrH.det ?_ ?_
           ·
            rintro w128 Z75 hE114 hZ73 ⟨-⟩
            have K51 := ke hL57 hE114
            refine GOp.op (OpY.call en18 rfl rfl (rSame_w N r17 r24 v14 v21 _ Any (((((((((((((((k14.mono (K22 None)).mono (K23 None)).mono (K28 None)).mono (K29 None)).mono (K30 None)).mono (K37 None)).mono (K38 None)).mono (K39 None)).mono (K40 None)).mono (K47 None)).mono (K48 None)).mono (K49 None)).mono (K50 None)).mono (K51 None)).mono vw_any) ((((((((((((k21.mono (K29 None)).mono (K30 None)).mono (K37 None)).mono (K38 None)).mono (K39 None)).mono (K40 None)).mono (K47 None)).mono (K48 None)).mono (K49 None)).mono (K50 None)).mono (K51 None)).mono vw_any) r45 q45) ?_)
            rintro _ w129 hE115 ⟨rfl, -⟩
            exact ⟨hE115, rfl⟩
           refine DrH.de (fun _ _ => GOp.op (OpY.move rfl (er rfl))) ?_
           refine DrH.de (fun _ hE117 => GOp.yes rfl rfl hc13 (OpY.ldBoxA (vs := [(Value.bool r29.Negative), v26]) Tryd.underlying24 rfl ti24 rfl ((hL57.ext hE117).at 3 rfl rfl) rfl rfl (er rfl))) ?_
           refine DrH.de (fun _ hE118 => GOp.yes rfl rfl hc13 (OpY.ldBoxA (vs := [(Value.bool r34.Negative), v31]) Tryd.underlying24 rfl ti24 rfl ((hL57.ext hE118).at 2 rfl rfl) rfl rfl (er rfl))) ?_
           refine DrH.det ?_ ?_
           ·
            rintro w133 Z79 hE119 hZ77 ⟨-⟩
            have K52 := ke hL57 hE119
            refine GOp.yes rfl rfl hc13 (OpY.call en18 rfl rfl (rSame_w N r29 r34 v26 v31 _ Any (((((((((k26.mono (K38 None)).mono (K39 None)).mono (K40 None)).mono (K47 None)).mono (K48 None)).mono (K49 None)).mono (K50 None)).mono (K52 None)).mono vw_any) ((((((((f14.mono (K39 None)).mono (K40 None)).mono (K47 None)).mono (K48 None)).mono (K49 None)).mono (K50 None)).mono (K52 None)).mono vw_any) r46 q46) ?_)
            rintro _ w134 hE120 ⟨rfl, -⟩
            exact ⟨hE120, rfl⟩
           refine DrH.de (fun _ _ => GOp.op (OpY.pick_t rfl hc13 rfl (er rfl))) ?_
           refine DrH.de (fun _ _ => GOp.op (OpY.move rfl (er rfl))) ?_
           refine DrH.de (fun _ hE123 => GOp.yes rfl rfl hc14 (OpY.ldBoxA (vs := [(Value.bool r39.Negative), v36]) Tryd.underlying24 rfl ti24 rfl ((hL57.ext hE123).at 1 rfl rfl) rfl rfl (er rfl))) ?_
           refine DrH.de (fun _ hE124 => GOp.yes rfl rfl hc14 (OpY.ldBoxA (vs := [(Value.bool r44.Negative), v41]) Tryd.underlying24 rfl ti24 rfl ((hL57.ext hE124).at 0 rfl rfl) rfl rfl (er rfl))) ?_
           refine DrH.det ?_ ?_
           ·
            rintro w139 Z84 hE125 hZ82 ⟨-⟩
            have K53 := ke hL57 hE125
            refine GOp.yes rfl rfl hc14 (OpY.call en18 rfl rfl (rSame_w N r39 r44 v36 v41 _ Any (((((k36.mono (K48 None)).mono (K49 None)).mono (K50 None)).mono (K53 None)).mono vw_any) ((((f15.mono (K49 None)).mono (K50 None)).mono (K53 None)).mono vw_any) r47 q47) ?_)
            rintro _ w140 hE126 ⟨rfl, -⟩
            exact ⟨hE126, rfl⟩
           refine DrH.de (fun _ _ => GOp.op (OpY.pick_t rfl hc14 rfl (er rfl))) ?_
           refine DrH.de (fun _ _ => GOp.op (OpY.move rfl (er rfl))) ?_
           refine DrH.de (fun _ hE129 => GOp.yes rfl rfl hc15 (OpY.ldBoxA (vs := [(Value.bool a.Negative), a_v]) Tryd.underlying24 rfl ti24 rfl ((hL57.ext hE129).at 6 rfl rfl) rfl rfl (er rfl))) ?_
           refine DrH.rel ?_ ?_
           ·
            rintro w144 Z88 hE130 hZ86 ⟨-⟩
            have K54 := ke hL57 hE130
            refine GOp.yes rfl rfl hc15 (OpY.call en16 rfl rfl (lcp_w N a a_v _ Any (((((((((((((((((((((a_h.mono (K4 S)).mono (K9 S)).mono (K10 S)).mono (K16 S)).mono (K17 S)).mono (K21 S)).mono (K22 S)).mono (K23 S)).mono (K28 S)).mono (K29 S)).mono (K30 S)).mono (K37 S)).mono (K38 S)).mono (K39 S)).mono (K40 S)).mono (K47 S)).mono (K48 S)).mono (K49 S)).mono (K50 S)).mono (K54 S)).mono vw_any) r48 q48) ?_)
            rintro _ w145 hE131 ⟨v42, rfl, k42, -⟩
            exact Made.ext hE131 hZ86 NewOwn.nil (fun _ h => h) ⟨v42, rfl, (k42.mono Zv.made), trivial⟩
           intro z14
           refine DrH.de (fun _ hE132 => GOp.yes rfl rfl hc15 (OpY.ldBoxA (vs := [(Value.bool b.Negative), b_v]) Tryd.underlying24 rfl ti24 rfl ((hL57.ext hE132).at 7 rfl rfl) rfl rfl (er rfl))) ?_
           refine DrH.rel ?_ ?_
           ·
            rintro w147 Z90 hE133 hZ88 ⟨⟨⟨v42, rfl, k42, -⟩, hB18⟩, -⟩
            have K55 := ke hL57 hE133
            refine GOp.yes rfl rfl hc15 (OpY.call en16 rfl rfl (lcp_w N b b_v _ Any (((((((((((((((((((((b_h.mono (K4 S)).mono (K9 S)).mono (K10 S)).mono (K16 S)).mono (K17 S)).mono (K21 S)).mono (K22 S)).mono (K23 S)).mono (K28 S)).mono (K29 S)).mono (K30 S)).mono (K37 S)).mono (K38 S)).mono (K39 S)).mono (K40 S)).mono (K47 S)).mono (K48 S)).mono (K49 S)).mono (K50 S)).mono (K55 S)).mono vw_any) r49 q49) ?_)
            rintro _ w148 hE134 ⟨v43, rfl, k43, -⟩
            exact Made.ext hE134 hZ88 NewOwn.nil (fun _ h => h) ⟨v43, rfl, (k43.mono Zv.made), trivial⟩
           intro z16
           refine DrH.rel ?_ ?_
           ·
            rintro w149 Z91 hE135 hZ89 ⟨⟨⟨v43, rfl, k43, -⟩, hB16⟩, ⟨⟨v42, rfl, k42, -⟩, hB18⟩, -⟩
            refine GOp.yes rfl rfl hc15 (OpY.call en24 rfl rfl (bMul_w N r48 r49 v42 v43 _ Any (k42.mono vw_any) (k43.mono vw_any) r50 q50) ?_)
            rintro _ w150 hE136 ⟨v44, rfl, k44, -⟩
            exact Made.ext hE136 hZ89 NewOwn.nil (fun _ h => h) ⟨v44, rfl, (k44.mono Zv.made), trivial⟩
           intro z17
           refine DrH.de (fun _ hE137 => GOp.yes rfl rfl hc15 (OpY.ldBoxA (vs := [(Value.bool b.Negative), b_v]) Tryd.underlying24 rfl ti24 rfl ((hL57.ext hE137).at 7 rfl rfl) rfl rfl (er rfl))) ?_
           refine DrH.rel ?_ ?_
           ·
            rintro w152 Z93 hE138 hZ91 ⟨⟨⟨v44, rfl, k44, -⟩, hB21⟩, -, -, -⟩
            have K56 := ke hL57 hE138
            refine GOp.yes rfl rfl hc15 (OpY.call en16 rfl rfl (lcp_w N b b_v _ Any (((((((((((((((((((((b_h.mono (K4 S)).mono (K9 S)).mono (K10 S)).mono (K16 S)).mono (K17 S)).mono (K21 S)).mono (K22 S)).mono (K23 S)).mono (K28 S)).mono (K29 S)).mono (K30 S)).mono (K37 S)).mono (K38 S)).mono (K39 S)).mono (K40 S)).mono (K47 S)).mono (K48 S)).mono (K49 S)).mono (K50 S)).mono (K56 S)).mono vw_any) r51 q51) ?_)
            rintro _ w153 hE139 ⟨v45, rfl, k45, -⟩
            exact Made.ext hE139 hZ91 NewOwn.nil (fun _ h => h) ⟨v45, rfl, (k45.mono Zv.made), trivial⟩
           intro z18
           refine DrH.de (fun _ hE140 => GOp.yes rfl rfl hc15 (OpY.ldBoxA (vs := [(Value.bool a.Negative), a_v]) Tryd.underlying24 rfl ti24 rfl ((hL57.ext hE140).at 6 rfl rfl) rfl rfl (er rfl))) ?_
           refine DrH.fin0 ?_
           rintro w155 Z95 hE141 hZ93 ⟨⟨⟨v45, rfl, k45, -⟩, hB22⟩, ⟨⟨v44, rfl, k44, -⟩, hB21⟩, ⟨⟨v43, rfl, k43, -⟩, hB16⟩, ⟨⟨v42, rfl, k42, -⟩, hB18⟩, -⟩ ap14
           have hB23 : ∀ b, some b ∈ ([] : List (Option Nat)) → w125.heap.size ≤ b ∧ ¬ Z95 b := by
            intro b hb; cases hb
           replace k45 := k45.mono (Zv.fin hL57 hZ93 hB23)
           replace k44 := k44.mono (Zv.fin hL57 hZ93 hB23)
           replace k43 := k43.mono (Zv.fin hL57 hZ93 hB23)
           replace k42 := k42.mono (Zv.fin hL57 hZ93 hB23)
           have hL68 := hL57.ext hE141
           have K57 := ke hL57 hE141
           obtain ⟨r52, q52, h⟩ := bind_some h
           have f16 := ((((((((((((((((((((a_h.mono (K4 S)).mono (K9 S)).mono (K10 S)).mono (K16 S)).mono (K17 S)).mono (K21 S)).mono (K22 S)).mono (K23 S)).mono (K28 S)).mono (K29 S)).mono (K30 S)).mono (K37 S)).mono (K38 S)).mono (K39 S)).mono (K40 S)).mono (K47 S)).mono (K48 S)).mono (K49 S)).mono (K50 S)).mono (K57 S))
           refine Rl.yes rfl rfl hc15 (OpY.call en16 rfl rfl (lcp_w N a a_v _ Any (f16.mono vw_any) r52 q52) ?_)
           rintro _ w156 hE142 ⟨v46, rfl, k46, -⟩
           replace k46 := k46.mono (Hv.freshO (S := None) hL68 [])
           have hL69 := hL68.ext hE142
           have K58 := ke hL68 hE142
           obtain ⟨r53, q53, h⟩ := bind_some h
           have f17 := (k45.mono (K58 None))
           refine Rl.yes rfl rfl hc15 (OpY.call en24 rfl rfl (bMul_w N r51 r52 v45 v46 _ Any (f17.mono vw_any) (k46.mono vw_any) r53 q53) ?_)
           rintro _ w157 hE143 ⟨v47, rfl, k47, -⟩
           replace k47 := k47.mono (Hv.freshO (S := None) hL69 [])
           have hL70 := hL69.ext hE143
           have K59 := ke hL69 hE143
           obtain ⟨r54, q54, h⟩ := bind_some h
           have f18 := ((k44.mono (K58 None)).mono (K59 None))
           refine Rl.yes rfl rfl hc15 (OpY.call en18 rfl rfl (rSame_w N r50 r53 v44 v47 _ Any (f18.mono vw_any) (k47.mono vw_any) r54 q54) ?_)
           rintro _ w158 hE144 ⟨rfl, -⟩
           have hL71 := hL70.ext hE144
           refine Rl.op (OpY.pick_t (t := r47) (v := (Value.bool r54)) rfl hc15 rfl ?_)
           refine Rl.op (OpY.assign (v := (Value.bool r54)) rfl ?_)
           refine Rl.nil (Swp.ret ?_)
           obtain rfl := Option.some.inj h
           refine ⟨[(Value.bool r54)], ⟨rfl, trivial⟩, ⟨_, rfl, hL71.done, ?_⟩⟩
           exact ⟨rfl, trivial⟩
         ·
          replace h := ite_f hc15 h
          refine Swp.drawL 22 [] [] (fun W1 => [.det (Value.agg #[(Value.bool r17.Negative), v14]), .det (Value.agg #[(Value.bool r24.Negative), v21]), .det (Value.bool r45), .det (Value.bool r45), .det (Value.agg #[(Value.bool r29.Negative), v26]), .det (Value.agg #[(Value.bool r34.Negative), v31]), .det (Value.bool r46), .det (Value.bool r46), .det (Value.bool r46), .det (Value.agg #[(Value.bool r39.Negative), v36]), .det (Value.agg #[(Value.bool r44.Negative), v41]), .det (Value.bool r47), .det (Value.bool r47), .det (Value.bool r47), .det undef, .det undef, .det undef, .det undef, .det undef, .det undef, .det undef, .det undef]) mixed rfl rfl rfl (fun _ => rfl) (fun _ => rfl) ?_ ?_
          ·
           intro W1 _
           exact trivial
          ·
           intro w159 hE145
           have hL72 := hL56.ext hE145
           have K60 := ke hL56 hE145
           refine DrH.de (fun _ hE146 => GOp.op (OpY.ldBoxA (vs := [(Value.bool r17.Negative), v14]) Tryd.underlying24 rfl ti24 rfl ((hL72.ext hE146).at 5 rfl rfl) rfl rfl (er rfl))) ?_
           refine DrH.de (fun _ hE147 => GOp.op (OpY.ldBoxA (vs := [(Value.bool r24.Negative), v21]) Tryd.underlying24 rfl ti24 rfl ((hL72.ext hE147).at 4 rfl rfl) rfl rfl (er rfl))) ?_
           refine DrH.det ?_ ?_
           ·
            rintro w162 Z98 hE148 hZ96 ⟨-⟩
            have K61 := ke hL72 hE148
            refine GOp.op (OpY.call en18 rfl rfl (rSame_w N r17 r24 v14 v21 _ Any (((((((((((((((k14.mono (K22 None)).mono (K23 None)).mono (K28 None)).mono (K29 None)).mono (K30 None)).mono (K37 None)).mono (K38 None)).mono (K39 None)).mono (K40 None)).mono (K47 None)).mono (K48 None)).mono (K49 None)).mono (K60 None)).mono (K61 None)).mono vw_any) ((((((((((((k21.mono (K29 None)).mono (K30 None)).mono (K37 None)).mono (K38 None)).mono (K39 None)).mono (K40 None)).mono (K47 None)).mono (K48 None)).mono (K49 None)).mono (K60 None)).mono (K61 None)).mono vw_any) r45 q45) ?_)
            rintro _ w163 hE149 ⟨rfl, -⟩
            exact ⟨hE149, rfl⟩
           refine DrH.de (fun _ _ => GOp.op (OpY.move rfl (er rfl))) ?_
           refine DrH.de (fun _ hE151 => GOp.yes rfl rfl hc13 (OpY.ldBoxA (vs := [(Value.bool r29.Negative), v26]) Tryd.underlying24 rfl ti24 rfl ((hL72.ext hE151).at 3 rfl rfl) rfl rfl (er rfl))) ?_
           refine DrH.de (fun _ hE152 => GOp.yes rfl rfl hc13 (OpY.ldBoxA (vs := [(Value.bool r34.Negative), v31]) Tryd.underlying24 rfl ti24 rfl ((hL72.ext hE152).at 2 rfl rfl) rfl rfl (er rfl))) ?_
           refine DrH.det ?_ ?_
           ·
            rintro w167 Z102 hE153 hZ100 ⟨-⟩
            have K62 := ke hL72 hE153
            refine GOp.yes rfl rfl hc13 (OpY.call en18 rfl rfl (rSame_w N r29 r34 v26 v31 _ Any (((((((((k26.mono (K38 None)).mono (K39 None)).mono (K40 None)).mono (K47 None)).mono (K48 None)).mono (K49 None)).mono (K60 None)).mono (K62 None)).mono vw_any) ((((((((f14.mono (K39 None)).mono (K40 None)).mono (K47 None)).mono (K48 None)).mono (K49 None)).mono (K60 None)).mono (K62 None)).mono vw_any) r46 q46) ?_)
            rintro _ w168 hE154 ⟨rfl, -⟩
            exact ⟨hE154, rfl⟩
           refine DrH.de (fun _ _ => GOp.op (OpY.pick_t rfl hc13 rfl (er rfl))) ?_
           refine DrH.de (fun _ _ => GOp.op (OpY.move rfl (er rfl))) ?_
           refine DrH.de (fun _ hE157 => GOp.yes rfl rfl hc14 (OpY.ldBoxA (vs := [(Value.bool r39.Negative), v36]) Tryd.underlying24 rfl ti24 rfl ((hL72.ext hE157).at 1 rfl rfl) rfl rfl (er rfl))) ?_
           refine DrH.de (fun _ hE158 => GOp.yes rfl rfl hc14 (OpY.ldBoxA (vs := [(Value.bool r44.Negative), v41]) Tryd.underlying24 rfl ti24 rfl ((hL72.ext hE158).at 0 rfl rfl) rfl rfl (er rfl))) ?_
           refine DrH.det ?_ ?_
           ·
            rintro w173 Z107 hE159 hZ105 ⟨-⟩
            have K63 := ke hL72 hE159
            refine GOp.yes rfl rfl hc14 (OpY.call en18 rfl rfl (rSame_w N r39 r44 v36 v41 _ Any (((((k36.mono (K48 None)).mono (K49 None)).mono (K60 None)).mono (K63 None)).mono vw_any) ((((f15.mono (K49 None)).mono (K60 None)).mono (K63 None)).mono vw_any) r47 q47) ?_)
            rintro _ w174 hE160 ⟨rfl, -⟩
            exact ⟨hE160, rfl⟩
           refine DrH.de (fun _ _ => GOp.op (OpY.pick_t rfl hc14 rfl (er rfl))) ?_
           refine DrH.de (fun _ _ => GOp.op (OpY.move rfl (er rfl))) ?_
           refine DrH.de (fun _ _ => GOp.no rfl rfl (eq_false_of_ne_true hc15) (er rfl)) ?_
           refine DrH.de (fun _ _ => GOp.no rfl rfl (eq_false_of_ne_true hc15) (er rfl)) ?_
           refine DrH.de (fun _ _ => GOp.no rfl rfl (eq_false_of_ne_true hc15) (er rfl)) ?_
           refine DrH.de (fun _ _ => GOp.no rfl rfl (eq_false_of_ne_true hc15) (er rfl)) ?_
           refine DrH.de (fun _ _ => GOp.no rfl rfl (eq_false_of_ne_true hc15) (er rfl)) ?_
           refine DrH.de (fun _ _ => GOp.no rfl rfl (eq_false_of_ne_true hc15) (er rfl)) ?_
           refine DrH.de (fun _ _ => GOp.no rfl rfl (eq_false_of_ne_true hc15) (er rfl)) ?_
           refine DrH.de (fun _ _ => GOp.no rfl rfl (eq_false_of_ne_true hc15) (er rfl)) ?_
           refine DrH.fin0 ?_
           rintro w185 Z118 hE171 hZ116 ⟨-⟩ ap15
           have hB24 : ∀ b, some b ∈ ([] : List (Option Nat)) → w159.heap.size ≤ b ∧ ¬ Z118 b := by
            intro b hb; cases hb
           have hL79 := hL72.ext hE171
           refine Rl.no rfl rfl (eq_false_of_ne_true hc15) ?_
           refine Rl.no rfl rfl (eq_false_of_ne_true hc15) ?_
           refine Rl.no rfl rfl (eq_false_of_ne_true hc15) ?_
           refine Rl.op (OpY.pick_f (t := r47) (v := (Value.bool false)) rfl (eq_false_of_ne_true hc15) rfl ?_)
           refine Rl.op (OpY.assign (v := (Value.bool false)) rfl ?_)
           refine Rl.nil (Swp.ret ?_)
           obtain rfl := Option.some.inj h
           refine ⟨[(Value.bool false)], ⟨rfl, trivial⟩, ⟨_, rfl, hL79.done, ?_⟩⟩
           exact ⟨rfl, trivial⟩
        ·
         replace h := ite_f hc14 h
         refine Swp.drawL 22 [] [] (fun W1 => [.det (Value.agg #[(Value.bool r17.Negative), v14]), .det (Value.agg #[(Value.bool r24.Negative), v21]), .det (Value.bool r45), .det (Value.bool r45), .det (Value.agg #[(Value.bool r29.Negative), v26]), .det (Value.agg #[(Value.bool r34.Negative), v31]), .det (Value.bool r46), .det (Value.bool r46), .det (Value.bool r46), .det undef, .det undef, .det undef, .det (Value.bool false), .det (Value.bool false), .det undef, .det undef, .det undef, .det undef, .det undef, .det undef, .det undef, .det undef]) mixed rfl rfl rfl (fun _ => rfl) (fun _ => rfl) ?_ ?_
         ·
          intro W1 _
          exact trivial
         ·
          intro w186 hE172
          have hL80 := hL56.ext hE172
          have K64 := ke hL56 hE172
          refine DrH.de (fun _ hE173 => GOp.op (OpY.ldBoxA (vs := [(Value.bool r17.Negative), v14]) Tryd.underlying24 rfl ti24 rfl ((hL80.ext hE173).at 5 rfl rfl) rfl rfl (er rfl))) ?_
          refine DrH.de (fun _ hE174 => GOp.op (OpY.ldBoxA (vs := [(Value.bool r24.Negative), v21]) Tryd.underlying24 rfl ti24 rfl ((hL80.ext hE174).at 4 rfl rfl) rfl rfl (er rfl))) ?_
          refine DrH.det ?_ ?_
          ·
           rintro w189 Z121 hE175 hZ119 ⟨-⟩
           have K65 := ke hL80 hE175
           refine GOp.op (OpY.call en18 rfl rfl (rSame_w N r17 r24 v14 v21 _ Any (((((((((((((((k14.mono (K22 None)).mono (K23 None)).mono (K28 None)).mono (K29 None)).mono (K30 None)).mono (K37 None)).mono (K38 None)).mono (K39 None)).mono (K40 None)).mono (K47 None)).mono (K48 None)).mono (K49 None)).mono (K64 None)).mono (K65 None)).mono vw_any) ((((((((((((k21.mono (K29 None)).mono (K30 None)).mono (K37 None)).mono (K38 None)).mono (K39 None)).mono (K40 None)).mono (K47 None)).mono (K48 None)).mono (K49 None)).mono (K64 None)).mono (K65 None)).mono vw_any) r45 q45) ?_)
           rintro _ w190 hE176 ⟨rfl, -⟩
           exact ⟨hE176, rfl⟩
          refine DrH.de (fun _ _ => GOp.op (OpY.move rfl (er rfl))) ?_
          refine DrH.de (fun _ hE178 => GOp.yes rfl rfl hc13 (OpY.ldBoxA (vs := [(Value.bool r29.Negative), v26]) Tryd.underlying24 rfl ti24 rfl ((hL80.ext hE178).at 3 rfl rfl) rfl rfl (er rfl))) ?_
          refine DrH.de (fun _ hE179 => GOp.yes rfl rfl hc13 (OpY.ldBoxA (vs := [(Value.bool r34.Negative), v31]) Tryd.underlying24 rfl ti24 rfl ((hL80.ext hE179).at 2 rfl rfl) rfl rfl (er rfl))) ?_
          refine DrH.det ?_ ?_
          ·
           rintro w194 Z125 hE180 hZ123 ⟨-⟩
           have K66 := ke hL80 hE180
           refine GOp.yes rfl rfl hc13 (OpY.call en18 rfl rfl (rSame_w N r29 r34 v26 v31 _ Any (((((((((k26.mono (K38 None)).mono (K39 None)).mono (K40 None)).mono (K47 None)).mono (K48 None)).mono (K49 None)).mono (K64 None)).mono (K66 None)).mono vw_any) ((((((((f14.mono (K39 None)).mono (K40 None)).mono (K47 None)).mono (K48 None)).mono (K49 None)).mono (K64 None)).mono (K66 None)).mono vw_any) r46 q46) ?_)
           rintro _ w195 hE181 ⟨rfl, -⟩
           exact ⟨hE181, rfl⟩
          refine DrH.de (fun _ _ => GOp.op (OpY.pick_t rfl hc13 rfl (er rfl))) ?_
          refine DrH.de (fun _ _ => GOp.op (OpY.move rfl (er rfl))) ?_
          refine DrH.de (fun _ _ => GOp.no rfl rfl (eq_false_of_ne_true hc14) (er rfl)) ?_
          refine DrH.de (fun _ _ => GOp.no rfl rfl (eq_false_of_ne_true hc14) (er rfl)) ?_
          refine DrH.de (fun _ _ => GOp.no rfl rfl (eq_false_of_ne_true hc14) (er rfl)) ?_
          refine DrH.de (fun _ _ => GOp.op (OpY.pick_f rfl (eq_false_of_ne_true hc14) rfl (er rfl))) ?_
          refine DrH.de (fun _ _ => GOp.op (OpY.move rfl (er rfl))) ?_
          refine DrH.de (fun _ _ => GOp.no rfl rfl rfl (er rfl)) ?_
          refine DrH.de (fun _ _ => GOp.no rfl rfl rfl (er rfl)) ?_
          refine DrH.de (fun _ _ => GOp.no rfl rfl rfl (er rfl)) ?_
          refine DrH.de (fun _ _ => GOp.no rfl rfl rfl (er rfl)) ?_
          refine DrH.de (fun _ _ => GOp.no rfl rfl rfl (er rfl)) ?_
          refine DrH.de (fun _ _ => GOp.no rfl rfl rfl (er rfl)) ?_
          refine DrH.de (fun _ _ => GOp.no rfl rfl rfl (er rfl)) ?_
          refine DrH.de (fun _ _ => GOp.no rfl rfl rfl (er rfl)) ?_
          refine DrH.fin0 ?_
          rintro w211 Z141 hE197 hZ139 ⟨-⟩ ap16
          have hB25 : ∀ b, some b ∈ ([] : List (Option Nat)) → w186.heap.size ≤ b ∧ ¬ Z141 b := by
           intro b hb; cases hb
          have hL85 := hL80.ext hE197
          refine Rl.no rfl rfl rfl ?_
          refine Rl.no rfl rfl rfl ?_
          refine Rl.no rfl rfl rfl ?_
          refine Rl.op (OpY.pick_f (t := false) (v := (Value.bool false)) rfl rfl rfl ?_)
          refine Rl.op (OpY.assign (v := (Value.bool false)) rfl ?_)
          refine Rl.nil (Swp.ret ?_)
          obtain rfl := Option.some.inj h
          refine ⟨[(Value.bool false)], ⟨rfl, trivial⟩, ⟨_, rfl, hL85.done, ?_⟩⟩
          exact ⟨rfl, trivial⟩
       ·
        replace h := ite_f hc13 h
        refine Swp.drawL 22 [] [] (fun W1 => [.det (Value.agg #[(Value.bool r17.Negative), v14]), .det (Value.agg #[(Value.bool r24.Negative), v21]), .det (Value.bool r45), .det (Value.bool r45), .det undef, .det undef, .det undef, .det (Value.bool false), .det (Value.bool false), .det undef, .det undef, .det undef, .det (Value.bool false), .det (Value.bool false), .det undef, .det undef, .det undef, .det undef, .det undef, .det undef, .det undef, .det undef]) mixed rfl rfl rfl (fun _ => rfl) (fun _ => rfl) ?_ ?_
        ·
         intro W1 _
         exact trivial
        ·
         intro w212 hE198
         have hL86 := hL56.ext hE198
         have K67 := ke hL56 hE198
         refine DrH.de (fun _ hE199 => GOp.op (OpY.ldBoxA (vs := [(Value.bool r17.Negative), v14]) Tryd.underlying24 rfl ti24 rfl ((hL86.ext hE199).at 5 rfl rfl) rfl rfl (er rfl))) ?_
         refine DrH.de (fun _ hE200 => GOp.op (OpY.ldBoxA (vs := [(Value.bool r24.Negative), v21]) Tryd.underlying24 rfl ti24 rfl ((hL86.ext hE200).at 4 rfl rfl) rfl rfl (er rfl))) ?_
         refine DrH.det ?_ ?_
         ·
          rintro w215 Z144 hE201 hZ142 ⟨-⟩
          have K68 := ke hL86 hE201
          refine GOp.op (OpY.call en18 rfl rfl (rSame_w N r17 r24 v14 v21 _ Any (((((((((((((((k14.mono (K22 None)).mono (K23 None)).mono (K28 None)).mono (K29 None)).mono (K30 None)).mono (K37 None)).mono (K38 None)).mono (K39 None)).mono (K40 None)).mono (K47 None)).mono (K48 None)).mono (K49 None)).mono (K67 None)).mono (K68 None)).mono vw_any) ((((((((((((k21.mono (K29 None)).mono (K30 None)).mono (K37 None)).mono (K38 None)).mono (K39 None)).mono (K40 None)).mono (K47 None)).mono (K48 None)).mono (K49 None)).mono (K67 None)).mono (K68 None)).mono vw_any) r45 q45) ?_)
          rintro _ w216 hE202 ⟨rfl, -⟩
          exact ⟨hE202, rfl⟩
         refine DrH.de (fun _ _ => GOp.op (OpY.move rfl (er rfl))) ?_
         refine DrH.de (fun _ _ => GOp.no rfl rfl (eq_false_of_ne_true hc13) (er rfl)) ?_
         refine DrH.de (fun _ _ => GOp.no rfl rfl (eq_false_of_ne_true hc13) (er rfl)) ?_
         refine DrH.de (fun _ _ => GOp.no rfl rfl (eq_false_of_ne_true hc13) (er rfl)) ?_
         refine DrH.de (fun _ _ => GOp.op (OpY.pick_f rfl (eq_false_of_ne_true hc13) rfl (er rfl))) ?_
         refine DrH.de (fun _ _ => GOp.op (OpY.move rfl (er rfl))) ?_
         refine DrH.de (fun _ _ => GOp.no rfl rfl rfl (er rfl)) ?_
         refine DrH.de (fun _ _ => GOp.no rfl rfl rfl (er rfl)) ?_
         refine DrH.de (fun _ _ => GOp.no rfl rfl rfl (er rfl)) ?_
         refine DrH.de (fun _ _ => GOp.op (OpY.pick_f rfl rfl rfl (er rfl))) ?_
         refine DrH.de (fun _ _ => GOp.op (OpY.move rfl (er rfl))) ?_
         refine DrH.de (fun _ _ => GOp.no rfl rfl rfl (er rfl)) ?_
         refine DrH.de (fun _ _ => GOp.no rfl rfl rfl (er rfl)) ?_
         refine DrH.de (fun _ _ => GOp.no rfl rfl rfl (er rfl)) ?_
         refine DrH.de (fun _ _ => GOp.no rfl rfl rfl (er rfl)) ?_
         refine DrH.de (fun _ _ => GOp.no rfl rfl rfl (er rfl)) ?_
         refine DrH.de (fun _ _ => GOp.no rfl rfl rfl (er rfl)) ?_
         refine DrH.de (fun _ _ => GOp.no rfl rfl rfl (er rfl)) ?_
         refine DrH.de (fun _ _ => GOp.no rfl rfl rfl (er rfl)) ?_
         refine DrH.fin0 ?_
         rintro w236 Z164 hE222 hZ162 ⟨-⟩ ap17
         have hB26 : ∀ b, some b ∈ ([] : List (Option Nat)) → w212.heap.size ≤ b ∧ ¬ Z164 b := by
          intro b hb; cases hb
         have hL89 := hL86.ext hE222
         refine Rl.no rfl rfl rfl ?_
         refine Rl.no rfl rfl rfl ?_
         refine Rl.no rfl rfl rfl ?_
         refine Rl.op (OpY.pick_f (t := false) (v := (Value.bool false)) rfl rfl rfl ?_)
         refine Rl.op (OpY.assign (v := (Value.bool false)) rfl ?_)
         refine Rl.nil (Swp.ret ?_)
         obtain rfl := Option.some.inj h
         refine ⟨[(Value.bool false)], ⟨rfl, trivial⟩, ⟨_, rfl, hL89.done, ?_⟩⟩
         exact ⟨rfl, trivial⟩
end Go.Proofs.YthmoefciofnmdaaDoor.WL

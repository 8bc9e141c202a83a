/- Walks, written by a program of mine (wip/tool); the kernel checks them. -/
import Derived.Test.YthmoefciofnmdaaDoorProg
import Derived.Test.YthmoefciofnmdaaDoorZ7
import Derived.Test.YthmoefciofnmdaaDoorF2
import Derived.Test.YthmoefciofnmdaaDoorA02
import Derived.Test.YthmoefciofnmdaaDoorPL
import Derived.Test.YthmoefciofnmdaaDoorWARemainder
import Derived.Test.YthmoefciofnmdaaDoorWRRemainder
import Derived.Test.YthmoefciofnmdaaDoorWBRemainder
set_option maxRecDepth 100000
set_option maxHeartbeats 40000000
set_option linter.unusedVariables false
set_option linter.unusedSimpArgs false
namespace Go.Proofs.YthmoefciofnmdaaDoor.WL
open Go Go.RowKit Go.X Go.D Go.Proofs.YthmoefciofnmdaaDoor.WF Go.Proofs.YthmoefciofnmdaaDoor.WA Go.Proofs.YthmoefciofnmdaaDoor.WR Go.Proofs.YthmoefciofnmdaaDoor.WB
theorem en49 : Go.X.Enters Tryd.prog 49 := ⟨Tryd.f49, Tryd.func49, by kernel_rfl, by kernel_rfl⟩
theorem en44 : Go.X.Enters Tryd.prog 44 := ⟨Tryd.f44, Tryd.func44, by kernel_rfl, by kernel_rfl⟩
theorem en20 : Go.X.Enters Tryd.prog 20 := ⟨Tryd.f20, Tryd.func20, by kernel_rfl, by kernel_rfl⟩
theorem en30 : Go.X.Enters Tryd.prog 30 := ⟨Tryd.f30, Tryd.func30, by kernel_rfl, by kernel_rfl⟩
theorem en15 : Go.X.Enters Tryd.prog 15 := ⟨Tryd.f15, Tryd.func15, by kernel_rfl, by kernel_rfl⟩
theorem en26 : Go.X.Enters Tryd.prog 26 := ⟨Tryd.f26, Tryd.func26, by kernel_rfl, by kernel_rfl⟩
theorem en18 : Go.X.Enters Tryd.prog 18 := ⟨Tryd.f18, Tryd.func18, by kernel_rfl, by kernel_rfl⟩
theorem en19 : Go.X.Enters Tryd.prog 19 := ⟨Tryd.f19, Tryd.func19, by kernel_rfl, by kernel_rfl⟩
theorem en13 : Go.X.Enters Tryd.prog 13 := ⟨Tryd.f13, Tryd.func13, by kernel_rfl, by kernel_rfl⟩
theorem en14 : Go.X.Enters Tryd.prog 14 := ⟨Tryd.f14, Tryd.func14, by kernel_rfl, by kernel_rfl⟩
theorem en16 : Go.X.Enters Tryd.prog 16 := ⟨Tryd.f16, Tryd.func16, by kernel_rfl, by kernel_rfl⟩
theorem en17 : Go.X.Enters Tryd.prog 17 := ⟨Tryd.f17, Tryd.func17, by kernel_rfl, by kernel_rfl⟩
theorem en24 : Go.X.Enters Tryd.prog 24 := ⟨Tryd.f24, Tryd.func24, by kernel_rfl, by kernel_rfl⟩
theorem en25 : Go.X.Enters Tryd.prog 25 := ⟨Tryd.f25, Tryd.func25, by kernel_rfl, by kernel_rfl⟩
theorem en27 : Go.X.Enters Tryd.prog 27 := ⟨Tryd.f27, Tryd.func27, by kernel_rfl, by kernel_rfl⟩
theorem en28 : Go.X.Enters Tryd.prog 28 := ⟨Tryd.f28, Tryd.func28, by kernel_rfl, by kernel_rfl⟩
theorem en31 : Go.X.Enters Tryd.prog 31 := ⟨Tryd.f31, Tryd.func31, by kernel_rfl, by kernel_rfl⟩
theorem en34 : Go.X.Enters Tryd.prog 34 := ⟨Tryd.f34, Tryd.func34, by kernel_rfl, by kernel_rfl⟩
theorem en36 : Go.X.Enters Tryd.prog 36 := ⟨Tryd.f36, Tryd.func36, by kernel_rfl, by kernel_rfl⟩
theorem en38 : Go.X.Enters Tryd.prog 38 := ⟨Tryd.f38, Tryd.func38, by kernel_rfl, by kernel_rfl⟩
theorem en23 : Go.X.Enters Tryd.prog 23 := ⟨Tryd.f23, Tryd.func23, by kernel_rfl, by kernel_rfl⟩
theorem lcp_w (N : Nat) (x : Big) (x_v : Value) (w : World) (S : Nat → Prop) (x_h : Rs (rInt .u32) (Hv w.heap.size S [] w) x_v x.Digits) (r : Big) (h : lcp N x = some r) :
  Calls Tryd.prog 16 #[(Value.agg #[(Value.bool x.Negative), x_v])] w (Ret w (fun v w' => ∃ (v0_0 : Value), (Value.agg #[(Value.bool r.Negative), v0_0]) = v ∧ Rs (rInt .u32) (Hv w.heap.size None [] w') v0_0 r.Digits ∧ True)) := by
 unfold lcp at h
 have hL : Go.X.Loc [] [] w w [] [] := Go.X.Loc.begin0 w
 refine calls_of (l := [(Value.agg #[(Value.bool x.Negative), x_v])]) (rl := [.cell 2 24]) (n := 5) Tryd.func16 rfl rfl rfl (Nat.le_of_ble_eq_true rfl) ?_
 refine Swp.seq (Swp.region rfl (Rl.op (OpY.box (cs := [(Value.bool x.Negative), x_v]) rfl rfl hL ?_)))
 intro b1 w2 hL3 hS5
 have K4 := ks w hS5
 refine Rl.op (OpY.alloc (cs := [(Value.bool false), (Value.slice none 0 0)]) ti24 rfl hL3 ?_)
 intro b6 w7 hL8 hS10
 have K9 := ks w hS10
 refine Rl.nil (Swp.seq (Swp.region rfl (Rl.op (OpY.ldBoxA (vs := [(Value.bool x.Negative), x_v]) Tryd.underlying24 rfl ti24 rfl (hL8.at 1 rfl rfl) rfl rfl ?_))))
 obtain ⟨r10, q10, h⟩ := bind_some h
 have f10 := ((x_h.mono (K4 S)).mono (K9 S))
 refine Rl.op (OpY.call en49 rfl rfl (rCopy_w N x x_v _ Any (f10.mono vw_any) r10 q10) ?_)
 rintro _ w10 hE10 ⟨v10, rfl, k10, -⟩
 replace k10 := k10.mono (Hv.freshO (S := None) hL8 [])
 have hL10 := hL8.ext hE10
 refine Rl.op0 (OpY.store (vs := [(Value.bool r10.Negative), v10]) ti24 rfl rfl rfl rfl (ones_cons rfl (ones_cons k10.one ones_nil)) hL10 0 rfl rfl (Nat.le_of_ble_eq_true rfl) ?_)
 intro w11 (hL11 : Go.X.Loc [] [] w w11 [some b6, some b1] [Cont.cells [(Value.bool r10.Negative), v10], Cont.cells [(Value.bool x.Negative), x_v]]) hS11
 have K10 := ks w hS11
 refine Rl.nil (Swp.ret ?_)
 obtain rfl := Option.some.inj h
 refine ⟨[(Value.agg #[(Value.bool r10.Negative), v10])], ⟨⟨⟨b6, 0, none⟩, rfl, res_boxA Tryd.underlying24 rfl ti24 (hL11.at 0 rfl rfl) rfl⟩, trivial⟩, ⟨_, rfl, hL11.done, ?_⟩⟩
 have f11 := (k10.mono (K10 None))
 exact ⟨v10, rfl, (f11.mono Hv.out), trivial⟩
theorem lsmall_w (N : Nat) (l : (List Big)) (l_v : Value) (w : World) (S : Nat → Prop) (l_h : Rs rBig (Hv w.heap.size S [] w) l_v l) (r : Bool) (h : lsmall N l = some r) :
  Calls Tryd.prog 14 #[l_v] w (Ret w (fun v w' => (Value.bool r) = v ∧ True)) := by
 unfold lsmall at h
 have hL : Go.X.Loc [] [] w w [] [] := Go.X.Loc.begin0 w
 refine calls_of (l := [l_v]) (rl := [.tmp 2]) (n := 15) Tryd.func14 rfl rfl rfl (Nat.le_of_ble_eq_true rfl) ?_
 refine Swp.seq (Swp.region rfl (Rl.op (OpY.assign (v := (Value.bool false)) rfl ?_)))
 refine Rl.nil (Swp.seq (Swp.seq (Swp.region rfl (Rl.op (OpY.move (v := l_v) rfl ?_)))))
 refine Rl.op (OpY.lenRo (v := l_v) Tryd.underlying45 rfl l_h ?_)
 refine Rl.op (OpY.move (v := (Value.int .i64 0)) rfl ?_)
 refine Rl.nil ?_
 obtain ⟨s10, hl10, g10⟩ := bind_some h
 refine Swp.join (fun e w' => ∃  (u : Env), (Sum.inl ()) = s10 ∧ e = upds [] u ∧ Go.X.Loc [] [] w w' [] [] ∧ Keep w.heap.size [] w [] w' ∧ True) ?_ ?_
 ·
  refine Swp.block ?_
  refine Swp.loopM hl10 (fun (ss : Int) (e : Env) (w' : World) => match ss with | x10 => ∃ (u : Env), e = upds [(5, l_v), (6, (Value.int .i64 (List.length l : Int))), (7, (Value.int .i64 x10))] u ∧ Go.X.Loc [] [] w w' [] [] ∧ Keep w.heap.size [] w [] w' ∧ True) ⟨_, (upds_sym ⟨rfl, rfl, rfl, trivial⟩), hL, Keep.refl, trivial⟩ ?_
  rintro x10 oo _ w10 ⟨u, rfl, hL10, K10, -⟩ h hd10
  rw [lsmall_b1] at h
  refine Swp.seq (Swp.region rfl (Rl.op (OpY.lss (x := x10) (y := (List.length l : Int)) ((x10 : Int) < (List.length l : Int)) rfl rfl Iff.rfl ?_)))
  refine Rl.nil (Swp.seq ?_)
  refine Swp.cond_d ((x10 : Int) < (List.length l : Int)) rfl (fun hc10 => ?_) (fun hc10 => ?_)
  ·
   replace h := ite_t hc10 h
   refine Swp.skip (Swp.seq (Swp.block (Swp.seq (Swp.region rfl ?_))))
   obtain ⟨x11, q10, h⟩ := bind_some h
   obtain ⟨n10, q11, q12⟩ := idx_some q10
   have f10 := (l_h.mono (K10 S))
   obtain ⟨b10, o10, c10, vs10, q13, q14, f11, q15⟩ := Rs.get f10 q12
   obtain ⟨v10, rfl, k10, -⟩ := rBig_open q15
   refine Rl.op (OpY.ixRoD (r := rBig) (v := l_v) (n := n10) (m := (o10 + n10 * rBig.sz)) Tryd.underlying45 ti24 rfl q13 rfl q11 q12 rfl ?_)
   refine Rl.op (OpY.ldRoA (vs := [(Value.bool x11.Negative), v10]) Tryd.underlying24 rfl ti24 rfl rfl vw_view f11 ?_)
   refine Rl.op (OpY.alloc (cs := [(Value.bool false), (Value.slice none 0 0)]) ti24 rfl hL10 ?_)
   intro b11 w11 hL11 hS10
   have K11 := ks w hS10
   have f12 := (k10.mono (K11 S))
   refine Rl.op0 (OpY.store (vs := [(Value.bool x11.Negative), v10]) ti24 rfl rfl rfl rfl (ones_cons rfl (ones_cons f12.one ones_nil)) hL11 0 rfl rfl (Nat.le_of_ble_eq_true rfl) ?_)
   intro w12 (hL12 : Go.X.Loc [] [] w w12 [some b11] [Cont.cells [(Value.bool x11.Negative), v10]]) hS11
   have K12 := ks w hS11
   refine Rl.nil (Swp.seq (Swp.region rfl (Rl.op (OpY.ldBoxA (vs := [(Value.bool x11.Negative), v10]) Tryd.underlying24 rfl ti24 rfl (hL12.at 0 rfl rfl) rfl rfl ?_))))
   obtain ⟨r10, q16, h⟩ := bind_some h
   have f13 := (f12.mono (K12 S))
   refine Rl.op (OpY.call en44 rfl rfl (rSmallB_w N x11 v10 _ Any (f13.mono vw_any) r10 q16) ?_)
   rintro _ w13 hE10 ⟨rfl, -⟩
   have hL13 := hL12.ext hE10
   have K13 := ke hL12 hE10
   refine Rl.op (OpY.not (x := r10) rfl ?_)
   refine Rl.nil ?_
   refine Swp.cond_b (!r10) rfl (fun hc11 => ?_) (fun hc11 => ?_)
   ·
    replace h := ite_t hc11 h
    refine Swp.seq (Swp.region rfl (Rl.op (OpY.assign (v := (Value.bool false)) rfl ?_)))
    refine Rl.nil (Swp.ret ?_)
    obtain rfl := Option.some.inj h
    obtain rfl := hd10 _ rfl
    replace h := g10
    try dsimp only at h
    obtain rfl := Option.some.inj h
    refine ⟨[(Value.bool false)], ⟨rfl, trivial⟩, ⟨_, rfl, hL13.done, ?_⟩⟩
    exact ⟨rfl, trivial⟩
   ·
    replace h := ite_f hc11 h
    refine Swp.skip (Swp.pop_blk (Swp.region rfl (Rl.op (OpY.add (x := x10) (y := 1) (z := (iw (x10 + 1))) rfl rfl rfl ?_))))
    refine Rl.op (OpY.move (v := (Value.int .i64 (iw (x10 + 1)))) rfl ?_)
    refine Rl.nil ?_
    have hp10 := hL13.pick [] rfl rfl rfl
    have hL14 : Go.X.Loc [] [] w w13 [] [] := hp10.1
    have K14 := ks w hp10.2
    obtain rfl := Option.some.inj h
    refine Swp.pop_back ⟨(iw (x10 + 1)), rfl, ?_⟩
    exact ⟨_, (upds_sym ⟨rfl, rfl, rfl, trivial⟩), hL14, (Keep.trans (Keep.trans (Keep.trans (Keep.trans K10 K11) K12) K13) K14), trivial⟩
  ·
   replace h := ite_f hc10 h
   refine Swp.exit rfl ?_
   obtain rfl := Option.some.inj h
   obtain rfl := hd10 _ rfl
   replace h := g10
   try dsimp only at h
   skip
   refine Swp.pop_back ?_
   exact ⟨_, rfl, (upds_sym trivial), hL10, K10, trivial⟩
 ·
  rintro _ w14 ⟨u, rfl, rfl, hL15, K15, -⟩
  replace h := g10
  try dsimp only at h
  refine Swp.seq (Swp.region rfl (Rl.op (OpY.assign (v := (Value.bool true)) rfl ?_)))
  refine Rl.nil (Swp.ret ?_)
  obtain rfl := Option.some.inj h
  refine ⟨[(Value.bool true)], ⟨rfl, trivial⟩, ⟨_, rfl, hL15.done, ?_⟩⟩
  exact ⟨rfl, trivial⟩
theorem awake_w0 (N : Nat)   (w : World) (S : Nat → Prop) (hG : G w)  (r : Bool) (h : awake N  = some r) (hr : r = true) :
  Calls Tryd.prog 13 #[] w (Ret w (fun v w' => (Value.bool r) = v ∧ True)) := by
 unfold awake at h
 have hL : Go.X.Loc [] [] w w [] [] := Go.X.Loc.begin0 w
 refine calls_of (l := []) (rl := [.tmp 0]) (n := 95) Tryd.func13 rfl rfl rfl (Nat.le_of_ble_eq_true rfl) ?_
 refine Swp.seq (Swp.region rfl (Rl.op (OpY.assign (v := (Value.bool false)) rfl ?_)))
 refine Rl.nil (Swp.seq (Swp.region rfl ?_))
 obtain ⟨r1, q2, h⟩ := bind_some h
 refine Rl.op (OpY.call en20 rfl rfl (bParse_w N awake_lit20 _ Any r1 q2) ?_)
 rintro _ w6 hE9 ⟨v3, rfl, k4, -⟩
 replace k4 := k4.mono (Hv.freshO (S := None) hL [])
 have hL7 := hL.ext hE9
 refine Rl.op (OpY.move (v := (Value.tuple #[(Value.agg #[(Value.bool r1.1.Negative), v3]), (Value.int .i64 r1.2)])) rfl ?_)
 refine Rl.op (OpY.extract (vs := [(Value.agg #[(Value.bool r1.1.Negative), v3]), (Value.int .i64 r1.2)]) (v := (Value.agg #[(Value.bool r1.1.Negative), v3])) rfl rfl ?_)
 refine Rl.op (OpY.extract (vs := [(Value.agg #[(Value.bool r1.1.Negative), v3]), (Value.int .i64 r1.2)]) (v := (Value.int .i64 r1.2)) rfl rfl ?_)
 refine Rl.op (OpY.alloc (cs := [(Value.bool false), (Value.slice none 0 0)]) ti24 rfl hL7 ?_)
 intro b10 w10 hL10 hS10
 have K10 := ks w hS10
 have f10 := (k4.mono (K10 None))
 refine Rl.op0 (OpY.store (vs := [(Value.bool r1.1.Negative), v3]) ti24 rfl rfl rfl rfl (ones_cons rfl (ones_cons f10.one ones_nil)) hL10 0 rfl rfl (Nat.le_of_ble_eq_true rfl) ?_)
 intro w11 (hL11 : Go.X.Loc [] [] w w11 [some b10] [Cont.cells [(Value.bool r1.1.Negative), v3]]) hS11
 have K11 := ks w hS11
 refine Rl.op (OpY.assign (v := (Value.int .i64 r1.2)) rfl ?_)
 refine Rl.nil (Swp.seq (Swp.region rfl ?_))
 obtain ⟨r10, q10, h⟩ := bind_some h
 refine Rl.op (OpY.call en20 rfl rfl (bParse_w N ([45, 48] : List UInt8) _ Any r10 q10) ?_)
 rintro _ w12 hE10 ⟨v10, rfl, k10, -⟩
 replace k10 := k10.mono (Hv.freshO (S := None) hL11 [])
 have hL12 := hL11.ext hE10
 have K12 := ke hL11 hE10
 refine Rl.op (OpY.move (v := (Value.tuple #[(Value.agg #[(Value.bool r10.1.Negative), v10]), (Value.int .i64 r10.2)])) rfl ?_)
 refine Rl.op (OpY.extract (vs := [(Value.agg #[(Value.bool r10.1.Negative), v10]), (Value.int .i64 r10.2)]) (v := (Value.agg #[(Value.bool r10.1.Negative), v10])) rfl rfl ?_)
 refine Rl.op (OpY.extract (vs := [(Value.agg #[(Value.bool r10.1.Negative), v10]), (Value.int .i64 r10.2)]) (v := (Value.int .i64 r10.2)) rfl rfl ?_)
 refine Rl.op (OpY.alloc (cs := [(Value.bool false), (Value.slice none 0 0)]) ti24 rfl hL12 ?_)
 intro b11 w13 hL13 hS12
 have K13 := ks w hS12
 have f11 := (k10.mono (K13 None))
 refine Rl.op0 (OpY.store (vs := [(Value.bool r10.1.Negative), v10]) ti24 rfl rfl rfl rfl (ones_cons rfl (ones_cons f11.one ones_nil)) hL13 0 rfl rfl (Nat.le_of_ble_eq_true rfl) ?_)
 intro w14 (hL14 : Go.X.Loc [] [] w w14 [some b11, some b10] [Cont.cells [(Value.bool r10.1.Negative), v10], Cont.cells [(Value.bool r1.1.Negative), v3]]) hS13
 have K14 := ks w hS13
 refine Rl.op (OpY.assign (v := (Value.int .i64 r10.2)) rfl ?_)
 refine Rl.nil (Swp.seq (Swp.region rfl ?_))
 obtain ⟨r11, q11, h⟩ := bind_some h
 refine Rl.op (OpY.call en20 rfl rfl (bParse_w N ([48, 48, 55] : List UInt8) _ Any r11 q11) ?_)
 rintro _ w15 hE11 ⟨v11, rfl, k11, -⟩
 replace k11 := k11.mono (Hv.freshO (S := None) hL14 [])
 have hL15 := hL14.ext hE11
 have K15 := ke hL14 hE11
 refine Rl.op (OpY.move (v := (Value.tuple #[(Value.agg #[(Value.bool r11.1.Negative), v11]), (Value.int .i64 r11.2)])) rfl ?_)
 refine Rl.op (OpY.extract (vs := [(Value.agg #[(Value.bool r11.1.Negative), v11]), (Value.int .i64 r11.2)]) (v := (Value.agg #[(Value.bool r11.1.Negative), v11])) rfl rfl ?_)
 refine Rl.op (OpY.extract (vs := [(Value.agg #[(Value.bool r11.1.Negative), v11]), (Value.int .i64 r11.2)]) (v := (Value.int .i64 r11.2)) rfl rfl ?_)
 refine Rl.op (OpY.alloc (cs := [(Value.bool false), (Value.slice none 0 0)]) ti24 rfl hL15 ?_)
 intro b12 w16 hL16 hS14
 have K16 := ks w hS14
 have f12 := (k11.mono (K16 None))
 refine Rl.op0 (OpY.store (vs := [(Value.bool r11.1.Negative), v11]) ti24 rfl rfl rfl rfl (ones_cons rfl (ones_cons f12.one ones_nil)) hL16 0 rfl rfl (Nat.le_of_ble_eq_true rfl) ?_)
 intro w17 (hL17 : Go.X.Loc [] [] w w17 [some b12, some b11, some b10] [Cont.cells [(Value.bool r11.1.Negative), v11], Cont.cells [(Value.bool r10.1.Negative), v10], Cont.cells [(Value.bool r1.1.Negative), v3]]) hS15
 have K17 := ks w hS15
 refine Rl.op (OpY.assign (v := (Value.int .i64 r11.2)) rfl ?_)
 refine Rl.nil (Swp.seq (Swp.region rfl ?_))
 obtain ⟨r12, q12, h⟩ := bind_some h
 refine Rl.op (OpY.call en30 rfl rfl (bOf_w N (-7) _ Any r12 q12) ?_)
 rintro _ w18 hE12 ⟨v12, rfl, k12, -⟩
 replace k12 := k12.mono (Hv.freshO (S := None) hL17 [])
 have hL18 := hL17.ext hE12
 have K18 := ke hL17 hE12
 obtain ⟨r13, q13, h⟩ := bind_some h
 refine Rl.op (OpY.call en30 rfl rfl (bOf_w N 2 _ Any r13 q13) ?_)
 rintro _ w19 hE13 ⟨v13, rfl, k13, -⟩
 replace k13 := k13.mono (Hv.freshO (S := None) hL18 [])
 have hL19 := hL18.ext hE13
 have K19 := ke hL18 hE13
 obtain ⟨r14, q14, h⟩ := bind_some h
 have f13 := (k12.mono (K19 None))
 refine Rl.op (OpY.call en15 rfl rfl (bDivFloor_w N r12 r13 v12 v13 _ Any (f13.mono vw_any) (k13.mono vw_any) r14 q14) ?_)
 rintro _ w20 hE14 ⟨v14, v15, rfl, k14, k15, -⟩
 replace k14 := k14.mono (Hv.freshO (S := None) hL19 [])
 replace k15 := k15.mono (Hv.freshO (S := None) hL19 [])
 have hL20 := hL19.ext hE14
 have K20 := ke hL19 hE14
 refine Rl.op (OpY.move (v := (Value.tuple #[(Value.agg #[(Value.bool r14.1.Negative), v14]), (Value.agg #[(Value.bool r14.2.1.Negative), v15]), (Value.bool r14.2.2)])) rfl ?_)
 refine Rl.op (OpY.extract (vs := [(Value.agg #[(Value.bool r14.1.Negative), v14]), (Value.agg #[(Value.bool r14.2.1.Negative), v15]), (Value.bool r14.2.2)]) (v := (Value.agg #[(Value.bool r14.1.Negative), v14])) rfl rfl ?_)
 refine Rl.op (OpY.extract (vs := [(Value.agg #[(Value.bool r14.1.Negative), v14]), (Value.agg #[(Value.bool r14.2.1.Negative), v15]), (Value.bool r14.2.2)]) (v := (Value.agg #[(Value.bool r14.2.1.Negative), v15])) rfl rfl ?_)
 refine Rl.op (OpY.extract (vs := [(Value.agg #[(Value.bool r14.1.Negative), v14]), (Value.agg #[(Value.bool r14.2.1.Negative), v15]), (Value.bool r14.2.2)]) (v := (Value.bool r14.2.2)) rfl rfl ?_)
 refine Rl.op (OpY.alloc (cs := [(Value.bool false), (Value.slice none 0 0)]) ti24 rfl hL20 ?_)
 intro b13 w21 hL21 hS16
 have K21 := ks w hS16
 refine Rl.op (OpY.alloc (cs := [(Value.bool false), (Value.slice none 0 0)]) ti24 rfl hL21 ?_)
 intro b14 w22 hL22 hS17
 have K22 := ks w hS17
 have f14 := ((k14.mono (K21 None)).mono (K22 None))
 refine Rl.op0 (OpY.store (vs := [(Value.bool r14.1.Negative), v14]) ti24 rfl rfl rfl rfl (ones_cons rfl (ones_cons f14.one ones_nil)) hL22 1 rfl rfl (Nat.le_of_ble_eq_true rfl) ?_)
 intro w23 (hL23 : Go.X.Loc [] [] w w23 [some b14, some b13, some b12, some b11, some b10] [Cont.cells [(Value.bool false), (Value.slice none 0 0)], Cont.cells [(Value.bool r14.1.Negative), v14], Cont.cells [(Value.bool r11.1.Negative), v11], Cont.cells [(Value.bool r10.1.Negative), v10], Cont.cells [(Value.bool r1.1.Negative), v3]]) hS18
 have K23 := ks w hS18
 have f15 := (((k15.mono (K21 None)).mono (K22 None)).mono (K23 None))
 refine Rl.op0 (OpY.store (vs := [(Value.bool r14.2.1.Negative), v15]) ti24 rfl rfl rfl rfl (ones_cons rfl (ones_cons f15.one ones_nil)) hL23 0 rfl rfl (Nat.le_of_ble_eq_true rfl) ?_)
 intro w24 (hL24 : Go.X.Loc [] [] w w24 [some b14, some b13, some b12, some b11, some b10] [Cont.cells [(Value.bool r14.2.1.Negative), v15], Cont.cells [(Value.bool r14.1.Negative), v14], Cont.cells [(Value.bool r11.1.Negative), v11], Cont.cells [(Value.bool r10.1.Negative), v10], Cont.cells [(Value.bool r1.1.Negative), v3]]) hS19
 have K24 := ks w hS19
 refine Rl.op (OpY.assign (v := (Value.bool r14.2.2)) rfl ?_)
 refine Rl.nil (Swp.seq (Swp.region rfl ?_))
 obtain ⟨r15, q15, h⟩ := bind_some h
 refine Rl.op (OpY.call en30 rfl rfl (bOf_w N 7 _ Any r15 q15) ?_)
 rintro _ w25 hE15 ⟨v16, rfl, k16, -⟩
 replace k16 := k16.mono (Hv.freshO (S := None) hL24 [])
 have hL25 := hL24.ext hE15
 have K25 := ke hL24 hE15
 obtain ⟨r16, q16, h⟩ := bind_some h
 refine Rl.op (OpY.call en30 rfl rfl (bOf_w N (-2) _ Any r16 q16) ?_)
 rintro _ w26 hE16 ⟨v17, rfl, k17, -⟩
 replace k17 := k17.mono (Hv.freshO (S := None) hL25 [])
 have hL26 := hL25.ext hE16
 have K26 := ke hL25 hE16
 obtain ⟨r17, q17, h⟩ := bind_some h
 have f16 := (k16.mono (K26 None))
 refine Rl.op (OpY.call en15 rfl rfl (bDivFloor_w N r15 r16 v16 v17 _ Any (f16.mono vw_any) (k17.mono vw_any) r17 q17) ?_)
 rintro _ w27 hE17 ⟨v18, v19, rfl, k18, k19, -⟩
 replace k18 := k18.mono (Hv.freshO (S := None) hL26 [])
 replace k19 := k19.mono (Hv.freshO (S := None) hL26 [])
 have hL27 := hL26.ext hE17
 have K27 := ke hL26 hE17
 refine Rl.op (OpY.move (v := (Value.tuple #[(Value.agg #[(Value.bool r17.1.Negative), v18]), (Value.agg #[(Value.bool r17.2.1.Negative), v19]), (Value.bool r17.2.2)])) rfl ?_)
 refine Rl.op (OpY.extract (vs := [(Value.agg #[(Value.bool r17.1.Negative), v18]), (Value.agg #[(Value.bool r17.2.1.Negative), v19]), (Value.bool r17.2.2)]) (v := (Value.agg #[(Value.bool r17.1.Negative), v18])) rfl rfl ?_)
 refine Rl.op (OpY.extract (vs := [(Value.agg #[(Value.bool r17.1.Negative), v18]), (Value.agg #[(Value.bool r17.2.1.Negative), v19]), (Value.bool r17.2.2)]) (v := (Value.agg #[(Value.bool r17.2.1.Negative), v19])) rfl rfl ?_)
 refine Rl.op (OpY.extract (vs := [(Value.agg #[(Value.bool r17.1.Negative), v18]), (Value.agg #[(Value.bool r17.2.1.Negative), v19]), (Value.bool r17.2.2)]) (v := (Value.bool r17.2.2)) rfl rfl ?_)
 refine Rl.op (OpY.alloc (cs := [(Value.bool false), (Value.slice none 0 0)]) ti24 rfl hL27 ?_)
 intro b15 w28 hL28 hS20
 have K28 := ks w hS20
 refine Rl.op (OpY.alloc (cs := [(Value.bool false), (Value.slice none 0 0)]) ti24 rfl hL28 ?_)
 intro b16 w29 hL29 hS21
 have K29 := ks w hS21
 have f17 := ((k18.mono (K28 None)).mono (K29 None))
 refine Rl.op0 (OpY.store (vs := [(Value.bool r17.1.Negative), v18]) ti24 rfl rfl rfl rfl (ones_cons rfl (ones_cons f17.one ones_nil)) hL29 1 rfl rfl (Nat.le_of_ble_eq_true rfl) ?_)
 intro w30 (hL30 : Go.X.Loc [] [] w w30 [some b16, some b15, some b14, some b13, some b12, some b11, some b10] [Cont.cells [(Value.bool false), (Value.slice none 0 0)], Cont.cells [(Value.bool r17.1.Negative), v18], Cont.cells [(Value.bool r14.2.1.Negative), v15], Cont.cells [(Value.bool r14.1.Negative), v14], Cont.cells [(Value.bool r11.1.Negative), v11], Cont.cells [(Value.bool r10.1.Negative), v10], Cont.cells [(Value.bool r1.1.Negative), v3]]) hS22
 have K30 := ks w hS22
 have f18 := (((k19.mono (K28 None)).mono (K29 None)).mono (K30 None))
 refine Rl.op0 (OpY.store (vs := [(Value.bool r17.2.1.Negative), v19]) ti24 rfl rfl rfl rfl (ones_cons rfl (ones_cons f18.one ones_nil)) hL30 0 rfl rfl (Nat.le_of_ble_eq_true rfl) ?_)
 intro w31 (hL31 : Go.X.Loc [] [] w w31 [some b16, some b15, some b14, some b13, some b12, some b11, some b10] [Cont.cells [(Value.bool r17.2.1.Negative), v19], Cont.cells [(Value.bool r17.1.Negative), v18], Cont.cells [(Value.bool r14.2.1.Negative), v15], Cont.cells [(Value.bool r14.1.Negative), v14], Cont.cells [(Value.bool r11.1.Negative), v11], Cont.cells [(Value.bool r10.1.Negative), v10], Cont.cells [(Value.bool r1.1.Negative), v3]]) hS23
 have K31 := ks w hS23
 refine Rl.op (OpY.assign (v := (Value.bool r17.2.2)) rfl ?_)
 refine Rl.nil (Swp.seq (Swp.region rfl ?_))
 obtain ⟨r18, q18, h⟩ := bind_some h
 refine Rl.op (OpY.call en30 rfl rfl (bOf_w N (-12) _ Any r18 q18) ?_)
 rintro _ w32 hE18 ⟨v20, rfl, k20, -⟩
 replace k20 := k20.mono (Hv.freshO (S := None) hL31 [])
 have hL32 := hL31.ext hE18
 have K32 := ke hL31 hE18
 obtain ⟨r19, q19, h⟩ := bind_some h
 refine Rl.op (OpY.call en30 rfl rfl (bOf_w N 18 _ Any r19 q19) ?_)
 rintro _ w33 hE19 ⟨v21, rfl, k21, -⟩
 replace k21 := k21.mono (Hv.freshO (S := None) hL32 [])
 have hL33 := hL32.ext hE19
 have K33 := ke hL32 hE19
 obtain ⟨r20, q20, h⟩ := bind_some h
 have f19 := (k20.mono (K33 None))
 refine Rl.op (OpY.call en26 rfl rfl (bGCD_w N r18 r19 v20 v21 _ Any (f19.mono vw_any) (k21.mono vw_any) r20 q20) ?_)
 rintro _ w34 hE20 ⟨v22, rfl, k22, -⟩
 replace k22 := k22.mono (Hv.freshO (S := None) hL33 [])
 have hL34 := hL33.ext hE20
 have K34 := ke hL33 hE20
 refine Rl.op (OpY.alloc (cs := [(Value.bool false), (Value.slice none 0 0)]) ti24 rfl hL34 ?_)
 intro b17 w35 hL35 hS24
 have K35 := ks w hS24
 have f20 := (k22.mono (K35 None))
 refine Rl.op0 (OpY.store (vs := [(Value.bool r20.Negative), v22]) ti24 rfl rfl rfl rfl (ones_cons rfl (ones_cons f20.one ones_nil)) hL35 0 rfl rfl (Nat.le_of_ble_eq_true rfl) ?_)
 intro w36 (hL36 : Go.X.Loc [] [] w w36 [some b17, some b16, some b15, some b14, some b13, some b12, some b11, some b10] [Cont.cells [(Value.bool r20.Negative), v22], Cont.cells [(Value.bool r17.2.1.Negative), v19], Cont.cells [(Value.bool r17.1.Negative), v18], Cont.cells [(Value.bool r14.2.1.Negative), v15], Cont.cells [(Value.bool r14.1.Negative), v14], Cont.cells [(Value.bool r11.1.Negative), v11], Cont.cells [(Value.bool r10.1.Negative), v10], Cont.cells [(Value.bool r1.1.Negative), v3]]) hS25
 have K36 := ks w hS25
 refine Rl.nil (Swp.seq (Swp.region rfl (Rl.op (OpY.move (v := (Value.int .i64 r1.2)) rfl ?_))))
 refine Rl.op (OpY.eql (x := r1.2) (y := 0) ((r1.2 : Int) = 0) rfl rfl Iff.rfl ?_)
 refine Rl.op (OpY.move (v := (Value.bool (decide ((r1.2 : Int) = 0)))) rfl ?_)
 by_cases hc10 : (r1.2 : Int) = 0
 ·
  replace h := ite_t hc10 h
  refine Rl.yes rfl rfl (decide_eq_true hc10) (OpY.ldBoxA (vs := [(Value.bool r1.1.Negative), v3]) Tryd.underlying24 rfl ti24 rfl (hL36.at 7 rfl rfl) rfl rfl ?_)
  have hE21 : Els (rInt .u32) (Hv w.heap.size None [some b17, some b16, some b15, some b14, some b13, some b12, some b11, some b10] w36) [(Value.int .u32 0), (Value.int .u32 0), (Value.int .u32 1)] [0, 0, 1] := (Els.cons (a := [(Value.int .u32 0)]) rfl (Els.cons (a := [(Value.int .u32 0)]) rfl (Els.cons (a := [(Value.int .u32 1)]) rfl Els.nil)))
  refine Rl.yes rfl rfl (decide_eq_true hc10) (OpY.litRow (r := (rInt .u32)) (vs := [(Value.int .u32 0), (Value.int .u32 0), (Value.int .u32 1)]) (css := [[(Value.int .u32 0)], [(Value.int .u32 0)], [(Value.int .u32 1)]]) (xs := [0, 0, 1]) Tryd.underlying22 ti47 (Nat.le_of_ble_eq_true rfl) rfl rfl ⟨rfl, rfl, ⟨rfl, rfl, ⟨rfl, rfl, trivial⟩⟩⟩ (Nat.le_of_ble_eq_true rfl) hE21 rfl hL36 ?_)
  intro b18 w37 hc11 hL37 hS26
  have K37 := ks w hS26
  refine Rl.yes rfl rfl (decide_eq_true hc10) (OpY.build (zc := [(Value.bool false), (Value.slice none 0 0)]) (cs := [(Value.bool false), (osv (some b18) 0 3 3)]) (is := [1]) (vs := [(osv (some b18) 0 3 3)]) (css := [[(osv (some b18) 0 3 3)]]) pl24 ti24 rfl rfl rfl ⟨(one_cells (osv_one _ _ _ _)), trivial⟩ rfl ?_)
  obtain ⟨r21, q21, h⟩ := bind_some h
  have f21 := (((((((((((((((((((((((((((f10.mono (K11 None)).mono (K12 None)).mono (K13 None)).mono (K14 None)).mono (K15 None)).mono (K16 None)).mono (K17 None)).mono (K18 None)).mono (K19 None)).mono (K20 None)).mono (K21 None)).mono (K22 None)).mono (K23 None)).mono (K24 None)).mono (K25 None)).mono (K26 None)).mono (K27 None)).mono (K28 None)).mono (K29 None)).mono (K30 None)).mono (K31 None)).mono (K32 None)).mono (K33 None)).mono (K34 None)).mono (K35 None)).mono (K36 None)).mono (K37 None))
  have f22 := (hE21.mono (K37 None))
  refine Rl.yes rfl rfl (decide_eq_true hc10) (OpY.call en18 rfl rfl (rSame_w N r1.1 (Big.mk false [0, 0, 1]) v3 (osv (some b18) 0 3 3) _ Any (f21.mono vw_any) (own_row_any (pre := []) (o := 0) (n := 3) (cap := 3) (hL37.at 0 rfl rfl) f22 vw_any rfl rfl rfl hc11) r21 q21) ?_)
  rintro _ w38 hE22 ⟨rfl, -⟩
  have hL38 := hL37.ext hE22
  have K38 := ke hL37 hE22
  refine Rl.op (OpY.pick_t (t := (decide ((r1.2 : Int) = 0))) (v := (Value.bool r21)) rfl (decide_eq_true hc10) rfl ?_)
  refine Rl.op (OpY.move (v := (Value.bool r21)) rfl ?_)
  by_cases hc12 : r21 = true
  ·
   replace h := ite_t hc12 h
   refine Rl.yes rfl rfl hc12 (OpY.ldBoxA (vs := [(Value.bool r1.1.Negative), v3]) Tryd.underlying24 rfl ti24 rfl (hL38.at 8 rfl rfl) rfl rfl ?_)
   obtain ⟨r22, q22, h⟩ := bind_some h
   have f23 := (f21.mono (K38 None))
   refine Rl.yes rfl rfl hc12 (OpY.call en19 rfl rfl (bFormat_w N r1.1 v3 _ Any (hG.ext hL38.done) (f23.mono vw_any) r22 q22) ?_)
   rintro _ w39 hE23 ⟨rfl, -⟩
   have hL39 := hL38.ext hE23
   have K39 := ke hL38 hE23
   refine Rl.yes rfl rfl hc12 (OpY.sEql (x := r22) (y := awake_lit20) rfl rfl ?_)
   refine Rl.op (OpY.pick_t (t := r21) (v := (Value.bool (decide (r22 = awake_lit20)))) rfl hc12 rfl ?_)
   refine Rl.op (OpY.move (v := (Value.bool (decide (r22 = awake_lit20)))) rfl ?_)
   by_cases hc13 : r22 = awake_lit20
   ·
    replace h := ite_t hc13 h
    refine Rl.yes rfl rfl (decide_eq_true hc13) (OpY.move (v := (Value.int .i64 r10.2)) rfl ?_)
    refine Rl.yes rfl rfl (decide_eq_true hc13) (OpY.eql (x := r10.2) (y := 2) ((r10.2 : Int) = 2) rfl rfl Iff.rfl ?_)
    refine Rl.op (OpY.pick_t (t := (decide (r22 = awake_lit20))) (v := (Value.bool (decide ((r10.2 : Int) = 2)))) rfl (decide_eq_true hc13) rfl ?_)
    refine Rl.op (OpY.move (v := (Value.bool (decide ((r10.2 : Int) = 2)))) rfl ?_)
    by_cases hc14 : (r10.2 : Int) = 2
    ·
     replace h := ite_t hc14 h
     refine Rl.yes rfl rfl (decide_eq_true hc14) (OpY.move (v := (Value.int .i64 r11.2)) rfl ?_)
     refine Rl.yes rfl rfl (decide_eq_true hc14) (OpY.eql (x := r11.2) (y := 2) ((r11.2 : Int) = 2) rfl rfl Iff.rfl ?_)
     refine Rl.op (OpY.pick_t (t := (decide ((r10.2 : Int) = 2))) (v := (Value.bool (decide ((r11.2 : Int) = 2)))) rfl (decide_eq_true hc14) rfl ?_)
     refine Rl.op (OpY.move (v := (Value.bool (decide ((r11.2 : Int) = 2)))) rfl ?_)
     by_cases hc15 : (r11.2 : Int) = 2
     ·
      replace h := ite_t hc15 h
      refine Rl.yes rfl rfl (decide_eq_true hc15) (OpY.move (v := (Value.bool r14.2.2)) rfl ?_)
      refine Rl.op (OpY.pick_t (t := (decide ((r11.2 : Int) = 2))) (v := (Value.bool r14.2.2)) rfl (decide_eq_true hc15) rfl ?_)
      refine Rl.op (OpY.move (v := (Value.bool r14.2.2)) rfl ?_)
      by_cases hc16 : r14.2.2 = true
      ·
       replace h := ite_t hc16 h
       refine Rl.yes rfl rfl hc16 (OpY.move (v := (Value.bool r17.2.2)) rfl ?_)
       refine Rl.op (OpY.pick_t (t := r14.2.2) (v := (Value.bool r17.2.2)) rfl hc16 rfl ?_)
       refine Rl.op (OpY.move (v := (Value.bool r17.2.2)) rfl ?_)
       by_cases hc17 : r17.2.2 = true
       ·
        replace h := ite_t hc17 h
        refine Rl.yes rfl rfl hc17 (OpY.ldBoxA (vs := [(Value.bool r14.1.Negative), v14]) Tryd.underlying24 rfl ti24 rfl (hL39.at 5 rfl rfl) rfl rfl ?_)
        obtain ⟨r23, q23, h⟩ := bind_some h
        have f24 := (((((((((((((((((f14.mono (K23 None)).mono (K24 None)).mono (K25 None)).mono (K26 None)).mono (K27 None)).mono (K28 None)).mono (K29 None)).mono (K30 None)).mono (K31 None)).mono (K32 None)).mono (K33 None)).mono (K34 None)).mono (K35 None)).mono (K36 None)).mono (K37 None)).mono (K38 None)).mono (K39 None))
        refine Rl.yes rfl rfl hc17 (OpY.call en19 rfl rfl (bFormat_w N r14.1 v14 _ Any (hG.ext hL39.done) (f24.mono vw_any) r23 q23) ?_)
        rintro _ w40 hE24 ⟨rfl, -⟩
        have hL40 := hL39.ext hE24
        have K40 := ke hL39 hE24
        refine Rl.yes rfl rfl hc17 (OpY.sEql (x := r23) (y := ([45, 52] : List UInt8)) rfl rfl ?_)
        refine Rl.op (OpY.pick_t (t := r17.2.2) (v := (Value.bool (decide (r23 = ([45, 52] : List UInt8))))) rfl hc17 rfl ?_)
        refine Rl.op (OpY.move (v := (Value.bool (decide (r23 = ([45, 52] : List UInt8))))) rfl ?_)
        by_cases hc18 : r23 = ([45, 52] : List UInt8)
        ·
         replace h := ite_t hc18 h
         refine Rl.yes rfl rfl (decide_eq_true hc18) (OpY.ldBoxA (vs := [(Value.bool r14.2.1.Negative), v15]) Tryd.underlying24 rfl ti24 rfl (hL40.at 4 rfl rfl) rfl rfl ?_)
         obtain ⟨r24, q24, h⟩ := bind_some h
         have f25 := (((((((((((((((((f15.mono (K24 None)).mono (K25 None)).mono (K26 None)).mono (K27 None)).mono (K28 None)).mono (K29 None)).mono (K30 None)).mono (K31 None)).mono (K32 None)).mono (K33 None)).mono (K34 None)).mono (K35 None)).mono (K36 None)).mono (K37 None)).mono (K38 None)).mono (K39 None)).mono (K40 None))
         refine Rl.yes rfl rfl (decide_eq_true hc18) (OpY.call en19 rfl rfl (bFormat_w N r14.2.1 v15 _ Any (hG.ext hL40.done) (f25.mono vw_any) r24 q24) ?_)
         rintro _ w41 hE25 ⟨rfl, -⟩
         have hL41 := hL40.ext hE25
         have K41 := ke hL40 hE25
         refine Rl.yes rfl rfl (decide_eq_true hc18) (OpY.sEql (x := r24) (y := ([49] : List UInt8)) rfl rfl ?_)
         refine Rl.op (OpY.pick_t (t := (decide (r23 = ([45, 52] : List UInt8)))) (v := (Value.bool (decide (r24 = ([49] : List UInt8))))) rfl (decide_eq_true hc18) rfl ?_)
         refine Rl.op (OpY.move (v := (Value.bool (decide (r24 = ([49] : List UInt8))))) rfl ?_)
         by_cases hc19 : r24 = ([49] : List UInt8)
         ·
          replace h := ite_t hc19 h
          refine Rl.yes rfl rfl (decide_eq_true hc19) (OpY.ldBoxA (vs := [(Value.bool r17.1.Negative), v18]) Tryd.underlying24 rfl ti24 rfl (hL41.at 3 rfl rfl) rfl rfl ?_)
          obtain ⟨r25, q25, h⟩ := bind_some h
          have f26 := ((((((((((((f17.mono (K30 None)).mono (K31 None)).mono (K32 None)).mono (K33 None)).mono (K34 None)).mono (K35 None)).mono (K36 None)).mono (K37 None)).mono (K38 None)).mono (K39 None)).mono (K40 None)).mono (K41 None))
          refine Rl.yes rfl rfl (decide_eq_true hc19) (OpY.call en19 rfl rfl (bFormat_w N r17.1 v18 _ Any (hG.ext hL41.done) (f26.mono vw_any) r25 q25) ?_)
          rintro _ w42 hE26 ⟨rfl, -⟩
          have hL42 := hL41.ext hE26
          have K42 := ke hL41 hE26
          refine Rl.yes rfl rfl (decide_eq_true hc19) (OpY.sEql (x := r25) (y := ([45, 52] : List UInt8)) rfl rfl ?_)
          refine Rl.op (OpY.pick_t (t := (decide (r24 = ([49] : List UInt8)))) (v := (Value.bool (decide (r25 = ([45, 52] : List UInt8))))) rfl (decide_eq_true hc19) rfl ?_)
          refine Rl.op (OpY.move (v := (Value.bool (decide (r25 = ([45, 52] : List UInt8))))) rfl ?_)
          by_cases hc20 : r25 = ([45, 52] : List UInt8)
          ·
           replace h := ite_t hc20 h
           refine Rl.yes rfl rfl (decide_eq_true hc20) (OpY.ldBoxA (vs := [(Value.bool r17.2.1.Negative), v19]) Tryd.underlying24 rfl ti24 rfl (hL42.at 2 rfl rfl) rfl rfl ?_)
           obtain ⟨r26, q26, h⟩ := bind_some h
           have f27 := ((((((((((((f18.mono (K31 None)).mono (K32 None)).mono (K33 None)).mono (K34 None)).mono (K35 None)).mono (K36 None)).mono (K37 None)).mono (K38 None)).mono (K39 None)).mono (K40 None)).mono (K41 None)).mono (K42 None))
           refine Rl.yes rfl rfl (decide_eq_true hc20) (OpY.call en19 rfl rfl (bFormat_w N r17.2.1 v19 _ Any (hG.ext hL42.done) (f27.mono vw_any) r26 q26) ?_)
           rintro _ w43 hE27 ⟨rfl, -⟩
           have hL43 := hL42.ext hE27
           have K43 := ke hL42 hE27
           refine Rl.yes rfl rfl (decide_eq_true hc20) (OpY.sEql (x := r26) (y := ([45, 49] : List UInt8)) rfl rfl ?_)
           refine Rl.op (OpY.pick_t (t := (decide (r25 = ([45, 52] : List UInt8)))) (v := (Value.bool (decide (r26 = ([45, 49] : List UInt8))))) rfl (decide_eq_true hc20) rfl ?_)
           refine Rl.op (OpY.move (v := (Value.bool (decide (r26 = ([45, 49] : List UInt8))))) rfl ?_)
           by_cases hc21 : r26 = ([45, 49] : List UInt8)
           ·
            replace h := ite_t hc21 h
            refine Rl.yes rfl rfl (decide_eq_true hc21) (OpY.ldBoxA (vs := [(Value.bool r20.Negative), v22]) Tryd.underlying24 rfl ti24 rfl (hL43.at 1 rfl rfl) rfl rfl ?_)
            obtain ⟨r27, q27, h⟩ := bind_some h
            have f28 := ((((((((f20.mono (K36 None)).mono (K37 None)).mono (K38 None)).mono (K39 None)).mono (K40 None)).mono (K41 None)).mono (K42 None)).mono (K43 None))
            refine Rl.yes rfl rfl (decide_eq_true hc21) (OpY.call en19 rfl rfl (bFormat_w N r20 v22 _ Any (hG.ext hL43.done) (f28.mono vw_any) r27 q27) ?_)
            rintro _ w44 hE28 ⟨rfl, -⟩
            have hL44 := hL43.ext hE28
            refine Rl.yes rfl rfl (decide_eq_true hc21) (OpY.sEql (x := r27) (y := ([54] : List UInt8)) rfl rfl ?_)
            refine Rl.op (OpY.pick_t (t := (decide (r26 = ([45, 49] : List UInt8)))) (v := (Value.bool (decide (r27 = ([54] : List UInt8))))) rfl (decide_eq_true hc21) rfl ?_)
            refine Rl.op (OpY.assign (v := (Value.bool (decide (r27 = ([54] : List UInt8))))) rfl ?_)
            refine Rl.nil (Swp.ret ?_)
            obtain rfl := Option.some.inj h
            refine ⟨[(Value.bool (decide (r27 = ([54] : List UInt8))))], ⟨rfl, trivial⟩, ⟨_, rfl, hL44.done, ?_⟩⟩
            exact ⟨rfl, trivial⟩
           ·
            exact absurd ((Option.some.inj (ite_f hc21 h)).trans hr) Bool.false_ne_true
          ·
           exact absurd ((Option.some.inj (ite_f hc20 h)).trans hr) Bool.false_ne_true
         ·
          exact absurd ((Option.some.inj (ite_f hc19 h)).trans hr) Bool.false_ne_true
        ·
         exact absurd ((Option.some.inj (ite_f hc18 h)).trans hr) Bool.false_ne_true
       ·
        exact absurd ((Option.some.inj (ite_f hc17 h)).trans hr) Bool.false_ne_true
      ·
       exact absurd ((Option.some.inj (ite_f hc16 h)).trans hr) Bool.false_ne_true
     ·
      exact absurd ((Option.some.inj (ite_f hc15 h)).trans hr) Bool.false_ne_true
    ·
     exact absurd ((Option.some.inj (ite_f hc14 h)).trans hr) Bool.false_ne_true
   ·
    exact absurd ((Option.some.inj (ite_f hc13 h)).trans hr) Bool.false_ne_true
  ·
   exact absurd ((Option.some.inj (ite_f hc12 h)).trans hr) Bool.false_ne_true
 ·
  exact absurd ((Option.some.inj (ite_f hc10 h)).trans hr) Bool.false_ne_true
theorem awake_w (N : Nat) (w : World) (S : Nat → Prop) (hG : G w) (r : Bool) (h : awake N = some r) :
  Calls Tryd.prog 13 #[] w (Ret w (fun v w' => (Value.bool r) = v ∧ True)) := awake_w0 N w S hG r h (awake_true h)

theorem lawRemainder_w (N : Nat) (a : Big) (b : Big) (a_v : Value) (b_v : Value) (w : World) (S : Nat → Prop) (hG : G w) (a_h : Rs (rInt .u32) (Hv w.heap.size S [] w) a_v a.Digits) (b_h : Rs (rInt .u32) (Hv w.heap.size S [] w) b_v b.Digits) (r : Bool) (h : lawRemainder N a b = some r) :
  Calls Tryd.prog 12 #[(Value.agg #[(Value.bool a.Negative), a_v]), (Value.agg #[(Value.bool b.Negative), b_v])] w (Ret w (fun v w' => (Value.bool r) = v ∧ True)) := by
 unfold lawRemainder at h
 have hL : Go.X.Loc [] [] w w [] [] := Go.X.Loc.begin0 w
 refine calls_of (l := [(Value.agg #[(Value.bool a.Negative), a_v]), (Value.agg #[(Value.bool b.Negative), b_v])]) (rl := [.tmp 4]) (n := 74) Tryd.func12 rfl rfl rfl (Nat.le_of_ble_eq_true rfl) ?_
 refine Swp.seq (Swp.region rfl (Rl.op (OpY.box (cs := [(Value.bool a.Negative), a_v]) rfl rfl hL ?_)))
 intro b1 w2 hL3 hS5
 have K4 := ks w hS5
 refine Rl.op (OpY.box (cs := [(Value.bool b.Negative), b_v]) rfl rfl hL3 ?_)
 intro b6 w7 hL8 hS10
 have K9 := ks w hS10
 refine Rl.op (OpY.assign (v := (Value.bool false)) rfl ?_)
 refine Rl.nil (Swp.seq (Swp.seq ?_))
 obtain ⟨s10, h, g10⟩ := bind_some h
 refine Swp.join (fun e w' => ∃ (x10 : Bool) (u : Env), x10 = s10 ∧ e = upds [(2, (Value.pointer (some ⟨b1, 0, none⟩))), (3, (Value.pointer (some ⟨b6, 0, none⟩))), (16, (Value.bool x10))] u ∧ Go.X.Loc [] [] w w' [some b1, some b6] [Cont.cells [(Value.bool a.Negative), a_v], Cont.cells [(Value.bool b.Negative), b_v]] ∧ Keep w.heap.size [some b6, some b1] w7 [some b1, some b6] w' ∧ True) ?_ ?_
 ·
  refine Swp.region rfl ?_
  obtain ⟨r10, q10, h⟩ := bind_some h
  refine Rl.op (OpY.call en13 rfl rfl (awake_w N _ Any (hG.ext hL8.done) r10 q10) ?_)
  rintro _ w10 hE10 ⟨rfl, -⟩
  have hL10 := hL8.ext hE10
  have K10 := ke hL8 hE10
  refine Rl.op (OpY.not (x := r10) rfl ?_)
  refine Rl.op (OpY.move (v := (Value.bool (!r10))) rfl ?_)
  by_cases hc10 : (!r10) = true
  ·
   replace h := ite_t hc10 h
   refine Rl.no rfl rfl hc10 ?_
   refine Rl.no rfl rfl hc10 ?_
   refine Rl.no rfl rfl hc10 ?_
   refine Rl.no rfl rfl hc10 ?_
   refine Rl.no rfl rfl hc10 ?_
   refine Rl.op (OpY.pick_t (t := (!r10)) (v := (Value.bool true)) rfl hc10 rfl ?_)
   refine Rl.nil ?_
   have hp10 := hL10.pick [1, 0] rfl rfl rfl
   have hL11 : Go.X.Loc [] [] w w10 [some b1, some b6] [Cont.cells [(Value.bool a.Negative), a_v], Cont.cells [(Value.bool b.Negative), b_v]] := hp10.1
   have K11 := ks w hp10.2
   obtain rfl := Option.some.inj h
   refine Swp.pop_back ?_
   exact ⟨true, _, rfl, (upds_sym ⟨rfl, rfl, rfl, trivial⟩), hL11, (Keep.trans K10 K11), trivial⟩
  ·
   replace h := ite_f hc10 h
   refine Rl.yes rfl rfl (eq_false_of_ne_true hc10) (OpY.ldBoxA (vs := [(Value.bool a.Negative), a_v]) Tryd.underlying24 rfl ti24 rfl (hL10.at 1 rfl rfl) rfl rfl ?_)
   refine Rl.yes rfl rfl (eq_false_of_ne_true hc10) (OpY.ldBoxA (vs := [(Value.bool b.Negative), b_v]) Tryd.underlying24 rfl ti24 rfl (hL10.at 0 rfl rfl) rfl rfl ?_)
   have f10 := (((b_h.mono (K4 S)).mono (K9 S)).mono (K10 S))
   have f11 := (((a_h.mono (K4 S)).mono (K9 S)).mono (K10 S))
   have hE11 : Els rBig (Hv w.heap.size S [some b6, some b1] w10) [(Value.bool a.Negative), a_v, (Value.bool b.Negative), b_v] [a, b] := (Els.cons (a := [(Value.bool a.Negative), a_v]) (rBig_close ⟨a_v, rfl, f11, trivial⟩) (Els.cons (a := [(Value.bool b.Negative), b_v]) (rBig_close ⟨b_v, rfl, f10, trivial⟩) Els.nil))
   refine Rl.yes rfl rfl (eq_false_of_ne_true hc10) (OpY.litRow (r := rBig) (vs := [(Value.agg #[(Value.bool a.Negative), a_v]), (Value.agg #[(Value.bool b.Negative), b_v])]) (css := [[(Value.bool a.Negative), a_v], [(Value.bool b.Negative), b_v]]) (xs := [a, b]) Tryd.underlying45 ti24 (Nat.le_of_ble_eq_true rfl) rfl rfl ⟨rfl, rfl, ⟨rfl, rfl, trivial⟩⟩ (Nat.le_of_ble_eq_true rfl) hE11 rfl hL10 ?_)
   intro b10 w11 hc11 hL12 hS11
   have K12 := ks w hS11
   obtain ⟨r11, q11, h⟩ := bind_some h
   have f12 := (hE11.mono (K12 S))
   refine Rl.yes rfl rfl (eq_false_of_ne_true hc10) (OpY.call en14 rfl rfl (lsmall_w N [a, b] (osv (some b10) 0 2 2) _ Any (own_row_any (pre := []) (o := 0) (n := 2) (cap := 2) (hL12.at 0 rfl rfl) f12 vw_any rfl rfl rfl hc11) r11 q11) ?_)
   rintro _ w12 hE12 ⟨rfl, -⟩
   have hL13 := hL12.ext hE12
   have K13 := ke hL12 hE12
   refine Rl.yes rfl rfl (eq_false_of_ne_true hc10) (OpY.not (x := r11) rfl ?_)
   refine Rl.op (OpY.pick_f (t := (!r10)) (v := (Value.bool (!r11))) rfl (eq_false_of_ne_true hc10) rfl ?_)
   refine Rl.nil ?_
   have hp11 := hL13.pick [2, 1] rfl rfl rfl
   have hL14 : Go.X.Loc [] [] w w12 [some b1, some b6] [Cont.cells [(Value.bool a.Negative), a_v], Cont.cells [(Value.bool b.Negative), b_v]] := hp11.1
   have K14 := ks w hp11.2
   obtain rfl := Option.some.inj h
   refine Swp.pop_back ?_
   exact ⟨(!r11), _, rfl, (upds_sym ⟨rfl, rfl, rfl, trivial⟩), hL14, (Keep.trans (Keep.trans (Keep.trans K10 K12) K13) K14), trivial⟩
 ·
  rintro _ w13 ⟨x10, u, rfl, rfl, hL15, K15, -⟩
  replace h := g10
  try dsimp only at h
  refine Swp.cond_b x10 rfl (fun hc12 => ?_) (fun hc12 => ?_)
  ·
   replace h := ite_t hc12 h
   refine Swp.seq (Swp.region rfl ?_)
   obtain ⟨r12, q12, h⟩ := bind_some h
   refine Rl.op (OpY.call en13 rfl rfl (awake_w N _ Any (hG.ext hL15.done) r12 q12) ?_)
   rintro _ w14 hE13 ⟨rfl, -⟩
   have hL16 := hL15.ext hE13
   refine Rl.op (OpY.assign (v := (Value.bool r12)) rfl ?_)
   refine Rl.nil (Swp.ret ?_)
   obtain rfl := Option.some.inj h
   refine ⟨[(Value.bool r12)], ⟨rfl, trivial⟩, ⟨_, rfl, hL16.done, ?_⟩⟩
   exact ⟨rfl, trivial⟩
  ·
   replace h := ite_f hc12 h
   refine Swp.skip (Swp.seq ?_)
   obtain ⟨r13, q13, h⟩ := bind_some h
   obtain ⟨r14, q14, h⟩ := bind_some h
   obtain ⟨r15, q15, h⟩ := bind_some h
   refine Swp.drawL 11 [] [7, 8] (fun W1 => [.det (Value.agg #[(Value.bool a.Negative), a_v]), .rel (fun v Z w' => ∃ v10, (Value.agg #[(Value.bool r13.Negative), v10]) = v ∧ Rs (rInt .u32) (Zv W1 w.heap.size None [some b1, some b6] Z w') v10 r13.Digits ∧ True) (fun _ => []), .det (Value.agg #[(Value.bool b.Negative), b_v]), .rel (fun v Z w' => ∃ v11, (Value.agg #[(Value.bool r14.Negative), v11]) = v ∧ Rs (rInt .u32) (Zv W1 w.heap.size None [some b1, some b6] Z w') v11 r14.Digits ∧ True) (fun _ => []), .rel (fun v Z w' => ∃ v12 v13, (Value.tuple #[(Value.agg #[(Value.bool r15.1.Negative), v12]), (Value.agg #[(Value.bool r15.2.1.Negative), v13]), (Value.bool r15.2.2)]) = v ∧ Rs (rInt .u32) (Zv W1 w.heap.size None [some b1, some b6] Z w') v12 r15.1.Digits ∧ Rs (rInt .u32) (Zv W1 w.heap.size None [some b1, some b6] Z w') v13 r15.2.1.Digits ∧ True) (fun _ => []), .rel (fun v Z w' => ∃ v14 v15, (Value.tuple #[(Value.agg #[(Value.bool r15.1.Negative), v14]), (Value.agg #[(Value.bool r15.2.1.Negative), v15]), (Value.bool r15.2.2)]) = v ∧ Rs (rInt .u32) (Zv W1 w.heap.size None [some b1, some b6] Z w') v14 r15.1.Digits ∧ Rs (rInt .u32) (Zv W1 w.heap.size None [some b1, some b6] Z w') v15 r15.2.1.Digits ∧ True) (fun _ => []), .fn 5 (tg 0), .fn 5 (tg 1), .fn 5 (tg 2), .rel (fun v Z w' => ∃ b11, (Value.pointer (some ⟨b11, 0, none⟩)) = v ∧ OwnC w' (some b11) (Cont.cells [(Value.bool false), (Value.slice none 0 0)]) ∧ True) footV, .rel (fun v Z w' => ∃ b12, (Value.pointer (some ⟨b12, 0, none⟩)) = v ∧ OwnC w' (some b12) (Cont.cells [(Value.bool false), (Value.slice none 0 0)]) ∧ True) footV]) mixed rfl rfl rfl (fun _ => rfl) (fun _ => rfl) ?_ ?_
   ·
    intro W1 _
    exact ⟨fun v Z Z' w w' hΦ hz _ _ hs => by obtain ⟨v10, rfl, k10, -⟩ := hΦ; exact ⟨v10, rfl, (k10.mono (Zv.stay hz hs)), trivial⟩, ⟨fun v Z Z' w w' hΦ hz _ _ hs => by obtain ⟨v11, rfl, k11, -⟩ := hΦ; exact ⟨v11, rfl, (k11.mono (Zv.stay hz hs)), trivial⟩, ⟨fun v Z Z' w w' hΦ hz _ _ hs => by obtain ⟨v12, v13, rfl, k12, k13, -⟩ := hΦ; exact ⟨v12, v13, rfl, (k12.mono (Zv.stay hz hs)), (k13.mono (Zv.stay hz hs)), trivial⟩, ⟨fun v Z Z' w w' hΦ hz _ _ hs => by obtain ⟨v14, v15, rfl, k14, k15, -⟩ := hΦ; exact ⟨v14, v15, rfl, (k14.mono (Zv.stay hz hs)), (k15.mono (Zv.stay hz hs)), trivial⟩, ⟨fun v Z Z' w w' hΦ hz _ _ hs => by obtain ⟨b11, rfl, hO10, -⟩ := hΦ; exact ⟨b11, rfl, (hO10.stay (fun b hb => by cases hb; exact List.mem_cons_self) hs), trivial⟩, ⟨fun v Z Z' w w' hΦ hz _ _ hs => by obtain ⟨b12, rfl, hO11, -⟩ := hΦ; exact ⟨b12, rfl, (hO11.stay (fun b hb => by cases hb; exact List.mem_cons_self) hs), trivial⟩, trivial⟩⟩⟩⟩⟩⟩
   ·
    intro w15 hE14
    have hL17 := hL15.ext hE14
    have K16 := ke hL15 hE14
    refine DrH.de (fun _ hE15 => GOp.op (OpY.ldBoxA (vs := [(Value.bool a.Negative), a_v]) Tryd.underlying24 rfl ti24 rfl ((hL17.ext hE15).at 0 rfl rfl) rfl rfl (er rfl))) ?_
    refine DrH.rel ?_ ?_
    ·
     rintro w17 Z13 hE16 hZ11 ⟨-⟩
     have K17 := ke hL17 hE16
     refine GOp.op (OpY.call en16 rfl rfl (lcp_w N a a_v _ Any ((((((a_h.mono (K4 S)).mono (K9 S)).mono (K15 S)).mono (K16 S)).mono (K17 S)).mono vw_any) r13 q13) ?_)
     rintro _ w18 hE17 ⟨v10, rfl, k10, -⟩
     exact Made.ext hE17 hZ11 NewOwn.nil (fun _ h => h) ⟨v10, rfl, (k10.mono Zv.made), trivial⟩
    intro z1
    refine DrH.de (fun _ hE18 => GOp.op (OpY.ldBoxA (vs := [(Value.bool b.Negative), b_v]) Tryd.underlying24 rfl ti24 rfl ((hL17.ext hE18).at 1 rfl rfl) rfl rfl (er rfl))) ?_
    refine DrH.rel ?_ ?_
    ·
     rintro w20 Z15 hE19 hZ13 ⟨⟨⟨v10, rfl, k10, -⟩, hB1⟩, -⟩
     have K18 := ke hL17 hE19
     refine GOp.op (OpY.call en16 rfl rfl (lcp_w N b b_v _ Any ((((((b_h.mono (K4 S)).mono (K9 S)).mono (K15 S)).mono (K16 S)).mono (K18 S)).mono vw_any) r14 q14) ?_)
     rintro _ w21 hE20 ⟨v11, rfl, k11, -⟩
     exact Made.ext hE20 hZ13 NewOwn.nil (fun _ h => h) ⟨v11, rfl, (k11.mono Zv.made), trivial⟩
    intro z3
    refine DrH.rel ?_ ?_
    ·
     rintro w22 Z16 hE21 hZ14 ⟨⟨⟨v11, rfl, k11, -⟩, hB3⟩, ⟨⟨v10, rfl, k10, -⟩, hB1⟩, -⟩
     refine GOp.op (OpY.call en15 rfl rfl (bDivFloor_w N r13 r14 v10 v11 _ Any (k10.mono vw_any) (k11.mono vw_any) r15 q15) ?_)
     rintro _ w23 hE22 ⟨v12, v13, rfl, k12, k13, -⟩
     exact Made.ext hE22 hZ14 NewOwn.nil (fun _ h => h) ⟨v12, v13, rfl, (k12.mono Zv.made), (k13.mono Zv.made), trivial⟩
    intro z4
    refine DrH.rel ?_ ?_
    ·
     rintro w24 Z17 hE23 hZ15 ⟨⟨⟨v12, v13, rfl, k12, k13, -⟩, hB4⟩, -, -, -⟩
     refine GOp.op (OpY.move (v := (Value.tuple #[(Value.agg #[(Value.bool r15.1.Negative), v12]), (Value.agg #[(Value.bool r15.2.1.Negative), v13]), (Value.bool r15.2.2)])) rfl ?_)
     exact Go.X.Made.same ⟨v12, v13, rfl, k12, k13, trivial⟩
    intro z5
    refine DrH.fn rfl ?_ ?_
    ·
     rintro w25 Z18 hE24 hZ16 ⟨⟨⟨v14, v15, rfl, k14, k15, -⟩, hB5⟩, -, -, -, -⟩
     refine GOp.op (OpY.extract (vs := [(Value.agg #[(Value.bool r15.1.Negative), v14]), (Value.agg #[(Value.bool r15.2.1.Negative), v15]), (Value.bool r15.2.2)]) (v := (Value.agg #[(Value.bool r15.1.Negative), v14])) rfl rfl ?_)
     exact ⟨Ext.refl _, rfl⟩
    refine DrH.fn rfl ?_ ?_
    ·
     rintro w26 Z19 hE25 hZ17 ⟨⟨⟨v14, v15, rfl, k14, k15, -⟩, hB5⟩, -, -, -, -⟩
     refine GOp.op (OpY.extract (vs := [(Value.agg #[(Value.bool r15.1.Negative), v14]), (Value.agg #[(Value.bool r15.2.1.Negative), v15]), (Value.bool r15.2.2)]) (v := (Value.agg #[(Value.bool r15.2.1.Negative), v15])) rfl rfl ?_)
     exact ⟨Ext.refl _, rfl⟩
    refine DrH.fn rfl ?_ ?_
    ·
     rintro w27 Z20 hE26 hZ18 ⟨⟨⟨v14, v15, rfl, k14, k15, -⟩, hB5⟩, -, -, -, -⟩
     refine GOp.op (OpY.extract (vs := [(Value.agg #[(Value.bool r15.1.Negative), v14]), (Value.agg #[(Value.bool r15.2.1.Negative), v15]), (Value.bool r15.2.2)]) (v := (Value.bool r15.2.2)) rfl rfl ?_)
     exact ⟨Ext.refl _, rfl⟩
    refine DrH.rel ?_ ?_
    ·
     rintro w28 Z21 hE27 hZ19 ⟨-, -, -, -, -⟩
     refine GOp.op (OpY.alloc (cs := [(Value.bool false), (Value.slice none 0 0)]) ti24 rfl (Go.X.Loc.begin0 w28) ?_)
     intro b11 w29 hL20 hS12
     have hN10 : NewOwn w28 w29 [some b11] [Cont.cells [(Value.bool false), (Value.slice none 0 0)]] := hL20.newOwn [0] rfl rfl rfl
     exact Made.ext hL20.done hZ19 hN10 (fun _ h => h) ⟨b11, rfl, hN10.2.2.1, trivial⟩
    intro z9
    refine DrH.rel ?_ ?_
    ·
     rintro w30 Z22 hE28 hZ20 ⟨-, -, -, -, -, -⟩
     refine GOp.op (OpY.alloc (cs := [(Value.bool false), (Value.slice none 0 0)]) ti24 rfl (Go.X.Loc.begin0 w30) ?_)
     intro b12 w31 hL21 hS13
     have hN11 : NewOwn w30 w31 [some b12] [Cont.cells [(Value.bool false), (Value.slice none 0 0)]] := hL21.newOwn [0] rfl rfl rfl
     exact Made.ext hL21.done hZ20 hN11 (fun _ h => h) ⟨b12, rfl, hN11.2.2.1, trivial⟩
    intro z10
    refine DrH.fin ?_
    rintro w32 Z23 hE29 hZ21 ⟨⟨⟨b12, rfl, hO11, -⟩, hB10⟩, ⟨⟨b11, rfl, hO10, -⟩, hB9⟩, ⟨⟨v14, v15, rfl, k14, k15, -⟩, hB5⟩, ⟨⟨v12, v13, rfl, k12, k13, -⟩, hB4⟩, ⟨⟨v11, rfl, k11, -⟩, hB3⟩, ⟨⟨v10, rfl, k10, -⟩, hB1⟩, -⟩ ap10
    have hB11 : ∀ b, some b ∈ ([some b12, some b11] : List (Option Nat)) → w15.heap.size ≤ b ∧ ¬ Z23 b := by
     intro b hb
     rcases List.mem_cons.1 hb with hb' | hb
     ·
      have := hB10 b (by rw [hb']; exact List.mem_cons_self); exact ⟨this.1, this.2.2⟩
     rcases List.mem_cons.1 hb with hb' | hb
     ·
      have := hB9 b (by rw [hb']; exact List.mem_cons_self); exact ⟨this.1, this.2.2⟩
     cases hb
    replace k14 := k14.mono (Zv.fin hL17 hZ21 hB11)
    replace k15 := k15.mono (Zv.fin hL17 hZ21 hB11)
    replace k12 := k12.mono (Zv.fin hL17 hZ21 hB11)
    replace k13 := k13.mono (Zv.fin hL17 hZ21 hB11)
    replace k11 := k11.mono (Zv.fin hL17 hZ21 hB11)
    replace k10 := k10.mono (Zv.fin hL17 hZ21 hB11)
    have hN12 : NewOwn w15 w32 [some b12, some b11] [Cont.cells [(Value.bool false), (Value.slice none 0 0)], Cont.cells [(Value.bool false), (Value.slice none 0 0)]] := (NewOwn.cons (NewOwn.cons NewOwn.nil hO10 (fun b hb => (hB11 b (by rw [← hb]; simp)).1) (fun b _ hb => by cases hb)) hO11 (fun b hb => (hB11 b (by rw [← hb]; simp)).1) (fun b hb hm => (List.mem_cons.1 hm).elim (fun e => apE (ap10.1) rfl rfl b (hb) ((by rw [e]; exact List.mem_cons_self))) (fun hm => by cases hm)))
    have hp12 := hL17.adoptL hE29 hN12
    have hL22 := hp12.1
    have K19 := ks w hp12.2
    refine RlL.op0 (OpY.store (vs := [(Value.bool r15.1.Negative), v14]) ti24 rfl rfl rfl rfl (ones_cons rfl (ones_cons k14.one ones_nil)) hL22 1 rfl rfl (Nat.le_of_ble_eq_true rfl) ?_)
    intro w33 (hL23 : Go.X.Loc [] [] w w33 [some b12, some b11, some b1, some b6] [Cont.cells [(Value.bool false), (Value.slice none 0 0)], Cont.cells [(Value.bool r15.1.Negative), v14], Cont.cells [(Value.bool a.Negative), a_v], Cont.cells [(Value.bool b.Negative), b_v]]) hS14
    have K20 := ks w hS14
    refine ⟨?_, ?_⟩
    ·
     refine LateP.cons (i := 7) rfl rfl (GOp.op (OpY.extract (vs := [(Value.agg #[(Value.bool r15.1.Negative), v14]), (Value.agg #[(Value.bool r15.2.1.Negative), v15]), (Value.bool r15.2.2)]) (v := (Value.agg #[(Value.bool r15.2.1.Negative), v15])) rfl rfl ⟨rfl, rfl⟩)) ?_
     refine LateP.cons (i := 8) rfl rfl (GOp.op (OpY.extract (vs := [(Value.agg #[(Value.bool r15.1.Negative), v14]), (Value.agg #[(Value.bool r15.2.1.Negative), v15]), (Value.bool r15.2.2)]) (v := (Value.bool r15.2.2)) rfl rfl ⟨rfl, rfl⟩)) ?_
     exact LateP.nil
    have f13 := (k15.mono (K20 None))
    refine RlL.op0 (OpY.store (vs := [(Value.bool r15.2.1.Negative), v15]) ti24 rfl rfl rfl rfl (ones_cons rfl (ones_cons f13.one ones_nil)) hL23 0 rfl rfl (Nat.le_of_ble_eq_true rfl) ?_)
    intro w34 (hL24 : Go.X.Loc [] [] w w34 [some b12, some b11, some b1, some b6] [Cont.cells [(Value.bool r15.2.1.Negative), v15], Cont.cells [(Value.bool r15.1.Negative), v14], Cont.cells [(Value.bool a.Negative), a_v], Cont.cells [(Value.bool b.Negative), b_v]]) hS15
    have K21 := ks w hS15
    refine ⟨?_, ?_⟩
    ·
     refine LateP.cons (i := 8) rfl rfl (GOp.op (OpY.extract (vs := [(Value.agg #[(Value.bool r15.1.Negative), v14]), (Value.agg #[(Value.bool r15.2.1.Negative), v15]), (Value.bool r15.2.2)]) (v := (Value.bool r15.2.2)) rfl rfl ⟨rfl, rfl⟩)) ?_
     exact LateP.nil
    refine RlL.op (OpY.assign (v := (Value.bool r15.2.2)) rfl ?_)
    refine ⟨?_, ?_⟩
    ·
     exact LateP.nil
    refine RlL_nil ?_
    refine Rl.nil (Swp.seq (Swp.seq (Swp.region rfl (Rl.op (OpY.move (v := (Value.bool r15.2.2)) rfl ?_)))))
    refine Rl.op (OpY.not (x := r15.2.2) rfl ?_)
    refine Rl.nil ?_
    refine Swp.cond_b (!r15.2.2) rfl (fun hc13 => ?_) (fun hc13 => ?_)
    ·
     replace h := ite_t hc13 h
     refine Swp.seq (Swp.region rfl (Rl.op (OpY.ldBoxA (vs := [(Value.bool b.Negative), b_v]) Tryd.underlying24 rfl ti24 rfl (hL24.at 3 rfl rfl) rfl rfl ?_)))
     obtain ⟨r16, q16, h⟩ := bind_some h
     have f14 := (((((((b_h.mono (K4 S)).mono (K9 S)).mono (K15 S)).mono (K16 S)).mono (K19 S)).mono (K20 S)).mono (K21 S))
     refine Rl.op (OpY.call en16 rfl rfl (lcp_w N b b_v _ Any (f14.mono vw_any) r16 q16) ?_)
     rintro _ w35 hE30 ⟨v16, rfl, k16, -⟩
     replace k16 := k16.mono (Hv.freshO (S := None) hL24 [])
     have hL25 := hL24.ext hE30
     obtain ⟨r17, q17, h⟩ := bind_some h
     refine Rl.op (OpY.call en28 rfl rfl (bSign_w N r16 v16 _ Any (k16.mono vw_any) r17 q17) ?_)
     rintro _ w36 hE31 ⟨rfl, -⟩
     have hL26 := hL25.ext hE31
     refine Rl.op (OpY.eql (x := r17) (y := 0) ((r17 : Int) = 0) rfl rfl Iff.rfl ?_)
     refine Rl.op (OpY.assign (v := (Value.bool (decide ((r17 : Int) = 0)))) rfl ?_)
     refine Rl.nil (Swp.ret ?_)
     obtain rfl := Option.some.inj h
     refine ⟨[(Value.bool (decide ((r17 : Int) = 0)))], ⟨rfl, trivial⟩, ⟨_, rfl, hL26.done, ?_⟩⟩
     exact ⟨rfl, trivial⟩
    ·
     replace h := ite_f hc13 h
     refine Swp.skip (Swp.seq (Swp.seq ?_))
     obtain ⟨r18, q18, h⟩ := bind_some h
     obtain ⟨r19, q19, h⟩ := bind_some h
     obtain ⟨r20, q20, h⟩ := bind_some h
     obtain ⟨r21, q21, h⟩ := bind_some h
     obtain ⟨r22, q22, h⟩ := bind_some h
     refine Swp.drawL 9 [] [] (fun W1 => [.det (Value.agg #[(Value.bool r15.1.Negative), v14]), .rel (fun v Z w' => ∃ v17, (Value.agg #[(Value.bool r18.Negative), v17]) = v ∧ Rs (rInt .u32) (Zv W1 w.heap.size None [some b12, some b11, some b1, some b6] Z w') v17 r18.Digits ∧ True) (fun _ => []), .det (Value.agg #[(Value.bool b.Negative), b_v]), .rel (fun v Z w' => ∃ v18, (Value.agg #[(Value.bool r19.Negative), v18]) = v ∧ Rs (rInt .u32) (Zv W1 w.heap.size None [some b12, some b11, some b1, some b6] Z w') v18 r19.Digits ∧ True) (fun _ => []), .rel (fun v Z w' => ∃ v19, (Value.agg #[(Value.bool r20.Negative), v19]) = v ∧ Rs (rInt .u32) (Zv W1 w.heap.size None [some b12, some b11, some b1, some b6] Z w') v19 r20.Digits ∧ True) (fun _ => []), .det (Value.agg #[(Value.bool r15.2.1.Negative), v15]), .rel (fun v Z w' => ∃ v20, (Value.agg #[(Value.bool r21.Negative), v20]) = v ∧ Rs (rInt .u32) (Zv W1 w.heap.size None [some b12, some b11, some b1, some b6] Z w') v20 r21.Digits ∧ True) (fun _ => []), .rel (fun v Z w' => ∃ v21, (Value.agg #[(Value.bool r22.Negative), v21]) = v ∧ Rs (rInt .u32) (Zv W1 w.heap.size None [some b12, some b11, some b1, some b6] Z w') v21 r22.Digits ∧ True) (fun _ => []), .det (Value.agg #[(Value.bool a.Negative), a_v])]) mixed rfl rfl rfl (fun _ => rfl) (fun _ => rfl) ?_ ?_
     ·
      intro W1 _
      exact ⟨fun v Z Z' w w' hΦ hz _ _ hs => by obtain ⟨v17, rfl, k17, -⟩ := hΦ; exact ⟨v17, rfl, (k17.mono (Zv.stay hz hs)), trivial⟩, ⟨fun v Z Z' w w' hΦ hz _ _ hs => by obtain ⟨v18, rfl, k18, -⟩ := hΦ; exact ⟨v18, rfl, (k18.mono (Zv.stay hz hs)), trivial⟩, ⟨fun v Z Z' w w' hΦ hz _ _ hs => by obtain ⟨v19, rfl, k19, -⟩ := hΦ; exact ⟨v19, rfl, (k19.mono (Zv.stay hz hs)), trivial⟩, ⟨fun v Z Z' w w' hΦ hz _ _ hs => by obtain ⟨v20, rfl, k20, -⟩ := hΦ; exact ⟨v20, rfl, (k20.mono (Zv.stay hz hs)), trivial⟩, ⟨fun v Z Z' w w' hΦ hz _ _ hs => by obtain ⟨v21, rfl, k21, -⟩ := hΦ; exact ⟨v21, rfl, (k21.mono (Zv.stay hz hs)), trivial⟩, trivial⟩⟩⟩⟩⟩
     ·
      intro w37 hE32
      have hL27 := hL24.ext hE32
      have K22 := ke hL24 hE32
      refine DrH.de (fun _ hE33 => GOp.op (OpY.ldBoxA (vs := [(Value.bool r15.1.Negative), v14]) Tryd.underlying24 rfl ti24 rfl ((hL27.ext hE33).at 1 rfl rfl) rfl rfl (er rfl))) ?_
      refine DrH.rel ?_ ?_
      ·
       rintro w39 Z25 hE34 hZ23 ⟨-⟩
       have K23 := ke hL27 hE34
       refine GOp.op (OpY.call en16 rfl rfl (lcp_w N r15.1 v14 _ Any (((((k14.mono (K20 None)).mono (K21 None)).mono (K22 None)).mono (K23 None)).mono vw_any) r18 q18) ?_)
       rintro _ w40 hE35 ⟨v17, rfl, k17, -⟩
       exact Made.ext hE35 hZ23 NewOwn.nil (fun _ h => h) ⟨v17, rfl, (k17.mono Zv.made), trivial⟩
      intro z1
      refine DrH.de (fun _ hE36 => GOp.op (OpY.ldBoxA (vs := [(Value.bool b.Negative), b_v]) Tryd.underlying24 rfl ti24 rfl ((hL27.ext hE36).at 3 rfl rfl) rfl rfl (er rfl))) ?_
      refine DrH.rel ?_ ?_
      ·
       rintro w42 Z27 hE37 hZ25 ⟨⟨⟨v17, rfl, k17, -⟩, hB1⟩, -⟩
       have K24 := ke hL27 hE37
       refine GOp.op (OpY.call en16 rfl rfl (lcp_w N b b_v _ Any ((((((((((b_h.mono (K4 S)).mono (K9 S)).mono (K15 S)).mono (K16 S)).mono (K19 S)).mono (K20 S)).mono (K21 S)).mono (K22 S)).mono (K24 S)).mono vw_any) r19 q19) ?_)
       rintro _ w43 hE38 ⟨v18, rfl, k18, -⟩
       exact Made.ext hE38 hZ25 NewOwn.nil (fun _ h => h) ⟨v18, rfl, (k18.mono Zv.made), trivial⟩
      intro z3
      refine DrH.rel ?_ ?_
      ·
       rintro w44 Z28 hE39 hZ26 ⟨⟨⟨v18, rfl, k18, -⟩, hB3⟩, ⟨⟨v17, rfl, k17, -⟩, hB1⟩, -⟩
       refine GOp.op (OpY.call en24 rfl rfl (bMul_w N r18 r19 v17 v18 _ Any (k17.mono vw_any) (k18.mono vw_any) r20 q20) ?_)
       rintro _ w45 hE40 ⟨v19, rfl, k19, -⟩
       exact Made.ext hE40 hZ26 NewOwn.nil (fun _ h => h) ⟨v19, rfl, (k19.mono Zv.made), trivial⟩
      intro z4
      refine DrH.de (fun _ hE41 => GOp.op (OpY.ldBoxA (vs := [(Value.bool r15.2.1.Negative), v15]) Tryd.underlying24 rfl ti24 rfl ((hL27.ext hE41).at 0 rfl rfl) rfl rfl (er rfl))) ?_
      refine DrH.rel ?_ ?_
      ·
       rintro w47 Z30 hE42 hZ28 ⟨⟨⟨v19, rfl, k19, -⟩, hB4⟩, -, -, -⟩
       have K25 := ke hL27 hE42
       refine GOp.op (OpY.call en16 rfl rfl (lcp_w N r15.2.1 v15 _ Any ((((f13.mono (K21 None)).mono (K22 None)).mono (K25 None)).mono vw_any) r21 q21) ?_)
       rintro _ w48 hE43 ⟨v20, rfl, k20, -⟩
       exact Made.ext hE43 hZ28 NewOwn.nil (fun _ h => h) ⟨v20, rfl, (k20.mono Zv.made), trivial⟩
      intro z6
      refine DrH.rel ?_ ?_
      ·
       rintro w49 Z31 hE44 hZ29 ⟨⟨⟨v20, rfl, k20, -⟩, hB6⟩, ⟨⟨v19, rfl, k19, -⟩, hB4⟩, -, -, -⟩
       refine GOp.op (OpY.call en29 rfl rfl (bAdd_w N r20 r21 v19 v20 _ Any (k19.mono vw_any) (k20.mono vw_any) r22 q22) ?_)
       rintro _ w50 hE45 ⟨v21, rfl, k21, -⟩
       exact Made.ext hE45 hZ29 NewOwn.nil (fun _ h => h) ⟨v21, rfl, (k21.mono Zv.made), trivial⟩
      intro z7
      refine DrH.de (fun _ hE46 => GOp.op (OpY.ldBoxA (vs := [(Value.bool a.Negative), a_v]) Tryd.underlying24 rfl ti24 rfl ((hL27.ext hE46).at 2 rfl rfl) rfl rfl (er rfl))) ?_
      refine DrH.fin0 ?_
      rintro w52 Z33 hE47 hZ31 ⟨⟨⟨v21, rfl, k21, -⟩, hB7⟩, ⟨⟨v20, rfl, k20, -⟩, hB6⟩, ⟨⟨v19, rfl, k19, -⟩, hB4⟩, ⟨⟨v18, rfl, k18, -⟩, hB3⟩, ⟨⟨v17, rfl, k17, -⟩, hB1⟩, -⟩ ap11
      have hB12 : ∀ b, some b ∈ ([] : List (Option Nat)) → w37.heap.size ≤ b ∧ ¬ Z33 b := by
       intro b hb; cases hb
      replace k21 := k21.mono (Zv.fin hL27 hZ31 hB12)
      replace k20 := k20.mono (Zv.fin hL27 hZ31 hB12)
      replace k19 := k19.mono (Zv.fin hL27 hZ31 hB12)
      replace k18 := k18.mono (Zv.fin hL27 hZ31 hB12)
      replace k17 := k17.mono (Zv.fin hL27 hZ31 hB12)
      have hL32 := hL27.ext hE47
      have K26 := ke hL27 hE47
      obtain ⟨r23, q23, h⟩ := bind_some h
      have f15 := (((((((((a_h.mono (K4 S)).mono (K9 S)).mono (K15 S)).mono (K16 S)).mono (K19 S)).mono (K20 S)).mono (K21 S)).mono (K22 S)).mono (K26 S))
      refine Rl.op (OpY.call en16 rfl rfl (lcp_w N a a_v _ Any (f15.mono vw_any) r23 q23) ?_)
      rintro _ w53 hE48 ⟨v22, rfl, k22, -⟩
      replace k22 := k22.mono (Hv.freshO (S := None) hL32 [])
      have hL33 := hL32.ext hE48
      have K27 := ke hL32 hE48
      obtain ⟨r24, q24, h⟩ := bind_some h
      refine Rl.op (OpY.call en39 rfl rfl (bNormal_w N r23 v22 _ Any (k22.mono vw_any) r24 q24) ?_)
      rintro _ w54 hE49 ⟨v23, rfl, k23, -⟩
      replace k23 := k23.mono (Hv.freshO (S := None) hL33 [])
      have hL34 := hL33.ext hE49
      have K28 := ke hL33 hE49
      obtain ⟨r25, q25, h⟩ := bind_some h
      have f16 := ((k21.mono (K27 None)).mono (K28 None))
      refine Rl.op (OpY.call en18 rfl rfl (rSame_w N r22 r24 v21 v23 _ Any (f16.mono vw_any) (k23.mono vw_any) r25 q25) ?_)
      rintro _ w55 hE50 ⟨rfl, -⟩
      have hL35 := hL34.ext hE50
      have K29 := ke hL34 hE50
      refine Rl.op (OpY.not (x := r25) rfl ?_)
      refine Rl.nil ?_
      refine Swp.cond_b (!r25) rfl (fun hc14 => ?_) (fun hc14 => ?_)
      ·
       replace h := ite_t hc14 h
       refine Swp.seq (Swp.region rfl (Rl.op (OpY.assign (v := (Value.bool false)) rfl ?_)))
       refine Rl.nil (Swp.ret ?_)
       obtain rfl := Option.some.inj h
       refine ⟨[(Value.bool false)], ⟨rfl, trivial⟩, ⟨_, rfl, hL35.done, ?_⟩⟩
       exact ⟨rfl, trivial⟩
      ·
       replace h := ite_f hc14 h
       refine Swp.skip (Swp.seq (Swp.seq (Swp.region rfl (Rl.op (OpY.ldBoxA (vs := [(Value.bool b.Negative), b_v]) Tryd.underlying24 rfl ti24 rfl (hL35.at 3 rfl rfl) rfl rfl ?_)))))
       obtain ⟨r26, q26, h⟩ := bind_some h
       have f17 := ((((((((((((b_h.mono (K4 S)).mono (K9 S)).mono (K15 S)).mono (K16 S)).mono (K19 S)).mono (K20 S)).mono (K21 S)).mono (K22 S)).mono (K26 S)).mono (K27 S)).mono (K28 S)).mono (K29 S))
       refine Rl.op (OpY.call en16 rfl rfl (lcp_w N b b_v _ Any (f17.mono vw_any) r26 q26) ?_)
       rintro _ w56 hE51 ⟨v24, rfl, k24, -⟩
       replace k24 := k24.mono (Hv.freshO (S := None) hL35 [])
       have hL36 := hL35.ext hE51
       have K30 := ke hL35 hE51
       obtain ⟨r27, q27, h⟩ := bind_some h
       refine Rl.op (OpY.call en28 rfl rfl (bSign_w N r26 v24 _ Any (k24.mono vw_any) r27 q27) ?_)
       rintro _ w57 hE52 ⟨rfl, -⟩
       have hL37 := hL36.ext hE52
       have K31 := ke hL36 hE52
       refine Rl.op (OpY.gtr (x := r27) (y := 0) ((r27 : Int) > 0) rfl rfl Iff.rfl ?_)
       refine Rl.nil ?_
       refine Swp.cond_d ((r27 : Int) > 0) rfl (fun hc15 => ?_) (fun hc15 => ?_)
       ·
        replace h := ite_t hc15 h
        refine Swp.seq ?_
        obtain ⟨r28, q28, h⟩ := bind_some h
        obtain ⟨r29, q29, h⟩ := bind_some h
        by_cases hc16 : (r29 : Int) ≥ 0
        ·
         replace h := ite_t hc16 h
         obtain ⟨r30, q30, h⟩ := bind_some h
         refine Swp.drawL 8 [] [] (fun W1 => [.det (Value.agg #[(Value.bool r15.2.1.Negative), v15]), .rel (fun v Z w' => ∃ v25, (Value.agg #[(Value.bool r28.Negative), v25]) = v ∧ Rs (rInt .u32) (Zv W1 w.heap.size None [some b12, some b11, some b1, some b6] Z w') v25 r28.Digits ∧ True) (fun _ => []), .det (Value.int .i64 r29), .det (Value.bool (decide ((r29 : Int) ≥ 0))), .det (Value.bool (decide ((r29 : Int) ≥ 0))), .det (Value.agg #[(Value.bool r15.2.1.Negative), v15]), .rel (fun v Z w' => ∃ v26, (Value.agg #[(Value.bool r30.Negative), v26]) = v ∧ Rs (rInt .u32) (Zv W1 w.heap.size None [some b12, some b11, some b1, some b6] Z w') v26 r30.Digits ∧ True) (fun _ => []), .det (Value.agg #[(Value.bool b.Negative), b_v])]) mixed rfl rfl rfl (fun _ => rfl) (fun _ => rfl) ?_ ?_
         ·
          intro W1 _
          exact ⟨fun v Z Z' w w' hΦ hz _ _ hs => by obtain ⟨v25, rfl, k25, -⟩ := hΦ; exact ⟨v25, rfl, (k25.mono (Zv.stay hz hs)), trivial⟩, ⟨fun v Z Z' w w' hΦ hz _ _ hs => by obtain ⟨v26, rfl, k26, -⟩ := hΦ; exact ⟨v26, rfl, (k26.mono (Zv.stay hz hs)), trivial⟩, trivial⟩⟩
         ·
          intro w58 hE53
          have hL38 := hL37.ext hE53
          have K32 := ke hL37 hE53
          refine DrH.de (fun _ hE54 => GOp.op (OpY.ldBoxA (vs := [(Value.bool r15.2.1.Negative), v15]) Tryd.underlying24 rfl ti24 rfl ((hL38.ext hE54).at 0 rfl rfl) rfl rfl (er rfl))) ?_
          refine DrH.rel ?_ ?_
          ·
           rintro w60 Z35 hE55 hZ33 ⟨-⟩
           have K33 := ke hL38 hE55
           refine GOp.op (OpY.call en16 rfl rfl (lcp_w N r15.2.1 v15 _ Any (((((((((((f13.mono (K21 None)).mono (K22 None)).mono (K26 None)).mono (K27 None)).mono (K28 None)).mono (K29 None)).mono (K30 None)).mono (K31 None)).mono (K32 None)).mono (K33 None)).mono vw_any) r28 q28) ?_)
           rintro _ w61 hE56 ⟨v25, rfl, k25, -⟩
           exact Made.ext hE56 hZ33 NewOwn.nil (fun _ h => h) ⟨v25, rfl, (k25.mono Zv.made), trivial⟩
          intro z1
          refine DrH.det ?_ ?_
          ·
           rintro w62 Z36 hE57 hZ34 ⟨⟨⟨v25, rfl, k25, -⟩, hB1⟩, -⟩
           refine GOp.op (OpY.call en28 rfl rfl (bSign_w N r28 v25 _ Any (k25.mono vw_any) r29 q29) ?_)
           rintro _ w63 hE58 ⟨rfl, -⟩
           exact ⟨hE58, rfl⟩
          refine DrH.de (fun _ _ => GOp.op (OpY.geq ((r29 : Int) ≥ 0) rfl rfl Iff.rfl (er rfl))) ?_
          refine DrH.de (fun _ _ => GOp.op (OpY.move rfl (er rfl))) ?_
          refine DrH.de (fun _ hE61 => GOp.yes rfl rfl (decide_eq_true hc16) (OpY.ldBoxA (vs := [(Value.bool r15.2.1.Negative), v15]) Tryd.underlying24 rfl ti24 rfl ((hL38.ext hE61).at 0 rfl rfl) rfl rfl (er rfl))) ?_
          refine DrH.rel ?_ ?_
          ·
           rintro w67 Z40 hE62 hZ38 ⟨-, -⟩
           have K34 := ke hL38 hE62
           refine GOp.yes rfl rfl (decide_eq_true hc16) (OpY.call en16 rfl rfl (lcp_w N r15.2.1 v15 _ Any (((((((((((f13.mono (K21 None)).mono (K22 None)).mono (K26 None)).mono (K27 None)).mono (K28 None)).mono (K29 None)).mono (K30 None)).mono (K31 None)).mono (K32 None)).mono (K34 None)).mono vw_any) r30 q30) ?_)
           rintro _ w68 hE63 ⟨v26, rfl, k26, -⟩
           exact Made.ext hE63 hZ38 NewOwn.nil (fun _ h => h) ⟨v26, rfl, (k26.mono Zv.made), trivial⟩
          intro z6
          refine DrH.de (fun _ hE64 => GOp.yes rfl rfl (decide_eq_true hc16) (OpY.ldBoxA (vs := [(Value.bool b.Negative), b_v]) Tryd.underlying24 rfl ti24 rfl ((hL38.ext hE64).at 3 rfl rfl) rfl rfl (er rfl))) ?_
          refine DrH.fin0 ?_
          rintro w70 Z42 hE65 hZ40 ⟨⟨⟨v26, rfl, k26, -⟩, hB6⟩, ⟨⟨v25, rfl, k25, -⟩, hB1⟩, -⟩ ap12
          have hB13 : ∀ b, some b ∈ ([] : List (Option Nat)) → w58.heap.size ≤ b ∧ ¬ Z42 b := by
           intro b hb; cases hb
          replace k26 := k26.mono (Zv.fin hL38 hZ40 hB13)
          replace k25 := k25.mono (Zv.fin hL38 hZ40 hB13)
          have hL42 := hL38.ext hE65
          have K35 := ke hL38 hE65
          obtain ⟨r31, q31, h⟩ := bind_some h
          have f18 := ((((f17.mono (K30 S)).mono (K31 S)).mono (K32 S)).mono (K35 S))
          refine Rl.yes rfl rfl (decide_eq_true hc16) (OpY.call en16 rfl rfl (lcp_w N b b_v _ Any (f18.mono vw_any) r31 q31) ?_)
          rintro _ w71 hE66 ⟨v27, rfl, k27, -⟩
          replace k27 := k27.mono (Hv.freshO (S := None) hL42 [])
          have hL43 := hL42.ext hE66
          have K36 := ke hL42 hE66
          obtain ⟨r32, q32, h⟩ := bind_some h
          have f19 := (k26.mono (K36 None))
          refine Rl.yes rfl rfl (decide_eq_true hc16) (OpY.call en36 rfl rfl (bCompare_w N r30 r31 v26 v27 _ Any (f19.mono vw_any) (k27.mono vw_any) r32 q32) ?_)
          rintro _ w72 hE67 ⟨rfl, -⟩
          have hL44 := hL43.ext hE67
          refine Rl.yes rfl rfl (decide_eq_true hc16) (OpY.lss (x := r32) (y := 0) ((r32 : Int) < 0) rfl rfl Iff.rfl ?_)
          refine Rl.op (OpY.pick_t (t := (decide ((r29 : Int) ≥ 0))) (v := (Value.bool (decide ((r32 : Int) < 0)))) rfl (decide_eq_true hc16) rfl ?_)
          refine Rl.op (OpY.assign (v := (Value.bool (decide ((r32 : Int) < 0)))) rfl ?_)
          refine Rl.nil (Swp.ret ?_)
          obtain rfl := Option.some.inj h
          refine ⟨[(Value.bool (decide ((r32 : Int) < 0)))], ⟨rfl, trivial⟩, ⟨_, rfl, hL44.done, ?_⟩⟩
          exact ⟨rfl, trivial⟩
        ·
         replace h := ite_f hc16 h
         refine Swp.drawL 8 [] [] (fun W1 => [.det (Value.agg #[(Value.bool r15.2.1.Negative), v15]), .rel (fun v Z w' => ∃ v25, (Value.agg #[(Value.bool r28.Negative), v25]) = v ∧ Rs (rInt .u32) (Zv W1 w.heap.size None [some b12, some b11, some b1, some b6] Z w') v25 r28.Digits ∧ True) (fun _ => []), .det (Value.int .i64 r29), .det (Value.bool (decide ((r29 : Int) ≥ 0))), .det (Value.bool (decide ((r29 : Int) ≥ 0))), .det undef, .det undef, .det undef]) mixed rfl rfl rfl (fun _ => rfl) (fun _ => rfl) ?_ ?_
         ·
          intro W1 _
          exact ⟨fun v Z Z' w w' hΦ hz _ _ hs => by obtain ⟨v25, rfl, k25, -⟩ := hΦ; exact ⟨v25, rfl, (k25.mono (Zv.stay hz hs)), trivial⟩, trivial⟩
         ·
          intro w73 hE68
          have hL45 := hL37.ext hE68
          have K37 := ke hL37 hE68
          refine DrH.de (fun _ hE69 => GOp.op (OpY.ldBoxA (vs := [(Value.bool r15.2.1.Negative), v15]) Tryd.underlying24 rfl ti24 rfl ((hL45.ext hE69).at 0 rfl rfl) rfl rfl (er rfl))) ?_
          refine DrH.rel ?_ ?_
          ·
           rintro w75 Z44 hE70 hZ42 ⟨-⟩
           have K38 := ke hL45 hE70
           refine GOp.op (OpY.call en16 rfl rfl (lcp_w N r15.2.1 v15 _ Any (((((((((((f13.mono (K21 None)).mono (K22 None)).mono (K26 None)).mono (K27 None)).mono (K28 None)).mono (K29 None)).mono (K30 None)).mono (K31 None)).mono (K37 None)).mono (K38 None)).mono vw_any) r28 q28) ?_)
           rintro _ w76 hE71 ⟨v25, rfl, k25, -⟩
           exact Made.ext hE71 hZ42 NewOwn.nil (fun _ h => h) ⟨v25, rfl, (k25.mono Zv.made), trivial⟩
          intro z1
          refine DrH.det ?_ ?_
          ·
           rintro w77 Z45 hE72 hZ43 ⟨⟨⟨v25, rfl, k25, -⟩, hB1⟩, -⟩
           refine GOp.op (OpY.call en28 rfl rfl (bSign_w N r28 v25 _ Any (k25.mono vw_any) r29 q29) ?_)
           rintro _ w78 hE73 ⟨rfl, -⟩
           exact ⟨hE73, rfl⟩
          refine DrH.de (fun _ _ => GOp.op (OpY.geq ((r29 : Int) ≥ 0) rfl rfl Iff.rfl (er rfl))) ?_
          refine DrH.de (fun _ _ => GOp.op (OpY.move rfl (er rfl))) ?_
          refine DrH.de (fun _ _ => GOp.no rfl rfl (decide_eq_false hc16) (er rfl)) ?_
          refine DrH.de (fun _ _ => GOp.no rfl rfl (decide_eq_false hc16) (er rfl)) ?_
          refine DrH.de (fun _ _ => GOp.no rfl rfl (decide_eq_false hc16) (er rfl)) ?_
          refine DrH.fin0 ?_
          rintro w84 Z51 hE79 hZ49 ⟨⟨⟨v25, rfl, k25, -⟩, hB1⟩, -⟩ ap13
          have hB14 : ∀ b, some b ∈ ([] : List (Option Nat)) → w73.heap.size ≤ b ∧ ¬ Z51 b := by
           intro b hb; cases hb
          replace k25 := k25.mono (Zv.fin hL45 hZ49 hB14)
          have hL47 := hL45.ext hE79
          refine Rl.no rfl rfl (decide_eq_false hc16) ?_
          refine Rl.no rfl rfl (decide_eq_false hc16) ?_
          refine Rl.no rfl rfl (decide_eq_false hc16) ?_
          refine Rl.op (OpY.pick_f (t := (decide ((r29 : Int) ≥ 0))) (v := (Value.bool false)) rfl (decide_eq_false hc16) rfl ?_)
          refine Rl.op (OpY.assign (v := (Value.bool false)) rfl ?_)
          refine Rl.nil (Swp.ret ?_)
          obtain rfl := Option.some.inj h
          refine ⟨[(Value.bool false)], ⟨rfl, trivial⟩, ⟨_, rfl, hL47.done, ?_⟩⟩
          exact ⟨rfl, trivial⟩
       ·
        replace h := ite_f hc15 h
        refine Swp.skip (Swp.seq ?_)
        obtain ⟨r33, q33, h⟩ := bind_some h
        obtain ⟨r34, q34, h⟩ := bind_some h
        by_cases hc17 : (r34 : Int) ≤ 0
        ·
         replace h := ite_t hc17 h
         obtain ⟨r35, q35, h⟩ := bind_some h
         refine Swp.drawL 8 [] [] (fun W1 => [.det (Value.agg #[(Value.bool r15.2.1.Negative), v15]), .rel (fun v Z w' => ∃ v28, (Value.agg #[(Value.bool r33.Negative), v28]) = v ∧ Rs (rInt .u32) (Zv W1 w.heap.size None [some b12, some b11, some b1, some b6] Z w') v28 r33.Digits ∧ True) (fun _ => []), .det (Value.int .i64 r34), .det (Value.bool (decide ((r34 : Int) ≤ 0))), .det (Value.bool (decide ((r34 : Int) ≤ 0))), .det (Value.agg #[(Value.bool r15.2.1.Negative), v15]), .rel (fun v Z w' => ∃ v29, (Value.agg #[(Value.bool r35.Negative), v29]) = v ∧ Rs (rInt .u32) (Zv W1 w.heap.size None [some b12, some b11, some b1, some b6] Z w') v29 r35.Digits ∧ True) (fun _ => []), .det (Value.agg #[(Value.bool b.Negative), b_v])]) mixed rfl rfl rfl (fun _ => rfl) (fun _ => rfl) ?_ ?_
         ·
          intro W1 _
          exact ⟨fun v Z Z' w w' hΦ hz _ _ hs => by obtain ⟨v28, rfl, k28, -⟩ := hΦ; exact ⟨v28, rfl, (k28.mono (Zv.stay hz hs)), trivial⟩, ⟨fun v Z Z' w w' hΦ hz _ _ hs => by obtain ⟨v29, rfl, k29, -⟩ := hΦ; exact ⟨v29, rfl, (k29.mono (Zv.stay hz hs)), trivial⟩, trivial⟩⟩
         ·
          intro w85 hE80
          have hL48 := hL37.ext hE80
          have K39 := ke hL37 hE80
          refine DrH.de (fun _ hE81 => GOp.op (OpY.ldBoxA (vs := [(Value.bool r15.2.1.Negative), v15]) Tryd.underlying24 rfl ti24 rfl ((hL48.ext hE81).at 0 rfl rfl) rfl rfl (er rfl))) ?_
          refine DrH.rel ?_ ?_
          ·
           rintro w87 Z53 hE82 hZ51 ⟨-⟩
           have K40 := ke hL48 hE82
           refine GOp.op (OpY.call en16 rfl rfl (lcp_w N r15.2.1 v15 _ Any (((((((((((f13.mono (K21 None)).mono (K22 None)).mono (K26 None)).mono (K27 None)).mono (K28 None)).mono (K29 None)).mono (K30 None)).mono (K31 None)).mono (K39 None)).mono (K40 None)).mono vw_any) r33 q33) ?_)
           rintro _ w88 hE83 ⟨v28, rfl, k28, -⟩
           exact Made.ext hE83 hZ51 NewOwn.nil (fun _ h => h) ⟨v28, rfl, (k28.mono Zv.made), trivial⟩
          intro z1
          refine DrH.det ?_ ?_
          ·
           rintro w89 Z54 hE84 hZ52 ⟨⟨⟨v28, rfl, k28, -⟩, hB1⟩, -⟩
           refine GOp.op (OpY.call en28 rfl rfl (bSign_w N r33 v28 _ Any (k28.mono vw_any) r34 q34) ?_)
           rintro _ w90 hE85 ⟨rfl, -⟩
           exact ⟨hE85, rfl⟩
          refine DrH.de (fun _ _ => GOp.op (OpY.leq ((r34 : Int) ≤ 0) rfl rfl Iff.rfl (er rfl))) ?_
          refine DrH.de (fun _ _ => GOp.op (OpY.move rfl (er rfl))) ?_
          refine DrH.de (fun _ hE88 => GOp.yes rfl rfl (decide_eq_true hc17) (OpY.ldBoxA (vs := [(Value.bool r15.2.1.Negative), v15]) Tryd.underlying24 rfl ti24 rfl ((hL48.ext hE88).at 0 rfl rfl) rfl rfl (er rfl))) ?_
          refine DrH.rel ?_ ?_
          ·
           rintro w94 Z58 hE89 hZ56 ⟨-, -⟩
           have K41 := ke hL48 hE89
           refine GOp.yes rfl rfl (decide_eq_true hc17) (OpY.call en16 rfl rfl (lcp_w N r15.2.1 v15 _ Any (((((((((((f13.mono (K21 None)).mono (K22 None)).mono (K26 None)).mono (K27 None)).mono (K28 None)).mono (K29 None)).mono (K30 None)).mono (K31 None)).mono (K39 None)).mono (K41 None)).mono vw_any) r35 q35) ?_)
           rintro _ w95 hE90 ⟨v29, rfl, k29, -⟩
           exact Made.ext hE90 hZ56 NewOwn.nil (fun _ h => h) ⟨v29, rfl, (k29.mono Zv.made), trivial⟩
          intro z6
          refine DrH.de (fun _ hE91 => GOp.yes rfl rfl (decide_eq_true hc17) (OpY.ldBoxA (vs := [(Value.bool b.Negative), b_v]) Tryd.underlying24 rfl ti24 rfl ((hL48.ext hE91).at 3 rfl rfl) rfl rfl (er rfl))) ?_
          refine DrH.fin0 ?_
          rintro w97 Z60 hE92 hZ58 ⟨⟨⟨v29, rfl, k29, -⟩, hB6⟩, ⟨⟨v28, rfl, k28, -⟩, hB1⟩, -⟩ ap14
          have hB15 : ∀ b, some b ∈ ([] : List (Option Nat)) → w85.heap.size ≤ b ∧ ¬ Z60 b := by
           intro b hb; cases hb
          replace k29 := k29.mono (Zv.fin hL48 hZ58 hB15)
          replace k28 := k28.mono (Zv.fin hL48 hZ58 hB15)
          have hL52 := hL48.ext hE92
          have K42 := ke hL48 hE92
          obtain ⟨r36, q36, h⟩ := bind_some h
          have f20 := ((((f17.mono (K30 S)).mono (K31 S)).mono (K39 S)).mono (K42 S))
          refine Rl.yes rfl rfl (decide_eq_true hc17) (OpY.call en16 rfl rfl (lcp_w N b b_v _ Any (f20.mono vw_any) r36 q36) ?_)
          rintro _ w98 hE93 ⟨v30, rfl, k30, -⟩
          replace k30 := k30.mono (Hv.freshO (S := None) hL52 [])
          have hL53 := hL52.ext hE93
          have K43 := ke hL52 hE93
          obtain ⟨r37, q37, h⟩ := bind_some h
          have f21 := (k29.mono (K43 None))
          refine Rl.yes rfl rfl (decide_eq_true hc17) (OpY.call en36 rfl rfl (bCompare_w N r35 r36 v29 v30 _ Any (f21.mono vw_any) (k30.mono vw_any) r37 q37) ?_)
          rintro _ w99 hE94 ⟨rfl, -⟩
          have hL54 := hL53.ext hE94
          refine Rl.yes rfl rfl (decide_eq_true hc17) (OpY.gtr (x := r37) (y := 0) ((r37 : Int) > 0) rfl rfl Iff.rfl ?_)
          refine Rl.op (OpY.pick_t (t := (decide ((r34 : Int) ≤ 0))) (v := (Value.bool (decide ((r37 : Int) > 0)))) rfl (decide_eq_true hc17) rfl ?_)
          refine Rl.op (OpY.assign (v := (Value.bool (decide ((r37 : Int) > 0)))) rfl ?_)
          refine Rl.nil (Swp.ret ?_)
          obtain rfl := Option.some.inj h
          refine ⟨[(Value.bool (decide ((r37 : Int) > 0)))], ⟨rfl, trivial⟩, ⟨_, rfl, hL54.done, ?_⟩⟩
          exact ⟨rfl, trivial⟩
        ·
         replace h := ite_f hc17 h
         refine Swp.drawL 8 [] [] (fun W1 => [.det (Value.agg #[(Value.bool r15.2.1.Negative), v15]), .rel (fun v Z w' => ∃ v28, (Value.agg #[(Value.bool r33.Negative), v28]) = v ∧ Rs (rInt .u32) (Zv W1 w.heap.size None [some b12, some b11, some b1, some b6] Z w') v28 r33.Digits ∧ True) (fun _ => []), .det (Value.int .i64 r34), .det (Value.bool (decide ((r34 : Int) ≤ 0))), .det (Value.bool (decide ((r34 : Int) ≤ 0))), .det undef, .det undef, .det undef]) mixed rfl rfl rfl (fun _ => rfl) (fun _ => rfl) ?_ ?_
         ·
          intro W1 _
          exact ⟨fun v Z Z' w w' hΦ hz _ _ hs => by obtain ⟨v28, rfl, k28, -⟩ := hΦ; exact ⟨v28, rfl, (k28.mono (Zv.stay hz hs)), trivial⟩, trivial⟩
         ·
          intro w100 hE95
          have hL55 := hL37.ext hE95
          have K44 := ke hL37 hE95
          refine DrH.de (fun _ hE96 => GOp.op (OpY.ldBoxA (vs := [(Value.bool r15.2.1.Negative), v15]) Tryd.underlying24 rfl ti24 rfl ((hL55.ext hE96).at 0 rfl rfl) rfl rfl (er rfl))) ?_
          refine DrH.rel ?_ ?_
          ·
           rintro w102 Z62 hE97 hZ60 ⟨-⟩
           have K45 := ke hL55 hE97
           refine GOp.op (OpY.call en16 rfl rfl (lcp_w N r15.2.1 v15 _ Any (((((((((((f13.mono (K21 None)).mono (K22 None)).mono (K26 None)).mono (K27 None)).mono (K28 None)).mono (K29 None)).mono (K30 None)).mono (K31 None)).mono (K44 None)).mono (K45 None)).mono vw_any) r33 q33) ?_)
           rintro _ w103 hE98 ⟨v28, rfl, k28, -⟩
           exact Made.ext hE98 hZ60 NewOwn.nil (fun _ h => h) ⟨v28, rfl, (k28.mono Zv.made), trivial⟩
          intro z1
          refine DrH.det ?_ ?_
          ·
           rintro w104 Z63 hE99 hZ61 ⟨⟨⟨v28, rfl, k28, -⟩, hB1⟩, -⟩
           refine GOp.op (OpY.call en28 rfl rfl (bSign_w N r33 v28 _ Any (k28.mono vw_any) r34 q34) ?_)
           rintro _ w105 hE100 ⟨rfl, -⟩
           exact ⟨hE100, rfl⟩
          refine DrH.de (fun _ _ => GOp.op (OpY.leq ((r34 : Int) ≤ 0) rfl rfl Iff.rfl (er rfl))) ?_
          refine DrH.de (fun _ _ => GOp.op (OpY.move rfl (er rfl))) ?_
          refine DrH.de (fun _ _ => GOp.no rfl rfl (decide_eq_false hc17) (er rfl)) ?_
          refine DrH.de (fun _ _ => GOp.no rfl rfl (decide_eq_false hc17) (er rfl)) ?_
          refine DrH.de (fun _ _ => GOp.no rfl rfl (decide_eq_false hc17) (er rfl)) ?_
          refine DrH.fin0 ?_
          rintro w111 Z69 hE106 hZ67 ⟨⟨⟨v28, rfl, k28, -⟩, hB1⟩, -⟩ ap15
          have hB16 : ∀ b, some b ∈ ([] : List (Option Nat)) → w100.heap.size ≤ b ∧ ¬ Z69 b := by
           intro b hb; cases hb
          replace k28 := k28.mono (Zv.fin hL55 hZ67 hB16)
          have hL57 := hL55.ext hE106
          refine Rl.no rfl rfl (decide_eq_false hc17) ?_
          refine Rl.no rfl rfl (decide_eq_false hc17) ?_
          refine Rl.no rfl rfl (decide_eq_false hc17) ?_
          refine Rl.op (OpY.pick_f (t := (decide ((r34 : Int) ≤ 0))) (v := (Value.bool false)) rfl (decide_eq_false hc17) rfl ?_)
          refine Rl.op (OpY.assign (v := (Value.bool false)) rfl ?_)
          refine Rl.nil (Swp.ret ?_)
          obtain rfl := Option.some.inj h
          refine ⟨[(Value.bool false)], ⟨rfl, trivial⟩, ⟨_, rfl, hL57.done, ?_⟩⟩
          exact ⟨rfl, trivial⟩
end Go.Proofs.YthmoefciofnmdaaDoor.WL

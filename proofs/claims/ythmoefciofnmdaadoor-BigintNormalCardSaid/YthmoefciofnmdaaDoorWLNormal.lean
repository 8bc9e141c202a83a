/- Walks, written by a program of mine (wip/tool); the kernel checks them. -/
import Derived.Test.YthmoefciofnmdaaDoorProg
import Derived.Test.YthmoefciofnmdaaDoorZ7
import Derived.Test.YthmoefciofnmdaaDoorF2
import Derived.Test.YthmoefciofnmdaaDoorA02
import Derived.Test.YthmoefciofnmdaaDoorPL
import Derived.Test.YthmoefciofnmdaaDoorWANormal
import Derived.Test.YthmoefciofnmdaaDoorWRNormal
import Derived.Test.YthmoefciofnmdaaDoorWBNormal
set_option maxRecDepth 100000
set_option maxHeartbeats 40000000
set_option linter.unusedVariables false
set_option linter.unusedSimpArgs false
namespace Go.Proofs.YthmoefciofnmdaaDoor.WL
open Go Go.RowKit Go.X Go.D Go.Proofs.YthmoefciofnmdaaDoor.WF Go.Proofs.YthmoefciofnmdaaDoor.WA Go.Proofs.YthmoefciofnmdaaDoor.WR Go.Proofs.YthmoefciofnmdaaDoor.WB
theorem en49 : Go.X.Enters Tryd.prog 49 := ⟨Tryd.f49, Tryd.func49, by kernel_rfl, by kernel_rfl⟩
theorem en44 : Go.X.Enters Tryd.prog 44 := ⟨Tryd.f44, Tryd.func44, by kernel_rfl, by kernel_rfl⟩
theorem en20 : Go.X.Enters Tryd.prog 20 := ⟨Tryd.f20, Tryd.func20, by kernel_rfl, by kernel_rfl⟩
theorem en30 : Go.X.Enters Tryd.prog 30 := ⟨Tryd.f30, Tryd.func30, by kernel_rfl, by kernel_rfl⟩
theorem en15 : Go.X.Enters Tryd.prog 15 := ⟨Tryd.f15, Tryd.func15, by kernel_rfl, by kernel_rfl⟩
theorem en26 : Go.X.Enters Tryd.prog 26 := ⟨Tryd.f26, Tryd.func26, by kernel_rfl, by kernel_rfl⟩
theorem en18 : Go.X.Enters Tryd.prog 18 := ⟨Tryd.f18, Tryd.func18, by kernel_rfl, by kernel_rfl⟩
theorem en19 : Go.X.Enters Tryd.prog 19 := ⟨Tryd.f19, Tryd.func19, by kernel_rfl, by kernel_rfl⟩
theorem en13 : Go.X.Enters Tryd.prog 13 := ⟨Tryd.f13, Tryd.func13, by kernel_rfl, by kernel_rfl⟩
theorem en14 : Go.X.Enters Tryd.prog 14 := ⟨Tryd.f14, Tryd.func14, by kernel_rfl, by kernel_rfl⟩
theorem en16 : Go.X.Enters Tryd.prog 16 := ⟨Tryd.f16, Tryd.func16, by kernel_rfl, by kernel_rfl⟩
theorem en17 : Go.X.Enters Tryd.prog 17 := ⟨Tryd.f17, Tryd.func17, by kernel_rfl, by kernel_rfl⟩
theorem en24 : Go.X.Enters Tryd.prog 24 := ⟨Tryd.f24, Tryd.func24, by kernel_rfl, by kernel_rfl⟩
theorem en25 : Go.X.Enters Tryd.prog 25 := ⟨Tryd.f25, Tryd.func25, by kernel_rfl, by kernel_rfl⟩
theorem en27 : Go.X.Enters Tryd.prog 27 := ⟨Tryd.f27, Tryd.func27, by kernel_rfl, by kernel_rfl⟩
theorem en28 : Go.X.Enters Tryd.prog 28 := ⟨Tryd.f28, Tryd.func28, by kernel_rfl, by kernel_rfl⟩
theorem en31 : Go.X.Enters Tryd.prog 31 := ⟨Tryd.f31, Tryd.func31, by kernel_rfl, by kernel_rfl⟩
theorem en34 : Go.X.Enters Tryd.prog 34 := ⟨Tryd.f34, Tryd.func34, by kernel_rfl, by kernel_rfl⟩
theorem en36 : Go.X.Enters Tryd.prog 36 := ⟨Tryd.f36, Tryd.func36, by kernel_rfl, by kernel_rfl⟩
theorem en38 : Go.X.Enters Tryd.prog 38 := ⟨Tryd.f38, Tryd.func38, by kernel_rfl, by kernel_rfl⟩
theorem en23 : Go.X.Enters Tryd.prog 23 := ⟨Tryd.f23, Tryd.func23, by kernel_rfl, by kernel_rfl⟩
theorem lcp_w (N : Nat) (x : Big) (x_v : Value) (w : World) (S : Nat → Prop) (x_h : Rs (rInt .u32) (Hv w.heap.size S [] w) x_v x.Digits) (r : Big) (h : lcp N x = some r) :
  Calls Tryd.prog 16 #[(Value.agg #[(Value.bool x.Negative), x_v])] w (Ret w (fun v w' => ∃ (v0_0 : Value), (Value.agg #[(Value.bool r.Negative), v0_0]) = v ∧ Rs (rInt .u32) (Hv w.heap.size None [] w') v0_0 r.Digits ∧ True)) := by
 unfold lcp at h
 have hL : Go.X.Loc [] [] w w [] [] := Go.X.Loc.begin0 w
 refine calls_of (l := [(Value.agg #[(Value.bool x.Negative), x_v])]) (rl := [.cell 2 24]) (n := 5) Tryd.func16 rfl rfl rfl (Nat.le_of_ble_eq_true rfl) ?_
 refine Swp.seq (Swp.region rfl (Rl.op (OpY.box (cs := [(Value.bool x.Negative), x_v]) rfl rfl hL ?_)))
 intro b1 w2 hL3 hS5
 have K4 := ks w hS5
 refine Rl.op (OpY.alloc (cs := [(Value.bool false), (Value.slice none 0 0)]) ti24 rfl hL3 ?_)
 intro b6 w7 hL8 hS10
 have K9 := ks w hS10
 refine Rl.nil (Swp.seq (Swp.region rfl (Rl.op (OpY.ldBoxA (vs := [(Value.bool x.Negative), x_v]) Tryd.underlying24 rfl ti24 rfl (hL8.at 1 rfl rfl) rfl rfl ?_))))
 obtain ⟨r10, q10, h⟩ := bind_some h
 have f10 := ((x_h.mono (K4 S)).mono (K9 S))
 refine Rl.op (OpY.call en49 rfl rfl (rCopy_w N x x_v _ Any (f10.mono vw_any) r10 q10) ?_)
 rintro _ w10 hE10 ⟨v10, rfl, k10, -⟩
 replace k10 := k10.mono (Hv.freshO (S := None) hL8 [])
 have hL10 := hL8.ext hE10
 refine Rl.op0 (OpY.store (vs := [(Value.bool r10.Negative), v10]) ti24 rfl rfl rfl rfl (ones_cons rfl (ones_cons k10.one ones_nil)) hL10 0 rfl rfl (Nat.le_of_ble_eq_true rfl) ?_)
 intro w11 (hL11 : Go.X.Loc [] [] w w11 [some b6, some b1] [Cont.cells [(Value.bool r10.Negative), v10], Cont.cells [(Value.bool x.Negative), x_v]]) hS11
 have K10 := ks w hS11
 refine Rl.nil (Swp.ret ?_)
 obtain rfl := Option.some.inj h
 refine ⟨[(Value.agg #[(Value.bool r10.Negative), v10])], ⟨⟨⟨b6, 0, none⟩, rfl, res_boxA Tryd.underlying24 rfl ti24 (hL11.at 0 rfl rfl) rfl⟩, trivial⟩, ⟨_, rfl, hL11.done, ?_⟩⟩
 have f11 := (k10.mono (K10 None))
 exact ⟨v10, rfl, (f11.mono Hv.out), trivial⟩
theorem lsmall_w (N : Nat) (l : (List Big)) (l_v : Value) (w : World) (S : Nat → Prop) (l_h : Rs rBig (Hv w.heap.size S [] w) l_v l) (r : Bool) (h : lsmall N l = some r) :
  Calls Tryd.prog 14 #[l_v] w (Ret w (fun v w' => (Value.bool r) = v ∧ True)) := by
 unfold lsmall at h
 have hL : Go.X.Loc [] [] w w [] [] := Go.X.Loc.begin0 w
 refine calls_of (l := [l_v]) (rl := [.tmp 2]) (n := 15) Tryd.func14 rfl rfl rfl (Nat.le_of_ble_eq_true rfl) ?_
 refine Swp.seq (Swp.region rfl (Rl.op (OpY.assign (v := (Value.bool false)) rfl ?_)))
 refine Rl.nil (Swp.seq (Swp.seq (Swp.region rfl (Rl.op (OpY.move (v := l_v) rfl ?_)))))
 refine Rl.op (OpY.lenRo (v := l_v) Tryd.underlying45 rfl l_h ?_)
 refine Rl.op (OpY.move (v := (Value.int .i64 0)) rfl ?_)
 refine Rl.nil ?_
 obtain ⟨s10, hl10, g10⟩ := bind_some h
 refine Swp.join (fun e w' => ∃  (u : Env), (Sum.inl ()) = s10 ∧ e = upds [] u ∧ Go.X.Loc [] [] w w' [] [] ∧ Keep w.heap.size [] w [] w' ∧ True) ?_ ?_
 ·
  refine Swp.block ?_
  refine Swp.loopM hl10 (fun (ss : Int) (e : Env) (w' : World) => match ss with | x10 => ∃ (u : Env), e = upds [(5, l_v), (6, (Value.int .i64 (List.length l : Int))), (7, (Value.int .i64 x10))] u ∧ Go.X.Loc [] [] w w' [] [] ∧ Keep w.heap.size [] w [] w' ∧ True) ⟨_, (upds_sym ⟨rfl, rfl, rfl, trivial⟩), hL, Keep.refl, trivial⟩ ?_
  rintro x10 oo _ w10 ⟨u, rfl, hL10, K10, -⟩ h hd10
  rw [lsmall_b1] at h
  refine Swp.seq (Swp.region rfl (Rl.op (OpY.lss (x := x10) (y := (List.length l : Int)) ((x10 : Int) < (List.length l : Int)) rfl rfl Iff.rfl ?_)))
  refine Rl.nil (Swp.seq ?_)
  refine Swp.cond_d ((x10 : Int) < (List.length l : Int)) rfl (fun hc10 => ?_) (fun hc10 => ?_)
  ·
   replace h := ite_t hc10 h
   refine Swp.skip (Swp.seq (Swp.block (Swp.seq (Swp.region rfl ?_))))
   obtain ⟨x11, q10, h⟩ := bind_some h
   obtain ⟨n10, q11, q12⟩ := idx_some q10
   have f10 := (l_h.mono (K10 S))
   obtain ⟨b10, o10, c10, vs10, q13, q14, f11, q15⟩ := Rs.get f10 q12
   obtain ⟨v10, rfl, k10, -⟩ := rBig_open q15
   refine Rl.op (OpY.ixRoD (r := rBig) (v := l_v) (n := n10) (m := (o10 + n10 * rBig.sz)) Tryd.underlying45 ti24 rfl q13 rfl q11 q12 rfl ?_)
   refine Rl.op (OpY.ldRoA (vs := [(Value.bool x11.Negative), v10]) Tryd.underlying24 rfl ti24 rfl rfl vw_view f11 ?_)
   refine Rl.op (OpY.alloc (cs := [(Value.bool false), (Value.slice none 0 0)]) ti24 rfl hL10 ?_)
   intro b11 w11 hL11 hS10
   have K11 := ks w hS10
   have f12 := (k10.mono (K11 S))
   refine Rl.op0 (OpY.store (vs := [(Value.bool x11.Negative), v10]) ti24 rfl rfl rfl rfl (ones_cons rfl (ones_cons f12.one ones_nil)) hL11 0 rfl rfl (Nat.le_of_ble_eq_true rfl) ?_)
   intro w12 (hL12 : Go.X.Loc [] [] w w12 [some b11] [Cont.cells [(Value.bool x11.Negative), v10]]) hS11
   have K12 := ks w hS11
   refine Rl.nil (Swp.seq (Swp.region rfl (Rl.op (OpY.ldBoxA (vs := [(Value.bool x11.Negative), v10]) Tryd.underlying24 rfl ti24 rfl (hL12.at 0 rfl rfl) rfl rfl ?_))))
   obtain ⟨r10, q16, h⟩ := bind_some h
   have f13 := (f12.mono (K12 S))
   refine Rl.op (OpY.call en44 rfl rfl (rSmallB_w N x11 v10 _ Any (f13.mono vw_any) r10 q16) ?_)
   rintro _ w13 hE10 ⟨rfl, -⟩
   have hL13 := hL12.ext hE10
   have K13 := ke hL12 hE10
   refine Rl.op (OpY.not (x := r10) rfl ?_)
   refine Rl.nil ?_
   refine Swp.cond_b (!r10) rfl (fun hc11 => ?_) (fun hc11 => ?_)
   ·
    replace h := ite_t hc11 h
    refine Swp.seq (Swp.region rfl (Rl.op (OpY.assign (v := (Value.bool false)) rfl ?_)))
    refine Rl.nil (Swp.ret ?_)
    obtain rfl := Option.some.inj h
    obtain rfl := hd10 _ rfl
    replace h := g10
    try dsimp only at h
    obtain rfl := Option.some.inj h
    refine ⟨[(Value.bool false)], ⟨rfl, trivial⟩, ⟨_, rfl, hL13.done, ?_⟩⟩
    exact ⟨rfl, trivial⟩
   ·
    replace h := ite_f hc11 h
    refine Swp.skip (Swp.pop_blk (Swp.region rfl (Rl.op (OpY.add (x := x10) (y := 1) (z := (iw (x10 + 1))) rfl rfl rfl ?_))))
    refine Rl.op (OpY.move (v := (Value.int .i64 (iw (x10 + 1)))) rfl ?_)
    refine Rl.nil ?_
    have hp10 := hL13.pick [] rfl rfl rfl
    have hL14 : Go.X.Loc [] [] w w13 [] [] := hp10.1
    have K14 := ks w hp10.2
    obtain rfl := Option.some.inj h
    refine Swp.pop_back ⟨(iw (x10 + 1)), rfl, ?_⟩
    exact ⟨_, (upds_sym ⟨rfl, rfl, rfl, trivial⟩), hL14, (Keep.trans (Keep.trans (Keep.trans (Keep.trans K10 K11) K12) K13) K14), trivial⟩
  ·
   replace h := ite_f hc10 h
   refine Swp.exit rfl ?_
   obtain rfl := Option.some.inj h
   obtain rfl := hd10 _ rfl
   replace h := g10
   try dsimp only at h
   skip
   refine Swp.pop_back ?_
   exact ⟨_, rfl, (upds_sym trivial), hL10, K10, trivial⟩
 ·
  rintro _ w14 ⟨u, rfl, rfl, hL15, K15, -⟩
  replace h := g10
  try dsimp only at h
  refine Swp.seq (Swp.region rfl (Rl.op (OpY.assign (v := (Value.bool true)) rfl ?_)))
  refine Rl.nil (Swp.ret ?_)
  obtain rfl := Option.some.inj h
  refine ⟨[(Value.bool true)], ⟨rfl, trivial⟩, ⟨_, rfl, hL15.done, ?_⟩⟩
  exact ⟨rfl, trivial⟩
theorem awake_w0 (N : Nat)   (w : World) (S : Nat → Prop) (hG : G w)  (r : Bool) (h : awake N  = some r) (hr : r = true) :
  Calls Tryd.prog 13 #[] w (Ret w (fun v w' => (Value.bool r) = v ∧ True)) := by
 unfold awake at h
 have hL : Go.X.Loc [] [] w w [] [] := Go.X.Loc.begin0 w
 refine calls_of (l := []) (rl := [.tmp 0]) (n := 95) Tryd.func13 rfl rfl rfl (Nat.le_of_ble_eq_true rfl) ?_
 refine Swp.seq (Swp.region rfl (Rl.op (OpY.assign (v := (Value.bool false)) rfl ?_)))
 refine Rl.nil (Swp.seq (Swp.region rfl ?_))
 obtain ⟨r1, q2, h⟩ := bind_some h
 refine Rl.op (OpY.call en20 rfl rfl (bParse_w N awake_lit20 _ Any r1 q2) ?_)
 rintro _ w6 hE9 ⟨v3, rfl, k4, -⟩
 replace k4 := k4.mono (Hv.freshO (S := None) hL [])
 have hL7 := hL.ext hE9
 refine Rl.op (OpY.move (v := (Value.tuple #[(Value.agg #[(Value.bool r1.1.Negative), v3]), (Value.int .i64 r1.2)])) rfl ?_)
 refine Rl.op (OpY.extract (vs := [(Value.agg #[(Value.bool r1.1.Negative), v3]), (Value.int .i64 r1.2)]) (v := (Value.agg #[(Value.bool r1.1.Negative), v3])) rfl rfl ?_)
 refine Rl.op (OpY.extract (vs := [(Value.agg #[(Value.bool r1.1.Negative), v3]), (Value.int .i64 r1.2)]) (v := (Value.int .i64 r1.2)) rfl rfl ?_)
 refine Rl.op (OpY.alloc (cs := [(Value.bool false), (Value.slice none 0 0)]) ti24 rfl hL7 ?_)
 intro b10 w10 hL10 hS10
 have K10 := ks w hS10
 have f10 := (k4.mono (K10 None))
 refine Rl.op0 (OpY.store (vs := [(Value.bool r1.1.Negative), v3]) ti24 rfl rfl rfl rfl (ones_cons rfl (ones_cons f10.one ones_nil)) hL10 0 rfl rfl (Nat.le_of_ble_eq_true rfl) ?_)
 intro w11 (hL11 : Go.X.Loc [] [] w w11 [some b10] [Cont.cells [(Value.bool r1.1.Negative), v3]]) hS11
 have K11 := ks w hS11
 refine Rl.op (OpY.assign (v := (Value.int .i64 r1.2)) rfl ?_)
 refine Rl.nil (Swp.seq (Swp.region rfl ?_))
 obtain ⟨r10, q10, h⟩ := bind_some h
 refine Rl.op (OpY.call en20 rfl rfl (bParse_w N ([45, 48] : List UInt8) _ Any r10 q10) ?_)
 rintro _ w12 hE10 ⟨v10, rfl, k10, -⟩
 replace k10 := k10.mono (Hv.freshO (S := None) hL11 [])
 have hL12 := hL11.ext hE10
 have K12 := ke hL11 hE10
 refine Rl.op (OpY.move (v := (Value.tuple #[(Value.agg #[(Value.bool r10.1.Negative), v10]), (Value.int .i64 r10.2)])) rfl ?_)
 refine Rl.op (OpY.extract (vs := [(Value.agg #[(Value.bool r10.1.Negative), v10]), (Value.int .i64 r10.2)]) (v := (Value.agg #[(Value.bool r10.1.Negative), v10])) rfl rfl ?_)
 refine Rl.op (OpY.extract (vs := [(Value.agg #[(Value.bool r10.1.Negative), v10]), (Value.int .i64 r10.2)]) (v := (Value.int .i64 r10.2)) rfl rfl ?_)
 refine Rl.op (OpY.alloc (cs := [(Value.bool false), (Value.slice none 0 0)]) ti24 rfl hL12 ?_)
 intro b11 w13 hL13 hS12
 have K13 := ks w hS12
 have f11 := (k10.mono (K13 None))
 refine Rl.op0 (OpY.store (vs := [(Value.bool r10.1.Negative), v10]) ti24 rfl rfl rfl rfl (ones_cons rfl (ones_cons f11.one ones_nil)) hL13 0 rfl rfl (Nat.le_of_ble_eq_true rfl) ?_)
 intro w14 (hL14 : Go.X.Loc [] [] w w14 [some b11, some b10] [Cont.cells [(Value.bool r10.1.Negative), v10], Cont.cells [(Value.bool r1.1.Negative), v3]]) hS13
 have K14 := ks w hS13
 refine Rl.op (OpY.assign (v := (Value.int .i64 r10.2)) rfl ?_)
 refine Rl.nil (Swp.seq (Swp.region rfl ?_))
 obtain ⟨r11, q11, h⟩ := bind_some h
 refine Rl.op (OpY.call en20 rfl rfl (bParse_w N ([48, 48, 55] : List UInt8) _ Any r11 q11) ?_)
 rintro _ w15 hE11 ⟨v11, rfl, k11, -⟩
 replace k11 := k11.mono (Hv.freshO (S := None) hL14 [])
 have hL15 := hL14.ext hE11
 have K15 := ke hL14 hE11
 refine Rl.op (OpY.move (v := (Value.tuple #[(Value.agg #[(Value.bool r11.1.Negative), v11]), (Value.int .i64 r11.2)])) rfl ?_)
 refine Rl.op (OpY.extract (vs := [(Value.agg #[(Value.bool r11.1.Negative), v11]), (Value.int .i64 r11.2)]) (v := (Value.agg #[(Value.bool r11.1.Negative), v11])) rfl rfl ?_)
 refine Rl.op (OpY.extract (vs := [(Value.agg #[(Value.bool r11.1.Negative), v11]), (Value.int .i64 r11.2)]) (v := (Value.int .i64 r11.2)) rfl rfl ?_)
 refine Rl.op (OpY.alloc (cs := [(Value.bool false), (Value.slice none 0 0)]) ti24 rfl hL15 ?_)
 intro b12 w16 hL16 hS14
 have K16 := ks w hS14
 have f12 := (k11.mono (K16 None))
 refine Rl.op0 (OpY.store (vs := [(Value.bool r11.1.Negative), v11]) ti24 rfl rfl rfl rfl (ones_cons rfl (ones_cons f12.one ones_nil)) hL16 0 rfl rfl (Nat.le_of_ble_eq_true rfl) ?_)
 intro w17 (hL17 : Go.X.Loc [] [] w w17 [some b12, some b11, some b10] [Cont.cells [(Value.bool r11.1.Negative), v11], Cont.cells [(Value.bool r10.1.Negative), v10], Cont.cells [(Value.bool r1.1.Negative), v3]]) hS15
 have K17 := ks w hS15
 refine Rl.op (OpY.assign (v := (Value.int .i64 r11.2)) rfl ?_)
 refine Rl.nil (Swp.seq (Swp.region rfl ?_))
 obtain ⟨r12, q12, h⟩ := bind_some h
 refine Rl.op (OpY.call en30 rfl rfl (bOf_w N (-7) _ Any r12 q12) ?_)
 rintro _ w18 hE12 ⟨v12, rfl, k12, -⟩
 replace k12 := k12.mono (Hv.freshO (S := None) hL17 [])
 have hL18 := hL17.ext hE12
 have K18 := ke hL17 hE12
 obtain ⟨r13, q13, h⟩ := bind_some h
 refine Rl.op (OpY.call en30 rfl rfl (bOf_w N 2 _ Any r13 q13) ?_)
 rintro _ w19 hE13 ⟨v13, rfl, k13, -⟩
 replace k13 := k13.mono (Hv.freshO (S := None) hL18 [])
 have hL19 := hL18.ext hE13
 have K19 := ke hL18 hE13
 obtain ⟨r14, q14, h⟩ := bind_some h
 have f13 := (k12.mono (K19 None))
 refine Rl.op (OpY.call en15 rfl rfl (bDivFloor_w N r12 r13 v12 v13 _ Any (f13.mono vw_any) (k13.mono vw_any) r14 q14) ?_)
 rintro _ w20 hE14 ⟨v14, v15, rfl, k14, k15, -⟩
 replace k14 := k14.mono (Hv.freshO (S := None) hL19 [])
 replace k15 := k15.mono (Hv.freshO (S := None) hL19 [])
 have hL20 := hL19.ext hE14
 have K20 := ke hL19 hE14
 refine Rl.op (OpY.move (v := (Value.tuple #[(Value.agg #[(Value.bool r14.1.Negative), v14]), (Value.agg #[(Value.bool r14.2.1.Negative), v15]), (Value.bool r14.2.2)])) rfl ?_)
 refine Rl.op (OpY.extract (vs := [(Value.agg #[(Value.bool r14.1.Negative), v14]), (Value.agg #[(Value.bool r14.2.1.Negative), v15]), (Value.bool r14.2.2)]) (v := (Value.agg #[(Value.bool r14.1.Negative), v14])) rfl rfl ?_)
 refine Rl.op (OpY.extract (vs := [(Value.agg #[(Value.bool r14.1.Negative), v14]), (Value.agg #[(Value.bool r14.2.1.Negative), v15]), (Value.bool r14.2.2)]) (v := (Value.agg #[(Value.bool r14.2.1.Negative), v15])) rfl rfl ?_)
 refine Rl.op (OpY.extract (vs := [(Value.agg #[(Value.bool r14.1.Negative), v14]), (Value.agg #[(Value.bool r14.2.1.Negative), v15]), (Value.bool r14.2.2)]) (v := (Value.bool r14.2.2)) rfl rfl ?_)
 refine Rl.op (OpY.alloc (cs := [(Value.bool false), (Value.slice none 0 0)]) ti24 rfl hL20 ?_)
 intro b13 w21 hL21 hS16
 have K21 := ks w hS16
 refine Rl.op (OpY.alloc (cs := [(Value.bool false), (Value.slice none 0 0)]) ti24 rfl hL21 ?_)
 intro b14 w22 hL22 hS17
 have K22 := ks w hS17
 have f14 := ((k14.mono (K21 None)).mono (K22 None))
 refine Rl.op0 (OpY.store (vs := [(Value.bool r14.1.Negative), v14]) ti24 rfl rfl rfl rfl (ones_cons rfl (ones_cons f14.one ones_nil)) hL22 1 rfl rfl (Nat.le_of_ble_eq_true rfl) ?_)
 intro w23 (hL23 : Go.X.Loc [] [] w w23 [some b14, some b13, some b12, some b11, some b10] [Cont.cells [(Value.bool false), (Value.slice none 0 0)], Cont.cells [(Value.bool r14.1.Negative), v14], Cont.cells [(Value.bool r11.1.Negative), v11], Cont.cells [(Value.bool r10.1.Negative), v10], Cont.cells [(Value.bool r1.1.Negative), v3]]) hS18
 have K23 := ks w hS18
 have f15 := (((k15.mono (K21 None)).mono (K22 None)).mono (K23 None))
 refine Rl.op0 (OpY.store (vs := [(Value.bool r14.2.1.Negative), v15]) ti24 rfl rfl rfl rfl (ones_cons rfl (ones_cons f15.one ones_nil)) hL23 0 rfl rfl (Nat.le_of_ble_eq_true rfl) ?_)
 intro w24 (hL24 : Go.X.Loc [] [] w w24 [some b14, some b13, some b12, some b11, some b10] [Cont.cells [(Value.bool r14.2.1.Negative), v15], Cont.cells [(Value.bool r14.1.Negative), v14], Cont.cells [(Value.bool r11.1.Negative), v11], Cont.cells [(Value.bool r10.1.Negative), v10], Cont.cells [(Value.bool r1.1.Negative), v3]]) hS19
 have K24 := ks w hS19
 refine Rl.op (OpY.assign (v := (Value.bool r14.2.2)) rfl ?_)
 refine Rl.nil (Swp.seq (Swp.region rfl ?_))
 obtain ⟨r15, q15, h⟩ := bind_some h
 refine Rl.op (OpY.call en30 rfl rfl (bOf_w N 7 _ Any r15 q15) ?_)
 rintro _ w25 hE15 ⟨v16, rfl, k16, -⟩
 replace k16 := k16.mono (Hv.freshO (S := None) hL24 [])
 have hL25 := hL24.ext hE15
 have K25 := ke hL24 hE15
 obtain ⟨r16, q16, h⟩ := bind_some h
 refine Rl.op (OpY.call en30 rfl rfl (bOf_w N (-2) _ Any r16 q16) ?_)
 rintro _ w26 hE16 ⟨v17, rfl, k17, -⟩
 replace k17 := k17.mono (Hv.freshO (S := None) hL25 [])
 have hL26 := hL25.ext hE16
 have K26 := ke hL25 hE16
 obtain ⟨r17, q17, h⟩ := bind_some h
 have f16 := (k16.mono (K26 None))
 refine Rl.op (OpY.call en15 rfl rfl (bDivFloor_w N r15 r16 v16 v17 _ Any (f16.mono vw_any) (k17.mono vw_any) r17 q17) ?_)
 rintro _ w27 hE17 ⟨v18, v19, rfl, k18, k19, -⟩
 replace k18 := k18.mono (Hv.freshO (S := None) hL26 [])
 replace k19 := k19.mono (Hv.freshO (S := None) hL26 [])
 have hL27 := hL26.ext hE17
 have K27 := ke hL26 hE17
 refine Rl.op (OpY.move (v := (Value.tuple #[(Value.agg #[(Value.bool r17.1.Negative), v18]), (Value.agg #[(Value.bool r17.2.1.Negative), v19]), (Value.bool r17.2.2)])) rfl ?_)
 refine Rl.op (OpY.extract (vs := [(Value.agg #[(Value.bool r17.1.Negative), v18]), (Value.agg #[(Value.bool r17.2.1.Negative), v19]), (Value.bool r17.2.2)]) (v := (Value.agg #[(Value.bool r17.1.Negative), v18])) rfl rfl ?_)
 refine Rl.op (OpY.extract (vs := [(Value.agg #[(Value.bool r17.1.Negative), v18]), (Value.agg #[(Value.bool r17.2.1.Negative), v19]), (Value.bool r17.2.2)]) (v := (Value.agg #[(Value.bool r17.2.1.Negative), v19])) rfl rfl ?_)
 refine Rl.op (OpY.extract (vs := [(Value.agg #[(Value.bool r17.1.Negative), v18]), (Value.agg #[(Value.bool r17.2.1.Negative), v19]), (Value.bool r17.2.2)]) (v := (Value.bool r17.2.2)) rfl rfl ?_)
 refine Rl.op (OpY.alloc (cs := [(Value.bool false), (Value.slice none 0 0)]) ti24 rfl hL27 ?_)
 intro b15 w28 hL28 hS20
 have K28 := ks w hS20
 refine Rl.op (OpY.alloc (cs := [(Value.bool false), (Value.slice none 0 0)]) ti24 rfl hL28 ?_)
 intro b16 w29 hL29 hS21
 have K29 := ks w hS21
 have f17 := ((k18.mono (K28 None)).mono (K29 None))
 refine Rl.op0 (OpY.store (vs := [(Value.bool r17.1.Negative), v18]) ti24 rfl rfl rfl rfl (ones_cons rfl (ones_cons f17.one ones_nil)) hL29 1 rfl rfl (Nat.le_of_ble_eq_true rfl) ?_)
 intro w30 (hL30 : Go.X.Loc [] [] w w30 [some b16, some b15, some b14, some b13, some b12, some b11, some b10] [Cont.cells [(Value.bool false), (Value.slice none 0 0)], Cont.cells [(Value.bool r17.1.Negative), v18], Cont.cells [(Value.bool r14.2.1.Negative), v15], Cont.cells [(Value.bool r14.1.Negative), v14], Cont.cells [(Value.bool r11.1.Negative), v11], Cont.cells [(Value.bool r10.1.Negative), v10], Cont.cells [(Value.bool r1.1.Negative), v3]]) hS22
 have K30 := ks w hS22
 have f18 := (((k19.mono (K28 None)).mono (K29 None)).mono (K30 None))
 refine Rl.op0 (OpY.store (vs := [(Value.bool r17.2.1.Negative), v19]) ti24 rfl rfl rfl rfl (ones_cons rfl (ones_cons f18.one ones_nil)) hL30 0 rfl rfl (Nat.le_of_ble_eq_true rfl) ?_)
 intro w31 (hL31 : Go.X.Loc [] [] w w31 [some b16, some b15, some b14, some b13, some b12, some b11, some b10] [Cont.cells [(Value.bool r17.2.1.Negative), v19], Cont.cells [(Value.bool r17.1.Negative), v18], Cont.cells [(Value.bool r14.2.1.Negative), v15], Cont.cells [(Value.bool r14.1.Negative), v14], Cont.cells [(Value.bool r11.1.Negative), v11], Cont.cells [(Value.bool r10.1.Negative), v10], Cont.cells [(Value.bool r1.1.Negative), v3]]) hS23
 have K31 := ks w hS23
 refine Rl.op (OpY.assign (v := (Value.bool r17.2.2)) rfl ?_)
 refine Rl.nil (Swp.seq (Swp.region rfl ?_))
 obtain ⟨r18, q18, h⟩ := bind_some h
 refine Rl.op (OpY.call en30 rfl rfl (bOf_w N (-12) _ Any r18 q18) ?_)
 rintro _ w32 hE18 ⟨v20, rfl, k20, -⟩
 replace k20 := k20.mono (Hv.freshO (S := None) hL31 [])
 have hL32 := hL31.ext hE18
 have K32 := ke hL31 hE18
 obtain ⟨r19, q19, h⟩ := bind_some h
 refine Rl.op (OpY.call en30 rfl rfl (bOf_w N 18 _ Any r19 q19) ?_)
 rintro _ w33 hE19 ⟨v21, rfl, k21, -⟩
 replace k21 := k21.mono (Hv.freshO (S := None) hL32 [])
 have hL33 := hL32.ext hE19
 have K33 := ke hL32 hE19
 obtain ⟨r20, q20, h⟩ := bind_some h
 have f19 := (k20.mono (K33 None))
 refine Rl.op (OpY.call en26 rfl rfl (bGCD_w N r18 r19 v20 v21 _ Any (f19.mono vw_any) (k21.mono vw_any) r20 q20) ?_)
 rintro _ w34 hE20 ⟨v22, rfl, k22, -⟩
 replace k22 := k22.mono (Hv.freshO (S := None) hL33 [])
 have hL34 := hL33.ext hE20
 have K34 := ke hL33 hE20
 refine Rl.op (OpY.alloc (cs := [(Value.bool false), (Value.slice none 0 0)]) ti24 rfl hL34 ?_)
 intro b17 w35 hL35 hS24
 have K35 := ks w hS24
 have f20 := (k22.mono (K35 None))
 refine Rl.op0 (OpY.store (vs := [(Value.bool r20.Negative), v22]) ti24 rfl rfl rfl rfl (ones_cons rfl (ones_cons f20.one ones_nil)) hL35 0 rfl rfl (Nat.le_of_ble_eq_true rfl) ?_)
 intro w36 (hL36 : Go.X.Loc [] [] w w36 [some b17, some b16, some b15, some b14, some b13, some b12, some b11, some b10] [Cont.cells [(Value.bool r20.Negative), v22], Cont.cells [(Value.bool r17.2.1.Negative), v19], Cont.cells [(Value.bool r17.1.Negative), v18], Cont.cells [(Value.bool r14.2.1.Negative), v15], Cont.cells [(Value.bool r14.1.Negative), v14], Cont.cells [(Value.bool r11.1.Negative), v11], Cont.cells [(Value.bool r10.1.Negative), v10], Cont.cells [(Value.bool r1.1.Negative), v3]]) hS25
 have K36 := ks w hS25
 refine Rl.nil (Swp.seq (Swp.region rfl (Rl.op (OpY.move (v := (Value.int .i64 r1.2)) rfl ?_))))
 refine Rl.op (OpY.eql (x := r1.2) (y := 0) ((r1.2 : Int) = 0) rfl rfl Iff.rfl ?_)
 refine Rl.op (OpY.move (v := (Value.bool (decide ((r1.2 : Int) = 0)))) rfl ?_)
 by_cases hc10 : (r1.2 : Int) = 0
 ·
  replace h := ite_t hc10 h
  refine Rl.yes rfl rfl (decide_eq_true hc10) (OpY.ldBoxA (vs := [(Value.bool r1.1.Negative), v3]) Tryd.underlying24 rfl ti24 rfl (hL36.at 7 rfl rfl) rfl rfl ?_)
  have hE21 : Els (rInt .u32) (Hv w.heap.size None [some b17, some b16, some b15, some b14, some b13, some b12, some b11, some b10] w36) [(Value.int .u32 0), (Value.int .u32 0), (Value.int .u32 1)] [0, 0, 1] := (Els.cons (a := [(Value.int .u32 0)]) rfl (Els.cons (a := [(Value.int .u32 0)]) rfl (Els.cons (a := [(Value.int .u32 1)]) rfl Els.nil)))
  refine Rl.yes rfl rfl (decide_eq_true hc10) (OpY.litRow (r := (rInt .u32)) (vs := [(Value.int .u32 0), (Value.int .u32 0), (Value.int .u32 1)]) (css := [[(Value.int .u32 0)], [(Value.int .u32 0)], [(Value.int .u32 1)]]) (xs := [0, 0, 1]) Tryd.underlying22 ti47 (Nat.le_of_ble_eq_true rfl) rfl rfl ⟨rfl, rfl, ⟨rfl, rfl, ⟨rfl, rfl, trivial⟩⟩⟩ (Nat.le_of_ble_eq_true rfl) hE21 rfl hL36 ?_)
  intro b18 w37 hc11 hL37 hS26
  have K37 := ks w hS26
  refine Rl.yes rfl rfl (decide_eq_true hc10) (OpY.build (zc := [(Value.bool false), (Value.slice none 0 0)]) (cs := [(Value.bool false), (osv (some b18) 0 3 3)]) (is := [1]) (vs := [(osv (some b18) 0 3 3)]) (css := [[(osv (some b18) 0 3 3)]]) pl24 ti24 rfl rfl rfl ⟨(one_cells (osv_one _ _ _ _)), trivial⟩ rfl ?_)
  obtain ⟨r21, q21, h⟩ := bind_some h
  have f21 := (((((((((((((((((((((((((((f10.mono (K11 None)).mono (K12 None)).mono (K13 None)).mono (K14 None)).mono (K15 None)).mono (K16 None)).mono (K17 None)).mono (K18 None)).mono (K19 None)).mono (K20 None)).mono (K21 None)).mono (K22 None)).mono (K23 None)).mono (K24 None)).mono (K25 None)).mono (K26 None)).mono (K27 None)).mono (K28 None)).mono (K29 None)).mono (K30 None)).mono (K31 None)).mono (K32 None)).mono (K33 None)).mono (K34 None)).mono (K35 None)).mono (K36 None)).mono (K37 None))
  have f22 := (hE21.mono (K37 None))
  refine Rl.yes rfl rfl (decide_eq_true hc10) (OpY.call en18 rfl rfl (rSame_w N r1.1 (Big.mk false [0, 0, 1]) v3 (osv (some b18) 0 3 3) _ Any (f21.mono vw_any) (own_row_any (pre := []) (o := 0) (n := 3) (cap := 3) (hL37.at 0 rfl rfl) f22 vw_any rfl rfl rfl hc11) r21 q21) ?_)
  rintro _ w38 hE22 ⟨rfl, -⟩
  have hL38 := hL37.ext hE22
  have K38 := ke hL37 hE22
  refine Rl.op (OpY.pick_t (t := (decide ((r1.2 : Int) = 0))) (v := (Value.bool r21)) rfl (decide_eq_true hc10) rfl ?_)
  refine Rl.op (OpY.move (v := (Value.bool r21)) rfl ?_)
  by_cases hc12 : r21 = true
  ·
   replace h := ite_t hc12 h
   refine Rl.yes rfl rfl hc12 (OpY.ldBoxA (vs := [(Value.bool r1.1.Negative), v3]) Tryd.underlying24 rfl ti24 rfl (hL38.at 8 rfl rfl) rfl rfl ?_)
   obtain ⟨r22, q22, h⟩ := bind_some h
   have f23 := (f21.mono (K38 None))
   refine Rl.yes rfl rfl hc12 (OpY.call en19 rfl rfl (bFormat_w N r1.1 v3 _ Any (hG.ext hL38.done) (f23.mono vw_any) r22 q22) ?_)
   rintro _ w39 hE23 ⟨rfl, -⟩
   have hL39 := hL38.ext hE23
   have K39 := ke hL38 hE23
   refine Rl.yes rfl rfl hc12 (OpY.sEql (x := r22) (y := awake_lit20) rfl rfl ?_)
   refine Rl.op (OpY.pick_t (t := r21) (v := (Value.bool (decide (r22 = awake_lit20)))) rfl hc12 rfl ?_)
   refine Rl.op (OpY.move (v := (Value.bool (decide (r22 = awake_lit20)))) rfl ?_)
   by_cases hc13 : r22 = awake_lit20
   ·
    replace h := ite_t hc13 h
    refine Rl.yes rfl rfl (decide_eq_true hc13) (OpY.move (v := (Value.int .i64 r10.2)) rfl ?_)
    refine Rl.yes rfl rfl (decide_eq_true hc13) (OpY.eql (x := r10.2) (y := 2) ((r10.2 : Int) = 2) rfl rfl Iff.rfl ?_)
    refine Rl.op (OpY.pick_t (t := (decide (r22 = awake_lit20))) (v := (Value.bool (decide ((r10.2 : Int) = 2)))) rfl (decide_eq_true hc13) rfl ?_)
    refine Rl.op (OpY.move (v := (Value.bool (decide ((r10.2 : Int) = 2)))) rfl ?_)
    by_cases hc14 : (r10.2 : Int) = 2
    ·
     replace h := ite_t hc14 h
     refine Rl.yes rfl rfl (decide_eq_true hc14) (OpY.move (v := (Value.int .i64 r11.2)) rfl ?_)
     refine Rl.yes rfl rfl (decide_eq_true hc14) (OpY.eql (x := r11.2) (y := 2) ((r11.2 : Int) = 2) rfl rfl Iff.rfl ?_)
     refine Rl.op (OpY.pick_t (t := (decide ((r10.2 : Int) = 2))) (v := (Value.bool (decide ((r11.2 : Int) = 2)))) rfl (decide_eq_true hc14) rfl ?_)
     refine Rl.op (OpY.move (v := (Value.bool (decide ((r11.2 : Int) = 2)))) rfl ?_)
     by_cases hc15 : (r11.2 : Int) = 2
     ·
      replace h := ite_t hc15 h
      refine Rl.yes rfl rfl (decide_eq_true hc15) (OpY.move (v := (Value.bool r14.2.2)) rfl ?_)
      refine Rl.op (OpY.pick_t (t := (decide ((r11.2 : Int) = 2))) (v := (Value.bool r14.2.2)) rfl (decide_eq_true hc15) rfl ?_)
      refine Rl.op (OpY.move (v := (Value.bool r14.2.2)) rfl ?_)
      by_cases hc16 : r14.2.2 = true
      ·
       replace h := ite_t hc16 h
       refine Rl.yes rfl rfl hc16 (OpY.move (v := (Value.bool r17.2.2)) rfl ?_)
       refine Rl.op (OpY.pick_t (t := r14.2.2) (v := (Value.bool r17.2.2)) rfl hc16 rfl ?_)
       refine Rl.op (OpY.move (v := (Value.bool r17.2.2)) rfl ?_)
       by_cases hc17 : r17.2.2 = true
       ·
        replace h := ite_t hc17 h
        refine Rl.yes rfl rfl hc17 (OpY.ldBoxA (vs := [(Value.bool r14.1.Negative), v14]) Tryd.underlying24 rfl ti24 rfl (hL39.at 5 rfl rfl) rfl rfl ?_)
        obtain ⟨r23, q23, h⟩ := bind_some h
        have f24 := (((((((((((((((((f14.mono (K23 None)).mono (K24 None)).mono (K25 None)).mono (K26 None)).mono (K27 None)).mono (K28 None)).mono (K29 None)).mono (K30 None)).mono (K31 None)).mono (K32 None)).mono (K33 None)).mono (K34 None)).mono (K35 None)).mono (K36 None)).mono (K37 None)).mono (K38 None)).mono (K39 None))
        refine Rl.yes rfl rfl hc17 (OpY.call en19 rfl rfl (bFormat_w N r14.1 v14 _ Any (hG.ext hL39.done) (f24.mono vw_any) r23 q23) ?_)
        rintro _ w40 hE24 ⟨rfl, -⟩
        have hL40 := hL39.ext hE24
        have K40 := ke hL39 hE24
        refine Rl.yes rfl rfl hc17 (OpY.sEql (x := r23) (y := ([45, 52] : List UInt8)) rfl rfl ?_)
        refine Rl.op (OpY.pick_t (t := r17.2.2) (v := (Value.bool (decide (r23 = ([45, 52] : List UInt8))))) rfl hc17 rfl ?_)
        refine Rl.op (OpY.move (v := (Value.bool (decide (r23 = ([45, 52] : List UInt8))))) rfl ?_)
        by_cases hc18 : r23 = ([45, 52] : List UInt8)
        ·
         replace h := ite_t hc18 h
         refine Rl.yes rfl rfl (decide_eq_true hc18) (OpY.ldBoxA (vs := [(Value.bool r14.2.1.Negative), v15]) Tryd.underlying24 rfl ti24 rfl (hL40.at 4 rfl rfl) rfl rfl ?_)
         obtain ⟨r24, q24, h⟩ := bind_some h
         have f25 := (((((((((((((((((f15.mono (K24 None)).mono (K25 None)).mono (K26 None)).mono (K27 None)).mono (K28 None)).mono (K29 None)).mono (K30 None)).mono (K31 None)).mono (K32 None)).mono (K33 None)).mono (K34 None)).mono (K35 None)).mono (K36 None)).mono (K37 None)).mono (K38 None)).mono (K39 None)).mono (K40 None))
         refine Rl.yes rfl rfl (decide_eq_true hc18) (OpY.call en19 rfl rfl (bFormat_w N r14.2.1 v15 _ Any (hG.ext hL40.done) (f25.mono vw_any) r24 q24) ?_)
         rintro _ w41 hE25 ⟨rfl, -⟩
         have hL41 := hL40.ext hE25
         have K41 := ke hL40 hE25
         refine Rl.yes rfl rfl (decide_eq_true hc18) (OpY.sEql (x := r24) (y := ([49] : List UInt8)) rfl rfl ?_)
         refine Rl.op (OpY.pick_t (t := (decide (r23 = ([45, 52] : List UInt8)))) (v := (Value.bool (decide (r24 = ([49] : List UInt8))))) rfl (decide_eq_true hc18) rfl ?_)
         refine Rl.op (OpY.move (v := (Value.bool (decide (r24 = ([49] : List UInt8))))) rfl ?_)
         by_cases hc19 : r24 = ([49] : List UInt8)
         ·
          replace h := ite_t hc19 h
          refine Rl.yes rfl rfl (decide_eq_true hc19) (OpY.ldBoxA (vs := [(Value.bool r17.1.Negative), v18]) Tryd.underlying24 rfl ti24 rfl (hL41.at 3 rfl rfl) rfl rfl ?_)
          obtain ⟨r25, q25, h⟩ := bind_some h
          have f26 := ((((((((((((f17.mono (K30 None)).mono (K31 None)).mono (K32 None)).mono (K33 None)).mono (K34 None)).mono (K35 None)).mono (K36 None)).mono (K37 None)).mono (K38 None)).mono (K39 None)).mono (K40 None)).mono (K41 None))
          refine Rl.yes rfl rfl (decide_eq_true hc19) (OpY.call en19 rfl rfl (bFormat_w N r17.1 v18 _ Any (hG.ext hL41.done) (f26.mono vw_any) r25 q25) ?_)
          rintro _ w42 hE26 ⟨rfl, -⟩
          have hL42 := hL41.ext hE26
          have K42 := ke hL41 hE26
          refine Rl.yes rfl rfl (decide_eq_true hc19) (OpY.sEql (x := r25) (y := ([45, 52] : List UInt8)) rfl rfl ?_)
          refine Rl.op (OpY.pick_t (t := (decide (r24 = ([49] : List UInt8)))) (v := (Value.bool (decide (r25 = ([45, 52] : List UInt8))))) rfl (decide_eq_true hc19) rfl ?_)
          refine Rl.op (OpY.move (v := (Value.bool (decide (r25 = ([45, 52] : List UInt8))))) rfl ?_)
          by_cases hc20 : r25 = ([45, 52] : List UInt8)
          ·
           replace h := ite_t hc20 h
           refine Rl.yes rfl rfl (decide_eq_true hc20) (OpY.ldBoxA (vs := [(Value.bool r17.2.1.Negative), v19]) Tryd.underlying24 rfl ti24 rfl (hL42.at 2 rfl rfl) rfl rfl ?_)
           obtain ⟨r26, q26, h⟩ := bind_some h
           have f27 := ((((((((((((f18.mono (K31 None)).mono (K32 None)).mono (K33 None)).mono (K34 None)).mono (K35 None)).mono (K36 None)).mono (K37 None)).mono (K38 None)).mono (K39 None)).mono (K40 None)).mono (K41 None)).mono (K42 None))
           refine Rl.yes rfl rfl (decide_eq_true hc20) (OpY.call en19 rfl rfl (bFormat_w N r17.2.1 v19 _ Any (hG.ext hL42.done) (f27.mono vw_any) r26 q26) ?_)
           rintro _ w43 hE27 ⟨rfl, -⟩
           have hL43 := hL42.ext hE27
           have K43 := ke hL42 hE27
           refine Rl.yes rfl rfl (decide_eq_true hc20) (OpY.sEql (x := r26) (y := ([45, 49] : List UInt8)) rfl rfl ?_)
           refine Rl.op (OpY.pick_t (t := (decide (r25 = ([45, 52] : List UInt8)))) (v := (Value.bool (decide (r26 = ([45, 49] : List UInt8))))) rfl (decide_eq_true hc20) rfl ?_)
           refine Rl.op (OpY.move (v := (Value.bool (decide (r26 = ([45, 49] : List UInt8))))) rfl ?_)
           by_cases hc21 : r26 = ([45, 49] : List UInt8)
           ·
            replace h := ite_t hc21 h
            refine Rl.yes rfl rfl (decide_eq_true hc21) (OpY.ldBoxA (vs := [(Value.bool r20.Negative), v22]) Tryd.underlying24 rfl ti24 rfl (hL43.at 1 rfl rfl) rfl rfl ?_)
            obtain ⟨r27, q27, h⟩ := bind_some h
            have f28 := ((((((((f20.mono (K36 None)).mono (K37 None)).mono (K38 None)).mono (K39 None)).mono (K40 None)).mono (K41 None)).mono (K42 None)).mono (K43 None))
            refine Rl.yes rfl rfl (decide_eq_true hc21) (OpY.call en19 rfl rfl (bFormat_w N r20 v22 _ Any (hG.ext hL43.done) (f28.mono vw_any) r27 q27) ?_)
            rintro _ w44 hE28 ⟨rfl, -⟩
            have hL44 := hL43.ext hE28
            refine Rl.yes rfl rfl (decide_eq_true hc21) (OpY.sEql (x := r27) (y := ([54] : List UInt8)) rfl rfl ?_)
            refine Rl.op (OpY.pick_t (t := (decide (r26 = ([45, 49] : List UInt8)))) (v := (Value.bool (decide (r27 = ([54] : List UInt8))))) rfl (decide_eq_true hc21) rfl ?_)
            refine Rl.op (OpY.assign (v := (Value.bool (decide (r27 = ([54] : List UInt8))))) rfl ?_)
            refine Rl.nil (Swp.ret ?_)
            obtain rfl := Option.some.inj h
            refine ⟨[(Value.bool (decide (r27 = ([54] : List UInt8))))], ⟨rfl, trivial⟩, ⟨_, rfl, hL44.done, ?_⟩⟩
            exact ⟨rfl, trivial⟩
           ·
            exact absurd ((Option.some.inj (ite_f hc21 h)).trans hr) Bool.false_ne_true
          ·
           exact absurd ((Option.some.inj (ite_f hc20 h)).trans hr) Bool.false_ne_true
         ·
          exact absurd ((Option.some.inj (ite_f hc19 h)).trans hr) Bool.false_ne_true
        ·
         exact absurd ((Option.some.inj (ite_f hc18 h)).trans hr) Bool.false_ne_true
       ·
        exact absurd ((Option.some.inj (ite_f hc17 h)).trans hr) Bool.false_ne_true
      ·
       exact absurd ((Option.some.inj (ite_f hc16 h)).trans hr) Bool.false_ne_true
     ·
      exact absurd ((Option.some.inj (ite_f hc15 h)).trans hr) Bool.false_ne_true
    ·
     exact absurd ((Option.some.inj (ite_f hc14 h)).trans hr) Bool.false_ne_true
   ·
    exact absurd ((Option.some.inj (ite_f hc13 h)).trans hr) Bool.false_ne_true
  ·
   exact absurd ((Option.some.inj (ite_f hc12 h)).trans hr) Bool.false_ne_true
 ·
  exact absurd ((Option.some.inj (ite_f hc10 h)).trans hr) Bool.false_ne_true
theorem awake_w (N : Nat) (w : World) (S : Nat → Prop) (hG : G w) (r : Bool) (h : awake N = some r) :
  Calls Tryd.prog 13 #[] w (Ret w (fun v w' => (Value.bool r) = v ∧ True)) := awake_w0 N w S hG r h (awake_true h)

theorem lawNormal_w (N : Nat) (x : Big) (x_v : Value) (w : World) (S : Nat → Prop) (hG : G w) (x_h : Rs (rInt .u32) (Hv w.heap.size S [] w) x_v x.Digits) (r : Bool) (h : lawNormal N x = some r) :
  Calls Tryd.prog 10 #[(Value.agg #[(Value.bool x.Negative), x_v])] w (Ret w (fun v w' => (Value.bool r) = v ∧ True)) := by
 unfold lawNormal at h
 have hL : Go.X.Loc [] [] w w [] [] := Go.X.Loc.begin0 w
 refine calls_of (l := [(Value.agg #[(Value.bool x.Negative), x_v])]) (rl := [.tmp 2]) (n := 59) Tryd.func10 rfl rfl rfl (Nat.le_of_ble_eq_true rfl) ?_
 refine Swp.seq (Swp.region rfl (Rl.op (OpY.box (cs := [(Value.bool x.Negative), x_v]) rfl rfl hL ?_)))
 intro b1 w2 hL3 hS5
 have K4 := ks w hS5
 refine Rl.op (OpY.assign (v := (Value.bool false)) rfl ?_)
 refine Rl.nil (Swp.seq (Swp.seq ?_))
 obtain ⟨s10, h, g10⟩ := bind_some h
 refine Swp.join (fun e w' => ∃ (x10 : Bool) (u : Env), x10 = s10 ∧ e = upds [(1, (Value.pointer (some ⟨b1, 0, none⟩))), (14, (Value.bool x10))] u ∧ Go.X.Loc [] [] w w' [some b1] [Cont.cells [(Value.bool x.Negative), x_v]] ∧ Keep w.heap.size [some b1] w2 [some b1] w' ∧ True) ?_ ?_
 ·
  refine Swp.region rfl ?_
  obtain ⟨r10, q10, h⟩ := bind_some h
  refine Rl.op (OpY.call en13 rfl rfl (awake_w N _ Any (hG.ext hL3.done) r10 q10) ?_)
  rintro _ w10 hE10 ⟨rfl, -⟩
  have hL10 := hL3.ext hE10
  have K10 := ke hL3 hE10
  refine Rl.op (OpY.not (x := r10) rfl ?_)
  refine Rl.op (OpY.move (v := (Value.bool (!r10))) rfl ?_)
  by_cases hc10 : (!r10) = true
  ·
   replace h := ite_t hc10 h
   refine Rl.no rfl rfl hc10 ?_
   refine Rl.no rfl rfl hc10 ?_
   refine Rl.no rfl rfl hc10 ?_
   refine Rl.no rfl rfl hc10 ?_
   refine Rl.op (OpY.pick_t (t := (!r10)) (v := (Value.bool true)) rfl hc10 rfl ?_)
   refine Rl.nil ?_
   obtain rfl := Option.some.inj h
   refine Swp.pop_back ?_
   exact ⟨true, _, rfl, (upds_sym ⟨rfl, rfl, trivial⟩), hL10, K10, trivial⟩
  ·
   replace h := ite_f hc10 h
   refine Rl.yes rfl rfl (eq_false_of_ne_true hc10) (OpY.ldBoxA (vs := [(Value.bool x.Negative), x_v]) Tryd.underlying24 rfl ti24 rfl (hL10.at 0 rfl rfl) rfl rfl ?_)
   have f10 := ((x_h.mono (K4 S)).mono (K10 S))
   have hE11 : Els rBig (Hv w.heap.size S [some b1] w10) [(Value.bool x.Negative), x_v] [x] := (Els.cons (a := [(Value.bool x.Negative), x_v]) (rBig_close ⟨x_v, rfl, f10, trivial⟩) Els.nil)
   refine Rl.yes rfl rfl (eq_false_of_ne_true hc10) (OpY.litRow (r := rBig) (vs := [(Value.agg #[(Value.bool x.Negative), x_v])]) (css := [[(Value.bool x.Negative), x_v]]) (xs := [x]) Tryd.underlying45 ti24 (Nat.le_of_ble_eq_true rfl) rfl rfl ⟨rfl, rfl, trivial⟩ (Nat.le_of_ble_eq_true rfl) hE11 rfl hL10 ?_)
   intro b10 w11 hc11 hL11 hS10
   have K11 := ks w hS10
   obtain ⟨r11, q11, h⟩ := bind_some h
   have f11 := (hE11.mono (K11 S))
   refine Rl.yes rfl rfl (eq_false_of_ne_true hc10) (OpY.call en14 rfl rfl (lsmall_w N [x] (osv (some b10) 0 1 1) _ Any (own_row_any (pre := []) (o := 0) (n := 1) (cap := 1) (hL11.at 0 rfl rfl) f11 vw_any rfl rfl rfl hc11) r11 q11) ?_)
   rintro _ w12 hE12 ⟨rfl, -⟩
   have hL12 := hL11.ext hE12
   have K12 := ke hL11 hE12
   refine Rl.yes rfl rfl (eq_false_of_ne_true hc10) (OpY.not (x := r11) rfl ?_)
   refine Rl.op (OpY.pick_f (t := (!r10)) (v := (Value.bool (!r11))) rfl (eq_false_of_ne_true hc10) rfl ?_)
   refine Rl.nil ?_
   have hp10 := hL12.pick [1] rfl rfl rfl
   have hL13 : Go.X.Loc [] [] w w12 [some b1] [Cont.cells [(Value.bool x.Negative), x_v]] := hp10.1
   have K13 := ks w hp10.2
   obtain rfl := Option.some.inj h
   refine Swp.pop_back ?_
   exact ⟨(!r11), _, rfl, (upds_sym ⟨rfl, rfl, trivial⟩), hL13, (Keep.trans (Keep.trans (Keep.trans K10 K11) K12) K13), trivial⟩
 ·
  rintro _ w13 ⟨x10, u, rfl, rfl, hL14, K14, -⟩
  replace h := g10
  try dsimp only at h
  refine Swp.cond_b x10 rfl (fun hc12 => ?_) (fun hc12 => ?_)
  ·
   replace h := ite_t hc12 h
   refine Swp.seq (Swp.region rfl ?_)
   obtain ⟨r12, q12, h⟩ := bind_some h
   refine Rl.op (OpY.call en13 rfl rfl (awake_w N _ Any (hG.ext hL14.done) r12 q12) ?_)
   rintro _ w14 hE13 ⟨rfl, -⟩
   have hL15 := hL14.ext hE13
   refine Rl.op (OpY.assign (v := (Value.bool r12)) rfl ?_)
   refine Rl.nil (Swp.ret ?_)
   obtain rfl := Option.some.inj h
   refine ⟨[(Value.bool r12)], ⟨rfl, trivial⟩, ⟨_, rfl, hL15.done, ?_⟩⟩
   exact ⟨rfl, trivial⟩
  ·
   replace h := ite_f hc12 h
   refine Swp.skip (Swp.seq (Swp.region rfl (Rl.op (OpY.ldBoxA (vs := [(Value.bool x.Negative), x_v]) Tryd.underlying24 rfl ti24 rfl (hL14.at 0 rfl rfl) rfl rfl ?_))))
   obtain ⟨r13, q13, h⟩ := bind_some h
   have f12 := ((x_h.mono (K4 S)).mono (K14 S))
   refine Rl.op (OpY.call en16 rfl rfl (lcp_w N x x_v _ Any (f12.mono vw_any) r13 q13) ?_)
   rintro _ w15 hE14 ⟨v10, rfl, k10, -⟩
   replace k10 := k10.mono (Hv.freshO (S := None) hL14 [])
   have hL16 := hL14.ext hE14
   have K15 := ke hL14 hE14
   obtain ⟨r14, q14, h⟩ := bind_some h
   refine Rl.op (OpY.call en31 rfl rfl (bInt64_w N r13 v10 _ Any (k10.mono vw_any) r14 q14) ?_)
   rintro _ w16 hE15 ⟨rfl, -⟩
   have hL17 := hL16.ext hE15
   have K16 := ke hL16 hE15
   refine Rl.op (OpY.move (v := (Value.tuple #[(Value.int .i64 r14.1), (Value.bool r14.2)])) rfl ?_)
   refine Rl.op (OpY.extract (vs := [(Value.int .i64 r14.1), (Value.bool r14.2)]) (v := (Value.int .i64 r14.1)) rfl rfl ?_)
   refine Rl.op (OpY.extract (vs := [(Value.int .i64 r14.1), (Value.bool r14.2)]) (v := (Value.bool r14.2)) rfl rfl ?_)
   refine Rl.op (OpY.assign (v := (Value.int .i64 r14.1)) rfl ?_)
   refine Rl.op (OpY.assign (v := (Value.bool r14.2)) rfl ?_)
   refine Rl.nil (Swp.seq (Swp.region rfl (Rl.op (OpY.ldBoxA (vs := [(Value.bool x.Negative), x_v]) Tryd.underlying24 rfl ti24 rfl (hL17.at 0 rfl rfl) rfl rfl ?_))))
   obtain ⟨r15, q15, h⟩ := bind_some h
   have f13 := ((f12.mono (K15 S)).mono (K16 S))
   refine Rl.op (OpY.call en38 rfl rfl (rInt64_w N x x_v _ Any (f13.mono vw_any) r15 q15) ?_)
   rintro _ w17 hE16 ⟨rfl, -⟩
   have hL18 := hL17.ext hE16
   have K17 := ke hL17 hE16
   refine Rl.op (OpY.move (v := (Value.tuple #[(Value.int .i64 r15.1), (Value.bool r15.2)])) rfl ?_)
   refine Rl.op (OpY.extract (vs := [(Value.int .i64 r15.1), (Value.bool r15.2)]) (v := (Value.int .i64 r15.1)) rfl rfl ?_)
   refine Rl.op (OpY.extract (vs := [(Value.int .i64 r15.1), (Value.bool r15.2)]) (v := (Value.bool r15.2)) rfl rfl ?_)
   refine Rl.op (OpY.assign (v := (Value.int .i64 r15.1)) rfl ?_)
   refine Rl.op (OpY.assign (v := (Value.bool r15.2)) rfl ?_)
   refine Rl.nil (Swp.seq ?_)
   obtain ⟨r16, q16, h⟩ := bind_some h
   obtain ⟨r17, q17, h⟩ := bind_some h
   obtain ⟨r18, q18, h⟩ := bind_some h
   obtain ⟨r19, q19, h⟩ := bind_some h
   by_cases hc13 : r19 = true
   ·
    replace h := ite_t hc13 h
    obtain ⟨r20, q20, h⟩ := bind_some h
    obtain ⟨r21, q21, h⟩ := bind_some h
    obtain ⟨r22, q22, h⟩ := bind_some h
    by_cases hc14 : (r21 : Int) = r22
    ·
     replace h := ite_t hc14 h
     obtain ⟨r23, q23, h⟩ := bind_some h
     obtain ⟨r24, q24, h⟩ := bind_some h
     obtain ⟨r25, q25, h⟩ := bind_some h
     obtain ⟨r26, q26, h⟩ := bind_some h
     by_cases hc15 : r26 = true
     ·
      replace h := ite_t hc15 h
      by_cases hc16 : (r14.1 : Int) = r15.1
      ·
       replace h := ite_t hc16 h
       refine Swp.drawL 30 [] [] (fun W1 => [.det (Value.agg #[(Value.bool x.Negative), x_v]), .rel (fun v Z w' => ∃ v11, (Value.agg #[(Value.bool r16.Negative), v11]) = v ∧ Rs (rInt .u32) (Zv W1 w.heap.size None [some b1] Z w') v11 r16.Digits ∧ True) (fun _ => []), .rel (fun v Z w' => ∃ v12, (Value.agg #[(Value.bool r17.Negative), v12]) = v ∧ Rs (rInt .u32) (Zv W1 w.heap.size None [some b1] Z w') v12 r17.Digits ∧ True) (fun _ => []), .det (Value.agg #[(Value.bool x.Negative), x_v]), .rel (fun v Z w' => ∃ v13, (Value.agg #[(Value.bool r18.Negative), v13]) = v ∧ Rs (rInt .u32) (Zv W1 w.heap.size None [some b1] Z w') v13 r18.Digits ∧ True) (fun _ => []), .det (Value.bool r19), .det (Value.bool r19), .det (Value.agg #[(Value.bool x.Negative), x_v]), .rel (fun v Z w' => ∃ v14, (Value.agg #[(Value.bool r20.Negative), v14]) = v ∧ Rs (rInt .u32) (Zv W1 w.heap.size None [some b1] Z w') v14 r20.Digits ∧ True) (fun _ => []), .det (Value.int .i64 r21), .det (Value.agg #[(Value.bool x.Negative), x_v]), .det (Value.int .i64 r22), .det (Value.bool (decide ((r21 : Int) = r22))), .det (Value.bool (decide ((r21 : Int) = r22))), .det (Value.bool (decide ((r21 : Int) = r22))), .det (Value.agg #[(Value.bool x.Negative), x_v]), .rel (fun v Z w' => ∃ v15, (Value.agg #[(Value.bool r23.Negative), v15]) = v ∧ Rs (rInt .u32) (Zv W1 w.heap.size None [some b1] Z w') v15 r23.Digits ∧ True) (fun _ => []), .rel (fun v Z w' => ∃ v16, (Value.agg #[(Value.bool r24.Negative), v16]) = v ∧ Rs (rInt .u32) (Zv W1 w.heap.size None [some b1] Z w') v16 r24.Digits ∧ True) (fun _ => []), .det (Value.agg #[(Value.bool x.Negative), x_v]), .rel (fun v Z w' => ∃ v17, (Value.agg #[(Value.bool r25.Negative), v17]) = v ∧ Rs (rInt .u32) (Zv W1 w.heap.size None [some b1] Z w') v17 r25.Digits ∧ True) (fun _ => []), .det (Value.bool r26), .det (Value.bool r26), .det (Value.bool r26), .det (Value.int .i64 r14.1), .det (Value.int .i64 r15.1), .det (Value.bool (decide ((r14.1 : Int) = r15.1))), .det (Value.bool (decide ((r14.1 : Int) = r15.1))), .det (Value.bool (decide ((r14.1 : Int) = r15.1))), .det (Value.bool r14.2), .det (Value.bool r15.2)]) mixed rfl rfl rfl (fun _ => rfl) (fun _ => rfl) ?_ ?_
       ·
        intro W1 _
        exact ⟨fun v Z Z' w w' hΦ hz _ _ hs => by obtain ⟨v11, rfl, k11, -⟩ := hΦ; exact ⟨v11, rfl, (k11.mono (Zv.stay hz hs)), trivial⟩, ⟨fun v Z Z' w w' hΦ hz _ _ hs => by obtain ⟨v12, rfl, k12, -⟩ := hΦ; exact ⟨v12, rfl, (k12.mono (Zv.stay hz hs)), trivial⟩, ⟨fun v Z Z' w w' hΦ hz _ _ hs => by obtain ⟨v13, rfl, k13, -⟩ := hΦ; exact ⟨v13, rfl, (k13.mono (Zv.stay hz hs)), trivial⟩, ⟨fun v Z Z' w w' hΦ hz _ _ hs => by obtain ⟨v14, rfl, k14, -⟩ := hΦ; exact ⟨v14, rfl, (k14.mono (Zv.stay hz hs)), trivial⟩, ⟨fun v Z Z' w w' hΦ hz _ _ hs => by obtain ⟨v15, rfl, k15, -⟩ := hΦ; exact ⟨v15, rfl, (k15.mono (Zv.stay hz hs)), trivial⟩, ⟨fun v Z Z' w w' hΦ hz _ _ hs => by obtain ⟨v16, rfl, k16, -⟩ := hΦ; exact ⟨v16, rfl, (k16.mono (Zv.stay hz hs)), trivial⟩, ⟨fun v Z Z' w w' hΦ hz _ _ hs => by obtain ⟨v17, rfl, k17, -⟩ := hΦ; exact ⟨v17, rfl, (k17.mono (Zv.stay hz hs)), trivial⟩, trivial⟩⟩⟩⟩⟩⟩⟩
       ·
        intro w18 hE17
        have hL19 := hL18.ext hE17
        have K18 := ke hL18 hE17
        refine DrH.de (fun _ hE18 => GOp.op (OpY.ldBoxA (vs := [(Value.bool x.Negative), x_v]) Tryd.underlying24 rfl ti24 rfl ((hL19.ext hE18).at 0 rfl rfl) rfl rfl (er rfl))) ?_
        refine DrH.rel ?_ ?_
        ·
         rintro w20 Z13 hE19 hZ11 ⟨-⟩
         have K19 := ke hL19 hE19
         refine GOp.op (OpY.call en16 rfl rfl (lcp_w N x x_v _ Any ((((f13.mono (K17 S)).mono (K18 S)).mono (K19 S)).mono vw_any) r16 q16) ?_)
         rintro _ w21 hE20 ⟨v11, rfl, k11, -⟩
         exact Made.ext hE20 hZ11 NewOwn.nil (fun _ h => h) ⟨v11, rfl, (k11.mono Zv.made), trivial⟩
        intro z1
        refine DrH.rel ?_ ?_
        ·
         rintro w22 Z14 hE21 hZ12 ⟨⟨⟨v11, rfl, k11, -⟩, hB1⟩, -⟩
         refine GOp.op (OpY.call en39 rfl rfl (bNormal_w N r16 v11 _ Any (k11.mono vw_any) r17 q17) ?_)
         rintro _ w23 hE22 ⟨v12, rfl, k12, -⟩
         exact Made.ext hE22 hZ12 NewOwn.nil (fun _ h => h) ⟨v12, rfl, (k12.mono Zv.made), trivial⟩
        intro z2
        refine DrH.de (fun _ hE23 => GOp.op (OpY.ldBoxA (vs := [(Value.bool x.Negative), x_v]) Tryd.underlying24 rfl ti24 rfl ((hL19.ext hE23).at 0 rfl rfl) rfl rfl (er rfl))) ?_
        refine DrH.rel ?_ ?_
        ·
         rintro w25 Z16 hE24 hZ14 ⟨⟨⟨v12, rfl, k12, -⟩, hB2⟩, -, -⟩
         have K20 := ke hL19 hE24
         refine GOp.op (OpY.call en23 rfl rfl (rNormal_w N x x_v _ Any ((((f13.mono (K17 S)).mono (K18 S)).mono (K20 S)).mono vw_any) r18 q18) ?_)
         rintro _ w26 hE25 ⟨v13, rfl, k13, -⟩
         exact Made.ext hE25 hZ14 NewOwn.nil (fun _ h => h) ⟨v13, rfl, (k13.mono Zv.made), trivial⟩
        intro z4
        refine DrH.det ?_ ?_
        ·
         rintro w27 Z17 hE26 hZ15 ⟨⟨⟨v13, rfl, k13, -⟩, hB4⟩, ⟨⟨v12, rfl, k12, -⟩, hB2⟩, -, -⟩
         refine GOp.op (OpY.call en18 rfl rfl (rSame_w N r17 r18 v12 v13 _ Any (k12.mono vw_any) (k13.mono vw_any) r19 q19) ?_)
         rintro _ w28 hE27 ⟨rfl, -⟩
         exact ⟨hE27, rfl⟩
        refine DrH.de (fun _ _ => GOp.op (OpY.move rfl (er rfl))) ?_
        refine DrH.de (fun _ hE29 => GOp.yes rfl rfl hc13 (OpY.ldBoxA (vs := [(Value.bool x.Negative), x_v]) Tryd.underlying24 rfl ti24 rfl ((hL19.ext hE29).at 0 rfl rfl) rfl rfl (er rfl))) ?_
        refine DrH.rel ?_ ?_
        ·
         rintro w31 Z20 hE30 hZ18 ⟨-, -, -, -⟩
         have K21 := ke hL19 hE30
         refine GOp.yes rfl rfl hc13 (OpY.call en16 rfl rfl (lcp_w N x x_v _ Any ((((f13.mono (K17 S)).mono (K18 S)).mono (K21 S)).mono vw_any) r20 q20) ?_)
         rintro _ w32 hE31 ⟨v14, rfl, k14, -⟩
         exact Made.ext hE31 hZ18 NewOwn.nil (fun _ h => h) ⟨v14, rfl, (k14.mono Zv.made), trivial⟩
        intro z8
        refine DrH.det ?_ ?_
        ·
         rintro w33 Z21 hE32 hZ19 ⟨⟨⟨v14, rfl, k14, -⟩, hB8⟩, -, -, -, -⟩
         refine GOp.yes rfl rfl hc13 (OpY.call en28 rfl rfl (bSign_w N r20 v14 _ Any (k14.mono vw_any) r21 q21) ?_)
         rintro _ w34 hE33 ⟨rfl, -⟩
         exact ⟨hE33, rfl⟩
        refine DrH.de (fun _ hE34 => GOp.yes rfl rfl hc13 (OpY.ldBoxA (vs := [(Value.bool x.Negative), x_v]) Tryd.underlying24 rfl ti24 rfl ((hL19.ext hE34).at 0 rfl rfl) rfl rfl (er rfl))) ?_
        refine DrH.det ?_ ?_
        ·
         rintro w36 Z23 hE35 hZ21 ⟨-, -, -, -, -⟩
         have K22 := ke hL19 hE35
         refine GOp.yes rfl rfl hc13 (OpY.call en40 rfl rfl (rSign_w N x x_v _ Any ((((f13.mono (K17 S)).mono (K18 S)).mono (K22 S)).mono vw_any) r22 q22) ?_)
         rintro _ w37 hE36 ⟨rfl, -⟩
         exact ⟨hE36, rfl⟩
        refine DrH.de (fun _ _ => GOp.yes rfl rfl hc13 (OpY.eql (x := r21) (y := r22) ((r21 : Int) = r22) rfl rfl Iff.rfl (er rfl))) ?_
        refine DrH.de (fun _ _ => GOp.op (OpY.pick_t rfl hc13 rfl (er rfl))) ?_
        refine DrH.de (fun _ _ => GOp.op (OpY.move rfl (er rfl))) ?_
        refine DrH.de (fun _ hE40 => GOp.yes rfl rfl (decide_eq_true hc14) (OpY.ldBoxA (vs := [(Value.bool x.Negative), x_v]) Tryd.underlying24 rfl ti24 rfl ((hL19.ext hE40).at 0 rfl rfl) rfl rfl (er rfl))) ?_
        refine DrH.rel ?_ ?_
        ·
         rintro w42 Z28 hE41 hZ26 ⟨-, -, -, -, -⟩
         have K23 := ke hL19 hE41
         refine GOp.yes rfl rfl (decide_eq_true hc14) (OpY.call en16 rfl rfl (lcp_w N x x_v _ Any ((((f13.mono (K17 S)).mono (K18 S)).mono (K23 S)).mono vw_any) r23 q23) ?_)
         rintro _ w43 hE42 ⟨v15, rfl, k15, -⟩
         exact Made.ext hE42 hZ26 NewOwn.nil (fun _ h => h) ⟨v15, rfl, (k15.mono Zv.made), trivial⟩
        intro z10
        refine DrH.rel ?_ ?_
        ·
         rintro w44 Z29 hE43 hZ27 ⟨⟨⟨v15, rfl, k15, -⟩, hB10⟩, -, -, -, -, -⟩
         refine GOp.yes rfl rfl (decide_eq_true hc14) (OpY.call en41 rfl rfl (bNeg_w N r23 v15 _ Any (k15.mono vw_any) r24 q24) ?_)
         rintro _ w45 hE44 ⟨v16, rfl, k16, -⟩
         exact Made.ext hE44 hZ27 NewOwn.nil (fun _ h => h) ⟨v16, rfl, (k16.mono Zv.made), trivial⟩
        intro z11
        refine DrH.de (fun _ hE45 => GOp.yes rfl rfl (decide_eq_true hc14) (OpY.ldBoxA (vs := [(Value.bool x.Negative), x_v]) Tryd.underlying24 rfl ti24 rfl ((hL19.ext hE45).at 0 rfl rfl) rfl rfl (er rfl))) ?_
        refine DrH.rel ?_ ?_
        ·
         rintro w47 Z31 hE46 hZ29 ⟨⟨⟨v16, rfl, k16, -⟩, hB11⟩, -, -, -, -, -, -⟩
         have K24 := ke hL19 hE46
         refine GOp.yes rfl rfl (decide_eq_true hc14) (OpY.call en42 rfl rfl (rNeg_w N x x_v _ Any ((((f13.mono (K17 S)).mono (K18 S)).mono (K24 S)).mono vw_any) r25 q25) ?_)
         rintro _ w48 hE47 ⟨v17, rfl, k17, -⟩
         exact Made.ext hE47 hZ29 NewOwn.nil (fun _ h => h) ⟨v17, rfl, (k17.mono Zv.made), trivial⟩
        intro z12
        refine DrH.det ?_ ?_
        ·
         rintro w49 Z32 hE48 hZ30 ⟨⟨⟨v17, rfl, k17, -⟩, hB12⟩, ⟨⟨v16, rfl, k16, -⟩, hB11⟩, -, -, -, -, -, -⟩
         refine GOp.yes rfl rfl (decide_eq_true hc14) (OpY.call en18 rfl rfl (rSame_w N r24 r25 v16 v17 _ Any (k16.mono vw_any) (k17.mono vw_any) r26 q26) ?_)
         rintro _ w50 hE49 ⟨rfl, -⟩
         exact ⟨hE49, rfl⟩
        refine DrH.de (fun _ _ => GOp.op (OpY.pick_t rfl (decide_eq_true hc14) rfl (er rfl))) ?_
        refine DrH.de (fun _ _ => GOp.op (OpY.move rfl (er rfl))) ?_
        refine DrH.de (fun _ _ => GOp.yes rfl rfl hc15 (OpY.move rfl (er rfl))) ?_
        refine DrH.de (fun _ _ => GOp.yes rfl rfl hc15 (OpY.move rfl (er rfl))) ?_
        refine DrH.de (fun _ _ => GOp.yes rfl rfl hc15 (OpY.eql (x := r14.1) (y := r15.1) ((r14.1 : Int) = r15.1) rfl rfl Iff.rfl (er rfl))) ?_
        refine DrH.de (fun _ _ => GOp.op (OpY.pick_t rfl hc15 rfl (er rfl))) ?_
        refine DrH.de (fun _ _ => GOp.op (OpY.move rfl (er rfl))) ?_
        refine DrH.de (fun _ _ => GOp.yes rfl rfl (decide_eq_true hc16) (OpY.move rfl (er rfl))) ?_
        refine DrH.de (fun _ _ => GOp.yes rfl rfl (decide_eq_true hc16) (OpY.move rfl (er rfl))) ?_
        refine DrH.fin0 ?_
        rintro w60 Z42 hE59 hZ40 ⟨⟨⟨v17, rfl, k17, -⟩, hB12⟩, ⟨⟨v16, rfl, k16, -⟩, hB11⟩, ⟨⟨v15, rfl, k15, -⟩, hB10⟩, ⟨⟨v14, rfl, k14, -⟩, hB8⟩, ⟨⟨v13, rfl, k13, -⟩, hB4⟩, ⟨⟨v12, rfl, k12, -⟩, hB2⟩, ⟨⟨v11, rfl, k11, -⟩, hB1⟩, -⟩ ap10
        have hB13 : ∀ b, some b ∈ ([] : List (Option Nat)) → w18.heap.size ≤ b ∧ ¬ Z42 b := by
         intro b hb; cases hb
        replace k17 := k17.mono (Zv.fin hL19 hZ40 hB13)
        replace k16 := k16.mono (Zv.fin hL19 hZ40 hB13)
        replace k15 := k15.mono (Zv.fin hL19 hZ40 hB13)
        replace k14 := k14.mono (Zv.fin hL19 hZ40 hB13)
        replace k13 := k13.mono (Zv.fin hL19 hZ40 hB13)
        replace k12 := k12.mono (Zv.fin hL19 hZ40 hB13)
        replace k11 := k11.mono (Zv.fin hL19 hZ40 hB13)
        have hL26 := hL19.ext hE59
        refine Rl.yes rfl rfl (decide_eq_true hc16) (OpY.eqlBool (x := r14.2) (y := r15.2) Tryd.underlying4 rfl rfl ?_)
        refine Rl.op (OpY.pick_t (t := (decide ((r14.1 : Int) = r15.1))) (v := (Value.bool (r14.2 == r15.2))) rfl (decide_eq_true hc16) rfl ?_)
        refine Rl.op (OpY.assign (v := (Value.bool (r14.2 == r15.2))) rfl ?_)
        refine Rl.nil (Swp.ret ?_)
        obtain rfl := Option.some.inj h
        refine ⟨[(Value.bool (r14.2 == r15.2))], ⟨rfl, trivial⟩, ⟨_, rfl, hL26.done, ?_⟩⟩
        exact ⟨rfl, trivial⟩
      ·
       replace h := ite_f hc16 h
       refine Swp.drawL 30 [] [] (fun W1 => [.det (Value.agg #[(Value.bool x.Negative), x_v]), .rel (fun v Z w' => ∃ v11, (Value.agg #[(Value.bool r16.Negative), v11]) = v ∧ Rs (rInt .u32) (Zv W1 w.heap.size None [some b1] Z w') v11 r16.Digits ∧ True) (fun _ => []), .rel (fun v Z w' => ∃ v12, (Value.agg #[(Value.bool r17.Negative), v12]) = v ∧ Rs (rInt .u32) (Zv W1 w.heap.size None [some b1] Z w') v12 r17.Digits ∧ True) (fun _ => []), .det (Value.agg #[(Value.bool x.Negative), x_v]), .rel (fun v Z w' => ∃ v13, (Value.agg #[(Value.bool r18.Negative), v13]) = v ∧ Rs (rInt .u32) (Zv W1 w.heap.size None [some b1] Z w') v13 r18.Digits ∧ True) (fun _ => []), .det (Value.bool r19), .det (Value.bool r19), .det (Value.agg #[(Value.bool x.Negative), x_v]), .rel (fun v Z w' => ∃ v14, (Value.agg #[(Value.bool r20.Negative), v14]) = v ∧ Rs (rInt .u32) (Zv W1 w.heap.size None [some b1] Z w') v14 r20.Digits ∧ True) (fun _ => []), .det (Value.int .i64 r21), .det (Value.agg #[(Value.bool x.Negative), x_v]), .det (Value.int .i64 r22), .det (Value.bool (decide ((r21 : Int) = r22))), .det (Value.bool (decide ((r21 : Int) = r22))), .det (Value.bool (decide ((r21 : Int) = r22))), .det (Value.agg #[(Value.bool x.Negative), x_v]), .rel (fun v Z w' => ∃ v15, (Value.agg #[(Value.bool r23.Negative), v15]) = v ∧ Rs (rInt .u32) (Zv W1 w.heap.size None [some b1] Z w') v15 r23.Digits ∧ True) (fun _ => []), .rel (fun v Z w' => ∃ v16, (Value.agg #[(Value.bool r24.Negative), v16]) = v ∧ Rs (rInt .u32) (Zv W1 w.heap.size None [some b1] Z w') v16 r24.Digits ∧ True) (fun _ => []), .det (Value.agg #[(Value.bool x.Negative), x_v]), .rel (fun v Z w' => ∃ v17, (Value.agg #[(Value.bool r25.Negative), v17]) = v ∧ Rs (rInt .u32) (Zv W1 w.heap.size None [some b1] Z w') v17 r25.Digits ∧ True) (fun _ => []), .det (Value.bool r26), .det (Value.bool r26), .det (Value.bool r26), .det (Value.int .i64 r14.1), .det (Value.int .i64 r15.1), .det (Value.bool (decide ((r14.1 : Int) = r15.1))), .det (Value.bool (decide ((r14.1 : Int) = r15.1))), .det (Value.bool (decide ((r14.1 : Int) = r15.1))), .det undef, .det undef]) mixed rfl rfl rfl (fun _ => rfl) (fun _ => rfl) ?_ ?_
       ·
        intro W1 _
        exact ⟨fun v Z Z' w w' hΦ hz _ _ hs => by obtain ⟨v11, rfl, k11, -⟩ := hΦ; exact ⟨v11, rfl, (k11.mono (Zv.stay hz hs)), trivial⟩, ⟨fun v Z Z' w w' hΦ hz _ _ hs => by obtain ⟨v12, rfl, k12, -⟩ := hΦ; exact ⟨v12, rfl, (k12.mono (Zv.stay hz hs)), trivial⟩, ⟨fun v Z Z' w w' hΦ hz _ _ hs => by obtain ⟨v13, rfl, k13, -⟩ := hΦ; exact ⟨v13, rfl, (k13.mono (Zv.stay hz hs)), trivial⟩, ⟨fun v Z Z' w w' hΦ hz _ _ hs => by obtain ⟨v14, rfl, k14, -⟩ := hΦ; exact ⟨v14, rfl, (k14.mono (Zv.stay hz hs)), trivial⟩, ⟨fun v Z Z' w w' hΦ hz _ _ hs => by obtain ⟨v15, rfl, k15, -⟩ := hΦ; exact ⟨v15, rfl, (k15.mono (Zv.stay hz hs)), trivial⟩, ⟨fun v Z Z' w w' hΦ hz _ _ hs => by obtain ⟨v16, rfl, k16, -⟩ := hΦ; exact ⟨v16, rfl, (k16.mono (Zv.stay hz hs)), trivial⟩, ⟨fun v Z Z' w w' hΦ hz _ _ hs => by obtain ⟨v17, rfl, k17, -⟩ := hΦ; exact ⟨v17, rfl, (k17.mono (Zv.stay hz hs)), trivial⟩, trivial⟩⟩⟩⟩⟩⟩⟩
       ·
        intro w61 hE60
        have hL27 := hL18.ext hE60
        have K25 := ke hL18 hE60
        refine DrH.de (fun _ hE61 => GOp.op (OpY.ldBoxA (vs := [(Value.bool x.Negative), x_v]) Tryd.underlying24 rfl ti24 rfl ((hL27.ext hE61).at 0 rfl rfl) rfl rfl (er rfl))) ?_
        refine DrH.rel ?_ ?_
        ·
         rintro w63 Z44 hE62 hZ42 ⟨-⟩
         have K26 := ke hL27 hE62
         refine GOp.op (OpY.call en16 rfl rfl (lcp_w N x x_v _ Any ((((f13.mono (K17 S)).mono (K25 S)).mono (K26 S)).mono vw_any) r16 q16) ?_)
         rintro _ w64 hE63 ⟨v11, rfl, k11, -⟩
         exact Made.ext hE63 hZ42 NewOwn.nil (fun _ h => h) ⟨v11, rfl, (k11.mono Zv.made), trivial⟩
        intro z1
        refine DrH.rel ?_ ?_
        ·
         rintro w65 Z45 hE64 hZ43 ⟨⟨⟨v11, rfl, k11, -⟩, hB1⟩, -⟩
         refine GOp.op (OpY.call en39 rfl rfl (bNormal_w N r16 v11 _ Any (k11.mono vw_any) r17 q17) ?_)
         rintro _ w66 hE65 ⟨v12, rfl, k12, -⟩
         exact Made.ext hE65 hZ43 NewOwn.nil (fun _ h => h) ⟨v12, rfl, (k12.mono Zv.made), trivial⟩
        intro z2
        refine DrH.de (fun _ hE66 => GOp.op (OpY.ldBoxA (vs := [(Value.bool x.Negative), x_v]) Tryd.underlying24 rfl ti24 rfl ((hL27.ext hE66).at 0 rfl rfl) rfl rfl (er rfl))) ?_
        refine DrH.rel ?_ ?_
        ·
         rintro w68 Z47 hE67 hZ45 ⟨⟨⟨v12, rfl, k12, -⟩, hB2⟩, -, -⟩
         have K27 := ke hL27 hE67
         refine GOp.op (OpY.call en23 rfl rfl (rNormal_w N x x_v _ Any ((((f13.mono (K17 S)).mono (K25 S)).mono (K27 S)).mono vw_any) r18 q18) ?_)
         rintro _ w69 hE68 ⟨v13, rfl, k13, -⟩
         exact Made.ext hE68 hZ45 NewOwn.nil (fun _ h => h) ⟨v13, rfl, (k13.mono Zv.made), trivial⟩
        intro z4
        refine DrH.det ?_ ?_
        ·
         rintro w70 Z48 hE69 hZ46 ⟨⟨⟨v13, rfl, k13, -⟩, hB4⟩, ⟨⟨v12, rfl, k12, -⟩, hB2⟩, -, -⟩
         refine GOp.op (OpY.call en18 rfl rfl (rSame_w N r17 r18 v12 v13 _ Any (k12.mono vw_any) (k13.mono vw_any) r19 q19) ?_)
         rintro _ w71 hE70 ⟨rfl, -⟩
         exact ⟨hE70, rfl⟩
        refine DrH.de (fun _ _ => GOp.op (OpY.move rfl (er rfl))) ?_
        refine DrH.de (fun _ hE72 => GOp.yes rfl rfl hc13 (OpY.ldBoxA (vs := [(Value.bool x.Negative), x_v]) Tryd.underlying24 rfl ti24 rfl ((hL27.ext hE72).at 0 rfl rfl) rfl rfl (er rfl))) ?_
        refine DrH.rel ?_ ?_
        ·
         rintro w74 Z51 hE73 hZ49 ⟨-, -, -, -⟩
         have K28 := ke hL27 hE73
         refine GOp.yes rfl rfl hc13 (OpY.call en16 rfl rfl (lcp_w N x x_v _ Any ((((f13.mono (K17 S)).mono (K25 S)).mono (K28 S)).mono vw_any) r20 q20) ?_)
         rintro _ w75 hE74 ⟨v14, rfl, k14, -⟩
         exact Made.ext hE74 hZ49 NewOwn.nil (fun _ h => h) ⟨v14, rfl, (k14.mono Zv.made), trivial⟩
        intro z8
        refine DrH.det ?_ ?_
        ·
         rintro w76 Z52 hE75 hZ50 ⟨⟨⟨v14, rfl, k14, -⟩, hB8⟩, -, -, -, -⟩
         refine GOp.yes rfl rfl hc13 (OpY.call en28 rfl rfl (bSign_w N r20 v14 _ Any (k14.mono vw_any) r21 q21) ?_)
         rintro _ w77 hE76 ⟨rfl, -⟩
         exact ⟨hE76, rfl⟩
        refine DrH.de (fun _ hE77 => GOp.yes rfl rfl hc13 (OpY.ldBoxA (vs := [(Value.bool x.Negative), x_v]) Tryd.underlying24 rfl ti24 rfl ((hL27.ext hE77).at 0 rfl rfl) rfl rfl (er rfl))) ?_
        refine DrH.det ?_ ?_
        ·
         rintro w79 Z54 hE78 hZ52 ⟨-, -, -, -, -⟩
         have K29 := ke hL27 hE78
         refine GOp.yes rfl rfl hc13 (OpY.call en40 rfl rfl (rSign_w N x x_v _ Any ((((f13.mono (K17 S)).mono (K25 S)).mono (K29 S)).mono vw_any) r22 q22) ?_)
         rintro _ w80 hE79 ⟨rfl, -⟩
         exact ⟨hE79, rfl⟩
        refine DrH.de (fun _ _ => GOp.yes rfl rfl hc13 (OpY.eql (x := r21) (y := r22) ((r21 : Int) = r22) rfl rfl Iff.rfl (er rfl))) ?_
        refine DrH.de (fun _ _ => GOp.op (OpY.pick_t rfl hc13 rfl (er rfl))) ?_
        refine DrH.de (fun _ _ => GOp.op (OpY.move rfl (er rfl))) ?_
        refine DrH.de (fun _ hE83 => GOp.yes rfl rfl (decide_eq_true hc14) (OpY.ldBoxA (vs := [(Value.bool x.Negative), x_v]) Tryd.underlying24 rfl ti24 rfl ((hL27.ext hE83).at 0 rfl rfl) rfl rfl (er rfl))) ?_
        refine DrH.rel ?_ ?_
        ·
         rintro w85 Z59 hE84 hZ57 ⟨-, -, -, -, -⟩
         have K30 := ke hL27 hE84
         refine GOp.yes rfl rfl (decide_eq_true hc14) (OpY.call en16 rfl rfl (lcp_w N x x_v _ Any ((((f13.mono (K17 S)).mono (K25 S)).mono (K30 S)).mono vw_any) r23 q23) ?_)
         rintro _ w86 hE85 ⟨v15, rfl, k15, -⟩
         exact Made.ext hE85 hZ57 NewOwn.nil (fun _ h => h) ⟨v15, rfl, (k15.mono Zv.made), trivial⟩
        intro z10
        refine DrH.rel ?_ ?_
        ·
         rintro w87 Z60 hE86 hZ58 ⟨⟨⟨v15, rfl, k15, -⟩, hB10⟩, -, -, -, -, -⟩
         refine GOp.yes rfl rfl (decide_eq_true hc14) (OpY.call en41 rfl rfl (bNeg_w N r23 v15 _ Any (k15.mono vw_any) r24 q24) ?_)
         rintro _ w88 hE87 ⟨v16, rfl, k16, -⟩
         exact Made.ext hE87 hZ58 NewOwn.nil (fun _ h => h) ⟨v16, rfl, (k16.mono Zv.made), trivial⟩
        intro z11
        refine DrH.de (fun _ hE88 => GOp.yes rfl rfl (decide_eq_true hc14) (OpY.ldBoxA (vs := [(Value.bool x.Negative), x_v]) Tryd.underlying24 rfl ti24 rfl ((hL27.ext hE88).at 0 rfl rfl) rfl rfl (er rfl))) ?_
        refine DrH.rel ?_ ?_
        ·
         rintro w90 Z62 hE89 hZ60 ⟨⟨⟨v16, rfl, k16, -⟩, hB11⟩, -, -, -, -, -, -⟩
         have K31 := ke hL27 hE89
         refine GOp.yes rfl rfl (decide_eq_true hc14) (OpY.call en42 rfl rfl (rNeg_w N x x_v _ Any ((((f13.mono (K17 S)).mono (K25 S)).mono (K31 S)).mono vw_any) r25 q25) ?_)
         rintro _ w91 hE90 ⟨v17, rfl, k17, -⟩
         exact Made.ext hE90 hZ60 NewOwn.nil (fun _ h => h) ⟨v17, rfl, (k17.mono Zv.made), trivial⟩
        intro z12
        refine DrH.det ?_ ?_
        ·
         rintro w92 Z63 hE91 hZ61 ⟨⟨⟨v17, rfl, k17, -⟩, hB12⟩, ⟨⟨v16, rfl, k16, -⟩, hB11⟩, -, -, -, -, -, -⟩
         refine GOp.yes rfl rfl (decide_eq_true hc14) (OpY.call en18 rfl rfl (rSame_w N r24 r25 v16 v17 _ Any (k16.mono vw_any) (k17.mono vw_any) r26 q26) ?_)
         rintro _ w93 hE92 ⟨rfl, -⟩
         exact ⟨hE92, rfl⟩
        refine DrH.de (fun _ _ => GOp.op (OpY.pick_t rfl (decide_eq_true hc14) rfl (er rfl))) ?_
        refine DrH.de (fun _ _ => GOp.op (OpY.move rfl (er rfl))) ?_
        refine DrH.de (fun _ _ => GOp.yes rfl rfl hc15 (OpY.move rfl (er rfl))) ?_
        refine DrH.de (fun _ _ => GOp.yes rfl rfl hc15 (OpY.move rfl (er rfl))) ?_
        refine DrH.de (fun _ _ => GOp.yes rfl rfl hc15 (OpY.eql (x := r14.1) (y := r15.1) ((r14.1 : Int) = r15.1) rfl rfl Iff.rfl (er rfl))) ?_
        refine DrH.de (fun _ _ => GOp.op (OpY.pick_t rfl hc15 rfl (er rfl))) ?_
        refine DrH.de (fun _ _ => GOp.op (OpY.move rfl (er rfl))) ?_
        refine DrH.de (fun _ _ => GOp.no rfl rfl (decide_eq_false hc16) (er rfl)) ?_
        refine DrH.de (fun _ _ => GOp.no rfl rfl (decide_eq_false hc16) (er rfl)) ?_
        refine DrH.fin0 ?_
        rintro w103 Z73 hE102 hZ71 ⟨⟨⟨v17, rfl, k17, -⟩, hB12⟩, ⟨⟨v16, rfl, k16, -⟩, hB11⟩, ⟨⟨v15, rfl, k15, -⟩, hB10⟩, ⟨⟨v14, rfl, k14, -⟩, hB8⟩, ⟨⟨v13, rfl, k13, -⟩, hB4⟩, ⟨⟨v12, rfl, k12, -⟩, hB2⟩, ⟨⟨v11, rfl, k11, -⟩, hB1⟩, -⟩ ap11
        have hB14 : ∀ b, some b ∈ ([] : List (Option Nat)) → w61.heap.size ≤ b ∧ ¬ Z73 b := by
         intro b hb; cases hb
        replace k17 := k17.mono (Zv.fin hL27 hZ71 hB14)
        replace k16 := k16.mono (Zv.fin hL27 hZ71 hB14)
        replace k15 := k15.mono (Zv.fin hL27 hZ71 hB14)
        replace k14 := k14.mono (Zv.fin hL27 hZ71 hB14)
        replace k13 := k13.mono (Zv.fin hL27 hZ71 hB14)
        replace k12 := k12.mono (Zv.fin hL27 hZ71 hB14)
        replace k11 := k11.mono (Zv.fin hL27 hZ71 hB14)
        have hL34 := hL27.ext hE102
        refine Rl.no rfl rfl (decide_eq_false hc16) ?_
        refine Rl.op (OpY.pick_f (t := (decide ((r14.1 : Int) = r15.1))) (v := (Value.bool false)) rfl (decide_eq_false hc16) rfl ?_)
        refine Rl.op (OpY.assign (v := (Value.bool false)) rfl ?_)
        refine Rl.nil (Swp.ret ?_)
        obtain rfl := Option.some.inj h
        refine ⟨[(Value.bool false)], ⟨rfl, trivial⟩, ⟨_, rfl, hL34.done, ?_⟩⟩
        exact ⟨rfl, trivial⟩
     ·
      replace h := ite_f hc15 h
      refine Swp.drawL 30 [] [] (fun W1 => [.det (Value.agg #[(Value.bool x.Negative), x_v]), .rel (fun v Z w' => ∃ v11, (Value.agg #[(Value.bool r16.Negative), v11]) = v ∧ Rs (rInt .u32) (Zv W1 w.heap.size None [some b1] Z w') v11 r16.Digits ∧ True) (fun _ => []), .rel (fun v Z w' => ∃ v12, (Value.agg #[(Value.bool r17.Negative), v12]) = v ∧ Rs (rInt .u32) (Zv W1 w.heap.size None [some b1] Z w') v12 r17.Digits ∧ True) (fun _ => []), .det (Value.agg #[(Value.bool x.Negative), x_v]), .rel (fun v Z w' => ∃ v13, (Value.agg #[(Value.bool r18.Negative), v13]) = v ∧ Rs (rInt .u32) (Zv W1 w.heap.size None [some b1] Z w') v13 r18.Digits ∧ True) (fun _ => []), .det (Value.bool r19), .det (Value.bool r19), .det (Value.agg #[(Value.bool x.Negative), x_v]), .rel (fun v Z w' => ∃ v14, (Value.agg #[(Value.bool r20.Negative), v14]) = v ∧ Rs (rInt .u32) (Zv W1 w.heap.size None [some b1] Z w') v14 r20.Digits ∧ True) (fun _ => []), .det (Value.int .i64 r21), .det (Value.agg #[(Value.bool x.Negative), x_v]), .det (Value.int .i64 r22), .det (Value.bool (decide ((r21 : Int) = r22))), .det (Value.bool (decide ((r21 : Int) = r22))), .det (Value.bool (decide ((r21 : Int) = r22))), .det (Value.agg #[(Value.bool x.Negative), x_v]), .rel (fun v Z w' => ∃ v15, (Value.agg #[(Value.bool r23.Negative), v15]) = v ∧ Rs (rInt .u32) (Zv W1 w.heap.size None [some b1] Z w') v15 r23.Digits ∧ True) (fun _ => []), .rel (fun v Z w' => ∃ v16, (Value.agg #[(Value.bool r24.Negative), v16]) = v ∧ Rs (rInt .u32) (Zv W1 w.heap.size None [some b1] Z w') v16 r24.Digits ∧ True) (fun _ => []), .det (Value.agg #[(Value.bool x.Negative), x_v]), .rel (fun v Z w' => ∃ v17, (Value.agg #[(Value.bool r25.Negative), v17]) = v ∧ Rs (rInt .u32) (Zv W1 w.heap.size None [some b1] Z w') v17 r25.Digits ∧ True) (fun _ => []), .det (Value.bool r26), .det (Value.bool r26), .det (Value.bool r26), .det undef, .det undef, .det undef, .det (Value.bool false), .det (Value.bool false), .det undef, .det undef]) mixed rfl rfl rfl (fun _ => rfl) (fun _ => rfl) ?_ ?_
      ·
       intro W1 _
       exact ⟨fun v Z Z' w w' hΦ hz _ _ hs => by obtain ⟨v11, rfl, k11, -⟩ := hΦ; exact ⟨v11, rfl, (k11.mono (Zv.stay hz hs)), trivial⟩, ⟨fun v Z Z' w w' hΦ hz _ _ hs => by obtain ⟨v12, rfl, k12, -⟩ := hΦ; exact ⟨v12, rfl, (k12.mono (Zv.stay hz hs)), trivial⟩, ⟨fun v Z Z' w w' hΦ hz _ _ hs => by obtain ⟨v13, rfl, k13, -⟩ := hΦ; exact ⟨v13, rfl, (k13.mono (Zv.stay hz hs)), trivial⟩, ⟨fun v Z Z' w w' hΦ hz _ _ hs => by obtain ⟨v14, rfl, k14, -⟩ := hΦ; exact ⟨v14, rfl, (k14.mono (Zv.stay hz hs)), trivial⟩, ⟨fun v Z Z' w w' hΦ hz _ _ hs => by obtain ⟨v15, rfl, k15, -⟩ := hΦ; exact ⟨v15, rfl, (k15.mono (Zv.stay hz hs)), trivial⟩, ⟨fun v Z Z' w w' hΦ hz _ _ hs => by obtain ⟨v16, rfl, k16, -⟩ := hΦ; exact ⟨v16, rfl, (k16.mono (Zv.stay hz hs)), trivial⟩, ⟨fun v Z Z' w w' hΦ hz _ _ hs => by obtain ⟨v17, rfl, k17, -⟩ := hΦ; exact ⟨v17, rfl, (k17.mono (Zv.stay hz hs)), trivial⟩, trivial⟩⟩⟩⟩⟩⟩⟩
      ·
       intro w104 hE103
       have hL35 := hL18.ext hE103
       have K32 := ke hL18 hE103
       refine DrH.de (fun _ hE104 => GOp.op (OpY.ldBoxA (vs := [(Value.bool x.Negative), x_v]) Tryd.underlying24 rfl ti24 rfl ((hL35.ext hE104).at 0 rfl rfl) rfl rfl (er rfl))) ?_
       refine DrH.rel ?_ ?_
       ·
        rintro w106 Z75 hE105 hZ73 ⟨-⟩
        have K33 := ke hL35 hE105
        refine GOp.op (OpY.call en16 rfl rfl (lcp_w N x x_v _ Any ((((f13.mono (K17 S)).mono (K32 S)).mono (K33 S)).mono vw_any) r16 q16) ?_)
        rintro _ w107 hE106 ⟨v11, rfl, k11, -⟩
        exact Made.ext hE106 hZ73 NewOwn.nil (fun _ h => h) ⟨v11, rfl, (k11.mono Zv.made), trivial⟩
       intro z1
       refine DrH.rel ?_ ?_
       ·
        rintro w108 Z76 hE107 hZ74 ⟨⟨⟨v11, rfl, k11, -⟩, hB1⟩, -⟩
        refine GOp.op (OpY.call en39 rfl rfl (bNormal_w N r16 v11 _ Any (k11.mono vw_any) r17 q17) ?_)
        rintro _ w109 hE108 ⟨v12, rfl, k12, -⟩
        exact Made.ext hE108 hZ74 NewOwn.nil (fun _ h => h) ⟨v12, rfl, (k12.mono Zv.made), trivial⟩
       intro z2
       refine DrH.de (fun _ hE109 => GOp.op (OpY.ldBoxA (vs := [(Value.bool x.Negative), x_v]) Tryd.underlying24 rfl ti24 rfl ((hL35.ext hE109).at 0 rfl rfl) rfl rfl (er rfl))) ?_
       refine DrH.rel ?_ ?_
       ·
        rintro w111 Z78 hE110 hZ76 ⟨⟨⟨v12, rfl, k12, -⟩, hB2⟩, -, -⟩
        have K34 := ke hL35 hE110
        refine GOp.op (OpY.call en23 rfl rfl (rNormal_w N x x_v _ Any ((((f13.mono (K17 S)).mono (K32 S)).mono (K34 S)).mono vw_any) r18 q18) ?_)
        rintro _ w112 hE111 ⟨v13, rfl, k13, -⟩
        exact Made.ext hE111 hZ76 NewOwn.nil (fun _ h => h) ⟨v13, rfl, (k13.mono Zv.made), trivial⟩
       intro z4
       refine DrH.det ?_ ?_
       ·
        rintro w113 Z79 hE112 hZ77 ⟨⟨⟨v13, rfl, k13, -⟩, hB4⟩, ⟨⟨v12, rfl, k12, -⟩, hB2⟩, -, -⟩
        refine GOp.op (OpY.call en18 rfl rfl (rSame_w N r17 r18 v12 v13 _ Any (k12.mono vw_any) (k13.mono vw_any) r19 q19) ?_)
        rintro _ w114 hE113 ⟨rfl, -⟩
        exact ⟨hE113, rfl⟩
       refine DrH.de (fun _ _ => GOp.op (OpY.move rfl (er rfl))) ?_
       refine DrH.de (fun _ hE115 => GOp.yes rfl rfl hc13 (OpY.ldBoxA (vs := [(Value.bool x.Negative), x_v]) Tryd.underlying24 rfl ti24 rfl ((hL35.ext hE115).at 0 rfl rfl) rfl rfl (er rfl))) ?_
       refine DrH.rel ?_ ?_
       ·
        rintro w117 Z82 hE116 hZ80 ⟨-, -, -, -⟩
        have K35 := ke hL35 hE116
        refine GOp.yes rfl rfl hc13 (OpY.call en16 rfl rfl (lcp_w N x x_v _ Any ((((f13.mono (K17 S)).mono (K32 S)).mono (K35 S)).mono vw_any) r20 q20) ?_)
        rintro _ w118 hE117 ⟨v14, rfl, k14, -⟩
        exact Made.ext hE117 hZ80 NewOwn.nil (fun _ h => h) ⟨v14, rfl, (k14.mono Zv.made), trivial⟩
       intro z8
       refine DrH.det ?_ ?_
       ·
        rintro w119 Z83 hE118 hZ81 ⟨⟨⟨v14, rfl, k14, -⟩, hB8⟩, -, -, -, -⟩
        refine GOp.yes rfl rfl hc13 (OpY.call en28 rfl rfl (bSign_w N r20 v14 _ Any (k14.mono vw_any) r21 q21) ?_)
        rintro _ w120 hE119 ⟨rfl, -⟩
        exact ⟨hE119, rfl⟩
       refine DrH.de (fun _ hE120 => GOp.yes rfl rfl hc13 (OpY.ldBoxA (vs := [(Value.bool x.Negative), x_v]) Tryd.underlying24 rfl ti24 rfl ((hL35.ext hE120).at 0 rfl rfl) rfl rfl (er rfl))) ?_
       refine DrH.det ?_ ?_
       ·
        rintro w122 Z85 hE121 hZ83 ⟨-, -, -, -, -⟩
        have K36 := ke hL35 hE121
        refine GOp.yes rfl rfl hc13 (OpY.call en40 rfl rfl (rSign_w N x x_v _ Any ((((f13.mono (K17 S)).mono (K32 S)).mono (K36 S)).mono vw_any) r22 q22) ?_)
        rintro _ w123 hE122 ⟨rfl, -⟩
        exact ⟨hE122, rfl⟩
       refine DrH.de (fun _ _ => GOp.yes rfl rfl hc13 (OpY.eql (x := r21) (y := r22) ((r21 : Int) = r22) rfl rfl Iff.rfl (er rfl))) ?_
       refine DrH.de (fun _ _ => GOp.op (OpY.pick_t rfl hc13 rfl (er rfl))) ?_
       refine DrH.de (fun _ _ => GOp.op (OpY.move rfl (er rfl))) ?_
       refine DrH.de (fun _ hE126 => GOp.yes rfl rfl (decide_eq_true hc14) (OpY.ldBoxA (vs := [(Value.bool x.Negative), x_v]) Tryd.underlying24 rfl ti24 rfl ((hL35.ext hE126).at 0 rfl rfl) rfl rfl (er rfl))) ?_
       refine DrH.rel ?_ ?_
       ·
        rintro w128 Z90 hE127 hZ88 ⟨-, -, -, -, -⟩
        have K37 := ke hL35 hE127
        refine GOp.yes rfl rfl (decide_eq_true hc14) (OpY.call en16 rfl rfl (lcp_w N x x_v _ Any ((((f13.mono (K17 S)).mono (K32 S)).mono (K37 S)).mono vw_any) r23 q23) ?_)
        rintro _ w129 hE128 ⟨v15, rfl, k15, -⟩
        exact Made.ext hE128 hZ88 NewOwn.nil (fun _ h => h) ⟨v15, rfl, (k15.mono Zv.made), trivial⟩
       intro z10
       refine DrH.rel ?_ ?_
       ·
        rintro w130 Z91 hE129 hZ89 ⟨⟨⟨v15, rfl, k15, -⟩, hB10⟩, -, -, -, -, -⟩
        refine GOp.yes rfl rfl (decide_eq_true hc14) (OpY.call en41 rfl rfl (bNeg_w N r23 v15 _ Any (k15.mono vw_any) r24 q24) ?_)
        rintro _ w131 hE130 ⟨v16, rfl, k16, -⟩
        exact Made.ext hE130 hZ89 NewOwn.nil (fun _ h => h) ⟨v16, rfl, (k16.mono Zv.made), trivial⟩
       intro z11
       refine DrH.de (fun _ hE131 => GOp.yes rfl rfl (decide_eq_true hc14) (OpY.ldBoxA (vs := [(Value.bool x.Negative), x_v]) Tryd.underlying24 rfl ti24 rfl ((hL35.ext hE131).at 0 rfl rfl) rfl rfl (er rfl))) ?_
       refine DrH.rel ?_ ?_
       ·
        rintro w133 Z93 hE132 hZ91 ⟨⟨⟨v16, rfl, k16, -⟩, hB11⟩, -, -, -, -, -, -⟩
        have K38 := ke hL35 hE132
        refine GOp.yes rfl rfl (decide_eq_true hc14) (OpY.call en42 rfl rfl (rNeg_w N x x_v _ Any ((((f13.mono (K17 S)).mono (K32 S)).mono (K38 S)).mono vw_any) r25 q25) ?_)
        rintro _ w134 hE133 ⟨v17, rfl, k17, -⟩
        exact Made.ext hE133 hZ91 NewOwn.nil (fun _ h => h) ⟨v17, rfl, (k17.mono Zv.made), trivial⟩
       intro z12
       refine DrH.det ?_ ?_
       ·
        rintro w135 Z94 hE134 hZ92 ⟨⟨⟨v17, rfl, k17, -⟩, hB12⟩, ⟨⟨v16, rfl, k16, -⟩, hB11⟩, -, -, -, -, -, -⟩
        refine GOp.yes rfl rfl (decide_eq_true hc14) (OpY.call en18 rfl rfl (rSame_w N r24 r25 v16 v17 _ Any (k16.mono vw_any) (k17.mono vw_any) r26 q26) ?_)
        rintro _ w136 hE135 ⟨rfl, -⟩
        exact ⟨hE135, rfl⟩
       refine DrH.de (fun _ _ => GOp.op (OpY.pick_t rfl (decide_eq_true hc14) rfl (er rfl))) ?_
       refine DrH.de (fun _ _ => GOp.op (OpY.move rfl (er rfl))) ?_
       refine DrH.de (fun _ _ => GOp.no rfl rfl (eq_false_of_ne_true hc15) (er rfl)) ?_
       refine DrH.de (fun _ _ => GOp.no rfl rfl (eq_false_of_ne_true hc15) (er rfl)) ?_
       refine DrH.de (fun _ _ => GOp.no rfl rfl (eq_false_of_ne_true hc15) (er rfl)) ?_
       refine DrH.de (fun _ _ => GOp.op (OpY.pick_f rfl (eq_false_of_ne_true hc15) rfl (er rfl))) ?_
       refine DrH.de (fun _ _ => GOp.op (OpY.move rfl (er rfl))) ?_
       refine DrH.de (fun _ _ => GOp.no rfl rfl rfl (er rfl)) ?_
       refine DrH.de (fun _ _ => GOp.no rfl rfl rfl (er rfl)) ?_
       refine DrH.fin0 ?_
       rintro w146 Z104 hE145 hZ102 ⟨⟨⟨v17, rfl, k17, -⟩, hB12⟩, ⟨⟨v16, rfl, k16, -⟩, hB11⟩, ⟨⟨v15, rfl, k15, -⟩, hB10⟩, ⟨⟨v14, rfl, k14, -⟩, hB8⟩, ⟨⟨v13, rfl, k13, -⟩, hB4⟩, ⟨⟨v12, rfl, k12, -⟩, hB2⟩, ⟨⟨v11, rfl, k11, -⟩, hB1⟩, -⟩ ap12
       have hB15 : ∀ b, some b ∈ ([] : List (Option Nat)) → w104.heap.size ≤ b ∧ ¬ Z104 b := by
        intro b hb; cases hb
       replace k17 := k17.mono (Zv.fin hL35 hZ102 hB15)
       replace k16 := k16.mono (Zv.fin hL35 hZ102 hB15)
       replace k15 := k15.mono (Zv.fin hL35 hZ102 hB15)
       replace k14 := k14.mono (Zv.fin hL35 hZ102 hB15)
       replace k13 := k13.mono (Zv.fin hL35 hZ102 hB15)
       replace k12 := k12.mono (Zv.fin hL35 hZ102 hB15)
       replace k11 := k11.mono (Zv.fin hL35 hZ102 hB15)
       have hL42 := hL35.ext hE145
       refine Rl.no rfl rfl rfl ?_
       refine Rl.op (OpY.pick_f (t := false) (v := (Value.bool false)) rfl rfl rfl ?_)
       refine Rl.op (OpY.assign (v := (Value.bool false)) rfl ?_)
       refine Rl.nil (Swp.ret ?_)
       obtain rfl := Option.some.inj h
       refine ⟨[(Value.bool false)], ⟨rfl, trivial⟩, ⟨_, rfl, hL42.done, ?_⟩⟩
       exact ⟨rfl, trivial⟩
    ·
     replace h := ite_f hc14 h
     refine Swp.drawL 30 [] [] (fun W1 => [.det (Value.agg #[(Value.bool x.Negative), x_v]), .rel (fun v Z w' => ∃ v11, (Value.agg #[(Value.bool r16.Negative), v11]) = v ∧ Rs (rInt .u32) (Zv W1 w.heap.size None [some b1] Z w') v11 r16.Digits ∧ True) (fun _ => []), .rel (fun v Z w' => ∃ v12, (Value.agg #[(Value.bool r17.Negative), v12]) = v ∧ Rs (rInt .u32) (Zv W1 w.heap.size None [some b1] Z w') v12 r17.Digits ∧ True) (fun _ => []), .det (Value.agg #[(Value.bool x.Negative), x_v]), .rel (fun v Z w' => ∃ v13, (Value.agg #[(Value.bool r18.Negative), v13]) = v ∧ Rs (rInt .u32) (Zv W1 w.heap.size None [some b1] Z w') v13 r18.Digits ∧ True) (fun _ => []), .det (Value.bool r19), .det (Value.bool r19), .det (Value.agg #[(Value.bool x.Negative), x_v]), .rel (fun v Z w' => ∃ v14, (Value.agg #[(Value.bool r20.Negative), v14]) = v ∧ Rs (rInt .u32) (Zv W1 w.heap.size None [some b1] Z w') v14 r20.Digits ∧ True) (fun _ => []), .det (Value.int .i64 r21), .det (Value.agg #[(Value.bool x.Negative), x_v]), .det (Value.int .i64 r22), .det (Value.bool (decide ((r21 : Int) = r22))), .det (Value.bool (decide ((r21 : Int) = r22))), .det (Value.bool (decide ((r21 : Int) = r22))), .det undef, .det undef, .det undef, .det undef, .det undef, .det undef, .det (Value.bool false), .det (Value.bool false), .det undef, .det undef, .det undef, .det (Value.bool false), .det (Value.bool false), .det undef, .det undef]) mixed rfl rfl rfl (fun _ => rfl) (fun _ => rfl) ?_ ?_
     ·
      intro W1 _
      exact ⟨fun v Z Z' w w' hΦ hz _ _ hs => by obtain ⟨v11, rfl, k11, -⟩ := hΦ; exact ⟨v11, rfl, (k11.mono (Zv.stay hz hs)), trivial⟩, ⟨fun v Z Z' w w' hΦ hz _ _ hs => by obtain ⟨v12, rfl, k12, -⟩ := hΦ; exact ⟨v12, rfl, (k12.mono (Zv.stay hz hs)), trivial⟩, ⟨fun v Z Z' w w' hΦ hz _ _ hs => by obtain ⟨v13, rfl, k13, -⟩ := hΦ; exact ⟨v13, rfl, (k13.mono (Zv.stay hz hs)), trivial⟩, ⟨fun v Z Z' w w' hΦ hz _ _ hs => by obtain ⟨v14, rfl, k14, -⟩ := hΦ; exact ⟨v14, rfl, (k14.mono (Zv.stay hz hs)), trivial⟩, trivial⟩⟩⟩⟩
     ·
      intro w147 hE146
      have hL43 := hL18.ext hE146
      have K39 := ke hL18 hE146
      refine DrH.de (fun _ hE147 => GOp.op (OpY.ldBoxA (vs := [(Value.bool x.Negative), x_v]) Tryd.underlying24 rfl ti24 rfl ((hL43.ext hE147).at 0 rfl rfl) rfl rfl (er rfl))) ?_
      refine DrH.rel ?_ ?_
      ·
       rintro w149 Z106 hE148 hZ104 ⟨-⟩
       have K40 := ke hL43 hE148
       refine GOp.op (OpY.call en16 rfl rfl (lcp_w N x x_v _ Any ((((f13.mono (K17 S)).mono (K39 S)).mono (K40 S)).mono vw_any) r16 q16) ?_)
       rintro _ w150 hE149 ⟨v11, rfl, k11, -⟩
       exact Made.ext hE149 hZ104 NewOwn.nil (fun _ h => h) ⟨v11, rfl, (k11.mono Zv.made), trivial⟩
      intro z1
      refine DrH.rel ?_ ?_
      ·
       rintro w151 Z107 hE150 hZ105 ⟨⟨⟨v11, rfl, k11, -⟩, hB1⟩, -⟩
       refine GOp.op (OpY.call en39 rfl rfl (bNormal_w N r16 v11 _ Any (k11.mono vw_any) r17 q17) ?_)
       rintro _ w152 hE151 ⟨v12, rfl, k12, -⟩
       exact Made.ext hE151 hZ105 NewOwn.nil (fun _ h => h) ⟨v12, rfl, (k12.mono Zv.made), trivial⟩
      intro z2
      refine DrH.de (fun _ hE152 => GOp.op (OpY.ldBoxA (vs := [(Value.bool x.Negative), x_v]) Tryd.underlying24 rfl ti24 rfl ((hL43.ext hE152).at 0 rfl rfl) rfl rfl (er rfl))) ?_
      refine DrH.rel ?_ ?_
      ·
       rintro w154 Z109 hE153 hZ107 ⟨⟨⟨v12, rfl, k12, -⟩, hB2⟩, -, -⟩
       have K41 := ke hL43 hE153
       refine GOp.op (OpY.call en23 rfl rfl (rNormal_w N x x_v _ Any ((((f13.mono (K17 S)).mono (K39 S)).mono (K41 S)).mono vw_any) r18 q18) ?_)
       rintro _ w155 hE154 ⟨v13, rfl, k13, -⟩
       exact Made.ext hE154 hZ107 NewOwn.nil (fun _ h => h) ⟨v13, rfl, (k13.mono Zv.made), trivial⟩
      intro z4
      refine DrH.det ?_ ?_
      ·
       rintro w156 Z110 hE155 hZ108 ⟨⟨⟨v13, rfl, k13, -⟩, hB4⟩, ⟨⟨v12, rfl, k12, -⟩, hB2⟩, -, -⟩
       refine GOp.op (OpY.call en18 rfl rfl (rSame_w N r17 r18 v12 v13 _ Any (k12.mono vw_any) (k13.mono vw_any) r19 q19) ?_)
       rintro _ w157 hE156 ⟨rfl, -⟩
       exact ⟨hE156, rfl⟩
      refine DrH.de (fun _ _ => GOp.op (OpY.move rfl (er rfl))) ?_
      refine DrH.de (fun _ hE158 => GOp.yes rfl rfl hc13 (OpY.ldBoxA (vs := [(Value.bool x.Negative), x_v]) Tryd.underlying24 rfl ti24 rfl ((hL43.ext hE158).at 0 rfl rfl) rfl rfl (er rfl))) ?_
      refine DrH.rel ?_ ?_
      ·
       rintro w160 Z113 hE159 hZ111 ⟨-, -, -, -⟩
       have K42 := ke hL43 hE159
       refine GOp.yes rfl rfl hc13 (OpY.call en16 rfl rfl (lcp_w N x x_v _ Any ((((f13.mono (K17 S)).mono (K39 S)).mono (K42 S)).mono vw_any) r20 q20) ?_)
       rintro _ w161 hE160 ⟨v14, rfl, k14, -⟩
       exact Made.ext hE160 hZ111 NewOwn.nil (fun _ h => h) ⟨v14, rfl, (k14.mono Zv.made), trivial⟩
      intro z8
      refine DrH.det ?_ ?_
      ·
       rintro w162 Z114 hE161 hZ112 ⟨⟨⟨v14, rfl, k14, -⟩, hB8⟩, -, -, -, -⟩
       refine GOp.yes rfl rfl hc13 (OpY.call en28 rfl rfl (bSign_w N r20 v14 _ Any (k14.mono vw_any) r21 q21) ?_)
       rintro _ w163 hE162 ⟨rfl, -⟩
       exact ⟨hE162, rfl⟩
      refine DrH.de (fun _ hE163 => GOp.yes rfl rfl hc13 (OpY.ldBoxA (vs := [(Value.bool x.Negative), x_v]) Tryd.underlying24 rfl ti24 rfl ((hL43.ext hE163).at 0 rfl rfl) rfl rfl (er rfl))) ?_
      refine DrH.det ?_ ?_
      ·
       rintro w165 Z116 hE164 hZ114 ⟨-, -, -, -, -⟩
       have K43 := ke hL43 hE164
       refine GOp.yes rfl rfl hc13 (OpY.call en40 rfl rfl (rSign_w N x x_v _ Any ((((f13.mono (K17 S)).mono (K39 S)).mono (K43 S)).mono vw_any) r22 q22) ?_)
       rintro _ w166 hE165 ⟨rfl, -⟩
       exact ⟨hE165, rfl⟩
      refine DrH.de (fun _ _ => GOp.yes rfl rfl hc13 (OpY.eql (x := r21) (y := r22) ((r21 : Int) = r22) rfl rfl Iff.rfl (er rfl))) ?_
      refine DrH.de (fun _ _ => GOp.op (OpY.pick_t rfl hc13 rfl (er rfl))) ?_
      refine DrH.de (fun _ _ => GOp.op (OpY.move rfl (er rfl))) ?_
      refine DrH.de (fun _ _ => GOp.no rfl rfl (decide_eq_false hc14) (er rfl)) ?_
      refine DrH.de (fun _ _ => GOp.no rfl rfl (decide_eq_false hc14) (er rfl)) ?_
      refine DrH.de (fun _ _ => GOp.no rfl rfl (decide_eq_false hc14) (er rfl)) ?_
      refine DrH.de (fun _ _ => GOp.no rfl rfl (decide_eq_false hc14) (er rfl)) ?_
      refine DrH.de (fun _ _ => GOp.no rfl rfl (decide_eq_false hc14) (er rfl)) ?_
      refine DrH.de (fun _ _ => GOp.no rfl rfl (decide_eq_false hc14) (er rfl)) ?_
      refine DrH.de (fun _ _ => GOp.op (OpY.pick_f rfl (decide_eq_false hc14) rfl (er rfl))) ?_
      refine DrH.de (fun _ _ => GOp.op (OpY.move rfl (er rfl))) ?_
      refine DrH.de (fun _ _ => GOp.no rfl rfl rfl (er rfl)) ?_
      refine DrH.de (fun _ _ => GOp.no rfl rfl rfl (er rfl)) ?_
      refine DrH.de (fun _ _ => GOp.no rfl rfl rfl (er rfl)) ?_
      refine DrH.de (fun _ _ => GOp.op (OpY.pick_f rfl rfl rfl (er rfl))) ?_
      refine DrH.de (fun _ _ => GOp.op (OpY.move rfl (er rfl))) ?_
      refine DrH.de (fun _ _ => GOp.no rfl rfl rfl (er rfl)) ?_
      refine DrH.de (fun _ _ => GOp.no rfl rfl rfl (er rfl)) ?_
      refine DrH.fin0 ?_
      rintro w185 Z135 hE184 hZ133 ⟨⟨⟨v14, rfl, k14, -⟩, hB8⟩, ⟨⟨v13, rfl, k13, -⟩, hB4⟩, ⟨⟨v12, rfl, k12, -⟩, hB2⟩, ⟨⟨v11, rfl, k11, -⟩, hB1⟩, -⟩ ap13
      have hB16 : ∀ b, some b ∈ ([] : List (Option Nat)) → w147.heap.size ≤ b ∧ ¬ Z135 b := by
       intro b hb; cases hb
      replace k14 := k14.mono (Zv.fin hL43 hZ133 hB16)
      replace k13 := k13.mono (Zv.fin hL43 hZ133 hB16)
      replace k12 := k12.mono (Zv.fin hL43 hZ133 hB16)
      replace k11 := k11.mono (Zv.fin hL43 hZ133 hB16)
      have hL48 := hL43.ext hE184
      refine Rl.no rfl rfl rfl ?_
      refine Rl.op (OpY.pick_f (t := false) (v := (Value.bool false)) rfl rfl rfl ?_)
      refine Rl.op (OpY.assign (v := (Value.bool false)) rfl ?_)
      refine Rl.nil (Swp.ret ?_)
      obtain rfl := Option.some.inj h
      refine ⟨[(Value.bool false)], ⟨rfl, trivial⟩, ⟨_, rfl, hL48.done, ?_⟩⟩
      exact ⟨rfl, trivial⟩
   ·
    replace h := ite_f hc13 h
    refine Swp.drawL 30 [] [] (fun W1 => [.det (Value.agg #[(Value.bool x.Negative), x_v]), .rel (fun v Z w' => ∃ v11, (Value.agg #[(Value.bool r16.Negative), v11]) = v ∧ Rs (rInt .u32) (Zv W1 w.heap.size None [some b1] Z w') v11 r16.Digits ∧ True) (fun _ => []), .rel (fun v Z w' => ∃ v12, (Value.agg #[(Value.bool r17.Negative), v12]) = v ∧ Rs (rInt .u32) (Zv W1 w.heap.size None [some b1] Z w') v12 r17.Digits ∧ True) (fun _ => []), .det (Value.agg #[(Value.bool x.Negative), x_v]), .rel (fun v Z w' => ∃ v13, (Value.agg #[(Value.bool r18.Negative), v13]) = v ∧ Rs (rInt .u32) (Zv W1 w.heap.size None [some b1] Z w') v13 r18.Digits ∧ True) (fun _ => []), .det (Value.bool r19), .det (Value.bool r19), .det undef, .det undef, .det undef, .det undef, .det undef, .det undef, .det (Value.bool false), .det (Value.bool false), .det undef, .det undef, .det undef, .det undef, .det undef, .det undef, .det (Value.bool false), .det (Value.bool false), .det undef, .det undef, .det undef, .det (Value.bool false), .det (Value.bool false), .det undef, .det undef]) mixed rfl rfl rfl (fun _ => rfl) (fun _ => rfl) ?_ ?_
    ·
     intro W1 _
     exact ⟨fun v Z Z' w w' hΦ hz _ _ hs => by obtain ⟨v11, rfl, k11, -⟩ := hΦ; exact ⟨v11, rfl, (k11.mono (Zv.stay hz hs)), trivial⟩, ⟨fun v Z Z' w w' hΦ hz _ _ hs => by obtain ⟨v12, rfl, k12, -⟩ := hΦ; exact ⟨v12, rfl, (k12.mono (Zv.stay hz hs)), trivial⟩, ⟨fun v Z Z' w w' hΦ hz _ _ hs => by obtain ⟨v13, rfl, k13, -⟩ := hΦ; exact ⟨v13, rfl, (k13.mono (Zv.stay hz hs)), trivial⟩, trivial⟩⟩⟩
    ·
     intro w186 hE185
     have hL49 := hL18.ext hE185
     have K44 := ke hL18 hE185
     refine DrH.de (fun _ hE186 => GOp.op (OpY.ldBoxA (vs := [(Value.bool x.Negative), x_v]) Tryd.underlying24 rfl ti24 rfl ((hL49.ext hE186).at 0 rfl rfl) rfl rfl (er rfl))) ?_
     refine DrH.rel ?_ ?_
     ·
      rintro w188 Z137 hE187 hZ135 ⟨-⟩
      have K45 := ke hL49 hE187
      refine GOp.op (OpY.call en16 rfl rfl (lcp_w N x x_v _ Any ((((f13.mono (K17 S)).mono (K44 S)).mono (K45 S)).mono vw_any) r16 q16) ?_)
      rintro _ w189 hE188 ⟨v11, rfl, k11, -⟩
      exact Made.ext hE188 hZ135 NewOwn.nil (fun _ h => h) ⟨v11, rfl, (k11.mono Zv.made), trivial⟩
     intro z1
     refine DrH.rel ?_ ?_
     ·
      rintro w190 Z138 hE189 hZ136 ⟨⟨⟨v11, rfl, k11, -⟩, hB1⟩, -⟩
      refine GOp.op (OpY.call en39 rfl rfl (bNormal_w N r16 v11 _ Any (k11.mono vw_any) r17 q17) ?_)
      rintro _ w191 hE190 ⟨v12, rfl, k12, -⟩
      exact Made.ext hE190 hZ136 NewOwn.nil (fun _ h => h) ⟨v12, rfl, (k12.mono Zv.made), trivial⟩
     intro z2
     refine DrH.de (fun _ hE191 => GOp.op (OpY.ldBoxA (vs := [(Value.bool x.Negative), x_v]) Tryd.underlying24 rfl ti24 rfl ((hL49.ext hE191).at 0 rfl rfl) rfl rfl (er rfl))) ?_
     refine DrH.rel ?_ ?_
     ·
      rintro w193 Z140 hE192 hZ138 ⟨⟨⟨v12, rfl, k12, -⟩, hB2⟩, -, -⟩
      have K46 := ke hL49 hE192
      refine GOp.op (OpY.call en23 rfl rfl (rNormal_w N x x_v _ Any ((((f13.mono (K17 S)).mono (K44 S)).mono (K46 S)).mono vw_any) r18 q18) ?_)
      rintro _ w194 hE193 ⟨v13, rfl, k13, -⟩
      exact Made.ext hE193 hZ138 NewOwn.nil (fun _ h => h) ⟨v13, rfl, (k13.mono Zv.made), trivial⟩
     intro z4
     refine DrH.det ?_ ?_
     ·
      rintro w195 Z141 hE194 hZ139 ⟨⟨⟨v13, rfl, k13, -⟩, hB4⟩, ⟨⟨v12, rfl, k12, -⟩, hB2⟩, -, -⟩
      refine GOp.op (OpY.call en18 rfl rfl (rSame_w N r17 r18 v12 v13 _ Any (k12.mono vw_any) (k13.mono vw_any) r19 q19) ?_)
      rintro _ w196 hE195 ⟨rfl, -⟩
      exact ⟨hE195, rfl⟩
     refine DrH.de (fun _ _ => GOp.op (OpY.move rfl (er rfl))) ?_
     refine DrH.de (fun _ _ => GOp.no rfl rfl (eq_false_of_ne_true hc13) (er rfl)) ?_
     refine DrH.de (fun _ _ => GOp.no rfl rfl (eq_false_of_ne_true hc13) (er rfl)) ?_
     refine DrH.de (fun _ _ => GOp.no rfl rfl (eq_false_of_ne_true hc13) (er rfl)) ?_
     refine DrH.de (fun _ _ => GOp.no rfl rfl (eq_false_of_ne_true hc13) (er rfl)) ?_
     refine DrH.de (fun _ _ => GOp.no rfl rfl (eq_false_of_ne_true hc13) (er rfl)) ?_
     refine DrH.de (fun _ _ => GOp.no rfl rfl (eq_false_of_ne_true hc13) (er rfl)) ?_
     refine DrH.de (fun _ _ => GOp.op (OpY.pick_f rfl (eq_false_of_ne_true hc13) rfl (er rfl))) ?_
     refine DrH.de (fun _ _ => GOp.op (OpY.move rfl (er rfl))) ?_
     refine DrH.de (fun _ _ => GOp.no rfl rfl rfl (er rfl)) ?_
     refine DrH.de (fun _ _ => GOp.no rfl rfl rfl (er rfl)) ?_
     refine DrH.de (fun _ _ => GOp.no rfl rfl rfl (er rfl)) ?_
     refine DrH.de (fun _ _ => GOp.no rfl rfl rfl (er rfl)) ?_
     refine DrH.de (fun _ _ => GOp.no rfl rfl rfl (er rfl)) ?_
     refine DrH.de (fun _ _ => GOp.no rfl rfl rfl (er rfl)) ?_
     refine DrH.de (fun _ _ => GOp.op (OpY.pick_f rfl rfl rfl (er rfl))) ?_
     refine DrH.de (fun _ _ => GOp.op (OpY.move rfl (er rfl))) ?_
     refine DrH.de (fun _ _ => GOp.no rfl rfl rfl (er rfl)) ?_
     refine DrH.de (fun _ _ => GOp.no rfl rfl rfl (er rfl)) ?_
     refine DrH.de (fun _ _ => GOp.no rfl rfl rfl (er rfl)) ?_
     refine DrH.de (fun _ _ => GOp.op (OpY.pick_f rfl rfl rfl (er rfl))) ?_
     refine DrH.de (fun _ _ => GOp.op (OpY.move rfl (er rfl))) ?_
     refine DrH.de (fun _ _ => GOp.no rfl rfl rfl (er rfl)) ?_
     refine DrH.de (fun _ _ => GOp.no rfl rfl rfl (er rfl)) ?_
     refine DrH.fin0 ?_
     rintro w221 Z166 hE220 hZ164 ⟨⟨⟨v13, rfl, k13, -⟩, hB4⟩, ⟨⟨v12, rfl, k12, -⟩, hB2⟩, ⟨⟨v11, rfl, k11, -⟩, hB1⟩, -⟩ ap14
     have hB17 : ∀ b, some b ∈ ([] : List (Option Nat)) → w186.heap.size ≤ b ∧ ¬ Z166 b := by
      intro b hb; cases hb
     replace k13 := k13.mono (Zv.fin hL49 hZ164 hB17)
     replace k12 := k12.mono (Zv.fin hL49 hZ164 hB17)
     replace k11 := k11.mono (Zv.fin hL49 hZ164 hB17)
     have hL52 := hL49.ext hE220
     refine Rl.no rfl rfl rfl ?_
     refine Rl.op (OpY.pick_f (t := false) (v := (Value.bool false)) rfl rfl rfl ?_)
     refine Rl.op (OpY.assign (v := (Value.bool false)) rfl ?_)
     refine Rl.nil (Swp.ret ?_)
     obtain rfl := Option.some.inj h
     refine ⟨[(Value.bool false)], ⟨rfl, trivial⟩, ⟨_, rfl, hL52.done, ?_⟩⟩
     exact ⟨rfl, trivial⟩
end Go.Proofs.YthmoefciofnmdaaDoor.WL

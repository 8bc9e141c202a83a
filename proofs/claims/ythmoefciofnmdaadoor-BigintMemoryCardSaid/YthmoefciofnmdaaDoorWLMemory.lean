/- Walks, written by a program of mine (wip/tool); the kernel checks them. -/
import Derived.Test.YthmoefciofnmdaaDoorProg
import Derived.Test.YthmoefciofnmdaaDoorZ7
import Derived.Test.YthmoefciofnmdaaDoorF2
import Derived.Test.YthmoefciofnmdaaDoorZ12
import Derived.Test.YthmoefciofnmdaaDoorZ15
import Derived.Test.YthmoefciofnmdaaDoorA02
import Derived.Test.YthmoefciofnmdaaDoorPL
import Derived.Test.YthmoefciofnmdaaDoorWAMemory
import Derived.Test.YthmoefciofnmdaaDoorWRMemory
import Derived.Test.YthmoefciofnmdaaDoorWBMemory
import Derived.Test.YthmoefciofnmdaaDoorWCMemory
set_option maxRecDepth 100000
set_option maxHeartbeats 40000000
set_option linter.unusedVariables false
set_option linter.unusedSimpArgs false
namespace Go.Proofs.YthmoefciofnmdaaDoor.WL
open Go Go.RowKit Go.X Go.D Go.Proofs.YthmoefciofnmdaaDoor.WF Go.Proofs.YthmoefciofnmdaaDoor.WA Go.Proofs.YthmoefciofnmdaaDoor.WR Go.Proofs.YthmoefciofnmdaaDoor.WB Go.Proofs.YthmoefciofnmdaaDoor.WC
theorem en49 : Go.X.Enters Tryd.prog 49 := ⟨Tryd.f49, Tryd.func49, by kernel_rfl, by kernel_rfl⟩
theorem en44 : Go.X.Enters Tryd.prog 44 := ⟨Tryd.f44, Tryd.func44, by kernel_rfl, by kernel_rfl⟩
theorem en20 : Go.X.Enters Tryd.prog 20 := ⟨Tryd.f20, Tryd.func20, by kernel_rfl, by kernel_rfl⟩
theorem en30 : Go.X.Enters Tryd.prog 30 := ⟨Tryd.f30, Tryd.func30, by kernel_rfl, by kernel_rfl⟩
theorem en15 : Go.X.Enters Tryd.prog 15 := ⟨Tryd.f15, Tryd.func15, by kernel_rfl, by kernel_rfl⟩
theorem en26 : Go.X.Enters Tryd.prog 26 := ⟨Tryd.f26, Tryd.func26, by kernel_rfl, by kernel_rfl⟩
theorem en18 : Go.X.Enters Tryd.prog 18 := ⟨Tryd.f18, Tryd.func18, by kernel_rfl, by kernel_rfl⟩
theorem en19 : Go.X.Enters Tryd.prog 19 := ⟨Tryd.f19, Tryd.func19, by kernel_rfl, by kernel_rfl⟩
theorem en13 : Go.X.Enters Tryd.prog 13 := ⟨Tryd.f13, Tryd.func13, by kernel_rfl, by kernel_rfl⟩
theorem en14 : Go.X.Enters Tryd.prog 14 := ⟨Tryd.f14, Tryd.func14, by kernel_rfl, by kernel_rfl⟩
theorem en16 : Go.X.Enters Tryd.prog 16 := ⟨Tryd.f16, Tryd.func16, by kernel_rfl, by kernel_rfl⟩
theorem en24 : Go.X.Enters Tryd.prog 24 := ⟨Tryd.f24, Tryd.func24, by kernel_rfl, by kernel_rfl⟩
theorem en34 : Go.X.Enters Tryd.prog 34 := ⟨Tryd.f34, Tryd.func34, by kernel_rfl, by kernel_rfl⟩
theorem en36 : Go.X.Enters Tryd.prog 36 := ⟨Tryd.f36, Tryd.func36, by kernel_rfl, by kernel_rfl⟩
theorem en43 : Go.X.Enters Tryd.prog 43 := ⟨Tryd.f43, Tryd.func43, by kernel_rfl, by kernel_rfl⟩
theorem lcp_w (N : Nat) (x : Big) (x_v : Value) (w : World) (S : Nat → Prop) (x_h : Rs (rInt .u32) (Hv w.heap.size S [] w) x_v x.Digits) (r : Big) (h : lcp N x = some r) :
  Calls Tryd.prog 16 #[(Value.agg #[(Value.bool x.Negative), x_v])] w (Ret w (fun v w' => ∃ (v0_0 : Value), (Value.agg #[(Value.bool r.Negative), v0_0]) = v ∧ Rs (rInt .u32) (Hv w.heap.size None [] w') v0_0 r.Digits ∧ True)) := by
 unfold lcp at h
 have hL : Go.X.Loc [] [] w w [] [] := Go.X.Loc.begin0 w
 refine calls_of (l := [(Value.agg #[(Value.bool x.Negative), x_v])]) (rl := [.cell 2 24]) (n := 5) Tryd.func16 rfl rfl rfl (Nat.le_of_ble_eq_true rfl) ?_
 refine Swp.seq (Swp.region rfl (Rl.op (OpY.box (cs := [(Value.bool x.Negative), x_v]) rfl rfl hL ?_)))
 intro b1 w2 hL3 hS5
 have K4 := ks w hS5
 refine Rl.op (OpY.alloc (cs := [(Value.bool false), (Value.slice none 0 0)]) ti24 rfl hL3 ?_)
 intro b6 w7 hL8 hS10
 have K9 := ks w hS10
 refine Rl.nil (Swp.seq (Swp.region rfl (Rl.op (OpY.ldBoxA (vs := [(Value.bool x.Negative), x_v]) Tryd.underlying24 rfl ti24 rfl (hL8.at 1 rfl rfl) rfl rfl ?_))))
 obtain ⟨r10, q10, h⟩ := bind_some h
 have f10 := ((x_h.mono (K4 S)).mono (K9 S))
 refine Rl.op (OpY.call en49 rfl rfl (rCopy_w N x x_v _ Any (f10.mono vw_any) r10 q10) ?_)
 rintro _ w10 hE10 ⟨v10, rfl, k10, -⟩
 replace k10 := k10.mono (Hv.freshO (S := None) hL8 [])
 have hL10 := hL8.ext hE10
 refine Rl.op0 (OpY.store (vs := [(Value.bool r10.Negative), v10]) ti24 rfl rfl rfl rfl (ones_cons rfl (ones_cons k10.one ones_nil)) hL10 0 rfl rfl (Nat.le_of_ble_eq_true rfl) ?_)
 intro w11 (hL11 : Go.X.Loc [] [] w w11 [some b6, some b1] [Cont.cells [(Value.bool r10.Negative), v10], Cont.cells [(Value.bool x.Negative), x_v]]) hS11
 have K10 := ks w hS11
 refine Rl.nil (Swp.ret ?_)
 obtain rfl := Option.some.inj h
 refine ⟨[(Value.agg #[(Value.bool r10.Negative), v10])], ⟨⟨⟨b6, 0, none⟩, rfl, res_boxA Tryd.underlying24 rfl ti24 (hL11.at 0 rfl rfl) rfl⟩, trivial⟩, ⟨_, rfl, hL11.done, ?_⟩⟩
 have f11 := (k10.mono (K10 None))
 exact ⟨v10, rfl, (f11.mono Hv.out), trivial⟩
theorem lsmall_w (N : Nat) (l : (List Big)) (l_v : Value) (w : World) (S : Nat → Prop) (l_h : Rs rBig (Hv w.heap.size S [] w) l_v l) (r : Bool) (h : lsmall N l = some r) :
  Calls Tryd.prog 14 #[l_v] w (Ret w (fun v w' => (Value.bool r) = v ∧ True)) := by
 unfold lsmall at h
 have hL : Go.X.Loc [] [] w w [] [] := Go.X.Loc.begin0 w
 refine calls_of (l := [l_v]) (rl := [.tmp 2]) (n := 15) Tryd.func14 rfl rfl rfl (Nat.le_of_ble_eq_true rfl) ?_
 refine Swp.seq (Swp.region rfl (Rl.op (OpY.assign (v := (Value.bool false)) rfl ?_)))
 refine Rl.nil (Swp.seq (Swp.seq (Swp.region rfl (Rl.op (OpY.move (v := l_v) rfl ?_)))))
 refine Rl.op (OpY.lenRo (v := l_v) Tryd.underlying45 rfl l_h ?_)
 refine Rl.op (OpY.move (v := (Value.int .i64 0)) rfl ?_)
 refine Rl.nil ?_
 obtain ⟨s10, hl10, g10⟩ := bind_some h
 refine Swp.join (fun e w' => ∃  (u : Env), (Sum.inl ()) = s10 ∧ e = upds [] u ∧ Go.X.Loc [] [] w w' [] [] ∧ Keep w.heap.size [] w [] w' ∧ True) ?_ ?_
 ·
  refine Swp.block ?_
  refine Swp.loopM hl10 (fun (ss : Int) (e : Env) (w' : World) => match ss with | x10 => ∃ (u : Env), e = upds [(5, l_v), (6, (Value.int .i64 (List.length l : Int))), (7, (Value.int .i64 x10))] u ∧ Go.X.Loc [] [] w w' [] [] ∧ Keep w.heap.size [] w [] w' ∧ True) ⟨_, (upds_sym ⟨rfl, rfl, rfl, trivial⟩), hL, Keep.refl, trivial⟩ ?_
  rintro x10 oo _ w10 ⟨u, rfl, hL10, K10, -⟩ h hd10
  rw [lsmall_b1] at h
  refine Swp.seq (Swp.region rfl (Rl.op (OpY.lss (x := x10) (y := (List.length l : Int)) ((x10 : Int) < (List.length l : Int)) rfl rfl Iff.rfl ?_)))
  refine Rl.nil (Swp.seq ?_)
  refine Swp.cond_d ((x10 : Int) < (List.length l : Int)) rfl (fun hc10 => ?_) (fun hc10 => ?_)
  ·
   replace h := ite_t hc10 h
   refine Swp.skip (Swp.seq (Swp.block (Swp.seq (Swp.region rfl ?_))))
   obtain ⟨x11, q10, h⟩ := bind_some h
   obtain ⟨n10, q11, q12⟩ := idx_some q10
   have f10 := (l_h.mono (K10 S))
   obtain ⟨b10, o10, c10, vs10, q13, q14, f11, q15⟩ := Rs.get f10 q12
   obtain ⟨v10, rfl, k10, -⟩ := rBig_open q15
   refine Rl.op (OpY.ixRoD (r := rBig) (v := l_v) (n := n10) (m := (o10 + n10 * rBig.sz)) Tryd.underlying45 ti24 rfl q13 rfl q11 q12 rfl ?_)
   refine Rl.op (OpY.ldRoA (vs := [(Value.bool x11.Negative), v10]) Tryd.underlying24 rfl ti24 rfl rfl vw_view f11 ?_)
   refine Rl.op (OpY.alloc (cs := [(Value.bool false), (Value.slice none 0 0)]) ti24 rfl hL10 ?_)
   intro b11 w11 hL11 hS10
   have K11 := ks w hS10
   have f12 := (k10.mono (K11 S))
   refine Rl.op0 (OpY.store (vs := [(Value.bool x11.Negative), v10]) ti24 rfl rfl rfl rfl (ones_cons rfl (ones_cons f12.one ones_nil)) hL11 0 rfl rfl (Nat.le_of_ble_eq_true rfl) ?_)
   intro w12 (hL12 : Go.X.Loc [] [] w w12 [some b11] [Cont.cells [(Value.bool x11.Negative), v10]]) hS11
   have K12 := ks w hS11
   refine Rl.nil (Swp.seq (Swp.region rfl (Rl.op (OpY.ldBoxA (vs := [(Value.bool x11.Negative), v10]) Tryd.underlying24 rfl ti24 rfl (hL12.at 0 rfl rfl) rfl rfl ?_))))
   obtain ⟨r10, q16, h⟩ := bind_some h
   have f13 := (f12.mono (K12 S))
   refine Rl.op (OpY.call en44 rfl rfl (rSmallB_w N x11 v10 _ Any (f13.mono vw_any) r10 q16) ?_)
   rintro _ w13 hE10 ⟨rfl, -⟩
   have hL13 := hL12.ext hE10
   have K13 := ke hL12 hE10
   refine Rl.op (OpY.not (x := r10) rfl ?_)
   refine Rl.nil ?_
   refine Swp.cond_b (!r10) rfl (fun hc11 => ?_) (fun hc11 => ?_)
   ·
    replace h := ite_t hc11 h
    refine Swp.seq (Swp.region rfl (Rl.op (OpY.assign (v := (Value.bool false)) rfl ?_)))
    refine Rl.nil (Swp.ret ?_)
    obtain rfl := Option.some.inj h
    obtain rfl := hd10 _ rfl
    replace h := g10
    try dsimp only at h
    obtain rfl := Option.some.inj h
    refine ⟨[(Value.bool false)], ⟨rfl, trivial⟩, ⟨_, rfl, hL13.done, ?_⟩⟩
    exact ⟨rfl, trivial⟩
   ·
    replace h := ite_f hc11 h
    refine Swp.skip (Swp.pop_blk (Swp.region rfl (Rl.op (OpY.add (x := x10) (y := 1) (z := (iw (x10 + 1))) rfl rfl rfl ?_))))
    refine Rl.op (OpY.move (v := (Value.int .i64 (iw (x10 + 1)))) rfl ?_)
    refine Rl.nil ?_
    have hp10 := hL13.pick [] rfl rfl rfl
    have hL14 : Go.X.Loc [] [] w w13 [] [] := hp10.1
    have K14 := ks w hp10.2
    obtain rfl := Option.some.inj h
    refine Swp.pop_back ⟨(iw (x10 + 1)), rfl, ?_⟩
    exact ⟨_, (upds_sym ⟨rfl, rfl, rfl, trivial⟩), hL14, (Keep.trans (Keep.trans (Keep.trans (Keep.trans K10 K11) K12) K13) K14), trivial⟩
  ·
   replace h := ite_f hc10 h
   refine Swp.exit rfl ?_
   obtain rfl := Option.some.inj h
   obtain rfl := hd10 _ rfl
   replace h := g10
   try dsimp only at h
   skip
   refine Swp.pop_back ?_
   exact ⟨_, rfl, (upds_sym trivial), hL10, K10, trivial⟩
 ·
  rintro _ w14 ⟨u, rfl, rfl, hL15, K15, -⟩
  replace h := g10
  try dsimp only at h
  refine Swp.seq (Swp.region rfl (Rl.op (OpY.assign (v := (Value.bool true)) rfl ?_)))
  refine Rl.nil (Swp.ret ?_)
  obtain rfl := Option.some.inj h
  refine ⟨[(Value.bool true)], ⟨rfl, trivial⟩, ⟨_, rfl, hL15.done, ?_⟩⟩
  exact ⟨rfl, trivial⟩
theorem awake_w0 (N : Nat)   (w : World) (S : Nat → Prop) (hG : G w)  (r : Bool) (h : awake N  = some r) (hr : r = true) :
  Calls Tryd.prog 13 #[] w (Ret w (fun v w' => (Value.bool r) = v ∧ True)) := by
 unfold awake at h
 have hL : Go.X.Loc [] [] w w [] [] := Go.X.Loc.begin0 w
 refine calls_of (l := []) (rl := [.tmp 0]) (n := 95) Tryd.func13 rfl rfl rfl (Nat.le_of_ble_eq_true rfl) ?_
 refine Swp.seq (Swp.region rfl (Rl.op (OpY.assign (v := (Value.bool false)) rfl ?_)))
 refine Rl.nil (Swp.seq (Swp.region rfl ?_))
 obtain ⟨r1, q2, h⟩ := bind_some h
 refine Rl.op (OpY.call en20 rfl rfl (bParse_w N awake_lit20 _ Any r1 q2) ?_)
 rintro _ w6 hE9 ⟨v3, rfl, k4, -⟩
 replace k4 := k4.mono (Hv.freshO (S := None) hL [])
 have hL7 := hL.ext hE9
 refine Rl.op (OpY.move (v := (Value.tuple #[(Value.agg #[(Value.bool r1.1.Negative), v3]), (Value.int .i64 r1.2)])) rfl ?_)
 refine Rl.op (OpY.extract (vs := [(Value.agg #[(Value.bool r1.1.Negative), v3]), (Value.int .i64 r1.2)]) (v := (Value.agg #[(Value.bool r1.1.Negative), v3])) rfl rfl ?_)
 refine Rl.op (OpY.extract (vs := [(Value.agg #[(Value.bool r1.1.Negative), v3]), (Value.int .i64 r1.2)]) (v := (Value.int .i64 r1.2)) rfl rfl ?_)
 refine Rl.op (OpY.alloc (cs := [(Value.bool false), (Value.slice none 0 0)]) ti24 rfl hL7 ?_)
 intro b10 w10 hL10 hS10
 have K10 := ks w hS10
 have f10 := (k4.mono (K10 None))
 refine Rl.op0 (OpY.store (vs := [(Value.bool r1.1.Negative), v3]) ti24 rfl rfl rfl rfl (ones_cons rfl (ones_cons f10.one ones_nil)) hL10 0 rfl rfl (Nat.le_of_ble_eq_true rfl) ?_)
 intro w11 (hL11 : Go.X.Loc [] [] w w11 [some b10] [Cont.cells [(Value.bool r1.1.Negative), v3]]) hS11
 have K11 := ks w hS11
 refine Rl.op (OpY.assign (v := (Value.int .i64 r1.2)) rfl ?_)
 refine Rl.nil (Swp.seq (Swp.region rfl ?_))
 obtain ⟨r10, q10, h⟩ := bind_some h
 refine Rl.op (OpY.call en20 rfl rfl (bParse_w N ([45, 48] : List UInt8) _ Any r10 q10) ?_)
 rintro _ w12 hE10 ⟨v10, rfl, k10, -⟩
 replace k10 := k10.mono (Hv.freshO (S := None) hL11 [])
 have hL12 := hL11.ext hE10
 have K12 := ke hL11 hE10
 refine Rl.op (OpY.move (v := (Value.tuple #[(Value.agg #[(Value.bool r10.1.Negative), v10]), (Value.int .i64 r10.2)])) rfl ?_)
 refine Rl.op (OpY.extract (vs := [(Value.agg #[(Value.bool r10.1.Negative), v10]), (Value.int .i64 r10.2)]) (v := (Value.agg #[(Value.bool r10.1.Negative), v10])) rfl rfl ?_)
 refine Rl.op (OpY.extract (vs := [(Value.agg #[(Value.bool r10.1.Negative), v10]), (Value.int .i64 r10.2)]) (v := (Value.int .i64 r10.2)) rfl rfl ?_)
 refine Rl.op (OpY.alloc (cs := [(Value.bool false), (Value.slice none 0 0)]) ti24 rfl hL12 ?_)
 intro b11 w13 hL13 hS12
 have K13 := ks w hS12
 have f11 := (k10.mono (K13 None))
 refine Rl.op0 (OpY.store (vs := [(Value.bool r10.1.Negative), v10]) ti24 rfl rfl rfl rfl (ones_cons rfl (ones_cons f11.one ones_nil)) hL13 0 rfl rfl (Nat.le_of_ble_eq_true rfl) ?_)
 intro w14 (hL14 : Go.X.Loc [] [] w w14 [some b11, some b10] [Cont.cells [(Value.bool r10.1.Negative), v10], Cont.cells [(Value.bool r1.1.Negative), v3]]) hS13
 have K14 := ks w hS13
 refine Rl.op (OpY.assign (v := (Value.int .i64 r10.2)) rfl ?_)
 refine Rl.nil (Swp.seq (Swp.region rfl ?_))
 obtain ⟨r11, q11, h⟩ := bind_some h
 refine Rl.op (OpY.call en20 rfl rfl (bParse_w N ([48, 48, 55] : List UInt8) _ Any r11 q11) ?_)
 rintro _ w15 hE11 ⟨v11, rfl, k11, -⟩
 replace k11 := k11.mono (Hv.freshO (S := None) hL14 [])
 have hL15 := hL14.ext hE11
 have K15 := ke hL14 hE11
 refine Rl.op (OpY.move (v := (Value.tuple #[(Value.agg #[(Value.bool r11.1.Negative), v11]), (Value.int .i64 r11.2)])) rfl ?_)
 refine Rl.op (OpY.extract (vs := [(Value.agg #[(Value.bool r11.1.Negative), v11]), (Value.int .i64 r11.2)]) (v := (Value.agg #[(Value.bool r11.1.Negative), v11])) rfl rfl ?_)
 refine Rl.op (OpY.extract (vs := [(Value.agg #[(Value.bool r11.1.Negative), v11]), (Value.int .i64 r11.2)]) (v := (Value.int .i64 r11.2)) rfl rfl ?_)
 refine Rl.op (OpY.alloc (cs := [(Value.bool false), (Value.slice none 0 0)]) ti24 rfl hL15 ?_)
 intro b12 w16 hL16 hS14
 have K16 := ks w hS14
 have f12 := (k11.mono (K16 None))
 refine Rl.op0 (OpY.store (vs := [(Value.bool r11.1.Negative), v11]) ti24 rfl rfl rfl rfl (ones_cons rfl (ones_cons f12.one ones_nil)) hL16 0 rfl rfl (Nat.le_of_ble_eq_true rfl) ?_)
 intro w17 (hL17 : Go.X.Loc [] [] w w17 [some b12, some b11, some b10] [Cont.cells [(Value.bool r11.1.Negative), v11], Cont.cells [(Value.bool r10.1.Negative), v10], Cont.cells [(Value.bool r1.1.Negative), v3]]) hS15
 have K17 := ks w hS15
 refine Rl.op (OpY.assign (v := (Value.int .i64 r11.2)) rfl ?_)
 refine Rl.nil (Swp.seq (Swp.region rfl ?_))
 obtain ⟨r12, q12, h⟩ := bind_some h
 refine Rl.op (OpY.call en30 rfl rfl (bOf_w N (-7) _ Any r12 q12) ?_)
 rintro _ w18 hE12 ⟨v12, rfl, k12, -⟩
 replace k12 := k12.mono (Hv.freshO (S := None) hL17 [])
 have hL18 := hL17.ext hE12
 have K18 := ke hL17 hE12
 obtain ⟨r13, q13, h⟩ := bind_some h
 refine Rl.op (OpY.call en30 rfl rfl (bOf_w N 2 _ Any r13 q13) ?_)
 rintro _ w19 hE13 ⟨v13, rfl, k13, -⟩
 replace k13 := k13.mono (Hv.freshO (S := None) hL18 [])
 have hL19 := hL18.ext hE13
 have K19 := ke hL18 hE13
 obtain ⟨r14, q14, h⟩ := bind_some h
 have f13 := (k12.mono (K19 None))
 refine Rl.op (OpY.call en15 rfl rfl (bDivFloor_w N r12 r13 v12 v13 _ Any (f13.mono vw_any) (k13.mono vw_any) r14 q14) ?_)
 rintro _ w20 hE14 ⟨v14, v15, rfl, k14, k15, -⟩
 replace k14 := k14.mono (Hv.freshO (S := None) hL19 [])
 replace k15 := k15.mono (Hv.freshO (S := None) hL19 [])
 have hL20 := hL19.ext hE14
 have K20 := ke hL19 hE14
 refine Rl.op (OpY.move (v := (Value.tuple #[(Value.agg #[(Value.bool r14.1.Negative), v14]), (Value.agg #[(Value.bool r14.2.1.Negative), v15]), (Value.bool r14.2.2)])) rfl ?_)
 refine Rl.op (OpY.extract (vs := [(Value.agg #[(Value.bool r14.1.Negative), v14]), (Value.agg #[(Value.bool r14.2.1.Negative), v15]), (Value.bool r14.2.2)]) (v := (Value.agg #[(Value.bool r14.1.Negative), v14])) rfl rfl ?_)
 refine Rl.op (OpY.extract (vs := [(Value.agg #[(Value.bool r14.1.Negative), v14]), (Value.agg #[(Value.bool r14.2.1.Negative), v15]), (Value.bool r14.2.2)]) (v := (Value.agg #[(Value.bool r14.2.1.Negative), v15])) rfl rfl ?_)
 refine Rl.op (OpY.extract (vs := [(Value.agg #[(Value.bool r14.1.Negative), v14]), (Value.agg #[(Value.bool r14.2.1.Negative), v15]), (Value.bool r14.2.2)]) (v := (Value.bool r14.2.2)) rfl rfl ?_)
 refine Rl.op (OpY.alloc (cs := [(Value.bool false), (Value.slice none 0 0)]) ti24 rfl hL20 ?_)
 intro b13 w21 hL21 hS16
 have K21 := ks w hS16
 refine Rl.op (OpY.alloc (cs := [(Value.bool false), (Value.slice none 0 0)]) ti24 rfl hL21 ?_)
 intro b14 w22 hL22 hS17
 have K22 := ks w hS17
 have f14 := ((k14.mono (K21 None)).mono (K22 None))
 refine Rl.op0 (OpY.store (vs := [(Value.bool r14.1.Negative), v14]) ti24 rfl rfl rfl rfl (ones_cons rfl (ones_cons f14.one ones_nil)) hL22 1 rfl rfl (Nat.le_of_ble_eq_true rfl) ?_)
 intro w23 (hL23 : Go.X.Loc [] [] w w23 [some b14, some b13, some b12, some b11, some b10] [Cont.cells [(Value.bool false), (Value.slice none 0 0)], Cont.cells [(Value.bool r14.1.Negative), v14], Cont.cells [(Value.bool r11.1.Negative), v11], Cont.cells [(Value.bool r10.1.Negative), v10], Cont.cells [(Value.bool r1.1.Negative), v3]]) hS18
 have K23 := ks w hS18
 have f15 := (((k15.mono (K21 None)).mono (K22 None)).mono (K23 None))
 refine Rl.op0 (OpY.store (vs := [(Value.bool r14.2.1.Negative), v15]) ti24 rfl rfl rfl rfl (ones_cons rfl (ones_cons f15.one ones_nil)) hL23 0 rfl rfl (Nat.le_of_ble_eq_true rfl) ?_)
 intro w24 (hL24 : Go.X.Loc [] [] w w24 [some b14, some b13, some b12, some b11, some b10] [Cont.cells [(Value.bool r14.2.1.Negative), v15], Cont.cells [(Value.bool r14.1.Negative), v14], Cont.cells [(Value.bool r11.1.Negative), v11], Cont.cells [(Value.bool r10.1.Negative), v10], Cont.cells [(Value.bool r1.1.Negative), v3]]) hS19
 have K24 := ks w hS19
 refine Rl.op (OpY.assign (v := (Value.bool r14.2.2)) rfl ?_)
 refine Rl.nil (Swp.seq (Swp.region rfl ?_))
 obtain ⟨r15, q15, h⟩ := bind_some h
 refine Rl.op (OpY.call en30 rfl rfl (bOf_w N 7 _ Any r15 q15) ?_)
 rintro _ w25 hE15 ⟨v16, rfl, k16, -⟩
 replace k16 := k16.mono (Hv.freshO (S := None) hL24 [])
 have hL25 := hL24.ext hE15
 have K25 := ke hL24 hE15
 obtain ⟨r16, q16, h⟩ := bind_some h
 refine Rl.op (OpY.call en30 rfl rfl (bOf_w N (-2) _ Any r16 q16) ?_)
 rintro _ w26 hE16 ⟨v17, rfl, k17, -⟩
 replace k17 := k17.mono (Hv.freshO (S := None) hL25 [])
 have hL26 := hL25.ext hE16
 have K26 := ke hL25 hE16
 obtain ⟨r17, q17, h⟩ := bind_some h
 have f16 := (k16.mono (K26 None))
 refine Rl.op (OpY.call en15 rfl rfl (bDivFloor_w N r15 r16 v16 v17 _ Any (f16.mono vw_any) (k17.mono vw_any) r17 q17) ?_)
 rintro _ w27 hE17 ⟨v18, v19, rfl, k18, k19, -⟩
 replace k18 := k18.mono (Hv.freshO (S := None) hL26 [])
 replace k19 := k19.mono (Hv.freshO (S := None) hL26 [])
 have hL27 := hL26.ext hE17
 have K27 := ke hL26 hE17
 refine Rl.op (OpY.move (v := (Value.tuple #[(Value.agg #[(Value.bool r17.1.Negative), v18]), (Value.agg #[(Value.bool r17.2.1.Negative), v19]), (Value.bool r17.2.2)])) rfl ?_)
 refine Rl.op (OpY.extract (vs := [(Value.agg #[(Value.bool r17.1.Negative), v18]), (Value.agg #[(Value.bool r17.2.1.Negative), v19]), (Value.bool r17.2.2)]) (v := (Value.agg #[(Value.bool r17.1.Negative), v18])) rfl rfl ?_)
 refine Rl.op (OpY.extract (vs := [(Value.agg #[(Value.bool r17.1.Negative), v18]), (Value.agg #[(Value.bool r17.2.1.Negative), v19]), (Value.bool r17.2.2)]) (v := (Value.agg #[(Value.bool r17.2.1.Negative), v19])) rfl rfl ?_)
 refine Rl.op (OpY.extract (vs := [(Value.agg #[(Value.bool r17.1.Negative), v18]), (Value.agg #[(Value.bool r17.2.1.Negative), v19]), (Value.bool r17.2.2)]) (v := (Value.bool r17.2.2)) rfl rfl ?_)
 refine Rl.op (OpY.alloc (cs := [(Value.bool false), (Value.slice none 0 0)]) ti24 rfl hL27 ?_)
 intro b15 w28 hL28 hS20
 have K28 := ks w hS20
 refine Rl.op (OpY.alloc (cs := [(Value.bool false), (Value.slice none 0 0)]) ti24 rfl hL28 ?_)
 intro b16 w29 hL29 hS21
 have K29 := ks w hS21
 have f17 := ((k18.mono (K28 None)).mono (K29 None))
 refine Rl.op0 (OpY.store (vs := [(Value.bool r17.1.Negative), v18]) ti24 rfl rfl rfl rfl (ones_cons rfl (ones_cons f17.one ones_nil)) hL29 1 rfl rfl (Nat.le_of_ble_eq_true rfl) ?_)
 intro w30 (hL30 : Go.X.Loc [] [] w w30 [some b16, some b15, some b14, some b13, some b12, some b11, some b10] [Cont.cells [(Value.bool false), (Value.slice none 0 0)], Cont.cells [(Value.bool r17.1.Negative), v18], Cont.cells [(Value.bool r14.2.1.Negative), v15], Cont.cells [(Value.bool r14.1.Negative), v14], Cont.cells [(Value.bool r11.1.Negative), v11], Cont.cells [(Value.bool r10.1.Negative), v10], Cont.cells [(Value.bool r1.1.Negative), v3]]) hS22
 have K30 := ks w hS22
 have f18 := (((k19.mono (K28 None)).mono (K29 None)).mono (K30 None))
 refine Rl.op0 (OpY.store (vs := [(Value.bool r17.2.1.Negative), v19]) ti24 rfl rfl rfl rfl (ones_cons rfl (ones_cons f18.one ones_nil)) hL30 0 rfl rfl (Nat.le_of_ble_eq_true rfl) ?_)
 intro w31 (hL31 : Go.X.Loc [] [] w w31 [some b16, some b15, some b14, some b13, some b12, some b11, some b10] [Cont.cells [(Value.bool r17.2.1.Negative), v19], Cont.cells [(Value.bool r17.1.Negative), v18], Cont.cells [(Value.bool r14.2.1.Negative), v15], Cont.cells [(Value.bool r14.1.Negative), v14], Cont.cells [(Value.bool r11.1.Negative), v11], Cont.cells [(Value.bool r10.1.Negative), v10], Cont.cells [(Value.bool r1.1.Negative), v3]]) hS23
 have K31 := ks w hS23
 refine Rl.op (OpY.assign (v := (Value.bool r17.2.2)) rfl ?_)
 refine Rl.nil (Swp.seq (Swp.region rfl ?_))
 obtain ⟨r18, q18, h⟩ := bind_some h
 refine Rl.op (OpY.call en30 rfl rfl (bOf_w N (-12) _ Any r18 q18) ?_)
 rintro _ w32 hE18 ⟨v20, rfl, k20, -⟩
 replace k20 := k20.mono (Hv.freshO (S := None) hL31 [])
 have hL32 := hL31.ext hE18
 have K32 := ke hL31 hE18
 obtain ⟨r19, q19, h⟩ := bind_some h
 refine Rl.op (OpY.call en30 rfl rfl (bOf_w N 18 _ Any r19 q19) ?_)
 rintro _ w33 hE19 ⟨v21, rfl, k21, -⟩
 replace k21 := k21.mono (Hv.freshO (S := None) hL32 [])
 have hL33 := hL32.ext hE19
 have K33 := ke hL32 hE19
 obtain ⟨r20, q20, h⟩ := bind_some h
 have f19 := (k20.mono (K33 None))
 refine Rl.op (OpY.call en26 rfl rfl (bGCD_w N r18 r19 v20 v21 _ Any (f19.mono vw_any) (k21.mono vw_any) r20 q20) ?_)
 rintro _ w34 hE20 ⟨v22, rfl, k22, -⟩
 replace k22 := k22.mono (Hv.freshO (S := None) hL33 [])
 have hL34 := hL33.ext hE20
 have K34 := ke hL33 hE20
 refine Rl.op (OpY.alloc (cs := [(Value.bool false), (Value.slice none 0 0)]) ti24 rfl hL34 ?_)
 intro b17 w35 hL35 hS24
 have K35 := ks w hS24
 have f20 := (k22.mono (K35 None))
 refine Rl.op0 (OpY.store (vs := [(Value.bool r20.Negative), v22]) ti24 rfl rfl rfl rfl (ones_cons rfl (ones_cons f20.one ones_nil)) hL35 0 rfl rfl (Nat.le_of_ble_eq_true rfl) ?_)
 intro w36 (hL36 : Go.X.Loc [] [] w w36 [some b17, some b16, some b15, some b14, some b13, some b12, some b11, some b10] [Cont.cells [(Value.bool r20.Negative), v22], Cont.cells [(Value.bool r17.2.1.Negative), v19], Cont.cells [(Value.bool r17.1.Negative), v18], Cont.cells [(Value.bool r14.2.1.Negative), v15], Cont.cells [(Value.bool r14.1.Negative), v14], Cont.cells [(Value.bool r11.1.Negative), v11], Cont.cells [(Value.bool r10.1.Negative), v10], Cont.cells [(Value.bool r1.1.Negative), v3]]) hS25
 have K36 := ks w hS25
 refine Rl.nil (Swp.seq (Swp.region rfl (Rl.op (OpY.move (v := (Value.int .i64 r1.2)) rfl ?_))))
 refine Rl.op (OpY.eql (x := r1.2) (y := 0) ((r1.2 : Int) = 0) rfl rfl Iff.rfl ?_)
 refine Rl.op (OpY.move (v := (Value.bool (decide ((r1.2 : Int) = 0)))) rfl ?_)
 by_cases hc10 : (r1.2 : Int) = 0
 ·
  replace h := ite_t hc10 h
  refine Rl.yes rfl rfl (decide_eq_true hc10) (OpY.ldBoxA (vs := [(Value.bool r1.1.Negative), v3]) Tryd.underlying24 rfl ti24 rfl (hL36.at 7 rfl rfl) rfl rfl ?_)
  have hE21 : Els (rInt .u32) (Hv w.heap.size None [some b17, some b16, some b15, some b14, some b13, some b12, some b11, some b10] w36) [(Value.int .u32 0), (Value.int .u32 0), (Value.int .u32 1)] [0, 0, 1] := (Els.cons (a := [(Value.int .u32 0)]) rfl (Els.cons (a := [(Value.int .u32 0)]) rfl (Els.cons (a := [(Value.int .u32 1)]) rfl Els.nil)))
  refine Rl.yes rfl rfl (decide_eq_true hc10) (OpY.litRow (r := (rInt .u32)) (vs := [(Value.int .u32 0), (Value.int .u32 0), (Value.int .u32 1)]) (css := [[(Value.int .u32 0)], [(Value.int .u32 0)], [(Value.int .u32 1)]]) (xs := [0, 0, 1]) Tryd.underlying22 ti47 (Nat.le_of_ble_eq_true rfl) rfl rfl ⟨rfl, rfl, ⟨rfl, rfl, ⟨rfl, rfl, trivial⟩⟩⟩ (Nat.le_of_ble_eq_true rfl) hE21 rfl hL36 ?_)
  intro b18 w37 hc11 hL37 hS26
  have K37 := ks w hS26
  refine Rl.yes rfl rfl (decide_eq_true hc10) (OpY.build (zc := [(Value.bool false), (Value.slice none 0 0)]) (cs := [(Value.bool false), (osv (some b18) 0 3 3)]) (is := [1]) (vs := [(osv (some b18) 0 3 3)]) (css := [[(osv (some b18) 0 3 3)]]) pl24 ti24 rfl rfl rfl ⟨(one_cells (osv_one (some b18) 0 3 3)), trivial⟩ rfl ?_)
  obtain ⟨r21, q21, h⟩ := bind_some h
  have f21 := (((((((((((((((((((((((((((f10.mono (K11 None)).mono (K12 None)).mono (K13 None)).mono (K14 None)).mono (K15 None)).mono (K16 None)).mono (K17 None)).mono (K18 None)).mono (K19 None)).mono (K20 None)).mono (K21 None)).mono (K22 None)).mono (K23 None)).mono (K24 None)).mono (K25 None)).mono (K26 None)).mono (K27 None)).mono (K28 None)).mono (K29 None)).mono (K30 None)).mono (K31 None)).mono (K32 None)).mono (K33 None)).mono (K34 None)).mono (K35 None)).mono (K36 None)).mono (K37 None))
  have f22 := (hE21.mono (K37 None))
  refine Rl.yes rfl rfl (decide_eq_true hc10) (OpY.call en18 rfl rfl (rSame_w N r1.1 (Big.mk false [0, 0, 1]) v3 (osv (some b18) 0 3 3) _ Any (f21.mono vw_any) (own_row_any (pre := []) (o := 0) (n := 3) (cap := 3) (hL37.at 0 rfl rfl) f22 vw_any rfl rfl rfl hc11) r21 q21) ?_)
  rintro _ w38 hE22 ⟨rfl, -⟩
  have hL38 := hL37.ext hE22
  have K38 := ke hL37 hE22
  refine Rl.op (OpY.pick_t (t := (decide ((r1.2 : Int) = 0))) (v := (Value.bool r21)) rfl (decide_eq_true hc10) rfl ?_)
  refine Rl.op (OpY.move (v := (Value.bool r21)) rfl ?_)
  by_cases hc12 : r21 = true
  ·
   replace h := ite_t hc12 h
   refine Rl.yes rfl rfl hc12 (OpY.ldBoxA (vs := [(Value.bool r1.1.Negative), v3]) Tryd.underlying24 rfl ti24 rfl (hL38.at 8 rfl rfl) rfl rfl ?_)
   obtain ⟨r22, q22, h⟩ := bind_some h
   have f23 := (f21.mono (K38 None))
   refine Rl.yes rfl rfl hc12 (OpY.call en19 rfl rfl (bFormat_w N r1.1 v3 _ Any (hG.ext hL38.done) (f23.mono vw_any) r22 q22) ?_)
   rintro _ w39 hE23 ⟨rfl, -⟩
   have hL39 := hL38.ext hE23
   have K39 := ke hL38 hE23
   refine Rl.yes rfl rfl hc12 (OpY.sEql (x := r22) (y := awake_lit20) rfl rfl ?_)
   refine Rl.op (OpY.pick_t (t := r21) (v := (Value.bool (decide (r22 = awake_lit20)))) rfl hc12 rfl ?_)
   refine Rl.op (OpY.move (v := (Value.bool (decide (r22 = awake_lit20)))) rfl ?_)
   by_cases hc13 : r22 = awake_lit20
   ·
    replace h := ite_t hc13 h
    refine Rl.yes rfl rfl (decide_eq_true hc13) (OpY.move (v := (Value.int .i64 r10.2)) rfl ?_)
    refine Rl.yes rfl rfl (decide_eq_true hc13) (OpY.eql (x := r10.2) (y := 2) ((r10.2 : Int) = 2) rfl rfl Iff.rfl ?_)
    refine Rl.op (OpY.pick_t (t := (decide (r22 = awake_lit20))) (v := (Value.bool (decide ((r10.2 : Int) = 2)))) rfl (decide_eq_true hc13) rfl ?_)
    refine Rl.op (OpY.move (v := (Value.bool (decide ((r10.2 : Int) = 2)))) rfl ?_)
    by_cases hc14 : (r10.2 : Int) = 2
    ·
     replace h := ite_t hc14 h
     refine Rl.yes rfl rfl (decide_eq_true hc14) (OpY.move (v := (Value.int .i64 r11.2)) rfl ?_)
     refine Rl.yes rfl rfl (decide_eq_true hc14) (OpY.eql (x := r11.2) (y := 2) ((r11.2 : Int) = 2) rfl rfl Iff.rfl ?_)
     refine Rl.op (OpY.pick_t (t := (decide ((r10.2 : Int) = 2))) (v := (Value.bool (decide ((r11.2 : Int) = 2)))) rfl (decide_eq_true hc14) rfl ?_)
     refine Rl.op (OpY.move (v := (Value.bool (decide ((r11.2 : Int) = 2)))) rfl ?_)
     by_cases hc15 : (r11.2 : Int) = 2
     ·
      replace h := ite_t hc15 h
      refine Rl.yes rfl rfl (decide_eq_true hc15) (OpY.move (v := (Value.bool r14.2.2)) rfl ?_)
      refine Rl.op (OpY.pick_t (t := (decide ((r11.2 : Int) = 2))) (v := (Value.bool r14.2.2)) rfl (decide_eq_true hc15) rfl ?_)
      refine Rl.op (OpY.move (v := (Value.bool r14.2.2)) rfl ?_)
      by_cases hc16 : r14.2.2 = true
      ·
       replace h := ite_t hc16 h
       refine Rl.yes rfl rfl hc16 (OpY.move (v := (Value.bool r17.2.2)) rfl ?_)
       refine Rl.op (OpY.pick_t (t := r14.2.2) (v := (Value.bool r17.2.2)) rfl hc16 rfl ?_)
       refine Rl.op (OpY.move (v := (Value.bool r17.2.2)) rfl ?_)
       by_cases hc17 : r17.2.2 = true
       ·
        replace h := ite_t hc17 h
        refine Rl.yes rfl rfl hc17 (OpY.ldBoxA (vs := [(Value.bool r14.1.Negative), v14]) Tryd.underlying24 rfl ti24 rfl (hL39.at 5 rfl rfl) rfl rfl ?_)
        obtain ⟨r23, q23, h⟩ := bind_some h
        have f24 := (((((((((((((((((f14.mono (K23 None)).mono (K24 None)).mono (K25 None)).mono (K26 None)).mono (K27 None)).mono (K28 None)).mono (K29 None)).mono (K30 None)).mono (K31 None)).mono (K32 None)).mono (K33 None)).mono (K34 None)).mono (K35 None)).mono (K36 None)).mono (K37 None)).mono (K38 None)).mono (K39 None))
        refine Rl.yes rfl rfl hc17 (OpY.call en19 rfl rfl (bFormat_w N r14.1 v14 _ Any (hG.ext hL39.done) (f24.mono vw_any) r23 q23) ?_)
        rintro _ w40 hE24 ⟨rfl, -⟩
        have hL40 := hL39.ext hE24
        have K40 := ke hL39 hE24
        refine Rl.yes rfl rfl hc17 (OpY.sEql (x := r23) (y := ([45, 52] : List UInt8)) rfl rfl ?_)
        refine Rl.op (OpY.pick_t (t := r17.2.2) (v := (Value.bool (decide (r23 = ([45, 52] : List UInt8))))) rfl hc17 rfl ?_)
        refine Rl.op (OpY.move (v := (Value.bool (decide (r23 = ([45, 52] : List UInt8))))) rfl ?_)
        by_cases hc18 : r23 = ([45, 52] : List UInt8)
        ·
         replace h := ite_t hc18 h
         refine Rl.yes rfl rfl (decide_eq_true hc18) (OpY.ldBoxA (vs := [(Value.bool r14.2.1.Negative), v15]) Tryd.underlying24 rfl ti24 rfl (hL40.at 4 rfl rfl) rfl rfl ?_)
         obtain ⟨r24, q24, h⟩ := bind_some h
         have f25 := (((((((((((((((((f15.mono (K24 None)).mono (K25 None)).mono (K26 None)).mono (K27 None)).mono (K28 None)).mono (K29 None)).mono (K30 None)).mono (K31 None)).mono (K32 None)).mono (K33 None)).mono (K34 None)).mono (K35 None)).mono (K36 None)).mono (K37 None)).mono (K38 None)).mono (K39 None)).mono (K40 None))
         refine Rl.yes rfl rfl (decide_eq_true hc18) (OpY.call en19 rfl rfl (bFormat_w N r14.2.1 v15 _ Any (hG.ext hL40.done) (f25.mono vw_any) r24 q24) ?_)
         rintro _ w41 hE25 ⟨rfl, -⟩
         have hL41 := hL40.ext hE25
         have K41 := ke hL40 hE25
         refine Rl.yes rfl rfl (decide_eq_true hc18) (OpY.sEql (x := r24) (y := ([49] : List UInt8)) rfl rfl ?_)
         refine Rl.op (OpY.pick_t (t := (decide (r23 = ([45, 52] : List UInt8)))) (v := (Value.bool (decide (r24 = ([49] : List UInt8))))) rfl (decide_eq_true hc18) rfl ?_)
         refine Rl.op (OpY.move (v := (Value.bool (decide (r24 = ([49] : List UInt8))))) rfl ?_)
         by_cases hc19 : r24 = ([49] : List UInt8)
         ·
          replace h := ite_t hc19 h
          refine Rl.yes rfl rfl (decide_eq_true hc19) (OpY.ldBoxA (vs := [(Value.bool r17.1.Negative), v18]) Tryd.underlying24 rfl ti24 rfl (hL41.at 3 rfl rfl) rfl rfl ?_)
          obtain ⟨r25, q25, h⟩ := bind_some h
          have f26 := ((((((((((((f17.mono (K30 None)).mono (K31 None)).mono (K32 None)).mono (K33 None)).mono (K34 None)).mono (K35 None)).mono (K36 None)).mono (K37 None)).mono (K38 None)).mono (K39 None)).mono (K40 None)).mono (K41 None))
          refine Rl.yes rfl rfl (decide_eq_true hc19) (OpY.call en19 rfl rfl (bFormat_w N r17.1 v18 _ Any (hG.ext hL41.done) (f26.mono vw_any) r25 q25) ?_)
          rintro _ w42 hE26 ⟨rfl, -⟩
          have hL42 := hL41.ext hE26
          have K42 := ke hL41 hE26
          refine Rl.yes rfl rfl (decide_eq_true hc19) (OpY.sEql (x := r25) (y := ([45, 52] : List UInt8)) rfl rfl ?_)
          refine Rl.op (OpY.pick_t (t := (decide (r24 = ([49] : List UInt8)))) (v := (Value.bool (decide (r25 = ([45, 52] : List UInt8))))) rfl (decide_eq_true hc19) rfl ?_)
          refine Rl.op (OpY.move (v := (Value.bool (decide (r25 = ([45, 52] : List UInt8))))) rfl ?_)
          by_cases hc20 : r25 = ([45, 52] : List UInt8)
          ·
           replace h := ite_t hc20 h
           refine Rl.yes rfl rfl (decide_eq_true hc20) (OpY.ldBoxA (vs := [(Value.bool r17.2.1.Negative), v19]) Tryd.underlying24 rfl ti24 rfl (hL42.at 2 rfl rfl) rfl rfl ?_)
           obtain ⟨r26, q26, h⟩ := bind_some h
           have f27 := ((((((((((((f18.mono (K31 None)).mono (K32 None)).mono (K33 None)).mono (K34 None)).mono (K35 None)).mono (K36 None)).mono (K37 None)).mono (K38 None)).mono (K39 None)).mono (K40 None)).mono (K41 None)).mono (K42 None))
           refine Rl.yes rfl rfl (decide_eq_true hc20) (OpY.call en19 rfl rfl (bFormat_w N r17.2.1 v19 _ Any (hG.ext hL42.done) (f27.mono vw_any) r26 q26) ?_)
           rintro _ w43 hE27 ⟨rfl, -⟩
           have hL43 := hL42.ext hE27
           have K43 := ke hL42 hE27
           refine Rl.yes rfl rfl (decide_eq_true hc20) (OpY.sEql (x := r26) (y := ([45, 49] : List UInt8)) rfl rfl ?_)
           refine Rl.op (OpY.pick_t (t := (decide (r25 = ([45, 52] : List UInt8)))) (v := (Value.bool (decide (r26 = ([45, 49] : List UInt8))))) rfl (decide_eq_true hc20) rfl ?_)
           refine Rl.op (OpY.move (v := (Value.bool (decide (r26 = ([45, 49] : List UInt8))))) rfl ?_)
           by_cases hc21 : r26 = ([45, 49] : List UInt8)
           ·
            replace h := ite_t hc21 h
            refine Rl.yes rfl rfl (decide_eq_true hc21) (OpY.ldBoxA (vs := [(Value.bool r20.Negative), v22]) Tryd.underlying24 rfl ti24 rfl (hL43.at 1 rfl rfl) rfl rfl ?_)
            obtain ⟨r27, q27, h⟩ := bind_some h
            have f28 := ((((((((f20.mono (K36 None)).mono (K37 None)).mono (K38 None)).mono (K39 None)).mono (K40 None)).mono (K41 None)).mono (K42 None)).mono (K43 None))
            refine Rl.yes rfl rfl (decide_eq_true hc21) (OpY.call en19 rfl rfl (bFormat_w N r20 v22 _ Any (hG.ext hL43.done) (f28.mono vw_any) r27 q27) ?_)
            rintro _ w44 hE28 ⟨rfl, -⟩
            have hL44 := hL43.ext hE28
            refine Rl.yes rfl rfl (decide_eq_true hc21) (OpY.sEql (x := r27) (y := ([54] : List UInt8)) rfl rfl ?_)
            refine Rl.op (OpY.pick_t (t := (decide (r26 = ([45, 49] : List UInt8)))) (v := (Value.bool (decide (r27 = ([54] : List UInt8))))) rfl (decide_eq_true hc21) rfl ?_)
            refine Rl.op (OpY.assign (v := (Value.bool (decide (r27 = ([54] : List UInt8))))) rfl ?_)
            refine Rl.nil (Swp.ret ?_)
            obtain rfl := Option.some.inj h
            refine ⟨[(Value.bool (decide (r27 = ([54] : List UInt8))))], ⟨rfl, trivial⟩, ⟨_, rfl, hL44.done, ?_⟩⟩
            exact ⟨rfl, trivial⟩
           ·
            exact absurd ((Option.some.inj (ite_f hc21 h)).trans hr) Bool.false_ne_true
          ·
           exact absurd ((Option.some.inj (ite_f hc20 h)).trans hr) Bool.false_ne_true
         ·
          exact absurd ((Option.some.inj (ite_f hc19 h)).trans hr) Bool.false_ne_true
        ·
         exact absurd ((Option.some.inj (ite_f hc18 h)).trans hr) Bool.false_ne_true
       ·
        exact absurd ((Option.some.inj (ite_f hc17 h)).trans hr) Bool.false_ne_true
      ·
       exact absurd ((Option.some.inj (ite_f hc16 h)).trans hr) Bool.false_ne_true
     ·
      exact absurd ((Option.some.inj (ite_f hc15 h)).trans hr) Bool.false_ne_true
    ·
     exact absurd ((Option.some.inj (ite_f hc14 h)).trans hr) Bool.false_ne_true
   ·
    exact absurd ((Option.some.inj (ite_f hc13 h)).trans hr) Bool.false_ne_true
  ·
   exact absurd ((Option.some.inj (ite_f hc12 h)).trans hr) Bool.false_ne_true
 ·
  exact absurd ((Option.some.inj (ite_f hc10 h)).trans hr) Bool.false_ne_true
theorem awake_w (N : Nat) (w : World) (S : Nat → Prop) (hG : G w) (r : Bool) (h : awake N = some r) :
  Calls Tryd.prog 13 #[] w (Ret w (fun v w' => (Value.bool r) = v ∧ True)) := awake_w0 N w S hG r h (awake_true h)
theorem lawMemory_w (N : Nat) (a : Big) (b : Big) (a_v : Value) (b_v : Value) (w : World) (S : Nat → Prop) (hG : G w) (a_h : Rs (rInt .u32) (Hv w.heap.size S [] w) a_v a.Digits) (b_h : Rs (rInt .u32) (Hv w.heap.size S [] w) b_v b.Digits) (r : Bool) (h : lawMemory N a b = some r) :
  Calls Tryd.prog 11 #[(Value.agg #[(Value.bool a.Negative), a_v]), (Value.agg #[(Value.bool b.Negative), b_v])] w (Ret w (fun v w' => (Value.bool r) = v ∧ True)) := by
 unfold lawMemory at h
 have hL : Go.X.Loc [] [] w w [] [] := Go.X.Loc.begin0 w
 refine calls_of (l := [(Value.agg #[(Value.bool a.Negative), a_v]), (Value.agg #[(Value.bool b.Negative), b_v])]) (rl := [.tmp 4]) (n := 75) Tryd.func11 rfl rfl rfl (Nat.le_of_ble_eq_true rfl) ?_
 refine Swp.seq (Swp.region rfl (Rl.op (OpY.box (cs := [(Value.bool a.Negative), a_v]) rfl rfl hL ?_)))
 intro b1 w2 hL3 hS5
 have K4 := ks w hS5
 refine Rl.op (OpY.box (cs := [(Value.bool b.Negative), b_v]) rfl rfl hL3 ?_)
 intro b6 w7 hL8 hS10
 have K9 := ks w hS10
 refine Rl.op (OpY.assign (v := (Value.bool false)) rfl ?_)
 refine Rl.nil (Swp.seq (Swp.seq ?_))
 obtain ⟨s10, h, g10⟩ := bind_some h
 refine Swp.join (fun e w' => ∃ (x10 : Bool) (u : Env), x10 = s10 ∧ e = upds [(2, (Value.pointer (some ⟨b1, 0, none⟩))), (3, (Value.pointer (some ⟨b6, 0, none⟩))), (20, (Value.bool x10))] u ∧ Go.X.Loc [] [] w w' [some b1, some b6] [Cont.cells [(Value.bool a.Negative), a_v], Cont.cells [(Value.bool b.Negative), b_v]] ∧ Keep w.heap.size [some b6, some b1] w7 [some b1, some b6] w' ∧ True) ?_ ?_
 ·
  refine Swp.region rfl ?_
  obtain ⟨r10, q10, h⟩ := bind_some h
  refine Rl.op (OpY.call en13 rfl rfl (awake_w N _ Any (hG.ext hL8.done) r10 q10) ?_)
  rintro _ w10 hE10 ⟨rfl, -⟩
  have hL10 := hL8.ext hE10
  have K10 := ke hL8 hE10
  refine Rl.op (OpY.not (x := r10) rfl ?_)
  refine Rl.op (OpY.move (v := (Value.bool (!r10))) rfl ?_)
  by_cases hc10 : (!r10) = true
  ·
   replace h := ite_t hc10 h
   refine Rl.no rfl rfl hc10 ?_
   refine Rl.no rfl rfl hc10 ?_
   refine Rl.no rfl rfl hc10 ?_
   refine Rl.no rfl rfl hc10 ?_
   refine Rl.no rfl rfl hc10 ?_
   refine Rl.op (OpY.pick_t (t := (!r10)) (v := (Value.bool true)) rfl hc10 rfl ?_)
   refine Rl.nil ?_
   have hp10 := hL10.pick [1, 0] rfl rfl rfl
   have hL11 : Go.X.Loc [] [] w w10 [some b1, some b6] [Cont.cells [(Value.bool a.Negative), a_v], Cont.cells [(Value.bool b.Negative), b_v]] := hp10.1
   have K11 := ks w hp10.2
   obtain rfl := Option.some.inj h
   refine Swp.pop_back ?_
   exact ⟨true, _, rfl, (upds_sym ⟨rfl, rfl, rfl, trivial⟩), hL11, (Keep.trans K10 K11), trivial⟩
  ·
   replace h := ite_f hc10 h
   refine Rl.yes rfl rfl (eq_false_of_ne_true hc10) (OpY.ldBoxA (vs := [(Value.bool a.Negative), a_v]) Tryd.underlying24 rfl ti24 rfl (hL10.at 1 rfl rfl) rfl rfl ?_)
   refine Rl.yes rfl rfl (eq_false_of_ne_true hc10) (OpY.ldBoxA (vs := [(Value.bool b.Negative), b_v]) Tryd.underlying24 rfl ti24 rfl (hL10.at 0 rfl rfl) rfl rfl ?_)
   have f10 := (((b_h.mono (K4 S)).mono (K9 S)).mono (K10 S))
   have f11 := (((a_h.mono (K4 S)).mono (K9 S)).mono (K10 S))
   have hE11 : Els rBig (Hv w.heap.size S [some b6, some b1] w10) [(Value.bool a.Negative), a_v, (Value.bool b.Negative), b_v] [a, b] := (Els.cons (a := [(Value.bool a.Negative), a_v]) (rBig_close ⟨a_v, rfl, f11, trivial⟩) (Els.cons (a := [(Value.bool b.Negative), b_v]) (rBig_close ⟨b_v, rfl, f10, trivial⟩) Els.nil))
   refine Rl.yes rfl rfl (eq_false_of_ne_true hc10) (OpY.litRow (r := rBig) (vs := [(Value.agg #[(Value.bool a.Negative), a_v]), (Value.agg #[(Value.bool b.Negative), b_v])]) (css := [[(Value.bool a.Negative), a_v], [(Value.bool b.Negative), b_v]]) (xs := [a, b]) Tryd.underlying45 ti24 (Nat.le_of_ble_eq_true rfl) rfl rfl ⟨rfl, rfl, ⟨rfl, rfl, trivial⟩⟩ (Nat.le_of_ble_eq_true rfl) hE11 rfl hL10 ?_)
   intro b10 w11 hc11 hL12 hS11
   have K12 := ks w hS11
   obtain ⟨r11, q11, h⟩ := bind_some h
   have f12 := (hE11.mono (K12 S))
   refine Rl.yes rfl rfl (eq_false_of_ne_true hc10) (OpY.call en14 rfl rfl (lsmall_w N [a, b] (osv (some b10) 0 2 2) _ Any (own_row_any (pre := []) (o := 0) (n := 2) (cap := 2) (hL12.at 0 rfl rfl) f12 vw_any rfl rfl rfl hc11) r11 q11) ?_)
   rintro _ w12 hE12 ⟨rfl, -⟩
   have hL13 := hL12.ext hE12
   have K13 := ke hL12 hE12
   refine Rl.yes rfl rfl (eq_false_of_ne_true hc10) (OpY.not (x := r11) rfl ?_)
   refine Rl.op (OpY.pick_f (t := (!r10)) (v := (Value.bool (!r11))) rfl (eq_false_of_ne_true hc10) rfl ?_)
   refine Rl.nil ?_
   have hp11 := hL13.pick [2, 1] rfl rfl rfl
   have hL14 : Go.X.Loc [] [] w w12 [some b1, some b6] [Cont.cells [(Value.bool a.Negative), a_v], Cont.cells [(Value.bool b.Negative), b_v]] := hp11.1
   have K14 := ks w hp11.2
   obtain rfl := Option.some.inj h
   refine Swp.pop_back ?_
   exact ⟨(!r11), _, rfl, (upds_sym ⟨rfl, rfl, rfl, trivial⟩), hL14, (Keep.trans (Keep.trans (Keep.trans K10 K12) K13) K14), trivial⟩
 ·
  rintro _ w13 ⟨x10, u, rfl, rfl, hL15, K15, -⟩
  replace h := g10
  try dsimp only at h
  refine Swp.cond_b x10 rfl (fun hc12 => ?_) (fun hc12 => ?_)
  ·
   replace h := ite_t hc12 h
   refine Swp.seq (Swp.region rfl ?_)
   obtain ⟨r12, q12, h⟩ := bind_some h
   refine Rl.op (OpY.call en13 rfl rfl (awake_w N _ Any (hG.ext hL15.done) r12 q12) ?_)
   rintro _ w14 hE13 ⟨rfl, -⟩
   have hL16 := hL15.ext hE13
   refine Rl.op (OpY.assign (v := (Value.bool r12)) rfl ?_)
   refine Rl.nil (Swp.ret ?_)
   obtain rfl := Option.some.inj h
   refine ⟨[(Value.bool r12)], ⟨rfl, trivial⟩, ⟨_, rfl, hL16.done, ?_⟩⟩
   exact ⟨rfl, trivial⟩
  ·
   replace h := ite_f hc12 h
   refine Swp.skip (Swp.seq ?_)
   obtain ⟨r13, q13, h⟩ := bind_some h
   obtain ⟨r14, q14, h⟩ := bind_some h
   refine Swp.drawL 6 [] [] (fun W1 => [.det (Value.agg #[(Value.bool a.Negative), a_v]), .rel (fun v Z w' => ∃ v10, (Value.agg #[(Value.bool r13.Negative), v10]) = v ∧ Rs (rInt .u32) (Zv W1 w.heap.size None [some b1, some b6] Z w') v10 r13.Digits ∧ True) (fun _ => []), .det (Value.agg #[(Value.bool b.Negative), b_v]), .rel (fun v Z w' => ∃ v11, (Value.agg #[(Value.bool r14.Negative), v11]) = v ∧ Rs (rInt .u32) (Zv W1 w.heap.size None [some b1, some b6] Z w') v11 r14.Digits ∧ True) (fun _ => []), .rel (fun v Z w' => ∃ b11, (Value.pointer (some ⟨b11, 0, none⟩)) = v ∧ OwnC w' (some b11) (Cont.cells [(Value.bool false), (Value.slice none 0 0)]) ∧ True) footV, .rel (fun v Z w' => ∃ b12, (Value.pointer (some ⟨b12, 0, none⟩)) = v ∧ OwnC w' (some b12) (Cont.cells [(Value.bool false), (Value.slice none 0 0)]) ∧ True) footV]) mixed rfl rfl rfl (fun _ => rfl) (fun _ => rfl) ?_ ?_
   ·
    intro W1 _
    exact ⟨fun v Z Z' w w' hΦ hz _ _ hs => by obtain ⟨v10, rfl, k10, -⟩ := hΦ; exact ⟨v10, rfl, (k10.mono (Zv.stay hz hs)), trivial⟩, ⟨fun v Z Z' w w' hΦ hz _ _ hs => by obtain ⟨v11, rfl, k11, -⟩ := hΦ; exact ⟨v11, rfl, (k11.mono (Zv.stay hz hs)), trivial⟩, ⟨fun v Z Z' w w' hΦ hz _ _ hs => by obtain ⟨b11, rfl, hO10, -⟩ := hΦ; exact ⟨b11, rfl, (hO10.stay (fun b hb => by cases hb; exact List.mem_cons_self) hs), trivial⟩, ⟨fun v Z Z' w w' hΦ hz _ _ hs => by obtain ⟨b12, rfl, hO11, -⟩ := hΦ; exact ⟨b12, rfl, (hO11.stay (fun b hb => by cases hb; exact List.mem_cons_self) hs), trivial⟩, trivial⟩⟩⟩⟩
   ·
    intro w15 hE14
    have hL17 := hL15.ext hE14
    have K16 := ke hL15 hE14
    refine DrH.de (fun _ hE15 => GOp.op (OpY.ldBoxA (vs := [(Value.bool a.Negative), a_v]) Tryd.underlying24 rfl ti24 rfl ((hL17.ext hE15).at 0 rfl rfl) rfl rfl (er rfl))) ?_
    refine DrH.rel ?_ ?_
    ·
     rintro w17 Z15 hE16 hZ11 ⟨-⟩
     have K17 := ke hL17 hE16
     refine GOp.op (OpY.call en16 rfl rfl (lcp_w N a a_v _ Any ((((((a_h.mono (K4 S)).mono (K9 S)).mono (K15 S)).mono (K16 S)).mono (K17 S)).mono vw_any) r13 q13) ?_)
     rintro _ w18 hE17 ⟨v10, rfl, k10, -⟩
     exact Made.ext hE17 hZ11 NewOwn.nil (fun _ h => h) ⟨v10, rfl, (k10.mono Zv.made), trivial⟩
    intro z1
    refine DrH.de (fun _ hE18 => GOp.op (OpY.ldBoxA (vs := [(Value.bool b.Negative), b_v]) Tryd.underlying24 rfl ti24 rfl ((hL17.ext hE18).at 1 rfl rfl) rfl rfl (er rfl))) ?_
    refine DrH.rel ?_ ?_
    ·
     rintro w20 Z17 hE19 hZ13 ⟨⟨⟨v10, rfl, k10, -⟩, hB1⟩, -⟩
     have K18 := ke hL17 hE19
     refine GOp.op (OpY.call en16 rfl rfl (lcp_w N b b_v _ Any ((((((b_h.mono (K4 S)).mono (K9 S)).mono (K15 S)).mono (K16 S)).mono (K18 S)).mono vw_any) r14 q14) ?_)
     rintro _ w21 hE20 ⟨v11, rfl, k11, -⟩
     exact Made.ext hE20 hZ13 NewOwn.nil (fun _ h => h) ⟨v11, rfl, (k11.mono Zv.made), trivial⟩
    intro z3
    refine DrH.rel ?_ ?_
    ·
     rintro w22 Z18 hE21 hZ14 ⟨-, -, -⟩
     refine GOp.op (OpY.alloc (cs := [(Value.bool false), (Value.slice none 0 0)]) ti24 rfl (Go.X.Loc.begin0 w22) ?_)
     intro b11 w23 hL20 hS12
     have hN10 : NewOwn w22 w23 [some b11] [Cont.cells [(Value.bool false), (Value.slice none 0 0)]] := hL20.newOwn [0] rfl rfl rfl
     exact Made.ext hL20.done hZ14 hN10 (fun _ h => h) ⟨b11, rfl, hN10.2.2.1, trivial⟩
    intro z4
    refine DrH.rel ?_ ?_
    ·
     rintro w24 Z19 hE22 hZ15 ⟨-, -, -, -⟩
     refine GOp.op (OpY.alloc (cs := [(Value.bool false), (Value.slice none 0 0)]) ti24 rfl (Go.X.Loc.begin0 w24) ?_)
     intro b12 w25 hL21 hS13
     have hN11 : NewOwn w24 w25 [some b12] [Cont.cells [(Value.bool false), (Value.slice none 0 0)]] := hL21.newOwn [0] rfl rfl rfl
     exact Made.ext hL21.done hZ15 hN11 (fun _ h => h) ⟨b12, rfl, hN11.2.2.1, trivial⟩
    intro z5
    refine DrH.fin0 ?_
    rintro w26 Z20 hE23 hZ16 ⟨⟨⟨b12, rfl, hO11, -⟩, hB5⟩, ⟨⟨b11, rfl, hO10, -⟩, hB4⟩, ⟨⟨v11, rfl, k11, -⟩, hB3⟩, ⟨⟨v10, rfl, k10, -⟩, hB1⟩, -⟩ ap10
    have hB10 : ∀ b, some b ∈ ([some b12, some b11] : List (Option Nat)) → w15.heap.size ≤ b ∧ ¬ Z20 b := by
     intro b hb
     rcases List.mem_cons.1 hb with hb' | hb
     ·
      have := hB5 b (by rw [hb']; exact List.mem_cons_self); exact ⟨this.1, this.2.2⟩
     rcases List.mem_cons.1 hb with hb' | hb
     ·
      have := hB4 b (by rw [hb']; exact List.mem_cons_self); exact ⟨this.1, this.2.2⟩
     cases hb
    replace k11 := k11.mono (Zv.fin hL17 hZ16 hB10)
    replace k10 := k10.mono (Zv.fin hL17 hZ16 hB10)
    have hN12 : NewOwn w15 w26 [some b12, some b11] [Cont.cells [(Value.bool false), (Value.slice none 0 0)], Cont.cells [(Value.bool false), (Value.slice none 0 0)]] := (NewOwn.cons (NewOwn.cons NewOwn.nil hO10 (fun b hb => (hB10 b (by rw [← hb]; simp)).1) (fun b _ hb => by cases hb)) hO11 (fun b hb => (hB10 b (by rw [← hb]; simp)).1) (fun b hb hm => (List.mem_cons.1 hm).elim (fun e => apE (ap10.1) rfl rfl b (hb) ((by rw [e]; exact List.mem_cons_self))) (fun hm => by cases hm)))
    have hp12 := hL17.adoptL hE23 hN12
    have hL22 := hp12.1
    have K19 := ks w hp12.2
    refine Rl.op0 (OpY.store (vs := [(Value.bool r13.Negative), v10]) ti24 rfl rfl rfl rfl (ones_cons rfl (ones_cons k10.one ones_nil)) hL22 1 rfl rfl (Nat.le_of_ble_eq_true rfl) ?_)
    intro w27 (hL23 : Go.X.Loc [] [] w w27 [some b12, some b11, some b1, some b6] [Cont.cells [(Value.bool false), (Value.slice none 0 0)], Cont.cells [(Value.bool r13.Negative), v10], Cont.cells [(Value.bool a.Negative), a_v], Cont.cells [(Value.bool b.Negative), b_v]]) hS14
    have K20 := ks w hS14
    have f13 := (k11.mono (K20 None))
    refine Rl.op0 (OpY.store (vs := [(Value.bool r14.Negative), v11]) ti24 rfl rfl rfl rfl (ones_cons rfl (ones_cons f13.one ones_nil)) hL23 0 rfl rfl (Nat.le_of_ble_eq_true rfl) ?_)
    intro w28 (hL24 : Go.X.Loc [] [] w w28 [some b12, some b11, some b1, some b6] [Cont.cells [(Value.bool r14.Negative), v11], Cont.cells [(Value.bool r13.Negative), v10], Cont.cells [(Value.bool a.Negative), a_v], Cont.cells [(Value.bool b.Negative), b_v]]) hS15
    have K21 := ks w hS15
    refine Rl.nil (Swp.seq (Swp.region rfl (Rl.op (OpY.ldBoxA (vs := [(Value.bool r13.Negative), v10]) Tryd.underlying24 rfl ti24 rfl (hL24.at 1 rfl rfl) rfl rfl ?_))))
    refine Rl.op (OpY.ldBoxA (vs := [(Value.bool r14.Negative), v11]) Tryd.underlying24 rfl ti24 rfl (hL24.at 0 rfl rfl) rfl rfl ?_)
    obtain ⟨r15, q15, h⟩ := bind_some h
    have f14 := ((k10.mono (K20 None)).mono (K21 None))
    have f15 := (f13.mono (K21 None))
    refine Rl.op (OpY.call en15 rfl rfl (bDivFloorO_w N r13 r14 v10 v11 _ Any (f14.mono vw_any) (f15.mono vw_any) r15 q15) ?_)
    rintro _ w29 hE24 ⟨ob10, cap10, cs10, sp10, ob11, cap11, cs11, sp11, rfl, hN13, hE25, hc13, hE26, hc14, -⟩
    replace hE25 := hE25.mono (Hv.freshO (S := None) hL24 [ob10, ob11])
    replace hE26 := hE26.mono (Hv.freshO (S := None) hL24 [ob10, ob11])
    have hp13 := hL24.adoptL hE24 hN13
    have hL25 := hp13.1
    have K22 := ks w hp13.2
    refine Rl.op (OpY.move (v := (Value.tuple #[(Value.agg #[(Value.bool r15.1.Negative), (osv ob10 0 (List.length r15.1.Digits) cap10)]), (Value.agg #[(Value.bool r15.2.1.Negative), (osv ob11 0 (List.length r15.2.1.Digits) cap11)]), (Value.bool r15.2.2)])) rfl ?_)
    refine Rl.op (OpY.extract (vs := [(Value.agg #[(Value.bool r15.1.Negative), (osv ob10 0 (List.length r15.1.Digits) cap10)]), (Value.agg #[(Value.bool r15.2.1.Negative), (osv ob11 0 (List.length r15.2.1.Digits) cap11)]), (Value.bool r15.2.2)]) (v := (Value.agg #[(Value.bool r15.1.Negative), (osv ob10 0 (List.length r15.1.Digits) cap10)])) rfl rfl ?_)
    refine Rl.op (OpY.extract (vs := [(Value.agg #[(Value.bool r15.1.Negative), (osv ob10 0 (List.length r15.1.Digits) cap10)]), (Value.agg #[(Value.bool r15.2.1.Negative), (osv ob11 0 (List.length r15.2.1.Digits) cap11)]), (Value.bool r15.2.2)]) (v := (Value.agg #[(Value.bool r15.2.1.Negative), (osv ob11 0 (List.length r15.2.1.Digits) cap11)])) rfl rfl ?_)
    refine Rl.op (OpY.extract (vs := [(Value.agg #[(Value.bool r15.1.Negative), (osv ob10 0 (List.length r15.1.Digits) cap10)]), (Value.agg #[(Value.bool r15.2.1.Negative), (osv ob11 0 (List.length r15.2.1.Digits) cap11)]), (Value.bool r15.2.2)]) (v := (Value.bool r15.2.2)) rfl rfl ?_)
    refine Rl.op (OpY.alloc (cs := [(Value.bool false), (Value.slice none 0 0)]) ti24 rfl hL25 ?_)
    intro b13 w30 hL26 hS16
    have K23 := ks w hS16
    refine Rl.op (OpY.alloc (cs := [(Value.bool false), (Value.slice none 0 0)]) ti24 rfl hL26 ?_)
    intro b14 w31 hL27 hS17
    have K24 := ks w hS17
    refine Rl.op0 (OpY.store (vs := [(Value.bool r15.1.Negative), (osv ob10 0 (List.length r15.1.Digits) cap10)]) ti24 rfl rfl rfl rfl (ones_cons rfl (ones_cons (osv_one ob10 0 (List.length r15.1.Digits) cap10) ones_nil)) hL27 1 rfl rfl (Nat.le_of_ble_eq_true rfl) ?_)
    intro w32 (hL28 : Go.X.Loc [] [] w w32 [some b14, some b13, ob10, ob11, some b12, some b11, some b1, some b6] [Cont.cells [(Value.bool false), (Value.slice none 0 0)], Cont.cells [(Value.bool r15.1.Negative), (osv ob10 0 (List.length r15.1.Digits) cap10)], Cont.cells ([] ++ (cs10 ++ sp10)), Cont.cells ([] ++ (cs11 ++ sp11)), Cont.cells [(Value.bool r14.Negative), v11], Cont.cells [(Value.bool r13.Negative), v10], Cont.cells [(Value.bool a.Negative), a_v], Cont.cells [(Value.bool b.Negative), b_v]]) hS18
    have K25 := ks w hS18
    refine Rl.op0 (OpY.store (vs := [(Value.bool r15.2.1.Negative), (osv ob11 0 (List.length r15.2.1.Digits) cap11)]) ti24 rfl rfl rfl rfl (ones_cons rfl (ones_cons (osv_one ob11 0 (List.length r15.2.1.Digits) cap11) ones_nil)) hL28 0 rfl rfl (Nat.le_of_ble_eq_true rfl) ?_)
    intro w33 (hL29 : Go.X.Loc [] [] w w33 [some b14, some b13, ob10, ob11, some b12, some b11, some b1, some b6] [Cont.cells [(Value.bool r15.2.1.Negative), (osv ob11 0 (List.length r15.2.1.Digits) cap11)], Cont.cells [(Value.bool r15.1.Negative), (osv ob10 0 (List.length r15.1.Digits) cap10)], Cont.cells ([] ++ (cs10 ++ sp10)), Cont.cells ([] ++ (cs11 ++ sp11)), Cont.cells [(Value.bool r14.Negative), v11], Cont.cells [(Value.bool r13.Negative), v10], Cont.cells [(Value.bool a.Negative), a_v], Cont.cells [(Value.bool b.Negative), b_v]]) hS19
    have K26 := ks w hS19
    refine Rl.op (OpY.assign (v := (Value.bool r15.2.2)) rfl ?_)
    refine Rl.nil (Swp.seq (Swp.seq ?_))
    refine Swp.drawP [1, 3, 6, 9, 12, 15, 18, 19] [0, 2, 4, 5, 7, 8, 10, 11, 13, 14, 16, 17, 20] [(33, (Value.agg #[(Value.bool r13.Negative), v10])), (35, (Value.agg #[(Value.bool r13.Negative), v10])), (37, (Value.agg #[(Value.bool r13.Negative), v10])), (38, (Value.agg #[(Value.bool r14.Negative), v11])), (40, (Value.agg #[(Value.bool r13.Negative), v10])), (41, (Value.agg #[(Value.bool r14.Negative), v11])), (43, (Value.agg #[(Value.bool r13.Negative), v10])), (44, (Value.agg #[(Value.bool r14.Negative), v11])), (46, (Value.agg #[(Value.bool r13.Negative), v10])), (47, (Value.agg #[(Value.bool r14.Negative), v11])), (49, (Value.agg #[(Value.bool r15.1.Negative), (osv ob10 0 (List.length r15.1.Digits) cap10)])), (50, (Value.agg #[(Value.bool r15.2.1.Negative), (osv ob11 0 (List.length r15.2.1.Digits) cap11)])), (53, (Value.int .i64 0))] mixed rfl rfl rfl rfl ?_
    intro w34 hE27
    have hL30 := hL29.ext hE27
    have K27 := ke hL29 hE27
    refine ⟨?_, ?_⟩
    ·
     refine LateP.cons (i := 0) rfl rfl (GOp.op (OpY.ldBoxA (vs := [(Value.bool r13.Negative), v10]) Tryd.underlying24 rfl ti24 rfl (hL30.at 5 rfl rfl) rfl rfl ⟨rfl, rfl⟩)) ?_
     refine LateP.cons (i := 2) rfl rfl (GOp.op (OpY.ldBoxA (vs := [(Value.bool r13.Negative), v10]) Tryd.underlying24 rfl ti24 rfl (hL30.at 5 rfl rfl) rfl rfl ⟨rfl, rfl⟩)) ?_
     refine LateP.cons (i := 4) rfl rfl (GOp.op (OpY.ldBoxA (vs := [(Value.bool r13.Negative), v10]) Tryd.underlying24 rfl ti24 rfl (hL30.at 5 rfl rfl) rfl rfl ⟨rfl, rfl⟩)) ?_
     refine LateP.cons (i := 5) rfl rfl (GOp.op (OpY.ldBoxA (vs := [(Value.bool r14.Negative), v11]) Tryd.underlying24 rfl ti24 rfl (hL30.at 4 rfl rfl) rfl rfl ⟨rfl, rfl⟩)) ?_
     refine LateP.cons (i := 7) rfl rfl (GOp.op (OpY.ldBoxA (vs := [(Value.bool r13.Negative), v10]) Tryd.underlying24 rfl ti24 rfl (hL30.at 5 rfl rfl) rfl rfl ⟨rfl, rfl⟩)) ?_
     refine LateP.cons (i := 8) rfl rfl (GOp.op (OpY.ldBoxA (vs := [(Value.bool r14.Negative), v11]) Tryd.underlying24 rfl ti24 rfl (hL30.at 4 rfl rfl) rfl rfl ⟨rfl, rfl⟩)) ?_
     refine LateP.cons (i := 10) rfl rfl (GOp.op (OpY.ldBoxA (vs := [(Value.bool r13.Negative), v10]) Tryd.underlying24 rfl ti24 rfl (hL30.at 5 rfl rfl) rfl rfl ⟨rfl, rfl⟩)) ?_
     refine LateP.cons (i := 11) rfl rfl (GOp.op (OpY.ldBoxA (vs := [(Value.bool r14.Negative), v11]) Tryd.underlying24 rfl ti24 rfl (hL30.at 4 rfl rfl) rfl rfl ⟨rfl, rfl⟩)) ?_
     refine LateP.cons (i := 13) rfl rfl (GOp.op (OpY.ldBoxA (vs := [(Value.bool r13.Negative), v10]) Tryd.underlying24 rfl ti24 rfl (hL30.at 5 rfl rfl) rfl rfl ⟨rfl, rfl⟩)) ?_
     refine LateP.cons (i := 14) rfl rfl (GOp.op (OpY.ldBoxA (vs := [(Value.bool r14.Negative), v11]) Tryd.underlying24 rfl ti24 rfl (hL30.at 4 rfl rfl) rfl rfl ⟨rfl, rfl⟩)) ?_
     refine LateP.cons (i := 16) rfl rfl (GOp.op (OpY.ldBoxA (vs := [(Value.bool r15.1.Negative), (osv ob10 0 (List.length r15.1.Digits) cap10)]) Tryd.underlying24 rfl ti24 rfl (hL30.at 1 rfl rfl) rfl rfl ⟨rfl, rfl⟩)) ?_
     refine LateP.cons (i := 17) rfl rfl (GOp.op (OpY.ldBoxA (vs := [(Value.bool r15.2.1.Negative), (osv ob11 0 (List.length r15.2.1.Digits) cap11)]) Tryd.underlying24 rfl ti24 rfl (hL30.at 0 rfl rfl) rfl rfl ⟨rfl, rfl⟩)) ?_
     refine LateP.cons (i := 20) rfl rfl (GOp.op (OpY.move (v := (Value.int .i64 0)) rfl ⟨rfl, rfl⟩)) ?_
     exact LateP.nil
    obtain ⟨r16, q16, h⟩ := bind_some h
    have f16 := ((((((f14.mono (K22 None)).mono (K23 None)).mono (K24 None)).mono (K25 None)).mono (K26 None)).mono (K27 None))
    refine RlL.op (OpY.call en39 rfl rfl (bNormalO_w N r13 v10 _ Any (f16.mono vw_any) r16 q16) ?_)
    rintro _ w35 hE28 ⟨ob12, cap12, cs12, sp12, rfl, hN14, hE29, hc15, -⟩
    replace hE29 := hE29.mono (Hv.freshO (S := None) hL30 [ob12])
    have hp14 := hL30.adoptL hE28 hN14
    have hL31 := hp14.1
    have K28 := ks w hp14.2
    refine ⟨?_, ?_⟩
    ·
     refine LateP.cons (i := 2) rfl rfl (GOp.op (OpY.ldBoxA (vs := [(Value.bool r13.Negative), v10]) Tryd.underlying24 rfl ti24 rfl (hL31.at 6 rfl rfl) rfl rfl ⟨rfl, rfl⟩)) ?_
     refine LateP.cons (i := 4) rfl rfl (GOp.op (OpY.ldBoxA (vs := [(Value.bool r13.Negative), v10]) Tryd.underlying24 rfl ti24 rfl (hL31.at 6 rfl rfl) rfl rfl ⟨rfl, rfl⟩)) ?_
     refine LateP.cons (i := 5) rfl rfl (GOp.op (OpY.ldBoxA (vs := [(Value.bool r14.Negative), v11]) Tryd.underlying24 rfl ti24 rfl (hL31.at 5 rfl rfl) rfl rfl ⟨rfl, rfl⟩)) ?_
     refine LateP.cons (i := 7) rfl rfl (GOp.op (OpY.ldBoxA (vs := [(Value.bool r13.Negative), v10]) Tryd.underlying24 rfl ti24 rfl (hL31.at 6 rfl rfl) rfl rfl ⟨rfl, rfl⟩)) ?_
     refine LateP.cons (i := 8) rfl rfl (GOp.op (OpY.ldBoxA (vs := [(Value.bool r14.Negative), v11]) Tryd.underlying24 rfl ti24 rfl (hL31.at 5 rfl rfl) rfl rfl ⟨rfl, rfl⟩)) ?_
     refine LateP.cons (i := 10) rfl rfl (GOp.op (OpY.ldBoxA (vs := [(Value.bool r13.Negative), v10]) Tryd.underlying24 rfl ti24 rfl (hL31.at 6 rfl rfl) rfl rfl ⟨rfl, rfl⟩)) ?_
     refine LateP.cons (i := 11) rfl rfl (GOp.op (OpY.ldBoxA (vs := [(Value.bool r14.Negative), v11]) Tryd.underlying24 rfl ti24 rfl (hL31.at 5 rfl rfl) rfl rfl ⟨rfl, rfl⟩)) ?_
     refine LateP.cons (i := 13) rfl rfl (GOp.op (OpY.ldBoxA (vs := [(Value.bool r13.Negative), v10]) Tryd.underlying24 rfl ti24 rfl (hL31.at 6 rfl rfl) rfl rfl ⟨rfl, rfl⟩)) ?_
     refine LateP.cons (i := 14) rfl rfl (GOp.op (OpY.ldBoxA (vs := [(Value.bool r14.Negative), v11]) Tryd.underlying24 rfl ti24 rfl (hL31.at 5 rfl rfl) rfl rfl ⟨rfl, rfl⟩)) ?_
     refine LateP.cons (i := 16) rfl rfl (GOp.op (OpY.ldBoxA (vs := [(Value.bool r15.1.Negative), (osv ob10 0 (List.length r15.1.Digits) cap10)]) Tryd.underlying24 rfl ti24 rfl (hL31.at 2 rfl rfl) rfl rfl ⟨rfl, rfl⟩)) ?_
     refine LateP.cons (i := 17) rfl rfl (GOp.op (OpY.ldBoxA (vs := [(Value.bool r15.2.1.Negative), (osv ob11 0 (List.length r15.2.1.Digits) cap11)]) Tryd.underlying24 rfl ti24 rfl (hL31.at 1 rfl rfl) rfl rfl ⟨rfl, rfl⟩)) ?_
     refine LateP.cons (i := 20) rfl rfl (GOp.op (OpY.move (v := (Value.int .i64 0)) rfl ⟨rfl, rfl⟩)) ?_
     exact LateP.nil
    obtain ⟨r17, q17, h⟩ := bind_some h
    have f17 := (f16.mono (K28 None))
    refine RlL.op (OpY.call en41 rfl rfl (bNegO_w N r13 v10 _ Any (f17.mono vw_any) r17 q17) ?_)
    rintro _ w36 hE30 ⟨ob13, cap13, cs13, sp13, rfl, hN15, hE31, hc16, -⟩
    replace hE31 := hE31.mono (Hv.freshO (S := None) hL31 [ob13])
    have hp15 := hL31.adoptL hE30 hN15
    have hL32 := hp15.1
    have K29 := ks w hp15.2
    refine ⟨?_, ?_⟩
    ·
     refine LateP.cons (i := 4) rfl rfl (GOp.op (OpY.ldBoxA (vs := [(Value.bool r13.Negative), v10]) Tryd.underlying24 rfl ti24 rfl (hL32.at 7 rfl rfl) rfl rfl ⟨rfl, rfl⟩)) ?_
     refine LateP.cons (i := 5) rfl rfl (GOp.op (OpY.ldBoxA (vs := [(Value.bool r14.Negative), v11]) Tryd.underlying24 rfl ti24 rfl (hL32.at 6 rfl rfl) rfl rfl ⟨rfl, rfl⟩)) ?_
     refine LateP.cons (i := 7) rfl rfl (GOp.op (OpY.ldBoxA (vs := [(Value.bool r13.Negative), v10]) Tryd.underlying24 rfl ti24 rfl (hL32.at 7 rfl rfl) rfl rfl ⟨rfl, rfl⟩)) ?_
     refine LateP.cons (i := 8) rfl rfl (GOp.op (OpY.ldBoxA (vs := [(Value.bool r14.Negative), v11]) Tryd.underlying24 rfl ti24 rfl (hL32.at 6 rfl rfl) rfl rfl ⟨rfl, rfl⟩)) ?_
     refine LateP.cons (i := 10) rfl rfl (GOp.op (OpY.ldBoxA (vs := [(Value.bool r13.Negative), v10]) Tryd.underlying24 rfl ti24 rfl (hL32.at 7 rfl rfl) rfl rfl ⟨rfl, rfl⟩)) ?_
     refine LateP.cons (i := 11) rfl rfl (GOp.op (OpY.ldBoxA (vs := [(Value.bool r14.Negative), v11]) Tryd.underlying24 rfl ti24 rfl (hL32.at 6 rfl rfl) rfl rfl ⟨rfl, rfl⟩)) ?_
     refine LateP.cons (i := 13) rfl rfl (GOp.op (OpY.ldBoxA (vs := [(Value.bool r13.Negative), v10]) Tryd.underlying24 rfl ti24 rfl (hL32.at 7 rfl rfl) rfl rfl ⟨rfl, rfl⟩)) ?_
     refine LateP.cons (i := 14) rfl rfl (GOp.op (OpY.ldBoxA (vs := [(Value.bool r14.Negative), v11]) Tryd.underlying24 rfl ti24 rfl (hL32.at 6 rfl rfl) rfl rfl ⟨rfl, rfl⟩)) ?_
     refine LateP.cons (i := 16) rfl rfl (GOp.op (OpY.ldBoxA (vs := [(Value.bool r15.1.Negative), (osv ob10 0 (List.length r15.1.Digits) cap10)]) Tryd.underlying24 rfl ti24 rfl (hL32.at 3 rfl rfl) rfl rfl ⟨rfl, rfl⟩)) ?_
     refine LateP.cons (i := 17) rfl rfl (GOp.op (OpY.ldBoxA (vs := [(Value.bool r15.2.1.Negative), (osv ob11 0 (List.length r15.2.1.Digits) cap11)]) Tryd.underlying24 rfl ti24 rfl (hL32.at 2 rfl rfl) rfl rfl ⟨rfl, rfl⟩)) ?_
     refine LateP.cons (i := 20) rfl rfl (GOp.op (OpY.move (v := (Value.int .i64 0)) rfl ⟨rfl, rfl⟩)) ?_
     exact LateP.nil
    obtain ⟨r18, q18, h⟩ := bind_some h
    have f18 := (f17.mono (K29 None))
    have f19 := ((((((((f15.mono (K22 None)).mono (K23 None)).mono (K24 None)).mono (K25 None)).mono (K26 None)).mono (K27 None)).mono (K28 None)).mono (K29 None))
    refine RlL.op (OpY.call en29 rfl rfl (bAddO_w N r13 r14 v10 v11 _ Any (f18.mono vw_any) (f19.mono vw_any) r18 q18) ?_)
    rintro _ w37 hE32 ⟨ob14, cap14, cs14, sp14, rfl, hN16, hE33, hc17, -⟩
    replace hE33 := hE33.mono (Hv.freshO (S := None) hL32 [ob14])
    have hp16 := hL32.adoptL hE32 hN16
    have hL33 := hp16.1
    have K30 := ks w hp16.2
    refine ⟨?_, ?_⟩
    ·
     refine LateP.cons (i := 7) rfl rfl (GOp.op (OpY.ldBoxA (vs := [(Value.bool r13.Negative), v10]) Tryd.underlying24 rfl ti24 rfl (hL33.at 8 rfl rfl) rfl rfl ⟨rfl, rfl⟩)) ?_
     refine LateP.cons (i := 8) rfl rfl (GOp.op (OpY.ldBoxA (vs := [(Value.bool r14.Negative), v11]) Tryd.underlying24 rfl ti24 rfl (hL33.at 7 rfl rfl) rfl rfl ⟨rfl, rfl⟩)) ?_
     refine LateP.cons (i := 10) rfl rfl (GOp.op (OpY.ldBoxA (vs := [(Value.bool r13.Negative), v10]) Tryd.underlying24 rfl ti24 rfl (hL33.at 8 rfl rfl) rfl rfl ⟨rfl, rfl⟩)) ?_
     refine LateP.cons (i := 11) rfl rfl (GOp.op (OpY.ldBoxA (vs := [(Value.bool r14.Negative), v11]) Tryd.underlying24 rfl ti24 rfl (hL33.at 7 rfl rfl) rfl rfl ⟨rfl, rfl⟩)) ?_
     refine LateP.cons (i := 13) rfl rfl (GOp.op (OpY.ldBoxA (vs := [(Value.bool r13.Negative), v10]) Tryd.underlying24 rfl ti24 rfl (hL33.at 8 rfl rfl) rfl rfl ⟨rfl, rfl⟩)) ?_
     refine LateP.cons (i := 14) rfl rfl (GOp.op (OpY.ldBoxA (vs := [(Value.bool r14.Negative), v11]) Tryd.underlying24 rfl ti24 rfl (hL33.at 7 rfl rfl) rfl rfl ⟨rfl, rfl⟩)) ?_
     refine LateP.cons (i := 16) rfl rfl (GOp.op (OpY.ldBoxA (vs := [(Value.bool r15.1.Negative), (osv ob10 0 (List.length r15.1.Digits) cap10)]) Tryd.underlying24 rfl ti24 rfl (hL33.at 4 rfl rfl) rfl rfl ⟨rfl, rfl⟩)) ?_
     refine LateP.cons (i := 17) rfl rfl (GOp.op (OpY.ldBoxA (vs := [(Value.bool r15.2.1.Negative), (osv ob11 0 (List.length r15.2.1.Digits) cap11)]) Tryd.underlying24 rfl ti24 rfl (hL33.at 3 rfl rfl) rfl rfl ⟨rfl, rfl⟩)) ?_
     refine LateP.cons (i := 20) rfl rfl (GOp.op (OpY.move (v := (Value.int .i64 0)) rfl ⟨rfl, rfl⟩)) ?_
     exact LateP.nil
    obtain ⟨r19, q19, h⟩ := bind_some h
    have f20 := (f18.mono (K30 None))
    have f21 := (f19.mono (K30 None))
    refine RlL.op (OpY.call en34 rfl rfl (bSubO_w N r13 r14 v10 v11 _ Any (f20.mono vw_any) (f21.mono vw_any) r19 q19) ?_)
    rintro _ w38 hE34 ⟨ob15, cap15, cs15, sp15, rfl, hN17, hE35, hc18, -⟩
    replace hE35 := hE35.mono (Hv.freshO (S := None) hL33 [ob15])
    have hp17 := hL33.adoptL hE34 hN17
    have hL34 := hp17.1
    have K31 := ks w hp17.2
    refine ⟨?_, ?_⟩
    ·
     refine LateP.cons (i := 10) rfl rfl (GOp.op (OpY.ldBoxA (vs := [(Value.bool r13.Negative), v10]) Tryd.underlying24 rfl ti24 rfl (hL34.at 9 rfl rfl) rfl rfl ⟨rfl, rfl⟩)) ?_
     refine LateP.cons (i := 11) rfl rfl (GOp.op (OpY.ldBoxA (vs := [(Value.bool r14.Negative), v11]) Tryd.underlying24 rfl ti24 rfl (hL34.at 8 rfl rfl) rfl rfl ⟨rfl, rfl⟩)) ?_
     refine LateP.cons (i := 13) rfl rfl (GOp.op (OpY.ldBoxA (vs := [(Value.bool r13.Negative), v10]) Tryd.underlying24 rfl ti24 rfl (hL34.at 9 rfl rfl) rfl rfl ⟨rfl, rfl⟩)) ?_
     refine LateP.cons (i := 14) rfl rfl (GOp.op (OpY.ldBoxA (vs := [(Value.bool r14.Negative), v11]) Tryd.underlying24 rfl ti24 rfl (hL34.at 8 rfl rfl) rfl rfl ⟨rfl, rfl⟩)) ?_
     refine LateP.cons (i := 16) rfl rfl (GOp.op (OpY.ldBoxA (vs := [(Value.bool r15.1.Negative), (osv ob10 0 (List.length r15.1.Digits) cap10)]) Tryd.underlying24 rfl ti24 rfl (hL34.at 5 rfl rfl) rfl rfl ⟨rfl, rfl⟩)) ?_
     refine LateP.cons (i := 17) rfl rfl (GOp.op (OpY.ldBoxA (vs := [(Value.bool r15.2.1.Negative), (osv ob11 0 (List.length r15.2.1.Digits) cap11)]) Tryd.underlying24 rfl ti24 rfl (hL34.at 4 rfl rfl) rfl rfl ⟨rfl, rfl⟩)) ?_
     refine LateP.cons (i := 20) rfl rfl (GOp.op (OpY.move (v := (Value.int .i64 0)) rfl ⟨rfl, rfl⟩)) ?_
     exact LateP.nil
    obtain ⟨r20, q20, h⟩ := bind_some h
    have f22 := (f20.mono (K31 None))
    have f23 := (f21.mono (K31 None))
    refine RlL.op (OpY.call en24 rfl rfl (bMulO_w N r13 r14 v10 v11 _ Any (f22.mono vw_any) (f23.mono vw_any) r20 q20) ?_)
    rintro _ w39 hE36 ⟨ob16, cap16, cs16, sp16, rfl, hN18, hE37, hc19, -⟩
    replace hE37 := hE37.mono (Hv.freshO (S := None) hL34 [ob16])
    have hp18 := hL34.adoptL hE36 hN18
    have hL35 := hp18.1
    have K32 := ks w hp18.2
    refine ⟨?_, ?_⟩
    ·
     refine LateP.cons (i := 13) rfl rfl (GOp.op (OpY.ldBoxA (vs := [(Value.bool r13.Negative), v10]) Tryd.underlying24 rfl ti24 rfl (hL35.at 10 rfl rfl) rfl rfl ⟨rfl, rfl⟩)) ?_
     refine LateP.cons (i := 14) rfl rfl (GOp.op (OpY.ldBoxA (vs := [(Value.bool r14.Negative), v11]) Tryd.underlying24 rfl ti24 rfl (hL35.at 9 rfl rfl) rfl rfl ⟨rfl, rfl⟩)) ?_
     refine LateP.cons (i := 16) rfl rfl (GOp.op (OpY.ldBoxA (vs := [(Value.bool r15.1.Negative), (osv ob10 0 (List.length r15.1.Digits) cap10)]) Tryd.underlying24 rfl ti24 rfl (hL35.at 6 rfl rfl) rfl rfl ⟨rfl, rfl⟩)) ?_
     refine LateP.cons (i := 17) rfl rfl (GOp.op (OpY.ldBoxA (vs := [(Value.bool r15.2.1.Negative), (osv ob11 0 (List.length r15.2.1.Digits) cap11)]) Tryd.underlying24 rfl ti24 rfl (hL35.at 5 rfl rfl) rfl rfl ⟨rfl, rfl⟩)) ?_
     refine LateP.cons (i := 20) rfl rfl (GOp.op (OpY.move (v := (Value.int .i64 0)) rfl ⟨rfl, rfl⟩)) ?_
     exact LateP.nil
    obtain ⟨r21, q21, h⟩ := bind_some h
    have f24 := (f22.mono (K32 None))
    have f25 := (f23.mono (K32 None))
    refine RlL.op (OpY.call en26 rfl rfl (bGCDO_w N r13 r14 v10 v11 _ Any (f24.mono vw_any) (f25.mono vw_any) r21 q21) ?_)
    rintro _ w40 hE38 ⟨ob17, cap17, cs17, sp17, rfl, hN19, hE39, hc20, -⟩
    replace hE39 := hE39.mono (Hv.freshO (S := None) hL35 [ob17])
    have hp19 := hL35.adoptL hE38 hN19
    have hL36 := hp19.1
    have K33 := ks w hp19.2
    refine ⟨?_, ?_⟩
    ·
     refine LateP.cons (i := 16) rfl rfl (GOp.op (OpY.ldBoxA (vs := [(Value.bool r15.1.Negative), (osv ob10 0 (List.length r15.1.Digits) cap10)]) Tryd.underlying24 rfl ti24 rfl (hL36.at 7 rfl rfl) rfl rfl ⟨rfl, rfl⟩)) ?_
     refine LateP.cons (i := 17) rfl rfl (GOp.op (OpY.ldBoxA (vs := [(Value.bool r15.2.1.Negative), (osv ob11 0 (List.length r15.2.1.Digits) cap11)]) Tryd.underlying24 rfl ti24 rfl (hL36.at 6 rfl rfl) rfl rfl ⟨rfl, rfl⟩)) ?_
     refine LateP.cons (i := 20) rfl rfl (GOp.op (OpY.move (v := (Value.int .i64 0)) rfl ⟨rfl, rfl⟩)) ?_
     exact LateP.nil
    refine RlL.op (OpY.buildSliceV (vs := [(Value.agg #[(Value.bool r16.Negative), (osv ob12 0 (List.length r16.Digits) cap12)]), (Value.agg #[(Value.bool r17.Negative), (osv ob13 0 (List.length r17.Digits) cap13)]), (Value.agg #[(Value.bool r18.Negative), (osv ob14 0 (List.length r18.Digits) cap14)]), (Value.agg #[(Value.bool r19.Negative), (osv ob15 0 (List.length r19.Digits) cap15)]), (Value.agg #[(Value.bool r20.Negative), (osv ob16 0 (List.length r20.Digits) cap16)]), (Value.agg #[(Value.bool r21.Negative), (osv ob17 0 (List.length r21.Digits) cap17)]), (Value.agg #[(Value.bool r15.1.Negative), (osv ob10 0 (List.length r15.1.Digits) cap10)]), (Value.agg #[(Value.bool r15.2.1.Negative), (osv ob11 0 (List.length r15.2.1.Digits) cap11)])]) (css := [[(Value.bool r16.Negative), (osv ob12 0 (List.length r16.Digits) cap12)], [(Value.bool r17.Negative), (osv ob13 0 (List.length r17.Digits) cap13)], [(Value.bool r18.Negative), (osv ob14 0 (List.length r18.Digits) cap14)], [(Value.bool r19.Negative), (osv ob15 0 (List.length r19.Digits) cap15)], [(Value.bool r20.Negative), (osv ob16 0 (List.length r20.Digits) cap16)], [(Value.bool r21.Negative), (osv ob17 0 (List.length r21.Digits) cap17)], [(Value.bool r15.1.Negative), (osv ob10 0 (List.length r15.1.Digits) cap10)], [(Value.bool r15.2.1.Negative), (osv ob11 0 (List.length r15.2.1.Digits) cap11)]]) Tryd.underlying45 ti24 (Nat.le_of_ble_eq_true rfl) rfl rfl ⟨rfl, rfl, ⟨rfl, rfl, ⟨rfl, rfl, ⟨rfl, rfl, ⟨rfl, rfl, ⟨rfl, rfl, ⟨rfl, rfl, ⟨rfl, rfl, trivial⟩⟩⟩⟩⟩⟩⟩⟩ (Nat.le_of_ble_eq_true rfl) hL36 ?_)
    intro b15 w41 hL37 hS20
    have K34 := ks w hS20
    refine ⟨?_, ?_⟩
    ·
     refine LateP.cons (i := 20) rfl rfl (GOp.op (OpY.move (v := (Value.int .i64 0)) rfl ⟨rfl, rfl⟩)) ?_
     exact LateP.nil
    refine RlL.op (OpY.len_slice Tryd.underlying45 rfl ?_)
    refine ⟨?_, ?_⟩
    ·
     refine LateP.cons (i := 20) rfl rfl (GOp.op (OpY.move (v := (Value.int .i64 0)) rfl ⟨rfl, rfl⟩)) ?_
     exact LateP.nil
    refine RlL.fin ?_
    refine Swp.block (Swp.unroll 9 (Swp.rnd (m := 8) ?_))
    refine Swp.seq (Swp.region rfl (Rl.op (OpY.lss (x := 0) (y := 8) ((0 : Int) < 8) rfl rfl Iff.rfl ?_)))
    refine Rl.nil (Swp.seq ?_)
    refine Swp.cond_t (b := (decide ((0 : Int) < 8))) rfl (decide_eq_true (by decide)) ?_
    refine Swp.skip (Swp.seq (Swp.block (Swp.seq (Swp.region rfl (Rl.op (OpY.indexAddr (i := 0) (q := 0) Tryd.underlying45 ti24 rfl rfl (by decide) rfl ?_))))))
    refine Rl.op (OpY.ldBoxA (vs := [(Value.bool r16.Negative), (osv ob12 0 (List.length r16.Digits) cap12)]) Tryd.underlying24 rfl ti24 rfl (hL37.at 0 rfl rfl) rfl rfl ?_)
    refine Rl.op (OpY.alloc (cs := [(Value.bool false), (Value.slice none 0 0)]) ti24 rfl hL37 ?_)
    intro b16 w42 hL38 hS21
    have K35 := ks w hS21
    refine Rl.op0 (OpY.store (vs := [(Value.bool r16.Negative), (osv ob12 0 (List.length r16.Digits) cap12)]) ti24 rfl rfl rfl rfl (ones_cons rfl (ones_cons (osv_one ob12 0 (List.length r16.Digits) cap12) ones_nil)) hL38 0 rfl rfl (Nat.le_of_ble_eq_true rfl) ?_)
    intro w43 (hL39 : Go.X.Loc [] [] w w43 [some b16, some b15, ob17, ob16, ob15, ob14, ob13, ob12, some b14, some b13, ob10, ob11, some b12, some b11, some b1, some b6] [Cont.cells [(Value.bool r16.Negative), (osv ob12 0 (List.length r16.Digits) cap12)], Cont.cells [(Value.bool r16.Negative), (osv ob12 0 (List.length r16.Digits) cap12), (Value.bool r17.Negative), (osv ob13 0 (List.length r17.Digits) cap13), (Value.bool r18.Negative), (osv ob14 0 (List.length r18.Digits) cap14), (Value.bool r19.Negative), (osv ob15 0 (List.length r19.Digits) cap15), (Value.bool r20.Negative), (osv ob16 0 (List.length r20.Digits) cap16), (Value.bool r21.Negative), (osv ob17 0 (List.length r21.Digits) cap17), (Value.bool r15.1.Negative), (osv ob10 0 (List.length r15.1.Digits) cap10), (Value.bool r15.2.1.Negative), (osv ob11 0 (List.length r15.2.1.Digits) cap11)], Cont.cells ([] ++ (cs17 ++ sp17)), Cont.cells ([] ++ (cs16 ++ sp16)), Cont.cells ([] ++ (cs15 ++ sp15)), Cont.cells ([] ++ (cs14 ++ sp14)), Cont.cells ([] ++ (cs13 ++ sp13)), Cont.cells ([] ++ (cs12 ++ sp12)), Cont.cells [(Value.bool r15.2.1.Negative), (osv ob11 0 (List.length r15.2.1.Digits) cap11)], Cont.cells [(Value.bool r15.1.Negative), (osv ob10 0 (List.length r15.1.Digits) cap10)], Cont.cells ([] ++ (cs10 ++ sp10)), Cont.cells ([] ++ (cs11 ++ sp11)), Cont.cells [(Value.bool r14.Negative), v11], Cont.cells [(Value.bool r13.Negative), v10], Cont.cells [(Value.bool a.Negative), a_v], Cont.cells [(Value.bool b.Negative), b_v]]) hS22
    have K36 := ks w hS22
    refine Rl.nil (Swp.region rfl (Rl.op (OpY.ldBoxA (vs := [(Value.bool r16.Negative), (osv ob12 0 (List.length r16.Digits) cap12)]) Tryd.underlying24 rfl ti24 rfl (hL39.at 0 rfl rfl) rfl rfl ?_)))
    obtain ⟨s11, h, g11⟩ := bind_some h
    refine Rl.op (OpY.callg (T := fun e w' => ∃ (digits10 : (List Int)) (cs18 : List Value), digits10 = s11 ∧ e = Ending.returned (Value.tuple #[]) ∧ Go.X.Loc [] [] w w' [some b1, some b6, some b11, some b12, some b15, ob12, ob13, ob14, ob15, ob16, ob17, ob10, ob11] [Cont.cells [(Value.bool a.Negative), a_v], Cont.cells [(Value.bool b.Negative), b_v], Cont.cells [(Value.bool r13.Negative), v10], Cont.cells [(Value.bool r14.Negative), v11], Cont.cells [(Value.bool r16.Negative), (osv ob12 0 (List.length r16.Digits) cap12), (Value.bool r17.Negative), (osv ob13 0 (List.length r17.Digits) cap13), (Value.bool r18.Negative), (osv ob14 0 (List.length r18.Digits) cap14), (Value.bool r19.Negative), (osv ob15 0 (List.length r19.Digits) cap15), (Value.bool r20.Negative), (osv ob16 0 (List.length r20.Digits) cap16), (Value.bool r21.Negative), (osv ob17 0 (List.length r21.Digits) cap17), (Value.bool r15.1.Negative), (osv ob10 0 (List.length r15.1.Digits) cap10), (Value.bool r15.2.1.Negative), (osv ob11 0 (List.length r15.2.1.Digits) cap11)], Cont.cells ([] ++ (cs18 ++ sp12)), Cont.cells ([] ++ (cs13 ++ sp13)), Cont.cells ([] ++ (cs14 ++ sp14)), Cont.cells ([] ++ (cs15 ++ sp15)), Cont.cells ([] ++ (cs16 ++ sp16)), Cont.cells ([] ++ (cs17 ++ sp17)), Cont.cells ([] ++ (cs10 ++ sp10)), Cont.cells ([] ++ (cs11 ++ sp11))] ∧ Keep w.heap.size [some b16, some b15, ob17, ob16, ob15, ob14, ob13, ob12, some b14, some b13, ob10, ob11, some b12, some b11, some b1, some b6] w43 [some b1, some b6, some b11, some b12, some b15, ob12, ob13, ob14, ob15, ob16, ob17, ob10, ob11] w' ∧ Els (rInt .u32) (Hv w.heap.size None [some b1, some b6, some b11, some b12, some b15, ob12, ob13, ob14, ob15, ob16, ob17, ob10, ob11] w') cs18 digits10 ∧ (List.length r16.Digits) = List.length digits10 ∧ (cs18 ++ sp12).length = cap12 * (rInt .u32).sz ∧ True) en43 rfl rfl ?_ ?_)
    ·
     refine calls_of (l := [(Value.agg #[(Value.bool r16.Negative), (osv ob12 0 (List.length r16.Digits) cap12)])]) (rl := []) (n := 17) Tryd.func43 rfl rfl rfl (Nat.le_of_ble_eq_true rfl) ?_
     refine Swp.seq (Swp.region rfl (Rl.op (OpY.box (cs := [(Value.bool r16.Negative), (osv ob12 0 (List.length r16.Digits) cap12)]) rfl rfl hL39 ?_)))
     intro b17 w44 hL40 hS23
     have K37 := ks w hS23
     refine Rl.nil (Swp.seq (Swp.region rfl (Rl.op (OpY.fieldAddr (q := 1) Tryd.underlying24 rfl ti22 rfl rfl rfl ?_))))
     refine Rl.op (OpY.ldBox1 (v := (osv ob12 0 (List.length r16.Digits) cap12)) Tryd.underlying22 rfl rfl (hL40.at 0 rfl rfl) rfl ?_)
     have f26 := (((((((((hE29.mono (K29 None)).mono (K30 None)).mono (K31 None)).mono (K32 None)).mono (K33 None)).mono (K34 None)).mono (K35 None)).mono (K36 None)).mono (K37 None))
     refine Rl.op (OpY.lenRow (pre := []) (r := (rInt .u32)) (xs := r16.Digits) Tryd.underlying22 rfl (hL40.at 8 rfl rfl) f26 rfl rfl ?_)
     refine Rl.op (OpY.move (v := (Value.int .i64 0)) rfl ?_)
     refine Rl.nil ?_
     obtain ⟨s12, hl10, g12⟩ := bind_some h
     refine Swp.join (fun e w' => ∃ (x11 : Int) (digits11 : (List Int)) (cs19 : List Value) (u : Env), (x11, digits11) = s12 ∧ e = upds [(5, (Value.int .i64 (List.length r16.Digits : Int))), (6, (Value.int .i64 x11))] u ∧ Go.X.Loc [] [] w w' [some b1, some b6, some b11, some b12, some b15, ob12, ob13, ob14, ob15, ob16, ob17, ob10, ob11] [Cont.cells [(Value.bool a.Negative), a_v], Cont.cells [(Value.bool b.Negative), b_v], Cont.cells [(Value.bool r13.Negative), v10], Cont.cells [(Value.bool r14.Negative), v11], Cont.cells [(Value.bool r16.Negative), (osv ob12 0 (List.length r16.Digits) cap12), (Value.bool r17.Negative), (osv ob13 0 (List.length r17.Digits) cap13), (Value.bool r18.Negative), (osv ob14 0 (List.length r18.Digits) cap14), (Value.bool r19.Negative), (osv ob15 0 (List.length r19.Digits) cap15), (Value.bool r20.Negative), (osv ob16 0 (List.length r20.Digits) cap16), (Value.bool r21.Negative), (osv ob17 0 (List.length r21.Digits) cap17), (Value.bool r15.1.Negative), (osv ob10 0 (List.length r15.1.Digits) cap10), (Value.bool r15.2.1.Negative), (osv ob11 0 (List.length r15.2.1.Digits) cap11)], Cont.cells ([] ++ (cs19 ++ sp12)), Cont.cells ([] ++ (cs13 ++ sp13)), Cont.cells ([] ++ (cs14 ++ sp14)), Cont.cells ([] ++ (cs15 ++ sp15)), Cont.cells ([] ++ (cs16 ++ sp16)), Cont.cells ([] ++ (cs17 ++ sp17)), Cont.cells ([] ++ (cs10 ++ sp10)), Cont.cells ([] ++ (cs11 ++ sp11))] ∧ Keep w.heap.size [some b17, some b16, some b15, ob17, ob16, ob15, ob14, ob13, ob12, some b14, some b13, ob10, ob11, some b12, some b11, some b1, some b6] w44 [some b1, some b6, some b11, some b12, some b15, ob12, ob13, ob14, ob15, ob16, ob17, ob10, ob11] w' ∧ Els (rInt .u32) (Hv w.heap.size None [some b1, some b6, some b11, some b12, some b15, ob12, ob13, ob14, ob15, ob16, ob17, ob10, ob11] w') cs19 digits11 ∧ (List.length r16.Digits) = List.length digits11 ∧ (cs19 ++ sp12).length = cap12 * (rInt .u32).sz ∧ True) ?_ ?_
     ·
      refine Swp.block ?_
      have hp20 := hL40.pick [0, 8, 15, 16, 14, 13, 2, 7, 6, 5, 4, 3, 11, 12] rfl rfl rfl
      have hL41 : Go.X.Loc [] [] w w44 [some b17, ob12, some b1, some b6, some b11, some b12, some b15, ob13, ob14, ob15, ob16, ob17, ob10, ob11] [Cont.cells [(Value.bool r16.Negative), (osv ob12 0 (List.length r16.Digits) cap12)], Cont.cells ([] ++ (cs12 ++ sp12)), Cont.cells [(Value.bool a.Negative), a_v], Cont.cells [(Value.bool b.Negative), b_v], Cont.cells [(Value.bool r13.Negative), v10], Cont.cells [(Value.bool r14.Negative), v11], Cont.cells [(Value.bool r16.Negative), (osv ob12 0 (List.length r16.Digits) cap12), (Value.bool r17.Negative), (osv ob13 0 (List.length r17.Digits) cap13), (Value.bool r18.Negative), (osv ob14 0 (List.length r18.Digits) cap14), (Value.bool r19.Negative), (osv ob15 0 (List.length r19.Digits) cap15), (Value.bool r20.Negative), (osv ob16 0 (List.length r20.Digits) cap16), (Value.bool r21.Negative), (osv ob17 0 (List.length r21.Digits) cap17), (Value.bool r15.1.Negative), (osv ob10 0 (List.length r15.1.Digits) cap10), (Value.bool r15.2.1.Negative), (osv ob11 0 (List.length r15.2.1.Digits) cap11)], Cont.cells ([] ++ (cs13 ++ sp13)), Cont.cells ([] ++ (cs14 ++ sp14)), Cont.cells ([] ++ (cs15 ++ sp15)), Cont.cells ([] ++ (cs16 ++ sp16)), Cont.cells ([] ++ (cs17 ++ sp17)), Cont.cells ([] ++ (cs10 ++ sp10)), Cont.cells ([] ++ (cs11 ++ sp11))] := hp20.1
      have K38 := ks w hp20.2
      have f27 := (f26.mono (K38 None))
      refine Swp.loopM hl10 (fun (ss : ((List Int) × Int)) (e : Env) (w' : World) => match ss with | (digits12, x12) => ∃ (cs20 : List Value) (u : Env), e = upds [(1, (Value.pointer (some ⟨b17, 0, none⟩))), (5, (Value.int .i64 (List.length r16.Digits : Int))), (6, (Value.int .i64 x12))] u ∧ Go.X.Loc [] [] w w' [some b17, ob12, some b1, some b6, some b11, some b12, some b15, ob13, ob14, ob15, ob16, ob17, ob10, ob11] [Cont.cells [(Value.bool r16.Negative), (osv ob12 0 (List.length r16.Digits) cap12)], Cont.cells ([] ++ (cs20 ++ sp12)), Cont.cells [(Value.bool a.Negative), a_v], Cont.cells [(Value.bool b.Negative), b_v], Cont.cells [(Value.bool r13.Negative), v10], Cont.cells [(Value.bool r14.Negative), v11], Cont.cells [(Value.bool r16.Negative), (osv ob12 0 (List.length r16.Digits) cap12), (Value.bool r17.Negative), (osv ob13 0 (List.length r17.Digits) cap13), (Value.bool r18.Negative), (osv ob14 0 (List.length r18.Digits) cap14), (Value.bool r19.Negative), (osv ob15 0 (List.length r19.Digits) cap15), (Value.bool r20.Negative), (osv ob16 0 (List.length r20.Digits) cap16), (Value.bool r21.Negative), (osv ob17 0 (List.length r21.Digits) cap17), (Value.bool r15.1.Negative), (osv ob10 0 (List.length r15.1.Digits) cap10), (Value.bool r15.2.1.Negative), (osv ob11 0 (List.length r15.2.1.Digits) cap11)], Cont.cells ([] ++ (cs13 ++ sp13)), Cont.cells ([] ++ (cs14 ++ sp14)), Cont.cells ([] ++ (cs15 ++ sp15)), Cont.cells ([] ++ (cs16 ++ sp16)), Cont.cells ([] ++ (cs17 ++ sp17)), Cont.cells ([] ++ (cs10 ++ sp10)), Cont.cells ([] ++ (cs11 ++ sp11))] ∧ Keep w.heap.size [some b17, some b16, some b15, ob17, ob16, ob15, ob14, ob13, ob12, some b14, some b13, ob10, ob11, some b12, some b11, some b1, some b6] w44 [some b17, ob12, some b1, some b6, some b11, some b12, some b15, ob13, ob14, ob15, ob16, ob17, ob10, ob11] w' ∧ Els (rInt .u32) (Hv w.heap.size None [some b17, ob12, some b1, some b6, some b11, some b12, some b15, ob13, ob14, ob15, ob16, ob17, ob10, ob11] w') cs20 digits12 ∧ (List.length r16.Digits) = List.length digits12 ∧ (cs20 ++ sp12).length = cap12 * (rInt .u32).sz ∧ True) ⟨cs12, _, (upds_sym ⟨rfl, rfl, rfl, trivial⟩), hL41, K38, f27, rfl, hc15, trivial⟩ ?_
      rintro ⟨digits12, x12⟩ oo _ w45 ⟨cs20, u, rfl, hL42, K39, hE40, hl11, hc21, -⟩ h hd10
      rw [lawMemory_b1] at h
      refine Swp.seq (Swp.region rfl (Rl.op (OpY.lss (x := x12) (y := (List.length r16.Digits : Int)) ((x12 : Int) < (List.length r16.Digits : Int)) rfl rfl Iff.rfl ?_)))
      refine Rl.nil (Swp.seq ?_)
      refine Swp.cond_d ((x12 : Int) < (List.length r16.Digits : Int)) rfl (fun hc22 => ?_) (fun hc22 => ?_)
      ·
       replace h := ite_t hc22 h
       refine Swp.skip (Swp.seq (Swp.block (Swp.seq (Swp.region rfl (Rl.op (OpY.move (v := (Value.int .i64 x12)) rfl ?_))))))
       refine Rl.op (OpY.assign (v := (Value.int .i64 x12)) rfl ?_)
       refine Rl.nil (Swp.region rfl (Rl.op (OpY.fieldAddr (q := 1) Tryd.underlying24 rfl ti22 rfl rfl rfl ?_)))
       refine Rl.op (OpY.ldBox1 (v := (osv ob12 0 (List.length r16.Digits) cap12)) Tryd.underlying22 rfl rfl (hL42.at 0 rfl rfl) rfl ?_)
       refine Rl.op (OpY.move (v := (Value.int .i64 x12)) rfl ?_)
       obtain ⟨x13, q22, h⟩ := bind_some h
       obtain ⟨n10, q23, q24⟩ := idx_some q22
       have q25 := (List.getElem?_eq_some_iff.1 q24).1
       obtain ⟨b18, hb10⟩ := hL42.row_some 1 rfl rfl (row_pos (pre := []) hE40 q24 (Nat.lt_of_sub_eq_succ rfl))
       refine Rl.op (OpY.ixRowD (r := (rInt .u32)) (b := b18) (o := 0) (n := n10) (m := (List.length r16.Digits)) (xs := digits12) (q := (0 + n10 * (rInt .u32).sz)) Tryd.underlying22 ti47 (osv_some hb10) hl11 rfl q23 q25 rfl ?_)
       obtain ⟨vs10, q26, q27, q28⟩ := row_elem (pre := []) (sp := sp12) hE40 q24
       obtain rfl := q27
       refine Rl.op (OpY.ldElem1 (v := (Value.int .u32 x13)) Tryd.underlying47 rfl rfl (own_some hb10 (hL42.at 1 rfl rfl)) q28 ?_)
       refine Rl.op (OpY.add (x := x13) (y := 1) (z := (uw32 (x13 + 1))) rfl rfl rfl ?_)
       obtain ⟨x14, q29, h⟩ := bind_some h
       obtain ⟨n11, q30, q31⟩ := idx_some q29
       have q32 := (List.getElem?_eq_some_iff.1 q31).1
       refine Rl.op (OpY.ixRowD (r := (rInt .u32)) (b := b18) (o := 0) (n := n11) (m := (List.length r16.Digits)) (xs := digits12) (q := (0 + n11 * (rInt .u32).sz)) Tryd.underlying22 ti47 (osv_some hb10) hl11 rfl q30 q32 rfl ?_)
       obtain ⟨x15, q33, h⟩ := bind_some h
       obtain ⟨n12, q34, q35, q36⟩ := upd1_some q33
       obtain rfl := Int.ofNat_inj.1 (q30.symm.trans q34)
       refine Rl.op0 (OpY.stRowX (pre := []) (r := (rInt .u32)) (vs := [(Value.int .u32 (uw32 (x13 + 1)))]) (a := (uw32 (x13 + 1))) ti47 rfl rfl rfl rfl hL42 1 (congrArg some hb10) rfl hE40 q32 rfl q36 ?_)
       have hl12 : (List.length r16.Digits) = List.length x15 := by rw [q36, List.length_set]; exact hl11
       intro w46 cs21 (hL43 : Go.X.Loc [] [] w w46 [some b17, ob12, some b1, some b6, some b11, some b12, some b15, ob13, ob14, ob15, ob16, ob17, ob10, ob11] [Cont.cells [(Value.bool r16.Negative), (osv ob12 0 (List.length r16.Digits) cap12)], Cont.cells ([] ++ (cs21 ++ sp12)), Cont.cells [(Value.bool a.Negative), a_v], Cont.cells [(Value.bool b.Negative), b_v], Cont.cells [(Value.bool r13.Negative), v10], Cont.cells [(Value.bool r14.Negative), v11], Cont.cells [(Value.bool r16.Negative), (osv ob12 0 (List.length r16.Digits) cap12), (Value.bool r17.Negative), (osv ob13 0 (List.length r17.Digits) cap13), (Value.bool r18.Negative), (osv ob14 0 (List.length r18.Digits) cap14), (Value.bool r19.Negative), (osv ob15 0 (List.length r19.Digits) cap15), (Value.bool r20.Negative), (osv ob16 0 (List.length r20.Digits) cap16), (Value.bool r21.Negative), (osv ob17 0 (List.length r21.Digits) cap17), (Value.bool r15.1.Negative), (osv ob10 0 (List.length r15.1.Digits) cap10), (Value.bool r15.2.1.Negative), (osv ob11 0 (List.length r15.2.1.Digits) cap11)], Cont.cells ([] ++ (cs13 ++ sp13)), Cont.cells ([] ++ (cs14 ++ sp14)), Cont.cells ([] ++ (cs15 ++ sp15)), Cont.cells ([] ++ (cs16 ++ sp16)), Cont.cells ([] ++ (cs17 ++ sp17)), Cont.cells ([] ++ (cs10 ++ sp10)), Cont.cells ([] ++ (cs11 ++ sp11))]) hS24 hE41 q37
       have hc23 : (cs21 ++ sp12).length = cap12 * (rInt .u32).sz := by have := hc21; rw [List.length_append] at this ⊢; rw [q37]; exact this
       have K40 := ks w hS24
       refine Rl.nil (Swp.pop_blk (Swp.region rfl (Rl.op (OpY.add (x := x12) (y := 1) (z := (iw (x12 + 1))) rfl rfl rfl ?_))))
       refine Rl.op (OpY.move (v := (Value.int .i64 (iw (x12 + 1)))) rfl ?_)
       refine Rl.nil ?_
       have f28 := (hE41.mono (K40 None))
       obtain rfl := Option.some.inj h
       refine Swp.pop_back ⟨(x15, (iw (x12 + 1))), rfl, ?_⟩
       exact ⟨cs21, _, (upds_sym ⟨rfl, rfl, rfl, trivial⟩), hL43, (Keep.trans K39 K40), f28, hl12, hc23, trivial⟩
      ·
       replace h := ite_f hc22 h
       refine Swp.exit rfl ?_
       have hp21 := hL42.pick [2, 3, 4, 5, 6, 1, 7, 8, 9, 10, 11, 12, 13] rfl rfl rfl
       have hL44 : Go.X.Loc [] [] w w45 [some b1, some b6, some b11, some b12, some b15, ob12, ob13, ob14, ob15, ob16, ob17, ob10, ob11] [Cont.cells [(Value.bool a.Negative), a_v], Cont.cells [(Value.bool b.Negative), b_v], Cont.cells [(Value.bool r13.Negative), v10], Cont.cells [(Value.bool r14.Negative), v11], Cont.cells [(Value.bool r16.Negative), (osv ob12 0 (List.length r16.Digits) cap12), (Value.bool r17.Negative), (osv ob13 0 (List.length r17.Digits) cap13), (Value.bool r18.Negative), (osv ob14 0 (List.length r18.Digits) cap14), (Value.bool r19.Negative), (osv ob15 0 (List.length r19.Digits) cap15), (Value.bool r20.Negative), (osv ob16 0 (List.length r20.Digits) cap16), (Value.bool r21.Negative), (osv ob17 0 (List.length r21.Digits) cap17), (Value.bool r15.1.Negative), (osv ob10 0 (List.length r15.1.Digits) cap10), (Value.bool r15.2.1.Negative), (osv ob11 0 (List.length r15.2.1.Digits) cap11)], Cont.cells ([] ++ (cs20 ++ sp12)), Cont.cells ([] ++ (cs13 ++ sp13)), Cont.cells ([] ++ (cs14 ++ sp14)), Cont.cells ([] ++ (cs15 ++ sp15)), Cont.cells ([] ++ (cs16 ++ sp16)), Cont.cells ([] ++ (cs17 ++ sp17)), Cont.cells ([] ++ (cs10 ++ sp10)), Cont.cells ([] ++ (cs11 ++ sp11))] := hp21.1
       have K41 := ks w hp21.2
       have f29 := (hE40.mono (K41 None))
       obtain rfl := Option.some.inj h
       obtain rfl := hd10 _ rfl
       replace h := g12
       try dsimp only at h
       skip
       refine Swp.pop_back ?_
       exact ⟨x12, digits12, cs20, _, rfl, (upds_sym ⟨rfl, rfl, trivial⟩), hL44, (Keep.trans K39 K41), f29, hl11, hc21, trivial⟩
     ·
      rintro _ w47 ⟨x11, digits11, cs19, u, rfl, rfl, hL45, K42, hE42, hl13, hc24, -⟩
      replace h := g12
      try dsimp only at h
      refine ⟨[], trivial, ?_⟩
      obtain rfl := Option.some.inj h
      exact ⟨digits11, cs19, rfl, rfl, hL45, (Keep.trans K37 K42), hE42, hl13, hc24, trivial⟩
    ·
     rintro _ w48 ⟨digits10, cs18, rfl, rfl, hL46, K43, hE43, hl14, hc25, -⟩
     refine ⟨_, rfl, ?_⟩
     replace h := g11
     try dsimp only at h
     refine Rl.nil (Swp.pop_blk (Swp.region rfl (Rl.op (OpY.add (x := 0) (y := 1) (z := 1) rfl rfl rfl ?_))))
     refine Rl.op (OpY.move (v := (Value.int .i64 1)) rfl ?_)
     refine Rl.nil ?_
     refine Swp.pop_back (Swp.rnd (m := 7) ?_)
     refine Swp.seq (Swp.region rfl (Rl.op (OpY.lss (x := 1) (y := 8) ((1 : Int) < 8) rfl rfl Iff.rfl ?_)))
     refine Rl.nil (Swp.seq ?_)
     refine Swp.cond_t (b := (decide ((1 : Int) < 8))) rfl (decide_eq_true (by decide)) ?_
     refine Swp.skip (Swp.seq (Swp.block (Swp.seq (Swp.region rfl (Rl.op (OpY.indexAddr (i := 1) (q := 2) Tryd.underlying45 ti24 rfl rfl (by decide) rfl ?_))))))
     refine Rl.op (OpY.ldBoxA (vs := [(Value.bool r17.Negative), (osv ob13 0 (List.length r17.Digits) cap13)]) Tryd.underlying24 rfl ti24 rfl (hL46.at 4 rfl rfl) rfl rfl ?_)
     refine Rl.op (OpY.alloc (cs := [(Value.bool false), (Value.slice none 0 0)]) ti24 rfl hL46 ?_)
     intro b19 w49 hL47 hS25
     have K44 := ks w hS25
     refine Rl.op0 (OpY.store (vs := [(Value.bool r17.Negative), (osv ob13 0 (List.length r17.Digits) cap13)]) ti24 rfl rfl rfl rfl (ones_cons rfl (ones_cons (osv_one ob13 0 (List.length r17.Digits) cap13) ones_nil)) hL47 0 rfl rfl (Nat.le_of_ble_eq_true rfl) ?_)
     intro w50 (hL48 : Go.X.Loc [] [] w w50 [some b19, some b1, some b6, some b11, some b12, some b15, ob12, ob13, ob14, ob15, ob16, ob17, ob10, ob11] [Cont.cells [(Value.bool r17.Negative), (osv ob13 0 (List.length r17.Digits) cap13)], Cont.cells [(Value.bool a.Negative), a_v], Cont.cells [(Value.bool b.Negative), b_v], Cont.cells [(Value.bool r13.Negative), v10], Cont.cells [(Value.bool r14.Negative), v11], Cont.cells [(Value.bool r16.Negative), (osv ob12 0 (List.length r16.Digits) cap12), (Value.bool r17.Negative), (osv ob13 0 (List.length r17.Digits) cap13), (Value.bool r18.Negative), (osv ob14 0 (List.length r18.Digits) cap14), (Value.bool r19.Negative), (osv ob15 0 (List.length r19.Digits) cap15), (Value.bool r20.Negative), (osv ob16 0 (List.length r20.Digits) cap16), (Value.bool r21.Negative), (osv ob17 0 (List.length r21.Digits) cap17), (Value.bool r15.1.Negative), (osv ob10 0 (List.length r15.1.Digits) cap10), (Value.bool r15.2.1.Negative), (osv ob11 0 (List.length r15.2.1.Digits) cap11)], Cont.cells ([] ++ (cs18 ++ sp12)), Cont.cells ([] ++ (cs13 ++ sp13)), Cont.cells ([] ++ (cs14 ++ sp14)), Cont.cells ([] ++ (cs15 ++ sp15)), Cont.cells ([] ++ (cs16 ++ sp16)), Cont.cells ([] ++ (cs17 ++ sp17)), Cont.cells ([] ++ (cs10 ++ sp10)), Cont.cells ([] ++ (cs11 ++ sp11))]) hS26
     have K45 := ks w hS26
     refine Rl.nil (Swp.region rfl (Rl.op (OpY.ldBoxA (vs := [(Value.bool r17.Negative), (osv ob13 0 (List.length r17.Digits) cap13)]) Tryd.underlying24 rfl ti24 rfl (hL48.at 0 rfl rfl) rfl rfl ?_)))
     obtain ⟨s13, h, g13⟩ := bind_some h
     refine Rl.op (OpY.callg (T := fun e w' => ∃ (digits13 : (List Int)) (cs22 : List Value), digits13 = s13 ∧ e = Ending.returned (Value.tuple #[]) ∧ Go.X.Loc [] [] w w' [some b1, some b6, some b11, some b12, some b15, ob12, ob13, ob14, ob15, ob16, ob17, ob10, ob11] [Cont.cells [(Value.bool a.Negative), a_v], Cont.cells [(Value.bool b.Negative), b_v], Cont.cells [(Value.bool r13.Negative), v10], Cont.cells [(Value.bool r14.Negative), v11], Cont.cells [(Value.bool r16.Negative), (osv ob12 0 (List.length r16.Digits) cap12), (Value.bool r17.Negative), (osv ob13 0 (List.length r17.Digits) cap13), (Value.bool r18.Negative), (osv ob14 0 (List.length r18.Digits) cap14), (Value.bool r19.Negative), (osv ob15 0 (List.length r19.Digits) cap15), (Value.bool r20.Negative), (osv ob16 0 (List.length r20.Digits) cap16), (Value.bool r21.Negative), (osv ob17 0 (List.length r21.Digits) cap17), (Value.bool r15.1.Negative), (osv ob10 0 (List.length r15.1.Digits) cap10), (Value.bool r15.2.1.Negative), (osv ob11 0 (List.length r15.2.1.Digits) cap11)], Cont.cells ([] ++ (cs18 ++ sp12)), Cont.cells ([] ++ (cs22 ++ sp13)), Cont.cells ([] ++ (cs14 ++ sp14)), Cont.cells ([] ++ (cs15 ++ sp15)), Cont.cells ([] ++ (cs16 ++ sp16)), Cont.cells ([] ++ (cs17 ++ sp17)), Cont.cells ([] ++ (cs10 ++ sp10)), Cont.cells ([] ++ (cs11 ++ sp11))] ∧ Keep w.heap.size [some b19, some b1, some b6, some b11, some b12, some b15, ob12, ob13, ob14, ob15, ob16, ob17, ob10, ob11] w50 [some b1, some b6, some b11, some b12, some b15, ob12, ob13, ob14, ob15, ob16, ob17, ob10, ob11] w' ∧ Els (rInt .u32) (Hv w.heap.size None [some b1, some b6, some b11, some b12, some b15, ob12, ob13, ob14, ob15, ob16, ob17, ob10, ob11] w') cs22 digits13 ∧ (List.length r17.Digits) = List.length digits13 ∧ (cs22 ++ sp13).length = cap13 * (rInt .u32).sz ∧ True) en43 rfl rfl ?_ ?_)
     ·
      refine calls_of (l := [(Value.agg #[(Value.bool r17.Negative), (osv ob13 0 (List.length r17.Digits) cap13)])]) (rl := []) (n := 17) Tryd.func43 rfl rfl rfl (Nat.le_of_ble_eq_true rfl) ?_
      refine Swp.seq (Swp.region rfl (Rl.op (OpY.box (cs := [(Value.bool r17.Negative), (osv ob13 0 (List.length r17.Digits) cap13)]) rfl rfl hL48 ?_)))
      intro b20 w51 hL49 hS27
      have K46 := ks w hS27
      refine Rl.nil (Swp.seq (Swp.region rfl (Rl.op (OpY.fieldAddr (q := 1) Tryd.underlying24 rfl ti22 rfl rfl rfl ?_))))
      refine Rl.op (OpY.ldBox1 (v := (osv ob13 0 (List.length r17.Digits) cap13)) Tryd.underlying22 rfl rfl (hL49.at 0 rfl rfl) rfl ?_)
      have f30 := (((((((((((hE31.mono (K30 None)).mono (K31 None)).mono (K32 None)).mono (K33 None)).mono (K34 None)).mono (K35 None)).mono (K36 None)).mono (K43 None)).mono (K44 None)).mono (K45 None)).mono (K46 None))
      refine Rl.op (OpY.lenRow (pre := []) (r := (rInt .u32)) (xs := r17.Digits) Tryd.underlying22 rfl (hL49.at 8 rfl rfl) f30 rfl rfl ?_)
      refine Rl.op (OpY.move (v := (Value.int .i64 0)) rfl ?_)
      refine Rl.nil ?_
      obtain ⟨s14, hl15, g14⟩ := bind_some h
      refine Swp.join (fun e w' => ∃ (x16 : Int) (digits14 : (List Int)) (cs23 : List Value) (u : Env), (x16, digits14) = s14 ∧ e = upds [(5, (Value.int .i64 (List.length r17.Digits : Int))), (6, (Value.int .i64 x16))] u ∧ Go.X.Loc [] [] w w' [some b1, some b6, some b11, some b12, some b15, ob12, ob13, ob14, ob15, ob16, ob17, ob10, ob11] [Cont.cells [(Value.bool a.Negative), a_v], Cont.cells [(Value.bool b.Negative), b_v], Cont.cells [(Value.bool r13.Negative), v10], Cont.cells [(Value.bool r14.Negative), v11], Cont.cells [(Value.bool r16.Negative), (osv ob12 0 (List.length r16.Digits) cap12), (Value.bool r17.Negative), (osv ob13 0 (List.length r17.Digits) cap13), (Value.bool r18.Negative), (osv ob14 0 (List.length r18.Digits) cap14), (Value.bool r19.Negative), (osv ob15 0 (List.length r19.Digits) cap15), (Value.bool r20.Negative), (osv ob16 0 (List.length r20.Digits) cap16), (Value.bool r21.Negative), (osv ob17 0 (List.length r21.Digits) cap17), (Value.bool r15.1.Negative), (osv ob10 0 (List.length r15.1.Digits) cap10), (Value.bool r15.2.1.Negative), (osv ob11 0 (List.length r15.2.1.Digits) cap11)], Cont.cells ([] ++ (cs18 ++ sp12)), Cont.cells ([] ++ (cs23 ++ sp13)), Cont.cells ([] ++ (cs14 ++ sp14)), Cont.cells ([] ++ (cs15 ++ sp15)), Cont.cells ([] ++ (cs16 ++ sp16)), Cont.cells ([] ++ (cs17 ++ sp17)), Cont.cells ([] ++ (cs10 ++ sp10)), Cont.cells ([] ++ (cs11 ++ sp11))] ∧ Keep w.heap.size [some b20, some b19, some b1, some b6, some b11, some b12, some b15, ob12, ob13, ob14, ob15, ob16, ob17, ob10, ob11] w51 [some b1, some b6, some b11, some b12, some b15, ob12, ob13, ob14, ob15, ob16, ob17, ob10, ob11] w' ∧ Els (rInt .u32) (Hv w.heap.size None [some b1, some b6, some b11, some b12, some b15, ob12, ob13, ob14, ob15, ob16, ob17, ob10, ob11] w') cs23 digits14 ∧ (List.length r17.Digits) = List.length digits14 ∧ (cs23 ++ sp13).length = cap13 * (rInt .u32).sz ∧ True) ?_ ?_
      ·
       refine Swp.block ?_
       have hp22 := hL49.pick [0, 8, 2, 3, 4, 5, 6, 7, 9, 10, 11, 12, 13, 14] rfl rfl rfl
       have hL50 : Go.X.Loc [] [] w w51 [some b20, ob13, some b1, some b6, some b11, some b12, some b15, ob12, ob14, ob15, ob16, ob17, ob10, ob11] [Cont.cells [(Value.bool r17.Negative), (osv ob13 0 (List.length r17.Digits) cap13)], Cont.cells ([] ++ (cs13 ++ sp13)), Cont.cells [(Value.bool a.Negative), a_v], Cont.cells [(Value.bool b.Negative), b_v], Cont.cells [(Value.bool r13.Negative), v10], Cont.cells [(Value.bool r14.Negative), v11], Cont.cells [(Value.bool r16.Negative), (osv ob12 0 (List.length r16.Digits) cap12), (Value.bool r17.Negative), (osv ob13 0 (List.length r17.Digits) cap13), (Value.bool r18.Negative), (osv ob14 0 (List.length r18.Digits) cap14), (Value.bool r19.Negative), (osv ob15 0 (List.length r19.Digits) cap15), (Value.bool r20.Negative), (osv ob16 0 (List.length r20.Digits) cap16), (Value.bool r21.Negative), (osv ob17 0 (List.length r21.Digits) cap17), (Value.bool r15.1.Negative), (osv ob10 0 (List.length r15.1.Digits) cap10), (Value.bool r15.2.1.Negative), (osv ob11 0 (List.length r15.2.1.Digits) cap11)], Cont.cells ([] ++ (cs18 ++ sp12)), Cont.cells ([] ++ (cs14 ++ sp14)), Cont.cells ([] ++ (cs15 ++ sp15)), Cont.cells ([] ++ (cs16 ++ sp16)), Cont.cells ([] ++ (cs17 ++ sp17)), Cont.cells ([] ++ (cs10 ++ sp10)), Cont.cells ([] ++ (cs11 ++ sp11))] := hp22.1
       have K47 := ks w hp22.2
       have f31 := (f30.mono (K47 None))
       refine Swp.loopM hl15 (fun (ss : ((List Int) × Int)) (e : Env) (w' : World) => match ss with | (digits15, x17) => ∃ (cs24 : List Value) (u : Env), e = upds [(1, (Value.pointer (some ⟨b20, 0, none⟩))), (5, (Value.int .i64 (List.length r17.Digits : Int))), (6, (Value.int .i64 x17))] u ∧ Go.X.Loc [] [] w w' [some b20, ob13, some b1, some b6, some b11, some b12, some b15, ob12, ob14, ob15, ob16, ob17, ob10, ob11] [Cont.cells [(Value.bool r17.Negative), (osv ob13 0 (List.length r17.Digits) cap13)], Cont.cells ([] ++ (cs24 ++ sp13)), Cont.cells [(Value.bool a.Negative), a_v], Cont.cells [(Value.bool b.Negative), b_v], Cont.cells [(Value.bool r13.Negative), v10], Cont.cells [(Value.bool r14.Negative), v11], Cont.cells [(Value.bool r16.Negative), (osv ob12 0 (List.length r16.Digits) cap12), (Value.bool r17.Negative), (osv ob13 0 (List.length r17.Digits) cap13), (Value.bool r18.Negative), (osv ob14 0 (List.length r18.Digits) cap14), (Value.bool r19.Negative), (osv ob15 0 (List.length r19.Digits) cap15), (Value.bool r20.Negative), (osv ob16 0 (List.length r20.Digits) cap16), (Value.bool r21.Negative), (osv ob17 0 (List.length r21.Digits) cap17), (Value.bool r15.1.Negative), (osv ob10 0 (List.length r15.1.Digits) cap10), (Value.bool r15.2.1.Negative), (osv ob11 0 (List.length r15.2.1.Digits) cap11)], Cont.cells ([] ++ (cs18 ++ sp12)), Cont.cells ([] ++ (cs14 ++ sp14)), Cont.cells ([] ++ (cs15 ++ sp15)), Cont.cells ([] ++ (cs16 ++ sp16)), Cont.cells ([] ++ (cs17 ++ sp17)), Cont.cells ([] ++ (cs10 ++ sp10)), Cont.cells ([] ++ (cs11 ++ sp11))] ∧ Keep w.heap.size [some b20, some b19, some b1, some b6, some b11, some b12, some b15, ob12, ob13, ob14, ob15, ob16, ob17, ob10, ob11] w51 [some b20, ob13, some b1, some b6, some b11, some b12, some b15, ob12, ob14, ob15, ob16, ob17, ob10, ob11] w' ∧ Els (rInt .u32) (Hv w.heap.size None [some b20, ob13, some b1, some b6, some b11, some b12, some b15, ob12, ob14, ob15, ob16, ob17, ob10, ob11] w') cs24 digits15 ∧ (List.length r17.Digits) = List.length digits15 ∧ (cs24 ++ sp13).length = cap13 * (rInt .u32).sz ∧ True) ⟨cs13, _, (upds_sym ⟨rfl, rfl, rfl, trivial⟩), hL50, K47, f31, rfl, hc16, trivial⟩ ?_
       rintro ⟨digits15, x17⟩ oo _ w52 ⟨cs24, u, rfl, hL51, K48, hE44, hl16, hc26, -⟩ h hd11
       rw [lawMemory_b2] at h
       refine Swp.seq (Swp.region rfl (Rl.op (OpY.lss (x := x17) (y := (List.length r17.Digits : Int)) ((x17 : Int) < (List.length r17.Digits : Int)) rfl rfl Iff.rfl ?_)))
       refine Rl.nil (Swp.seq ?_)
       refine Swp.cond_d ((x17 : Int) < (List.length r17.Digits : Int)) rfl (fun hc27 => ?_) (fun hc27 => ?_)
       ·
        replace h := ite_t hc27 h
        refine Swp.skip (Swp.seq (Swp.block (Swp.seq (Swp.region rfl (Rl.op (OpY.move (v := (Value.int .i64 x17)) rfl ?_))))))
        refine Rl.op (OpY.assign (v := (Value.int .i64 x17)) rfl ?_)
        refine Rl.nil (Swp.region rfl (Rl.op (OpY.fieldAddr (q := 1) Tryd.underlying24 rfl ti22 rfl rfl rfl ?_)))
        refine Rl.op (OpY.ldBox1 (v := (osv ob13 0 (List.length r17.Digits) cap13)) Tryd.underlying22 rfl rfl (hL51.at 0 rfl rfl) rfl ?_)
        refine Rl.op (OpY.move (v := (Value.int .i64 x17)) rfl ?_)
        obtain ⟨x18, q38, h⟩ := bind_some h
        obtain ⟨n13, q39, q40⟩ := idx_some q38
        have q41 := (List.getElem?_eq_some_iff.1 q40).1
        obtain ⟨b21, hb11⟩ := hL51.row_some 1 rfl rfl (row_pos (pre := []) hE44 q40 (Nat.lt_of_sub_eq_succ rfl))
        refine Rl.op (OpY.ixRowD (r := (rInt .u32)) (b := b21) (o := 0) (n := n13) (m := (List.length r17.Digits)) (xs := digits15) (q := (0 + n13 * (rInt .u32).sz)) Tryd.underlying22 ti47 (osv_some hb11) hl16 rfl q39 q41 rfl ?_)
        obtain ⟨vs11, q42, q43, q44⟩ := row_elem (pre := []) (sp := sp13) hE44 q40
        obtain rfl := q43
        refine Rl.op (OpY.ldElem1 (v := (Value.int .u32 x18)) Tryd.underlying47 rfl rfl (own_some hb11 (hL51.at 1 rfl rfl)) q44 ?_)
        refine Rl.op (OpY.add (x := x18) (y := 1) (z := (uw32 (x18 + 1))) rfl rfl rfl ?_)
        obtain ⟨x19, q45, h⟩ := bind_some h
        obtain ⟨n14, q46, q47⟩ := idx_some q45
        have q48 := (List.getElem?_eq_some_iff.1 q47).1
        refine Rl.op (OpY.ixRowD (r := (rInt .u32)) (b := b21) (o := 0) (n := n14) (m := (List.length r17.Digits)) (xs := digits15) (q := (0 + n14 * (rInt .u32).sz)) Tryd.underlying22 ti47 (osv_some hb11) hl16 rfl q46 q48 rfl ?_)
        obtain ⟨x20, q49, h⟩ := bind_some h
        obtain ⟨n15, q50, q51, q52⟩ := upd1_some q49
        obtain rfl := Int.ofNat_inj.1 (q46.symm.trans q50)
        refine Rl.op0 (OpY.stRowX (pre := []) (r := (rInt .u32)) (vs := [(Value.int .u32 (uw32 (x18 + 1)))]) (a := (uw32 (x18 + 1))) ti47 rfl rfl rfl rfl hL51 1 (congrArg some hb11) rfl hE44 q48 rfl q52 ?_)
        have hl17 : (List.length r17.Digits) = List.length x20 := by rw [q52, List.length_set]; exact hl16
        intro w53 cs25 (hL52 : Go.X.Loc [] [] w w53 [some b20, ob13, some b1, some b6, some b11, some b12, some b15, ob12, ob14, ob15, ob16, ob17, ob10, ob11] [Cont.cells [(Value.bool r17.Negative), (osv ob13 0 (List.length r17.Digits) cap13)], Cont.cells ([] ++ (cs25 ++ sp13)), Cont.cells [(Value.bool a.Negative), a_v], Cont.cells [(Value.bool b.Negative), b_v], Cont.cells [(Value.bool r13.Negative), v10], Cont.cells [(Value.bool r14.Negative), v11], Cont.cells [(Value.bool r16.Negative), (osv ob12 0 (List.length r16.Digits) cap12), (Value.bool r17.Negative), (osv ob13 0 (List.length r17.Digits) cap13), (Value.bool r18.Negative), (osv ob14 0 (List.length r18.Digits) cap14), (Value.bool r19.Negative), (osv ob15 0 (List.length r19.Digits) cap15), (Value.bool r20.Negative), (osv ob16 0 (List.length r20.Digits) cap16), (Value.bool r21.Negative), (osv ob17 0 (List.length r21.Digits) cap17), (Value.bool r15.1.Negative), (osv ob10 0 (List.length r15.1.Digits) cap10), (Value.bool r15.2.1.Negative), (osv ob11 0 (List.length r15.2.1.Digits) cap11)], Cont.cells ([] ++ (cs18 ++ sp12)), Cont.cells ([] ++ (cs14 ++ sp14)), Cont.cells ([] ++ (cs15 ++ sp15)), Cont.cells ([] ++ (cs16 ++ sp16)), Cont.cells ([] ++ (cs17 ++ sp17)), Cont.cells ([] ++ (cs10 ++ sp10)), Cont.cells ([] ++ (cs11 ++ sp11))]) hS28 hE45 q53
        have hc28 : (cs25 ++ sp13).length = cap13 * (rInt .u32).sz := by have := hc26; rw [List.length_append] at this ⊢; rw [q53]; exact this
        have K49 := ks w hS28
        refine Rl.nil (Swp.pop_blk (Swp.region rfl (Rl.op (OpY.add (x := x17) (y := 1) (z := (iw (x17 + 1))) rfl rfl rfl ?_))))
        refine Rl.op (OpY.move (v := (Value.int .i64 (iw (x17 + 1)))) rfl ?_)
        refine Rl.nil ?_
        have f32 := (hE45.mono (K49 None))
        obtain rfl := Option.some.inj h
        refine Swp.pop_back ⟨(x20, (iw (x17 + 1))), rfl, ?_⟩
        exact ⟨cs25, _, (upds_sym ⟨rfl, rfl, rfl, trivial⟩), hL52, (Keep.trans K48 K49), f32, hl17, hc28, trivial⟩
       ·
        replace h := ite_f hc27 h
        refine Swp.exit rfl ?_
        have hp23 := hL51.pick [2, 3, 4, 5, 6, 7, 1, 8, 9, 10, 11, 12, 13] rfl rfl rfl
        have hL53 : Go.X.Loc [] [] w w52 [some b1, some b6, some b11, some b12, some b15, ob12, ob13, ob14, ob15, ob16, ob17, ob10, ob11] [Cont.cells [(Value.bool a.Negative), a_v], Cont.cells [(Value.bool b.Negative), b_v], Cont.cells [(Value.bool r13.Negative), v10], Cont.cells [(Value.bool r14.Negative), v11], Cont.cells [(Value.bool r16.Negative), (osv ob12 0 (List.length r16.Digits) cap12), (Value.bool r17.Negative), (osv ob13 0 (List.length r17.Digits) cap13), (Value.bool r18.Negative), (osv ob14 0 (List.length r18.Digits) cap14), (Value.bool r19.Negative), (osv ob15 0 (List.length r19.Digits) cap15), (Value.bool r20.Negative), (osv ob16 0 (List.length r20.Digits) cap16), (Value.bool r21.Negative), (osv ob17 0 (List.length r21.Digits) cap17), (Value.bool r15.1.Negative), (osv ob10 0 (List.length r15.1.Digits) cap10), (Value.bool r15.2.1.Negative), (osv ob11 0 (List.length r15.2.1.Digits) cap11)], Cont.cells ([] ++ (cs18 ++ sp12)), Cont.cells ([] ++ (cs24 ++ sp13)), Cont.cells ([] ++ (cs14 ++ sp14)), Cont.cells ([] ++ (cs15 ++ sp15)), Cont.cells ([] ++ (cs16 ++ sp16)), Cont.cells ([] ++ (cs17 ++ sp17)), Cont.cells ([] ++ (cs10 ++ sp10)), Cont.cells ([] ++ (cs11 ++ sp11))] := hp23.1
        have K50 := ks w hp23.2
        have f33 := (hE44.mono (K50 None))
        obtain rfl := Option.some.inj h
        obtain rfl := hd11 _ rfl
        replace h := g14
        try dsimp only at h
        skip
        refine Swp.pop_back ?_
        exact ⟨x17, digits15, cs24, _, rfl, (upds_sym ⟨rfl, rfl, trivial⟩), hL53, (Keep.trans K48 K50), f33, hl16, hc26, trivial⟩
      ·
       rintro _ w54 ⟨x16, digits14, cs23, u, rfl, rfl, hL54, K51, hE46, hl18, hc29, -⟩
       replace h := g14
       try dsimp only at h
       refine ⟨[], trivial, ?_⟩
       obtain rfl := Option.some.inj h
       exact ⟨digits14, cs23, rfl, rfl, hL54, (Keep.trans K46 K51), hE46, hl18, hc29, trivial⟩
     ·
      rintro _ w55 ⟨digits13, cs22, rfl, rfl, hL55, K52, hE47, hl19, hc30, -⟩
      refine ⟨_, rfl, ?_⟩
      replace h := g13
      try dsimp only at h
      refine Rl.nil (Swp.pop_blk (Swp.region rfl (Rl.op (OpY.add (x := 1) (y := 1) (z := 2) rfl rfl rfl ?_))))
      refine Rl.op (OpY.move (v := (Value.int .i64 2)) rfl ?_)
      refine Rl.nil ?_
      refine Swp.pop_back (Swp.rnd (m := 6) ?_)
      refine Swp.seq (Swp.region rfl (Rl.op (OpY.lss (x := 2) (y := 8) ((2 : Int) < 8) rfl rfl Iff.rfl ?_)))
      refine Rl.nil (Swp.seq ?_)
      refine Swp.cond_t (b := (decide ((2 : Int) < 8))) rfl (decide_eq_true (by decide)) ?_
      refine Swp.skip (Swp.seq (Swp.block (Swp.seq (Swp.region rfl (Rl.op (OpY.indexAddr (i := 2) (q := 4) Tryd.underlying45 ti24 rfl rfl (by decide) rfl ?_))))))
      refine Rl.op (OpY.ldBoxA (vs := [(Value.bool r18.Negative), (osv ob14 0 (List.length r18.Digits) cap14)]) Tryd.underlying24 rfl ti24 rfl (hL55.at 4 rfl rfl) rfl rfl ?_)
      refine Rl.op (OpY.alloc (cs := [(Value.bool false), (Value.slice none 0 0)]) ti24 rfl hL55 ?_)
      intro b22 w56 hL56 hS29
      have K53 := ks w hS29
      refine Rl.op0 (OpY.store (vs := [(Value.bool r18.Negative), (osv ob14 0 (List.length r18.Digits) cap14)]) ti24 rfl rfl rfl rfl (ones_cons rfl (ones_cons (osv_one ob14 0 (List.length r18.Digits) cap14) ones_nil)) hL56 0 rfl rfl (Nat.le_of_ble_eq_true rfl) ?_)
      intro w57 (hL57 : Go.X.Loc [] [] w w57 [some b22, some b1, some b6, some b11, some b12, some b15, ob12, ob13, ob14, ob15, ob16, ob17, ob10, ob11] [Cont.cells [(Value.bool r18.Negative), (osv ob14 0 (List.length r18.Digits) cap14)], Cont.cells [(Value.bool a.Negative), a_v], Cont.cells [(Value.bool b.Negative), b_v], Cont.cells [(Value.bool r13.Negative), v10], Cont.cells [(Value.bool r14.Negative), v11], Cont.cells [(Value.bool r16.Negative), (osv ob12 0 (List.length r16.Digits) cap12), (Value.bool r17.Negative), (osv ob13 0 (List.length r17.Digits) cap13), (Value.bool r18.Negative), (osv ob14 0 (List.length r18.Digits) cap14), (Value.bool r19.Negative), (osv ob15 0 (List.length r19.Digits) cap15), (Value.bool r20.Negative), (osv ob16 0 (List.length r20.Digits) cap16), (Value.bool r21.Negative), (osv ob17 0 (List.length r21.Digits) cap17), (Value.bool r15.1.Negative), (osv ob10 0 (List.length r15.1.Digits) cap10), (Value.bool r15.2.1.Negative), (osv ob11 0 (List.length r15.2.1.Digits) cap11)], Cont.cells ([] ++ (cs18 ++ sp12)), Cont.cells ([] ++ (cs22 ++ sp13)), Cont.cells ([] ++ (cs14 ++ sp14)), Cont.cells ([] ++ (cs15 ++ sp15)), Cont.cells ([] ++ (cs16 ++ sp16)), Cont.cells ([] ++ (cs17 ++ sp17)), Cont.cells ([] ++ (cs10 ++ sp10)), Cont.cells ([] ++ (cs11 ++ sp11))]) hS30
      have K54 := ks w hS30
      refine Rl.nil (Swp.region rfl (Rl.op (OpY.ldBoxA (vs := [(Value.bool r18.Negative), (osv ob14 0 (List.length r18.Digits) cap14)]) Tryd.underlying24 rfl ti24 rfl (hL57.at 0 rfl rfl) rfl rfl ?_)))
      obtain ⟨s15, h, g15⟩ := bind_some h
      refine Rl.op (OpY.callg (T := fun e w' => ∃ (digits16 : (List Int)) (cs26 : List Value), digits16 = s15 ∧ e = Ending.returned (Value.tuple #[]) ∧ Go.X.Loc [] [] w w' [some b1, some b6, some b11, some b12, some b15, ob12, ob13, ob14, ob15, ob16, ob17, ob10, ob11] [Cont.cells [(Value.bool a.Negative), a_v], Cont.cells [(Value.bool b.Negative), b_v], Cont.cells [(Value.bool r13.Negative), v10], Cont.cells [(Value.bool r14.Negative), v11], Cont.cells [(Value.bool r16.Negative), (osv ob12 0 (List.length r16.Digits) cap12), (Value.bool r17.Negative), (osv ob13 0 (List.length r17.Digits) cap13), (Value.bool r18.Negative), (osv ob14 0 (List.length r18.Digits) cap14), (Value.bool r19.Negative), (osv ob15 0 (List.length r19.Digits) cap15), (Value.bool r20.Negative), (osv ob16 0 (List.length r20.Digits) cap16), (Value.bool r21.Negative), (osv ob17 0 (List.length r21.Digits) cap17), (Value.bool r15.1.Negative), (osv ob10 0 (List.length r15.1.Digits) cap10), (Value.bool r15.2.1.Negative), (osv ob11 0 (List.length r15.2.1.Digits) cap11)], Cont.cells ([] ++ (cs18 ++ sp12)), Cont.cells ([] ++ (cs22 ++ sp13)), Cont.cells ([] ++ (cs26 ++ sp14)), Cont.cells ([] ++ (cs15 ++ sp15)), Cont.cells ([] ++ (cs16 ++ sp16)), Cont.cells ([] ++ (cs17 ++ sp17)), Cont.cells ([] ++ (cs10 ++ sp10)), Cont.cells ([] ++ (cs11 ++ sp11))] ∧ Keep w.heap.size [some b22, some b1, some b6, some b11, some b12, some b15, ob12, ob13, ob14, ob15, ob16, ob17, ob10, ob11] w57 [some b1, some b6, some b11, some b12, some b15, ob12, ob13, ob14, ob15, ob16, ob17, ob10, ob11] w' ∧ Els (rInt .u32) (Hv w.heap.size None [some b1, some b6, some b11, some b12, some b15, ob12, ob13, ob14, ob15, ob16, ob17, ob10, ob11] w') cs26 digits16 ∧ (List.length r18.Digits) = List.length digits16 ∧ (cs26 ++ sp14).length = cap14 * (rInt .u32).sz ∧ True) en43 rfl rfl ?_ ?_)
      ·
       refine calls_of (l := [(Value.agg #[(Value.bool r18.Negative), (osv ob14 0 (List.length r18.Digits) cap14)])]) (rl := []) (n := 17) Tryd.func43 rfl rfl rfl (Nat.le_of_ble_eq_true rfl) ?_
       refine Swp.seq (Swp.region rfl (Rl.op (OpY.box (cs := [(Value.bool r18.Negative), (osv ob14 0 (List.length r18.Digits) cap14)]) rfl rfl hL57 ?_)))
       intro b23 w58 hL58 hS31
       have K55 := ks w hS31
       refine Rl.nil (Swp.seq (Swp.region rfl (Rl.op (OpY.fieldAddr (q := 1) Tryd.underlying24 rfl ti22 rfl rfl rfl ?_))))
       refine Rl.op (OpY.ldBox1 (v := (osv ob14 0 (List.length r18.Digits) cap14)) Tryd.underlying22 rfl rfl (hL58.at 0 rfl rfl) rfl ?_)
       have f34 := (((((((((((((hE33.mono (K31 None)).mono (K32 None)).mono (K33 None)).mono (K34 None)).mono (K35 None)).mono (K36 None)).mono (K43 None)).mono (K44 None)).mono (K45 None)).mono (K52 None)).mono (K53 None)).mono (K54 None)).mono (K55 None))
       refine Rl.op (OpY.lenRow (pre := []) (r := (rInt .u32)) (xs := r18.Digits) Tryd.underlying22 rfl (hL58.at 9 rfl rfl) f34 rfl rfl ?_)
       refine Rl.op (OpY.move (v := (Value.int .i64 0)) rfl ?_)
       refine Rl.nil ?_
       obtain ⟨s16, hl20, g16⟩ := bind_some h
       refine Swp.join (fun e w' => ∃ (x21 : Int) (digits17 : (List Int)) (cs27 : List Value) (u : Env), (x21, digits17) = s16 ∧ e = upds [(5, (Value.int .i64 (List.length r18.Digits : Int))), (6, (Value.int .i64 x21))] u ∧ Go.X.Loc [] [] w w' [some b1, some b6, some b11, some b12, some b15, ob12, ob13, ob14, ob15, ob16, ob17, ob10, ob11] [Cont.cells [(Value.bool a.Negative), a_v], Cont.cells [(Value.bool b.Negative), b_v], Cont.cells [(Value.bool r13.Negative), v10], Cont.cells [(Value.bool r14.Negative), v11], Cont.cells [(Value.bool r16.Negative), (osv ob12 0 (List.length r16.Digits) cap12), (Value.bool r17.Negative), (osv ob13 0 (List.length r17.Digits) cap13), (Value.bool r18.Negative), (osv ob14 0 (List.length r18.Digits) cap14), (Value.bool r19.Negative), (osv ob15 0 (List.length r19.Digits) cap15), (Value.bool r20.Negative), (osv ob16 0 (List.length r20.Digits) cap16), (Value.bool r21.Negative), (osv ob17 0 (List.length r21.Digits) cap17), (Value.bool r15.1.Negative), (osv ob10 0 (List.length r15.1.Digits) cap10), (Value.bool r15.2.1.Negative), (osv ob11 0 (List.length r15.2.1.Digits) cap11)], Cont.cells ([] ++ (cs18 ++ sp12)), Cont.cells ([] ++ (cs22 ++ sp13)), Cont.cells ([] ++ (cs27 ++ sp14)), Cont.cells ([] ++ (cs15 ++ sp15)), Cont.cells ([] ++ (cs16 ++ sp16)), Cont.cells ([] ++ (cs17 ++ sp17)), Cont.cells ([] ++ (cs10 ++ sp10)), Cont.cells ([] ++ (cs11 ++ sp11))] ∧ Keep w.heap.size [some b23, some b22, some b1, some b6, some b11, some b12, some b15, ob12, ob13, ob14, ob15, ob16, ob17, ob10, ob11] w58 [some b1, some b6, some b11, some b12, some b15, ob12, ob13, ob14, ob15, ob16, ob17, ob10, ob11] w' ∧ Els (rInt .u32) (Hv w.heap.size None [some b1, some b6, some b11, some b12, some b15, ob12, ob13, ob14, ob15, ob16, ob17, ob10, ob11] w') cs27 digits17 ∧ (List.length r18.Digits) = List.length digits17 ∧ (cs27 ++ sp14).length = cap14 * (rInt .u32).sz ∧ True) ?_ ?_
       ·
        refine Swp.block ?_
        have hp24 := hL58.pick [0, 9, 2, 3, 4, 5, 6, 7, 8, 10, 11, 12, 13, 14] rfl rfl rfl
        have hL59 : Go.X.Loc [] [] w w58 [some b23, ob14, some b1, some b6, some b11, some b12, some b15, ob12, ob13, ob15, ob16, ob17, ob10, ob11] [Cont.cells [(Value.bool r18.Negative), (osv ob14 0 (List.length r18.Digits) cap14)], Cont.cells ([] ++ (cs14 ++ sp14)), Cont.cells [(Value.bool a.Negative), a_v], Cont.cells [(Value.bool b.Negative), b_v], Cont.cells [(Value.bool r13.Negative), v10], Cont.cells [(Value.bool r14.Negative), v11], Cont.cells [(Value.bool r16.Negative), (osv ob12 0 (List.length r16.Digits) cap12), (Value.bool r17.Negative), (osv ob13 0 (List.length r17.Digits) cap13), (Value.bool r18.Negative), (osv ob14 0 (List.length r18.Digits) cap14), (Value.bool r19.Negative), (osv ob15 0 (List.length r19.Digits) cap15), (Value.bool r20.Negative), (osv ob16 0 (List.length r20.Digits) cap16), (Value.bool r21.Negative), (osv ob17 0 (List.length r21.Digits) cap17), (Value.bool r15.1.Negative), (osv ob10 0 (List.length r15.1.Digits) cap10), (Value.bool r15.2.1.Negative), (osv ob11 0 (List.length r15.2.1.Digits) cap11)], Cont.cells ([] ++ (cs18 ++ sp12)), Cont.cells ([] ++ (cs22 ++ sp13)), Cont.cells ([] ++ (cs15 ++ sp15)), Cont.cells ([] ++ (cs16 ++ sp16)), Cont.cells ([] ++ (cs17 ++ sp17)), Cont.cells ([] ++ (cs10 ++ sp10)), Cont.cells ([] ++ (cs11 ++ sp11))] := hp24.1
        have K56 := ks w hp24.2
        have f35 := (f34.mono (K56 None))
        refine Swp.loopM hl20 (fun (ss : ((List Int) × Int)) (e : Env) (w' : World) => match ss with | (digits18, x22) => ∃ (cs28 : List Value) (u : Env), e = upds [(1, (Value.pointer (some ⟨b23, 0, none⟩))), (5, (Value.int .i64 (List.length r18.Digits : Int))), (6, (Value.int .i64 x22))] u ∧ Go.X.Loc [] [] w w' [some b23, ob14, some b1, some b6, some b11, some b12, some b15, ob12, ob13, ob15, ob16, ob17, ob10, ob11] [Cont.cells [(Value.bool r18.Negative), (osv ob14 0 (List.length r18.Digits) cap14)], Cont.cells ([] ++ (cs28 ++ sp14)), Cont.cells [(Value.bool a.Negative), a_v], Cont.cells [(Value.bool b.Negative), b_v], Cont.cells [(Value.bool r13.Negative), v10], Cont.cells [(Value.bool r14.Negative), v11], Cont.cells [(Value.bool r16.Negative), (osv ob12 0 (List.length r16.Digits) cap12), (Value.bool r17.Negative), (osv ob13 0 (List.length r17.Digits) cap13), (Value.bool r18.Negative), (osv ob14 0 (List.length r18.Digits) cap14), (Value.bool r19.Negative), (osv ob15 0 (List.length r19.Digits) cap15), (Value.bool r20.Negative), (osv ob16 0 (List.length r20.Digits) cap16), (Value.bool r21.Negative), (osv ob17 0 (List.length r21.Digits) cap17), (Value.bool r15.1.Negative), (osv ob10 0 (List.length r15.1.Digits) cap10), (Value.bool r15.2.1.Negative), (osv ob11 0 (List.length r15.2.1.Digits) cap11)], Cont.cells ([] ++ (cs18 ++ sp12)), Cont.cells ([] ++ (cs22 ++ sp13)), Cont.cells ([] ++ (cs15 ++ sp15)), Cont.cells ([] ++ (cs16 ++ sp16)), Cont.cells ([] ++ (cs17 ++ sp17)), Cont.cells ([] ++ (cs10 ++ sp10)), Cont.cells ([] ++ (cs11 ++ sp11))] ∧ Keep w.heap.size [some b23, some b22, some b1, some b6, some b11, some b12, some b15, ob12, ob13, ob14, ob15, ob16, ob17, ob10, ob11] w58 [some b23, ob14, some b1, some b6, some b11, some b12, some b15, ob12, ob13, ob15, ob16, ob17, ob10, ob11] w' ∧ Els (rInt .u32) (Hv w.heap.size None [some b23, ob14, some b1, some b6, some b11, some b12, some b15, ob12, ob13, ob15, ob16, ob17, ob10, ob11] w') cs28 digits18 ∧ (List.length r18.Digits) = List.length digits18 ∧ (cs28 ++ sp14).length = cap14 * (rInt .u32).sz ∧ True) ⟨cs14, _, (upds_sym ⟨rfl, rfl, rfl, trivial⟩), hL59, K56, f35, rfl, hc17, trivial⟩ ?_
        rintro ⟨digits18, x22⟩ oo _ w59 ⟨cs28, u, rfl, hL60, K57, hE48, hl21, hc31, -⟩ h hd12
        rw [lawMemory_b3] at h
        refine Swp.seq (Swp.region rfl (Rl.op (OpY.lss (x := x22) (y := (List.length r18.Digits : Int)) ((x22 : Int) < (List.length r18.Digits : Int)) rfl rfl Iff.rfl ?_)))
        refine Rl.nil (Swp.seq ?_)
        refine Swp.cond_d ((x22 : Int) < (List.length r18.Digits : Int)) rfl (fun hc32 => ?_) (fun hc32 => ?_)
        ·
         replace h := ite_t hc32 h
         refine Swp.skip (Swp.seq (Swp.block (Swp.seq (Swp.region rfl (Rl.op (OpY.move (v := (Value.int .i64 x22)) rfl ?_))))))
         refine Rl.op (OpY.assign (v := (Value.int .i64 x22)) rfl ?_)
         refine Rl.nil (Swp.region rfl (Rl.op (OpY.fieldAddr (q := 1) Tryd.underlying24 rfl ti22 rfl rfl rfl ?_)))
         refine Rl.op (OpY.ldBox1 (v := (osv ob14 0 (List.length r18.Digits) cap14)) Tryd.underlying22 rfl rfl (hL60.at 0 rfl rfl) rfl ?_)
         refine Rl.op (OpY.move (v := (Value.int .i64 x22)) rfl ?_)
         obtain ⟨x23, q54, h⟩ := bind_some h
         obtain ⟨n16, q55, q56⟩ := idx_some q54
         have q57 := (List.getElem?_eq_some_iff.1 q56).1
         obtain ⟨b24, hb12⟩ := hL60.row_some 1 rfl rfl (row_pos (pre := []) hE48 q56 (Nat.lt_of_sub_eq_succ rfl))
         refine Rl.op (OpY.ixRowD (r := (rInt .u32)) (b := b24) (o := 0) (n := n16) (m := (List.length r18.Digits)) (xs := digits18) (q := (0 + n16 * (rInt .u32).sz)) Tryd.underlying22 ti47 (osv_some hb12) hl21 rfl q55 q57 rfl ?_)
         obtain ⟨vs12, q58, q59, q60⟩ := row_elem (pre := []) (sp := sp14) hE48 q56
         obtain rfl := q59
         refine Rl.op (OpY.ldElem1 (v := (Value.int .u32 x23)) Tryd.underlying47 rfl rfl (own_some hb12 (hL60.at 1 rfl rfl)) q60 ?_)
         refine Rl.op (OpY.add (x := x23) (y := 1) (z := (uw32 (x23 + 1))) rfl rfl rfl ?_)
         obtain ⟨x24, q61, h⟩ := bind_some h
         obtain ⟨n17, q62, q63⟩ := idx_some q61
         have q64 := (List.getElem?_eq_some_iff.1 q63).1
         refine Rl.op (OpY.ixRowD (r := (rInt .u32)) (b := b24) (o := 0) (n := n17) (m := (List.length r18.Digits)) (xs := digits18) (q := (0 + n17 * (rInt .u32).sz)) Tryd.underlying22 ti47 (osv_some hb12) hl21 rfl q62 q64 rfl ?_)
         obtain ⟨x25, q65, h⟩ := bind_some h
         obtain ⟨n18, q66, q67, q68⟩ := upd1_some q65
         obtain rfl := Int.ofNat_inj.1 (q62.symm.trans q66)
         refine Rl.op0 (OpY.stRowX (pre := []) (r := (rInt .u32)) (vs := [(Value.int .u32 (uw32 (x23 + 1)))]) (a := (uw32 (x23 + 1))) ti47 rfl rfl rfl rfl hL60 1 (congrArg some hb12) rfl hE48 q64 rfl q68 ?_)
         have hl22 : (List.length r18.Digits) = List.length x25 := by rw [q68, List.length_set]; exact hl21
         intro w60 cs29 (hL61 : Go.X.Loc [] [] w w60 [some b23, ob14, some b1, some b6, some b11, some b12, some b15, ob12, ob13, ob15, ob16, ob17, ob10, ob11] [Cont.cells [(Value.bool r18.Negative), (osv ob14 0 (List.length r18.Digits) cap14)], Cont.cells ([] ++ (cs29 ++ sp14)), Cont.cells [(Value.bool a.Negative), a_v], Cont.cells [(Value.bool b.Negative), b_v], Cont.cells [(Value.bool r13.Negative), v10], Cont.cells [(Value.bool r14.Negative), v11], Cont.cells [(Value.bool r16.Negative), (osv ob12 0 (List.length r16.Digits) cap12), (Value.bool r17.Negative), (osv ob13 0 (List.length r17.Digits) cap13), (Value.bool r18.Negative), (osv ob14 0 (List.length r18.Digits) cap14), (Value.bool r19.Negative), (osv ob15 0 (List.length r19.Digits) cap15), (Value.bool r20.Negative), (osv ob16 0 (List.length r20.Digits) cap16), (Value.bool r21.Negative), (osv ob17 0 (List.length r21.Digits) cap17), (Value.bool r15.1.Negative), (osv ob10 0 (List.length r15.1.Digits) cap10), (Value.bool r15.2.1.Negative), (osv ob11 0 (List.length r15.2.1.Digits) cap11)], Cont.cells ([] ++ (cs18 ++ sp12)), Cont.cells ([] ++ (cs22 ++ sp13)), Cont.cells ([] ++ (cs15 ++ sp15)), Cont.cells ([] ++ (cs16 ++ sp16)), Cont.cells ([] ++ (cs17 ++ sp17)), Cont.cells ([] ++ (cs10 ++ sp10)), Cont.cells ([] ++ (cs11 ++ sp11))]) hS32 hE49 q69
         have hc33 : (cs29 ++ sp14).length = cap14 * (rInt .u32).sz := by have := hc31; rw [List.length_append] at this ⊢; rw [q69]; exact this
         have K58 := ks w hS32
         refine Rl.nil (Swp.pop_blk (Swp.region rfl (Rl.op (OpY.add (x := x22) (y := 1) (z := (iw (x22 + 1))) rfl rfl rfl ?_))))
         refine Rl.op (OpY.move (v := (Value.int .i64 (iw (x22 + 1)))) rfl ?_)
         refine Rl.nil ?_
         have f36 := (hE49.mono (K58 None))
         obtain rfl := Option.some.inj h
         refine Swp.pop_back ⟨(x25, (iw (x22 + 1))), rfl, ?_⟩
         exact ⟨cs29, _, (upds_sym ⟨rfl, rfl, rfl, trivial⟩), hL61, (Keep.trans K57 K58), f36, hl22, hc33, trivial⟩
        ·
         replace h := ite_f hc32 h
         refine Swp.exit rfl ?_
         have hp25 := hL60.pick [2, 3, 4, 5, 6, 7, 8, 1, 9, 10, 11, 12, 13] rfl rfl rfl
         have hL62 : Go.X.Loc [] [] w w59 [some b1, some b6, some b11, some b12, some b15, ob12, ob13, ob14, ob15, ob16, ob17, ob10, ob11] [Cont.cells [(Value.bool a.Negative), a_v], Cont.cells [(Value.bool b.Negative), b_v], Cont.cells [(Value.bool r13.Negative), v10], Cont.cells [(Value.bool r14.Negative), v11], Cont.cells [(Value.bool r16.Negative), (osv ob12 0 (List.length r16.Digits) cap12), (Value.bool r17.Negative), (osv ob13 0 (List.length r17.Digits) cap13), (Value.bool r18.Negative), (osv ob14 0 (List.length r18.Digits) cap14), (Value.bool r19.Negative), (osv ob15 0 (List.length r19.Digits) cap15), (Value.bool r20.Negative), (osv ob16 0 (List.length r20.Digits) cap16), (Value.bool r21.Negative), (osv ob17 0 (List.length r21.Digits) cap17), (Value.bool r15.1.Negative), (osv ob10 0 (List.length r15.1.Digits) cap10), (Value.bool r15.2.1.Negative), (osv ob11 0 (List.length r15.2.1.Digits) cap11)], Cont.cells ([] ++ (cs18 ++ sp12)), Cont.cells ([] ++ (cs22 ++ sp13)), Cont.cells ([] ++ (cs28 ++ sp14)), Cont.cells ([] ++ (cs15 ++ sp15)), Cont.cells ([] ++ (cs16 ++ sp16)), Cont.cells ([] ++ (cs17 ++ sp17)), Cont.cells ([] ++ (cs10 ++ sp10)), Cont.cells ([] ++ (cs11 ++ sp11))] := hp25.1
         have K59 := ks w hp25.2
         have f37 := (hE48.mono (K59 None))
         obtain rfl := Option.some.inj h
         obtain rfl := hd12 _ rfl
         replace h := g16
         try dsimp only at h
         skip
         refine Swp.pop_back ?_
         exact ⟨x22, digits18, cs28, _, rfl, (upds_sym ⟨rfl, rfl, trivial⟩), hL62, (Keep.trans K57 K59), f37, hl21, hc31, trivial⟩
       ·
        rintro _ w61 ⟨x21, digits17, cs27, u, rfl, rfl, hL63, K60, hE50, hl23, hc34, -⟩
        replace h := g16
        try dsimp only at h
        refine ⟨[], trivial, ?_⟩
        obtain rfl := Option.some.inj h
        exact ⟨digits17, cs27, rfl, rfl, hL63, (Keep.trans K55 K60), hE50, hl23, hc34, trivial⟩
      ·
       rintro _ w62 ⟨digits16, cs26, rfl, rfl, hL64, K61, hE51, hl24, hc35, -⟩
       refine ⟨_, rfl, ?_⟩
       replace h := g15
       try dsimp only at h
       refine Rl.nil (Swp.pop_blk (Swp.region rfl (Rl.op (OpY.add (x := 2) (y := 1) (z := 3) rfl rfl rfl ?_))))
       refine Rl.op (OpY.move (v := (Value.int .i64 3)) rfl ?_)
       refine Rl.nil ?_
       refine Swp.pop_back (Swp.rnd (m := 5) ?_)
       refine Swp.seq (Swp.region rfl (Rl.op (OpY.lss (x := 3) (y := 8) ((3 : Int) < 8) rfl rfl Iff.rfl ?_)))
       refine Rl.nil (Swp.seq ?_)
       refine Swp.cond_t (b := (decide ((3 : Int) < 8))) rfl (decide_eq_true (by decide)) ?_
       refine Swp.skip (Swp.seq (Swp.block (Swp.seq (Swp.region rfl (Rl.op (OpY.indexAddr (i := 3) (q := 6) Tryd.underlying45 ti24 rfl rfl (by decide) rfl ?_))))))
       refine Rl.op (OpY.ldBoxA (vs := [(Value.bool r19.Negative), (osv ob15 0 (List.length r19.Digits) cap15)]) Tryd.underlying24 rfl ti24 rfl (hL64.at 4 rfl rfl) rfl rfl ?_)
       refine Rl.op (OpY.alloc (cs := [(Value.bool false), (Value.slice none 0 0)]) ti24 rfl hL64 ?_)
       intro b25 w63 hL65 hS33
       have K62 := ks w hS33
       refine Rl.op0 (OpY.store (vs := [(Value.bool r19.Negative), (osv ob15 0 (List.length r19.Digits) cap15)]) ti24 rfl rfl rfl rfl (ones_cons rfl (ones_cons (osv_one ob15 0 (List.length r19.Digits) cap15) ones_nil)) hL65 0 rfl rfl (Nat.le_of_ble_eq_true rfl) ?_)
       intro w64 (hL66 : Go.X.Loc [] [] w w64 [some b25, some b1, some b6, some b11, some b12, some b15, ob12, ob13, ob14, ob15, ob16, ob17, ob10, ob11] [Cont.cells [(Value.bool r19.Negative), (osv ob15 0 (List.length r19.Digits) cap15)], Cont.cells [(Value.bool a.Negative), a_v], Cont.cells [(Value.bool b.Negative), b_v], Cont.cells [(Value.bool r13.Negative), v10], Cont.cells [(Value.bool r14.Negative), v11], Cont.cells [(Value.bool r16.Negative), (osv ob12 0 (List.length r16.Digits) cap12), (Value.bool r17.Negative), (osv ob13 0 (List.length r17.Digits) cap13), (Value.bool r18.Negative), (osv ob14 0 (List.length r18.Digits) cap14), (Value.bool r19.Negative), (osv ob15 0 (List.length r19.Digits) cap15), (Value.bool r20.Negative), (osv ob16 0 (List.length r20.Digits) cap16), (Value.bool r21.Negative), (osv ob17 0 (List.length r21.Digits) cap17), (Value.bool r15.1.Negative), (osv ob10 0 (List.length r15.1.Digits) cap10), (Value.bool r15.2.1.Negative), (osv ob11 0 (List.length r15.2.1.Digits) cap11)], Cont.cells ([] ++ (cs18 ++ sp12)), Cont.cells ([] ++ (cs22 ++ sp13)), Cont.cells ([] ++ (cs26 ++ sp14)), Cont.cells ([] ++ (cs15 ++ sp15)), Cont.cells ([] ++ (cs16 ++ sp16)), Cont.cells ([] ++ (cs17 ++ sp17)), Cont.cells ([] ++ (cs10 ++ sp10)), Cont.cells ([] ++ (cs11 ++ sp11))]) hS34
       have K63 := ks w hS34
       refine Rl.nil (Swp.region rfl (Rl.op (OpY.ldBoxA (vs := [(Value.bool r19.Negative), (osv ob15 0 (List.length r19.Digits) cap15)]) Tryd.underlying24 rfl ti24 rfl (hL66.at 0 rfl rfl) rfl rfl ?_)))
       obtain ⟨s17, h, g17⟩ := bind_some h
       refine Rl.op (OpY.callg (T := fun e w' => ∃ (digits19 : (List Int)) (cs30 : List Value), digits19 = s17 ∧ e = Ending.returned (Value.tuple #[]) ∧ Go.X.Loc [] [] w w' [some b1, some b6, some b11, some b12, some b15, ob12, ob13, ob14, ob15, ob16, ob17, ob10, ob11] [Cont.cells [(Value.bool a.Negative), a_v], Cont.cells [(Value.bool b.Negative), b_v], Cont.cells [(Value.bool r13.Negative), v10], Cont.cells [(Value.bool r14.Negative), v11], Cont.cells [(Value.bool r16.Negative), (osv ob12 0 (List.length r16.Digits) cap12), (Value.bool r17.Negative), (osv ob13 0 (List.length r17.Digits) cap13), (Value.bool r18.Negative), (osv ob14 0 (List.length r18.Digits) cap14), (Value.bool r19.Negative), (osv ob15 0 (List.length r19.Digits) cap15), (Value.bool r20.Negative), (osv ob16 0 (List.length r20.Digits) cap16), (Value.bool r21.Negative), (osv ob17 0 (List.length r21.Digits) cap17), (Value.bool r15.1.Negative), (osv ob10 0 (List.length r15.1.Digits) cap10), (Value.bool r15.2.1.Negative), (osv ob11 0 (List.length r15.2.1.Digits) cap11)], Cont.cells ([] ++ (cs18 ++ sp12)), Cont.cells ([] ++ (cs22 ++ sp13)), Cont.cells ([] ++ (cs26 ++ sp14)), Cont.cells ([] ++ (cs30 ++ sp15)), Cont.cells ([] ++ (cs16 ++ sp16)), Cont.cells ([] ++ (cs17 ++ sp17)), Cont.cells ([] ++ (cs10 ++ sp10)), Cont.cells ([] ++ (cs11 ++ sp11))] ∧ Keep w.heap.size [some b25, some b1, some b6, some b11, some b12, some b15, ob12, ob13, ob14, ob15, ob16, ob17, ob10, ob11] w64 [some b1, some b6, some b11, some b12, some b15, ob12, ob13, ob14, ob15, ob16, ob17, ob10, ob11] w' ∧ Els (rInt .u32) (Hv w.heap.size None [some b1, some b6, some b11, some b12, some b15, ob12, ob13, ob14, ob15, ob16, ob17, ob10, ob11] w') cs30 digits19 ∧ (List.length r19.Digits) = List.length digits19 ∧ (cs30 ++ sp15).length = cap15 * (rInt .u32).sz ∧ True) en43 rfl rfl ?_ ?_)
       ·
        refine calls_of (l := [(Value.agg #[(Value.bool r19.Negative), (osv ob15 0 (List.length r19.Digits) cap15)])]) (rl := []) (n := 17) Tryd.func43 rfl rfl rfl (Nat.le_of_ble_eq_true rfl) ?_
        refine Swp.seq (Swp.region rfl (Rl.op (OpY.box (cs := [(Value.bool r19.Negative), (osv ob15 0 (List.length r19.Digits) cap15)]) rfl rfl hL66 ?_)))
        intro b26 w65 hL67 hS35
        have K64 := ks w hS35
        refine Rl.nil (Swp.seq (Swp.region rfl (Rl.op (OpY.fieldAddr (q := 1) Tryd.underlying24 rfl ti22 rfl rfl rfl ?_))))
        refine Rl.op (OpY.ldBox1 (v := (osv ob15 0 (List.length r19.Digits) cap15)) Tryd.underlying22 rfl rfl (hL67.at 0 rfl rfl) rfl ?_)
        have f38 := (((((((((((((((hE35.mono (K32 None)).mono (K33 None)).mono (K34 None)).mono (K35 None)).mono (K36 None)).mono (K43 None)).mono (K44 None)).mono (K45 None)).mono (K52 None)).mono (K53 None)).mono (K54 None)).mono (K61 None)).mono (K62 None)).mono (K63 None)).mono (K64 None))
        refine Rl.op (OpY.lenRow (pre := []) (r := (rInt .u32)) (xs := r19.Digits) Tryd.underlying22 rfl (hL67.at 10 rfl rfl) f38 rfl rfl ?_)
        refine Rl.op (OpY.move (v := (Value.int .i64 0)) rfl ?_)
        refine Rl.nil ?_
        obtain ⟨s18, hl25, g18⟩ := bind_some h
        refine Swp.join (fun e w' => ∃ (x26 : Int) (digits20 : (List Int)) (cs31 : List Value) (u : Env), (x26, digits20) = s18 ∧ e = upds [(5, (Value.int .i64 (List.length r19.Digits : Int))), (6, (Value.int .i64 x26))] u ∧ Go.X.Loc [] [] w w' [some b1, some b6, some b11, some b12, some b15, ob12, ob13, ob14, ob15, ob16, ob17, ob10, ob11] [Cont.cells [(Value.bool a.Negative), a_v], Cont.cells [(Value.bool b.Negative), b_v], Cont.cells [(Value.bool r13.Negative), v10], Cont.cells [(Value.bool r14.Negative), v11], Cont.cells [(Value.bool r16.Negative), (osv ob12 0 (List.length r16.Digits) cap12), (Value.bool r17.Negative), (osv ob13 0 (List.length r17.Digits) cap13), (Value.bool r18.Negative), (osv ob14 0 (List.length r18.Digits) cap14), (Value.bool r19.Negative), (osv ob15 0 (List.length r19.Digits) cap15), (Value.bool r20.Negative), (osv ob16 0 (List.length r20.Digits) cap16), (Value.bool r21.Negative), (osv ob17 0 (List.length r21.Digits) cap17), (Value.bool r15.1.Negative), (osv ob10 0 (List.length r15.1.Digits) cap10), (Value.bool r15.2.1.Negative), (osv ob11 0 (List.length r15.2.1.Digits) cap11)], Cont.cells ([] ++ (cs18 ++ sp12)), Cont.cells ([] ++ (cs22 ++ sp13)), Cont.cells ([] ++ (cs26 ++ sp14)), Cont.cells ([] ++ (cs31 ++ sp15)), Cont.cells ([] ++ (cs16 ++ sp16)), Cont.cells ([] ++ (cs17 ++ sp17)), Cont.cells ([] ++ (cs10 ++ sp10)), Cont.cells ([] ++ (cs11 ++ sp11))] ∧ Keep w.heap.size [some b26, some b25, some b1, some b6, some b11, some b12, some b15, ob12, ob13, ob14, ob15, ob16, ob17, ob10, ob11] w65 [some b1, some b6, some b11, some b12, some b15, ob12, ob13, ob14, ob15, ob16, ob17, ob10, ob11] w' ∧ Els (rInt .u32) (Hv w.heap.size None [some b1, some b6, some b11, some b12, some b15, ob12, ob13, ob14, ob15, ob16, ob17, ob10, ob11] w') cs31 digits20 ∧ (List.length r19.Digits) = List.length digits20 ∧ (cs31 ++ sp15).length = cap15 * (rInt .u32).sz ∧ True) ?_ ?_
        ·
         refine Swp.block ?_
         have hp26 := hL67.pick [0, 10, 2, 3, 4, 5, 6, 7, 8, 9, 11, 12, 13, 14] rfl rfl rfl
         have hL68 : Go.X.Loc [] [] w w65 [some b26, ob15, some b1, some b6, some b11, some b12, some b15, ob12, ob13, ob14, ob16, ob17, ob10, ob11] [Cont.cells [(Value.bool r19.Negative), (osv ob15 0 (List.length r19.Digits) cap15)], Cont.cells ([] ++ (cs15 ++ sp15)), Cont.cells [(Value.bool a.Negative), a_v], Cont.cells [(Value.bool b.Negative), b_v], Cont.cells [(Value.bool r13.Negative), v10], Cont.cells [(Value.bool r14.Negative), v11], Cont.cells [(Value.bool r16.Negative), (osv ob12 0 (List.length r16.Digits) cap12), (Value.bool r17.Negative), (osv ob13 0 (List.length r17.Digits) cap13), (Value.bool r18.Negative), (osv ob14 0 (List.length r18.Digits) cap14), (Value.bool r19.Negative), (osv ob15 0 (List.length r19.Digits) cap15), (Value.bool r20.Negative), (osv ob16 0 (List.length r20.Digits) cap16), (Value.bool r21.Negative), (osv ob17 0 (List.length r21.Digits) cap17), (Value.bool r15.1.Negative), (osv ob10 0 (List.length r15.1.Digits) cap10), (Value.bool r15.2.1.Negative), (osv ob11 0 (List.length r15.2.1.Digits) cap11)], Cont.cells ([] ++ (cs18 ++ sp12)), Cont.cells ([] ++ (cs22 ++ sp13)), Cont.cells ([] ++ (cs26 ++ sp14)), Cont.cells ([] ++ (cs16 ++ sp16)), Cont.cells ([] ++ (cs17 ++ sp17)), Cont.cells ([] ++ (cs10 ++ sp10)), Cont.cells ([] ++ (cs11 ++ sp11))] := hp26.1
         have K65 := ks w hp26.2
         have f39 := (f38.mono (K65 None))
         refine Swp.loopM hl25 (fun (ss : ((List Int) × Int)) (e : Env) (w' : World) => match ss with | (digits21, x27) => ∃ (cs32 : List Value) (u : Env), e = upds [(1, (Value.pointer (some ⟨b26, 0, none⟩))), (5, (Value.int .i64 (List.length r19.Digits : Int))), (6, (Value.int .i64 x27))] u ∧ Go.X.Loc [] [] w w' [some b26, ob15, some b1, some b6, some b11, some b12, some b15, ob12, ob13, ob14, ob16, ob17, ob10, ob11] [Cont.cells [(Value.bool r19.Negative), (osv ob15 0 (List.length r19.Digits) cap15)], Cont.cells ([] ++ (cs32 ++ sp15)), Cont.cells [(Value.bool a.Negative), a_v], Cont.cells [(Value.bool b.Negative), b_v], Cont.cells [(Value.bool r13.Negative), v10], Cont.cells [(Value.bool r14.Negative), v11], Cont.cells [(Value.bool r16.Negative), (osv ob12 0 (List.length r16.Digits) cap12), (Value.bool r17.Negative), (osv ob13 0 (List.length r17.Digits) cap13), (Value.bool r18.Negative), (osv ob14 0 (List.length r18.Digits) cap14), (Value.bool r19.Negative), (osv ob15 0 (List.length r19.Digits) cap15), (Value.bool r20.Negative), (osv ob16 0 (List.length r20.Digits) cap16), (Value.bool r21.Negative), (osv ob17 0 (List.length r21.Digits) cap17), (Value.bool r15.1.Negative), (osv ob10 0 (List.length r15.1.Digits) cap10), (Value.bool r15.2.1.Negative), (osv ob11 0 (List.length r15.2.1.Digits) cap11)], Cont.cells ([] ++ (cs18 ++ sp12)), Cont.cells ([] ++ (cs22 ++ sp13)), Cont.cells ([] ++ (cs26 ++ sp14)), Cont.cells ([] ++ (cs16 ++ sp16)), Cont.cells ([] ++ (cs17 ++ sp17)), Cont.cells ([] ++ (cs10 ++ sp10)), Cont.cells ([] ++ (cs11 ++ sp11))] ∧ Keep w.heap.size [some b26, some b25, some b1, some b6, some b11, some b12, some b15, ob12, ob13, ob14, ob15, ob16, ob17, ob10, ob11] w65 [some b26, ob15, some b1, some b6, some b11, some b12, some b15, ob12, ob13, ob14, ob16, ob17, ob10, ob11] w' ∧ Els (rInt .u32) (Hv w.heap.size None [some b26, ob15, some b1, some b6, some b11, some b12, some b15, ob12, ob13, ob14, ob16, ob17, ob10, ob11] w') cs32 digits21 ∧ (List.length r19.Digits) = List.length digits21 ∧ (cs32 ++ sp15).length = cap15 * (rInt .u32).sz ∧ True) ⟨cs15, _, (upds_sym ⟨rfl, rfl, rfl, trivial⟩), hL68, K65, f39, rfl, hc18, trivial⟩ ?_
         rintro ⟨digits21, x27⟩ oo _ w66 ⟨cs32, u, rfl, hL69, K66, hE52, hl26, hc36, -⟩ h hd13
         rw [lawMemory_b4] at h
         refine Swp.seq (Swp.region rfl (Rl.op (OpY.lss (x := x27) (y := (List.length r19.Digits : Int)) ((x27 : Int) < (List.length r19.Digits : Int)) rfl rfl Iff.rfl ?_)))
         refine Rl.nil (Swp.seq ?_)
         refine Swp.cond_d ((x27 : Int) < (List.length r19.Digits : Int)) rfl (fun hc37 => ?_) (fun hc37 => ?_)
         ·
          replace h := ite_t hc37 h
          refine Swp.skip (Swp.seq (Swp.block (Swp.seq (Swp.region rfl (Rl.op (OpY.move (v := (Value.int .i64 x27)) rfl ?_))))))
          refine Rl.op (OpY.assign (v := (Value.int .i64 x27)) rfl ?_)
          refine Rl.nil (Swp.region rfl (Rl.op (OpY.fieldAddr (q := 1) Tryd.underlying24 rfl ti22 rfl rfl rfl ?_)))
          refine Rl.op (OpY.ldBox1 (v := (osv ob15 0 (List.length r19.Digits) cap15)) Tryd.underlying22 rfl rfl (hL69.at 0 rfl rfl) rfl ?_)
          refine Rl.op (OpY.move (v := (Value.int .i64 x27)) rfl ?_)
          obtain ⟨x28, q70, h⟩ := bind_some h
          obtain ⟨n19, q71, q72⟩ := idx_some q70
          have q73 := (List.getElem?_eq_some_iff.1 q72).1
          obtain ⟨b27, hb13⟩ := hL69.row_some 1 rfl rfl (row_pos (pre := []) hE52 q72 (Nat.lt_of_sub_eq_succ rfl))
          refine Rl.op (OpY.ixRowD (r := (rInt .u32)) (b := b27) (o := 0) (n := n19) (m := (List.length r19.Digits)) (xs := digits21) (q := (0 + n19 * (rInt .u32).sz)) Tryd.underlying22 ti47 (osv_some hb13) hl26 rfl q71 q73 rfl ?_)
          obtain ⟨vs13, q74, q75, q76⟩ := row_elem (pre := []) (sp := sp15) hE52 q72
          obtain rfl := q75
          refine Rl.op (OpY.ldElem1 (v := (Value.int .u32 x28)) Tryd.underlying47 rfl rfl (own_some hb13 (hL69.at 1 rfl rfl)) q76 ?_)
          refine Rl.op (OpY.add (x := x28) (y := 1) (z := (uw32 (x28 + 1))) rfl rfl rfl ?_)
          obtain ⟨x29, q77, h⟩ := bind_some h
          obtain ⟨n20, q78, q79⟩ := idx_some q77
          have q80 := (List.getElem?_eq_some_iff.1 q79).1
          refine Rl.op (OpY.ixRowD (r := (rInt .u32)) (b := b27) (o := 0) (n := n20) (m := (List.length r19.Digits)) (xs := digits21) (q := (0 + n20 * (rInt .u32).sz)) Tryd.underlying22 ti47 (osv_some hb13) hl26 rfl q78 q80 rfl ?_)
          obtain ⟨x30, q81, h⟩ := bind_some h
          obtain ⟨n21, q82, q83, q84⟩ := upd1_some q81
          obtain rfl := Int.ofNat_inj.1 (q78.symm.trans q82)
          refine Rl.op0 (OpY.stRowX (pre := []) (r := (rInt .u32)) (vs := [(Value.int .u32 (uw32 (x28 + 1)))]) (a := (uw32 (x28 + 1))) ti47 rfl rfl rfl rfl hL69 1 (congrArg some hb13) rfl hE52 q80 rfl q84 ?_)
          have hl27 : (List.length r19.Digits) = List.length x30 := by rw [q84, List.length_set]; exact hl26
          intro w67 cs33 (hL70 : Go.X.Loc [] [] w w67 [some b26, ob15, some b1, some b6, some b11, some b12, some b15, ob12, ob13, ob14, ob16, ob17, ob10, ob11] [Cont.cells [(Value.bool r19.Negative), (osv ob15 0 (List.length r19.Digits) cap15)], Cont.cells ([] ++ (cs33 ++ sp15)), Cont.cells [(Value.bool a.Negative), a_v], Cont.cells [(Value.bool b.Negative), b_v], Cont.cells [(Value.bool r13.Negative), v10], Cont.cells [(Value.bool r14.Negative), v11], Cont.cells [(Value.bool r16.Negative), (osv ob12 0 (List.length r16.Digits) cap12), (Value.bool r17.Negative), (osv ob13 0 (List.length r17.Digits) cap13), (Value.bool r18.Negative), (osv ob14 0 (List.length r18.Digits) cap14), (Value.bool r19.Negative), (osv ob15 0 (List.length r19.Digits) cap15), (Value.bool r20.Negative), (osv ob16 0 (List.length r20.Digits) cap16), (Value.bool r21.Negative), (osv ob17 0 (List.length r21.Digits) cap17), (Value.bool r15.1.Negative), (osv ob10 0 (List.length r15.1.Digits) cap10), (Value.bool r15.2.1.Negative), (osv ob11 0 (List.length r15.2.1.Digits) cap11)], Cont.cells ([] ++ (cs18 ++ sp12)), Cont.cells ([] ++ (cs22 ++ sp13)), Cont.cells ([] ++ (cs26 ++ sp14)), Cont.cells ([] ++ (cs16 ++ sp16)), Cont.cells ([] ++ (cs17 ++ sp17)), Cont.cells ([] ++ (cs10 ++ sp10)), Cont.cells ([] ++ (cs11 ++ sp11))]) hS36 hE53 q85
          have hc38 : (cs33 ++ sp15).length = cap15 * (rInt .u32).sz := by have := hc36; rw [List.length_append] at this ⊢; rw [q85]; exact this
          have K67 := ks w hS36
          refine Rl.nil (Swp.pop_blk (Swp.region rfl (Rl.op (OpY.add (x := x27) (y := 1) (z := (iw (x27 + 1))) rfl rfl rfl ?_))))
          refine Rl.op (OpY.move (v := (Value.int .i64 (iw (x27 + 1)))) rfl ?_)
          refine Rl.nil ?_
          have f40 := (hE53.mono (K67 None))
          obtain rfl := Option.some.inj h
          refine Swp.pop_back ⟨(x30, (iw (x27 + 1))), rfl, ?_⟩
          exact ⟨cs33, _, (upds_sym ⟨rfl, rfl, rfl, trivial⟩), hL70, (Keep.trans K66 K67), f40, hl27, hc38, trivial⟩
         ·
          replace h := ite_f hc37 h
          refine Swp.exit rfl ?_
          have hp27 := hL69.pick [2, 3, 4, 5, 6, 7, 8, 9, 1, 10, 11, 12, 13] rfl rfl rfl
          have hL71 : Go.X.Loc [] [] w w66 [some b1, some b6, some b11, some b12, some b15, ob12, ob13, ob14, ob15, ob16, ob17, ob10, ob11] [Cont.cells [(Value.bool a.Negative), a_v], Cont.cells [(Value.bool b.Negative), b_v], Cont.cells [(Value.bool r13.Negative), v10], Cont.cells [(Value.bool r14.Negative), v11], Cont.cells [(Value.bool r16.Negative), (osv ob12 0 (List.length r16.Digits) cap12), (Value.bool r17.Negative), (osv ob13 0 (List.length r17.Digits) cap13), (Value.bool r18.Negative), (osv ob14 0 (List.length r18.Digits) cap14), (Value.bool r19.Negative), (osv ob15 0 (List.length r19.Digits) cap15), (Value.bool r20.Negative), (osv ob16 0 (List.length r20.Digits) cap16), (Value.bool r21.Negative), (osv ob17 0 (List.length r21.Digits) cap17), (Value.bool r15.1.Negative), (osv ob10 0 (List.length r15.1.Digits) cap10), (Value.bool r15.2.1.Negative), (osv ob11 0 (List.length r15.2.1.Digits) cap11)], Cont.cells ([] ++ (cs18 ++ sp12)), Cont.cells ([] ++ (cs22 ++ sp13)), Cont.cells ([] ++ (cs26 ++ sp14)), Cont.cells ([] ++ (cs32 ++ sp15)), Cont.cells ([] ++ (cs16 ++ sp16)), Cont.cells ([] ++ (cs17 ++ sp17)), Cont.cells ([] ++ (cs10 ++ sp10)), Cont.cells ([] ++ (cs11 ++ sp11))] := hp27.1
          have K68 := ks w hp27.2
          have f41 := (hE52.mono (K68 None))
          obtain rfl := Option.some.inj h
          obtain rfl := hd13 _ rfl
          replace h := g18
          try dsimp only at h
          skip
          refine Swp.pop_back ?_
          exact ⟨x27, digits21, cs32, _, rfl, (upds_sym ⟨rfl, rfl, trivial⟩), hL71, (Keep.trans K66 K68), f41, hl26, hc36, trivial⟩
        ·
         rintro _ w68 ⟨x26, digits20, cs31, u, rfl, rfl, hL72, K69, hE54, hl28, hc39, -⟩
         replace h := g18
         try dsimp only at h
         refine ⟨[], trivial, ?_⟩
         obtain rfl := Option.some.inj h
         exact ⟨digits20, cs31, rfl, rfl, hL72, (Keep.trans K64 K69), hE54, hl28, hc39, trivial⟩
       ·
        rintro _ w69 ⟨digits19, cs30, rfl, rfl, hL73, K70, hE55, hl29, hc40, -⟩
        refine ⟨_, rfl, ?_⟩
        replace h := g17
        try dsimp only at h
        refine Rl.nil (Swp.pop_blk (Swp.region rfl (Rl.op (OpY.add (x := 3) (y := 1) (z := 4) rfl rfl rfl ?_))))
        refine Rl.op (OpY.move (v := (Value.int .i64 4)) rfl ?_)
        refine Rl.nil ?_
        refine Swp.pop_back (Swp.rnd (m := 4) ?_)
        refine Swp.seq (Swp.region rfl (Rl.op (OpY.lss (x := 4) (y := 8) ((4 : Int) < 8) rfl rfl Iff.rfl ?_)))
        refine Rl.nil (Swp.seq ?_)
        refine Swp.cond_t (b := (decide ((4 : Int) < 8))) rfl (decide_eq_true (by decide)) ?_
        refine Swp.skip (Swp.seq (Swp.block (Swp.seq (Swp.region rfl (Rl.op (OpY.indexAddr (i := 4) (q := 8) Tryd.underlying45 ti24 rfl rfl (by decide) rfl ?_))))))
        refine Rl.op (OpY.ldBoxA (vs := [(Value.bool r20.Negative), (osv ob16 0 (List.length r20.Digits) cap16)]) Tryd.underlying24 rfl ti24 rfl (hL73.at 4 rfl rfl) rfl rfl ?_)
        refine Rl.op (OpY.alloc (cs := [(Value.bool false), (Value.slice none 0 0)]) ti24 rfl hL73 ?_)
        intro b28 w70 hL74 hS37
        have K71 := ks w hS37
        refine Rl.op0 (OpY.store (vs := [(Value.bool r20.Negative), (osv ob16 0 (List.length r20.Digits) cap16)]) ti24 rfl rfl rfl rfl (ones_cons rfl (ones_cons (osv_one ob16 0 (List.length r20.Digits) cap16) ones_nil)) hL74 0 rfl rfl (Nat.le_of_ble_eq_true rfl) ?_)
        intro w71 (hL75 : Go.X.Loc [] [] w w71 [some b28, some b1, some b6, some b11, some b12, some b15, ob12, ob13, ob14, ob15, ob16, ob17, ob10, ob11] [Cont.cells [(Value.bool r20.Negative), (osv ob16 0 (List.length r20.Digits) cap16)], Cont.cells [(Value.bool a.Negative), a_v], Cont.cells [(Value.bool b.Negative), b_v], Cont.cells [(Value.bool r13.Negative), v10], Cont.cells [(Value.bool r14.Negative), v11], Cont.cells [(Value.bool r16.Negative), (osv ob12 0 (List.length r16.Digits) cap12), (Value.bool r17.Negative), (osv ob13 0 (List.length r17.Digits) cap13), (Value.bool r18.Negative), (osv ob14 0 (List.length r18.Digits) cap14), (Value.bool r19.Negative), (osv ob15 0 (List.length r19.Digits) cap15), (Value.bool r20.Negative), (osv ob16 0 (List.length r20.Digits) cap16), (Value.bool r21.Negative), (osv ob17 0 (List.length r21.Digits) cap17), (Value.bool r15.1.Negative), (osv ob10 0 (List.length r15.1.Digits) cap10), (Value.bool r15.2.1.Negative), (osv ob11 0 (List.length r15.2.1.Digits) cap11)], Cont.cells ([] ++ (cs18 ++ sp12)), Cont.cells ([] ++ (cs22 ++ sp13)), Cont.cells ([] ++ (cs26 ++ sp14)), Cont.cells ([] ++ (cs30 ++ sp15)), Cont.cells ([] ++ (cs16 ++ sp16)), Cont.cells ([] ++ (cs17 ++ sp17)), Cont.cells ([] ++ (cs10 ++ sp10)), Cont.cells ([] ++ (cs11 ++ sp11))]) hS38
        have K72 := ks w hS38
        refine Rl.nil (Swp.region rfl (Rl.op (OpY.ldBoxA (vs := [(Value.bool r20.Negative), (osv ob16 0 (List.length r20.Digits) cap16)]) Tryd.underlying24 rfl ti24 rfl (hL75.at 0 rfl rfl) rfl rfl ?_)))
        obtain ⟨s19, h, g19⟩ := bind_some h
        refine Rl.op (OpY.callg (T := fun e w' => ∃ (digits22 : (List Int)) (cs34 : List Value), digits22 = s19 ∧ e = Ending.returned (Value.tuple #[]) ∧ Go.X.Loc [] [] w w' [some b1, some b6, some b11, some b12, some b15, ob12, ob13, ob14, ob15, ob16, ob17, ob10, ob11] [Cont.cells [(Value.bool a.Negative), a_v], Cont.cells [(Value.bool b.Negative), b_v], Cont.cells [(Value.bool r13.Negative), v10], Cont.cells [(Value.bool r14.Negative), v11], Cont.cells [(Value.bool r16.Negative), (osv ob12 0 (List.length r16.Digits) cap12), (Value.bool r17.Negative), (osv ob13 0 (List.length r17.Digits) cap13), (Value.bool r18.Negative), (osv ob14 0 (List.length r18.Digits) cap14), (Value.bool r19.Negative), (osv ob15 0 (List.length r19.Digits) cap15), (Value.bool r20.Negative), (osv ob16 0 (List.length r20.Digits) cap16), (Value.bool r21.Negative), (osv ob17 0 (List.length r21.Digits) cap17), (Value.bool r15.1.Negative), (osv ob10 0 (List.length r15.1.Digits) cap10), (Value.bool r15.2.1.Negative), (osv ob11 0 (List.length r15.2.1.Digits) cap11)], Cont.cells ([] ++ (cs18 ++ sp12)), Cont.cells ([] ++ (cs22 ++ sp13)), Cont.cells ([] ++ (cs26 ++ sp14)), Cont.cells ([] ++ (cs30 ++ sp15)), Cont.cells ([] ++ (cs34 ++ sp16)), Cont.cells ([] ++ (cs17 ++ sp17)), Cont.cells ([] ++ (cs10 ++ sp10)), Cont.cells ([] ++ (cs11 ++ sp11))] ∧ Keep w.heap.size [some b28, some b1, some b6, some b11, some b12, some b15, ob12, ob13, ob14, ob15, ob16, ob17, ob10, ob11] w71 [some b1, some b6, some b11, some b12, some b15, ob12, ob13, ob14, ob15, ob16, ob17, ob10, ob11] w' ∧ Els (rInt .u32) (Hv w.heap.size None [some b1, some b6, some b11, some b12, some b15, ob12, ob13, ob14, ob15, ob16, ob17, ob10, ob11] w') cs34 digits22 ∧ (List.length r20.Digits) = List.length digits22 ∧ (cs34 ++ sp16).length = cap16 * (rInt .u32).sz ∧ True) en43 rfl rfl ?_ ?_)
        ·
         refine calls_of (l := [(Value.agg #[(Value.bool r20.Negative), (osv ob16 0 (List.length r20.Digits) cap16)])]) (rl := []) (n := 17) Tryd.func43 rfl rfl rfl (Nat.le_of_ble_eq_true rfl) ?_
         refine Swp.seq (Swp.region rfl (Rl.op (OpY.box (cs := [(Value.bool r20.Negative), (osv ob16 0 (List.length r20.Digits) cap16)]) rfl rfl hL75 ?_)))
         intro b29 w72 hL76 hS39
         have K73 := ks w hS39
         refine Rl.nil (Swp.seq (Swp.region rfl (Rl.op (OpY.fieldAddr (q := 1) Tryd.underlying24 rfl ti22 rfl rfl rfl ?_))))
         refine Rl.op (OpY.ldBox1 (v := (osv ob16 0 (List.length r20.Digits) cap16)) Tryd.underlying22 rfl rfl (hL76.at 0 rfl rfl) rfl ?_)
         have f42 := (((((((((((((((((hE37.mono (K33 None)).mono (K34 None)).mono (K35 None)).mono (K36 None)).mono (K43 None)).mono (K44 None)).mono (K45 None)).mono (K52 None)).mono (K53 None)).mono (K54 None)).mono (K61 None)).mono (K62 None)).mono (K63 None)).mono (K70 None)).mono (K71 None)).mono (K72 None)).mono (K73 None))
         refine Rl.op (OpY.lenRow (pre := []) (r := (rInt .u32)) (xs := r20.Digits) Tryd.underlying22 rfl (hL76.at 11 rfl rfl) f42 rfl rfl ?_)
         refine Rl.op (OpY.move (v := (Value.int .i64 0)) rfl ?_)
         refine Rl.nil ?_
         obtain ⟨s20, hl30, g20⟩ := bind_some h
         refine Swp.join (fun e w' => ∃ (x31 : Int) (digits23 : (List Int)) (cs35 : List Value) (u : Env), (x31, digits23) = s20 ∧ e = upds [(5, (Value.int .i64 (List.length r20.Digits : Int))), (6, (Value.int .i64 x31))] u ∧ Go.X.Loc [] [] w w' [some b1, some b6, some b11, some b12, some b15, ob12, ob13, ob14, ob15, ob16, ob17, ob10, ob11] [Cont.cells [(Value.bool a.Negative), a_v], Cont.cells [(Value.bool b.Negative), b_v], Cont.cells [(Value.bool r13.Negative), v10], Cont.cells [(Value.bool r14.Negative), v11], Cont.cells [(Value.bool r16.Negative), (osv ob12 0 (List.length r16.Digits) cap12), (Value.bool r17.Negative), (osv ob13 0 (List.length r17.Digits) cap13), (Value.bool r18.Negative), (osv ob14 0 (List.length r18.Digits) cap14), (Value.bool r19.Negative), (osv ob15 0 (List.length r19.Digits) cap15), (Value.bool r20.Negative), (osv ob16 0 (List.length r20.Digits) cap16), (Value.bool r21.Negative), (osv ob17 0 (List.length r21.Digits) cap17), (Value.bool r15.1.Negative), (osv ob10 0 (List.length r15.1.Digits) cap10), (Value.bool r15.2.1.Negative), (osv ob11 0 (List.length r15.2.1.Digits) cap11)], Cont.cells ([] ++ (cs18 ++ sp12)), Cont.cells ([] ++ (cs22 ++ sp13)), Cont.cells ([] ++ (cs26 ++ sp14)), Cont.cells ([] ++ (cs30 ++ sp15)), Cont.cells ([] ++ (cs35 ++ sp16)), Cont.cells ([] ++ (cs17 ++ sp17)), Cont.cells ([] ++ (cs10 ++ sp10)), Cont.cells ([] ++ (cs11 ++ sp11))] ∧ Keep w.heap.size [some b29, some b28, some b1, some b6, some b11, some b12, some b15, ob12, ob13, ob14, ob15, ob16, ob17, ob10, ob11] w72 [some b1, some b6, some b11, some b12, some b15, ob12, ob13, ob14, ob15, ob16, ob17, ob10, ob11] w' ∧ Els (rInt .u32) (Hv w.heap.size None [some b1, some b6, some b11, some b12, some b15, ob12, ob13, ob14, ob15, ob16, ob17, ob10, ob11] w') cs35 digits23 ∧ (List.length r20.Digits) = List.length digits23 ∧ (cs35 ++ sp16).length = cap16 * (rInt .u32).sz ∧ True) ?_ ?_
         ·
          refine Swp.block ?_
          have hp28 := hL76.pick [0, 11, 2, 3, 4, 5, 6, 7, 8, 9, 10, 12, 13, 14] rfl rfl rfl
          have hL77 : Go.X.Loc [] [] w w72 [some b29, ob16, some b1, some b6, some b11, some b12, some b15, ob12, ob13, ob14, ob15, ob17, ob10, ob11] [Cont.cells [(Value.bool r20.Negative), (osv ob16 0 (List.length r20.Digits) cap16)], Cont.cells ([] ++ (cs16 ++ sp16)), Cont.cells [(Value.bool a.Negative), a_v], Cont.cells [(Value.bool b.Negative), b_v], Cont.cells [(Value.bool r13.Negative), v10], Cont.cells [(Value.bool r14.Negative), v11], Cont.cells [(Value.bool r16.Negative), (osv ob12 0 (List.length r16.Digits) cap12), (Value.bool r17.Negative), (osv ob13 0 (List.length r17.Digits) cap13), (Value.bool r18.Negative), (osv ob14 0 (List.length r18.Digits) cap14), (Value.bool r19.Negative), (osv ob15 0 (List.length r19.Digits) cap15), (Value.bool r20.Negative), (osv ob16 0 (List.length r20.Digits) cap16), (Value.bool r21.Negative), (osv ob17 0 (List.length r21.Digits) cap17), (Value.bool r15.1.Negative), (osv ob10 0 (List.length r15.1.Digits) cap10), (Value.bool r15.2.1.Negative), (osv ob11 0 (List.length r15.2.1.Digits) cap11)], Cont.cells ([] ++ (cs18 ++ sp12)), Cont.cells ([] ++ (cs22 ++ sp13)), Cont.cells ([] ++ (cs26 ++ sp14)), Cont.cells ([] ++ (cs30 ++ sp15)), Cont.cells ([] ++ (cs17 ++ sp17)), Cont.cells ([] ++ (cs10 ++ sp10)), Cont.cells ([] ++ (cs11 ++ sp11))] := hp28.1
          have K74 := ks w hp28.2
          have f43 := (f42.mono (K74 None))
          refine Swp.loopM hl30 (fun (ss : ((List Int) × Int)) (e : Env) (w' : World) => match ss with | (digits24, x32) => ∃ (cs36 : List Value) (u : Env), e = upds [(1, (Value.pointer (some ⟨b29, 0, none⟩))), (5, (Value.int .i64 (List.length r20.Digits : Int))), (6, (Value.int .i64 x32))] u ∧ Go.X.Loc [] [] w w' [some b29, ob16, some b1, some b6, some b11, some b12, some b15, ob12, ob13, ob14, ob15, ob17, ob10, ob11] [Cont.cells [(Value.bool r20.Negative), (osv ob16 0 (List.length r20.Digits) cap16)], Cont.cells ([] ++ (cs36 ++ sp16)), Cont.cells [(Value.bool a.Negative), a_v], Cont.cells [(Value.bool b.Negative), b_v], Cont.cells [(Value.bool r13.Negative), v10], Cont.cells [(Value.bool r14.Negative), v11], Cont.cells [(Value.bool r16.Negative), (osv ob12 0 (List.length r16.Digits) cap12), (Value.bool r17.Negative), (osv ob13 0 (List.length r17.Digits) cap13), (Value.bool r18.Negative), (osv ob14 0 (List.length r18.Digits) cap14), (Value.bool r19.Negative), (osv ob15 0 (List.length r19.Digits) cap15), (Value.bool r20.Negative), (osv ob16 0 (List.length r20.Digits) cap16), (Value.bool r21.Negative), (osv ob17 0 (List.length r21.Digits) cap17), (Value.bool r15.1.Negative), (osv ob10 0 (List.length r15.1.Digits) cap10), (Value.bool r15.2.1.Negative), (osv ob11 0 (List.length r15.2.1.Digits) cap11)], Cont.cells ([] ++ (cs18 ++ sp12)), Cont.cells ([] ++ (cs22 ++ sp13)), Cont.cells ([] ++ (cs26 ++ sp14)), Cont.cells ([] ++ (cs30 ++ sp15)), Cont.cells ([] ++ (cs17 ++ sp17)), Cont.cells ([] ++ (cs10 ++ sp10)), Cont.cells ([] ++ (cs11 ++ sp11))] ∧ Keep w.heap.size [some b29, some b28, some b1, some b6, some b11, some b12, some b15, ob12, ob13, ob14, ob15, ob16, ob17, ob10, ob11] w72 [some b29, ob16, some b1, some b6, some b11, some b12, some b15, ob12, ob13, ob14, ob15, ob17, ob10, ob11] w' ∧ Els (rInt .u32) (Hv w.heap.size None [some b29, ob16, some b1, some b6, some b11, some b12, some b15, ob12, ob13, ob14, ob15, ob17, ob10, ob11] w') cs36 digits24 ∧ (List.length r20.Digits) = List.length digits24 ∧ (cs36 ++ sp16).length = cap16 * (rInt .u32).sz ∧ True) ⟨cs16, _, (upds_sym ⟨rfl, rfl, rfl, trivial⟩), hL77, K74, f43, rfl, hc19, trivial⟩ ?_
          rintro ⟨digits24, x32⟩ oo _ w73 ⟨cs36, u, rfl, hL78, K75, hE56, hl31, hc41, -⟩ h hd14
          rw [lawMemory_b5] at h
          refine Swp.seq (Swp.region rfl (Rl.op (OpY.lss (x := x32) (y := (List.length r20.Digits : Int)) ((x32 : Int) < (List.length r20.Digits : Int)) rfl rfl Iff.rfl ?_)))
          refine Rl.nil (Swp.seq ?_)
          refine Swp.cond_d ((x32 : Int) < (List.length r20.Digits : Int)) rfl (fun hc42 => ?_) (fun hc42 => ?_)
          ·
           replace h := ite_t hc42 h
           refine Swp.skip (Swp.seq (Swp.block (Swp.seq (Swp.region rfl (Rl.op (OpY.move (v := (Value.int .i64 x32)) rfl ?_))))))
           refine Rl.op (OpY.assign (v := (Value.int .i64 x32)) rfl ?_)
           refine Rl.nil (Swp.region rfl (Rl.op (OpY.fieldAddr (q := 1) Tryd.underlying24 rfl ti22 rfl rfl rfl ?_)))
           refine Rl.op (OpY.ldBox1 (v := (osv ob16 0 (List.length r20.Digits) cap16)) Tryd.underlying22 rfl rfl (hL78.at 0 rfl rfl) rfl ?_)
           refine Rl.op (OpY.move (v := (Value.int .i64 x32)) rfl ?_)
           obtain ⟨x33, q86, h⟩ := bind_some h
           obtain ⟨n22, q87, q88⟩ := idx_some q86
           have q89 := (List.getElem?_eq_some_iff.1 q88).1
           obtain ⟨b30, hb14⟩ := hL78.row_some 1 rfl rfl (row_pos (pre := []) hE56 q88 (Nat.lt_of_sub_eq_succ rfl))
           refine Rl.op (OpY.ixRowD (r := (rInt .u32)) (b := b30) (o := 0) (n := n22) (m := (List.length r20.Digits)) (xs := digits24) (q := (0 + n22 * (rInt .u32).sz)) Tryd.underlying22 ti47 (osv_some hb14) hl31 rfl q87 q89 rfl ?_)
           obtain ⟨vs14, q90, q91, q92⟩ := row_elem (pre := []) (sp := sp16) hE56 q88
           obtain rfl := q91
           refine Rl.op (OpY.ldElem1 (v := (Value.int .u32 x33)) Tryd.underlying47 rfl rfl (own_some hb14 (hL78.at 1 rfl rfl)) q92 ?_)
           refine Rl.op (OpY.add (x := x33) (y := 1) (z := (uw32 (x33 + 1))) rfl rfl rfl ?_)
           obtain ⟨x34, q93, h⟩ := bind_some h
           obtain ⟨n23, q94, q95⟩ := idx_some q93
           have q96 := (List.getElem?_eq_some_iff.1 q95).1
           refine Rl.op (OpY.ixRowD (r := (rInt .u32)) (b := b30) (o := 0) (n := n23) (m := (List.length r20.Digits)) (xs := digits24) (q := (0 + n23 * (rInt .u32).sz)) Tryd.underlying22 ti47 (osv_some hb14) hl31 rfl q94 q96 rfl ?_)
           obtain ⟨x35, q97, h⟩ := bind_some h
           obtain ⟨n24, q98, q99, q100⟩ := upd1_some q97
           obtain rfl := Int.ofNat_inj.1 (q94.symm.trans q98)
           refine Rl.op0 (OpY.stRowX (pre := []) (r := (rInt .u32)) (vs := [(Value.int .u32 (uw32 (x33 + 1)))]) (a := (uw32 (x33 + 1))) ti47 rfl rfl rfl rfl hL78 1 (congrArg some hb14) rfl hE56 q96 rfl q100 ?_)
           have hl32 : (List.length r20.Digits) = List.length x35 := by rw [q100, List.length_set]; exact hl31
           intro w74 cs37 (hL79 : Go.X.Loc [] [] w w74 [some b29, ob16, some b1, some b6, some b11, some b12, some b15, ob12, ob13, ob14, ob15, ob17, ob10, ob11] [Cont.cells [(Value.bool r20.Negative), (osv ob16 0 (List.length r20.Digits) cap16)], Cont.cells ([] ++ (cs37 ++ sp16)), Cont.cells [(Value.bool a.Negative), a_v], Cont.cells [(Value.bool b.Negative), b_v], Cont.cells [(Value.bool r13.Negative), v10], Cont.cells [(Value.bool r14.Negative), v11], Cont.cells [(Value.bool r16.Negative), (osv ob12 0 (List.length r16.Digits) cap12), (Value.bool r17.Negative), (osv ob13 0 (List.length r17.Digits) cap13), (Value.bool r18.Negative), (osv ob14 0 (List.length r18.Digits) cap14), (Value.bool r19.Negative), (osv ob15 0 (List.length r19.Digits) cap15), (Value.bool r20.Negative), (osv ob16 0 (List.length r20.Digits) cap16), (Value.bool r21.Negative), (osv ob17 0 (List.length r21.Digits) cap17), (Value.bool r15.1.Negative), (osv ob10 0 (List.length r15.1.Digits) cap10), (Value.bool r15.2.1.Negative), (osv ob11 0 (List.length r15.2.1.Digits) cap11)], Cont.cells ([] ++ (cs18 ++ sp12)), Cont.cells ([] ++ (cs22 ++ sp13)), Cont.cells ([] ++ (cs26 ++ sp14)), Cont.cells ([] ++ (cs30 ++ sp15)), Cont.cells ([] ++ (cs17 ++ sp17)), Cont.cells ([] ++ (cs10 ++ sp10)), Cont.cells ([] ++ (cs11 ++ sp11))]) hS40 hE57 q101
           have hc43 : (cs37 ++ sp16).length = cap16 * (rInt .u32).sz := by have := hc41; rw [List.length_append] at this ⊢; rw [q101]; exact this
           have K76 := ks w hS40
           refine Rl.nil (Swp.pop_blk (Swp.region rfl (Rl.op (OpY.add (x := x32) (y := 1) (z := (iw (x32 + 1))) rfl rfl rfl ?_))))
           refine Rl.op (OpY.move (v := (Value.int .i64 (iw (x32 + 1)))) rfl ?_)
           refine Rl.nil ?_
           have f44 := (hE57.mono (K76 None))
           obtain rfl := Option.some.inj h
           refine Swp.pop_back ⟨(x35, (iw (x32 + 1))), rfl, ?_⟩
           exact ⟨cs37, _, (upds_sym ⟨rfl, rfl, rfl, trivial⟩), hL79, (Keep.trans K75 K76), f44, hl32, hc43, trivial⟩
          ·
           replace h := ite_f hc42 h
           refine Swp.exit rfl ?_
           have hp29 := hL78.pick [2, 3, 4, 5, 6, 7, 8, 9, 10, 1, 11, 12, 13] rfl rfl rfl
           have hL80 : Go.X.Loc [] [] w w73 [some b1, some b6, some b11, some b12, some b15, ob12, ob13, ob14, ob15, ob16, ob17, ob10, ob11] [Cont.cells [(Value.bool a.Negative), a_v], Cont.cells [(Value.bool b.Negative), b_v], Cont.cells [(Value.bool r13.Negative), v10], Cont.cells [(Value.bool r14.Negative), v11], Cont.cells [(Value.bool r16.Negative), (osv ob12 0 (List.length r16.Digits) cap12), (Value.bool r17.Negative), (osv ob13 0 (List.length r17.Digits) cap13), (Value.bool r18.Negative), (osv ob14 0 (List.length r18.Digits) cap14), (Value.bool r19.Negative), (osv ob15 0 (List.length r19.Digits) cap15), (Value.bool r20.Negative), (osv ob16 0 (List.length r20.Digits) cap16), (Value.bool r21.Negative), (osv ob17 0 (List.length r21.Digits) cap17), (Value.bool r15.1.Negative), (osv ob10 0 (List.length r15.1.Digits) cap10), (Value.bool r15.2.1.Negative), (osv ob11 0 (List.length r15.2.1.Digits) cap11)], Cont.cells ([] ++ (cs18 ++ sp12)), Cont.cells ([] ++ (cs22 ++ sp13)), Cont.cells ([] ++ (cs26 ++ sp14)), Cont.cells ([] ++ (cs30 ++ sp15)), Cont.cells ([] ++ (cs36 ++ sp16)), Cont.cells ([] ++ (cs17 ++ sp17)), Cont.cells ([] ++ (cs10 ++ sp10)), Cont.cells ([] ++ (cs11 ++ sp11))] := hp29.1
           have K77 := ks w hp29.2
           have f45 := (hE56.mono (K77 None))
           obtain rfl := Option.some.inj h
           obtain rfl := hd14 _ rfl
           replace h := g20
           try dsimp only at h
           skip
           refine Swp.pop_back ?_
           exact ⟨x32, digits24, cs36, _, rfl, (upds_sym ⟨rfl, rfl, trivial⟩), hL80, (Keep.trans K75 K77), f45, hl31, hc41, trivial⟩
         ·
          rintro _ w75 ⟨x31, digits23, cs35, u, rfl, rfl, hL81, K78, hE58, hl33, hc44, -⟩
          replace h := g20
          try dsimp only at h
          refine ⟨[], trivial, ?_⟩
          obtain rfl := Option.some.inj h
          exact ⟨digits23, cs35, rfl, rfl, hL81, (Keep.trans K73 K78), hE58, hl33, hc44, trivial⟩
        ·
         rintro _ w76 ⟨digits22, cs34, rfl, rfl, hL82, K79, hE59, hl34, hc45, -⟩
         refine ⟨_, rfl, ?_⟩
         replace h := g19
         try dsimp only at h
         refine Rl.nil (Swp.pop_blk (Swp.region rfl (Rl.op (OpY.add (x := 4) (y := 1) (z := 5) rfl rfl rfl ?_))))
         refine Rl.op (OpY.move (v := (Value.int .i64 5)) rfl ?_)
         refine Rl.nil ?_
         refine Swp.pop_back (Swp.rnd (m := 3) ?_)
         refine Swp.seq (Swp.region rfl (Rl.op (OpY.lss (x := 5) (y := 8) ((5 : Int) < 8) rfl rfl Iff.rfl ?_)))
         refine Rl.nil (Swp.seq ?_)
         refine Swp.cond_t (b := (decide ((5 : Int) < 8))) rfl (decide_eq_true (by decide)) ?_
         refine Swp.skip (Swp.seq (Swp.block (Swp.seq (Swp.region rfl (Rl.op (OpY.indexAddr (i := 5) (q := 10) Tryd.underlying45 ti24 rfl rfl (by decide) rfl ?_))))))
         refine Rl.op (OpY.ldBoxA (vs := [(Value.bool r21.Negative), (osv ob17 0 (List.length r21.Digits) cap17)]) Tryd.underlying24 rfl ti24 rfl (hL82.at 4 rfl rfl) rfl rfl ?_)
         refine Rl.op (OpY.alloc (cs := [(Value.bool false), (Value.slice none 0 0)]) ti24 rfl hL82 ?_)
         intro b31 w77 hL83 hS41
         have K80 := ks w hS41
         refine Rl.op0 (OpY.store (vs := [(Value.bool r21.Negative), (osv ob17 0 (List.length r21.Digits) cap17)]) ti24 rfl rfl rfl rfl (ones_cons rfl (ones_cons (osv_one ob17 0 (List.length r21.Digits) cap17) ones_nil)) hL83 0 rfl rfl (Nat.le_of_ble_eq_true rfl) ?_)
         intro w78 (hL84 : Go.X.Loc [] [] w w78 [some b31, some b1, some b6, some b11, some b12, some b15, ob12, ob13, ob14, ob15, ob16, ob17, ob10, ob11] [Cont.cells [(Value.bool r21.Negative), (osv ob17 0 (List.length r21.Digits) cap17)], Cont.cells [(Value.bool a.Negative), a_v], Cont.cells [(Value.bool b.Negative), b_v], Cont.cells [(Value.bool r13.Negative), v10], Cont.cells [(Value.bool r14.Negative), v11], Cont.cells [(Value.bool r16.Negative), (osv ob12 0 (List.length r16.Digits) cap12), (Value.bool r17.Negative), (osv ob13 0 (List.length r17.Digits) cap13), (Value.bool r18.Negative), (osv ob14 0 (List.length r18.Digits) cap14), (Value.bool r19.Negative), (osv ob15 0 (List.length r19.Digits) cap15), (Value.bool r20.Negative), (osv ob16 0 (List.length r20.Digits) cap16), (Value.bool r21.Negative), (osv ob17 0 (List.length r21.Digits) cap17), (Value.bool r15.1.Negative), (osv ob10 0 (List.length r15.1.Digits) cap10), (Value.bool r15.2.1.Negative), (osv ob11 0 (List.length r15.2.1.Digits) cap11)], Cont.cells ([] ++ (cs18 ++ sp12)), Cont.cells ([] ++ (cs22 ++ sp13)), Cont.cells ([] ++ (cs26 ++ sp14)), Cont.cells ([] ++ (cs30 ++ sp15)), Cont.cells ([] ++ (cs34 ++ sp16)), Cont.cells ([] ++ (cs17 ++ sp17)), Cont.cells ([] ++ (cs10 ++ sp10)), Cont.cells ([] ++ (cs11 ++ sp11))]) hS42
         have K81 := ks w hS42
         refine Rl.nil (Swp.region rfl (Rl.op (OpY.ldBoxA (vs := [(Value.bool r21.Negative), (osv ob17 0 (List.length r21.Digits) cap17)]) Tryd.underlying24 rfl ti24 rfl (hL84.at 0 rfl rfl) rfl rfl ?_)))
         obtain ⟨s21, h, g21⟩ := bind_some h
         refine Rl.op (OpY.callg (T := fun e w' => ∃ (digits25 : (List Int)) (cs38 : List Value), digits25 = s21 ∧ e = Ending.returned (Value.tuple #[]) ∧ Go.X.Loc [] [] w w' [some b1, some b6, some b11, some b12, some b15, ob12, ob13, ob14, ob15, ob16, ob17, ob10, ob11] [Cont.cells [(Value.bool a.Negative), a_v], Cont.cells [(Value.bool b.Negative), b_v], Cont.cells [(Value.bool r13.Negative), v10], Cont.cells [(Value.bool r14.Negative), v11], Cont.cells [(Value.bool r16.Negative), (osv ob12 0 (List.length r16.Digits) cap12), (Value.bool r17.Negative), (osv ob13 0 (List.length r17.Digits) cap13), (Value.bool r18.Negative), (osv ob14 0 (List.length r18.Digits) cap14), (Value.bool r19.Negative), (osv ob15 0 (List.length r19.Digits) cap15), (Value.bool r20.Negative), (osv ob16 0 (List.length r20.Digits) cap16), (Value.bool r21.Negative), (osv ob17 0 (List.length r21.Digits) cap17), (Value.bool r15.1.Negative), (osv ob10 0 (List.length r15.1.Digits) cap10), (Value.bool r15.2.1.Negative), (osv ob11 0 (List.length r15.2.1.Digits) cap11)], Cont.cells ([] ++ (cs18 ++ sp12)), Cont.cells ([] ++ (cs22 ++ sp13)), Cont.cells ([] ++ (cs26 ++ sp14)), Cont.cells ([] ++ (cs30 ++ sp15)), Cont.cells ([] ++ (cs34 ++ sp16)), Cont.cells ([] ++ (cs38 ++ sp17)), Cont.cells ([] ++ (cs10 ++ sp10)), Cont.cells ([] ++ (cs11 ++ sp11))] ∧ Keep w.heap.size [some b31, some b1, some b6, some b11, some b12, some b15, ob12, ob13, ob14, ob15, ob16, ob17, ob10, ob11] w78 [some b1, some b6, some b11, some b12, some b15, ob12, ob13, ob14, ob15, ob16, ob17, ob10, ob11] w' ∧ Els (rInt .u32) (Hv w.heap.size None [some b1, some b6, some b11, some b12, some b15, ob12, ob13, ob14, ob15, ob16, ob17, ob10, ob11] w') cs38 digits25 ∧ (List.length r21.Digits) = List.length digits25 ∧ (cs38 ++ sp17).length = cap17 * (rInt .u32).sz ∧ True) en43 rfl rfl ?_ ?_)
         ·
          refine calls_of (l := [(Value.agg #[(Value.bool r21.Negative), (osv ob17 0 (List.length r21.Digits) cap17)])]) (rl := []) (n := 17) Tryd.func43 rfl rfl rfl (Nat.le_of_ble_eq_true rfl) ?_
          refine Swp.seq (Swp.region rfl (Rl.op (OpY.box (cs := [(Value.bool r21.Negative), (osv ob17 0 (List.length r21.Digits) cap17)]) rfl rfl hL84 ?_)))
          intro b32 w79 hL85 hS43
          have K82 := ks w hS43
          refine Rl.nil (Swp.seq (Swp.region rfl (Rl.op (OpY.fieldAddr (q := 1) Tryd.underlying24 rfl ti22 rfl rfl rfl ?_))))
          refine Rl.op (OpY.ldBox1 (v := (osv ob17 0 (List.length r21.Digits) cap17)) Tryd.underlying22 rfl rfl (hL85.at 0 rfl rfl) rfl ?_)
          have f46 := (((((((((((((((((((hE39.mono (K34 None)).mono (K35 None)).mono (K36 None)).mono (K43 None)).mono (K44 None)).mono (K45 None)).mono (K52 None)).mono (K53 None)).mono (K54 None)).mono (K61 None)).mono (K62 None)).mono (K63 None)).mono (K70 None)).mono (K71 None)).mono (K72 None)).mono (K79 None)).mono (K80 None)).mono (K81 None)).mono (K82 None))
          refine Rl.op (OpY.lenRow (pre := []) (r := (rInt .u32)) (xs := r21.Digits) Tryd.underlying22 rfl (hL85.at 12 rfl rfl) f46 rfl rfl ?_)
          refine Rl.op (OpY.move (v := (Value.int .i64 0)) rfl ?_)
          refine Rl.nil ?_
          obtain ⟨s22, hl35, g22⟩ := bind_some h
          refine Swp.join (fun e w' => ∃ (x36 : Int) (digits26 : (List Int)) (cs39 : List Value) (u : Env), (x36, digits26) = s22 ∧ e = upds [(5, (Value.int .i64 (List.length r21.Digits : Int))), (6, (Value.int .i64 x36))] u ∧ Go.X.Loc [] [] w w' [some b1, some b6, some b11, some b12, some b15, ob12, ob13, ob14, ob15, ob16, ob17, ob10, ob11] [Cont.cells [(Value.bool a.Negative), a_v], Cont.cells [(Value.bool b.Negative), b_v], Cont.cells [(Value.bool r13.Negative), v10], Cont.cells [(Value.bool r14.Negative), v11], Cont.cells [(Value.bool r16.Negative), (osv ob12 0 (List.length r16.Digits) cap12), (Value.bool r17.Negative), (osv ob13 0 (List.length r17.Digits) cap13), (Value.bool r18.Negative), (osv ob14 0 (List.length r18.Digits) cap14), (Value.bool r19.Negative), (osv ob15 0 (List.length r19.Digits) cap15), (Value.bool r20.Negative), (osv ob16 0 (List.length r20.Digits) cap16), (Value.bool r21.Negative), (osv ob17 0 (List.length r21.Digits) cap17), (Value.bool r15.1.Negative), (osv ob10 0 (List.length r15.1.Digits) cap10), (Value.bool r15.2.1.Negative), (osv ob11 0 (List.length r15.2.1.Digits) cap11)], Cont.cells ([] ++ (cs18 ++ sp12)), Cont.cells ([] ++ (cs22 ++ sp13)), Cont.cells ([] ++ (cs26 ++ sp14)), Cont.cells ([] ++ (cs30 ++ sp15)), Cont.cells ([] ++ (cs34 ++ sp16)), Cont.cells ([] ++ (cs39 ++ sp17)), Cont.cells ([] ++ (cs10 ++ sp10)), Cont.cells ([] ++ (cs11 ++ sp11))] ∧ Keep w.heap.size [some b32, some b31, some b1, some b6, some b11, some b12, some b15, ob12, ob13, ob14, ob15, ob16, ob17, ob10, ob11] w79 [some b1, some b6, some b11, some b12, some b15, ob12, ob13, ob14, ob15, ob16, ob17, ob10, ob11] w' ∧ Els (rInt .u32) (Hv w.heap.size None [some b1, some b6, some b11, some b12, some b15, ob12, ob13, ob14, ob15, ob16, ob17, ob10, ob11] w') cs39 digits26 ∧ (List.length r21.Digits) = List.length digits26 ∧ (cs39 ++ sp17).length = cap17 * (rInt .u32).sz ∧ True) ?_ ?_
          ·
           refine Swp.block ?_
           have hp30 := hL85.pick [0, 12, 2, 3, 4, 5, 6, 7, 8, 9, 10, 11, 13, 14] rfl rfl rfl
           have hL86 : Go.X.Loc [] [] w w79 [some b32, ob17, some b1, some b6, some b11, some b12, some b15, ob12, ob13, ob14, ob15, ob16, ob10, ob11] [Cont.cells [(Value.bool r21.Negative), (osv ob17 0 (List.length r21.Digits) cap17)], Cont.cells ([] ++ (cs17 ++ sp17)), Cont.cells [(Value.bool a.Negative), a_v], Cont.cells [(Value.bool b.Negative), b_v], Cont.cells [(Value.bool r13.Negative), v10], Cont.cells [(Value.bool r14.Negative), v11], Cont.cells [(Value.bool r16.Negative), (osv ob12 0 (List.length r16.Digits) cap12), (Value.bool r17.Negative), (osv ob13 0 (List.length r17.Digits) cap13), (Value.bool r18.Negative), (osv ob14 0 (List.length r18.Digits) cap14), (Value.bool r19.Negative), (osv ob15 0 (List.length r19.Digits) cap15), (Value.bool r20.Negative), (osv ob16 0 (List.length r20.Digits) cap16), (Value.bool r21.Negative), (osv ob17 0 (List.length r21.Digits) cap17), (Value.bool r15.1.Negative), (osv ob10 0 (List.length r15.1.Digits) cap10), (Value.bool r15.2.1.Negative), (osv ob11 0 (List.length r15.2.1.Digits) cap11)], Cont.cells ([] ++ (cs18 ++ sp12)), Cont.cells ([] ++ (cs22 ++ sp13)), Cont.cells ([] ++ (cs26 ++ sp14)), Cont.cells ([] ++ (cs30 ++ sp15)), Cont.cells ([] ++ (cs34 ++ sp16)), Cont.cells ([] ++ (cs10 ++ sp10)), Cont.cells ([] ++ (cs11 ++ sp11))] := hp30.1
           have K83 := ks w hp30.2
           have f47 := (f46.mono (K83 None))
           refine Swp.loopM hl35 (fun (ss : ((List Int) × Int)) (e : Env) (w' : World) => match ss with | (digits27, x37) => ∃ (cs40 : List Value) (u : Env), e = upds [(1, (Value.pointer (some ⟨b32, 0, none⟩))), (5, (Value.int .i64 (List.length r21.Digits : Int))), (6, (Value.int .i64 x37))] u ∧ Go.X.Loc [] [] w w' [some b32, ob17, some b1, some b6, some b11, some b12, some b15, ob12, ob13, ob14, ob15, ob16, ob10, ob11] [Cont.cells [(Value.bool r21.Negative), (osv ob17 0 (List.length r21.Digits) cap17)], Cont.cells ([] ++ (cs40 ++ sp17)), Cont.cells [(Value.bool a.Negative), a_v], Cont.cells [(Value.bool b.Negative), b_v], Cont.cells [(Value.bool r13.Negative), v10], Cont.cells [(Value.bool r14.Negative), v11], Cont.cells [(Value.bool r16.Negative), (osv ob12 0 (List.length r16.Digits) cap12), (Value.bool r17.Negative), (osv ob13 0 (List.length r17.Digits) cap13), (Value.bool r18.Negative), (osv ob14 0 (List.length r18.Digits) cap14), (Value.bool r19.Negative), (osv ob15 0 (List.length r19.Digits) cap15), (Value.bool r20.Negative), (osv ob16 0 (List.length r20.Digits) cap16), (Value.bool r21.Negative), (osv ob17 0 (List.length r21.Digits) cap17), (Value.bool r15.1.Negative), (osv ob10 0 (List.length r15.1.Digits) cap10), (Value.bool r15.2.1.Negative), (osv ob11 0 (List.length r15.2.1.Digits) cap11)], Cont.cells ([] ++ (cs18 ++ sp12)), Cont.cells ([] ++ (cs22 ++ sp13)), Cont.cells ([] ++ (cs26 ++ sp14)), Cont.cells ([] ++ (cs30 ++ sp15)), Cont.cells ([] ++ (cs34 ++ sp16)), Cont.cells ([] ++ (cs10 ++ sp10)), Cont.cells ([] ++ (cs11 ++ sp11))] ∧ Keep w.heap.size [some b32, some b31, some b1, some b6, some b11, some b12, some b15, ob12, ob13, ob14, ob15, ob16, ob17, ob10, ob11] w79 [some b32, ob17, some b1, some b6, some b11, some b12, some b15, ob12, ob13, ob14, ob15, ob16, ob10, ob11] w' ∧ Els (rInt .u32) (Hv w.heap.size None [some b32, ob17, some b1, some b6, some b11, some b12, some b15, ob12, ob13, ob14, ob15, ob16, ob10, ob11] w') cs40 digits27 ∧ (List.length r21.Digits) = List.length digits27 ∧ (cs40 ++ sp17).length = cap17 * (rInt .u32).sz ∧ True) ⟨cs17, _, (upds_sym ⟨rfl, rfl, rfl, trivial⟩), hL86, K83, f47, rfl, hc20, trivial⟩ ?_
           rintro ⟨digits27, x37⟩ oo _ w80 ⟨cs40, u, rfl, hL87, K84, hE60, hl36, hc46, -⟩ h hd15
           rw [lawMemory_b6] at h
           refine Swp.seq (Swp.region rfl (Rl.op (OpY.lss (x := x37) (y := (List.length r21.Digits : Int)) ((x37 : Int) < (List.length r21.Digits : Int)) rfl rfl Iff.rfl ?_)))
           refine Rl.nil (Swp.seq ?_)
           refine Swp.cond_d ((x37 : Int) < (List.length r21.Digits : Int)) rfl (fun hc47 => ?_) (fun hc47 => ?_)
           ·
            replace h := ite_t hc47 h
            refine Swp.skip (Swp.seq (Swp.block (Swp.seq (Swp.region rfl (Rl.op (OpY.move (v := (Value.int .i64 x37)) rfl ?_))))))
            refine Rl.op (OpY.assign (v := (Value.int .i64 x37)) rfl ?_)
            refine Rl.nil (Swp.region rfl (Rl.op (OpY.fieldAddr (q := 1) Tryd.underlying24 rfl ti22 rfl rfl rfl ?_)))
            refine Rl.op (OpY.ldBox1 (v := (osv ob17 0 (List.length r21.Digits) cap17)) Tryd.underlying22 rfl rfl (hL87.at 0 rfl rfl) rfl ?_)
            refine Rl.op (OpY.move (v := (Value.int .i64 x37)) rfl ?_)
            obtain ⟨x38, q102, h⟩ := bind_some h
            obtain ⟨n25, q103, q104⟩ := idx_some q102
            have q105 := (List.getElem?_eq_some_iff.1 q104).1
            obtain ⟨b33, hb15⟩ := hL87.row_some 1 rfl rfl (row_pos (pre := []) hE60 q104 (Nat.lt_of_sub_eq_succ rfl))
            refine Rl.op (OpY.ixRowD (r := (rInt .u32)) (b := b33) (o := 0) (n := n25) (m := (List.length r21.Digits)) (xs := digits27) (q := (0 + n25 * (rInt .u32).sz)) Tryd.underlying22 ti47 (osv_some hb15) hl36 rfl q103 q105 rfl ?_)
            obtain ⟨vs15, q106, q107, q108⟩ := row_elem (pre := []) (sp := sp17) hE60 q104
            obtain rfl := q107
            refine Rl.op (OpY.ldElem1 (v := (Value.int .u32 x38)) Tryd.underlying47 rfl rfl (own_some hb15 (hL87.at 1 rfl rfl)) q108 ?_)
            refine Rl.op (OpY.add (x := x38) (y := 1) (z := (uw32 (x38 + 1))) rfl rfl rfl ?_)
            obtain ⟨x39, q109, h⟩ := bind_some h
            obtain ⟨n26, q110, q111⟩ := idx_some q109
            have q112 := (List.getElem?_eq_some_iff.1 q111).1
            refine Rl.op (OpY.ixRowD (r := (rInt .u32)) (b := b33) (o := 0) (n := n26) (m := (List.length r21.Digits)) (xs := digits27) (q := (0 + n26 * (rInt .u32).sz)) Tryd.underlying22 ti47 (osv_some hb15) hl36 rfl q110 q112 rfl ?_)
            obtain ⟨x40, q113, h⟩ := bind_some h
            obtain ⟨n27, q114, q115, q116⟩ := upd1_some q113
            obtain rfl := Int.ofNat_inj.1 (q110.symm.trans q114)
            refine Rl.op0 (OpY.stRowX (pre := []) (r := (rInt .u32)) (vs := [(Value.int .u32 (uw32 (x38 + 1)))]) (a := (uw32 (x38 + 1))) ti47 rfl rfl rfl rfl hL87 1 (congrArg some hb15) rfl hE60 q112 rfl q116 ?_)
            have hl37 : (List.length r21.Digits) = List.length x40 := by rw [q116, List.length_set]; exact hl36
            intro w81 cs41 (hL88 : Go.X.Loc [] [] w w81 [some b32, ob17, some b1, some b6, some b11, some b12, some b15, ob12, ob13, ob14, ob15, ob16, ob10, ob11] [Cont.cells [(Value.bool r21.Negative), (osv ob17 0 (List.length r21.Digits) cap17)], Cont.cells ([] ++ (cs41 ++ sp17)), Cont.cells [(Value.bool a.Negative), a_v], Cont.cells [(Value.bool b.Negative), b_v], Cont.cells [(Value.bool r13.Negative), v10], Cont.cells [(Value.bool r14.Negative), v11], Cont.cells [(Value.bool r16.Negative), (osv ob12 0 (List.length r16.Digits) cap12), (Value.bool r17.Negative), (osv ob13 0 (List.length r17.Digits) cap13), (Value.bool r18.Negative), (osv ob14 0 (List.length r18.Digits) cap14), (Value.bool r19.Negative), (osv ob15 0 (List.length r19.Digits) cap15), (Value.bool r20.Negative), (osv ob16 0 (List.length r20.Digits) cap16), (Value.bool r21.Negative), (osv ob17 0 (List.length r21.Digits) cap17), (Value.bool r15.1.Negative), (osv ob10 0 (List.length r15.1.Digits) cap10), (Value.bool r15.2.1.Negative), (osv ob11 0 (List.length r15.2.1.Digits) cap11)], Cont.cells ([] ++ (cs18 ++ sp12)), Cont.cells ([] ++ (cs22 ++ sp13)), Cont.cells ([] ++ (cs26 ++ sp14)), Cont.cells ([] ++ (cs30 ++ sp15)), Cont.cells ([] ++ (cs34 ++ sp16)), Cont.cells ([] ++ (cs10 ++ sp10)), Cont.cells ([] ++ (cs11 ++ sp11))]) hS44 hE61 q117
            have hc48 : (cs41 ++ sp17).length = cap17 * (rInt .u32).sz := by have := hc46; rw [List.length_append] at this ⊢; rw [q117]; exact this
            have K85 := ks w hS44
            refine Rl.nil (Swp.pop_blk (Swp.region rfl (Rl.op (OpY.add (x := x37) (y := 1) (z := (iw (x37 + 1))) rfl rfl rfl ?_))))
            refine Rl.op (OpY.move (v := (Value.int .i64 (iw (x37 + 1)))) rfl ?_)
            refine Rl.nil ?_
            have f48 := (hE61.mono (K85 None))
            obtain rfl := Option.some.inj h
            refine Swp.pop_back ⟨(x40, (iw (x37 + 1))), rfl, ?_⟩
            exact ⟨cs41, _, (upds_sym ⟨rfl, rfl, rfl, trivial⟩), hL88, (Keep.trans K84 K85), f48, hl37, hc48, trivial⟩
           ·
            replace h := ite_f hc47 h
            refine Swp.exit rfl ?_
            have hp31 := hL87.pick [2, 3, 4, 5, 6, 7, 8, 9, 10, 11, 1, 12, 13] rfl rfl rfl
            have hL89 : Go.X.Loc [] [] w w80 [some b1, some b6, some b11, some b12, some b15, ob12, ob13, ob14, ob15, ob16, ob17, ob10, ob11] [Cont.cells [(Value.bool a.Negative), a_v], Cont.cells [(Value.bool b.Negative), b_v], Cont.cells [(Value.bool r13.Negative), v10], Cont.cells [(Value.bool r14.Negative), v11], Cont.cells [(Value.bool r16.Negative), (osv ob12 0 (List.length r16.Digits) cap12), (Value.bool r17.Negative), (osv ob13 0 (List.length r17.Digits) cap13), (Value.bool r18.Negative), (osv ob14 0 (List.length r18.Digits) cap14), (Value.bool r19.Negative), (osv ob15 0 (List.length r19.Digits) cap15), (Value.bool r20.Negative), (osv ob16 0 (List.length r20.Digits) cap16), (Value.bool r21.Negative), (osv ob17 0 (List.length r21.Digits) cap17), (Value.bool r15.1.Negative), (osv ob10 0 (List.length r15.1.Digits) cap10), (Value.bool r15.2.1.Negative), (osv ob11 0 (List.length r15.2.1.Digits) cap11)], Cont.cells ([] ++ (cs18 ++ sp12)), Cont.cells ([] ++ (cs22 ++ sp13)), Cont.cells ([] ++ (cs26 ++ sp14)), Cont.cells ([] ++ (cs30 ++ sp15)), Cont.cells ([] ++ (cs34 ++ sp16)), Cont.cells ([] ++ (cs40 ++ sp17)), Cont.cells ([] ++ (cs10 ++ sp10)), Cont.cells ([] ++ (cs11 ++ sp11))] := hp31.1
            have K86 := ks w hp31.2
            have f49 := (hE60.mono (K86 None))
            obtain rfl := Option.some.inj h
            obtain rfl := hd15 _ rfl
            replace h := g22
            try dsimp only at h
            skip
            refine Swp.pop_back ?_
            exact ⟨x37, digits27, cs40, _, rfl, (upds_sym ⟨rfl, rfl, trivial⟩), hL89, (Keep.trans K84 K86), f49, hl36, hc46, trivial⟩
          ·
           rintro _ w82 ⟨x36, digits26, cs39, u, rfl, rfl, hL90, K87, hE62, hl38, hc49, -⟩
           replace h := g22
           try dsimp only at h
           refine ⟨[], trivial, ?_⟩
           obtain rfl := Option.some.inj h
           exact ⟨digits26, cs39, rfl, rfl, hL90, (Keep.trans K82 K87), hE62, hl38, hc49, trivial⟩
         ·
          rintro _ w83 ⟨digits25, cs38, rfl, rfl, hL91, K88, hE63, hl39, hc50, -⟩
          refine ⟨_, rfl, ?_⟩
          replace h := g21
          try dsimp only at h
          refine Rl.nil (Swp.pop_blk (Swp.region rfl (Rl.op (OpY.add (x := 5) (y := 1) (z := 6) rfl rfl rfl ?_))))
          refine Rl.op (OpY.move (v := (Value.int .i64 6)) rfl ?_)
          refine Rl.nil ?_
          refine Swp.pop_back (Swp.rnd (m := 2) ?_)
          refine Swp.seq (Swp.region rfl (Rl.op (OpY.lss (x := 6) (y := 8) ((6 : Int) < 8) rfl rfl Iff.rfl ?_)))
          refine Rl.nil (Swp.seq ?_)
          refine Swp.cond_t (b := (decide ((6 : Int) < 8))) rfl (decide_eq_true (by decide)) ?_
          refine Swp.skip (Swp.seq (Swp.block (Swp.seq (Swp.region rfl (Rl.op (OpY.indexAddr (i := 6) (q := 12) Tryd.underlying45 ti24 rfl rfl (by decide) rfl ?_))))))
          refine Rl.op (OpY.ldBoxA (vs := [(Value.bool r15.1.Negative), (osv ob10 0 (List.length r15.1.Digits) cap10)]) Tryd.underlying24 rfl ti24 rfl (hL91.at 4 rfl rfl) rfl rfl ?_)
          refine Rl.op (OpY.alloc (cs := [(Value.bool false), (Value.slice none 0 0)]) ti24 rfl hL91 ?_)
          intro b34 w84 hL92 hS45
          have K89 := ks w hS45
          refine Rl.op0 (OpY.store (vs := [(Value.bool r15.1.Negative), (osv ob10 0 (List.length r15.1.Digits) cap10)]) ti24 rfl rfl rfl rfl (ones_cons rfl (ones_cons (osv_one ob10 0 (List.length r15.1.Digits) cap10) ones_nil)) hL92 0 rfl rfl (Nat.le_of_ble_eq_true rfl) ?_)
          intro w85 (hL93 : Go.X.Loc [] [] w w85 [some b34, some b1, some b6, some b11, some b12, some b15, ob12, ob13, ob14, ob15, ob16, ob17, ob10, ob11] [Cont.cells [(Value.bool r15.1.Negative), (osv ob10 0 (List.length r15.1.Digits) cap10)], Cont.cells [(Value.bool a.Negative), a_v], Cont.cells [(Value.bool b.Negative), b_v], Cont.cells [(Value.bool r13.Negative), v10], Cont.cells [(Value.bool r14.Negative), v11], Cont.cells [(Value.bool r16.Negative), (osv ob12 0 (List.length r16.Digits) cap12), (Value.bool r17.Negative), (osv ob13 0 (List.length r17.Digits) cap13), (Value.bool r18.Negative), (osv ob14 0 (List.length r18.Digits) cap14), (Value.bool r19.Negative), (osv ob15 0 (List.length r19.Digits) cap15), (Value.bool r20.Negative), (osv ob16 0 (List.length r20.Digits) cap16), (Value.bool r21.Negative), (osv ob17 0 (List.length r21.Digits) cap17), (Value.bool r15.1.Negative), (osv ob10 0 (List.length r15.1.Digits) cap10), (Value.bool r15.2.1.Negative), (osv ob11 0 (List.length r15.2.1.Digits) cap11)], Cont.cells ([] ++ (cs18 ++ sp12)), Cont.cells ([] ++ (cs22 ++ sp13)), Cont.cells ([] ++ (cs26 ++ sp14)), Cont.cells ([] ++ (cs30 ++ sp15)), Cont.cells ([] ++ (cs34 ++ sp16)), Cont.cells ([] ++ (cs38 ++ sp17)), Cont.cells ([] ++ (cs10 ++ sp10)), Cont.cells ([] ++ (cs11 ++ sp11))]) hS46
          have K90 := ks w hS46
          refine Rl.nil (Swp.region rfl (Rl.op (OpY.ldBoxA (vs := [(Value.bool r15.1.Negative), (osv ob10 0 (List.length r15.1.Digits) cap10)]) Tryd.underlying24 rfl ti24 rfl (hL93.at 0 rfl rfl) rfl rfl ?_)))
          obtain ⟨s23, h, g23⟩ := bind_some h
          refine Rl.op (OpY.callg (T := fun e w' => ∃ (digits28 : (List Int)) (cs42 : List Value), digits28 = s23 ∧ e = Ending.returned (Value.tuple #[]) ∧ Go.X.Loc [] [] w w' [some b1, some b6, some b11, some b12, some b15, ob12, ob13, ob14, ob15, ob16, ob17, ob10, ob11] [Cont.cells [(Value.bool a.Negative), a_v], Cont.cells [(Value.bool b.Negative), b_v], Cont.cells [(Value.bool r13.Negative), v10], Cont.cells [(Value.bool r14.Negative), v11], Cont.cells [(Value.bool r16.Negative), (osv ob12 0 (List.length r16.Digits) cap12), (Value.bool r17.Negative), (osv ob13 0 (List.length r17.Digits) cap13), (Value.bool r18.Negative), (osv ob14 0 (List.length r18.Digits) cap14), (Value.bool r19.Negative), (osv ob15 0 (List.length r19.Digits) cap15), (Value.bool r20.Negative), (osv ob16 0 (List.length r20.Digits) cap16), (Value.bool r21.Negative), (osv ob17 0 (List.length r21.Digits) cap17), (Value.bool r15.1.Negative), (osv ob10 0 (List.length r15.1.Digits) cap10), (Value.bool r15.2.1.Negative), (osv ob11 0 (List.length r15.2.1.Digits) cap11)], Cont.cells ([] ++ (cs18 ++ sp12)), Cont.cells ([] ++ (cs22 ++ sp13)), Cont.cells ([] ++ (cs26 ++ sp14)), Cont.cells ([] ++ (cs30 ++ sp15)), Cont.cells ([] ++ (cs34 ++ sp16)), Cont.cells ([] ++ (cs38 ++ sp17)), Cont.cells ([] ++ (cs42 ++ sp10)), Cont.cells ([] ++ (cs11 ++ sp11))] ∧ Keep w.heap.size [some b34, some b1, some b6, some b11, some b12, some b15, ob12, ob13, ob14, ob15, ob16, ob17, ob10, ob11] w85 [some b1, some b6, some b11, some b12, some b15, ob12, ob13, ob14, ob15, ob16, ob17, ob10, ob11] w' ∧ Els (rInt .u32) (Hv w.heap.size None [some b1, some b6, some b11, some b12, some b15, ob12, ob13, ob14, ob15, ob16, ob17, ob10, ob11] w') cs42 digits28 ∧ (List.length r15.1.Digits) = List.length digits28 ∧ (cs42 ++ sp10).length = cap10 * (rInt .u32).sz ∧ True) en43 rfl rfl ?_ ?_)
          ·
           refine calls_of (l := [(Value.agg #[(Value.bool r15.1.Negative), (osv ob10 0 (List.length r15.1.Digits) cap10)])]) (rl := []) (n := 17) Tryd.func43 rfl rfl rfl (Nat.le_of_ble_eq_true rfl) ?_
           refine Swp.seq (Swp.region rfl (Rl.op (OpY.box (cs := [(Value.bool r15.1.Negative), (osv ob10 0 (List.length r15.1.Digits) cap10)]) rfl rfl hL93 ?_)))
           intro b35 w86 hL94 hS47
           have K91 := ks w hS47
           refine Rl.nil (Swp.seq (Swp.region rfl (Rl.op (OpY.fieldAddr (q := 1) Tryd.underlying24 rfl ti22 rfl rfl rfl ?_))))
           refine Rl.op (OpY.ldBox1 (v := (osv ob10 0 (List.length r15.1.Digits) cap10)) Tryd.underlying22 rfl rfl (hL94.at 0 rfl rfl) rfl ?_)
           have f50 := (((((((((((((((((((((((((((((((((hE25.mono (K23 None)).mono (K24 None)).mono (K25 None)).mono (K26 None)).mono (K27 None)).mono (K28 None)).mono (K29 None)).mono (K30 None)).mono (K31 None)).mono (K32 None)).mono (K33 None)).mono (K34 None)).mono (K35 None)).mono (K36 None)).mono (K43 None)).mono (K44 None)).mono (K45 None)).mono (K52 None)).mono (K53 None)).mono (K54 None)).mono (K61 None)).mono (K62 None)).mono (K63 None)).mono (K70 None)).mono (K71 None)).mono (K72 None)).mono (K79 None)).mono (K80 None)).mono (K81 None)).mono (K88 None)).mono (K89 None)).mono (K90 None)).mono (K91 None))
           refine Rl.op (OpY.lenRow (pre := []) (r := (rInt .u32)) (xs := r15.1.Digits) Tryd.underlying22 rfl (hL94.at 13 rfl rfl) f50 rfl rfl ?_)
           refine Rl.op (OpY.move (v := (Value.int .i64 0)) rfl ?_)
           refine Rl.nil ?_
           obtain ⟨s24, hl40, g24⟩ := bind_some h
           refine Swp.join (fun e w' => ∃ (x41 : Int) (digits29 : (List Int)) (cs43 : List Value) (u : Env), (x41, digits29) = s24 ∧ e = upds [(5, (Value.int .i64 (List.length r15.1.Digits : Int))), (6, (Value.int .i64 x41))] u ∧ Go.X.Loc [] [] w w' [some b1, some b6, some b11, some b12, some b15, ob12, ob13, ob14, ob15, ob16, ob17, ob10, ob11] [Cont.cells [(Value.bool a.Negative), a_v], Cont.cells [(Value.bool b.Negative), b_v], Cont.cells [(Value.bool r13.Negative), v10], Cont.cells [(Value.bool r14.Negative), v11], Cont.cells [(Value.bool r16.Negative), (osv ob12 0 (List.length r16.Digits) cap12), (Value.bool r17.Negative), (osv ob13 0 (List.length r17.Digits) cap13), (Value.bool r18.Negative), (osv ob14 0 (List.length r18.Digits) cap14), (Value.bool r19.Negative), (osv ob15 0 (List.length r19.Digits) cap15), (Value.bool r20.Negative), (osv ob16 0 (List.length r20.Digits) cap16), (Value.bool r21.Negative), (osv ob17 0 (List.length r21.Digits) cap17), (Value.bool r15.1.Negative), (osv ob10 0 (List.length r15.1.Digits) cap10), (Value.bool r15.2.1.Negative), (osv ob11 0 (List.length r15.2.1.Digits) cap11)], Cont.cells ([] ++ (cs18 ++ sp12)), Cont.cells ([] ++ (cs22 ++ sp13)), Cont.cells ([] ++ (cs26 ++ sp14)), Cont.cells ([] ++ (cs30 ++ sp15)), Cont.cells ([] ++ (cs34 ++ sp16)), Cont.cells ([] ++ (cs38 ++ sp17)), Cont.cells ([] ++ (cs43 ++ sp10)), Cont.cells ([] ++ (cs11 ++ sp11))] ∧ Keep w.heap.size [some b35, some b34, some b1, some b6, some b11, some b12, some b15, ob12, ob13, ob14, ob15, ob16, ob17, ob10, ob11] w86 [some b1, some b6, some b11, some b12, some b15, ob12, ob13, ob14, ob15, ob16, ob17, ob10, ob11] w' ∧ Els (rInt .u32) (Hv w.heap.size None [some b1, some b6, some b11, some b12, some b15, ob12, ob13, ob14, ob15, ob16, ob17, ob10, ob11] w') cs43 digits29 ∧ (List.length r15.1.Digits) = List.length digits29 ∧ (cs43 ++ sp10).length = cap10 * (rInt .u32).sz ∧ True) ?_ ?_
           ·
            refine Swp.block ?_
            have hp32 := hL94.pick [0, 13, 2, 3, 4, 5, 6, 7, 8, 9, 10, 11, 12, 14] rfl rfl rfl
            have hL95 : Go.X.Loc [] [] w w86 [some b35, ob10, some b1, some b6, some b11, some b12, some b15, ob12, ob13, ob14, ob15, ob16, ob17, ob11] [Cont.cells [(Value.bool r15.1.Negative), (osv ob10 0 (List.length r15.1.Digits) cap10)], Cont.cells ([] ++ (cs10 ++ sp10)), Cont.cells [(Value.bool a.Negative), a_v], Cont.cells [(Value.bool b.Negative), b_v], Cont.cells [(Value.bool r13.Negative), v10], Cont.cells [(Value.bool r14.Negative), v11], Cont.cells [(Value.bool r16.Negative), (osv ob12 0 (List.length r16.Digits) cap12), (Value.bool r17.Negative), (osv ob13 0 (List.length r17.Digits) cap13), (Value.bool r18.Negative), (osv ob14 0 (List.length r18.Digits) cap14), (Value.bool r19.Negative), (osv ob15 0 (List.length r19.Digits) cap15), (Value.bool r20.Negative), (osv ob16 0 (List.length r20.Digits) cap16), (Value.bool r21.Negative), (osv ob17 0 (List.length r21.Digits) cap17), (Value.bool r15.1.Negative), (osv ob10 0 (List.length r15.1.Digits) cap10), (Value.bool r15.2.1.Negative), (osv ob11 0 (List.length r15.2.1.Digits) cap11)], Cont.cells ([] ++ (cs18 ++ sp12)), Cont.cells ([] ++ (cs22 ++ sp13)), Cont.cells ([] ++ (cs26 ++ sp14)), Cont.cells ([] ++ (cs30 ++ sp15)), Cont.cells ([] ++ (cs34 ++ sp16)), Cont.cells ([] ++ (cs38 ++ sp17)), Cont.cells ([] ++ (cs11 ++ sp11))] := hp32.1
            have K92 := ks w hp32.2
            have f51 := (f50.mono (K92 None))
            refine Swp.loopM hl40 (fun (ss : ((List Int) × Int)) (e : Env) (w' : World) => match ss with | (digits30, x42) => ∃ (cs44 : List Value) (u : Env), e = upds [(1, (Value.pointer (some ⟨b35, 0, none⟩))), (5, (Value.int .i64 (List.length r15.1.Digits : Int))), (6, (Value.int .i64 x42))] u ∧ Go.X.Loc [] [] w w' [some b35, ob10, some b1, some b6, some b11, some b12, some b15, ob12, ob13, ob14, ob15, ob16, ob17, ob11] [Cont.cells [(Value.bool r15.1.Negative), (osv ob10 0 (List.length r15.1.Digits) cap10)], Cont.cells ([] ++ (cs44 ++ sp10)), Cont.cells [(Value.bool a.Negative), a_v], Cont.cells [(Value.bool b.Negative), b_v], Cont.cells [(Value.bool r13.Negative), v10], Cont.cells [(Value.bool r14.Negative), v11], Cont.cells [(Value.bool r16.Negative), (osv ob12 0 (List.length r16.Digits) cap12), (Value.bool r17.Negative), (osv ob13 0 (List.length r17.Digits) cap13), (Value.bool r18.Negative), (osv ob14 0 (List.length r18.Digits) cap14), (Value.bool r19.Negative), (osv ob15 0 (List.length r19.Digits) cap15), (Value.bool r20.Negative), (osv ob16 0 (List.length r20.Digits) cap16), (Value.bool r21.Negative), (osv ob17 0 (List.length r21.Digits) cap17), (Value.bool r15.1.Negative), (osv ob10 0 (List.length r15.1.Digits) cap10), (Value.bool r15.2.1.Negative), (osv ob11 0 (List.length r15.2.1.Digits) cap11)], Cont.cells ([] ++ (cs18 ++ sp12)), Cont.cells ([] ++ (cs22 ++ sp13)), Cont.cells ([] ++ (cs26 ++ sp14)), Cont.cells ([] ++ (cs30 ++ sp15)), Cont.cells ([] ++ (cs34 ++ sp16)), Cont.cells ([] ++ (cs38 ++ sp17)), Cont.cells ([] ++ (cs11 ++ sp11))] ∧ Keep w.heap.size [some b35, some b34, some b1, some b6, some b11, some b12, some b15, ob12, ob13, ob14, ob15, ob16, ob17, ob10, ob11] w86 [some b35, ob10, some b1, some b6, some b11, some b12, some b15, ob12, ob13, ob14, ob15, ob16, ob17, ob11] w' ∧ Els (rInt .u32) (Hv w.heap.size None [some b35, ob10, some b1, some b6, some b11, some b12, some b15, ob12, ob13, ob14, ob15, ob16, ob17, ob11] w') cs44 digits30 ∧ (List.length r15.1.Digits) = List.length digits30 ∧ (cs44 ++ sp10).length = cap10 * (rInt .u32).sz ∧ True) ⟨cs10, _, (upds_sym ⟨rfl, rfl, rfl, trivial⟩), hL95, K92, f51, rfl, hc13, trivial⟩ ?_
            rintro ⟨digits30, x42⟩ oo _ w87 ⟨cs44, u, rfl, hL96, K93, hE64, hl41, hc51, -⟩ h hd16
            rw [lawMemory_b7] at h
            refine Swp.seq (Swp.region rfl (Rl.op (OpY.lss (x := x42) (y := (List.length r15.1.Digits : Int)) ((x42 : Int) < (List.length r15.1.Digits : Int)) rfl rfl Iff.rfl ?_)))
            refine Rl.nil (Swp.seq ?_)
            refine Swp.cond_d ((x42 : Int) < (List.length r15.1.Digits : Int)) rfl (fun hc52 => ?_) (fun hc52 => ?_)
            ·
             replace h := ite_t hc52 h
             refine Swp.skip (Swp.seq (Swp.block (Swp.seq (Swp.region rfl (Rl.op (OpY.move (v := (Value.int .i64 x42)) rfl ?_))))))
             refine Rl.op (OpY.assign (v := (Value.int .i64 x42)) rfl ?_)
             refine Rl.nil (Swp.region rfl (Rl.op (OpY.fieldAddr (q := 1) Tryd.underlying24 rfl ti22 rfl rfl rfl ?_)))
             refine Rl.op (OpY.ldBox1 (v := (osv ob10 0 (List.length r15.1.Digits) cap10)) Tryd.underlying22 rfl rfl (hL96.at 0 rfl rfl) rfl ?_)
             refine Rl.op (OpY.move (v := (Value.int .i64 x42)) rfl ?_)
             obtain ⟨x43, q118, h⟩ := bind_some h
             obtain ⟨n28, q119, q120⟩ := idx_some q118
             have q121 := (List.getElem?_eq_some_iff.1 q120).1
             obtain ⟨b36, hb16⟩ := hL96.row_some 1 rfl rfl (row_pos (pre := []) hE64 q120 (Nat.lt_of_sub_eq_succ rfl))
             refine Rl.op (OpY.ixRowD (r := (rInt .u32)) (b := b36) (o := 0) (n := n28) (m := (List.length r15.1.Digits)) (xs := digits30) (q := (0 + n28 * (rInt .u32).sz)) Tryd.underlying22 ti47 (osv_some hb16) hl41 rfl q119 q121 rfl ?_)
             obtain ⟨vs16, q122, q123, q124⟩ := row_elem (pre := []) (sp := sp10) hE64 q120
             obtain rfl := q123
             refine Rl.op (OpY.ldElem1 (v := (Value.int .u32 x43)) Tryd.underlying47 rfl rfl (own_some hb16 (hL96.at 1 rfl rfl)) q124 ?_)
             refine Rl.op (OpY.add (x := x43) (y := 1) (z := (uw32 (x43 + 1))) rfl rfl rfl ?_)
             obtain ⟨x44, q125, h⟩ := bind_some h
             obtain ⟨n29, q126, q127⟩ := idx_some q125
             have q128 := (List.getElem?_eq_some_iff.1 q127).1
             refine Rl.op (OpY.ixRowD (r := (rInt .u32)) (b := b36) (o := 0) (n := n29) (m := (List.length r15.1.Digits)) (xs := digits30) (q := (0 + n29 * (rInt .u32).sz)) Tryd.underlying22 ti47 (osv_some hb16) hl41 rfl q126 q128 rfl ?_)
             obtain ⟨x45, q129, h⟩ := bind_some h
             obtain ⟨n30, q130, q131, q132⟩ := upd1_some q129
             obtain rfl := Int.ofNat_inj.1 (q126.symm.trans q130)
             refine Rl.op0 (OpY.stRowX (pre := []) (r := (rInt .u32)) (vs := [(Value.int .u32 (uw32 (x43 + 1)))]) (a := (uw32 (x43 + 1))) ti47 rfl rfl rfl rfl hL96 1 (congrArg some hb16) rfl hE64 q128 rfl q132 ?_)
             have hl42 : (List.length r15.1.Digits) = List.length x45 := by rw [q132, List.length_set]; exact hl41
             intro w88 cs45 (hL97 : Go.X.Loc [] [] w w88 [some b35, ob10, some b1, some b6, some b11, some b12, some b15, ob12, ob13, ob14, ob15, ob16, ob17, ob11] [Cont.cells [(Value.bool r15.1.Negative), (osv ob10 0 (List.length r15.1.Digits) cap10)], Cont.cells ([] ++ (cs45 ++ sp10)), Cont.cells [(Value.bool a.Negative), a_v], Cont.cells [(Value.bool b.Negative), b_v], Cont.cells [(Value.bool r13.Negative), v10], Cont.cells [(Value.bool r14.Negative), v11], Cont.cells [(Value.bool r16.Negative), (osv ob12 0 (List.length r16.Digits) cap12), (Value.bool r17.Negative), (osv ob13 0 (List.length r17.Digits) cap13), (Value.bool r18.Negative), (osv ob14 0 (List.length r18.Digits) cap14), (Value.bool r19.Negative), (osv ob15 0 (List.length r19.Digits) cap15), (Value.bool r20.Negative), (osv ob16 0 (List.length r20.Digits) cap16), (Value.bool r21.Negative), (osv ob17 0 (List.length r21.Digits) cap17), (Value.bool r15.1.Negative), (osv ob10 0 (List.length r15.1.Digits) cap10), (Value.bool r15.2.1.Negative), (osv ob11 0 (List.length r15.2.1.Digits) cap11)], Cont.cells ([] ++ (cs18 ++ sp12)), Cont.cells ([] ++ (cs22 ++ sp13)), Cont.cells ([] ++ (cs26 ++ sp14)), Cont.cells ([] ++ (cs30 ++ sp15)), Cont.cells ([] ++ (cs34 ++ sp16)), Cont.cells ([] ++ (cs38 ++ sp17)), Cont.cells ([] ++ (cs11 ++ sp11))]) hS48 hE65 q133
             have hc53 : (cs45 ++ sp10).length = cap10 * (rInt .u32).sz := by have := hc51; rw [List.length_append] at this ⊢; rw [q133]; exact this
             have K94 := ks w hS48
             refine Rl.nil (Swp.pop_blk (Swp.region rfl (Rl.op (OpY.add (x := x42) (y := 1) (z := (iw (x42 + 1))) rfl rfl rfl ?_))))
             refine Rl.op (OpY.move (v := (Value.int .i64 (iw (x42 + 1)))) rfl ?_)
             refine Rl.nil ?_
             have f52 := (hE65.mono (K94 None))
             obtain rfl := Option.some.inj h
             refine Swp.pop_back ⟨(x45, (iw (x42 + 1))), rfl, ?_⟩
             exact ⟨cs45, _, (upds_sym ⟨rfl, rfl, rfl, trivial⟩), hL97, (Keep.trans K93 K94), f52, hl42, hc53, trivial⟩
            ·
             replace h := ite_f hc52 h
             refine Swp.exit rfl ?_
             have hp33 := hL96.pick [2, 3, 4, 5, 6, 7, 8, 9, 10, 11, 12, 1, 13] rfl rfl rfl
             have hL98 : Go.X.Loc [] [] w w87 [some b1, some b6, some b11, some b12, some b15, ob12, ob13, ob14, ob15, ob16, ob17, ob10, ob11] [Cont.cells [(Value.bool a.Negative), a_v], Cont.cells [(Value.bool b.Negative), b_v], Cont.cells [(Value.bool r13.Negative), v10], Cont.cells [(Value.bool r14.Negative), v11], Cont.cells [(Value.bool r16.Negative), (osv ob12 0 (List.length r16.Digits) cap12), (Value.bool r17.Negative), (osv ob13 0 (List.length r17.Digits) cap13), (Value.bool r18.Negative), (osv ob14 0 (List.length r18.Digits) cap14), (Value.bool r19.Negative), (osv ob15 0 (List.length r19.Digits) cap15), (Value.bool r20.Negative), (osv ob16 0 (List.length r20.Digits) cap16), (Value.bool r21.Negative), (osv ob17 0 (List.length r21.Digits) cap17), (Value.bool r15.1.Negative), (osv ob10 0 (List.length r15.1.Digits) cap10), (Value.bool r15.2.1.Negative), (osv ob11 0 (List.length r15.2.1.Digits) cap11)], Cont.cells ([] ++ (cs18 ++ sp12)), Cont.cells ([] ++ (cs22 ++ sp13)), Cont.cells ([] ++ (cs26 ++ sp14)), Cont.cells ([] ++ (cs30 ++ sp15)), Cont.cells ([] ++ (cs34 ++ sp16)), Cont.cells ([] ++ (cs38 ++ sp17)), Cont.cells ([] ++ (cs44 ++ sp10)), Cont.cells ([] ++ (cs11 ++ sp11))] := hp33.1
             have K95 := ks w hp33.2
             have f53 := (hE64.mono (K95 None))
             obtain rfl := Option.some.inj h
             obtain rfl := hd16 _ rfl
             replace h := g24
             try dsimp only at h
             skip
             refine Swp.pop_back ?_
             exact ⟨x42, digits30, cs44, _, rfl, (upds_sym ⟨rfl, rfl, trivial⟩), hL98, (Keep.trans K93 K95), f53, hl41, hc51, trivial⟩
           ·
            rintro _ w89 ⟨x41, digits29, cs43, u, rfl, rfl, hL99, K96, hE66, hl43, hc54, -⟩
            replace h := g24
            try dsimp only at h
            refine ⟨[], trivial, ?_⟩
            obtain rfl := Option.some.inj h
            exact ⟨digits29, cs43, rfl, rfl, hL99, (Keep.trans K91 K96), hE66, hl43, hc54, trivial⟩
          ·
           rintro _ w90 ⟨digits28, cs42, rfl, rfl, hL100, K97, hE67, hl44, hc55, -⟩
           refine ⟨_, rfl, ?_⟩
           replace h := g23
           try dsimp only at h
           refine Rl.nil (Swp.pop_blk (Swp.region rfl (Rl.op (OpY.add (x := 6) (y := 1) (z := 7) rfl rfl rfl ?_))))
           refine Rl.op (OpY.move (v := (Value.int .i64 7)) rfl ?_)
           refine Rl.nil ?_
           refine Swp.pop_back (Swp.rnd (m := 1) ?_)
           refine Swp.seq (Swp.region rfl (Rl.op (OpY.lss (x := 7) (y := 8) ((7 : Int) < 8) rfl rfl Iff.rfl ?_)))
           refine Rl.nil (Swp.seq ?_)
           refine Swp.cond_t (b := (decide ((7 : Int) < 8))) rfl (decide_eq_true (by decide)) ?_
           refine Swp.skip (Swp.seq (Swp.block (Swp.seq (Swp.region rfl (Rl.op (OpY.indexAddr (i := 7) (q := 14) Tryd.underlying45 ti24 rfl rfl (by decide) rfl ?_))))))
           refine Rl.op (OpY.ldBoxA (vs := [(Value.bool r15.2.1.Negative), (osv ob11 0 (List.length r15.2.1.Digits) cap11)]) Tryd.underlying24 rfl ti24 rfl (hL100.at 4 rfl rfl) rfl rfl ?_)
           refine Rl.op (OpY.alloc (cs := [(Value.bool false), (Value.slice none 0 0)]) ti24 rfl hL100 ?_)
           intro b37 w91 hL101 hS49
           have K98 := ks w hS49
           refine Rl.op0 (OpY.store (vs := [(Value.bool r15.2.1.Negative), (osv ob11 0 (List.length r15.2.1.Digits) cap11)]) ti24 rfl rfl rfl rfl (ones_cons rfl (ones_cons (osv_one ob11 0 (List.length r15.2.1.Digits) cap11) ones_nil)) hL101 0 rfl rfl (Nat.le_of_ble_eq_true rfl) ?_)
           intro w92 (hL102 : Go.X.Loc [] [] w w92 [some b37, some b1, some b6, some b11, some b12, some b15, ob12, ob13, ob14, ob15, ob16, ob17, ob10, ob11] [Cont.cells [(Value.bool r15.2.1.Negative), (osv ob11 0 (List.length r15.2.1.Digits) cap11)], Cont.cells [(Value.bool a.Negative), a_v], Cont.cells [(Value.bool b.Negative), b_v], Cont.cells [(Value.bool r13.Negative), v10], Cont.cells [(Value.bool r14.Negative), v11], Cont.cells [(Value.bool r16.Negative), (osv ob12 0 (List.length r16.Digits) cap12), (Value.bool r17.Negative), (osv ob13 0 (List.length r17.Digits) cap13), (Value.bool r18.Negative), (osv ob14 0 (List.length r18.Digits) cap14), (Value.bool r19.Negative), (osv ob15 0 (List.length r19.Digits) cap15), (Value.bool r20.Negative), (osv ob16 0 (List.length r20.Digits) cap16), (Value.bool r21.Negative), (osv ob17 0 (List.length r21.Digits) cap17), (Value.bool r15.1.Negative), (osv ob10 0 (List.length r15.1.Digits) cap10), (Value.bool r15.2.1.Negative), (osv ob11 0 (List.length r15.2.1.Digits) cap11)], Cont.cells ([] ++ (cs18 ++ sp12)), Cont.cells ([] ++ (cs22 ++ sp13)), Cont.cells ([] ++ (cs26 ++ sp14)), Cont.cells ([] ++ (cs30 ++ sp15)), Cont.cells ([] ++ (cs34 ++ sp16)), Cont.cells ([] ++ (cs38 ++ sp17)), Cont.cells ([] ++ (cs42 ++ sp10)), Cont.cells ([] ++ (cs11 ++ sp11))]) hS50
           have K99 := ks w hS50
           refine Rl.nil (Swp.region rfl (Rl.op (OpY.ldBoxA (vs := [(Value.bool r15.2.1.Negative), (osv ob11 0 (List.length r15.2.1.Digits) cap11)]) Tryd.underlying24 rfl ti24 rfl (hL102.at 0 rfl rfl) rfl rfl ?_)))
           obtain ⟨s25, h, g25⟩ := bind_some h
           refine Rl.op (OpY.callg (T := fun e w' => ∃ (digits31 : (List Int)) (cs46 : List Value), digits31 = s25 ∧ e = Ending.returned (Value.tuple #[]) ∧ Go.X.Loc [] [] w w' [some b1, some b6, some b11, some b12, some b15, ob12, ob13, ob14, ob15, ob16, ob17, ob10, ob11] [Cont.cells [(Value.bool a.Negative), a_v], Cont.cells [(Value.bool b.Negative), b_v], Cont.cells [(Value.bool r13.Negative), v10], Cont.cells [(Value.bool r14.Negative), v11], Cont.cells [(Value.bool r16.Negative), (osv ob12 0 (List.length r16.Digits) cap12), (Value.bool r17.Negative), (osv ob13 0 (List.length r17.Digits) cap13), (Value.bool r18.Negative), (osv ob14 0 (List.length r18.Digits) cap14), (Value.bool r19.Negative), (osv ob15 0 (List.length r19.Digits) cap15), (Value.bool r20.Negative), (osv ob16 0 (List.length r20.Digits) cap16), (Value.bool r21.Negative), (osv ob17 0 (List.length r21.Digits) cap17), (Value.bool r15.1.Negative), (osv ob10 0 (List.length r15.1.Digits) cap10), (Value.bool r15.2.1.Negative), (osv ob11 0 (List.length r15.2.1.Digits) cap11)], Cont.cells ([] ++ (cs18 ++ sp12)), Cont.cells ([] ++ (cs22 ++ sp13)), Cont.cells ([] ++ (cs26 ++ sp14)), Cont.cells ([] ++ (cs30 ++ sp15)), Cont.cells ([] ++ (cs34 ++ sp16)), Cont.cells ([] ++ (cs38 ++ sp17)), Cont.cells ([] ++ (cs42 ++ sp10)), Cont.cells ([] ++ (cs46 ++ sp11))] ∧ Keep w.heap.size [some b37, some b1, some b6, some b11, some b12, some b15, ob12, ob13, ob14, ob15, ob16, ob17, ob10, ob11] w92 [some b1, some b6, some b11, some b12, some b15, ob12, ob13, ob14, ob15, ob16, ob17, ob10, ob11] w' ∧ Els (rInt .u32) (Hv w.heap.size None [some b1, some b6, some b11, some b12, some b15, ob12, ob13, ob14, ob15, ob16, ob17, ob10, ob11] w') cs46 digits31 ∧ (List.length r15.2.1.Digits) = List.length digits31 ∧ (cs46 ++ sp11).length = cap11 * (rInt .u32).sz ∧ True) en43 rfl rfl ?_ ?_)
           ·
            refine calls_of (l := [(Value.agg #[(Value.bool r15.2.1.Negative), (osv ob11 0 (List.length r15.2.1.Digits) cap11)])]) (rl := []) (n := 17) Tryd.func43 rfl rfl rfl (Nat.le_of_ble_eq_true rfl) ?_
            refine Swp.seq (Swp.region rfl (Rl.op (OpY.box (cs := [(Value.bool r15.2.1.Negative), (osv ob11 0 (List.length r15.2.1.Digits) cap11)]) rfl rfl hL102 ?_)))
            intro b38 w93 hL103 hS51
            have K100 := ks w hS51
            refine Rl.nil (Swp.seq (Swp.region rfl (Rl.op (OpY.fieldAddr (q := 1) Tryd.underlying24 rfl ti22 rfl rfl rfl ?_))))
            refine Rl.op (OpY.ldBox1 (v := (osv ob11 0 (List.length r15.2.1.Digits) cap11)) Tryd.underlying22 rfl rfl (hL103.at 0 rfl rfl) rfl ?_)
            have f54 := ((((((((((((((((((((((((((((((((((((hE26.mono (K23 None)).mono (K24 None)).mono (K25 None)).mono (K26 None)).mono (K27 None)).mono (K28 None)).mono (K29 None)).mono (K30 None)).mono (K31 None)).mono (K32 None)).mono (K33 None)).mono (K34 None)).mono (K35 None)).mono (K36 None)).mono (K43 None)).mono (K44 None)).mono (K45 None)).mono (K52 None)).mono (K53 None)).mono (K54 None)).mono (K61 None)).mono (K62 None)).mono (K63 None)).mono (K70 None)).mono (K71 None)).mono (K72 None)).mono (K79 None)).mono (K80 None)).mono (K81 None)).mono (K88 None)).mono (K89 None)).mono (K90 None)).mono (K97 None)).mono (K98 None)).mono (K99 None)).mono (K100 None))
            refine Rl.op (OpY.lenRow (pre := []) (r := (rInt .u32)) (xs := r15.2.1.Digits) Tryd.underlying22 rfl (hL103.at 14 rfl rfl) f54 rfl rfl ?_)
            refine Rl.op (OpY.move (v := (Value.int .i64 0)) rfl ?_)
            refine Rl.nil ?_
            obtain ⟨s26, hl45, g26⟩ := bind_some h
            refine Swp.join (fun e w' => ∃ (x46 : Int) (digits32 : (List Int)) (cs47 : List Value) (u : Env), (x46, digits32) = s26 ∧ e = upds [(5, (Value.int .i64 (List.length r15.2.1.Digits : Int))), (6, (Value.int .i64 x46))] u ∧ Go.X.Loc [] [] w w' [some b1, some b6, some b11, some b12, some b15, ob12, ob13, ob14, ob15, ob16, ob17, ob10, ob11] [Cont.cells [(Value.bool a.Negative), a_v], Cont.cells [(Value.bool b.Negative), b_v], Cont.cells [(Value.bool r13.Negative), v10], Cont.cells [(Value.bool r14.Negative), v11], Cont.cells [(Value.bool r16.Negative), (osv ob12 0 (List.length r16.Digits) cap12), (Value.bool r17.Negative), (osv ob13 0 (List.length r17.Digits) cap13), (Value.bool r18.Negative), (osv ob14 0 (List.length r18.Digits) cap14), (Value.bool r19.Negative), (osv ob15 0 (List.length r19.Digits) cap15), (Value.bool r20.Negative), (osv ob16 0 (List.length r20.Digits) cap16), (Value.bool r21.Negative), (osv ob17 0 (List.length r21.Digits) cap17), (Value.bool r15.1.Negative), (osv ob10 0 (List.length r15.1.Digits) cap10), (Value.bool r15.2.1.Negative), (osv ob11 0 (List.length r15.2.1.Digits) cap11)], Cont.cells ([] ++ (cs18 ++ sp12)), Cont.cells ([] ++ (cs22 ++ sp13)), Cont.cells ([] ++ (cs26 ++ sp14)), Cont.cells ([] ++ (cs30 ++ sp15)), Cont.cells ([] ++ (cs34 ++ sp16)), Cont.cells ([] ++ (cs38 ++ sp17)), Cont.cells ([] ++ (cs42 ++ sp10)), Cont.cells ([] ++ (cs47 ++ sp11))] ∧ Keep w.heap.size [some b38, some b37, some b1, some b6, some b11, some b12, some b15, ob12, ob13, ob14, ob15, ob16, ob17, ob10, ob11] w93 [some b1, some b6, some b11, some b12, some b15, ob12, ob13, ob14, ob15, ob16, ob17, ob10, ob11] w' ∧ Els (rInt .u32) (Hv w.heap.size None [some b1, some b6, some b11, some b12, some b15, ob12, ob13, ob14, ob15, ob16, ob17, ob10, ob11] w') cs47 digits32 ∧ (List.length r15.2.1.Digits) = List.length digits32 ∧ (cs47 ++ sp11).length = cap11 * (rInt .u32).sz ∧ True) ?_ ?_
            ·
             refine Swp.block ?_
             have hp34 := hL103.pick [0, 14, 2, 3, 4, 5, 6, 7, 8, 9, 10, 11, 12, 13] rfl rfl rfl
             have hL104 : Go.X.Loc [] [] w w93 [some b38, ob11, some b1, some b6, some b11, some b12, some b15, ob12, ob13, ob14, ob15, ob16, ob17, ob10] [Cont.cells [(Value.bool r15.2.1.Negative), (osv ob11 0 (List.length r15.2.1.Digits) cap11)], Cont.cells ([] ++ (cs11 ++ sp11)), Cont.cells [(Value.bool a.Negative), a_v], Cont.cells [(Value.bool b.Negative), b_v], Cont.cells [(Value.bool r13.Negative), v10], Cont.cells [(Value.bool r14.Negative), v11], Cont.cells [(Value.bool r16.Negative), (osv ob12 0 (List.length r16.Digits) cap12), (Value.bool r17.Negative), (osv ob13 0 (List.length r17.Digits) cap13), (Value.bool r18.Negative), (osv ob14 0 (List.length r18.Digits) cap14), (Value.bool r19.Negative), (osv ob15 0 (List.length r19.Digits) cap15), (Value.bool r20.Negative), (osv ob16 0 (List.length r20.Digits) cap16), (Value.bool r21.Negative), (osv ob17 0 (List.length r21.Digits) cap17), (Value.bool r15.1.Negative), (osv ob10 0 (List.length r15.1.Digits) cap10), (Value.bool r15.2.1.Negative), (osv ob11 0 (List.length r15.2.1.Digits) cap11)], Cont.cells ([] ++ (cs18 ++ sp12)), Cont.cells ([] ++ (cs22 ++ sp13)), Cont.cells ([] ++ (cs26 ++ sp14)), Cont.cells ([] ++ (cs30 ++ sp15)), Cont.cells ([] ++ (cs34 ++ sp16)), Cont.cells ([] ++ (cs38 ++ sp17)), Cont.cells ([] ++ (cs42 ++ sp10))] := hp34.1
             have K101 := ks w hp34.2
             have f55 := (f54.mono (K101 None))
             refine Swp.loopM hl45 (fun (ss : ((List Int) × Int)) (e : Env) (w' : World) => match ss with | (digits33, x47) => ∃ (cs48 : List Value) (u : Env), e = upds [(1, (Value.pointer (some ⟨b38, 0, none⟩))), (5, (Value.int .i64 (List.length r15.2.1.Digits : Int))), (6, (Value.int .i64 x47))] u ∧ Go.X.Loc [] [] w w' [some b38, ob11, some b1, some b6, some b11, some b12, some b15, ob12, ob13, ob14, ob15, ob16, ob17, ob10] [Cont.cells [(Value.bool r15.2.1.Negative), (osv ob11 0 (List.length r15.2.1.Digits) cap11)], Cont.cells ([] ++ (cs48 ++ sp11)), Cont.cells [(Value.bool a.Negative), a_v], Cont.cells [(Value.bool b.Negative), b_v], Cont.cells [(Value.bool r13.Negative), v10], Cont.cells [(Value.bool r14.Negative), v11], Cont.cells [(Value.bool r16.Negative), (osv ob12 0 (List.length r16.Digits) cap12), (Value.bool r17.Negative), (osv ob13 0 (List.length r17.Digits) cap13), (Value.bool r18.Negative), (osv ob14 0 (List.length r18.Digits) cap14), (Value.bool r19.Negative), (osv ob15 0 (List.length r19.Digits) cap15), (Value.bool r20.Negative), (osv ob16 0 (List.length r20.Digits) cap16), (Value.bool r21.Negative), (osv ob17 0 (List.length r21.Digits) cap17), (Value.bool r15.1.Negative), (osv ob10 0 (List.length r15.1.Digits) cap10), (Value.bool r15.2.1.Negative), (osv ob11 0 (List.length r15.2.1.Digits) cap11)], Cont.cells ([] ++ (cs18 ++ sp12)), Cont.cells ([] ++ (cs22 ++ sp13)), Cont.cells ([] ++ (cs26 ++ sp14)), Cont.cells ([] ++ (cs30 ++ sp15)), Cont.cells ([] ++ (cs34 ++ sp16)), Cont.cells ([] ++ (cs38 ++ sp17)), Cont.cells ([] ++ (cs42 ++ sp10))] ∧ Keep w.heap.size [some b38, some b37, some b1, some b6, some b11, some b12, some b15, ob12, ob13, ob14, ob15, ob16, ob17, ob10, ob11] w93 [some b38, ob11, some b1, some b6, some b11, some b12, some b15, ob12, ob13, ob14, ob15, ob16, ob17, ob10] w' ∧ Els (rInt .u32) (Hv w.heap.size None [some b38, ob11, some b1, some b6, some b11, some b12, some b15, ob12, ob13, ob14, ob15, ob16, ob17, ob10] w') cs48 digits33 ∧ (List.length r15.2.1.Digits) = List.length digits33 ∧ (cs48 ++ sp11).length = cap11 * (rInt .u32).sz ∧ True) ⟨cs11, _, (upds_sym ⟨rfl, rfl, rfl, trivial⟩), hL104, K101, f55, rfl, hc14, trivial⟩ ?_
             rintro ⟨digits33, x47⟩ oo _ w94 ⟨cs48, u, rfl, hL105, K102, hE68, hl46, hc56, -⟩ h hd17
             rw [lawMemory_b8] at h
             refine Swp.seq (Swp.region rfl (Rl.op (OpY.lss (x := x47) (y := (List.length r15.2.1.Digits : Int)) ((x47 : Int) < (List.length r15.2.1.Digits : Int)) rfl rfl Iff.rfl ?_)))
             refine Rl.nil (Swp.seq ?_)
             refine Swp.cond_d ((x47 : Int) < (List.length r15.2.1.Digits : Int)) rfl (fun hc57 => ?_) (fun hc57 => ?_)
             ·
              replace h := ite_t hc57 h
              refine Swp.skip (Swp.seq (Swp.block (Swp.seq (Swp.region rfl (Rl.op (OpY.move (v := (Value.int .i64 x47)) rfl ?_))))))
              refine Rl.op (OpY.assign (v := (Value.int .i64 x47)) rfl ?_)
              refine Rl.nil (Swp.region rfl (Rl.op (OpY.fieldAddr (q := 1) Tryd.underlying24 rfl ti22 rfl rfl rfl ?_)))
              refine Rl.op (OpY.ldBox1 (v := (osv ob11 0 (List.length r15.2.1.Digits) cap11)) Tryd.underlying22 rfl rfl (hL105.at 0 rfl rfl) rfl ?_)
              refine Rl.op (OpY.move (v := (Value.int .i64 x47)) rfl ?_)
              obtain ⟨x48, q134, h⟩ := bind_some h
              obtain ⟨n31, q135, q136⟩ := idx_some q134
              have q137 := (List.getElem?_eq_some_iff.1 q136).1
              obtain ⟨b39, hb17⟩ := hL105.row_some 1 rfl rfl (row_pos (pre := []) hE68 q136 (Nat.lt_of_sub_eq_succ rfl))
              refine Rl.op (OpY.ixRowD (r := (rInt .u32)) (b := b39) (o := 0) (n := n31) (m := (List.length r15.2.1.Digits)) (xs := digits33) (q := (0 + n31 * (rInt .u32).sz)) Tryd.underlying22 ti47 (osv_some hb17) hl46 rfl q135 q137 rfl ?_)
              obtain ⟨vs17, q138, q139, q140⟩ := row_elem (pre := []) (sp := sp11) hE68 q136
              obtain rfl := q139
              refine Rl.op (OpY.ldElem1 (v := (Value.int .u32 x48)) Tryd.underlying47 rfl rfl (own_some hb17 (hL105.at 1 rfl rfl)) q140 ?_)
              refine Rl.op (OpY.add (x := x48) (y := 1) (z := (uw32 (x48 + 1))) rfl rfl rfl ?_)
              obtain ⟨x49, q141, h⟩ := bind_some h
              obtain ⟨n32, q142, q143⟩ := idx_some q141
              have q144 := (List.getElem?_eq_some_iff.1 q143).1
              refine Rl.op (OpY.ixRowD (r := (rInt .u32)) (b := b39) (o := 0) (n := n32) (m := (List.length r15.2.1.Digits)) (xs := digits33) (q := (0 + n32 * (rInt .u32).sz)) Tryd.underlying22 ti47 (osv_some hb17) hl46 rfl q142 q144 rfl ?_)
              obtain ⟨x50, q145, h⟩ := bind_some h
              obtain ⟨n33, q146, q147, q148⟩ := upd1_some q145
              obtain rfl := Int.ofNat_inj.1 (q142.symm.trans q146)
              refine Rl.op0 (OpY.stRowX (pre := []) (r := (rInt .u32)) (vs := [(Value.int .u32 (uw32 (x48 + 1)))]) (a := (uw32 (x48 + 1))) ti47 rfl rfl rfl rfl hL105 1 (congrArg some hb17) rfl hE68 q144 rfl q148 ?_)
              have hl47 : (List.length r15.2.1.Digits) = List.length x50 := by rw [q148, List.length_set]; exact hl46
              intro w95 cs49 (hL106 : Go.X.Loc [] [] w w95 [some b38, ob11, some b1, some b6, some b11, some b12, some b15, ob12, ob13, ob14, ob15, ob16, ob17, ob10] [Cont.cells [(Value.bool r15.2.1.Negative), (osv ob11 0 (List.length r15.2.1.Digits) cap11)], Cont.cells ([] ++ (cs49 ++ sp11)), Cont.cells [(Value.bool a.Negative), a_v], Cont.cells [(Value.bool b.Negative), b_v], Cont.cells [(Value.bool r13.Negative), v10], Cont.cells [(Value.bool r14.Negative), v11], Cont.cells [(Value.bool r16.Negative), (osv ob12 0 (List.length r16.Digits) cap12), (Value.bool r17.Negative), (osv ob13 0 (List.length r17.Digits) cap13), (Value.bool r18.Negative), (osv ob14 0 (List.length r18.Digits) cap14), (Value.bool r19.Negative), (osv ob15 0 (List.length r19.Digits) cap15), (Value.bool r20.Negative), (osv ob16 0 (List.length r20.Digits) cap16), (Value.bool r21.Negative), (osv ob17 0 (List.length r21.Digits) cap17), (Value.bool r15.1.Negative), (osv ob10 0 (List.length r15.1.Digits) cap10), (Value.bool r15.2.1.Negative), (osv ob11 0 (List.length r15.2.1.Digits) cap11)], Cont.cells ([] ++ (cs18 ++ sp12)), Cont.cells ([] ++ (cs22 ++ sp13)), Cont.cells ([] ++ (cs26 ++ sp14)), Cont.cells ([] ++ (cs30 ++ sp15)), Cont.cells ([] ++ (cs34 ++ sp16)), Cont.cells ([] ++ (cs38 ++ sp17)), Cont.cells ([] ++ (cs42 ++ sp10))]) hS52 hE69 q149
              have hc58 : (cs49 ++ sp11).length = cap11 * (rInt .u32).sz := by have := hc56; rw [List.length_append] at this ⊢; rw [q149]; exact this
              have K103 := ks w hS52
              refine Rl.nil (Swp.pop_blk (Swp.region rfl (Rl.op (OpY.add (x := x47) (y := 1) (z := (iw (x47 + 1))) rfl rfl rfl ?_))))
              refine Rl.op (OpY.move (v := (Value.int .i64 (iw (x47 + 1)))) rfl ?_)
              refine Rl.nil ?_
              have f56 := (hE69.mono (K103 None))
              obtain rfl := Option.some.inj h
              refine Swp.pop_back ⟨(x50, (iw (x47 + 1))), rfl, ?_⟩
              exact ⟨cs49, _, (upds_sym ⟨rfl, rfl, rfl, trivial⟩), hL106, (Keep.trans K102 K103), f56, hl47, hc58, trivial⟩
             ·
              replace h := ite_f hc57 h
              refine Swp.exit rfl ?_
              have hp35 := hL105.pick [2, 3, 4, 5, 6, 7, 8, 9, 10, 11, 12, 13, 1] rfl rfl rfl
              have hL107 : Go.X.Loc [] [] w w94 [some b1, some b6, some b11, some b12, some b15, ob12, ob13, ob14, ob15, ob16, ob17, ob10, ob11] [Cont.cells [(Value.bool a.Negative), a_v], Cont.cells [(Value.bool b.Negative), b_v], Cont.cells [(Value.bool r13.Negative), v10], Cont.cells [(Value.bool r14.Negative), v11], Cont.cells [(Value.bool r16.Negative), (osv ob12 0 (List.length r16.Digits) cap12), (Value.bool r17.Negative), (osv ob13 0 (List.length r17.Digits) cap13), (Value.bool r18.Negative), (osv ob14 0 (List.length r18.Digits) cap14), (Value.bool r19.Negative), (osv ob15 0 (List.length r19.Digits) cap15), (Value.bool r20.Negative), (osv ob16 0 (List.length r20.Digits) cap16), (Value.bool r21.Negative), (osv ob17 0 (List.length r21.Digits) cap17), (Value.bool r15.1.Negative), (osv ob10 0 (List.length r15.1.Digits) cap10), (Value.bool r15.2.1.Negative), (osv ob11 0 (List.length r15.2.1.Digits) cap11)], Cont.cells ([] ++ (cs18 ++ sp12)), Cont.cells ([] ++ (cs22 ++ sp13)), Cont.cells ([] ++ (cs26 ++ sp14)), Cont.cells ([] ++ (cs30 ++ sp15)), Cont.cells ([] ++ (cs34 ++ sp16)), Cont.cells ([] ++ (cs38 ++ sp17)), Cont.cells ([] ++ (cs42 ++ sp10)), Cont.cells ([] ++ (cs48 ++ sp11))] := hp35.1
              have K104 := ks w hp35.2
              have f57 := (hE68.mono (K104 None))
              obtain rfl := Option.some.inj h
              obtain rfl := hd17 _ rfl
              replace h := g26
              try dsimp only at h
              skip
              refine Swp.pop_back ?_
              exact ⟨x47, digits33, cs48, _, rfl, (upds_sym ⟨rfl, rfl, trivial⟩), hL107, (Keep.trans K102 K104), f57, hl46, hc56, trivial⟩
            ·
             rintro _ w96 ⟨x46, digits32, cs47, u, rfl, rfl, hL108, K105, hE70, hl48, hc59, -⟩
             replace h := g26
             try dsimp only at h
             refine ⟨[], trivial, ?_⟩
             obtain rfl := Option.some.inj h
             exact ⟨digits32, cs47, rfl, rfl, hL108, (Keep.trans K100 K105), hE70, hl48, hc59, trivial⟩
           ·
            rintro _ w97 ⟨digits31, cs46, rfl, rfl, hL109, K106, hE71, hl49, hc60, -⟩
            refine ⟨_, rfl, ?_⟩
            replace h := g25
            try dsimp only at h
            refine Rl.nil (Swp.pop_blk (Swp.region rfl (Rl.op (OpY.add (x := 7) (y := 1) (z := 8) rfl rfl rfl ?_))))
            refine Rl.op (OpY.move (v := (Value.int .i64 8)) rfl ?_)
            refine Rl.nil ?_
            refine Swp.pop_back (Swp.rnd (m := 0) ?_)
            refine Swp.seq (Swp.region rfl (Rl.op (OpY.lss (x := 8) (y := 8) ((8 : Int) < 8) rfl rfl Iff.rfl ?_)))
            refine Rl.nil (Swp.seq ?_)
            refine Swp.cond_f (b := (decide ((8 : Int) < 8))) rfl (decide_eq_false (by decide)) ?_
            refine Swp.exit rfl (Swp.seq (Swp.region rfl (Rl.op (OpY.ldBoxA (vs := [(Value.bool r13.Negative), v10]) Tryd.underlying24 rfl ti24 rfl (hL109.at 2 rfl rfl) rfl rfl ?_))))
            obtain ⟨r22, q150, h⟩ := bind_some h
            have f58 := ((((((((((((((((((((((((((f24.mono (K33 None)).mono (K34 None)).mono (K35 None)).mono (K36 None)).mono (K43 None)).mono (K44 None)).mono (K45 None)).mono (K52 None)).mono (K53 None)).mono (K54 None)).mono (K61 None)).mono (K62 None)).mono (K63 None)).mono (K70 None)).mono (K71 None)).mono (K72 None)).mono (K79 None)).mono (K80 None)).mono (K81 None)).mono (K88 None)).mono (K89 None)).mono (K90 None)).mono (K97 None)).mono (K98 None)).mono (K99 None)).mono (K106 None))
            refine Rl.op (OpY.call en19 rfl rfl (bFormat_w N r13 v10 _ Any (hG.ext hL109.done) (f58.mono vw_any) r22 q150) ?_)
            rintro _ w98 hE72 ⟨rfl, -⟩
            have hL110 := hL109.ext hE72
            have K107 := ke hL109 hE72
            refine Rl.nil (Swp.seq (Swp.region rfl (Rl.op (OpY.ldBoxA (vs := [(Value.bool r13.Negative), v10]) Tryd.underlying24 rfl ti24 rfl (hL110.at 2 rfl rfl) rfl rfl ?_))))
            refine Rl.op (OpY.ldBoxA (vs := [(Value.bool r14.Negative), v11]) Tryd.underlying24 rfl ti24 rfl (hL110.at 3 rfl rfl) rfl rfl ?_)
            obtain ⟨r23, q151, h⟩ := bind_some h
            have f59 := (f58.mono (K107 None))
            have f60 := (((((((((((((((((((((((((((f25.mono (K33 None)).mono (K34 None)).mono (K35 None)).mono (K36 None)).mono (K43 None)).mono (K44 None)).mono (K45 None)).mono (K52 None)).mono (K53 None)).mono (K54 None)).mono (K61 None)).mono (K62 None)).mono (K63 None)).mono (K70 None)).mono (K71 None)).mono (K72 None)).mono (K79 None)).mono (K80 None)).mono (K81 None)).mono (K88 None)).mono (K89 None)).mono (K90 None)).mono (K97 None)).mono (K98 None)).mono (K99 None)).mono (K106 None)).mono (K107 None))
            refine Rl.op (OpY.call en36 rfl rfl (bCompare_w N r13 r14 v10 v11 _ Any (f59.mono vw_any) (f60.mono vw_any) r23 q151) ?_)
            rintro _ w99 hE73 ⟨rfl, -⟩
            have hL111 := hL110.ext hE73
            have K108 := ke hL110 hE73
            refine Rl.nil (Swp.seq ?_)
            obtain ⟨r24, q152, h⟩ := bind_some h
            obtain ⟨r25, q153, h⟩ := bind_some h
            by_cases hc61 : r25 = true
            ·
             replace h := ite_t hc61 h
             obtain ⟨r26, q154, h⟩ := bind_some h
             refine Swp.drawL 8 [] [] (fun W1 => [.det (Value.agg #[(Value.bool r13.Negative), v10]), .det (Value.agg #[(Value.bool a.Negative), a_v]), .rel (fun v Z w' => ∃ v12, (Value.agg #[(Value.bool r24.Negative), v12]) = v ∧ Rs (rInt .u32) (Zv W1 w.heap.size None [some b1, some b6, some b11, some b12, some b15, ob12, ob13, ob14, ob15, ob16, ob17, ob10, ob11] Z w') v12 r24.Digits ∧ True) (fun _ => []), .det (Value.bool r25), .det (Value.bool r25), .det (Value.agg #[(Value.bool r14.Negative), v11]), .det (Value.agg #[(Value.bool b.Negative), b_v]), .rel (fun v Z w' => ∃ v13, (Value.agg #[(Value.bool r26.Negative), v13]) = v ∧ Rs (rInt .u32) (Zv W1 w.heap.size None [some b1, some b6, some b11, some b12, some b15, ob12, ob13, ob14, ob15, ob16, ob17, ob10, ob11] Z w') v13 r26.Digits ∧ True) (fun _ => [])]) mixed rfl rfl rfl (fun _ => rfl) (fun _ => rfl) ?_ ?_
             ·
              intro W1 _
              exact ⟨fun v Z Z' w w' hΦ hz _ _ hs => by obtain ⟨v12, rfl, k12, -⟩ := hΦ; exact ⟨v12, rfl, (k12.mono (Zv.stay hz hs)), trivial⟩, ⟨fun v Z Z' w w' hΦ hz _ _ hs => by obtain ⟨v13, rfl, k13, -⟩ := hΦ; exact ⟨v13, rfl, (k13.mono (Zv.stay hz hs)), trivial⟩, trivial⟩⟩
             ·
              intro w100 hE74
              have hL112 := hL111.ext hE74
              have K109 := ke hL111 hE74
              refine DrH.de (fun _ hE75 => GOp.op (OpY.ldBoxA (vs := [(Value.bool r13.Negative), v10]) Tryd.underlying24 rfl ti24 rfl ((hL112.ext hE75).at 2 rfl rfl) rfl rfl (er rfl))) ?_
              refine DrH.de (fun _ hE76 => GOp.op (OpY.ldBoxA (vs := [(Value.bool a.Negative), a_v]) Tryd.underlying24 rfl ti24 rfl ((hL112.ext hE76).at 0 rfl rfl) rfl rfl (er rfl))) ?_
              refine DrH.rel ?_ ?_
              ·
               rintro w103 Z23 hE77 hZ19 ⟨-⟩
               have K110 := ke hL112 hE77
               refine GOp.op (OpY.call en16 rfl rfl (lcp_w N a a_v _ Any (((((((((((((((((((((((((((((((((((((((((((((((((a_h.mono (K4 S)).mono (K9 S)).mono (K15 S)).mono (K16 S)).mono (K19 S)).mono (K20 S)).mono (K21 S)).mono (K22 S)).mono (K23 S)).mono (K24 S)).mono (K25 S)).mono (K26 S)).mono (K27 S)).mono (K28 S)).mono (K29 S)).mono (K30 S)).mono (K31 S)).mono (K32 S)).mono (K33 S)).mono (K34 S)).mono (K35 S)).mono (K36 S)).mono (K43 S)).mono (K44 S)).mono (K45 S)).mono (K52 S)).mono (K53 S)).mono (K54 S)).mono (K61 S)).mono (K62 S)).mono (K63 S)).mono (K70 S)).mono (K71 S)).mono (K72 S)).mono (K79 S)).mono (K80 S)).mono (K81 S)).mono (K88 S)).mono (K89 S)).mono (K90 S)).mono (K97 S)).mono (K98 S)).mono (K99 S)).mono (K106 S)).mono (K107 S)).mono (K108 S)).mono (K109 S)).mono (K110 S)).mono vw_any) r24 q152) ?_)
               rintro _ w104 hE78 ⟨v12, rfl, k12, -⟩
               exact Made.ext hE78 hZ19 NewOwn.nil (fun _ h => h) ⟨v12, rfl, (k12.mono Zv.made), trivial⟩
              intro z2
              refine DrH.det ?_ ?_
              ·
               rintro w105 Z24 hE79 hZ20 ⟨⟨⟨v12, rfl, k12, -⟩, hB2⟩, -⟩
               have K111 := ke hL112 hE79
               refine GOp.op (OpY.call en18 rfl rfl (rSame_w N r13 r24 v10 v12 _ Any ((((f59.mono (K108 None)).mono (K109 None)).mono (K111 None)).mono vw_any) (k12.mono vw_any) r25 q153) ?_)
               rintro _ w106 hE80 ⟨rfl, -⟩
               exact ⟨hE80, rfl⟩
              refine DrH.de (fun _ _ => GOp.op (OpY.move rfl (er rfl))) ?_
              refine DrH.de (fun _ hE82 => GOp.yes rfl rfl hc61 (OpY.ldBoxA (vs := [(Value.bool r14.Negative), v11]) Tryd.underlying24 rfl ti24 rfl ((hL112.ext hE82).at 3 rfl rfl) rfl rfl (er rfl))) ?_
              refine DrH.de (fun _ hE83 => GOp.yes rfl rfl hc61 (OpY.ldBoxA (vs := [(Value.bool b.Negative), b_v]) Tryd.underlying24 rfl ti24 rfl ((hL112.ext hE83).at 1 rfl rfl) rfl rfl (er rfl))) ?_
              refine DrH.rel ?_ ?_
              ·
               rintro w110 Z28 hE84 hZ24 ⟨-, -⟩
               have K112 := ke hL112 hE84
               refine GOp.yes rfl rfl hc61 (OpY.call en16 rfl rfl (lcp_w N b b_v _ Any (((((((((((((((((((((((((((((((((((((((((((((((((b_h.mono (K4 S)).mono (K9 S)).mono (K15 S)).mono (K16 S)).mono (K19 S)).mono (K20 S)).mono (K21 S)).mono (K22 S)).mono (K23 S)).mono (K24 S)).mono (K25 S)).mono (K26 S)).mono (K27 S)).mono (K28 S)).mono (K29 S)).mono (K30 S)).mono (K31 S)).mono (K32 S)).mono (K33 S)).mono (K34 S)).mono (K35 S)).mono (K36 S)).mono (K43 S)).mono (K44 S)).mono (K45 S)).mono (K52 S)).mono (K53 S)).mono (K54 S)).mono (K61 S)).mono (K62 S)).mono (K63 S)).mono (K70 S)).mono (K71 S)).mono (K72 S)).mono (K79 S)).mono (K80 S)).mono (K81 S)).mono (K88 S)).mono (K89 S)).mono (K90 S)).mono (K97 S)).mono (K98 S)).mono (K99 S)).mono (K106 S)).mono (K107 S)).mono (K108 S)).mono (K109 S)).mono (K112 S)).mono vw_any) r26 q154) ?_)
               rintro _ w111 hE85 ⟨v13, rfl, k13, -⟩
               exact Made.ext hE85 hZ24 NewOwn.nil (fun _ h => h) ⟨v13, rfl, (k13.mono Zv.made), trivial⟩
              intro z7
              refine DrH.fin0 ?_
              rintro w112 Z29 hE86 hZ25 ⟨⟨⟨v13, rfl, k13, -⟩, hB7⟩, ⟨⟨v12, rfl, k12, -⟩, hB2⟩, -⟩ ap11
              have hB11 : ∀ b, some b ∈ ([] : List (Option Nat)) → w100.heap.size ≤ b ∧ ¬ Z29 b := by
               intro b hb; cases hb
              replace k13 := k13.mono (Zv.fin hL112 hZ25 hB11)
              replace k12 := k12.mono (Zv.fin hL112 hZ25 hB11)
              have hL117 := hL112.ext hE86
              have K113 := ke hL112 hE86
              obtain ⟨r27, q155, h⟩ := bind_some h
              have f61 := (((f60.mono (K108 None)).mono (K109 None)).mono (K113 None))
              refine Rl.yes rfl rfl hc61 (OpY.call en18 rfl rfl (rSame_w N r14 r26 v11 v13 _ Any (f61.mono vw_any) (k13.mono vw_any) r27 q155) ?_)
              rintro _ w113 hE87 ⟨rfl, -⟩
              have hL118 := hL117.ext hE87
              refine Rl.op (OpY.pick_t (t := r25) (v := (Value.bool r27)) rfl hc61 rfl ?_)
              refine Rl.op (OpY.assign (v := (Value.bool r27)) rfl ?_)
              refine Rl.nil (Swp.ret ?_)
              obtain rfl := Option.some.inj h
              refine ⟨[(Value.bool r27)], ⟨rfl, trivial⟩, ⟨_, rfl, hL118.done, ?_⟩⟩
              exact ⟨rfl, trivial⟩
            ·
             replace h := ite_f hc61 h
             refine Swp.drawL 8 [] [] (fun W1 => [.det (Value.agg #[(Value.bool r13.Negative), v10]), .det (Value.agg #[(Value.bool a.Negative), a_v]), .rel (fun v Z w' => ∃ v12, (Value.agg #[(Value.bool r24.Negative), v12]) = v ∧ Rs (rInt .u32) (Zv W1 w.heap.size None [some b1, some b6, some b11, some b12, some b15, ob12, ob13, ob14, ob15, ob16, ob17, ob10, ob11] Z w') v12 r24.Digits ∧ True) (fun _ => []), .det (Value.bool r25), .det (Value.bool r25), .det undef, .det undef, .det undef]) mixed rfl rfl rfl (fun _ => rfl) (fun _ => rfl) ?_ ?_
             ·
              intro W1 _
              exact ⟨fun v Z Z' w w' hΦ hz _ _ hs => by obtain ⟨v12, rfl, k12, -⟩ := hΦ; exact ⟨v12, rfl, (k12.mono (Zv.stay hz hs)), trivial⟩, trivial⟩
             ·
              intro w114 hE88
              have hL119 := hL111.ext hE88
              have K114 := ke hL111 hE88
              refine DrH.de (fun _ hE89 => GOp.op (OpY.ldBoxA (vs := [(Value.bool r13.Negative), v10]) Tryd.underlying24 rfl ti24 rfl ((hL119.ext hE89).at 2 rfl rfl) rfl rfl (er rfl))) ?_
              refine DrH.de (fun _ hE90 => GOp.op (OpY.ldBoxA (vs := [(Value.bool a.Negative), a_v]) Tryd.underlying24 rfl ti24 rfl ((hL119.ext hE90).at 0 rfl rfl) rfl rfl (er rfl))) ?_
              refine DrH.rel ?_ ?_
              ·
               rintro w117 Z32 hE91 hZ28 ⟨-⟩
               have K115 := ke hL119 hE91
               refine GOp.op (OpY.call en16 rfl rfl (lcp_w N a a_v _ Any (((((((((((((((((((((((((((((((((((((((((((((((((a_h.mono (K4 S)).mono (K9 S)).mono (K15 S)).mono (K16 S)).mono (K19 S)).mono (K20 S)).mono (K21 S)).mono (K22 S)).mono (K23 S)).mono (K24 S)).mono (K25 S)).mono (K26 S)).mono (K27 S)).mono (K28 S)).mono (K29 S)).mono (K30 S)).mono (K31 S)).mono (K32 S)).mono (K33 S)).mono (K34 S)).mono (K35 S)).mono (K36 S)).mono (K43 S)).mono (K44 S)).mono (K45 S)).mono (K52 S)).mono (K53 S)).mono (K54 S)).mono (K61 S)).mono (K62 S)).mono (K63 S)).mono (K70 S)).mono (K71 S)).mono (K72 S)).mono (K79 S)).mono (K80 S)).mono (K81 S)).mono (K88 S)).mono (K89 S)).mono (K90 S)).mono (K97 S)).mono (K98 S)).mono (K99 S)).mono (K106 S)).mono (K107 S)).mono (K108 S)).mono (K114 S)).mono (K115 S)).mono vw_any) r24 q152) ?_)
               rintro _ w118 hE92 ⟨v12, rfl, k12, -⟩
               exact Made.ext hE92 hZ28 NewOwn.nil (fun _ h => h) ⟨v12, rfl, (k12.mono Zv.made), trivial⟩
              intro z2
              refine DrH.det ?_ ?_
              ·
               rintro w119 Z33 hE93 hZ29 ⟨⟨⟨v12, rfl, k12, -⟩, hB2⟩, -⟩
               have K116 := ke hL119 hE93
               refine GOp.op (OpY.call en18 rfl rfl (rSame_w N r13 r24 v10 v12 _ Any ((((f59.mono (K108 None)).mono (K114 None)).mono (K116 None)).mono vw_any) (k12.mono vw_any) r25 q153) ?_)
               rintro _ w120 hE94 ⟨rfl, -⟩
               exact ⟨hE94, rfl⟩
              refine DrH.de (fun _ _ => GOp.op (OpY.move rfl (er rfl))) ?_
              refine DrH.de (fun _ _ => GOp.no rfl rfl (eq_false_of_ne_true hc61) (er rfl)) ?_
              refine DrH.de (fun _ _ => GOp.no rfl rfl (eq_false_of_ne_true hc61) (er rfl)) ?_
              refine DrH.de (fun _ _ => GOp.no rfl rfl (eq_false_of_ne_true hc61) (er rfl)) ?_
              refine DrH.fin0 ?_
              rintro w125 Z38 hE99 hZ34 ⟨⟨⟨v12, rfl, k12, -⟩, hB2⟩, -⟩ ap12
              have hB12 : ∀ b, some b ∈ ([] : List (Option Nat)) → w114.heap.size ≤ b ∧ ¬ Z38 b := by
               intro b hb; cases hb
              replace k12 := k12.mono (Zv.fin hL119 hZ34 hB12)
              have hL122 := hL119.ext hE99
              refine Rl.no rfl rfl (eq_false_of_ne_true hc61) ?_
              refine Rl.op (OpY.pick_f (t := r25) (v := (Value.bool false)) rfl (eq_false_of_ne_true hc61) rfl ?_)
              refine Rl.op (OpY.assign (v := (Value.bool false)) rfl ?_)
              refine Rl.nil (Swp.ret ?_)
              obtain rfl := Option.some.inj h
              refine ⟨[(Value.bool false)], ⟨rfl, trivial⟩, ⟨_, rfl, hL122.done, ?_⟩⟩
              exact ⟨rfl, trivial⟩
end Go.Proofs.YthmoefciofnmdaaDoor.WL

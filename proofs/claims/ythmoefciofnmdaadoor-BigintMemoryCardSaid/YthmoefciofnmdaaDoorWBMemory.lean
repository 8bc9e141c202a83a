/- Walks, written by a program of mine (wip/tool); the kernel checks them. -/
import Derived.Test.YthmoefciofnmdaaDoorProg
import Derived.Test.YthmoefciofnmdaaDoorZ7
import Derived.Test.YthmoefciofnmdaaDoorF2
import Derived.Test.YthmoefciofnmdaaDoorZ12
import Derived.Test.YthmoefciofnmdaaDoorZ15
import Derived.Test.YthmoefciofnmdaaDoorPB
import Derived.Test.YthmoefciofnmdaaDoorWAMemory
import Derived.Test.YthmoefciofnmdaaDoorWRMemory
set_option maxRecDepth 100000
set_option maxHeartbeats 40000000
set_option linter.unusedVariables false
set_option linter.unusedSimpArgs false
namespace Go.Proofs.YthmoefciofnmdaaDoor.WB
open Go Go.RowKit Go.X Go.D Go.Proofs.YthmoefciofnmdaaDoor.WF Go.Proofs.YthmoefciofnmdaaDoor.WA Go.Proofs.YthmoefciofnmdaaDoor.WR
theorem en81 : Go.X.Enters Tryd.prog 81 := ⟨Tryd.f81, Tryd.func81, by kernel_rfl, by kernel_rfl⟩
theorem en64 : Go.X.Enters Tryd.prog 64 := ⟨Tryd.f64, Tryd.func64, by kernel_rfl, by kernel_rfl⟩
theorem en53 : Go.X.Enters Tryd.prog 53 := ⟨Tryd.f53, Tryd.func53, by kernel_rfl, by kernel_rfl⟩
theorem en68 : Go.X.Enters Tryd.prog 68 := ⟨Tryd.f68, Tryd.func68, by kernel_rfl, by kernel_rfl⟩
theorem en69 : Go.X.Enters Tryd.prog 69 := ⟨Tryd.f69, Tryd.func69, by kernel_rfl, by kernel_rfl⟩
theorem en70 : Go.X.Enters Tryd.prog 70 := ⟨Tryd.f70, Tryd.func70, by kernel_rfl, by kernel_rfl⟩
theorem en48 : Go.X.Enters Tryd.prog 48 := ⟨Tryd.f48, Tryd.func48, by kernel_rfl, by kernel_rfl⟩
theorem en39 : Go.X.Enters Tryd.prog 39 := ⟨Tryd.f39, Tryd.func39, by kernel_rfl, by kernel_rfl⟩
theorem en46 : Go.X.Enters Tryd.prog 46 := ⟨Tryd.f46, Tryd.func46, by kernel_rfl, by kernel_rfl⟩
theorem en47 : Go.X.Enters Tryd.prog 47 := ⟨Tryd.f47, Tryd.func47, by kernel_rfl, by kernel_rfl⟩
theorem en41 : Go.X.Enters Tryd.prog 41 := ⟨Tryd.f41, Tryd.func41, by kernel_rfl, by kernel_rfl⟩
theorem en29 : Go.X.Enters Tryd.prog 29 := ⟨Tryd.f29, Tryd.func29, by kernel_rfl, by kernel_rfl⟩
theorem en60 : Go.X.Enters Tryd.prog 60 := ⟨Tryd.f60, Tryd.func60, by kernel_rfl, by kernel_rfl⟩
theorem en45 : Go.X.Enters Tryd.prog 45 := ⟨Tryd.f45, Tryd.func45, by kernel_rfl, by kernel_rfl⟩
theorem en55 : Go.X.Enters Tryd.prog 55 := ⟨Tryd.f55, Tryd.func55, by kernel_rfl, by kernel_rfl⟩
theorem en56 : Go.X.Enters Tryd.prog 56 := ⟨Tryd.f56, Tryd.func56, by kernel_rfl, by kernel_rfl⟩
theorem ti9 : TI Tryd.prog 9 1 16 (Value.string ⟨#[]⟩) := TI.mk (by kernel_rfl)
theorem en57 : Go.X.Enters Tryd.prog 57 := ⟨Tryd.f57, Tryd.func57, by kernel_rfl, by kernel_rfl⟩
theorem en58 : Go.X.Enters Tryd.prog 58 := ⟨Tryd.f58, Tryd.func58, by kernel_rfl, by kernel_rfl⟩
theorem en59 : Go.X.Enters Tryd.prog 59 := ⟨Tryd.f59, Tryd.func59, by kernel_rfl, by kernel_rfl⟩
theorem len32_w (N : Nat) (x : Int)  (w : World) (S : Nat → Prop)  (r : Int) (h : len32 N x = some r) :
  Calls Tryd.prog 81 #[(Value.int .u32 x)] w (Ret w (fun v w' => (Value.int .i64 r) = v ∧ True)) := by
 unfold len32 at h
 have hL : Go.X.Loc [] [] w w [] [] := Go.X.Loc.begin0 w
 refine calls_of (l := [(Value.int .u32 x)]) (rl := [.tmp 2]) (n := 19) Tryd.func81 rfl rfl rfl (Nat.le_of_ble_eq_true rfl) ?_
 refine Swp.seq (Swp.region rfl (Rl.op (OpY.assign (v := (Value.int .i64 0)) rfl ?_)))
 refine Rl.nil (Swp.seq (Swp.seq (Swp.region rfl (Rl.op (OpY.move (v := (Value.int .u32 x)) rfl ?_)))))
 refine Rl.op (OpY.geq (x := x) (y := 65536) ((x : Int) ≥ 65536) rfl rfl Iff.rfl ?_)
 refine Rl.nil ?_
 obtain ⟨s4, h, g5⟩ := bind_some h
 refine Swp.join (fun e w' => ∃ (x2 : Int) (n3 : Int) (u : Env), (x2, n3) = s4 ∧ e = upds [(0, (Value.int .u32 x2)), (2, (Value.int .i64 n3))] u ∧ Go.X.Loc [] [] w w' [] [] ∧ Keep w.heap.size [] w [] w' ∧ True) ?_ ?_
 ·
  refine Swp.cond_d ((x : Int) ≥ 65536) rfl (fun hc6 => ?_) (fun hc6 => ?_)
  ·
   replace h := ite_t hc6 h
   refine Swp.seq (Swp.region rfl (Rl.op (OpY.move (v := (Value.int .u32 x)) rfl ?_)))
   refine Rl.op (OpY.ishr (x := x) (y := 16) rfl rfl (by decide) ?_)
   refine Rl.op (OpY.assign (v := (Value.int .u32 (bshr .u32 x 16))) rfl ?_)
   refine Rl.nil (Swp.region rfl (Rl.op (OpY.assign (v := (Value.int .i64 16)) rfl ?_)))
   refine Rl.nil ?_
   obtain rfl := Option.some.inj h
   refine Swp.pop_back ?_
   exact ⟨(bshr .u32 x 16), 16, _, rfl, (upds_sym ⟨rfl, rfl, trivial⟩), hL, Keep.refl, trivial⟩
  ·
   replace h := ite_f hc6 h
   refine Swp.skip ?_
   obtain rfl := Option.some.inj h
   refine Swp.pop_back ?_
   exact ⟨x, 0, _, rfl, (upds_sym ⟨rfl, rfl, trivial⟩), hL, Keep.refl, trivial⟩
 ·
  rintro _ w7 ⟨x2, n3, u, rfl, rfl, hL8, K9, -⟩
  replace h := g5
  try dsimp only at h
  refine Swp.seq (Swp.seq (Swp.region rfl (Rl.op (OpY.move (v := (Value.int .u32 x2)) rfl ?_))))
  refine Rl.op (OpY.geq (x := x2) (y := 256) ((x2 : Int) ≥ 256) rfl rfl Iff.rfl ?_)
  refine Rl.nil ?_
  obtain ⟨s10, h, g10⟩ := bind_some h
  refine Swp.join (fun e w' => ∃ (x10 : Int) (n10 : Int) (u : Env), (x10, n10) = s10 ∧ e = upds [(0, (Value.int .u32 x10)), (2, (Value.int .i64 n10))] u ∧ Go.X.Loc [] [] w w' [] [] ∧ Keep w.heap.size [] w7 [] w' ∧ True) ?_ ?_
  ·
   refine Swp.cond_d ((x2 : Int) ≥ 256) rfl (fun hc10 => ?_) (fun hc10 => ?_)
   ·
    replace h := ite_t hc10 h
    refine Swp.seq (Swp.region rfl (Rl.op (OpY.move (v := (Value.int .u32 x2)) rfl ?_)))
    refine Rl.op (OpY.ishr (x := x2) (y := 8) rfl rfl (by decide) ?_)
    refine Rl.op (OpY.assign (v := (Value.int .u32 (bshr .u32 x2 8))) rfl ?_)
    refine Rl.nil (Swp.region rfl (Rl.op (OpY.move (v := (Value.int .i64 n3)) rfl ?_)))
    refine Rl.op (OpY.add (x := n3) (y := 8) (z := (iw (n3 + 8))) rfl rfl rfl ?_)
    refine Rl.op (OpY.assign (v := (Value.int .i64 (iw (n3 + 8)))) rfl ?_)
    refine Rl.nil ?_
    obtain rfl := Option.some.inj h
    refine Swp.pop_back ?_
    exact ⟨(bshr .u32 x2 8), (iw (n3 + 8)), _, rfl, (upds_sym ⟨rfl, rfl, trivial⟩), hL8, Keep.refl, trivial⟩
   ·
    replace h := ite_f hc10 h
    refine Swp.skip ?_
    obtain rfl := Option.some.inj h
    refine Swp.pop_back ?_
    exact ⟨x2, n3, _, rfl, (upds_sym ⟨rfl, rfl, trivial⟩), hL8, Keep.refl, trivial⟩
  ·
   rintro _ w10 ⟨x10, n10, u, rfl, rfl, hL10, K10, -⟩
   replace h := g10
   try dsimp only at h
   refine Swp.seq (Swp.region rfl (Rl.op (OpY.move (v := (Value.int .i64 n10)) rfl ?_)))
   refine Rl.op (OpY.move (v := (Value.int .u32 x10)) rfl ?_)
   refine Rl.op (OpY.convInt (x := x10) (z := (uw8 x10)) Tryd.underlying47 Tryd.underlying5 rfl rfl ?_)
   obtain ⟨x11, q10, h⟩ := bind_some h
   obtain ⟨n11, q11, q12⟩ := idx_some q10
   refine Rl.op (OpY.sIndex (xs := len32_lit256) (i := (uw8 x10)) (n := n11) (a := x11) Tryd.underlying9 rfl rfl q11 q12 ?_)
   refine Rl.op (OpY.convInt (x := (UInt8.toNat x11 : Int)) (z := (iw (UInt8.toNat x11 : Int))) Tryd.underlying5 Tryd.underlying3 rfl rfl ?_)
   refine Rl.op (OpY.add (x := n10) (y := (iw (UInt8.toNat x11 : Int))) (z := (iw (n10 + (iw (UInt8.toNat x11 : Int))))) rfl rfl rfl ?_)
   refine Rl.op (OpY.assign (v := (Value.int .i64 (iw (n10 + (iw (UInt8.toNat x11 : Int)))))) rfl ?_)
   refine Rl.nil (Swp.ret ?_)
   obtain rfl := Option.some.inj h
   refine ⟨[(Value.int .i64 (iw (n10 + (iw (UInt8.toNat x11 : Int)))))], ⟨rfl, trivial⟩, ⟨_, rfl, hL10.done, ?_⟩⟩
   exact ⟨rfl, trivial⟩
theorem lz32_w (N : Nat) (x : Int)  (w : World) (S : Nat → Prop)  (r : Int) (h : lz32 N x = some r) :
  Calls Tryd.prog 68 #[(Value.int .u32 x)] w (Ret w (fun v w' => (Value.int .i64 r) = v ∧ True)) := by
 unfold lz32 at h
 have hL : Go.X.Loc [] [] w w [] [] := Go.X.Loc.begin0 w
 refine calls_of (l := [(Value.int .u32 x)]) (rl := [.tmp 2]) (n := 6) Tryd.func68 rfl rfl rfl (Nat.le_of_ble_eq_true rfl) ?_
 refine Swp.seq (Swp.region rfl (Rl.op (OpY.assign (v := (Value.int .i64 0)) rfl ?_)))
 refine Rl.nil (Swp.seq (Swp.region rfl (Rl.op (OpY.move (v := (Value.int .u32 x)) rfl ?_))))
 obtain ⟨r1, q2, h⟩ := bind_some h
 refine Rl.op (OpY.call en81 rfl rfl (len32_w N x _ Any r1 q2) ?_)
 rintro _ w4 hE7 ⟨rfl, -⟩
 have hL5 := hL.ext hE7
 refine Rl.op (OpY.sub (x := 32) (y := r1) (z := (iw (32 - r1))) rfl rfl rfl ?_)
 refine Rl.op (OpY.assign (v := (Value.int .i64 (iw (32 - r1)))) rfl ?_)
 refine Rl.nil (Swp.ret ?_)
 obtain rfl := Option.some.inj h
 refine ⟨[(Value.int .i64 (iw (32 - r1)))], ⟨rfl, trivial⟩, ⟨_, rfl, hL5.done, ?_⟩⟩
 exact ⟨rfl, trivial⟩
theorem bdivide_w (N : Nat) (a : (List Int)) (b : (List Int)) (a_v : Value) (b_v : Value) (w : World) (S : Nat → Prop) (a_h : Rs (rInt .u32) (Hv w.heap.size S [] w) a_v a) (b_h : Rs (rInt .u32) (Hv w.heap.size S [] w) b_v b) (r : ((List Int) × (List Int))) (h : bdivide N a b = some r) :
  Calls Tryd.prog 45 #[a_v, b_v] w (Ret w (fun v w' => ∃ (ob0 : Option Nat) (cap0 : Nat) (cs0 : List Value) (sp0 : List Value) (ob1 : Option Nat) (cap1 : Nat) (cs1 : List Value) (sp1 : List Value), .tuple #[(osv ob0 0 (List.length r.1) cap0), (osv ob1 0 (List.length r.2) cap1)] = v ∧ NewOwn w w' [ob0, ob1] [Cont.cells ([] ++ (cs0 ++ sp0)), Cont.cells ([] ++ (cs1 ++ sp1))] ∧ Els (rInt .u32) (Hv w.heap.size None [ob0, ob1] w') cs0 r.1 ∧ (cs0 ++ sp0).length = cap0 * (rInt .u32).sz ∧ Els (rInt .u32) (Hv w.heap.size None [ob0, ob1] w') cs1 r.2 ∧ (cs1 ++ sp1).length = cap1 * (rInt .u32).sz ∧ True)) := by
 unfold bdivide at h
 have hL : Go.X.Loc [] [] w w [] [] := Go.X.Loc.begin0 w
 refine calls_of (l := [a_v, b_v]) (rl := [.tmp 4, .tmp 5]) (n := 231) Tryd.func45 rfl rfl rfl (Nat.le_of_ble_eq_true rfl) ?_
 refine Swp.seq (Swp.region rfl (Rl.op (OpY.assign (v := (Value.slice none 0 0)) rfl ?_)))
 refine Rl.op (OpY.assign (v := (Value.slice none 0 0)) rfl ?_)
 refine Rl.nil (Swp.seq (Swp.seq (Swp.region rfl (Rl.op (OpY.move (v := a_v) rfl ?_)))))
 refine Rl.op (OpY.move (v := b_v) rfl ?_)
 obtain ⟨r1, q2, h⟩ := bind_some h
 refine Rl.op (OpY.call en64 rfl rfl (bcompare_w N a b a_v b_v _ Any (a_h.mono vw_any) (b_h.mono vw_any) r1 q2) ?_)
 rintro _ w4 hE7 ⟨rfl, -⟩
 have hL5 := hL.ext hE7
 have K6 := ke hL hE7
 refine Rl.op (OpY.lss (x := r1) (y := 0) ((r1 : Int) < 0) rfl rfl Iff.rfl ?_)
 refine Rl.nil ?_
 refine Swp.cond_d ((r1 : Int) < 0) rfl (fun hc8 => ?_) (fun hc8 => ?_)
 ·
  replace h := ite_t hc8 h
  refine Swp.seq (Swp.region rfl (Rl.op (OpY.move (v := a_v) rfl ?_)))
  obtain ⟨r9, q10, h⟩ := bind_some h
  have f10 := (a_h.mono (K6 S))
  refine Rl.op (OpY.call en54 rfl rfl (btrim_w N a a_v _ Any (f10.mono vw_any) r9 q10) ?_)
  rintro _ w10 hE10 ⟨ob10, cap10, cs10, sp10, rfl, hN10, hE11, hc10, -⟩
  replace hE11 := hE11.mono (Hv.freshO (S := None) hL5 [ob10])
  have hp10 := hL5.adoptL hE10 hN10
  have hL10 := hp10.1
  refine Rl.op (OpY.assign (v := (Value.slice none 0 0)) rfl ?_)
  refine Rl.op (OpY.assign (v := (osv ob10 0 (List.length r9) cap10)) rfl ?_)
  refine Rl.nil ?_
  have hp11 := hL10.addNil
  have hL11 : Go.X.Loc [] [] w w10 [none, ob10] [Cont.cells ([] ++ ([] ++ [])), Cont.cells ([] ++ (cs10 ++ sp10))] := hp11.1
  have K10 := ks w hp11.2
  have hE12 : Els (rInt .u32) (Hv w.heap.size None [none, ob10] w10) [] [] := Els.nil
  refine Swp.ret ?_
  obtain rfl := Option.some.inj h
  refine ⟨[(osv none 0 (List.length ([] : (List Int))) 0), (osv ob10 0 (List.length r9) cap10)], ⟨rfl, rfl, trivial⟩, ⟨_, rfl, hL11.done, ?_⟩⟩
  have f11 := (hE11.mono (K10 None))
  exact ⟨none, 0, [], [], ob10, cap10, cs10, sp10, rfl, (hL11.newOwn [0, 1] rfl rfl rfl), (hE12.mono (Hv.pick [0, 1] rfl)), (show ([] ++ [] : List Value).length = 0 * (rInt .u32).sz by simp), (f11.mono (Hv.pick [0, 1] rfl)), hc10, trivial⟩
 ·
  replace h := ite_f hc8 h
  refine Swp.skip (Swp.seq (Swp.seq (Swp.region rfl (Rl.op (OpY.move (v := b_v) rfl ?_)))))
  have f12 := (b_h.mono (K6 S))
  refine Rl.op (OpY.lenRo (v := b_v) Tryd.underlying22 rfl f12 ?_)
  refine Rl.op (OpY.eql (x := (List.length b : Int)) (y := 1) (((List.length b : Int) : Int) = 1) rfl rfl Iff.rfl ?_)
  refine Rl.nil ?_
  refine Swp.cond_d (((List.length b : Int) : Int) = 1) rfl (fun hc11 => ?_) (fun hc11 => ?_)
  ·
   replace h := ite_t hc11 h
   refine Swp.seq (Swp.region rfl (Rl.op (OpY.move (v := a_v) rfl ?_)))
   refine Rl.op (OpY.move (v := b_v) rfl ?_)
   obtain ⟨x10, q11, h⟩ := bind_some h
   obtain ⟨n10, q12, q13⟩ := idx_some q11
   obtain ⟨b10, o10, c10, vs10, q14, q15, f13, q16⟩ := Rs.get f12 q13
   obtain rfl := q16
   refine Rl.op (OpY.ixRoD (r := (rInt .u32)) (v := b_v) (n := n10) (m := (o10 + n10 * (rInt .u32).sz)) Tryd.underlying22 ti47 rfl q14 rfl q12 q13 rfl ?_)
   refine Rl.op (OpY.ldRo1 (v := (Value.int .u32 x10)) Tryd.underlying47 rfl rfl vw_view f13 ?_)
   obtain ⟨r10, q17, h⟩ := bind_some h
   have f14 := (a_h.mono (K6 S))
   refine Rl.op (OpY.call en53 rfl rfl (bshort_w N a x10 a_v _ Any (f14.mono vw_any) r10 q17) ?_)
   rintro _ w11 hE13 ⟨ob11, cap11, cs11, sp11, rfl, hN11, hE14, hc12, -⟩
   replace hE14 := hE14.mono (Hv.freshO (S := None) hL5 [ob11])
   have hp12 := hL5.adoptL hE13 hN11
   have hL12 := hp12.1
   refine Rl.op (OpY.move (v := (Value.tuple #[(osv ob11 0 (List.length r10.1) cap11), (Value.int .u32 r10.2)])) rfl ?_)
   refine Rl.op (OpY.extract (vs := [(osv ob11 0 (List.length r10.1) cap11), (Value.int .u32 r10.2)]) (v := (osv ob11 0 (List.length r10.1) cap11)) rfl rfl ?_)
   refine Rl.op (OpY.extract (vs := [(osv ob11 0 (List.length r10.1) cap11), (Value.int .u32 r10.2)]) (v := (Value.int .u32 r10.2)) rfl rfl ?_)
   refine Rl.op (OpY.assign (v := (osv ob11 0 (List.length r10.1) cap11)) rfl ?_)
   refine Rl.op (OpY.assign (v := (Value.int .u32 r10.2)) rfl ?_)
   refine Rl.nil (Swp.seq (Swp.region rfl (Rl.op (OpY.move (v := (osv ob11 0 (List.length r10.1) cap11)) rfl ?_))))
   obtain ⟨r11, q18, h⟩ := bind_some h
   refine Rl.op (OpY.call en54 rfl rfl (btrim_w N r10.1 (osv ob11 0 (List.length r10.1) cap11) _ Any (own_row_any (pre := []) (o := 0) (n := (List.length r10.1)) (cap := cap11) (hL12.at 0 rfl rfl) hE14 vw_any rfl rfl rfl hc12) r11 q18) ?_)
   rintro _ w12 hE15 ⟨ob12, cap12, cs12, sp12, rfl, hN12, hE16, hc13, -⟩
   replace hE16 := hE16.mono (Hv.freshO (S := None) hL12 [ob12])
   have hp13 := hL12.adoptL hE15 hN12
   have hL13 := hp13.1
   refine Rl.op (OpY.move (v := (Value.int .u32 r10.2)) rfl ?_)
   have hE17 : Els (rInt .u32) (Hv w.heap.size None [ob12, ob11] w12) [(Value.int .u32 r10.2)] [r10.2] := (Els.cons (a := [(Value.int .u32 r10.2)]) rfl Els.nil)
   refine Rl.op (OpY.litRow (r := (rInt .u32)) (vs := [(Value.int .u32 r10.2)]) (css := [[(Value.int .u32 r10.2)]]) (xs := [r10.2]) Tryd.underlying22 ti47 (Nat.le_of_ble_eq_true rfl) rfl rfl ⟨rfl, rfl, trivial⟩ (Nat.le_of_ble_eq_true rfl) hE17 rfl hL13 ?_)
   intro b11 w13 hc14 hL14 hS10
   have K11 := ks w hS10
   obtain ⟨r12, q19, h⟩ := bind_some h
   have f15 := (hE17.mono (K11 None))
   refine Rl.op (OpY.call en54 rfl rfl (btrim_w N [r10.2] (osv (some b11) 0 1 1) _ Any (own_row_any (pre := []) (o := 0) (n := 1) (cap := 1) (hL14.at 0 rfl rfl) f15 vw_any rfl rfl rfl hc14) r12 q19) ?_)
   rintro _ w14 hE18 ⟨ob13, cap13, cs13, sp13, rfl, hN13, hE19, hc15, -⟩
   replace hE19 := hE19.mono (Hv.freshO (S := None) hL14 [ob13])
   have hp14 := hL14.adoptL hE18 hN13
   have hL15 := hp14.1
   have K12 := ks w hp14.2
   refine Rl.op (OpY.assign (v := (osv ob12 0 (List.length r11) cap12)) rfl ?_)
   refine Rl.op (OpY.assign (v := (osv ob13 0 (List.length r12) cap13)) rfl ?_)
   refine Rl.nil (Swp.ret ?_)
   obtain rfl := Option.some.inj h
   refine ⟨[(osv ob12 0 (List.length r11) cap12), (osv ob13 0 (List.length r12) cap13)], ⟨rfl, rfl, trivial⟩, ⟨_, rfl, hL15.done, ?_⟩⟩
   have f16 := ((hE16.mono (K11 None)).mono (K12 None))
   exact ⟨ob12, cap12, cs12, sp12, ob13, cap13, cs13, sp13, rfl, (hL15.newOwn [2, 0] rfl rfl rfl), (f16.mono (Hv.pick [2, 0] rfl)), hc13, (hE19.mono (Hv.pick [2, 0] rfl)), hc15, trivial⟩
  ·
   replace h := ite_f hc11 h
   refine Swp.skip (Swp.seq (Swp.region rfl (Rl.op (OpY.move (v := b_v) rfl ?_))))
   refine Rl.op (OpY.move (v := b_v) rfl ?_)
   refine Rl.op (OpY.lenRo (v := b_v) Tryd.underlying22 rfl f12 ?_)
   refine Rl.op (OpY.sub (x := (List.length b : Int)) (y := 1) (z := (iw ((List.length b : Int) - 1))) rfl rfl rfl ?_)
   obtain ⟨x11, q20, h⟩ := bind_some h
   obtain ⟨n11, q21, q22⟩ := idx_some q20
   obtain ⟨b12, o11, c11, vs11, q23, q24, f17, q25⟩ := Rs.get f12 q22
   obtain rfl := q25
   refine Rl.op (OpY.ixRoD (r := (rInt .u32)) (v := b_v) (n := n11) (m := (o11 + n11 * (rInt .u32).sz)) Tryd.underlying22 ti47 rfl q23 rfl q21 q22 rfl ?_)
   refine Rl.op (OpY.ldRo1 (v := (Value.int .u32 x11)) Tryd.underlying47 rfl rfl vw_view f17 ?_)
   obtain ⟨r13, q26, h⟩ := bind_some h
   refine Rl.op (OpY.call en68 rfl rfl (lz32_w N x11 _ Any r13 q26) ?_)
   rintro _ w15 hE20 ⟨rfl, -⟩
   have hL16 := hL5.ext hE20
   have K13 := ke hL5 hE20
   refine Rl.op (OpY.convInt (x := r13) (z := (uw r13)) Tryd.underlying3 Tryd.underlying72 rfl rfl ?_)
   refine Rl.op (OpY.assign (v := (Value.int .u64 (uw r13))) rfl ?_)
   refine Rl.nil (Swp.seq ?_)
   obtain ⟨r14, q27, h⟩ := bind_some h
   obtain ⟨r15, q28, h⟩ := bind_some h
   obtain ⟨x12, q29, h⟩ := bind_some h
   obtain ⟨m10, n12, q30, q31, q32, q33, q34⟩ := cut_some q29
   refine Swp.drawL 10 [[], [], [], [], [], [], [], [], [5], [2]] [] (fun W1 => [.det a_v, .det (Value.int .u64 (uw r13)), .rel (fun v Z w' => ∃ ob14 cap14 cs14 sp14, (osv ob14 0 (List.length r14) cap14) = v ∧ OwnC w' ob14 (Cont.cells ([] ++ (cs14 ++ sp14))) ∧ Els (rInt .u32) (Zv W1 w.heap.size None [] Z w') cs14 r14 ∧ (cs14 ++ sp14 : List Value).length = cap14 * (rInt .u32).sz ∧ True) footV, .det b_v, .det (Value.int .u64 (uw r13)), .rel (fun v Z w' => ∃ ob15 cap15 cs15 sp15, (osv ob15 0 (List.length r15) cap15) = v ∧ OwnC w' ob15 (Cont.cells ([] ++ (cs15 ++ sp15))) ∧ Els (rInt .u32) (Zv W1 w.heap.size None [] Z w') cs15 r15 ∧ (cs15 ++ sp15 : List Value).length = cap15 * (rInt .u32).sz ∧ True) footV, .det b_v, .det (Value.int .i64 (List.length b : Int)), .rel (fun v Z w' => ∃ ob15 cap15 cs16 sp16, (osv ob15 0 (List.length x12) cap15) = v ∧ OwnC w' ob15 (Cont.cells ([] ++ (cs16 ++ sp16))) ∧ Els (rInt .u32) (Zv W1 w.heap.size None [] Z w') cs16 x12 ∧ (cs16 ++ sp16 : List Value).length = cap15 * (rInt .u32).sz ∧ True) footV, .rel (fun v Z w' => ∃ ob14 cap14 cs14 sp14, (osv ob14 0 (List.length r14) cap14) = v ∧ OwnC w' ob14 (Cont.cells ([] ++ (cs14 ++ sp14))) ∧ Els (rInt .u32) (Zv W1 w.heap.size None [] Z w') cs14 r14 ∧ (cs14 ++ sp14 : List Value).length = cap14 * (rInt .u32).sz ∧ True) footV]) mixed rfl rfl rfl (fun _ => rfl) (fun _ => rfl) ?_ ?_
   ·
    intro W1 _
    exact ⟨fun v Z Z' w w' hΦ hz _ _ hs => by obtain ⟨ob14, cap14, cs14, sp14, rfl, hO10, hE21, hc16, -⟩ := hΦ; exact ⟨ob14, cap14, cs14, sp14, rfl, (hO10.stay (fun b hb => (footV_osv (ob := ob14) (o := 0) (n := (List.length r14)) (cap := cap14)).2 (by rw [hb]; exact List.mem_cons_self)) hs), (hE21.mono (Zv.stay hz hs)), hc16, trivial⟩, ⟨fun v Z Z' w w' hΦ hz _ _ hs => by obtain ⟨ob15, cap15, cs15, sp15, rfl, hO11, hE22, hc17, -⟩ := hΦ; exact ⟨ob15, cap15, cs15, sp15, rfl, (hO11.stay (fun b hb => (footV_osv (ob := ob15) (o := 0) (n := (List.length r15)) (cap := cap15)).2 (by rw [hb]; exact List.mem_cons_self)) hs), (hE22.mono (Zv.stay hz hs)), hc17, trivial⟩, ⟨fun v Z Z' w w' hΦ hz _ _ hs => by obtain ⟨ob15, cap15, cs16, sp16, rfl, hO12, hE23, hc18, -⟩ := hΦ; exact ⟨ob15, cap15, cs16, sp16, rfl, (hO12.stay (fun b hb => (footV_osv (ob := ob15) (o := 0) (n := (List.length x12)) (cap := cap15)).2 (by rw [hb]; exact List.mem_cons_self)) hs), (hE23.mono (Zv.stay hz hs)), hc18, trivial⟩, ⟨fun v Z Z' w w' hΦ hz _ _ hs => by obtain ⟨ob14, cap14, cs14, sp14, rfl, hO10, hE21, hc16, -⟩ := hΦ; exact ⟨ob14, cap14, cs14, sp14, rfl, (hO10.stay (fun b hb => (footV_osv (ob := ob14) (o := 0) (n := (List.length r14)) (cap := cap14)).2 (by rw [hb]; exact List.mem_cons_self)) hs), (hE21.mono (Zv.stay hz hs)), hc16, trivial⟩, trivial⟩⟩⟩⟩
   ·
    intro w16 hE24
    have hL17 := hL16.ext hE24
    have K14 := ke hL16 hE24
    refine DrH.de (fun _ _ => GOp.op (OpY.move rfl (er rfl))) ?_
    refine DrH.de (fun _ _ => GOp.op (OpY.move rfl (er rfl))) ?_
    refine DrH.rel ?_ ?_
    ·
     rintro w19 Z16 hE27 hZ12 ⟨-⟩
     have K15 := ke hL17 hE27
     refine GOp.op (OpY.call en69 rfl rfl (bshift_w N a (uw r13) a_v _ Any (((((a_h.mono (K6 S)).mono (K13 S)).mono (K14 S)).mono (K15 S)).mono vw_any) r14 q27) ?_)
     rintro _ w20 hE28 ⟨ob14, cap14, cs14, sp14, rfl, hN14, hE21, hc16, -⟩
     exact Made.ext hE28 hZ12 hN14 (fun b hb => footV_osv.1 hb) ⟨ob14, cap14, cs14, sp14, rfl, hN14.2.2.1, (hE21.mono Zv.made), hc16, trivial⟩
    intro z2
    refine DrH.de (fun _ _ => GOp.op (OpY.move rfl (er rfl))) ?_
    refine DrH.de (fun _ _ => GOp.op (OpY.move rfl (er rfl))) ?_
    refine DrH.rel ?_ ?_
    ·
     rintro w23 Z19 hE31 hZ15 ⟨⟨⟨ob14, cap14, cs14, sp14, rfl, hO10, hE21, hc16, -⟩, hB2⟩, -⟩
     have K16 := ke hL17 hE31
     refine GOp.op (OpY.call en69 rfl rfl (bshift_w N b (uw r13) b_v _ Any ((((f12.mono (K13 S)).mono (K14 S)).mono (K16 S)).mono vw_any) r15 q28) ?_)
     rintro _ w24 hE32 ⟨ob15, cap15, cs15, sp15, rfl, hN15, hE22, hc17, -⟩
     exact Made.ext hE32 hZ15 hN15 (fun b hb => footV_osv.1 hb) ⟨ob15, cap15, cs15, sp15, rfl, hN15.2.2.1, (hE22.mono Zv.made), hc17, trivial⟩
    intro z5
    refine DrH.de (fun _ _ => GOp.op (OpY.move rfl (er rfl))) ?_
    refine DrH.de (fun _ hE34 => GOp.op (OpY.lenRo (v := b_v) Tryd.underlying22 rfl (((f12.mono (K13 S)).mono (K14 S)).mono ((ke hL17 hE34) S)) (er rfl))) ?_
    refine DrH.rel ?_ ?_
    ·
     rintro w27 Z22 hE35 hZ18 ⟨⟨⟨ob15, cap15, cs15, sp15, rfl, hO11, hE22, hc17, -⟩, hB5⟩, -, -⟩
     refine GOp.op (OpY.cutRowX (pre := []) (r := (rInt .u32)) (o := 0) (n := (List.length r15)) (h' := n12) Tryd.underlying22 ti47 rfl rfl hO11 hE22 rfl hc17 (.inr ⟨_, _, rfl, by rw [← q31]; rfl⟩) q33 q30 q34 ?_)
     intro cs16 sp16 q35 hE23
     exact Made.take (fun b hb => hB5 b ((footV_osv (o := 0) (n := (List.length r15)) (cap := cap15)).2 hb)) (fun b hb => List.mem_append_left _ ((footV_osv (o := 0) (n := (List.length r15)) (cap := cap15)).2 (by rw [← hb]; exact List.mem_cons_self))) (fun b hb => (footV_osv (ob := ob15) (o := 0) (n := (List.length x12)) (cap := cap15)).1 hb) ⟨ob15, cap15, cs16, sp16, rfl, (by rw [q35]; exact hO11), hE23, (by rw [q35]; exact hc17), trivial⟩
    intro z8
    refine DrH.rel ?_ ?_
    ·
     rintro w28 Z23 hE36 hZ19 ⟨-, -, ⟨⟨ob14, cap14, cs14, sp14, rfl, hO10, hE21, hc16, -⟩, hB2⟩, -⟩
     refine GOp.op (OpY.assign (v := (osv ob14 0 (List.length r14) cap14)) rfl ?_)
     exact Made.take (fun b hb => hB2 b ((footV_osv (o := 0) (n := (List.length r14)) (cap := cap14)).2 hb)) (fun b hb => List.mem_append_left _ ((footV_osv (o := 0) (n := (List.length r14)) (cap := cap14)).2 (by rw [← hb]; exact List.mem_cons_self))) (fun b hb => (footV_osv (ob := ob14) (o := 0) (n := (List.length r14)) (cap := cap14)).1 hb) ⟨ob14, cap14, cs14, sp14, rfl, hO10, hE21, hc16, trivial⟩
    intro z9
    refine DrH.fin0 ?_
    rintro w29 Z24 hE37 hZ20 ⟨⟨⟨ob14, cap14, cs14, sp14, rfl, hO10, hE21, hc16, -⟩, hB9⟩, ⟨⟨ob15, cap15, cs16, sp16, rfl, hO12, hE23, hc18, -⟩, hB8⟩, -, -, -⟩ ap10
    have hB10 : ∀ b, some b ∈ ([ob14, ob15] : List (Option Nat)) → w16.heap.size ≤ b ∧ ¬ Z24 b := by
     intro b hb
     rcases List.mem_cons.1 hb with hb' | hb
     ·
      have := hB9 b ((footV_osv (ob := ob14) (o := 0) (n := (List.length r14)) (cap := cap14)).2 (by rw [hb']; exact List.mem_cons_self)); exact ⟨this.1, this.2.2⟩
     rcases List.mem_cons.1 hb with hb' | hb
     ·
      have := hB8 b ((footV_osv (ob := ob15) (o := 0) (n := (List.length x12)) (cap := cap15)).2 (by rw [hb']; exact List.mem_cons_self)); exact ⟨this.1, this.2.2⟩
     cases hb
    replace hE21 := hE21.mono (Zv.fin hL17 hZ20 hB10)
    replace hE23 := hE23.mono (Zv.fin hL17 hZ20 hB10)
    have hN16 : NewOwn w16 w29 [ob14, ob15] [Cont.cells ([] ++ (cs14 ++ sp14)), Cont.cells ([] ++ (cs16 ++ sp16))] := (NewOwn.cons (NewOwn.cons NewOwn.nil hO12 (fun b hb => (hB10 b (by rw [← hb]; simp)).1) (fun b _ hb => by cases hb)) hO10 (fun b hb => (hB10 b (by rw [← hb]; simp)).1) (fun b hb hm => (List.mem_cons.1 hm).elim (fun e => apE (ap10.1) rfl rfl b ((footV_osv (ob := ob14) (o := 0) (n := (List.length r14)) (cap := cap14)).2 hb) ((footV_osv (ob := ob15) (o := 0) (n := (List.length x12)) (cap := cap15)).2 (by rw [e]; exact List.mem_cons_self))) (fun hm => by cases hm)))
    have hp15 := hL17.adoptL hE37 hN16
    have hL18 := hp15.1
    have K18 := ks w hp15.2
    refine Rl.op (OpY.assign (v := (osv ob15 0 (List.length x12) cap15)) rfl ?_)
    refine Rl.nil (Swp.seq (Swp.region rfl (Rl.op (OpY.move (v := b_v) rfl ?_))))
    have f18 := (((f12.mono (K13 S)).mono (K14 S)).mono (K18 S))
    refine Rl.op (OpY.lenRo (v := b_v) Tryd.underlying22 rfl f18 ?_)
    refine Rl.op (OpY.assign (v := (Value.int .i64 (List.length b : Int))) rfl ?_)
    refine Rl.nil (Swp.seq (Swp.region rfl (Rl.op (OpY.move (v := (osv ob14 0 (List.length r14) cap14)) rfl ?_))))
    refine Rl.op (OpY.lenRow (pre := []) (r := (rInt .u32)) (xs := r14) Tryd.underlying22 rfl (hL18.at 0 rfl rfl) hE21 rfl rfl ?_)
    refine Rl.op (OpY.move (v := (Value.int .i64 (List.length b : Int))) rfl ?_)
    refine Rl.op (OpY.sub (x := (List.length r14 : Int)) (y := (List.length b : Int)) (z := (iw ((List.length r14 : Int) - (List.length b : Int)))) rfl rfl rfl ?_)
    obtain ⟨x13, q36, h⟩ := bind_some h
    obtain ⟨m11, q37, q38, q39, q40⟩ := mk1_some q36
    refine Rl.op (OpY.mkRowX (r := (rInt .u32)) (H := (Hv w.heap.size None [ob14, ob15] w29)) (zc := [(Value.int .u32 0)]) (x := 0) Tryd.underlying22 ti47 rfl rfl rfl rfl q37 q38 q39 q40 hL18 ?_)
    intro b13 w30 cs17 hE38 hc19 hL19 hS11
    have K19 := ks w hS11
    refine Rl.op (OpY.assign (v := (osv (some b13) 0 (List.length x13) m11)) rfl ?_)
    refine Rl.nil (Swp.seq (Swp.seq (Swp.region rfl (Rl.op (OpY.move (v := (osv (some b13) 0 (List.length x13) m11)) rfl ?_)))))
    have f19 := (hE38.mono (K19 None))
    refine Rl.op (OpY.lenRow (pre := []) (r := (rInt .u32)) (xs := x13) Tryd.underlying22 rfl (hL19.at 0 rfl rfl) f19 rfl rfl ?_)
    refine Rl.op (OpY.sub (x := (List.length x13 : Int)) (y := 1) (z := (iw ((List.length x13 : Int) - 1))) rfl rfl rfl ?_)
    refine Rl.op (OpY.assign (v := (Value.int .i64 (iw ((List.length x13 : Int) - 1)))) rfl ?_)
    refine Rl.nil ?_
    obtain ⟨s10, hl10, g10⟩ := bind_some h
    refine Swp.join (fun e w' => ∃ (u10 : (List Int)) (q41 : (List Int)) (cs18 : List Value) (cs19 : List Value) (u : Env), (u10, q41) = s10 ∧ e = upds [(8, (Value.int .u64 (uw r13))), (9, (osv ob14 0 (List.length r14) cap14)), (11, (Value.int .i64 (List.length b : Int))), (12, (osv (some b13) 0 (List.length x13) m11))] u ∧ Go.X.Loc [] [] w w' [ob14, some b13] [Cont.cells ([] ++ (cs18 ++ sp14)), Cont.cells ([] ++ (cs19 ++ []))] ∧ Keep w.heap.size [some b13, ob14, ob15] w30 [ob14, some b13] w' ∧ Els (rInt .u32) (Hv w.heap.size None [ob14, some b13] w') cs18 u10 ∧ (List.length r14) = List.length u10 ∧ (cs18 ++ sp14).length = cap14 * (rInt .u32).sz ∧ Els (rInt .u32) (Hv w.heap.size None [ob14, some b13] w') cs19 q41 ∧ (List.length x13) = List.length q41 ∧ (cs19 ++ []).length = m11 * (rInt .u32).sz ∧ True) ?_ ?_
    ·
     refine Swp.block ?_
     have hp16 := hL19.pick [1, 2, 0] rfl rfl rfl
     have hL20 : Go.X.Loc [] [] w w30 [ob14, ob15, some b13] [Cont.cells ([] ++ (cs14 ++ sp14)), Cont.cells ([] ++ (cs16 ++ sp16)), Cont.cells ([] ++ (cs17 ++ []))] := hp16.1
     have K20 := ks w hp16.2
     have f20 := ((hE21.mono (K19 None)).mono (K20 None))
     have f21 := (f19.mono (K20 None))
     refine Swp.loopM hl10 (fun (ss : ((List Int) × (List Int) × Int)) (e : Env) (w' : World) => match ss with | (u11, q42, i10) => ∃ (cs20 : List Value) (cs21 : List Value) (u : Env), e = upds [(8, (Value.int .u64 (uw r13))), (9, (osv ob14 0 (List.length r14) cap14)), (10, (osv ob15 0 (List.length x12) cap15)), (11, (Value.int .i64 (List.length b : Int))), (12, (osv (some b13) 0 (List.length x13) m11)), (13, (Value.int .i64 i10))] u ∧ Go.X.Loc [] [] w w' [ob14, ob15, some b13] [Cont.cells ([] ++ (cs20 ++ sp14)), Cont.cells ([] ++ (cs16 ++ sp16)), Cont.cells ([] ++ (cs21 ++ []))] ∧ Keep w.heap.size [some b13, ob14, ob15] w30 [ob14, ob15, some b13] w' ∧ Els (rInt .u32) (Hv w.heap.size None [ob14, ob15, some b13] w') cs20 u11 ∧ (List.length r14) = List.length u11 ∧ (cs20 ++ sp14).length = cap14 * (rInt .u32).sz ∧ Els (rInt .u32) (Hv w.heap.size None [ob14, ob15, some b13] w') cs21 q42 ∧ (List.length x13) = List.length q42 ∧ (cs21 ++ []).length = m11 * (rInt .u32).sz ∧ True) ⟨cs14, cs17, _, (upds_sym ⟨rfl, rfl, rfl, rfl, rfl, rfl, trivial⟩), hL20, K20, f20, rfl, hc16, f21, rfl, hc19, trivial⟩ ?_
     rintro ⟨u11, q42, i10⟩ oo _ w31 ⟨cs20, cs21, u, rfl, hL21, K21, hE39, hl11, hc20, hE40, hl12, hc21, -⟩ h hd10
     rw [bdivide_b1] at h
     refine Swp.seq (Swp.seq (Swp.region rfl (Rl.op (OpY.move (v := (Value.int .i64 i10)) rfl ?_))))
     refine Rl.op (OpY.geq (x := i10) (y := 0) ((i10 : Int) ≥ 0) rfl rfl Iff.rfl ?_)
     refine Rl.nil ?_
     refine Swp.cond_d ((i10 : Int) ≥ 0) rfl (fun hc22 => ?_) (fun hc22 => ?_)
     ·
      replace h := ite_t hc22 h
      refine Swp.skip (Swp.seq (Swp.block (Swp.seq ?_)))
      obtain ⟨x14, q43, h⟩ := bind_some h
      obtain ⟨n13, q44, q45⟩ := idx_some q43
      have q46 := (List.getElem?_eq_some_iff.1 q45).1
      obtain ⟨b14, hb10⟩ := hL21.row_some 0 rfl rfl (row_pos (pre := []) hE39 q45 (Nat.lt_of_sub_eq_succ rfl))
      obtain ⟨vs12, q47, q48, q49⟩ := row_elem (pre := []) (sp := sp14) hE39 q45
      obtain rfl := q48
      obtain ⟨x15, q50, h⟩ := bind_some h
      obtain ⟨n14, q51, q52⟩ := idx_some q50
      have q53 := (List.getElem?_eq_some_iff.1 q52).1
      obtain ⟨vs13, q54, q55, q56⟩ := row_elem (pre := []) (sp := sp14) hE39 q52
      obtain rfl := q55
      refine Swp.drawL 16 [] [] (fun W1 => [.det (osv ob14 0 (List.length r14) cap14), .det (Value.int .i64 i10), .det (Value.int .i64 (List.length b : Int)), .det (Value.int .i64 (iw (i10 + (List.length b : Int)))), .det (Value.pointer (some ⟨b14, (0 + n13 * (rInt .u32).sz), none⟩)), .det (Value.int .u32 x14), .det (Value.int .u64 (uw x14)), .det (Value.int .u64 (bshl .u64 (uw x14) 32)), .det (osv ob14 0 (List.length r14) cap14), .det (Value.int .i64 i10), .det (Value.int .i64 (List.length b : Int)), .det (Value.int .i64 (iw (i10 + (List.length b : Int)))), .det (Value.int .i64 (iw ((iw (i10 + (List.length b : Int))) - 1))), .det (Value.pointer (some ⟨b14, (0 + n14 * (rInt .u32).sz), none⟩)), .det (Value.int .u32 x15), .det (Value.int .u64 (uw x15))]) mixed rfl rfl rfl (fun _ => rfl) (fun _ => rfl) ?_ ?_
      ·
       intro W1 _
       exact trivial
      ·
       intro w32 hE41
       have hL22 := hL21.ext hE41
       have K22 := ke hL21 hE41
       refine DrH.de (fun _ _ => GOp.op (OpY.move rfl (er rfl))) ?_
       refine DrH.de (fun _ _ => GOp.op (OpY.move rfl (er rfl))) ?_
       refine DrH.de (fun _ _ => GOp.op (OpY.move rfl (er rfl))) ?_
       refine DrH.de (fun _ _ => GOp.op (OpY.add rfl rfl rfl (er rfl))) ?_
       refine DrH.de (fun _ _ => GOp.op (OpY.ixRowD (r := (rInt .u32)) (b := b14) (o := 0) (n := n13) (m := (List.length r14)) (xs := u11) (q := (0 + n13 * (rInt .u32).sz)) Tryd.underlying22 ti47 (osv_some hb10) hl11 rfl q44 q46 rfl (er rfl))) ?_
       refine DrH.de (fun _ hE47 => GOp.op (OpY.ldElem1 Tryd.underlying47 rfl rfl (own_some hb10 ((hL22.ext hE47).at 0 rfl rfl)) q49 (er rfl))) ?_
       refine DrH.de (fun _ _ => GOp.op (OpY.convInt Tryd.underlying47 Tryd.underlying62 rfl rfl (er rfl))) ?_
       refine DrH.de (fun _ _ => GOp.op (OpY.ishl rfl rfl (by decide) (er rfl))) ?_
       refine DrH.de (fun _ _ => GOp.op (OpY.move rfl (er rfl))) ?_
       refine DrH.de (fun _ _ => GOp.op (OpY.move rfl (er rfl))) ?_
       refine DrH.de (fun _ _ => GOp.op (OpY.move rfl (er rfl))) ?_
       refine DrH.de (fun _ _ => GOp.op (OpY.add rfl rfl rfl (er rfl))) ?_
       refine DrH.de (fun _ _ => GOp.op (OpY.sub rfl rfl rfl (er rfl))) ?_
       refine DrH.de (fun _ _ => GOp.op (OpY.ixRowD (r := (rInt .u32)) (b := b14) (o := 0) (n := n14) (m := (List.length r14)) (xs := u11) (q := (0 + n14 * (rInt .u32).sz)) Tryd.underlying22 ti47 (osv_some hb10) hl11 rfl q51 q53 rfl (er rfl))) ?_
       refine DrH.de (fun _ hE56 => GOp.op (OpY.ldElem1 Tryd.underlying47 rfl rfl (own_some hb10 ((hL22.ext hE56).at 0 rfl rfl)) q56 (er rfl))) ?_
       refine DrH.de (fun _ _ => GOp.op (OpY.convInt Tryd.underlying47 Tryd.underlying62 rfl rfl (er rfl))) ?_
       refine DrH.fin0 ?_
       rintro w49 Z41 hE58 hZ37 ⟨-⟩ ap11
       have hB11 : ∀ b, some b ∈ ([] : List (Option Nat)) → w32.heap.size ≤ b ∧ ¬ Z41 b := by
        intro b hb; cases hb
       have hL25 := hL22.ext hE58
       have K23 := ke hL22 hE58
       refine Rl.op (OpY.ior (x := (bshl .u64 (uw x14) 32)) (y := (uw x15)) rfl rfl ?_)
       refine Rl.op (OpY.assign (v := (Value.int .u64 (bor .u64 (bshl .u64 (uw x14) 32) (uw x15)))) rfl ?_)
       refine Rl.nil (Swp.seq (Swp.region rfl (Rl.op (OpY.move (v := (Value.int .u64 (bor .u64 (bshl .u64 (uw x14) 32) (uw x15)))) rfl ?_))))
       refine Rl.op (OpY.move (v := (osv ob15 0 (List.length x12) cap15)) rfl ?_)
       refine Rl.op (OpY.move (v := (Value.int .i64 (List.length b : Int))) rfl ?_)
       refine Rl.op (OpY.sub (x := (List.length b : Int)) (y := 1) (z := (iw ((List.length b : Int) - 1))) rfl rfl rfl ?_)
       obtain ⟨x16, q57, h⟩ := bind_some h
       obtain ⟨n15, q58, q59⟩ := idx_some q57
       have q60 := (List.getElem?_eq_some_iff.1 q59).1
       have f22 := ((((hE23.mono (K19 None)).mono (K21 None)).mono (K22 None)).mono (K23 None))
       obtain ⟨b15, hb11⟩ := hL25.row_some 1 rfl rfl (row_pos (pre := []) f22 q59 (Nat.lt_of_sub_eq_succ rfl))
       refine Rl.op (OpY.ixRowD (r := (rInt .u32)) (b := b15) (o := 0) (n := n15) (m := (List.length x12)) (xs := x12) (q := (0 + n15 * (rInt .u32).sz)) Tryd.underlying22 ti47 (osv_some hb11) rfl rfl q58 q60 rfl ?_)
       obtain ⟨vs14, q61, q62, q63⟩ := row_elem (pre := []) (sp := sp16) f22 q59
       obtain rfl := q62
       refine Rl.op (OpY.ldElem1 (v := (Value.int .u32 x16)) Tryd.underlying47 rfl rfl (own_some hb11 (hL25.at 1 rfl rfl)) q63 ?_)
       refine Rl.op (OpY.convInt (x := x16) (z := (uw x16)) Tryd.underlying47 Tryd.underlying62 rfl rfl ?_)
       obtain ⟨x17, q64, h⟩ := bind_some h
       obtain ⟨q65, q66⟩ := sdiv_some q64
       refine Rl.op (OpY.quoI (x := (bor .u64 (bshl .u64 (uw x14) 32) (uw x15))) (y := (uw x16)) (z := x17) rfl rfl q65 q66 ?_)
       refine Rl.op (OpY.assign (v := (Value.int .u64 x17)) rfl ?_)
       refine Rl.nil (Swp.seq (Swp.region rfl (Rl.op (OpY.move (v := (Value.int .u64 (bor .u64 (bshl .u64 (uw x14) 32) (uw x15)))) rfl ?_))))
       refine Rl.op (OpY.move (v := (osv ob15 0 (List.length x12) cap15)) rfl ?_)
       refine Rl.op (OpY.move (v := (Value.int .i64 (List.length b : Int))) rfl ?_)
       refine Rl.op (OpY.sub (x := (List.length b : Int)) (y := 1) (z := (iw ((List.length b : Int) - 1))) rfl rfl rfl ?_)
       obtain ⟨x18, q67, h⟩ := bind_some h
       obtain ⟨n16, q68, q69⟩ := idx_some q67
       have q70 := (List.getElem?_eq_some_iff.1 q69).1
       refine Rl.op (OpY.ixRowD (r := (rInt .u32)) (b := b15) (o := 0) (n := n16) (m := (List.length x12)) (xs := x12) (q := (0 + n16 * (rInt .u32).sz)) Tryd.underlying22 ti47 (osv_some hb11) rfl rfl q68 q70 rfl ?_)
       obtain ⟨vs15, q71, q72, q73⟩ := row_elem (pre := []) (sp := sp16) f22 q69
       obtain rfl := q72
       refine Rl.op (OpY.ldElem1 (v := (Value.int .u32 x18)) Tryd.underlying47 rfl rfl (own_some hb11 (hL25.at 1 rfl rfl)) q73 ?_)
       refine Rl.op (OpY.convInt (x := x18) (z := (uw x18)) Tryd.underlying47 Tryd.underlying62 rfl rfl ?_)
       obtain ⟨x19, q74, h⟩ := bind_some h
       obtain ⟨q75, q76⟩ := srem_some q74
       subst q76
       refine Rl.op (OpY.remI (x := (bor .u64 (bshl .u64 (uw x14) 32) (uw x15))) (y := (uw x18)) rfl rfl q75 ?_)
       refine Rl.op (OpY.assign (v := (Value.int .u64 (Int.tmod (bor .u64 (bshl .u64 (uw x14) 32) (uw x15)) (uw x18)))) rfl ?_)
       refine Rl.nil (Swp.seq ?_)
       obtain ⟨s11, hl13, g11⟩ := bind_some h
       refine Swp.join (fun e w' => ∃ (guess10 : Int) (u : Env), guess10 = s11 ∧ e = upds [(8, (Value.int .u64 (uw r13))), (9, (osv ob14 0 (List.length r14) cap14)), (10, (osv ob15 0 (List.length x12) cap15)), (11, (Value.int .i64 (List.length b : Int))), (12, (osv (some b13) 0 (List.length x13) m11)), (13, (Value.int .i64 i10)), (15, (Value.int .u64 guess10))] u ∧ Go.X.Loc [] [] w w' [ob14, ob15, some b13] [Cont.cells ([] ++ (cs20 ++ sp14)), Cont.cells ([] ++ (cs16 ++ sp16)), Cont.cells ([] ++ (cs21 ++ []))] ∧ Keep w.heap.size [ob14, ob15, some b13] w49 [ob14, ob15, some b13] w' ∧ True) ?_ ?_
       ·
        refine Swp.block ?_
        refine Swp.loopM hl13 (fun (ss : (Int × Int)) (e : Env) (w' : World) => match ss with | (guess11, rest10) => ∃ (u : Env), e = upds [(8, (Value.int .u64 (uw r13))), (9, (osv ob14 0 (List.length r14) cap14)), (10, (osv ob15 0 (List.length x12) cap15)), (11, (Value.int .i64 (List.length b : Int))), (12, (osv (some b13) 0 (List.length x13) m11)), (13, (Value.int .i64 i10)), (15, (Value.int .u64 guess11)), (16, (Value.int .u64 rest10))] u ∧ Go.X.Loc [] [] w w' [ob14, ob15, some b13] [Cont.cells ([] ++ (cs20 ++ sp14)), Cont.cells ([] ++ (cs16 ++ sp16)), Cont.cells ([] ++ (cs21 ++ []))] ∧ Keep w.heap.size [ob14, ob15, some b13] w49 [ob14, ob15, some b13] w' ∧ True) ⟨_, (upds_sym ⟨rfl, rfl, rfl, rfl, rfl, rfl, rfl, rfl, trivial⟩), hL25, Keep.refl, trivial⟩ ?_
        rintro ⟨guess11, rest10⟩ oo _ w50 ⟨u, rfl, hL26, K24, -⟩ h hd11
        rw [bdivide_b2] at h
        refine Swp.seq (Swp.seq ?_)
        obtain ⟨s12, h, g12⟩ := bind_some h
        refine Swp.join (fun e w' => ∃ (x20 : Bool) (u : Env), x20 = s12 ∧ e = upds [(8, (Value.int .u64 (uw r13))), (9, (osv ob14 0 (List.length r14) cap14)), (10, (osv ob15 0 (List.length x12) cap15)), (11, (Value.int .i64 (List.length b : Int))), (12, (osv (some b13) 0 (List.length x13) m11)), (13, (Value.int .i64 i10)), (15, (Value.int .u64 guess11)), (16, (Value.int .u64 rest10)), (130, (Value.bool x20))] u ∧ Go.X.Loc [] [] w w' [ob14, ob15, some b13] [Cont.cells ([] ++ (cs20 ++ sp14)), Cont.cells ([] ++ (cs16 ++ sp16)), Cont.cells ([] ++ (cs21 ++ []))] ∧ Keep w.heap.size [ob14, ob15, some b13] w50 [ob14, ob15, some b13] w' ∧ True) ?_ ?_
        ·
         by_cases hc23 : (guess11 : Int) > 4294967295
         ·
          replace h := ite_t hc23 h
          refine Swp.drawL 22 [] [] (fun W1 => [.det (Value.int .u64 guess11), .det (Value.bool (decide ((guess11 : Int) > 4294967295))), .det (Value.bool (decide ((guess11 : Int) > 4294967295))), .det undef, .det undef, .det undef, .det undef, .det undef, .det undef, .det undef, .det undef, .det undef, .det undef, .det undef, .det undef, .det undef, .det undef, .det undef, .det undef, .det undef, .det undef, .det undef]) mixed rfl rfl rfl (fun _ => rfl) (fun _ => rfl) ?_ ?_
          ·
           intro W1 _
           exact trivial
          ·
           intro w51 hE59
           have hL27 := hL26.ext hE59
           have K25 := ke hL26 hE59
           refine DrH.de (fun _ _ => GOp.op (OpY.move rfl (er rfl))) ?_
           refine DrH.de (fun _ _ => GOp.op (OpY.gtr ((guess11 : Int) > 4294967295) rfl rfl Iff.rfl (er rfl))) ?_
           refine DrH.de (fun _ _ => GOp.op (OpY.move rfl (er rfl))) ?_
           refine DrH.de (fun _ _ => GOp.no rfl rfl (decide_eq_true hc23) (er rfl)) ?_
           refine DrH.de (fun _ _ => GOp.no rfl rfl (decide_eq_true hc23) (er rfl)) ?_
           refine DrH.de (fun _ _ => GOp.no rfl rfl (decide_eq_true hc23) (er rfl)) ?_
           refine DrH.de (fun _ _ => GOp.no rfl rfl (decide_eq_true hc23) (er rfl)) ?_
           refine DrH.de (fun _ _ => GOp.no rfl rfl (decide_eq_true hc23) (er rfl)) ?_
           refine DrH.de (fun _ _ => GOp.no rfl rfl (decide_eq_true hc23) (er rfl)) ?_
           refine DrH.de (fun _ _ => GOp.no rfl rfl (decide_eq_true hc23) (er rfl)) ?_
           refine DrH.de (fun _ _ => GOp.no rfl rfl (decide_eq_true hc23) (er rfl)) ?_
           refine DrH.de (fun _ _ => GOp.no rfl rfl (decide_eq_true hc23) (er rfl)) ?_
           refine DrH.de (fun _ _ => GOp.no rfl rfl (decide_eq_true hc23) (er rfl)) ?_
           refine DrH.de (fun _ _ => GOp.no rfl rfl (decide_eq_true hc23) (er rfl)) ?_
           refine DrH.de (fun _ _ => GOp.no rfl rfl (decide_eq_true hc23) (er rfl)) ?_
           refine DrH.de (fun _ _ => GOp.no rfl rfl (decide_eq_true hc23) (er rfl)) ?_
           refine DrH.de (fun _ _ => GOp.no rfl rfl (decide_eq_true hc23) (er rfl)) ?_
           refine DrH.de (fun _ _ => GOp.no rfl rfl (decide_eq_true hc23) (er rfl)) ?_
           refine DrH.de (fun _ _ => GOp.no rfl rfl (decide_eq_true hc23) (er rfl)) ?_
           refine DrH.de (fun _ _ => GOp.no rfl rfl (decide_eq_true hc23) (er rfl)) ?_
           refine DrH.de (fun _ _ => GOp.no rfl rfl (decide_eq_true hc23) (er rfl)) ?_
           refine DrH.de (fun _ _ => GOp.no rfl rfl (decide_eq_true hc23) (er rfl)) ?_
           refine DrH.fin0 ?_
           rintro w74 Z64 hE82 hZ60 ⟨-⟩ ap12
           have hB12 : ∀ b, some b ∈ ([] : List (Option Nat)) → w51.heap.size ≤ b ∧ ¬ Z64 b := by
            intro b hb; cases hb
           have hL28 := hL27.ext hE82
           have K26 := ke hL27 hE82
           refine Rl.no rfl rfl (decide_eq_true hc23) ?_
           refine Rl.op (OpY.pick_t (t := (decide ((guess11 : Int) > 4294967295))) (v := (Value.bool true)) rfl (decide_eq_true hc23) rfl ?_)
           refine Rl.nil ?_
           obtain rfl := Option.some.inj h
           refine Swp.pop_back ?_
           exact ⟨true, _, rfl, (upds_sym ⟨rfl, rfl, rfl, rfl, rfl, rfl, rfl, rfl, rfl, trivial⟩), hL28, (Keep.trans K25 K26), trivial⟩
         ·
          replace h := ite_f hc23 h
          obtain ⟨x21, q77, h⟩ := bind_some h
          obtain ⟨n17, q78, q79⟩ := idx_some q77
          have q80 := (List.getElem?_eq_some_iff.1 q79).1
          have f23 := (f22.mono (K24 None))
          obtain ⟨b16, hb12⟩ := hL26.row_some 1 rfl rfl (row_pos (pre := []) f23 q79 (Nat.lt_of_sub_eq_succ rfl))
          obtain ⟨vs16, q81, q82, q83⟩ := row_elem (pre := []) (sp := sp16) f23 q79
          obtain rfl := q82
          obtain ⟨x22, q84, h⟩ := bind_some h
          obtain ⟨n18, q85, q86⟩ := idx_some q84
          have q87 := (List.getElem?_eq_some_iff.1 q86).1
          have f24 := (((hE39.mono (K22 None)).mono (K23 None)).mono (K24 None))
          obtain ⟨b17, hb13⟩ := hL26.row_some 0 rfl rfl (row_pos (pre := []) f24 q86 (Nat.lt_of_sub_eq_succ rfl))
          obtain ⟨vs17, q88, q89, q90⟩ := row_elem (pre := []) (sp := sp14) f24 q86
          obtain rfl := q89
          refine Swp.drawL 22 [] [] (fun W1 => [.det (Value.int .u64 guess11), .det (Value.bool (decide ((guess11 : Int) > 4294967295))), .det (Value.bool (decide ((guess11 : Int) > 4294967295))), .det (Value.int .u64 guess11), .det (osv ob15 0 (List.length x12) cap15), .det (Value.int .i64 (List.length b : Int)), .det (Value.int .i64 (iw ((List.length b : Int) - 2))), .det (Value.pointer (some ⟨b16, (0 + n17 * (rInt .u32).sz), none⟩)), .det (Value.int .u32 x21), .det (Value.int .u64 (uw x21)), .det (Value.int .u64 (uw (guess11 * (uw x21)))), .det (Value.int .u64 rest10), .det (Value.int .u64 (bshl .u64 rest10 32)), .det (osv ob14 0 (List.length r14) cap14), .det (Value.int .i64 i10), .det (Value.int .i64 (List.length b : Int)), .det (Value.int .i64 (iw (i10 + (List.length b : Int)))), .det (Value.int .i64 (iw ((iw (i10 + (List.length b : Int))) - 2))), .det (Value.pointer (some ⟨b17, (0 + n18 * (rInt .u32).sz), none⟩)), .det (Value.int .u32 x22), .det (Value.int .u64 (uw x22)), .det (Value.int .u64 (bor .u64 (bshl .u64 rest10 32) (uw x22)))]) mixed rfl rfl rfl (fun _ => rfl) (fun _ => rfl) ?_ ?_
          ·
           intro W1 _
           exact trivial
          ·
           intro w75 hE83
           have hL29 := hL26.ext hE83
           have K27 := ke hL26 hE83
           refine DrH.de (fun _ _ => GOp.op (OpY.move rfl (er rfl))) ?_
           refine DrH.de (fun _ _ => GOp.op (OpY.gtr ((guess11 : Int) > 4294967295) rfl rfl Iff.rfl (er rfl))) ?_
           refine DrH.de (fun _ _ => GOp.op (OpY.move rfl (er rfl))) ?_
           refine DrH.de (fun _ _ => GOp.yes rfl rfl (decide_eq_false hc23) (OpY.move rfl (er rfl))) ?_
           refine DrH.de (fun _ _ => GOp.yes rfl rfl (decide_eq_false hc23) (OpY.move rfl (er rfl))) ?_
           refine DrH.de (fun _ _ => GOp.yes rfl rfl (decide_eq_false hc23) (OpY.move rfl (er rfl))) ?_
           refine DrH.de (fun _ _ => GOp.yes rfl rfl (decide_eq_false hc23) (OpY.sub rfl rfl rfl (er rfl))) ?_
           refine DrH.de (fun _ _ => GOp.yes rfl rfl (decide_eq_false hc23) (OpY.ixRowD (r := (rInt .u32)) (b := b16) (o := 0) (n := n17) (m := (List.length x12)) (xs := x12) (q := (0 + n17 * (rInt .u32).sz)) Tryd.underlying22 ti47 (osv_some hb12) rfl rfl q78 q80 rfl (er rfl))) ?_
           refine DrH.de (fun _ hE92 => GOp.yes rfl rfl (decide_eq_false hc23) (OpY.ldElem1 Tryd.underlying47 rfl rfl (own_some hb12 ((hL29.ext hE92).at 1 rfl rfl)) q83 (er rfl))) ?_
           refine DrH.de (fun _ _ => GOp.yes rfl rfl (decide_eq_false hc23) (OpY.convInt Tryd.underlying47 Tryd.underlying62 rfl rfl (er rfl))) ?_
           refine DrH.de (fun _ _ => GOp.yes rfl rfl (decide_eq_false hc23) (OpY.mul rfl rfl rfl (er rfl))) ?_
           refine DrH.de (fun _ _ => GOp.yes rfl rfl (decide_eq_false hc23) (OpY.move rfl (er rfl))) ?_
           refine DrH.de (fun _ _ => GOp.yes rfl rfl (decide_eq_false hc23) (OpY.ishl rfl rfl (by decide) (er rfl))) ?_
           refine DrH.de (fun _ _ => GOp.yes rfl rfl (decide_eq_false hc23) (OpY.move rfl (er rfl))) ?_
           refine DrH.de (fun _ _ => GOp.yes rfl rfl (decide_eq_false hc23) (OpY.move rfl (er rfl))) ?_
           refine DrH.de (fun _ _ => GOp.yes rfl rfl (decide_eq_false hc23) (OpY.move rfl (er rfl))) ?_
           refine DrH.de (fun _ _ => GOp.yes rfl rfl (decide_eq_false hc23) (OpY.add rfl rfl rfl (er rfl))) ?_
           refine DrH.de (fun _ _ => GOp.yes rfl rfl (decide_eq_false hc23) (OpY.sub rfl rfl rfl (er rfl))) ?_
           refine DrH.de (fun _ _ => GOp.yes rfl rfl (decide_eq_false hc23) (OpY.ixRowD (r := (rInt .u32)) (b := b17) (o := 0) (n := n18) (m := (List.length r14)) (xs := u11) (q := (0 + n18 * (rInt .u32).sz)) Tryd.underlying22 ti47 (osv_some hb13) hl11 rfl q85 q87 rfl (er rfl))) ?_
           refine DrH.de (fun _ hE103 => GOp.yes rfl rfl (decide_eq_false hc23) (OpY.ldElem1 Tryd.underlying47 rfl rfl (own_some hb13 ((hL29.ext hE103).at 0 rfl rfl)) q90 (er rfl))) ?_
           refine DrH.de (fun _ _ => GOp.yes rfl rfl (decide_eq_false hc23) (OpY.convInt Tryd.underlying47 Tryd.underlying62 rfl rfl (er rfl))) ?_
           refine DrH.de (fun _ _ => GOp.yes rfl rfl (decide_eq_false hc23) (OpY.ior rfl rfl (er rfl))) ?_
           refine DrH.fin0 ?_
           rintro w98 Z87 hE106 hZ83 ⟨-⟩ ap13
           have hB13 : ∀ b, some b ∈ ([] : List (Option Nat)) → w75.heap.size ≤ b ∧ ¬ Z87 b := by
            intro b hb; cases hb
           have hL32 := hL29.ext hE106
           have K28 := ke hL29 hE106
           refine Rl.yes rfl rfl (decide_eq_false hc23) (OpY.gtr (x := (uw (guess11 * (uw x21)))) (y := (bor .u64 (bshl .u64 rest10 32) (uw x22))) (((uw (guess11 * (uw x21))) : Int) > (bor .u64 (bshl .u64 rest10 32) (uw x22))) rfl rfl Iff.rfl ?_)
           refine Rl.op (OpY.pick_f (t := (decide ((guess11 : Int) > 4294967295))) (v := (Value.bool (decide (((uw (guess11 * (uw x21))) : Int) > (bor .u64 (bshl .u64 rest10 32) (uw x22)))))) rfl (decide_eq_false hc23) rfl ?_)
           refine Rl.nil ?_
           obtain rfl := Option.some.inj h
           refine Swp.pop_back ?_
           exact ⟨(decide (((uw (guess11 * (uw x21))) : Int) > (bor .u64 (bshl .u64 rest10 32) (uw x22)))), _, rfl, (upds_sym ⟨rfl, rfl, rfl, rfl, rfl, rfl, rfl, rfl, rfl, trivial⟩), hL32, (Keep.trans K27 K28), trivial⟩
        ·
         rintro _ w99 ⟨x20, u, rfl, rfl, hL33, K29, -⟩
         replace h := g12
         try dsimp only at h
         refine Swp.cond_b x20 rfl (fun hc24 => ?_) (fun hc24 => ?_)
         ·
          replace h := ite_t hc24 h
          refine Swp.skip (Swp.block (Swp.seq (Swp.region rfl (Rl.op (OpY.move (v := (Value.int .u64 guess11)) rfl ?_)))))
          refine Rl.op (OpY.sub (x := guess11) (y := 1) (z := (uw (guess11 - 1))) rfl rfl rfl ?_)
          refine Rl.op (OpY.assign (v := (Value.int .u64 (uw (guess11 - 1)))) rfl ?_)
          refine Rl.nil (Swp.seq (Swp.region rfl (Rl.op (OpY.move (v := (Value.int .u64 rest10)) rfl ?_))))
          refine Rl.op (OpY.move (v := (osv ob15 0 (List.length x12) cap15)) rfl ?_)
          refine Rl.op (OpY.move (v := (Value.int .i64 (List.length b : Int))) rfl ?_)
          refine Rl.op (OpY.sub (x := (List.length b : Int)) (y := 1) (z := (iw ((List.length b : Int) - 1))) rfl rfl rfl ?_)
          obtain ⟨x23, q91, h⟩ := bind_some h
          obtain ⟨n19, q92, q93⟩ := idx_some q91
          have q94 := (List.getElem?_eq_some_iff.1 q93).1
          have f25 := ((f22.mono (K24 None)).mono (K29 None))
          obtain ⟨b18, hb14⟩ := hL33.row_some 1 rfl rfl (row_pos (pre := []) f25 q93 (Nat.lt_of_sub_eq_succ rfl))
          refine Rl.op (OpY.ixRowD (r := (rInt .u32)) (b := b18) (o := 0) (n := n19) (m := (List.length x12)) (xs := x12) (q := (0 + n19 * (rInt .u32).sz)) Tryd.underlying22 ti47 (osv_some hb14) rfl rfl q92 q94 rfl ?_)
          obtain ⟨vs18, q95, q96, q97⟩ := row_elem (pre := []) (sp := sp16) f25 q93
          obtain rfl := q96
          refine Rl.op (OpY.ldElem1 (v := (Value.int .u32 x23)) Tryd.underlying47 rfl rfl (own_some hb14 (hL33.at 1 rfl rfl)) q97 ?_)
          refine Rl.op (OpY.convInt (x := x23) (z := (uw x23)) Tryd.underlying47 Tryd.underlying62 rfl rfl ?_)
          refine Rl.op (OpY.add (x := rest10) (y := (uw x23)) (z := (uw (rest10 + (uw x23)))) rfl rfl rfl ?_)
          refine Rl.op (OpY.assign (v := (Value.int .u64 (uw (rest10 + (uw x23))))) rfl ?_)
          refine Rl.nil (Swp.seq (Swp.region rfl (Rl.op (OpY.move (v := (Value.int .u64 (uw (rest10 + (uw x23))))) rfl ?_))))
          refine Rl.op (OpY.gtr (x := (uw (rest10 + (uw x23)))) (y := 4294967295) (((uw (rest10 + (uw x23))) : Int) > 4294967295) rfl rfl Iff.rfl ?_)
          refine Rl.nil ?_
          refine Swp.cond_d (((uw (rest10 + (uw x23))) : Int) > 4294967295) rfl (fun hc25 => ?_) (fun hc25 => ?_)
          ·
           replace h := ite_t hc25 h
           refine Swp.exit rfl ?_
           obtain rfl := Option.some.inj h
           obtain rfl := hd11 _ rfl
           replace h := g11
           try dsimp only at h
           skip
           refine Swp.pop_back ?_
           exact ⟨(uw (guess11 - 1)), _, rfl, (upds_sym ⟨rfl, rfl, rfl, rfl, rfl, rfl, rfl, trivial⟩), hL33, (Keep.trans K24 K29), trivial⟩
          ·
           replace h := ite_f hc25 h
           refine Swp.skip (Swp.pop_blk ?_)
           obtain rfl := Option.some.inj h
           refine Swp.pop_back ⟨((uw (guess11 - 1)), (uw (rest10 + (uw x23)))), rfl, ?_⟩
           exact ⟨_, (upds_sym ⟨rfl, rfl, rfl, rfl, rfl, rfl, rfl, rfl, trivial⟩), hL33, (Keep.trans K24 K29), trivial⟩
         ·
          replace h := ite_f hc24 h
          refine Swp.exit rfl ?_
          obtain rfl := Option.some.inj h
          obtain rfl := hd11 _ rfl
          replace h := g11
          try dsimp only at h
          skip
          refine Swp.pop_back ?_
          exact ⟨guess11, _, rfl, (upds_sym ⟨rfl, rfl, rfl, rfl, rfl, rfl, rfl, trivial⟩), hL33, (Keep.trans K24 K29), trivial⟩
       ·
        rintro _ w100 ⟨guess10, u, rfl, rfl, hL34, K30, -⟩
        replace h := g11
        try dsimp only at h
        refine Swp.seq (Swp.seq (Swp.region rfl (Rl.op (OpY.move (v := (osv ob14 0 (List.length r14) cap14)) rfl ?_))))
        refine Rl.op (OpY.move (v := (Value.int .i64 i10)) rfl ?_)
        refine Rl.op (OpY.move (v := (Value.int .i64 i10)) rfl ?_)
        refine Rl.op (OpY.move (v := (Value.int .i64 (List.length b : Int))) rfl ?_)
        refine Rl.op (OpY.add (x := i10) (y := (List.length b : Int)) (z := (iw (i10 + (List.length b : Int)))) rfl rfl rfl ?_)
        refine Rl.op (OpY.add (x := (iw (i10 + (List.length b : Int)))) (y := 1) (z := (iw ((iw (i10 + (List.length b : Int))) + 1))) rfl rfl rfl ?_)
        obtain ⟨u12, q98, h⟩ := bind_some h
        obtain ⟨m12, n20, q99, q100, q101, q102⟩ := seg_some q98
        have f26 := (((hE39.mono (K22 None)).mono (K23 None)).mono (K30 None))
        obtain ⟨b19, hb15⟩ := hL34.row_some 0 rfl rfl (row_pos (pre := []) f26 (List.getElem?_eq_getElem (Nat.lt_of_lt_of_le q101 q102)) (Nat.lt_of_sub_eq_succ rfl))
        refine Rl.op (OpY.cutSeg (r := (rInt .u32)) (b := b19) (l := m12) (h' := n20) Tryd.underlying22 ti47 rfl (osv_some hb15) hl11 f26 hc20 (.inr ⟨_, _, rfl, by rw [← q99]; rfl⟩) (.inr ⟨_, _, rfl, by rw [← q100]; rfl⟩) q101 q102 ?_)
        refine Rl.op (OpY.move (v := (osv ob15 0 (List.length x12) cap15)) rfl ?_)
        refine Rl.op (OpY.move (v := (Value.int .u64 guess10)) rfl ?_)
        obtain ⟨s13, h, g13⟩ := bind_some h
        refine Rl.op (OpY.callg (T := fun e w' => ∃ (u13 : (List Int)) (x24 : Bool) (cs22 : List Value), (u13, x24) = s13 ∧ e = Ending.returned (Value.bool x24) ∧ Go.X.Loc [] [] w w' [ob14, ob15, some b13] [Cont.cells ([] ++ (cs22 ++ sp14)), Cont.cells ([] ++ (cs16 ++ sp16)), Cont.cells ([] ++ (cs21 ++ []))] ∧ Keep w.heap.size [ob14, ob15, some b13] w100 [ob14, ob15, some b13] w' ∧ Els (rInt .u32) (Hv w.heap.size None [ob14, ob15, some b13] w') cs22 u13 ∧ (List.length r14) = List.length u13 ∧ (cs22 ++ sp14).length = cap14 * (rInt .u32).sz ∧ True) en70 rfl rfl ?_ ?_)
        ·
         refine calls_of (l := [(Value.slice (some ⟨b19, 0 + m12 * (rInt .u32).sz, none⟩) (n20 - m12) (cap14 - m12)), (osv ob15 0 (List.length x12) cap15), (Value.int .u64 guess10)]) (rl := [.tmp 6]) (n := 45) Tryd.func70 rfl rfl rfl (Nat.le_of_ble_eq_true rfl) ?_
         refine Swp.seq (Swp.region rfl (Rl.op (OpY.assign (v := (Value.bool false)) rfl ?_)))
         refine Rl.nil (Swp.seq (Swp.region rfl (Rl.op (OpY.assign (v := (Value.int .u64 0)) rfl ?_))))
         refine Rl.op (OpY.assign (v := (Value.int .u64 0)) rfl ?_)
         refine Rl.nil (Swp.seq (Swp.seq (Swp.region rfl (Rl.op (OpY.move (v := (Value.slice (some ⟨b19, 0 + m12 * (rInt .u32).sz, none⟩) (n20 - m12) (cap14 - m12))) rfl ?_)))))
         refine Rl.op (OpY.lenSeg (e := ((iw ((iw (i10 + (List.length b : Int))) + 1)) - i10)) Tryd.underlying22 rfl (by have := q99; have := q100; have := q101; omega) ?_)
         refine Rl.op (OpY.move (v := (Value.int .i64 0)) rfl ?_)
         refine Rl.nil ?_
         obtain ⟨s14, hl14, g14⟩ := bind_some h
         refine Swp.join (fun e w' => ∃ (borrow10 : Int) (x25 : (List Int)) (cs23 : List Value) (u : Env), (borrow10, x25) = s14 ∧ e = upds [(8, (Value.int .u64 borrow10))] u ∧ Go.X.Loc [] [] w w' [ob14, ob15, some b13] [Cont.cells ([] ++ (cs23 ++ sp14)), Cont.cells ([] ++ (cs16 ++ sp16)), Cont.cells ([] ++ (cs21 ++ []))] ∧ Keep w.heap.size [ob14, ob15, some b13] w100 [ob14, ob15, some b13] w' ∧ Els (rInt .u32) (Hv w.heap.size None [ob14, ob15, some b13] w') cs23 x25 ∧ (List.length r14) = List.length x25 ∧ (cs23 ++ sp14).length = cap14 * (rInt .u32).sz ∧ True) ?_ ?_
         ·
          refine Swp.block ?_
          refine Swp.loopM hl14 (fun (ss : ((List Int) × Int × Int × Int)) (e : Env) (w' : World) => match ss with | (u14, carry10, borrow11, x26) => ∃ (cs24 : List Value) (u : Env), e = upds [(0, (Value.slice (some ⟨b19, 0 + m12 * (rInt .u32).sz, none⟩) (n20 - m12) (cap14 - m12))), (1, (osv ob15 0 (List.length x12) cap15)), (2, (Value.int .u64 guess10)), (7, (Value.int .u64 carry10)), (8, (Value.int .u64 borrow11)), (12, (Value.int .i64 ((iw ((iw (i10 + (List.length b : Int))) + 1)) - i10))), (13, (Value.int .i64 x26))] u ∧ Go.X.Loc [] [] w w' [ob14, ob15, some b13] [Cont.cells ([] ++ (cs24 ++ sp14)), Cont.cells ([] ++ (cs16 ++ sp16)), Cont.cells ([] ++ (cs21 ++ []))] ∧ Keep w.heap.size [ob14, ob15, some b13] w100 [ob14, ob15, some b13] w' ∧ Els (rInt .u32) (Hv w.heap.size None [ob14, ob15, some b13] w') cs24 u14 ∧ (List.length r14) = List.length u14 ∧ (cs24 ++ sp14).length = cap14 * (rInt .u32).sz ∧ True) ⟨cs20, _, (upds_sym ⟨rfl, rfl, rfl, rfl, rfl, rfl, rfl, trivial⟩), hL34, Keep.refl, f26, hl11, hc20, trivial⟩ ?_
          rintro ⟨u14, carry10, borrow11, x26⟩ oo _ w101 ⟨cs24, u, rfl, hL35, K31, hE107, hl15, hc26, -⟩ h hd12
          rw [bdivide_b3] at h
          refine Swp.seq (Swp.region rfl (Rl.op (OpY.lss (x := x26) (y := ((iw ((iw (i10 + (List.length b : Int))) + 1)) - i10)) ((x26 : Int) < ((iw ((iw (i10 + (List.length b : Int))) + 1)) - i10)) rfl rfl Iff.rfl ?_)))
          refine Rl.nil (Swp.seq ?_)
          refine Swp.cond_d ((x26 : Int) < ((iw ((iw (i10 + (List.length b : Int))) + 1)) - i10)) rfl (fun hc27 => ?_) (fun hc27 => ?_)
          ·
           replace h := ite_t hc27 h
           refine Swp.skip (Swp.seq (Swp.block (Swp.seq (Swp.region rfl (Rl.op (OpY.move (v := (Value.int .i64 x26)) rfl ?_))))))
           refine Rl.op (OpY.assign (v := (Value.int .i64 x26)) rfl ?_)
           refine Rl.nil (Swp.seq (Swp.region rfl (Rl.op (OpY.move (v := (Value.int .u64 carry10)) rfl ?_))))
           refine Rl.op (OpY.move (v := (Value.int .u64 guess10)) rfl ?_)
           refine Rl.op (OpY.move (v := (osv ob15 0 (List.length x12) cap15)) rfl ?_)
           refine Rl.op (OpY.move (v := (Value.int .i64 x26)) rfl ?_)
           obtain ⟨r16, q103, h⟩ := bind_some h
           have f27 := ((f22.mono (K30 None)).mono (K31 None))
           refine Rl.op (OpY.call en65 rfl rfl (digit_w N x12 x26 (osv ob15 0 (List.length x12) cap15) _ Any (own_row_any (pre := []) (o := 0) (n := (List.length x12)) (cap := cap15) (hL35.at 1 rfl rfl) f27 vw_any rfl rfl rfl hc18) r16 q103) ?_)
           rintro _ w102 hE108 ⟨rfl, -⟩
           have hL36 := hL35.ext hE108
           have K32 := ke hL35 hE108
           refine Rl.op (OpY.mul (x := guess10) (y := r16) (z := (uw (guess10 * r16))) rfl rfl rfl ?_)
           refine Rl.op (OpY.add (x := carry10) (y := (uw (guess10 * r16))) (z := (uw (carry10 + (uw (guess10 * r16))))) rfl rfl rfl ?_)
           refine Rl.op (OpY.assign (v := (Value.int .u64 (uw (carry10 + (uw (guess10 * r16)))))) rfl ?_)
           refine Rl.nil (Swp.seq (Swp.region rfl (Rl.op (OpY.move (v := (Value.slice (some ⟨b19, 0 + m12 * (rInt .u32).sz, none⟩) (n20 - m12) (cap14 - m12))) rfl ?_))))
           refine Rl.op (OpY.move (v := (Value.int .i64 x26)) rfl ?_)
           obtain ⟨u15, q104, h⟩ := bind_some h
           replace q104 := chk_some q104
           obtain ⟨x27, q105, h⟩ := bind_some h
           obtain ⟨n21, q106, q107⟩ := idx_some q105
           obtain ⟨j10, q108⟩ : ∃ j : Nat, x26 = (j : Int) := ⟨Int.toNat x26, by omega⟩
           obtain rfl : n21 = m12 + j10 := by omega
           refine Rl.op (OpY.ixSeg (r := (rInt .u32)) (b := b19) (m := m12) (n := n20) (j := j10) Tryd.underlying22 ti47 rfl rfl q108 (by omega) ?_)
           have f28 := (hE107.mono (K32 None))
           obtain ⟨vs19, q109, q110, q111⟩ := row_elem (pre := []) (sp := sp14) f28 q107
           obtain rfl := q110
           refine Rl.op (OpY.ldElem1 (v := (Value.int .u32 x27)) Tryd.underlying47 rfl rfl (own_some hb15 (hL36.at 0 rfl rfl)) q111 ?_)
           refine Rl.op (OpY.convInt (x := x27) (z := (uw x27)) Tryd.underlying47 Tryd.underlying62 rfl rfl ?_)
           refine Rl.op (OpY.move (v := (Value.int .u64 (uw (carry10 + (uw (guess10 * r16)))))) rfl ?_)
           refine Rl.op (OpY.iand (x := (uw (carry10 + (uw (guess10 * r16))))) (y := 4294967295) rfl rfl ?_)
           refine Rl.op (OpY.sub (x := (uw x27)) (y := (band .u64 (uw (carry10 + (uw (guess10 * r16)))) 4294967295)) (z := (uw ((uw x27) - (band .u64 (uw (carry10 + (uw (guess10 * r16)))) 4294967295)))) rfl rfl rfl ?_)
           refine Rl.op (OpY.move (v := (Value.int .u64 borrow11)) rfl ?_)
           refine Rl.op (OpY.sub (x := (uw ((uw x27) - (band .u64 (uw (carry10 + (uw (guess10 * r16)))) 4294967295)))) (y := borrow11) (z := (uw ((uw ((uw x27) - (band .u64 (uw (carry10 + (uw (guess10 * r16)))) 4294967295))) - borrow11))) rfl rfl rfl ?_)
           refine Rl.op (OpY.assign (v := (Value.int .u64 (uw ((uw ((uw x27) - (band .u64 (uw (carry10 + (uw (guess10 * r16)))) 4294967295))) - borrow11)))) rfl ?_)
           refine Rl.nil (Swp.seq (Swp.region rfl (Rl.op (OpY.move (v := (Value.slice (some ⟨b19, 0 + m12 * (rInt .u32).sz, none⟩) (n20 - m12) (cap14 - m12))) rfl ?_))))
           refine Rl.op (OpY.move (v := (Value.int .i64 x26)) rfl ?_)
           refine Rl.op (OpY.move (v := (Value.int .u64 (uw ((uw ((uw x27) - (band .u64 (uw (carry10 + (uw (guess10 * r16)))) 4294967295))) - borrow11)))) rfl ?_)
           refine Rl.op (OpY.convInt (x := (uw ((uw ((uw x27) - (band .u64 (uw (carry10 + (uw (guess10 * r16)))) 4294967295))) - borrow11))) (z := (uw32 (uw ((uw ((uw x27) - (band .u64 (uw (carry10 + (uw (guess10 * r16)))) 4294967295))) - borrow11)))) Tryd.underlying62 Tryd.underlying47 rfl rfl ?_)
           obtain ⟨u17, q112, h⟩ := bind_some h
           replace q112 := chk_some q112
           obtain ⟨x28, q113, h⟩ := bind_some h
           obtain ⟨n22, q114, q115⟩ := idx_some q113
           obtain ⟨j11, q116⟩ : ∃ j : Nat, x26 = (j : Int) := ⟨Int.toNat x26, by omega⟩
           obtain rfl : n22 = m12 + j11 := by omega
           have q117 := (List.getElem?_eq_some_iff.1 q115).1
           refine Rl.op (OpY.ixSeg (r := (rInt .u32)) (b := b19) (m := m12) (n := n20) (j := j11) Tryd.underlying22 ti47 rfl rfl q116 (by omega) ?_)
           obtain ⟨x29, q118, h⟩ := bind_some h
           obtain ⟨n23, q119, q120, q121⟩ := upd1_some q118
           obtain rfl := Int.ofNat_inj.1 (q114.symm.trans q119)
           refine Rl.op0 (OpY.stRowX (pre := []) (r := (rInt .u32)) (vs := [(Value.int .u32 (uw32 (uw ((uw ((uw x27) - (band .u64 (uw (carry10 + (uw (guess10 * r16)))) 4294967295))) - borrow11))))]) (a := (uw32 (uw ((uw ((uw x27) - (band .u64 (uw (carry10 + (uw (guess10 * r16)))) 4294967295))) - borrow11)))) ti47 rfl rfl rfl rfl hL36 0 (congrArg some hb15) rfl f28 q117 rfl q121 ?_)
           have hl16 : (List.length r14) = List.length x29 := by rw [q121, List.length_set]; exact hl15
           intro w103 cs25 (hL37 : Go.X.Loc [] [] w w103 [ob14, ob15, some b13] [Cont.cells ([] ++ (cs25 ++ sp14)), Cont.cells ([] ++ (cs16 ++ sp16)), Cont.cells ([] ++ (cs21 ++ []))]) hS12 hE109 q122
           have hc28 : (cs25 ++ sp14).length = cap14 * (rInt .u32).sz := by have := hc26; rw [List.length_append] at this ⊢; rw [q122]; exact this
           have K33 := ks w hS12
           refine Rl.nil (Swp.seq (Swp.region rfl (Rl.op (OpY.move (v := (Value.int .u64 (uw ((uw ((uw x27) - (band .u64 (uw (carry10 + (uw (guess10 * r16)))) 4294967295))) - borrow11)))) rfl ?_))))
           refine Rl.op (OpY.ishr (x := (uw ((uw ((uw x27) - (band .u64 (uw (carry10 + (uw (guess10 * r16)))) 4294967295))) - borrow11))) (y := 63) rfl rfl (by decide) ?_)
           refine Rl.op (OpY.assign (v := (Value.int .u64 (bshr .u64 (uw ((uw ((uw x27) - (band .u64 (uw (carry10 + (uw (guess10 * r16)))) 4294967295))) - borrow11)) 63))) rfl ?_)
           refine Rl.nil (Swp.region rfl (Rl.op (OpY.move (v := (Value.int .u64 (uw (carry10 + (uw (guess10 * r16)))))) rfl ?_)))
           refine Rl.op (OpY.ishr (x := (uw (carry10 + (uw (guess10 * r16))))) (y := 32) rfl rfl (by decide) ?_)
           refine Rl.op (OpY.assign (v := (Value.int .u64 (bshr .u64 (uw (carry10 + (uw (guess10 * r16)))) 32))) rfl ?_)
           refine Rl.nil (Swp.pop_blk (Swp.region rfl (Rl.op (OpY.add (x := x26) (y := 1) (z := (iw (x26 + 1))) rfl rfl rfl ?_))))
           refine Rl.op (OpY.move (v := (Value.int .i64 (iw (x26 + 1)))) rfl ?_)
           refine Rl.nil ?_
           have f29 := (hE109.mono (K33 None))
           obtain rfl := Option.some.inj h
           refine Swp.pop_back ⟨(x29, (bshr .u64 (uw (carry10 + (uw (guess10 * r16)))) 32), (bshr .u64 (uw ((uw ((uw x27) - (band .u64 (uw (carry10 + (uw (guess10 * r16)))) 4294967295))) - borrow11)) 63), (iw (x26 + 1))), rfl, ?_⟩
           exact ⟨cs25, _, (upds_sym ⟨rfl, rfl, rfl, rfl, rfl, rfl, rfl, trivial⟩), hL37, (Keep.trans (Keep.trans K31 K32) K33), f29, hl16, hc28, trivial⟩
          ·
           replace h := ite_f hc27 h
           refine Swp.exit rfl ?_
           obtain rfl := Option.some.inj h
           obtain rfl := hd12 _ rfl
           replace h := g14
           try dsimp only at h
           skip
           refine Swp.pop_back ?_
           exact ⟨borrow11, u14, cs24, _, rfl, (upds_sym ⟨rfl, trivial⟩), hL35, K31, hE107, hl15, hc26, trivial⟩
         ·
          rintro _ w104 ⟨borrow10, x25, cs23, u, rfl, rfl, hL38, K34, hE110, hl17, hc29, -⟩
          replace h := g14
          try dsimp only at h
          refine Swp.seq (Swp.region rfl (Rl.op (OpY.move (v := (Value.int .u64 borrow10)) rfl ?_)))
          refine Rl.op (OpY.neq (x := borrow10) (y := 0) ((borrow10 : Int) ≠ 0) rfl rfl Iff.rfl ?_)
          refine Rl.op (OpY.assign (v := (Value.bool (decide ((borrow10 : Int) ≠ 0)))) rfl ?_)
          refine Rl.nil (Swp.ret ?_)
          refine ⟨[(Value.bool (decide ((borrow10 : Int) ≠ 0)))], ⟨rfl, trivial⟩, ?_⟩
          obtain rfl := Option.some.inj h
          exact ⟨x25, (decide ((borrow10 : Int) ≠ 0)), cs23, rfl, rfl, hL38, K34, hE110, hl17, hc29, trivial⟩
        ·
         rintro _ w105 ⟨u13, x24, cs22, rfl, rfl, hL39, K35, hE111, hl18, hc30, -⟩
         refine ⟨_, rfl, ?_⟩
         replace h := g13
         try dsimp only at h
         refine Rl.nil ?_
         obtain ⟨s15, h, g15⟩ := bind_some h
         refine Swp.join (fun e w' => ∃ (u18 : (List Int)) (guess12 : Int) (cs26 : List Value) (u : Env), (u18, guess12) = s15 ∧ e = upds [(8, (Value.int .u64 (uw r13))), (9, (osv ob14 0 (List.length r14) cap14)), (10, (osv ob15 0 (List.length x12) cap15)), (11, (Value.int .i64 (List.length b : Int))), (12, (osv (some b13) 0 (List.length x13) m11)), (13, (Value.int .i64 i10)), (15, (Value.int .u64 guess12))] u ∧ Go.X.Loc [] [] w w' [ob14, ob15, some b13] [Cont.cells ([] ++ (cs26 ++ sp14)), Cont.cells ([] ++ (cs16 ++ sp16)), Cont.cells ([] ++ (cs21 ++ []))] ∧ Keep w.heap.size [ob14, ob15, some b13] w105 [ob14, ob15, some b13] w' ∧ Els (rInt .u32) (Hv w.heap.size None [ob14, ob15, some b13] w') cs26 u18 ∧ (List.length r14) = List.length u18 ∧ (cs26 ++ sp14).length = cap14 * (rInt .u32).sz ∧ True) ?_ ?_
         ·
          refine Swp.cond_b x24 rfl (fun hc31 => ?_) (fun hc31 => ?_)
          ·
           replace h := ite_t hc31 h
           refine Swp.seq (Swp.region rfl (Rl.op (OpY.move (v := (Value.int .u64 guess10)) rfl ?_)))
           refine Rl.op (OpY.sub (x := guess10) (y := 1) (z := (uw (guess10 - 1))) rfl rfl rfl ?_)
           refine Rl.op (OpY.assign (v := (Value.int .u64 (uw (guess10 - 1)))) rfl ?_)
           refine Rl.nil (Swp.seq (Swp.region rfl (Rl.op (OpY.assign (v := (Value.int .u64 0)) rfl ?_))))
           refine Rl.nil (Swp.seq (Swp.seq (Swp.region rfl (Rl.op (OpY.move (v := (osv ob15 0 (List.length x12) cap15)) rfl ?_)))))
           have f30 := ((f22.mono (K30 None)).mono (K35 None))
           refine Rl.op (OpY.lenRow (pre := []) (r := (rInt .u32)) (xs := x12) Tryd.underlying22 rfl (hL39.at 1 rfl rfl) f30 rfl rfl ?_)
           refine Rl.op (OpY.move (v := (Value.int .i64 0)) rfl ?_)
           refine Rl.nil ?_
           obtain ⟨s16, hl19, g16⟩ := bind_some h
           refine Swp.join (fun e w' => ∃ (u19 : (List Int)) (carry11 : Int) (cs27 : List Value) (u : Env), (u19, carry11) = s16 ∧ e = upds [(8, (Value.int .u64 (uw r13))), (9, (osv ob14 0 (List.length r14) cap14)), (10, (osv ob15 0 (List.length x12) cap15)), (11, (Value.int .i64 (List.length b : Int))), (12, (osv (some b13) 0 (List.length x13) m11)), (13, (Value.int .i64 i10)), (15, (Value.int .u64 (uw (guess10 - 1)))), (17, (Value.int .u64 carry11))] u ∧ Go.X.Loc [] [] w w' [ob14, ob15, some b13] [Cont.cells ([] ++ (cs27 ++ sp14)), Cont.cells ([] ++ (cs16 ++ sp16)), Cont.cells ([] ++ (cs21 ++ []))] ∧ Keep w.heap.size [ob14, ob15, some b13] w105 [ob14, ob15, some b13] w' ∧ Els (rInt .u32) (Hv w.heap.size None [ob14, ob15, some b13] w') cs27 u19 ∧ (List.length r14) = List.length u19 ∧ (cs27 ++ sp14).length = cap14 * (rInt .u32).sz ∧ True) ?_ ?_
           ·
            refine Swp.block ?_
            refine Swp.loopM hl19 (fun (ss : ((List Int) × Int × Int)) (e : Env) (w' : World) => match ss with | (u20, carry12, x30) => ∃ (cs28 : List Value) (u : Env), e = upds [(8, (Value.int .u64 (uw r13))), (9, (osv ob14 0 (List.length r14) cap14)), (10, (osv ob15 0 (List.length x12) cap15)), (11, (Value.int .i64 (List.length b : Int))), (12, (osv (some b13) 0 (List.length x13) m11)), (13, (Value.int .i64 i10)), (15, (Value.int .u64 (uw (guess10 - 1)))), (17, (Value.int .u64 carry12)), (156, (Value.int .i64 (List.length x12 : Int))), (157, (Value.int .i64 x30))] u ∧ Go.X.Loc [] [] w w' [ob14, ob15, some b13] [Cont.cells ([] ++ (cs28 ++ sp14)), Cont.cells ([] ++ (cs16 ++ sp16)), Cont.cells ([] ++ (cs21 ++ []))] ∧ Keep w.heap.size [ob14, ob15, some b13] w105 [ob14, ob15, some b13] w' ∧ Els (rInt .u32) (Hv w.heap.size None [ob14, ob15, some b13] w') cs28 u20 ∧ (List.length r14) = List.length u20 ∧ (cs28 ++ sp14).length = cap14 * (rInt .u32).sz ∧ True) ⟨cs22, _, (upds_sym ⟨rfl, rfl, rfl, rfl, rfl, rfl, rfl, rfl, rfl, rfl, trivial⟩), hL39, Keep.refl, hE111, hl18, hc30, trivial⟩ ?_
            rintro ⟨u20, carry12, x30⟩ oo _ w106 ⟨cs28, u, rfl, hL40, K36, hE112, hl20, hc32, -⟩ h hd13
            rw [bdivide_b4] at h
            refine Swp.seq (Swp.region rfl (Rl.op (OpY.lss (x := x30) (y := (List.length x12 : Int)) ((x30 : Int) < (List.length x12 : Int)) rfl rfl Iff.rfl ?_)))
            refine Rl.nil (Swp.seq ?_)
            refine Swp.cond_d ((x30 : Int) < (List.length x12 : Int)) rfl (fun hc33 => ?_) (fun hc33 => ?_)
            ·
             replace h := ite_t hc33 h
             refine Swp.skip (Swp.seq (Swp.block (Swp.seq (Swp.region rfl (Rl.op (OpY.move (v := (Value.int .i64 x30)) rfl ?_))))))
             refine Rl.op (OpY.assign (v := (Value.int .i64 x30)) rfl ?_)
             refine Rl.nil (Swp.seq ?_)
             obtain ⟨x31, q123, h⟩ := bind_some h
             obtain ⟨n24, q124, q125⟩ := idx_some q123
             have q126 := (List.getElem?_eq_some_iff.1 q125).1
             obtain ⟨b20, hb16⟩ := hL40.row_some 0 rfl rfl (row_pos (pre := []) hE112 q125 (Nat.lt_of_sub_eq_succ rfl))
             obtain ⟨vs20, q127, q128, q129⟩ := row_elem (pre := []) (sp := sp14) hE112 q125
             obtain rfl := q128
             obtain ⟨x32, q130, h⟩ := bind_some h
             obtain ⟨n25, q131, q132⟩ := idx_some q130
             have q133 := (List.getElem?_eq_some_iff.1 q132).1
             have f31 := (f30.mono (K36 None))
             obtain ⟨b21, hb17⟩ := hL40.row_some 1 rfl rfl (row_pos (pre := []) f31 q132 (Nat.lt_of_sub_eq_succ rfl))
             obtain ⟨vs21, q134, q135, q136⟩ := row_elem (pre := []) (sp := sp16) f31 q132
             obtain rfl := q135
             refine Swp.drawL 14 [] [] (fun W1 => [.det (Value.int .u64 carry12), .det (osv ob14 0 (List.length r14) cap14), .det (Value.int .i64 i10), .det (Value.int .i64 x30), .det (Value.int .i64 (iw (i10 + x30))), .det (Value.pointer (some ⟨b20, (0 + n24 * (rInt .u32).sz), none⟩)), .det (Value.int .u32 x31), .det (Value.int .u64 (uw x31)), .det (osv ob15 0 (List.length x12) cap15), .det (Value.int .i64 x30), .det (Value.pointer (some ⟨b21, (0 + n25 * (rInt .u32).sz), none⟩)), .det (Value.int .u32 x32), .det (Value.int .u64 (uw x32)), .det (Value.int .u64 (uw ((uw x31) + (uw x32))))]) mixed rfl rfl rfl (fun _ => rfl) (fun _ => rfl) ?_ ?_
             ·
              intro W1 _
              exact trivial
             ·
              intro w107 hE113
              have hL41 := hL40.ext hE113
              have K37 := ke hL40 hE113
              refine DrH.de (fun _ _ => GOp.op (OpY.move rfl (er rfl))) ?_
              refine DrH.de (fun _ _ => GOp.op (OpY.move rfl (er rfl))) ?_
              refine DrH.de (fun _ _ => GOp.op (OpY.move rfl (er rfl))) ?_
              refine DrH.de (fun _ _ => GOp.op (OpY.move rfl (er rfl))) ?_
              refine DrH.de (fun _ _ => GOp.op (OpY.add rfl rfl rfl (er rfl))) ?_
              refine DrH.de (fun _ _ => GOp.op (OpY.ixRowD (r := (rInt .u32)) (b := b20) (o := 0) (n := n24) (m := (List.length r14)) (xs := u20) (q := (0 + n24 * (rInt .u32).sz)) Tryd.underlying22 ti47 (osv_some hb16) hl20 rfl q124 q126 rfl (er rfl))) ?_
              refine DrH.de (fun _ hE120 => GOp.op (OpY.ldElem1 Tryd.underlying47 rfl rfl (own_some hb16 ((hL41.ext hE120).at 0 rfl rfl)) q129 (er rfl))) ?_
              refine DrH.de (fun _ _ => GOp.op (OpY.convInt Tryd.underlying47 Tryd.underlying62 rfl rfl (er rfl))) ?_
              refine DrH.de (fun _ _ => GOp.op (OpY.move rfl (er rfl))) ?_
              refine DrH.de (fun _ _ => GOp.op (OpY.move rfl (er rfl))) ?_
              refine DrH.de (fun _ _ => GOp.op (OpY.ixRowD (r := (rInt .u32)) (b := b21) (o := 0) (n := n25) (m := (List.length x12)) (xs := x12) (q := (0 + n25 * (rInt .u32).sz)) Tryd.underlying22 ti47 (osv_some hb17) rfl rfl q131 q133 rfl (er rfl))) ?_
              refine DrH.de (fun _ hE125 => GOp.op (OpY.ldElem1 Tryd.underlying47 rfl rfl (own_some hb17 ((hL41.ext hE125).at 1 rfl rfl)) q136 (er rfl))) ?_
              refine DrH.de (fun _ _ => GOp.op (OpY.convInt Tryd.underlying47 Tryd.underlying62 rfl rfl (er rfl))) ?_
              refine DrH.de (fun _ _ => GOp.op (OpY.add rfl rfl rfl (er rfl))) ?_
              refine DrH.fin0 ?_
              rintro w122 Z102 hE128 hZ98 ⟨-⟩ ap14
              have hB14 : ∀ b, some b ∈ ([] : List (Option Nat)) → w107.heap.size ≤ b ∧ ¬ Z102 b := by
               intro b hb; cases hb
              have hL44 := hL41.ext hE128
              have K38 := ke hL41 hE128
              refine Rl.op (OpY.add (x := carry12) (y := (uw ((uw x31) + (uw x32)))) (z := (uw (carry12 + (uw ((uw x31) + (uw x32)))))) rfl rfl rfl ?_)
              refine Rl.op (OpY.assign (v := (Value.int .u64 (uw (carry12 + (uw ((uw x31) + (uw x32))))))) rfl ?_)
              refine Rl.nil (Swp.seq (Swp.region rfl (Rl.op (OpY.move (v := (osv ob14 0 (List.length r14) cap14)) rfl ?_))))
              refine Rl.op (OpY.move (v := (Value.int .i64 i10)) rfl ?_)
              refine Rl.op (OpY.move (v := (Value.int .i64 x30)) rfl ?_)
              refine Rl.op (OpY.add (x := i10) (y := x30) (z := (iw (i10 + x30))) rfl rfl rfl ?_)
              refine Rl.op (OpY.move (v := (Value.int .u64 (uw (carry12 + (uw ((uw x31) + (uw x32))))))) rfl ?_)
              refine Rl.op (OpY.convInt (x := (uw (carry12 + (uw ((uw x31) + (uw x32)))))) (z := (uw32 (uw (carry12 + (uw ((uw x31) + (uw x32))))))) Tryd.underlying62 Tryd.underlying47 rfl rfl ?_)
              obtain ⟨x33, q137, h⟩ := bind_some h
              obtain ⟨n26, q138, q139⟩ := idx_some q137
              have q140 := (List.getElem?_eq_some_iff.1 q139).1
              refine Rl.op (OpY.ixRowD (r := (rInt .u32)) (b := b20) (o := 0) (n := n26) (m := (List.length r14)) (xs := u20) (q := (0 + n26 * (rInt .u32).sz)) Tryd.underlying22 ti47 (osv_some hb16) hl20 rfl q138 q140 rfl ?_)
              obtain ⟨x34, q141, h⟩ := bind_some h
              obtain ⟨n27, q142, q143, q144⟩ := upd1_some q141
              obtain rfl := Int.ofNat_inj.1 (q138.symm.trans q142)
              have f32 := ((hE112.mono (K37 None)).mono (K38 None))
              refine Rl.op0 (OpY.stRowX (pre := []) (r := (rInt .u32)) (vs := [(Value.int .u32 (uw32 (uw (carry12 + (uw ((uw x31) + (uw x32)))))))]) (a := (uw32 (uw (carry12 + (uw ((uw x31) + (uw x32))))))) ti47 rfl rfl rfl rfl hL44 0 (congrArg some hb16) rfl f32 q140 rfl q144 ?_)
              have hl21 : (List.length r14) = List.length x34 := by rw [q144, List.length_set]; exact hl20
              intro w123 cs29 (hL45 : Go.X.Loc [] [] w w123 [ob14, ob15, some b13] [Cont.cells ([] ++ (cs29 ++ sp14)), Cont.cells ([] ++ (cs16 ++ sp16)), Cont.cells ([] ++ (cs21 ++ []))]) hS13 hE129 q145
              have hc34 : (cs29 ++ sp14).length = cap14 * (rInt .u32).sz := by have := hc32; rw [List.length_append] at this ⊢; rw [q145]; exact this
              have K39 := ks w hS13
              refine Rl.nil (Swp.region rfl (Rl.op (OpY.move (v := (Value.int .u64 (uw (carry12 + (uw ((uw x31) + (uw x32))))))) rfl ?_)))
              refine Rl.op (OpY.ishr (x := (uw (carry12 + (uw ((uw x31) + (uw x32)))))) (y := 32) rfl rfl (by decide) ?_)
              refine Rl.op (OpY.assign (v := (Value.int .u64 (bshr .u64 (uw (carry12 + (uw ((uw x31) + (uw x32))))) 32))) rfl ?_)
              refine Rl.nil (Swp.pop_blk (Swp.region rfl (Rl.op (OpY.add (x := x30) (y := 1) (z := (iw (x30 + 1))) rfl rfl rfl ?_))))
              refine Rl.op (OpY.move (v := (Value.int .i64 (iw (x30 + 1)))) rfl ?_)
              refine Rl.nil ?_
              have f33 := (hE129.mono (K39 None))
              obtain rfl := Option.some.inj h
              refine Swp.pop_back ⟨(x34, (bshr .u64 (uw (carry12 + (uw ((uw x31) + (uw x32))))) 32), (iw (x30 + 1))), rfl, ?_⟩
              exact ⟨cs29, _, (upds_sym ⟨rfl, rfl, rfl, rfl, rfl, rfl, rfl, rfl, rfl, rfl, trivial⟩), hL45, (Keep.trans (Keep.trans (Keep.trans K36 K37) K38) K39), f33, hl21, hc34, trivial⟩
            ·
             replace h := ite_f hc33 h
             refine Swp.exit rfl ?_
             obtain rfl := Option.some.inj h
             obtain rfl := hd13 _ rfl
             replace h := g16
             try dsimp only at h
             skip
             refine Swp.pop_back ?_
             exact ⟨u20, carry12, cs28, _, rfl, (upds_sym ⟨rfl, rfl, rfl, rfl, rfl, rfl, rfl, rfl, trivial⟩), hL40, K36, hE112, hl20, hc32, trivial⟩
           ·
            rintro _ w124 ⟨u19, carry11, cs27, u, rfl, rfl, hL46, K40, hE130, hl22, hc35, -⟩
            replace h := g16
            try dsimp only at h
            refine Swp.region rfl (Rl.op (OpY.move (v := (osv ob14 0 (List.length r14) cap14)) rfl ?_))
            refine Rl.op (OpY.move (v := (Value.int .i64 i10)) rfl ?_)
            refine Rl.op (OpY.move (v := (Value.int .i64 (List.length b : Int))) rfl ?_)
            refine Rl.op (OpY.add (x := i10) (y := (List.length b : Int)) (z := (iw (i10 + (List.length b : Int)))) rfl rfl rfl ?_)
            obtain ⟨x35, q146, h⟩ := bind_some h
            obtain ⟨n28, q147, q148⟩ := idx_some q146
            have q149 := (List.getElem?_eq_some_iff.1 q148).1
            obtain ⟨b22, hb18⟩ := hL46.row_some 0 rfl rfl (row_pos (pre := []) hE130 q148 (Nat.lt_of_sub_eq_succ rfl))
            refine Rl.op (OpY.ixRowD (r := (rInt .u32)) (b := b22) (o := 0) (n := n28) (m := (List.length r14)) (xs := u19) (q := (0 + n28 * (rInt .u32).sz)) Tryd.underlying22 ti47 (osv_some hb18) hl22 rfl q147 q149 rfl ?_)
            obtain ⟨vs22, q150, q151, q152⟩ := row_elem (pre := []) (sp := sp14) hE130 q148
            obtain rfl := q151
            refine Rl.op (OpY.ldElem1 (v := (Value.int .u32 x35)) Tryd.underlying47 rfl rfl (own_some hb18 (hL46.at 0 rfl rfl)) q152 ?_)
            refine Rl.op (OpY.move (v := (Value.int .u64 carry11)) rfl ?_)
            refine Rl.op (OpY.convInt (x := carry11) (z := (uw32 carry11)) Tryd.underlying62 Tryd.underlying47 rfl rfl ?_)
            refine Rl.op (OpY.add (x := x35) (y := (uw32 carry11)) (z := (uw32 (x35 + (uw32 carry11)))) rfl rfl rfl ?_)
            obtain ⟨x36, q153, h⟩ := bind_some h
            obtain ⟨n29, q154, q155⟩ := idx_some q153
            have q156 := (List.getElem?_eq_some_iff.1 q155).1
            refine Rl.op (OpY.ixRowD (r := (rInt .u32)) (b := b22) (o := 0) (n := n29) (m := (List.length r14)) (xs := u19) (q := (0 + n29 * (rInt .u32).sz)) Tryd.underlying22 ti47 (osv_some hb18) hl22 rfl q154 q156 rfl ?_)
            obtain ⟨x37, q157, h⟩ := bind_some h
            obtain ⟨n30, q158, q159, q160⟩ := upd1_some q157
            obtain rfl := Int.ofNat_inj.1 (q154.symm.trans q158)
            refine Rl.op0 (OpY.stRowX (pre := []) (r := (rInt .u32)) (vs := [(Value.int .u32 (uw32 (x35 + (uw32 carry11))))]) (a := (uw32 (x35 + (uw32 carry11)))) ti47 rfl rfl rfl rfl hL46 0 (congrArg some hb18) rfl hE130 q156 rfl q160 ?_)
            have hl23 : (List.length r14) = List.length x37 := by rw [q160, List.length_set]; exact hl22
            intro w125 cs30 (hL47 : Go.X.Loc [] [] w w125 [ob14, ob15, some b13] [Cont.cells ([] ++ (cs30 ++ sp14)), Cont.cells ([] ++ (cs16 ++ sp16)), Cont.cells ([] ++ (cs21 ++ []))]) hS14 hE131 q161
            have hc36 : (cs30 ++ sp14).length = cap14 * (rInt .u32).sz := by have := hc35; rw [List.length_append] at this ⊢; rw [q161]; exact this
            have K41 := ks w hS14
            refine Rl.nil ?_
            have f34 := (hE131.mono (K41 None))
            obtain rfl := Option.some.inj h
            refine Swp.pop_back ?_
            exact ⟨x37, (uw (guess10 - 1)), cs30, _, rfl, (upds_sym ⟨rfl, rfl, rfl, rfl, rfl, rfl, rfl, trivial⟩), hL47, (Keep.trans K40 K41), f34, hl23, hc36, trivial⟩
          ·
           replace h := ite_f hc31 h
           refine Swp.skip ?_
           obtain rfl := Option.some.inj h
           refine Swp.pop_back ?_
           exact ⟨u13, guess10, cs22, _, rfl, (upds_sym ⟨rfl, rfl, rfl, rfl, rfl, rfl, rfl, trivial⟩), hL39, Keep.refl, hE111, hl18, hc30, trivial⟩
         ·
          rintro _ w126 ⟨u18, guess12, cs26, u, rfl, rfl, hL48, K42, hE132, hl24, hc37, -⟩
          replace h := g15
          try dsimp only at h
          refine Swp.region rfl (Rl.op (OpY.move (v := (osv (some b13) 0 (List.length x13) m11)) rfl ?_))
          refine Rl.op (OpY.move (v := (Value.int .i64 i10)) rfl ?_)
          refine Rl.op (OpY.move (v := (Value.int .u64 guess12)) rfl ?_)
          refine Rl.op (OpY.convInt (x := guess12) (z := (uw32 guess12)) Tryd.underlying62 Tryd.underlying47 rfl rfl ?_)
          obtain ⟨x38, q162, h⟩ := bind_some h
          obtain ⟨n31, q163, q164⟩ := idx_some q162
          have q165 := (List.getElem?_eq_some_iff.1 q164).1
          refine Rl.op (OpY.ixRowD (r := (rInt .u32)) (b := b13) (o := 0) (n := n31) (m := (List.length x13)) (xs := q42) (q := (0 + n31 * (rInt .u32).sz)) Tryd.underlying22 ti47 rfl hl12 rfl q163 q165 rfl ?_)
          obtain ⟨x39, q166, h⟩ := bind_some h
          obtain ⟨n32, q167, q168, q169⟩ := upd1_some q166
          obtain rfl := Int.ofNat_inj.1 (q163.symm.trans q167)
          have f35 := (((((hE40.mono (K22 None)).mono (K23 None)).mono (K30 None)).mono (K35 None)).mono (K42 None))
          refine Rl.op0 (OpY.stRowX (pre := []) (r := (rInt .u32)) (vs := [(Value.int .u32 (uw32 guess12))]) (a := (uw32 guess12)) ti47 rfl rfl rfl rfl hL48 2 rfl rfl f35 q165 rfl q169 ?_)
          have hl25 : (List.length x13) = List.length x39 := by rw [q169, List.length_set]; exact hl12
          intro w127 cs31 (hL49 : Go.X.Loc [] [] w w127 [ob14, ob15, some b13] [Cont.cells ([] ++ (cs26 ++ sp14)), Cont.cells ([] ++ (cs16 ++ sp16)), Cont.cells ([] ++ (cs31 ++ []))]) hS15 hE133 q170
          have hc38 : (cs31 ++ []).length = m11 * (rInt .u32).sz := by have := hc21; rw [List.length_append] at this ⊢; rw [q170]; exact this
          have K43 := ks w hS15
          refine Rl.nil (Swp.pop_blk (Swp.region rfl (Rl.op (OpY.move (v := (Value.int .i64 i10)) rfl ?_))))
          refine Rl.op (OpY.sub (x := i10) (y := 1) (z := (iw (i10 - 1))) rfl rfl rfl ?_)
          refine Rl.op (OpY.assign (v := (Value.int .i64 (iw (i10 - 1)))) rfl ?_)
          refine Rl.nil ?_
          have f36 := (hE132.mono (K43 None))
          have f37 := (hE133.mono (K43 None))
          obtain rfl := Option.some.inj h
          refine Swp.pop_back ⟨(u18, x39, (iw (i10 - 1))), rfl, ?_⟩
          exact ⟨cs26, cs31, _, (upds_sym ⟨rfl, rfl, rfl, rfl, rfl, rfl, trivial⟩), hL49, (Keep.trans (Keep.trans (Keep.trans (Keep.trans (Keep.trans (Keep.trans K21 K22) K23) K30) K35) K42) K43), f36, hl24, hc37, f37, hl25, hc38, trivial⟩
     ·
      replace h := ite_f hc22 h
      refine Swp.exit rfl ?_
      have hp17 := hL21.pick [0, 2] rfl rfl rfl
      have hL50 : Go.X.Loc [] [] w w31 [ob14, some b13] [Cont.cells ([] ++ (cs20 ++ sp14)), Cont.cells ([] ++ (cs21 ++ []))] := hp17.1
      have K44 := ks w hp17.2
      have f38 := (hE39.mono (K44 None))
      have f39 := (hE40.mono (K44 None))
      obtain rfl := Option.some.inj h
      obtain rfl := hd10 _ rfl
      replace h := g10
      try dsimp only at h
      skip
      refine Swp.pop_back ?_
      exact ⟨u11, q42, cs20, cs21, _, rfl, (upds_sym ⟨rfl, rfl, rfl, rfl, trivial⟩), hL50, (Keep.trans K21 K44), f38, hl11, hc20, f39, hl12, hc21, trivial⟩
    ·
     rintro _ w128 ⟨u10, q41, cs18, cs19, u, rfl, rfl, hL51, K45, hE134, hl26, hc39, hE135, hl27, hc40, -⟩
     replace h := g10
     try dsimp only at h
     refine Swp.seq (Swp.region rfl (Rl.op (OpY.move (v := (Value.int .i64 (List.length b : Int))) rfl ?_)))
     obtain ⟨x40, q171, h⟩ := bind_some h
     obtain ⟨m13, q172, q173, q174, q175⟩ := mk1_some q171
     refine Rl.op (OpY.mkRowX (r := (rInt .u32)) (H := (Hv w.heap.size None [ob14, some b13] w128)) (zc := [(Value.int .u32 0)]) (x := 0) Tryd.underlying22 ti47 rfl rfl rfl rfl q172 q173 q174 q175 hL51 ?_)
     intro b23 w129 cs32 hE136 hc41 hL52 hS16
     have K46 := ks w hS16
     refine Rl.op (OpY.assign (v := (osv (some b23) 0 (List.length x40) m13)) rfl ?_)
     refine Rl.nil (Swp.seq (Swp.seq (Swp.region rfl (Rl.op (OpY.move (v := (osv (some b23) 0 (List.length x40) m13)) rfl ?_)))))
     have f40 := (hE136.mono (K46 None))
     refine Rl.op (OpY.lenRow (pre := []) (r := (rInt .u32)) (xs := x40) Tryd.underlying22 rfl (hL52.at 0 rfl rfl) f40 rfl rfl ?_)
     refine Rl.op (OpY.move (v := (Value.int .i64 0)) rfl ?_)
     refine Rl.nil ?_
     obtain ⟨s17, hl28, g17⟩ := bind_some h
     refine Swp.join (fun e w' => ∃ (x41 : (List Int)) (cs33 : List Value) (u : Env), x41 = s17 ∧ e = upds [(12, (osv (some b13) 0 (List.length x13) m11)), (19, (osv (some b23) 0 (List.length x40) m13))] u ∧ Go.X.Loc [] [] w w' [some b13, some b23] [Cont.cells ([] ++ (cs19 ++ [])), Cont.cells ([] ++ (cs33 ++ []))] ∧ Keep w.heap.size [some b23, ob14, some b13] w129 [some b13, some b23] w' ∧ Els (rInt .u32) (Hv w.heap.size None [some b13, some b23] w') cs33 x41 ∧ (List.length x40) = List.length x41 ∧ (cs33 ++ []).length = m13 * (rInt .u32).sz ∧ True) ?_ ?_
     ·
      refine Swp.block ?_
      have hp18 := hL52.pick [1, 2, 0] rfl rfl rfl
      have hL53 : Go.X.Loc [] [] w w129 [ob14, some b13, some b23] [Cont.cells ([] ++ (cs18 ++ sp14)), Cont.cells ([] ++ (cs19 ++ [])), Cont.cells ([] ++ (cs32 ++ []))] := hp18.1
      have K47 := ks w hp18.2
      have f41 := (f40.mono (K47 None))
      refine Swp.loopM hl28 (fun (ss : ((List Int) × Int)) (e : Env) (w' : World) => match ss with | (x42, x43) => ∃ (cs34 : List Value) (u : Env), e = upds [(8, (Value.int .u64 (uw r13))), (9, (osv ob14 0 (List.length r14) cap14)), (12, (osv (some b13) 0 (List.length x13) m11)), (19, (osv (some b23) 0 (List.length x40) m13)), (203, (Value.int .i64 (List.length x40 : Int))), (204, (Value.int .i64 x43))] u ∧ Go.X.Loc [] [] w w' [ob14, some b13, some b23] [Cont.cells ([] ++ (cs18 ++ sp14)), Cont.cells ([] ++ (cs19 ++ [])), Cont.cells ([] ++ (cs34 ++ []))] ∧ Keep w.heap.size [some b23, ob14, some b13] w129 [ob14, some b13, some b23] w' ∧ Els (rInt .u32) (Hv w.heap.size None [ob14, some b13, some b23] w') cs34 x42 ∧ (List.length x40) = List.length x42 ∧ (cs34 ++ []).length = m13 * (rInt .u32).sz ∧ True) ⟨cs32, _, (upds_sym ⟨rfl, rfl, rfl, rfl, rfl, rfl, trivial⟩), hL53, K47, f41, rfl, hc41, trivial⟩ ?_
      rintro ⟨x42, x43⟩ oo _ w130 ⟨cs34, u, rfl, hL54, K48, hE137, hl29, hc42, -⟩ h hd14
      rw [bdivide_b5] at h
      refine Swp.seq (Swp.region rfl (Rl.op (OpY.lss (x := x43) (y := (List.length x40 : Int)) ((x43 : Int) < (List.length x40 : Int)) rfl rfl Iff.rfl ?_)))
      refine Rl.nil (Swp.seq ?_)
      refine Swp.cond_d ((x43 : Int) < (List.length x40 : Int)) rfl (fun hc43 => ?_) (fun hc43 => ?_)
      ·
       replace h := ite_t hc43 h
       refine Swp.skip (Swp.seq (Swp.block (Swp.seq (Swp.region rfl (Rl.op (OpY.move (v := (Value.int .i64 x43)) rfl ?_))))))
       refine Rl.op (OpY.assign (v := (Value.int .i64 x43)) rfl ?_)
       refine Rl.nil ?_
       obtain ⟨x44, q176, h⟩ := bind_some h
       obtain ⟨n33, q177, q178⟩ := idx_some q176
       have q179 := (List.getElem?_eq_some_iff.1 q178).1
       have f42 := ((hE134.mono (K46 None)).mono (K48 None))
       obtain ⟨b24, hb19⟩ := hL54.row_some 0 rfl rfl (row_pos (pre := []) f42 q178 (Nat.lt_of_sub_eq_succ rfl))
       obtain ⟨vs23, q180, q181, q182⟩ := row_elem (pre := []) (sp := sp14) f42 q178
       obtain rfl := q181
       obtain ⟨x45, q183, h⟩ := bind_some h
       obtain ⟨n34, q184, q185⟩ := idx_some q183
       have q186 := (List.getElem?_eq_some_iff.1 q185).1
       obtain ⟨vs24, q187, q188, q189⟩ := row_elem (pre := []) (sp := sp14) f42 q185
       obtain rfl := q188
       obtain ⟨u21, q190, h⟩ := bind_some h
       have q191 := chk_some q190
       refine Swp.drawL 18 [] [] (fun W1 => [.det (osv (some b23) 0 (List.length x40) m13), .det (Value.int .i64 x43), .det (osv ob14 0 (List.length r14) cap14), .det (Value.int .i64 x43), .det (Value.int .i64 (iw (x43 + 1))), .det (Value.pointer (some ⟨b24, (0 + n33 * (rInt .u32).sz), none⟩)), .det (Value.int .u32 x44), .det (Value.int .u64 (uw x44)), .det (Value.int .u64 (bshl .u64 (uw x44) 32)), .det (osv ob14 0 (List.length r14) cap14), .det (Value.int .i64 x43), .det (Value.pointer (some ⟨b24, (0 + n34 * (rInt .u32).sz), none⟩)), .det (Value.int .u32 x45), .det (Value.int .u64 (uw x45)), .det (Value.int .u64 (bor .u64 (bshl .u64 (uw x44) 32) (uw x45))), .det (Value.int .u64 (uw r13)), .det (Value.int .u64 (bshr .u64 (bor .u64 (bshl .u64 (uw x44) 32) (uw x45)) (uw r13))), .det (Value.int .u32 (uw32 (bshr .u64 (bor .u64 (bshl .u64 (uw x44) 32) (uw x45)) (uw r13))))]) mixed rfl rfl rfl (fun _ => rfl) (fun _ => rfl) ?_ ?_
       ·
        intro W1 _
        exact trivial
       ·
        intro w131 hE138
        have hL55 := hL54.ext hE138
        have K49 := ke hL54 hE138
        refine DrH.de (fun _ _ => GOp.op (OpY.move rfl (er rfl))) ?_
        refine DrH.de (fun _ _ => GOp.op (OpY.move rfl (er rfl))) ?_
        refine DrH.de (fun _ _ => GOp.op (OpY.move rfl (er rfl))) ?_
        refine DrH.de (fun _ _ => GOp.op (OpY.move rfl (er rfl))) ?_
        refine DrH.de (fun _ _ => GOp.op (OpY.add rfl rfl rfl (er rfl))) ?_
        refine DrH.de (fun _ _ => GOp.op (OpY.ixRowD (r := (rInt .u32)) (b := b24) (o := 0) (n := n33) (m := (List.length r14)) (xs := u10) (q := (0 + n33 * (rInt .u32).sz)) Tryd.underlying22 ti47 (osv_some hb19) hl26 rfl q177 q179 rfl (er rfl))) ?_
        refine DrH.de (fun _ hE145 => GOp.op (OpY.ldElem1 Tryd.underlying47 rfl rfl (own_some hb19 ((hL55.ext hE145).at 0 rfl rfl)) q182 (er rfl))) ?_
        refine DrH.de (fun _ _ => GOp.op (OpY.convInt Tryd.underlying47 Tryd.underlying62 rfl rfl (er rfl))) ?_
        refine DrH.de (fun _ _ => GOp.op (OpY.ishl rfl rfl (by decide) (er rfl))) ?_
        refine DrH.de (fun _ _ => GOp.op (OpY.move rfl (er rfl))) ?_
        refine DrH.de (fun _ _ => GOp.op (OpY.move rfl (er rfl))) ?_
        refine DrH.de (fun _ _ => GOp.op (OpY.ixRowD (r := (rInt .u32)) (b := b24) (o := 0) (n := n34) (m := (List.length r14)) (xs := u10) (q := (0 + n34 * (rInt .u32).sz)) Tryd.underlying22 ti47 (osv_some hb19) hl26 rfl q184 q186 rfl (er rfl))) ?_
        refine DrH.de (fun _ hE151 => GOp.op (OpY.ldElem1 Tryd.underlying47 rfl rfl (own_some hb19 ((hL55.ext hE151).at 0 rfl rfl)) q189 (er rfl))) ?_
        refine DrH.de (fun _ _ => GOp.op (OpY.convInt Tryd.underlying47 Tryd.underlying62 rfl rfl (er rfl))) ?_
        refine DrH.de (fun _ _ => GOp.op (OpY.ior rfl rfl (er rfl))) ?_
        refine DrH.de (fun _ _ => GOp.op (OpY.move rfl (er rfl))) ?_
        refine DrH.de (fun _ _ => GOp.op (OpY.ishr rfl rfl q191 (er rfl))) ?_
        refine DrH.de (fun _ _ => GOp.op (OpY.convInt Tryd.underlying62 Tryd.underlying47 rfl rfl (er rfl))) ?_
        refine DrH.fin0 ?_
        rintro w150 Z121 hE157 hZ117 ⟨-⟩ ap15
        have hB15 : ∀ b, some b ∈ ([] : List (Option Nat)) → w131.heap.size ≤ b ∧ ¬ Z121 b := by
         intro b hb; cases hb
        have hL58 := hL55.ext hE157
        have K50 := ke hL55 hE157
        obtain ⟨x46, q192, h⟩ := bind_some h
        obtain ⟨n35, q193, q194⟩ := idx_some q192
        have q195 := (List.getElem?_eq_some_iff.1 q194).1
        refine Rl.op (OpY.ixRowD (r := (rInt .u32)) (b := b23) (o := 0) (n := n35) (m := (List.length x40)) (xs := x42) (q := (0 + n35 * (rInt .u32).sz)) Tryd.underlying22 ti47 rfl hl29 rfl q193 q195 rfl ?_)
        obtain ⟨x47, q196, h⟩ := bind_some h
        obtain ⟨n36, q197, q198, q199⟩ := upd1_some q196
        obtain rfl := Int.ofNat_inj.1 (q193.symm.trans q197)
        have f43 := ((hE137.mono (K49 None)).mono (K50 None))
        refine Rl.op0 (OpY.stRowX (pre := []) (r := (rInt .u32)) (vs := [(Value.int .u32 (uw32 (bshr .u64 (bor .u64 (bshl .u64 (uw x44) 32) (uw x45)) (uw r13))))]) (a := (uw32 (bshr .u64 (bor .u64 (bshl .u64 (uw x44) 32) (uw x45)) (uw r13)))) ti47 rfl rfl rfl rfl hL58 2 rfl rfl f43 q195 rfl q199 ?_)
        have hl30 : (List.length x40) = List.length x47 := by rw [q199, List.length_set]; exact hl29
        intro w151 cs35 (hL59 : Go.X.Loc [] [] w w151 [ob14, some b13, some b23] [Cont.cells ([] ++ (cs18 ++ sp14)), Cont.cells ([] ++ (cs19 ++ [])), Cont.cells ([] ++ (cs35 ++ []))]) hS17 hE158 q200
        have hc44 : (cs35 ++ []).length = m13 * (rInt .u32).sz := by have := hc42; rw [List.length_append] at this ⊢; rw [q200]; exact this
        have K51 := ks w hS17
        refine Rl.nil (Swp.pop_blk (Swp.region rfl (Rl.op (OpY.add (x := x43) (y := 1) (z := (iw (x43 + 1))) rfl rfl rfl ?_))))
        refine Rl.op (OpY.move (v := (Value.int .i64 (iw (x43 + 1)))) rfl ?_)
        refine Rl.nil ?_
        have f44 := (hE158.mono (K51 None))
        obtain rfl := Option.some.inj h
        refine Swp.pop_back ⟨(x47, (iw (x43 + 1))), rfl, ?_⟩
        exact ⟨cs35, _, (upds_sym ⟨rfl, rfl, rfl, rfl, rfl, rfl, trivial⟩), hL59, (Keep.trans (Keep.trans (Keep.trans K48 K49) K50) K51), f44, hl30, hc44, trivial⟩
      ·
       replace h := ite_f hc43 h
       refine Swp.exit rfl ?_
       have hp19 := hL54.pick [1, 2] rfl rfl rfl
       have hL60 : Go.X.Loc [] [] w w130 [some b13, some b23] [Cont.cells ([] ++ (cs19 ++ [])), Cont.cells ([] ++ (cs34 ++ []))] := hp19.1
       have K52 := ks w hp19.2
       have f45 := (hE137.mono (K52 None))
       obtain rfl := Option.some.inj h
       obtain rfl := hd14 _ rfl
       replace h := g17
       try dsimp only at h
       skip
       refine Swp.pop_back ?_
       exact ⟨x42, cs34, _, rfl, (upds_sym ⟨rfl, rfl, trivial⟩), hL60, (Keep.trans K48 K52), f45, hl29, hc42, trivial⟩
     ·
      rintro _ w152 ⟨x41, cs33, u, rfl, rfl, hL61, K53, hE159, hl31, hc45, -⟩
      replace h := g17
      try dsimp only at h
      refine Swp.seq (Swp.region rfl (Rl.op (OpY.move (v := (osv (some b13) 0 (List.length x13) m11)) rfl ?_)))
      obtain ⟨r17, q201, h⟩ := bind_some h
      have f46 := ((hE135.mono (K46 None)).mono (K53 None))
      refine Rl.op (OpY.call en54 rfl rfl (btrim_w N q41 (osv (some b13) 0 (List.length x13) m11) _ Any (own_row_any (pre := []) (o := 0) (n := (List.length x13)) (cap := m11) (hL61.at 0 rfl rfl) f46 vw_any rfl rfl hl27 hc40) r17 q201) ?_)
      rintro _ w153 hE160 ⟨ob16, cap16, cs36, sp17, rfl, hN17, hE161, hc46, -⟩
      replace hE161 := hE161.mono (Hv.freshO (S := None) hL61 [ob16])
      have hp20 := hL61.adoptL hE160 hN17
      have hL62 := hp20.1
      have K54 := ks w hp20.2
      refine Rl.op (OpY.move (v := (osv (some b23) 0 (List.length x40) m13)) rfl ?_)
      obtain ⟨r18, q202, h⟩ := bind_some h
      have f47 := (hE159.mono (K54 None))
      refine Rl.op (OpY.call en54 rfl rfl (btrim_w N x41 (osv (some b23) 0 (List.length x40) m13) _ Any (own_row_any (pre := []) (o := 0) (n := (List.length x40)) (cap := m13) (hL62.at 2 rfl rfl) f47 vw_any rfl rfl hl31 hc45) r18 q202) ?_)
      rintro _ w154 hE162 ⟨ob17, cap17, cs37, sp18, rfl, hN18, hE163, hc47, -⟩
      replace hE163 := hE163.mono (Hv.freshO (S := None) hL62 [ob17])
      have hp21 := hL62.adoptL hE162 hN18
      have hL63 := hp21.1
      have K55 := ks w hp21.2
      refine Rl.op (OpY.assign (v := (osv ob16 0 (List.length r17) cap16)) rfl ?_)
      refine Rl.op (OpY.assign (v := (osv ob17 0 (List.length r18) cap17)) rfl ?_)
      refine Rl.nil (Swp.ret ?_)
      obtain rfl := Option.some.inj h
      refine ⟨[(osv ob16 0 (List.length r17) cap16), (osv ob17 0 (List.length r18) cap17)], ⟨rfl, rfl, trivial⟩, ⟨_, rfl, hL63.done, ?_⟩⟩
      have f48 := (hE161.mono (K55 None))
      exact ⟨ob16, cap16, cs36, sp17, ob17, cap17, cs37, sp18, rfl, (hL63.newOwn [1, 0] rfl rfl rfl), (f48.mono (Hv.pick [1, 0] rfl)), hc46, (hE163.mono (Hv.pick [1, 0] rfl)), hc47, trivial⟩
theorem bOf_w (N : Nat) (n : Int)  (w : World) (S : Nat → Prop)  (r : Big) (h : bOf N n = some r) :
  Calls Tryd.prog 30 #[(Value.int .i64 n)] w (Ret w (fun v w' => ∃ (v0_0 : Value), (Value.agg #[(Value.bool r.Negative), v0_0]) = v ∧ Rs (rInt .u32) (Hv w.heap.size None [] w') v0_0 r.Digits ∧ True)) := by
 unfold bOf at h
 have hL : Go.X.Loc [] [] w w [] [] := Go.X.Loc.begin0 w
 refine calls_of (l := [(Value.int .i64 n)]) (rl := [.cell 2 24]) (n := 19) Tryd.func30 rfl rfl rfl (Nat.le_of_ble_eq_true rfl) ?_
 refine Swp.seq (Swp.region rfl (Rl.op (OpY.alloc (cs := [(Value.bool false), (Value.slice none 0 0)]) ti24 rfl hL ?_)))
 intro b1 w2 hL3 hS5
 refine Rl.nil (Swp.seq (Swp.region rfl (Rl.op (OpY.move (v := (Value.int .i64 n)) rfl ?_))))
 refine Rl.op (OpY.convInt (x := n) (z := (uw n)) Tryd.underlying2 Tryd.underlying62 rfl rfl ?_)
 refine Rl.op (OpY.assign (v := (Value.int .u64 (uw n))) rfl ?_)
 refine Rl.nil (Swp.seq (Swp.seq (Swp.region rfl (Rl.op (OpY.move (v := (Value.int .i64 n)) rfl ?_)))))
 refine Rl.op (OpY.lss (x := n) (y := 0) ((n : Int) < 0) rfl rfl Iff.rfl ?_)
 refine Rl.nil ?_
 obtain ⟨s9, h, g10⟩ := bind_some h
 refine Swp.join (fun e w' => ∃ (u8 : Int) (u : Env), u8 = s9 ∧ e = upds [(0, (Value.int .i64 n)), (2, (Value.pointer (some ⟨b1, 0, none⟩))), (3, (Value.int .u64 u8))] u ∧ Go.X.Loc [] [] w w' [some b1] [Cont.cells [(Value.bool false), (Value.slice none 0 0)]] ∧ Keep w.heap.size [some b1] w2 [some b1] w' ∧ True) ?_ ?_
 ·
  refine Swp.cond_d ((n : Int) < 0) rfl (fun hc10 => ?_) (fun hc10 => ?_)
  ·
   replace h := ite_t hc10 h
   refine Swp.region rfl (Rl.op (OpY.move (v := (Value.int .u64 (uw n))) rfl ?_))
   refine Rl.op (OpY.neg (x := (uw n)) (z := (uw (0 - (uw n)))) rfl rfl ?_)
   refine Rl.op (OpY.assign (v := (Value.int .u64 (uw (0 - (uw n))))) rfl ?_)
   refine Rl.nil ?_
   obtain rfl := Option.some.inj h
   refine Swp.pop_back ?_
   exact ⟨(uw (0 - (uw n))), _, rfl, (upds_sym ⟨rfl, rfl, rfl, trivial⟩), hL3, Keep.refl, trivial⟩
  ·
   replace h := ite_f hc10 h
   refine Swp.skip ?_
   obtain rfl := Option.some.inj h
   refine Swp.pop_back ?_
   exact ⟨(uw n), _, rfl, (upds_sym ⟨rfl, rfl, rfl, trivial⟩), hL3, Keep.refl, trivial⟩
 ·
  rintro _ w10 ⟨u8, u, rfl, rfl, hL10, K10, -⟩
  replace h := g10
  try dsimp only at h
  refine Swp.seq (Swp.region rfl (Rl.op (OpY.move (v := (Value.int .i64 n)) rfl ?_)))
  refine Rl.op (OpY.lss (x := n) (y := 0) ((n : Int) < 0) rfl rfl Iff.rfl ?_)
  refine Rl.op (OpY.move (v := (Value.int .u64 u8)) rfl ?_)
  refine Rl.op (OpY.convInt (x := u8) (z := (uw32 u8)) Tryd.underlying62 Tryd.underlying47 rfl rfl ?_)
  refine Rl.op (OpY.move (v := (Value.int .u64 u8)) rfl ?_)
  refine Rl.op (OpY.ishr (x := u8) (y := 32) rfl rfl (by decide) ?_)
  refine Rl.op (OpY.convInt (x := (bshr .u64 u8 32)) (z := (uw32 (bshr .u64 u8 32))) Tryd.underlying62 Tryd.underlying47 rfl rfl ?_)
  have hE10 : Els (rInt .u32) (Hv w.heap.size None [some b1] w10) [(Value.int .u32 (uw32 u8)), (Value.int .u32 (uw32 (bshr .u64 u8 32)))] [(uw32 u8), (uw32 (bshr .u64 u8 32))] := (Els.cons (a := [(Value.int .u32 (uw32 u8))]) rfl (Els.cons (a := [(Value.int .u32 (uw32 (bshr .u64 u8 32)))]) rfl Els.nil))
  refine Rl.op (OpY.litRow (r := (rInt .u32)) (vs := [(Value.int .u32 (uw32 u8)), (Value.int .u32 (uw32 (bshr .u64 u8 32)))]) (css := [[(Value.int .u32 (uw32 u8))], [(Value.int .u32 (uw32 (bshr .u64 u8 32)))]]) (xs := [(uw32 u8), (uw32 (bshr .u64 u8 32))]) Tryd.underlying22 ti47 (Nat.le_of_ble_eq_true rfl) rfl rfl ⟨rfl, rfl, ⟨rfl, rfl, trivial⟩⟩ (Nat.le_of_ble_eq_true rfl) hE10 rfl hL10 ?_)
  intro b10 w11 hc11 hL11 hS10
  have K11 := ks w hS10
  obtain ⟨r10, q10, h⟩ := bind_some h
  have f10 := (hE10.mono (K11 None))
  refine Rl.op (OpY.call en48 rfl rfl (bnormal_w N (decide ((n : Int) < 0)) [(uw32 u8), (uw32 (bshr .u64 u8 32))] (osv (some b10) 0 2 2) _ Any (own_row_any (pre := []) (o := 0) (n := 2) (cap := 2) (hL11.at 0 rfl rfl) f10 vw_any rfl rfl rfl hc11) r10 q10) ?_)
  rintro _ w12 hE11 ⟨v10, rfl, k10, -⟩
  replace k10 := k10.mono (Hv.freshO (S := None) hL11 [])
  have hL12 := hL11.ext hE11
  refine Rl.op0 (OpY.store (vs := [(Value.bool r10.Negative), v10]) ti24 rfl rfl rfl rfl (ones_cons rfl (ones_cons k10.one ones_nil)) hL12 1 rfl rfl (Nat.le_of_ble_eq_true rfl) ?_)
  intro w13 (hL13 : Go.X.Loc [] [] w w13 [some b10, some b1] [Cont.cells ([] ++ ([(Value.int .u32 (uw32 u8)), (Value.int .u32 (uw32 (bshr .u64 u8 32)))] ++ [])), Cont.cells [(Value.bool r10.Negative), v10]]) hS11
  have K12 := ks w hS11
  refine Rl.nil (Swp.ret ?_)
  obtain rfl := Option.some.inj h
  refine ⟨[(Value.agg #[(Value.bool r10.Negative), v10])], ⟨⟨⟨b1, 0, none⟩, rfl, res_boxA Tryd.underlying24 rfl ti24 (hL13.at 1 rfl rfl) rfl⟩, trivial⟩, ⟨_, rfl, hL13.done, ?_⟩⟩
  have f11 := (k10.mono (K12 None))
  exact ⟨v10, rfl, (f11.mono Hv.out), trivial⟩
theorem bNormal_w (N : Nat) (x : Big) (x_v : Value) (w : World) (S : Nat → Prop) (x_h : Rs (rInt .u32) (Hv w.heap.size S [] w) x_v x.Digits) (r : Big) (h : bNormal N x = some r) :
  Calls Tryd.prog 39 #[(Value.agg #[(Value.bool x.Negative), x_v])] w (Ret w (fun v w' => ∃ (v0_0 : Value), (Value.agg #[(Value.bool r.Negative), v0_0]) = v ∧ Rs (rInt .u32) (Hv w.heap.size None [] w') v0_0 r.Digits ∧ True)) := by
 unfold bNormal at h
 have hL : Go.X.Loc [] [] w w [] [] := Go.X.Loc.begin0 w
 refine calls_of (l := [(Value.agg #[(Value.bool x.Negative), x_v])]) (rl := [.cell 2 24]) (n := 8) Tryd.func39 rfl rfl rfl (Nat.le_of_ble_eq_true rfl) ?_
 refine Swp.seq (Swp.region rfl (Rl.op (OpY.box (cs := [(Value.bool x.Negative), x_v]) rfl rfl hL ?_)))
 intro b1 w2 hL3 hS5
 have K4 := ks w hS5
 refine Rl.op (OpY.alloc (cs := [(Value.bool false), (Value.slice none 0 0)]) ti24 rfl hL3 ?_)
 intro b6 w7 hL8 hS10
 have K9 := ks w hS10
 refine Rl.nil (Swp.seq (Swp.region rfl (Rl.op (OpY.fieldAddr (q := 0) Tryd.underlying24 rfl ti4 rfl rfl rfl ?_))))
 refine Rl.op (OpY.ldBox1 (v := (Value.bool x.Negative)) Tryd.underlying4 rfl rfl (hL8.at 1 rfl rfl) rfl ?_)
 refine Rl.op (OpY.fieldAddr (q := 1) Tryd.underlying24 rfl ti22 rfl rfl rfl ?_)
 refine Rl.op (OpY.ldBox1 (v := x_v) Tryd.underlying22 rfl rfl (hL8.at 1 rfl rfl) rfl ?_)
 obtain ⟨r10, q10, h⟩ := bind_some h
 have f10 := ((x_h.mono (K4 S)).mono (K9 S))
 refine Rl.op (OpY.call en48 rfl rfl (bnormal_w N x.Negative x.Digits x_v _ Any (f10.mono vw_any) r10 q10) ?_)
 rintro _ w10 hE10 ⟨v10, rfl, k10, -⟩
 replace k10 := k10.mono (Hv.freshO (S := None) hL8 [])
 have hL10 := hL8.ext hE10
 refine Rl.op0 (OpY.store (vs := [(Value.bool r10.Negative), v10]) ti24 rfl rfl rfl rfl (ones_cons rfl (ones_cons k10.one ones_nil)) hL10 0 rfl rfl (Nat.le_of_ble_eq_true rfl) ?_)
 intro w11 (hL11 : Go.X.Loc [] [] w w11 [some b6, some b1] [Cont.cells [(Value.bool r10.Negative), v10], Cont.cells [(Value.bool x.Negative), x_v]]) hS11
 have K10 := ks w hS11
 refine Rl.nil (Swp.ret ?_)
 obtain rfl := Option.some.inj h
 refine ⟨[(Value.agg #[(Value.bool r10.Negative), v10])], ⟨⟨⟨b6, 0, none⟩, rfl, res_boxA Tryd.underlying24 rfl ti24 (hL11.at 0 rfl rfl) rfl⟩, trivial⟩, ⟨_, rfl, hL11.done, ?_⟩⟩
 have f11 := (k10.mono (K10 None))
 exact ⟨v10, rfl, (f11.mono Hv.out), trivial⟩
theorem bCompare_w (N : Nat) (a : Big) (b : Big) (a_v : Value) (b_v : Value) (w : World) (S : Nat → Prop) (a_h : Rs (rInt .u32) (Hv w.heap.size S [] w) a_v a.Digits) (b_h : Rs (rInt .u32) (Hv w.heap.size S [] w) b_v b.Digits) (r : Int) (h : bCompare N a b = some r) :
  Calls Tryd.prog 36 #[(Value.agg #[(Value.bool a.Negative), a_v]), (Value.agg #[(Value.bool b.Negative), b_v])] w (Ret w (fun v w' => (Value.int .i64 r) = v ∧ True)) := by
 unfold bCompare at h
 have hL : Go.X.Loc [] [] w w [] [] := Go.X.Loc.begin0 w
 refine calls_of (l := [(Value.agg #[(Value.bool a.Negative), a_v]), (Value.agg #[(Value.bool b.Negative), b_v])]) (rl := [.tmp 4]) (n := 38) Tryd.func36 rfl rfl rfl (Nat.le_of_ble_eq_true rfl) ?_
 refine Swp.seq (Swp.region rfl (Rl.op (OpY.box (cs := [(Value.bool a.Negative), a_v]) rfl rfl hL ?_)))
 intro b1 w2 hL3 hS5
 have K4 := ks w hS5
 refine Rl.op (OpY.box (cs := [(Value.bool b.Negative), b_v]) rfl rfl hL3 ?_)
 intro b6 w7 hL8 hS10
 have K9 := ks w hS10
 refine Rl.op (OpY.assign (v := (Value.int .i64 0)) rfl ?_)
 refine Rl.nil (Swp.seq ?_)
 obtain ⟨r10, q10, h⟩ := bind_some h
 refine Swp.drawL 3 [] [] (fun W1 => [.det (Value.agg #[(Value.bool a.Negative), a_v]), .rel (fun v Z w' => ∃ v10, (Value.agg #[(Value.bool r10.Negative), v10]) = v ∧ Rs (rInt .u32) (Zv W1 w.heap.size None [some b6, some b1] Z w') v10 r10.Digits ∧ True) (fun _ => []), .det (Value.agg #[(Value.bool b.Negative), b_v])]) mixed rfl rfl rfl (fun _ => rfl) (fun _ => rfl) ?_ ?_
 ·
  intro W1 _
  exact ⟨fun v Z Z' w w' hΦ hz _ _ hs => by obtain ⟨v10, rfl, k10, -⟩ := hΦ; exact ⟨v10, rfl, (k10.mono (Zv.stay hz hs)), trivial⟩, trivial⟩
 ·
  intro w10 hE10
  have hL10 := hL8.ext hE10
  have K10 := ke hL8 hE10
  refine DrH.de (fun _ hE11 => GOp.op (OpY.ldBoxA (vs := [(Value.bool a.Negative), a_v]) Tryd.underlying24 rfl ti24 rfl ((hL10.ext hE11).at 1 rfl rfl) rfl rfl (er rfl))) ?_
  refine DrH.rel ?_ ?_
  ·
   rintro w12 Z15 hE12 hZ11 ⟨-⟩
   have K11 := ke hL10 hE12
   refine GOp.op (OpY.call en39 rfl rfl (bNormal_w N a a_v _ Any (((((a_h.mono (K4 S)).mono (K9 S)).mono (K10 S)).mono (K11 S)).mono vw_any) r10 q10) ?_)
   rintro _ w13 hE13 ⟨v10, rfl, k10, -⟩
   exact Made.ext hE13 hZ11 NewOwn.nil (fun _ h => h) ⟨v10, rfl, (k10.mono Zv.made), trivial⟩
  intro z1
  refine DrH.de (fun _ hE14 => GOp.op (OpY.ldBoxA (vs := [(Value.bool b.Negative), b_v]) Tryd.underlying24 rfl ti24 rfl ((hL10.ext hE14).at 0 rfl rfl) rfl rfl (er rfl))) ?_
  refine DrH.fin0 ?_
  rintro w15 Z17 hE15 hZ13 ⟨⟨⟨v10, rfl, k10, -⟩, hB1⟩, -⟩ ap10
  have hB10 : ∀ b, some b ∈ ([] : List (Option Nat)) → w10.heap.size ≤ b ∧ ¬ Z17 b := by
   intro b hb; cases hb
  replace k10 := k10.mono (Zv.fin hL10 hZ13 hB10)
  have hL13 := hL10.ext hE15
  have K12 := ke hL10 hE15
  obtain ⟨r11, q11, h⟩ := bind_some h
  have f10 := ((((b_h.mono (K4 S)).mono (K9 S)).mono (K10 S)).mono (K12 S))
  refine Rl.op (OpY.call en39 rfl rfl (bNormal_w N b b_v _ Any (f10.mono vw_any) r11 q11) ?_)
  rintro _ w16 hE16 ⟨v11, rfl, k11, -⟩
  replace k11 := k11.mono (Hv.freshO (S := None) hL13 [])
  have hL14 := hL13.ext hE16
  have K13 := ke hL13 hE16
  have f11 := (k10.mono (K13 None))
  refine Rl.op0 (OpY.store (vs := [(Value.bool r10.Negative), v10]) ti24 rfl rfl rfl rfl (ones_cons rfl (ones_cons f11.one ones_nil)) hL14 1 rfl rfl (Nat.le_of_ble_eq_true rfl) ?_)
  intro w17 (hL15 : Go.X.Loc [] [] w w17 [some b6, some b1] [Cont.cells [(Value.bool b.Negative), b_v], Cont.cells [(Value.bool r10.Negative), v10]]) hS11
  have K14 := ks w hS11
  have f12 := (k11.mono (K14 None))
  refine Rl.op0 (OpY.store (vs := [(Value.bool r11.Negative), v11]) ti24 rfl rfl rfl rfl (ones_cons rfl (ones_cons f12.one ones_nil)) hL15 0 rfl rfl (Nat.le_of_ble_eq_true rfl) ?_)
  intro w18 (hL16 : Go.X.Loc [] [] w w18 [some b6, some b1] [Cont.cells [(Value.bool r11.Negative), v11], Cont.cells [(Value.bool r10.Negative), v10]]) hS12
  have K15 := ks w hS12
  refine Rl.nil (Swp.seq (Swp.block (Swp.seq ?_)))
  obtain ⟨s10, h, g10⟩ := bind_some h
  refine Swp.join (fun e w' => ∃ (x10 : Bool) (u : Env), x10 = s10 ∧ e = upds [(2, (Value.pointer (some ⟨b1, 0, none⟩))), (3, (Value.pointer (some ⟨b6, 0, none⟩))), (9, (Value.bool x10))] u ∧ Go.X.Loc [] [] w w' [some b1, some b6] [Cont.cells [(Value.bool r10.Negative), v10], Cont.cells [(Value.bool r11.Negative), v11]] ∧ Keep w.heap.size [some b6, some b1] w18 [some b1, some b6] w' ∧ True) ?_ ?_
  ·
   refine Swp.region rfl (Rl.op (OpY.fieldAddr (q := 0) Tryd.underlying24 rfl ti4 rfl rfl rfl ?_))
   refine Rl.op (OpY.ldBox1 (v := (Value.bool r10.Negative)) Tryd.underlying4 rfl rfl (hL16.at 1 rfl rfl) rfl ?_)
   refine Rl.op (OpY.fieldAddr (q := 0) Tryd.underlying24 rfl ti4 rfl rfl rfl ?_)
   refine Rl.op (OpY.ldBox1 (v := (Value.bool r11.Negative)) Tryd.underlying4 rfl rfl (hL16.at 0 rfl rfl) rfl ?_)
   refine Rl.op (OpY.neqBool (x := r10.Negative) (y := r11.Negative) Tryd.underlying4 rfl rfl ?_)
   refine Rl.op (OpY.move (v := (Value.bool (!(r10.Negative == r11.Negative)))) rfl ?_)
   by_cases hc10 : (!(r10.Negative == r11.Negative)) = true
   ·
    replace h := ite_t hc10 h
    refine Rl.yes rfl rfl hc10 (OpY.fieldAddr (q := 0) Tryd.underlying24 rfl ti4 rfl rfl rfl ?_)
    refine Rl.yes rfl rfl hc10 (OpY.ldBox1 (v := (Value.bool r10.Negative)) Tryd.underlying4 rfl rfl (hL16.at 1 rfl rfl) rfl ?_)
    refine Rl.op (OpY.pick_t (t := (!(r10.Negative == r11.Negative))) (v := (Value.bool r10.Negative)) rfl hc10 rfl ?_)
    refine Rl.op (OpY.assign (v := (Value.bool r10.Negative)) rfl ?_)
    refine Rl.nil ?_
    have hp10 := hL16.pick [1, 0] rfl rfl rfl
    have hL17 : Go.X.Loc [] [] w w18 [some b1, some b6] [Cont.cells [(Value.bool r10.Negative), v10], Cont.cells [(Value.bool r11.Negative), v11]] := hp10.1
    have K16 := ks w hp10.2
    obtain rfl := Option.some.inj h
    refine Swp.pop_back ?_
    exact ⟨r10.Negative, _, rfl, (upds_sym ⟨rfl, rfl, rfl, trivial⟩), hL17, K16, trivial⟩
   ·
    replace h := ite_f hc10 h
    refine Rl.no rfl rfl (eq_false_of_ne_true hc10) ?_
    refine Rl.no rfl rfl (eq_false_of_ne_true hc10) ?_
    refine Rl.op (OpY.pick_f (t := (!(r10.Negative == r11.Negative))) (v := (Value.bool false)) rfl (eq_false_of_ne_true hc10) rfl ?_)
    refine Rl.op (OpY.assign (v := (Value.bool false)) rfl ?_)
    refine Rl.nil ?_
    have hp11 := hL16.pick [1, 0] rfl rfl rfl
    have hL18 : Go.X.Loc [] [] w w18 [some b1, some b6] [Cont.cells [(Value.bool r10.Negative), v10], Cont.cells [(Value.bool r11.Negative), v11]] := hp11.1
    have K17 := ks w hp11.2
    obtain rfl := Option.some.inj h
    refine Swp.pop_back ?_
    exact ⟨false, _, rfl, (upds_sym ⟨rfl, rfl, rfl, trivial⟩), hL18, K17, trivial⟩
  ·
   rintro _ w19 ⟨x10, u, rfl, rfl, hL19, K18, -⟩
   replace h := g10
   try dsimp only at h
   refine Swp.cond_b x10 rfl (fun hc11 => ?_) (fun hc11 => ?_)
   ·
    replace h := ite_t hc11 h
    refine Swp.seq (Swp.region rfl (Rl.op (OpY.assign (v := (Value.int .i64 (-1))) rfl ?_)))
    refine Rl.nil (Swp.ret ?_)
    obtain rfl := Option.some.inj h
    refine ⟨[(Value.int .i64 (-1))], ⟨rfl, trivial⟩, ⟨_, rfl, hL19.done, ?_⟩⟩
    exact ⟨rfl, trivial⟩
   ·
    replace h := ite_f hc11 h
    refine Swp.seq (Swp.region rfl (Rl.op (OpY.fieldAddr (q := 0) Tryd.underlying24 rfl ti4 rfl rfl rfl ?_)))
    refine Rl.op (OpY.ldBox1 (v := (Value.bool r10.Negative)) Tryd.underlying4 rfl rfl (hL19.at 0 rfl rfl) rfl ?_)
    refine Rl.op (OpY.fieldAddr (q := 0) Tryd.underlying24 rfl ti4 rfl rfl rfl ?_)
    refine Rl.op (OpY.ldBox1 (v := (Value.bool r11.Negative)) Tryd.underlying4 rfl rfl (hL19.at 1 rfl rfl) rfl ?_)
    refine Rl.op (OpY.neqBool (x := r10.Negative) (y := r11.Negative) Tryd.underlying4 rfl rfl ?_)
    refine Rl.op (OpY.assign (v := (Value.bool (!(r10.Negative == r11.Negative)))) rfl ?_)
    refine Rl.nil ?_
    refine Swp.cond_b (!(r10.Negative == r11.Negative)) rfl (fun hc12 => ?_) (fun hc12 => ?_)
    ·
     replace h := ite_t hc12 h
     refine Swp.seq (Swp.region rfl (Rl.op (OpY.assign (v := (Value.int .i64 1)) rfl ?_)))
     refine Rl.nil (Swp.ret ?_)
     obtain rfl := Option.some.inj h
     refine ⟨[(Value.int .i64 1)], ⟨rfl, trivial⟩, ⟨_, rfl, hL19.done, ?_⟩⟩
     exact ⟨rfl, trivial⟩
    ·
     replace h := ite_f hc12 h
     refine Swp.seq (Swp.region rfl (Rl.op (OpY.fieldAddr (q := 0) Tryd.underlying24 rfl ti4 rfl rfl rfl ?_)))
     refine Rl.op (OpY.ldBox1 (v := (Value.bool r10.Negative)) Tryd.underlying4 rfl rfl (hL19.at 0 rfl rfl) rfl ?_)
     refine Rl.op (OpY.assign (v := (Value.bool r10.Negative)) rfl ?_)
     refine Rl.nil ?_
     refine Swp.cond_b r10.Negative rfl (fun hc13 => ?_) (fun hc13 => ?_)
     ·
      replace h := ite_t hc13 h
      refine Swp.seq (Swp.region rfl (Rl.op (OpY.fieldAddr (q := 1) Tryd.underlying24 rfl ti22 rfl rfl rfl ?_)))
      refine Rl.op (OpY.ldBox1 (v := v11) Tryd.underlying22 rfl rfl (hL19.at 1 rfl rfl) rfl ?_)
      refine Rl.op (OpY.fieldAddr (q := 1) Tryd.underlying24 rfl ti22 rfl rfl rfl ?_)
      refine Rl.op (OpY.ldBox1 (v := v10) Tryd.underlying22 rfl rfl (hL19.at 0 rfl rfl) rfl ?_)
      obtain ⟨r12, q12, h⟩ := bind_some h
      have f13 := ((f12.mono (K15 None)).mono (K18 None))
      have f14 := (((f11.mono (K14 None)).mono (K15 None)).mono (K18 None))
      refine Rl.op (OpY.call en64 rfl rfl (bcompare_w N r11.Digits r10.Digits v11 v10 _ Any (f13.mono vw_any) (f14.mono vw_any) r12 q12) ?_)
      rintro _ w20 hE17 ⟨rfl, -⟩
      have hL20 := hL19.ext hE17
      refine Rl.op (OpY.assign (v := (Value.int .i64 r12)) rfl ?_)
      refine Rl.nil (Swp.ret ?_)
      obtain rfl := Option.some.inj h
      refine ⟨[(Value.int .i64 r12)], ⟨rfl, trivial⟩, ⟨_, rfl, hL20.done, ?_⟩⟩
      exact ⟨rfl, trivial⟩
     ·
      replace h := ite_f hc13 h
      refine Swp.skip (Swp.pop_blk (Swp.seq (Swp.region rfl (Rl.op (OpY.fieldAddr (q := 1) Tryd.underlying24 rfl ti22 rfl rfl rfl ?_)))))
      refine Rl.op (OpY.ldBox1 (v := v10) Tryd.underlying22 rfl rfl (hL19.at 0 rfl rfl) rfl ?_)
      refine Rl.op (OpY.fieldAddr (q := 1) Tryd.underlying24 rfl ti22 rfl rfl rfl ?_)
      refine Rl.op (OpY.ldBox1 (v := v11) Tryd.underlying22 rfl rfl (hL19.at 1 rfl rfl) rfl ?_)
      obtain ⟨r13, q13, h⟩ := bind_some h
      have f15 := (((f11.mono (K14 None)).mono (K15 None)).mono (K18 None))
      have f16 := ((f12.mono (K15 None)).mono (K18 None))
      refine Rl.op (OpY.call en64 rfl rfl (bcompare_w N r10.Digits r11.Digits v10 v11 _ Any (f15.mono vw_any) (f16.mono vw_any) r13 q13) ?_)
      rintro _ w21 hE18 ⟨rfl, -⟩
      have hL21 := hL19.ext hE18
      refine Rl.op (OpY.assign (v := (Value.int .i64 r13)) rfl ?_)
      refine Rl.nil (Swp.ret ?_)
      obtain rfl := Option.some.inj h
      refine ⟨[(Value.int .i64 r13)], ⟨rfl, trivial⟩, ⟨_, rfl, hL21.done, ?_⟩⟩
      exact ⟨rfl, trivial⟩
theorem bNeg_w (N : Nat) (x : Big) (x_v : Value) (w : World) (S : Nat → Prop) (x_h : Rs (rInt .u32) (Hv w.heap.size S [] w) x_v x.Digits) (r : Big) (h : bNeg N x = some r) :
  Calls Tryd.prog 41 #[(Value.agg #[(Value.bool x.Negative), x_v])] w (Ret w (fun v w' => ∃ (v0_0 : Value), (Value.agg #[(Value.bool r.Negative), v0_0]) = v ∧ Rs (rInt .u32) (Hv w.heap.size None [] w') v0_0 r.Digits ∧ True)) := by
 unfold bNeg at h
 have hL : Go.X.Loc [] [] w w [] [] := Go.X.Loc.begin0 w
 refine calls_of (l := [(Value.agg #[(Value.bool x.Negative), x_v])]) (rl := [.cell 2 24]) (n := 9) Tryd.func41 rfl rfl rfl (Nat.le_of_ble_eq_true rfl) ?_
 refine Swp.seq (Swp.region rfl (Rl.op (OpY.box (cs := [(Value.bool x.Negative), x_v]) rfl rfl hL ?_)))
 intro b1 w2 hL3 hS5
 have K4 := ks w hS5
 refine Rl.op (OpY.alloc (cs := [(Value.bool false), (Value.slice none 0 0)]) ti24 rfl hL3 ?_)
 intro b6 w7 hL8 hS10
 have K9 := ks w hS10
 refine Rl.nil (Swp.seq (Swp.region rfl (Rl.op (OpY.fieldAddr (q := 0) Tryd.underlying24 rfl ti4 rfl rfl rfl ?_))))
 refine Rl.op (OpY.ldBox1 (v := (Value.bool x.Negative)) Tryd.underlying4 rfl rfl (hL8.at 1 rfl rfl) rfl ?_)
 refine Rl.op (OpY.not (x := x.Negative) rfl ?_)
 refine Rl.op (OpY.fieldAddr (q := 1) Tryd.underlying24 rfl ti22 rfl rfl rfl ?_)
 refine Rl.op (OpY.ldBox1 (v := x_v) Tryd.underlying22 rfl rfl (hL8.at 1 rfl rfl) rfl ?_)
 obtain ⟨r10, q10, h⟩ := bind_some h
 have f10 := ((x_h.mono (K4 S)).mono (K9 S))
 refine Rl.op (OpY.call en48 rfl rfl (bnormal_w N (!x.Negative) x.Digits x_v _ Any (f10.mono vw_any) r10 q10) ?_)
 rintro _ w10 hE10 ⟨v10, rfl, k10, -⟩
 replace k10 := k10.mono (Hv.freshO (S := None) hL8 [])
 have hL10 := hL8.ext hE10
 refine Rl.op0 (OpY.store (vs := [(Value.bool r10.Negative), v10]) ti24 rfl rfl rfl rfl (ones_cons rfl (ones_cons k10.one ones_nil)) hL10 0 rfl rfl (Nat.le_of_ble_eq_true rfl) ?_)
 intro w11 (hL11 : Go.X.Loc [] [] w w11 [some b6, some b1] [Cont.cells [(Value.bool r10.Negative), v10], Cont.cells [(Value.bool x.Negative), x_v]]) hS11
 have K10 := ks w hS11
 refine Rl.nil (Swp.ret ?_)
 obtain rfl := Option.some.inj h
 refine ⟨[(Value.agg #[(Value.bool r10.Negative), v10])], ⟨⟨⟨b6, 0, none⟩, rfl, res_boxA Tryd.underlying24 rfl ti24 (hL11.at 0 rfl rfl) rfl⟩, trivial⟩, ⟨_, rfl, hL11.done, ?_⟩⟩
 have f11 := (k10.mono (K10 None))
 exact ⟨v10, rfl, (f11.mono Hv.out), trivial⟩
theorem bDivFloor_w (N : Nat) (a : Big) (b : Big) (a_v : Value) (b_v : Value) (w : World) (S : Nat → Prop) (a_h : Rs (rInt .u32) (Hv w.heap.size S [] w) a_v a.Digits) (b_h : Rs (rInt .u32) (Hv w.heap.size S [] w) b_v b.Digits) (r : (Big × Big × Bool)) (h : bDivFloor N a b = some r) :
  Calls Tryd.prog 15 #[(Value.agg #[(Value.bool a.Negative), a_v]), (Value.agg #[(Value.bool b.Negative), b_v])] w (Ret w (fun v w' => ∃ (v0_0 : Value) (v1_0 : Value), .tuple #[(Value.agg #[(Value.bool r.1.Negative), v0_0]), (Value.agg #[(Value.bool r.2.1.Negative), v1_0]), (Value.bool r.2.2)] = v ∧ Rs (rInt .u32) (Hv w.heap.size None [] w') v0_0 r.1.Digits ∧ Rs (rInt .u32) (Hv w.heap.size None [] w') v1_0 r.2.1.Digits ∧ True)) := by
 unfold bDivFloor at h
 have hL : Go.X.Loc [] [] w w [] [] := Go.X.Loc.begin0 w
 refine calls_of (l := [(Value.agg #[(Value.bool a.Negative), a_v]), (Value.agg #[(Value.bool b.Negative), b_v])]) (rl := [.cell 4 24, .cell 5 24, .tmp 6]) (n := 54) Tryd.func15 rfl rfl rfl (Nat.le_of_ble_eq_true rfl) ?_
 refine Swp.seq (Swp.region rfl (Rl.op (OpY.box (cs := [(Value.bool a.Negative), a_v]) rfl rfl hL ?_)))
 intro b1 w2 hL3 hS5
 have K4 := ks w hS5
 refine Rl.op (OpY.box (cs := [(Value.bool b.Negative), b_v]) rfl rfl hL3 ?_)
 intro b6 w7 hL8 hS10
 have K9 := ks w hS10
 refine Rl.op (OpY.alloc (cs := [(Value.bool false), (Value.slice none 0 0)]) ti24 rfl hL8 ?_)
 intro b10 w10 hL10 hS11
 have K10 := ks w hS11
 refine Rl.op (OpY.alloc (cs := [(Value.bool false), (Value.slice none 0 0)]) ti24 rfl hL10 ?_)
 intro b11 w11 hL11 hS12
 have K11 := ks w hS12
 refine Rl.op (OpY.assign (v := (Value.bool false)) rfl ?_)
 refine Rl.nil (Swp.seq ?_)
 obtain ⟨r10, q10, h⟩ := bind_some h
 refine Swp.drawL 3 [] [] (fun W1 => [.det (Value.agg #[(Value.bool a.Negative), a_v]), .rel (fun v Z w' => ∃ v10, (Value.agg #[(Value.bool r10.Negative), v10]) = v ∧ Rs (rInt .u32) (Zv W1 w.heap.size None [some b11, some b10, some b6, some b1] Z w') v10 r10.Digits ∧ True) (fun _ => []), .det (Value.agg #[(Value.bool b.Negative), b_v])]) mixed rfl rfl rfl (fun _ => rfl) (fun _ => rfl) ?_ ?_
 ·
  intro W1 _
  exact ⟨fun v Z Z' w w' hΦ hz _ _ hs => by obtain ⟨v10, rfl, k10, -⟩ := hΦ; exact ⟨v10, rfl, (k10.mono (Zv.stay hz hs)), trivial⟩, trivial⟩
 ·
  intro w12 hE10
  have hL12 := hL11.ext hE10
  have K12 := ke hL11 hE10
  refine DrH.de (fun _ hE11 => GOp.op (OpY.ldBoxA (vs := [(Value.bool a.Negative), a_v]) Tryd.underlying24 rfl ti24 rfl ((hL12.ext hE11).at 3 rfl rfl) rfl rfl (er rfl))) ?_
  refine DrH.rel ?_ ?_
  ·
   rintro w14 Z15 hE12 hZ11 ⟨-⟩
   have K13 := ke hL12 hE12
   refine GOp.op (OpY.call en39 rfl rfl (bNormal_w N a a_v _ Any (((((((a_h.mono (K4 S)).mono (K9 S)).mono (K10 S)).mono (K11 S)).mono (K12 S)).mono (K13 S)).mono vw_any) r10 q10) ?_)
   rintro _ w15 hE13 ⟨v10, rfl, k10, -⟩
   exact Made.ext hE13 hZ11 NewOwn.nil (fun _ h => h) ⟨v10, rfl, (k10.mono Zv.made), trivial⟩
  intro z1
  refine DrH.de (fun _ hE14 => GOp.op (OpY.ldBoxA (vs := [(Value.bool b.Negative), b_v]) Tryd.underlying24 rfl ti24 rfl ((hL12.ext hE14).at 2 rfl rfl) rfl rfl (er rfl))) ?_
  refine DrH.fin0 ?_
  rintro w17 Z17 hE15 hZ13 ⟨⟨⟨v10, rfl, k10, -⟩, hB1⟩, -⟩ ap10
  have hB10 : ∀ b, some b ∈ ([] : List (Option Nat)) → w12.heap.size ≤ b ∧ ¬ Z17 b := by
   intro b hb; cases hb
  replace k10 := k10.mono (Zv.fin hL12 hZ13 hB10)
  have hL15 := hL12.ext hE15
  have K14 := ke hL12 hE15
  obtain ⟨r11, q11, h⟩ := bind_some h
  have f10 := ((((((b_h.mono (K4 S)).mono (K9 S)).mono (K10 S)).mono (K11 S)).mono (K12 S)).mono (K14 S))
  refine Rl.op (OpY.call en39 rfl rfl (bNormal_w N b b_v _ Any (f10.mono vw_any) r11 q11) ?_)
  rintro _ w18 hE16 ⟨v11, rfl, k11, -⟩
  replace k11 := k11.mono (Hv.freshO (S := None) hL15 [])
  have hL16 := hL15.ext hE16
  have K15 := ke hL15 hE16
  have f11 := (k10.mono (K15 None))
  refine Rl.op0 (OpY.store (vs := [(Value.bool r10.Negative), v10]) ti24 rfl rfl rfl rfl (ones_cons rfl (ones_cons f11.one ones_nil)) hL16 3 rfl rfl (Nat.le_of_ble_eq_true rfl) ?_)
  intro w19 (hL17 : Go.X.Loc [] [] w w19 [some b11, some b10, some b6, some b1] [Cont.cells [(Value.bool false), (Value.slice none 0 0)], Cont.cells [(Value.bool false), (Value.slice none 0 0)], Cont.cells [(Value.bool b.Negative), b_v], Cont.cells [(Value.bool r10.Negative), v10]]) hS13
  have K16 := ks w hS13
  have f12 := (k11.mono (K16 None))
  refine Rl.op0 (OpY.store (vs := [(Value.bool r11.Negative), v11]) ti24 rfl rfl rfl rfl (ones_cons rfl (ones_cons f12.one ones_nil)) hL17 2 rfl rfl (Nat.le_of_ble_eq_true rfl) ?_)
  intro w20 (hL18 : Go.X.Loc [] [] w w20 [some b11, some b10, some b6, some b1] [Cont.cells [(Value.bool false), (Value.slice none 0 0)], Cont.cells [(Value.bool false), (Value.slice none 0 0)], Cont.cells [(Value.bool r11.Negative), v11], Cont.cells [(Value.bool r10.Negative), v10]]) hS14
  have K17 := ks w hS14
  refine Rl.nil (Swp.seq (Swp.seq (Swp.region rfl (Rl.op (OpY.fieldAddr (q := 1) Tryd.underlying24 rfl ti22 rfl rfl rfl ?_)))))
  refine Rl.op (OpY.ldBox1 (v := v11) Tryd.underlying22 rfl rfl (hL18.at 2 rfl rfl) rfl ?_)
  have f13 := (f12.mono (K17 None))
  refine Rl.op (OpY.lenRo (v := v11) Tryd.underlying22 rfl f13 ?_)
  refine Rl.op (OpY.eql (x := (List.length r11.Digits : Int)) (y := 0) (((List.length r11.Digits : Int) : Int) = 0) rfl rfl Iff.rfl ?_)
  refine Rl.nil ?_
  refine Swp.cond_d (((List.length r11.Digits : Int) : Int) = 0) rfl (fun hc10 => ?_) (fun hc10 => ?_)
  ·
   replace h := ite_t hc10 h
   refine Swp.seq (Swp.region rfl (Rl.op (OpY.build (zc := [(Value.bool false), (Value.slice none 0 0)]) (cs := [(Value.bool false), (Value.slice none 0 0)]) (is := []) (vs := []) (css := []) pl24 ti24 rfl rfl rfl trivial rfl ?_)))
   refine Rl.op (OpY.build (zc := [(Value.bool false), (Value.slice none 0 0)]) (cs := [(Value.bool false), (Value.slice none 0 0)]) (is := []) (vs := []) (css := []) pl24 ti24 rfl rfl rfl trivial rfl ?_)
   refine Rl.op0 (OpY.store (vs := [(Value.bool false), (Value.slice none 0 0)]) ti24 rfl rfl rfl rfl (ones_cons rfl (ones_cons rfl ones_nil)) hL18 1 rfl rfl (Nat.le_of_ble_eq_true rfl) ?_)
   intro w21 (hL19 : Go.X.Loc [] [] w w21 [some b11, some b10, some b6, some b1] [Cont.cells [(Value.bool false), (Value.slice none 0 0)], Cont.cells [(Value.bool false), (Value.slice none 0 0)], Cont.cells [(Value.bool r11.Negative), v11], Cont.cells [(Value.bool r10.Negative), v10]]) hS15
   refine Rl.op0 (OpY.store (vs := [(Value.bool false), (Value.slice none 0 0)]) ti24 rfl rfl rfl rfl (ones_cons rfl (ones_cons rfl ones_nil)) hL19 0 rfl rfl (Nat.le_of_ble_eq_true rfl) ?_)
   intro w22 (hL20 : Go.X.Loc [] [] w w22 [some b11, some b10, some b6, some b1] [Cont.cells [(Value.bool false), (Value.slice none 0 0)], Cont.cells [(Value.bool false), (Value.slice none 0 0)], Cont.cells [(Value.bool r11.Negative), v11], Cont.cells [(Value.bool r10.Negative), v10]]) hS16
   refine Rl.op (OpY.assign (v := (Value.bool false)) rfl ?_)
   refine Rl.nil (Swp.ret ?_)
   obtain rfl := Option.some.inj h
   refine ⟨[(Value.agg #[(Value.bool false), (Value.slice none 0 0)]), (Value.agg #[(Value.bool false), (Value.slice none 0 0)]), (Value.bool false)], ⟨⟨⟨b10, 0, none⟩, rfl, res_boxA Tryd.underlying24 rfl ti24 (hL20.at 1 rfl rfl) rfl⟩, ⟨⟨⟨b11, 0, none⟩, rfl, res_boxA Tryd.underlying24 rfl ti24 (hL20.at 0 rfl rfl) rfl⟩, ⟨rfl, trivial⟩⟩⟩, ⟨_, rfl, hL20.done, ?_⟩⟩
   exact ⟨(Value.slice none 0 0), (Value.slice none 0 0), rfl, Rs.nil, Rs.nil, trivial⟩
  ·
   replace h := ite_f hc10 h
   refine Swp.skip (Swp.seq (Swp.region rfl (Rl.op (OpY.fieldAddr (q := 1) Tryd.underlying24 rfl ti22 rfl rfl rfl ?_))))
   refine Rl.op (OpY.ldBox1 (v := v10) Tryd.underlying22 rfl rfl (hL18.at 3 rfl rfl) rfl ?_)
   refine Rl.op (OpY.fieldAddr (q := 1) Tryd.underlying24 rfl ti22 rfl rfl rfl ?_)
   refine Rl.op (OpY.ldBox1 (v := v11) Tryd.underlying22 rfl rfl (hL18.at 2 rfl rfl) rfl ?_)
   obtain ⟨r12, q12, h⟩ := bind_some h
   have f14 := ((f11.mono (K16 None)).mono (K17 None))
   refine Rl.op (OpY.call en45 rfl rfl (bdivide_w N r10.Digits r11.Digits v10 v11 _ Any (f14.mono vw_any) (f13.mono vw_any) r12 q12) ?_)
   rintro _ w23 hE17 ⟨ob10, cap10, cs10, sp10, ob11, cap11, cs11, sp11, rfl, hN10, hE18, hc11, hE19, hc12, -⟩
   replace hE18 := hE18.mono (Hv.freshO (S := None) hL18 [ob10, ob11])
   replace hE19 := hE19.mono (Hv.freshO (S := None) hL18 [ob10, ob11])
   have hp10 := hL18.adoptL hE17 hN10
   have hL21 := hp10.1
   have K18 := ks w hp10.2
   refine Rl.op (OpY.move (v := (Value.tuple #[(osv ob10 0 (List.length r12.1) cap10), (osv ob11 0 (List.length r12.2) cap11)])) rfl ?_)
   refine Rl.op (OpY.extract (vs := [(osv ob10 0 (List.length r12.1) cap10), (osv ob11 0 (List.length r12.2) cap11)]) (v := (osv ob10 0 (List.length r12.1) cap10)) rfl rfl ?_)
   refine Rl.op (OpY.extract (vs := [(osv ob10 0 (List.length r12.1) cap10), (osv ob11 0 (List.length r12.2) cap11)]) (v := (osv ob11 0 (List.length r12.2) cap11)) rfl rfl ?_)
   refine Rl.op (OpY.assign (v := (osv ob10 0 (List.length r12.1) cap10)) rfl ?_)
   refine Rl.op (OpY.assign (v := (osv ob11 0 (List.length r12.2) cap11)) rfl ?_)
   refine Rl.nil (Swp.seq (Swp.seq (Swp.region rfl (Rl.op (OpY.fieldAddr (q := 0) Tryd.underlying24 rfl ti4 rfl rfl rfl ?_)))))
   refine Rl.op (OpY.ldBox1 (v := (Value.bool r10.Negative)) Tryd.underlying4 rfl rfl (hL21.at 5 rfl rfl) rfl ?_)
   refine Rl.op (OpY.fieldAddr (q := 0) Tryd.underlying24 rfl ti4 rfl rfl rfl ?_)
   refine Rl.op (OpY.ldBox1 (v := (Value.bool r11.Negative)) Tryd.underlying4 rfl rfl (hL21.at 4 rfl rfl) rfl ?_)
   refine Rl.op (OpY.neqBool (x := r10.Negative) (y := r11.Negative) Tryd.underlying4 rfl rfl ?_)
   refine Rl.nil ?_
   refine Swp.cond_b (!(r10.Negative == r11.Negative)) rfl (fun hc13 => ?_) (fun hc13 => ?_)
   ·
    replace h := ite_t hc13 h
    refine Swp.seq (Swp.seq (Swp.region rfl (Rl.op (OpY.move (v := (osv ob11 0 (List.length r12.2) cap11)) rfl ?_))))
    refine Rl.op (OpY.lenRow (pre := []) (r := (rInt .u32)) (xs := r12.2) Tryd.underlying22 rfl (hL21.at 1 rfl rfl) hE19 rfl rfl ?_)
    refine Rl.op (OpY.gtr (x := (List.length r12.2 : Int)) (y := 0) (((List.length r12.2 : Int) : Int) > 0) rfl rfl Iff.rfl ?_)
    refine Rl.nil ?_
    obtain ⟨s10, h, g10⟩ := bind_some h
    refine Swp.join (fun e w' => ∃ (q13 : (List Int)) (x10 : (List Int)) (ob12 : Option Nat) (cap12 : Nat) (sp12 : List Value) (cs12 : List Value) (ln10 : Nat) (ob13 : Option Nat) (cap13 : Nat) (sp13 : List Value) (cs13 : List Value) (ln11 : Nat) (u : Env), (q13, x10) = s10 ∧ e = upds [(3, (Value.pointer (some ⟨b6, 0, none⟩))), (4, (Value.pointer (some ⟨b10, 0, none⟩))), (5, (Value.pointer (some ⟨b11, 0, none⟩))), (7, (osv ob12 0 ln10 cap12)), (8, (osv ob13 0 ln11 cap13))] u ∧ Go.X.Loc [] [] w w' [some b6, some b10, some b11, ob12, ob13] [Cont.cells [(Value.bool r11.Negative), v11], Cont.cells [(Value.bool false), (Value.slice none 0 0)], Cont.cells [(Value.bool false), (Value.slice none 0 0)], Cont.cells ([] ++ (cs12 ++ sp12)), Cont.cells ([] ++ (cs13 ++ sp13))] ∧ Keep w.heap.size [ob10, ob11, some b11, some b10, some b6, some b1] w23 [some b6, some b10, some b11, ob12, ob13] w' ∧ Els (rInt .u32) (Hv w.heap.size None [some b6, some b10, some b11, ob12, ob13] w') cs12 q13 ∧ ln10 = List.length q13 ∧ (cs12 ++ sp12).length = cap12 * (rInt .u32).sz ∧ Els (rInt .u32) (Hv w.heap.size None [some b6, some b10, some b11, ob12, ob13] w') cs13 x10 ∧ ln11 = List.length x10 ∧ (cs13 ++ sp13).length = cap13 * (rInt .u32).sz ∧ True) ?_ ?_
    ·
     refine Swp.cond_d (((List.length r12.2 : Int) : Int) > 0) rfl (fun hc14 => ?_) (fun hc14 => ?_)
     ·
      replace h := ite_t hc14 h
      refine Swp.seq (Swp.region rfl (Rl.op (OpY.move (v := (osv ob10 0 (List.length r12.1) cap10)) rfl ?_)))
      have hE20 : Els (rInt .u32) (Hv w.heap.size None [ob10, ob11, some b11, some b10, some b6, some b1] w23) [(Value.int .u32 1)] [1] := (Els.cons (a := [(Value.int .u32 1)]) rfl Els.nil)
      refine Rl.op (OpY.litRow (r := (rInt .u32)) (vs := [(Value.int .u32 1)]) (css := [[(Value.int .u32 1)]]) (xs := [1]) Tryd.underlying22 ti47 (Nat.le_of_ble_eq_true rfl) rfl rfl ⟨rfl, rfl, trivial⟩ (Nat.le_of_ble_eq_true rfl) hE20 rfl hL21 ?_)
      intro b12 w24 hc15 hL22 hS17
      have K19 := ks w hS17
      obtain ⟨r13, q14, h⟩ := bind_some h
      have f15 := (hE18.mono (K19 None))
      have f16 := (hE20.mono (K19 None))
      refine Rl.op (OpY.call en46 rfl rfl (bplus_w N r12.1 [1] (osv ob10 0 (List.length r12.1) cap10) (osv (some b12) 0 1 1) _ Any (own_row_any (pre := []) (o := 0) (n := (List.length r12.1)) (cap := cap10) (hL22.at 1 rfl rfl) f15 vw_any rfl rfl rfl hc11) (own_row_any (pre := []) (o := 0) (n := 1) (cap := 1) (hL22.at 0 rfl rfl) f16 vw_any rfl rfl rfl hc15) r13 q14) ?_)
      rintro _ w25 hE21 ⟨ob14, cap14, cs14, sp14, rfl, hN11, hE22, hc16, -⟩
      replace hE22 := hE22.mono (Hv.freshO (S := None) hL22 [ob14])
      have hp11 := hL22.adoptL hE21 hN11
      have hL23 := hp11.1
      have K20 := ks w hp11.2
      refine Rl.op (OpY.assign (v := (osv ob14 0 (List.length r13) cap14)) rfl ?_)
      refine Rl.nil (Swp.region rfl (Rl.op (OpY.fieldAddr (q := 1) Tryd.underlying24 rfl ti22 rfl rfl rfl ?_)))
      refine Rl.op (OpY.ldBox1 (v := v11) Tryd.underlying22 rfl rfl (hL23.at 6 rfl rfl) rfl ?_)
      refine Rl.op (OpY.move (v := (osv ob11 0 (List.length r12.2) cap11)) rfl ?_)
      obtain ⟨r14, q15, h⟩ := bind_some h
      have f17 := (((f13.mono (K18 None)).mono (K19 None)).mono (K20 None))
      have f18 := ((hE19.mono (K19 None)).mono (K20 None))
      refine Rl.op (OpY.call en47 rfl rfl (bminus_w N r11.Digits r12.2 v11 (osv ob11 0 (List.length r12.2) cap11) _ Any (f17.mono vw_any) (own_row_any (pre := []) (o := 0) (n := (List.length r12.2)) (cap := cap11) (hL23.at 3 rfl rfl) f18 vw_any rfl rfl rfl hc12) r14 q15) ?_)
      rintro _ w26 hE23 ⟨ob15, cap15, cs15, sp15, rfl, hN12, hE24, hc17, -⟩
      replace hE24 := hE24.mono (Hv.freshO (S := None) hL23 [ob15])
      have hp12 := hL23.adoptL hE23 hN12
      have hL24 := hp12.1
      have K21 := ks w hp12.2
      refine Rl.op (OpY.assign (v := (osv ob15 0 (List.length r14) cap15)) rfl ?_)
      refine Rl.nil ?_
      have hp13 := hL24.pick [7, 6, 5, 1, 0] rfl rfl rfl
      have hL25 : Go.X.Loc [] [] w w26 [some b6, some b10, some b11, ob14, ob15] [Cont.cells [(Value.bool r11.Negative), v11], Cont.cells [(Value.bool false), (Value.slice none 0 0)], Cont.cells [(Value.bool false), (Value.slice none 0 0)], Cont.cells ([] ++ (cs14 ++ sp14)), Cont.cells ([] ++ (cs15 ++ sp15))] := hp13.1
      have K22 := ks w hp13.2
      have f19 := ((hE22.mono (K21 None)).mono (K22 None))
      have f20 := (hE24.mono (K22 None))
      obtain rfl := Option.some.inj h
      refine Swp.pop_back ?_
      exact ⟨r13, r14, ob14, cap14, sp14, cs14, (List.length r13), ob15, cap15, sp15, cs15, (List.length r14), _, rfl, (upds_sym ⟨rfl, rfl, rfl, rfl, rfl, trivial⟩), hL25, (Keep.trans (Keep.trans (Keep.trans K19 K20) K21) K22), f19, rfl, hc16, f20, rfl, hc17, trivial⟩
     ·
      replace h := ite_f hc14 h
      refine Swp.skip ?_
      have hp14 := hL21.pick [4, 3, 2, 0, 1] rfl rfl rfl
      have hL26 : Go.X.Loc [] [] w w23 [some b6, some b10, some b11, ob10, ob11] [Cont.cells [(Value.bool r11.Negative), v11], Cont.cells [(Value.bool false), (Value.slice none 0 0)], Cont.cells [(Value.bool false), (Value.slice none 0 0)], Cont.cells ([] ++ (cs10 ++ sp10)), Cont.cells ([] ++ (cs11 ++ sp11))] := hp14.1
      have K23 := ks w hp14.2
      have f21 := (hE18.mono (K23 None))
      have f22 := (hE19.mono (K23 None))
      obtain rfl := Option.some.inj h
      refine Swp.pop_back ?_
      exact ⟨r12.1, r12.2, ob10, cap10, sp10, cs10, (List.length r12.1), ob11, cap11, sp11, cs11, (List.length r12.2), _, rfl, (upds_sym ⟨rfl, rfl, rfl, rfl, rfl, trivial⟩), hL26, K23, f21, rfl, hc11, f22, rfl, hc12, trivial⟩
    ·
     rintro _ w27 ⟨q13, x10, ob12, cap12, sp12, cs12, ln10, ob13, cap13, sp13, cs13, ln11, u, rfl, rfl, hL27, K24, hE25, rfl, hc18, hE26, rfl, hc19, -⟩
     replace h := g10
     try dsimp only at h
     refine Swp.seq ?_
     obtain ⟨r15, q16, h⟩ := bind_some h
     refine Swp.drawL 5 [] [] (fun W1 => [.det (osv ob12 0 (List.length q13) cap12), .rel (fun v Z w' => ∃ v12, (Value.agg #[(Value.bool r15.Negative), v12]) = v ∧ Rs (rInt .u32) (Zv W1 w.heap.size None [some b6, some b10, some b11, ob12, ob13] Z w') v12 r15.Digits ∧ True) (fun _ => []), .det (Value.pointer (some ⟨b6, 0, none⟩)), .det (Value.bool r11.Negative), .det (osv ob13 0 (List.length x10) cap13)]) mixed rfl rfl rfl (fun _ => rfl) (fun _ => rfl) ?_ ?_
     ·
      intro W1 _
      exact ⟨fun v Z Z' w w' hΦ hz _ _ hs => by obtain ⟨v12, rfl, k12, -⟩ := hΦ; exact ⟨v12, rfl, (k12.mono (Zv.stay hz hs)), trivial⟩, trivial⟩
     ·
      intro w28 hE27
      have hL28 := hL27.ext hE27
      have K25 := ke hL27 hE27
      refine DrH.de (fun _ _ => GOp.op (OpY.move rfl (er rfl))) ?_
      refine DrH.rel ?_ ?_
      ·
       rintro w30 Z19 hE29 hZ15 ⟨-⟩
       have hL29 := hL28.ext hE29
       have K26 := ke hL28 hE29
       refine GOp.op (OpY.call en48 rfl rfl (bnormal_w N true q13 (osv ob12 0 (List.length q13) cap12) _ Any (own_row_any (pre := []) (o := 0) (n := (List.length q13)) (cap := cap12) (hL29.at 3 rfl rfl) ((hE25.mono (K25 None)).mono (K26 None)) vw_any rfl rfl rfl hc18) r15 q16) ?_)
       rintro _ w31 hE30 ⟨v12, rfl, k12, -⟩
       exact Made.ext hE30 hZ15 NewOwn.nil (fun _ h => h) ⟨v12, rfl, (k12.mono Zv.made), trivial⟩
      intro z1
      refine DrH.de (fun _ _ => GOp.op (OpY.fieldAddr Tryd.underlying24 rfl ti4 rfl rfl rfl (er rfl))) ?_
      refine DrH.de (fun _ hE32 => GOp.op (OpY.ldBox1 Tryd.underlying4 rfl rfl ((hL28.ext hE32).at 0 rfl rfl) rfl (er rfl))) ?_
      refine DrH.de (fun _ _ => GOp.op (OpY.move rfl (er rfl))) ?_
      refine DrH.fin0 ?_
      rintro w35 Z23 hE34 hZ19 ⟨⟨⟨v12, rfl, k12, -⟩, hB1⟩, -⟩ ap11
      have hB11 : ∀ b, some b ∈ ([] : List (Option Nat)) → w28.heap.size ≤ b ∧ ¬ Z23 b := by
       intro b hb; cases hb
      replace k12 := k12.mono (Zv.fin hL28 hZ19 hB11)
      have hL31 := hL28.ext hE34
      have K27 := ke hL28 hE34
      obtain ⟨r16, q17, h⟩ := bind_some h
      have f23 := ((hE26.mono (K25 None)).mono (K27 None))
      refine Rl.op (OpY.call en48 rfl rfl (bnormal_w N r11.Negative x10 (osv ob13 0 (List.length x10) cap13) _ Any (own_row_any (pre := []) (o := 0) (n := (List.length x10)) (cap := cap13) (hL31.at 4 rfl rfl) f23 vw_any rfl rfl rfl hc19) r16 q17) ?_)
      rintro _ w36 hE35 ⟨v13, rfl, k13, -⟩
      replace k13 := k13.mono (Hv.freshO (S := None) hL31 [])
      have hL32 := hL31.ext hE35
      have K28 := ke hL31 hE35
      have f24 := (k12.mono (K28 None))
      refine Rl.op0 (OpY.store (vs := [(Value.bool r15.Negative), v12]) ti24 rfl rfl rfl rfl (ones_cons rfl (ones_cons f24.one ones_nil)) hL32 1 rfl rfl (Nat.le_of_ble_eq_true rfl) ?_)
      intro w37 (hL33 : Go.X.Loc [] [] w w37 [some b6, some b10, some b11, ob12, ob13] [Cont.cells [(Value.bool r11.Negative), v11], Cont.cells [(Value.bool r15.Negative), v12], Cont.cells [(Value.bool false), (Value.slice none 0 0)], Cont.cells ([] ++ (cs12 ++ sp12)), Cont.cells ([] ++ (cs13 ++ sp13))]) hS18
      have K29 := ks w hS18
      have f25 := (k13.mono (K29 None))
      refine Rl.op0 (OpY.store (vs := [(Value.bool r16.Negative), v13]) ti24 rfl rfl rfl rfl (ones_cons rfl (ones_cons f25.one ones_nil)) hL33 2 rfl rfl (Nat.le_of_ble_eq_true rfl) ?_)
      intro w38 (hL34 : Go.X.Loc [] [] w w38 [some b6, some b10, some b11, ob12, ob13] [Cont.cells [(Value.bool r11.Negative), v11], Cont.cells [(Value.bool r15.Negative), v12], Cont.cells [(Value.bool r16.Negative), v13], Cont.cells ([] ++ (cs12 ++ sp12)), Cont.cells ([] ++ (cs13 ++ sp13))]) hS19
      have K30 := ks w hS19
      refine Rl.op (OpY.assign (v := (Value.bool true)) rfl ?_)
      refine Rl.nil (Swp.ret ?_)
      obtain rfl := Option.some.inj h
      refine ⟨[(Value.agg #[(Value.bool r15.Negative), v12]), (Value.agg #[(Value.bool r16.Negative), v13]), (Value.bool true)], ⟨⟨⟨b10, 0, none⟩, rfl, res_boxA Tryd.underlying24 rfl ti24 (hL34.at 1 rfl rfl) rfl⟩, ⟨⟨⟨b11, 0, none⟩, rfl, res_boxA Tryd.underlying24 rfl ti24 (hL34.at 2 rfl rfl) rfl⟩, ⟨rfl, trivial⟩⟩⟩, ⟨_, rfl, hL34.done, ?_⟩⟩
      have f26 := ((f24.mono (K29 None)).mono (K30 None))
      have f27 := (f25.mono (K30 None))
      exact ⟨v12, v13, rfl, (f26.mono Hv.out), (f27.mono Hv.out), trivial⟩
   ·
    replace h := ite_f hc13 h
    refine Swp.skip (Swp.seq ?_)
    obtain ⟨r17, q18, h⟩ := bind_some h
    refine Swp.drawL 5 [] [] (fun W1 => [.det (osv ob10 0 (List.length r12.1) cap10), .rel (fun v Z w' => ∃ v14, (Value.agg #[(Value.bool r17.Negative), v14]) = v ∧ Rs (rInt .u32) (Zv W1 w.heap.size None [ob10, ob11, some b11, some b10, some b6, some b1] Z w') v14 r17.Digits ∧ True) (fun _ => []), .det (Value.pointer (some ⟨b6, 0, none⟩)), .det (Value.bool r11.Negative), .det (osv ob11 0 (List.length r12.2) cap11)]) mixed rfl rfl rfl (fun _ => rfl) (fun _ => rfl) ?_ ?_
    ·
     intro W1 _
     exact ⟨fun v Z Z' w w' hΦ hz _ _ hs => by obtain ⟨v14, rfl, k14, -⟩ := hΦ; exact ⟨v14, rfl, (k14.mono (Zv.stay hz hs)), trivial⟩, trivial⟩
    ·
     intro w39 hE36
     have hL35 := hL21.ext hE36
     have K31 := ke hL21 hE36
     refine DrH.de (fun _ _ => GOp.op (OpY.move rfl (er rfl))) ?_
     refine DrH.rel ?_ ?_
     ·
      rintro w41 Z25 hE38 hZ21 ⟨-⟩
      have hL36 := hL35.ext hE38
      have K32 := ke hL35 hE38
      refine GOp.op (OpY.call en48 rfl rfl (bnormal_w N false r12.1 (osv ob10 0 (List.length r12.1) cap10) _ Any (own_row_any (pre := []) (o := 0) (n := (List.length r12.1)) (cap := cap10) (hL36.at 0 rfl rfl) ((hE18.mono (K31 None)).mono (K32 None)) vw_any rfl rfl rfl hc11) r17 q18) ?_)
      rintro _ w42 hE39 ⟨v14, rfl, k14, -⟩
      exact Made.ext hE39 hZ21 NewOwn.nil (fun _ h => h) ⟨v14, rfl, (k14.mono Zv.made), trivial⟩
     intro z1
     refine DrH.de (fun _ _ => GOp.op (OpY.fieldAddr Tryd.underlying24 rfl ti4 rfl rfl rfl (er rfl))) ?_
     refine DrH.de (fun _ hE41 => GOp.op (OpY.ldBox1 Tryd.underlying4 rfl rfl ((hL35.ext hE41).at 4 rfl rfl) rfl (er rfl))) ?_
     refine DrH.de (fun _ _ => GOp.op (OpY.move rfl (er rfl))) ?_
     refine DrH.fin0 ?_
     rintro w46 Z29 hE43 hZ25 ⟨⟨⟨v14, rfl, k14, -⟩, hB1⟩, -⟩ ap12
     have hB12 : ∀ b, some b ∈ ([] : List (Option Nat)) → w39.heap.size ≤ b ∧ ¬ Z29 b := by
      intro b hb; cases hb
     replace k14 := k14.mono (Zv.fin hL35 hZ25 hB12)
     have hL38 := hL35.ext hE43
     have K33 := ke hL35 hE43
     obtain ⟨r18, q19, h⟩ := bind_some h
     have f28 := ((hE19.mono (K31 None)).mono (K33 None))
     refine Rl.op (OpY.call en48 rfl rfl (bnormal_w N r11.Negative r12.2 (osv ob11 0 (List.length r12.2) cap11) _ Any (own_row_any (pre := []) (o := 0) (n := (List.length r12.2)) (cap := cap11) (hL38.at 1 rfl rfl) f28 vw_any rfl rfl rfl hc12) r18 q19) ?_)
     rintro _ w47 hE44 ⟨v15, rfl, k15, -⟩
     replace k15 := k15.mono (Hv.freshO (S := None) hL38 [])
     have hL39 := hL38.ext hE44
     have K34 := ke hL38 hE44
     have f29 := (k14.mono (K34 None))
     refine Rl.op0 (OpY.store (vs := [(Value.bool r17.Negative), v14]) ti24 rfl rfl rfl rfl (ones_cons rfl (ones_cons f29.one ones_nil)) hL39 3 rfl rfl (Nat.le_of_ble_eq_true rfl) ?_)
     intro w48 (hL40 : Go.X.Loc [] [] w w48 [ob10, ob11, some b11, some b10, some b6, some b1] [Cont.cells ([] ++ (cs10 ++ sp10)), Cont.cells ([] ++ (cs11 ++ sp11)), Cont.cells [(Value.bool false), (Value.slice none 0 0)], Cont.cells [(Value.bool r17.Negative), v14], Cont.cells [(Value.bool r11.Negative), v11], Cont.cells [(Value.bool r10.Negative), v10]]) hS20
     have K35 := ks w hS20
     have f30 := (k15.mono (K35 None))
     refine Rl.op0 (OpY.store (vs := [(Value.bool r18.Negative), v15]) ti24 rfl rfl rfl rfl (ones_cons rfl (ones_cons f30.one ones_nil)) hL40 2 rfl rfl (Nat.le_of_ble_eq_true rfl) ?_)
     intro w49 (hL41 : Go.X.Loc [] [] w w49 [ob10, ob11, some b11, some b10, some b6, some b1] [Cont.cells ([] ++ (cs10 ++ sp10)), Cont.cells ([] ++ (cs11 ++ sp11)), Cont.cells [(Value.bool r18.Negative), v15], Cont.cells [(Value.bool r17.Negative), v14], Cont.cells [(Value.bool r11.Negative), v11], Cont.cells [(Value.bool r10.Negative), v10]]) hS21
     have K36 := ks w hS21
     refine Rl.op (OpY.assign (v := (Value.bool true)) rfl ?_)
     refine Rl.nil (Swp.ret ?_)
     obtain rfl := Option.some.inj h
     refine ⟨[(Value.agg #[(Value.bool r17.Negative), v14]), (Value.agg #[(Value.bool r18.Negative), v15]), (Value.bool true)], ⟨⟨⟨b10, 0, none⟩, rfl, res_boxA Tryd.underlying24 rfl ti24 (hL41.at 3 rfl rfl) rfl⟩, ⟨⟨⟨b11, 0, none⟩, rfl, res_boxA Tryd.underlying24 rfl ti24 (hL41.at 2 rfl rfl) rfl⟩, ⟨rfl, trivial⟩⟩⟩, ⟨_, rfl, hL41.done, ?_⟩⟩
     have f31 := ((f29.mono (K35 None)).mono (K36 None))
     have f32 := (f30.mono (K36 None))
     exact ⟨v14, v15, rfl, (f31.mono Hv.out), (f32.mono Hv.out), trivial⟩
theorem bGCD_w (N : Nat) (a : Big) (b : Big) (a_v : Value) (b_v : Value) (w : World) (S : Nat → Prop) (a_h : Rs (rInt .u32) (Hv w.heap.size S [] w) a_v a.Digits) (b_h : Rs (rInt .u32) (Hv w.heap.size S [] w) b_v b.Digits) (r : Big) (h : bGCD N a b = some r) :
  Calls Tryd.prog 26 #[(Value.agg #[(Value.bool a.Negative), a_v]), (Value.agg #[(Value.bool b.Negative), b_v])] w (Ret w (fun v w' => ∃ (v0_0 : Value), (Value.agg #[(Value.bool r.Negative), v0_0]) = v ∧ Rs (rInt .u32) (Hv w.heap.size None [] w') v0_0 r.Digits ∧ True)) := by
 unfold bGCD at h
 have hL : Go.X.Loc [] [] w w [] [] := Go.X.Loc.begin0 w
 refine calls_of (l := [(Value.agg #[(Value.bool a.Negative), a_v]), (Value.agg #[(Value.bool b.Negative), b_v])]) (rl := [.cell 4 24]) (n := 28) Tryd.func26 rfl rfl rfl (Nat.le_of_ble_eq_true rfl) ?_
 refine Swp.seq (Swp.region rfl (Rl.op (OpY.box (cs := [(Value.bool a.Negative), a_v]) rfl rfl hL ?_)))
 intro b1 w2 hL3 hS5
 have K4 := ks w hS5
 refine Rl.op (OpY.box (cs := [(Value.bool b.Negative), b_v]) rfl rfl hL3 ?_)
 intro b6 w7 hL8 hS10
 have K9 := ks w hS10
 refine Rl.op (OpY.alloc (cs := [(Value.bool false), (Value.slice none 0 0)]) ti24 rfl hL8 ?_)
 intro b10 w10 hL10 hS11
 have K10 := ks w hS11
 refine Rl.nil (Swp.seq ?_)
 obtain ⟨r10, q10, h⟩ := bind_some h
 refine Swp.drawL 5 [] [] (fun W1 => [.det (Value.pointer (some ⟨b1, 1, none⟩)), .det a_v, .rel (fun v Z w' => ∃ ob10 cap10 cs10 sp10, (osv ob10 0 (List.length r10) cap10) = v ∧ OwnC w' ob10 (Cont.cells ([] ++ (cs10 ++ sp10))) ∧ Els (rInt .u32) (Zv W1 w.heap.size None [some b10, some b6, some b1] Z w') cs10 r10 ∧ (cs10 ++ sp10 : List Value).length = cap10 * (rInt .u32).sz ∧ True) footV, .det (Value.pointer (some ⟨b6, 1, none⟩)), .det b_v]) mixed rfl rfl rfl (fun _ => rfl) (fun _ => rfl) ?_ ?_
 ·
  intro W1 _
  exact ⟨fun v Z Z' w w' hΦ hz _ _ hs => by obtain ⟨ob10, cap10, cs10, sp10, rfl, hO10, hE10, hc10, -⟩ := hΦ; exact ⟨ob10, cap10, cs10, sp10, rfl, (hO10.stay (fun b hb => (footV_osv (ob := ob10) (o := 0) (n := (List.length r10)) (cap := cap10)).2 (by rw [hb]; exact List.mem_cons_self)) hs), (hE10.mono (Zv.stay hz hs)), hc10, trivial⟩, trivial⟩
 ·
  intro w11 hE11
  have hL11 := hL10.ext hE11
  have K11 := ke hL10 hE11
  refine DrH.de (fun _ _ => GOp.op (OpY.fieldAddr Tryd.underlying24 rfl ti22 rfl rfl rfl (er rfl))) ?_
  refine DrH.de (fun _ hE13 => GOp.op (OpY.ldBox1 Tryd.underlying22 rfl rfl ((hL11.ext hE13).at 2 rfl rfl) rfl (er rfl))) ?_
  refine DrH.rel ?_ ?_
  ·
   rintro w14 Z16 hE14 hZ12 ⟨-⟩
   have K12 := ke hL11 hE14
   refine GOp.op (OpY.call en54 rfl rfl (btrim_w N a.Digits a_v _ Any ((((((a_h.mono (K4 S)).mono (K9 S)).mono (K10 S)).mono (K11 S)).mono (K12 S)).mono vw_any) r10 q10) ?_)
   rintro _ w15 hE15 ⟨ob10, cap10, cs10, sp10, rfl, hN10, hE10, hc10, -⟩
   exact Made.ext hE15 hZ12 hN10 (fun b hb => footV_osv.1 hb) ⟨ob10, cap10, cs10, sp10, rfl, hN10.2.2.1, (hE10.mono Zv.made), hc10, trivial⟩
  intro z2
  refine DrH.de (fun _ _ => GOp.op (OpY.fieldAddr Tryd.underlying24 rfl ti22 rfl rfl rfl (er rfl))) ?_
  refine DrH.de (fun _ hE17 => GOp.op (OpY.ldBox1 Tryd.underlying22 rfl rfl ((hL11.ext hE17).at 1 rfl rfl) rfl (er rfl))) ?_
  refine DrH.fin0 ?_
  rintro w18 Z19 hE18 hZ15 ⟨⟨⟨ob10, cap10, cs10, sp10, rfl, hO10, hE10, hc10, -⟩, hB2⟩, -⟩ ap10
  have hB10 : ∀ b, some b ∈ ([ob10] : List (Option Nat)) → w11.heap.size ≤ b ∧ ¬ Z19 b := by
   intro b hb
   rcases List.mem_cons.1 hb with hb' | hb
   ·
    have := hB2 b ((footV_osv (ob := ob10) (o := 0) (n := (List.length r10)) (cap := cap10)).2 (by rw [hb']; exact List.mem_cons_self)); exact ⟨this.1, this.2.2⟩
   cases hb
  replace hE10 := hE10.mono (Zv.fin hL11 hZ15 hB10)
  have hN11 : NewOwn w11 w18 [ob10] [Cont.cells ([] ++ (cs10 ++ sp10))] := (NewOwn.cons NewOwn.nil hO10 (fun b hb => (hB10 b (by rw [← hb]; simp)).1) (fun b _ hb => by cases hb))
  have hp10 := hL11.adoptL hE18 hN11
  have hL14 := hp10.1
  have K13 := ks w hp10.2
  obtain ⟨r11, q11, h⟩ := bind_some h
  have f10 := (((((b_h.mono (K4 S)).mono (K9 S)).mono (K10 S)).mono (K11 S)).mono (K13 S))
  refine Rl.op (OpY.call en54 rfl rfl (btrim_w N b.Digits b_v _ Any (f10.mono vw_any) r11 q11) ?_)
  rintro _ w19 hE19 ⟨ob11, cap11, cs11, sp11, rfl, hN12, hE20, hc11, -⟩
  replace hE20 := hE20.mono (Hv.freshO (S := None) hL14 [ob11])
  have hp11 := hL14.adoptL hE19 hN12
  have hL15 := hp11.1
  have K14 := ks w hp11.2
  refine Rl.op (OpY.assign (v := (osv ob10 0 (List.length r10) cap10)) rfl ?_)
  refine Rl.op (OpY.assign (v := (osv ob11 0 (List.length r11) cap11)) rfl ?_)
  refine Rl.nil (Swp.seq ?_)
  obtain ⟨s10, hl10, g10⟩ := bind_some h
  refine Swp.join (fun e w' => ∃ (x10 : (List Int)) (ob12 : Option Nat) (cap12 : Nat) (sp12 : List Value) (cs12 : List Value) (ln10 : Nat) (u : Env), x10 = s10 ∧ e = upds [(4, (Value.pointer (some ⟨b10, 0, none⟩))), (5, (osv ob12 0 ln10 cap12))] u ∧ Go.X.Loc [] [] w w' [some b10, ob12] [Cont.cells [(Value.bool false), (Value.slice none 0 0)], Cont.cells ([] ++ (cs12 ++ sp12))] ∧ Keep w.heap.size [ob11, ob10, some b10, some b6, some b1] w19 [some b10, ob12] w' ∧ Els (rInt .u32) (Hv w.heap.size None [some b10, ob12] w') cs12 x10 ∧ ln10 = List.length x10 ∧ (cs12 ++ sp12).length = cap12 * (rInt .u32).sz ∧ True) ?_ ?_
  ·
   refine Swp.block ?_
   have hp12 := hL15.pick [2, 1, 0] rfl rfl rfl
   have hL16 : Go.X.Loc [] [] w w19 [some b10, ob10, ob11] [Cont.cells [(Value.bool false), (Value.slice none 0 0)], Cont.cells ([] ++ (cs10 ++ sp10)), Cont.cells ([] ++ (cs11 ++ sp11))] := hp12.1
   have K15 := ks w hp12.2
   have f11 := ((hE10.mono (K14 None)).mono (K15 None))
   have f12 := (hE20.mono (K15 None))
   refine Swp.loopM hl10 (fun (ss : ((List Int) × (List Int))) (e : Env) (w' : World) => match ss with | (x11, y10) => ∃ (ob13 : Option Nat) (cap13 : Nat) (sp13 : List Value) (cs13 : List Value) (ln11 : Nat) (ob14 : Option Nat) (cap14 : Nat) (sp14 : List Value) (cs14 : List Value) (ln12 : Nat) (u : Env), e = upds [(4, (Value.pointer (some ⟨b10, 0, none⟩))), (5, (osv ob13 0 ln11 cap13)), (6, (osv ob14 0 ln12 cap14))] u ∧ Go.X.Loc [] [] w w' [some b10, ob13, ob14] [Cont.cells [(Value.bool false), (Value.slice none 0 0)], Cont.cells ([] ++ (cs13 ++ sp13)), Cont.cells ([] ++ (cs14 ++ sp14))] ∧ Keep w.heap.size [ob11, ob10, some b10, some b6, some b1] w19 [some b10, ob13, ob14] w' ∧ Els (rInt .u32) (Hv w.heap.size None [some b10, ob13, ob14] w') cs13 x11 ∧ ln11 = List.length x11 ∧ (cs13 ++ sp13).length = cap13 * (rInt .u32).sz ∧ Els (rInt .u32) (Hv w.heap.size None [some b10, ob13, ob14] w') cs14 y10 ∧ ln12 = List.length y10 ∧ (cs14 ++ sp14).length = cap14 * (rInt .u32).sz ∧ True) ⟨ob10, cap10, sp10, cs10, (List.length r10), ob11, cap11, sp11, cs11, (List.length r11), _, (upds_sym ⟨rfl, rfl, rfl, trivial⟩), hL16, K15, f11, rfl, hc10, f12, rfl, hc11, trivial⟩ ?_
   rintro ⟨x11, y10⟩ oo _ w20 ⟨ob13, cap13, sp13, cs13, ln11, ob14, cap14, sp14, cs14, ln12, u, rfl, hL17, K16, hE21, rfl, hc12, hE22, rfl, hc13, -⟩ h hd10
   rw [bGCD_b1] at h
   refine Swp.seq (Swp.seq (Swp.region rfl (Rl.op (OpY.move (v := (osv ob14 0 (List.length y10) cap14)) rfl ?_))))
   refine Rl.op (OpY.lenRow (pre := []) (r := (rInt .u32)) (xs := y10) Tryd.underlying22 rfl (hL17.at 2 rfl rfl) hE22 rfl rfl ?_)
   refine Rl.op (OpY.gtr (x := (List.length y10 : Int)) (y := 0) (((List.length y10 : Int) : Int) > 0) rfl rfl Iff.rfl ?_)
   refine Rl.nil ?_
   refine Swp.cond_d (((List.length y10 : Int) : Int) > 0) rfl (fun hc14 => ?_) (fun hc14 => ?_)
   ·
    replace h := ite_t hc14 h
    refine Swp.skip (Swp.block (Swp.seq (Swp.region rfl (Rl.op (OpY.move (v := (osv ob13 0 (List.length x11) cap13)) rfl ?_)))))
    refine Rl.op (OpY.move (v := (osv ob14 0 (List.length y10) cap14)) rfl ?_)
    obtain ⟨r12, q12, h⟩ := bind_some h
    refine Rl.op (OpY.call en45 rfl rfl (bdivide_w N x11 y10 (osv ob13 0 (List.length x11) cap13) (osv ob14 0 (List.length y10) cap14) _ Any (own_row_any (pre := []) (o := 0) (n := (List.length x11)) (cap := cap13) (hL17.at 1 rfl rfl) hE21 vw_any rfl rfl rfl hc12) (own_row_any (pre := []) (o := 0) (n := (List.length y10)) (cap := cap14) (hL17.at 2 rfl rfl) hE22 vw_any rfl rfl rfl hc13) r12 q12) ?_)
    rintro _ w21 hE23 ⟨ob15, cap15, cs15, sp15, ob16, cap16, cs16, sp16, rfl, hN13, hE24, hc15, hE25, hc16, -⟩
    replace hE24 := hE24.mono (Hv.freshO (S := None) hL17 [ob15, ob16])
    replace hE25 := hE25.mono (Hv.freshO (S := None) hL17 [ob15, ob16])
    have hp13 := hL17.adoptL hE23 hN13
    have hL18 := hp13.1
    have K17 := ks w hp13.2
    refine Rl.op (OpY.move (v := (Value.tuple #[(osv ob15 0 (List.length r12.1) cap15), (osv ob16 0 (List.length r12.2) cap16)])) rfl ?_)
    refine Rl.op (OpY.extract (vs := [(osv ob15 0 (List.length r12.1) cap15), (osv ob16 0 (List.length r12.2) cap16)]) (v := (osv ob15 0 (List.length r12.1) cap15)) rfl rfl ?_)
    refine Rl.op (OpY.extract (vs := [(osv ob15 0 (List.length r12.1) cap15), (osv ob16 0 (List.length r12.2) cap16)]) (v := (osv ob16 0 (List.length r12.2) cap16)) rfl rfl ?_)
    refine Rl.op (OpY.assign (v := (osv ob15 0 (List.length r12.1) cap15)) rfl ?_)
    refine Rl.op (OpY.assign (v := (osv ob16 0 (List.length r12.2) cap16)) rfl ?_)
    refine Rl.nil (Swp.region rfl (Rl.op (OpY.move (v := (osv ob14 0 (List.length y10) cap14)) rfl ?_)))
    refine Rl.op (OpY.move (v := (osv ob16 0 (List.length r12.2) cap16)) rfl ?_)
    refine Rl.op (OpY.assign (v := (osv ob14 0 (List.length y10) cap14)) rfl ?_)
    refine Rl.op (OpY.assign (v := (osv ob16 0 (List.length r12.2) cap16)) rfl ?_)
    refine Rl.nil (Swp.pop_blk ?_)
    have hp14 := hL18.pick [2, 4, 1] rfl rfl rfl
    have hL19 : Go.X.Loc [] [] w w21 [some b10, ob14, ob16] [Cont.cells [(Value.bool false), (Value.slice none 0 0)], Cont.cells ([] ++ (cs14 ++ sp14)), Cont.cells ([] ++ (cs16 ++ sp16))] := hp14.1
    have K18 := ks w hp14.2
    have f13 := ((hE22.mono (K17 None)).mono (K18 None))
    have f14 := (hE25.mono (K18 None))
    obtain rfl := Option.some.inj h
    refine Swp.pop_back ⟨(y10, r12.2), rfl, ?_⟩
    exact ⟨ob14, cap14, sp14, cs14, (List.length y10), ob16, cap16, sp16, cs16, (List.length r12.2), _, (upds_sym ⟨rfl, rfl, rfl, trivial⟩), hL19, (Keep.trans (Keep.trans K16 K17) K18), f13, rfl, hc13, f14, rfl, hc16, trivial⟩
   ·
    replace h := ite_f hc14 h
    refine Swp.exit rfl ?_
    have hp15 := hL17.pick [0, 1] rfl rfl rfl
    have hL20 : Go.X.Loc [] [] w w20 [some b10, ob13] [Cont.cells [(Value.bool false), (Value.slice none 0 0)], Cont.cells ([] ++ (cs13 ++ sp13))] := hp15.1
    have K19 := ks w hp15.2
    have f15 := (hE21.mono (K19 None))
    obtain rfl := Option.some.inj h
    obtain rfl := hd10 _ rfl
    replace h := g10
    try dsimp only at h
    skip
    refine Swp.pop_back ?_
    exact ⟨x11, ob13, cap13, sp13, cs13, (List.length x11), _, rfl, (upds_sym ⟨rfl, rfl, trivial⟩), hL20, (Keep.trans K16 K19), f15, rfl, hc12, trivial⟩
  ·
   rintro _ w22 ⟨x10, ob12, cap12, sp12, cs12, ln10, u, rfl, rfl, hL21, K20, hE26, rfl, hc17, -⟩
   replace h := g10
   try dsimp only at h
   refine Swp.seq (Swp.region rfl (Rl.op (OpY.move (v := (osv ob12 0 (List.length x10) cap12)) rfl ?_)))
   obtain ⟨r13, q13, h⟩ := bind_some h
   refine Rl.op (OpY.call en48 rfl rfl (bnormal_w N false x10 (osv ob12 0 (List.length x10) cap12) _ Any (own_row_any (pre := []) (o := 0) (n := (List.length x10)) (cap := cap12) (hL21.at 1 rfl rfl) hE26 vw_any rfl rfl rfl hc17) r13 q13) ?_)
   rintro _ w23 hE27 ⟨v10, rfl, k10, -⟩
   replace k10 := k10.mono (Hv.freshO (S := None) hL21 [])
   have hL22 := hL21.ext hE27
   refine Rl.op0 (OpY.store (vs := [(Value.bool r13.Negative), v10]) ti24 rfl rfl rfl rfl (ones_cons rfl (ones_cons k10.one ones_nil)) hL22 0 rfl rfl (Nat.le_of_ble_eq_true rfl) ?_)
   intro w24 (hL23 : Go.X.Loc [] [] w w24 [some b10, ob12] [Cont.cells [(Value.bool r13.Negative), v10], Cont.cells ([] ++ (cs12 ++ sp12))]) hS12
   have K21 := ks w hS12
   refine Rl.nil (Swp.ret ?_)
   obtain rfl := Option.some.inj h
   refine ⟨[(Value.agg #[(Value.bool r13.Negative), v10])], ⟨⟨⟨b10, 0, none⟩, rfl, res_boxA Tryd.underlying24 rfl ti24 (hL23.at 0 rfl rfl) rfl⟩, trivial⟩, ⟨_, rfl, hL23.done, ?_⟩⟩
   have f16 := (k10.mono (K21 None))
   exact ⟨v10, rfl, (f16.mono Hv.out), trivial⟩
theorem bFormat_w (N : Nat) (x : Big) (x_v : Value) (w : World) (S : Nat → Prop) (hG : G w) (x_h : Rs (rInt .u32) (Hv w.heap.size S [] w) x_v x.Digits) (r : (List UInt8)) (h : bFormat N x = some r) :
  Calls Tryd.prog 19 #[(Value.agg #[(Value.bool x.Negative), x_v])] w (Ret w (fun v w' => (Value.string (s8 r)) = v ∧ True)) := by
 unfold bFormat at h
 have hL : Go.X.Loc [] [] w w [] [] := Go.X.Loc.begin0 w
 refine calls_of (l := [(Value.agg #[(Value.bool x.Negative), x_v])]) (rl := [.tmp 2]) (n := 51) Tryd.func19 rfl rfl rfl (Nat.le_of_ble_eq_true rfl) ?_
 refine Swp.seq (Swp.region rfl (Rl.op (OpY.box (cs := [(Value.bool x.Negative), x_v]) rfl rfl hL ?_)))
 intro b1 w2 hL3 hS5
 have K4 := ks w hS5
 refine Rl.op (OpY.assign (v := (Value.string (s8 ([] : List UInt8)))) rfl ?_)
 refine Rl.nil (Swp.seq (Swp.region rfl (Rl.op (OpY.ldBoxA (vs := [(Value.bool x.Negative), x_v]) Tryd.underlying24 rfl ti24 rfl (hL3.at 0 rfl rfl) rfl rfl ?_))))
 obtain ⟨r6, q7, h⟩ := bind_some h
 have f10 := (x_h.mono (K4 S))
 refine Rl.op (OpY.call en39 rfl rfl (bNormal_w N x x_v _ Any (f10.mono vw_any) r6 q7) ?_)
 rintro _ w10 hE10 ⟨v8, rfl, k9, -⟩
 replace k9 := k9.mono (Hv.freshO (S := None) hL3 [])
 have hL10 := hL3.ext hE10
 refine Rl.op0 (OpY.store (vs := [(Value.bool r6.Negative), v8]) ti24 rfl rfl rfl rfl (ones_cons rfl (ones_cons k9.one ones_nil)) hL10 0 rfl rfl (Nat.le_of_ble_eq_true rfl) ?_)
 intro w11 (hL11 : Go.X.Loc [] [] w w11 [some b1] [Cont.cells [(Value.bool r6.Negative), v8]]) hS10
 have K10 := ks w hS10
 refine Rl.nil (Swp.seq (Swp.seq (Swp.region rfl (Rl.op (OpY.fieldAddr (q := 1) Tryd.underlying24 rfl ti22 rfl rfl rfl ?_)))))
 refine Rl.op (OpY.ldBox1 (v := v8) Tryd.underlying22 rfl rfl (hL11.at 0 rfl rfl) rfl ?_)
 have f11 := (k9.mono (K10 None))
 refine Rl.op (OpY.lenRo (v := v8) Tryd.underlying22 rfl f11 ?_)
 refine Rl.op (OpY.eql (x := (List.length r6.Digits : Int)) (y := 0) (((List.length r6.Digits : Int) : Int) = 0) rfl rfl Iff.rfl ?_)
 refine Rl.nil ?_
 refine Swp.cond_d (((List.length r6.Digits : Int) : Int) = 0) rfl (fun hc10 => ?_) (fun hc10 => ?_)
 ·
  replace h := ite_t hc10 h
  refine Swp.seq (Swp.region rfl (Rl.op (OpY.assign (v := (Value.string (s8 ([48] : List UInt8)))) rfl ?_)))
  refine Rl.nil (Swp.ret ?_)
  obtain rfl := Option.some.inj h
  refine ⟨[(Value.string (s8 ([48] : List UInt8)))], ⟨rfl, trivial⟩, ⟨_, rfl, hL11.done, ?_⟩⟩
  exact ⟨rfl, trivial⟩
 ·
  replace h := ite_f hc10 h
  refine Swp.skip (Swp.seq (Swp.region rfl (Rl.op (OpY.assign (v := (Value.slice none 0 0)) rfl ?_))))
  refine Rl.nil (Swp.seq (Swp.region rfl (Rl.op (OpY.fieldAddr (q := 1) Tryd.underlying24 rfl ti22 rfl rfl rfl ?_))))
  refine Rl.op (OpY.ldBox1 (v := v8) Tryd.underlying22 rfl rfl (hL11.at 0 rfl rfl) rfl ?_)
  refine Rl.op (OpY.assign (v := v8) rfl ?_)
  refine Rl.nil (Swp.seq ?_)
  obtain ⟨s10, hl10, g10⟩ := bind_some h
  refine Swp.join (fun e w' => ∃ (parts10 : (List (List UInt8))) (ob10 : Option Nat) (cap10 : Nat) (sp10 : List Value) (cs10 : List Value) (ln10 : Nat) (u : Env), parts10 = s10 ∧ e = upds [(1, (Value.pointer (some ⟨b1, 0, none⟩))), (3, (osv ob10 0 ln10 cap10))] u ∧ Go.X.Loc [] [] w w' [some b1, ob10] [Cont.cells [(Value.bool r6.Negative), v8], Cont.cells ([] ++ (cs10 ++ sp10))] ∧ Keep w.heap.size [some b1] w11 [some b1, ob10] w' ∧ Els rStr (Hv w.heap.size None [some b1, ob10] w') cs10 parts10 ∧ ln10 = List.length parts10 ∧ (cs10 ++ sp10).length = cap10 * rStr.sz ∧ True) ?_ ?_
  ·
   refine Swp.block ?_
   have hp10 := hL11.addNil
   have hL12 : Go.X.Loc [] [] w w11 [none, some b1] [Cont.cells ([] ++ ([] ++ [])), Cont.cells [(Value.bool r6.Negative), v8]] := hp10.1
   have K11 := ks w hp10.2
   have hp11 := hL12.pick [1, 0] rfl rfl rfl
   have hL13 : Go.X.Loc [] [] w w11 [some b1, none] [Cont.cells [(Value.bool r6.Negative), v8], Cont.cells ([] ++ ([] ++ []))] := hp11.1
   have K12 := ks w hp11.2
   have f12 := ((Els.nil (r := rStr)).mono (K12 None))
   have f13 := ((f11.mono (K11 None)).mono (K12 None))
   refine Swp.loopM hl10 (fun (ss : ((List (List UInt8)) × (List Int))) (e : Env) (w' : World) => match ss with | (parts11, d10) => ∃ (ob11 : Option Nat) (cap11 : Nat) (sp11 : List Value) (cs11 : List Value) (ln11 : Nat) (v10 : Value) (u : Env), e = upds [(1, (Value.pointer (some ⟨b1, 0, none⟩))), (3, (osv ob11 0 ln11 cap11)), (4, v10)] u ∧ Go.X.Loc [] [] w w' [some b1, ob11] [Cont.cells [(Value.bool r6.Negative), v8], Cont.cells ([] ++ (cs11 ++ sp11))] ∧ Keep w.heap.size [some b1] w11 [some b1, ob11] w' ∧ Els rStr (Hv w.heap.size None [some b1, ob11] w') cs11 parts11 ∧ ln11 = List.length parts11 ∧ (cs11 ++ sp11).length = cap11 * rStr.sz ∧ Rs (rInt .u32) (Hv w.heap.size None [some b1, ob11] w') v10 d10 ∧ True) ⟨none, 0, [], [], (List.length ([] : (List (List UInt8)))), v8, _, (upds_sym ⟨rfl, rfl, rfl, trivial⟩), hL13, (Keep.trans K11 K12), f12, rfl, (show ([] ++ [] : List Value).length = 0 * rStr.sz by simp), f13, trivial⟩ ?_
   rintro ⟨parts11, d10⟩ oo _ w12 ⟨ob11, cap11, sp11, cs11, ln11, v10, u, rfl, hL14, K13, hE11, rfl, hc11, k10, -⟩ h hd10
   rw [bFormat_b1] at h
   refine Swp.seq (Swp.seq (Swp.region rfl (Rl.op (OpY.move (v := v10) rfl ?_))))
   refine Rl.op (OpY.lenRo (v := v10) Tryd.underlying22 rfl k10 ?_)
   refine Rl.op (OpY.gtr (x := (List.length d10 : Int)) (y := 0) (((List.length d10 : Int) : Int) > 0) rfl rfl Iff.rfl ?_)
   refine Rl.nil ?_
   refine Swp.cond_d (((List.length d10 : Int) : Int) > 0) rfl (fun hc12 => ?_) (fun hc12 => ?_)
   ·
    replace h := ite_t hc12 h
    refine Swp.skip (Swp.block (Swp.seq (Swp.region rfl (Rl.op (OpY.move (v := v10) rfl ?_)))))
    obtain ⟨r10, q10, h⟩ := bind_some h
    refine Rl.op (OpY.call en53 rfl rfl (bshort_w N d10 1000000000 v10 _ Any (k10.mono vw_any) r10 q10) ?_)
    rintro _ w13 hE12 ⟨ob12, cap12, cs12, sp12, rfl, hN10, hE13, hc13, -⟩
    replace hE13 := hE13.mono (Hv.freshO (S := None) hL14 [ob12])
    have hp12 := hL14.adoptL hE12 hN10
    have hL15 := hp12.1
    have K14 := ks w hp12.2
    refine Rl.op (OpY.move (v := (Value.tuple #[(osv ob12 0 (List.length r10.1) cap12), (Value.int .u32 r10.2)])) rfl ?_)
    refine Rl.op (OpY.extract (vs := [(osv ob12 0 (List.length r10.1) cap12), (Value.int .u32 r10.2)]) (v := (osv ob12 0 (List.length r10.1) cap12)) rfl rfl ?_)
    refine Rl.op (OpY.extract (vs := [(osv ob12 0 (List.length r10.1) cap12), (Value.int .u32 r10.2)]) (v := (Value.int .u32 r10.2)) rfl rfl ?_)
    refine Rl.op (OpY.assign (v := (osv ob12 0 (List.length r10.1) cap12)) rfl ?_)
    refine Rl.op (OpY.assign (v := (Value.int .u32 r10.2)) rfl ?_)
    refine Rl.nil (Swp.seq (Swp.region rfl (Rl.op (OpY.move (v := (osv ob12 0 (List.length r10.1) cap12)) rfl ?_))))
    obtain ⟨r11, q11, h⟩ := bind_some h
    refine Rl.op (OpY.call en54 rfl rfl (btrim_w N r10.1 (osv ob12 0 (List.length r10.1) cap12) _ Any (own_row_any (pre := []) (o := 0) (n := (List.length r10.1)) (cap := cap12) (hL15.at 0 rfl rfl) hE13 vw_any rfl rfl rfl hc13) r11 q11) ?_)
    rintro _ w14 hE14 ⟨ob13, cap13, cs13, sp13, rfl, hN11, hE15, hc14, -⟩
    replace hE15 := hE15.mono (Hv.freshO (S := None) hL15 [ob13])
    have hp13 := hL15.adoptL hE14 hN11
    have hL16 := hp13.1
    have K15 := ks w hp13.2
    refine Rl.op (OpY.assign (v := (osv ob13 0 (List.length r11) cap13)) rfl ?_)
    refine Rl.nil (Swp.seq (Swp.region rfl (Rl.op (OpY.move (v := (Value.int .u32 r10.2)) rfl ?_))))
    refine Rl.op (OpY.convInt (x := r10.2) (z := (uw r10.2)) Tryd.underlying47 Tryd.underlying62 rfl rfl ?_)
    obtain ⟨r12, q12, h⟩ := bind_some h
    refine Rl.op (OpY.call en55 rfl rfl (formatUint_w N (uw r10.2) 10 _ Any (hG.ext hL16.done) r12 q12) ?_)
    rintro _ w15 hE16 ⟨rfl, -⟩
    have hL17 := hL16.ext hE16
    have K16 := ke hL16 hE16
    refine Rl.op (OpY.assign (v := (Value.string (s8 r12))) rfl ?_)
    refine Rl.nil (Swp.seq (Swp.seq (Swp.region rfl (Rl.op (OpY.move (v := (osv ob13 0 (List.length r11) cap13)) rfl ?_)))))
    have f14 := (hE15.mono (K16 None))
    refine Rl.op (OpY.lenRow (pre := []) (r := (rInt .u32)) (xs := r11) Tryd.underlying22 rfl (hL17.at 0 rfl rfl) f14 rfl rfl ?_)
    refine Rl.op (OpY.gtr (x := (List.length r11 : Int)) (y := 0) (((List.length r11 : Int) : Int) > 0) rfl rfl Iff.rfl ?_)
    refine Rl.nil ?_
    obtain ⟨s11, h, g11⟩ := bind_some h
    refine Swp.join (fun e w' => ∃ (s12 : (List UInt8)) (u : Env), s12 = s11 ∧ e = upds [(1, (Value.pointer (some ⟨b1, 0, none⟩))), (3, (osv ob11 0 (List.length parts11) cap11)), (4, (osv ob13 0 (List.length r11) cap13)), (7, (Value.string (s8 s12)))] u ∧ Go.X.Loc [] [] w w' [some b1, ob11, ob13] [Cont.cells [(Value.bool r6.Negative), v8], Cont.cells ([] ++ (cs11 ++ sp11)), Cont.cells ([] ++ (cs13 ++ sp13))] ∧ Keep w.heap.size [ob13, ob12, some b1, ob11] w15 [some b1, ob11, ob13] w' ∧ True) ?_ ?_
    ·
     refine Swp.cond_d (((List.length r11 : Int) : Int) > 0) rfl (fun hc15 => ?_) (fun hc15 => ?_)
     ·
      replace h := ite_t hc15 h
      refine Swp.region rfl (Rl.op (OpY.move (v := (Value.string (s8 r12))) rfl ?_))
      refine Rl.op (OpY.lenStr Tryd.underlying9 rfl ?_)
      refine Rl.op (OpY.sub (x := 9) (y := (List.length r12 : Int)) (z := (iw (9 - (List.length r12 : Int)))) rfl rfl rfl ?_)
      obtain ⟨r13, q13, h⟩ := bind_some h
      refine Rl.op (OpY.call en56 rfl rfl (repeatStr_w N ([48] : List UInt8) (iw (9 - (List.length r12 : Int))) _ Any r13 q13) ?_)
      rintro _ w16 hE17 ⟨rfl, -⟩
      have hL18 := hL17.ext hE17
      have K17 := ke hL17 hE17
      refine Rl.op (OpY.move (v := (Value.string (s8 r12))) rfl ?_)
      obtain ⟨u10, q14, h⟩ := bind_some h
      have q15 := chk_some q14
      refine Rl.op (OpY.sAdd (x := r13) (y := r12) rfl rfl q15 ?_)
      refine Rl.op (OpY.assign (v := (Value.string (s8 (r13 ++ r12)))) rfl ?_)
      refine Rl.nil ?_
      have hp14 := hL18.pick [2, 3, 0] rfl rfl rfl
      have hL19 : Go.X.Loc [] [] w w16 [some b1, ob11, ob13] [Cont.cells [(Value.bool r6.Negative), v8], Cont.cells ([] ++ (cs11 ++ sp11)), Cont.cells ([] ++ (cs13 ++ sp13))] := hp14.1
      have K18 := ks w hp14.2
      obtain rfl := Option.some.inj h
      refine Swp.pop_back ?_
      exact ⟨(r13 ++ r12), _, rfl, (upds_sym ⟨rfl, rfl, rfl, rfl, trivial⟩), hL19, (Keep.trans K17 K18), trivial⟩
     ·
      replace h := ite_f hc15 h
      refine Swp.skip ?_
      have hp15 := hL17.pick [2, 3, 0] rfl rfl rfl
      have hL20 : Go.X.Loc [] [] w w15 [some b1, ob11, ob13] [Cont.cells [(Value.bool r6.Negative), v8], Cont.cells ([] ++ (cs11 ++ sp11)), Cont.cells ([] ++ (cs13 ++ sp13))] := hp15.1
      have K19 := ks w hp15.2
      obtain rfl := Option.some.inj h
      refine Swp.pop_back ?_
      exact ⟨r12, _, rfl, (upds_sym ⟨rfl, rfl, rfl, rfl, trivial⟩), hL20, K19, trivial⟩
    ·
     rintro _ w17 ⟨s12, u, rfl, rfl, hL21, K20, -⟩
     replace h := g11
     try dsimp only at h
     refine Swp.region rfl (Rl.op (OpY.move (v := (osv ob11 0 (List.length parts11) cap11)) rfl ?_))
     refine Rl.op (OpY.move (v := (Value.string (s8 s12))) rfl ?_)
     have hE18 : Els rStr (Hv w.heap.size None [some b1, ob11, ob13] w17) [(Value.string (s8 s12))] [s12] := (Els.cons (a := [(Value.string (s8 s12))]) rfl Els.nil)
     refine Rl.op (OpY.litRow (r := rStr) (vs := [(Value.string (s8 s12))]) (css := [[(Value.string (s8 s12))]]) (xs := [s12]) Tryd.underlying57 ti9 (Nat.le_of_ble_eq_true rfl) rfl rfl ⟨rfl, rfl, trivial⟩ (Nat.le_of_ble_eq_true rfl) hE18 rfl hL21 ?_)
     intro b10 w18 hc16 hL22 hS11
     have K21 := ks w hS11
     obtain ⟨x10, q16, h⟩ := bind_some h
     obtain ⟨q17, q18, q19⟩ := apnd_some q16
     have f15 := (hE18.mono (K21 None))
     have f16 := (((((hE11.mono (K14 None)).mono (K15 None)).mono (K16 None)).mono (K20 None)).mono (K21 None))
     refine Rl.op (OpY.apRowX (r := rStr) (H := (Hv w.heap.size None [some b10, some b1, ob11, ob13] w18)) (cs := cs11) (sp := sp11) (xs := parts11) (ys := [s12]) (Y := x10) (n := (List.length parts11)) (cap := cap11) (i := 2) Tryd.underlying57 ti9 rfl rfl rfl rfl hL22 rfl rfl f16 rfl hc11 (Src.row (pre := []) (o := 0) (n := 1) (cap := 1) (hL22.at 0 rfl rfl) f15 rfl rfl rfl) (Els.anyH (fun _ _ _ _ h => h) f15) q17 q18 q19 ?_)
     intro ob14 cap14 sp14 cs14 w19 hE19 hc17 (hL23 : Go.X.Loc [] [] w w19 [some b10, some b1, ob14, ob13] [Cont.cells ([] ++ ([(Value.string (s8 s12))] ++ [])), Cont.cells [(Value.bool r6.Negative), v8], Cont.cells ([] ++ (cs14 ++ sp14)), Cont.cells ([] ++ (cs13 ++ sp13))]) hS12
     have K22 := ks w hS12
     refine Rl.op (OpY.assign (v := (osv ob14 0 (List.length x10) cap14)) rfl ?_)
     refine Rl.nil (Swp.pop_blk ?_)
     have f17 := (((f14.mono (K20 None)).mono (K21 None)).mono (K22 None))
     have f18 := hL23.freezeRow 3 rfl rfl f17 rfl rfl rfl hc14
     have hp16 := hL23.pick [0, 1, 2] rfl rfl rfl
     have hL24 : Go.X.Loc [] [] w w19 [some b10, some b1, ob14] [Cont.cells ([] ++ ([(Value.string (s8 s12))] ++ [])), Cont.cells [(Value.bool r6.Negative), v8], Cont.cells ([] ++ (cs14 ++ sp14))] := hp16.1
     have K23 := ks w hp16.2
     have hp17 := hL24.pick [1, 2] rfl rfl rfl
     have hL25 : Go.X.Loc [] [] w w19 [some b1, ob14] [Cont.cells [(Value.bool r6.Negative), v8], Cont.cells ([] ++ (cs14 ++ sp14))] := hp17.1
     have K24 := ks w hp17.2
     have f19 := (((hE19.mono (K22 None)).mono (K23 None)).mono (K24 None))
     have f20 := (f18.mono (K24 None))
     obtain rfl := Option.some.inj h
     refine Swp.pop_back ⟨(x10, r11), rfl, ?_⟩
     exact ⟨ob14, cap14, sp14, cs14, (List.length x10), (osv ob13 0 (List.length r11) cap13), _, (upds_sym ⟨rfl, rfl, rfl, trivial⟩), hL25, (Keep.trans (Keep.trans (Keep.trans (Keep.trans (Keep.trans (Keep.trans (Keep.trans (Keep.trans K13 K14) K15) K16) K20) K21) K22) K23) K24), f19, rfl, hc17, f20, trivial⟩
   ·
    replace h := ite_f hc12 h
    refine Swp.exit rfl ?_
    obtain rfl := Option.some.inj h
    obtain rfl := hd10 _ rfl
    replace h := g10
    try dsimp only at h
    skip
    refine Swp.pop_back ?_
    exact ⟨parts11, ob11, cap11, sp11, cs11, (List.length parts11), _, rfl, (upds_sym ⟨rfl, rfl, trivial⟩), hL14, K13, hE11, rfl, hc11, trivial⟩
  ·
   rintro _ w20 ⟨parts10, ob10, cap10, sp10, cs10, ln10, u, rfl, rfl, hL26, K25, hE20, rfl, hc18, -⟩
   replace h := g10
   try dsimp only at h
   refine Swp.seq (Swp.seq (Swp.region rfl (Rl.op (OpY.fieldAddr (q := 0) Tryd.underlying24 rfl ti4 rfl rfl rfl ?_))))
   refine Rl.op (OpY.ldBox1 (v := (Value.bool r6.Negative)) Tryd.underlying4 rfl rfl (hL26.at 0 rfl rfl) rfl ?_)
   refine Rl.nil ?_
   obtain ⟨s13, h, g12⟩ := bind_some h
   refine Swp.join (fun e w' => ∃ (parts12 : (List (List UInt8))) (ob15 : Option Nat) (cap15 : Nat) (sp15 : List Value) (cs15 : List Value) (ln12 : Nat) (u : Env), parts12 = s13 ∧ e = upds [(3, (osv ob15 0 ln12 cap15))] u ∧ Go.X.Loc [] [] w w' [ob15] [Cont.cells ([] ++ (cs15 ++ sp15))] ∧ Keep w.heap.size [some b1, ob10] w20 [ob15] w' ∧ Els rStr (Hv w.heap.size None [ob15] w') cs15 parts12 ∧ ln12 = List.length parts12 ∧ (cs15 ++ sp15).length = cap15 * rStr.sz ∧ True) ?_ ?_
   ·
    refine Swp.cond_b r6.Negative rfl (fun hc19 => ?_) (fun hc19 => ?_)
    ·
     replace h := ite_t hc19 h
     refine Swp.region rfl (Rl.op (OpY.move (v := (osv ob10 0 (List.length parts10) cap10)) rfl ?_))
     have hE21 : Els rStr (Hv w.heap.size None [some b1, ob10] w20) [(Value.string (s8 ([45] : List UInt8)))] [([45] : List UInt8)] := (Els.cons (a := [(Value.string (s8 ([45] : List UInt8)))]) rfl Els.nil)
     refine Rl.op (OpY.litRow (r := rStr) (vs := [(Value.string (s8 ([45] : List UInt8)))]) (css := [[(Value.string (s8 ([45] : List UInt8)))]]) (xs := [([45] : List UInt8)]) Tryd.underlying57 ti9 (Nat.le_of_ble_eq_true rfl) rfl rfl ⟨rfl, rfl, trivial⟩ (Nat.le_of_ble_eq_true rfl) hE21 rfl hL26 ?_)
     intro b11 w21 hc20 hL27 hS13
     have K26 := ks w hS13
     obtain ⟨x11, q20, h⟩ := bind_some h
     obtain ⟨q21, q22, q23⟩ := apnd_some q20
     have f21 := (hE21.mono (K26 None))
     have f22 := (hE20.mono (K26 None))
     refine Rl.op (OpY.apRowX (r := rStr) (H := (Hv w.heap.size None [some b11, some b1, ob10] w21)) (cs := cs10) (sp := sp10) (xs := parts10) (ys := [([45] : List UInt8)]) (Y := x11) (n := (List.length parts10)) (cap := cap10) (i := 2) Tryd.underlying57 ti9 rfl rfl rfl rfl hL27 rfl rfl f22 rfl hc18 (Src.row (pre := []) (o := 0) (n := 1) (cap := 1) (hL27.at 0 rfl rfl) f21 rfl rfl rfl) (Els.anyH (fun _ _ _ _ h => h) f21) q21 q22 q23 ?_)
     intro ob16 cap16 sp16 cs16 w22 hE22 hc21 (hL28 : Go.X.Loc [] [] w w22 [some b11, some b1, ob16] [Cont.cells ([] ++ ([(Value.string (s8 ([45] : List UInt8)))] ++ [])), Cont.cells [(Value.bool r6.Negative), v8], Cont.cells ([] ++ (cs16 ++ sp16))]) hS14
     have K27 := ks w hS14
     refine Rl.op (OpY.assign (v := (osv ob16 0 (List.length x11) cap16)) rfl ?_)
     refine Rl.nil ?_
     have hp18 := hL28.pick [2] rfl rfl rfl
     have hL29 : Go.X.Loc [] [] w w22 [ob16] [Cont.cells ([] ++ (cs16 ++ sp16))] := hp18.1
     have K28 := ks w hp18.2
     have f23 := ((hE22.mono (K27 None)).mono (K28 None))
     obtain rfl := Option.some.inj h
     refine Swp.pop_back ?_
     exact ⟨x11, ob16, cap16, sp16, cs16, (List.length x11), _, rfl, (upds_sym ⟨rfl, trivial⟩), hL29, (Keep.trans (Keep.trans K26 K27) K28), f23, rfl, hc21, trivial⟩
    ·
     replace h := ite_f hc19 h
     refine Swp.skip ?_
     have hp19 := hL26.pick [1] rfl rfl rfl
     have hL30 : Go.X.Loc [] [] w w20 [ob10] [Cont.cells ([] ++ (cs10 ++ sp10))] := hp19.1
     have K29 := ks w hp19.2
     have f24 := (hE20.mono (K29 None))
     obtain rfl := Option.some.inj h
     refine Swp.pop_back ?_
     exact ⟨parts10, ob10, cap10, sp10, cs10, (List.length parts10), _, rfl, (upds_sym ⟨rfl, trivial⟩), hL30, K29, f24, rfl, hc18, trivial⟩
   ·
    rintro _ w23 ⟨parts12, ob15, cap15, sp15, cs15, ln12, u, rfl, rfl, hL31, K30, hE23, rfl, hc22, -⟩
    replace h := g12
    try dsimp only at h
    refine Swp.seq (Swp.region rfl (Rl.op (OpY.move (v := (osv ob15 0 (List.length parts12) cap15)) rfl ?_)))
    obtain ⟨x12, q24, h⟩ := bind_some h
    obtain ⟨q25, q26⟩ := revStr_some q24
    refine Rl.op (OpY.revRow (cs := cs15) (sp := sp15) (xs := parts12) (Y := x12) (n := (List.length parts12)) (cap := cap15) (i := 0) en57 rfl rfl hL31 rfl rfl hE23 rfl q25 q26 ?_)
    have hl11 : (List.length parts12) = List.length x12 := by rw [q26, List.length_reverse]
    intro w24 cs17 (hL32 : Go.X.Loc [] [] w w24 [ob15] [Cont.cells ([] ++ (cs17 ++ sp15))]) hS15 hE24 q27
    have hc23 : (cs17 ++ sp15).length = cap15 * rStr.sz := by have := hc22; rw [List.length_append] at this ⊢; rw [q27]; exact this
    have K31 := ks w hS15
    refine Rl.nil (Swp.seq (Swp.region rfl (Rl.op (OpY.move (v := (osv ob15 0 (List.length parts12) cap15)) rfl ?_))))
    obtain ⟨r14, q28, h⟩ := bind_some h
    have f25 := (hE24.mono (K31 None))
    refine Rl.op (OpY.call en58 rfl rfl (joinStr_w N x12 ([] : List UInt8) (osv ob15 0 (List.length parts12) cap15) _ Any (own_row_any (pre := []) (o := 0) (n := (List.length parts12)) (cap := cap15) (hL32.at 0 rfl rfl) f25 vw_any rfl rfl hl11 hc23) r14 q28) ?_)
    rintro _ w25 hE25 ⟨rfl, -⟩
    have hL33 := hL32.ext hE25
    refine Rl.op (OpY.assign (v := (Value.string (s8 r14))) rfl ?_)
    refine Rl.nil (Swp.ret ?_)
    obtain rfl := Option.some.inj h
    refine ⟨[(Value.string (s8 r14))], ⟨rfl, trivial⟩, ⟨_, rfl, hL33.done, ?_⟩⟩
    exact ⟨rfl, trivial⟩
theorem bParse_w (N : Nat) (s : (List UInt8))  (w : World) (S : Nat → Prop)  (r : (Big × Int)) (h : bParse N s = some r) :
  Calls Tryd.prog 20 #[(Value.string (s8 s))] w (Ret w (fun v w' => ∃ (v0_0 : Value), .tuple #[(Value.agg #[(Value.bool r.1.Negative), v0_0]), (Value.int .i64 r.2)] = v ∧ Rs (rInt .u32) (Hv w.heap.size None [] w') v0_0 r.1.Digits ∧ True)) := by
 unfold bParse at h
 have hL : Go.X.Loc [] [] w w [] [] := Go.X.Loc.begin0 w
 refine calls_of (l := [(Value.string (s8 s))]) (rl := [.cell 2 24, .tmp 3]) (n := 52) Tryd.func20 rfl rfl rfl (Nat.le_of_ble_eq_true rfl) ?_
 refine Swp.seq (Swp.region rfl (Rl.op (OpY.alloc (cs := [(Value.bool false), (Value.slice none 0 0)]) ti24 rfl hL ?_)))
 intro b1 w2 hL3 hS5
 refine Rl.op (OpY.assign (v := (Value.int .i64 0)) rfl ?_)
 refine Rl.nil (Swp.seq (Swp.region rfl (Rl.op (OpY.move (v := (Value.string (s8 s))) rfl ?_))))
 obtain ⟨r6, q7, h⟩ := bind_some h
 refine Rl.op (OpY.call en59 rfl rfl (trimPre_w N s ([45] : List UInt8) _ Any r6 q7) ?_)
 rintro _ w9 hE10 ⟨rfl, -⟩
 have hL10 := hL3.ext hE10
 refine Rl.op (OpY.assign (v := (Value.string (s8 r6))) rfl ?_)
 refine Rl.nil (Swp.seq (Swp.seq ?_))
 obtain ⟨s10, h, g10⟩ := bind_some h
 refine Swp.join (fun e w' => ∃ (x10 : Bool) (u : Env), x10 = s10 ∧ e = upds [(0, (Value.string (s8 s))), (2, (Value.pointer (some ⟨b1, 0, none⟩))), (4, (Value.string (s8 r6))), (20, (Value.bool x10))] u ∧ Go.X.Loc [] [] w w' [some b1] [Cont.cells [(Value.bool false), (Value.slice none 0 0)]] ∧ Keep w.heap.size [some b1] w9 [some b1] w' ∧ True) ?_ ?_
 ·
  refine Swp.region rfl (Rl.op (OpY.move (v := (Value.string (s8 r6))) rfl ?_))
  refine Rl.op (OpY.sEql (x := r6) (y := ([] : List UInt8)) rfl rfl ?_)
  refine Rl.op (OpY.move (v := (Value.bool (decide (r6 = ([] : List UInt8))))) rfl ?_)
  by_cases hc10 : r6 = ([] : List UInt8)
  ·
   replace h := ite_t hc10 h
   refine Rl.no rfl rfl (decide_eq_true hc10) ?_
   refine Rl.no rfl rfl (decide_eq_true hc10) ?_
   refine Rl.no rfl rfl (decide_eq_true hc10) ?_
   refine Rl.no rfl rfl (decide_eq_true hc10) ?_
   refine Rl.no_undef rfl rfl ?_
   refine Rl.no_undef rfl rfl ?_
   refine Rl.no rfl rfl (decide_eq_true hc10) ?_
   refine Rl.op (OpY.pick_t (t := (decide (r6 = ([] : List UInt8)))) (v := (Value.bool true)) rfl (decide_eq_true hc10) rfl ?_)
   refine Rl.nil ?_
   obtain rfl := Option.some.inj h
   refine Swp.pop_back ?_
   exact ⟨true, _, rfl, (upds_sym ⟨rfl, rfl, rfl, rfl, trivial⟩), hL10, Keep.refl, trivial⟩
  ·
   replace h := ite_f hc10 h
   refine Rl.yes rfl rfl (decide_eq_false hc10) (OpY.move (v := (Value.string (s8 r6))) rfl ?_)
   obtain ⟨x11, q10, h⟩ := bind_some h
   obtain ⟨n10, q11, q12⟩ := idx_some q10
   refine Rl.yes rfl rfl (decide_eq_false hc10) (OpY.sIndex (xs := r6) (i := 0) (n := n10) (a := x11) Tryd.underlying9 rfl rfl q11 q12 ?_)
   refine Rl.yes rfl rfl (decide_eq_false hc10) (OpY.eql (x := (UInt8.toNat x11 : Int)) (y := 48) (((UInt8.toNat x11 : Int) : Int) = 48) rfl rfl Iff.rfl ?_)
   refine Rl.yes rfl rfl (decide_eq_false hc10) (OpY.move (v := (Value.bool (decide (((UInt8.toNat x11 : Int) : Int) = 48)))) rfl ?_)
   by_cases hc11 : ((UInt8.toNat x11 : Int) : Int) = 48
   ·
    replace h := ite_t hc11 h
    refine Rl.yes rfl rfl (decide_eq_true hc11) (OpY.move (v := (Value.string (s8 s))) rfl ?_)
    refine Rl.yes rfl rfl (decide_eq_true hc11) (OpY.sNeq (x := s) (y := ([48] : List UInt8)) rfl rfl ?_)
    refine Rl.yes rfl rfl (decide_eq_false hc10) (OpY.pick_t (t := (decide (((UInt8.toNat x11 : Int) : Int) = 48))) (v := (Value.bool (decide (¬ s = ([48] : List UInt8))))) rfl (decide_eq_true hc11) rfl ?_)
    refine Rl.op (OpY.pick_f (t := (decide (r6 = ([] : List UInt8)))) (v := (Value.bool (decide (¬ s = ([48] : List UInt8))))) rfl (decide_eq_false hc10) rfl ?_)
    refine Rl.nil ?_
    obtain rfl := Option.some.inj h
    refine Swp.pop_back ?_
    exact ⟨(decide (¬ s = ([48] : List UInt8))), _, rfl, (upds_sym ⟨rfl, rfl, rfl, rfl, trivial⟩), hL10, Keep.refl, trivial⟩
   ·
    replace h := ite_f hc11 h
    refine Rl.no rfl rfl (decide_eq_false hc11) ?_
    refine Rl.no rfl rfl (decide_eq_false hc11) ?_
    refine Rl.yes rfl rfl (decide_eq_false hc10) (OpY.pick_f (t := (decide (((UInt8.toNat x11 : Int) : Int) = 48))) (v := (Value.bool false)) rfl (decide_eq_false hc11) rfl ?_)
    refine Rl.op (OpY.pick_f (t := (decide (r6 = ([] : List UInt8)))) (v := (Value.bool false)) rfl (decide_eq_false hc10) rfl ?_)
    refine Rl.nil ?_
    obtain rfl := Option.some.inj h
    refine Swp.pop_back ?_
    exact ⟨false, _, rfl, (upds_sym ⟨rfl, rfl, rfl, rfl, trivial⟩), hL10, Keep.refl, trivial⟩
 ·
  rintro _ w10 ⟨x10, u, rfl, rfl, hL11, K10, -⟩
  replace h := g10
  try dsimp only at h
  refine Swp.cond_b x10 rfl (fun hc12 => ?_) (fun hc12 => ?_)
  ·
   replace h := ite_t hc12 h
   refine Swp.seq (Swp.region rfl (Rl.op (OpY.build (zc := [(Value.bool false), (Value.slice none 0 0)]) (cs := [(Value.bool false), (Value.slice none 0 0)]) (is := []) (vs := []) (css := []) pl24 ti24 rfl rfl rfl trivial rfl ?_)))
   refine Rl.op0 (OpY.store (vs := [(Value.bool false), (Value.slice none 0 0)]) ti24 rfl rfl rfl rfl (ones_cons rfl (ones_cons rfl ones_nil)) hL11 0 rfl rfl (Nat.le_of_ble_eq_true rfl) ?_)
   intro w11 (hL12 : Go.X.Loc [] [] w w11 [some b1] [Cont.cells [(Value.bool false), (Value.slice none 0 0)]]) hS10
   refine Rl.op (OpY.assign (v := (Value.int .i64 2)) rfl ?_)
   refine Rl.nil (Swp.ret ?_)
   obtain rfl := Option.some.inj h
   refine ⟨[(Value.agg #[(Value.bool false), (Value.slice none 0 0)]), (Value.int .i64 2)], ⟨⟨⟨b1, 0, none⟩, rfl, res_boxA Tryd.underlying24 rfl ti24 (hL12.at 0 rfl rfl) rfl⟩, ⟨rfl, trivial⟩⟩, ⟨_, rfl, hL12.done, ?_⟩⟩
   exact ⟨(Value.slice none 0 0), rfl, Rs.nil, trivial⟩
  ·
   replace h := ite_f hc12 h
   refine Swp.skip (Swp.seq (Swp.region rfl (Rl.op (OpY.assign (v := (Value.slice none 0 0)) rfl ?_))))
   refine Rl.nil (Swp.seq (Swp.seq (Swp.region rfl (Rl.op (OpY.move (v := (Value.string (s8 r6))) rfl ?_)))))
   refine Rl.op (OpY.lenStr Tryd.underlying9 rfl ?_)
   refine Rl.op (OpY.move (v := (Value.int .i64 0)) rfl ?_)
   refine Rl.nil ?_
   obtain ⟨s11, hl10, g11⟩ := bind_some h
   refine Swp.join (fun e w' => ∃ (d10 : (List Int)) (ob10 : Option Nat) (cap10 : Nat) (sp10 : List Value) (cs10 : List Value) (ln10 : Nat) (u : Env), (Sum.inl d10) = s11 ∧ e = upds [(0, (Value.string (s8 s))), (2, (Value.pointer (some ⟨b1, 0, none⟩))), (4, (Value.string (s8 r6))), (5, (osv ob10 0 ln10 cap10))] u ∧ Go.X.Loc [] [] w w' [some b1, ob10] [Cont.cells [(Value.bool false), (Value.slice none 0 0)], Cont.cells ([] ++ (cs10 ++ sp10))] ∧ Keep w.heap.size [some b1] w10 [some b1, ob10] w' ∧ Els (rInt .u32) (Hv w.heap.size None [some b1, ob10] w') cs10 d10 ∧ ln10 = List.length d10 ∧ (cs10 ++ sp10).length = cap10 * (rInt .u32).sz ∧ True) ?_ ?_
   ·
    refine Swp.block ?_
    have hp10 := hL11.addNil
    have hL13 : Go.X.Loc [] [] w w10 [none, some b1] [Cont.cells ([] ++ ([] ++ [])), Cont.cells [(Value.bool false), (Value.slice none 0 0)]] := hp10.1
    have K11 := ks w hp10.2
    have hp11 := hL13.pick [1, 0] rfl rfl rfl
    have hL14 : Go.X.Loc [] [] w w10 [some b1, none] [Cont.cells [(Value.bool false), (Value.slice none 0 0)], Cont.cells ([] ++ ([] ++ []))] := hp11.1
    have K12 := ks w hp11.2
    have f10 := ((Els.nil (r := (rInt .u32))).mono (K12 None))
    refine Swp.loopM hl10 (fun (ss : ((List Int) × Int)) (e : Env) (w' : World) => match ss with | (d11, x12) => ∃ (ob11 : Option Nat) (cap11 : Nat) (sp11 : List Value) (cs11 : List Value) (ln11 : Nat) (u : Env), e = upds [(0, (Value.string (s8 s))), (2, (Value.pointer (some ⟨b1, 0, none⟩))), (4, (Value.string (s8 r6))), (5, (osv ob11 0 ln11 cap11)), (23, (Value.int .i64 (List.length r6 : Int))), (24, (Value.int .i64 x12))] u ∧ Go.X.Loc [] [] w w' [some b1, ob11] [Cont.cells [(Value.bool false), (Value.slice none 0 0)], Cont.cells ([] ++ (cs11 ++ sp11))] ∧ Keep w.heap.size [some b1] w10 [some b1, ob11] w' ∧ Els (rInt .u32) (Hv w.heap.size None [some b1, ob11] w') cs11 d11 ∧ ln11 = List.length d11 ∧ (cs11 ++ sp11).length = cap11 * (rInt .u32).sz ∧ True) ⟨none, 0, [], [], (List.length ([] : (List Int))), _, (upds_sym ⟨rfl, rfl, rfl, rfl, rfl, rfl, trivial⟩), hL14, (Keep.trans K11 K12), f10, rfl, (show ([] ++ [] : List Value).length = 0 * (rInt .u32).sz by simp), trivial⟩ ?_
    rintro ⟨d11, x12⟩ oo _ w12 ⟨ob11, cap11, sp11, cs11, ln11, u, rfl, hL15, K13, hE11, rfl, hc13, -⟩ h hd10
    rw [bParse_b1] at h
    refine Swp.seq (Swp.region rfl (Rl.op (OpY.lss (x := x12) (y := (List.length r6 : Int)) ((x12 : Int) < (List.length r6 : Int)) rfl rfl Iff.rfl ?_)))
    refine Rl.nil (Swp.seq ?_)
    refine Swp.cond_d ((x12 : Int) < (List.length r6 : Int)) rfl (fun hc14 => ?_) (fun hc14 => ?_)
    ·
     replace h := ite_t hc14 h
     refine Swp.skip (Swp.seq (Swp.block (Swp.seq (Swp.region rfl (Rl.op (OpY.move (v := (Value.int .i64 x12)) rfl ?_))))))
     refine Rl.op (OpY.assign (v := (Value.int .i64 x12)) rfl ?_)
     refine Rl.nil (Swp.seq (Swp.region rfl (Rl.op (OpY.move (v := (Value.string (s8 r6))) rfl ?_))))
     refine Rl.op (OpY.move (v := (Value.int .i64 x12)) rfl ?_)
     obtain ⟨x13, q13, h⟩ := bind_some h
     obtain ⟨n11, q14, q15⟩ := idx_some q13
     refine Rl.op (OpY.sIndex (xs := r6) (i := x12) (n := n11) (a := x13) Tryd.underlying9 rfl rfl q14 q15 ?_)
     refine Rl.op (OpY.assign (v := (Value.int .u8 (UInt8.toNat x13 : Int))) rfl ?_)
     refine Rl.nil (Swp.seq (Swp.seq ?_))
     obtain ⟨s12, h, g12⟩ := bind_some h
     refine Swp.join (fun e w' => ∃ (x14 : Bool) (u : Env), x14 = s12 ∧ e = upds [(0, (Value.string (s8 s))), (2, (Value.pointer (some ⟨b1, 0, none⟩))), (4, (Value.string (s8 r6))), (5, (osv ob11 0 (List.length d11) cap11)), (7, (Value.int .u8 (UInt8.toNat x13 : Int))), (23, (Value.int .i64 (List.length r6 : Int))), (24, (Value.int .i64 x12)), (35, (Value.bool x14))] u ∧ Go.X.Loc [] [] w w' [some b1, ob11] [Cont.cells [(Value.bool false), (Value.slice none 0 0)], Cont.cells ([] ++ (cs11 ++ sp11))] ∧ Keep w.heap.size [some b1, ob11] w12 [some b1, ob11] w' ∧ True) ?_ ?_
     ·
      refine Swp.region rfl (Rl.op (OpY.move (v := (Value.int .u8 (UInt8.toNat x13 : Int))) rfl ?_))
      refine Rl.op (OpY.lss (x := (UInt8.toNat x13 : Int)) (y := 48) (((UInt8.toNat x13 : Int) : Int) < 48) rfl rfl Iff.rfl ?_)
      refine Rl.op (OpY.move (v := (Value.bool (decide (((UInt8.toNat x13 : Int) : Int) < 48)))) rfl ?_)
      by_cases hc15 : ((UInt8.toNat x13 : Int) : Int) < 48
      ·
       replace h := ite_t hc15 h
       refine Rl.no rfl rfl (decide_eq_true hc15) ?_
       refine Rl.no rfl rfl (decide_eq_true hc15) ?_
       refine Rl.op (OpY.pick_t (t := (decide (((UInt8.toNat x13 : Int) : Int) < 48))) (v := (Value.bool true)) rfl (decide_eq_true hc15) rfl ?_)
       refine Rl.nil ?_
       obtain rfl := Option.some.inj h
       refine Swp.pop_back ?_
       exact ⟨true, _, rfl, (upds_sym ⟨rfl, rfl, rfl, rfl, rfl, rfl, rfl, rfl, trivial⟩), hL15, Keep.refl, trivial⟩
      ·
       replace h := ite_f hc15 h
       refine Rl.yes rfl rfl (decide_eq_false hc15) (OpY.move (v := (Value.int .u8 (UInt8.toNat x13 : Int))) rfl ?_)
       refine Rl.yes rfl rfl (decide_eq_false hc15) (OpY.gtr (x := (UInt8.toNat x13 : Int)) (y := 57) (((UInt8.toNat x13 : Int) : Int) > 57) rfl rfl Iff.rfl ?_)
       refine Rl.op (OpY.pick_f (t := (decide (((UInt8.toNat x13 : Int) : Int) < 48))) (v := (Value.bool (decide (((UInt8.toNat x13 : Int) : Int) > 57)))) rfl (decide_eq_false hc15) rfl ?_)
       refine Rl.nil ?_
       obtain rfl := Option.some.inj h
       refine Swp.pop_back ?_
       exact ⟨(decide (((UInt8.toNat x13 : Int) : Int) > 57)), _, rfl, (upds_sym ⟨rfl, rfl, rfl, rfl, rfl, rfl, rfl, rfl, trivial⟩), hL15, Keep.refl, trivial⟩
     ·
      rintro _ w13 ⟨x14, u, rfl, rfl, hL16, K14, -⟩
      replace h := g12
      try dsimp only at h
      refine Swp.cond_b x14 rfl (fun hc16 => ?_) (fun hc16 => ?_)
      ·
       replace h := ite_t hc16 h
       refine Swp.seq (Swp.region rfl (Rl.op (OpY.build (zc := [(Value.bool false), (Value.slice none 0 0)]) (cs := [(Value.bool false), (Value.slice none 0 0)]) (is := []) (vs := []) (css := []) pl24 ti24 rfl rfl rfl trivial rfl ?_)))
       refine Rl.op0 (OpY.store (vs := [(Value.bool false), (Value.slice none 0 0)]) ti24 rfl rfl rfl rfl (ones_cons rfl (ones_cons rfl ones_nil)) hL16 0 rfl rfl (Nat.le_of_ble_eq_true rfl) ?_)
       intro w14 (hL17 : Go.X.Loc [] [] w w14 [some b1, ob11] [Cont.cells [(Value.bool false), (Value.slice none 0 0)], Cont.cells ([] ++ (cs11 ++ sp11))]) hS11
       refine Rl.op (OpY.assign (v := (Value.int .i64 2)) rfl ?_)
       refine Rl.nil (Swp.ret ?_)
       obtain rfl := Option.some.inj h
       obtain rfl := hd10 _ rfl
       replace h := g11
       try dsimp only at h
       obtain rfl := Option.some.inj h
       refine ⟨[(Value.agg #[(Value.bool false), (Value.slice none 0 0)]), (Value.int .i64 2)], ⟨⟨⟨b1, 0, none⟩, rfl, res_boxA Tryd.underlying24 rfl ti24 (hL17.at 0 rfl rfl) rfl⟩, ⟨rfl, trivial⟩⟩, ⟨_, rfl, hL17.done, ?_⟩⟩
       exact ⟨(Value.slice none 0 0), rfl, Rs.nil, trivial⟩
      ·
       replace h := ite_f hc16 h
       refine Swp.skip (Swp.region rfl (Rl.op (OpY.move (v := (osv ob11 0 (List.length d11) cap11)) rfl ?_)))
       have hE12 : Els (rInt .u32) (Hv w.heap.size None [some b1, ob11] w13) [(Value.int .u32 10)] [10] := (Els.cons (a := [(Value.int .u32 10)]) rfl Els.nil)
       refine Rl.op (OpY.litRow (r := (rInt .u32)) (vs := [(Value.int .u32 10)]) (css := [[(Value.int .u32 10)]]) (xs := [10]) Tryd.underlying22 ti47 (Nat.le_of_ble_eq_true rfl) rfl rfl ⟨rfl, rfl, trivial⟩ (Nat.le_of_ble_eq_true rfl) hE12 rfl hL16 ?_)
       intro b10 w15 hc17 hL18 hS12
       have K15 := ks w hS12
       obtain ⟨r10, q16, h⟩ := bind_some h
       have f11 := ((hE11.mono (K14 None)).mono (K15 None))
       have f12 := (hE12.mono (K15 None))
       refine Rl.op (OpY.call en60 rfl rfl (btimes_w N d11 [10] (osv ob11 0 (List.length d11) cap11) (osv (some b10) 0 1 1) _ Any (own_row_any (pre := []) (o := 0) (n := (List.length d11)) (cap := cap11) (hL18.at 2 rfl rfl) f11 vw_any rfl rfl rfl hc13) (own_row_any (pre := []) (o := 0) (n := 1) (cap := 1) (hL18.at 0 rfl rfl) f12 vw_any rfl rfl rfl hc17) r10 q16) ?_)
       rintro _ w16 hE13 ⟨ob12, cap12, cs12, sp12, rfl, hN10, hE14, hc18, -⟩
       replace hE14 := hE14.mono (Hv.freshO (S := None) hL18 [ob12])
       have hp12 := hL18.adoptL hE13 hN10
       have hL19 := hp12.1
       have K16 := ks w hp12.2
       refine Rl.op (OpY.move (v := (Value.int .u8 (UInt8.toNat x13 : Int))) rfl ?_)
       refine Rl.op (OpY.sub (x := (UInt8.toNat x13 : Int)) (y := 48) (z := (uw8 ((UInt8.toNat x13 : Int) - 48))) rfl rfl rfl ?_)
       refine Rl.op (OpY.convInt (x := (uw8 ((UInt8.toNat x13 : Int) - 48))) (z := (uw32 (uw8 ((UInt8.toNat x13 : Int) - 48)))) Tryd.underlying5 Tryd.underlying47 rfl rfl ?_)
       have hE15 : Els (rInt .u32) (Hv w.heap.size None [ob12, some b10, some b1, ob11] w16) [(Value.int .u32 (uw32 (uw8 ((UInt8.toNat x13 : Int) - 48))))] [(uw32 (uw8 ((UInt8.toNat x13 : Int) - 48)))] := (Els.cons (a := [(Value.int .u32 (uw32 (uw8 ((UInt8.toNat x13 : Int) - 48))))]) rfl Els.nil)
       refine Rl.op (OpY.litRow (r := (rInt .u32)) (vs := [(Value.int .u32 (uw32 (uw8 ((UInt8.toNat x13 : Int) - 48))))]) (css := [[(Value.int .u32 (uw32 (uw8 ((UInt8.toNat x13 : Int) - 48))))]]) (xs := [(uw32 (uw8 ((UInt8.toNat x13 : Int) - 48)))]) Tryd.underlying22 ti47 (Nat.le_of_ble_eq_true rfl) rfl rfl ⟨rfl, rfl, trivial⟩ (Nat.le_of_ble_eq_true rfl) hE15 rfl hL19 ?_)
       intro b11 w17 hc19 hL20 hS13
       have K17 := ks w hS13
       obtain ⟨r11, q17, h⟩ := bind_some h
       have f13 := (hE14.mono (K17 None))
       have f14 := (hE15.mono (K17 None))
       refine Rl.op (OpY.call en46 rfl rfl (bplus_w N r10 [(uw32 (uw8 ((UInt8.toNat x13 : Int) - 48)))] (osv ob12 0 (List.length r10) cap12) (osv (some b11) 0 1 1) _ Any (own_row_any (pre := []) (o := 0) (n := (List.length r10)) (cap := cap12) (hL20.at 1 rfl rfl) f13 vw_any rfl rfl rfl hc18) (own_row_any (pre := []) (o := 0) (n := 1) (cap := 1) (hL20.at 0 rfl rfl) f14 vw_any rfl rfl rfl hc19) r11 q17) ?_)
       rintro _ w18 hE16 ⟨ob13, cap13, cs13, sp13, rfl, hN11, hE17, hc20, -⟩
       replace hE17 := hE17.mono (Hv.freshO (S := None) hL20 [ob13])
       have hp13 := hL20.adoptL hE16 hN11
       have hL21 := hp13.1
       have K18 := ks w hp13.2
       obtain ⟨r12, q18, h⟩ := bind_some h
       refine Rl.op (OpY.call en54 rfl rfl (btrim_w N r11 (osv ob13 0 (List.length r11) cap13) _ Any (own_row_any (pre := []) (o := 0) (n := (List.length r11)) (cap := cap13) (hL21.at 0 rfl rfl) hE17 vw_any rfl rfl rfl hc20) r12 q18) ?_)
       rintro _ w19 hE18 ⟨ob14, cap14, cs14, sp14, rfl, hN12, hE19, hc21, -⟩
       replace hE19 := hE19.mono (Hv.freshO (S := None) hL21 [ob14])
       have hp14 := hL21.adoptL hE18 hN12
       have hL22 := hp14.1
       have K19 := ks w hp14.2
       refine Rl.op (OpY.assign (v := (osv ob14 0 (List.length r12) cap14)) rfl ?_)
       refine Rl.nil (Swp.pop_blk (Swp.region rfl (Rl.op (OpY.add (x := x12) (y := 1) (z := (iw (x12 + 1))) rfl rfl rfl ?_))))
       refine Rl.op (OpY.move (v := (Value.int .i64 (iw (x12 + 1)))) rfl ?_)
       refine Rl.nil ?_
       have hp15 := hL22.pick [5, 0] rfl rfl rfl
       have hL23 : Go.X.Loc [] [] w w19 [some b1, ob14] [Cont.cells [(Value.bool false), (Value.slice none 0 0)], Cont.cells ([] ++ (cs14 ++ sp14))] := hp15.1
       have K20 := ks w hp15.2
       have f15 := (hE19.mono (K20 None))
       obtain rfl := Option.some.inj h
       refine Swp.pop_back ⟨(r12, (iw (x12 + 1))), rfl, ?_⟩
       exact ⟨ob14, cap14, sp14, cs14, (List.length r12), _, (upds_sym ⟨rfl, rfl, rfl, rfl, rfl, rfl, trivial⟩), hL23, (Keep.trans (Keep.trans (Keep.trans (Keep.trans (Keep.trans (Keep.trans (Keep.trans K13 K14) K15) K16) K17) K18) K19) K20), f15, rfl, hc21, trivial⟩
    ·
     replace h := ite_f hc14 h
     refine Swp.exit rfl ?_
     obtain rfl := Option.some.inj h
     obtain rfl := hd10 _ rfl
     replace h := g11
     try dsimp only at h
     skip
     refine Swp.pop_back ?_
     exact ⟨d11, ob11, cap11, sp11, cs11, (List.length d11), _, rfl, (upds_sym ⟨rfl, rfl, rfl, rfl, trivial⟩), hL15, K13, hE11, rfl, hc13, trivial⟩
   ·
    rintro _ w20 ⟨d10, ob10, cap10, sp10, cs10, ln10, u, rfl, rfl, hL24, K21, hE20, rfl, hc22, -⟩
    replace h := g11
    try dsimp only at h
    refine Swp.seq (Swp.region rfl (Rl.op (OpY.move (v := (Value.string (s8 r6))) rfl ?_)))
    refine Rl.op (OpY.move (v := (Value.string (s8 s))) rfl ?_)
    refine Rl.op (OpY.sNeq (x := r6) (y := s) rfl rfl ?_)
    refine Rl.op (OpY.move (v := (osv ob10 0 (List.length d10) cap10)) rfl ?_)
    obtain ⟨r13, q19, h⟩ := bind_some h
    refine Rl.op (OpY.call en48 rfl rfl (bnormal_w N (decide (¬ r6 = s)) d10 (osv ob10 0 (List.length d10) cap10) _ Any (own_row_any (pre := []) (o := 0) (n := (List.length d10)) (cap := cap10) (hL24.at 1 rfl rfl) hE20 vw_any rfl rfl rfl hc22) r13 q19) ?_)
    rintro _ w21 hE21 ⟨v10, rfl, k10, -⟩
    replace k10 := k10.mono (Hv.freshO (S := None) hL24 [])
    have hL25 := hL24.ext hE21
    refine Rl.op0 (OpY.store (vs := [(Value.bool r13.Negative), v10]) ti24 rfl rfl rfl rfl (ones_cons rfl (ones_cons k10.one ones_nil)) hL25 0 rfl rfl (Nat.le_of_ble_eq_true rfl) ?_)
    intro w22 (hL26 : Go.X.Loc [] [] w w22 [some b1, ob10] [Cont.cells [(Value.bool r13.Negative), v10], Cont.cells ([] ++ (cs10 ++ sp10))]) hS14
    have K22 := ks w hS14
    refine Rl.op (OpY.assign (v := (Value.int .i64 0)) rfl ?_)
    refine Rl.nil (Swp.ret ?_)
    obtain rfl := Option.some.inj h
    refine ⟨[(Value.agg #[(Value.bool r13.Negative), v10]), (Value.int .i64 0)], ⟨⟨⟨b1, 0, none⟩, rfl, res_boxA Tryd.underlying24 rfl ti24 (hL26.at 0 rfl rfl) rfl⟩, ⟨rfl, trivial⟩⟩, ⟨_, rfl, hL26.done, ?_⟩⟩
    have f16 := (k10.mono (K22 None))
    exact ⟨v10, rfl, (f16.mono Hv.out), trivial⟩
end Go.Proofs.YthmoefciofnmdaaDoor.WB

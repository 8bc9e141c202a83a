/- Walks, written by a program of mine (wip/tool); the kernel checks them. -/
import Derived.Test.YtakkacdhlocckaaProg
import Derived.Test.YtakkacdhlocckaaSqSound
import Derived.Test.YtakkacdhlocckaaPB
import Derived.Test.YtakkacdhlocckaaWASound
import Derived.Test.YtakkacdhlocckaaWRSound
set_option maxRecDepth 100000
set_option maxHeartbeats 4000000
set_option linter.unusedVariables false
namespace Go.Proofs.Ytakkacdhlocckaa.WB
open Go Go.RowKit Go.X Go.D Go.Proofs.Ytakkacdhlocckaa.WA Go.Proofs.Ytakkacdhlocckaa.WR
theorem en91 : Enters Try.prog 91 := ⟨Try.f91, Try.func91, by kernel_rfl, by kernel_rfl⟩
theorem en75 : Enters Try.prog 75 := ⟨Try.f75, Try.func75, by kernel_rfl, by kernel_rfl⟩
theorem en86 : Enters Try.prog 86 := ⟨Try.f86, Try.func86, by kernel_rfl, by kernel_rfl⟩
theorem en87 : Enters Try.prog 87 := ⟨Try.f87, Try.func87, by kernel_rfl, by kernel_rfl⟩
theorem en88 : Enters Try.prog 88 := ⟨Try.f88, Try.func88, by kernel_rfl, by kernel_rfl⟩
theorem en89 : Enters Try.prog 89 := ⟨Try.f89, Try.func89, by kernel_rfl, by kernel_rfl⟩
theorem en73 : Enters Try.prog 73 := ⟨Try.f73, Try.func73, by kernel_rfl, by kernel_rfl⟩
theorem en63 : Enters Try.prog 63 := ⟨Try.f63, Try.func63, by kernel_rfl, by kernel_rfl⟩
theorem en74 : Enters Try.prog 74 := ⟨Try.f74, Try.func74, by kernel_rfl, by kernel_rfl⟩
theorem en76 : Enters Try.prog 76 := ⟨Try.f76, Try.func76, by kernel_rfl, by kernel_rfl⟩
theorem en57 : Enters Try.prog 57 := ⟨Try.f57, Try.func57, by kernel_rfl, by kernel_rfl⟩
theorem en46 : Enters Try.prog 46 := ⟨Try.f46, Try.func46, by kernel_rfl, by kernel_rfl⟩
theorem en77 : Enters Try.prog 77 := ⟨Try.f77, Try.func77, by kernel_rfl, by kernel_rfl⟩
theorem en78 : Enters Try.prog 78 := ⟨Try.f78, Try.func78, by kernel_rfl, by kernel_rfl⟩
theorem len32_w (N : Nat) (x : Int)  (w : World) (S : Nat → Prop)  (r : Int) (h : len32 N x = some r) :
  Calls Try.prog 91 #[(zab .u32 x)] w (Ret w (fun v w' => (zab .i64 r) = v ∧ True)) := by
 unfold len32 at h
 have hL : vL w w [] [] := Go.X.Loc.begin0 w
 refine calls_of (l := [(zab .u32 x)]) (rl := [.tmp 2]) (n := 19) Try.func91 rfl rfl rfl (zae rfl) ?_
 refine zaj (zah rfl (zaf (zak (v := (zab .i64 0)) rfl ?_)))
 refine zan (zaj (zaj (zah rfl (zaf (zai (v := (zab .u32 x)) rfl ?_)))))
 refine zaf (OpY.geq (x := x) (y := 65536) ((x : Int) ≥ 65536) rfl rfl zbk ?_)
 refine zan ?_
 obtain ⟨s4, h, g5⟩ := zdo h
 refine zbr (fun e w' => ∃ (x2 : Int) (n3 : Int) (u : Env), (x2, n3) = s4 ∧ e = upds [(0, (zab .u32 x2)), (2, (zab .i64 n3))] u ∧ vL w w' [] [] ∧ Keep w.heap.size [] w [] w' ∧ True) ?_ ?_
 ·
  refine zbe ((x : Int) ≥ 65536) rfl (fun hc6 => ?_) (fun hc6 => ?_)
  ·
   replace h := ite_t hc6 h
   refine zaj (zah rfl (zaf (zai (v := (zab .u32 x)) rfl ?_)))
   refine zaf (OpY.ishr (x := x) (y := 16) rfl rfl (by decide) ?_)
   refine zaf (zak (v := (zab .u32 (bshr .u32 x 16))) rfl ?_)
   refine zan (zah rfl (zaf (zak (v := (zab .i64 16)) rfl ?_)))
   refine zan ?_
   obtain rfl := zag h
   refine zar ?_
   exact ⟨(bshr .u32 x 16), 16, _, rfl, (zdt ⟨rfl, rfl, trivial⟩), hL, zbo, trivial⟩
  ·
   replace h := ite_f hc6 h
   refine zbf ?_
   obtain rfl := zag h
   refine zar ?_
   exact ⟨x, 0, _, rfl, (zdt ⟨rfl, rfl, trivial⟩), hL, zbo, trivial⟩
 ·
  rintro _ w7 ⟨x2, n3, u, rfl, rfl, hL8, K9, -⟩
  replace h := g5
  try dsimp only at h
  refine zaj (zaj (zah rfl (zaf (zai (v := (zab .u32 x2)) rfl ?_))))
  refine zaf (OpY.geq (x := x2) (y := 256) ((x2 : Int) ≥ 256) rfl rfl zbk ?_)
  refine zan ?_
  obtain ⟨s10, h, g10⟩ := zdo h
  refine zbr (fun e w' => ∃ (x10 : Int) (n10 : Int) (u : Env), (x10, n10) = s10 ∧ e = upds [(0, (zab .u32 x10)), (2, (zab .i64 n10))] u ∧ vL w w' [] [] ∧ Keep w.heap.size [] w7 [] w' ∧ True) ?_ ?_
  ·
   refine zbe ((x2 : Int) ≥ 256) rfl (fun hc10 => ?_) (fun hc10 => ?_)
   ·
    replace h := ite_t hc10 h
    refine zaj (zah rfl (zaf (zai (v := (zab .u32 x2)) rfl ?_)))
    refine zaf (OpY.ishr (x := x2) (y := 8) rfl rfl (by decide) ?_)
    refine zaf (zak (v := (zab .u32 (bshr .u32 x2 8))) rfl ?_)
    refine zan (zah rfl (zaf (zai (v := (zab .i64 n3)) rfl ?_)))
    refine zaf (zby (x := n3) (y := 8) (z := (iw (n3 + 8))) rfl rfl rfl ?_)
    refine zaf (zak (v := (zab .i64 (iw (n3 + 8)))) rfl ?_)
    refine zan ?_
    obtain rfl := zag h
    refine zar ?_
    exact ⟨(bshr .u32 x2 8), (iw (n3 + 8)), _, rfl, (zdt ⟨rfl, rfl, trivial⟩), hL8, zbo, trivial⟩
   ·
    replace h := ite_f hc10 h
    refine zbf ?_
    obtain rfl := zag h
    refine zar ?_
    exact ⟨x2, n3, _, rfl, (zdt ⟨rfl, rfl, trivial⟩), hL8, zbo, trivial⟩
  ·
   rintro _ w10 ⟨x10, n10, u, rfl, rfl, hL10, K10, -⟩
   replace h := g10
   try dsimp only at h
   refine zaj (zah rfl (zaf (zai (v := (zab .i64 n10)) rfl ?_)))
   refine zaf (zai (v := (zab .u32 x10)) rfl ?_)
   refine zaf (zbp (x := x10) (z := (uw8 x10)) zat Try.underlying5 rfl rfl ?_)
   obtain ⟨x11, q10, h⟩ := zdo h
   obtain ⟨n11, q11, q12⟩ := zdu q10
   refine zaf (OpY.sIndex (xs := len32_lit256) (i := (uw8 x10)) (n := n11) (a := x11) Try.underlying9 rfl rfl q11 q12 ?_)
   refine zaf (zbp (x := (UInt8.toNat x11 : Int)) (z := (iw (UInt8.toNat x11 : Int))) Try.underlying5 zbv rfl rfl ?_)
   refine zaf (zby (x := n10) (y := (iw (UInt8.toNat x11 : Int))) (z := (iw (n10 + (iw (UInt8.toNat x11 : Int))))) rfl rfl rfl ?_)
   refine zaf (zak (v := (zab .i64 (iw (n10 + (iw (UInt8.toNat x11 : Int)))))) rfl ?_)
   refine zan (zbj ?_)
   obtain rfl := zag h
   refine ⟨[(zab .i64 (iw (n10 + (iw (UInt8.toNat x11 : Int)))))], ⟨rfl, trivial⟩, ⟨_, rfl, hL10.done, ?_⟩⟩
   exact ⟨rfl, trivial⟩
theorem lz32_w (N : Nat) (x : Int)  (w : World) (S : Nat → Prop)  (r : Int) (h : lz32 N x = some r) :
  Calls Try.prog 87 #[(zab .u32 x)] w (Ret w (fun v w' => (zab .i64 r) = v ∧ True)) := by
 unfold lz32 at h
 have hL : vL w w [] [] := Go.X.Loc.begin0 w
 refine calls_of (l := [(zab .u32 x)]) (rl := [.tmp 2]) (n := 6) Try.func87 rfl rfl rfl (zae rfl) ?_
 refine zaj (zah rfl (zaf (zak (v := (zab .i64 0)) rfl ?_)))
 refine zan (zaj (zah rfl (zaf (zai (v := (zab .u32 x)) rfl ?_))))
 obtain ⟨r1, q2, h⟩ := zdo h
 refine zaf (zaw en91 rfl rfl (len32_w N x _ Any r1 q2) ?_)
 rintro _ w4 hE7 ⟨rfl, -⟩
 have hL5 := hL.ext hE7
 refine zaf (zdb (x := 32) (y := r1) (z := (iw (32 - r1))) rfl rfl rfl ?_)
 refine zaf (zak (v := (zab .i64 (iw (32 - r1)))) rfl ?_)
 refine zan (zbj ?_)
 obtain rfl := zag h
 refine ⟨[(zab .i64 (iw (32 - r1)))], ⟨rfl, trivial⟩, ⟨_, rfl, hL5.done, ?_⟩⟩
 exact ⟨rfl, trivial⟩
theorem bdivide_w (N : Nat) (a : (List Int)) (b : (List Int)) (a_v : Value) (b_v : Value) (w : World) (S : Nat → Prop) (a_h : Rs (rInt .u32) (vH w S [] w) a_v a) (b_h : Rs (rInt .u32) (vH w S [] w) b_v b) (r : ((List Int) × (List Int))) (h : bdivide N a b = some r) :
  Calls Try.prog 78 #[a_v, b_v] w (Ret w (fun v w' => ∃ (ob0 : Option Nat) (cap0 : Nat) (cs0 : List Value) (sp0 : List Value) (ob1 : Option Nat) (cap1 : Nat) (cs1 : List Value) (sp1 : List Value), .tuple #[(osv ob0 0 r.1.length cap0), (osv ob1 0 r.2.length cap1)] = v ∧ NewOwn w w' [ob0, ob1] [zac ([] ++ (cs0 ++ sp0)), zac ([] ++ (cs1 ++ sp1))] ∧ Els (rInt .u32) (vH w None [ob0, ob1] w') cs0 r.1 ∧ (cs0 ++ sp0).length = cap0 * (rInt .u32).sz ∧ Els (rInt .u32) (vH w None [ob0, ob1] w') cs1 r.2 ∧ (cs1 ++ sp1).length = cap1 * (rInt .u32).sz ∧ True)) := by
 unfold bdivide at h
 have hL : vL w w [] [] := Go.X.Loc.begin0 w
 refine calls_of (l := [a_v, b_v]) (rl := [.tmp 4, .tmp 5]) (n := 231) Try.func78 rfl rfl rfl (zae rfl) ?_
 refine zaj (zah rfl (zaf (zak (v := (zad none 0 0)) rfl ?_)))
 refine zaf (zak (v := (zad none 0 0)) rfl ?_)
 refine zan (zaj (zaj (zah rfl (zaf (zai (v := a_v) rfl ?_)))))
 refine zaf (zai (v := b_v) rfl ?_)
 obtain ⟨r1, q2, h⟩ := zdo h
 refine zaf (zaw en75 rfl rfl (bcompare_w N a b a_v b_v _ Any (a_h.mono vw_any) (b_h.mono vw_any) r1 q2) ?_)
 rintro _ w4 hE7 ⟨rfl, -⟩
 have hL5 := hL.ext hE7
 have K6 := ke hL hE7
 refine zaf (zcj (x := r1) (y := 0) ((r1 : Int) < 0) rfl rfl zbk ?_)
 refine zan ?_
 refine zbe ((r1 : Int) < 0) rfl (fun hc8 => ?_) (fun hc8 => ?_)
 ·
  replace h := ite_t hc8 h
  refine zaj (zah rfl (zaf (zai (v := a_v) rfl ?_)))
  obtain ⟨r9, q10, h⟩ := zdo h
  have f10 := (a_h.mono (K6 S))
  refine zaf (zaw en83 rfl rfl (btrim_w N a a_v _ Any (f10.mono vw_any) r9 q10) ?_)
  rintro _ w10 hE10 ⟨ob10, cap10, cs10, sp10, rfl, hN10, hE11, hc10, -⟩
  replace hE11 := hE11.mono (zba (S := None) hL5 [ob10])
  have hp10 := hL5.adoptL hE10 hN10
  have hL10 := hp10.1
  refine zaf (zak (v := (zad none 0 0)) rfl ?_)
  refine zaf (zak (v := (osv ob10 0 r9.length cap10)) rfl ?_)
  refine zan ?_
  have hp11 := hL10.addNil
  have hL11 : vL w w10 [none, ob10] [zac ([] ++ ([] ++ [])), zac ([] ++ (cs10 ++ sp10))] := hp11.1
  have K10 := ks w hp11.2
  have hE12 : Els (rInt .u32) (vH w None [none, ob10] w10) [] [] := zcp
  refine zbj ?_
  obtain rfl := zag h
  refine ⟨[(osv none 0 (List.length ([] : (List Int))) 0), (osv ob10 0 r9.length cap10)], ⟨rfl, rfl, trivial⟩, ⟨_, rfl, hL11.done, ?_⟩⟩
  have f11 := (hE11.mono (K10 None))
  exact ⟨none, 0, [], [], ob10, cap10, cs10, sp10, rfl, (hL11.newOwn [0, 1] rfl rfl rfl), (hE12.mono (Hv.pick [0, 1] rfl)), (show ([] ++ [] : List Value).length = 0 * (rInt .u32).sz by simp), (f11.mono (Hv.pick [0, 1] rfl)), hc10, trivial⟩
 ·
  replace h := ite_f hc8 h
  refine zbf (zaj (zaj (zah rfl (zaf (zai (v := b_v) rfl ?_)))))
  have f12 := (b_h.mono (K6 S))
  refine zaf (zbd (v := b_v) zal rfl f12 ?_)
  refine zaf (OpY.eql (x := (b.length : Int)) (y := 1) (((b.length : Int) : Int) = 1) rfl rfl zbk ?_)
  refine zan ?_
  refine zbe (((b.length : Int) : Int) = 1) rfl (fun hc11 => ?_) (fun hc11 => ?_)
  ·
   replace h := ite_t hc11 h
   refine zaj (zah rfl (zaf (zai (v := a_v) rfl ?_)))
   refine zaf (zai (v := b_v) rfl ?_)
   obtain ⟨x10, q11, h⟩ := zdo h
   obtain ⟨n10, q12, q13⟩ := zdu q11
   obtain ⟨b10, o10, c10, vs10, q14, q15, f13, q16⟩ := zcw f12 q13
   obtain rfl := q16
   refine zaf (zbw (r := (rInt .u32)) (v := b_v) (n := n10) (m := (o10 + n10 * (rInt .u32).sz)) zal ti89 rfl q14 rfl q12 q13 rfl ?_)
   refine zaf (zck (v := (zab .u32 x10)) zat rfl rfl zdy f13 ?_)
   obtain ⟨r10, q17, h⟩ := zdo h
   have f14 := (a_h.mono (K6 S))
   refine zaf (zaw en86 rfl rfl (bshort_w N a x10 a_v _ Any (f14.mono vw_any) r10 q17) ?_)
   rintro _ w11 hE13 ⟨ob11, cap11, cs11, sp11, rfl, hN11, hE14, hc12, -⟩
   replace hE14 := hE14.mono (zba (S := None) hL5 [ob11])
   have hp12 := hL5.adoptL hE13 hN11
   have hL12 := hp12.1
   refine zaf (zai (v := (Value.tuple #[(osv ob11 0 r10.1.length cap11), (zab .u32 r10.2)])) rfl ?_)
   refine zaf (zcx (vs := [(osv ob11 0 r10.1.length cap11), (zab .u32 r10.2)]) (v := (osv ob11 0 r10.1.length cap11)) rfl rfl ?_)
   refine zaf (zcx (vs := [(osv ob11 0 r10.1.length cap11), (zab .u32 r10.2)]) (v := (zab .u32 r10.2)) rfl rfl ?_)
   refine zaf (zak (v := (osv ob11 0 r10.1.length cap11)) rfl ?_)
   refine zaf (zak (v := (zab .u32 r10.2)) rfl ?_)
   refine zan (zaj (zah rfl (zaf (zai (v := (osv ob11 0 r10.1.length cap11)) rfl ?_))))
   obtain ⟨r11, q18, h⟩ := zdo h
   refine zaf (zaw en83 rfl rfl (btrim_w N r10.1 (osv ob11 0 r10.1.length cap11) _ Any (zdv (pre := []) (o := 0) (n := r10.1.length) (cap := cap11) (hL12.at 0 rfl rfl) hE14 vw_any rfl rfl rfl hc12) r11 q18) ?_)
   rintro _ w12 hE15 ⟨ob12, cap12, cs12, sp12, rfl, hN12, hE16, hc13, -⟩
   replace hE16 := hE16.mono (zba (S := None) hL12 [ob12])
   have hp13 := hL12.adoptL hE15 hN12
   have hL13 := hp13.1
   refine zaf (zai (v := (zab .u32 r10.2)) rfl ?_)
   have hE17 : Els (rInt .u32) (vH w None [ob12, ob11] w12) [(zab .u32 r10.2)] [r10.2] := (zcg (a := [(zab .u32 r10.2)]) rfl zcp)
   refine zaf (zch (r := (rInt .u32)) (vs := [(zab .u32 r10.2)]) (css := [[(zab .u32 r10.2)]]) (xs := [r10.2]) zal ti89 (zae rfl) rfl rfl ⟨rfl, rfl, trivial⟩ (zae rfl) hE17 rfl hL13 ?_)
   intro b11 w13 hc14 hL14 hS10
   have K11 := ks w hS10
   obtain ⟨r12, q19, h⟩ := zdo h
   have f15 := (hE17.mono (K11 None))
   refine zaf (zaw en83 rfl rfl (btrim_w N [r10.2] (osv (some b11) 0 1 1) _ Any (zdv (pre := []) (o := 0) (n := 1) (cap := 1) (hL14.at 0 rfl rfl) f15 vw_any rfl rfl rfl hc14) r12 q19) ?_)
   rintro _ w14 hE18 ⟨ob13, cap13, cs13, sp13, rfl, hN13, hE19, hc15, -⟩
   replace hE19 := hE19.mono (zba (S := None) hL14 [ob13])
   have hp14 := hL14.adoptL hE18 hN13
   have hL15 := hp14.1
   have K12 := ks w hp14.2
   refine zaf (zak (v := (osv ob12 0 r11.length cap12)) rfl ?_)
   refine zaf (zak (v := (osv ob13 0 r12.length cap13)) rfl ?_)
   refine zan (zbj ?_)
   obtain rfl := zag h
   refine ⟨[(osv ob12 0 r11.length cap12), (osv ob13 0 r12.length cap13)], ⟨rfl, rfl, trivial⟩, ⟨_, rfl, hL15.done, ?_⟩⟩
   have f16 := ((hE16.mono (K11 None)).mono (K12 None))
   exact ⟨ob12, cap12, cs12, sp12, ob13, cap13, cs13, sp13, rfl, (hL15.newOwn [2, 0] rfl rfl rfl), (f16.mono (Hv.pick [2, 0] rfl)), hc13, (hE19.mono (Hv.pick [2, 0] rfl)), hc15, trivial⟩
  ·
   replace h := ite_f hc11 h
   refine zbf (zaj (zah rfl (zaf (zai (v := b_v) rfl ?_))))
   refine zaf (zai (v := b_v) rfl ?_)
   refine zaf (zbd (v := b_v) zal rfl f12 ?_)
   refine zaf (zdb (x := (b.length : Int)) (y := 1) (z := (iw ((b.length : Int) - 1))) rfl rfl rfl ?_)
   obtain ⟨x11, q20, h⟩ := zdo h
   obtain ⟨n11, q21, q22⟩ := zdu q20
   obtain ⟨b12, o11, c11, vs11, q23, q24, f17, q25⟩ := zcw f12 q22
   obtain rfl := q25
   refine zaf (zbw (r := (rInt .u32)) (v := b_v) (n := n11) (m := (o11 + n11 * (rInt .u32).sz)) zal ti89 rfl q23 rfl q21 q22 rfl ?_)
   refine zaf (zck (v := (zab .u32 x11)) zat rfl rfl zdy f17 ?_)
   obtain ⟨r13, q26, h⟩ := zdo h
   refine zaf (zaw en87 rfl rfl (lz32_w N x11 _ Any r13 q26) ?_)
   rintro _ w15 hE20 ⟨rfl, -⟩
   have hL16 := hL5.ext hE20
   have K13 := ke hL5 hE20
   refine zaf (zbp (x := r13) (z := (uw r13)) zbv Try.underlying105 rfl rfl ?_)
   refine zaf (zak (v := (zab .u64 (uw r13))) rfl ?_)
   refine zan (zaj ?_)
   obtain ⟨r14, q27, h⟩ := zdo h
   obtain ⟨r15, q28, h⟩ := zdo h
   obtain ⟨x12, q29, h⟩ := zdo h
   obtain ⟨m10, n12, q30, q31, q32, q33, q34⟩ := cut_some q29
   refine zcf 10 [[], [], [], [], [], [], [], [], [5], [2]] [] (fun W1 => [.det a_v, .det (zab .u64 (uw r13)), .rel (fun v Z w' => ∃ ob14 cap14 cs14 sp14, (osv ob14 0 r14.length cap14) = v ∧ OwnC w' ob14 (zac ([] ++ (cs14 ++ sp14))) ∧ Els (rInt .u32) (vZ W1 w None [] Z w') cs14 r14 ∧ (cs14 ++ sp14 : List Value).length = cap14 * (rInt .u32).sz ∧ True) footV, .det b_v, .det (zab .u64 (uw r13)), .rel (fun v Z w' => ∃ ob15 cap15 cs15 sp15, (osv ob15 0 r15.length cap15) = v ∧ OwnC w' ob15 (zac ([] ++ (cs15 ++ sp15))) ∧ Els (rInt .u32) (vZ W1 w None [] Z w') cs15 r15 ∧ (cs15 ++ sp15 : List Value).length = cap15 * (rInt .u32).sz ∧ True) footV, .det b_v, .det (zab .i64 (b.length : Int)), .rel (fun v Z w' => ∃ ob15 cap15 cs16 sp16, (osv ob15 0 x12.length cap15) = v ∧ OwnC w' ob15 (zac ([] ++ (cs16 ++ sp16))) ∧ Els (rInt .u32) (vZ W1 w None [] Z w') cs16 x12 ∧ (cs16 ++ sp16 : List Value).length = cap15 * (rInt .u32).sz ∧ True) footV, .rel (fun v Z w' => ∃ ob14 cap14 cs14 sp14, (osv ob14 0 r14.length cap14) = v ∧ OwnC w' ob14 (zac ([] ++ (cs14 ++ sp14))) ∧ Els (rInt .u32) (vZ W1 w None [] Z w') cs14 r14 ∧ (cs14 ++ sp14 : List Value).length = cap14 * (rInt .u32).sz ∧ True) footV]) mixed rfl rfl rfl (fun _ => rfl) (fun _ => rfl) ?_ ?_
   ·
    intro W1 _
    exact ⟨fun v Z Z' w w' hΦ hz _ _ hs => by obtain ⟨ob14, cap14, cs14, sp14, rfl, hO10, hE21, hc16, -⟩ := hΦ; exact ⟨ob14, cap14, cs14, sp14, rfl, (hO10.stay (fun b hb => (zdx (ob := ob14) (o := 0) (n := r14.length) (cap := cap14)).2 (by rw [hb]; exact zax)) hs), (hE21.mono (zcs hz hs)), hc16, trivial⟩, ⟨fun v Z Z' w w' hΦ hz _ _ hs => by obtain ⟨ob15, cap15, cs15, sp15, rfl, hO11, hE22, hc17, -⟩ := hΦ; exact ⟨ob15, cap15, cs15, sp15, rfl, (hO11.stay (fun b hb => (zdx (ob := ob15) (o := 0) (n := r15.length) (cap := cap15)).2 (by rw [hb]; exact zax)) hs), (hE22.mono (zcs hz hs)), hc17, trivial⟩, ⟨fun v Z Z' w w' hΦ hz _ _ hs => by obtain ⟨ob15, cap15, cs16, sp16, rfl, hO12, hE23, hc18, -⟩ := hΦ; exact ⟨ob15, cap15, cs16, sp16, rfl, (hO12.stay (fun b hb => (zdx (ob := ob15) (o := 0) (n := x12.length) (cap := cap15)).2 (by rw [hb]; exact zax)) hs), (hE23.mono (zcs hz hs)), hc18, trivial⟩, ⟨fun v Z Z' w w' hΦ hz _ _ hs => by obtain ⟨ob14, cap14, cs14, sp14, rfl, hO10, hE21, hc16, -⟩ := hΦ; exact ⟨ob14, cap14, cs14, sp14, rfl, (hO10.stay (fun b hb => (zdx (ob := ob14) (o := 0) (n := r14.length) (cap := cap14)).2 (by rw [hb]; exact zax)) hs), (hE21.mono (zcs hz hs)), hc16, trivial⟩, trivial⟩⟩⟩⟩
   ·
    intro w16 hE24
    have hL17 := hL16.ext hE24
    have K14 := ke hL16 hE24
    refine zau (fun _ _ => zav (zai rfl (er rfl))) ?_
    refine zau (fun _ _ => zav (zai rfl (er rfl))) ?_
    refine zct ?_ ?_
    ·
     rintro w19 Z12 hE27 hZ12 ⟨-⟩
     have K15 := ke hL17 hE27
     refine zav (zaw en88 rfl rfl (bshift_w N a (uw r13) a_v _ Any (((((a_h.mono (K6 S)).mono (K13 S)).mono (K14 S)).mono (K15 S)).mono vw_any) r14 q27) ?_)
     rintro _ w20 hE28 ⟨ob14, cap14, cs14, sp14, rfl, hN14, hE21, hc16, -⟩
     exact zcn hE28 hZ12 hN14 (fun b hb => footV_osv.1 hb) ⟨ob14, cap14, cs14, sp14, rfl, hN14.2.2.1, (hE21.mono zdf), hc16, trivial⟩
    intro z2
    refine zau (fun _ _ => zav (zai rfl (er rfl))) ?_
    refine zau (fun _ _ => zav (zai rfl (er rfl))) ?_
    refine zct ?_ ?_
    ·
     rintro w23 Z15 hE31 hZ15 ⟨⟨⟨ob14, cap14, cs14, sp14, rfl, hO10, hE21, hc16, -⟩, hB2⟩, -⟩
     have K16 := ke hL17 hE31
     refine zav (zaw en88 rfl rfl (bshift_w N b (uw r13) b_v _ Any ((((f12.mono (K13 S)).mono (K14 S)).mono (K16 S)).mono vw_any) r15 q28) ?_)
     rintro _ w24 hE32 ⟨ob15, cap15, cs15, sp15, rfl, hN15, hE22, hc17, -⟩
     exact zcn hE32 hZ15 hN15 (fun b hb => footV_osv.1 hb) ⟨ob15, cap15, cs15, sp15, rfl, hN15.2.2.1, (hE22.mono zdf), hc17, trivial⟩
    intro z5
    refine zau (fun _ _ => zav (zai rfl (er rfl))) ?_
    refine zau (fun _ hE34 => zav (zbd (v := b_v) zal rfl (((f12.mono (K13 S)).mono (K14 S)).mono ((ke hL17 hE34) S)) (er rfl))) ?_
    refine zct ?_ ?_
    ·
     rintro w27 Z18 hE35 hZ18 ⟨⟨⟨ob15, cap15, cs15, sp15, rfl, hO11, hE22, hc17, -⟩, hB5⟩, -, -⟩
     refine zav (OpY.cutRowX (pre := []) (r := (rInt .u32)) (o := 0) (n := r15.length) (h' := n12) zal ti89 rfl rfl hO11 hE22 rfl hc17 (.inr ⟨_, _, rfl, by rw [← q31]; rfl⟩) q33 q30 q34 ?_)
     intro cs16 sp16 q35 hE23
     exact Made.take (fun b hb => hB5 b ((zdx (o := 0) (n := r15.length) (cap := cap15)).2 hb)) (fun b hb => List.mem_append_left _ ((zdx (o := 0) (n := r15.length) (cap := cap15)).2 (by rw [← hb]; exact zax))) (fun b hb => (zdx (ob := ob15) (o := 0) (n := x12.length) (cap := cap15)).1 hb) ⟨ob15, cap15, cs16, sp16, rfl, (by rw [q35]; exact hO11), hE23, (by rw [q35]; exact hc17), trivial⟩
    intro z8
    refine zct ?_ ?_
    ·
     rintro w28 Z19 hE36 hZ19 ⟨-, -, ⟨⟨ob14, cap14, cs14, sp14, rfl, hO10, hE21, hc16, -⟩, hB2⟩, -⟩
     refine zav (zak (v := (osv ob14 0 r14.length cap14)) rfl ?_)
     exact Made.take (fun b hb => hB2 b ((zdx (o := 0) (n := r14.length) (cap := cap14)).2 hb)) (fun b hb => List.mem_append_left _ ((zdx (o := 0) (n := r14.length) (cap := cap14)).2 (by rw [← hb]; exact zax))) (fun b hb => (zdx (ob := ob14) (o := 0) (n := r14.length) (cap := cap14)).1 hb) ⟨ob14, cap14, cs14, sp14, rfl, hO10, hE21, hc16, trivial⟩
    intro z9
    refine zco ?_
    rintro w29 Z20 hE37 hZ20 ⟨⟨⟨ob14, cap14, cs14, sp14, rfl, hO10, hE21, hc16, -⟩, hB9⟩, ⟨⟨ob15, cap15, cs16, sp16, rfl, hO12, hE23, hc18, -⟩, hB8⟩, -, -, -⟩ ap10
    have hB10 : ∀ b, some b ∈ ([ob14, ob15] : List (Option Nat)) → w16.heap.size ≤ b ∧ ¬ Z20 b := by
     intro b hb
     rcases List.mem_cons.1 hb with hb' | hb
     ·
      have := hB9 b ((zdx (ob := ob14) (o := 0) (n := r14.length) (cap := cap14)).2 (by rw [hb']; exact zax)); exact ⟨this.1, this.2.2⟩
     rcases List.mem_cons.1 hb with hb' | hb
     ·
      have := hB8 b ((zdx (ob := ob15) (o := 0) (n := x12.length) (cap := cap15)).2 (by rw [hb']; exact zax)); exact ⟨this.1, this.2.2⟩
     cases hb
    replace hE21 := hE21.mono (zdc hL17 hZ20 hB10)
    replace hE23 := hE23.mono (zdc hL17 hZ20 hB10)
    have hN16 : NewOwn w16 w29 [ob14, ob15] [zac ([] ++ (cs14 ++ sp14)), zac ([] ++ (cs16 ++ sp16))] := (zda (zda zcb hO12 (fun b hb => (hB10 b (by rw [← hb]; simp)).1) (fun b _ hb => by cases hb)) hO10 (fun b hb => (hB10 b (by rw [← hb]; simp)).1) (fun b hb hm => (List.mem_cons.1 hm).elim (fun e => apE (ap10.1) rfl rfl b ((zdx (ob := ob14) (o := 0) (n := r14.length) (cap := cap14)).2 hb) ((zdx (ob := ob15) (o := 0) (n := x12.length) (cap := cap15)).2 (by rw [e]; exact zax))) (fun hm => by cases hm)))
    have hp15 := hL17.adoptL hE37 hN16
    have hL18 := hp15.1
    have K18 := ks w hp15.2
    refine zaf (zak (v := (osv ob15 0 x12.length cap15)) rfl ?_)
    refine zan (zaj (zah rfl (zaf (zai (v := b_v) rfl ?_))))
    have f18 := (((f12.mono (K13 S)).mono (K14 S)).mono (K18 S))
    refine zaf (zbd (v := b_v) zal rfl f18 ?_)
    refine zaf (zak (v := (zab .i64 (b.length : Int))) rfl ?_)
    refine zan (zaj (zah rfl (zaf (zai (v := (osv ob14 0 r14.length cap14)) rfl ?_))))
    refine zaf (OpY.lenRow (pre := []) (r := (rInt .u32)) (xs := r14) zal rfl (hL18.at 0 rfl rfl) hE21 rfl rfl ?_)
    refine zaf (zai (v := (zab .i64 (b.length : Int))) rfl ?_)
    refine zaf (zdb (x := (r14.length : Int)) (y := (b.length : Int)) (z := (iw ((r14.length : Int) - (b.length : Int)))) rfl rfl rfl ?_)
    obtain ⟨x13, q36, h⟩ := zdo h
    obtain ⟨m11, q37, q38, q39, q40⟩ := mk1_some q36
    refine zaf (OpY.mkRowX (r := (rInt .u32)) (H := (vH w None [ob14, ob15] w29)) (zc := [(zab .u32 0)]) (x := 0) zal ti89 rfl rfl rfl rfl q37 q38 q39 q40 hL18 ?_)
    intro b13 w30 cs17 hE38 hc19 hL19 hS11
    have K19 := ks w hS11
    refine zaf (zak (v := (osv (some b13) 0 x13.length m11)) rfl ?_)
    refine zan (zaj (zaj (zah rfl (zaf (zai (v := (osv (some b13) 0 x13.length m11)) rfl ?_)))))
    have f19 := (hE38.mono (K19 None))
    refine zaf (OpY.lenRow (pre := []) (r := (rInt .u32)) (xs := x13) zal rfl (hL19.at 0 rfl rfl) f19 rfl rfl ?_)
    refine zaf (zdb (x := (x13.length : Int)) (y := 1) (z := (iw ((x13.length : Int) - 1))) rfl rfl rfl ?_)
    refine zaf (zak (v := (zab .i64 (iw ((x13.length : Int) - 1)))) rfl ?_)
    refine zan ?_
    obtain ⟨s10, hl10, g10⟩ := zdo h
    refine zbr (fun e w' => ∃ (u10 : (List Int)) (q41 : (List Int)) (cs18 : List Value) (cs19 : List Value) (u : Env), (u10, q41) = s10 ∧ e = upds [(8, (zab .u64 (uw r13))), (9, (osv ob14 0 r14.length cap14)), (11, (zab .i64 (b.length : Int))), (12, (osv (some b13) 0 x13.length m11))] u ∧ vL w w' [ob14, some b13] [zac ([] ++ (cs18 ++ sp14)), zac ([] ++ (cs19 ++ []))] ∧ Keep w.heap.size [some b13, ob14, ob15] w30 [ob14, some b13] w' ∧ Els (rInt .u32) (vH w None [ob14, some b13] w') cs18 u10 ∧ r14.length = List.length u10 ∧ (cs18 ++ sp14).length = cap14 * (rInt .u32).sz ∧ Els (rInt .u32) (vH w None [ob14, some b13] w') cs19 q41 ∧ x13.length = List.length q41 ∧ (cs19 ++ []).length = m11 * (rInt .u32).sz ∧ True) ?_ ?_
    ·
     refine zbh ?_
     have hp16 := hL19.pick [1, 2, 0] rfl rfl rfl
     have hL20 : vL w w30 [ob14, ob15, some b13] [zac ([] ++ (cs14 ++ sp14)), zac ([] ++ (cs16 ++ sp16)), zac ([] ++ (cs17 ++ []))] := hp16.1
     have K20 := ks w hp16.2
     have f20 := ((hE21.mono (K19 None)).mono (K20 None))
     have f21 := (f19.mono (K20 None))
     refine zce hl10 (fun (ss : ((List Int) × (List Int) × Int)) (e : Env) (w' : World) => match ss with | (u11, q42, i10) => ∃ (cs20 : List Value) (cs21 : List Value) (u : Env), e = upds [(8, (zab .u64 (uw r13))), (9, (osv ob14 0 r14.length cap14)), (10, (osv ob15 0 x12.length cap15)), (11, (zab .i64 (b.length : Int))), (12, (osv (some b13) 0 x13.length m11)), (13, (zab .i64 i10))] u ∧ vL w w' [ob14, ob15, some b13] [zac ([] ++ (cs20 ++ sp14)), zac ([] ++ (cs16 ++ sp16)), zac ([] ++ (cs21 ++ []))] ∧ Keep w.heap.size [some b13, ob14, ob15] w30 [ob14, ob15, some b13] w' ∧ Els (rInt .u32) (vH w None [ob14, ob15, some b13] w') cs20 u11 ∧ r14.length = List.length u11 ∧ (cs20 ++ sp14).length = cap14 * (rInt .u32).sz ∧ Els (rInt .u32) (vH w None [ob14, ob15, some b13] w') cs21 q42 ∧ x13.length = List.length q42 ∧ (cs21 ++ []).length = m11 * (rInt .u32).sz ∧ True) ⟨cs14, cs17, _, (zdt ⟨rfl, rfl, rfl, rfl, rfl, rfl, trivial⟩), hL20, K20, f20, rfl, hc16, f21, rfl, hc19, trivial⟩ ?_
     rintro ⟨u11, q42, i10⟩ oo _ w31 ⟨cs20, cs21, u, rfl, hL21, K21, hE39, hl11, hc20, hE40, hl12, hc21, -⟩ h hd10
     rw [bdivide_b1] at h
     refine zaj (zaj (zah rfl (zaf (zai (v := (zab .i64 i10)) rfl ?_))))
     refine zaf (OpY.geq (x := i10) (y := 0) ((i10 : Int) ≥ 0) rfl rfl zbk ?_)
     refine zan ?_
     refine zbe ((i10 : Int) ≥ 0) rfl (fun hc22 => ?_) (fun hc22 => ?_)
     ·
      replace h := ite_t hc22 h
      refine zbf (zaj (zbh (zaj ?_)))
      obtain ⟨x14, q43, h⟩ := zdo h
      obtain ⟨n13, q44, q45⟩ := zdu q43
      have q46 := (List.getElem?_eq_some_iff.1 q45).1
      obtain ⟨b14, hb10⟩ := hL21.row_some 0 rfl rfl (row_pos (pre := []) hE39 q45 (Nat.lt_of_sub_eq_succ rfl))
      obtain ⟨vs12, q47, q48, q49⟩ := zed (pre := []) (sp := sp14) hE39 q45
      obtain rfl := q48
      obtain ⟨x15, q50, h⟩ := zdo h
      obtain ⟨n14, q51, q52⟩ := zdu q50
      have q53 := (List.getElem?_eq_some_iff.1 q52).1
      obtain ⟨vs13, q54, q55, q56⟩ := zed (pre := []) (sp := sp14) hE39 q52
      obtain rfl := q55
      refine zcf 16 [] [] (fun W1 => [.det (osv ob14 0 r14.length cap14), .det (zab .i64 i10), .det (zab .i64 (b.length : Int)), .det (zab .i64 (iw (i10 + (b.length : Int)))), .det (zao (some ⟨b14, (0 + n13 * (rInt .u32).sz), none⟩)), .det (zab .u32 x14), .det (zab .u64 (uw x14)), .det (zab .u64 (bshl .u64 (uw x14) 32)), .det (osv ob14 0 r14.length cap14), .det (zab .i64 i10), .det (zab .i64 (b.length : Int)), .det (zab .i64 (iw (i10 + (b.length : Int)))), .det (zab .i64 (iw ((iw (i10 + (b.length : Int))) - 1))), .det (zao (some ⟨b14, (0 + n14 * (rInt .u32).sz), none⟩)), .det (zab .u32 x15), .det (zab .u64 (uw x15))]) mixed rfl rfl rfl (fun _ => rfl) (fun _ => rfl) ?_ ?_
      ·
       intro W1 _
       exact trivial
      ·
       intro w32 hE41
       have hL22 := hL21.ext hE41
       have K22 := ke hL21 hE41
       refine zau (fun _ _ => zav (zai rfl (er rfl))) ?_
       refine zau (fun _ _ => zav (zai rfl (er rfl))) ?_
       refine zau (fun _ _ => zav (zai rfl (er rfl))) ?_
       refine zau (fun _ _ => zav (zby rfl rfl rfl (er rfl))) ?_
       refine zau (fun _ _ => zav (zcl (r := (rInt .u32)) (b := b14) (o := 0) (n := n13) (m := r14.length) (xs := u11) (q := (0 + n13 * (rInt .u32).sz)) zal ti89 (osv_some hb10) hl11 rfl q44 q46 rfl (er rfl))) ?_
       refine zau (fun _ hE47 => zav (zdd zat rfl rfl (own_some hb10 ((hL22.ext hE47).at 0 rfl rfl)) q49 (er rfl))) ?_
       refine zau (fun _ _ => zav (zbp zat zbc rfl rfl (er rfl))) ?_
       refine zau (fun _ _ => zav (OpY.ishl rfl rfl (by decide) (er rfl))) ?_
       refine zau (fun _ _ => zav (zai rfl (er rfl))) ?_
       refine zau (fun _ _ => zav (zai rfl (er rfl))) ?_
       refine zau (fun _ _ => zav (zai rfl (er rfl))) ?_
       refine zau (fun _ _ => zav (zby rfl rfl rfl (er rfl))) ?_
       refine zau (fun _ _ => zav (zdb rfl rfl rfl (er rfl))) ?_
       refine zau (fun _ _ => zav (zcl (r := (rInt .u32)) (b := b14) (o := 0) (n := n14) (m := r14.length) (xs := u11) (q := (0 + n14 * (rInt .u32).sz)) zal ti89 (osv_some hb10) hl11 rfl q51 q53 rfl (er rfl))) ?_
       refine zau (fun _ hE56 => zav (zdd zat rfl rfl (own_some hb10 ((hL22.ext hE56).at 0 rfl rfl)) q56 (er rfl))) ?_
       refine zau (fun _ _ => zav (zbp zat zbc rfl rfl (er rfl))) ?_
       refine zco ?_
       rintro w49 Z37 hE58 hZ37 ⟨-⟩ ap11
       have hB11 : ∀ b, some b ∈ ([] : List (Option Nat)) → w32.heap.size ≤ b ∧ ¬ Z37 b := by
        intro b hb; cases hb
       have hL25 := hL22.ext hE58
       have K23 := ke hL22 hE58
       refine zaf (OpY.ior (x := (bshl .u64 (uw x14) 32)) (y := (uw x15)) rfl rfl ?_)
       refine zaf (zak (v := (zab .u64 (bor .u64 (bshl .u64 (uw x14) 32) (uw x15)))) rfl ?_)
       refine zan (zaj (zah rfl (zaf (zai (v := (zab .u64 (bor .u64 (bshl .u64 (uw x14) 32) (uw x15)))) rfl ?_))))
       refine zaf (zai (v := (osv ob15 0 x12.length cap15)) rfl ?_)
       refine zaf (zai (v := (zab .i64 (b.length : Int))) rfl ?_)
       refine zaf (zdb (x := (b.length : Int)) (y := 1) (z := (iw ((b.length : Int) - 1))) rfl rfl rfl ?_)
       obtain ⟨x16, q57, h⟩ := zdo h
       obtain ⟨n15, q58, q59⟩ := zdu q57
       have q60 := (List.getElem?_eq_some_iff.1 q59).1
       have f22 := ((((hE23.mono (K19 None)).mono (K21 None)).mono (K22 None)).mono (K23 None))
       obtain ⟨b15, hb11⟩ := hL25.row_some 1 rfl rfl (row_pos (pre := []) f22 q59 (Nat.lt_of_sub_eq_succ rfl))
       refine zaf (zcl (r := (rInt .u32)) (b := b15) (o := 0) (n := n15) (m := x12.length) (xs := x12) (q := (0 + n15 * (rInt .u32).sz)) zal ti89 (osv_some hb11) rfl rfl q58 q60 rfl ?_)
       obtain ⟨vs14, q61, q62, q63⟩ := zed (pre := []) (sp := sp16) f22 q59
       obtain rfl := q62
       refine zaf (zdd (v := (zab .u32 x16)) zat rfl rfl (own_some hb11 (hL25.at 1 rfl rfl)) q63 ?_)
       refine zaf (zbp (x := x16) (z := (uw x16)) zat zbc rfl rfl ?_)
       obtain ⟨x17, q64, h⟩ := zdo h
       obtain ⟨q65, q66⟩ := sdiv_some q64
       refine zaf (OpY.quoI (x := (bor .u64 (bshl .u64 (uw x14) 32) (uw x15))) (y := (uw x16)) (z := x17) rfl rfl q65 q66 ?_)
       refine zaf (zak (v := (zab .u64 x17)) rfl ?_)
       refine zan (zaj (zah rfl (zaf (zai (v := (zab .u64 (bor .u64 (bshl .u64 (uw x14) 32) (uw x15)))) rfl ?_))))
       refine zaf (zai (v := (osv ob15 0 x12.length cap15)) rfl ?_)
       refine zaf (zai (v := (zab .i64 (b.length : Int))) rfl ?_)
       refine zaf (zdb (x := (b.length : Int)) (y := 1) (z := (iw ((b.length : Int) - 1))) rfl rfl rfl ?_)
       obtain ⟨x18, q67, h⟩ := zdo h
       obtain ⟨n16, q68, q69⟩ := zdu q67
       have q70 := (List.getElem?_eq_some_iff.1 q69).1
       refine zaf (zcl (r := (rInt .u32)) (b := b15) (o := 0) (n := n16) (m := x12.length) (xs := x12) (q := (0 + n16 * (rInt .u32).sz)) zal ti89 (osv_some hb11) rfl rfl q68 q70 rfl ?_)
       obtain ⟨vs15, q71, q72, q73⟩ := zed (pre := []) (sp := sp16) f22 q69
       obtain rfl := q72
       refine zaf (zdd (v := (zab .u32 x18)) zat rfl rfl (own_some hb11 (hL25.at 1 rfl rfl)) q73 ?_)
       refine zaf (zbp (x := x18) (z := (uw x18)) zat zbc rfl rfl ?_)
       obtain ⟨x19, q74, h⟩ := zdo h
       obtain ⟨q75, q76⟩ := srem_some q74
       subst q76
       refine zaf (OpY.remI (x := (bor .u64 (bshl .u64 (uw x14) 32) (uw x15))) (y := (uw x18)) rfl rfl q75 ?_)
       refine zaf (zak (v := (zab .u64 (Int.tmod (bor .u64 (bshl .u64 (uw x14) 32) (uw x15)) (uw x18)))) rfl ?_)
       refine zan (zaj ?_)
       obtain ⟨s11, hl13, g11⟩ := zdo h
       refine zbr (fun e w' => ∃ (guess10 : Int) (u : Env), guess10 = s11 ∧ e = upds [(8, (zab .u64 (uw r13))), (9, (osv ob14 0 r14.length cap14)), (10, (osv ob15 0 x12.length cap15)), (11, (zab .i64 (b.length : Int))), (12, (osv (some b13) 0 x13.length m11)), (13, (zab .i64 i10)), (15, (zab .u64 guess10))] u ∧ vL w w' [ob14, ob15, some b13] [zac ([] ++ (cs20 ++ sp14)), zac ([] ++ (cs16 ++ sp16)), zac ([] ++ (cs21 ++ []))] ∧ Keep w.heap.size [ob14, ob15, some b13] w49 [ob14, ob15, some b13] w' ∧ True) ?_ ?_
       ·
        refine zbh ?_
        refine zce hl13 (fun (ss : (Int × Int)) (e : Env) (w' : World) => match ss with | (guess11, rest10) => ∃ (u : Env), e = upds [(8, (zab .u64 (uw r13))), (9, (osv ob14 0 r14.length cap14)), (10, (osv ob15 0 x12.length cap15)), (11, (zab .i64 (b.length : Int))), (12, (osv (some b13) 0 x13.length m11)), (13, (zab .i64 i10)), (15, (zab .u64 guess11)), (16, (zab .u64 rest10))] u ∧ vL w w' [ob14, ob15, some b13] [zac ([] ++ (cs20 ++ sp14)), zac ([] ++ (cs16 ++ sp16)), zac ([] ++ (cs21 ++ []))] ∧ Keep w.heap.size [ob14, ob15, some b13] w49 [ob14, ob15, some b13] w' ∧ True) ⟨_, (zdt ⟨rfl, rfl, rfl, rfl, rfl, rfl, rfl, rfl, trivial⟩), hL25, zbo, trivial⟩ ?_
        rintro ⟨guess11, rest10⟩ oo _ w50 ⟨u, rfl, hL26, K24, -⟩ h hd11
        rw [bdivide_b2] at h
        refine zaj (zaj ?_)
        obtain ⟨s12, h, g12⟩ := zdo h
        refine zbr (fun e w' => ∃ (x20 : Bool) (u : Env), x20 = s12 ∧ e = upds [(8, (zab .u64 (uw r13))), (9, (osv ob14 0 r14.length cap14)), (10, (osv ob15 0 x12.length cap15)), (11, (zab .i64 (b.length : Int))), (12, (osv (some b13) 0 x13.length m11)), (13, (zab .i64 i10)), (15, (zab .u64 guess11)), (16, (zab .u64 rest10)), (130, (zaa x20))] u ∧ vL w w' [ob14, ob15, some b13] [zac ([] ++ (cs20 ++ sp14)), zac ([] ++ (cs16 ++ sp16)), zac ([] ++ (cs21 ++ []))] ∧ Keep w.heap.size [ob14, ob15, some b13] w50 [ob14, ob15, some b13] w' ∧ True) ?_ ?_
        ·
         by_cases hc23 : (guess11 : Int) > 4294967295
         ·
          replace h := ite_t hc23 h
          refine zcf 22 [] [] (fun W1 => [.det (zab .u64 guess11), .det (zaa (decide ((guess11 : Int) > 4294967295))), .det (zaa (decide ((guess11 : Int) > 4294967295))), .det undef, .det undef, .det undef, .det undef, .det undef, .det undef, .det undef, .det undef, .det undef, .det undef, .det undef, .det undef, .det undef, .det undef, .det undef, .det undef, .det undef, .det undef, .det undef]) mixed rfl rfl rfl (fun _ => rfl) (fun _ => rfl) ?_ ?_
          ·
           intro W1 _
           exact trivial
          ·
           intro w51 hE59
           have hL27 := hL26.ext hE59
           have K25 := ke hL26 hE59
           refine zau (fun _ _ => zav (zai rfl (er rfl))) ?_
           refine zau (fun _ _ => zav (zdm ((guess11 : Int) > 4294967295) rfl rfl zbk (er rfl))) ?_
           refine zau (fun _ _ => zav (zai rfl (er rfl))) ?_
           refine zau (fun _ _ => zdl rfl rfl (zdr hc23) (er rfl)) ?_
           refine zau (fun _ _ => zdl rfl rfl (zdr hc23) (er rfl)) ?_
           refine zau (fun _ _ => zdl rfl rfl (zdr hc23) (er rfl)) ?_
           refine zau (fun _ _ => zdl rfl rfl (zdr hc23) (er rfl)) ?_
           refine zau (fun _ _ => zdl rfl rfl (zdr hc23) (er rfl)) ?_
           refine zau (fun _ _ => zdl rfl rfl (zdr hc23) (er rfl)) ?_
           refine zau (fun _ _ => zdl rfl rfl (zdr hc23) (er rfl)) ?_
           refine zau (fun _ _ => zdl rfl rfl (zdr hc23) (er rfl)) ?_
           refine zau (fun _ _ => zdl rfl rfl (zdr hc23) (er rfl)) ?_
           refine zau (fun _ _ => zdl rfl rfl (zdr hc23) (er rfl)) ?_
           refine zau (fun _ _ => zdl rfl rfl (zdr hc23) (er rfl)) ?_
           refine zau (fun _ _ => zdl rfl rfl (zdr hc23) (er rfl)) ?_
           refine zau (fun _ _ => zdl rfl rfl (zdr hc23) (er rfl)) ?_
           refine zau (fun _ _ => zdl rfl rfl (zdr hc23) (er rfl)) ?_
           refine zau (fun _ _ => zdl rfl rfl (zdr hc23) (er rfl)) ?_
           refine zau (fun _ _ => zdl rfl rfl (zdr hc23) (er rfl)) ?_
           refine zau (fun _ _ => zdl rfl rfl (zdr hc23) (er rfl)) ?_
           refine zau (fun _ _ => zdl rfl rfl (zdr hc23) (er rfl)) ?_
           refine zau (fun _ _ => zdl rfl rfl (zdr hc23) (er rfl)) ?_
           refine zco ?_
           rintro w74 Z60 hE82 hZ60 ⟨-⟩ ap12
           have hB12 : ∀ b, some b ∈ ([] : List (Option Nat)) → w51.heap.size ≤ b ∧ ¬ Z60 b := by
            intro b hb; cases hb
           have hL28 := hL27.ext hE82
           have K26 := ke hL27 hE82
           refine zbq rfl rfl (zdr hc23) ?_
           refine zaf (zci (t := (decide ((guess11 : Int) > 4294967295))) (v := (zaa true)) rfl (zdr hc23) rfl ?_)
           refine zan ?_
           obtain rfl := zag h
           refine zar ?_
           exact ⟨true, _, rfl, (zdt ⟨rfl, rfl, rfl, rfl, rfl, rfl, rfl, rfl, rfl, trivial⟩), hL28, (zaq K25 K26), trivial⟩
         ·
          replace h := ite_f hc23 h
          obtain ⟨x21, q77, h⟩ := zdo h
          obtain ⟨n17, q78, q79⟩ := zdu q77
          have q80 := (List.getElem?_eq_some_iff.1 q79).1
          have f23 := (f22.mono (K24 None))
          obtain ⟨b16, hb12⟩ := hL26.row_some 1 rfl rfl (row_pos (pre := []) f23 q79 (Nat.lt_of_sub_eq_succ rfl))
          obtain ⟨vs16, q81, q82, q83⟩ := zed (pre := []) (sp := sp16) f23 q79
          obtain rfl := q82
          obtain ⟨x22, q84, h⟩ := zdo h
          obtain ⟨n18, q85, q86⟩ := zdu q84
          have q87 := (List.getElem?_eq_some_iff.1 q86).1
          have f24 := (((hE39.mono (K22 None)).mono (K23 None)).mono (K24 None))
          obtain ⟨b17, hb13⟩ := hL26.row_some 0 rfl rfl (row_pos (pre := []) f24 q86 (Nat.lt_of_sub_eq_succ rfl))
          obtain ⟨vs17, q88, q89, q90⟩ := zed (pre := []) (sp := sp14) f24 q86
          obtain rfl := q89
          refine zcf 22 [] [] (fun W1 => [.det (zab .u64 guess11), .det (zaa (decide ((guess11 : Int) > 4294967295))), .det (zaa (decide ((guess11 : Int) > 4294967295))), .det (zab .u64 guess11), .det (osv ob15 0 x12.length cap15), .det (zab .i64 (b.length : Int)), .det (zab .i64 (iw ((b.length : Int) - 2))), .det (zao (some ⟨b16, (0 + n17 * (rInt .u32).sz), none⟩)), .det (zab .u32 x21), .det (zab .u64 (uw x21)), .det (zab .u64 (uw (guess11 * (uw x21)))), .det (zab .u64 rest10), .det (zab .u64 (bshl .u64 rest10 32)), .det (osv ob14 0 r14.length cap14), .det (zab .i64 i10), .det (zab .i64 (b.length : Int)), .det (zab .i64 (iw (i10 + (b.length : Int)))), .det (zab .i64 (iw ((iw (i10 + (b.length : Int))) - 2))), .det (zao (some ⟨b17, (0 + n18 * (rInt .u32).sz), none⟩)), .det (zab .u32 x22), .det (zab .u64 (uw x22)), .det (zab .u64 (bor .u64 (bshl .u64 rest10 32) (uw x22)))]) mixed rfl rfl rfl (fun _ => rfl) (fun _ => rfl) ?_ ?_
          ·
           intro W1 _
           exact trivial
          ·
           intro w75 hE83
           have hL29 := hL26.ext hE83
           have K27 := ke hL26 hE83
           refine zau (fun _ _ => zav (zai rfl (er rfl))) ?_
           refine zau (fun _ _ => zav (zdm ((guess11 : Int) > 4294967295) rfl rfl zbk (er rfl))) ?_
           refine zau (fun _ _ => zav (zai rfl (er rfl))) ?_
           refine zau (fun _ _ => zdg rfl rfl (zdq hc23) (zai rfl (er rfl))) ?_
           refine zau (fun _ _ => zdg rfl rfl (zdq hc23) (zai rfl (er rfl))) ?_
           refine zau (fun _ _ => zdg rfl rfl (zdq hc23) (zai rfl (er rfl))) ?_
           refine zau (fun _ _ => zdg rfl rfl (zdq hc23) (zdb rfl rfl rfl (er rfl))) ?_
           refine zau (fun _ _ => zdg rfl rfl (zdq hc23) (zcl (r := (rInt .u32)) (b := b16) (o := 0) (n := n17) (m := x12.length) (xs := x12) (q := (0 + n17 * (rInt .u32).sz)) zal ti89 (osv_some hb12) rfl rfl q78 q80 rfl (er rfl))) ?_
           refine zau (fun _ hE92 => zdg rfl rfl (zdq hc23) (zdd zat rfl rfl (own_some hb12 ((hL29.ext hE92).at 1 rfl rfl)) q83 (er rfl))) ?_
           refine zau (fun _ _ => zdg rfl rfl (zdq hc23) (zbp zat zbc rfl rfl (er rfl))) ?_
           refine zau (fun _ _ => zdg rfl rfl (zdq hc23) (OpY.mul rfl rfl rfl (er rfl))) ?_
           refine zau (fun _ _ => zdg rfl rfl (zdq hc23) (zai rfl (er rfl))) ?_
           refine zau (fun _ _ => zdg rfl rfl (zdq hc23) (OpY.ishl rfl rfl (by decide) (er rfl))) ?_
           refine zau (fun _ _ => zdg rfl rfl (zdq hc23) (zai rfl (er rfl))) ?_
           refine zau (fun _ _ => zdg rfl rfl (zdq hc23) (zai rfl (er rfl))) ?_
           refine zau (fun _ _ => zdg rfl rfl (zdq hc23) (zai rfl (er rfl))) ?_
           refine zau (fun _ _ => zdg rfl rfl (zdq hc23) (zby rfl rfl rfl (er rfl))) ?_
           refine zau (fun _ _ => zdg rfl rfl (zdq hc23) (zdb rfl rfl rfl (er rfl))) ?_
           refine zau (fun _ _ => zdg rfl rfl (zdq hc23) (zcl (r := (rInt .u32)) (b := b17) (o := 0) (n := n18) (m := r14.length) (xs := u11) (q := (0 + n18 * (rInt .u32).sz)) zal ti89 (osv_some hb13) hl11 rfl q85 q87 rfl (er rfl))) ?_
           refine zau (fun _ hE103 => zdg rfl rfl (zdq hc23) (zdd zat rfl rfl (own_some hb13 ((hL29.ext hE103).at 0 rfl rfl)) q90 (er rfl))) ?_
           refine zau (fun _ _ => zdg rfl rfl (zdq hc23) (zbp zat zbc rfl rfl (er rfl))) ?_
           refine zau (fun _ _ => zdg rfl rfl (zdq hc23) (OpY.ior rfl rfl (er rfl))) ?_
           refine zco ?_
           rintro w98 Z83 hE106 hZ83 ⟨-⟩ ap13
           have hB13 : ∀ b, some b ∈ ([] : List (Option Nat)) → w75.heap.size ≤ b ∧ ¬ Z83 b := by
            intro b hb; cases hb
           have hL32 := hL29.ext hE106
           have K28 := ke hL29 hE106
           refine zbu rfl rfl (zdq hc23) (zdm (x := (uw (guess11 * (uw x21)))) (y := (bor .u64 (bshl .u64 rest10 32) (uw x22))) (((uw (guess11 * (uw x21))) : Int) > (bor .u64 (bshl .u64 rest10 32) (uw x22))) rfl rfl zbk ?_)
           refine zaf (zbx (t := (decide ((guess11 : Int) > 4294967295))) (v := (zaa (decide (((uw (guess11 * (uw x21))) : Int) > (bor .u64 (bshl .u64 rest10 32) (uw x22)))))) rfl (zdq hc23) rfl ?_)
           refine zan ?_
           obtain rfl := zag h
           refine zar ?_
           exact ⟨(decide (((uw (guess11 * (uw x21))) : Int) > (bor .u64 (bshl .u64 rest10 32) (uw x22)))), _, rfl, (zdt ⟨rfl, rfl, rfl, rfl, rfl, rfl, rfl, rfl, rfl, trivial⟩), hL32, (zaq K27 K28), trivial⟩
        ·
         rintro _ w99 ⟨x20, u, rfl, rfl, hL33, K29, -⟩
         replace h := g12
         try dsimp only at h
         refine zcr x20 rfl (fun hc24 => ?_) (fun hc24 => ?_)
         ·
          replace h := ite_t hc24 h
          refine zbf (zbh (zaj (zah rfl (zaf (zai (v := (zab .u64 guess11)) rfl ?_)))))
          refine zaf (zdb (x := guess11) (y := 1) (z := (uw (guess11 - 1))) rfl rfl rfl ?_)
          refine zaf (zak (v := (zab .u64 (uw (guess11 - 1)))) rfl ?_)
          refine zan (zaj (zah rfl (zaf (zai (v := (zab .u64 rest10)) rfl ?_))))
          refine zaf (zai (v := (osv ob15 0 x12.length cap15)) rfl ?_)
          refine zaf (zai (v := (zab .i64 (b.length : Int))) rfl ?_)
          refine zaf (zdb (x := (b.length : Int)) (y := 1) (z := (iw ((b.length : Int) - 1))) rfl rfl rfl ?_)
          obtain ⟨x23, q91, h⟩ := zdo h
          obtain ⟨n19, q92, q93⟩ := zdu q91
          have q94 := (List.getElem?_eq_some_iff.1 q93).1
          have f25 := ((f22.mono (K24 None)).mono (K29 None))
          obtain ⟨b18, hb14⟩ := hL33.row_some 1 rfl rfl (row_pos (pre := []) f25 q93 (Nat.lt_of_sub_eq_succ rfl))
          refine zaf (zcl (r := (rInt .u32)) (b := b18) (o := 0) (n := n19) (m := x12.length) (xs := x12) (q := (0 + n19 * (rInt .u32).sz)) zal ti89 (osv_some hb14) rfl rfl q92 q94 rfl ?_)
          obtain ⟨vs18, q95, q96, q97⟩ := zed (pre := []) (sp := sp16) f25 q93
          obtain rfl := q96
          refine zaf (zdd (v := (zab .u32 x23)) zat rfl rfl (own_some hb14 (hL33.at 1 rfl rfl)) q97 ?_)
          refine zaf (zbp (x := x23) (z := (uw x23)) zat zbc rfl rfl ?_)
          refine zaf (zby (x := rest10) (y := (uw x23)) (z := (uw (rest10 + (uw x23)))) rfl rfl rfl ?_)
          refine zaf (zak (v := (zab .u64 (uw (rest10 + (uw x23))))) rfl ?_)
          refine zan (zaj (zah rfl (zaf (zai (v := (zab .u64 (uw (rest10 + (uw x23))))) rfl ?_))))
          refine zaf (zdm (x := (uw (rest10 + (uw x23)))) (y := 4294967295) (((uw (rest10 + (uw x23))) : Int) > 4294967295) rfl rfl zbk ?_)
          refine zan ?_
          refine zbe (((uw (rest10 + (uw x23))) : Int) > 4294967295) rfl (fun hc25 => ?_) (fun hc25 => ?_)
          ·
           replace h := ite_t hc25 h
           refine zcm rfl ?_
           obtain rfl := zag h
           obtain rfl := hd11 _ rfl
           replace h := g11
           try dsimp only at h
           skip
           refine zar ?_
           exact ⟨(uw (guess11 - 1)), _, rfl, (zdt ⟨rfl, rfl, rfl, rfl, rfl, rfl, rfl, trivial⟩), hL33, (zaq K24 K29), trivial⟩
          ·
           replace h := ite_f hc25 h
           refine zbf (zbt ?_)
           obtain rfl := zag h
           refine zar ⟨((uw (guess11 - 1)), (uw (rest10 + (uw x23)))), rfl, ?_⟩
           exact ⟨_, (zdt ⟨rfl, rfl, rfl, rfl, rfl, rfl, rfl, rfl, trivial⟩), hL33, (zaq K24 K29), trivial⟩
         ·
          replace h := ite_f hc24 h
          refine zcm rfl ?_
          obtain rfl := zag h
          obtain rfl := hd11 _ rfl
          replace h := g11
          try dsimp only at h
          skip
          refine zar ?_
          exact ⟨guess11, _, rfl, (zdt ⟨rfl, rfl, rfl, rfl, rfl, rfl, rfl, trivial⟩), hL33, (zaq K24 K29), trivial⟩
       ·
        rintro _ w100 ⟨guess10, u, rfl, rfl, hL34, K30, -⟩
        replace h := g11
        try dsimp only at h
        refine zaj (zaj (zah rfl (zaf (zai (v := (osv ob14 0 r14.length cap14)) rfl ?_))))
        refine zaf (zai (v := (zab .i64 i10)) rfl ?_)
        refine zaf (zai (v := (zab .i64 i10)) rfl ?_)
        refine zaf (zai (v := (zab .i64 (b.length : Int))) rfl ?_)
        refine zaf (zby (x := i10) (y := (b.length : Int)) (z := (iw (i10 + (b.length : Int)))) rfl rfl rfl ?_)
        refine zaf (zby (x := (iw (i10 + (b.length : Int)))) (y := 1) (z := (iw ((iw (i10 + (b.length : Int))) + 1))) rfl rfl rfl ?_)
        obtain ⟨u12, q98, h⟩ := zdo h
        obtain ⟨m12, n20, q99, q100, q101, q102⟩ := seg_some q98
        have f26 := (((hE39.mono (K22 None)).mono (K23 None)).mono (K30 None))
        obtain ⟨b19, hb15⟩ := hL34.row_some 0 rfl rfl (row_pos (pre := []) f26 (List.getElem?_eq_getElem (Nat.lt_of_lt_of_le q101 q102)) (Nat.lt_of_sub_eq_succ rfl))
        refine zaf (OpY.cutSeg (r := (rInt .u32)) (b := b19) (l := m12) (h' := n20) zal ti89 rfl (osv_some hb15) hl11 f26 hc20 (.inr ⟨_, _, rfl, by rw [← q99]; rfl⟩) (.inr ⟨_, _, rfl, by rw [← q100]; rfl⟩) q101 q102 ?_)
        refine zaf (zai (v := (osv ob15 0 x12.length cap15)) rfl ?_)
        refine zaf (zai (v := (zab .u64 guess10)) rfl ?_)
        obtain ⟨s13, h, g13⟩ := zdo h
        refine zaf (OpY.callg (T := fun e w' => ∃ (u13 : (List Int)) (x24 : Bool) (cs22 : List Value), (u13, x24) = s13 ∧ e = Ending.returned (zaa x24) ∧ vL w w' [ob14, ob15, some b13] [zac ([] ++ (cs22 ++ sp14)), zac ([] ++ (cs16 ++ sp16)), zac ([] ++ (cs21 ++ []))] ∧ Keep w.heap.size [ob14, ob15, some b13] w100 [ob14, ob15, some b13] w' ∧ Els (rInt .u32) (vH w None [ob14, ob15, some b13] w') cs22 u13 ∧ r14.length = List.length u13 ∧ (cs22 ++ sp14).length = cap14 * (rInt .u32).sz ∧ True) en89 rfl rfl ?_ ?_)
        ·
         refine calls_of (l := [(zad (some ⟨b19, 0 + m12 * (rInt .u32).sz, none⟩) (n20 - m12) (cap14 - m12)), (osv ob15 0 x12.length cap15), (zab .u64 guess10)]) (rl := [.tmp 6]) (n := 45) Try.func89 rfl rfl rfl (zae rfl) ?_
         refine zaj (zah rfl (zaf (zak (v := (zaa false)) rfl ?_)))
         refine zan (zaj (zah rfl (zaf (zak (v := (zab .u64 0)) rfl ?_))))
         refine zaf (zak (v := (zab .u64 0)) rfl ?_)
         refine zan (zaj (zaj (zah rfl (zaf (zai (v := (zad (some ⟨b19, 0 + m12 * (rInt .u32).sz, none⟩) (n20 - m12) (cap14 - m12))) rfl ?_)))))
         refine zaf (OpY.lenSeg (e := ((iw ((iw (i10 + (b.length : Int))) + 1)) - i10)) zal rfl (by have := q99; have := q100; have := q101; omega) ?_)
         refine zaf (zai (v := (zab .i64 0)) rfl ?_)
         refine zan ?_
         obtain ⟨s14, hl14, g14⟩ := zdo h
         refine zbr (fun e w' => ∃ (borrow10 : Int) (x25 : (List Int)) (cs23 : List Value) (u : Env), (borrow10, x25) = s14 ∧ e = upds [(8, (zab .u64 borrow10))] u ∧ vL w w' [ob14, ob15, some b13] [zac ([] ++ (cs23 ++ sp14)), zac ([] ++ (cs16 ++ sp16)), zac ([] ++ (cs21 ++ []))] ∧ Keep w.heap.size [ob14, ob15, some b13] w100 [ob14, ob15, some b13] w' ∧ Els (rInt .u32) (vH w None [ob14, ob15, some b13] w') cs23 x25 ∧ r14.length = List.length x25 ∧ (cs23 ++ sp14).length = cap14 * (rInt .u32).sz ∧ True) ?_ ?_
         ·
          refine zbh ?_
          refine zce hl14 (fun (ss : ((List Int) × Int × Int × Int)) (e : Env) (w' : World) => match ss with | (u14, carry10, borrow11, x26) => ∃ (cs24 : List Value) (u : Env), e = upds [(0, (zad (some ⟨b19, 0 + m12 * (rInt .u32).sz, none⟩) (n20 - m12) (cap14 - m12))), (1, (osv ob15 0 x12.length cap15)), (2, (zab .u64 guess10)), (7, (zab .u64 carry10)), (8, (zab .u64 borrow11)), (12, (zab .i64 ((iw ((iw (i10 + (b.length : Int))) + 1)) - i10))), (13, (zab .i64 x26))] u ∧ vL w w' [ob14, ob15, some b13] [zac ([] ++ (cs24 ++ sp14)), zac ([] ++ (cs16 ++ sp16)), zac ([] ++ (cs21 ++ []))] ∧ Keep w.heap.size [ob14, ob15, some b13] w100 [ob14, ob15, some b13] w' ∧ Els (rInt .u32) (vH w None [ob14, ob15, some b13] w') cs24 u14 ∧ r14.length = List.length u14 ∧ (cs24 ++ sp14).length = cap14 * (rInt .u32).sz ∧ True) ⟨cs20, _, (zdt ⟨rfl, rfl, rfl, rfl, rfl, rfl, rfl, trivial⟩), hL34, zbo, f26, hl11, hc20, trivial⟩ ?_
          rintro ⟨u14, carry10, borrow11, x26⟩ oo _ w101 ⟨cs24, u, rfl, hL35, K31, hE107, hl15, hc26, -⟩ h hd12
          rw [bdivide_b3] at h
          refine zaj (zah rfl (zaf (zcj (x := x26) (y := ((iw ((iw (i10 + (b.length : Int))) + 1)) - i10)) ((x26 : Int) < ((iw ((iw (i10 + (b.length : Int))) + 1)) - i10)) rfl rfl zbk ?_)))
          refine zan (zaj ?_)
          refine zbe ((x26 : Int) < ((iw ((iw (i10 + (b.length : Int))) + 1)) - i10)) rfl (fun hc27 => ?_) (fun hc27 => ?_)
          ·
           replace h := ite_t hc27 h
           refine zbf (zaj (zbh (zaj (zah rfl (zaf (zai (v := (zab .i64 x26)) rfl ?_))))))
           refine zaf (zak (v := (zab .i64 x26)) rfl ?_)
           refine zan (zaj (zah rfl (zaf (zai (v := (zab .u64 carry10)) rfl ?_))))
           refine zaf (zai (v := (zab .u64 guess10)) rfl ?_)
           refine zaf (zai (v := (osv ob15 0 x12.length cap15)) rfl ?_)
           refine zaf (zai (v := (zab .i64 x26)) rfl ?_)
           obtain ⟨r16, q103, h⟩ := zdo h
           have f27 := ((f22.mono (K30 None)).mono (K31 None))
           refine zaf (zaw en84 rfl rfl (digit_w N x12 x26 (osv ob15 0 x12.length cap15) _ Any (zdv (pre := []) (o := 0) (n := x12.length) (cap := cap15) (hL35.at 1 rfl rfl) f27 vw_any rfl rfl rfl hc18) r16 q103) ?_)
           rintro _ w102 hE108 ⟨rfl, -⟩
           have hL36 := hL35.ext hE108
           have K32 := ke hL35 hE108
           refine zaf (OpY.mul (x := guess10) (y := r16) (z := (uw (guess10 * r16))) rfl rfl rfl ?_)
           refine zaf (zby (x := carry10) (y := (uw (guess10 * r16))) (z := (uw (carry10 + (uw (guess10 * r16))))) rfl rfl rfl ?_)
           refine zaf (zak (v := (zab .u64 (uw (carry10 + (uw (guess10 * r16)))))) rfl ?_)
           refine zan (zaj (zah rfl (zaf (zai (v := (zad (some ⟨b19, 0 + m12 * (rInt .u32).sz, none⟩) (n20 - m12) (cap14 - m12))) rfl ?_))))
           refine zaf (zai (v := (zab .i64 x26)) rfl ?_)
           obtain ⟨u15, q104, h⟩ := zdo h
           replace q104 := chk_some q104
           obtain ⟨x27, q105, h⟩ := zdo h
           obtain ⟨n21, q106, q107⟩ := zdu q105
           obtain ⟨j10, q108⟩ : ∃ j : Nat, x26 = (j : Int) := ⟨Int.toNat x26, by omega⟩
           obtain rfl : n21 = m12 + j10 := by omega
           refine zaf (OpY.ixSeg (r := (rInt .u32)) (b := b19) (m := m12) (n := n20) (j := j10) zal ti89 rfl rfl q108 (by omega) ?_)
           have f28 := (hE107.mono (K32 None))
           obtain ⟨vs19, q109, q110, q111⟩ := zed (pre := []) (sp := sp14) f28 q107
           obtain rfl := q110
           refine zaf (zdd (v := (zab .u32 x27)) zat rfl rfl (own_some hb15 (hL36.at 0 rfl rfl)) q111 ?_)
           refine zaf (zbp (x := x27) (z := (uw x27)) zat zbc rfl rfl ?_)
           refine zaf (zai (v := (zab .u64 (uw (carry10 + (uw (guess10 * r16)))))) rfl ?_)
           refine zaf (OpY.iand (x := (uw (carry10 + (uw (guess10 * r16))))) (y := 4294967295) rfl rfl ?_)
           refine zaf (zdb (x := (uw x27)) (y := (band .u64 (uw (carry10 + (uw (guess10 * r16)))) 4294967295)) (z := (uw ((uw x27) - (band .u64 (uw (carry10 + (uw (guess10 * r16)))) 4294967295)))) rfl rfl rfl ?_)
           refine zaf (zai (v := (zab .u64 borrow11)) rfl ?_)
           refine zaf (zdb (x := (uw ((uw x27) - (band .u64 (uw (carry10 + (uw (guess10 * r16)))) 4294967295)))) (y := borrow11) (z := (uw ((uw ((uw x27) - (band .u64 (uw (carry10 + (uw (guess10 * r16)))) 4294967295))) - borrow11))) rfl rfl rfl ?_)
           refine zaf (zak (v := (zab .u64 (uw ((uw ((uw x27) - (band .u64 (uw (carry10 + (uw (guess10 * r16)))) 4294967295))) - borrow11)))) rfl ?_)
           refine zan (zaj (zah rfl (zaf (zai (v := (zad (some ⟨b19, 0 + m12 * (rInt .u32).sz, none⟩) (n20 - m12) (cap14 - m12))) rfl ?_))))
           refine zaf (zai (v := (zab .i64 x26)) rfl ?_)
           refine zaf (zai (v := (zab .u64 (uw ((uw ((uw x27) - (band .u64 (uw (carry10 + (uw (guess10 * r16)))) 4294967295))) - borrow11)))) rfl ?_)
           refine zaf (zbp (x := (uw ((uw ((uw x27) - (band .u64 (uw (carry10 + (uw (guess10 * r16)))) 4294967295))) - borrow11))) (z := (uw32 (uw ((uw ((uw x27) - (band .u64 (uw (carry10 + (uw (guess10 * r16)))) 4294967295))) - borrow11)))) zbc zat rfl rfl ?_)
           obtain ⟨u17, q112, h⟩ := zdo h
           replace q112 := chk_some q112
           obtain ⟨x28, q113, h⟩ := zdo h
           obtain ⟨n22, q114, q115⟩ := zdu q113
           obtain ⟨j11, q116⟩ : ∃ j : Nat, x26 = (j : Int) := ⟨Int.toNat x26, by omega⟩
           obtain rfl : n22 = m12 + j11 := by omega
           have q117 := (List.getElem?_eq_some_iff.1 q115).1
           refine zaf (OpY.ixSeg (r := (rInt .u32)) (b := b19) (m := m12) (n := n20) (j := j11) zal ti89 rfl rfl q116 (by omega) ?_)
           obtain ⟨x29, q118, h⟩ := zdo h
           obtain ⟨n23, q119, q120, q121⟩ := zee q118
           obtain rfl := Int.ofNat_inj.1 (q114.symm.trans q119)
           refine zcc (zdj (pre := []) (r := (rInt .u32)) (vs := [(zab .u32 (uw32 (uw ((uw ((uw x27) - (band .u64 (uw (carry10 + (uw (guess10 * r16)))) 4294967295))) - borrow11))))]) (a := (uw32 (uw ((uw ((uw x27) - (band .u64 (uw (carry10 + (uw (guess10 * r16)))) 4294967295))) - borrow11)))) ti89 rfl rfl rfl rfl hL36 0 (congrArg some hb15) rfl f28 q117 rfl q121 ?_)
           have hl16 : r14.length = List.length x29 := by rw [q121, List.length_set]; exact hl15
           intro w103 cs25 (hL37 : vL w w103 [ob14, ob15, some b13] [zac ([] ++ (cs25 ++ sp14)), zac ([] ++ (cs16 ++ sp16)), zac ([] ++ (cs21 ++ []))]) hS12 hE109 q122
           have hc28 : (cs25 ++ sp14).length = cap14 * (rInt .u32).sz := by have := hc26; rw [List.length_append] at this ⊢; rw [q122]; exact this
           have K33 := ks w hS12
           refine zan (zaj (zah rfl (zaf (zai (v := (zab .u64 (uw ((uw ((uw x27) - (band .u64 (uw (carry10 + (uw (guess10 * r16)))) 4294967295))) - borrow11)))) rfl ?_))))
           refine zaf (OpY.ishr (x := (uw ((uw ((uw x27) - (band .u64 (uw (carry10 + (uw (guess10 * r16)))) 4294967295))) - borrow11))) (y := 63) rfl rfl (by decide) ?_)
           refine zaf (zak (v := (zab .u64 (bshr .u64 (uw ((uw ((uw x27) - (band .u64 (uw (carry10 + (uw (guess10 * r16)))) 4294967295))) - borrow11)) 63))) rfl ?_)
           refine zan (zah rfl (zaf (zai (v := (zab .u64 (uw (carry10 + (uw (guess10 * r16)))))) rfl ?_)))
           refine zaf (OpY.ishr (x := (uw (carry10 + (uw (guess10 * r16))))) (y := 32) rfl rfl (by decide) ?_)
           refine zaf (zak (v := (zab .u64 (bshr .u64 (uw (carry10 + (uw (guess10 * r16)))) 32))) rfl ?_)
           refine zan (zbt (zah rfl (zaf (zby (x := x26) (y := 1) (z := (iw (x26 + 1))) rfl rfl rfl ?_))))
           refine zaf (zai (v := (zab .i64 (iw (x26 + 1)))) rfl ?_)
           refine zan ?_
           have f29 := (hE109.mono (K33 None))
           obtain rfl := zag h
           refine zar ⟨(x29, (bshr .u64 (uw (carry10 + (uw (guess10 * r16)))) 32), (bshr .u64 (uw ((uw ((uw x27) - (band .u64 (uw (carry10 + (uw (guess10 * r16)))) 4294967295))) - borrow11)) 63), (iw (x26 + 1))), rfl, ?_⟩
           exact ⟨cs25, _, (zdt ⟨rfl, rfl, rfl, rfl, rfl, rfl, rfl, trivial⟩), hL37, (zaq (zaq K31 K32) K33), f29, hl16, hc28, trivial⟩
          ·
           replace h := ite_f hc27 h
           refine zcm rfl ?_
           obtain rfl := zag h
           obtain rfl := hd12 _ rfl
           replace h := g14
           try dsimp only at h
           skip
           refine zar ?_
           exact ⟨borrow11, u14, cs24, _, rfl, (zdt ⟨rfl, trivial⟩), hL35, K31, hE107, hl15, hc26, trivial⟩
         ·
          rintro _ w104 ⟨borrow10, x25, cs23, u, rfl, rfl, hL38, K34, hE110, hl17, hc29, -⟩
          replace h := g14
          try dsimp only at h
          refine zaj (zah rfl (zaf (zai (v := (zab .u64 borrow10)) rfl ?_)))
          refine zaf (OpY.neq (x := borrow10) (y := 0) ((borrow10 : Int) ≠ 0) rfl rfl zbk ?_)
          refine zaf (zak (v := (zaa (decide ((borrow10 : Int) ≠ 0)))) rfl ?_)
          refine zan (zbj ?_)
          refine ⟨[(zaa (decide ((borrow10 : Int) ≠ 0)))], ⟨rfl, trivial⟩, ?_⟩
          obtain rfl := zag h
          exact ⟨x25, (decide ((borrow10 : Int) ≠ 0)), cs23, rfl, rfl, hL38, K34, hE110, hl17, hc29, trivial⟩
        ·
         rintro _ w105 ⟨u13, x24, cs22, rfl, rfl, hL39, K35, hE111, hl18, hc30, -⟩
         refine ⟨_, rfl, ?_⟩
         replace h := g13
         try dsimp only at h
         refine zan ?_
         obtain ⟨s15, h, g15⟩ := zdo h
         refine zbr (fun e w' => ∃ (u18 : (List Int)) (guess12 : Int) (cs26 : List Value) (u : Env), (u18, guess12) = s15 ∧ e = upds [(8, (zab .u64 (uw r13))), (9, (osv ob14 0 r14.length cap14)), (10, (osv ob15 0 x12.length cap15)), (11, (zab .i64 (b.length : Int))), (12, (osv (some b13) 0 x13.length m11)), (13, (zab .i64 i10)), (15, (zab .u64 guess12))] u ∧ vL w w' [ob14, ob15, some b13] [zac ([] ++ (cs26 ++ sp14)), zac ([] ++ (cs16 ++ sp16)), zac ([] ++ (cs21 ++ []))] ∧ Keep w.heap.size [ob14, ob15, some b13] w105 [ob14, ob15, some b13] w' ∧ Els (rInt .u32) (vH w None [ob14, ob15, some b13] w') cs26 u18 ∧ r14.length = List.length u18 ∧ (cs26 ++ sp14).length = cap14 * (rInt .u32).sz ∧ True) ?_ ?_
         ·
          refine zcr x24 rfl (fun hc31 => ?_) (fun hc31 => ?_)
          ·
           replace h := ite_t hc31 h
           refine zaj (zah rfl (zaf (zai (v := (zab .u64 guess10)) rfl ?_)))
           refine zaf (zdb (x := guess10) (y := 1) (z := (uw (guess10 - 1))) rfl rfl rfl ?_)
           refine zaf (zak (v := (zab .u64 (uw (guess10 - 1)))) rfl ?_)
           refine zan (zaj (zah rfl (zaf (zak (v := (zab .u64 0)) rfl ?_))))
           refine zan (zaj (zaj (zah rfl (zaf (zai (v := (osv ob15 0 x12.length cap15)) rfl ?_)))))
           have f30 := ((f22.mono (K30 None)).mono (K35 None))
           refine zaf (OpY.lenRow (pre := []) (r := (rInt .u32)) (xs := x12) zal rfl (hL39.at 1 rfl rfl) f30 rfl rfl ?_)
           refine zaf (zai (v := (zab .i64 0)) rfl ?_)
           refine zan ?_
           obtain ⟨s16, hl19, g16⟩ := zdo h
           refine zbr (fun e w' => ∃ (u19 : (List Int)) (carry11 : Int) (cs27 : List Value) (u : Env), (u19, carry11) = s16 ∧ e = upds [(8, (zab .u64 (uw r13))), (9, (osv ob14 0 r14.length cap14)), (10, (osv ob15 0 x12.length cap15)), (11, (zab .i64 (b.length : Int))), (12, (osv (some b13) 0 x13.length m11)), (13, (zab .i64 i10)), (15, (zab .u64 (uw (guess10 - 1)))), (17, (zab .u64 carry11))] u ∧ vL w w' [ob14, ob15, some b13] [zac ([] ++ (cs27 ++ sp14)), zac ([] ++ (cs16 ++ sp16)), zac ([] ++ (cs21 ++ []))] ∧ Keep w.heap.size [ob14, ob15, some b13] w105 [ob14, ob15, some b13] w' ∧ Els (rInt .u32) (vH w None [ob14, ob15, some b13] w') cs27 u19 ∧ r14.length = List.length u19 ∧ (cs27 ++ sp14).length = cap14 * (rInt .u32).sz ∧ True) ?_ ?_
           ·
            refine zbh ?_
            refine zce hl19 (fun (ss : ((List Int) × Int × Int)) (e : Env) (w' : World) => match ss with | (u20, carry12, x30) => ∃ (cs28 : List Value) (u : Env), e = upds [(8, (zab .u64 (uw r13))), (9, (osv ob14 0 r14.length cap14)), (10, (osv ob15 0 x12.length cap15)), (11, (zab .i64 (b.length : Int))), (12, (osv (some b13) 0 x13.length m11)), (13, (zab .i64 i10)), (15, (zab .u64 (uw (guess10 - 1)))), (17, (zab .u64 carry12)), (156, (zab .i64 (x12.length : Int))), (157, (zab .i64 x30))] u ∧ vL w w' [ob14, ob15, some b13] [zac ([] ++ (cs28 ++ sp14)), zac ([] ++ (cs16 ++ sp16)), zac ([] ++ (cs21 ++ []))] ∧ Keep w.heap.size [ob14, ob15, some b13] w105 [ob14, ob15, some b13] w' ∧ Els (rInt .u32) (vH w None [ob14, ob15, some b13] w') cs28 u20 ∧ r14.length = List.length u20 ∧ (cs28 ++ sp14).length = cap14 * (rInt .u32).sz ∧ True) ⟨cs22, _, (zdt ⟨rfl, rfl, rfl, rfl, rfl, rfl, rfl, rfl, rfl, rfl, trivial⟩), hL39, zbo, hE111, hl18, hc30, trivial⟩ ?_
            rintro ⟨u20, carry12, x30⟩ oo _ w106 ⟨cs28, u, rfl, hL40, K36, hE112, hl20, hc32, -⟩ h hd13
            rw [bdivide_b4] at h
            refine zaj (zah rfl (zaf (zcj (x := x30) (y := (x12.length : Int)) ((x30 : Int) < (x12.length : Int)) rfl rfl zbk ?_)))
            refine zan (zaj ?_)
            refine zbe ((x30 : Int) < (x12.length : Int)) rfl (fun hc33 => ?_) (fun hc33 => ?_)
            ·
             replace h := ite_t hc33 h
             refine zbf (zaj (zbh (zaj (zah rfl (zaf (zai (v := (zab .i64 x30)) rfl ?_))))))
             refine zaf (zak (v := (zab .i64 x30)) rfl ?_)
             refine zan (zaj ?_)
             obtain ⟨x31, q123, h⟩ := zdo h
             obtain ⟨n24, q124, q125⟩ := zdu q123
             have q126 := (List.getElem?_eq_some_iff.1 q125).1
             obtain ⟨b20, hb16⟩ := hL40.row_some 0 rfl rfl (row_pos (pre := []) hE112 q125 (Nat.lt_of_sub_eq_succ rfl))
             obtain ⟨vs20, q127, q128, q129⟩ := zed (pre := []) (sp := sp14) hE112 q125
             obtain rfl := q128
             obtain ⟨x32, q130, h⟩ := zdo h
             obtain ⟨n25, q131, q132⟩ := zdu q130
             have q133 := (List.getElem?_eq_some_iff.1 q132).1
             have f31 := (f30.mono (K36 None))
             obtain ⟨b21, hb17⟩ := hL40.row_some 1 rfl rfl (row_pos (pre := []) f31 q132 (Nat.lt_of_sub_eq_succ rfl))
             obtain ⟨vs21, q134, q135, q136⟩ := zed (pre := []) (sp := sp16) f31 q132
             obtain rfl := q135
             refine zcf 14 [] [] (fun W1 => [.det (zab .u64 carry12), .det (osv ob14 0 r14.length cap14), .det (zab .i64 i10), .det (zab .i64 x30), .det (zab .i64 (iw (i10 + x30))), .det (zao (some ⟨b20, (0 + n24 * (rInt .u32).sz), none⟩)), .det (zab .u32 x31), .det (zab .u64 (uw x31)), .det (osv ob15 0 x12.length cap15), .det (zab .i64 x30), .det (zao (some ⟨b21, (0 + n25 * (rInt .u32).sz), none⟩)), .det (zab .u32 x32), .det (zab .u64 (uw x32)), .det (zab .u64 (uw ((uw x31) + (uw x32))))]) mixed rfl rfl rfl (fun _ => rfl) (fun _ => rfl) ?_ ?_
             ·
              intro W1 _
              exact trivial
             ·
              intro w107 hE113
              have hL41 := hL40.ext hE113
              have K37 := ke hL40 hE113
              refine zau (fun _ _ => zav (zai rfl (er rfl))) ?_
              refine zau (fun _ _ => zav (zai rfl (er rfl))) ?_
              refine zau (fun _ _ => zav (zai rfl (er rfl))) ?_
              refine zau (fun _ _ => zav (zai rfl (er rfl))) ?_
              refine zau (fun _ _ => zav (zby rfl rfl rfl (er rfl))) ?_
              refine zau (fun _ _ => zav (zcl (r := (rInt .u32)) (b := b20) (o := 0) (n := n24) (m := r14.length) (xs := u20) (q := (0 + n24 * (rInt .u32).sz)) zal ti89 (osv_some hb16) hl20 rfl q124 q126 rfl (er rfl))) ?_
              refine zau (fun _ hE120 => zav (zdd zat rfl rfl (own_some hb16 ((hL41.ext hE120).at 0 rfl rfl)) q129 (er rfl))) ?_
              refine zau (fun _ _ => zav (zbp zat zbc rfl rfl (er rfl))) ?_
              refine zau (fun _ _ => zav (zai rfl (er rfl))) ?_
              refine zau (fun _ _ => zav (zai rfl (er rfl))) ?_
              refine zau (fun _ _ => zav (zcl (r := (rInt .u32)) (b := b21) (o := 0) (n := n25) (m := x12.length) (xs := x12) (q := (0 + n25 * (rInt .u32).sz)) zal ti89 (osv_some hb17) rfl rfl q131 q133 rfl (er rfl))) ?_
              refine zau (fun _ hE125 => zav (zdd zat rfl rfl (own_some hb17 ((hL41.ext hE125).at 1 rfl rfl)) q136 (er rfl))) ?_
              refine zau (fun _ _ => zav (zbp zat zbc rfl rfl (er rfl))) ?_
              refine zau (fun _ _ => zav (zby rfl rfl rfl (er rfl))) ?_
              refine zco ?_
              rintro w122 Z98 hE128 hZ98 ⟨-⟩ ap14
              have hB14 : ∀ b, some b ∈ ([] : List (Option Nat)) → w107.heap.size ≤ b ∧ ¬ Z98 b := by
               intro b hb; cases hb
              have hL44 := hL41.ext hE128
              have K38 := ke hL41 hE128
              refine zaf (zby (x := carry12) (y := (uw ((uw x31) + (uw x32)))) (z := (uw (carry12 + (uw ((uw x31) + (uw x32)))))) rfl rfl rfl ?_)
              refine zaf (zak (v := (zab .u64 (uw (carry12 + (uw ((uw x31) + (uw x32))))))) rfl ?_)
              refine zan (zaj (zah rfl (zaf (zai (v := (osv ob14 0 r14.length cap14)) rfl ?_))))
              refine zaf (zai (v := (zab .i64 i10)) rfl ?_)
              refine zaf (zai (v := (zab .i64 x30)) rfl ?_)
              refine zaf (zby (x := i10) (y := x30) (z := (iw (i10 + x30))) rfl rfl rfl ?_)
              refine zaf (zai (v := (zab .u64 (uw (carry12 + (uw ((uw x31) + (uw x32))))))) rfl ?_)
              refine zaf (zbp (x := (uw (carry12 + (uw ((uw x31) + (uw x32)))))) (z := (uw32 (uw (carry12 + (uw ((uw x31) + (uw x32))))))) zbc zat rfl rfl ?_)
              obtain ⟨x33, q137, h⟩ := zdo h
              obtain ⟨n26, q138, q139⟩ := zdu q137
              have q140 := (List.getElem?_eq_some_iff.1 q139).1
              refine zaf (zcl (r := (rInt .u32)) (b := b20) (o := 0) (n := n26) (m := r14.length) (xs := u20) (q := (0 + n26 * (rInt .u32).sz)) zal ti89 (osv_some hb16) hl20 rfl q138 q140 rfl ?_)
              obtain ⟨x34, q141, h⟩ := zdo h
              obtain ⟨n27, q142, q143, q144⟩ := zee q141
              obtain rfl := Int.ofNat_inj.1 (q138.symm.trans q142)
              have f32 := ((hE112.mono (K37 None)).mono (K38 None))
              refine zcc (zdj (pre := []) (r := (rInt .u32)) (vs := [(zab .u32 (uw32 (uw (carry12 + (uw ((uw x31) + (uw x32)))))))]) (a := (uw32 (uw (carry12 + (uw ((uw x31) + (uw x32))))))) ti89 rfl rfl rfl rfl hL44 0 (congrArg some hb16) rfl f32 q140 rfl q144 ?_)
              have hl21 : r14.length = List.length x34 := by rw [q144, List.length_set]; exact hl20
              intro w123 cs29 (hL45 : vL w w123 [ob14, ob15, some b13] [zac ([] ++ (cs29 ++ sp14)), zac ([] ++ (cs16 ++ sp16)), zac ([] ++ (cs21 ++ []))]) hS13 hE129 q145
              have hc34 : (cs29 ++ sp14).length = cap14 * (rInt .u32).sz := by have := hc32; rw [List.length_append] at this ⊢; rw [q145]; exact this
              have K39 := ks w hS13
              refine zan (zah rfl (zaf (zai (v := (zab .u64 (uw (carry12 + (uw ((uw x31) + (uw x32))))))) rfl ?_)))
              refine zaf (OpY.ishr (x := (uw (carry12 + (uw ((uw x31) + (uw x32)))))) (y := 32) rfl rfl (by decide) ?_)
              refine zaf (zak (v := (zab .u64 (bshr .u64 (uw (carry12 + (uw ((uw x31) + (uw x32))))) 32))) rfl ?_)
              refine zan (zbt (zah rfl (zaf (zby (x := x30) (y := 1) (z := (iw (x30 + 1))) rfl rfl rfl ?_))))
              refine zaf (zai (v := (zab .i64 (iw (x30 + 1)))) rfl ?_)
              refine zan ?_
              have f33 := (hE129.mono (K39 None))
              obtain rfl := zag h
              refine zar ⟨(x34, (bshr .u64 (uw (carry12 + (uw ((uw x31) + (uw x32))))) 32), (iw (x30 + 1))), rfl, ?_⟩
              exact ⟨cs29, _, (zdt ⟨rfl, rfl, rfl, rfl, rfl, rfl, rfl, rfl, rfl, rfl, trivial⟩), hL45, (zaq (zaq (zaq K36 K37) K38) K39), f33, hl21, hc34, trivial⟩
            ·
             replace h := ite_f hc33 h
             refine zcm rfl ?_
             obtain rfl := zag h
             obtain rfl := hd13 _ rfl
             replace h := g16
             try dsimp only at h
             skip
             refine zar ?_
             exact ⟨u20, carry12, cs28, _, rfl, (zdt ⟨rfl, rfl, rfl, rfl, rfl, rfl, rfl, rfl, trivial⟩), hL40, K36, hE112, hl20, hc32, trivial⟩
           ·
            rintro _ w124 ⟨u19, carry11, cs27, u, rfl, rfl, hL46, K40, hE130, hl22, hc35, -⟩
            replace h := g16
            try dsimp only at h
            refine zah rfl (zaf (zai (v := (osv ob14 0 r14.length cap14)) rfl ?_))
            refine zaf (zai (v := (zab .i64 i10)) rfl ?_)
            refine zaf (zai (v := (zab .i64 (b.length : Int))) rfl ?_)
            refine zaf (zby (x := i10) (y := (b.length : Int)) (z := (iw (i10 + (b.length : Int)))) rfl rfl rfl ?_)
            obtain ⟨x35, q146, h⟩ := zdo h
            obtain ⟨n28, q147, q148⟩ := zdu q146
            have q149 := (List.getElem?_eq_some_iff.1 q148).1
            obtain ⟨b22, hb18⟩ := hL46.row_some 0 rfl rfl (row_pos (pre := []) hE130 q148 (Nat.lt_of_sub_eq_succ rfl))
            refine zaf (zcl (r := (rInt .u32)) (b := b22) (o := 0) (n := n28) (m := r14.length) (xs := u19) (q := (0 + n28 * (rInt .u32).sz)) zal ti89 (osv_some hb18) hl22 rfl q147 q149 rfl ?_)
            obtain ⟨vs22, q150, q151, q152⟩ := zed (pre := []) (sp := sp14) hE130 q148
            obtain rfl := q151
            refine zaf (zdd (v := (zab .u32 x35)) zat rfl rfl (own_some hb18 (hL46.at 0 rfl rfl)) q152 ?_)
            refine zaf (zai (v := (zab .u64 carry11)) rfl ?_)
            refine zaf (zbp (x := carry11) (z := (uw32 carry11)) zbc zat rfl rfl ?_)
            refine zaf (zby (x := x35) (y := (uw32 carry11)) (z := (uw32 (x35 + (uw32 carry11)))) rfl rfl rfl ?_)
            obtain ⟨x36, q153, h⟩ := zdo h
            obtain ⟨n29, q154, q155⟩ := zdu q153
            have q156 := (List.getElem?_eq_some_iff.1 q155).1
            refine zaf (zcl (r := (rInt .u32)) (b := b22) (o := 0) (n := n29) (m := r14.length) (xs := u19) (q := (0 + n29 * (rInt .u32).sz)) zal ti89 (osv_some hb18) hl22 rfl q154 q156 rfl ?_)
            obtain ⟨x37, q157, h⟩ := zdo h
            obtain ⟨n30, q158, q159, q160⟩ := zee q157
            obtain rfl := Int.ofNat_inj.1 (q154.symm.trans q158)
            refine zcc (zdj (pre := []) (r := (rInt .u32)) (vs := [(zab .u32 (uw32 (x35 + (uw32 carry11))))]) (a := (uw32 (x35 + (uw32 carry11)))) ti89 rfl rfl rfl rfl hL46 0 (congrArg some hb18) rfl hE130 q156 rfl q160 ?_)
            have hl23 : r14.length = List.length x37 := by rw [q160, List.length_set]; exact hl22
            intro w125 cs30 (hL47 : vL w w125 [ob14, ob15, some b13] [zac ([] ++ (cs30 ++ sp14)), zac ([] ++ (cs16 ++ sp16)), zac ([] ++ (cs21 ++ []))]) hS14 hE131 q161
            have hc36 : (cs30 ++ sp14).length = cap14 * (rInt .u32).sz := by have := hc35; rw [List.length_append] at this ⊢; rw [q161]; exact this
            have K41 := ks w hS14
            refine zan ?_
            have f34 := (hE131.mono (K41 None))
            obtain rfl := zag h
            refine zar ?_
            exact ⟨x37, (uw (guess10 - 1)), cs30, _, rfl, (zdt ⟨rfl, rfl, rfl, rfl, rfl, rfl, rfl, trivial⟩), hL47, (zaq K40 K41), f34, hl23, hc36, trivial⟩
          ·
           replace h := ite_f hc31 h
           refine zbf ?_
           obtain rfl := zag h
           refine zar ?_
           exact ⟨u13, guess10, cs22, _, rfl, (zdt ⟨rfl, rfl, rfl, rfl, rfl, rfl, rfl, trivial⟩), hL39, zbo, hE111, hl18, hc30, trivial⟩
         ·
          rintro _ w126 ⟨u18, guess12, cs26, u, rfl, rfl, hL48, K42, hE132, hl24, hc37, -⟩
          replace h := g15
          try dsimp only at h
          refine zah rfl (zaf (zai (v := (osv (some b13) 0 x13.length m11)) rfl ?_))
          refine zaf (zai (v := (zab .i64 i10)) rfl ?_)
          refine zaf (zai (v := (zab .u64 guess12)) rfl ?_)
          refine zaf (zbp (x := guess12) (z := (uw32 guess12)) zbc zat rfl rfl ?_)
          obtain ⟨x38, q162, h⟩ := zdo h
          obtain ⟨n31, q163, q164⟩ := zdu q162
          have q165 := (List.getElem?_eq_some_iff.1 q164).1
          refine zaf (zcl (r := (rInt .u32)) (b := b13) (o := 0) (n := n31) (m := x13.length) (xs := q42) (q := (0 + n31 * (rInt .u32).sz)) zal ti89 rfl hl12 rfl q163 q165 rfl ?_)
          obtain ⟨x39, q166, h⟩ := zdo h
          obtain ⟨n32, q167, q168, q169⟩ := zee q166
          obtain rfl := Int.ofNat_inj.1 (q163.symm.trans q167)
          have f35 := (((((hE40.mono (K22 None)).mono (K23 None)).mono (K30 None)).mono (K35 None)).mono (K42 None))
          refine zcc (zdj (pre := []) (r := (rInt .u32)) (vs := [(zab .u32 (uw32 guess12))]) (a := (uw32 guess12)) ti89 rfl rfl rfl rfl hL48 2 rfl rfl f35 q165 rfl q169 ?_)
          have hl25 : x13.length = List.length x39 := by rw [q169, List.length_set]; exact hl12
          intro w127 cs31 (hL49 : vL w w127 [ob14, ob15, some b13] [zac ([] ++ (cs26 ++ sp14)), zac ([] ++ (cs16 ++ sp16)), zac ([] ++ (cs31 ++ []))]) hS15 hE133 q170
          have hc38 : (cs31 ++ []).length = m11 * (rInt .u32).sz := by have := hc21; rw [List.length_append] at this ⊢; rw [q170]; exact this
          have K43 := ks w hS15
          refine zan (zbt (zah rfl (zaf (zai (v := (zab .i64 i10)) rfl ?_))))
          refine zaf (zdb (x := i10) (y := 1) (z := (iw (i10 - 1))) rfl rfl rfl ?_)
          refine zaf (zak (v := (zab .i64 (iw (i10 - 1)))) rfl ?_)
          refine zan ?_
          have f36 := (hE132.mono (K43 None))
          have f37 := (hE133.mono (K43 None))
          obtain rfl := zag h
          refine zar ⟨(u18, x39, (iw (i10 - 1))), rfl, ?_⟩
          exact ⟨cs26, cs31, _, (zdt ⟨rfl, rfl, rfl, rfl, rfl, rfl, trivial⟩), hL49, (zaq (zaq (zaq (zaq (zaq (zaq K21 K22) K23) K30) K35) K42) K43), f36, hl24, hc37, f37, hl25, hc38, trivial⟩
     ·
      replace h := ite_f hc22 h
      refine zcm rfl ?_
      have hp17 := hL21.pick [0, 2] rfl rfl rfl
      have hL50 : vL w w31 [ob14, some b13] [zac ([] ++ (cs20 ++ sp14)), zac ([] ++ (cs21 ++ []))] := hp17.1
      have K44 := ks w hp17.2
      have f38 := (hE39.mono (K44 None))
      have f39 := (hE40.mono (K44 None))
      obtain rfl := zag h
      obtain rfl := hd10 _ rfl
      replace h := g10
      try dsimp only at h
      skip
      refine zar ?_
      exact ⟨u11, q42, cs20, cs21, _, rfl, (zdt ⟨rfl, rfl, rfl, rfl, trivial⟩), hL50, (zaq K21 K44), f38, hl11, hc20, f39, hl12, hc21, trivial⟩
    ·
     rintro _ w128 ⟨u10, q41, cs18, cs19, u, rfl, rfl, hL51, K45, hE134, hl26, hc39, hE135, hl27, hc40, -⟩
     replace h := g10
     try dsimp only at h
     refine zaj (zah rfl (zaf (zai (v := (zab .i64 (b.length : Int))) rfl ?_)))
     obtain ⟨x40, q171, h⟩ := zdo h
     obtain ⟨m13, q172, q173, q174, q175⟩ := mk1_some q171
     refine zaf (OpY.mkRowX (r := (rInt .u32)) (H := (vH w None [ob14, some b13] w128)) (zc := [(zab .u32 0)]) (x := 0) zal ti89 rfl rfl rfl rfl q172 q173 q174 q175 hL51 ?_)
     intro b23 w129 cs32 hE136 hc41 hL52 hS16
     have K46 := ks w hS16
     refine zaf (zak (v := (osv (some b23) 0 x40.length m13)) rfl ?_)
     refine zan (zaj (zaj (zah rfl (zaf (zai (v := (osv (some b23) 0 x40.length m13)) rfl ?_)))))
     have f40 := (hE136.mono (K46 None))
     refine zaf (OpY.lenRow (pre := []) (r := (rInt .u32)) (xs := x40) zal rfl (hL52.at 0 rfl rfl) f40 rfl rfl ?_)
     refine zaf (zai (v := (zab .i64 0)) rfl ?_)
     refine zan ?_
     obtain ⟨s17, hl28, g17⟩ := zdo h
     refine zbr (fun e w' => ∃ (x41 : (List Int)) (cs33 : List Value) (u : Env), x41 = s17 ∧ e = upds [(12, (osv (some b13) 0 x13.length m11)), (19, (osv (some b23) 0 x40.length m13))] u ∧ vL w w' [some b13, some b23] [zac ([] ++ (cs19 ++ [])), zac ([] ++ (cs33 ++ []))] ∧ Keep w.heap.size [some b23, ob14, some b13] w129 [some b13, some b23] w' ∧ Els (rInt .u32) (vH w None [some b13, some b23] w') cs33 x41 ∧ x40.length = List.length x41 ∧ (cs33 ++ []).length = m13 * (rInt .u32).sz ∧ True) ?_ ?_
     ·
      refine zbh ?_
      have hp18 := hL52.pick [1, 2, 0] rfl rfl rfl
      have hL53 : vL w w129 [ob14, some b13, some b23] [zac ([] ++ (cs18 ++ sp14)), zac ([] ++ (cs19 ++ [])), zac ([] ++ (cs32 ++ []))] := hp18.1
      have K47 := ks w hp18.2
      have f41 := (f40.mono (K47 None))
      refine zce hl28 (fun (ss : ((List Int) × Int)) (e : Env) (w' : World) => match ss with | (x42, x43) => ∃ (cs34 : List Value) (u : Env), e = upds [(8, (zab .u64 (uw r13))), (9, (osv ob14 0 r14.length cap14)), (12, (osv (some b13) 0 x13.length m11)), (19, (osv (some b23) 0 x40.length m13)), (203, (zab .i64 (x40.length : Int))), (204, (zab .i64 x43))] u ∧ vL w w' [ob14, some b13, some b23] [zac ([] ++ (cs18 ++ sp14)), zac ([] ++ (cs19 ++ [])), zac ([] ++ (cs34 ++ []))] ∧ Keep w.heap.size [some b23, ob14, some b13] w129 [ob14, some b13, some b23] w' ∧ Els (rInt .u32) (vH w None [ob14, some b13, some b23] w') cs34 x42 ∧ x40.length = List.length x42 ∧ (cs34 ++ []).length = m13 * (rInt .u32).sz ∧ True) ⟨cs32, _, (zdt ⟨rfl, rfl, rfl, rfl, rfl, rfl, trivial⟩), hL53, K47, f41, rfl, hc41, trivial⟩ ?_
      rintro ⟨x42, x43⟩ oo _ w130 ⟨cs34, u, rfl, hL54, K48, hE137, hl29, hc42, -⟩ h hd14
      rw [bdivide_b5] at h
      refine zaj (zah rfl (zaf (zcj (x := x43) (y := (x40.length : Int)) ((x43 : Int) < (x40.length : Int)) rfl rfl zbk ?_)))
      refine zan (zaj ?_)
      refine zbe ((x43 : Int) < (x40.length : Int)) rfl (fun hc43 => ?_) (fun hc43 => ?_)
      ·
       replace h := ite_t hc43 h
       refine zbf (zaj (zbh (zaj (zah rfl (zaf (zai (v := (zab .i64 x43)) rfl ?_))))))
       refine zaf (zak (v := (zab .i64 x43)) rfl ?_)
       refine zan ?_
       obtain ⟨x44, q176, h⟩ := zdo h
       obtain ⟨n33, q177, q178⟩ := zdu q176
       have q179 := (List.getElem?_eq_some_iff.1 q178).1
       have f42 := ((hE134.mono (K46 None)).mono (K48 None))
       obtain ⟨b24, hb19⟩ := hL54.row_some 0 rfl rfl (row_pos (pre := []) f42 q178 (Nat.lt_of_sub_eq_succ rfl))
       obtain ⟨vs23, q180, q181, q182⟩ := zed (pre := []) (sp := sp14) f42 q178
       obtain rfl := q181
       obtain ⟨x45, q183, h⟩ := zdo h
       obtain ⟨n34, q184, q185⟩ := zdu q183
       have q186 := (List.getElem?_eq_some_iff.1 q185).1
       obtain ⟨vs24, q187, q188, q189⟩ := zed (pre := []) (sp := sp14) f42 q185
       obtain rfl := q188
       obtain ⟨u21, q190, h⟩ := zdo h
       have q191 := chk_some q190
       refine zcf 18 [] [] (fun W1 => [.det (osv (some b23) 0 x40.length m13), .det (zab .i64 x43), .det (osv ob14 0 r14.length cap14), .det (zab .i64 x43), .det (zab .i64 (iw (x43 + 1))), .det (zao (some ⟨b24, (0 + n33 * (rInt .u32).sz), none⟩)), .det (zab .u32 x44), .det (zab .u64 (uw x44)), .det (zab .u64 (bshl .u64 (uw x44) 32)), .det (osv ob14 0 r14.length cap14), .det (zab .i64 x43), .det (zao (some ⟨b24, (0 + n34 * (rInt .u32).sz), none⟩)), .det (zab .u32 x45), .det (zab .u64 (uw x45)), .det (zab .u64 (bor .u64 (bshl .u64 (uw x44) 32) (uw x45))), .det (zab .u64 (uw r13)), .det (zab .u64 (bshr .u64 (bor .u64 (bshl .u64 (uw x44) 32) (uw x45)) (uw r13))), .det (zab .u32 (uw32 (bshr .u64 (bor .u64 (bshl .u64 (uw x44) 32) (uw x45)) (uw r13))))]) mixed rfl rfl rfl (fun _ => rfl) (fun _ => rfl) ?_ ?_
       ·
        intro W1 _
        exact trivial
       ·
        intro w131 hE138
        have hL55 := hL54.ext hE138
        have K49 := ke hL54 hE138
        refine zau (fun _ _ => zav (zai rfl (er rfl))) ?_
        refine zau (fun _ _ => zav (zai rfl (er rfl))) ?_
        refine zau (fun _ _ => zav (zai rfl (er rfl))) ?_
        refine zau (fun _ _ => zav (zai rfl (er rfl))) ?_
        refine zau (fun _ _ => zav (zby rfl rfl rfl (er rfl))) ?_
        refine zau (fun _ _ => zav (zcl (r := (rInt .u32)) (b := b24) (o := 0) (n := n33) (m := r14.length) (xs := u10) (q := (0 + n33 * (rInt .u32).sz)) zal ti89 (osv_some hb19) hl26 rfl q177 q179 rfl (er rfl))) ?_
        refine zau (fun _ hE145 => zav (zdd zat rfl rfl (own_some hb19 ((hL55.ext hE145).at 0 rfl rfl)) q182 (er rfl))) ?_
        refine zau (fun _ _ => zav (zbp zat zbc rfl rfl (er rfl))) ?_
        refine zau (fun _ _ => zav (OpY.ishl rfl rfl (by decide) (er rfl))) ?_
        refine zau (fun _ _ => zav (zai rfl (er rfl))) ?_
        refine zau (fun _ _ => zav (zai rfl (er rfl))) ?_
        refine zau (fun _ _ => zav (zcl (r := (rInt .u32)) (b := b24) (o := 0) (n := n34) (m := r14.length) (xs := u10) (q := (0 + n34 * (rInt .u32).sz)) zal ti89 (osv_some hb19) hl26 rfl q184 q186 rfl (er rfl))) ?_
        refine zau (fun _ hE151 => zav (zdd zat rfl rfl (own_some hb19 ((hL55.ext hE151).at 0 rfl rfl)) q189 (er rfl))) ?_
        refine zau (fun _ _ => zav (zbp zat zbc rfl rfl (er rfl))) ?_
        refine zau (fun _ _ => zav (OpY.ior rfl rfl (er rfl))) ?_
        refine zau (fun _ _ => zav (zai rfl (er rfl))) ?_
        refine zau (fun _ _ => zav (OpY.ishr rfl rfl q191 (er rfl))) ?_
        refine zau (fun _ _ => zav (zbp zbc zat rfl rfl (er rfl))) ?_
        refine zco ?_
        rintro w150 Z117 hE157 hZ117 ⟨-⟩ ap15
        have hB15 : ∀ b, some b ∈ ([] : List (Option Nat)) → w131.heap.size ≤ b ∧ ¬ Z117 b := by
         intro b hb; cases hb
        have hL58 := hL55.ext hE157
        have K50 := ke hL55 hE157
        obtain ⟨x46, q192, h⟩ := zdo h
        obtain ⟨n35, q193, q194⟩ := zdu q192
        have q195 := (List.getElem?_eq_some_iff.1 q194).1
        refine zaf (zcl (r := (rInt .u32)) (b := b23) (o := 0) (n := n35) (m := x40.length) (xs := x42) (q := (0 + n35 * (rInt .u32).sz)) zal ti89 rfl hl29 rfl q193 q195 rfl ?_)
        obtain ⟨x47, q196, h⟩ := zdo h
        obtain ⟨n36, q197, q198, q199⟩ := zee q196
        obtain rfl := Int.ofNat_inj.1 (q193.symm.trans q197)
        have f43 := ((hE137.mono (K49 None)).mono (K50 None))
        refine zcc (zdj (pre := []) (r := (rInt .u32)) (vs := [(zab .u32 (uw32 (bshr .u64 (bor .u64 (bshl .u64 (uw x44) 32) (uw x45)) (uw r13))))]) (a := (uw32 (bshr .u64 (bor .u64 (bshl .u64 (uw x44) 32) (uw x45)) (uw r13)))) ti89 rfl rfl rfl rfl hL58 2 rfl rfl f43 q195 rfl q199 ?_)
        have hl30 : x40.length = List.length x47 := by rw [q199, List.length_set]; exact hl29
        intro w151 cs35 (hL59 : vL w w151 [ob14, some b13, some b23] [zac ([] ++ (cs18 ++ sp14)), zac ([] ++ (cs19 ++ [])), zac ([] ++ (cs35 ++ []))]) hS17 hE158 q200
        have hc44 : (cs35 ++ []).length = m13 * (rInt .u32).sz := by have := hc42; rw [List.length_append] at this ⊢; rw [q200]; exact this
        have K51 := ks w hS17
        refine zan (zbt (zah rfl (zaf (zby (x := x43) (y := 1) (z := (iw (x43 + 1))) rfl rfl rfl ?_))))
        refine zaf (zai (v := (zab .i64 (iw (x43 + 1)))) rfl ?_)
        refine zan ?_
        have f44 := (hE158.mono (K51 None))
        obtain rfl := zag h
        refine zar ⟨(x47, (iw (x43 + 1))), rfl, ?_⟩
        exact ⟨cs35, _, (zdt ⟨rfl, rfl, rfl, rfl, rfl, rfl, trivial⟩), hL59, (zaq (zaq (zaq K48 K49) K50) K51), f44, hl30, hc44, trivial⟩
      ·
       replace h := ite_f hc43 h
       refine zcm rfl ?_
       have hp19 := hL54.pick [1, 2] rfl rfl rfl
       have hL60 : vL w w130 [some b13, some b23] [zac ([] ++ (cs19 ++ [])), zac ([] ++ (cs34 ++ []))] := hp19.1
       have K52 := ks w hp19.2
       have f45 := (hE137.mono (K52 None))
       obtain rfl := zag h
       obtain rfl := hd14 _ rfl
       replace h := g17
       try dsimp only at h
       skip
       refine zar ?_
       exact ⟨x42, cs34, _, rfl, (zdt ⟨rfl, rfl, trivial⟩), hL60, (zaq K48 K52), f45, hl29, hc42, trivial⟩
     ·
      rintro _ w152 ⟨x41, cs33, u, rfl, rfl, hL61, K53, hE159, hl31, hc45, -⟩
      replace h := g17
      try dsimp only at h
      refine zaj (zah rfl (zaf (zai (v := (osv (some b13) 0 x13.length m11)) rfl ?_)))
      obtain ⟨r17, q201, h⟩ := zdo h
      have f46 := ((hE135.mono (K46 None)).mono (K53 None))
      refine zaf (zaw en83 rfl rfl (btrim_w N q41 (osv (some b13) 0 x13.length m11) _ Any (zdv (pre := []) (o := 0) (n := x13.length) (cap := m11) (hL61.at 0 rfl rfl) f46 vw_any rfl rfl hl27 hc40) r17 q201) ?_)
      rintro _ w153 hE160 ⟨ob16, cap16, cs36, sp17, rfl, hN17, hE161, hc46, -⟩
      replace hE161 := hE161.mono (zba (S := None) hL61 [ob16])
      have hp20 := hL61.adoptL hE160 hN17
      have hL62 := hp20.1
      have K54 := ks w hp20.2
      refine zaf (zai (v := (osv (some b23) 0 x40.length m13)) rfl ?_)
      obtain ⟨r18, q202, h⟩ := zdo h
      have f47 := (hE159.mono (K54 None))
      refine zaf (zaw en83 rfl rfl (btrim_w N x41 (osv (some b23) 0 x40.length m13) _ Any (zdv (pre := []) (o := 0) (n := x40.length) (cap := m13) (hL62.at 2 rfl rfl) f47 vw_any rfl rfl hl31 hc45) r18 q202) ?_)
      rintro _ w154 hE162 ⟨ob17, cap17, cs37, sp18, rfl, hN18, hE163, hc47, -⟩
      replace hE163 := hE163.mono (zba (S := None) hL62 [ob17])
      have hp21 := hL62.adoptL hE162 hN18
      have hL63 := hp21.1
      have K55 := ks w hp21.2
      refine zaf (zak (v := (osv ob16 0 r17.length cap16)) rfl ?_)
      refine zaf (zak (v := (osv ob17 0 r18.length cap17)) rfl ?_)
      refine zan (zbj ?_)
      obtain rfl := zag h
      refine ⟨[(osv ob16 0 r17.length cap16), (osv ob17 0 r18.length cap17)], ⟨rfl, rfl, trivial⟩, ⟨_, rfl, hL63.done, ?_⟩⟩
      have f48 := (hE161.mono (K55 None))
      exact ⟨ob16, cap16, cs36, sp17, ob17, cap17, cs37, sp18, rfl, (hL63.newOwn [1, 0] rfl rfl rfl), (f48.mono (Hv.pick [1, 0] rfl)), hc46, (hE163.mono (Hv.pick [1, 0] rfl)), hc47, trivial⟩
theorem bOf_w (N : Nat) (n : Int)  (w : World) (S : Nat → Prop)  (r : Big) (h : bOf N n = some r) :
  Calls Try.prog 58 #[(zab .i64 n)] w (Ret w (fun v w' => ∃ (v0_0 : Value), (zap #[(zaa r.Negative), v0_0]) = v ∧ Rs (rInt .u32) (vH w None [] w') v0_0 r.Digits ∧ True)) := by
 unfold bOf at h
 have hL : vL w w [] [] := Go.X.Loc.begin0 w
 refine calls_of (l := [(zab .i64 n)]) (rl := [.cell 2 26]) (n := 19) Try.func58 rfl rfl rfl (zae rfl) ?_
 refine zaj (zah rfl (zaf (zca (cs := [(zaa false), (zad none 0 0)]) ti26 rfl hL ?_)))
 intro b1 w2 hL3 hS5
 refine zan (zaj (zah rfl (zaf (zai (v := (zab .i64 n)) rfl ?_))))
 refine zaf (zbp (x := n) (z := (uw n)) Try.underlying2 zbc rfl rfl ?_)
 refine zaf (zak (v := (zab .u64 (uw n))) rfl ?_)
 refine zan (zaj (zaj (zah rfl (zaf (zai (v := (zab .i64 n)) rfl ?_)))))
 refine zaf (zcj (x := n) (y := 0) ((n : Int) < 0) rfl rfl zbk ?_)
 refine zan ?_
 obtain ⟨s9, h, g10⟩ := zdo h
 refine zbr (fun e w' => ∃ (u8 : Int) (u : Env), u8 = s9 ∧ e = upds [(0, (zab .i64 n)), (2, (zao (some ⟨b1, 0, none⟩))), (3, (zab .u64 u8))] u ∧ vL w w' [some b1] [zac [(zaa false), (zad none 0 0)]] ∧ Keep w.heap.size [some b1] w2 [some b1] w' ∧ True) ?_ ?_
 ·
  refine zbe ((n : Int) < 0) rfl (fun hc10 => ?_) (fun hc10 => ?_)
  ·
   replace h := ite_t hc10 h
   refine zah rfl (zaf (zai (v := (zab .u64 (uw n))) rfl ?_))
   refine zaf (OpY.neg (x := (uw n)) (z := (uw (0 - (uw n)))) rfl rfl ?_)
   refine zaf (zak (v := (zab .u64 (uw (0 - (uw n))))) rfl ?_)
   refine zan ?_
   obtain rfl := zag h
   refine zar ?_
   exact ⟨(uw (0 - (uw n))), _, rfl, (zdt ⟨rfl, rfl, rfl, trivial⟩), hL3, zbo, trivial⟩
  ·
   replace h := ite_f hc10 h
   refine zbf ?_
   obtain rfl := zag h
   refine zar ?_
   exact ⟨(uw n), _, rfl, (zdt ⟨rfl, rfl, rfl, trivial⟩), hL3, zbo, trivial⟩
 ·
  rintro _ w10 ⟨u8, u, rfl, rfl, hL10, K10, -⟩
  replace h := g10
  try dsimp only at h
  refine zaj (zah rfl (zaf (zai (v := (zab .i64 n)) rfl ?_)))
  refine zaf (zcj (x := n) (y := 0) ((n : Int) < 0) rfl rfl zbk ?_)
  refine zaf (zai (v := (zab .u64 u8)) rfl ?_)
  refine zaf (zbp (x := u8) (z := (uw32 u8)) zbc zat rfl rfl ?_)
  refine zaf (zai (v := (zab .u64 u8)) rfl ?_)
  refine zaf (OpY.ishr (x := u8) (y := 32) rfl rfl (by decide) ?_)
  refine zaf (zbp (x := (bshr .u64 u8 32)) (z := (uw32 (bshr .u64 u8 32))) zbc zat rfl rfl ?_)
  have hE10 : Els (rInt .u32) (vH w None [some b1] w10) [(zab .u32 (uw32 u8)), (zab .u32 (uw32 (bshr .u64 u8 32)))] [(uw32 u8), (uw32 (bshr .u64 u8 32))] := (zcg (a := [(zab .u32 (uw32 u8))]) rfl (zcg (a := [(zab .u32 (uw32 (bshr .u64 u8 32)))]) rfl zcp))
  refine zaf (zch (r := (rInt .u32)) (vs := [(zab .u32 (uw32 u8)), (zab .u32 (uw32 (bshr .u64 u8 32)))]) (css := [[(zab .u32 (uw32 u8))], [(zab .u32 (uw32 (bshr .u64 u8 32)))]]) (xs := [(uw32 u8), (uw32 (bshr .u64 u8 32))]) zal ti89 (zae rfl) rfl rfl ⟨rfl, rfl, ⟨rfl, rfl, trivial⟩⟩ (zae rfl) hE10 rfl hL10 ?_)
  intro b10 w11 hc11 hL11 hS10
  have K11 := ks w hS10
  obtain ⟨r10, q10, h⟩ := zdo h
  have f10 := (hE10.mono (K11 None))
  refine zaf (zaw en73 rfl rfl (bnormal_w N (decide ((n : Int) < 0)) [(uw32 u8), (uw32 (bshr .u64 u8 32))] (osv (some b10) 0 2 2) _ Any (zdv (pre := []) (o := 0) (n := 2) (cap := 2) (hL11.at 0 rfl rfl) f10 vw_any rfl rfl rfl hc11) r10 q10) ?_)
  rintro _ w12 hE11 ⟨v10, rfl, k10, -⟩
  replace k10 := k10.mono (zba (S := None) hL11 [])
  have hL12 := hL11.ext hE11
  refine zcc (zbn (vs := [(zaa r10.Negative), v10]) ti26 rfl rfl rfl rfl (zds rfl (zds k10.one zdw)) hL12 1 rfl rfl (zae rfl) ?_)
  intro w13 (hL13 : vL w w13 [some b10, some b1] [zac ([] ++ ([(zab .u32 (uw32 u8)), (zab .u32 (uw32 (bshr .u64 u8 32)))] ++ [])), zac [(zaa r10.Negative), v10]]) hS11
  have K12 := ks w hS11
  refine zan (zbj ?_)
  obtain rfl := zag h
  refine ⟨[(zap #[(zaa r10.Negative), v10])], ⟨⟨⟨b1, 0, none⟩, rfl, zdz zam rfl ti26 (hL13.at 1 rfl rfl) rfl⟩, trivial⟩, ⟨_, rfl, hL13.done, ?_⟩⟩
  have f11 := (k10.mono (K12 None))
  exact ⟨v10, rfl, (f11.mono zdi), trivial⟩
theorem bNormal_w (N : Nat) (x : Big) (x_v : Value) (w : World) (S : Nat → Prop) (x_h : Rs (rInt .u32) (vH w S [] w) x_v x.Digits) (r : Big) (h : bNormal N x = some r) :
  Calls Try.prog 63 #[(zap #[(zaa x.Negative), x_v])] w (Ret w (fun v w' => ∃ (v0_0 : Value), (zap #[(zaa r.Negative), v0_0]) = v ∧ Rs (rInt .u32) (vH w None [] w') v0_0 r.Digits ∧ True)) := by
 unfold bNormal at h
 have hL : vL w w [] [] := Go.X.Loc.begin0 w
 refine calls_of (l := [(zap #[(zaa x.Negative), x_v])]) (rl := [.cell 2 26]) (n := 8) Try.func63 rfl rfl rfl (zae rfl) ?_
 refine zaj (zah rfl (zaf (zde (cs := [(zaa x.Negative), x_v]) rfl rfl hL ?_)))
 intro b1 w2 hL3 hS5
 have K4 := ks w hS5
 refine zaf (zca (cs := [(zaa false), (zad none 0 0)]) ti26 rfl hL3 ?_)
 intro b6 w7 hL8 hS10
 have K9 := ks w hS10
 refine zan (zaj (zah rfl (zaf (zas (q := 0) zam rfl ti4 rfl rfl rfl ?_))))
 refine zaf (zaz (v := (zaa x.Negative)) zbs rfl rfl (hL8.at 1 rfl rfl) rfl ?_)
 refine zaf (zas (q := 1) zam rfl ti24 rfl rfl rfl ?_)
 refine zaf (zaz (v := x_v) zal rfl rfl (hL8.at 1 rfl rfl) rfl ?_)
 obtain ⟨r10, q10, h⟩ := zdo h
 have f10 := ((x_h.mono (K4 S)).mono (K9 S))
 refine zaf (zaw en73 rfl rfl (bnormal_w N x.Negative x.Digits x_v _ Any (f10.mono vw_any) r10 q10) ?_)
 rintro _ w10 hE10 ⟨v10, rfl, k10, -⟩
 replace k10 := k10.mono (zba (S := None) hL8 [])
 have hL10 := hL8.ext hE10
 refine zcc (zbn (vs := [(zaa r10.Negative), v10]) ti26 rfl rfl rfl rfl (zds rfl (zds k10.one zdw)) hL10 0 rfl rfl (zae rfl) ?_)
 intro w11 (hL11 : vL w w11 [some b6, some b1] [zac [(zaa r10.Negative), v10], zac [(zaa x.Negative), x_v]]) hS11
 have K10 := ks w hS11
 refine zan (zbj ?_)
 obtain rfl := zag h
 refine ⟨[(zap #[(zaa r10.Negative), v10])], ⟨⟨⟨b6, 0, none⟩, rfl, zdz zam rfl ti26 (hL11.at 0 rfl rfl) rfl⟩, trivial⟩, ⟨_, rfl, hL11.done, ?_⟩⟩
 have f11 := (k10.mono (K10 None))
 exact ⟨v10, rfl, (f11.mono zdi), trivial⟩
theorem bSign_w (N : Nat) (x : Big) (x_v : Value) (w : World) (S : Nat → Prop) (x_h : Rs (rInt .u32) (vH w S [] w) x_v x.Digits) (r : Int) (h : bSign N x = some r) :
  Calls Try.prog 45 #[(zap #[(zaa x.Negative), x_v])] w (Ret w (fun v w' => (zab .i64 r) = v ∧ True)) := by
 unfold bSign at h
 have hL : vL w w [] [] := Go.X.Loc.begin0 w
 refine calls_of (l := [(zap #[(zaa x.Negative), x_v])]) (rl := [.tmp 2]) (n := 13) Try.func45 rfl rfl rfl (zae rfl) ?_
 refine zaj (zah rfl (zaf (zde (cs := [(zaa x.Negative), x_v]) rfl rfl hL ?_)))
 intro b1 w2 hL3 hS5
 have K4 := ks w hS5
 refine zaf (zak (v := (zab .i64 0)) rfl ?_)
 refine zan (zaj (zah rfl (zaf (zbm (vs := [(zaa x.Negative), x_v]) zam rfl ti26 rfl (hL3.at 0 rfl rfl) rfl rfl ?_))))
 obtain ⟨r6, q7, h⟩ := zdo h
 have f10 := (x_h.mono (K4 S))
 refine zaf (zaw en63 rfl rfl (bNormal_w N x x_v _ Any (f10.mono vw_any) r6 q7) ?_)
 rintro _ w10 hE10 ⟨v8, rfl, k9, -⟩
 replace k9 := k9.mono (zba (S := None) hL3 [])
 have hL10 := hL3.ext hE10
 refine zcc (zbn (vs := [(zaa r6.Negative), v8]) ti26 rfl rfl rfl rfl (zds rfl (zds k9.one zdw)) hL10 0 rfl rfl (zae rfl) ?_)
 intro w11 (hL11 : vL w w11 [some b1] [zac [(zaa r6.Negative), v8]]) hS10
 have K10 := ks w hS10
 refine zan (zaj (zbh (zaj (zah rfl (zaf (zas (q := 1) zam rfl ti24 rfl rfl rfl ?_))))))
 refine zaf (zaz (v := v8) zal rfl rfl (hL11.at 0 rfl rfl) rfl ?_)
 have f11 := (k9.mono (K10 None))
 refine zaf (zbd (v := v8) zal rfl f11 ?_)
 refine zaf (OpY.eql (x := (r6.Digits.length : Int)) (y := 0) (((r6.Digits.length : Int) : Int) = 0) rfl rfl zbk ?_)
 refine zaf (zak (v := (zaa (decide (((r6.Digits.length : Int) : Int) = 0)))) rfl ?_)
 refine zan ?_
 refine zbe (((r6.Digits.length : Int) : Int) = 0) rfl (fun hc10 => ?_) (fun hc10 => ?_)
 ·
  replace h := ite_t hc10 h
  refine zaj (zah rfl (zaf (zak (v := (zab .i64 0)) rfl ?_)))
  refine zan (zbj ?_)
  obtain rfl := zag h
  refine ⟨[(zab .i64 0)], ⟨rfl, trivial⟩, ⟨_, rfl, hL11.done, ?_⟩⟩
  exact ⟨rfl, trivial⟩
 ·
  replace h := ite_f hc10 h
  refine zaj (zah rfl (zaf (zas (q := 0) zam rfl ti4 rfl rfl rfl ?_)))
  refine zaf (zaz (v := (zaa r6.Negative)) zbs rfl rfl (hL11.at 0 rfl rfl) rfl ?_)
  refine zaf (zak (v := (zaa r6.Negative)) rfl ?_)
  refine zan ?_
  refine zcr r6.Negative rfl (fun hc11 => ?_) (fun hc11 => ?_)
  ·
   replace h := ite_t hc11 h
   refine zaj (zah rfl (zaf (zak (v := (zab .i64 (-1))) rfl ?_)))
   refine zan (zbj ?_)
   obtain rfl := zag h
   refine ⟨[(zab .i64 (-1))], ⟨rfl, trivial⟩, ⟨_, rfl, hL11.done, ?_⟩⟩
   exact ⟨rfl, trivial⟩
  ·
   replace h := ite_f hc11 h
   refine zbf (zbt (zaj (zah rfl (zaf (zak (v := (zab .i64 1)) rfl ?_)))))
   refine zan (zbj ?_)
   obtain rfl := zag h
   refine ⟨[(zab .i64 1)], ⟨rfl, trivial⟩, ⟨_, rfl, hL11.done, ?_⟩⟩
   exact ⟨rfl, trivial⟩
theorem bNeg_w (N : Nat) (x : Big) (x_v : Value) (w : World) (S : Nat → Prop) (x_h : Rs (rInt .u32) (vH w S [] w) x_v x.Digits) (r : Big) (h : bNeg N x = some r) :
  Calls Try.prog 57 #[(zap #[(zaa x.Negative), x_v])] w (Ret w (fun v w' => ∃ (v0_0 : Value), (zap #[(zaa r.Negative), v0_0]) = v ∧ Rs (rInt .u32) (vH w None [] w') v0_0 r.Digits ∧ True)) := by
 unfold bNeg at h
 have hL : vL w w [] [] := Go.X.Loc.begin0 w
 refine calls_of (l := [(zap #[(zaa x.Negative), x_v])]) (rl := [.cell 2 26]) (n := 9) Try.func57 rfl rfl rfl (zae rfl) ?_
 refine zaj (zah rfl (zaf (zde (cs := [(zaa x.Negative), x_v]) rfl rfl hL ?_)))
 intro b1 w2 hL3 hS5
 have K4 := ks w hS5
 refine zaf (zca (cs := [(zaa false), (zad none 0 0)]) ti26 rfl hL3 ?_)
 intro b6 w7 hL8 hS10
 have K9 := ks w hS10
 refine zan (zaj (zah rfl (zaf (zas (q := 0) zam rfl ti4 rfl rfl rfl ?_))))
 refine zaf (zaz (v := (zaa x.Negative)) zbs rfl rfl (hL8.at 1 rfl rfl) rfl ?_)
 refine zaf (OpY.not (x := x.Negative) rfl ?_)
 refine zaf (zas (q := 1) zam rfl ti24 rfl rfl rfl ?_)
 refine zaf (zaz (v := x_v) zal rfl rfl (hL8.at 1 rfl rfl) rfl ?_)
 obtain ⟨r10, q10, h⟩ := zdo h
 have f10 := ((x_h.mono (K4 S)).mono (K9 S))
 refine zaf (zaw en73 rfl rfl (bnormal_w N (!x.Negative) x.Digits x_v _ Any (f10.mono vw_any) r10 q10) ?_)
 rintro _ w10 hE10 ⟨v10, rfl, k10, -⟩
 replace k10 := k10.mono (zba (S := None) hL8 [])
 have hL10 := hL8.ext hE10
 refine zcc (zbn (vs := [(zaa r10.Negative), v10]) ti26 rfl rfl rfl rfl (zds rfl (zds k10.one zdw)) hL10 0 rfl rfl (zae rfl) ?_)
 intro w11 (hL11 : vL w w11 [some b6, some b1] [zac [(zaa r10.Negative), v10], zac [(zaa x.Negative), x_v]]) hS11
 have K10 := ks w hS11
 refine zan (zbj ?_)
 obtain rfl := zag h
 refine ⟨[(zap #[(zaa r10.Negative), v10])], ⟨⟨⟨b6, 0, none⟩, rfl, zdz zam rfl ti26 (hL11.at 0 rfl rfl) rfl⟩, trivial⟩, ⟨_, rfl, hL11.done, ?_⟩⟩
 have f11 := (k10.mono (K10 None))
 exact ⟨v10, rfl, (f11.mono zdi), trivial⟩
theorem bAdd_w (N : Nat) (a : Big) (b : Big) (a_v : Value) (b_v : Value) (w : World) (S : Nat → Prop) (a_h : Rs (rInt .u32) (vH w S [] w) a_v a.Digits) (b_h : Rs (rInt .u32) (vH w S [] w) b_v b.Digits) (r : Big) (h : bAdd N a b = some r) :
  Calls Try.prog 46 #[(zap #[(zaa a.Negative), a_v]), (zap #[(zaa b.Negative), b_v])] w (Ret w (fun v w' => ∃ (v0_0 : Value), (zap #[(zaa r.Negative), v0_0]) = v ∧ Rs (rInt .u32) (vH w None [] w') v0_0 r.Digits ∧ True)) := by
 unfold bAdd at h
 have hL : vL w w [] [] := Go.X.Loc.begin0 w
 refine calls_of (l := [(zap #[(zaa a.Negative), a_v]), (zap #[(zaa b.Negative), b_v])]) (rl := [.cell 4 26]) (n := 44) Try.func46 rfl rfl rfl (zae rfl) ?_
 refine zaj (zah rfl (zaf (zde (cs := [(zaa a.Negative), a_v]) rfl rfl hL ?_)))
 intro b1 w2 hL3 hS5
 have K4 := ks w hS5
 refine zaf (zde (cs := [(zaa b.Negative), b_v]) rfl rfl hL3 ?_)
 intro b6 w7 hL8 hS10
 have K9 := ks w hS10
 refine zaf (zca (cs := [(zaa false), (zad none 0 0)]) ti26 rfl hL8 ?_)
 intro b10 w10 hL10 hS11
 have K10 := ks w hS11
 refine zan (zaj ?_)
 obtain ⟨r10, q10, h⟩ := zdo h
 refine zcf 3 [] [] (fun W1 => [.det (zap #[(zaa a.Negative), a_v]), .rel (fun v Z w' => ∃ v10, (zap #[(zaa r10.Negative), v10]) = v ∧ Rs (rInt .u32) (vZ W1 w None [some b10, some b6, some b1] Z w') v10 r10.Digits ∧ True) (fun _ => []), .det (zap #[(zaa b.Negative), b_v])]) mixed rfl rfl rfl (fun _ => rfl) (fun _ => rfl) ?_ ?_
 ·
  intro W1 _
  exact ⟨fun v Z Z' w w' hΦ hz _ _ hs => by obtain ⟨v10, rfl, k10, -⟩ := hΦ; exact ⟨v10, rfl, (k10.mono (zcs hz hs)), trivial⟩, trivial⟩
 ·
  intro w11 hE10
  have hL11 := hL10.ext hE10
  have K11 := ke hL10 hE10
  refine zau (fun _ hE11 => zav (zbm (vs := [(zaa a.Negative), a_v]) zam rfl ti26 rfl ((hL11.ext hE11).at 2 rfl rfl) rfl rfl (er rfl))) ?_
  refine zct ?_ ?_
  ·
   rintro w13 Z11 hE12 hZ11 ⟨-⟩
   have K12 := ke hL11 hE12
   refine zav (zaw en63 rfl rfl (bNormal_w N a a_v _ Any ((((((a_h.mono (K4 S)).mono (K9 S)).mono (K10 S)).mono (K11 S)).mono (K12 S)).mono vw_any) r10 q10) ?_)
   rintro _ w14 hE13 ⟨v10, rfl, k10, -⟩
   exact zcn hE13 hZ11 zcb (fun _ h => h) ⟨v10, rfl, (k10.mono zdf), trivial⟩
  intro z1
  refine zau (fun _ hE14 => zav (zbm (vs := [(zaa b.Negative), b_v]) zam rfl ti26 rfl ((hL11.ext hE14).at 1 rfl rfl) rfl rfl (er rfl))) ?_
  refine zco ?_
  rintro w16 Z13 hE15 hZ13 ⟨⟨⟨v10, rfl, k10, -⟩, hB1⟩, -⟩ ap10
  have hB10 : ∀ b, some b ∈ ([] : List (Option Nat)) → w11.heap.size ≤ b ∧ ¬ Z13 b := by
   intro b hb; cases hb
  replace k10 := k10.mono (zdc hL11 hZ13 hB10)
  have hL14 := hL11.ext hE15
  have K13 := ke hL11 hE15
  obtain ⟨r11, q11, h⟩ := zdo h
  have f10 := (((((b_h.mono (K4 S)).mono (K9 S)).mono (K10 S)).mono (K11 S)).mono (K13 S))
  refine zaf (zaw en63 rfl rfl (bNormal_w N b b_v _ Any (f10.mono vw_any) r11 q11) ?_)
  rintro _ w17 hE16 ⟨v11, rfl, k11, -⟩
  replace k11 := k11.mono (zba (S := None) hL14 [])
  have hL15 := hL14.ext hE16
  have K14 := ke hL14 hE16
  have f11 := (k10.mono (K14 None))
  refine zcc (zbn (vs := [(zaa r10.Negative), v10]) ti26 rfl rfl rfl rfl (zds rfl (zds f11.one zdw)) hL15 2 rfl rfl (zae rfl) ?_)
  intro w18 (hL16 : vL w w18 [some b10, some b6, some b1] [zac [(zaa false), (zad none 0 0)], zac [(zaa b.Negative), b_v], zac [(zaa r10.Negative), v10]]) hS12
  have K15 := ks w hS12
  have f12 := (k11.mono (K15 None))
  refine zcc (zbn (vs := [(zaa r11.Negative), v11]) ti26 rfl rfl rfl rfl (zds rfl (zds f12.one zdw)) hL16 1 rfl rfl (zae rfl) ?_)
  intro w19 (hL17 : vL w w19 [some b10, some b6, some b1] [zac [(zaa false), (zad none 0 0)], zac [(zaa r11.Negative), v11], zac [(zaa r10.Negative), v10]]) hS13
  have K16 := ks w hS13
  refine zan (zaj (zaj (zah rfl (zaf (zas (q := 0) zam rfl ti4 rfl rfl rfl ?_)))))
  refine zaf (zaz (v := (zaa r10.Negative)) zbs rfl rfl (hL17.at 2 rfl rfl) rfl ?_)
  refine zaf (zas (q := 0) zam rfl ti4 rfl rfl rfl ?_)
  refine zaf (zaz (v := (zaa r11.Negative)) zbs rfl rfl (hL17.at 1 rfl rfl) rfl ?_)
  refine zaf (OpY.eqlBool (x := r10.Negative) (y := r11.Negative) zbs rfl rfl ?_)
  refine zan ?_
  refine zcr (r10.Negative == r11.Negative) rfl (fun hc10 => ?_) (fun hc10 => ?_)
  ·
   replace h := ite_t hc10 h
   refine zaj ?_
   obtain ⟨r12, q12, h⟩ := zdo h
   refine zcf 7 [] [] (fun W1 => [.det (zao (some ⟨b1, 0, none⟩)), .det (zaa r10.Negative), .det (zao (some ⟨b1, 1, none⟩)), .det v10, .det (zao (some ⟨b6, 1, none⟩)), .det v11, .rel (fun v Z w' => ∃ ob10 cap10 cs10 sp10, (osv ob10 0 r12.length cap10) = v ∧ OwnC w' ob10 (zac ([] ++ (cs10 ++ sp10))) ∧ Els (rInt .u32) (vZ W1 w None [some b10, some b6, some b1] Z w') cs10 r12 ∧ (cs10 ++ sp10 : List Value).length = cap10 * (rInt .u32).sz ∧ True) footV]) mixed rfl rfl rfl (fun _ => rfl) (fun _ => rfl) ?_ ?_
   ·
    intro W1 _
    exact ⟨fun v Z Z' w w' hΦ hz _ _ hs => by obtain ⟨ob10, cap10, cs10, sp10, rfl, hO10, hE17, hc11, -⟩ := hΦ; exact ⟨ob10, cap10, cs10, sp10, rfl, (hO10.stay (fun b hb => (zdx (ob := ob10) (o := 0) (n := r12.length) (cap := cap10)).2 (by rw [hb]; exact zax)) hs), (hE17.mono (zcs hz hs)), hc11, trivial⟩, trivial⟩
   ·
    intro w20 hE18
    have hL18 := hL17.ext hE18
    have K17 := ke hL17 hE18
    refine zau (fun _ _ => zav (zas zam rfl ti4 rfl rfl rfl (er rfl))) ?_
    refine zau (fun _ hE20 => zav (zaz zbs rfl rfl ((hL18.ext hE20).at 2 rfl rfl) rfl (er rfl))) ?_
    refine zau (fun _ _ => zav (zas zam rfl ti24 rfl rfl rfl (er rfl))) ?_
    refine zau (fun _ hE22 => zav (zaz zal rfl rfl ((hL18.ext hE22).at 2 rfl rfl) rfl (er rfl))) ?_
    refine zau (fun _ _ => zav (zas zam rfl ti24 rfl rfl rfl (er rfl))) ?_
    refine zau (fun _ hE24 => zav (zaz zal rfl rfl ((hL18.ext hE24).at 1 rfl rfl) rfl (er rfl))) ?_
    refine zct ?_ ?_
    ·
     rintro w27 Z20 hE25 hZ20 ⟨-⟩
     have K18 := ke hL18 hE25
     refine zav (zaw en74 rfl rfl (bplus_w N r10.Digits r11.Digits v10 v11 _ Any (((((f11.mono (K15 None)).mono (K16 None)).mono (K17 None)).mono (K18 None)).mono vw_any) ((((f12.mono (K16 None)).mono (K17 None)).mono (K18 None)).mono vw_any) r12 q12) ?_)
     rintro _ w28 hE26 ⟨ob10, cap10, cs10, sp10, rfl, hN10, hE17, hc11, -⟩
     exact zcn hE26 hZ20 hN10 (fun b hb => footV_osv.1 hb) ⟨ob10, cap10, cs10, sp10, rfl, hN10.2.2.1, (hE17.mono zdf), hc11, trivial⟩
    intro z6
    refine zco ?_
    rintro w29 Z21 hE27 hZ21 ⟨⟨⟨ob10, cap10, cs10, sp10, rfl, hO10, hE17, hc11, -⟩, hB6⟩, -⟩ ap11
    have hB11 : ∀ b, some b ∈ ([ob10] : List (Option Nat)) → w20.heap.size ≤ b ∧ ¬ Z21 b := by
     intro b hb
     rcases List.mem_cons.1 hb with hb' | hb
     ·
      have := hB6 b ((zdx (ob := ob10) (o := 0) (n := r12.length) (cap := cap10)).2 (by rw [hb']; exact zax)); exact ⟨this.1, this.2.2⟩
     cases hb
    replace hE17 := hE17.mono (zdc hL18 hZ21 hB11)
    have hN11 : NewOwn w20 w29 [ob10] [zac ([] ++ (cs10 ++ sp10))] := (zda zcb hO10 (fun b hb => (hB11 b (by rw [← hb]; simp)).1) (fun b _ hb => by cases hb))
    have hp10 := hL18.adoptL hE27 hN11
    have hL22 := hp10.1
    obtain ⟨r13, q13, h⟩ := zdo h
    refine zaf (zaw en73 rfl rfl (bnormal_w N r10.Negative r12 (osv ob10 0 r12.length cap10) _ Any (zdv (pre := []) (o := 0) (n := r12.length) (cap := cap10) (hL22.at 0 rfl rfl) hE17 vw_any rfl rfl rfl hc11) r13 q13) ?_)
    rintro _ w30 hE28 ⟨v12, rfl, k12, -⟩
    replace k12 := k12.mono (zba (S := None) hL22 [])
    have hL23 := hL22.ext hE28
    refine zcc (zbn (vs := [(zaa r13.Negative), v12]) ti26 rfl rfl rfl rfl (zds rfl (zds k12.one zdw)) hL23 1 rfl rfl (zae rfl) ?_)
    intro w31 (hL24 : vL w w31 [ob10, some b10, some b6, some b1] [zac ([] ++ (cs10 ++ sp10)), zac [(zaa r13.Negative), v12], zac [(zaa r11.Negative), v11], zac [(zaa r10.Negative), v10]]) hS14
    have K19 := ks w hS14
    refine zan (zbj ?_)
    obtain rfl := zag h
    refine ⟨[(zap #[(zaa r13.Negative), v12])], ⟨⟨⟨b10, 0, none⟩, rfl, zdz zam rfl ti26 (hL24.at 1 rfl rfl) rfl⟩, trivial⟩, ⟨_, rfl, hL24.done, ?_⟩⟩
    have f13 := (k12.mono (K19 None))
    exact ⟨v12, rfl, (f13.mono zdi), trivial⟩
  ·
   replace h := ite_f hc10 h
   refine zbf (zaj (zaj (zah rfl (zaf (zas (q := 1) zam rfl ti24 rfl rfl rfl ?_)))))
   refine zaf (zaz (v := v10) zal rfl rfl (hL17.at 2 rfl rfl) rfl ?_)
   refine zaf (zas (q := 1) zam rfl ti24 rfl rfl rfl ?_)
   refine zaf (zaz (v := v11) zal rfl rfl (hL17.at 1 rfl rfl) rfl ?_)
   obtain ⟨r14, q14, h⟩ := zdo h
   have f14 := ((f11.mono (K15 None)).mono (K16 None))
   have f15 := (f12.mono (K16 None))
   refine zaf (zaw en75 rfl rfl (bcompare_w N r10.Digits r11.Digits v10 v11 _ Any (f14.mono vw_any) (f15.mono vw_any) r14 q14) ?_)
   rintro _ w32 hE29 ⟨rfl, -⟩
   have hL25 := hL17.ext hE29
   have K20 := ke hL17 hE29
   refine zaf (zcj (x := r14) (y := 0) ((r14 : Int) < 0) rfl rfl zbk ?_)
   refine zan ?_
   refine zbe ((r14 : Int) < 0) rfl (fun hc12 => ?_) (fun hc12 => ?_)
   ·
    replace h := ite_t hc12 h
    refine zaj ?_
    obtain ⟨r15, q15, h⟩ := zdo h
    refine zcf 7 [] [] (fun W1 => [.det (zao (some ⟨b6, 0, none⟩)), .det (zaa r11.Negative), .det (zao (some ⟨b6, 1, none⟩)), .det v11, .det (zao (some ⟨b1, 1, none⟩)), .det v10, .rel (fun v Z w' => ∃ ob11 cap11 cs11 sp11, (osv ob11 0 r15.length cap11) = v ∧ OwnC w' ob11 (zac ([] ++ (cs11 ++ sp11))) ∧ Els (rInt .u32) (vZ W1 w None [some b10, some b6, some b1] Z w') cs11 r15 ∧ (cs11 ++ sp11 : List Value).length = cap11 * (rInt .u32).sz ∧ True) footV]) mixed rfl rfl rfl (fun _ => rfl) (fun _ => rfl) ?_ ?_
    ·
     intro W1 _
     exact ⟨fun v Z Z' w w' hΦ hz _ _ hs => by obtain ⟨ob11, cap11, cs11, sp11, rfl, hO11, hE30, hc13, -⟩ := hΦ; exact ⟨ob11, cap11, cs11, sp11, rfl, (hO11.stay (fun b hb => (zdx (ob := ob11) (o := 0) (n := r15.length) (cap := cap11)).2 (by rw [hb]; exact zax)) hs), (hE30.mono (zcs hz hs)), hc13, trivial⟩, trivial⟩
    ·
     intro w33 hE31
     have hL26 := hL25.ext hE31
     have K21 := ke hL25 hE31
     refine zau (fun _ _ => zav (zas zam rfl ti4 rfl rfl rfl (er rfl))) ?_
     refine zau (fun _ hE33 => zav (zaz zbs rfl rfl ((hL26.ext hE33).at 1 rfl rfl) rfl (er rfl))) ?_
     refine zau (fun _ _ => zav (zas zam rfl ti24 rfl rfl rfl (er rfl))) ?_
     refine zau (fun _ hE35 => zav (zaz zal rfl rfl ((hL26.ext hE35).at 1 rfl rfl) rfl (er rfl))) ?_
     refine zau (fun _ _ => zav (zas zam rfl ti24 rfl rfl rfl (er rfl))) ?_
     refine zau (fun _ hE37 => zav (zaz zal rfl rfl ((hL26.ext hE37).at 2 rfl rfl) rfl (er rfl))) ?_
     refine zct ?_ ?_
     ·
      rintro w40 Z28 hE38 hZ28 ⟨-⟩
      have K22 := ke hL26 hE38
      refine zav (zaw en76 rfl rfl (bminus_w N r11.Digits r10.Digits v11 v10 _ Any ((((f15.mono (K20 None)).mono (K21 None)).mono (K22 None)).mono vw_any) ((((f14.mono (K20 None)).mono (K21 None)).mono (K22 None)).mono vw_any) r15 q15) ?_)
      rintro _ w41 hE39 ⟨ob11, cap11, cs11, sp11, rfl, hN12, hE30, hc13, -⟩
      exact zcn hE39 hZ28 hN12 (fun b hb => footV_osv.1 hb) ⟨ob11, cap11, cs11, sp11, rfl, hN12.2.2.1, (hE30.mono zdf), hc13, trivial⟩
     intro z6
     refine zco ?_
     rintro w42 Z29 hE40 hZ29 ⟨⟨⟨ob11, cap11, cs11, sp11, rfl, hO11, hE30, hc13, -⟩, hB6⟩, -⟩ ap12
     have hB12 : ∀ b, some b ∈ ([ob11] : List (Option Nat)) → w33.heap.size ≤ b ∧ ¬ Z29 b := by
      intro b hb
      rcases List.mem_cons.1 hb with hb' | hb
      ·
       have := hB6 b ((zdx (ob := ob11) (o := 0) (n := r15.length) (cap := cap11)).2 (by rw [hb']; exact zax)); exact ⟨this.1, this.2.2⟩
      cases hb
     replace hE30 := hE30.mono (zdc hL26 hZ29 hB12)
     have hN13 : NewOwn w33 w42 [ob11] [zac ([] ++ (cs11 ++ sp11))] := (zda zcb hO11 (fun b hb => (hB12 b (by rw [← hb]; simp)).1) (fun b _ hb => by cases hb))
     have hp11 := hL26.adoptL hE40 hN13
     have hL30 := hp11.1
     obtain ⟨r16, q16, h⟩ := zdo h
     refine zaf (zaw en73 rfl rfl (bnormal_w N r11.Negative r15 (osv ob11 0 r15.length cap11) _ Any (zdv (pre := []) (o := 0) (n := r15.length) (cap := cap11) (hL30.at 0 rfl rfl) hE30 vw_any rfl rfl rfl hc13) r16 q16) ?_)
     rintro _ w43 hE41 ⟨v13, rfl, k13, -⟩
     replace k13 := k13.mono (zba (S := None) hL30 [])
     have hL31 := hL30.ext hE41
     refine zcc (zbn (vs := [(zaa r16.Negative), v13]) ti26 rfl rfl rfl rfl (zds rfl (zds k13.one zdw)) hL31 1 rfl rfl (zae rfl) ?_)
     intro w44 (hL32 : vL w w44 [ob11, some b10, some b6, some b1] [zac ([] ++ (cs11 ++ sp11)), zac [(zaa r16.Negative), v13], zac [(zaa r11.Negative), v11], zac [(zaa r10.Negative), v10]]) hS15
     have K23 := ks w hS15
     refine zan (zbj ?_)
     obtain rfl := zag h
     refine ⟨[(zap #[(zaa r16.Negative), v13])], ⟨⟨⟨b10, 0, none⟩, rfl, zdz zam rfl ti26 (hL32.at 1 rfl rfl) rfl⟩, trivial⟩, ⟨_, rfl, hL32.done, ?_⟩⟩
     have f16 := (k13.mono (K23 None))
     exact ⟨v13, rfl, (f16.mono zdi), trivial⟩
   ·
    replace h := ite_f hc12 h
    refine zbf (zaj ?_)
    obtain ⟨r17, q17, h⟩ := zdo h
    refine zcf 7 [] [] (fun W1 => [.det (zao (some ⟨b1, 0, none⟩)), .det (zaa r10.Negative), .det (zao (some ⟨b1, 1, none⟩)), .det v10, .det (zao (some ⟨b6, 1, none⟩)), .det v11, .rel (fun v Z w' => ∃ ob12 cap12 cs12 sp12, (osv ob12 0 r17.length cap12) = v ∧ OwnC w' ob12 (zac ([] ++ (cs12 ++ sp12))) ∧ Els (rInt .u32) (vZ W1 w None [some b10, some b6, some b1] Z w') cs12 r17 ∧ (cs12 ++ sp12 : List Value).length = cap12 * (rInt .u32).sz ∧ True) footV]) mixed rfl rfl rfl (fun _ => rfl) (fun _ => rfl) ?_ ?_
    ·
     intro W1 _
     exact ⟨fun v Z Z' w w' hΦ hz _ _ hs => by obtain ⟨ob12, cap12, cs12, sp12, rfl, hO12, hE42, hc14, -⟩ := hΦ; exact ⟨ob12, cap12, cs12, sp12, rfl, (hO12.stay (fun b hb => (zdx (ob := ob12) (o := 0) (n := r17.length) (cap := cap12)).2 (by rw [hb]; exact zax)) hs), (hE42.mono (zcs hz hs)), hc14, trivial⟩, trivial⟩
    ·
     intro w45 hE43
     have hL33 := hL25.ext hE43
     have K24 := ke hL25 hE43
     refine zau (fun _ _ => zav (zas zam rfl ti4 rfl rfl rfl (er rfl))) ?_
     refine zau (fun _ hE45 => zav (zaz zbs rfl rfl ((hL33.ext hE45).at 2 rfl rfl) rfl (er rfl))) ?_
     refine zau (fun _ _ => zav (zas zam rfl ti24 rfl rfl rfl (er rfl))) ?_
     refine zau (fun _ hE47 => zav (zaz zal rfl rfl ((hL33.ext hE47).at 2 rfl rfl) rfl (er rfl))) ?_
     refine zau (fun _ _ => zav (zas zam rfl ti24 rfl rfl rfl (er rfl))) ?_
     refine zau (fun _ hE49 => zav (zaz zal rfl rfl ((hL33.ext hE49).at 1 rfl rfl) rfl (er rfl))) ?_
     refine zct ?_ ?_
     ·
      rintro w52 Z36 hE50 hZ36 ⟨-⟩
      have K25 := ke hL33 hE50
      refine zav (zaw en76 rfl rfl (bminus_w N r10.Digits r11.Digits v10 v11 _ Any ((((f14.mono (K20 None)).mono (K24 None)).mono (K25 None)).mono vw_any) ((((f15.mono (K20 None)).mono (K24 None)).mono (K25 None)).mono vw_any) r17 q17) ?_)
      rintro _ w53 hE51 ⟨ob12, cap12, cs12, sp12, rfl, hN14, hE42, hc14, -⟩
      exact zcn hE51 hZ36 hN14 (fun b hb => footV_osv.1 hb) ⟨ob12, cap12, cs12, sp12, rfl, hN14.2.2.1, (hE42.mono zdf), hc14, trivial⟩
     intro z6
     refine zco ?_
     rintro w54 Z37 hE52 hZ37 ⟨⟨⟨ob12, cap12, cs12, sp12, rfl, hO12, hE42, hc14, -⟩, hB6⟩, -⟩ ap13
     have hB13 : ∀ b, some b ∈ ([ob12] : List (Option Nat)) → w45.heap.size ≤ b ∧ ¬ Z37 b := by
      intro b hb
      rcases List.mem_cons.1 hb with hb' | hb
      ·
       have := hB6 b ((zdx (ob := ob12) (o := 0) (n := r17.length) (cap := cap12)).2 (by rw [hb']; exact zax)); exact ⟨this.1, this.2.2⟩
      cases hb
     replace hE42 := hE42.mono (zdc hL33 hZ37 hB13)
     have hN15 : NewOwn w45 w54 [ob12] [zac ([] ++ (cs12 ++ sp12))] := (zda zcb hO12 (fun b hb => (hB13 b (by rw [← hb]; simp)).1) (fun b _ hb => by cases hb))
     have hp12 := hL33.adoptL hE52 hN15
     have hL37 := hp12.1
     obtain ⟨r18, q18, h⟩ := zdo h
     refine zaf (zaw en73 rfl rfl (bnormal_w N r10.Negative r17 (osv ob12 0 r17.length cap12) _ Any (zdv (pre := []) (o := 0) (n := r17.length) (cap := cap12) (hL37.at 0 rfl rfl) hE42 vw_any rfl rfl rfl hc14) r18 q18) ?_)
     rintro _ w55 hE53 ⟨v14, rfl, k14, -⟩
     replace k14 := k14.mono (zba (S := None) hL37 [])
     have hL38 := hL37.ext hE53
     refine zcc (zbn (vs := [(zaa r18.Negative), v14]) ti26 rfl rfl rfl rfl (zds rfl (zds k14.one zdw)) hL38 1 rfl rfl (zae rfl) ?_)
     intro w56 (hL39 : vL w w56 [ob12, some b10, some b6, some b1] [zac ([] ++ (cs12 ++ sp12)), zac [(zaa r18.Negative), v14], zac [(zaa r11.Negative), v11], zac [(zaa r10.Negative), v10]]) hS16
     have K26 := ks w hS16
     refine zan (zbj ?_)
     obtain rfl := zag h
     refine ⟨[(zap #[(zaa r18.Negative), v14])], ⟨⟨⟨b10, 0, none⟩, rfl, zdz zam rfl ti26 (hL39.at 1 rfl rfl) rfl⟩, trivial⟩, ⟨_, rfl, hL39.done, ?_⟩⟩
     have f17 := (k14.mono (K26 None))
     exact ⟨v14, rfl, (f17.mono zdi), trivial⟩
theorem bSub_w (N : Nat) (a : Big) (b : Big) (a_v : Value) (b_v : Value) (w : World) (S : Nat → Prop) (a_h : Rs (rInt .u32) (vH w S [] w) a_v a.Digits) (b_h : Rs (rInt .u32) (vH w S [] w) b_v b.Digits) (r : Big) (h : bSub N a b = some r) :
  Calls Try.prog 56 #[(zap #[(zaa a.Negative), a_v]), (zap #[(zaa b.Negative), b_v])] w (Ret w (fun v w' => ∃ (v0_0 : Value), (zap #[(zaa r.Negative), v0_0]) = v ∧ Rs (rInt .u32) (vH w None [] w') v0_0 r.Digits ∧ True)) := by
 unfold bSub at h
 have hL : vL w w [] [] := Go.X.Loc.begin0 w
 refine calls_of (l := [(zap #[(zaa a.Negative), a_v]), (zap #[(zaa b.Negative), b_v])]) (rl := [.cell 4 26]) (n := 9) Try.func56 rfl rfl rfl (zae rfl) ?_
 refine zaj (zah rfl (zaf (zde (cs := [(zaa a.Negative), a_v]) rfl rfl hL ?_)))
 intro b1 w2 hL3 hS5
 have K4 := ks w hS5
 refine zaf (zde (cs := [(zaa b.Negative), b_v]) rfl rfl hL3 ?_)
 intro b6 w7 hL8 hS10
 have K9 := ks w hS10
 refine zaf (zca (cs := [(zaa false), (zad none 0 0)]) ti26 rfl hL8 ?_)
 intro b10 w10 hL10 hS11
 have K10 := ks w hS11
 refine zan (zaj ?_)
 obtain ⟨r10, q10, h⟩ := zdo h
 refine zcf 3 [] [] (fun W1 => [.det (zap #[(zaa a.Negative), a_v]), .det (zap #[(zaa b.Negative), b_v]), .rel (fun v Z w' => ∃ v10, (zap #[(zaa r10.Negative), v10]) = v ∧ Rs (rInt .u32) (vZ W1 w None [some b10, some b6, some b1] Z w') v10 r10.Digits ∧ True) (fun _ => [])]) mixed rfl rfl rfl (fun _ => rfl) (fun _ => rfl) ?_ ?_
 ·
  intro W1 _
  exact ⟨fun v Z Z' w w' hΦ hz _ _ hs => by obtain ⟨v10, rfl, k10, -⟩ := hΦ; exact ⟨v10, rfl, (k10.mono (zcs hz hs)), trivial⟩, trivial⟩
 ·
  intro w11 hE10
  have hL11 := hL10.ext hE10
  have K11 := ke hL10 hE10
  refine zau (fun _ hE11 => zav (zbm (vs := [(zaa a.Negative), a_v]) zam rfl ti26 rfl ((hL11.ext hE11).at 2 rfl rfl) rfl rfl (er rfl))) ?_
  refine zau (fun _ hE12 => zav (zbm (vs := [(zaa b.Negative), b_v]) zam rfl ti26 rfl ((hL11.ext hE12).at 1 rfl rfl) rfl rfl (er rfl))) ?_
  refine zct ?_ ?_
  ·
   rintro w14 Z12 hE13 hZ12 ⟨-⟩
   have K12 := ke hL11 hE13
   refine zav (zaw en57 rfl rfl (bNeg_w N b b_v _ Any ((((((b_h.mono (K4 S)).mono (K9 S)).mono (K10 S)).mono (K11 S)).mono (K12 S)).mono vw_any) r10 q10) ?_)
   rintro _ w15 hE14 ⟨v10, rfl, k10, -⟩
   exact zcn hE14 hZ12 zcb (fun _ h => h) ⟨v10, rfl, (k10.mono zdf), trivial⟩
  intro z2
  refine zco ?_
  rintro w16 Z13 hE15 hZ13 ⟨⟨⟨v10, rfl, k10, -⟩, hB2⟩, -⟩ ap10
  have hB10 : ∀ b, some b ∈ ([] : List (Option Nat)) → w11.heap.size ≤ b ∧ ¬ Z13 b := by
   intro b hb; cases hb
  replace k10 := k10.mono (zdc hL11 hZ13 hB10)
  have hL14 := hL11.ext hE15
  have K13 := ke hL11 hE15
  obtain ⟨r11, q11, h⟩ := zdo h
  have f10 := (((((a_h.mono (K4 S)).mono (K9 S)).mono (K10 S)).mono (K11 S)).mono (K13 S))
  refine zaf (zaw en46 rfl rfl (bAdd_w N a r10 a_v v10 _ Any (f10.mono vw_any) (k10.mono vw_any) r11 q11) ?_)
  rintro _ w17 hE16 ⟨v11, rfl, k11, -⟩
  replace k11 := k11.mono (zba (S := None) hL14 [])
  have hL15 := hL14.ext hE16
  refine zcc (zbn (vs := [(zaa r11.Negative), v11]) ti26 rfl rfl rfl rfl (zds rfl (zds k11.one zdw)) hL15 0 rfl rfl (zae rfl) ?_)
  intro w18 (hL16 : vL w w18 [some b10, some b6, some b1] [zac [(zaa r11.Negative), v11], zac [(zaa b.Negative), b_v], zac [(zaa a.Negative), a_v]]) hS12
  have K14 := ks w hS12
  refine zan (zbj ?_)
  obtain rfl := zag h
  refine ⟨[(zap #[(zaa r11.Negative), v11])], ⟨⟨⟨b10, 0, none⟩, rfl, zdz zam rfl ti26 (hL16.at 0 rfl rfl) rfl⟩, trivial⟩, ⟨_, rfl, hL16.done, ?_⟩⟩
  have f11 := (k11.mono (K14 None))
  exact ⟨v11, rfl, (f11.mono zdi), trivial⟩
theorem bMul_w (N : Nat) (a : Big) (b : Big) (a_v : Value) (b_v : Value) (w : World) (S : Nat → Prop) (a_h : Rs (rInt .u32) (vH w S [] w) a_v a.Digits) (b_h : Rs (rInt .u32) (vH w S [] w) b_v b.Digits) (r : Big) (h : bMul N a b = some r) :
  Calls Try.prog 47 #[(zap #[(zaa a.Negative), a_v]), (zap #[(zaa b.Negative), b_v])] w (Ret w (fun v w' => ∃ (v0_0 : Value), (zap #[(zaa r.Negative), v0_0]) = v ∧ Rs (rInt .u32) (vH w None [] w') v0_0 r.Digits ∧ True)) := by
 unfold bMul at h
 have hL : vL w w [] [] := Go.X.Loc.begin0 w
 refine calls_of (l := [(zap #[(zaa a.Negative), a_v]), (zap #[(zaa b.Negative), b_v])]) (rl := [.cell 4 26]) (n := 16) Try.func47 rfl rfl rfl (zae rfl) ?_
 refine zaj (zah rfl (zaf (zde (cs := [(zaa a.Negative), a_v]) rfl rfl hL ?_)))
 intro b1 w2 hL3 hS5
 have K4 := ks w hS5
 refine zaf (zde (cs := [(zaa b.Negative), b_v]) rfl rfl hL3 ?_)
 intro b6 w7 hL8 hS10
 have K9 := ks w hS10
 refine zaf (zca (cs := [(zaa false), (zad none 0 0)]) ti26 rfl hL8 ?_)
 intro b10 w10 hL10 hS11
 have K10 := ks w hS11
 refine zan (zaj ?_)
 obtain ⟨r10, q10, h⟩ := zdo h
 refine zcf 10 [] [] (fun W1 => [.det (zao (some ⟨b1, 0, none⟩)), .det (zaa a.Negative), .det (zao (some ⟨b6, 0, none⟩)), .det (zaa b.Negative), .det (zaa (!(a.Negative == b.Negative))), .det (zao (some ⟨b1, 1, none⟩)), .det a_v, .det (zao (some ⟨b6, 1, none⟩)), .det b_v, .rel (fun v Z w' => ∃ ob10 cap10 cs10 sp10, (osv ob10 0 r10.length cap10) = v ∧ OwnC w' ob10 (zac ([] ++ (cs10 ++ sp10))) ∧ Els (rInt .u32) (vZ W1 w None [some b10, some b6, some b1] Z w') cs10 r10 ∧ (cs10 ++ sp10 : List Value).length = cap10 * (rInt .u32).sz ∧ True) footV]) mixed rfl rfl rfl (fun _ => rfl) (fun _ => rfl) ?_ ?_
 ·
  intro W1 _
  exact ⟨fun v Z Z' w w' hΦ hz _ _ hs => by obtain ⟨ob10, cap10, cs10, sp10, rfl, hO10, hE10, hc10, -⟩ := hΦ; exact ⟨ob10, cap10, cs10, sp10, rfl, (hO10.stay (fun b hb => (zdx (ob := ob10) (o := 0) (n := r10.length) (cap := cap10)).2 (by rw [hb]; exact zax)) hs), (hE10.mono (zcs hz hs)), hc10, trivial⟩, trivial⟩
 ·
  intro w11 hE11
  have hL11 := hL10.ext hE11
  have K11 := ke hL10 hE11
  refine zau (fun _ _ => zav (zas zam rfl ti4 rfl rfl rfl (er rfl))) ?_
  refine zau (fun _ hE13 => zav (zaz zbs rfl rfl ((hL11.ext hE13).at 2 rfl rfl) rfl (er rfl))) ?_
  refine zau (fun _ _ => zav (zas zam rfl ti4 rfl rfl rfl (er rfl))) ?_
  refine zau (fun _ hE15 => zav (zaz zbs rfl rfl ((hL11.ext hE15).at 1 rfl rfl) rfl (er rfl))) ?_
  refine zau (fun _ _ => zav (OpY.neqBool zbs rfl rfl (er rfl))) ?_
  refine zau (fun _ _ => zav (zas zam rfl ti24 rfl rfl rfl (er rfl))) ?_
  refine zau (fun _ hE18 => zav (zaz zal rfl rfl ((hL11.ext hE18).at 2 rfl rfl) rfl (er rfl))) ?_
  refine zau (fun _ _ => zav (zas zam rfl ti24 rfl rfl rfl (er rfl))) ?_
  refine zau (fun _ hE20 => zav (zaz zal rfl rfl ((hL11.ext hE20).at 1 rfl rfl) rfl (er rfl))) ?_
  refine zct ?_ ?_
  ·
   rintro w21 Z19 hE21 hZ19 ⟨-⟩
   have K12 := ke hL11 hE21
   refine zav (zaw en77 rfl rfl (btimes_w N a.Digits b.Digits a_v b_v _ Any ((((((a_h.mono (K4 S)).mono (K9 S)).mono (K10 S)).mono (K11 S)).mono (K12 S)).mono vw_any) ((((((b_h.mono (K4 S)).mono (K9 S)).mono (K10 S)).mono (K11 S)).mono (K12 S)).mono vw_any) r10 q10) ?_)
   rintro _ w22 hE22 ⟨ob10, cap10, cs10, sp10, rfl, hN10, hE10, hc10, -⟩
   exact zcn hE22 hZ19 hN10 (fun b hb => footV_osv.1 hb) ⟨ob10, cap10, cs10, sp10, rfl, hN10.2.2.1, (hE10.mono zdf), hc10, trivial⟩
  intro z9
  refine zco ?_
  rintro w23 Z20 hE23 hZ20 ⟨⟨⟨ob10, cap10, cs10, sp10, rfl, hO10, hE10, hc10, -⟩, hB9⟩, -⟩ ap10
  have hB10 : ∀ b, some b ∈ ([ob10] : List (Option Nat)) → w11.heap.size ≤ b ∧ ¬ Z20 b := by
   intro b hb
   rcases List.mem_cons.1 hb with hb' | hb
   ·
    have := hB9 b ((zdx (ob := ob10) (o := 0) (n := r10.length) (cap := cap10)).2 (by rw [hb']; exact zax)); exact ⟨this.1, this.2.2⟩
   cases hb
  replace hE10 := hE10.mono (zdc hL11 hZ20 hB10)
  have hN11 : NewOwn w11 w23 [ob10] [zac ([] ++ (cs10 ++ sp10))] := (zda zcb hO10 (fun b hb => (hB10 b (by rw [← hb]; simp)).1) (fun b _ hb => by cases hb))
  have hp10 := hL11.adoptL hE23 hN11
  have hL16 := hp10.1
  obtain ⟨r11, q11, h⟩ := zdo h
  refine zaf (zaw en73 rfl rfl (bnormal_w N (!(a.Negative == b.Negative)) r10 (osv ob10 0 r10.length cap10) _ Any (zdv (pre := []) (o := 0) (n := r10.length) (cap := cap10) (hL16.at 0 rfl rfl) hE10 vw_any rfl rfl rfl hc10) r11 q11) ?_)
  rintro _ w24 hE24 ⟨v10, rfl, k10, -⟩
  replace k10 := k10.mono (zba (S := None) hL16 [])
  have hL17 := hL16.ext hE24
  refine zcc (zbn (vs := [(zaa r11.Negative), v10]) ti26 rfl rfl rfl rfl (zds rfl (zds k10.one zdw)) hL17 1 rfl rfl (zae rfl) ?_)
  intro w25 (hL18 : vL w w25 [ob10, some b10, some b6, some b1] [zac ([] ++ (cs10 ++ sp10)), zac [(zaa r11.Negative), v10], zac [(zaa b.Negative), b_v], zac [(zaa a.Negative), a_v]]) hS12
  have K13 := ks w hS12
  refine zan (zbj ?_)
  obtain rfl := zag h
  refine ⟨[(zap #[(zaa r11.Negative), v10])], ⟨⟨⟨b10, 0, none⟩, rfl, zdz zam rfl ti26 (hL18.at 1 rfl rfl) rfl⟩, trivial⟩, ⟨_, rfl, hL18.done, ?_⟩⟩
  have f10 := (k10.mono (K13 None))
  exact ⟨v10, rfl, (f10.mono zdi), trivial⟩
theorem bDivFloor_w (N : Nat) (a : Big) (b : Big) (a_v : Value) (b_v : Value) (w : World) (S : Nat → Prop) (a_h : Rs (rInt .u32) (vH w S [] w) a_v a.Digits) (b_h : Rs (rInt .u32) (vH w S [] w) b_v b.Digits) (r : (Big × Big × Bool)) (h : bDivFloor N a b = some r) :
  Calls Try.prog 48 #[(zap #[(zaa a.Negative), a_v]), (zap #[(zaa b.Negative), b_v])] w (Ret w (fun v w' => ∃ (v0_0 : Value) (v1_0 : Value), .tuple #[(zap #[(zaa r.1.Negative), v0_0]), (zap #[(zaa r.2.1.Negative), v1_0]), (zaa r.2.2)] = v ∧ Rs (rInt .u32) (vH w None [] w') v0_0 r.1.Digits ∧ Rs (rInt .u32) (vH w None [] w') v1_0 r.2.1.Digits ∧ True)) := by
 unfold bDivFloor at h
 have hL : vL w w [] [] := Go.X.Loc.begin0 w
 refine calls_of (l := [(zap #[(zaa a.Negative), a_v]), (zap #[(zaa b.Negative), b_v])]) (rl := [.cell 4 26, .cell 5 26, .tmp 6]) (n := 54) Try.func48 rfl rfl rfl (zae rfl) ?_
 refine zaj (zah rfl (zaf (zde (cs := [(zaa a.Negative), a_v]) rfl rfl hL ?_)))
 intro b1 w2 hL3 hS5
 have K4 := ks w hS5
 refine zaf (zde (cs := [(zaa b.Negative), b_v]) rfl rfl hL3 ?_)
 intro b6 w7 hL8 hS10
 have K9 := ks w hS10
 refine zaf (zca (cs := [(zaa false), (zad none 0 0)]) ti26 rfl hL8 ?_)
 intro b10 w10 hL10 hS11
 have K10 := ks w hS11
 refine zaf (zca (cs := [(zaa false), (zad none 0 0)]) ti26 rfl hL10 ?_)
 intro b11 w11 hL11 hS12
 have K11 := ks w hS12
 refine zaf (zak (v := (zaa false)) rfl ?_)
 refine zan (zaj ?_)
 obtain ⟨r10, q10, h⟩ := zdo h
 refine zcf 3 [] [] (fun W1 => [.det (zap #[(zaa a.Negative), a_v]), .rel (fun v Z w' => ∃ v10, (zap #[(zaa r10.Negative), v10]) = v ∧ Rs (rInt .u32) (vZ W1 w None [some b11, some b10, some b6, some b1] Z w') v10 r10.Digits ∧ True) (fun _ => []), .det (zap #[(zaa b.Negative), b_v])]) mixed rfl rfl rfl (fun _ => rfl) (fun _ => rfl) ?_ ?_
 ·
  intro W1 _
  exact ⟨fun v Z Z' w w' hΦ hz _ _ hs => by obtain ⟨v10, rfl, k10, -⟩ := hΦ; exact ⟨v10, rfl, (k10.mono (zcs hz hs)), trivial⟩, trivial⟩
 ·
  intro w12 hE10
  have hL12 := hL11.ext hE10
  have K12 := ke hL11 hE10
  refine zau (fun _ hE11 => zav (zbm (vs := [(zaa a.Negative), a_v]) zam rfl ti26 rfl ((hL12.ext hE11).at 3 rfl rfl) rfl rfl (er rfl))) ?_
  refine zct ?_ ?_
  ·
   rintro w14 Z11 hE12 hZ11 ⟨-⟩
   have K13 := ke hL12 hE12
   refine zav (zaw en63 rfl rfl (bNormal_w N a a_v _ Any (((((((a_h.mono (K4 S)).mono (K9 S)).mono (K10 S)).mono (K11 S)).mono (K12 S)).mono (K13 S)).mono vw_any) r10 q10) ?_)
   rintro _ w15 hE13 ⟨v10, rfl, k10, -⟩
   exact zcn hE13 hZ11 zcb (fun _ h => h) ⟨v10, rfl, (k10.mono zdf), trivial⟩
  intro z1
  refine zau (fun _ hE14 => zav (zbm (vs := [(zaa b.Negative), b_v]) zam rfl ti26 rfl ((hL12.ext hE14).at 2 rfl rfl) rfl rfl (er rfl))) ?_
  refine zco ?_
  rintro w17 Z13 hE15 hZ13 ⟨⟨⟨v10, rfl, k10, -⟩, hB1⟩, -⟩ ap10
  have hB10 : ∀ b, some b ∈ ([] : List (Option Nat)) → w12.heap.size ≤ b ∧ ¬ Z13 b := by
   intro b hb; cases hb
  replace k10 := k10.mono (zdc hL12 hZ13 hB10)
  have hL15 := hL12.ext hE15
  have K14 := ke hL12 hE15
  obtain ⟨r11, q11, h⟩ := zdo h
  have f10 := ((((((b_h.mono (K4 S)).mono (K9 S)).mono (K10 S)).mono (K11 S)).mono (K12 S)).mono (K14 S))
  refine zaf (zaw en63 rfl rfl (bNormal_w N b b_v _ Any (f10.mono vw_any) r11 q11) ?_)
  rintro _ w18 hE16 ⟨v11, rfl, k11, -⟩
  replace k11 := k11.mono (zba (S := None) hL15 [])
  have hL16 := hL15.ext hE16
  have K15 := ke hL15 hE16
  have f11 := (k10.mono (K15 None))
  refine zcc (zbn (vs := [(zaa r10.Negative), v10]) ti26 rfl rfl rfl rfl (zds rfl (zds f11.one zdw)) hL16 3 rfl rfl (zae rfl) ?_)
  intro w19 (hL17 : vL w w19 [some b11, some b10, some b6, some b1] [zac [(zaa false), (zad none 0 0)], zac [(zaa false), (zad none 0 0)], zac [(zaa b.Negative), b_v], zac [(zaa r10.Negative), v10]]) hS13
  have K16 := ks w hS13
  have f12 := (k11.mono (K16 None))
  refine zcc (zbn (vs := [(zaa r11.Negative), v11]) ti26 rfl rfl rfl rfl (zds rfl (zds f12.one zdw)) hL17 2 rfl rfl (zae rfl) ?_)
  intro w20 (hL18 : vL w w20 [some b11, some b10, some b6, some b1] [zac [(zaa false), (zad none 0 0)], zac [(zaa false), (zad none 0 0)], zac [(zaa r11.Negative), v11], zac [(zaa r10.Negative), v10]]) hS14
  have K17 := ks w hS14
  refine zan (zaj (zaj (zah rfl (zaf (zas (q := 1) zam rfl ti24 rfl rfl rfl ?_)))))
  refine zaf (zaz (v := v11) zal rfl rfl (hL18.at 2 rfl rfl) rfl ?_)
  have f13 := (f12.mono (K17 None))
  refine zaf (zbd (v := v11) zal rfl f13 ?_)
  refine zaf (OpY.eql (x := (r11.Digits.length : Int)) (y := 0) (((r11.Digits.length : Int) : Int) = 0) rfl rfl zbk ?_)
  refine zan ?_
  refine zbe (((r11.Digits.length : Int) : Int) = 0) rfl (fun hc10 => ?_) (fun hc10 => ?_)
  ·
   replace h := ite_t hc10 h
   refine zaj (zah rfl (zaf (zcy (zc := [(zaa false), (zad none 0 0)]) (cs := [(zaa false), (zad none 0 0)]) (is := []) (vs := []) (css := []) pl26 ti26 rfl rfl rfl trivial rfl ?_)))
   refine zaf (zcy (zc := [(zaa false), (zad none 0 0)]) (cs := [(zaa false), (zad none 0 0)]) (is := []) (vs := []) (css := []) pl26 ti26 rfl rfl rfl trivial rfl ?_)
   refine zcc (zbn (vs := [(zaa false), (zad none 0 0)]) ti26 rfl rfl rfl rfl (zds rfl (zds rfl zdw)) hL18 1 rfl rfl (zae rfl) ?_)
   intro w21 (hL19 : vL w w21 [some b11, some b10, some b6, some b1] [zac [(zaa false), (zad none 0 0)], zac [(zaa false), (zad none 0 0)], zac [(zaa r11.Negative), v11], zac [(zaa r10.Negative), v10]]) hS15
   refine zcc (zbn (vs := [(zaa false), (zad none 0 0)]) ti26 rfl rfl rfl rfl (zds rfl (zds rfl zdw)) hL19 0 rfl rfl (zae rfl) ?_)
   intro w22 (hL20 : vL w w22 [some b11, some b10, some b6, some b1] [zac [(zaa false), (zad none 0 0)], zac [(zaa false), (zad none 0 0)], zac [(zaa r11.Negative), v11], zac [(zaa r10.Negative), v10]]) hS16
   refine zaf (zak (v := (zaa false)) rfl ?_)
   refine zan (zbj ?_)
   obtain rfl := zag h
   refine ⟨[(zap #[(zaa false), (zad none 0 0)]), (zap #[(zaa false), (zad none 0 0)]), (zaa false)], ⟨⟨⟨b10, 0, none⟩, rfl, zdz zam rfl ti26 (hL20.at 1 rfl rfl) rfl⟩, ⟨⟨⟨b11, 0, none⟩, rfl, zdz zam rfl ti26 (hL20.at 0 rfl rfl) rfl⟩, ⟨rfl, trivial⟩⟩⟩, ⟨_, rfl, hL20.done, ?_⟩⟩
   exact ⟨(zad none 0 0), (zad none 0 0), rfl, zdn, zdn, trivial⟩
  ·
   replace h := ite_f hc10 h
   refine zbf (zaj (zah rfl (zaf (zas (q := 1) zam rfl ti24 rfl rfl rfl ?_))))
   refine zaf (zaz (v := v10) zal rfl rfl (hL18.at 3 rfl rfl) rfl ?_)
   refine zaf (zas (q := 1) zam rfl ti24 rfl rfl rfl ?_)
   refine zaf (zaz (v := v11) zal rfl rfl (hL18.at 2 rfl rfl) rfl ?_)
   obtain ⟨r12, q12, h⟩ := zdo h
   have f14 := ((f11.mono (K16 None)).mono (K17 None))
   refine zaf (zaw en78 rfl rfl (bdivide_w N r10.Digits r11.Digits v10 v11 _ Any (f14.mono vw_any) (f13.mono vw_any) r12 q12) ?_)
   rintro _ w23 hE17 ⟨ob10, cap10, cs10, sp10, ob11, cap11, cs11, sp11, rfl, hN10, hE18, hc11, hE19, hc12, -⟩
   replace hE18 := hE18.mono (zba (S := None) hL18 [ob10, ob11])
   replace hE19 := hE19.mono (zba (S := None) hL18 [ob10, ob11])
   have hp10 := hL18.adoptL hE17 hN10
   have hL21 := hp10.1
   have K18 := ks w hp10.2
   refine zaf (zai (v := (Value.tuple #[(osv ob10 0 r12.1.length cap10), (osv ob11 0 r12.2.length cap11)])) rfl ?_)
   refine zaf (zcx (vs := [(osv ob10 0 r12.1.length cap10), (osv ob11 0 r12.2.length cap11)]) (v := (osv ob10 0 r12.1.length cap10)) rfl rfl ?_)
   refine zaf (zcx (vs := [(osv ob10 0 r12.1.length cap10), (osv ob11 0 r12.2.length cap11)]) (v := (osv ob11 0 r12.2.length cap11)) rfl rfl ?_)
   refine zaf (zak (v := (osv ob10 0 r12.1.length cap10)) rfl ?_)
   refine zaf (zak (v := (osv ob11 0 r12.2.length cap11)) rfl ?_)
   refine zan (zaj (zaj (zah rfl (zaf (zas (q := 0) zam rfl ti4 rfl rfl rfl ?_)))))
   refine zaf (zaz (v := (zaa r10.Negative)) zbs rfl rfl (hL21.at 5 rfl rfl) rfl ?_)
   refine zaf (zas (q := 0) zam rfl ti4 rfl rfl rfl ?_)
   refine zaf (zaz (v := (zaa r11.Negative)) zbs rfl rfl (hL21.at 4 rfl rfl) rfl ?_)
   refine zaf (OpY.neqBool (x := r10.Negative) (y := r11.Negative) zbs rfl rfl ?_)
   refine zan ?_
   refine zcr (!(r10.Negative == r11.Negative)) rfl (fun hc13 => ?_) (fun hc13 => ?_)
   ·
    replace h := ite_t hc13 h
    refine zaj (zaj (zah rfl (zaf (zai (v := (osv ob11 0 r12.2.length cap11)) rfl ?_))))
    refine zaf (OpY.lenRow (pre := []) (r := (rInt .u32)) (xs := r12.2) zal rfl (hL21.at 1 rfl rfl) hE19 rfl rfl ?_)
    refine zaf (zdm (x := (r12.2.length : Int)) (y := 0) (((r12.2.length : Int) : Int) > 0) rfl rfl zbk ?_)
    refine zan ?_
    obtain ⟨s10, h, g10⟩ := zdo h
    refine zbr (fun e w' => ∃ (q13 : (List Int)) (x10 : (List Int)) (ob12 : Option Nat) (cap12 : Nat) (sp12 : List Value) (cs12 : List Value) (ln10 : Nat) (ob13 : Option Nat) (cap13 : Nat) (sp13 : List Value) (cs13 : List Value) (ln11 : Nat) (u : Env), (q13, x10) = s10 ∧ e = upds [(3, (zao (some ⟨b6, 0, none⟩))), (4, (zao (some ⟨b10, 0, none⟩))), (5, (zao (some ⟨b11, 0, none⟩))), (7, (osv ob12 0 ln10 cap12)), (8, (osv ob13 0 ln11 cap13))] u ∧ vL w w' [some b6, some b10, some b11, ob12, ob13] [zac [(zaa r11.Negative), v11], zac [(zaa false), (zad none 0 0)], zac [(zaa false), (zad none 0 0)], zac ([] ++ (cs12 ++ sp12)), zac ([] ++ (cs13 ++ sp13))] ∧ Keep w.heap.size [ob10, ob11, some b11, some b10, some b6, some b1] w23 [some b6, some b10, some b11, ob12, ob13] w' ∧ Els (rInt .u32) (vH w None [some b6, some b10, some b11, ob12, ob13] w') cs12 q13 ∧ ln10 = List.length q13 ∧ (cs12 ++ sp12).length = cap12 * (rInt .u32).sz ∧ Els (rInt .u32) (vH w None [some b6, some b10, some b11, ob12, ob13] w') cs13 x10 ∧ ln11 = List.length x10 ∧ (cs13 ++ sp13).length = cap13 * (rInt .u32).sz ∧ True) ?_ ?_
    ·
     refine zbe (((r12.2.length : Int) : Int) > 0) rfl (fun hc14 => ?_) (fun hc14 => ?_)
     ·
      replace h := ite_t hc14 h
      refine zaj (zah rfl (zaf (zai (v := (osv ob10 0 r12.1.length cap10)) rfl ?_)))
      have hE20 : Els (rInt .u32) (vH w None [ob10, ob11, some b11, some b10, some b6, some b1] w23) [(zab .u32 1)] [1] := (zcg (a := [(zab .u32 1)]) rfl zcp)
      refine zaf (zch (r := (rInt .u32)) (vs := [(zab .u32 1)]) (css := [[(zab .u32 1)]]) (xs := [1]) zal ti89 (zae rfl) rfl rfl ⟨rfl, rfl, trivial⟩ (zae rfl) hE20 rfl hL21 ?_)
      intro b12 w24 hc15 hL22 hS17
      have K19 := ks w hS17
      obtain ⟨r13, q14, h⟩ := zdo h
      have f15 := (hE18.mono (K19 None))
      have f16 := (hE20.mono (K19 None))
      refine zaf (zaw en74 rfl rfl (bplus_w N r12.1 [1] (osv ob10 0 r12.1.length cap10) (osv (some b12) 0 1 1) _ Any (zdv (pre := []) (o := 0) (n := r12.1.length) (cap := cap10) (hL22.at 1 rfl rfl) f15 vw_any rfl rfl rfl hc11) (zdv (pre := []) (o := 0) (n := 1) (cap := 1) (hL22.at 0 rfl rfl) f16 vw_any rfl rfl rfl hc15) r13 q14) ?_)
      rintro _ w25 hE21 ⟨ob14, cap14, cs14, sp14, rfl, hN11, hE22, hc16, -⟩
      replace hE22 := hE22.mono (zba (S := None) hL22 [ob14])
      have hp11 := hL22.adoptL hE21 hN11
      have hL23 := hp11.1
      have K20 := ks w hp11.2
      refine zaf (zak (v := (osv ob14 0 r13.length cap14)) rfl ?_)
      refine zan (zah rfl (zaf (zas (q := 1) zam rfl ti24 rfl rfl rfl ?_)))
      refine zaf (zaz (v := v11) zal rfl rfl (hL23.at 6 rfl rfl) rfl ?_)
      refine zaf (zai (v := (osv ob11 0 r12.2.length cap11)) rfl ?_)
      obtain ⟨r14, q15, h⟩ := zdo h
      have f17 := (((f13.mono (K18 None)).mono (K19 None)).mono (K20 None))
      have f18 := ((hE19.mono (K19 None)).mono (K20 None))
      refine zaf (zaw en76 rfl rfl (bminus_w N r11.Digits r12.2 v11 (osv ob11 0 r12.2.length cap11) _ Any (f17.mono vw_any) (zdv (pre := []) (o := 0) (n := r12.2.length) (cap := cap11) (hL23.at 3 rfl rfl) f18 vw_any rfl rfl rfl hc12) r14 q15) ?_)
      rintro _ w26 hE23 ⟨ob15, cap15, cs15, sp15, rfl, hN12, hE24, hc17, -⟩
      replace hE24 := hE24.mono (zba (S := None) hL23 [ob15])
      have hp12 := hL23.adoptL hE23 hN12
      have hL24 := hp12.1
      have K21 := ks w hp12.2
      refine zaf (zak (v := (osv ob15 0 r14.length cap15)) rfl ?_)
      refine zan ?_
      have hp13 := hL24.pick [7, 6, 5, 1, 0] rfl rfl rfl
      have hL25 : vL w w26 [some b6, some b10, some b11, ob14, ob15] [zac [(zaa r11.Negative), v11], zac [(zaa false), (zad none 0 0)], zac [(zaa false), (zad none 0 0)], zac ([] ++ (cs14 ++ sp14)), zac ([] ++ (cs15 ++ sp15))] := hp13.1
      have K22 := ks w hp13.2
      have f19 := ((hE22.mono (K21 None)).mono (K22 None))
      have f20 := (hE24.mono (K22 None))
      obtain rfl := zag h
      refine zar ?_
      exact ⟨r13, r14, ob14, cap14, sp14, cs14, r13.length, ob15, cap15, sp15, cs15, r14.length, _, rfl, (zdt ⟨rfl, rfl, rfl, rfl, rfl, trivial⟩), hL25, (zaq (zaq (zaq K19 K20) K21) K22), f19, rfl, hc16, f20, rfl, hc17, trivial⟩
     ·
      replace h := ite_f hc14 h
      refine zbf ?_
      have hp14 := hL21.pick [4, 3, 2, 0, 1] rfl rfl rfl
      have hL26 : vL w w23 [some b6, some b10, some b11, ob10, ob11] [zac [(zaa r11.Negative), v11], zac [(zaa false), (zad none 0 0)], zac [(zaa false), (zad none 0 0)], zac ([] ++ (cs10 ++ sp10)), zac ([] ++ (cs11 ++ sp11))] := hp14.1
      have K23 := ks w hp14.2
      have f21 := (hE18.mono (K23 None))
      have f22 := (hE19.mono (K23 None))
      obtain rfl := zag h
      refine zar ?_
      exact ⟨r12.1, r12.2, ob10, cap10, sp10, cs10, r12.1.length, ob11, cap11, sp11, cs11, r12.2.length, _, rfl, (zdt ⟨rfl, rfl, rfl, rfl, rfl, trivial⟩), hL26, K23, f21, rfl, hc11, f22, rfl, hc12, trivial⟩
    ·
     rintro _ w27 ⟨q13, x10, ob12, cap12, sp12, cs12, ln10, ob13, cap13, sp13, cs13, ln11, u, rfl, rfl, hL27, K24, hE25, rfl, hc18, hE26, rfl, hc19, -⟩
     replace h := g10
     try dsimp only at h
     refine zaj ?_
     obtain ⟨r15, q16, h⟩ := zdo h
     refine zcf 5 [] [] (fun W1 => [.det (osv ob12 0 q13.length cap12), .rel (fun v Z w' => ∃ v12, (zap #[(zaa r15.Negative), v12]) = v ∧ Rs (rInt .u32) (vZ W1 w None [some b6, some b10, some b11, ob12, ob13] Z w') v12 r15.Digits ∧ True) (fun _ => []), .det (zao (some ⟨b6, 0, none⟩)), .det (zaa r11.Negative), .det (osv ob13 0 x10.length cap13)]) mixed rfl rfl rfl (fun _ => rfl) (fun _ => rfl) ?_ ?_
     ·
      intro W1 _
      exact ⟨fun v Z Z' w w' hΦ hz _ _ hs => by obtain ⟨v12, rfl, k12, -⟩ := hΦ; exact ⟨v12, rfl, (k12.mono (zcs hz hs)), trivial⟩, trivial⟩
     ·
      intro w28 hE27
      have hL28 := hL27.ext hE27
      have K25 := ke hL27 hE27
      refine zau (fun _ _ => zav (zai rfl (er rfl))) ?_
      refine zct ?_ ?_
      ·
       rintro w30 Z15 hE29 hZ15 ⟨-⟩
       have hL29 := hL28.ext hE29
       have K26 := ke hL28 hE29
       refine zav (zaw en73 rfl rfl (bnormal_w N true q13 (osv ob12 0 q13.length cap12) _ Any (zdv (pre := []) (o := 0) (n := q13.length) (cap := cap12) (hL29.at 3 rfl rfl) ((hE25.mono (K25 None)).mono (K26 None)) vw_any rfl rfl rfl hc18) r15 q16) ?_)
       rintro _ w31 hE30 ⟨v12, rfl, k12, -⟩
       exact zcn hE30 hZ15 zcb (fun _ h => h) ⟨v12, rfl, (k12.mono zdf), trivial⟩
      intro z1
      refine zau (fun _ _ => zav (zas zam rfl ti4 rfl rfl rfl (er rfl))) ?_
      refine zau (fun _ hE32 => zav (zaz zbs rfl rfl ((hL28.ext hE32).at 0 rfl rfl) rfl (er rfl))) ?_
      refine zau (fun _ _ => zav (zai rfl (er rfl))) ?_
      refine zco ?_
      rintro w35 Z19 hE34 hZ19 ⟨⟨⟨v12, rfl, k12, -⟩, hB1⟩, -⟩ ap11
      have hB11 : ∀ b, some b ∈ ([] : List (Option Nat)) → w28.heap.size ≤ b ∧ ¬ Z19 b := by
       intro b hb; cases hb
      replace k12 := k12.mono (zdc hL28 hZ19 hB11)
      have hL31 := hL28.ext hE34
      have K27 := ke hL28 hE34
      obtain ⟨r16, q17, h⟩ := zdo h
      have f23 := ((hE26.mono (K25 None)).mono (K27 None))
      refine zaf (zaw en73 rfl rfl (bnormal_w N r11.Negative x10 (osv ob13 0 x10.length cap13) _ Any (zdv (pre := []) (o := 0) (n := x10.length) (cap := cap13) (hL31.at 4 rfl rfl) f23 vw_any rfl rfl rfl hc19) r16 q17) ?_)
      rintro _ w36 hE35 ⟨v13, rfl, k13, -⟩
      replace k13 := k13.mono (zba (S := None) hL31 [])
      have hL32 := hL31.ext hE35
      have K28 := ke hL31 hE35
      have f24 := (k12.mono (K28 None))
      refine zcc (zbn (vs := [(zaa r15.Negative), v12]) ti26 rfl rfl rfl rfl (zds rfl (zds f24.one zdw)) hL32 1 rfl rfl (zae rfl) ?_)
      intro w37 (hL33 : vL w w37 [some b6, some b10, some b11, ob12, ob13] [zac [(zaa r11.Negative), v11], zac [(zaa r15.Negative), v12], zac [(zaa false), (zad none 0 0)], zac ([] ++ (cs12 ++ sp12)), zac ([] ++ (cs13 ++ sp13))]) hS18
      have K29 := ks w hS18
      have f25 := (k13.mono (K29 None))
      refine zcc (zbn (vs := [(zaa r16.Negative), v13]) ti26 rfl rfl rfl rfl (zds rfl (zds f25.one zdw)) hL33 2 rfl rfl (zae rfl) ?_)
      intro w38 (hL34 : vL w w38 [some b6, some b10, some b11, ob12, ob13] [zac [(zaa r11.Negative), v11], zac [(zaa r15.Negative), v12], zac [(zaa r16.Negative), v13], zac ([] ++ (cs12 ++ sp12)), zac ([] ++ (cs13 ++ sp13))]) hS19
      have K30 := ks w hS19
      refine zaf (zak (v := (zaa true)) rfl ?_)
      refine zan (zbj ?_)
      obtain rfl := zag h
      refine ⟨[(zap #[(zaa r15.Negative), v12]), (zap #[(zaa r16.Negative), v13]), (zaa true)], ⟨⟨⟨b10, 0, none⟩, rfl, zdz zam rfl ti26 (hL34.at 1 rfl rfl) rfl⟩, ⟨⟨⟨b11, 0, none⟩, rfl, zdz zam rfl ti26 (hL34.at 2 rfl rfl) rfl⟩, ⟨rfl, trivial⟩⟩⟩, ⟨_, rfl, hL34.done, ?_⟩⟩
      have f26 := ((f24.mono (K29 None)).mono (K30 None))
      have f27 := (f25.mono (K30 None))
      exact ⟨v12, v13, rfl, (f26.mono zdi), (f27.mono zdi), trivial⟩
   ·
    replace h := ite_f hc13 h
    refine zbf (zaj ?_)
    obtain ⟨r17, q18, h⟩ := zdo h
    refine zcf 5 [] [] (fun W1 => [.det (osv ob10 0 r12.1.length cap10), .rel (fun v Z w' => ∃ v14, (zap #[(zaa r17.Negative), v14]) = v ∧ Rs (rInt .u32) (vZ W1 w None [ob10, ob11, some b11, some b10, some b6, some b1] Z w') v14 r17.Digits ∧ True) (fun _ => []), .det (zao (some ⟨b6, 0, none⟩)), .det (zaa r11.Negative), .det (osv ob11 0 r12.2.length cap11)]) mixed rfl rfl rfl (fun _ => rfl) (fun _ => rfl) ?_ ?_
    ·
     intro W1 _
     exact ⟨fun v Z Z' w w' hΦ hz _ _ hs => by obtain ⟨v14, rfl, k14, -⟩ := hΦ; exact ⟨v14, rfl, (k14.mono (zcs hz hs)), trivial⟩, trivial⟩
    ·
     intro w39 hE36
     have hL35 := hL21.ext hE36
     have K31 := ke hL21 hE36
     refine zau (fun _ _ => zav (zai rfl (er rfl))) ?_
     refine zct ?_ ?_
     ·
      rintro w41 Z21 hE38 hZ21 ⟨-⟩
      have hL36 := hL35.ext hE38
      have K32 := ke hL35 hE38
      refine zav (zaw en73 rfl rfl (bnormal_w N false r12.1 (osv ob10 0 r12.1.length cap10) _ Any (zdv (pre := []) (o := 0) (n := r12.1.length) (cap := cap10) (hL36.at 0 rfl rfl) ((hE18.mono (K31 None)).mono (K32 None)) vw_any rfl rfl rfl hc11) r17 q18) ?_)
      rintro _ w42 hE39 ⟨v14, rfl, k14, -⟩
      exact zcn hE39 hZ21 zcb (fun _ h => h) ⟨v14, rfl, (k14.mono zdf), trivial⟩
     intro z1
     refine zau (fun _ _ => zav (zas zam rfl ti4 rfl rfl rfl (er rfl))) ?_
     refine zau (fun _ hE41 => zav (zaz zbs rfl rfl ((hL35.ext hE41).at 4 rfl rfl) rfl (er rfl))) ?_
     refine zau (fun _ _ => zav (zai rfl (er rfl))) ?_
     refine zco ?_
     rintro w46 Z25 hE43 hZ25 ⟨⟨⟨v14, rfl, k14, -⟩, hB1⟩, -⟩ ap12
     have hB12 : ∀ b, some b ∈ ([] : List (Option Nat)) → w39.heap.size ≤ b ∧ ¬ Z25 b := by
      intro b hb; cases hb
     replace k14 := k14.mono (zdc hL35 hZ25 hB12)
     have hL38 := hL35.ext hE43
     have K33 := ke hL35 hE43
     obtain ⟨r18, q19, h⟩ := zdo h
     have f28 := ((hE19.mono (K31 None)).mono (K33 None))
     refine zaf (zaw en73 rfl rfl (bnormal_w N r11.Negative r12.2 (osv ob11 0 r12.2.length cap11) _ Any (zdv (pre := []) (o := 0) (n := r12.2.length) (cap := cap11) (hL38.at 1 rfl rfl) f28 vw_any rfl rfl rfl hc12) r18 q19) ?_)
     rintro _ w47 hE44 ⟨v15, rfl, k15, -⟩
     replace k15 := k15.mono (zba (S := None) hL38 [])
     have hL39 := hL38.ext hE44
     have K34 := ke hL38 hE44
     have f29 := (k14.mono (K34 None))
     refine zcc (zbn (vs := [(zaa r17.Negative), v14]) ti26 rfl rfl rfl rfl (zds rfl (zds f29.one zdw)) hL39 3 rfl rfl (zae rfl) ?_)
     intro w48 (hL40 : vL w w48 [ob10, ob11, some b11, some b10, some b6, some b1] [zac ([] ++ (cs10 ++ sp10)), zac ([] ++ (cs11 ++ sp11)), zac [(zaa false), (zad none 0 0)], zac [(zaa r17.Negative), v14], zac [(zaa r11.Negative), v11], zac [(zaa r10.Negative), v10]]) hS20
     have K35 := ks w hS20
     have f30 := (k15.mono (K35 None))
     refine zcc (zbn (vs := [(zaa r18.Negative), v15]) ti26 rfl rfl rfl rfl (zds rfl (zds f30.one zdw)) hL40 2 rfl rfl (zae rfl) ?_)
     intro w49 (hL41 : vL w w49 [ob10, ob11, some b11, some b10, some b6, some b1] [zac ([] ++ (cs10 ++ sp10)), zac ([] ++ (cs11 ++ sp11)), zac [(zaa r18.Negative), v15], zac [(zaa r17.Negative), v14], zac [(zaa r11.Negative), v11], zac [(zaa r10.Negative), v10]]) hS21
     have K36 := ks w hS21
     refine zaf (zak (v := (zaa true)) rfl ?_)
     refine zan (zbj ?_)
     obtain rfl := zag h
     refine ⟨[(zap #[(zaa r17.Negative), v14]), (zap #[(zaa r18.Negative), v15]), (zaa true)], ⟨⟨⟨b10, 0, none⟩, rfl, zdz zam rfl ti26 (hL41.at 3 rfl rfl) rfl⟩, ⟨⟨⟨b11, 0, none⟩, rfl, zdz zam rfl ti26 (hL41.at 2 rfl rfl) rfl⟩, ⟨rfl, trivial⟩⟩⟩, ⟨_, rfl, hL41.done, ?_⟩⟩
     have f31 := ((f29.mono (K35 None)).mono (K36 None))
     have f32 := (f30.mono (K36 None))
     exact ⟨v14, v15, rfl, (f31.mono zdi), (f32.mono zdi), trivial⟩
end Go.Proofs.Ytakkacdhlocckaa.WB

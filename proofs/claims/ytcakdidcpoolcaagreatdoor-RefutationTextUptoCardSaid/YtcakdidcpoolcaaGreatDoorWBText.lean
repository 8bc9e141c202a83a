/- Walks, written by a program of mine (wip/tool); the kernel checks them. -/
import Derived.Test.YtcakdidcpoolcaaGreatDoorProg
import Derived.Test.YtcakdidcpoolcaaGreatDoorSqText
import Derived.Test.YtcakdidcpoolcaaGreatDoorBl25
import Derived.Test.YtcakdidcpoolcaaGreatDoorF25
import Derived.Test.YtcakdidcpoolcaaGreatDoorPB
import Derived.Test.YtcakdidcpoolcaaGreatDoorWAText
import Derived.Test.YtcakdidcpoolcaaGreatDoorWRText
set_option maxRecDepth 100000
set_option maxHeartbeats 40000000
set_option linter.unusedVariables false
set_option linter.unusedSimpArgs false
namespace Go.Proofs.YtcakdidcpoolcaaGreatDoor.WB
open Go Go.RowKit Go.X Go.D Go.Proofs.YtcakdidcpoolcaaGreatDoor.WF Go.Proofs.YtcakdidcpoolcaaGreatDoor.WA Go.Proofs.YtcakdidcpoolcaaGreatDoor.WR
theorem en171 : Go.X.Enters Tryz.prog 171 := ⟨Tryz.f171, Tryz.func171, by kernel_rfl, by kernel_rfl⟩
theorem en188 : Go.X.Enters Tryz.prog 188 := ⟨Tryz.f188, Tryz.func188, by kernel_rfl, by kernel_rfl⟩
theorem en160 : Go.X.Enters Tryz.prog 160 := ⟨Tryz.f160, Tryz.func160, by kernel_rfl, by kernel_rfl⟩
theorem en159 : Go.X.Enters Tryz.prog 159 := ⟨Tryz.f159, Tryz.func159, by kernel_rfl, by kernel_rfl⟩
theorem en170 : Go.X.Enters Tryz.prog 170 := ⟨Tryz.f170, Tryz.func170, by kernel_rfl, by kernel_rfl⟩
theorem en172 : Go.X.Enters Tryz.prog 172 := ⟨Tryz.f172, Tryz.func172, by kernel_rfl, by kernel_rfl⟩
theorem en134 : Go.X.Enters Tryz.prog 134 := ⟨Tryz.f134, Tryz.func134, by kernel_rfl, by kernel_rfl⟩
theorem en155 : Go.X.Enters Tryz.prog 155 := ⟨Tryz.f155, Tryz.func155, by kernel_rfl, by kernel_rfl⟩
theorem en173 : Go.X.Enters Tryz.prog 173 := ⟨Tryz.f173, Tryz.func173, by kernel_rfl, by kernel_rfl⟩
theorem en174 : Go.X.Enters Tryz.prog 174 := ⟨Tryz.f174, Tryz.func174, by kernel_rfl, by kernel_rfl⟩
theorem bdivide_w (N : Nat) (a : (List Int)) (b : (List Int)) (a_v : Value) (b_v : Value) (w : World) (S : Nat → Prop) (a_h : Rs (rInt .u32) (vH w S [] w) a_v a) (b_h : Rs (rInt .u32) (vH w S [] w) b_v b) (r : ((List Int) × (List Int))) (h : bdivide N a b = some r) :
  Calls Tryz.prog 174 #[a_v, b_v] w (Ret w (fun v w' => ∃ (ob0 : Option Nat) (cap0 : Nat) (cs0 : List Value) (sp0 : List Value) (ob1 : Option Nat) (cap1 : Nat) (cs1 : List Value) (sp1 : List Value), .tuple #[(zO ob0 r.1 cap0), (zO ob1 r.2 cap1)] = v ∧ NewOwn w w' [ob0, ob1] [zac ([] ++ (cs0 ++ sp0)), zac ([] ++ (cs1 ++ sp1))] ∧ Els (rInt .u32) (vH w None [ob0, ob1] w') cs0 r.1 ∧ (cs0 ++ sp0).length = cap0 * (rInt .u32).sz ∧ Els (rInt .u32) (vH w None [ob0, ob1] w') cs1 r.2 ∧ (cs1 ++ sp1).length = cap1 * (rInt .u32).sz ∧ True)) := by
 unfold bdivide at h
 have hL : vL w w [] [] := Go.X.Loc.begin0 w
 refine calls_of (l := [a_v, b_v]) (rl := [.tmp 4, .tmp 5]) (n := 231) Tryz.func174 rfl rfl rfl (zae rfl) ?_
 refine zaj (zaf rfl (zag (zak (v := zN) rfl ?_)))
 refine zag (zak (v := zN) rfl ?_)
 refine zan (zaj (zaj (zaf rfl (zag (zai (v := a_v) rfl ?_)))))
 refine zag (zai (v := b_v) rfl ?_)
 obtain ⟨r1, q2, h⟩ := zec h
 refine zag (zay en171 rfl rfl (bcompare_w N a b a_v b_v _ Any (a_h.mono vw_any) (b_h.mono vw_any) r1 q2) ?_)
 rintro _ w4 hE7 ⟨rfl, -⟩
 obtain ⟨hL5, K6⟩ := zl hL hE7
 refine zag (zci (x := r1) (y := 0) ((r1 : Int) < 0) rfl rfl zbd (zan ?_))
 refine zba ((r1 : Int) < 0) rfl (fun hc8 => ?_) (fun hc8 => ?_)
 ·
  replace h := ite_t hc8 h
  refine zaj (zaf rfl (zag (zai (v := a_v) rfl ?_)))
  obtain ⟨r9, q10, h⟩ := zec h
  have f10 := (a_h.mono (K6 S))
  refine zag (zay en175 rfl rfl (btrim_w N a a_v _ Any (f10.mono vw_any) r9 q10) ?_)
  rintro _ w10 hE10 ⟨ob10, cap10, cs10, sp10, rfl, hN10, hE11, hc10, -⟩
  replace hE11 := hE11.mono (zbu (S := None) hL5 [ob10])
  have hp10 := hL5.adoptL hE10 hN10
  have hL10 := hp10.1
  refine zag (zak (v := zN) rfl ?_)
  refine zag (zak (v := (zO ob10 r9 cap10)) rfl (zan ?_))
  have hp11 := hL10.addNil
  have hL11 : vL w w10 [none, ob10] [zac ([] ++ ([] ++ [])), zac ([] ++ (cs10 ++ sp10))] := hp11.1
  have K10 := ks w hp11.2
  have hE12 : Els (rInt .u32) (vH w None [none, ob10] w10) [] [] := zcm
  refine zbi ?_
  obtain rfl := zah h
  refine ⟨[(osv none 0 (List.length ([] : (List Int))) 0), (zO ob10 r9 cap10)], ⟨rfl, rfl, trivial⟩, ⟨_, rfl, hL11.done, ?_⟩⟩
  have f11 := (hE11.mono (K10 None))
  exact ⟨none, 0, [], [], ob10, cap10, cs10, sp10, rfl, (hL11.newOwn [0, 1] rfl rfl rfl), (hE12.mono (zdx [0, 1] rfl)), (show ([] ++ [] : List Value).length = 0 * (rInt .u32).sz by simp), (f11.mono (zdx [0, 1] rfl)), hc10, trivial⟩
 replace h := ite_f hc8 h
 refine zbf (zaj (zaj (zaf rfl (zag (zai (v := b_v) rfl ?_)))))
 have f12 := (b_h.mono (K6 S))
 refine zag (zbc (v := b_v) zas rfl f12 ?_)
 refine zag (zdp (x := (b.length : Int)) (y := 1) (((b.length : Int) : Int) = 1) rfl rfl zbd (zan ?_))
 refine zba (((b.length : Int) : Int) = 1) rfl (fun hc11 => ?_) (fun hc11 => ?_)
 ·
  replace h := ite_t hc11 h
  refine zaj (zaf rfl (zag (zai (v := a_v) rfl ?_)))
  refine zag (zai (v := b_v) rfl ?_)
  obtain ⟨x10, n10, q12, q13, -, h⟩ := zix h
  obtain ⟨b10, o10, c10, vs10, q14, q15, f13, q16⟩ := zcw f12 q13
  obtain rfl := q16
  refine zag (zbp (r := (rInt .u32)) (v := b_v) (n := n10) (m := (o10 + n10 * (rInt .u32).sz)) zas ti177 rfl q14 rfl q12 q13 rfl ?_)
  refine zag (zca (v := (zaa .u32 x10)) zbg rfl rfl zek f13 ?_)
  obtain ⟨r10, q17, h⟩ := zec h
  have f14 := (a_h.mono (K6 S))
  refine zag (zay en188 rfl rfl (bshort_w N a x10 a_v _ Any (f14.mono vw_any) r10 q17) ?_)
  rintro _ w11 hE13 ⟨ob11, cap11, cs11, sp11, rfl, hN11, hE14, hc12, -⟩
  replace hE14 := hE14.mono (zbu (S := None) hL5 [ob11])
  have hp12 := hL5.adoptL hE13 hN11
  have hL12 := hp12.1
  refine zag (zai (v := (Value.tuple #[(zO ob11 r10.1 cap11), (zaa .u32 r10.2)])) rfl ?_)
  refine zag (zdb (vs := [(zO ob11 r10.1 cap11), (zaa .u32 r10.2)]) (v := (zO ob11 r10.1 cap11)) rfl rfl ?_)
  refine zag (zdb (vs := [(zO ob11 r10.1 cap11), (zaa .u32 r10.2)]) (v := (zaa .u32 r10.2)) rfl rfl ?_)
  refine zag (zak (v := (zO ob11 r10.1 cap11)) rfl ?_)
  refine zag (zak (v := (zaa .u32 r10.2)) rfl ?_)
  refine zan (zaj (zaf rfl (zag (zai (v := (zO ob11 r10.1 cap11)) rfl ?_))))
  obtain ⟨r11, q18, h⟩ := zec h
  refine zag (zay en175 rfl rfl (btrim_w N r10.1 (zO ob11 r10.1 cap11) _ Any (zel (pre := []) (o := 0) (n := r10.1.length) (cap := cap11) (hL12.at 0 rfl rfl) hE14 vw_any rfl rfl rfl hc12) r11 q18) ?_)
  rintro _ w12 hE15 ⟨ob12, cap12, cs12, sp12, rfl, hN12, hE16, hc13, -⟩
  replace hE16 := hE16.mono (zbu (S := None) hL12 [ob12])
  have hp13 := hL12.adoptL hE15 hN12
  have hL13 := hp13.1
  refine zag (zai (v := (zaa .u32 r10.2)) rfl ?_)
  have hE17 : Els (rInt .u32) (vH w None [ob12, ob11] w12) [(zaa .u32 r10.2)] [r10.2] := (zcp (a := [(zaa .u32 r10.2)]) rfl zcm)
  refine zag (zch (r := (rInt .u32)) (vs := [(zaa .u32 r10.2)]) (css := [[(zaa .u32 r10.2)]]) (xs := [r10.2]) zas ti177 (zae rfl) rfl rfl ⟨rfl, rfl, trivial⟩ (zae rfl) hE17 rfl hL13 ?_)
  intro b11 w13 hc14 hL14 hS10
  have K11 := ks w hS10
  obtain ⟨r12, q19, h⟩ := zec h
  have f15 := (hE17.mono (K11 None))
  refine zag (zay en175 rfl rfl (btrim_w N [r10.2] (osv (some b11) 0 1 1) _ Any (zel (pre := []) (o := 0) (n := 1) (cap := 1) (hL14.at 0 rfl rfl) f15 vw_any rfl rfl rfl hc14) r12 q19) ?_)
  rintro _ w14 hE18 ⟨ob13, cap13, cs13, sp13, rfl, hN13, hE19, hc15, -⟩
  replace hE19 := hE19.mono (zbu (S := None) hL14 [ob13])
  have hp14 := hL14.adoptL hE18 hN13
  have hL15 := hp14.1
  have K12 := ks w hp14.2
  refine zag (zak (v := (zO ob12 r11 cap12)) rfl ?_)
  refine zag (zak (v := (zO ob13 r12 cap13)) rfl ?_)
  refine zan (zbi ?_)
  obtain rfl := zah h
  refine ⟨[(zO ob12 r11 cap12), (zO ob13 r12 cap13)], ⟨rfl, rfl, trivial⟩, ⟨_, rfl, hL15.done, ?_⟩⟩
  have f16 := ((hE16.mono (K11 None)).mono (K12 None))
  exact ⟨ob12, cap12, cs12, sp12, ob13, cap13, cs13, sp13, rfl, (hL15.newOwn [2, 0] rfl rfl rfl), (f16.mono (zdx [2, 0] rfl)), hc13, (hE19.mono (zdx [2, 0] rfl)), hc15, trivial⟩
 replace h := ite_f hc11 h
 refine zbf (zaj (zaf rfl (zag (zai (v := b_v) rfl ?_))))
 refine zag (zai (v := b_v) rfl ?_)
 refine zag (zbc (v := b_v) zas rfl f12 ?_)
 refine zag (zdz (x := (b.length : Int)) (y := 1) (z := (iw ((b.length : Int) - 1))) rfl rfl rfl ?_)
 obtain ⟨x11, n11, q21, q22, -, h⟩ := zix h
 obtain ⟨b12, o11, c11, vs11, q23, q24, f17, q25⟩ := zcw f12 q22
 obtain rfl := q25
 refine zag (zbp (r := (rInt .u32)) (v := b_v) (n := n11) (m := (o11 + n11 * (rInt .u32).sz)) zas ti177 rfl q23 rfl q21 q22 rfl ?_)
 refine zag (zca (v := (zaa .u32 x11)) zbg rfl rfl zek f17 ?_)
 cases h
theorem bOf_w (N : Nat) (n : Int)  (w : World) (S : Nat → Prop)  (r : Big) (h : bOf N n = some r) :
  Calls Tryz.prog 135 #[(zI n)] w (Ret w (fun v w' => ∃ (v0_0 : Value), (zap #[(zab r.Negative), v0_0]) = v ∧ Rs (rInt .u32) (vH w None [] w') v0_0 r.Digits ∧ True)) := by
 unfold bOf at h
 have hL : vL w w [] [] := Go.X.Loc.begin0 w
 refine calls_of (l := [(zI n)]) (rl := [.cell 2 57]) (n := 19) Tryz.func135 rfl rfl rfl (zae rfl) ?_
 refine zaj (zaf rfl (zag (zbw (cs := [zF, zN]) ti57 rfl hL ?_)))
 intro b1 w2 hL3 hS5
 refine zan (zaj (zaf rfl (zag (zai (v := (zI n)) rfl ?_))))
 refine zag (zcr (x := n) (z := (uw n)) zdd zbv rfl rfl ?_)
 refine zag (zak (v := (zaa .u64 (uw n))) rfl ?_)
 refine zan (zaj (zaj (zaf rfl (zag (zai (v := (zI n)) rfl ?_)))))
 refine zag (zci (x := n) (y := 0) ((n : Int) < 0) rfl rfl zbd (zan ?_))
 obtain ⟨s9, h, g10⟩ := zec h
 refine zbs (fun e w' => ∃ (u8 : Int) (u : Env), u8 = s9 ∧ e = upds [(0, (zI n)), (2, (zal (some ⟨b1, 0, none⟩))), (3, (zaa .u64 u8))] u ∧ vL w w' [some b1] [zac [zF, zN]] ∧ Keep w.heap.size [some b1] w2 [some b1] w' ∧ True) ?_ ?_
 ·
  refine zba ((n : Int) < 0) rfl (fun hc10 => ?_) (fun hc10 => ?_)
  ·
   replace h := ite_t hc10 h
   refine zaf rfl (zag (zai (v := (zaa .u64 (uw n))) rfl ?_))
   refine zag (OpY.neg (x := (uw n)) (z := (uw (0 - (uw n)))) rfl rfl ?_)
   refine zag (zak (v := (zaa .u64 (uw (0 - (uw n))))) rfl (zan ?_))
   obtain rfl := zah h
   refine zaq ?_
   exact ⟨(uw (0 - (uw n))), _, rfl, (zeg ⟨rfl, rfl, rfl, trivial⟩), hL3, zbq, trivial⟩
  replace h := ite_f hc10 h
  refine zbf ?_
  obtain rfl := zah h
  refine zaq ?_
  exact ⟨(uw n), _, rfl, (zeg ⟨rfl, rfl, rfl, trivial⟩), hL3, zbq, trivial⟩
 rintro _ w10 ⟨u8, u, rfl, rfl, hL10, K10, -⟩
 replace h := g10
 try dsimp only at h
 refine zaj (zaf rfl (zag (zai (v := (zI n)) rfl ?_)))
 refine zag (zci (x := n) (y := 0) ((n : Int) < 0) rfl rfl zbd ?_)
 refine zag (zai (v := (zaa .u64 u8)) rfl ?_)
 refine zag (zcr (x := u8) (z := (uw32 u8)) zbv zbg rfl rfl ?_)
 refine zag (zai (v := (zaa .u64 u8)) rfl ?_)
 refine zag (OpY.ishr (x := u8) (y := 32) rfl rfl (by decide) ?_)
 refine zag (zcr (x := (bshr .u64 u8 32)) (z := (uw32 (bshr .u64 u8 32))) zbv zbg rfl rfl ?_)
 have hE10 : Els (rInt .u32) (vH w None [some b1] w10) [(zaa .u32 (uw32 u8)), (zaa .u32 (uw32 (bshr .u64 u8 32)))] [(uw32 u8), (uw32 (bshr .u64 u8 32))] := (zcp (a := [(zaa .u32 (uw32 u8))]) rfl (zcp (a := [(zaa .u32 (uw32 (bshr .u64 u8 32)))]) rfl zcm))
 refine zag (zch (r := (rInt .u32)) (vs := [(zaa .u32 (uw32 u8)), (zaa .u32 (uw32 (bshr .u64 u8 32)))]) (css := [[(zaa .u32 (uw32 u8))], [(zaa .u32 (uw32 (bshr .u64 u8 32)))]]) (xs := [(uw32 u8), (uw32 (bshr .u64 u8 32))]) zas ti177 (zae rfl) rfl rfl ⟨rfl, rfl, ⟨rfl, rfl, trivial⟩⟩ (zae rfl) hE10 rfl hL10 ?_)
 intro b10 w11 hc11 hL11 hS10
 have K11 := ks w hS10
 obtain ⟨r10, q10, h⟩ := zec h
 have f10 := (hE10.mono (K11 None))
 refine zag (zay en160 rfl rfl (bnormal_w N (decide ((n : Int) < 0)) [(uw32 u8), (uw32 (bshr .u64 u8 32))] (osv (some b10) 0 2 2) _ Any (zel (pre := []) (o := 0) (n := 2) (cap := 2) (hL11.at 0 rfl rfl) f10 vw_any rfl rfl rfl hc11) r10 q10) ?_)
 rintro _ w12 hE11 ⟨v10, rfl, k10, -⟩
 replace k10 := k10.mono (zbu (S := None) hL11 [])
 have hL12 := hL11.ext hE11
 refine zcf (zbo (vs := [(zab r10.Negative), v10]) ti57 rfl rfl rfl rfl (zee rfl (zee k10.one zej)) hL12 1 rfl rfl (zae rfl) ?_)
 intro w13 (hL13 : vL w w13 [some b10, some b1] [zac ([] ++ ([(zaa .u32 (uw32 u8)), (zaa .u32 (uw32 (bshr .u64 u8 32)))] ++ [])), zac [(zab r10.Negative), v10]]) hS11
 have K12 := ks w hS11
 refine zan (zbi ?_)
 obtain rfl := zah h
 refine ⟨[(zap #[(zab r10.Negative), v10])], ⟨⟨⟨b1, 0, none⟩, rfl, zeo zar rfl ti57 (hL13.at 1 rfl rfl) rfl⟩, trivial⟩, ⟨_, rfl, hL13.done, ?_⟩⟩
 have f11 := (k10.mono (K12 None))
 exact ⟨v10, rfl, (f11.mono zea), trivial⟩
theorem bNormal_w (N : Nat) (x : Big) (x_v : Value) (w : World) (S : Nat → Prop) (x_h : Rs (rInt .u32) (vH w S [] w) x_v x.Digits) (r : Big) (h : bNormal N x = some r) :
  Calls Tryz.prog 159 #[(zap #[(zab x.Negative), x_v])] w (Ret w (fun v w' => ∃ (v0_0 : Value), (zap #[(zab r.Negative), v0_0]) = v ∧ Rs (rInt .u32) (vH w None [] w') v0_0 r.Digits ∧ True)) := by
 unfold bNormal at h
 have hL : vL w w [] [] := Go.X.Loc.begin0 w
 refine calls_of (l := [(zap #[(zab x.Negative), x_v])]) (rl := [.cell 2 57]) (n := 8) Tryz.func159 rfl rfl rfl (zae rfl) ?_
 refine zaj (zaf rfl (zag (zdj (cs := [(zab x.Negative), x_v]) rfl rfl hL ?_)))
 intro b1 w2 hL3 hS5
 have K4 := ks w hS5
 refine zag (zbw (cs := [zF, zN]) ti57 rfl hL3 ?_)
 intro b6 w7 hL8 hS10
 have K9 := ks w hS10
 refine zan (zaj (zaf rfl (zag (zam (q := 0) zar rfl ti4 rfl rfl rfl ?_))))
 refine zag (zau (v := (zab x.Negative)) zcd rfl rfl (hL8.at 1 rfl rfl) rfl ?_)
 refine zag (zam (q := 1) zar rfl ti55 rfl rfl rfl ?_)
 refine zag (zau (v := x_v) zas rfl rfl (hL8.at 1 rfl rfl) rfl ?_)
 obtain ⟨r10, q10, h⟩ := zec h
 have f10 := ((x_h.mono (K4 S)).mono (K9 S))
 refine zag (zay en160 rfl rfl (bnormal_w N x.Negative x.Digits x_v _ Any (f10.mono vw_any) r10 q10) ?_)
 rintro _ w10 hE10 ⟨v10, rfl, k10, -⟩
 replace k10 := k10.mono (zbu (S := None) hL8 [])
 have hL10 := hL8.ext hE10
 refine zcf (zbo (vs := [(zab r10.Negative), v10]) ti57 rfl rfl rfl rfl (zee rfl (zee k10.one zej)) hL10 0 rfl rfl (zae rfl) ?_)
 intro w11 (hL11 : vL w w11 [some b6, some b1] [zac [(zab r10.Negative), v10], zac [(zab x.Negative), x_v]]) hS11
 have K10 := ks w hS11
 refine zan (zbi ?_)
 obtain rfl := zah h
 refine ⟨[(zap #[(zab r10.Negative), v10])], ⟨⟨⟨b6, 0, none⟩, rfl, zeo zar rfl ti57 (hL11.at 0 rfl rfl) rfl⟩, trivial⟩, ⟨_, rfl, hL11.done, ?_⟩⟩
 have f11 := (k10.mono (K10 None))
 exact ⟨v10, rfl, (f11.mono zea), trivial⟩
theorem bSign_w (N : Nat) (x : Big) (x_v : Value) (w : World) (S : Nat → Prop) (x_h : Rs (rInt .u32) (vH w S [] w) x_v x.Digits) (r : Int) (h : bSign N x = some r) :
  Calls Tryz.prog 154 #[(zap #[(zab x.Negative), x_v])] w (Ret w (fun v w' => (zI r) = v ∧ True)) := by
 unfold bSign at h
 have hL : vL w w [] [] := Go.X.Loc.begin0 w
 refine calls_of (l := [(zap #[(zab x.Negative), x_v])]) (rl := [.tmp 2]) (n := 13) Tryz.func154 rfl rfl rfl (zae rfl) ?_
 refine zaj (zaf rfl (zag (zdj (cs := [(zab x.Negative), x_v]) rfl rfl hL ?_)))
 intro b1 w2 hL3 hS5
 have K4 := ks w hS5
 refine zag (zak (v := (zI 0)) rfl ?_)
 refine zan (zaj (zaf rfl (zag (zbj (vs := [(zab x.Negative), x_v]) zar rfl ti57 rfl (hL3.at 0 rfl rfl) rfl rfl ?_))))
 obtain ⟨r6, q7, h⟩ := zec h
 have f10 := (x_h.mono (K4 S))
 refine zag (zay en159 rfl rfl (bNormal_w N x x_v _ Any (f10.mono vw_any) r6 q7) ?_)
 rintro _ w10 hE10 ⟨v8, rfl, k9, -⟩
 replace k9 := k9.mono (zbu (S := None) hL3 [])
 have hL10 := hL3.ext hE10
 refine zcf (zbo (vs := [(zab r6.Negative), v8]) ti57 rfl rfl rfl rfl (zee rfl (zee k9.one zej)) hL10 0 rfl rfl (zae rfl) ?_)
 intro w11 (hL11 : vL w w11 [some b1] [zac [(zab r6.Negative), v8]]) hS10
 have K10 := ks w hS10
 refine zan (zaj (zbb (zaj (zaf rfl (zag (zam (q := 1) zar rfl ti55 rfl rfl rfl ?_))))))
 refine zag (zau (v := v8) zas rfl rfl (hL11.at 0 rfl rfl) rfl ?_)
 have f11 := (k9.mono (K10 None))
 refine zag (zbc (v := v8) zas rfl f11 ?_)
 refine zag (zdp (x := (r6.Digits.length : Int)) (y := 0) (((r6.Digits.length : Int) : Int) = 0) rfl rfl zbd ?_)
 refine zag (zak (v := (zab (decide (((r6.Digits.length : Int) : Int) = 0)))) rfl (zan ?_))
 refine zba (((r6.Digits.length : Int) : Int) = 0) rfl (fun hc10 => ?_) (fun hc10 => ?_)
 ·
  replace h := ite_t hc10 h
  refine zaj (zaf rfl (zag (zak (v := (zI 0)) rfl ?_)))
  refine zan (zbi ?_)
  obtain rfl := zah h
  refine ⟨[(zI 0)], zrt, ⟨_, rfl, hL11.done, ?_⟩⟩
  exact zrt
 replace h := ite_f hc10 h
 refine zaj (zaf rfl (zag (zam (q := 0) zar rfl ti4 rfl rfl rfl ?_)))
 refine zag (zau (v := (zab r6.Negative)) zcd rfl rfl (hL11.at 0 rfl rfl) rfl ?_)
 refine zag (zak (v := (zab r6.Negative)) rfl (zan ?_))
 refine zcq r6.Negative rfl (fun hc11 => ?_) (fun hc11 => ?_)
 ·
  replace h := ite_t hc11 h
  refine zaj (zaf rfl (zag (zak (v := (zI (-1))) rfl ?_)))
  refine zan (zbi ?_)
  obtain rfl := zah h
  refine ⟨[(zI (-1))], zrt, ⟨_, rfl, hL11.done, ?_⟩⟩
  exact zrt
 replace h := ite_f hc11 h
 refine zbf (zbn (zaj (zaf rfl (zag (zak (v := (zI 1)) rfl ?_)))))
 refine zan (zbi ?_)
 obtain rfl := zah h
 refine ⟨[(zI 1)], zrt, ⟨_, rfl, hL11.done, ?_⟩⟩
 exact zrt
theorem bNeg_w (N : Nat) (x : Big) (x_v : Value) (w : World) (S : Nat → Prop) (x_h : Rs (rInt .u32) (vH w S [] w) x_v x.Digits) (r : Big) (h : bNeg N x = some r) :
  Calls Tryz.prog 134 #[(zap #[(zab x.Negative), x_v])] w (Ret w (fun v w' => ∃ (v0_0 : Value), (zap #[(zab r.Negative), v0_0]) = v ∧ Rs (rInt .u32) (vH w None [] w') v0_0 r.Digits ∧ True)) := by
 unfold bNeg at h
 have hL : vL w w [] [] := Go.X.Loc.begin0 w
 refine calls_of (l := [(zap #[(zab x.Negative), x_v])]) (rl := [.cell 2 57]) (n := 9) Tryz.func134 rfl rfl rfl (zae rfl) ?_
 refine zaj (zaf rfl (zag (zdj (cs := [(zab x.Negative), x_v]) rfl rfl hL ?_)))
 intro b1 w2 hL3 hS5
 have K4 := ks w hS5
 refine zag (zbw (cs := [zF, zN]) ti57 rfl hL3 ?_)
 intro b6 w7 hL8 hS10
 have K9 := ks w hS10
 refine zan (zaj (zaf rfl (zag (zam (q := 0) zar rfl ti4 rfl rfl rfl ?_))))
 refine zag (zau (v := (zab x.Negative)) zcd rfl rfl (hL8.at 1 rfl rfl) rfl ?_)
 refine zag (zeb (x := x.Negative) rfl ?_)
 refine zag (zam (q := 1) zar rfl ti55 rfl rfl rfl ?_)
 refine zag (zau (v := x_v) zas rfl rfl (hL8.at 1 rfl rfl) rfl ?_)
 obtain ⟨r10, q10, h⟩ := zec h
 have f10 := ((x_h.mono (K4 S)).mono (K9 S))
 refine zag (zay en160 rfl rfl (bnormal_w N (!x.Negative) x.Digits x_v _ Any (f10.mono vw_any) r10 q10) ?_)
 rintro _ w10 hE10 ⟨v10, rfl, k10, -⟩
 replace k10 := k10.mono (zbu (S := None) hL8 [])
 have hL10 := hL8.ext hE10
 refine zcf (zbo (vs := [(zab r10.Negative), v10]) ti57 rfl rfl rfl rfl (zee rfl (zee k10.one zej)) hL10 0 rfl rfl (zae rfl) ?_)
 intro w11 (hL11 : vL w w11 [some b6, some b1] [zac [(zab r10.Negative), v10], zac [(zab x.Negative), x_v]]) hS11
 have K10 := ks w hS11
 refine zan (zbi ?_)
 obtain rfl := zah h
 refine ⟨[(zap #[(zab r10.Negative), v10])], ⟨⟨⟨b6, 0, none⟩, rfl, zeo zar rfl ti57 (hL11.at 0 rfl rfl) rfl⟩, trivial⟩, ⟨_, rfl, hL11.done, ?_⟩⟩
 have f11 := (k10.mono (K10 None))
 exact ⟨v10, rfl, (f11.mono zea), trivial⟩
theorem bAdd_w (N : Nat) (a : Big) (b : Big) (a_v : Value) (b_v : Value) (w : World) (S : Nat → Prop) (a_h : Rs (rInt .u32) (vH w S [] w) a_v a.Digits) (b_h : Rs (rInt .u32) (vH w S [] w) b_v b.Digits) (r : Big) (h : bAdd N a b = some r) :
  Calls Tryz.prog 155 #[(zap #[(zab a.Negative), a_v]), (zap #[(zab b.Negative), b_v])] w (Ret w (fun v w' => ∃ (v0_0 : Value), (zap #[(zab r.Negative), v0_0]) = v ∧ Rs (rInt .u32) (vH w None [] w') v0_0 r.Digits ∧ True)) := by
 unfold bAdd at h
 have hL : vL w w [] [] := Go.X.Loc.begin0 w
 refine calls_of (l := [(zap #[(zab a.Negative), a_v]), (zap #[(zab b.Negative), b_v])]) (rl := [.cell 4 57]) (n := 44) Tryz.func155 rfl rfl rfl (zae rfl) ?_
 refine zaj (zaf rfl (zag (zdj (cs := [(zab a.Negative), a_v]) rfl rfl hL ?_)))
 intro b1 w2 hL3 hS5
 have K4 := ks w hS5
 refine zag (zdj (cs := [(zab b.Negative), b_v]) rfl rfl hL3 ?_)
 intro b6 w7 hL8 hS10
 have K9 := ks w hS10
 refine zag (zbw (cs := [zF, zN]) ti57 rfl hL8 ?_)
 intro b10 w10 hL10 hS11
 have K10 := ks w hS11
 refine zan (zaj ?_)
 obtain ⟨r10, q10, h⟩ := zec h
 refine zcj 3 [] [] (fun W1 => [.det (zap #[(zab a.Negative), a_v]), .rel (fun v Z w' => ∃ v10, (zap #[(zab r10.Negative), v10]) = v ∧ Rs (rInt .u32) (vZ W1 w None [some b10, some b6, some b1] Z w') v10 r10.Digits ∧ True) (fun _ => []), .det (zap #[(zab b.Negative), b_v])]) mixed rfl rfl rfl (fun _ => rfl) (fun _ => rfl) ?_ ?_
 ·
  intro W1 _
  exact ⟨fun v Z Z' w w' hΦ hz _ _ hs => by obtain ⟨v10, rfl, k10, -⟩ := hΦ; exact ⟨v10, rfl, (k10.mono (zdo hz hs)), trivial⟩, trivial⟩
 intro w11 hE10
 obtain ⟨hL11, K11⟩ := zl hL10 hE10
 refine zat (fun _ hE11 => zaw (zbj (vs := [(zab a.Negative), a_v]) zar rfl ti57 rfl ((hL11.ext hE11).at 2 rfl rfl) rfl rfl (er rfl))) ?_
 refine zdq ?_ ?_
 ·
  rintro w13 Z20 hE12 hZ11 ⟨-⟩
  have K12 := ke hL11 hE12
  refine zaw (zay en159 rfl rfl (bNormal_w N a a_v _ Any ((((((a_h.mono (K4 S)).mono (K9 S)).mono (K10 S)).mono (K11 S)).mono (K12 S)).mono vw_any) r10 q10) ?_)
  rintro _ w14 hE13 ⟨v10, rfl, k10, -⟩
  exact zdf hE13 hZ11 zco (fun _ h => h) ⟨v10, rfl, (k10.mono zdr), trivial⟩
 intro z1
 refine zat (fun _ hE14 => zaw (zbj (vs := [(zab b.Negative), b_v]) zar rfl ti57 rfl ((hL11.ext hE14).at 1 rfl rfl) rfl rfl (er rfl))) ?_
 refine zcx ?_
 rintro w16 Z23 hE15 hZ13 ⟨⟨⟨v10, rfl, k10, -⟩, hB1⟩, -⟩ ap10
 have hB10 := @zhb w11 Z23
 replace k10 := k10.mono (zdw hL11 hZ13 hB10)
 obtain ⟨hL14, K13⟩ := zl hL11 hE15
 obtain ⟨r11, q11, h⟩ := zec h
 have f10 := (((((b_h.mono (K4 S)).mono (K9 S)).mono (K10 S)).mono (K11 S)).mono (K13 S))
 refine zag (zay en159 rfl rfl (bNormal_w N b b_v _ Any (f10.mono vw_any) r11 q11) ?_)
 rintro _ w17 hE16 ⟨v11, rfl, k11, -⟩
 replace k11 := k11.mono (zbu (S := None) hL14 [])
 obtain ⟨hL15, K14⟩ := zl hL14 hE16
 have f11 := (k10.mono (K14 None))
 refine zcf (zbo (vs := [(zab r10.Negative), v10]) ti57 rfl rfl rfl rfl (zee rfl (zee f11.one zej)) hL15 2 rfl rfl (zae rfl) ?_)
 intro w18 (hL16 : vL w w18 [some b10, some b6, some b1] [zac [zF, zN], zac [(zab b.Negative), b_v], zac [(zab r10.Negative), v10]]) hS12
 have K15 := ks w hS12
 have f12 := (k11.mono (K15 None))
 refine zcf (zbo (vs := [(zab r11.Negative), v11]) ti57 rfl rfl rfl rfl (zee rfl (zee f12.one zej)) hL16 1 rfl rfl (zae rfl) ?_)
 intro w19 (hL17 : vL w w19 [some b10, some b6, some b1] [zac [zF, zN], zac [(zab r11.Negative), v11], zac [(zab r10.Negative), v10]]) hS13
 have K16 := ks w hS13
 refine zan (zaj (zaj (zaf rfl (zag (zam (q := 0) zar rfl ti4 rfl rfl rfl ?_)))))
 refine zag (zau (v := (zab r10.Negative)) zcd rfl rfl (hL17.at 2 rfl rfl) rfl ?_)
 refine zag (zam (q := 0) zar rfl ti4 rfl rfl rfl ?_)
 refine zag (zau (v := (zab r11.Negative)) zcd rfl rfl (hL17.at 1 rfl rfl) rfl ?_)
 refine zag (OpY.eqlBool (x := r10.Negative) (y := r11.Negative) zcd rfl rfl (zan ?_))
 refine zcq (r10.Negative == r11.Negative) rfl (fun hc10 => ?_) (fun hc10 => ?_)
 ·
  replace h := ite_t hc10 h
  refine zaj ?_
  obtain ⟨r12, q12, h⟩ := zec h
  refine zcj 7 [] [] (fun W1 => [.det (zal (some ⟨b1, 0, none⟩)), .det (zab r10.Negative), .det (zal (some ⟨b1, 1, none⟩)), .det v10, .det (zal (some ⟨b6, 1, none⟩)), .det v11, .rel (fun v Z w' => ∃ ob10 cap10 cs10 sp10, (zO ob10 r12 cap10) = v ∧ OwnC w' ob10 (zac ([] ++ (cs10 ++ sp10))) ∧ Els (rInt .u32) (vZ W1 w None [some b10, some b6, some b1] Z w') cs10 r12 ∧ (cs10 ++ sp10 : List Value).length = cap10 * (rInt .u32).sz ∧ True) footV]) mixed rfl rfl rfl (fun _ => rfl) (fun _ => rfl) ?_ ?_
  ·
   intro W1 _
   exact ⟨fun v Z Z' w w' hΦ hz _ _ hs => by obtain ⟨ob10, cap10, cs10, sp10, rfl, hO10, hE17, hc11, -⟩ := hΦ; exact ⟨ob10, cap10, cs10, sp10, rfl, (hO10.stay (fun b hb => (zep (ob := ob10) (o := 0) (n := r12.length) (cap := cap10)).2 (by rw [hb]; exact zbm)) hs), (hE17.mono (zdo hz hs)), hc11, trivial⟩, trivial⟩
  intro w20 hE18
  obtain ⟨hL18, K17⟩ := zl hL17 hE18
  refine zat (fun _ _ => zaw (zam zar rfl ti4 rfl rfl rfl (er rfl))) ?_
  refine zat (fun _ hE20 => zaw (zau zcd rfl rfl ((hL18.ext hE20).at 2 rfl rfl) rfl (er rfl))) ?_
  refine zat (fun _ _ => zaw (zam zar rfl ti55 rfl rfl rfl (er rfl))) ?_
  refine zat (fun _ hE22 => zaw (zau zas rfl rfl ((hL18.ext hE22).at 2 rfl rfl) rfl (er rfl))) ?_
  refine zat (fun _ _ => zaw (zam zar rfl ti55 rfl rfl rfl (er rfl))) ?_
  refine zat (fun _ hE24 => zaw (zau zas rfl rfl ((hL18.ext hE24).at 1 rfl rfl) rfl (er rfl))) ?_
  refine zdq ?_ ?_
  ·
   rintro w27 Z30 hE25 hZ20 ⟨-⟩
   have K18 := ke hL18 hE25
   refine zaw (zay en170 rfl rfl (bplus_w N r10.Digits r11.Digits v10 v11 _ Any (((((f11.mono (K15 None)).mono (K16 None)).mono (K17 None)).mono (K18 None)).mono vw_any) ((((f12.mono (K16 None)).mono (K17 None)).mono (K18 None)).mono vw_any) r12 q12) ?_)
   rintro _ w28 hE26 ⟨ob10, cap10, cs10, sp10, rfl, hN10, hE17, hc11, -⟩
   exact zdf hE26 hZ20 hN10 (fun b hb => footV_osv.1 hb) ⟨ob10, cap10, cs10, sp10, rfl, hN10.2.2.1, (hE17.mono zdr), hc11, trivial⟩
  intro z6
  refine zcx ?_
  rintro w29 Z31 hE27 hZ21 ⟨⟨⟨ob10, cap10, cs10, sp10, rfl, hO10, hE17, hc11, -⟩, hB6⟩, -⟩ ap11
  have hB11 : ∀ b, some b ∈ ([ob10] : List (Option Nat)) → w20.heap.size ≤ b ∧ ¬ Z31 b := by
   intro b hb
   rcases List.mem_cons.1 hb with hb' | hb
   ·
    have := hB6 b ((zep (ob := ob10) (o := 0) (n := r12.length) (cap := cap10)).2 (by rw [hb']; exact zbm)); exact ⟨this.1, this.2.2⟩
   cases hb
  replace hE17 := hE17.mono (zdw hL18 hZ21 hB11)
  have hN11 : NewOwn w20 w29 [ob10] [zac ([] ++ (cs10 ++ sp10))] := (zdt zco hO10 (fun b hb => (hB11 b (by rw [← hb]; simp)).1) (fun b _ hb => by cases hb))
  have hp10 := hL18.adoptL hE27 hN11
  have hL22 := hp10.1
  obtain ⟨r13, q13, h⟩ := zec h
  refine zag (zay en160 rfl rfl (bnormal_w N r10.Negative r12 (zO ob10 r12 cap10) _ Any (zel (pre := []) (o := 0) (n := r12.length) (cap := cap10) (hL22.at 0 rfl rfl) hE17 vw_any rfl rfl rfl hc11) r13 q13) ?_)
  rintro _ w30 hE28 ⟨v12, rfl, k12, -⟩
  replace k12 := k12.mono (zbu (S := None) hL22 [])
  have hL23 := hL22.ext hE28
  refine zcf (zbo (vs := [(zab r13.Negative), v12]) ti57 rfl rfl rfl rfl (zee rfl (zee k12.one zej)) hL23 1 rfl rfl (zae rfl) ?_)
  intro w31 (hL24 : vL w w31 [ob10, some b10, some b6, some b1] [zac ([] ++ (cs10 ++ sp10)), zac [(zab r13.Negative), v12], zac [(zab r11.Negative), v11], zac [(zab r10.Negative), v10]]) hS14
  have K19 := ks w hS14
  refine zan (zbi ?_)
  obtain rfl := zah h
  refine ⟨[(zap #[(zab r13.Negative), v12])], ⟨⟨⟨b10, 0, none⟩, rfl, zeo zar rfl ti57 (hL24.at 1 rfl rfl) rfl⟩, trivial⟩, ⟨_, rfl, hL24.done, ?_⟩⟩
  have f13 := (k12.mono (K19 None))
  exact ⟨v12, rfl, (f13.mono zea), trivial⟩
 replace h := ite_f hc10 h
 refine zbf (zaj (zaj (zaf rfl (zag (zam (q := 1) zar rfl ti55 rfl rfl rfl ?_)))))
 refine zag (zau (v := v10) zas rfl rfl (hL17.at 2 rfl rfl) rfl ?_)
 refine zag (zam (q := 1) zar rfl ti55 rfl rfl rfl ?_)
 refine zag (zau (v := v11) zas rfl rfl (hL17.at 1 rfl rfl) rfl ?_)
 obtain ⟨r14, q14, h⟩ := zec h
 have f14 := ((f11.mono (K15 None)).mono (K16 None))
 have f15 := (f12.mono (K16 None))
 refine zag (zay en171 rfl rfl (bcompare_w N r10.Digits r11.Digits v10 v11 _ Any (f14.mono vw_any) (f15.mono vw_any) r14 q14) ?_)
 rintro _ w32 hE29 ⟨rfl, -⟩
 obtain ⟨hL25, K20⟩ := zl hL17 hE29
 refine zag (zci (x := r14) (y := 0) ((r14 : Int) < 0) rfl rfl zbd (zan ?_))
 refine zba ((r14 : Int) < 0) rfl (fun hc12 => ?_) (fun hc12 => ?_)
 ·
  replace h := ite_t hc12 h
  refine zaj ?_
  obtain ⟨r15, q15, h⟩ := zec h
  refine zcj 7 [] [] (fun W1 => [.det (zal (some ⟨b6, 0, none⟩)), .det (zab r11.Negative), .det (zal (some ⟨b6, 1, none⟩)), .det v11, .det (zal (some ⟨b1, 1, none⟩)), .det v10, .rel (fun v Z w' => ∃ ob11 cap11 cs11 sp11, (zO ob11 r15 cap11) = v ∧ OwnC w' ob11 (zac ([] ++ (cs11 ++ sp11))) ∧ Els (rInt .u32) (vZ W1 w None [some b10, some b6, some b1] Z w') cs11 r15 ∧ (cs11 ++ sp11 : List Value).length = cap11 * (rInt .u32).sz ∧ True) footV]) mixed rfl rfl rfl (fun _ => rfl) (fun _ => rfl) ?_ ?_
  ·
   intro W1 _
   exact ⟨fun v Z Z' w w' hΦ hz _ _ hs => by obtain ⟨ob11, cap11, cs11, sp11, rfl, hO11, hE30, hc13, -⟩ := hΦ; exact ⟨ob11, cap11, cs11, sp11, rfl, (hO11.stay (fun b hb => (zep (ob := ob11) (o := 0) (n := r15.length) (cap := cap11)).2 (by rw [hb]; exact zbm)) hs), (hE30.mono (zdo hz hs)), hc13, trivial⟩, trivial⟩
  intro w33 hE31
  obtain ⟨hL26, K21⟩ := zl hL25 hE31
  refine zat (fun _ _ => zaw (zam zar rfl ti4 rfl rfl rfl (er rfl))) ?_
  refine zat (fun _ hE33 => zaw (zau zcd rfl rfl ((hL26.ext hE33).at 1 rfl rfl) rfl (er rfl))) ?_
  refine zat (fun _ _ => zaw (zam zar rfl ti55 rfl rfl rfl (er rfl))) ?_
  refine zat (fun _ hE35 => zaw (zau zas rfl rfl ((hL26.ext hE35).at 1 rfl rfl) rfl (er rfl))) ?_
  refine zat (fun _ _ => zaw (zam zar rfl ti55 rfl rfl rfl (er rfl))) ?_
  refine zat (fun _ hE37 => zaw (zau zas rfl rfl ((hL26.ext hE37).at 2 rfl rfl) rfl (er rfl))) ?_
  refine zdq ?_ ?_
  ·
   rintro w40 Z38 hE38 hZ28 ⟨-⟩
   have K22 := ke hL26 hE38
   refine zaw (zay en172 rfl rfl (bminus_w N r11.Digits r10.Digits v11 v10 _ Any ((((f15.mono (K20 None)).mono (K21 None)).mono (K22 None)).mono vw_any) ((((f14.mono (K20 None)).mono (K21 None)).mono (K22 None)).mono vw_any) r15 q15) ?_)
   rintro _ w41 hE39 ⟨ob11, cap11, cs11, sp11, rfl, hN12, hE30, hc13, -⟩
   exact zdf hE39 hZ28 hN12 (fun b hb => footV_osv.1 hb) ⟨ob11, cap11, cs11, sp11, rfl, hN12.2.2.1, (hE30.mono zdr), hc13, trivial⟩
  intro z6
  refine zcx ?_
  rintro w42 Z39 hE40 hZ29 ⟨⟨⟨ob11, cap11, cs11, sp11, rfl, hO11, hE30, hc13, -⟩, hB6⟩, -⟩ ap12
  have hB12 : ∀ b, some b ∈ ([ob11] : List (Option Nat)) → w33.heap.size ≤ b ∧ ¬ Z39 b := by
   intro b hb
   rcases List.mem_cons.1 hb with hb' | hb
   ·
    have := hB6 b ((zep (ob := ob11) (o := 0) (n := r15.length) (cap := cap11)).2 (by rw [hb']; exact zbm)); exact ⟨this.1, this.2.2⟩
   cases hb
  replace hE30 := hE30.mono (zdw hL26 hZ29 hB12)
  have hN13 : NewOwn w33 w42 [ob11] [zac ([] ++ (cs11 ++ sp11))] := (zdt zco hO11 (fun b hb => (hB12 b (by rw [← hb]; simp)).1) (fun b _ hb => by cases hb))
  have hp11 := hL26.adoptL hE40 hN13
  have hL30 := hp11.1
  obtain ⟨r16, q16, h⟩ := zec h
  refine zag (zay en160 rfl rfl (bnormal_w N r11.Negative r15 (zO ob11 r15 cap11) _ Any (zel (pre := []) (o := 0) (n := r15.length) (cap := cap11) (hL30.at 0 rfl rfl) hE30 vw_any rfl rfl rfl hc13) r16 q16) ?_)
  rintro _ w43 hE41 ⟨v13, rfl, k13, -⟩
  replace k13 := k13.mono (zbu (S := None) hL30 [])
  have hL31 := hL30.ext hE41
  refine zcf (zbo (vs := [(zab r16.Negative), v13]) ti57 rfl rfl rfl rfl (zee rfl (zee k13.one zej)) hL31 1 rfl rfl (zae rfl) ?_)
  intro w44 (hL32 : vL w w44 [ob11, some b10, some b6, some b1] [zac ([] ++ (cs11 ++ sp11)), zac [(zab r16.Negative), v13], zac [(zab r11.Negative), v11], zac [(zab r10.Negative), v10]]) hS15
  have K23 := ks w hS15
  refine zan (zbi ?_)
  obtain rfl := zah h
  refine ⟨[(zap #[(zab r16.Negative), v13])], ⟨⟨⟨b10, 0, none⟩, rfl, zeo zar rfl ti57 (hL32.at 1 rfl rfl) rfl⟩, trivial⟩, ⟨_, rfl, hL32.done, ?_⟩⟩
  have f16 := (k13.mono (K23 None))
  exact ⟨v13, rfl, (f16.mono zea), trivial⟩
 replace h := ite_f hc12 h
 refine zbf (zaj ?_)
 obtain ⟨r17, q17, h⟩ := zec h
 refine zcj 7 [] [] (fun W1 => [.det (zal (some ⟨b1, 0, none⟩)), .det (zab r10.Negative), .det (zal (some ⟨b1, 1, none⟩)), .det v10, .det (zal (some ⟨b6, 1, none⟩)), .det v11, .rel (fun v Z w' => ∃ ob12 cap12 cs12 sp12, (zO ob12 r17 cap12) = v ∧ OwnC w' ob12 (zac ([] ++ (cs12 ++ sp12))) ∧ Els (rInt .u32) (vZ W1 w None [some b10, some b6, some b1] Z w') cs12 r17 ∧ (cs12 ++ sp12 : List Value).length = cap12 * (rInt .u32).sz ∧ True) footV]) mixed rfl rfl rfl (fun _ => rfl) (fun _ => rfl) ?_ ?_
 ·
  intro W1 _
  exact ⟨fun v Z Z' w w' hΦ hz _ _ hs => by obtain ⟨ob12, cap12, cs12, sp12, rfl, hO12, hE42, hc14, -⟩ := hΦ; exact ⟨ob12, cap12, cs12, sp12, rfl, (hO12.stay (fun b hb => (zep (ob := ob12) (o := 0) (n := r17.length) (cap := cap12)).2 (by rw [hb]; exact zbm)) hs), (hE42.mono (zdo hz hs)), hc14, trivial⟩, trivial⟩
 intro w45 hE43
 obtain ⟨hL33, K24⟩ := zl hL25 hE43
 refine zat (fun _ _ => zaw (zam zar rfl ti4 rfl rfl rfl (er rfl))) ?_
 refine zat (fun _ hE45 => zaw (zau zcd rfl rfl ((hL33.ext hE45).at 2 rfl rfl) rfl (er rfl))) ?_
 refine zat (fun _ _ => zaw (zam zar rfl ti55 rfl rfl rfl (er rfl))) ?_
 refine zat (fun _ hE47 => zaw (zau zas rfl rfl ((hL33.ext hE47).at 2 rfl rfl) rfl (er rfl))) ?_
 refine zat (fun _ _ => zaw (zam zar rfl ti55 rfl rfl rfl (er rfl))) ?_
 refine zat (fun _ hE49 => zaw (zau zas rfl rfl ((hL33.ext hE49).at 1 rfl rfl) rfl (er rfl))) ?_
 refine zdq ?_ ?_
 ·
  rintro w52 Z46 hE50 hZ36 ⟨-⟩
  have K25 := ke hL33 hE50
  refine zaw (zay en172 rfl rfl (bminus_w N r10.Digits r11.Digits v10 v11 _ Any ((((f14.mono (K20 None)).mono (K24 None)).mono (K25 None)).mono vw_any) ((((f15.mono (K20 None)).mono (K24 None)).mono (K25 None)).mono vw_any) r17 q17) ?_)
  rintro _ w53 hE51 ⟨ob12, cap12, cs12, sp12, rfl, hN14, hE42, hc14, -⟩
  exact zdf hE51 hZ36 hN14 (fun b hb => footV_osv.1 hb) ⟨ob12, cap12, cs12, sp12, rfl, hN14.2.2.1, (hE42.mono zdr), hc14, trivial⟩
 intro z6
 refine zcx ?_
 rintro w54 Z47 hE52 hZ37 ⟨⟨⟨ob12, cap12, cs12, sp12, rfl, hO12, hE42, hc14, -⟩, hB6⟩, -⟩ ap13
 have hB13 : ∀ b, some b ∈ ([ob12] : List (Option Nat)) → w45.heap.size ≤ b ∧ ¬ Z47 b := by
  intro b hb
  rcases List.mem_cons.1 hb with hb' | hb
  ·
   have := hB6 b ((zep (ob := ob12) (o := 0) (n := r17.length) (cap := cap12)).2 (by rw [hb']; exact zbm)); exact ⟨this.1, this.2.2⟩
  cases hb
 replace hE42 := hE42.mono (zdw hL33 hZ37 hB13)
 have hN15 : NewOwn w45 w54 [ob12] [zac ([] ++ (cs12 ++ sp12))] := (zdt zco hO12 (fun b hb => (hB13 b (by rw [← hb]; simp)).1) (fun b _ hb => by cases hb))
 have hp12 := hL33.adoptL hE52 hN15
 have hL37 := hp12.1
 obtain ⟨r18, q18, h⟩ := zec h
 refine zag (zay en160 rfl rfl (bnormal_w N r10.Negative r17 (zO ob12 r17 cap12) _ Any (zel (pre := []) (o := 0) (n := r17.length) (cap := cap12) (hL37.at 0 rfl rfl) hE42 vw_any rfl rfl rfl hc14) r18 q18) ?_)
 rintro _ w55 hE53 ⟨v14, rfl, k14, -⟩
 replace k14 := k14.mono (zbu (S := None) hL37 [])
 have hL38 := hL37.ext hE53
 refine zcf (zbo (vs := [(zab r18.Negative), v14]) ti57 rfl rfl rfl rfl (zee rfl (zee k14.one zej)) hL38 1 rfl rfl (zae rfl) ?_)
 intro w56 (hL39 : vL w w56 [ob12, some b10, some b6, some b1] [zac ([] ++ (cs12 ++ sp12)), zac [(zab r18.Negative), v14], zac [(zab r11.Negative), v11], zac [(zab r10.Negative), v10]]) hS16
 have K26 := ks w hS16
 refine zan (zbi ?_)
 obtain rfl := zah h
 refine ⟨[(zap #[(zab r18.Negative), v14])], ⟨⟨⟨b10, 0, none⟩, rfl, zeo zar rfl ti57 (hL39.at 1 rfl rfl) rfl⟩, trivial⟩, ⟨_, rfl, hL39.done, ?_⟩⟩
 have f17 := (k14.mono (K26 None))
 exact ⟨v14, rfl, (f17.mono zea), trivial⟩
theorem bSub_w (N : Nat) (a : Big) (b : Big) (a_v : Value) (b_v : Value) (w : World) (S : Nat → Prop) (a_h : Rs (rInt .u32) (vH w S [] w) a_v a.Digits) (b_h : Rs (rInt .u32) (vH w S [] w) b_v b.Digits) (r : Big) (h : bSub N a b = some r) :
  Calls Tryz.prog 133 #[(zap #[(zab a.Negative), a_v]), (zap #[(zab b.Negative), b_v])] w (Ret w (fun v w' => ∃ (v0_0 : Value), (zap #[(zab r.Negative), v0_0]) = v ∧ Rs (rInt .u32) (vH w None [] w') v0_0 r.Digits ∧ True)) := by
 unfold bSub at h
 have hL : vL w w [] [] := Go.X.Loc.begin0 w
 refine calls_of (l := [(zap #[(zab a.Negative), a_v]), (zap #[(zab b.Negative), b_v])]) (rl := [.cell 4 57]) (n := 9) Tryz.func133 rfl rfl rfl (zae rfl) ?_
 refine zaj (zaf rfl (zag (zdj (cs := [(zab a.Negative), a_v]) rfl rfl hL ?_)))
 intro b1 w2 hL3 hS5
 have K4 := ks w hS5
 refine zag (zdj (cs := [(zab b.Negative), b_v]) rfl rfl hL3 ?_)
 intro b6 w7 hL8 hS10
 have K9 := ks w hS10
 refine zag (zbw (cs := [zF, zN]) ti57 rfl hL8 ?_)
 intro b10 w10 hL10 hS11
 have K10 := ks w hS11
 refine zan (zaj ?_)
 obtain ⟨r10, q10, h⟩ := zec h
 refine zcj 3 [] [] (fun W1 => [.det (zap #[(zab a.Negative), a_v]), .det (zap #[(zab b.Negative), b_v]), .rel (fun v Z w' => ∃ v10, (zap #[(zab r10.Negative), v10]) = v ∧ Rs (rInt .u32) (vZ W1 w None [some b10, some b6, some b1] Z w') v10 r10.Digits ∧ True) (fun _ => [])]) mixed rfl rfl rfl (fun _ => rfl) (fun _ => rfl) ?_ ?_
 ·
  intro W1 _
  exact ⟨fun v Z Z' w w' hΦ hz _ _ hs => by obtain ⟨v10, rfl, k10, -⟩ := hΦ; exact ⟨v10, rfl, (k10.mono (zdo hz hs)), trivial⟩, trivial⟩
 intro w11 hE10
 obtain ⟨hL11, K11⟩ := zl hL10 hE10
 refine zat (fun _ hE11 => zaw (zbj (vs := [(zab a.Negative), a_v]) zar rfl ti57 rfl ((hL11.ext hE11).at 2 rfl rfl) rfl rfl (er rfl))) ?_
 refine zat (fun _ hE12 => zaw (zbj (vs := [(zab b.Negative), b_v]) zar rfl ti57 rfl ((hL11.ext hE12).at 1 rfl rfl) rfl rfl (er rfl))) ?_
 refine zdq ?_ ?_
 ·
  rintro w14 Z21 hE13 hZ12 ⟨-⟩
  have K12 := ke hL11 hE13
  refine zaw (zay en134 rfl rfl (bNeg_w N b b_v _ Any ((((((b_h.mono (K4 S)).mono (K9 S)).mono (K10 S)).mono (K11 S)).mono (K12 S)).mono vw_any) r10 q10) ?_)
  rintro _ w15 hE14 ⟨v10, rfl, k10, -⟩
  exact zdf hE14 hZ12 zco (fun _ h => h) ⟨v10, rfl, (k10.mono zdr), trivial⟩
 intro z2
 refine zcx ?_
 rintro w16 Z23 hE15 hZ13 ⟨⟨⟨v10, rfl, k10, -⟩, hB2⟩, -⟩ ap10
 have hB10 := @zhb w11 Z23
 replace k10 := k10.mono (zdw hL11 hZ13 hB10)
 obtain ⟨hL14, K13⟩ := zl hL11 hE15
 obtain ⟨r11, q11, h⟩ := zec h
 have f10 := (((((a_h.mono (K4 S)).mono (K9 S)).mono (K10 S)).mono (K11 S)).mono (K13 S))
 refine zag (zay en155 rfl rfl (bAdd_w N a r10 a_v v10 _ Any (f10.mono vw_any) (k10.mono vw_any) r11 q11) ?_)
 rintro _ w17 hE16 ⟨v11, rfl, k11, -⟩
 replace k11 := k11.mono (zbu (S := None) hL14 [])
 have hL15 := hL14.ext hE16
 refine zcf (zbo (vs := [(zab r11.Negative), v11]) ti57 rfl rfl rfl rfl (zee rfl (zee k11.one zej)) hL15 0 rfl rfl (zae rfl) ?_)
 intro w18 (hL16 : vL w w18 [some b10, some b6, some b1] [zac [(zab r11.Negative), v11], zac [(zab b.Negative), b_v], zac [(zab a.Negative), a_v]]) hS12
 have K14 := ks w hS12
 refine zan (zbi ?_)
 obtain rfl := zah h
 refine ⟨[(zap #[(zab r11.Negative), v11])], ⟨⟨⟨b10, 0, none⟩, rfl, zeo zar rfl ti57 (hL16.at 0 rfl rfl) rfl⟩, trivial⟩, ⟨_, rfl, hL16.done, ?_⟩⟩
 have f11 := (k11.mono (K14 None))
 exact ⟨v11, rfl, (f11.mono zea), trivial⟩
theorem bMul_w (N : Nat) (a : Big) (b : Big) (a_v : Value) (b_v : Value) (w : World) (S : Nat → Prop) (a_h : Rs (rInt .u32) (vH w S [] w) a_v a.Digits) (b_h : Rs (rInt .u32) (vH w S [] w) b_v b.Digits) (r : Big) (h : bMul N a b = some r) :
  Calls Tryz.prog 156 #[(zap #[(zab a.Negative), a_v]), (zap #[(zab b.Negative), b_v])] w (Ret w (fun v w' => ∃ (v0_0 : Value), (zap #[(zab r.Negative), v0_0]) = v ∧ Rs (rInt .u32) (vH w None [] w') v0_0 r.Digits ∧ True)) := by
 unfold bMul at h
 have hL : vL w w [] [] := Go.X.Loc.begin0 w
 refine calls_of (l := [(zap #[(zab a.Negative), a_v]), (zap #[(zab b.Negative), b_v])]) (rl := [.cell 4 57]) (n := 16) Tryz.func156 rfl rfl rfl (zae rfl) ?_
 refine zaj (zaf rfl (zag (zdj (cs := [(zab a.Negative), a_v]) rfl rfl hL ?_)))
 intro b1 w2 hL3 hS5
 have K4 := ks w hS5
 refine zag (zdj (cs := [(zab b.Negative), b_v]) rfl rfl hL3 ?_)
 intro b6 w7 hL8 hS10
 have K9 := ks w hS10
 refine zag (zbw (cs := [zF, zN]) ti57 rfl hL8 ?_)
 intro b10 w10 hL10 hS11
 have K10 := ks w hS11
 refine zan (zaj ?_)
 obtain ⟨r10, q10, h⟩ := zec h
 refine zcj 10 [] [] (fun W1 => [.det (zal (some ⟨b1, 0, none⟩)), .det (zab a.Negative), .det (zal (some ⟨b6, 0, none⟩)), .det (zab b.Negative), .det (zab (!(a.Negative == b.Negative))), .det (zal (some ⟨b1, 1, none⟩)), .det a_v, .det (zal (some ⟨b6, 1, none⟩)), .det b_v, .rel (fun v Z w' => ∃ ob10 cap10 cs10 sp10, (zO ob10 r10 cap10) = v ∧ OwnC w' ob10 (zac ([] ++ (cs10 ++ sp10))) ∧ Els (rInt .u32) (vZ W1 w None [some b10, some b6, some b1] Z w') cs10 r10 ∧ (cs10 ++ sp10 : List Value).length = cap10 * (rInt .u32).sz ∧ True) footV]) mixed rfl rfl rfl (fun _ => rfl) (fun _ => rfl) ?_ ?_
 ·
  intro W1 _
  exact ⟨fun v Z Z' w w' hΦ hz _ _ hs => by obtain ⟨ob10, cap10, cs10, sp10, rfl, hO10, hE10, hc10, -⟩ := hΦ; exact ⟨ob10, cap10, cs10, sp10, rfl, (hO10.stay (fun b hb => (zep (ob := ob10) (o := 0) (n := r10.length) (cap := cap10)).2 (by rw [hb]; exact zbm)) hs), (hE10.mono (zdo hz hs)), hc10, trivial⟩, trivial⟩
 intro w11 hE11
 obtain ⟨hL11, K11⟩ := zl hL10 hE11
 refine zat (fun _ _ => zaw (zam zar rfl ti4 rfl rfl rfl (er rfl))) ?_
 refine zat (fun _ hE13 => zaw (zau zcd rfl rfl ((hL11.ext hE13).at 2 rfl rfl) rfl (er rfl))) ?_
 refine zat (fun _ _ => zaw (zam zar rfl ti4 rfl rfl rfl (er rfl))) ?_
 refine zat (fun _ hE15 => zaw (zau zcd rfl rfl ((hL11.ext hE15).at 1 rfl rfl) rfl (er rfl))) ?_
 refine zat (fun _ _ => zaw (OpY.neqBool zcd rfl rfl (er rfl))) ?_
 refine zat (fun _ _ => zaw (zam zar rfl ti55 rfl rfl rfl (er rfl))) ?_
 refine zat (fun _ hE18 => zaw (zau zas rfl rfl ((hL11.ext hE18).at 2 rfl rfl) rfl (er rfl))) ?_
 refine zat (fun _ _ => zaw (zam zar rfl ti55 rfl rfl rfl (er rfl))) ?_
 refine zat (fun _ hE20 => zaw (zau zas rfl rfl ((hL11.ext hE20).at 1 rfl rfl) rfl (er rfl))) ?_
 refine zdq ?_ ?_
 ·
  rintro w21 Z29 hE21 hZ19 ⟨-⟩
  have K12 := ke hL11 hE21
  refine zaw (zay en173 rfl rfl (btimes_w N a.Digits b.Digits a_v b_v _ Any ((((((a_h.mono (K4 S)).mono (K9 S)).mono (K10 S)).mono (K11 S)).mono (K12 S)).mono vw_any) ((((((b_h.mono (K4 S)).mono (K9 S)).mono (K10 S)).mono (K11 S)).mono (K12 S)).mono vw_any) r10 q10) ?_)
  rintro _ w22 hE22 ⟨ob10, cap10, cs10, sp10, rfl, hN10, hE10, hc10, -⟩
  exact zdf hE22 hZ19 hN10 (fun b hb => footV_osv.1 hb) ⟨ob10, cap10, cs10, sp10, rfl, hN10.2.2.1, (hE10.mono zdr), hc10, trivial⟩
 intro z9
 refine zcx ?_
 rintro w23 Z30 hE23 hZ20 ⟨⟨⟨ob10, cap10, cs10, sp10, rfl, hO10, hE10, hc10, -⟩, hB9⟩, -⟩ ap10
 have hB10 : ∀ b, some b ∈ ([ob10] : List (Option Nat)) → w11.heap.size ≤ b ∧ ¬ Z30 b := by
  intro b hb
  rcases List.mem_cons.1 hb with hb' | hb
  ·
   have := hB9 b ((zep (ob := ob10) (o := 0) (n := r10.length) (cap := cap10)).2 (by rw [hb']; exact zbm)); exact ⟨this.1, this.2.2⟩
  cases hb
 replace hE10 := hE10.mono (zdw hL11 hZ20 hB10)
 have hN11 : NewOwn w11 w23 [ob10] [zac ([] ++ (cs10 ++ sp10))] := (zdt zco hO10 (fun b hb => (hB10 b (by rw [← hb]; simp)).1) (fun b _ hb => by cases hb))
 have hp10 := hL11.adoptL hE23 hN11
 have hL16 := hp10.1
 obtain ⟨r11, q11, h⟩ := zec h
 refine zag (zay en160 rfl rfl (bnormal_w N (!(a.Negative == b.Negative)) r10 (zO ob10 r10 cap10) _ Any (zel (pre := []) (o := 0) (n := r10.length) (cap := cap10) (hL16.at 0 rfl rfl) hE10 vw_any rfl rfl rfl hc10) r11 q11) ?_)
 rintro _ w24 hE24 ⟨v10, rfl, k10, -⟩
 replace k10 := k10.mono (zbu (S := None) hL16 [])
 have hL17 := hL16.ext hE24
 refine zcf (zbo (vs := [(zab r11.Negative), v10]) ti57 rfl rfl rfl rfl (zee rfl (zee k10.one zej)) hL17 1 rfl rfl (zae rfl) ?_)
 intro w25 (hL18 : vL w w25 [ob10, some b10, some b6, some b1] [zac ([] ++ (cs10 ++ sp10)), zac [(zab r11.Negative), v10], zac [(zab b.Negative), b_v], zac [(zab a.Negative), a_v]]) hS12
 have K13 := ks w hS12
 refine zan (zbi ?_)
 obtain rfl := zah h
 refine ⟨[(zap #[(zab r11.Negative), v10])], ⟨⟨⟨b10, 0, none⟩, rfl, zeo zar rfl ti57 (hL18.at 1 rfl rfl) rfl⟩, trivial⟩, ⟨_, rfl, hL18.done, ?_⟩⟩
 have f10 := (k10.mono (K13 None))
 exact ⟨v10, rfl, (f10.mono zea), trivial⟩
theorem bDivFloor_w (N : Nat) (a : Big) (b : Big) (a_v : Value) (b_v : Value) (w : World) (S : Nat → Prop) (a_h : Rs (rInt .u32) (vH w S [] w) a_v a.Digits) (b_h : Rs (rInt .u32) (vH w S [] w) b_v b.Digits) (r : (Big × Big × Bool)) (h : bDivFloor N a b = some r) :
  Calls Tryz.prog 157 #[(zap #[(zab a.Negative), a_v]), (zap #[(zab b.Negative), b_v])] w (Ret w (fun v w' => ∃ (v0_0 : Value) (v1_0 : Value), .tuple #[(zap #[(zab r.1.Negative), v0_0]), (zap #[(zab r.2.1.Negative), v1_0]), (zab r.2.2)] = v ∧ Rs (rInt .u32) (vH w None [] w') v0_0 r.1.Digits ∧ Rs (rInt .u32) (vH w None [] w') v1_0 r.2.1.Digits ∧ True)) := by
 unfold bDivFloor at h
 have hL : vL w w [] [] := Go.X.Loc.begin0 w
 refine calls_of (l := [(zap #[(zab a.Negative), a_v]), (zap #[(zab b.Negative), b_v])]) (rl := [.cell 4 57, .cell 5 57, .tmp 6]) (n := 54) Tryz.func157 rfl rfl rfl (zae rfl) ?_
 refine zaj (zaf rfl (zag (zdj (cs := [(zab a.Negative), a_v]) rfl rfl hL ?_)))
 intro b1 w2 hL3 hS5
 have K4 := ks w hS5
 refine zag (zdj (cs := [(zab b.Negative), b_v]) rfl rfl hL3 ?_)
 intro b6 w7 hL8 hS10
 have K9 := ks w hS10
 refine zag (zbw (cs := [zF, zN]) ti57 rfl hL8 ?_)
 intro b10 w10 hL10 hS11
 have K10 := ks w hS11
 refine zag (zbw (cs := [zF, zN]) ti57 rfl hL10 ?_)
 intro b11 w11 hL11 hS12
 have K11 := ks w hS12
 refine zag (zak (v := zF) rfl ?_)
 refine zan (zaj ?_)
 obtain ⟨r10, q10, h⟩ := zec h
 refine zcj 3 [] [] (fun W1 => [.det (zap #[(zab a.Negative), a_v]), .rel (fun v Z w' => ∃ v10, (zap #[(zab r10.Negative), v10]) = v ∧ Rs (rInt .u32) (vZ W1 w None [some b11, some b10, some b6, some b1] Z w') v10 r10.Digits ∧ True) (fun _ => []), .det (zap #[(zab b.Negative), b_v])]) mixed rfl rfl rfl (fun _ => rfl) (fun _ => rfl) ?_ ?_
 ·
  intro W1 _
  exact ⟨fun v Z Z' w w' hΦ hz _ _ hs => by obtain ⟨v10, rfl, k10, -⟩ := hΦ; exact ⟨v10, rfl, (k10.mono (zdo hz hs)), trivial⟩, trivial⟩
 intro w12 hE10
 obtain ⟨hL12, K12⟩ := zl hL11 hE10
 refine zat (fun _ hE11 => zaw (zbj (vs := [(zab a.Negative), a_v]) zar rfl ti57 rfl ((hL12.ext hE11).at 3 rfl rfl) rfl rfl (er rfl))) ?_
 refine zdq ?_ ?_
 ·
  rintro w14 Z20 hE12 hZ11 ⟨-⟩
  have K13 := ke hL12 hE12
  refine zaw (zay en159 rfl rfl (bNormal_w N a a_v _ Any (((((((a_h.mono (K4 S)).mono (K9 S)).mono (K10 S)).mono (K11 S)).mono (K12 S)).mono (K13 S)).mono vw_any) r10 q10) ?_)
  rintro _ w15 hE13 ⟨v10, rfl, k10, -⟩
  exact zdf hE13 hZ11 zco (fun _ h => h) ⟨v10, rfl, (k10.mono zdr), trivial⟩
 intro z1
 refine zat (fun _ hE14 => zaw (zbj (vs := [(zab b.Negative), b_v]) zar rfl ti57 rfl ((hL12.ext hE14).at 2 rfl rfl) rfl rfl (er rfl))) ?_
 refine zcx ?_
 rintro w17 Z23 hE15 hZ13 ⟨⟨⟨v10, rfl, k10, -⟩, hB1⟩, -⟩ ap10
 have hB10 := @zhb w12 Z23
 replace k10 := k10.mono (zdw hL12 hZ13 hB10)
 obtain ⟨hL15, K14⟩ := zl hL12 hE15
 obtain ⟨r11, q11, h⟩ := zec h
 have f10 := ((((((b_h.mono (K4 S)).mono (K9 S)).mono (K10 S)).mono (K11 S)).mono (K12 S)).mono (K14 S))
 refine zag (zay en159 rfl rfl (bNormal_w N b b_v _ Any (f10.mono vw_any) r11 q11) ?_)
 rintro _ w18 hE16 ⟨v11, rfl, k11, -⟩
 replace k11 := k11.mono (zbu (S := None) hL15 [])
 obtain ⟨hL16, K15⟩ := zl hL15 hE16
 have f11 := (k10.mono (K15 None))
 refine zcf (zbo (vs := [(zab r10.Negative), v10]) ti57 rfl rfl rfl rfl (zee rfl (zee f11.one zej)) hL16 3 rfl rfl (zae rfl) ?_)
 intro w19 (hL17 : vL w w19 [some b11, some b10, some b6, some b1] [zac [zF, zN], zac [zF, zN], zac [(zab b.Negative), b_v], zac [(zab r10.Negative), v10]]) hS13
 have K16 := ks w hS13
 have f12 := (k11.mono (K16 None))
 refine zcf (zbo (vs := [(zab r11.Negative), v11]) ti57 rfl rfl rfl rfl (zee rfl (zee f12.one zej)) hL17 2 rfl rfl (zae rfl) ?_)
 intro w20 (hL18 : vL w w20 [some b11, some b10, some b6, some b1] [zac [zF, zN], zac [zF, zN], zac [(zab r11.Negative), v11], zac [(zab r10.Negative), v10]]) hS14
 have K17 := ks w hS14
 refine zan (zaj (zaj (zaf rfl (zag (zam (q := 1) zar rfl ti55 rfl rfl rfl ?_)))))
 refine zag (zau (v := v11) zas rfl rfl (hL18.at 2 rfl rfl) rfl ?_)
 have f13 := (f12.mono (K17 None))
 refine zag (zbc (v := v11) zas rfl f13 ?_)
 refine zag (zdp (x := (r11.Digits.length : Int)) (y := 0) (((r11.Digits.length : Int) : Int) = 0) rfl rfl zbd (zan ?_))
 refine zba (((r11.Digits.length : Int) : Int) = 0) rfl (fun hc10 => ?_) (fun hc10 => ?_)
 ·
  replace h := ite_t hc10 h
  refine zaj (zaf rfl (zag (zcc (zc := [zF, zN]) (cs := [zF, zN]) (is := []) (vs := []) (css := []) pl57 ti57 rfl rfl rfl trivial rfl ?_)))
  refine zag (zcc (zc := [zF, zN]) (cs := [zF, zN]) (is := []) (vs := []) (css := []) pl57 ti57 rfl rfl rfl trivial rfl ?_)
  refine zcf (zbo (vs := [zF, zN]) ti57 rfl rfl rfl rfl (zee rfl (zee rfl zej)) hL18 1 rfl rfl (zae rfl) ?_)
  intro w21 (hL19 : vL w w21 [some b11, some b10, some b6, some b1] [zac [zF, zN], zac [zF, zN], zac [(zab r11.Negative), v11], zac [(zab r10.Negative), v10]]) hS15
  refine zcf (zbo (vs := [zF, zN]) ti57 rfl rfl rfl rfl (zee rfl (zee rfl zej)) hL19 0 rfl rfl (zae rfl) ?_)
  intro w22 (hL20 : vL w w22 [some b11, some b10, some b6, some b1] [zac [zF, zN], zac [zF, zN], zac [(zab r11.Negative), v11], zac [(zab r10.Negative), v10]]) hS16
  refine zag (zak (v := zF) rfl ?_)
  refine zan (zbi ?_)
  obtain rfl := zah h
  refine ⟨[(zap #[zF, zN]), (zap #[zF, zN]), zF], ⟨⟨⟨b10, 0, none⟩, rfl, zeo zar rfl ti57 (hL20.at 1 rfl rfl) rfl⟩, ⟨⟨⟨b11, 0, none⟩, rfl, zeo zar rfl ti57 (hL20.at 0 rfl rfl) rfl⟩, zrt⟩⟩, ⟨_, rfl, hL20.done, ?_⟩⟩
  exact ⟨zN, zN, rfl, zdk, zdk, trivial⟩
 replace h := ite_f hc10 h
 refine zbf (zaj (zaf rfl (zag (zam (q := 1) zar rfl ti55 rfl rfl rfl ?_))))
 refine zag (zau (v := v10) zas rfl rfl (hL18.at 3 rfl rfl) rfl ?_)
 refine zag (zam (q := 1) zar rfl ti55 rfl rfl rfl ?_)
 refine zag (zau (v := v11) zas rfl rfl (hL18.at 2 rfl rfl) rfl ?_)
 obtain ⟨r12, q12, h⟩ := zec h
 have f14 := ((f11.mono (K16 None)).mono (K17 None))
 refine zag (zay en174 rfl rfl (bdivide_w N r10.Digits r11.Digits v10 v11 _ Any (f14.mono vw_any) (f13.mono vw_any) r12 q12) ?_)
 rintro _ w23 hE17 ⟨ob10, cap10, cs10, sp10, ob11, cap11, cs11, sp11, rfl, hN10, hE18, hc11, hE19, hc12, -⟩
 replace hE18 := hE18.mono (zbu (S := None) hL18 [ob10, ob11])
 replace hE19 := hE19.mono (zbu (S := None) hL18 [ob10, ob11])
 have hp10 := hL18.adoptL hE17 hN10
 have hL21 := hp10.1
 have K18 := ks w hp10.2
 refine zag (zai (v := (Value.tuple #[(zO ob10 r12.1 cap10), (zO ob11 r12.2 cap11)])) rfl ?_)
 refine zag (zdb (vs := [(zO ob10 r12.1 cap10), (zO ob11 r12.2 cap11)]) (v := (zO ob10 r12.1 cap10)) rfl rfl ?_)
 refine zag (zdb (vs := [(zO ob10 r12.1 cap10), (zO ob11 r12.2 cap11)]) (v := (zO ob11 r12.2 cap11)) rfl rfl ?_)
 refine zag (zak (v := (zO ob10 r12.1 cap10)) rfl ?_)
 refine zag (zak (v := (zO ob11 r12.2 cap11)) rfl ?_)
 refine zan (zaj (zaj (zaf rfl (zag (zam (q := 0) zar rfl ti4 rfl rfl rfl ?_)))))
 refine zag (zau (v := (zab r10.Negative)) zcd rfl rfl (hL21.at 5 rfl rfl) rfl ?_)
 refine zag (zam (q := 0) zar rfl ti4 rfl rfl rfl ?_)
 refine zag (zau (v := (zab r11.Negative)) zcd rfl rfl (hL21.at 4 rfl rfl) rfl ?_)
 refine zag (OpY.neqBool (x := r10.Negative) (y := r11.Negative) zcd rfl rfl (zan ?_))
 refine zcq (!(r10.Negative == r11.Negative)) rfl (fun hc13 => ?_) (fun hc13 => ?_)
 ·
  replace h := ite_t hc13 h
  refine zaj (zaj (zaf rfl (zag (zai (v := (zO ob11 r12.2 cap11)) rfl ?_))))
  refine zag (OpY.lenRow (pre := []) (r := (rInt .u32)) (xs := r12.2) zas rfl (hL21.at 1 rfl rfl) hE19 rfl rfl ?_)
  refine zag (OpY.gtr (x := (r12.2.length : Int)) (y := 0) (((r12.2.length : Int) : Int) > 0) rfl rfl zbd (zan ?_))
  obtain ⟨s10, h, g10⟩ := zec h
  refine zbs (fun e w' => ∃ (q13 : (List Int)) (x10 : (List Int)) (ob12 : Option Nat) (cap12 : Nat) (sp12 : List Value) (cs12 : List Value) (ln10 : Nat) (ob13 : Option Nat) (cap13 : Nat) (sp13 : List Value) (cs13 : List Value) (ln11 : Nat) (u : Env), (q13, x10) = s10 ∧ e = upds [(3, (zal (some ⟨b6, 0, none⟩))), (4, (zal (some ⟨b10, 0, none⟩))), (5, (zal (some ⟨b11, 0, none⟩))), (7, (osv ob12 0 ln10 cap12)), (8, (osv ob13 0 ln11 cap13))] u ∧ vL w w' [some b6, some b10, some b11, ob12, ob13] [zac [(zab r11.Negative), v11], zac [zF, zN], zac [zF, zN], zac ([] ++ (cs12 ++ sp12)), zac ([] ++ (cs13 ++ sp13))] ∧ Keep w.heap.size [ob10, ob11, some b11, some b10, some b6, some b1] w23 [some b6, some b10, some b11, ob12, ob13] w' ∧ Els (rInt .u32) (vH w None [some b6, some b10, some b11, ob12, ob13] w') cs12 q13 ∧ ln10 = List.length q13 ∧ (cs12 ++ sp12).length = cap12 * (rInt .u32).sz ∧ Els (rInt .u32) (vH w None [some b6, some b10, some b11, ob12, ob13] w') cs13 x10 ∧ ln11 = List.length x10 ∧ (cs13 ++ sp13).length = cap13 * (rInt .u32).sz ∧ True) ?_ ?_
  ·
   refine zba (((r12.2.length : Int) : Int) > 0) rfl (fun hc14 => ?_) (fun hc14 => ?_)
   ·
    replace h := ite_t hc14 h
    refine zaj (zaf rfl (zag (zai (v := (zO ob10 r12.1 cap10)) rfl ?_)))
    have hE20 : Els (rInt .u32) (vH w None [ob10, ob11, some b11, some b10, some b6, some b1] w23) [(zaa .u32 1)] [1] := (zcp (a := [(zaa .u32 1)]) rfl zcm)
    refine zag (zch (r := (rInt .u32)) (vs := [(zaa .u32 1)]) (css := [[(zaa .u32 1)]]) (xs := [1]) zas ti177 (zae rfl) rfl rfl ⟨rfl, rfl, trivial⟩ (zae rfl) hE20 rfl hL21 ?_)
    intro b12 w24 hc15 hL22 hS17
    have K19 := ks w hS17
    obtain ⟨r13, q14, h⟩ := zec h
    have f15 := (hE18.mono (K19 None))
    have f16 := (hE20.mono (K19 None))
    refine zag (zay en170 rfl rfl (bplus_w N r12.1 [1] (zO ob10 r12.1 cap10) (osv (some b12) 0 1 1) _ Any (zel (pre := []) (o := 0) (n := r12.1.length) (cap := cap10) (hL22.at 1 rfl rfl) f15 vw_any rfl rfl rfl hc11) (zel (pre := []) (o := 0) (n := 1) (cap := 1) (hL22.at 0 rfl rfl) f16 vw_any rfl rfl rfl hc15) r13 q14) ?_)
    rintro _ w25 hE21 ⟨ob14, cap14, cs14, sp14, rfl, hN11, hE22, hc16, -⟩
    replace hE22 := hE22.mono (zbu (S := None) hL22 [ob14])
    have hp11 := hL22.adoptL hE21 hN11
    have hL23 := hp11.1
    have K20 := ks w hp11.2
    refine zag (zak (v := (zO ob14 r13 cap14)) rfl ?_)
    refine zan (zaf rfl (zag (zam (q := 1) zar rfl ti55 rfl rfl rfl ?_)))
    refine zag (zau (v := v11) zas rfl rfl (hL23.at 6 rfl rfl) rfl ?_)
    refine zag (zai (v := (zO ob11 r12.2 cap11)) rfl ?_)
    obtain ⟨r14, q15, h⟩ := zec h
    have f17 := (((f13.mono (K18 None)).mono (K19 None)).mono (K20 None))
    have f18 := ((hE19.mono (K19 None)).mono (K20 None))
    refine zag (zay en172 rfl rfl (bminus_w N r11.Digits r12.2 v11 (zO ob11 r12.2 cap11) _ Any (f17.mono vw_any) (zel (pre := []) (o := 0) (n := r12.2.length) (cap := cap11) (hL23.at 3 rfl rfl) f18 vw_any rfl rfl rfl hc12) r14 q15) ?_)
    rintro _ w26 hE23 ⟨ob15, cap15, cs15, sp15, rfl, hN12, hE24, hc17, -⟩
    replace hE24 := hE24.mono (zbu (S := None) hL23 [ob15])
    have hp12 := hL23.adoptL hE23 hN12
    have hL24 := hp12.1
    have K21 := ks w hp12.2
    refine zag (zak (v := (zO ob15 r14 cap15)) rfl (zan ?_))
    have hp13 := hL24.pick [7, 6, 5, 1, 0] rfl rfl rfl
    have hL25 : vL w w26 [some b6, some b10, some b11, ob14, ob15] [zac [(zab r11.Negative), v11], zac [zF, zN], zac [zF, zN], zac ([] ++ (cs14 ++ sp14)), zac ([] ++ (cs15 ++ sp15))] := hp13.1
    have K22 := ks w hp13.2
    have f19 := ((hE22.mono (K21 None)).mono (K22 None))
    have f20 := (hE24.mono (K22 None))
    obtain rfl := zah h
    refine zaq ?_
    exact ⟨r13, r14, ob14, cap14, sp14, cs14, r13.length, ob15, cap15, sp15, cs15, r14.length, _, rfl, (zeg ⟨rfl, rfl, rfl, rfl, rfl, trivial⟩), hL25, (zao (zao (zao K19 K20) K21) K22), f19, rfl, hc16, f20, rfl, hc17, trivial⟩
   replace h := ite_f hc14 h
   refine zbf ?_
   have hp14 := hL21.pick [4, 3, 2, 0, 1] rfl rfl rfl
   have hL26 : vL w w23 [some b6, some b10, some b11, ob10, ob11] [zac [(zab r11.Negative), v11], zac [zF, zN], zac [zF, zN], zac ([] ++ (cs10 ++ sp10)), zac ([] ++ (cs11 ++ sp11))] := hp14.1
   have K23 := ks w hp14.2
   have f21 := (hE18.mono (K23 None))
   have f22 := (hE19.mono (K23 None))
   obtain rfl := zah h
   refine zaq ?_
   exact ⟨r12.1, r12.2, ob10, cap10, sp10, cs10, r12.1.length, ob11, cap11, sp11, cs11, r12.2.length, _, rfl, (zeg ⟨rfl, rfl, rfl, rfl, rfl, trivial⟩), hL26, K23, f21, rfl, hc11, f22, rfl, hc12, trivial⟩
  rintro _ w27 ⟨q13, x10, ob12, cap12, sp12, cs12, ln10, ob13, cap13, sp13, cs13, ln11, u, rfl, rfl, hL27, K24, hE25, rfl, hc18, hE26, rfl, hc19, -⟩
  replace h := g10
  try dsimp only at h
  refine zaj ?_
  obtain ⟨r15, q16, h⟩ := zec h
  refine zcj 5 [] [] (fun W1 => [.det (zO ob12 q13 cap12), .rel (fun v Z w' => ∃ v12, (zap #[(zab r15.Negative), v12]) = v ∧ Rs (rInt .u32) (vZ W1 w None [some b6, some b10, some b11, ob12, ob13] Z w') v12 r15.Digits ∧ True) (fun _ => []), .det (zal (some ⟨b6, 0, none⟩)), .det (zab r11.Negative), .det (zO ob13 x10 cap13)]) mixed rfl rfl rfl (fun _ => rfl) (fun _ => rfl) ?_ ?_
  ·
   intro W1 _
   exact ⟨fun v Z Z' w w' hΦ hz _ _ hs => by obtain ⟨v12, rfl, k12, -⟩ := hΦ; exact ⟨v12, rfl, (k12.mono (zdo hz hs)), trivial⟩, trivial⟩
  intro w28 hE27
  obtain ⟨hL28, K25⟩ := zl hL27 hE27
  refine zat (fun _ _ => zaw (zai rfl (er rfl))) ?_
  refine zdq ?_ ?_
  ·
   rintro w30 Z25 hE29 hZ15 ⟨-⟩
   obtain ⟨hL29, K26⟩ := zl hL28 hE29
   refine zaw (zay en160 rfl rfl (bnormal_w N true q13 (zO ob12 q13 cap12) _ Any (zel (pre := []) (o := 0) (n := q13.length) (cap := cap12) (hL29.at 3 rfl rfl) ((hE25.mono (K25 None)).mono (K26 None)) vw_any rfl rfl rfl hc18) r15 q16) ?_)
   rintro _ w31 hE30 ⟨v12, rfl, k12, -⟩
   exact zdf hE30 hZ15 zco (fun _ h => h) ⟨v12, rfl, (k12.mono zdr), trivial⟩
  intro z1
  refine zat (fun _ _ => zaw (zam zar rfl ti4 rfl rfl rfl (er rfl))) ?_
  refine zat (fun _ hE32 => zaw (zau zcd rfl rfl ((hL28.ext hE32).at 0 rfl rfl) rfl (er rfl))) ?_
  refine zat (fun _ _ => zaw (zai rfl (er rfl))) ?_
  refine zcx ?_
  rintro w35 Z29 hE34 hZ19 ⟨⟨⟨v12, rfl, k12, -⟩, hB1⟩, -⟩ ap11
  have hB11 := @zhb w28 Z29
  replace k12 := k12.mono (zdw hL28 hZ19 hB11)
  obtain ⟨hL31, K27⟩ := zl hL28 hE34
  obtain ⟨r16, q17, h⟩ := zec h
  have f23 := ((hE26.mono (K25 None)).mono (K27 None))
  refine zag (zay en160 rfl rfl (bnormal_w N r11.Negative x10 (zO ob13 x10 cap13) _ Any (zel (pre := []) (o := 0) (n := x10.length) (cap := cap13) (hL31.at 4 rfl rfl) f23 vw_any rfl rfl rfl hc19) r16 q17) ?_)
  rintro _ w36 hE35 ⟨v13, rfl, k13, -⟩
  replace k13 := k13.mono (zbu (S := None) hL31 [])
  obtain ⟨hL32, K28⟩ := zl hL31 hE35
  have f24 := (k12.mono (K28 None))
  refine zcf (zbo (vs := [(zab r15.Negative), v12]) ti57 rfl rfl rfl rfl (zee rfl (zee f24.one zej)) hL32 1 rfl rfl (zae rfl) ?_)
  intro w37 (hL33 : vL w w37 [some b6, some b10, some b11, ob12, ob13] [zac [(zab r11.Negative), v11], zac [(zab r15.Negative), v12], zac [zF, zN], zac ([] ++ (cs12 ++ sp12)), zac ([] ++ (cs13 ++ sp13))]) hS18
  have K29 := ks w hS18
  have f25 := (k13.mono (K29 None))
  refine zcf (zbo (vs := [(zab r16.Negative), v13]) ti57 rfl rfl rfl rfl (zee rfl (zee f25.one zej)) hL33 2 rfl rfl (zae rfl) ?_)
  intro w38 (hL34 : vL w w38 [some b6, some b10, some b11, ob12, ob13] [zac [(zab r11.Negative), v11], zac [(zab r15.Negative), v12], zac [(zab r16.Negative), v13], zac ([] ++ (cs12 ++ sp12)), zac ([] ++ (cs13 ++ sp13))]) hS19
  have K30 := ks w hS19
  refine zag (zak (v := zT) rfl ?_)
  refine zan (zbi ?_)
  obtain rfl := zah h
  refine ⟨[(zap #[(zab r15.Negative), v12]), (zap #[(zab r16.Negative), v13]), zT], ⟨⟨⟨b10, 0, none⟩, rfl, zeo zar rfl ti57 (hL34.at 1 rfl rfl) rfl⟩, ⟨⟨⟨b11, 0, none⟩, rfl, zeo zar rfl ti57 (hL34.at 2 rfl rfl) rfl⟩, zrt⟩⟩, ⟨_, rfl, hL34.done, ?_⟩⟩
  have f26 := ((f24.mono (K29 None)).mono (K30 None))
  have f27 := (f25.mono (K30 None))
  exact ⟨v12, v13, rfl, (f26.mono zea), (f27.mono zea), trivial⟩
 replace h := ite_f hc13 h
 refine zbf (zaj ?_)
 obtain ⟨r17, q18, h⟩ := zec h
 refine zcj 5 [] [] (fun W1 => [.det (zO ob10 r12.1 cap10), .rel (fun v Z w' => ∃ v14, (zap #[(zab r17.Negative), v14]) = v ∧ Rs (rInt .u32) (vZ W1 w None [ob10, ob11, some b11, some b10, some b6, some b1] Z w') v14 r17.Digits ∧ True) (fun _ => []), .det (zal (some ⟨b6, 0, none⟩)), .det (zab r11.Negative), .det (zO ob11 r12.2 cap11)]) mixed rfl rfl rfl (fun _ => rfl) (fun _ => rfl) ?_ ?_
 ·
  intro W1 _
  exact ⟨fun v Z Z' w w' hΦ hz _ _ hs => by obtain ⟨v14, rfl, k14, -⟩ := hΦ; exact ⟨v14, rfl, (k14.mono (zdo hz hs)), trivial⟩, trivial⟩
 intro w39 hE36
 obtain ⟨hL35, K31⟩ := zl hL21 hE36
 refine zat (fun _ _ => zaw (zai rfl (er rfl))) ?_
 refine zdq ?_ ?_
 ·
  rintro w41 Z31 hE38 hZ21 ⟨-⟩
  obtain ⟨hL36, K32⟩ := zl hL35 hE38
  refine zaw (zay en160 rfl rfl (bnormal_w N false r12.1 (zO ob10 r12.1 cap10) _ Any (zel (pre := []) (o := 0) (n := r12.1.length) (cap := cap10) (hL36.at 0 rfl rfl) ((hE18.mono (K31 None)).mono (K32 None)) vw_any rfl rfl rfl hc11) r17 q18) ?_)
  rintro _ w42 hE39 ⟨v14, rfl, k14, -⟩
  exact zdf hE39 hZ21 zco (fun _ h => h) ⟨v14, rfl, (k14.mono zdr), trivial⟩
 intro z1
 refine zat (fun _ _ => zaw (zam zar rfl ti4 rfl rfl rfl (er rfl))) ?_
 refine zat (fun _ hE41 => zaw (zau zcd rfl rfl ((hL35.ext hE41).at 4 rfl rfl) rfl (er rfl))) ?_
 refine zat (fun _ _ => zaw (zai rfl (er rfl))) ?_
 refine zcx ?_
 rintro w46 Z35 hE43 hZ25 ⟨⟨⟨v14, rfl, k14, -⟩, hB1⟩, -⟩ ap12
 have hB12 := @zhb w39 Z35
 replace k14 := k14.mono (zdw hL35 hZ25 hB12)
 obtain ⟨hL38, K33⟩ := zl hL35 hE43
 obtain ⟨r18, q19, h⟩ := zec h
 have f28 := ((hE19.mono (K31 None)).mono (K33 None))
 refine zag (zay en160 rfl rfl (bnormal_w N r11.Negative r12.2 (zO ob11 r12.2 cap11) _ Any (zel (pre := []) (o := 0) (n := r12.2.length) (cap := cap11) (hL38.at 1 rfl rfl) f28 vw_any rfl rfl rfl hc12) r18 q19) ?_)
 rintro _ w47 hE44 ⟨v15, rfl, k15, -⟩
 replace k15 := k15.mono (zbu (S := None) hL38 [])
 obtain ⟨hL39, K34⟩ := zl hL38 hE44
 have f29 := (k14.mono (K34 None))
 refine zcf (zbo (vs := [(zab r17.Negative), v14]) ti57 rfl rfl rfl rfl (zee rfl (zee f29.one zej)) hL39 3 rfl rfl (zae rfl) ?_)
 intro w48 (hL40 : vL w w48 [ob10, ob11, some b11, some b10, some b6, some b1] [zac ([] ++ (cs10 ++ sp10)), zac ([] ++ (cs11 ++ sp11)), zac [zF, zN], zac [(zab r17.Negative), v14], zac [(zab r11.Negative), v11], zac [(zab r10.Negative), v10]]) hS20
 have K35 := ks w hS20
 have f30 := (k15.mono (K35 None))
 refine zcf (zbo (vs := [(zab r18.Negative), v15]) ti57 rfl rfl rfl rfl (zee rfl (zee f30.one zej)) hL40 2 rfl rfl (zae rfl) ?_)
 intro w49 (hL41 : vL w w49 [ob10, ob11, some b11, some b10, some b6, some b1] [zac ([] ++ (cs10 ++ sp10)), zac ([] ++ (cs11 ++ sp11)), zac [(zab r18.Negative), v15], zac [(zab r17.Negative), v14], zac [(zab r11.Negative), v11], zac [(zab r10.Negative), v10]]) hS21
 have K36 := ks w hS21
 refine zag (zak (v := zT) rfl ?_)
 refine zan (zbi ?_)
 obtain rfl := zah h
 refine ⟨[(zap #[(zab r17.Negative), v14]), (zap #[(zab r18.Negative), v15]), zT], ⟨⟨⟨b10, 0, none⟩, rfl, zeo zar rfl ti57 (hL41.at 3 rfl rfl) rfl⟩, ⟨⟨⟨b11, 0, none⟩, rfl, zeo zar rfl ti57 (hL41.at 2 rfl rfl) rfl⟩, zrt⟩⟩, ⟨_, rfl, hL41.done, ?_⟩⟩
 have f31 := ((f29.mono (K35 None)).mono (K36 None))
 have f32 := (f30.mono (K36 None))
 exact ⟨v14, v15, rfl, (f31.mono zea), (f32.mono zea), trivial⟩
end Go.Proofs.YtcakdidcpoolcaaGreatDoor.WB

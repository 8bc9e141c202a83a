/- Walks, written by a program of mine (wip/tool); the kernel checks them. -/
import Derived.Test.YtcakdidcpoolcaaGreatDoorProg
import Derived.Test.YtcakdidcpoolcaaGreatDoorSqTexts
import Derived.Test.YtcakdidcpoolcaaGreatDoorF25
import Derived.Test.YtcakdidcpoolcaaGreatDoorA25
import Derived.Test.YtcakdidcpoolcaaGreatDoorPL
import Derived.Test.YtcakdidcpoolcaaGreatDoorWATexts
import Derived.Test.YtcakdidcpoolcaaGreatDoorWRTexts
import Derived.Test.YtcakdidcpoolcaaGreatDoorWBTexts
import Derived.Test.YtcakdidcpoolcaaGreatDoorWCTexts
import Derived.Test.YtcakdidcpoolcaaGreatDoorWITexts
import Derived.Test.YtcakdidcpoolcaaGreatDoorWSTexts
import Derived.Test.YtcakdidcpoolcaaGreatDoorWVTexts
import Derived.Test.YtcakdidcpoolcaaGreatDoorWUTexts
set_option maxRecDepth 100000
set_option maxHeartbeats 40000000
set_option linter.unusedVariables false
set_option linter.unusedSimpArgs false
namespace Go.Proofs.YtcakdidcpoolcaaGreatDoor.WL
open Go Go.RowKit Go.X Go.D Go.Proofs.YtcakdidcpoolcaaGreatDoor.WF Go.Proofs.YtcakdidcpoolcaaGreatDoor.WA Go.Proofs.YtcakdidcpoolcaaGreatDoor.WR Go.Proofs.YtcakdidcpoolcaaGreatDoor.WB Go.Proofs.YtcakdidcpoolcaaGreatDoor.WC Go.Proofs.YtcakdidcpoolcaaGreatDoor.WI Go.Proofs.YtcakdidcpoolcaaGreatDoor.WS Go.Proofs.YtcakdidcpoolcaaGreatDoor.WV Go.Proofs.YtcakdidcpoolcaaGreatDoor.WU
theorem en52 : Go.X.Enters Tryz.prog 52 := ⟨Tryz.f52, Tryz.func52, by kernel_rfl, by kernel_rfl⟩
theorem pl83 : placesT Tryz.prog 83 = some [(0, 1), (1, 1), (2, 1), (3, 1), (4, 1)] := by kernel_rfl
theorem pl29 : placesT Tryz.prog 29 = some [(0, 1), (1, 1), (2, 1), (3, 1), (4, 1), (5, 1), (6, 1)] := by kernel_rfl
theorem en21 : Go.X.Enters Tryz.prog 21 := ⟨Tryz.f21, Tryz.func21, by kernel_rfl, by kernel_rfl⟩
theorem pl94 : placesT Tryz.prog 94 = some [(0, 1), (1, 2)] := by kernel_rfl
theorem pl97 : placesT Tryz.prog 97 = some [(0, 1), (1, 2)] := by kernel_rfl
theorem pl70 : placesT Tryz.prog 70 = some [(0, 1), (1, 1), (2, 2), (4, 1)] := by kernel_rfl
theorem pl73 : placesT Tryz.prog 73 = some [(0, 1), (1, 1), (2, 1), (3, 5), (8, 1)] := by kernel_rfl
theorem en29 : Go.X.Enters Tryz.prog 29 := ⟨Tryz.f29, Tryz.func29, by kernel_rfl, by kernel_rfl⟩
theorem en33 : Go.X.Enters Tryz.prog 33 := ⟨Tryz.f33, Tryz.func33, by kernel_rfl, by kernel_rfl⟩
theorem ti22 : TI Tryz.prog 22 1 24 zN := zeo (by kernel_rfl)
theorem en35 : Go.X.Enters Tryz.prog 35 := ⟨Tryz.f35, Tryz.func35, by kernel_rfl, by kernel_rfl⟩
theorem en36 : Go.X.Enters Tryz.prog 36 := ⟨Tryz.f36, Tryz.func36, by kernel_rfl, by kernel_rfl⟩
theorem en37 : Go.X.Enters Tryz.prog 37 := ⟨Tryz.f37, Tryz.func37, by kernel_rfl, by kernel_rfl⟩
theorem en38 : Go.X.Enters Tryz.prog 38 := ⟨Tryz.f38, Tryz.func38, by kernel_rfl, by kernel_rfl⟩
theorem en18 : Go.X.Enters Tryz.prog 18 := ⟨Tryz.f18, Tryz.func18, by kernel_rfl, by kernel_rfl⟩
theorem en48 : Go.X.Enters Tryz.prog 48 := ⟨Tryz.f48, Tryz.func48, by kernel_rfl, by kernel_rfl⟩
theorem en10 : Go.X.Enters Tryz.prog 10 := ⟨Tryz.f10, Tryz.func10, by kernel_rfl, by kernel_rfl⟩
theorem ti33 : TI Tryz.prog 33 10 240 (zar #[zN, zN, zN, zN, zN, zN, zN, zN, zN, zN]) := zeo (by kernel_rfl)
theorem en11 : Go.X.Enters Tryz.prog 11 := ⟨Tryz.f11, Tryz.func11, by kernel_rfl, by kernel_rfl⟩
theorem en16 : Go.X.Enters Tryz.prog 16 := ⟨Tryz.f16, Tryz.func16, by kernel_rfl, by kernel_rfl⟩
theorem en17 : Go.X.Enters Tryz.prog 17 := ⟨Tryz.f17, Tryz.func17, by kernel_rfl, by kernel_rfl⟩
theorem eqA2_54 : EqA2 Tryz.prog 54 := ⟨by kernel_rfl, 3, .i64, _, _, by kernel_rfl, by kernel_rfl, by kernel_rfl, ti3⟩
theorem eqS_112 : EqS Tryz.prog 112 [(false, some (.int .i64), 0), (false, some (.int .i64), 1), (false, some .bool, 2), (false, some .string, 3)] := ⟨⟨by kernel_rfl, by kernel_rfl, by kernel_rfl⟩, by kernel_rfl⟩
theorem lbig_w (N : Nat) (n : Int)  (w : World) (S : Nat → Prop)  (r : Big) (h : lbig N n = some r) :
  Calls Tryz.prog 21 #[(zI n)] w (Ret w (fun v w' => ∃ (v0_0 : Value), (zar #[(zab r.Negative), v0_0]) = v ∧ Rs (rInt .u32) (vH w None [] w') v0_0 r.Digits ∧ True)) := by
 unfold lbig at h
 have hL : vL w w [] [] := Go.X.Loc.begin0 w
 refine calls_of (l := [(zI n)]) (rl := [.cell 2 57]) (n := 5) Tryz.func21 rfl rfl rfl (zaf rfl) ?_
 refine zal (zah rfl (zag (zcj (cs := [zF, zN]) ti57 rfl hL ?_)))
 intro b1 w2 hL3 hS5
 refine zap (zal (zah rfl (zag (zai (v := (zI n)) rfl ?_))))
 obtain ⟨r6, q7, h⟩ := zes h
 refine zag (zbc en52 rfl rfl (rOf_w N n _ Any r6 q7) ?_)
 rintro _ w10 hE10 ⟨v8, rfl, k9, -⟩
 replace k9 := k9.mono (zch (S := None) hL3 [])
 have hL10 := hL3.ext hE10
 refine zcq (zbq (vs := [(zab r6.Negative), v8]) ti57 rfl rfl rfl rfl (zet rfl (zet k9.one zew)) hL10 0 rfl rfl (zaf rfl) ?_)
 intro w11 (hL11 : vL w w11 [some b1] [zac [(zab r6.Negative), v8]]) hS10
 have K10 := ks w hS10
 refine zap (zbl ?_)
 obtain rfl := zae h
 refine ⟨[(zar #[(zab r6.Negative), v8])], ⟨⟨⟨b1, 0, none⟩, rfl, zfd zav rfl ti57 (hL11.at 0 rfl rfl) rfl⟩, trivial⟩, ⟨_, rfl, hL11.done, ?_⟩⟩
 have f10 := (k9.mono (K10 None))
 exact ⟨v8, rfl, (f10.mono Hv.out), trivial⟩
theorem awake_w0 (N : Nat)   (w : World) (S : Nat → Prop)  (r : Bool) (h : awake N  = some r) (hr : r = true) :
  Calls Tryz.prog 10 #[] w (Ret w (fun v w' => (zab r) = v ∧ True)) := by
 unfold awake at h
 have hL : vL w w [] [] := Go.X.Loc.begin0 w
 refine calls_of (l := []) (rl := [.tmp 0]) (n := 59) Tryz.func10 rfl rfl rfl (zaf rfl) ?_
 refine zal (zah rfl (zag (zam (v := zF) rfl ?_)))
 refine zap (zal (zah rfl (zag (zcz (zc := [(zI 0), (zI 0), (zI 0), (zI 0), zF]) (cs := [(zI 1), (zI (-9)), (zI 9), (zI 0), zF]) (is := [0, 1, 2]) (vs := [(zI 1), (zI (-9)), (zI 9)]) (css := [[(zI 1)], [(zI (-9))], [(zI 9)]]) pl83 ti83 rfl rfl rfl ⟨rfl, rfl, rfl, trivial⟩ rfl ?_))))
 have hE2 : Els rRVar (vH w None [] w) [(zI 1), (zI (-9)), (zI 9), (zI 0), zF] [(RVar.mk 1 (-9) 9 0 false)] := (zdg (a := [(zI 1), (zI (-9)), (zI 9), (zI 0), zF]) (rRVar_close ⟨rfl, trivial⟩) zcx)
 refine zag (zcv (r := rRVar) (vs := [(zar #[(zI 1), (zI (-9)), (zI 9), (zI 0), zF])]) (css := [[(zI 1), (zI (-9)), (zI 9), (zI 0), zF]]) (xs := [(RVar.mk 1 (-9) 9 0 false)]) zbt ti83 (zaf rfl) rfl rfl ⟨rfl, rfl, trivial⟩ (zaf rfl) hE2 rfl hL ?_)
 intro b1 w5 hc3 hL6 hS8
 have K7 := ks w hS8
 refine zag (zam (v := (osv (some b1) 0 1 1)) rfl ?_)
 refine zap (zal (zah rfl ?_))
 have hE10 : Els rI (vH w None [some b1] w5) [(zI 0)] [0] := (zdg (a := [(zI 0)]) rfl zcx)
 refine zag (zcv (r := rI) (vs := [(zI 0)]) (css := [[(zI 0)]]) (xs := [0]) zaw ti3 (zaf rfl) rfl rfl ⟨rfl, rfl, trivial⟩ (zaf rfl) hE10 rfl hL6 ?_)
 intro b9 w10 hc10 hL10 hS10
 have K10 := ks w hS10
 refine zag (zcz (zc := [(zI 0), (zI 0)]) (cs := [(zI 0), (zI 2)]) (is := [0, 1]) (vs := [(zI 0), (zI 2)]) (css := [[(zI 0)], [(zI 2)]]) pl87 ti87 rfl rfl rfl ⟨rfl, rfl, trivial⟩ rfl ?_)
 have hE11 : Els rCoef (vH w None [some b9, some b1] w10) [(zI 0), (zI 2)] [(Coef.mk 0 2)] := (zdg (a := [(zI 0), (zI 2)]) (rCoef_close ⟨rfl, trivial⟩) zcx)
 refine zag (zcv (r := rCoef) (vs := [(zar #[(zI 0), (zI 2)])]) (css := [[(zI 0), (zI 2)]]) (xs := [(Coef.mk 0 2)]) zbp ti87 (zaf rfl) rfl rfl ⟨rfl, rfl, trivial⟩ (zaf rfl) hE11 rfl hL10 ?_)
 intro b10 w11 hc11 hL11 hS11
 have K11 := ks w hS11
 refine zag (zcz (zc := [(zI 0), zN]) (cs := [(zI (-5)), (osv (some b10) 0 1 1)]) (is := [0, 1]) (vs := [(zI (-5)), (osv (some b10) 0 1 1)]) (css := [[(zI (-5))], [(osv (some b10) 0 1 1)]]) pl90 ti90 rfl rfl rfl ⟨rfl, ⟨(zfa (zez _ _ _ _)), trivial⟩⟩ rfl ?_)
 refine zag (zcz (zc := [(zI 0), zN, zF]) (cs := [(zI (-5)), (osv (some b10) 0 1 1), zT]) (is := [0, 1]) (vs := [(zar #[(zI (-5)), (osv (some b10) 0 1 1)]), zT]) (css := [[(zI (-5)), (osv (some b10) 0 1 1)], [zT]]) pl92 ti92 rfl rfl rfl ⟨rfl, rfl, trivial⟩ rfl ?_)
 have f10 := (hE11.mono (K11 None))
 have f11 := hL11.freezeRow 0 rfl rfl f10 rfl rfl rfl hc11
 have hp10 := hL11.pick [1, 2] rfl rfl rfl
 have hL12 : vL w w11 [some b9, some b1] [zac ([] ++ ([(zI 0)] ++ [])), zac ([] ++ ([(zI 1), (zI (-9)), (zI 9), (zI 0), zF] ++ []))] := hp10.1
 have K12 := ks w hp10.2
 have hE12 : Els rConstraint (vH w None [some b9, some b1] w11) [(zI (-5)), (osv (some b10) 0 1 1), zT] [(Constraint.mk (Linear.mk (-5) [(Coef.mk 0 2)]) true)] := (zdg (a := [(zI (-5)), (osv (some b10) 0 1 1), zT]) (rConstraint_close ⟨(osv (some b10) 0 1 1), rfl, f11, trivial⟩) zcx)
 refine zag (zcv (r := rConstraint) (vs := [(zar #[(zI (-5)), (osv (some b10) 0 1 1), zT])]) (css := [[(zI (-5)), (osv (some b10) 0 1 1), zT]]) (xs := [(Constraint.mk (Linear.mk (-5) [(Coef.mk 0 2)]) true)]) zco ti92 (zaf rfl) rfl rfl ⟨rfl, rfl, trivial⟩ (zaf rfl) hE12 rfl hL12 ?_)
 intro b11 w12 hc12 hL13 hS12
 have K13 := ks w hS12
 refine zag (zcz (zc := [zN, zN, zN, zN, zN, zN, zN]) (cs := [zN, (osv (some b9) 0 1 1), zN, (osv (some b11) 0 1 1), zN, zN, zN]) (is := [1, 3]) (vs := [(osv (some b9) 0 1 1), (osv (some b11) 0 1 1)]) (css := [[(osv (some b9) 0 1 1)], [(osv (some b11) 0 1 1)]]) pl29 ti29 rfl rfl rfl ⟨(zfa (zez (some b9) 0 1 1)), ⟨(zfa (zez (some b11) 0 1 1)), trivial⟩⟩ rfl ?_)
 refine zag (zcj (cs := [zN, zN, zN, zN, zN, zN, zN]) ti29 rfl hL13 ?_)
 intro b12 w13 hL14 hS13
 have K14 := ks w hS13
 refine zcq (zbq (vs := [zN, (osv (some b9) 0 1 1), zN, (osv (some b11) 0 1 1), zN, zN, zN]) ti29 rfl rfl rfl rfl (zet rfl (zet (zez (some b9) 0 1 1) (zet rfl (zet (zez (some b11) 0 1 1) (zet rfl (zet rfl (zet rfl zew))))))) hL14 0 rfl rfl (zaf rfl) ?_)
 intro w14 (hL15 : vL w w14 [some b12, some b11, some b9, some b1] [zac [zN, (osv (some b9) 0 1 1), zN, (osv (some b11) 0 1 1), zN, zN, zN], zac ([] ++ ([(zI (-5)), (osv (some b10) 0 1 1), zT] ++ [])), zac ([] ++ ([(zI 0)] ++ [])), zac ([] ++ ([(zI 1), (zI (-9)), (zI 9), (zI 0), zF] ++ []))]) hS14
 have K15 := ks w hS14
 refine zap (zal (zah rfl ?_))
 obtain ⟨r10, q10, h⟩ := zes h
 refine zag (zbc en21 rfl rfl (lbig_w N 1 _ Any r10 q10) ?_)
 rintro _ w15 hE13 ⟨v10, rfl, k10, -⟩
 replace k10 := k10.mono (zch (S := None) hL15 [])
 obtain ⟨hL16, K16⟩ := zl hL15 hE13
 refine zag (zcz (zc := [(zI 0), zF, zN]) (cs := [(zI 2), (zab r10.Negative), v10]) (is := [0, 1]) (vs := [(zI 2), (zar #[(zab r10.Negative), v10])]) (css := [[(zI 2)], [(zab r10.Negative), v10]]) pl94 ti94 rfl rfl rfl ⟨rfl, rfl, trivial⟩ rfl ?_)
 have hE14 : Els rUse (vH w None [some b12, some b11, some b9, some b1] w15) [(zI 2), (zab r10.Negative), v10] [(Use.mk 2 r10)] := (zdg (a := [(zI 2), (zab r10.Negative), v10]) (rUse_close ⟨v10, rfl, k10, trivial⟩) zcx)
 refine zag (zcv (r := rUse) (vs := [(zar #[(zI 2), (zab r10.Negative), v10])]) (css := [[(zI 2), (zab r10.Negative), v10]]) (xs := [(Use.mk 2 r10)]) Tryz.underlying95 ti94 (zaf rfl) rfl rfl ⟨rfl, rfl, trivial⟩ (zaf rfl) hE14 rfl hL16 ?_)
 intro b13 w16 hc13 hL17 hS15
 have K17 := ks w hS15
 obtain ⟨r11, q11, h⟩ := zes h
 refine zag (zbc en21 rfl rfl (lbig_w N 2 _ Any r11 q11) ?_)
 rintro _ w17 hE15 ⟨v11, rfl, k11, -⟩
 replace k11 := k11.mono (zch (S := None) hL17 [])
 obtain ⟨hL18, K18⟩ := zl hL17 hE15
 refine zag (zcz (zc := [zN, zF, zN]) (cs := [(osv (some b13) 0 1 1), (zab r11.Negative), v11]) (is := [0, 1]) (vs := [(osv (some b13) 0 1 1), (zar #[(zab r11.Negative), v11])]) (css := [[(osv (some b13) 0 1 1)], [(zab r11.Negative), v11]]) pl97 ti97 rfl rfl rfl ⟨(zfa (zez _ _ _ _)), zrt⟩ rfl ?_)
 obtain ⟨r12, q12, h⟩ := zes h
 refine zag (zbc en21 rfl rfl (lbig_w N 1 _ Any r12 q12) ?_)
 rintro _ w18 hE16 ⟨v12, rfl, k12, -⟩
 replace k12 := k12.mono (zch (S := None) hL18 [])
 obtain ⟨hL19, K19⟩ := zl hL18 hE16
 refine zag (zcz (zc := [(zI 0), zF, zN]) (cs := [(zI 3), (zab r12.Negative), v12]) (is := [0, 1]) (vs := [(zI 3), (zar #[(zab r12.Negative), v12])]) (css := [[(zI 3)], [(zab r12.Negative), v12]]) pl94 ti94 rfl rfl rfl ⟨rfl, rfl, trivial⟩ rfl ?_)
 have hE17 : Els rUse (vH w None [some b13, some b12, some b11, some b9, some b1] w18) [(zI 3), (zab r12.Negative), v12] [(Use.mk 3 r12)] := (zdg (a := [(zI 3), (zab r12.Negative), v12]) (rUse_close ⟨v12, rfl, k12, trivial⟩) zcx)
 refine zag (zcv (r := rUse) (vs := [(zar #[(zI 3), (zab r12.Negative), v12])]) (css := [[(zI 3), (zab r12.Negative), v12]]) (xs := [(Use.mk 3 r12)]) Tryz.underlying95 ti94 (zaf rfl) rfl rfl ⟨rfl, rfl, trivial⟩ (zaf rfl) hE17 rfl hL19 ?_)
 intro b14 w19 hc14 hL20 hS16
 have K20 := ks w hS16
 obtain ⟨r13, q13, h⟩ := zes h
 refine zag (zbc en21 rfl rfl (lbig_w N 2 _ Any r13 q13) ?_)
 rintro _ w20 hE18 ⟨v13, rfl, k13, -⟩
 replace k13 := k13.mono (zch (S := None) hL20 [])
 obtain ⟨hL21, K21⟩ := zl hL20 hE18
 refine zag (zcz (zc := [zN, zF, zN]) (cs := [(osv (some b14) 0 1 1), (zab r13.Negative), v13]) (is := [0, 1]) (vs := [(osv (some b14) 0 1 1), (zar #[(zab r13.Negative), v13])]) (css := [[(osv (some b14) 0 1 1)], [(zab r13.Negative), v13]]) pl97 ti97 rfl rfl rfl ⟨(zfa (zez _ _ _ _)), zrt⟩ rfl ?_)
 obtain ⟨r14, q14, h⟩ := zes h
 refine zag (zbc en21 rfl rfl (lbig_w N 1 _ Any r14 q14) ?_)
 rintro _ w21 hE19 ⟨v14, rfl, k14, -⟩
 replace k14 := k14.mono (zch (S := None) hL21 [])
 obtain ⟨hL22, K22⟩ := zl hL21 hE19
 refine zag (zcz (zc := [(zI 0), zF, zN]) (cs := [(zI 4), (zab r14.Negative), v14]) (is := [0, 1]) (vs := [(zI 4), (zar #[(zab r14.Negative), v14])]) (css := [[(zI 4)], [(zab r14.Negative), v14]]) pl94 ti94 rfl rfl rfl ⟨rfl, rfl, trivial⟩ rfl ?_)
 obtain ⟨r15, q15, h⟩ := zes h
 refine zag (zbc en21 rfl rfl (lbig_w N 1 _ Any r15 q15) ?_)
 rintro _ w22 hE20 ⟨v15, rfl, k15, -⟩
 replace k15 := k15.mono (zch (S := None) hL22 [])
 obtain ⟨hL23, K23⟩ := zl hL22 hE20
 refine zag (zcz (zc := [(zI 0), zF, zN]) (cs := [(zI 5), (zab r15.Negative), v15]) (is := [0, 1]) (vs := [(zI 5), (zar #[(zab r15.Negative), v15])]) (css := [[(zI 5)], [(zab r15.Negative), v15]]) pl94 ti94 rfl rfl rfl ⟨rfl, rfl, trivial⟩ rfl ?_)
 have f12 := (k14.mono (K23 None))
 have hE21 : Els rUse (vH w None [some b14, some b13, some b12, some b11, some b9, some b1] w22) [(zI 4), (zab r14.Negative), v14, (zI 5), (zab r15.Negative), v15] [(Use.mk 4 r14), (Use.mk 5 r15)] := (zdg (a := [(zI 4), (zab r14.Negative), v14]) (rUse_close ⟨v14, rfl, f12, trivial⟩) (zdg (a := [(zI 5), (zab r15.Negative), v15]) (rUse_close ⟨v15, rfl, k15, trivial⟩) zcx))
 refine zag (zcv (r := rUse) (vs := [(zar #[(zI 4), (zab r14.Negative), v14]), (zar #[(zI 5), (zab r15.Negative), v15])]) (css := [[(zI 4), (zab r14.Negative), v14], [(zI 5), (zab r15.Negative), v15]]) (xs := [(Use.mk 4 r14), (Use.mk 5 r15)]) Tryz.underlying95 ti94 (zaf rfl) rfl rfl ⟨rfl, rfl, ⟨rfl, rfl, trivial⟩⟩ (zaf rfl) hE21 rfl hL23 ?_)
 intro b15 w23 hc15 hL24 hS17
 have K24 := ks w hS17
 obtain ⟨r16, q16, h⟩ := zes h
 refine zag (zbc en21 rfl rfl (lbig_w N 1 _ Any r16 q16) ?_)
 rintro _ w24 hE22 ⟨v16, rfl, k16, -⟩
 replace k16 := k16.mono (zch (S := None) hL24 [])
 obtain ⟨hL25, K25⟩ := zl hL24 hE22
 refine zag (zcz (zc := [zN, zF, zN]) (cs := [(osv (some b15) 0 2 2), (zab r16.Negative), v16]) (is := [0, 1]) (vs := [(osv (some b15) 0 2 2), (zar #[(zab r16.Negative), v16])]) (css := [[(osv (some b15) 0 2 2)], [(zab r16.Negative), v16]]) pl97 ti97 rfl rfl rfl ⟨(zfa (zez _ _ _ _)), zrt⟩ rfl ?_)
 have f13 := (((((((((hE14.mono (K17 None)).mono (K18 None)).mono (K19 None)).mono (K20 None)).mono (K21 None)).mono (K22 None)).mono (K23 None)).mono (K24 None)).mono (K25 None))
 have f14 := hL25.freezeRow 2 rfl rfl f13 rfl rfl rfl hc13
 have hp11 := hL25.pick [0, 1, 3, 4, 5, 6] rfl rfl rfl
 have hL26 : vL w w24 [some b15, some b14, some b12, some b11, some b9, some b1] [zac ([] ++ ([(zI 4), (zab r14.Negative), v14, (zI 5), (zab r15.Negative), v15] ++ [])), zac ([] ++ ([(zI 3), (zab r12.Negative), v12] ++ [])), zac [zN, (osv (some b9) 0 1 1), zN, (osv (some b11) 0 1 1), zN, zN, zN], zac ([] ++ ([(zI (-5)), (osv (some b10) 0 1 1), zT] ++ [])), zac ([] ++ ([(zI 0)] ++ [])), zac ([] ++ ([(zI 1), (zI (-9)), (zI 9), (zI 0), zF] ++ []))] := hp11.1
 have K26 := ks w hp11.2
 have f15 := (((((((hE17.mono (K20 None)).mono (K21 None)).mono (K22 None)).mono (K23 None)).mono (K24 None)).mono (K25 None)).mono (K26 None))
 have f16 := hL26.freezeRow 1 rfl rfl f15 rfl rfl rfl hc14
 have hp12 := hL26.pick [0, 2, 3, 4, 5] rfl rfl rfl
 have hL27 : vL w w24 [some b15, some b12, some b11, some b9, some b1] [zac ([] ++ ([(zI 4), (zab r14.Negative), v14, (zI 5), (zab r15.Negative), v15] ++ [])), zac [zN, (osv (some b9) 0 1 1), zN, (osv (some b11) 0 1 1), zN, zN, zN], zac ([] ++ ([(zI (-5)), (osv (some b10) 0 1 1), zT] ++ [])), zac ([] ++ ([(zI 0)] ++ [])), zac ([] ++ ([(zI 1), (zI (-9)), (zI 9), (zI 0), zF] ++ []))] := hp12.1
 have K27 := ks w hp12.2
 have f17 := ((((hE21.mono (K24 None)).mono (K25 None)).mono (K26 None)).mono (K27 None))
 have f18 := hL27.freezeRow 0 rfl rfl f17 rfl rfl rfl hc15
 have hp13 := hL27.pick [1, 2, 3, 4] rfl rfl rfl
 have hL28 : vL w w24 [some b12, some b11, some b9, some b1] [zac [zN, (osv (some b9) 0 1 1), zN, (osv (some b11) 0 1 1), zN, zN, zN], zac ([] ++ ([(zI (-5)), (osv (some b10) 0 1 1), zT] ++ [])), zac ([] ++ ([(zI 0)] ++ [])), zac ([] ++ ([(zI 1), (zI (-9)), (zI 9), (zI 0), zF] ++ []))] := hp13.1
 have K28 := ks w hp13.2
 have f19 := (((k16.mono (K26 None)).mono (K27 None)).mono (K28 None))
 have f20 := (f16.mono (K28 None))
 have f21 := (((((((k13.mono (K22 None)).mono (K23 None)).mono (K24 None)).mono (K25 None)).mono (K26 None)).mono (K27 None)).mono (K28 None))
 have f22 := ((f14.mono (K27 None)).mono (K28 None))
 have f23 := ((((((((((k11.mono (K19 None)).mono (K20 None)).mono (K21 None)).mono (K22 None)).mono (K23 None)).mono (K24 None)).mono (K25 None)).mono (K26 None)).mono (K27 None)).mono (K28 None))
 have hE23 : Els rStep (vH w None [some b12, some b11, some b9, some b1] w24) [(osv (some b13) 0 1 1), (zab r11.Negative), v11, (osv (some b14) 0 1 1), (zab r13.Negative), v13, (osv (some b15) 0 2 2), (zab r16.Negative), v16] [(Step.mk [(Use.mk 2 r10)] r11), (Step.mk [(Use.mk 3 r12)] r13), (Step.mk [(Use.mk 4 r14), (Use.mk 5 r15)] r16)] := (zdg (a := [(osv (some b13) 0 1 1), (zab r11.Negative), v11]) (rStep_close ⟨(osv (some b13) 0 1 1), v11, rfl, f22, f23, trivial⟩) (zdg (a := [(osv (some b14) 0 1 1), (zab r13.Negative), v13]) (rStep_close ⟨(osv (some b14) 0 1 1), v13, rfl, f20, f21, trivial⟩) (zdg (a := [(osv (some b15) 0 2 2), (zab r16.Negative), v16]) (rStep_close ⟨(osv (some b15) 0 2 2), v16, rfl, f18, f19, trivial⟩) zcx)))
 refine zag (zcv (r := rStep) (vs := [(zar #[(osv (some b13) 0 1 1), (zab r11.Negative), v11]), (zar #[(osv (some b14) 0 1 1), (zab r13.Negative), v13]), (zar #[(osv (some b15) 0 2 2), (zab r16.Negative), v16])]) (css := [[(osv (some b13) 0 1 1), (zab r11.Negative), v11], [(osv (some b14) 0 1 1), (zab r13.Negative), v13], [(osv (some b15) 0 2 2), (zab r16.Negative), v16]]) (xs := [(Step.mk [(Use.mk 2 r10)] r11), (Step.mk [(Use.mk 3 r12)] r13), (Step.mk [(Use.mk 4 r14), (Use.mk 5 r15)] r16)]) Tryz.underlying67 ti97 (zaf rfl) rfl rfl ⟨rfl, rfl, ⟨rfl, rfl, ⟨rfl, rfl, trivial⟩⟩⟩ (zaf rfl) hE23 rfl hL28 ?_)
 intro b16 w25 hc16 hL29 hS18
 have K29 := ks w hS18
 refine zag (zcz (zc := [zN, zN, zF, zN, zN]) (cs := [(osv (some b16) 0 3 3), zN, zF, zN, zN]) (is := [0]) (vs := [(osv (some b16) 0 3 3)]) (css := [[(osv (some b16) 0 3 3)]]) pl70 ti70 rfl rfl rfl ⟨(zfa (zez (some b16) 0 3 3)), trivial⟩ rfl ?_)
 refine zag (zcj (cs := [zN, zN, zF, zN, zN]) ti70 rfl hL29 ?_)
 intro b17 w26 hL30 hS19
 have K30 := ks w hS19
 refine zcq (zbq (vs := [(osv (some b16) 0 3 3), zN, zF, zN, zN]) ti70 rfl rfl rfl rfl (zet (zez (some b16) 0 3 3) (zet rfl (zet rfl (zet rfl (zet rfl zew))))) hL30 0 rfl rfl (zaf rfl) ?_)
 intro w27 (hL31 : vL w w27 [some b17, some b16, some b12, some b11, some b9, some b1] [zac [(osv (some b16) 0 3 3), zN, zF, zN, zN], zac ([] ++ ([(osv (some b13) 0 1 1), (zab r11.Negative), v11, (osv (some b14) 0 1 1), (zab r13.Negative), v13, (osv (some b15) 0 2 2), (zab r16.Negative), v16] ++ [])), zac [zN, (osv (some b9) 0 1 1), zN, (osv (some b11) 0 1 1), zN, zN, zN], zac ([] ++ ([(zI (-5)), (osv (some b10) 0 1 1), zT] ++ [])), zac ([] ++ ([(zI 0)] ++ [])), zac ([] ++ ([(zI 1), (zI (-9)), (zI 9), (zI 0), zF] ++ []))]) hS20
 have K31 := ks w hS20
 refine zap (zal (zah rfl (zag (zbr (vs := [(osv (some b16) 0 3 3), zN, zF, zN, zN]) zdk rfl ti70 rfl (hL31.at 0 rfl rfl) rfl rfl ?_))))
 refine zag (zcz (zc := [(zI 0), (zI 0), (zI 0), zN, zN, zF, zN, zN, zN]) (cs := [(zI 2), (zI 0), (zI 0), (osv (some b16) 0 3 3), zN, zF, zN, zN, zN]) (is := [0, 3]) (vs := [(zI 2), (zar #[(osv (some b16) 0 3 3), zN, zF, zN, zN])]) (css := [[(zI 2)], [(osv (some b16) 0 3 3), zN, zF, zN, zN]]) pl73 ti73 rfl rfl rfl ⟨rfl, rfl, trivial⟩ rfl ?_)
 refine zag (zcj (cs := [(zI 0), (zI 0), (zI 0), zN, zN, zF, zN, zN, zN]) ti73 rfl hL31 ?_)
 intro b18 w28 hL32 hS21
 have K32 := ks w hS21
 refine zcq (zbq (vs := [(zI 2), (zI 0), (zI 0), (osv (some b16) 0 3 3), zN, zF, zN, zN, zN]) ti73 rfl rfl rfl rfl (zet rfl (zet rfl (zet rfl (zet (zez (some b16) 0 3 3) (zet rfl (zet rfl (zet rfl (zet rfl (zet rfl zew))))))))) hL32 0 rfl rfl (zaf rfl) ?_)
 intro w29 (hL33 : vL w w29 [some b18, some b17, some b16, some b12, some b11, some b9, some b1] [zac [(zI 2), (zI 0), (zI 0), (osv (some b16) 0 3 3), zN, zF, zN, zN, zN], zac [(osv (some b16) 0 3 3), zN, zF, zN, zN], zac ([] ++ ([(osv (some b13) 0 1 1), (zab r11.Negative), v11, (osv (some b14) 0 1 1), (zab r13.Negative), v13, (osv (some b15) 0 2 2), (zab r16.Negative), v16] ++ [])), zac [zN, (osv (some b9) 0 1 1), zN, (osv (some b11) 0 1 1), zN, zN, zN], zac ([] ++ ([(zI (-5)), (osv (some b10) 0 1 1), zT] ++ [])), zac ([] ++ ([(zI 0)] ++ [])), zac ([] ++ ([(zI 1), (zI (-9)), (zI 9), (zI 0), zF] ++ []))]) hS22
 have K33 := ks w hS22
 refine zap (zal (zah rfl (zag (zai (v := (osv (some b1) 0 1 1)) rfl ?_))))
 refine zag (zbr (vs := [zN, (osv (some b9) 0 1 1), zN, (osv (some b11) 0 1 1), zN, zN, zN]) zay rfl ti29 rfl (hL33.at 3 rfl rfl) rfl rfl ?_)
 refine zag (zbr (vs := [(zI 2), (zI 0), (zI 0), (osv (some b16) 0 3 3), zN, zF, zN, zN, zN]) zdb rfl ti73 rfl (hL33.at 0 rfl rfl) rfl rfl ?_)
 obtain ⟨r17, q17, h⟩ := zes h
 have f24 := (((((((((((((((((((((((((hE2.mono (K7 None)).mono (K10 None)).mono (K11 None)).mono (K12 None)).mono (K13 None)).mono (K14 None)).mono (K15 None)).mono (K16 None)).mono (K17 None)).mono (K18 None)).mono (K19 None)).mono (K20 None)).mono (K21 None)).mono (K22 None)).mono (K23 None)).mono (K24 None)).mono (K25 None)).mono (K26 None)).mono (K27 None)).mono (K28 None)).mono (K29 None)).mono (K30 None)).mono (K31 None)).mono (K32 None)).mono (K33 None))
 have f25 := ((((((((((((((((((((((((hE10.mono (K10 None)).mono (K11 None)).mono (K12 None)).mono (K13 None)).mono (K14 None)).mono (K15 None)).mono (K16 None)).mono (K17 None)).mono (K18 None)).mono (K19 None)).mono (K20 None)).mono (K21 None)).mono (K22 None)).mono (K23 None)).mono (K24 None)).mono (K25 None)).mono (K26 None)).mono (K27 None)).mono (K28 None)).mono (K29 None)).mono (K30 None)).mono (K31 None)).mono (K32 None)).mono (K33 None))
 have f26 := (((((((((((((((((((((hE12.mono (K13 None)).mono (K14 None)).mono (K15 None)).mono (K16 None)).mono (K17 None)).mono (K18 None)).mono (K19 None)).mono (K20 None)).mono (K21 None)).mono (K22 None)).mono (K23 None)).mono (K24 None)).mono (K25 None)).mono (K26 None)).mono (K27 None)).mono (K28 None)).mono (K29 None)).mono (K30 None)).mono (K31 None)).mono (K32 None)).mono (K33 None))
 have f27 := (((((hE23.mono (K29 None)).mono (K30 None)).mono (K31 None)).mono (K32 None)).mono (K33 None))
 refine zag (zbc en29 rfl rfl (vCheck_w N [(RVar.mk 1 (-9) 9 0 false)] (RClause.mk [] [0] [] [(Constraint.mk (Linear.mk (-5) [(Coef.mk 0 2)]) true)] [] [] []) (Refut.mk 2 0 0 (Proof.mk [(Step.mk [(Use.mk 2 r10)] r11), (Step.mk [(Use.mk 3 r12)] r13), (Step.mk [(Use.mk 4 r14), (Use.mk 5 r15)] r16)] [] (Big.mk false []) []) []) (osv (some b1) 0 1 1) zN (osv (some b9) 0 1 1) zN (osv (some b11) 0 1 1) zN zN zN (osv (some b16) 0 3 3) zN zN zN zN _ Any (zey (pre := []) (o := 0) (n := 1) (cap := 1) (hL33.at 6 rfl rfl) f24 vw_any rfl rfl rfl hc3) zdz (zey (pre := []) (o := 0) (n := 1) (cap := 1) (hL33.at 5 rfl rfl) f25 vw_any rfl rfl rfl hc10) zdz (zey (pre := []) (o := 0) (n := 1) (cap := 1) (hL33.at 4 rfl rfl) f26 vw_any rfl rfl rfl hc12) zdz zdz zdz (zey (pre := []) (o := 0) (n := 3) (cap := 3) (hL33.at 2 rfl rfl) f27 vw_any rfl rfl rfl hc16) zdz zdz zdz zdz r17 q17) ?_)
 rintro _ w30 hE24 ⟨rfl, -⟩
 obtain ⟨hL34, K34⟩ := zl hL33 hE24
 refine zag (zai (v := (zab r17)) rfl ?_)
 by_cases hc17 : r17 = true
 ·
  replace h := ite_t hc17 h
  refine zba rfl rfl hc17 (zbr (vs := [(zI 2), (zI 0), (zI 0), (osv (some b16) 0 3 3), zN, zF, zN, zN, zN]) zdb rfl ti73 rfl (hL34.at 0 rfl rfl) rfl rfl ?_)
  obtain ⟨r18, q18, h⟩ := zes h
  have f28 := (f27.mono (K34 None))
  refine zba rfl rfl hc17 (zbc en33 rfl rfl (vFormat_w N (Refut.mk 2 0 0 (Proof.mk [(Step.mk [(Use.mk 2 r10)] r11), (Step.mk [(Use.mk 3 r12)] r13), (Step.mk [(Use.mk 4 r14), (Use.mk 5 r15)] r16)] [] (Big.mk false []) []) []) (osv (some b16) 0 3 3) zN zN zN zN _ Any (zey (pre := []) (o := 0) (n := 3) (cap := 3) (hL34.at 2 rfl rfl) f28 vw_any rfl rfl rfl hc16) zdz zdz zdz zdz r18 q18) ?_)
  rintro _ w31 hE25 ⟨rfl, -⟩
  obtain ⟨hL35, K35⟩ := zl hL34 hE25
  refine zba rfl rfl hc17 (OpY.sEql (x := r18) (y := ([105, 110, 116, 101, 103, 101, 114, 115, 32, 51] : List UInt8)) rfl rfl ?_)
  refine zag (zbe (t := r17) (v := (zab (decide (r18 = ([105, 110, 116, 101, 103, 101, 114, 115, 32, 51] : List UInt8))))) rfl hc17 rfl ?_)
  refine zag (zai (v := (zab (decide (r18 = ([105, 110, 116, 101, 103, 101, 114, 115, 32, 51] : List UInt8))))) rfl ?_)
  by_cases hc18 : r18 = ([105, 110, 116, 101, 103, 101, 114, 115, 32, 51] : List UInt8)
  ·
   replace h := ite_t hc18 h
   refine zba rfl rfl (zeq hc18) (zai (v := (osv (some b1) 0 1 1)) rfl ?_)
   have hE26 : Els rI (vH w None [some b18, some b17, some b16, some b12, some b11, some b9, some b1] w31) [(zI 0)] [0] := (zdg (a := [(zI 0)]) rfl zcx)
   refine zba rfl rfl (zeq hc18) (zcv (r := rI) (vs := [(zI 0)]) (css := [[(zI 0)]]) (xs := [0]) zaw ti3 (zaf rfl) rfl rfl ⟨rfl, rfl, trivial⟩ (zaf rfl) hE26 rfl hL35 ?_)
   intro b19 w32 hc19 hL36 hS23
   have K36 := ks w hS23
   refine zba rfl rfl (zeq hc18) (zcz (zc := [zN, zN, zN, zN, zN, zN, zN]) (cs := [(osv (some b19) 0 1 1), zN, zN, zN, zN, zN, zN]) (is := [0]) (vs := [(osv (some b19) 0 1 1)]) (css := [[(osv (some b19) 0 1 1)]]) pl29 ti29 rfl rfl rfl ⟨(zfa (zez (some b19) 0 1 1)), trivial⟩ rfl ?_)
   refine zba rfl rfl (zeq hc18) (zcz (zc := [(zI 0), (zI 0), (zI 0), zN, zN, zF, zN, zN, zN]) (cs := [(zI 0), (zI 0), (zI 0), zN, zN, zF, zN, zN, zN]) (is := []) (vs := []) (css := []) pl73 ti73 rfl rfl rfl trivial rfl ?_)
   obtain ⟨r19, q19, h⟩ := zes h
   have f29 := (((f24.mono (K34 None)).mono (K35 None)).mono (K36 None))
   have f30 := (hE26.mono (K36 None))
   refine zba rfl rfl (zeq hc18) (zbc en29 rfl rfl (vCheck_w N [(RVar.mk 1 (-9) 9 0 false)] (RClause.mk [0] [] [] [] [] [] []) (Refut.mk 0 0 0 (Proof.mk [] [] (Big.mk false []) []) []) (osv (some b1) 0 1 1) (osv (some b19) 0 1 1) zN zN zN zN zN zN zN zN zN zN zN _ Any (zey (pre := []) (o := 0) (n := 1) (cap := 1) (hL36.at 7 rfl rfl) f29 vw_any rfl rfl rfl hc3) (zey (pre := []) (o := 0) (n := 1) (cap := 1) (hL36.at 0 rfl rfl) f30 vw_any rfl rfl rfl hc19) zdz zdz zdz zdz zdz zdz zdz zdz zdz zdz zdz r19 q19) ?_)
   rintro _ w33 hE27 ⟨rfl, -⟩
   obtain ⟨hL37, K37⟩ := zl hL36 hE27
   refine zag (zbe (t := (decide (r18 = ([105, 110, 116, 101, 103, 101, 114, 115, 32, 51] : List UInt8)))) (v := (zab r19)) rfl (zeq hc18) rfl ?_)
   refine zag (zai (v := (zab r19)) rfl ?_)
   by_cases hc20 : r19 = true
   ·
    replace h := ite_t hc20 h
    refine zba rfl rfl hc20 (zai (v := (osv (some b1) 0 1 1)) rfl ?_)
    have hE28 : Els rI (vH w None [some b19, some b18, some b17, some b16, some b12, some b11, some b9, some b1] w33) [(zI 0)] [0] := (zdg (a := [(zI 0)]) rfl zcx)
    refine zba rfl rfl hc20 (zcv (r := rI) (vs := [(zI 0)]) (css := [[(zI 0)]]) (xs := [0]) zaw ti3 (zaf rfl) rfl rfl ⟨rfl, rfl, trivial⟩ (zaf rfl) hE28 rfl hL37 ?_)
    intro b20 w34 hc21 hL38 hS24
    have K38 := ks w hS24
    refine zba rfl rfl hc20 (zcz (zc := [zN, zN, zN, zN, zN, zN, zN]) (cs := [zN, (osv (some b20) 0 1 1), zN, zN, zN, zN, zN]) (is := [1]) (vs := [(osv (some b20) 0 1 1)]) (css := [[(osv (some b20) 0 1 1)]]) pl29 ti29 rfl rfl rfl ⟨(zfa (zez (some b20) 0 1 1)), trivial⟩ rfl ?_)
    refine zba rfl rfl hc20 (zcz (zc := [(zI 0), (zI 0), (zI 0), zN, zN, zF, zN, zN, zN]) (cs := [(zI 0), (zI 0), (zI 0), zN, zN, zF, zN, zN, zN]) (is := []) (vs := []) (css := []) pl73 ti73 rfl rfl rfl trivial rfl ?_)
    obtain ⟨r20, q20, h⟩ := zes h
    have f31 := ((f29.mono (K37 None)).mono (K38 None))
    have f32 := (hE28.mono (K38 None))
    refine zba rfl rfl hc20 (zbc en29 rfl rfl (vCheck_w N [(RVar.mk 1 (-9) 9 0 false)] (RClause.mk [] [0] [] [] [] [] []) (Refut.mk 0 0 0 (Proof.mk [] [] (Big.mk false []) []) []) (osv (some b1) 0 1 1) zN (osv (some b20) 0 1 1) zN zN zN zN zN zN zN zN zN zN _ Any (zey (pre := []) (o := 0) (n := 1) (cap := 1) (hL38.at 8 rfl rfl) f31 vw_any rfl rfl rfl hc3) zdz (zey (pre := []) (o := 0) (n := 1) (cap := 1) (hL38.at 0 rfl rfl) f32 vw_any rfl rfl rfl hc21) zdz zdz zdz zdz zdz zdz zdz zdz zdz zdz r20 q20) ?_)
    rintro _ w35 hE29 ⟨rfl, -⟩
    have hL39 := hL38.ext hE29
    refine zba rfl rfl hc20 (zdy (x := r20) rfl ?_)
    refine zag (zbe (t := r19) (v := (zab (!r20))) rfl hc20 rfl ?_)
    refine zag (zam (v := (zab (!r20))) rfl ?_)
    refine zap (zbl ?_)
    obtain rfl := zae h
    refine ⟨[(zab (!r20))], zrt, ⟨_, rfl, hL39.done, ?_⟩⟩
    exact zrt
   exact absurd ((zae (ite_f hc20 h)).trans hr) Bool.false_ne_true
  exact absurd ((zae (ite_f hc18 h)).trans hr) Bool.false_ne_true
 exact absurd ((zae (ite_f hc17 h)).trans hr) Bool.false_ne_true
theorem awake_w (N : Nat) (w : World) (S : Nat → Prop) (r : Bool) (h : awake N = some r) :
  Calls Tryz.prog 10 #[] w (Ret w (fun v w' => (zab r) = v ∧ True)) := awake_w0 N w S r h (awake_true h)
theorem lright_w (N : Nat) (x : RCase) (x_v : Value) (x_v1 : Value) (x_v2 : Value) (x_v3 : Value) (x_v4 : Value) (x_v5 : Value) (x_v6 : Value) (x_v7 : Value) (x_v8 : Value) (x_v9 : Value) (w : World) (S : Nat → Prop) (x_h : Rs rRVar (vH w S [] w) x_v x.L) (x_h1 : Rs rI (vH w S [] w) x_v1 x.C.Null) (x_h2 : Rs rI (vH w S [] w) x_v2 x.C.NotNull) (x_h3 : Rs rRAux (vH w S [] w) x_v3 x.C.Auxiliary) (x_h4 : Rs rConstraint (vH w S [] w) x_v4 x.C.Ints) (x_h5 : Rs rTTest (vH w S [] w) x_v5 x.C.Tests) (x_h6 : Rs rArr2Int (vH w S [] w) x_v6 x.C.Same) (x_h7 : Rs rArr2Int (vH w S [] w) x_v7 x.C.Different) (x_h8 : Rs rArr2Int (vH w S [] w) x_v8 x.Ranges) (x_h9 : Rs rRVal (vH w S [] w) x_v9 x.R) (r : Bool) (h : lright N x = some r) :
  Calls Tryz.prog 11 #[(zar #[x_v, x_v1, x_v2, x_v3, x_v4, x_v5, x_v6, x_v7, x_v8, x_v9])] w (Ret w (fun v w' => (zab r) = v ∧ True)) := by
 unfold lright at h
 have hL : vL w w [] [] := Go.X.Loc.begin0 w
 refine calls_of (l := [(zar #[x_v, x_v1, x_v2, x_v3, x_v4, x_v5, x_v6, x_v7, x_v8, x_v9])]) (rl := [.tmp 2]) (n := 25) Tryz.func11 rfl rfl rfl (zaf rfl) ?_
 refine zal (zah rfl (zag (zdu (cs := [x_v, x_v1, x_v2, x_v3, x_v4, x_v5, x_v6, x_v7, x_v8, x_v9]) rfl rfl hL ?_)))
 intro b1 w2 hL3 hS5
 have K4 := ks w hS5
 refine zag (zam (v := zF) rfl ?_)
 refine zap (zal (zah rfl (zag (zak (q := 0) zdq rfl ti22 rfl rfl rfl ?_))))
 refine zag (zas (v := x_v) zbt rfl rfl (hL3.at 0 rfl rfl) rfl ?_)
 obtain ⟨r6, q7, h⟩ := zes h
 have f9 := (x_h.mono (K4 S))
 refine zag (zbc en35 rfl rfl (wDomains_w N x.L x_v _ Any (f9.mono vw_any) r6 q7) ?_)
 rintro _ w10 hE10 ⟨rfl, -⟩
 obtain ⟨hL10, K10⟩ := zl hL3 hE10
 refine zag (zai (v := (zab r6)) rfl ?_)
 by_cases hc10 : r6 = true
 ·
  replace h := ite_t hc10 h
  refine zba rfl rfl hc10 (zak (q := 1) zdq rfl ti29 rfl rfl rfl ?_)
  refine zba rfl rfl hc10 (zbr (vs := [x_v1, x_v2, x_v3, x_v4, x_v5, x_v6, x_v7]) zay rfl ti29 rfl (hL10.at 0 rfl rfl) rfl rfl ?_)
  obtain ⟨r10, q10, h⟩ := zes h
  have f10 := ((x_h1.mono (K4 S)).mono (K10 S))
  have f11 := ((x_h2.mono (K4 S)).mono (K10 S))
  have f12 := ((x_h3.mono (K4 S)).mono (K10 S))
  have f13 := ((x_h4.mono (K4 S)).mono (K10 S))
  have f14 := ((x_h5.mono (K4 S)).mono (K10 S))
  have f15 := ((x_h6.mono (K4 S)).mono (K10 S))
  have f16 := ((x_h7.mono (K4 S)).mono (K10 S))
  refine zba rfl rfl hc10 (zbc en36 rfl rfl (sFew_w N x.C x_v1 x_v2 x_v3 x_v4 x_v5 x_v6 x_v7 _ Any (f10.mono vw_any) (f11.mono vw_any) (f12.mono vw_any) (f13.mono vw_any) (f14.mono vw_any) (f15.mono vw_any) (f16.mono vw_any) r10 q10) ?_)
  rintro _ w11 hE11 ⟨rfl, -⟩
  obtain ⟨hL11, K11⟩ := zl hL10 hE11
  refine zag (zbe (t := r6) (v := (zab r10)) rfl hc10 rfl ?_)
  refine zag (zai (v := (zab r10)) rfl ?_)
  by_cases hc11 : r10 = true
  ·
   replace h := ite_t hc11 h
   refine zba rfl rfl hc11 (zak (q := 1) zdq rfl ti29 rfl rfl rfl ?_)
   refine zba rfl rfl hc11 (zbr (vs := [x_v1, x_v2, x_v3, x_v4, x_v5, x_v6, x_v7]) zay rfl ti29 rfl (hL11.at 0 rfl rfl) rfl rfl ?_)
   refine zba rfl rfl hc11 (zak (q := 0) zdq rfl ti22 rfl rfl rfl ?_)
   refine zba rfl rfl hc11 (zas (v := x_v) zbt rfl rfl (hL11.at 0 rfl rfl) rfl ?_)
   obtain ⟨r11, q11, h⟩ := zes h
   have f17 := (f10.mono (K11 S))
   have f18 := (f11.mono (K11 S))
   have f19 := (f12.mono (K11 S))
   have f20 := (f13.mono (K11 S))
   have f21 := (f14.mono (K11 S))
   have f22 := (f15.mono (K11 S))
   have f23 := (f16.mono (K11 S))
   have f24 := ((f9.mono (K10 S)).mono (K11 S))
   refine zba rfl rfl hc11 (zbc en37 rfl rfl (sValid_w N x.C x.L x_v1 x_v2 x_v3 x_v4 x_v5 x_v6 x_v7 x_v _ Any (f17.mono vw_any) (f18.mono vw_any) (f19.mono vw_any) (f20.mono vw_any) (f21.mono vw_any) (f22.mono vw_any) (f23.mono vw_any) (f24.mono vw_any) r11 q11) ?_)
   rintro _ w12 hE12 ⟨rfl, -⟩
   obtain ⟨hL12, K12⟩ := zl hL11 hE12
   refine zag (zbe (t := r10) (v := (zab r11)) rfl hc11 rfl ?_)
   refine zag (zai (v := (zab r11)) rfl ?_)
   by_cases hc12 : r11 = true
   ·
    replace h := ite_t hc12 h
    refine zba rfl rfl hc12 (zak (q := 0) zdq rfl ti22 rfl rfl rfl ?_)
    refine zba rfl rfl hc12 (zas (v := x_v) zbt rfl rfl (hL12.at 0 rfl rfl) rfl ?_)
    refine zba rfl rfl hc12 (zak (q := 8) zdq rfl ti27 rfl rfl rfl ?_)
    refine zba rfl rfl hc12 (zas (v := x_v8) zaz rfl rfl (hL12.at 0 rfl rfl) rfl ?_)
    obtain ⟨r12, q12, h⟩ := zes h
    have f25 := (f24.mono (K12 S))
    have f26 := ((((x_h8.mono (K4 S)).mono (K10 S)).mono (K11 S)).mono (K12 S))
    refine zba rfl rfl hc12 (zbc en38 rfl rfl (wRight_w N x.L x.Ranges x_v x_v8 _ Any (f25.mono vw_any) (f26.mono vw_any) r12 q12) ?_)
    rintro _ w13 hE13 ⟨rfl, -⟩
    have hL13 := hL12.ext hE13
    refine zag (zbe (t := r11) (v := (zab r12)) rfl hc12 rfl ?_)
    refine zag (zam (v := (zab r12)) rfl ?_)
    refine zap (zbl ?_)
    obtain rfl := zae h
    refine ⟨[(zab r12)], zrt, ⟨_, rfl, hL13.done, ?_⟩⟩
    exact zrt
   replace h := ite_f hc12 h
   refine zbb rfl rfl (zer hc12) (zbb rfl rfl (zer hc12) (zbb rfl rfl (zer hc12) (zbb rfl rfl (zer hc12) (zbb rfl rfl (zer hc12) ?_))))
   refine zag (zbn (t := r11) (v := zF) rfl (zer hc12) rfl ?_)
   refine zag (zam (v := zF) rfl ?_)
   refine zap (zbl ?_)
   obtain rfl := zae h
   refine ⟨[zF], zrt, ⟨_, rfl, hL12.done, ?_⟩⟩
   exact zrt
  replace h := ite_f hc11 h
  refine zbb rfl rfl (zer hc11) (zbb rfl rfl (zer hc11) (zbb rfl rfl (zer hc11) (zbb rfl rfl (zer hc11) (zbb rfl rfl (zer hc11) ?_))))
  refine zag (zbn (t := r10) (v := zF) rfl (zer hc11) rfl ?_)
  refine zag (zai (v := zF) rfl ?_)
  refine zbb rfl rfl rfl (zbb rfl rfl rfl (zbb rfl rfl rfl (zbb rfl rfl rfl (zbb rfl rfl rfl ?_))))
  refine zag (zbn (t := false) (v := zF) rfl rfl rfl ?_)
  refine zag (zam (v := zF) rfl ?_)
  refine zap (zbl ?_)
  obtain rfl := zae h
  refine ⟨[zF], zrt, ⟨_, rfl, hL11.done, ?_⟩⟩
  exact zrt
 replace h := ite_f hc10 h
 refine zbb rfl rfl (zer hc10) (zbb rfl rfl (zer hc10) (zbb rfl rfl (zer hc10) ?_))
 refine zag (zbn (t := r6) (v := zF) rfl (zer hc10) rfl ?_)
 refine zag (zai (v := zF) rfl ?_)
 refine zbb rfl rfl rfl (zbb rfl rfl rfl (zbb rfl rfl rfl (zbb rfl rfl rfl (zbb rfl rfl rfl ?_))))
 refine zag (zbn (t := false) (v := zF) rfl rfl rfl ?_)
 refine zag (zai (v := zF) rfl ?_)
 refine zbb rfl rfl rfl (zbb rfl rfl rfl (zbb rfl rfl rfl (zbb rfl rfl rfl (zbb rfl rfl rfl ?_))))
 refine zag (zbn (t := false) (v := zF) rfl rfl rfl ?_)
 refine zag (zam (v := zF) rfl ?_)
 refine zap (zbl ?_)
 obtain rfl := zae h
 refine ⟨[zF], zrt, ⟨_, rfl, hL10.done, ?_⟩⟩
 exact zrt
theorem lints_w (N : Nat) (a : (List Int)) (b : (List Int)) (a_v : Value) (b_v : Value) (w : World) (S : Nat → Prop) (a_h : Rs rI (vH w S [] w) a_v a) (b_h : Rs rI (vH w S [] w) b_v b) (r : Bool) (h : lints N a b = some r) :
  Calls Tryz.prog 18 #[a_v, b_v] w (Ret w (fun v w' => (zab r) = v ∧ True)) := by
 unfold lints at h
 have hL : vL w w [] [] := Go.X.Loc.begin0 w
 refine calls_of (l := [a_v, b_v]) (rl := [.tmp 4]) (n := 26) Tryz.func18 rfl rfl rfl (zaf rfl) ?_
 refine zal (zah rfl (zag (zam (v := zF) rfl ?_)))
 refine zap (zal (zal (zah rfl (zag (zai (v := a_v) rfl ?_)))))
 refine zag (zbg (v := a_v) zaw rfl a_h ?_)
 refine zag (zai (v := b_v) rfl ?_)
 refine zag (zbg (v := b_v) zaw rfl b_h ?_)
 refine zag (zek (x := (a.length : Int)) (y := (b.length : Int)) (((a.length : Int) : Int) ≠ (b.length : Int)) rfl rfl zbd (zap ?_))
 refine zbf (((a.length : Int) : Int) ≠ (b.length : Int)) rfl (fun hc1 => ?_) (fun hc1 => ?_)
 ·
  replace h := ite_t hc1 h
  refine zal (zah rfl (zag (zam (v := zF) rfl ?_)))
  refine zap (zbl ?_)
  obtain rfl := zae h
  refine ⟨[zF], zrt, ⟨_, rfl, hL.done, ?_⟩⟩
  exact zrt
 replace h := ite_f hc1 h
 refine zbk (zal (zal (zah rfl (zag (zai (v := a_v) rfl ?_)))))
 refine zag (zbg (v := a_v) zaw rfl a_h ?_)
 refine zag (zai (v := (zI 0)) rfl (zap ?_))
 obtain ⟨s10, hl10, g10⟩ := zes h
 refine zce (fun e w' => ∃  (u : Env), (Sum.inl ()) = s10 ∧ e = upds [] u ∧ vL w w' [] [] ∧ Keep w.heap.size [] w [] w' ∧ True) ?_ ?_
 ·
  refine zbh ?_
  refine zcr hl10 (fun (ss : Int) (e : Env) (w' : World) => match ss with | x10 => ∃ (u : Env), e = upds [(0, a_v), (1, b_v), (12, (zI (a.length : Int))), (13, (zI x10))] u ∧ vL w w' [] [] ∧ Keep w.heap.size [] w [] w' ∧ True) ⟨_, (zeu ⟨rfl, rfl, rfl, rfl, trivial⟩), hL, zck, trivial⟩ ?_
  rintro x10 oo _ w10 ⟨u, rfl, hL10, K10, -⟩ h hd10
  rw [lints_b1] at h
  refine zal (zah rfl (zag (zcp (x := x10) (y := (a.length : Int)) ((x10 : Int) < (a.length : Int)) rfl rfl zbd ?_)))
  refine zap (zal ?_)
  refine zbf ((x10 : Int) < (a.length : Int)) rfl (fun hc10 => ?_) (fun hc10 => ?_)
  ·
   replace h := ite_t hc10 h
   refine zbk (zal (zbh (zal (zah rfl (zag (zai (v := (zI x10)) rfl ?_))))))
   refine zag (zam (v := (zI x10)) rfl ?_)
   refine zap (zal ?_)
   obtain ⟨x11, n10, q11, q12, -, h⟩ := zix h
   have f10 := (a_h.mono (K10 S))
   obtain ⟨b10, o10, c10, vs10, q13, q14, f11, q15⟩ := zcw f10 q12
   obtain rfl := q15
   obtain ⟨x12, n11, q17, q18, -, h⟩ := zix h
   have f12 := (b_h.mono (K10 S))
   obtain ⟨b11, o11, c11, vs11, q19, q20, f13, q21⟩ := zcw f12 q18
   obtain rfl := q21
   refine zcm 8 [] [] (fun W1 => [.det a_v, .det (zI x10), .det (zaj (some ⟨b10, (o10 + n10 * rI.sz), none⟩)), .det (zI x11), .det b_v, .det (zI x10), .det (zaj (some ⟨b11, (o11 + n11 * rI.sz), none⟩)), .det (zI x12)]) mixed rfl rfl rfl (fun _ => rfl) (fun _ => rfl) ?_ ?_
   ·
    intro W1 _
    exact trivial
   intro w11 hE10
   obtain ⟨hL11, K11⟩ := zl hL10 hE10
   refine zao (fun _ _ => zau (zai rfl (er rfl))) ?_
   refine zao (fun _ _ => zau (zai rfl (er rfl))) ?_
   refine zao (fun _ _ => zau (zbj (r := rI) (v := a_v) (n := n10) (m := (o10 + n10 * rI.sz)) zaw ti3 rfl q13 rfl q11 q12 rfl (er rfl))) ?_
   refine zao (fun _ hE14 => zau (zby zat rfl rfl zex (zcd ((ke hL11 hE14) S) (zcd (K11 S) f11)) (er rfl))) ?_
   refine zao (fun _ _ => zau (zai rfl (er rfl))) ?_
   refine zao (fun _ _ => zau (zai rfl (er rfl))) ?_
   refine zao (fun _ _ => zau (zbj (r := rI) (v := b_v) (n := n11) (m := (o11 + n11 * rI.sz)) zaw ti3 rfl q19 rfl q17 q18 rfl (er rfl))) ?_
   refine zao (fun _ hE18 => zau (zby zat rfl rfl zex (zcd ((ke hL11 hE18) S) (zcd (K11 S) f13)) (er rfl))) ?_
   refine zcy ?_
   rintro w20 Z27 hE19 hZ18 ⟨-⟩ ap10
   have hB10 := @zhb w11 Z27
   obtain ⟨hL12, K14⟩ := zl hL11 hE19
   refine zag (zek (x := x11) (y := x12) ((x11 : Int) ≠ x12) rfl rfl zbd (zap ?_))
   refine zbf ((x11 : Int) ≠ x12) rfl (fun hc11 => ?_) (fun hc11 => ?_)
   ·
    replace h := ite_t hc11 h
    refine zal (zah rfl (zag (zam (v := zF) rfl ?_)))
    refine zap (zbl ?_)
    obtain rfl := zae h
    obtain rfl := hd10 _ rfl
    replace h := g10
    try dsimp only at h
    obtain rfl := zae h
    refine ⟨[zF], zrt, ⟨_, rfl, hL12.done, ?_⟩⟩
    exact zrt
   replace h := ite_f hc11 h
   refine zbk (zbu (zah rfl (zag (zcl (x := x10) (y := 1) (z := (iw (x10 + 1))) rfl rfl rfl ?_))))
   refine zag (zai (v := (zI (iw (x10 + 1)))) rfl (zap ?_))
   obtain rfl := zae h
   refine zaq ⟨(iw (x10 + 1)), rfl, ?_⟩
   exact ⟨_, (zeu ⟨rfl, rfl, rfl, rfl, trivial⟩), hL12, (zan (zan K10 K11) K14), trivial⟩
  replace h := ite_f hc10 h
  refine zda rfl ?_
  obtain rfl := zae h
  obtain rfl := hd10 _ rfl
  replace h := g10
  try dsimp only at h
  refine zaq ?_
  exact ⟨_, rfl, (zeu trivial), hL10, K10, trivial⟩
 rintro _ w21 ⟨u, rfl, rfl, hL13, K15, -⟩
 replace h := g10
 try dsimp only at h
 refine zal (zah rfl (zag (zam (v := zT) rfl ?_)))
 refine zap (zbl ?_)
 obtain rfl := zae h
 refine ⟨[zT], zrt, ⟨_, rfl, hL13.done, ?_⟩⟩
 exact zrt
theorem ltwos_w (N : Nat) (a : (List Arr2Int)) (b : (List Arr2Int)) (a_v : Value) (b_v : Value) (w : World) (S : Nat → Prop) (a_h : Rs rArr2Int (vH w S [] w) a_v a) (b_h : Rs rArr2Int (vH w S [] w) b_v b) (r : Bool) (h : ltwos N a b = some r) :
  Calls Tryz.prog 48 #[a_v, b_v] w (Ret w (fun v w' => (zab r) = v ∧ True)) := by
 unfold ltwos at h
 have hL : vL w w [] [] := Go.X.Loc.begin0 w
 refine calls_of (l := [a_v, b_v]) (rl := [.tmp 4]) (n := 26) Tryz.func48 rfl rfl rfl (zaf rfl) ?_
 refine zal (zah rfl (zag (zam (v := zF) rfl ?_)))
 refine zap (zal (zal (zah rfl (zag (zai (v := a_v) rfl ?_)))))
 refine zag (zbg (v := a_v) zaz rfl a_h ?_)
 refine zag (zai (v := b_v) rfl ?_)
 refine zag (zbg (v := b_v) zaz rfl b_h ?_)
 refine zag (zek (x := (a.length : Int)) (y := (b.length : Int)) (((a.length : Int) : Int) ≠ (b.length : Int)) rfl rfl zbd (zap ?_))
 refine zbf (((a.length : Int) : Int) ≠ (b.length : Int)) rfl (fun hc1 => ?_) (fun hc1 => ?_)
 ·
  replace h := ite_t hc1 h
  refine zal (zah rfl (zag (zam (v := zF) rfl ?_)))
  refine zap (zbl ?_)
  obtain rfl := zae h
  refine ⟨[zF], zrt, ⟨_, rfl, hL.done, ?_⟩⟩
  exact zrt
 replace h := ite_f hc1 h
 refine zbk (zal (zal (zah rfl (zag (zai (v := a_v) rfl ?_)))))
 refine zag (zbg (v := a_v) zaz rfl a_h ?_)
 refine zag (zai (v := (zI 0)) rfl (zap ?_))
 obtain ⟨s10, hl10, g10⟩ := zes h
 refine zce (fun e w' => ∃  (u : Env), (Sum.inl ()) = s10 ∧ e = upds [] u ∧ vL w w' [] [] ∧ Keep w.heap.size [] w [] w' ∧ True) ?_ ?_
 ·
  refine zbh ?_
  refine zcr hl10 (fun (ss : Int) (e : Env) (w' : World) => match ss with | x10 => ∃ (u : Env), e = upds [(0, a_v), (1, b_v), (12, (zI (a.length : Int))), (13, (zI x10))] u ∧ vL w w' [] [] ∧ Keep w.heap.size [] w [] w' ∧ True) ⟨_, (zeu ⟨rfl, rfl, rfl, rfl, trivial⟩), hL, zck, trivial⟩ ?_
  rintro x10 oo _ w10 ⟨u, rfl, hL10, K10, -⟩ h hd10
  rw [ltwos_b1] at h
  refine zal (zah rfl (zag (zcp (x := x10) (y := (a.length : Int)) ((x10 : Int) < (a.length : Int)) rfl rfl zbd ?_)))
  refine zap (zal ?_)
  refine zbf ((x10 : Int) < (a.length : Int)) rfl (fun hc10 => ?_) (fun hc10 => ?_)
  ·
   replace h := ite_t hc10 h
   refine zbk (zal (zbh (zal (zah rfl (zag (zai (v := (zI x10)) rfl ?_))))))
   refine zag (zam (v := (zI x10)) rfl ?_)
   refine zap (zal ?_)
   obtain ⟨x11, n10, q11, q12, -, h⟩ := zix h
   have f10 := (a_h.mono (K10 S))
   obtain ⟨b10, o10, c10, vs10, q13, q14, f11, q15⟩ := zcw f10 q12
   obtain ⟨rfl, -⟩ := rArr2Int_open q15
   obtain ⟨x12, n11, q17, q18, -, h⟩ := zix h
   have f12 := (b_h.mono (K10 S))
   obtain ⟨b11, o11, c11, vs11, q19, q20, f13, q21⟩ := zcw f12 q18
   obtain ⟨rfl, -⟩ := rArr2Int_open q21
   refine zcm 8 [] [] (fun W1 => [.det a_v, .det (zI x10), .det (zaj (some ⟨b10, (o10 + n10 * rArr2Int.sz), none⟩)), .det (zar #[(zI x11.e0), (zI x11.e1)]), .det b_v, .det (zI x10), .det (zaj (some ⟨b11, (o11 + n11 * rArr2Int.sz), none⟩)), .det (zar #[(zI x12.e0), (zI x12.e1)])]) mixed rfl rfl rfl (fun _ => rfl) (fun _ => rfl) ?_ ?_
   ·
    intro W1 _
    exact trivial
   intro w11 hE10
   obtain ⟨hL11, K11⟩ := zl hL10 hE10
   refine zao (fun _ _ => zau (zai rfl (er rfl))) ?_
   refine zao (fun _ _ => zau (zai rfl (er rfl))) ?_
   refine zao (fun _ _ => zau (zbj (r := rArr2Int) (v := a_v) (n := n10) (m := (o10 + n10 * rArr2Int.sz)) zaz ti54 rfl q13 rfl q11 q12 rfl (er rfl))) ?_
   refine zao (fun _ hE14 => zau (zds (vs := [(zI x11.e0), (zI x11.e1)]) zbv rfl ti54 rfl rfl zex (zcd ((ke hL11 hE14) S) (zcd (K11 S) f11)) (er rfl))) ?_
   refine zao (fun _ _ => zau (zai rfl (er rfl))) ?_
   refine zao (fun _ _ => zau (zai rfl (er rfl))) ?_
   refine zao (fun _ _ => zau (zbj (r := rArr2Int) (v := b_v) (n := n11) (m := (o11 + n11 * rArr2Int.sz)) zaz ti54 rfl q19 rfl q17 q18 rfl (er rfl))) ?_
   refine zao (fun _ hE18 => zau (zds (vs := [(zI x12.e0), (zI x12.e1)]) zbv rfl ti54 rfl rfl zex (zcd ((ke hL11 hE18) S) (zcd (K11 S) f13)) (er rfl))) ?_
   refine zcy ?_
   rintro w20 Z27 hE19 hZ18 ⟨-⟩ ap10
   have hB10 := @zhb w11 Z27
   obtain ⟨hL12, K14⟩ := zl hL11 hE19
   refine zag (OpY.neqA2 eqA2_54 rfl rfl (zap ?_))
   refine zbf (¬ ((x11.e0 : Int) = x12.e0 ∧ (x11.e1 : Int) = x12.e1)) rfl (fun hc11 => ?_) (fun hc11 => ?_)
   ·
    replace h := ite_t hc11 h
    refine zal (zah rfl (zag (zam (v := zF) rfl ?_)))
    refine zap (zbl ?_)
    obtain rfl := zae h
    obtain rfl := hd10 _ rfl
    replace h := g10
    try dsimp only at h
    obtain rfl := zae h
    refine ⟨[zF], zrt, ⟨_, rfl, hL12.done, ?_⟩⟩
    exact zrt
   replace h := ite_f hc11 h
   refine zbk (zbu (zah rfl (zag (zcl (x := x10) (y := 1) (z := (iw (x10 + 1))) rfl rfl rfl ?_))))
   refine zag (zai (v := (zI (iw (x10 + 1)))) rfl (zap ?_))
   obtain rfl := zae h
   refine zaq ⟨(iw (x10 + 1)), rfl, ?_⟩
   exact ⟨_, (zeu ⟨rfl, rfl, rfl, rfl, trivial⟩), hL12, (zan (zan K10 K11) K14), trivial⟩
  replace h := ite_f hc10 h
  refine zda rfl ?_
  obtain rfl := zae h
  obtain rfl := hd10 _ rfl
  replace h := g10
  try dsimp only at h
  refine zaq ?_
  exact ⟨_, rfl, (zeu trivial), hL10, K10, trivial⟩
 rintro _ w21 ⟨u, rfl, rfl, hL13, K15, -⟩
 replace h := g10
 try dsimp only at h
 refine zal (zah rfl (zag (zam (v := zT) rfl ?_)))
 refine zap (zbl ?_)
 obtain rfl := zae h
 refine ⟨[zT], zrt, ⟨_, rfl, hL13.done, ?_⟩⟩
 exact zrt
theorem lproblem_w (N : Nat) (p : TProb) (x : TProb) (p_v : Value) (p_v1 : Value) (p_v2 : Value) (p_v3 : Value) (p_v4 : Value) (x_v : Value) (x_v1 : Value) (x_v2 : Value) (x_v3 : Value) (x_v4 : Value) (w : World) (S : Nat → Prop) (p_h : Rs rI (vH w S [] w) p_v p.Min) (p_h1 : Rs rI (vH w S [] w) p_v1 p.Max) (p_h2 : Rs rTTest (vH w S [] w) p_v2 p.Tests) (p_h3 : Rs rArr2Int (vH w S [] w) p_v3 p.Same) (p_h4 : Rs rArr2Int (vH w S [] w) p_v4 p.Different) (x_h : Rs rI (vH w S [] w) x_v x.Min) (x_h1 : Rs rI (vH w S [] w) x_v1 x.Max) (x_h2 : Rs rTTest (vH w S [] w) x_v2 x.Tests) (x_h3 : Rs rArr2Int (vH w S [] w) x_v3 x.Same) (x_h4 : Rs rArr2Int (vH w S [] w) x_v4 x.Different) (r : Bool) (h : lproblem N p x = some r) :
  Calls Tryz.prog 17 #[(zar #[p_v, p_v1, p_v2, p_v3, p_v4]), (zar #[x_v, x_v1, x_v2, x_v3, x_v4])] w (Ret w (fun v w' => (zab r) = v ∧ True)) := by
 unfold lproblem at h
 have hL : vL w w [] [] := Go.X.Loc.begin0 w
 refine calls_of (l := [(zar #[p_v, p_v1, p_v2, p_v3, p_v4]), (zar #[x_v, x_v1, x_v2, x_v3, x_v4])]) (rl := [.tmp 4]) (n := 63) Tryz.func17 rfl rfl rfl (zaf rfl) ?_
 refine zal (zah rfl (zag (zdu (cs := [p_v, p_v1, p_v2, p_v3, p_v4]) rfl rfl hL ?_)))
 intro b1 w2 hL3 hS5
 have K4 := ks w hS5
 refine zag (zdu (cs := [x_v, x_v1, x_v2, x_v3, x_v4]) rfl rfl hL3 ?_)
 intro b6 w7 hL8 hS10
 have K9 := ks w hS10
 refine zag (zam (v := zF) rfl ?_)
 refine zap (zal (zal ?_))
 obtain ⟨s10, h, g10⟩ := zes h
 refine zce (fun e w' => ∃ (x10 : Bool) (u : Env), x10 = s10 ∧ e = upds [(2, (zaj (some ⟨b1, 0, none⟩))), (3, (zaj (some ⟨b6, 0, none⟩))), (44, (zab x10))] u ∧ vL w w' [some b1, some b6] [zac [p_v, p_v1, p_v2, p_v3, p_v4], zac [x_v, x_v1, x_v2, x_v3, x_v4]] ∧ Keep w.heap.size [some b6, some b1] w7 [some b1, some b6] w' ∧ True) ?_ ?_
 ·
  refine zah rfl (zag (zak (q := 0) zcu rfl ti23 rfl rfl rfl ?_))
  refine zag (zas (v := p_v) zaw rfl rfl (hL8.at 1 rfl rfl) rfl ?_)
  refine zag (zak (q := 0) zdh rfl ti23 rfl rfl rfl ?_)
  refine zag (zas (v := x_v) zaw rfl rfl (hL8.at 0 rfl rfl) rfl ?_)
  obtain ⟨r10, q10, h⟩ := zes h
  have f10 := ((p_h.mono (K4 S)).mono (K9 S))
  have f11 := ((x_h.mono (K4 S)).mono (K9 S))
  refine zag (zbc en18 rfl rfl (lints_w N p.Min x.Min p_v x_v _ Any (f10.mono vw_any) (f11.mono vw_any) r10 q10) ?_)
  rintro _ w10 hE10 ⟨rfl, -⟩
  obtain ⟨hL10, K10⟩ := zl hL8 hE10
  refine zag (zdy (x := r10) rfl ?_)
  refine zag (zai (v := (zab (!r10))) rfl ?_)
  by_cases hc10 : (!r10) = true
  ·
   replace h := ite_t hc10 h
   refine zbb rfl rfl hc10 ?_
   refine zbb rfl rfl hc10 ?_
   refine zbb rfl rfl hc10 ?_
   refine zbb rfl rfl hc10 ?_
   refine zbb rfl rfl hc10 ?_
   refine zbb rfl rfl hc10 ?_
   refine zag (zbe (t := (!r10)) (v := zT) rfl hc10 rfl ?_)
   refine zag (zai (v := zT) rfl ?_)
   refine zbb rfl rfl rfl (zbb rfl rfl rfl (zbb rfl rfl rfl (zbb rfl rfl rfl (zbb rfl rfl rfl (zbb rfl rfl rfl ?_)))))
   refine zag (zbe (t := true) (v := zT) rfl rfl rfl ?_)
   refine zag (zai (v := zT) rfl ?_)
   refine zbb rfl rfl rfl (zbb rfl rfl rfl (zbb rfl rfl rfl (zbb rfl rfl rfl (zbb rfl rfl rfl (zbb rfl rfl rfl ?_)))))
   refine zag (zbe (t := true) (v := zT) rfl rfl rfl ?_)
   refine zag (zai (v := zT) rfl ?_)
   refine zbb rfl rfl rfl (zbb rfl rfl rfl (zbb rfl rfl rfl (zbb rfl rfl rfl (zbb rfl rfl rfl (zbb rfl rfl rfl (zbb rfl rfl rfl ?_))))))
   refine zag (zbe (t := true) (v := zT) rfl rfl rfl (zap ?_))
   have hp10 := hL10.pick [1, 0] rfl rfl rfl
   have hL11 : vL w w10 [some b1, some b6] [zac [p_v, p_v1, p_v2, p_v3, p_v4], zac [x_v, x_v1, x_v2, x_v3, x_v4]] := hp10.1
   have K11 := ks w hp10.2
   obtain rfl := zae h
   refine zaq ?_
   exact ⟨true, _, rfl, (zeu ⟨rfl, rfl, rfl, trivial⟩), hL11, (zan K10 K11), trivial⟩
  replace h := ite_f hc10 h
  refine zba rfl rfl (zer hc10) (zak (q := 1) zcu rfl ti23 rfl rfl rfl ?_)
  refine zba rfl rfl (zer hc10) (zas (v := p_v1) zaw rfl rfl (hL10.at 1 rfl rfl) rfl ?_)
  refine zba rfl rfl (zer hc10) (zak (q := 1) zdh rfl ti23 rfl rfl rfl ?_)
  refine zba rfl rfl (zer hc10) (zas (v := x_v1) zaw rfl rfl (hL10.at 0 rfl rfl) rfl ?_)
  obtain ⟨r11, q11, h⟩ := zes h
  have f12 := (((p_h1.mono (K4 S)).mono (K9 S)).mono (K10 S))
  have f13 := (((x_h1.mono (K4 S)).mono (K9 S)).mono (K10 S))
  refine zba rfl rfl (zer hc10) (zbc en18 rfl rfl (lints_w N p.Max x.Max p_v1 x_v1 _ Any (f12.mono vw_any) (f13.mono vw_any) r11 q11) ?_)
  rintro _ w11 hE11 ⟨rfl, -⟩
  obtain ⟨hL12, K12⟩ := zl hL10 hE11
  refine zba rfl rfl (zer hc10) (zdy (x := r11) rfl ?_)
  refine zag (zbn (t := (!r10)) (v := (zab (!r11))) rfl (zer hc10) rfl ?_)
  refine zag (zai (v := (zab (!r11))) rfl ?_)
  by_cases hc11 : (!r11) = true
  ·
   replace h := ite_t hc11 h
   refine zbb rfl rfl hc11 ?_
   refine zbb rfl rfl hc11 ?_
   refine zbb rfl rfl hc11 ?_
   refine zbb rfl rfl hc11 ?_
   refine zbb rfl rfl hc11 ?_
   refine zbb rfl rfl hc11 ?_
   refine zag (zbe (t := (!r11)) (v := zT) rfl hc11 rfl ?_)
   refine zag (zai (v := zT) rfl ?_)
   refine zbb rfl rfl rfl (zbb rfl rfl rfl (zbb rfl rfl rfl (zbb rfl rfl rfl (zbb rfl rfl rfl (zbb rfl rfl rfl ?_)))))
   refine zag (zbe (t := true) (v := zT) rfl rfl rfl ?_)
   refine zag (zai (v := zT) rfl ?_)
   refine zbb rfl rfl rfl (zbb rfl rfl rfl (zbb rfl rfl rfl (zbb rfl rfl rfl (zbb rfl rfl rfl (zbb rfl rfl rfl (zbb rfl rfl rfl ?_))))))
   refine zag (zbe (t := true) (v := zT) rfl rfl rfl (zap ?_))
   have hp11 := hL12.pick [1, 0] rfl rfl rfl
   have hL13 : vL w w11 [some b1, some b6] [zac [p_v, p_v1, p_v2, p_v3, p_v4], zac [x_v, x_v1, x_v2, x_v3, x_v4]] := hp11.1
   have K13 := ks w hp11.2
   obtain rfl := zae h
   refine zaq ?_
   exact ⟨true, _, rfl, (zeu ⟨rfl, rfl, rfl, trivial⟩), hL13, (zan (zan K10 K12) K13), trivial⟩
  replace h := ite_f hc11 h
  refine zba rfl rfl (zer hc11) (zak (q := 3) zcu rfl ti27 rfl rfl rfl ?_)
  refine zba rfl rfl (zer hc11) (zas (v := p_v3) zaz rfl rfl (hL12.at 1 rfl rfl) rfl ?_)
  refine zba rfl rfl (zer hc11) (zak (q := 3) zdh rfl ti27 rfl rfl rfl ?_)
  refine zba rfl rfl (zer hc11) (zas (v := x_v3) zaz rfl rfl (hL12.at 0 rfl rfl) rfl ?_)
  obtain ⟨r12, q12, h⟩ := zes h
  have f14 := ((((p_h3.mono (K4 S)).mono (K9 S)).mono (K10 S)).mono (K12 S))
  have f15 := ((((x_h3.mono (K4 S)).mono (K9 S)).mono (K10 S)).mono (K12 S))
  refine zba rfl rfl (zer hc11) (zbc en48 rfl rfl (ltwos_w N p.Same x.Same p_v3 x_v3 _ Any (f14.mono vw_any) (f15.mono vw_any) r12 q12) ?_)
  rintro _ w12 hE12 ⟨rfl, -⟩
  obtain ⟨hL14, K14⟩ := zl hL12 hE12
  refine zba rfl rfl (zer hc11) (zdy (x := r12) rfl ?_)
  refine zag (zbn (t := (!r11)) (v := (zab (!r12))) rfl (zer hc11) rfl ?_)
  refine zag (zai (v := (zab (!r12))) rfl ?_)
  by_cases hc12 : (!r12) = true
  ·
   replace h := ite_t hc12 h
   refine zbb rfl rfl hc12 ?_
   refine zbb rfl rfl hc12 ?_
   refine zbb rfl rfl hc12 ?_
   refine zbb rfl rfl hc12 ?_
   refine zbb rfl rfl hc12 ?_
   refine zbb rfl rfl hc12 ?_
   refine zag (zbe (t := (!r12)) (v := zT) rfl hc12 rfl ?_)
   refine zag (zai (v := zT) rfl ?_)
   refine zbb rfl rfl rfl (zbb rfl rfl rfl (zbb rfl rfl rfl (zbb rfl rfl rfl (zbb rfl rfl rfl (zbb rfl rfl rfl (zbb rfl rfl rfl ?_))))))
   refine zag (zbe (t := true) (v := zT) rfl rfl rfl (zap ?_))
   have hp12 := hL14.pick [1, 0] rfl rfl rfl
   have hL15 : vL w w12 [some b1, some b6] [zac [p_v, p_v1, p_v2, p_v3, p_v4], zac [x_v, x_v1, x_v2, x_v3, x_v4]] := hp12.1
   have K15 := ks w hp12.2
   obtain rfl := zae h
   refine zaq ?_
   exact ⟨true, _, rfl, (zeu ⟨rfl, rfl, rfl, trivial⟩), hL15, (zan (zan (zan K10 K12) K14) K15), trivial⟩
  replace h := ite_f hc12 h
  refine zba rfl rfl (zer hc12) (zak (q := 4) zcu rfl ti27 rfl rfl rfl ?_)
  refine zba rfl rfl (zer hc12) (zas (v := p_v4) zaz rfl rfl (hL14.at 1 rfl rfl) rfl ?_)
  refine zba rfl rfl (zer hc12) (zak (q := 4) zdh rfl ti27 rfl rfl rfl ?_)
  refine zba rfl rfl (zer hc12) (zas (v := x_v4) zaz rfl rfl (hL14.at 0 rfl rfl) rfl ?_)
  obtain ⟨r13, q13, h⟩ := zes h
  have f16 := (((((p_h4.mono (K4 S)).mono (K9 S)).mono (K10 S)).mono (K12 S)).mono (K14 S))
  have f17 := (((((x_h4.mono (K4 S)).mono (K9 S)).mono (K10 S)).mono (K12 S)).mono (K14 S))
  refine zba rfl rfl (zer hc12) (zbc en48 rfl rfl (ltwos_w N p.Different x.Different p_v4 x_v4 _ Any (f16.mono vw_any) (f17.mono vw_any) r13 q13) ?_)
  rintro _ w13 hE13 ⟨rfl, -⟩
  obtain ⟨hL16, K16⟩ := zl hL14 hE13
  refine zba rfl rfl (zer hc12) (zdy (x := r13) rfl ?_)
  refine zag (zbn (t := (!r12)) (v := (zab (!r13))) rfl (zer hc12) rfl ?_)
  refine zag (zai (v := (zab (!r13))) rfl ?_)
  by_cases hc13 : (!r13) = true
  ·
   replace h := ite_t hc13 h
   refine zbb rfl rfl hc13 ?_
   refine zbb rfl rfl hc13 ?_
   refine zbb rfl rfl hc13 ?_
   refine zbb rfl rfl hc13 ?_
   refine zbb rfl rfl hc13 ?_
   refine zbb rfl rfl hc13 ?_
   refine zbb rfl rfl hc13 ?_
   refine zag (zbe (t := (!r13)) (v := zT) rfl hc13 rfl (zap ?_))
   have hp13 := hL16.pick [1, 0] rfl rfl rfl
   have hL17 : vL w w13 [some b1, some b6] [zac [p_v, p_v1, p_v2, p_v3, p_v4], zac [x_v, x_v1, x_v2, x_v3, x_v4]] := hp13.1
   have K17 := ks w hp13.2
   obtain rfl := zae h
   refine zaq ?_
   exact ⟨true, _, rfl, (zeu ⟨rfl, rfl, rfl, trivial⟩), hL17, (zan (zan (zan (zan K10 K12) K14) K16) K17), trivial⟩
  replace h := ite_f hc13 h
  refine zba rfl rfl (zer hc13) (zak (q := 2) zcu rfl ti26 rfl rfl rfl ?_)
  refine zba rfl rfl (zer hc13) (zas (v := p_v2) zbs rfl rfl (hL16.at 1 rfl rfl) rfl ?_)
  have f18 := ((((((p_h2.mono (K4 S)).mono (K9 S)).mono (K10 S)).mono (K12 S)).mono (K14 S)).mono (K16 S))
  refine zba rfl rfl (zer hc13) (zbg (v := p_v2) zbs rfl f18 ?_)
  refine zba rfl rfl (zer hc13) (zak (q := 2) zdh rfl ti26 rfl rfl rfl ?_)
  refine zba rfl rfl (zer hc13) (zas (v := x_v2) zbs rfl rfl (hL16.at 0 rfl rfl) rfl ?_)
  have f19 := ((((((x_h2.mono (K4 S)).mono (K9 S)).mono (K10 S)).mono (K12 S)).mono (K14 S)).mono (K16 S))
  refine zba rfl rfl (zer hc13) (zbg (v := x_v2) zbs rfl f19 ?_)
  refine zba rfl rfl (zer hc13) (zek (x := (p.Tests.length : Int)) (y := (x.Tests.length : Int)) (((p.Tests.length : Int) : Int) ≠ (x.Tests.length : Int)) rfl rfl zbd ?_)
  refine zag (zbn (t := (!r13)) (v := (zab (decide (((p.Tests.length : Int) : Int) ≠ (x.Tests.length : Int))))) rfl (zer hc13) rfl (zap ?_))
  have hp14 := hL16.pick [1, 0] rfl rfl rfl
  have hL18 : vL w w13 [some b1, some b6] [zac [p_v, p_v1, p_v2, p_v3, p_v4], zac [x_v, x_v1, x_v2, x_v3, x_v4]] := hp14.1
  have K18 := ks w hp14.2
  obtain rfl := zae h
  refine zaq ?_
  exact ⟨(decide (((p.Tests.length : Int) : Int) ≠ (x.Tests.length : Int))), _, rfl, (zeu ⟨rfl, rfl, rfl, trivial⟩), hL18, (zan (zan (zan (zan K10 K12) K14) K16) K18), trivial⟩
 rintro _ w14 ⟨x10, u, rfl, rfl, hL19, K19, -⟩
 replace h := g10
 try dsimp only at h
 refine zdd x10 rfl (fun hc14 => ?_) (fun hc14 => ?_)
 ·
  replace h := ite_t hc14 h
  refine zal (zah rfl (zag (zam (v := zF) rfl ?_)))
  refine zap (zbl ?_)
  obtain rfl := zae h
  refine ⟨[zF], zrt, ⟨_, rfl, hL19.done, ?_⟩⟩
  exact zrt
 replace h := ite_f hc14 h
 refine zbk (zal (zal (zah rfl (zag (zak (q := 2) zcu rfl ti26 rfl rfl rfl ?_)))))
 refine zag (zas (v := p_v2) zbs rfl rfl (hL19.at 0 rfl rfl) rfl ?_)
 have f20 := (((p_h2.mono (K4 S)).mono (K9 S)).mono (K19 S))
 refine zag (zbg (v := p_v2) zbs rfl f20 ?_)
 refine zag (zai (v := (zI 0)) rfl (zap ?_))
 obtain ⟨s11, hl10, g11⟩ := zes h
 refine zce (fun e w' => ∃  (u : Env), (Sum.inl ()) = s11 ∧ e = upds [] u ∧ vL w w' [] [] ∧ Keep w.heap.size [some b1, some b6] w14 [] w' ∧ True) ?_ ?_
 ·
  refine zbh ?_
  refine zcr hl10 (fun (ss : Int) (e : Env) (w' : World) => match ss with | x11 => ∃ (u : Env), e = upds [(2, (zaj (some ⟨b1, 0, none⟩))), (3, (zaj (some ⟨b6, 0, none⟩))), (47, (zI (p.Tests.length : Int))), (48, (zI x11))] u ∧ vL w w' [some b1, some b6] [zac [p_v, p_v1, p_v2, p_v3, p_v4], zac [x_v, x_v1, x_v2, x_v3, x_v4]] ∧ Keep w.heap.size [some b1, some b6] w14 [some b1, some b6] w' ∧ True) ⟨_, (zeu ⟨rfl, rfl, rfl, rfl, trivial⟩), hL19, zck, trivial⟩ ?_
  rintro x11 oo _ w15 ⟨u, rfl, hL20, K20, -⟩ h hd10
  rw [lproblem_b1] at h
  refine zal (zah rfl (zag (zcp (x := x11) (y := (p.Tests.length : Int)) ((x11 : Int) < (p.Tests.length : Int)) rfl rfl zbd ?_)))
  refine zap (zal ?_)
  refine zbf ((x11 : Int) < (p.Tests.length : Int)) rfl (fun hc15 => ?_) (fun hc15 => ?_)
  ·
   replace h := ite_t hc15 h
   refine zbk (zal (zbh (zal (zah rfl (zag (zai (v := (zI x11)) rfl ?_))))))
   refine zag (zam (v := (zI x11)) rfl ?_)
   refine zap (zal ?_)
   obtain ⟨x12, n10, q15, q16, -, h⟩ := zix h
   have f21 := (f20.mono (K20 S))
   obtain ⟨b10, o10, c10, vs10, q17, q18, f22, q19⟩ := zcw f21 q16
   obtain ⟨rfl, -⟩ := rTTest_open q19
   obtain ⟨x13, n11, q21, q22, -, h⟩ := zix h
   have f23 := ((((x_h2.mono (K4 S)).mono (K9 S)).mono (K19 S)).mono (K20 S))
   obtain ⟨b11, o11, c11, vs11, q23, q24, f24, q25⟩ := zcw f23 q22
   obtain ⟨rfl, -⟩ := rTTest_open q25
   refine zcm 10 [] [] (fun W1 => [.det (zaj (some ⟨b1, 2, none⟩)), .det p_v2, .det (zI x11), .det (zaj (some ⟨b10, (o10 + n10 * rTTest.sz), none⟩)), .det (zar #[(zI x12.Var), (zI x12.Kind), (zab x12.Negated), (zS x12.Text)]), .det (zaj (some ⟨b6, 2, none⟩)), .det x_v2, .det (zI x11), .det (zaj (some ⟨b11, (o11 + n11 * rTTest.sz), none⟩)), .det (zar #[(zI x13.Var), (zI x13.Kind), (zab x13.Negated), (zS x13.Text)])]) mixed rfl rfl rfl (fun _ => rfl) (fun _ => rfl) ?_ ?_
   ·
    intro W1 _
    exact trivial
   intro w16 hE14
   obtain ⟨hL21, K21⟩ := zl hL20 hE14
   refine zao (fun _ _ => zau (zak zcu rfl ti26 rfl rfl rfl (er rfl))) ?_
   refine zao (fun _ hE16 => zau (zas zbs rfl rfl ((hL21.ext hE16).at 0 rfl rfl) rfl (er rfl))) ?_
   refine zao (fun _ _ => zau (zai rfl (er rfl))) ?_
   refine zao (fun _ _ => zau (zbj (r := rTTest) (v := p_v2) (n := n10) (m := (o10 + n10 * rTTest.sz)) zbs ti112 rfl q17 rfl q15 q16 rfl (er rfl))) ?_
   refine zao (fun _ hE19 => zau (zds (vs := [(zI x12.Var), (zI x12.Kind), (zab x12.Negated), (zS x12.Text)]) zct rfl ti112 rfl rfl zex (zcd ((ke hL21 hE19) S) (zcd (K21 S) f22)) (er rfl))) ?_
   refine zao (fun _ _ => zau (zak zdh rfl ti26 rfl rfl rfl (er rfl))) ?_
   refine zao (fun _ hE21 => zau (zas zbs rfl rfl ((hL21.ext hE21).at 1 rfl rfl) rfl (er rfl))) ?_
   refine zao (fun _ _ => zau (zai rfl (er rfl))) ?_
   refine zao (fun _ _ => zau (zbj (r := rTTest) (v := x_v2) (n := n11) (m := (o11 + n11 * rTTest.sz)) zbs ti112 rfl q23 rfl q21 q22 rfl (er rfl))) ?_
   refine zao (fun _ hE24 => zau (zds (vs := [(zI x13.Var), (zI x13.Kind), (zab x13.Negated), (zS x13.Text)]) zct rfl ti112 rfl rfl zex (zcd ((ke hL21 hE24) S) (zcd (K21 S) f24)) (er rfl))) ?_
   refine zcy ?_
   rintro w27 Z29 hE25 hZ20 ⟨-⟩ ap10
   have hB10 := @zhb w16 Z29
   obtain ⟨hL24, K24⟩ := zl hL21 hE25
   refine zag (OpY.neqS [.ci .i64 x12.Var x13.Var, .ci .i64 x12.Kind x13.Kind, .cb x12.Negated x13.Negated, .cs x12.Text x13.Text] eqS_112 ⟨rfl, rfl, ⟨_, rfl⟩, rfl, rfl, ⟨_, rfl⟩, rfl, rfl, rfl, rfl, rfl, rfl, trivial⟩ rfl rfl rfl rfl (zap ?_))
   refine zdd (!(decide ((x12.Var : Int) = x13.Var) && (decide ((x12.Kind : Int) = x13.Kind) && ((x12.Negated == x13.Negated) && (decide (x12.Text = x13.Text) && true))))) rfl (fun hc16 => ?_) (fun hc16 => ?_)
   ·
    replace h := ite_t hc16 h
    refine zal (zah rfl (zag (zam (v := zF) rfl ?_)))
    refine zap (zbl ?_)
    obtain rfl := zae h
    obtain rfl := hd10 _ rfl
    replace h := g11
    try dsimp only at h
    obtain rfl := zae h
    refine ⟨[zF], zrt, ⟨_, rfl, hL24.done, ?_⟩⟩
    exact zrt
   replace h := ite_f hc16 h
   refine zbk (zbu (zah rfl (zag (zcl (x := x11) (y := 1) (z := (iw (x11 + 1))) rfl rfl rfl ?_))))
   refine zag (zai (v := (zI (iw (x11 + 1)))) rfl (zap ?_))
   obtain rfl := zae h
   refine zaq ⟨(iw (x11 + 1)), rfl, ?_⟩
   exact ⟨_, (zeu ⟨rfl, rfl, rfl, rfl, trivial⟩), hL24, (zan (zan K20 K21) K24), trivial⟩
  replace h := ite_f hc15 h
  refine zda rfl ?_
  have hp15 := hL20.pick [] rfl rfl rfl
  have hL25 : vL w w15 [] [] := hp15.1
  have K25 := ks w hp15.2
  obtain rfl := zae h
  obtain rfl := hd10 _ rfl
  replace h := g11
  try dsimp only at h
  refine zaq ?_
  exact ⟨_, rfl, (zeu trivial), hL25, (zan K20 K25), trivial⟩
 rintro _ w28 ⟨u, rfl, rfl, hL26, K26, -⟩
 replace h := g11
 try dsimp only at h
 refine zal (zah rfl (zag (zam (v := zT) rfl ?_)))
 refine zap (zbl ?_)
 obtain rfl := zae h
 refine ⟨[zT], zrt, ⟨_, rfl, hL26.done, ?_⟩⟩
 exact zrt
theorem lawTexts_w (N : Nat) (x : RCase) (x_v : Value) (x_v1 : Value) (x_v2 : Value) (x_v3 : Value) (x_v4 : Value) (x_v5 : Value) (x_v6 : Value) (x_v7 : Value) (x_v8 : Value) (x_v9 : Value) (w : World) (S : Nat → Prop) (x_h : Rs rRVar (vH w S [] w) x_v x.L) (x_h1 : Rs rI (vH w S [] w) x_v1 x.C.Null) (x_h2 : Rs rI (vH w S [] w) x_v2 x.C.NotNull) (x_h3 : Rs rRAux (vH w S [] w) x_v3 x.C.Auxiliary) (x_h4 : Rs rConstraint (vH w S [] w) x_v4 x.C.Ints) (x_h5 : Rs rTTest (vH w S [] w) x_v5 x.C.Tests) (x_h6 : Rs rArr2Int (vH w S [] w) x_v6 x.C.Same) (x_h7 : Rs rArr2Int (vH w S [] w) x_v7 x.C.Different) (x_h8 : Rs rArr2Int (vH w S [] w) x_v8 x.Ranges) (x_h9 : Rs rRVal (vH w S [] w) x_v9 x.R) (r : Bool) (h : lawTexts N x = some r) :
  Calls Tryz.prog 4 #[(zar #[x_v, x_v1, x_v2, x_v3, x_v4, x_v5, x_v6, x_v7, x_v8, x_v9])] w (Ret w (fun v w' => (zab r) = v ∧ True)) := by
 unfold lawTexts at h
 have hL : vL w w [] [] := Go.X.Loc.begin0 w
 refine calls_of (l := [(zar #[x_v, x_v1, x_v2, x_v3, x_v4, x_v5, x_v6, x_v7, x_v8, x_v9])]) (rl := [.tmp 2]) (n := 43) Tryz.func4 rfl rfl rfl (zaf rfl) ?_
 refine zal (zah rfl (zag (zdu (cs := [x_v, x_v1, x_v2, x_v3, x_v4, x_v5, x_v6, x_v7, x_v8, x_v9]) rfl rfl hL ?_)))
 intro b1 w2 hL3 hS5
 have K4 := ks w hS5
 refine zag (zam (v := zF) rfl ?_)
 refine zap (zal (zal ?_))
 obtain ⟨s10, h, g10⟩ := zes h
 refine zce (fun e w' => ∃ (x10 : Bool) (u : Env), x10 = s10 ∧ e = upds [(1, (zaj (some ⟨b1, 0, none⟩))), (13, (zab x10))] u ∧ vL w w' [some b1] [zac [x_v, x_v1, x_v2, x_v3, x_v4, x_v5, x_v6, x_v7, x_v8, x_v9]] ∧ Keep w.heap.size [some b1] w2 [some b1] w' ∧ True) ?_ ?_
 ·
  refine zah rfl ?_
  obtain ⟨r10, q10, h⟩ := zes h
  refine zag (zbc en10 rfl rfl (awake_w N _ Any r10 q10) ?_)
  rintro _ w10 hE10 ⟨rfl, -⟩
  obtain ⟨hL10, K10⟩ := zl hL3 hE10
  refine zag (zdy (x := r10) rfl ?_)
  refine zag (zai (v := (zab (!r10))) rfl ?_)
  by_cases hc10 : (!r10) = true
  ·
   replace h := ite_t hc10 h
   refine zbb rfl rfl hc10 ?_
   refine zbb rfl rfl hc10 ?_
   refine zbb rfl rfl hc10 ?_
   refine zag (zbe (t := (!r10)) (v := zT) rfl hc10 rfl (zap ?_))
   obtain rfl := zae h
   refine zaq ?_
   exact ⟨true, _, rfl, (zeu ⟨rfl, rfl, trivial⟩), hL10, K10, trivial⟩
  replace h := ite_f hc10 h
  refine zba rfl rfl (zer hc10) (zbr (vs := [x_v, x_v1, x_v2, x_v3, x_v4, x_v5, x_v6, x_v7, x_v8, x_v9]) zdq rfl ti33 rfl (hL10.at 0 rfl rfl) rfl rfl ?_)
  obtain ⟨r11, q11, h⟩ := zes h
  have f10 := ((x_h.mono (K4 S)).mono (K10 S))
  have f11 := ((x_h1.mono (K4 S)).mono (K10 S))
  have f12 := ((x_h2.mono (K4 S)).mono (K10 S))
  have f13 := ((x_h3.mono (K4 S)).mono (K10 S))
  have f14 := ((x_h4.mono (K4 S)).mono (K10 S))
  have f15 := ((x_h5.mono (K4 S)).mono (K10 S))
  have f16 := ((x_h6.mono (K4 S)).mono (K10 S))
  have f17 := ((x_h7.mono (K4 S)).mono (K10 S))
  have f18 := ((x_h8.mono (K4 S)).mono (K10 S))
  have f19 := ((x_h9.mono (K4 S)).mono (K10 S))
  refine zba rfl rfl (zer hc10) (zbc en11 rfl rfl (lright_w N x x_v x_v1 x_v2 x_v3 x_v4 x_v5 x_v6 x_v7 x_v8 x_v9 _ Any (f10.mono vw_any) (f11.mono vw_any) (f12.mono vw_any) (f13.mono vw_any) (f14.mono vw_any) (f15.mono vw_any) (f16.mono vw_any) (f17.mono vw_any) (f18.mono vw_any) (f19.mono vw_any) r11 q11) ?_)
  rintro _ w11 hE11 ⟨rfl, -⟩
  obtain ⟨hL11, K11⟩ := zl hL10 hE11
  refine zba rfl rfl (zer hc10) (zdy (x := r11) rfl ?_)
  refine zag (zbn (t := (!r10)) (v := (zab (!r11))) rfl (zer hc10) rfl (zap ?_))
  obtain rfl := zae h
  refine zaq ?_
  exact ⟨(!r11), _, rfl, (zeu ⟨rfl, rfl, trivial⟩), hL11, (zan K10 K11), trivial⟩
 rintro _ w12 ⟨x10, u, rfl, rfl, hL12, K12, -⟩
 replace h := g10
 try dsimp only at h
 refine zdd x10 rfl (fun hc11 => ?_) (fun hc11 => ?_)
 ·
  replace h := ite_t hc11 h
  refine zal (zah rfl ?_)
  obtain ⟨r12, q12, h⟩ := zes h
  refine zag (zbc en10 rfl rfl (awake_w N _ Any r12 q12) ?_)
  rintro _ w13 hE12 ⟨rfl, -⟩
  have hL13 := hL12.ext hE12
  refine zag (zam (v := (zab r12)) rfl ?_)
  refine zap (zbl ?_)
  obtain rfl := zae h
  refine ⟨[(zab r12)], zrt, ⟨_, rfl, hL13.done, ?_⟩⟩
  exact zrt
 replace h := ite_f hc11 h
 refine zbk (zal (zah rfl (zag (zak (q := 0) zdq rfl ti22 rfl rfl rfl ?_))))
 refine zag (zas (v := x_v) zbt rfl rfl (hL12.at 0 rfl rfl) rfl ?_)
 refine zag (zak (q := 1) zdq rfl ti29 rfl rfl rfl ?_)
 refine zag (zbr (vs := [x_v1, x_v2, x_v3, x_v4, x_v5, x_v6, x_v7]) zay rfl ti29 rfl (hL12.at 0 rfl rfl) rfl rfl ?_)
 refine zag (zak (q := 8) zdq rfl ti27 rfl rfl rfl ?_)
 refine zag (zas (v := x_v8) zaz rfl rfl (hL12.at 0 rfl rfl) rfl ?_)
 obtain ⟨r13, q13, h⟩ := zes h
 have f20 := ((x_h.mono (K4 S)).mono (K12 S))
 have f21 := ((x_h1.mono (K4 S)).mono (K12 S))
 have f22 := ((x_h2.mono (K4 S)).mono (K12 S))
 have f23 := ((x_h3.mono (K4 S)).mono (K12 S))
 have f24 := ((x_h4.mono (K4 S)).mono (K12 S))
 have f25 := ((x_h5.mono (K4 S)).mono (K12 S))
 have f26 := ((x_h6.mono (K4 S)).mono (K12 S))
 have f27 := ((x_h7.mono (K4 S)).mono (K12 S))
 have f28 := ((x_h8.mono (K4 S)).mono (K12 S))
 refine zag (zbc en15 rfl rfl (vTexts_w N x.L x.C x.Ranges x_v x_v1 x_v2 x_v3 x_v4 x_v5 x_v6 x_v7 x_v8 _ Any (f20.mono vw_any) (f21.mono vw_any) (f22.mono vw_any) (f23.mono vw_any) (f24.mono vw_any) (f25.mono vw_any) (f26.mono vw_any) (f27.mono vw_any) (f28.mono vw_any) r13 q13) ?_)
 rintro _ w14 hE13 ⟨v10, v11, v12, v13, v14, ob10, cap10, cs10, sp10, rfl, hN10, k10, k11, k12, k13, k14, hE14, hc12, -⟩
 replace k10 := k10.mono (zch (S := None) hL12 [ob10])
 replace k11 := k11.mono (zch (S := None) hL12 [ob10])
 replace k12 := k12.mono (zch (S := None) hL12 [ob10])
 replace k13 := k13.mono (zch (S := None) hL12 [ob10])
 replace k14 := k14.mono (zch (S := None) hL12 [ob10])
 replace hE14 := hE14.mono (zch (S := None) hL12 [ob10])
 have hp10 := hL12.adoptL hE13 hN10
 have hL14 := hp10.1
 have K13 := ks w hp10.2
 refine zag (zai (v := (Value.tuple #[(zar #[v10, v11, v12, v13, v14]), (zO ob10 r13.2 cap10)])) rfl ?_)
 refine zag (zdn (vs := [(zar #[v10, v11, v12, v13, v14]), (zO ob10 r13.2 cap10)]) (v := (zar #[v10, v11, v12, v13, v14])) rfl rfl ?_)
 refine zag (zdn (vs := [(zar #[v10, v11, v12, v13, v14]), (zO ob10 r13.2 cap10)]) (v := (zO ob10 r13.2 cap10)) rfl rfl ?_)
 refine zag (zcj (cs := [zN, zN, zN, zN, zN]) ti41 rfl hL14 ?_)
 intro b10 w15 hL15 hS10
 have K14 := ks w hS10
 have f29 := (k14.mono (K14 None))
 have f30 := (k13.mono (K14 None))
 have f31 := (k12.mono (K14 None))
 have f32 := (k11.mono (K14 None))
 have f33 := (k10.mono (K14 None))
 refine zcq (zbq (vs := [v10, v11, v12, v13, v14]) ti41 rfl rfl rfl rfl (zet f33.one (zet f32.one (zet f31.one (zet f30.one (zet f29.one zew))))) hL15 0 rfl rfl (zaf rfl) ?_)
 intro w16 (hL16 : vL w w16 [some b10, ob10, some b1] [zac [v10, v11, v12, v13, v14], zac ([] ++ (cs10 ++ sp10)), zac [x_v, x_v1, x_v2, x_v3, x_v4, x_v5, x_v6, x_v7, x_v8, x_v9]]) hS11
 have K15 := ks w hS11
 refine zag (zam (v := (zO ob10 r13.2 cap10)) rfl ?_)
 refine zap (zal (zah rfl (zag (zak (q := 0) zdq rfl ti22 rfl rfl rfl ?_))))
 refine zag (zas (v := x_v) zbt rfl rfl (hL16.at 2 rfl rfl) rfl ?_)
 refine zag (zak (q := 1) zdq rfl ti29 rfl rfl rfl ?_)
 refine zag (zbr (vs := [x_v1, x_v2, x_v3, x_v4, x_v5, x_v6, x_v7]) zay rfl ti29 rfl (hL16.at 2 rfl rfl) rfl rfl ?_)
 refine zag (zak (q := 8) zdq rfl ti27 rfl rfl rfl ?_)
 refine zag (zas (v := x_v8) zaz rfl rfl (hL16.at 2 rfl rfl) rfl ?_)
 obtain ⟨r14, q14, h⟩ := zes h
 have f34 := (((f20.mono (K13 S)).mono (K14 S)).mono (K15 S))
 have f35 := (((f21.mono (K13 S)).mono (K14 S)).mono (K15 S))
 have f36 := (((f22.mono (K13 S)).mono (K14 S)).mono (K15 S))
 have f37 := (((f23.mono (K13 S)).mono (K14 S)).mono (K15 S))
 have f38 := (((f24.mono (K13 S)).mono (K14 S)).mono (K15 S))
 have f39 := (((f25.mono (K13 S)).mono (K14 S)).mono (K15 S))
 have f40 := (((f26.mono (K13 S)).mono (K14 S)).mono (K15 S))
 have f41 := (((f27.mono (K13 S)).mono (K14 S)).mono (K15 S))
 have f42 := (((f28.mono (K13 S)).mono (K14 S)).mono (K15 S))
 refine zag (zbc en16 rfl rfl (wTexts_w N x.L x.C x.Ranges x_v x_v1 x_v2 x_v3 x_v4 x_v5 x_v6 x_v7 x_v8 _ Any (f34.mono vw_any) (f35.mono vw_any) (f36.mono vw_any) (f37.mono vw_any) (f38.mono vw_any) (f39.mono vw_any) (f40.mono vw_any) (f41.mono vw_any) (f42.mono vw_any) r14 q14) ?_)
 rintro _ w17 hE15 ⟨v15, v16, v17, v18, v19, ob11, cap11, cs11, sp11, rfl, hN11, k15, k16, k17, k18, k19, hE16, hc13, -⟩
 replace k15 := k15.mono (zch (S := None) hL16 [ob11])
 replace k16 := k16.mono (zch (S := None) hL16 [ob11])
 replace k17 := k17.mono (zch (S := None) hL16 [ob11])
 replace k18 := k18.mono (zch (S := None) hL16 [ob11])
 replace k19 := k19.mono (zch (S := None) hL16 [ob11])
 replace hE16 := hE16.mono (zch (S := None) hL16 [ob11])
 have hp11 := hL16.adoptL hE15 hN11
 have hL17 := hp11.1
 have K16 := ks w hp11.2
 refine zag (zai (v := (Value.tuple #[(zar #[v15, v16, v17, v18, v19]), (zO ob11 r14.2 cap11)])) rfl ?_)
 refine zag (zdn (vs := [(zar #[v15, v16, v17, v18, v19]), (zO ob11 r14.2 cap11)]) (v := (zar #[v15, v16, v17, v18, v19])) rfl rfl ?_)
 refine zag (zdn (vs := [(zar #[v15, v16, v17, v18, v19]), (zO ob11 r14.2 cap11)]) (v := (zO ob11 r14.2 cap11)) rfl rfl ?_)
 refine zag (zcj (cs := [zN, zN, zN, zN, zN]) ti44 rfl hL17 ?_)
 intro b11 w18 hL18 hS12
 have K17 := ks w hS12
 have f43 := (k19.mono (K17 None))
 have f44 := (k18.mono (K17 None))
 have f45 := (k17.mono (K17 None))
 have f46 := (k16.mono (K17 None))
 have f47 := (k15.mono (K17 None))
 refine zcq (zbq (vs := [v15, v16, v17, v18, v19]) ti44 rfl rfl rfl rfl (zet f47.one (zet f46.one (zet f45.one (zet f44.one (zet f43.one zew))))) hL18 0 rfl rfl (zaf rfl) ?_)
 intro w19 (hL19 : vL w w19 [some b11, ob11, some b10, ob10, some b1] [zac [v15, v16, v17, v18, v19], zac ([] ++ (cs11 ++ sp11)), zac [v10, v11, v12, v13, v14], zac ([] ++ (cs10 ++ sp10)), zac [x_v, x_v1, x_v2, x_v3, x_v4, x_v5, x_v6, x_v7, x_v8, x_v9]]) hS13
 have K18 := ks w hS13
 refine zag (zam (v := (zO ob11 r14.2 cap11)) rfl ?_)
 refine zap (zal (zah rfl (zag (zbr (vs := [v10, v11, v12, v13, v14]) zcu rfl ti41 rfl (hL19.at 2 rfl rfl) rfl rfl ?_))))
 refine zag (zbr (vs := [v15, v16, v17, v18, v19]) zdh rfl ti44 rfl (hL19.at 0 rfl rfl) rfl rfl ?_)
 obtain ⟨r15, q15, h⟩ := zes h
 have f48 := ((((f33.mono (K15 None)).mono (K16 None)).mono (K17 None)).mono (K18 None))
 have f49 := ((((f32.mono (K15 None)).mono (K16 None)).mono (K17 None)).mono (K18 None))
 have f50 := ((((f31.mono (K15 None)).mono (K16 None)).mono (K17 None)).mono (K18 None))
 have f51 := ((((f30.mono (K15 None)).mono (K16 None)).mono (K17 None)).mono (K18 None))
 have f52 := ((((f29.mono (K15 None)).mono (K16 None)).mono (K17 None)).mono (K18 None))
 have f53 := (f47.mono (K18 None))
 have f54 := (f46.mono (K18 None))
 have f55 := (f45.mono (K18 None))
 have f56 := (f44.mono (K18 None))
 have f57 := (f43.mono (K18 None))
 refine zag (zbc en17 rfl rfl (lproblem_w N r13.1 r14.1 v10 v11 v12 v13 v14 v15 v16 v17 v18 v19 _ Any (f48.mono vw_any) (f49.mono vw_any) (f50.mono vw_any) (f51.mono vw_any) (f52.mono vw_any) (f53.mono vw_any) (f54.mono vw_any) (f55.mono vw_any) (f56.mono vw_any) (f57.mono vw_any) r15 q15) ?_)
 rintro _ w20 hE17 ⟨rfl, -⟩
 obtain ⟨hL20, K19⟩ := zl hL19 hE17
 refine zag (zai (v := (zab r15)) rfl ?_)
 by_cases hc14 : r15 = true
 ·
  replace h := ite_t hc14 h
  refine zba rfl rfl hc14 (zai (v := (zO ob10 r13.2 cap10)) rfl ?_)
  refine zba rfl rfl hc14 (zai (v := (zO ob11 r14.2 cap11)) rfl ?_)
  obtain ⟨r16, q16, h⟩ := zes h
  have f58 := ((((((hE14.mono (K14 None)).mono (K15 None)).mono (K16 None)).mono (K17 None)).mono (K18 None)).mono (K19 None))
  have f59 := (((hE16.mono (K17 None)).mono (K18 None)).mono (K19 None))
  refine zba rfl rfl hc14 (zbc en18 rfl rfl (lints_w N r13.2 r14.2 (zO ob10 r13.2 cap10) (zO ob11 r14.2 cap11) _ Any (zey (pre := []) (o := 0) (n := r13.2.length) (cap := cap10) (hL20.at 3 rfl rfl) f58 vw_any rfl rfl rfl hc12) (zey (pre := []) (o := 0) (n := r14.2.length) (cap := cap11) (hL20.at 1 rfl rfl) f59 vw_any rfl rfl rfl hc13) r16 q16) ?_)
  rintro _ w21 hE18 ⟨rfl, -⟩
  have hL21 := hL20.ext hE18
  refine zag (zbe (t := r15) (v := (zab r16)) rfl hc14 rfl ?_)
  refine zag (zam (v := (zab r16)) rfl ?_)
  refine zap (zbl ?_)
  obtain rfl := zae h
  refine ⟨[(zab r16)], zrt, ⟨_, rfl, hL21.done, ?_⟩⟩
  exact zrt
 replace h := ite_f hc14 h
 refine zbb rfl rfl (zer hc14) (zbb rfl rfl (zer hc14) (zbb rfl rfl (zer hc14) ?_))
 refine zag (zbn (t := r15) (v := zF) rfl (zer hc14) rfl ?_)
 refine zag (zam (v := zF) rfl ?_)
 refine zap (zbl ?_)
 obtain rfl := zae h
 refine ⟨[zF], zrt, ⟨_, rfl, hL20.done, ?_⟩⟩
 exact zrt
end Go.Proofs.YtcakdidcpoolcaaGreatDoor.WL

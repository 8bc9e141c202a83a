/- Walks, written by a program of mine (wip/tool); the kernel checks them. -/
import Derived.Test.YtcakdidcpoolcaaGreatDoorProg
import Derived.Test.YtcakdidcpoolcaaGreatDoorSqText
import Derived.Test.YtcakdidcpoolcaaGreatDoorBl25
import Derived.Test.YtcakdidcpoolcaaGreatDoorF25
import Derived.Test.YtcakdidcpoolcaaGreatDoorA25
import Derived.Test.YtcakdidcpoolcaaGreatDoorPL
import Derived.Test.YtcakdidcpoolcaaGreatDoorWAText
import Derived.Test.YtcakdidcpoolcaaGreatDoorWRText
import Derived.Test.YtcakdidcpoolcaaGreatDoorWBText
import Derived.Test.YtcakdidcpoolcaaGreatDoorWCText
import Derived.Test.YtcakdidcpoolcaaGreatDoorWDText
import Derived.Test.YtcakdidcpoolcaaGreatDoorWIText
import Derived.Test.YtcakdidcpoolcaaGreatDoorWVText
import Derived.Test.YtcakdidcpoolcaaGreatDoorWUText
set_option maxRecDepth 100000
set_option maxHeartbeats 40000000
set_option linter.unusedVariables false
set_option linter.unusedSimpArgs false
namespace Go.Proofs.YtcakdidcpoolcaaGreatDoor.WL
open Go Go.RowKit Go.X Go.D Go.Proofs.YtcakdidcpoolcaaGreatDoor.WF Go.Proofs.YtcakdidcpoolcaaGreatDoor.WA Go.Proofs.YtcakdidcpoolcaaGreatDoor.WR Go.Proofs.YtcakdidcpoolcaaGreatDoor.WB Go.Proofs.YtcakdidcpoolcaaGreatDoor.WC Go.Proofs.YtcakdidcpoolcaaGreatDoor.WD Go.Proofs.YtcakdidcpoolcaaGreatDoor.WI Go.Proofs.YtcakdidcpoolcaaGreatDoor.WV Go.Proofs.YtcakdidcpoolcaaGreatDoor.WU
theorem pl83 : placesT Tryz.prog 83 = some [(0, 1), (1, 1), (2, 1), (3, 1), (4, 1)] := by kernel_rfl
theorem pl29 : placesT Tryz.prog 29 = some [(0, 1), (1, 1), (2, 1), (3, 1), (4, 1), (5, 1), (6, 1)] := by kernel_rfl
theorem en21 : Go.X.Enters Tryz.prog 21 := ⟨Tryz.f21, Tryz.func21, by kernel_rfl, by kernel_rfl⟩
theorem pl94 : placesT Tryz.prog 94 = some [(0, 1), (1, 2)] := by kernel_rfl
theorem pl97 : placesT Tryz.prog 97 = some [(0, 1), (1, 2)] := by kernel_rfl
theorem pl70 : placesT Tryz.prog 70 = some [(0, 1), (1, 1), (2, 2), (4, 1)] := by kernel_rfl
theorem pl73 : placesT Tryz.prog 73 = some [(0, 1), (1, 1), (2, 1), (3, 5), (8, 1)] := by kernel_rfl
theorem en29 : Go.X.Enters Tryz.prog 29 := ⟨Tryz.f29, Tryz.func29, by kernel_rfl, by kernel_rfl⟩
theorem en10 : Go.X.Enters Tryz.prog 10 := ⟨Tryz.f10, Tryz.func10, by kernel_rfl, by kernel_rfl⟩
theorem en28 : Go.X.Enters Tryz.prog 28 := ⟨Tryz.f28, Tryz.func28, by kernel_rfl, by kernel_rfl⟩
theorem lbig_w (N : Nat) (n : Int)  (w : World) (S : Nat → Prop)  (r : Big) (h : lbig N n = some r) :
  Calls Tryz.prog 21 #[(zI n)] w (Ret w (fun v w' => ∃ (v0_0 : Value), (zap #[(zab r.Negative), v0_0]) = v ∧ Rs (rInt .u32) (vH w None [] w') v0_0 r.Digits ∧ True)) := by
 unfold lbig at h
 have hL : vL w w [] [] := Go.X.Loc.begin0 w
 refine calls_of (l := [(zI n)]) (rl := [.cell 2 57]) (n := 5) Tryz.func21 rfl rfl rfl (zae rfl) ?_
 refine zaj (zaf rfl (zag (zbw (cs := [zF, zN]) ti57 rfl hL ?_)))
 intro b1 w2 hL3 hS5
 refine zan (zaj (zaf rfl (zag (zai (v := (zI n)) rfl ?_))))
 obtain ⟨r6, q7, h⟩ := zec h
 refine zag (zay en52 rfl rfl (rOf_w N n _ Any r6 q7) ?_)
 rintro _ w10 hE10 ⟨v8, rfl, k9, -⟩
 replace k9 := k9.mono (zbu (S := None) hL3 [])
 have hL10 := hL3.ext hE10
 refine zcf (zbo (vs := [(zab r6.Negative), v8]) ti57 rfl rfl rfl rfl (zee rfl (zee k9.one zej)) hL10 0 rfl rfl (zae rfl) ?_)
 intro w11 (hL11 : vL w w11 [some b1] [zac [(zab r6.Negative), v8]]) hS10
 have K10 := ks w hS10
 refine zan (zbi ?_)
 obtain rfl := zah h
 refine ⟨[(zap #[(zab r6.Negative), v8])], ⟨⟨⟨b1, 0, none⟩, rfl, zeo zar rfl ti57 (hL11.at 0 rfl rfl) rfl⟩, trivial⟩, ⟨_, rfl, hL11.done, ?_⟩⟩
 have f10 := (k9.mono (K10 None))
 exact ⟨v8, rfl, (f10.mono zea), trivial⟩
theorem awake_w0 (N : Nat)   (w : World) (S : Nat → Prop) (hG : G w)  (r : Bool) (h : awake N  = some r) (hr : r = true) :
  Calls Tryz.prog 10 #[] w (Ret w (fun v w' => (zab r) = v ∧ True)) := by
 unfold awake at h
 have hL : vL w w [] [] := Go.X.Loc.begin0 w
 refine calls_of (l := []) (rl := [.tmp 0]) (n := 59) Tryz.func10 rfl rfl rfl (zae rfl) ?_
 refine zaj (zaf rfl (zag (zak (v := zF) rfl ?_)))
 refine zan (zaj (zaf rfl (zag (zcc (zc := [(zI 0), (zI 0), (zI 0), (zI 0), zF]) (cs := [(zI 1), (zI (-9)), (zI 9), (zI 0), zF]) (is := [0, 1, 2]) (vs := [(zI 1), (zI (-9)), (zI 9)]) (css := [[(zI 1)], [(zI (-9))], [(zI 9)]]) pl83 ti83 rfl rfl rfl ⟨rfl, rfl, rfl, trivial⟩ rfl ?_))))
 have hE2 : Els rRVar (vH w None [] w) [(zI 1), (zI (-9)), (zI 9), (zI 0), zF] [(RVar.mk 1 (-9) 9 0 false)] := (zcp (a := [(zI 1), (zI (-9)), (zI 9), (zI 0), zF]) (rRVar_close ⟨rfl, trivial⟩) zcm)
 refine zag (zch (r := rRVar) (vs := [(zap #[(zI 1), (zI (-9)), (zI 9), (zI 0), zF])]) (css := [[(zI 1), (zI (-9)), (zI 9), (zI 0), zF]]) (xs := [(RVar.mk 1 (-9) 9 0 false)]) zcu ti83 (zae rfl) rfl rfl ⟨rfl, rfl, trivial⟩ (zae rfl) hE2 rfl hL ?_)
 intro b1 w5 hc3 hL6 hS8
 have K7 := ks w hS8
 refine zag (zak (v := (osv (some b1) 0 1 1)) rfl ?_)
 refine zan (zaj (zaf rfl ?_))
 have hE10 : Els rI (vH w None [some b1] w5) [(zI 0)] [0] := (zcp (a := [(zI 0)]) rfl zcm)
 refine zag (zch (r := rI) (vs := [(zI 0)]) (css := [[(zI 0)]]) (xs := [0]) zav ti3 (zae rfl) rfl rfl ⟨rfl, rfl, trivial⟩ (zae rfl) hE10 rfl hL6 ?_)
 intro b9 w10 hc10 hL10 hS10
 have K10 := ks w hS10
 refine zag (zcc (zc := [(zI 0), (zI 0)]) (cs := [(zI 0), (zI 2)]) (is := [0, 1]) (vs := [(zI 0), (zI 2)]) (css := [[(zI 0)], [(zI 2)]]) pl87 ti87 rfl rfl rfl ⟨rfl, rfl, trivial⟩ rfl ?_)
 have hE11 : Els rCoef (vH w None [some b9, some b1] w10) [(zI 0), (zI 2)] [(Coef.mk 0 2)] := (zcp (a := [(zI 0), (zI 2)]) (rCoef_close ⟨rfl, trivial⟩) zcm)
 refine zag (zch (r := rCoef) (vs := [(zap #[(zI 0), (zI 2)])]) (css := [[(zI 0), (zI 2)]]) (xs := [(Coef.mk 0 2)]) zbr ti87 (zae rfl) rfl rfl ⟨rfl, rfl, trivial⟩ (zae rfl) hE11 rfl hL10 ?_)
 intro b10 w11 hc11 hL11 hS11
 have K11 := ks w hS11
 refine zag (zcc (zc := [(zI 0), zN]) (cs := [(zI (-5)), (osv (some b10) 0 1 1)]) (is := [0, 1]) (vs := [(zI (-5)), (osv (some b10) 0 1 1)]) (css := [[(zI (-5))], [(osv (some b10) 0 1 1)]]) pl90 ti90 rfl rfl rfl ⟨rfl, ⟨(zen (zem _ _ _ _)), trivial⟩⟩ rfl ?_)
 refine zag (zcc (zc := [(zI 0), zN, zF]) (cs := [(zI (-5)), (osv (some b10) 0 1 1), zT]) (is := [0, 1]) (vs := [(zap #[(zI (-5)), (osv (some b10) 0 1 1)]), zT]) (css := [[(zI (-5)), (osv (some b10) 0 1 1)], [zT]]) pl92 ti92 rfl rfl rfl ⟨rfl, rfl, trivial⟩ rfl ?_)
 have f10 := (hE11.mono (K11 None))
 have f11 := hL11.freezeRow 0 rfl rfl f10 rfl rfl rfl hc11
 have hp10 := hL11.pick [1, 2] rfl rfl rfl
 have hL12 : vL w w11 [some b9, some b1] [zac ([] ++ ([(zI 0)] ++ [])), zac ([] ++ ([(zI 1), (zI (-9)), (zI 9), (zI 0), zF] ++ []))] := hp10.1
 have K12 := ks w hp10.2
 have hE12 : Els rConstraint (vH w None [some b9, some b1] w11) [(zI (-5)), (osv (some b10) 0 1 1), zT] [(Constraint.mk (Linear.mk (-5) [(Coef.mk 0 2)]) true)] := (zcp (a := [(zI (-5)), (osv (some b10) 0 1 1), zT]) (rConstraint_close ⟨(osv (some b10) 0 1 1), rfl, f11, trivial⟩) zcm)
 refine zag (zch (r := rConstraint) (vs := [(zap #[(zI (-5)), (osv (some b10) 0 1 1), zT])]) (css := [[(zI (-5)), (osv (some b10) 0 1 1), zT]]) (xs := [(Constraint.mk (Linear.mk (-5) [(Coef.mk 0 2)]) true)]) zcz ti92 (zae rfl) rfl rfl ⟨rfl, rfl, trivial⟩ (zae rfl) hE12 rfl hL12 ?_)
 intro b11 w12 hc12 hL13 hS12
 have K13 := ks w hS12
 refine zag (zcc (zc := [zN, zN, zN, zN, zN, zN, zN]) (cs := [zN, (osv (some b9) 0 1 1), zN, (osv (some b11) 0 1 1), zN, zN, zN]) (is := [1, 3]) (vs := [(osv (some b9) 0 1 1), (osv (some b11) 0 1 1)]) (css := [[(osv (some b9) 0 1 1)], [(osv (some b11) 0 1 1)]]) pl29 ti29 rfl rfl rfl ⟨(zen (zem (some b9) 0 1 1)), ⟨(zen (zem (some b11) 0 1 1)), trivial⟩⟩ rfl ?_)
 refine zag (zbw (cs := [zN, zN, zN, zN, zN, zN, zN]) ti29 rfl hL13 ?_)
 intro b12 w13 hL14 hS13
 have K14 := ks w hS13
 refine zcf (zbo (vs := [zN, (osv (some b9) 0 1 1), zN, (osv (some b11) 0 1 1), zN, zN, zN]) ti29 rfl rfl rfl rfl (zee rfl (zee (zem (some b9) 0 1 1) (zee rfl (zee (zem (some b11) 0 1 1) (zee rfl (zee rfl (zee rfl zej))))))) hL14 0 rfl rfl (zae rfl) ?_)
 intro w14 (hL15 : vL w w14 [some b12, some b11, some b9, some b1] [zac [zN, (osv (some b9) 0 1 1), zN, (osv (some b11) 0 1 1), zN, zN, zN], zac ([] ++ ([(zI (-5)), (osv (some b10) 0 1 1), zT] ++ [])), zac ([] ++ ([(zI 0)] ++ [])), zac ([] ++ ([(zI 1), (zI (-9)), (zI 9), (zI 0), zF] ++ []))]) hS14
 have K15 := ks w hS14
 refine zan (zaj (zaf rfl ?_))
 obtain ⟨r10, q10, h⟩ := zec h
 refine zag (zay en21 rfl rfl (lbig_w N 1 _ Any r10 q10) ?_)
 rintro _ w15 hE13 ⟨v10, rfl, k10, -⟩
 replace k10 := k10.mono (zbu (S := None) hL15 [])
 obtain ⟨hL16, K16⟩ := zl hL15 hE13
 refine zag (zcc (zc := [(zI 0), zF, zN]) (cs := [(zI 2), (zab r10.Negative), v10]) (is := [0, 1]) (vs := [(zI 2), (zap #[(zab r10.Negative), v10])]) (css := [[(zI 2)], [(zab r10.Negative), v10]]) pl94 ti94 rfl rfl rfl ⟨rfl, rfl, trivial⟩ rfl ?_)
 have hE14 : Els rUse (vH w None [some b12, some b11, some b9, some b1] w15) [(zI 2), (zab r10.Negative), v10] [(Use.mk 2 r10)] := (zcp (a := [(zI 2), (zab r10.Negative), v10]) (rUse_close ⟨v10, rfl, k10, trivial⟩) zcm)
 refine zag (zch (r := rUse) (vs := [(zap #[(zI 2), (zab r10.Negative), v10])]) (css := [[(zI 2), (zab r10.Negative), v10]]) (xs := [(Use.mk 2 r10)]) zde ti94 (zae rfl) rfl rfl ⟨rfl, rfl, trivial⟩ (zae rfl) hE14 rfl hL16 ?_)
 intro b13 w16 hc13 hL17 hS15
 have K17 := ks w hS15
 obtain ⟨r11, q11, h⟩ := zec h
 refine zag (zay en21 rfl rfl (lbig_w N 2 _ Any r11 q11) ?_)
 rintro _ w17 hE15 ⟨v11, rfl, k11, -⟩
 replace k11 := k11.mono (zbu (S := None) hL17 [])
 obtain ⟨hL18, K18⟩ := zl hL17 hE15
 refine zag (zcc (zc := [zN, zF, zN]) (cs := [(osv (some b13) 0 1 1), (zab r11.Negative), v11]) (is := [0, 1]) (vs := [(osv (some b13) 0 1 1), (zap #[(zab r11.Negative), v11])]) (css := [[(osv (some b13) 0 1 1)], [(zab r11.Negative), v11]]) pl97 ti97 rfl rfl rfl ⟨(zen (zem _ _ _ _)), zrt⟩ rfl ?_)
 obtain ⟨r12, q12, h⟩ := zec h
 refine zag (zay en21 rfl rfl (lbig_w N 1 _ Any r12 q12) ?_)
 rintro _ w18 hE16 ⟨v12, rfl, k12, -⟩
 replace k12 := k12.mono (zbu (S := None) hL18 [])
 obtain ⟨hL19, K19⟩ := zl hL18 hE16
 refine zag (zcc (zc := [(zI 0), zF, zN]) (cs := [(zI 3), (zab r12.Negative), v12]) (is := [0, 1]) (vs := [(zI 3), (zap #[(zab r12.Negative), v12])]) (css := [[(zI 3)], [(zab r12.Negative), v12]]) pl94 ti94 rfl rfl rfl ⟨rfl, rfl, trivial⟩ rfl ?_)
 have hE17 : Els rUse (vH w None [some b13, some b12, some b11, some b9, some b1] w18) [(zI 3), (zab r12.Negative), v12] [(Use.mk 3 r12)] := (zcp (a := [(zI 3), (zab r12.Negative), v12]) (rUse_close ⟨v12, rfl, k12, trivial⟩) zcm)
 refine zag (zch (r := rUse) (vs := [(zap #[(zI 3), (zab r12.Negative), v12])]) (css := [[(zI 3), (zab r12.Negative), v12]]) (xs := [(Use.mk 3 r12)]) zde ti94 (zae rfl) rfl rfl ⟨rfl, rfl, trivial⟩ (zae rfl) hE17 rfl hL19 ?_)
 intro b14 w19 hc14 hL20 hS16
 have K20 := ks w hS16
 obtain ⟨r13, q13, h⟩ := zec h
 refine zag (zay en21 rfl rfl (lbig_w N 2 _ Any r13 q13) ?_)
 rintro _ w20 hE18 ⟨v13, rfl, k13, -⟩
 replace k13 := k13.mono (zbu (S := None) hL20 [])
 obtain ⟨hL21, K21⟩ := zl hL20 hE18
 refine zag (zcc (zc := [zN, zF, zN]) (cs := [(osv (some b14) 0 1 1), (zab r13.Negative), v13]) (is := [0, 1]) (vs := [(osv (some b14) 0 1 1), (zap #[(zab r13.Negative), v13])]) (css := [[(osv (some b14) 0 1 1)], [(zab r13.Negative), v13]]) pl97 ti97 rfl rfl rfl ⟨(zen (zem _ _ _ _)), zrt⟩ rfl ?_)
 obtain ⟨r14, q14, h⟩ := zec h
 refine zag (zay en21 rfl rfl (lbig_w N 1 _ Any r14 q14) ?_)
 rintro _ w21 hE19 ⟨v14, rfl, k14, -⟩
 replace k14 := k14.mono (zbu (S := None) hL21 [])
 obtain ⟨hL22, K22⟩ := zl hL21 hE19
 refine zag (zcc (zc := [(zI 0), zF, zN]) (cs := [(zI 4), (zab r14.Negative), v14]) (is := [0, 1]) (vs := [(zI 4), (zap #[(zab r14.Negative), v14])]) (css := [[(zI 4)], [(zab r14.Negative), v14]]) pl94 ti94 rfl rfl rfl ⟨rfl, rfl, trivial⟩ rfl ?_)
 obtain ⟨r15, q15, h⟩ := zec h
 refine zag (zay en21 rfl rfl (lbig_w N 1 _ Any r15 q15) ?_)
 rintro _ w22 hE20 ⟨v15, rfl, k15, -⟩
 replace k15 := k15.mono (zbu (S := None) hL22 [])
 obtain ⟨hL23, K23⟩ := zl hL22 hE20
 refine zag (zcc (zc := [(zI 0), zF, zN]) (cs := [(zI 5), (zab r15.Negative), v15]) (is := [0, 1]) (vs := [(zI 5), (zap #[(zab r15.Negative), v15])]) (css := [[(zI 5)], [(zab r15.Negative), v15]]) pl94 ti94 rfl rfl rfl ⟨rfl, rfl, trivial⟩ rfl ?_)
 have f12 := (k14.mono (K23 None))
 have hE21 : Els rUse (vH w None [some b14, some b13, some b12, some b11, some b9, some b1] w22) [(zI 4), (zab r14.Negative), v14, (zI 5), (zab r15.Negative), v15] [(Use.mk 4 r14), (Use.mk 5 r15)] := (zcp (a := [(zI 4), (zab r14.Negative), v14]) (rUse_close ⟨v14, rfl, f12, trivial⟩) (zcp (a := [(zI 5), (zab r15.Negative), v15]) (rUse_close ⟨v15, rfl, k15, trivial⟩) zcm))
 refine zag (zch (r := rUse) (vs := [(zap #[(zI 4), (zab r14.Negative), v14]), (zap #[(zI 5), (zab r15.Negative), v15])]) (css := [[(zI 4), (zab r14.Negative), v14], [(zI 5), (zab r15.Negative), v15]]) (xs := [(Use.mk 4 r14), (Use.mk 5 r15)]) zde ti94 (zae rfl) rfl rfl ⟨rfl, rfl, ⟨rfl, rfl, trivial⟩⟩ (zae rfl) hE21 rfl hL23 ?_)
 intro b15 w23 hc15 hL24 hS17
 have K24 := ks w hS17
 obtain ⟨r16, q16, h⟩ := zec h
 refine zag (zay en21 rfl rfl (lbig_w N 1 _ Any r16 q16) ?_)
 rintro _ w24 hE22 ⟨v16, rfl, k16, -⟩
 replace k16 := k16.mono (zbu (S := None) hL24 [])
 obtain ⟨hL25, K25⟩ := zl hL24 hE22
 refine zag (zcc (zc := [zN, zF, zN]) (cs := [(osv (some b15) 0 2 2), (zab r16.Negative), v16]) (is := [0, 1]) (vs := [(osv (some b15) 0 2 2), (zap #[(zab r16.Negative), v16])]) (css := [[(osv (some b15) 0 2 2)], [(zab r16.Negative), v16]]) pl97 ti97 rfl rfl rfl ⟨(zen (zem _ _ _ _)), zrt⟩ rfl ?_)
 have f13 := (((((((((hE14.mono (K17 None)).mono (K18 None)).mono (K19 None)).mono (K20 None)).mono (K21 None)).mono (K22 None)).mono (K23 None)).mono (K24 None)).mono (K25 None))
 have f14 := hL25.freezeRow 2 rfl rfl f13 rfl rfl rfl hc13
 have hp11 := hL25.pick [0, 1, 3, 4, 5, 6] rfl rfl rfl
 have hL26 : vL w w24 [some b15, some b14, some b12, some b11, some b9, some b1] [zac ([] ++ ([(zI 4), (zab r14.Negative), v14, (zI 5), (zab r15.Negative), v15] ++ [])), zac ([] ++ ([(zI 3), (zab r12.Negative), v12] ++ [])), zac [zN, (osv (some b9) 0 1 1), zN, (osv (some b11) 0 1 1), zN, zN, zN], zac ([] ++ ([(zI (-5)), (osv (some b10) 0 1 1), zT] ++ [])), zac ([] ++ ([(zI 0)] ++ [])), zac ([] ++ ([(zI 1), (zI (-9)), (zI 9), (zI 0), zF] ++ []))] := hp11.1
 have K26 := ks w hp11.2
 have f15 := (((((((hE17.mono (K20 None)).mono (K21 None)).mono (K22 None)).mono (K23 None)).mono (K24 None)).mono (K25 None)).mono (K26 None))
 have f16 := hL26.freezeRow 1 rfl rfl f15 rfl rfl rfl hc14
 have hp12 := hL26.pick [0, 2, 3, 4, 5] rfl rfl rfl
 have hL27 : vL w w24 [some b15, some b12, some b11, some b9, some b1] [zac ([] ++ ([(zI 4), (zab r14.Negative), v14, (zI 5), (zab r15.Negative), v15] ++ [])), zac [zN, (osv (some b9) 0 1 1), zN, (osv (some b11) 0 1 1), zN, zN, zN], zac ([] ++ ([(zI (-5)), (osv (some b10) 0 1 1), zT] ++ [])), zac ([] ++ ([(zI 0)] ++ [])), zac ([] ++ ([(zI 1), (zI (-9)), (zI 9), (zI 0), zF] ++ []))] := hp12.1
 have K27 := ks w hp12.2
 have f17 := ((((hE21.mono (K24 None)).mono (K25 None)).mono (K26 None)).mono (K27 None))
 have f18 := hL27.freezeRow 0 rfl rfl f17 rfl rfl rfl hc15
 have hp13 := hL27.pick [1, 2, 3, 4] rfl rfl rfl
 have hL28 : vL w w24 [some b12, some b11, some b9, some b1] [zac [zN, (osv (some b9) 0 1 1), zN, (osv (some b11) 0 1 1), zN, zN, zN], zac ([] ++ ([(zI (-5)), (osv (some b10) 0 1 1), zT] ++ [])), zac ([] ++ ([(zI 0)] ++ [])), zac ([] ++ ([(zI 1), (zI (-9)), (zI 9), (zI 0), zF] ++ []))] := hp13.1
 have K28 := ks w hp13.2
 have f19 := (((k16.mono (K26 None)).mono (K27 None)).mono (K28 None))
 have f20 := (f16.mono (K28 None))
 have f21 := (((((((k13.mono (K22 None)).mono (K23 None)).mono (K24 None)).mono (K25 None)).mono (K26 None)).mono (K27 None)).mono (K28 None))
 have f22 := ((f14.mono (K27 None)).mono (K28 None))
 have f23 := ((((((((((k11.mono (K19 None)).mono (K20 None)).mono (K21 None)).mono (K22 None)).mono (K23 None)).mono (K24 None)).mono (K25 None)).mono (K26 None)).mono (K27 None)).mono (K28 None))
 have hE23 : Els rStep (vH w None [some b12, some b11, some b9, some b1] w24) [(osv (some b13) 0 1 1), (zab r11.Negative), v11, (osv (some b14) 0 1 1), (zab r13.Negative), v13, (osv (some b15) 0 2 2), (zab r16.Negative), v16] [(Step.mk [(Use.mk 2 r10)] r11), (Step.mk [(Use.mk 3 r12)] r13), (Step.mk [(Use.mk 4 r14), (Use.mk 5 r15)] r16)] := (zcp (a := [(osv (some b13) 0 1 1), (zab r11.Negative), v11]) (rStep_close ⟨(osv (some b13) 0 1 1), v11, rfl, f22, f23, trivial⟩) (zcp (a := [(osv (some b14) 0 1 1), (zab r13.Negative), v13]) (rStep_close ⟨(osv (some b14) 0 1 1), v13, rfl, f20, f21, trivial⟩) (zcp (a := [(osv (some b15) 0 2 2), (zab r16.Negative), v16]) (rStep_close ⟨(osv (some b15) 0 2 2), v16, rfl, f18, f19, trivial⟩) zcm)))
 refine zag (zch (r := rStep) (vs := [(zap #[(osv (some b13) 0 1 1), (zab r11.Negative), v11]), (zap #[(osv (some b14) 0 1 1), (zab r13.Negative), v13]), (zap #[(osv (some b15) 0 2 2), (zab r16.Negative), v16])]) (css := [[(osv (some b13) 0 1 1), (zab r11.Negative), v11], [(osv (some b14) 0 1 1), (zab r13.Negative), v13], [(osv (some b15) 0 2 2), (zab r16.Negative), v16]]) (xs := [(Step.mk [(Use.mk 2 r10)] r11), (Step.mk [(Use.mk 3 r12)] r13), (Step.mk [(Use.mk 4 r14), (Use.mk 5 r15)] r16)]) zcs ti97 (zae rfl) rfl rfl ⟨rfl, rfl, ⟨rfl, rfl, ⟨rfl, rfl, trivial⟩⟩⟩ (zae rfl) hE23 rfl hL28 ?_)
 intro b16 w25 hc16 hL29 hS18
 have K29 := ks w hS18
 refine zag (zcc (zc := [zN, zN, zF, zN, zN]) (cs := [(osv (some b16) 0 3 3), zN, zF, zN, zN]) (is := [0]) (vs := [(osv (some b16) 0 3 3)]) (css := [[(osv (some b16) 0 3 3)]]) pl70 ti70 rfl rfl rfl ⟨(zen (zem (some b16) 0 3 3)), trivial⟩ rfl ?_)
 refine zag (zbw (cs := [zN, zN, zF, zN, zN]) ti70 rfl hL29 ?_)
 intro b17 w26 hL30 hS19
 have K30 := ks w hS19
 refine zcf (zbo (vs := [(osv (some b16) 0 3 3), zN, zF, zN, zN]) ti70 rfl rfl rfl rfl (zee (zem (some b16) 0 3 3) (zee rfl (zee rfl (zee rfl (zee rfl zej))))) hL30 0 rfl rfl (zae rfl) ?_)
 intro w27 (hL31 : vL w w27 [some b17, some b16, some b12, some b11, some b9, some b1] [zac [(osv (some b16) 0 3 3), zN, zF, zN, zN], zac ([] ++ ([(osv (some b13) 0 1 1), (zab r11.Negative), v11, (osv (some b14) 0 1 1), (zab r13.Negative), v13, (osv (some b15) 0 2 2), (zab r16.Negative), v16] ++ [])), zac [zN, (osv (some b9) 0 1 1), zN, (osv (some b11) 0 1 1), zN, zN, zN], zac ([] ++ ([(zI (-5)), (osv (some b10) 0 1 1), zT] ++ [])), zac ([] ++ ([(zI 0)] ++ [])), zac ([] ++ ([(zI 1), (zI (-9)), (zI 9), (zI 0), zF] ++ []))]) hS20
 have K31 := ks w hS20
 refine zan (zaj (zaf rfl (zag (zbj (vs := [(osv (some b16) 0 3 3), zN, zF, zN, zN]) zbk rfl ti70 rfl (hL31.at 0 rfl rfl) rfl rfl ?_))))
 refine zag (zcc (zc := [(zI 0), (zI 0), (zI 0), zN, zN, zF, zN, zN, zN]) (cs := [(zI 2), (zI 0), (zI 0), (osv (some b16) 0 3 3), zN, zF, zN, zN, zN]) (is := [0, 3]) (vs := [(zI 2), (zap #[(osv (some b16) 0 3 3), zN, zF, zN, zN])]) (css := [[(zI 2)], [(osv (some b16) 0 3 3), zN, zF, zN, zN]]) pl73 ti73 rfl rfl rfl ⟨rfl, rfl, trivial⟩ rfl ?_)
 refine zag (zbw (cs := [(zI 0), (zI 0), (zI 0), zN, zN, zF, zN, zN, zN]) ti73 rfl hL31 ?_)
 intro b18 w28 hL32 hS21
 have K32 := ks w hS21
 refine zcf (zbo (vs := [(zI 2), (zI 0), (zI 0), (osv (some b16) 0 3 3), zN, zF, zN, zN, zN]) ti73 rfl rfl rfl rfl (zee rfl (zee rfl (zee rfl (zee (zem (some b16) 0 3 3) (zee rfl (zee rfl (zee rfl (zee rfl (zee rfl zej))))))))) hL32 0 rfl rfl (zae rfl) ?_)
 intro w29 (hL33 : vL w w29 [some b18, some b17, some b16, some b12, some b11, some b9, some b1] [zac [(zI 2), (zI 0), (zI 0), (osv (some b16) 0 3 3), zN, zF, zN, zN, zN], zac [(osv (some b16) 0 3 3), zN, zF, zN, zN], zac ([] ++ ([(osv (some b13) 0 1 1), (zab r11.Negative), v11, (osv (some b14) 0 1 1), (zab r13.Negative), v13, (osv (some b15) 0 2 2), (zab r16.Negative), v16] ++ [])), zac [zN, (osv (some b9) 0 1 1), zN, (osv (some b11) 0 1 1), zN, zN, zN], zac ([] ++ ([(zI (-5)), (osv (some b10) 0 1 1), zT] ++ [])), zac ([] ++ ([(zI 0)] ++ [])), zac ([] ++ ([(zI 1), (zI (-9)), (zI 9), (zI 0), zF] ++ []))]) hS22
 have K33 := ks w hS22
 refine zan (zaj (zaf rfl (zag (zai (v := (osv (some b1) 0 1 1)) rfl ?_))))
 refine zag (zbj (vs := [zN, (osv (some b9) 0 1 1), zN, (osv (some b11) 0 1 1), zN, zN, zN]) zct rfl ti29 rfl (hL33.at 3 rfl rfl) rfl rfl ?_)
 refine zag (zbj (vs := [(zI 2), (zI 0), (zI 0), (osv (some b16) 0 3 3), zN, zF, zN, zN, zN]) zaz rfl ti73 rfl (hL33.at 0 rfl rfl) rfl rfl ?_)
 obtain ⟨r17, q17, h⟩ := zec h
 have f24 := (((((((((((((((((((((((((hE2.mono (K7 None)).mono (K10 None)).mono (K11 None)).mono (K12 None)).mono (K13 None)).mono (K14 None)).mono (K15 None)).mono (K16 None)).mono (K17 None)).mono (K18 None)).mono (K19 None)).mono (K20 None)).mono (K21 None)).mono (K22 None)).mono (K23 None)).mono (K24 None)).mono (K25 None)).mono (K26 None)).mono (K27 None)).mono (K28 None)).mono (K29 None)).mono (K30 None)).mono (K31 None)).mono (K32 None)).mono (K33 None))
 have f25 := ((((((((((((((((((((((((hE10.mono (K10 None)).mono (K11 None)).mono (K12 None)).mono (K13 None)).mono (K14 None)).mono (K15 None)).mono (K16 None)).mono (K17 None)).mono (K18 None)).mono (K19 None)).mono (K20 None)).mono (K21 None)).mono (K22 None)).mono (K23 None)).mono (K24 None)).mono (K25 None)).mono (K26 None)).mono (K27 None)).mono (K28 None)).mono (K29 None)).mono (K30 None)).mono (K31 None)).mono (K32 None)).mono (K33 None))
 have f26 := (((((((((((((((((((((hE12.mono (K13 None)).mono (K14 None)).mono (K15 None)).mono (K16 None)).mono (K17 None)).mono (K18 None)).mono (K19 None)).mono (K20 None)).mono (K21 None)).mono (K22 None)).mono (K23 None)).mono (K24 None)).mono (K25 None)).mono (K26 None)).mono (K27 None)).mono (K28 None)).mono (K29 None)).mono (K30 None)).mono (K31 None)).mono (K32 None)).mono (K33 None))
 have f27 := (((((hE23.mono (K29 None)).mono (K30 None)).mono (K31 None)).mono (K32 None)).mono (K33 None))
 refine zag (zay en29 rfl rfl (vCheck_w N [(RVar.mk 1 (-9) 9 0 false)] (RClause.mk [] [0] [] [(Constraint.mk (Linear.mk (-5) [(Coef.mk 0 2)]) true)] [] [] []) (Refut.mk 2 0 0 (Proof.mk [(Step.mk [(Use.mk 2 r10)] r11), (Step.mk [(Use.mk 3 r12)] r13), (Step.mk [(Use.mk 4 r14), (Use.mk 5 r15)] r16)] [] (Big.mk false []) []) []) (osv (some b1) 0 1 1) zN (osv (some b9) 0 1 1) zN (osv (some b11) 0 1 1) zN zN zN (osv (some b16) 0 3 3) zN zN zN zN _ Any (zel (pre := []) (o := 0) (n := 1) (cap := 1) (hL33.at 6 rfl rfl) f24 vw_any rfl rfl rfl hc3) zdk (zel (pre := []) (o := 0) (n := 1) (cap := 1) (hL33.at 5 rfl rfl) f25 vw_any rfl rfl rfl hc10) zdk (zel (pre := []) (o := 0) (n := 1) (cap := 1) (hL33.at 4 rfl rfl) f26 vw_any rfl rfl rfl hc12) zdk zdk zdk (zel (pre := []) (o := 0) (n := 3) (cap := 3) (hL33.at 2 rfl rfl) f27 vw_any rfl rfl rfl hc16) zdk zdk zdk zdk r17 q17) ?_)
 rintro _ w30 hE24 ⟨rfl, -⟩
 obtain ⟨hL34, K34⟩ := zl hL33 hE24
 refine zag (zai (v := (zab r17)) rfl ?_)
 by_cases hc17 : r17 = true
 ·
  replace h := ite_t hc17 h
  refine zbt rfl rfl hc17 (zbj (vs := [(zI 2), (zI 0), (zI 0), (osv (some b16) 0 3 3), zN, zF, zN, zN, zN]) zaz rfl ti73 rfl (hL34.at 0 rfl rfl) rfl rfl ?_)
  obtain ⟨r18, q18, h⟩ := zec h
  have f28 := (f27.mono (K34 None))
  refine zbt rfl rfl hc17 (zay en33 rfl rfl (vFormat_w N (Refut.mk 2 0 0 (Proof.mk [(Step.mk [(Use.mk 2 r10)] r11), (Step.mk [(Use.mk 3 r12)] r13), (Step.mk [(Use.mk 4 r14), (Use.mk 5 r15)] r16)] [] (Big.mk false []) []) []) (osv (some b16) 0 3 3) zN zN zN zN _ Any (hG.ext hL34.done) (zel (pre := []) (o := 0) (n := 3) (cap := 3) (hL34.at 2 rfl rfl) f28 vw_any rfl rfl rfl hc16) zdk zdk zdk zdk r18 q18) ?_)
  rintro _ w31 hE25 ⟨rfl, -⟩
  obtain ⟨hL35, K35⟩ := zl hL34 hE25
  refine zbt rfl rfl hc17 (OpY.sEql (x := r18) (y := ([105, 110, 116, 101, 103, 101, 114, 115, 32, 51] : List UInt8)) rfl rfl ?_)
  refine zag (zce (t := r17) (v := (zab (decide (r18 = ([105, 110, 116, 101, 103, 101, 114, 115, 32, 51] : List UInt8))))) rfl hc17 rfl ?_)
  refine zag (zai (v := (zab (decide (r18 = ([105, 110, 116, 101, 103, 101, 114, 115, 32, 51] : List UInt8))))) rfl ?_)
  by_cases hc18 : r18 = ([105, 110, 116, 101, 103, 101, 114, 115, 32, 51] : List UInt8)
  ·
   replace h := ite_t hc18 h
   refine zbt rfl rfl (zef hc18) (zai (v := (osv (some b1) 0 1 1)) rfl ?_)
   have hE26 : Els rI (vH w None [some b18, some b17, some b16, some b12, some b11, some b9, some b1] w31) [(zI 0)] [0] := (zcp (a := [(zI 0)]) rfl zcm)
   refine zbt rfl rfl (zef hc18) (zch (r := rI) (vs := [(zI 0)]) (css := [[(zI 0)]]) (xs := [0]) zav ti3 (zae rfl) rfl rfl ⟨rfl, rfl, trivial⟩ (zae rfl) hE26 rfl hL35 ?_)
   intro b19 w32 hc19 hL36 hS23
   have K36 := ks w hS23
   refine zbt rfl rfl (zef hc18) (zcc (zc := [zN, zN, zN, zN, zN, zN, zN]) (cs := [(osv (some b19) 0 1 1), zN, zN, zN, zN, zN, zN]) (is := [0]) (vs := [(osv (some b19) 0 1 1)]) (css := [[(osv (some b19) 0 1 1)]]) pl29 ti29 rfl rfl rfl ⟨(zen (zem (some b19) 0 1 1)), trivial⟩ rfl ?_)
   refine zbt rfl rfl (zef hc18) (zcc (zc := [(zI 0), (zI 0), (zI 0), zN, zN, zF, zN, zN, zN]) (cs := [(zI 0), (zI 0), (zI 0), zN, zN, zF, zN, zN, zN]) (is := []) (vs := []) (css := []) pl73 ti73 rfl rfl rfl trivial rfl ?_)
   obtain ⟨r19, q19, h⟩ := zec h
   have f29 := (((f24.mono (K34 None)).mono (K35 None)).mono (K36 None))
   have f30 := (hE26.mono (K36 None))
   refine zbt rfl rfl (zef hc18) (zay en29 rfl rfl (vCheck_w N [(RVar.mk 1 (-9) 9 0 false)] (RClause.mk [0] [] [] [] [] [] []) (Refut.mk 0 0 0 (Proof.mk [] [] (Big.mk false []) []) []) (osv (some b1) 0 1 1) (osv (some b19) 0 1 1) zN zN zN zN zN zN zN zN zN zN zN _ Any (zel (pre := []) (o := 0) (n := 1) (cap := 1) (hL36.at 7 rfl rfl) f29 vw_any rfl rfl rfl hc3) (zel (pre := []) (o := 0) (n := 1) (cap := 1) (hL36.at 0 rfl rfl) f30 vw_any rfl rfl rfl hc19) zdk zdk zdk zdk zdk zdk zdk zdk zdk zdk zdk r19 q19) ?_)
   rintro _ w33 hE27 ⟨rfl, -⟩
   obtain ⟨hL37, K37⟩ := zl hL36 hE27
   refine zag (zce (t := (decide (r18 = ([105, 110, 116, 101, 103, 101, 114, 115, 32, 51] : List UInt8)))) (v := (zab r19)) rfl (zef hc18) rfl ?_)
   refine zag (zai (v := (zab r19)) rfl ?_)
   by_cases hc20 : r19 = true
   ·
    replace h := ite_t hc20 h
    refine zbt rfl rfl hc20 (zai (v := (osv (some b1) 0 1 1)) rfl ?_)
    have hE28 : Els rI (vH w None [some b19, some b18, some b17, some b16, some b12, some b11, some b9, some b1] w33) [(zI 0)] [0] := (zcp (a := [(zI 0)]) rfl zcm)
    refine zbt rfl rfl hc20 (zch (r := rI) (vs := [(zI 0)]) (css := [[(zI 0)]]) (xs := [0]) zav ti3 (zae rfl) rfl rfl ⟨rfl, rfl, trivial⟩ (zae rfl) hE28 rfl hL37 ?_)
    intro b20 w34 hc21 hL38 hS24
    have K38 := ks w hS24
    refine zbt rfl rfl hc20 (zcc (zc := [zN, zN, zN, zN, zN, zN, zN]) (cs := [zN, (osv (some b20) 0 1 1), zN, zN, zN, zN, zN]) (is := [1]) (vs := [(osv (some b20) 0 1 1)]) (css := [[(osv (some b20) 0 1 1)]]) pl29 ti29 rfl rfl rfl ⟨(zen (zem (some b20) 0 1 1)), trivial⟩ rfl ?_)
    refine zbt rfl rfl hc20 (zcc (zc := [(zI 0), (zI 0), (zI 0), zN, zN, zF, zN, zN, zN]) (cs := [(zI 0), (zI 0), (zI 0), zN, zN, zF, zN, zN, zN]) (is := []) (vs := []) (css := []) pl73 ti73 rfl rfl rfl trivial rfl ?_)
    obtain ⟨r20, q20, h⟩ := zec h
    have f31 := ((f29.mono (K37 None)).mono (K38 None))
    have f32 := (hE28.mono (K38 None))
    refine zbt rfl rfl hc20 (zay en29 rfl rfl (vCheck_w N [(RVar.mk 1 (-9) 9 0 false)] (RClause.mk [] [0] [] [] [] [] []) (Refut.mk 0 0 0 (Proof.mk [] [] (Big.mk false []) []) []) (osv (some b1) 0 1 1) zN (osv (some b20) 0 1 1) zN zN zN zN zN zN zN zN zN zN _ Any (zel (pre := []) (o := 0) (n := 1) (cap := 1) (hL38.at 8 rfl rfl) f31 vw_any rfl rfl rfl hc3) zdk (zel (pre := []) (o := 0) (n := 1) (cap := 1) (hL38.at 0 rfl rfl) f32 vw_any rfl rfl rfl hc21) zdk zdk zdk zdk zdk zdk zdk zdk zdk zdk r20 q20) ?_)
    rintro _ w35 hE29 ⟨rfl, -⟩
    have hL39 := hL38.ext hE29
    refine zbt rfl rfl hc20 (zeb (x := r20) rfl ?_)
    refine zag (zce (t := r19) (v := (zab (!r20))) rfl hc20 rfl ?_)
    refine zag (zak (v := (zab (!r20))) rfl ?_)
    refine zan (zbi ?_)
    obtain rfl := zah h
    refine ⟨[(zab (!r20))], zrt, ⟨_, rfl, hL39.done, ?_⟩⟩
    exact zrt
   exact absurd ((zah (ite_f hc20 h)).trans hr) Bool.false_ne_true
  exact absurd ((zah (ite_f hc18 h)).trans hr) Bool.false_ne_true
 exact absurd ((zah (ite_f hc17 h)).trans hr) Bool.false_ne_true
theorem awake_w (N : Nat) (w : World) (S : Nat → Prop) (hG : G w) (r : Bool) (h : awake N = some r) :
  Calls Tryz.prog 10 #[] w (Ret w (fun v w' => (zab r) = v ∧ True)) := awake_w0 N w S hG r h (awake_true h)
theorem lawText_w (N : Nat) (pa : Refut) (pa_v : Value) (pa_v1 : Value) (pa_v2 : Value) (pa_v3 : Value) (pa_v4 : Value) (w : World) (S : Nat → Prop) (hG : G w) (pa_h : Rs rStep (vH w S [] w) pa_v pa.Proof.Steps) (pa_h1 : Rs rBig (vH w S [] w) pa_v1 pa.Proof.Form) (pa_h2 : Rs (rInt .u32) (vH w S [] w) pa_v2 pa.Proof.Bound.Digits) (pa_h3 : Rs rProof (vH w S [] w) pa_v3 pa.Proof.Children) (pa_h4 : Rs rRefut (vH w S [] w) pa_v4 pa.Children) (r : Bool) (h : lawText N pa = some r) :
  Calls Tryz.prog 9 #[(zap #[(zI pa.Kind), (zI pa.Var), (zI pa.At), pa_v, pa_v1, (zab pa.Proof.Bound.Negative), pa_v2, pa_v3, pa_v4])] w (Ret w (fun v w' => (zab r) = v ∧ True)) := by
 unfold lawText at h
 have hL : vL w w [] [] := Go.X.Loc.begin0 w
 refine calls_of (l := [(zap #[(zI pa.Kind), (zI pa.Var), (zI pa.At), pa_v, pa_v1, (zab pa.Proof.Bound.Negative), pa_v2, pa_v3, pa_v4])]) (rl := [.tmp 2]) (n := 23) Tryz.func9 rfl rfl rfl (zae rfl) ?_
 refine zaj (zaf rfl (zag (zdj (cs := [(zI pa.Kind), (zI pa.Var), (zI pa.At), pa_v, pa_v1, (zab pa.Proof.Bound.Negative), pa_v2, pa_v3, pa_v4]) rfl rfl hL ?_)))
 intro b1 w2 hL3 hS5
 have K4 := ks w hS5
 refine zag (zak (v := zF) rfl ?_)
 refine zan (zaj (zaj ?_))
 obtain ⟨s10, h, g10⟩ := zec h
 refine zbs (fun e w' => ∃ (x10 : Bool) (u : Env), x10 = s10 ∧ e = upds [(1, (zal (some ⟨b1, 0, none⟩))), (9, (zab x10))] u ∧ vL w w' [some b1] [zac [(zI pa.Kind), (zI pa.Var), (zI pa.At), pa_v, pa_v1, (zab pa.Proof.Bound.Negative), pa_v2, pa_v3, pa_v4]] ∧ Keep w.heap.size [some b1] w2 [some b1] w' ∧ True) ?_ ?_
 ·
  refine zaf rfl ?_
  obtain ⟨r10, q10, h⟩ := zec h
  refine zag (zay en10 rfl rfl (awake_w N _ Any (hG.ext hL3.done) r10 q10) ?_)
  rintro _ w10 hE10 ⟨rfl, -⟩
  obtain ⟨hL10, K10⟩ := zl hL3 hE10
  refine zag (zeb (x := r10) rfl ?_)
  refine zag (zai (v := (zab (!r10))) rfl ?_)
  by_cases hc10 : (!r10) = true
  ·
   replace h := ite_t hc10 h
   refine zcl rfl rfl hc10 ?_
   refine zcl rfl rfl hc10 ?_
   refine zcl rfl rfl hc10 ?_
   refine zag (zce (t := (!r10)) (v := zT) rfl hc10 rfl (zan ?_))
   obtain rfl := zah h
   refine zaq ?_
   exact ⟨true, _, rfl, (zeg ⟨rfl, rfl, trivial⟩), hL10, K10, trivial⟩
  replace h := ite_f hc10 h
  refine zbt rfl rfl (zeh hc10) (zbj (vs := [(zI pa.Kind), (zI pa.Var), (zI pa.At), pa_v, pa_v1, (zab pa.Proof.Bound.Negative), pa_v2, pa_v3, pa_v4]) zaz rfl ti73 rfl (hL10.at 0 rfl rfl) rfl rfl ?_)
  obtain ⟨r11, q11, h⟩ := zec h
  have f10 := ((pa_h.mono (K4 S)).mono (K10 S))
  have f11 := ((pa_h1.mono (K4 S)).mono (K10 S))
  have f12 := ((pa_h2.mono (K4 S)).mono (K10 S))
  have f13 := ((pa_h3.mono (K4 S)).mono (K10 S))
  have f14 := ((pa_h4.mono (K4 S)).mono (K10 S))
  refine zbt rfl rfl (zeh hc10) (zay en28 rfl rfl (wSmall_w N pa pa_v pa_v1 pa_v2 pa_v3 pa_v4 _ Any (f10.mono vw_any) (f11.mono vw_any) (f12.mono vw_any) (f13.mono vw_any) (f14.mono vw_any) r11 q11) ?_)
  rintro _ w11 hE11 ⟨rfl, -⟩
  obtain ⟨hL11, K11⟩ := zl hL10 hE11
  refine zbt rfl rfl (zeh hc10) (zeb (x := r11) rfl ?_)
  refine zag (zcv (t := (!r10)) (v := (zab (!r11))) rfl (zeh hc10) rfl (zan ?_))
  obtain rfl := zah h
  refine zaq ?_
  exact ⟨(!r11), _, rfl, (zeg ⟨rfl, rfl, trivial⟩), hL11, (zao K10 K11), trivial⟩
 rintro _ w12 ⟨x10, u, rfl, rfl, hL12, K12, -⟩
 replace h := g10
 try dsimp only at h
 refine zcq x10 rfl (fun hc11 => ?_) (fun hc11 => ?_)
 ·
  replace h := ite_t hc11 h
  refine zaj (zaf rfl ?_)
  obtain ⟨r12, q12, h⟩ := zec h
  refine zag (zay en10 rfl rfl (awake_w N _ Any (hG.ext hL12.done) r12 q12) ?_)
  rintro _ w13 hE12 ⟨rfl, -⟩
  have hL13 := hL12.ext hE12
  refine zag (zak (v := (zab r12)) rfl ?_)
  refine zan (zbi ?_)
  obtain rfl := zah h
  refine ⟨[(zab r12)], zrt, ⟨_, rfl, hL13.done, ?_⟩⟩
  exact zrt
 replace h := ite_f hc11 h
 refine zbf (zaj ?_)
 obtain ⟨r13, q13, h⟩ := zec h
 obtain ⟨r14, q14, h⟩ := zec h
 by_cases hc12 : (r13 : Int) = r14
 ·
  replace h := ite_t hc12 h
  obtain ⟨r15, q15, h⟩ := zec h
  refine zcj 9 [] [] (fun W1 => [.det (zap #[(zI pa.Kind), (zI pa.Var), (zI pa.At), pa_v, pa_v1, (zab pa.Proof.Bound.Negative), pa_v2, pa_v3, pa_v4]), .det (zI r13), .det (zap #[(zI pa.Kind), (zI pa.Var), (zI pa.At), pa_v, pa_v1, (zab pa.Proof.Bound.Negative), pa_v2, pa_v3, pa_v4]), .det (zI r14), .det (zab (decide ((r13 : Int) = r14))), .det (zab (decide ((r13 : Int) = r14))), .det (zap #[(zI pa.Kind), (zI pa.Var), (zI pa.At), pa_v, pa_v1, (zab pa.Proof.Bound.Negative), pa_v2, pa_v3, pa_v4]), .det (zS r15), .det (zap #[(zI pa.Kind), (zI pa.Var), (zI pa.At), pa_v, pa_v1, (zab pa.Proof.Bound.Negative), pa_v2, pa_v3, pa_v4])]) mixed rfl rfl rfl (fun _ => rfl) (fun _ => rfl) ?_ ?_
  ·
   intro W1 _
   exact trivial
  intro w14 hE13
  obtain ⟨hL14, K13⟩ := zl hL12 hE13
  refine zat (fun _ hE14 => zaw (zbj (vs := [(zI pa.Kind), (zI pa.Var), (zI pa.At), pa_v, pa_v1, (zab pa.Proof.Bound.Negative), pa_v2, pa_v3, pa_v4]) zaz rfl ti73 rfl ((hL14.ext hE14).at 0 rfl rfl) rfl rfl (er rfl))) ?_
  refine DrH.det ?_ ?_
  ·
   rintro w16 Z20 hE15 hZ11 ⟨-⟩
   have K14 := ke hL14 hE15
   refine zaw (zay en31 rfl rfl (vSize_w N pa pa_v pa_v1 pa_v2 pa_v3 pa_v4 _ Any (((((pa_h.mono (K4 S)).mono (K12 S)).mono (K13 S)).mono (K14 S)).mono vw_any) (((((pa_h1.mono (K4 S)).mono (K12 S)).mono (K13 S)).mono (K14 S)).mono vw_any) (((((pa_h2.mono (K4 S)).mono (K12 S)).mono (K13 S)).mono (K14 S)).mono vw_any) (((((pa_h3.mono (K4 S)).mono (K12 S)).mono (K13 S)).mono (K14 S)).mono vw_any) (((((pa_h4.mono (K4 S)).mono (K12 S)).mono (K13 S)).mono (K14 S)).mono vw_any) r13 q13) ?_)
   rintro _ w17 hE16 ⟨rfl, -⟩
   exact ⟨hE16, rfl⟩
  refine zat (fun _ hE17 => zaw (zbj (vs := [(zI pa.Kind), (zI pa.Var), (zI pa.At), pa_v, pa_v1, (zab pa.Proof.Bound.Negative), pa_v2, pa_v3, pa_v4]) zaz rfl ti73 rfl ((hL14.ext hE17).at 0 rfl rfl) rfl rfl (er rfl))) ?_
  refine DrH.det ?_ ?_
  ·
   rintro w19 Z23 hE18 hZ13 ⟨-⟩
   have K15 := ke hL14 hE18
   refine zaw (zay en32 rfl rfl (wSize_w N pa pa_v pa_v1 pa_v2 pa_v3 pa_v4 _ Any (((((pa_h.mono (K4 S)).mono (K12 S)).mono (K13 S)).mono (K15 S)).mono vw_any) (((((pa_h1.mono (K4 S)).mono (K12 S)).mono (K13 S)).mono (K15 S)).mono vw_any) (((((pa_h2.mono (K4 S)).mono (K12 S)).mono (K13 S)).mono (K15 S)).mono vw_any) (((((pa_h3.mono (K4 S)).mono (K12 S)).mono (K13 S)).mono (K15 S)).mono vw_any) (((((pa_h4.mono (K4 S)).mono (K12 S)).mono (K13 S)).mono (K15 S)).mono vw_any) r14 q14) ?_)
   rintro _ w20 hE19 ⟨rfl, -⟩
   exact ⟨hE19, rfl⟩
  refine zat (fun _ _ => zaw (zdp (x := r13) (y := r14) ((r13 : Int) = r14) rfl rfl zbd (er rfl))) ?_
  refine zat (fun _ _ => zaw (zai rfl (er rfl))) ?_
  refine zat (fun _ hE22 => zdc rfl rfl (zef hc12) (zbj (vs := [(zI pa.Kind), (zI pa.Var), (zI pa.At), pa_v, pa_v1, (zab pa.Proof.Bound.Negative), pa_v2, pa_v3, pa_v4]) zaz rfl ti73 rfl ((hL14.ext hE22).at 0 rfl rfl) rfl rfl (er rfl))) ?_
  refine DrH.det ?_ ?_
  ·
   rintro w24 Z27 hE23 hZ17 ⟨-⟩
   have K16 := ke hL14 hE23
   refine zdc rfl rfl (zef hc12) (zay en33 rfl rfl (vFormat_w N pa pa_v pa_v1 pa_v2 pa_v3 pa_v4 _ Any (hG.ext (hL14.done.trans hE23)) (((((pa_h.mono (K4 S)).mono (K12 S)).mono (K13 S)).mono (K16 S)).mono vw_any) (((((pa_h1.mono (K4 S)).mono (K12 S)).mono (K13 S)).mono (K16 S)).mono vw_any) (((((pa_h2.mono (K4 S)).mono (K12 S)).mono (K13 S)).mono (K16 S)).mono vw_any) (((((pa_h3.mono (K4 S)).mono (K12 S)).mono (K13 S)).mono (K16 S)).mono vw_any) (((((pa_h4.mono (K4 S)).mono (K12 S)).mono (K13 S)).mono (K16 S)).mono vw_any) r15 q15) ?_)
   rintro _ w25 hE24 ⟨rfl, -⟩
   exact ⟨hE24, rfl⟩
  refine zat (fun _ hE25 => zdc rfl rfl (zef hc12) (zbj (vs := [(zI pa.Kind), (zI pa.Var), (zI pa.At), pa_v, pa_v1, (zab pa.Proof.Bound.Negative), pa_v2, pa_v3, pa_v4]) zaz rfl ti73 rfl ((hL14.ext hE25).at 0 rfl rfl) rfl rfl (er rfl))) ?_
  refine zcx ?_
  rintro w27 Z29 hE26 hZ19 ⟨-⟩ ap10
  have hB10 := @zhb w14 Z29
  obtain ⟨hL19, K17⟩ := zl hL14 hE26
  obtain ⟨r16, q16, h⟩ := zec h
  have f15 := ((((pa_h.mono (K4 S)).mono (K12 S)).mono (K13 S)).mono (K17 S))
  have f16 := ((((pa_h1.mono (K4 S)).mono (K12 S)).mono (K13 S)).mono (K17 S))
  have f17 := ((((pa_h2.mono (K4 S)).mono (K12 S)).mono (K13 S)).mono (K17 S))
  have f18 := ((((pa_h3.mono (K4 S)).mono (K12 S)).mono (K13 S)).mono (K17 S))
  have f19 := ((((pa_h4.mono (K4 S)).mono (K12 S)).mono (K13 S)).mono (K17 S))
  refine zbt rfl rfl (zef hc12) (zay en34 rfl rfl (wFormat_w N pa pa_v pa_v1 pa_v2 pa_v3 pa_v4 _ Any (f15.mono vw_any) (f16.mono vw_any) (f17.mono vw_any) (f18.mono vw_any) (f19.mono vw_any) r16 q16) ?_)
  rintro _ w28 hE27 ⟨rfl, -⟩
  have hL20 := hL19.ext hE27
  refine zbt rfl rfl (zef hc12) (OpY.sEql (x := r15) (y := r16) rfl rfl ?_)
  refine zag (zce (t := (decide ((r13 : Int) = r14))) (v := (zab (decide (r15 = r16)))) rfl (zef hc12) rfl ?_)
  refine zag (zak (v := (zab (decide (r15 = r16)))) rfl ?_)
  refine zan (zbi ?_)
  obtain rfl := zah h
  refine ⟨[(zab (decide (r15 = r16)))], zrt, ⟨_, rfl, hL20.done, ?_⟩⟩
  exact zrt
 replace h := ite_f hc12 h
 refine zcj 9 [] [] (fun W1 => [.det (zap #[(zI pa.Kind), (zI pa.Var), (zI pa.At), pa_v, pa_v1, (zab pa.Proof.Bound.Negative), pa_v2, pa_v3, pa_v4]), .det (zI r13), .det (zap #[(zI pa.Kind), (zI pa.Var), (zI pa.At), pa_v, pa_v1, (zab pa.Proof.Bound.Negative), pa_v2, pa_v3, pa_v4]), .det (zI r14), .det (zab (decide ((r13 : Int) = r14))), .det (zab (decide ((r13 : Int) = r14))), .det undef, .det undef, .det undef]) mixed rfl rfl rfl (fun _ => rfl) (fun _ => rfl) ?_ ?_
 ·
  intro W1 _
  exact trivial
 intro w29 hE28
 obtain ⟨hL21, K18⟩ := zl hL12 hE28
 refine zat (fun _ hE29 => zaw (zbj (vs := [(zI pa.Kind), (zI pa.Var), (zI pa.At), pa_v, pa_v1, (zab pa.Proof.Bound.Negative), pa_v2, pa_v3, pa_v4]) zaz rfl ti73 rfl ((hL21.ext hE29).at 0 rfl rfl) rfl rfl (er rfl))) ?_
 refine DrH.det ?_ ?_
 ·
  rintro w31 Z31 hE30 hZ21 ⟨-⟩
  have K19 := ke hL21 hE30
  refine zaw (zay en31 rfl rfl (vSize_w N pa pa_v pa_v1 pa_v2 pa_v3 pa_v4 _ Any (((((pa_h.mono (K4 S)).mono (K12 S)).mono (K18 S)).mono (K19 S)).mono vw_any) (((((pa_h1.mono (K4 S)).mono (K12 S)).mono (K18 S)).mono (K19 S)).mono vw_any) (((((pa_h2.mono (K4 S)).mono (K12 S)).mono (K18 S)).mono (K19 S)).mono vw_any) (((((pa_h3.mono (K4 S)).mono (K12 S)).mono (K18 S)).mono (K19 S)).mono vw_any) (((((pa_h4.mono (K4 S)).mono (K12 S)).mono (K18 S)).mono (K19 S)).mono vw_any) r13 q13) ?_)
  rintro _ w32 hE31 ⟨rfl, -⟩
  exact ⟨hE31, rfl⟩
 refine zat (fun _ hE32 => zaw (zbj (vs := [(zI pa.Kind), (zI pa.Var), (zI pa.At), pa_v, pa_v1, (zab pa.Proof.Bound.Negative), pa_v2, pa_v3, pa_v4]) zaz rfl ti73 rfl ((hL21.ext hE32).at 0 rfl rfl) rfl rfl (er rfl))) ?_
 refine DrH.det ?_ ?_
 ·
  rintro w34 Z33 hE33 hZ23 ⟨-⟩
  have K20 := ke hL21 hE33
  refine zaw (zay en32 rfl rfl (wSize_w N pa pa_v pa_v1 pa_v2 pa_v3 pa_v4 _ Any (((((pa_h.mono (K4 S)).mono (K12 S)).mono (K18 S)).mono (K20 S)).mono vw_any) (((((pa_h1.mono (K4 S)).mono (K12 S)).mono (K18 S)).mono (K20 S)).mono vw_any) (((((pa_h2.mono (K4 S)).mono (K12 S)).mono (K18 S)).mono (K20 S)).mono vw_any) (((((pa_h3.mono (K4 S)).mono (K12 S)).mono (K18 S)).mono (K20 S)).mono vw_any) (((((pa_h4.mono (K4 S)).mono (K12 S)).mono (K18 S)).mono (K20 S)).mono vw_any) r14 q14) ?_)
  rintro _ w35 hE34 ⟨rfl, -⟩
  exact ⟨hE34, rfl⟩
 refine zat (fun _ _ => zaw (zdp (x := r13) (y := r14) ((r13 : Int) = r14) rfl rfl zbd (er rfl))) ?_
 refine zat (fun _ _ => zaw (zai rfl (er rfl))) ?_
 refine zat (fun _ _ => zdm rfl rfl (zed hc12) (er rfl)) ?_
 refine zat (fun _ _ => zdm rfl rfl (zed hc12) (er rfl)) ?_
 refine zat (fun _ _ => zdm rfl rfl (zed hc12) (er rfl)) ?_
 refine zcx ?_
 rintro w41 Z39 hE40 hZ29 ⟨-⟩ ap11
 have hB11 := @zhb w29 Z39
 have hL24 := hL21.ext hE40
 refine zcl rfl rfl (zed hc12) (zcl rfl rfl (zed hc12) ?_)
 refine zag (zcv (t := (decide ((r13 : Int) = r14))) (v := zF) rfl (zed hc12) rfl ?_)
 refine zag (zak (v := zF) rfl ?_)
 refine zan (zbi ?_)
 obtain rfl := zah h
 refine ⟨[zF], zrt, ⟨_, rfl, hL24.done, ?_⟩⟩
 exact zrt
end Go.Proofs.YtcakdidcpoolcaaGreatDoor.WL

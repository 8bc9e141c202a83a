/- Walks, written by a program of mine (wip/tool); the kernel checks them. -/
import Derived.Test.YtcakdidcpoolcaaGreatDoorProg
import Derived.Test.YtcakdidcpoolcaaGreatDoorSqInts
import Derived.Test.YtcakdidcpoolcaaGreatDoorF25
import Derived.Test.YtcakdidcpoolcaaGreatDoorA25
import Derived.Test.YtcakdidcpoolcaaGreatDoorPL
import Derived.Test.YtcakdidcpoolcaaGreatDoorWAInts
import Derived.Test.YtcakdidcpoolcaaGreatDoorWRInts
import Derived.Test.YtcakdidcpoolcaaGreatDoorWBInts
import Derived.Test.YtcakdidcpoolcaaGreatDoorWCInts
import Derived.Test.YtcakdidcpoolcaaGreatDoorWIInts
import Derived.Test.YtcakdidcpoolcaaGreatDoorWSInts
import Derived.Test.YtcakdidcpoolcaaGreatDoorWVInts
import Derived.Test.YtcakdidcpoolcaaGreatDoorWUInts
set_option maxRecDepth 100000
set_option maxHeartbeats 40000000
set_option linter.unusedVariables false
set_option linter.unusedSimpArgs false
namespace Go.Proofs.YtcakdidcpoolcaaGreatDoor.WL
open Go Go.RowKit Go.X Go.D Go.Proofs.YtcakdidcpoolcaaGreatDoor.WF Go.Proofs.YtcakdidcpoolcaaGreatDoor.WA Go.Proofs.YtcakdidcpoolcaaGreatDoor.WR Go.Proofs.YtcakdidcpoolcaaGreatDoor.WB Go.Proofs.YtcakdidcpoolcaaGreatDoor.WC Go.Proofs.YtcakdidcpoolcaaGreatDoor.WI Go.Proofs.YtcakdidcpoolcaaGreatDoor.WS Go.Proofs.YtcakdidcpoolcaaGreatDoor.WV Go.Proofs.YtcakdidcpoolcaaGreatDoor.WU
theorem en52 : Go.X.Enters Tryz.prog 52 := ⟨Tryz.f52, Tryz.func52, by kernel_rfl, by kernel_rfl⟩
theorem pl83 : placesT Tryz.prog 83 = some [(0, 1), (1, 1), (2, 1), (3, 1), (4, 1)] := by kernel_rfl
theorem pl29 : placesT Tryz.prog 29 = some [(0, 1), (1, 1), (2, 1), (3, 1), (4, 1), (5, 1), (6, 1)] := by kernel_rfl
theorem en21 : Go.X.Enters Tryz.prog 21 := ⟨Tryz.f21, Tryz.func21, by kernel_rfl, by kernel_rfl⟩
theorem pl94 : placesT Tryz.prog 94 = some [(0, 1), (1, 2)] := by kernel_rfl
theorem pl97 : placesT Tryz.prog 97 = some [(0, 1), (1, 2)] := by kernel_rfl
theorem pl70 : placesT Tryz.prog 70 = some [(0, 1), (1, 1), (2, 2), (4, 1)] := by kernel_rfl
theorem pl73 : placesT Tryz.prog 73 = some [(0, 1), (1, 1), (2, 1), (3, 5), (8, 1)] := by kernel_rfl
theorem en29 : Go.X.Enters Tryz.prog 29 := ⟨Tryz.f29, Tryz.func29, by kernel_rfl, by kernel_rfl⟩
theorem en33 : Go.X.Enters Tryz.prog 33 := ⟨Tryz.f33, Tryz.func33, by kernel_rfl, by kernel_rfl⟩
theorem ti22 : TI Tryz.prog 22 1 24 zN := TI.mk (by kernel_rfl)
theorem en35 : Go.X.Enters Tryz.prog 35 := ⟨Tryz.f35, Tryz.func35, by kernel_rfl, by kernel_rfl⟩
theorem en36 : Go.X.Enters Tryz.prog 36 := ⟨Tryz.f36, Tryz.func36, by kernel_rfl, by kernel_rfl⟩
theorem en37 : Go.X.Enters Tryz.prog 37 := ⟨Tryz.f37, Tryz.func37, by kernel_rfl, by kernel_rfl⟩
theorem en38 : Go.X.Enters Tryz.prog 38 := ⟨Tryz.f38, Tryz.func38, by kernel_rfl, by kernel_rfl⟩
theorem en10 : Go.X.Enters Tryz.prog 10 := ⟨Tryz.f10, Tryz.func10, by kernel_rfl, by kernel_rfl⟩
theorem ti33 : TI Tryz.prog 33 10 240 (zar #[zN, zN, zN, zN, zN, zN, zN, zN, zN, zN]) := TI.mk (by kernel_rfl)
theorem en11 : Go.X.Enters Tryz.prog 11 := ⟨Tryz.f11, Tryz.func11, by kernel_rfl, by kernel_rfl⟩
theorem en14 : Go.X.Enters Tryz.prog 14 := ⟨Tryz.f14, Tryz.func14, by kernel_rfl, by kernel_rfl⟩
theorem en13 : Go.X.Enters Tryz.prog 13 := ⟨Tryz.f13, Tryz.func13, by kernel_rfl, by kernel_rfl⟩
theorem lbig_w (N : Nat) (n : Int)  (w : World) (S : Nat → Prop)  (r : Big) (h : lbig N n = some r) :
  Calls Tryz.prog 21 #[(zI n)] w (Ret w (fun v w' => ∃ (v0_0 : Value), (zar #[(zab r.Negative), v0_0]) = v ∧ Rs (rInt .u32) (vH w None [] w') v0_0 r.Digits ∧ True)) := by
 unfold lbig at h
 have hL : vL w w [] [] := Go.X.Loc.begin0 w
 refine calls_of (l := [(zI n)]) (rl := [.cell 2 57]) (n := 5) Tryz.func21 rfl rfl rfl (zaf rfl) ?_
 refine zal (zah rfl (zag (zcl (cs := [zF, zN]) ti57 rfl hL ?_)))
 intro b1 w2 hL3 hS5
 refine zap (zal (zah rfl (zag (zai (v := (zI n)) rfl ?_))))
 obtain ⟨r6, q7, h⟩ := zen h
 refine zag (zbc en52 rfl rfl (rOf_w N n _ Any r6 q7) ?_)
 rintro _ w10 hE10 ⟨v8, rfl, k9, -⟩
 replace k9 := k9.mono (zcy (S := None) hL3 [])
 have hL10 := hL3.ext hE10
 refine zdc (zbw (vs := [(zab r6.Negative), v8]) ti57 rfl rfl rfl rfl (zep rfl (zep k9.one zet)) hL10 0 rfl rfl (zaf rfl) ?_)
 intro w11 (hL11 : vL w w11 [some b1] [zac [(zab r6.Negative), v8]]) hS10
 have K10 := ks w hS10
 refine zap (zbo ?_)
 obtain rfl := zae h
 refine ⟨[(zar #[(zab r6.Negative), v8])], ⟨⟨⟨b1, 0, none⟩, rfl, zey zav rfl ti57 (hL11.at 0 rfl rfl) rfl⟩, trivial⟩, ⟨_, rfl, hL11.done, ?_⟩⟩
 have f10 := (k9.mono (K10 None))
 exact ⟨v8, rfl, (f10.mono Hv.out), trivial⟩
theorem awake_w0 (N : Nat)   (w : World) (S : Nat → Prop)  (r : Bool) (h : awake N  = some r) (hr : r = true) :
  Calls Tryz.prog 10 #[] w (Ret w (fun v w' => (zab r) = v ∧ True)) := by
 unfold awake at h
 have hL : vL w w [] [] := Go.X.Loc.begin0 w
 refine calls_of (l := []) (rl := [.tmp 0]) (n := 59) Tryz.func10 rfl rfl rfl (zaf rfl) ?_
 refine zal (zah rfl (zag (zam (v := zF) rfl ?_)))
 refine zap (zal (zah rfl (zag (zcm (zc := [(zI 0), (zI 0), (zI 0), (zI 0), zF]) (cs := [(zI 1), (zI (-9)), (zI 9), (zI 0), zF]) (is := [0, 1, 2]) (vs := [(zI 1), (zI (-9)), (zI 9)]) (css := [[(zI 1)], [(zI (-9))], [(zI 9)]]) pl83 ti83 rfl rfl rfl ⟨rfl, rfl, rfl, trivial⟩ rfl ?_))))
 have hE2 : Els rRVar (vH w None [] w) [(zI 1), (zI (-9)), (zI 9), (zI 0), zF] [(RVar.mk 1 (-9) 9 0 false)] := (zdg (a := [(zI 1), (zI (-9)), (zI 9), (zI 0), zF]) (rRVar_close ⟨rfl, trivial⟩) zdh)
 refine zag (zda (r := rRVar) (vs := [(zar #[(zI 1), (zI (-9)), (zI 9), (zI 0), zF])]) (css := [[(zI 1), (zI (-9)), (zI 9), (zI 0), zF]]) (xs := [(RVar.mk 1 (-9) 9 0 false)]) zbm ti83 (zaf rfl) rfl rfl ⟨rfl, rfl, trivial⟩ (zaf rfl) hE2 rfl hL ?_)
 intro b1 w5 hc3 hL6 hS8
 have K7 := ks w hS8
 refine zag (zam (v := (osv (some b1) 0 1 1)) rfl ?_)
 refine zap (zal (zah rfl ?_))
 have hE10 : Els rI (vH w None [some b1] w5) [(zI 0)] [0] := (zdg (a := [(zI 0)]) rfl zdh)
 refine zag (zda (r := rI) (vs := [(zI 0)]) (css := [[(zI 0)]]) (xs := [0]) zbd ti3 (zaf rfl) rfl rfl ⟨rfl, rfl, trivial⟩ (zaf rfl) hE10 rfl hL6 ?_)
 intro b9 w10 hc10 hL10 hS10
 have K10 := ks w hS10
 refine zag (zcm (zc := [(zI 0), (zI 0)]) (cs := [(zI 0), (zI 2)]) (is := [0, 1]) (vs := [(zI 0), (zI 2)]) (css := [[(zI 0)], [(zI 2)]]) pl87 ti87 rfl rfl rfl ⟨rfl, rfl, trivial⟩ rfl ?_)
 have hE11 : Els rCoef (vH w None [some b9, some b1] w10) [(zI 0), (zI 2)] [(Coef.mk 0 2)] := (zdg (a := [(zI 0), (zI 2)]) (rCoef_close ⟨rfl, trivial⟩) zdh)
 refine zag (zda (r := rCoef) (vs := [(zar #[(zI 0), (zI 2)])]) (css := [[(zI 0), (zI 2)]]) (xs := [(Coef.mk 0 2)]) zay ti87 (zaf rfl) rfl rfl ⟨rfl, rfl, trivial⟩ (zaf rfl) hE11 rfl hL10 ?_)
 intro b10 w11 hc11 hL11 hS11
 have K11 := ks w hS11
 refine zag (zcm (zc := [(zI 0), zN]) (cs := [(zI (-5)), (osv (some b10) 0 1 1)]) (is := [0, 1]) (vs := [(zI (-5)), (osv (some b10) 0 1 1)]) (css := [[(zI (-5))], [(osv (some b10) 0 1 1)]]) pl90 ti90 rfl rfl rfl ⟨rfl, ⟨(zex (zev _ _ _ _)), trivial⟩⟩ rfl ?_)
 refine zag (zcm (zc := [(zI 0), zN, zF]) (cs := [(zI (-5)), (osv (some b10) 0 1 1), zT]) (is := [0, 1]) (vs := [(zar #[(zI (-5)), (osv (some b10) 0 1 1)]), zT]) (css := [[(zI (-5)), (osv (some b10) 0 1 1)], [zT]]) pl92 ti92 rfl rfl rfl ⟨rfl, rfl, trivial⟩ rfl ?_)
 have f10 := (hE11.mono (K11 None))
 have f11 := hL11.freezeRow 0 rfl rfl f10 rfl rfl rfl hc11
 have hp10 := hL11.pick [1, 2] rfl rfl rfl
 have hL12 : vL w w11 [some b9, some b1] [zac ([] ++ ([(zI 0)] ++ [])), zac ([] ++ ([(zI 1), (zI (-9)), (zI 9), (zI 0), zF] ++ []))] := hp10.1
 have K12 := ks w hp10.2
 have hE12 : Els rConstraint (vH w None [some b9, some b1] w11) [(zI (-5)), (osv (some b10) 0 1 1), zT] [(Constraint.mk (Linear.mk (-5) [(Coef.mk 0 2)]) true)] := (zdg (a := [(zI (-5)), (osv (some b10) 0 1 1), zT]) (rConstraint_close ⟨(osv (some b10) 0 1 1), rfl, f11, trivial⟩) zdh)
 refine zag (zda (r := rConstraint) (vs := [(zar #[(zI (-5)), (osv (some b10) 0 1 1), zT])]) (css := [[(zI (-5)), (osv (some b10) 0 1 1), zT]]) (xs := [(Constraint.mk (Linear.mk (-5) [(Coef.mk 0 2)]) true)]) zbb ti92 (zaf rfl) rfl rfl ⟨rfl, rfl, trivial⟩ (zaf rfl) hE12 rfl hL12 ?_)
 intro b11 w12 hc12 hL13 hS12
 have K13 := ks w hS12
 refine zag (zcm (zc := [zN, zN, zN, zN, zN, zN, zN]) (cs := [zN, (osv (some b9) 0 1 1), zN, (osv (some b11) 0 1 1), zN, zN, zN]) (is := [1, 3]) (vs := [(osv (some b9) 0 1 1), (osv (some b11) 0 1 1)]) (css := [[(osv (some b9) 0 1 1)], [(osv (some b11) 0 1 1)]]) pl29 ti29 rfl rfl rfl ⟨(zex (zev (some b9) 0 1 1)), ⟨(zex (zev (some b11) 0 1 1)), trivial⟩⟩ rfl ?_)
 refine zag (zcl (cs := [zN, zN, zN, zN, zN, zN, zN]) ti29 rfl hL13 ?_)
 intro b12 w13 hL14 hS13
 have K14 := ks w hS13
 refine zdc (zbw (vs := [zN, (osv (some b9) 0 1 1), zN, (osv (some b11) 0 1 1), zN, zN, zN]) ti29 rfl rfl rfl rfl (zep rfl (zep (zev (some b9) 0 1 1) (zep rfl (zep (zev (some b11) 0 1 1) (zep rfl (zep rfl (zep rfl zet))))))) hL14 0 rfl rfl (zaf rfl) ?_)
 intro w14 (hL15 : vL w w14 [some b12, some b11, some b9, some b1] [zac [zN, (osv (some b9) 0 1 1), zN, (osv (some b11) 0 1 1), zN, zN, zN], zac ([] ++ ([(zI (-5)), (osv (some b10) 0 1 1), zT] ++ [])), zac ([] ++ ([(zI 0)] ++ [])), zac ([] ++ ([(zI 1), (zI (-9)), (zI 9), (zI 0), zF] ++ []))]) hS14
 have K15 := ks w hS14
 refine zap (zal (zah rfl ?_))
 obtain ⟨r10, q10, h⟩ := zen h
 refine zag (zbc en21 rfl rfl (lbig_w N 1 _ Any r10 q10) ?_)
 rintro _ w15 hE13 ⟨v10, rfl, k10, -⟩
 replace k10 := k10.mono (zcy (S := None) hL15 [])
 obtain ⟨hL16, K16⟩ := zl hL15 hE13
 refine zag (zcm (zc := [(zI 0), zF, zN]) (cs := [(zI 2), (zab r10.Negative), v10]) (is := [0, 1]) (vs := [(zI 2), (zar #[(zab r10.Negative), v10])]) (css := [[(zI 2)], [(zab r10.Negative), v10]]) pl94 ti94 rfl rfl rfl ⟨rfl, rfl, trivial⟩ rfl ?_)
 have hE14 : Els rUse (vH w None [some b12, some b11, some b9, some b1] w15) [(zI 2), (zab r10.Negative), v10] [(Use.mk 2 r10)] := (zdg (a := [(zI 2), (zab r10.Negative), v10]) (rUse_close ⟨v10, rfl, k10, trivial⟩) zdh)
 refine zag (zda (r := rUse) (vs := [(zar #[(zI 2), (zab r10.Negative), v10])]) (css := [[(zI 2), (zab r10.Negative), v10]]) (xs := [(Use.mk 2 r10)]) Tryz.underlying95 ti94 (zaf rfl) rfl rfl ⟨rfl, rfl, trivial⟩ (zaf rfl) hE14 rfl hL16 ?_)
 intro b13 w16 hc13 hL17 hS15
 have K17 := ks w hS15
 obtain ⟨r11, q11, h⟩ := zen h
 refine zag (zbc en21 rfl rfl (lbig_w N 2 _ Any r11 q11) ?_)
 rintro _ w17 hE15 ⟨v11, rfl, k11, -⟩
 replace k11 := k11.mono (zcy (S := None) hL17 [])
 obtain ⟨hL18, K18⟩ := zl hL17 hE15
 refine zag (zcm (zc := [zN, zF, zN]) (cs := [(osv (some b13) 0 1 1), (zab r11.Negative), v11]) (is := [0, 1]) (vs := [(osv (some b13) 0 1 1), (zar #[(zab r11.Negative), v11])]) (css := [[(osv (some b13) 0 1 1)], [(zab r11.Negative), v11]]) pl97 ti97 rfl rfl rfl ⟨(zex (zev _ _ _ _)), zrt⟩ rfl ?_)
 obtain ⟨r12, q12, h⟩ := zen h
 refine zag (zbc en21 rfl rfl (lbig_w N 1 _ Any r12 q12) ?_)
 rintro _ w18 hE16 ⟨v12, rfl, k12, -⟩
 replace k12 := k12.mono (zcy (S := None) hL18 [])
 obtain ⟨hL19, K19⟩ := zl hL18 hE16
 refine zag (zcm (zc := [(zI 0), zF, zN]) (cs := [(zI 3), (zab r12.Negative), v12]) (is := [0, 1]) (vs := [(zI 3), (zar #[(zab r12.Negative), v12])]) (css := [[(zI 3)], [(zab r12.Negative), v12]]) pl94 ti94 rfl rfl rfl ⟨rfl, rfl, trivial⟩ rfl ?_)
 have hE17 : Els rUse (vH w None [some b13, some b12, some b11, some b9, some b1] w18) [(zI 3), (zab r12.Negative), v12] [(Use.mk 3 r12)] := (zdg (a := [(zI 3), (zab r12.Negative), v12]) (rUse_close ⟨v12, rfl, k12, trivial⟩) zdh)
 refine zag (zda (r := rUse) (vs := [(zar #[(zI 3), (zab r12.Negative), v12])]) (css := [[(zI 3), (zab r12.Negative), v12]]) (xs := [(Use.mk 3 r12)]) Tryz.underlying95 ti94 (zaf rfl) rfl rfl ⟨rfl, rfl, trivial⟩ (zaf rfl) hE17 rfl hL19 ?_)
 intro b14 w19 hc14 hL20 hS16
 have K20 := ks w hS16
 obtain ⟨r13, q13, h⟩ := zen h
 refine zag (zbc en21 rfl rfl (lbig_w N 2 _ Any r13 q13) ?_)
 rintro _ w20 hE18 ⟨v13, rfl, k13, -⟩
 replace k13 := k13.mono (zcy (S := None) hL20 [])
 obtain ⟨hL21, K21⟩ := zl hL20 hE18
 refine zag (zcm (zc := [zN, zF, zN]) (cs := [(osv (some b14) 0 1 1), (zab r13.Negative), v13]) (is := [0, 1]) (vs := [(osv (some b14) 0 1 1), (zar #[(zab r13.Negative), v13])]) (css := [[(osv (some b14) 0 1 1)], [(zab r13.Negative), v13]]) pl97 ti97 rfl rfl rfl ⟨(zex (zev _ _ _ _)), zrt⟩ rfl ?_)
 obtain ⟨r14, q14, h⟩ := zen h
 refine zag (zbc en21 rfl rfl (lbig_w N 1 _ Any r14 q14) ?_)
 rintro _ w21 hE19 ⟨v14, rfl, k14, -⟩
 replace k14 := k14.mono (zcy (S := None) hL21 [])
 obtain ⟨hL22, K22⟩ := zl hL21 hE19
 refine zag (zcm (zc := [(zI 0), zF, zN]) (cs := [(zI 4), (zab r14.Negative), v14]) (is := [0, 1]) (vs := [(zI 4), (zar #[(zab r14.Negative), v14])]) (css := [[(zI 4)], [(zab r14.Negative), v14]]) pl94 ti94 rfl rfl rfl ⟨rfl, rfl, trivial⟩ rfl ?_)
 obtain ⟨r15, q15, h⟩ := zen h
 refine zag (zbc en21 rfl rfl (lbig_w N 1 _ Any r15 q15) ?_)
 rintro _ w22 hE20 ⟨v15, rfl, k15, -⟩
 replace k15 := k15.mono (zcy (S := None) hL22 [])
 obtain ⟨hL23, K23⟩ := zl hL22 hE20
 refine zag (zcm (zc := [(zI 0), zF, zN]) (cs := [(zI 5), (zab r15.Negative), v15]) (is := [0, 1]) (vs := [(zI 5), (zar #[(zab r15.Negative), v15])]) (css := [[(zI 5)], [(zab r15.Negative), v15]]) pl94 ti94 rfl rfl rfl ⟨rfl, rfl, trivial⟩ rfl ?_)
 have f12 := (k14.mono (K23 None))
 have hE21 : Els rUse (vH w None [some b14, some b13, some b12, some b11, some b9, some b1] w22) [(zI 4), (zab r14.Negative), v14, (zI 5), (zab r15.Negative), v15] [(Use.mk 4 r14), (Use.mk 5 r15)] := (zdg (a := [(zI 4), (zab r14.Negative), v14]) (rUse_close ⟨v14, rfl, f12, trivial⟩) (zdg (a := [(zI 5), (zab r15.Negative), v15]) (rUse_close ⟨v15, rfl, k15, trivial⟩) zdh))
 refine zag (zda (r := rUse) (vs := [(zar #[(zI 4), (zab r14.Negative), v14]), (zar #[(zI 5), (zab r15.Negative), v15])]) (css := [[(zI 4), (zab r14.Negative), v14], [(zI 5), (zab r15.Negative), v15]]) (xs := [(Use.mk 4 r14), (Use.mk 5 r15)]) Tryz.underlying95 ti94 (zaf rfl) rfl rfl ⟨rfl, rfl, ⟨rfl, rfl, trivial⟩⟩ (zaf rfl) hE21 rfl hL23 ?_)
 intro b15 w23 hc15 hL24 hS17
 have K24 := ks w hS17
 obtain ⟨r16, q16, h⟩ := zen h
 refine zag (zbc en21 rfl rfl (lbig_w N 1 _ Any r16 q16) ?_)
 rintro _ w24 hE22 ⟨v16, rfl, k16, -⟩
 replace k16 := k16.mono (zcy (S := None) hL24 [])
 obtain ⟨hL25, K25⟩ := zl hL24 hE22
 refine zag (zcm (zc := [zN, zF, zN]) (cs := [(osv (some b15) 0 2 2), (zab r16.Negative), v16]) (is := [0, 1]) (vs := [(osv (some b15) 0 2 2), (zar #[(zab r16.Negative), v16])]) (css := [[(osv (some b15) 0 2 2)], [(zab r16.Negative), v16]]) pl97 ti97 rfl rfl rfl ⟨(zex (zev _ _ _ _)), zrt⟩ rfl ?_)
 have f13 := (((((((((hE14.mono (K17 None)).mono (K18 None)).mono (K19 None)).mono (K20 None)).mono (K21 None)).mono (K22 None)).mono (K23 None)).mono (K24 None)).mono (K25 None))
 have f14 := hL25.freezeRow 2 rfl rfl f13 rfl rfl rfl hc13
 have hp11 := hL25.pick [0, 1, 3, 4, 5, 6] rfl rfl rfl
 have hL26 : vL w w24 [some b15, some b14, some b12, some b11, some b9, some b1] [zac ([] ++ ([(zI 4), (zab r14.Negative), v14, (zI 5), (zab r15.Negative), v15] ++ [])), zac ([] ++ ([(zI 3), (zab r12.Negative), v12] ++ [])), zac [zN, (osv (some b9) 0 1 1), zN, (osv (some b11) 0 1 1), zN, zN, zN], zac ([] ++ ([(zI (-5)), (osv (some b10) 0 1 1), zT] ++ [])), zac ([] ++ ([(zI 0)] ++ [])), zac ([] ++ ([(zI 1), (zI (-9)), (zI 9), (zI 0), zF] ++ []))] := hp11.1
 have K26 := ks w hp11.2
 have f15 := (((((((hE17.mono (K20 None)).mono (K21 None)).mono (K22 None)).mono (K23 None)).mono (K24 None)).mono (K25 None)).mono (K26 None))
 have f16 := hL26.freezeRow 1 rfl rfl f15 rfl rfl rfl hc14
 have hp12 := hL26.pick [0, 2, 3, 4, 5] rfl rfl rfl
 have hL27 : vL w w24 [some b15, some b12, some b11, some b9, some b1] [zac ([] ++ ([(zI 4), (zab r14.Negative), v14, (zI 5), (zab r15.Negative), v15] ++ [])), zac [zN, (osv (some b9) 0 1 1), zN, (osv (some b11) 0 1 1), zN, zN, zN], zac ([] ++ ([(zI (-5)), (osv (some b10) 0 1 1), zT] ++ [])), zac ([] ++ ([(zI 0)] ++ [])), zac ([] ++ ([(zI 1), (zI (-9)), (zI 9), (zI 0), zF] ++ []))] := hp12.1
 have K27 := ks w hp12.2
 have f17 := ((((hE21.mono (K24 None)).mono (K25 None)).mono (K26 None)).mono (K27 None))
 have f18 := hL27.freezeRow 0 rfl rfl f17 rfl rfl rfl hc15
 have hp13 := hL27.pick [1, 2, 3, 4] rfl rfl rfl
 have hL28 : vL w w24 [some b12, some b11, some b9, some b1] [zac [zN, (osv (some b9) 0 1 1), zN, (osv (some b11) 0 1 1), zN, zN, zN], zac ([] ++ ([(zI (-5)), (osv (some b10) 0 1 1), zT] ++ [])), zac ([] ++ ([(zI 0)] ++ [])), zac ([] ++ ([(zI 1), (zI (-9)), (zI 9), (zI 0), zF] ++ []))] := hp13.1
 have K28 := ks w hp13.2
 have f19 := (((k16.mono (K26 None)).mono (K27 None)).mono (K28 None))
 have f20 := (f16.mono (K28 None))
 have f21 := (((((((k13.mono (K22 None)).mono (K23 None)).mono (K24 None)).mono (K25 None)).mono (K26 None)).mono (K27 None)).mono (K28 None))
 have f22 := ((f14.mono (K27 None)).mono (K28 None))
 have f23 := ((((((((((k11.mono (K19 None)).mono (K20 None)).mono (K21 None)).mono (K22 None)).mono (K23 None)).mono (K24 None)).mono (K25 None)).mono (K26 None)).mono (K27 None)).mono (K28 None))
 have hE23 : Els rStep (vH w None [some b12, some b11, some b9, some b1] w24) [(osv (some b13) 0 1 1), (zab r11.Negative), v11, (osv (some b14) 0 1 1), (zab r13.Negative), v13, (osv (some b15) 0 2 2), (zab r16.Negative), v16] [(Step.mk [(Use.mk 2 r10)] r11), (Step.mk [(Use.mk 3 r12)] r13), (Step.mk [(Use.mk 4 r14), (Use.mk 5 r15)] r16)] := (zdg (a := [(osv (some b13) 0 1 1), (zab r11.Negative), v11]) (rStep_close ⟨(osv (some b13) 0 1 1), v11, rfl, f22, f23, trivial⟩) (zdg (a := [(osv (some b14) 0 1 1), (zab r13.Negative), v13]) (rStep_close ⟨(osv (some b14) 0 1 1), v13, rfl, f20, f21, trivial⟩) (zdg (a := [(osv (some b15) 0 2 2), (zab r16.Negative), v16]) (rStep_close ⟨(osv (some b15) 0 2 2), v16, rfl, f18, f19, trivial⟩) zdh)))
 refine zag (zda (r := rStep) (vs := [(zar #[(osv (some b13) 0 1 1), (zab r11.Negative), v11]), (zar #[(osv (some b14) 0 1 1), (zab r13.Negative), v13]), (zar #[(osv (some b15) 0 2 2), (zab r16.Negative), v16])]) (css := [[(osv (some b13) 0 1 1), (zab r11.Negative), v11], [(osv (some b14) 0 1 1), (zab r13.Negative), v13], [(osv (some b15) 0 2 2), (zab r16.Negative), v16]]) (xs := [(Step.mk [(Use.mk 2 r10)] r11), (Step.mk [(Use.mk 3 r12)] r13), (Step.mk [(Use.mk 4 r14), (Use.mk 5 r15)] r16)]) Tryz.underlying67 ti97 (zaf rfl) rfl rfl ⟨rfl, rfl, ⟨rfl, rfl, ⟨rfl, rfl, trivial⟩⟩⟩ (zaf rfl) hE23 rfl hL28 ?_)
 intro b16 w25 hc16 hL29 hS18
 have K29 := ks w hS18
 refine zag (zcm (zc := [zN, zN, zF, zN, zN]) (cs := [(osv (some b16) 0 3 3), zN, zF, zN, zN]) (is := [0]) (vs := [(osv (some b16) 0 3 3)]) (css := [[(osv (some b16) 0 3 3)]]) pl70 ti70 rfl rfl rfl ⟨(zex (zev (some b16) 0 3 3)), trivial⟩ rfl ?_)
 refine zag (zcl (cs := [zN, zN, zF, zN, zN]) ti70 rfl hL29 ?_)
 intro b17 w26 hL30 hS19
 have K30 := ks w hS19
 refine zdc (zbw (vs := [(osv (some b16) 0 3 3), zN, zF, zN, zN]) ti70 rfl rfl rfl rfl (zep (zev (some b16) 0 3 3) (zep rfl (zep rfl (zep rfl (zep rfl zet))))) hL30 0 rfl rfl (zaf rfl) ?_)
 intro w27 (hL31 : vL w w27 [some b17, some b16, some b12, some b11, some b9, some b1] [zac [(osv (some b16) 0 3 3), zN, zF, zN, zN], zac ([] ++ ([(osv (some b13) 0 1 1), (zab r11.Negative), v11, (osv (some b14) 0 1 1), (zab r13.Negative), v13, (osv (some b15) 0 2 2), (zab r16.Negative), v16] ++ [])), zac [zN, (osv (some b9) 0 1 1), zN, (osv (some b11) 0 1 1), zN, zN, zN], zac ([] ++ ([(zI (-5)), (osv (some b10) 0 1 1), zT] ++ [])), zac ([] ++ ([(zI 0)] ++ [])), zac ([] ++ ([(zI 1), (zI (-9)), (zI 9), (zI 0), zF] ++ []))]) hS20
 have K31 := ks w hS20
 refine zap (zal (zah rfl (zag (zbt (vs := [(osv (some b16) 0 3 3), zN, zF, zN, zN]) zdj rfl ti70 rfl (hL31.at 0 rfl rfl) rfl rfl ?_))))
 refine zag (zcm (zc := [(zI 0), (zI 0), (zI 0), zN, zN, zF, zN, zN, zN]) (cs := [(zI 2), (zI 0), (zI 0), (osv (some b16) 0 3 3), zN, zF, zN, zN, zN]) (is := [0, 3]) (vs := [(zI 2), (zar #[(osv (some b16) 0 3 3), zN, zF, zN, zN])]) (css := [[(zI 2)], [(osv (some b16) 0 3 3), zN, zF, zN, zN]]) pl73 ti73 rfl rfl rfl ⟨rfl, rfl, trivial⟩ rfl ?_)
 refine zag (zcl (cs := [(zI 0), (zI 0), (zI 0), zN, zN, zF, zN, zN, zN]) ti73 rfl hL31 ?_)
 intro b18 w28 hL32 hS21
 have K32 := ks w hS21
 refine zdc (zbw (vs := [(zI 2), (zI 0), (zI 0), (osv (some b16) 0 3 3), zN, zF, zN, zN, zN]) ti73 rfl rfl rfl rfl (zep rfl (zep rfl (zep rfl (zep (zev (some b16) 0 3 3) (zep rfl (zep rfl (zep rfl (zep rfl (zep rfl zet))))))))) hL32 0 rfl rfl (zaf rfl) ?_)
 intro w29 (hL33 : vL w w29 [some b18, some b17, some b16, some b12, some b11, some b9, some b1] [zac [(zI 2), (zI 0), (zI 0), (osv (some b16) 0 3 3), zN, zF, zN, zN, zN], zac [(osv (some b16) 0 3 3), zN, zF, zN, zN], zac ([] ++ ([(osv (some b13) 0 1 1), (zab r11.Negative), v11, (osv (some b14) 0 1 1), (zab r13.Negative), v13, (osv (some b15) 0 2 2), (zab r16.Negative), v16] ++ [])), zac [zN, (osv (some b9) 0 1 1), zN, (osv (some b11) 0 1 1), zN, zN, zN], zac ([] ++ ([(zI (-5)), (osv (some b10) 0 1 1), zT] ++ [])), zac ([] ++ ([(zI 0)] ++ [])), zac ([] ++ ([(zI 1), (zI (-9)), (zI 9), (zI 0), zF] ++ []))]) hS22
 have K33 := ks w hS22
 refine zap (zal (zah rfl (zag (zai (v := (osv (some b1) 0 1 1)) rfl ?_))))
 refine zag (zbt (vs := [zN, (osv (some b9) 0 1 1), zN, (osv (some b11) 0 1 1), zN, zN, zN]) zax rfl ti29 rfl (hL33.at 3 rfl rfl) rfl rfl ?_)
 refine zag (zbt (vs := [(zI 2), (zI 0), (zI 0), (osv (some b16) 0 3 3), zN, zF, zN, zN, zN]) zdb rfl ti73 rfl (hL33.at 0 rfl rfl) rfl rfl ?_)
 obtain ⟨r17, q17, h⟩ := zen h
 have f24 := (((((((((((((((((((((((((hE2.mono (K7 None)).mono (K10 None)).mono (K11 None)).mono (K12 None)).mono (K13 None)).mono (K14 None)).mono (K15 None)).mono (K16 None)).mono (K17 None)).mono (K18 None)).mono (K19 None)).mono (K20 None)).mono (K21 None)).mono (K22 None)).mono (K23 None)).mono (K24 None)).mono (K25 None)).mono (K26 None)).mono (K27 None)).mono (K28 None)).mono (K29 None)).mono (K30 None)).mono (K31 None)).mono (K32 None)).mono (K33 None))
 have f25 := ((((((((((((((((((((((((hE10.mono (K10 None)).mono (K11 None)).mono (K12 None)).mono (K13 None)).mono (K14 None)).mono (K15 None)).mono (K16 None)).mono (K17 None)).mono (K18 None)).mono (K19 None)).mono (K20 None)).mono (K21 None)).mono (K22 None)).mono (K23 None)).mono (K24 None)).mono (K25 None)).mono (K26 None)).mono (K27 None)).mono (K28 None)).mono (K29 None)).mono (K30 None)).mono (K31 None)).mono (K32 None)).mono (K33 None))
 have f26 := (((((((((((((((((((((hE12.mono (K13 None)).mono (K14 None)).mono (K15 None)).mono (K16 None)).mono (K17 None)).mono (K18 None)).mono (K19 None)).mono (K20 None)).mono (K21 None)).mono (K22 None)).mono (K23 None)).mono (K24 None)).mono (K25 None)).mono (K26 None)).mono (K27 None)).mono (K28 None)).mono (K29 None)).mono (K30 None)).mono (K31 None)).mono (K32 None)).mono (K33 None))
 have f27 := (((((hE23.mono (K29 None)).mono (K30 None)).mono (K31 None)).mono (K32 None)).mono (K33 None))
 refine zag (zbc en29 rfl rfl (vCheck_w N [(RVar.mk 1 (-9) 9 0 false)] (RClause.mk [] [0] [] [(Constraint.mk (Linear.mk (-5) [(Coef.mk 0 2)]) true)] [] [] []) (Refut.mk 2 0 0 (Proof.mk [(Step.mk [(Use.mk 2 r10)] r11), (Step.mk [(Use.mk 3 r12)] r13), (Step.mk [(Use.mk 4 r14), (Use.mk 5 r15)] r16)] [] (Big.mk false []) []) []) (osv (some b1) 0 1 1) zN (osv (some b9) 0 1 1) zN (osv (some b11) 0 1 1) zN zN zN (osv (some b16) 0 3 3) zN zN zN zN _ Any (zeu (pre := []) (o := 0) (n := 1) (cap := 1) (hL33.at 6 rfl rfl) f24 vw_any rfl rfl rfl hc3) zdv (zeu (pre := []) (o := 0) (n := 1) (cap := 1) (hL33.at 5 rfl rfl) f25 vw_any rfl rfl rfl hc10) zdv (zeu (pre := []) (o := 0) (n := 1) (cap := 1) (hL33.at 4 rfl rfl) f26 vw_any rfl rfl rfl hc12) zdv zdv zdv (zeu (pre := []) (o := 0) (n := 3) (cap := 3) (hL33.at 2 rfl rfl) f27 vw_any rfl rfl rfl hc16) zdv zdv zdv zdv r17 q17) ?_)
 rintro _ w30 hE24 ⟨rfl, -⟩
 obtain ⟨hL34, K34⟩ := zl hL33 hE24
 refine zag (zai (v := (zab r17)) rfl ?_)
 by_cases hc17 : r17 = true
 ·
  replace h := ite_t hc17 h
  refine zba rfl rfl hc17 (zbt (vs := [(zI 2), (zI 0), (zI 0), (osv (some b16) 0 3 3), zN, zF, zN, zN, zN]) zdb rfl ti73 rfl (hL34.at 0 rfl rfl) rfl rfl ?_)
  obtain ⟨r18, q18, h⟩ := zen h
  have f28 := (f27.mono (K34 None))
  refine zba rfl rfl hc17 (zbc en33 rfl rfl (vFormat_w N (Refut.mk 2 0 0 (Proof.mk [(Step.mk [(Use.mk 2 r10)] r11), (Step.mk [(Use.mk 3 r12)] r13), (Step.mk [(Use.mk 4 r14), (Use.mk 5 r15)] r16)] [] (Big.mk false []) []) []) (osv (some b16) 0 3 3) zN zN zN zN _ Any (zeu (pre := []) (o := 0) (n := 3) (cap := 3) (hL34.at 2 rfl rfl) f28 vw_any rfl rfl rfl hc16) zdv zdv zdv zdv r18 q18) ?_)
  rintro _ w31 hE25 ⟨rfl, -⟩
  obtain ⟨hL35, K35⟩ := zl hL34 hE25
  refine zba rfl rfl hc17 (OpY.sEql (x := r18) (y := ([105, 110, 116, 101, 103, 101, 114, 115, 32, 51] : List UInt8)) rfl rfl ?_)
  refine zag (zbj (t := r17) (v := (zab (decide (r18 = ([105, 110, 116, 101, 103, 101, 114, 115, 32, 51] : List UInt8))))) rfl hc17 rfl ?_)
  refine zag (zai (v := (zab (decide (r18 = ([105, 110, 116, 101, 103, 101, 114, 115, 32, 51] : List UInt8))))) rfl ?_)
  by_cases hc18 : r18 = ([105, 110, 116, 101, 103, 101, 114, 115, 32, 51] : List UInt8)
  ·
   replace h := ite_t hc18 h
   refine zba rfl rfl (zem hc18) (zai (v := (osv (some b1) 0 1 1)) rfl ?_)
   have hE26 : Els rI (vH w None [some b18, some b17, some b16, some b12, some b11, some b9, some b1] w31) [(zI 0)] [0] := (zdg (a := [(zI 0)]) rfl zdh)
   refine zba rfl rfl (zem hc18) (zda (r := rI) (vs := [(zI 0)]) (css := [[(zI 0)]]) (xs := [0]) zbd ti3 (zaf rfl) rfl rfl ⟨rfl, rfl, trivial⟩ (zaf rfl) hE26 rfl hL35 ?_)
   intro b19 w32 hc19 hL36 hS23
   have K36 := ks w hS23
   refine zba rfl rfl (zem hc18) (zcm (zc := [zN, zN, zN, zN, zN, zN, zN]) (cs := [(osv (some b19) 0 1 1), zN, zN, zN, zN, zN, zN]) (is := [0]) (vs := [(osv (some b19) 0 1 1)]) (css := [[(osv (some b19) 0 1 1)]]) pl29 ti29 rfl rfl rfl ⟨(zex (zev (some b19) 0 1 1)), trivial⟩ rfl ?_)
   refine zba rfl rfl (zem hc18) (zcm (zc := [(zI 0), (zI 0), (zI 0), zN, zN, zF, zN, zN, zN]) (cs := [(zI 0), (zI 0), (zI 0), zN, zN, zF, zN, zN, zN]) (is := []) (vs := []) (css := []) pl73 ti73 rfl rfl rfl trivial rfl ?_)
   obtain ⟨r19, q19, h⟩ := zen h
   have f29 := (((f24.mono (K34 None)).mono (K35 None)).mono (K36 None))
   have f30 := (hE26.mono (K36 None))
   refine zba rfl rfl (zem hc18) (zbc en29 rfl rfl (vCheck_w N [(RVar.mk 1 (-9) 9 0 false)] (RClause.mk [0] [] [] [] [] [] []) (Refut.mk 0 0 0 (Proof.mk [] [] (Big.mk false []) []) []) (osv (some b1) 0 1 1) (osv (some b19) 0 1 1) zN zN zN zN zN zN zN zN zN zN zN _ Any (zeu (pre := []) (o := 0) (n := 1) (cap := 1) (hL36.at 7 rfl rfl) f29 vw_any rfl rfl rfl hc3) (zeu (pre := []) (o := 0) (n := 1) (cap := 1) (hL36.at 0 rfl rfl) f30 vw_any rfl rfl rfl hc19) zdv zdv zdv zdv zdv zdv zdv zdv zdv zdv zdv r19 q19) ?_)
   rintro _ w33 hE27 ⟨rfl, -⟩
   obtain ⟨hL37, K37⟩ := zl hL36 hE27
   refine zag (zbj (t := (decide (r18 = ([105, 110, 116, 101, 103, 101, 114, 115, 32, 51] : List UInt8)))) (v := (zab r19)) rfl (zem hc18) rfl ?_)
   refine zag (zai (v := (zab r19)) rfl ?_)
   by_cases hc20 : r19 = true
   ·
    replace h := ite_t hc20 h
    refine zba rfl rfl hc20 (zai (v := (osv (some b1) 0 1 1)) rfl ?_)
    have hE28 : Els rI (vH w None [some b19, some b18, some b17, some b16, some b12, some b11, some b9, some b1] w33) [(zI 0)] [0] := (zdg (a := [(zI 0)]) rfl zdh)
    refine zba rfl rfl hc20 (zda (r := rI) (vs := [(zI 0)]) (css := [[(zI 0)]]) (xs := [0]) zbd ti3 (zaf rfl) rfl rfl ⟨rfl, rfl, trivial⟩ (zaf rfl) hE28 rfl hL37 ?_)
    intro b20 w34 hc21 hL38 hS24
    have K38 := ks w hS24
    refine zba rfl rfl hc20 (zcm (zc := [zN, zN, zN, zN, zN, zN, zN]) (cs := [zN, (osv (some b20) 0 1 1), zN, zN, zN, zN, zN]) (is := [1]) (vs := [(osv (some b20) 0 1 1)]) (css := [[(osv (some b20) 0 1 1)]]) pl29 ti29 rfl rfl rfl ⟨(zex (zev (some b20) 0 1 1)), trivial⟩ rfl ?_)
    refine zba rfl rfl hc20 (zcm (zc := [(zI 0), (zI 0), (zI 0), zN, zN, zF, zN, zN, zN]) (cs := [(zI 0), (zI 0), (zI 0), zN, zN, zF, zN, zN, zN]) (is := []) (vs := []) (css := []) pl73 ti73 rfl rfl rfl trivial rfl ?_)
    obtain ⟨r20, q20, h⟩ := zen h
    have f31 := ((f29.mono (K37 None)).mono (K38 None))
    have f32 := (hE28.mono (K38 None))
    refine zba rfl rfl hc20 (zbc en29 rfl rfl (vCheck_w N [(RVar.mk 1 (-9) 9 0 false)] (RClause.mk [] [0] [] [] [] [] []) (Refut.mk 0 0 0 (Proof.mk [] [] (Big.mk false []) []) []) (osv (some b1) 0 1 1) zN (osv (some b20) 0 1 1) zN zN zN zN zN zN zN zN zN zN _ Any (zeu (pre := []) (o := 0) (n := 1) (cap := 1) (hL38.at 8 rfl rfl) f31 vw_any rfl rfl rfl hc3) zdv (zeu (pre := []) (o := 0) (n := 1) (cap := 1) (hL38.at 0 rfl rfl) f32 vw_any rfl rfl rfl hc21) zdv zdv zdv zdv zdv zdv zdv zdv zdv zdv r20 q20) ?_)
    rintro _ w35 hE29 ⟨rfl, -⟩
    have hL39 := hL38.ext hE29
    refine zba rfl rfl hc20 (zea (x := r20) rfl ?_)
    refine zag (zbj (t := r19) (v := (zab (!r20))) rfl hc20 rfl ?_)
    refine zag (zam (v := (zab (!r20))) rfl ?_)
    refine zap (zbo ?_)
    obtain rfl := zae h
    refine ⟨[(zab (!r20))], zrt, ⟨_, rfl, hL39.done, ?_⟩⟩
    exact zrt
   exact absurd ((zae (ite_f hc20 h)).trans hr) Bool.false_ne_true
  exact absurd ((zae (ite_f hc18 h)).trans hr) Bool.false_ne_true
 exact absurd ((zae (ite_f hc17 h)).trans hr) Bool.false_ne_true
theorem awake_w (N : Nat) (w : World) (S : Nat → Prop) (r : Bool) (h : awake N = some r) :
  Calls Tryz.prog 10 #[] w (Ret w (fun v w' => (zab r) = v ∧ True)) := awake_w0 N w S r h (awake_true h)
theorem lright_w (N : Nat) (x : RCase) (x_v : Value) (x_v1 : Value) (x_v2 : Value) (x_v3 : Value) (x_v4 : Value) (x_v5 : Value) (x_v6 : Value) (x_v7 : Value) (x_v8 : Value) (x_v9 : Value) (w : World) (S : Nat → Prop) (x_h : Rs rRVar (vH w S [] w) x_v x.L) (x_h1 : Rs rI (vH w S [] w) x_v1 x.C.Null) (x_h2 : Rs rI (vH w S [] w) x_v2 x.C.NotNull) (x_h3 : Rs rRAux (vH w S [] w) x_v3 x.C.Auxiliary) (x_h4 : Rs rConstraint (vH w S [] w) x_v4 x.C.Ints) (x_h5 : Rs rTTest (vH w S [] w) x_v5 x.C.Tests) (x_h6 : Rs rArr2Int (vH w S [] w) x_v6 x.C.Same) (x_h7 : Rs rArr2Int (vH w S [] w) x_v7 x.C.Different) (x_h8 : Rs rArr2Int (vH w S [] w) x_v8 x.Ranges) (x_h9 : Rs rRVal (vH w S [] w) x_v9 x.R) (r : Bool) (h : lright N x = some r) :
  Calls Tryz.prog 11 #[(zar #[x_v, x_v1, x_v2, x_v3, x_v4, x_v5, x_v6, x_v7, x_v8, x_v9])] w (Ret w (fun v w' => (zab r) = v ∧ True)) := by
 unfold lright at h
 have hL : vL w w [] [] := Go.X.Loc.begin0 w
 refine calls_of (l := [(zar #[x_v, x_v1, x_v2, x_v3, x_v4, x_v5, x_v6, x_v7, x_v8, x_v9])]) (rl := [.tmp 2]) (n := 25) Tryz.func11 rfl rfl rfl (zaf rfl) ?_
 refine zal (zah rfl (zag (zdt (cs := [x_v, x_v1, x_v2, x_v3, x_v4, x_v5, x_v6, x_v7, x_v8, x_v9]) rfl rfl hL ?_)))
 intro b1 w2 hL3 hS5
 have K4 := ks w hS5
 refine zag (zam (v := zF) rfl ?_)
 refine zap (zal (zah rfl (zag (zaj (q := 0) zdl rfl ti22 rfl rfl rfl ?_))))
 refine zag (zat (v := x_v) zbm rfl rfl (hL3.at 0 rfl rfl) rfl ?_)
 obtain ⟨r6, q7, h⟩ := zen h
 have f9 := (x_h.mono (K4 S))
 refine zag (zbc en35 rfl rfl (wDomains_w N x.L x_v _ Any (f9.mono vw_any) r6 q7) ?_)
 rintro _ w10 hE10 ⟨rfl, -⟩
 obtain ⟨hL10, K10⟩ := zl hL3 hE10
 refine zag (zai (v := (zab r6)) rfl ?_)
 by_cases hc10 : r6 = true
 ·
  replace h := ite_t hc10 h
  refine zba rfl rfl hc10 (zaj (q := 1) zdl rfl ti29 rfl rfl rfl ?_)
  refine zba rfl rfl hc10 (zbt (vs := [x_v1, x_v2, x_v3, x_v4, x_v5, x_v6, x_v7]) zax rfl ti29 rfl (hL10.at 0 rfl rfl) rfl rfl ?_)
  obtain ⟨r10, q10, h⟩ := zen h
  have f10 := ((x_h1.mono (K4 S)).mono (K10 S))
  have f11 := ((x_h2.mono (K4 S)).mono (K10 S))
  have f12 := ((x_h3.mono (K4 S)).mono (K10 S))
  have f13 := ((x_h4.mono (K4 S)).mono (K10 S))
  have f14 := ((x_h5.mono (K4 S)).mono (K10 S))
  have f15 := ((x_h6.mono (K4 S)).mono (K10 S))
  have f16 := ((x_h7.mono (K4 S)).mono (K10 S))
  refine zba rfl rfl hc10 (zbc en36 rfl rfl (sFew_w N x.C x_v1 x_v2 x_v3 x_v4 x_v5 x_v6 x_v7 _ Any (f10.mono vw_any) (f11.mono vw_any) (f12.mono vw_any) (f13.mono vw_any) (f14.mono vw_any) (f15.mono vw_any) (f16.mono vw_any) r10 q10) ?_)
  rintro _ w11 hE11 ⟨rfl, -⟩
  obtain ⟨hL11, K11⟩ := zl hL10 hE11
  refine zag (zbj (t := r6) (v := (zab r10)) rfl hc10 rfl ?_)
  refine zag (zai (v := (zab r10)) rfl ?_)
  by_cases hc11 : r10 = true
  ·
   replace h := ite_t hc11 h
   refine zba rfl rfl hc11 (zaj (q := 1) zdl rfl ti29 rfl rfl rfl ?_)
   refine zba rfl rfl hc11 (zbt (vs := [x_v1, x_v2, x_v3, x_v4, x_v5, x_v6, x_v7]) zax rfl ti29 rfl (hL11.at 0 rfl rfl) rfl rfl ?_)
   refine zba rfl rfl hc11 (zaj (q := 0) zdl rfl ti22 rfl rfl rfl ?_)
   refine zba rfl rfl hc11 (zat (v := x_v) zbm rfl rfl (hL11.at 0 rfl rfl) rfl ?_)
   obtain ⟨r11, q11, h⟩ := zen h
   have f17 := (f10.mono (K11 S))
   have f18 := (f11.mono (K11 S))
   have f19 := (f12.mono (K11 S))
   have f20 := (f13.mono (K11 S))
   have f21 := (f14.mono (K11 S))
   have f22 := (f15.mono (K11 S))
   have f23 := (f16.mono (K11 S))
   have f24 := ((f9.mono (K10 S)).mono (K11 S))
   refine zba rfl rfl hc11 (zbc en37 rfl rfl (sValid_w N x.C x.L x_v1 x_v2 x_v3 x_v4 x_v5 x_v6 x_v7 x_v _ Any (f17.mono vw_any) (f18.mono vw_any) (f19.mono vw_any) (f20.mono vw_any) (f21.mono vw_any) (f22.mono vw_any) (f23.mono vw_any) (f24.mono vw_any) r11 q11) ?_)
   rintro _ w12 hE12 ⟨rfl, -⟩
   obtain ⟨hL12, K12⟩ := zl hL11 hE12
   refine zag (zbj (t := r10) (v := (zab r11)) rfl hc11 rfl ?_)
   refine zag (zai (v := (zab r11)) rfl ?_)
   by_cases hc12 : r11 = true
   ·
    replace h := ite_t hc12 h
    refine zba rfl rfl hc12 (zaj (q := 0) zdl rfl ti22 rfl rfl rfl ?_)
    refine zba rfl rfl hc12 (zat (v := x_v) zbm rfl rfl (hL12.at 0 rfl rfl) rfl ?_)
    refine zba rfl rfl hc12 (zaj (q := 8) zdl rfl ti27 rfl rfl rfl ?_)
    refine zba rfl rfl hc12 (zat (v := x_v8) zca rfl rfl (hL12.at 0 rfl rfl) rfl ?_)
    obtain ⟨r12, q12, h⟩ := zen h
    have f25 := (f24.mono (K12 S))
    have f26 := ((((x_h8.mono (K4 S)).mono (K10 S)).mono (K11 S)).mono (K12 S))
    refine zba rfl rfl hc12 (zbc en38 rfl rfl (wRight_w N x.L x.Ranges x_v x_v8 _ Any (f25.mono vw_any) (f26.mono vw_any) r12 q12) ?_)
    rintro _ w13 hE13 ⟨rfl, -⟩
    have hL13 := hL12.ext hE13
    refine zag (zbj (t := r11) (v := (zab r12)) rfl hc12 rfl ?_)
    refine zag (zam (v := (zab r12)) rfl ?_)
    refine zap (zbo ?_)
    obtain rfl := zae h
    refine ⟨[(zab r12)], zrt, ⟨_, rfl, hL13.done, ?_⟩⟩
    exact zrt
   replace h := ite_f hc12 h
   refine zbg rfl rfl (zeo hc12) (zbg rfl rfl (zeo hc12) (zbg rfl rfl (zeo hc12) (zbg rfl rfl (zeo hc12) (zbg rfl rfl (zeo hc12) ?_))))
   refine zag (zbn (t := r11) (v := zF) rfl (zeo hc12) rfl ?_)
   refine zag (zam (v := zF) rfl ?_)
   refine zap (zbo ?_)
   obtain rfl := zae h
   refine ⟨[zF], zrt, ⟨_, rfl, hL12.done, ?_⟩⟩
   exact zrt
  replace h := ite_f hc11 h
  refine zbg rfl rfl (zeo hc11) (zbg rfl rfl (zeo hc11) (zbg rfl rfl (zeo hc11) (zbg rfl rfl (zeo hc11) (zbg rfl rfl (zeo hc11) ?_))))
  refine zag (zbn (t := r10) (v := zF) rfl (zeo hc11) rfl ?_)
  refine zag (zai (v := zF) rfl ?_)
  refine zbg rfl rfl rfl (zbg rfl rfl rfl (zbg rfl rfl rfl (zbg rfl rfl rfl (zbg rfl rfl rfl ?_))))
  refine zag (zbn (t := false) (v := zF) rfl rfl rfl ?_)
  refine zag (zam (v := zF) rfl ?_)
  refine zap (zbo ?_)
  obtain rfl := zae h
  refine ⟨[zF], zrt, ⟨_, rfl, hL11.done, ?_⟩⟩
  exact zrt
 replace h := ite_f hc10 h
 refine zbg rfl rfl (zeo hc10) (zbg rfl rfl (zeo hc10) (zbg rfl rfl (zeo hc10) ?_))
 refine zag (zbn (t := r6) (v := zF) rfl (zeo hc10) rfl ?_)
 refine zag (zai (v := zF) rfl ?_)
 refine zbg rfl rfl rfl (zbg rfl rfl rfl (zbg rfl rfl rfl (zbg rfl rfl rfl (zbg rfl rfl rfl ?_))))
 refine zag (zbn (t := false) (v := zF) rfl rfl rfl ?_)
 refine zag (zai (v := zF) rfl ?_)
 refine zbg rfl rfl rfl (zbg rfl rfl rfl (zbg rfl rfl rfl (zbg rfl rfl rfl (zbg rfl rfl rfl ?_))))
 refine zag (zbn (t := false) (v := zF) rfl rfl rfl ?_)
 refine zag (zam (v := zF) rfl ?_)
 refine zap (zbo ?_)
 obtain rfl := zae h
 refine ⟨[zF], zrt, ⟨_, rfl, hL10.done, ?_⟩⟩
 exact zrt
theorem lawInts_w (N : Nat) (x : RCase) (x_v : Value) (x_v1 : Value) (x_v2 : Value) (x_v3 : Value) (x_v4 : Value) (x_v5 : Value) (x_v6 : Value) (x_v7 : Value) (x_v8 : Value) (x_v9 : Value) (w : World) (S : Nat → Prop) (x_h : Rs rRVar (vH w S [] w) x_v x.L) (x_h1 : Rs rI (vH w S [] w) x_v1 x.C.Null) (x_h2 : Rs rI (vH w S [] w) x_v2 x.C.NotNull) (x_h3 : Rs rRAux (vH w S [] w) x_v3 x.C.Auxiliary) (x_h4 : Rs rConstraint (vH w S [] w) x_v4 x.C.Ints) (x_h5 : Rs rTTest (vH w S [] w) x_v5 x.C.Tests) (x_h6 : Rs rArr2Int (vH w S [] w) x_v6 x.C.Same) (x_h7 : Rs rArr2Int (vH w S [] w) x_v7 x.C.Different) (x_h8 : Rs rArr2Int (vH w S [] w) x_v8 x.Ranges) (x_h9 : Rs rRVal (vH w S [] w) x_v9 x.R) (r : Bool) (h : lawInts N x = some r) :
  Calls Tryz.prog 3 #[(zar #[x_v, x_v1, x_v2, x_v3, x_v4, x_v5, x_v6, x_v7, x_v8, x_v9])] w (Ret w (fun v w' => (zab r) = v ∧ True)) := by
 unfold lawInts at h
 have hL : vL w w [] [] := Go.X.Loc.begin0 w
 refine calls_of (l := [(zar #[x_v, x_v1, x_v2, x_v3, x_v4, x_v5, x_v6, x_v7, x_v8, x_v9])]) (rl := [.tmp 2]) (n := 44) Tryz.func3 rfl rfl rfl (zaf rfl) ?_
 refine zal (zah rfl (zag (zdt (cs := [x_v, x_v1, x_v2, x_v3, x_v4, x_v5, x_v6, x_v7, x_v8, x_v9]) rfl rfl hL ?_)))
 intro b1 w2 hL3 hS5
 have K4 := ks w hS5
 refine zag (zam (v := zF) rfl ?_)
 refine zap (zal (zal ?_))
 obtain ⟨s10, h, g10⟩ := zen h
 refine zch (fun e w' => ∃ (x10 : Bool) (u : Env), x10 = s10 ∧ e = upds [(1, (zak (some ⟨b1, 0, none⟩))), (11, (zab x10))] u ∧ vL w w' [some b1] [zac [x_v, x_v1, x_v2, x_v3, x_v4, x_v5, x_v6, x_v7, x_v8, x_v9]] ∧ Keep w.heap.size [some b1] w2 [some b1] w' ∧ True) ?_ ?_
 ·
  refine zah rfl ?_
  obtain ⟨r10, q10, h⟩ := zen h
  refine zag (zbc en10 rfl rfl (awake_w N _ Any r10 q10) ?_)
  rintro _ w10 hE10 ⟨rfl, -⟩
  obtain ⟨hL10, K10⟩ := zl hL3 hE10
  refine zag (zea (x := r10) rfl ?_)
  refine zag (zai (v := (zab (!r10))) rfl ?_)
  by_cases hc10 : (!r10) = true
  ·
   replace h := ite_t hc10 h
   refine zbg rfl rfl hc10 ?_
   refine zbg rfl rfl hc10 ?_
   refine zbg rfl rfl hc10 ?_
   refine zag (zbj (t := (!r10)) (v := zT) rfl hc10 rfl (zap ?_))
   obtain rfl := zae h
   refine zas ?_
   exact ⟨true, _, rfl, (zeq ⟨rfl, rfl, trivial⟩), hL10, K10, trivial⟩
  replace h := ite_f hc10 h
  refine zba rfl rfl (zeo hc10) (zbt (vs := [x_v, x_v1, x_v2, x_v3, x_v4, x_v5, x_v6, x_v7, x_v8, x_v9]) zdl rfl ti33 rfl (hL10.at 0 rfl rfl) rfl rfl ?_)
  obtain ⟨r11, q11, h⟩ := zen h
  have f10 := ((x_h.mono (K4 S)).mono (K10 S))
  have f11 := ((x_h1.mono (K4 S)).mono (K10 S))
  have f12 := ((x_h2.mono (K4 S)).mono (K10 S))
  have f13 := ((x_h3.mono (K4 S)).mono (K10 S))
  have f14 := ((x_h4.mono (K4 S)).mono (K10 S))
  have f15 := ((x_h5.mono (K4 S)).mono (K10 S))
  have f16 := ((x_h6.mono (K4 S)).mono (K10 S))
  have f17 := ((x_h7.mono (K4 S)).mono (K10 S))
  have f18 := ((x_h8.mono (K4 S)).mono (K10 S))
  have f19 := ((x_h9.mono (K4 S)).mono (K10 S))
  refine zba rfl rfl (zeo hc10) (zbc en11 rfl rfl (lright_w N x x_v x_v1 x_v2 x_v3 x_v4 x_v5 x_v6 x_v7 x_v8 x_v9 _ Any (f10.mono vw_any) (f11.mono vw_any) (f12.mono vw_any) (f13.mono vw_any) (f14.mono vw_any) (f15.mono vw_any) (f16.mono vw_any) (f17.mono vw_any) (f18.mono vw_any) (f19.mono vw_any) r11 q11) ?_)
  rintro _ w11 hE11 ⟨rfl, -⟩
  obtain ⟨hL11, K11⟩ := zl hL10 hE11
  refine zba rfl rfl (zeo hc10) (zea (x := r11) rfl ?_)
  refine zag (zbn (t := (!r10)) (v := (zab (!r11))) rfl (zeo hc10) rfl (zap ?_))
  obtain rfl := zae h
  refine zas ?_
  exact ⟨(!r11), _, rfl, (zeq ⟨rfl, rfl, trivial⟩), hL11, (zao K10 K11), trivial⟩
 rintro _ w12 ⟨x10, u, rfl, rfl, hL12, K12, -⟩
 replace h := g10
 try dsimp only at h
 refine zdd x10 rfl (fun hc11 => ?_) (fun hc11 => ?_)
 ·
  replace h := ite_t hc11 h
  refine zal (zah rfl ?_)
  obtain ⟨r12, q12, h⟩ := zen h
  refine zag (zbc en10 rfl rfl (awake_w N _ Any r12 q12) ?_)
  rintro _ w13 hE12 ⟨rfl, -⟩
  have hL13 := hL12.ext hE12
  refine zag (zam (v := (zab r12)) rfl ?_)
  refine zap (zbo ?_)
  obtain rfl := zae h
  refine ⟨[(zab r12)], zrt, ⟨_, rfl, hL13.done, ?_⟩⟩
  exact zrt
 replace h := ite_f hc11 h
 refine zbp (zal (zah rfl (zag (zaj (q := 0) zdl rfl ti22 rfl rfl rfl ?_))))
 refine zag (zat (v := x_v) zbm rfl rfl (hL12.at 0 rfl rfl) rfl ?_)
 refine zag (zaj (q := 1) zdl rfl ti29 rfl rfl rfl ?_)
 refine zag (zbt (vs := [x_v1, x_v2, x_v3, x_v4, x_v5, x_v6, x_v7]) zax rfl ti29 rfl (hL12.at 0 rfl rfl) rfl rfl ?_)
 refine zag (zaj (q := 8) zdl rfl ti27 rfl rfl rfl ?_)
 refine zag (zat (v := x_v8) zca rfl rfl (hL12.at 0 rfl rfl) rfl ?_)
 obtain ⟨r13, q13, h⟩ := zen h
 have f20 := ((x_h.mono (K4 S)).mono (K12 S))
 have f21 := ((x_h1.mono (K4 S)).mono (K12 S))
 have f22 := ((x_h2.mono (K4 S)).mono (K12 S))
 have f23 := ((x_h3.mono (K4 S)).mono (K12 S))
 have f24 := ((x_h4.mono (K4 S)).mono (K12 S))
 have f25 := ((x_h5.mono (K4 S)).mono (K12 S))
 have f26 := ((x_h6.mono (K4 S)).mono (K12 S))
 have f27 := ((x_h7.mono (K4 S)).mono (K12 S))
 have f28 := ((x_h8.mono (K4 S)).mono (K12 S))
 refine zag (zbc en12 rfl rfl (vInts_w N x.L x.C x.Ranges x_v x_v1 x_v2 x_v3 x_v4 x_v5 x_v6 x_v7 x_v8 _ Any (f20.mono vw_any) (f21.mono vw_any) (f22.mono vw_any) (f23.mono vw_any) (f24.mono vw_any) (f25.mono vw_any) (f26.mono vw_any) (f27.mono vw_any) (f28.mono vw_any) r13 q13) ?_)
 rintro _ w14 hE13 ⟨ob10, cap10, cs10, sp10, rfl, hN10, hE14, hc12, -⟩
 replace hE14 := hE14.mono (zcy (S := None) hL12 [ob10])
 have hp10 := hL12.adoptL hE13 hN10
 have hL14 := hp10.1
 have K13 := ks w hp10.2
 refine zag (zai (v := (Value.tuple #[(zI r13.1), (zO ob10 r13.2 cap10)])) rfl ?_)
 refine zag (zdq (vs := [(zI r13.1), (zO ob10 r13.2 cap10)]) (v := (zI r13.1)) rfl rfl ?_)
 refine zag (zdq (vs := [(zI r13.1), (zO ob10 r13.2 cap10)]) (v := (zO ob10 r13.2 cap10)) rfl rfl ?_)
 refine zag (zam (v := (zI r13.1)) rfl ?_)
 refine zag (zam (v := (zO ob10 r13.2 cap10)) rfl ?_)
 refine zap (zal (zah rfl (zag (zai (v := (zI r13.1)) rfl ?_))))
 refine zag (zaj (q := 0) zdl rfl ti22 rfl rfl rfl ?_)
 refine zag (zat (v := x_v) zbm rfl rfl (hL14.at 1 rfl rfl) rfl ?_)
 have f29 := (f20.mono (K13 S))
 refine zag (zbl (v := x_v) zbm rfl f29 ?_)
 refine zag (zaj (q := 1) zdl rfl ti29 rfl rfl rfl ?_)
 refine zag (zaj (q := 3) zax rfl ti24 rfl rfl rfl ?_)
 refine zag (zat (v := x_v3) zcr rfl rfl (hL14.at 1 rfl rfl) rfl ?_)
 have f30 := (f23.mono (K13 S))
 refine zag (zbl (v := x_v3) zcr rfl f30 ?_)
 refine zag (zco (x := (x.L.length : Int)) (y := (x.C.Auxiliary.length : Int)) (z := (iw ((x.L.length : Int) + (x.C.Auxiliary.length : Int)))) rfl rfl rfl ?_)
 refine zag (zeb (x := r13.1) (y := (iw ((x.L.length : Int) + (x.C.Auxiliary.length : Int)))) ((r13.1 : Int) = (iw ((x.L.length : Int) + (x.C.Auxiliary.length : Int)))) rfl rfl zbe ?_)
 refine zag (zai (v := (zab (decide ((r13.1 : Int) = (iw ((x.L.length : Int) + (x.C.Auxiliary.length : Int))))))) rfl ?_)
 by_cases hc13 : (r13.1 : Int) = (iw ((x.L.length : Int) + (x.C.Auxiliary.length : Int)))
 ·
  replace h := ite_t hc13 h
  refine zba rfl rfl (zem hc13) (zai (v := (zO ob10 r13.2 cap10)) rfl ?_)
  refine zba rfl rfl (zem hc13) (zaj (q := 0) zdl rfl ti22 rfl rfl rfl ?_)
  refine zba rfl rfl (zem hc13) (zat (v := x_v) zbm rfl rfl (hL14.at 1 rfl rfl) rfl ?_)
  refine zba rfl rfl (zem hc13) (zaj (q := 1) zdl rfl ti29 rfl rfl rfl ?_)
  refine zba rfl rfl (zem hc13) (zbt (vs := [x_v1, x_v2, x_v3, x_v4, x_v5, x_v6, x_v7]) zax rfl ti29 rfl (hL14.at 1 rfl rfl) rfl rfl ?_)
  refine zba rfl rfl (zem hc13) (zaj (q := 8) zdl rfl ti27 rfl rfl rfl ?_)
  refine zba rfl rfl (zem hc13) (zat (v := x_v8) zca rfl rfl (hL14.at 1 rfl rfl) rfl ?_)
  obtain ⟨r14, q14, h⟩ := zen h
  have f31 := (f21.mono (K13 S))
  have f32 := (f22.mono (K13 S))
  have f33 := (f24.mono (K13 S))
  have f34 := (f25.mono (K13 S))
  have f35 := (f26.mono (K13 S))
  have f36 := (f27.mono (K13 S))
  have f37 := (f28.mono (K13 S))
  refine zba rfl rfl (zem hc13) (zbc en14 rfl rfl (wInts_w N x.L x.C x.Ranges x_v x_v1 x_v2 x_v3 x_v4 x_v5 x_v6 x_v7 x_v8 _ _ (f29.mono Hv.enter) (f31.mono Hv.enter) (f32.mono Hv.enter) (f30.mono Hv.enter) (f33.mono Hv.enter) (f34.mono Hv.enter) (f35.mono Hv.enter) (f36.mono Hv.enter) (f37.mono Hv.enter) r14 q14) ?_)
  rintro _ w15 hE15 ⟨ob11, cap11, cs11, sp11, rfl, hN11, hE16, hc14, -⟩
  replace hE16 := hE16.mono (Hv.aliasO (S := S) hL14 [ob11])
  have hp11 := hL14.adoptL hE15 hN11
  have hL15 := hp11.1
  have K14 := ks w hp11.2
  obtain ⟨r15, q15, h⟩ := zen h
  have f38 := (hE14.mono (K14 None))
  refine zba rfl rfl (zem hc13) (zbc en13 rfl rfl (wSame_w N r13.2 r14 (zO ob10 r13.2 cap10) (zO ob11 r14 cap11) _ Any (zeu (pre := []) (o := 0) (n := r13.2.length) (cap := cap10) (hL15.at 1 rfl rfl) f38 vw_any rfl rfl rfl hc12) (zeu (pre := []) (o := 0) (n := r14.length) (cap := cap11) (hL15.at 0 rfl rfl) hE16 vw_any rfl rfl rfl hc14) r15 q15) ?_)
  rintro _ w16 hE17 ⟨rfl, -⟩
  have hL16 := hL15.ext hE17
  refine zag (zbj (t := (decide ((r13.1 : Int) = (iw ((x.L.length : Int) + (x.C.Auxiliary.length : Int)))))) (v := (zab r15)) rfl (zem hc13) rfl ?_)
  refine zag (zam (v := (zab r15)) rfl ?_)
  refine zap (zbo ?_)
  obtain rfl := zae h
  refine ⟨[(zab r15)], zrt, ⟨_, rfl, hL16.done, ?_⟩⟩
  exact zrt
 replace h := ite_f hc13 h
 refine zbg rfl rfl (zel hc13) (zbg rfl rfl (zel hc13) (zbg rfl rfl (zel hc13) (zbg rfl rfl (zel hc13) (zbg rfl rfl (zel hc13) (zbg rfl rfl (zel hc13) (zbg rfl rfl (zel hc13) (zbg rfl rfl (zel hc13) (zbg rfl rfl (zel hc13) ?_))))))))
 refine zag (zbn (t := (decide ((r13.1 : Int) = (iw ((x.L.length : Int) + (x.C.Auxiliary.length : Int)))))) (v := zF) rfl (zel hc13) rfl ?_)
 refine zag (zam (v := zF) rfl ?_)
 refine zap (zbo ?_)
 obtain rfl := zae h
 refine ⟨[zF], zrt, ⟨_, rfl, hL14.done, ?_⟩⟩
 exact zrt
end Go.Proofs.YtcakdidcpoolcaaGreatDoor.WL

/- Walks, written by a program of mine (wip/tool); the kernel checks them. -/
import Derived.Test.YtakkacdhlocckaaProg
import Derived.Test.YtakkacdhlocckaaSqSize
import Derived.Test.YtakkacdhlocckaaPL
import Derived.Test.YtakkacdhlocckaaWASize
import Derived.Test.YtakkacdhlocckaaWRSize
import Derived.Test.YtakkacdhlocckaaWBSize
import Derived.Test.YtakkacdhlocckaaWCSize
import Derived.Test.YtakkacdhlocckaaWDSize
set_option maxRecDepth 100000
set_option maxHeartbeats 4000000
set_option linter.unusedVariables false
namespace Go.Proofs.Ytakkacdhlocckaa.WL
open Go Go.RowKit Go.X Go.D Go.Proofs.Ytakkacdhlocckaa.WA Go.Proofs.Ytakkacdhlocckaa.WR Go.Proofs.Ytakkacdhlocckaa.WB Go.Proofs.Ytakkacdhlocckaa.WC Go.Proofs.Ytakkacdhlocckaa.WD
theorem en24 : Enters Try.prog 24 := ⟨Try.f24, Try.func24, by kernel_rfl, by kernel_rfl⟩
theorem en41 : Enters Try.prog 41 := ⟨Try.f41, Try.func41, by kernel_rfl, by kernel_rfl⟩
theorem en42 : Enters Try.prog 42 := ⟨Try.f42, Try.func42, by kernel_rfl, by kernel_rfl⟩
theorem en20 : Enters Try.prog 20 := ⟨Try.f20, Try.func20, by kernel_rfl, by kernel_rfl⟩
theorem en11 : Enters Try.prog 11 := ⟨Try.f11, Try.func11, by kernel_rfl, by kernel_rfl⟩
theorem en17 : Enters Try.prog 17 := ⟨Try.f17, Try.func17, by kernel_rfl, by kernel_rfl⟩
theorem lbig_w (N : Nat) (n : Int)  (w : World) (S : Nat → Prop)  (r : Big) (h : lbig N n = some r) :
  Calls Try.prog 24 #[(zab .i64 n)] w (Ret w (fun v w' => ∃ (v0_0 : Value), (zaq #[(zaa r.Negative), v0_0]) = v ∧ Rs (rInt .u32) (vH w None [] w') v0_0 r.Digits ∧ True)) := by
 unfold lbig at h
 have hL : vL w w [] [] := Go.X.Loc.begin0 w
 refine calls_of (l := [(zab .i64 n)]) (rl := [.cell 2 26]) (n := 5) Try.func24 rfl rfl rfl (zae rfl) ?_
 refine zaj (zah rfl (zaf (zch (cs := [(zaa false), (zad none 0 0)]) ti26 rfl hL ?_)))
 intro b1 w2 hL3 hS5
 refine zar (zaj (zah rfl (zaf (zai (v := (zab .i64 n)) rfl ?_))))
 obtain ⟨r6, q7, h⟩ := zdp h
 refine zaf (zay en37 rfl rfl (rOf_w N n _ Any r6 q7) ?_)
 rintro _ w10 hE10 ⟨v8, rfl, k9, -⟩
 replace k9 := k9.mono (zbc (S := None) hL3 [])
 have hL10 := hL3.ext hE10
 refine zcj (zbs (vs := [(zaa r6.Negative), v8]) ti26 rfl rfl rfl rfl (zds rfl (zds k9.one zdw)) hL10 0 rfl rfl (zae rfl) ?_)
 intro w11 (hL11 : vL w w11 [some b1] [zac [(zaa r6.Negative), v8]]) hS10
 have K10 := ks w hS10
 refine zar (zbn ?_)
 obtain rfl := zag h
 refine ⟨[(zaq #[(zaa r6.Negative), v8])], ⟨⟨⟨b1, 0, none⟩, rfl, zdz zao rfl ti26 (hL11.at 0 rfl rfl) rfl⟩, trivial⟩, ⟨_, rfl, hL11.done, ?_⟩⟩
 have f10 := (k9.mono (K10 None))
 exact ⟨v8, rfl, (f10.mono zdm), trivial⟩
theorem linequality_w (N : Nat) (coef : Int) (bound : Int)  (w : World) (S : Nat → Prop)  (r : Ineq) (h : linequality N coef bound = some r) :
  Calls Try.prog 41 #[(zab .i64 coef), (zab .i64 bound)] w (Ret w (fun v w' => ∃ (v0_0 : Value) (v0_1 : Value), (zaq #[v0_0, (zaa r.Bound.Negative), v0_1]) = v ∧ Rs rBig (vH w None [] w') v0_0 r.Coefs ∧ Rs (rInt .u32) (vH w None [] w') v0_1 r.Bound.Digits ∧ True)) := by
 unfold linequality at h
 have hL : vL w w [] [] := Go.X.Loc.begin0 w
 refine calls_of (l := [(zab .i64 coef), (zab .i64 bound)]) (rl := [.cell 4 34]) (n := 11) Try.func41 rfl rfl rfl (zae rfl) ?_
 refine zaj (zah rfl (zaf (zch (cs := [(zad none 0 0), (zaa false), (zad none 0 0)]) ti34 rfl hL ?_)))
 intro b1 w2 hL3 hS5
 refine zar (zaj (zah rfl (zaf (zai (v := (zab .i64 coef)) rfl ?_))))
 obtain ⟨r6, q7, h⟩ := zdp h
 refine zaf (zay en24 rfl rfl (lbig_w N coef _ Any r6 q7) ?_)
 rintro _ w10 hE10 ⟨v8, rfl, k9, -⟩
 replace k9 := k9.mono (zbc (S := None) hL3 [])
 have hL10 := hL3.ext hE10
 have hE11 : Els rBig (vH w None [some b1] w10) [(zaa r6.Negative), v8] [r6] := (zco (a := [(zaa r6.Negative), v8]) (rBig_close ⟨v8, rfl, k9, trivial⟩) zcy)
 refine zaf (zcq (r := rBig) (vs := [(zaq #[(zaa r6.Negative), v8])]) (css := [[(zaa r6.Negative), v8]]) (xs := [r6]) zbb ti26 (zae rfl) rfl rfl ⟨rfl, rfl, trivial⟩ (zae rfl) hE11 rfl hL10 ?_)
 intro b10 w11 hc10 hL11 hS10
 have K10 := ks w hS10
 refine zaf (zai (v := (zab .i64 bound)) rfl ?_)
 obtain ⟨r10, q10, h⟩ := zdp h
 refine zaf (zay en24 rfl rfl (lbig_w N bound _ Any r10 q10) ?_)
 rintro _ w12 hE12 ⟨v10, rfl, k10, -⟩
 replace k10 := k10.mono (zbc (S := None) hL11 [])
 have hL12 := hL11.ext hE12
 have K11 := ke hL11 hE12
 refine zaf (zdc (zc := [(zad none 0 0), (zaa false), (zad none 0 0)]) (cs := [(osv (some b10) 0 1 1), (zaa r10.Negative), v10]) (is := [0, 1]) (vs := [(osv (some b10) 0 1 1), (zaq #[(zaa r10.Negative), v10])]) (css := [[(osv (some b10) 0 1 1)], [(zaa r10.Negative), v10]]) pl34 ti34 rfl rfl rfl ⟨(zec (zea _ _ _ _)), ⟨rfl, trivial⟩⟩ rfl ?_)
 refine zcj (zbs (vs := [(osv (some b10) 0 1 1), (zaa r10.Negative), v10]) ti34 rfl rfl rfl rfl (zds (zea _ _ _ _) (zds rfl (zds k10.one zdw))) hL12 1 rfl rfl (zae rfl) ?_)
 intro w13 (hL13 : vL w w13 [some b10, some b1] [zac ([] ++ ([(zaa r6.Negative), v8] ++ [])), zac [(osv (some b10) 0 1 1), (zaa r10.Negative), v10]]) hS11
 have K12 := ks w hS11
 refine zar ?_
 have f10 := (((hE11.mono (K10 None)).mono (K11 None)).mono (K12 None))
 have f11 := hL13.freezeRow 0 rfl rfl f10 rfl rfl rfl hc10
 have hp10 := hL13.pick [1] rfl rfl rfl
 have hL14 : vL w w13 [some b1] [zac [(osv (some b10) 0 1 1), (zaa r10.Negative), v10]] := hp10.1
 have K13 := ks w hp10.2
 refine zbn ?_
 obtain rfl := zag h
 refine ⟨[(zaq #[(osv (some b10) 0 1 1), (zaa r10.Negative), v10])], ⟨⟨⟨b1, 0, none⟩, rfl, zdz zbq rfl ti34 (hL14.at 0 rfl rfl) rfl⟩, trivial⟩, ⟨_, rfl, hL14.done, ?_⟩⟩
 have f12 := ((k10.mono (K12 None)).mono (K13 None))
 exact ⟨(osv (some b10) 0 1 1), v10, rfl, (f11.mono zdm), (f12.mono zdm), trivial⟩
theorem luse_w (N : Nat) (i : Int) (n : Int)  (w : World) (S : Nat → Prop)  (r : Use) (h : luse N i n = some r) :
  Calls Try.prog 42 #[(zab .i64 i), (zab .i64 n)] w (Ret w (fun v w' => ∃ (v0_0 : Value), (zaq #[(zab .i64 r.Index), (zaa r.N.Negative), v0_0]) = v ∧ Rs (rInt .u32) (vH w None [] w') v0_0 r.N.Digits ∧ True)) := by
 unfold luse at h
 have hL : vL w w [] [] := Go.X.Loc.begin0 w
 refine calls_of (l := [(zab .i64 i), (zab .i64 n)]) (rl := [.cell 4 50]) (n := 9) Try.func42 rfl rfl rfl (zae rfl) ?_
 refine zaj (zah rfl (zaf (zch (cs := [(zab .i64 0), (zaa false), (zad none 0 0)]) ti50 rfl hL ?_)))
 intro b1 w2 hL3 hS5
 refine zar (zaj (zah rfl (zaf (zai (v := (zab .i64 i)) rfl ?_))))
 refine zaf (zai (v := (zab .i64 n)) rfl ?_)
 obtain ⟨r6, q7, h⟩ := zdp h
 refine zaf (zay en24 rfl rfl (lbig_w N n _ Any r6 q7) ?_)
 rintro _ w10 hE10 ⟨v8, rfl, k9, -⟩
 replace k9 := k9.mono (zbc (S := None) hL3 [])
 have hL10 := hL3.ext hE10
 refine zaf (zdc (zc := [(zab .i64 0), (zaa false), (zad none 0 0)]) (cs := [(zab .i64 i), (zaa r6.Negative), v8]) (is := [0, 1]) (vs := [(zab .i64 i), (zaq #[(zaa r6.Negative), v8])]) (css := [[(zab .i64 i)], [(zaa r6.Negative), v8]]) pl50 ti50 rfl rfl rfl ⟨rfl, rfl, trivial⟩ rfl ?_)
 refine zcj (zbs (vs := [(zab .i64 i), (zaa r6.Negative), v8]) ti50 rfl rfl rfl rfl (zds rfl (zds rfl (zds k9.one zdw))) hL10 0 rfl rfl (zae rfl) ?_)
 intro w11 (hL11 : vL w w11 [some b1] [zac [(zab .i64 i), (zaa r6.Negative), v8]]) hS10
 have K10 := ks w hS10
 refine zar (zbn ?_)
 obtain rfl := zag h
 refine ⟨[(zaq #[(zab .i64 i), (zaa r6.Negative), v8])], ⟨⟨⟨b1, 0, none⟩, rfl, zdz zcf rfl ti50 (hL11.at 0 rfl rfl) rfl⟩, trivial⟩, ⟨_, rfl, hL11.done, ?_⟩⟩
 have f10 := (k9.mono (K10 None))
 exact ⟨v8, rfl, (f10.mono zdm), trivial⟩
theorem awake_w (N : Nat)   (w : World) (S : Nat → Prop)  (r : Bool) (h : awake N  = some r) :
  Calls Try.prog 11 #[] w (Ret w (fun v w' => (zaa r) = v ∧ True)) := by
 unfold awake at h
 have hL : vL w w [] [] := Go.X.Loc.begin0 w
 refine calls_of (l := []) (rl := [.tmp 0]) (n := 84) Try.func11 rfl rfl rfl (zae rfl) ?_
 refine zaj (zah rfl (zaf (zal (v := (zaa false)) rfl ?_)))
 refine zar (zaj (zah rfl ?_))
 obtain ⟨r1, q2, h⟩ := zdp h
 refine zaf (zay en41 rfl rfl (linequality_w N 1 2 _ Any r1 q2) ?_)
 rintro _ w8 hE10 ⟨v3, v5, rfl, k4, k6, -⟩
 replace k4 := k4.mono (zbc (S := None) hL [])
 replace k6 := k6.mono (zbc (S := None) hL [])
 have hL9 := hL.ext hE10
 obtain ⟨r10, q10, h⟩ := zdp h
 refine zaf (zay en41 rfl rfl (linequality_w N (-1) (-5) _ Any r10 q10) ?_)
 rintro _ w10 hE11 ⟨v10, v11, rfl, k10, k11, -⟩
 replace k10 := k10.mono (zbc (S := None) hL9 [])
 replace k11 := k11.mono (zbc (S := None) hL9 [])
 have hL10 := hL9.ext hE11
 have K10 := ke hL9 hE11
 have f10 := (k4.mono (K10 None))
 have f11 := (k6.mono (K10 None))
 have hE12 : Els rIneq (vH w None [] w10) [v3, (zaa r1.Bound.Negative), v5, v10, (zaa r10.Bound.Negative), v11] [r1, r10] := (zco (a := [v3, (zaa r1.Bound.Negative), v5]) (rIneq_close ⟨v3, v5, rfl, f10, f11, trivial⟩) (zco (a := [v10, (zaa r10.Bound.Negative), v11]) (rIneq_close ⟨v10, v11, rfl, k10, k11, trivial⟩) zcy))
 refine zaf (zcq (r := rIneq) (vs := [(zaq #[v3, (zaa r1.Bound.Negative), v5]), (zaq #[v10, (zaa r10.Bound.Negative), v11])]) (css := [[v3, (zaa r1.Bound.Negative), v5], [v10, (zaa r10.Bound.Negative), v11]]) (xs := [r1, r10]) zbv ti34 (zae rfl) rfl rfl ⟨rfl, rfl, ⟨rfl, rfl, trivial⟩⟩ (zae rfl) hE12 rfl hL10 ?_)
 intro b10 w11 hc10 hL11 hS10
 have K11 := ks w hS10
 refine zaf (zal (v := (osv (some b10) 0 2 2)) rfl ?_)
 refine zar (zaj (zah rfl ?_))
 obtain ⟨r11, q11, h⟩ := zdp h
 refine zaf (zay en41 rfl rfl (linequality_w N 2 5 _ Any r11 q11) ?_)
 rintro _ w12 hE13 ⟨v12, v13, rfl, k12, k13, -⟩
 replace k12 := k12.mono (zbc (S := None) hL11 [])
 replace k13 := k13.mono (zbc (S := None) hL11 [])
 have hL12 := hL11.ext hE13
 have K12 := ke hL11 hE13
 obtain ⟨r12, q12, h⟩ := zdp h
 refine zaf (zay en41 rfl rfl (linequality_w N (-2) (-5) _ Any r12 q12) ?_)
 rintro _ w13 hE14 ⟨v14, v15, rfl, k14, k15, -⟩
 replace k14 := k14.mono (zbc (S := None) hL12 [])
 replace k15 := k15.mono (zbc (S := None) hL12 [])
 have hL13 := hL12.ext hE14
 have K13 := ke hL12 hE14
 have f12 := (k12.mono (K13 None))
 have f13 := (k13.mono (K13 None))
 have hE15 : Els rIneq (vH w None [some b10] w13) [v12, (zaa r11.Bound.Negative), v13, v14, (zaa r12.Bound.Negative), v15] [r11, r12] := (zco (a := [v12, (zaa r11.Bound.Negative), v13]) (rIneq_close ⟨v12, v13, rfl, f12, f13, trivial⟩) (zco (a := [v14, (zaa r12.Bound.Negative), v15]) (rIneq_close ⟨v14, v15, rfl, k14, k15, trivial⟩) zcy))
 refine zaf (zcq (r := rIneq) (vs := [(zaq #[v12, (zaa r11.Bound.Negative), v13]), (zaq #[v14, (zaa r12.Bound.Negative), v15])]) (css := [[v12, (zaa r11.Bound.Negative), v13], [v14, (zaa r12.Bound.Negative), v15]]) (xs := [r11, r12]) zbv ti34 (zae rfl) rfl rfl ⟨rfl, rfl, ⟨rfl, rfl, trivial⟩⟩ (zae rfl) hE15 rfl hL13 ?_)
 intro b11 w14 hc11 hL14 hS11
 have K14 := ks w hS11
 refine zaf (zal (v := (osv (some b11) 0 2 2)) rfl ?_)
 refine zar (zaj (zah rfl ?_))
 obtain ⟨r13, q13, h⟩ := zdp h
 refine zaf (zay en41 rfl rfl (linequality_w N 3 4 _ Any r13 q13) ?_)
 rintro _ w15 hE16 ⟨v16, v17, rfl, k16, k17, -⟩
 replace k16 := k16.mono (zbc (S := None) hL14 [])
 replace k17 := k17.mono (zbc (S := None) hL14 [])
 have hL15 := hL14.ext hE16
 have K15 := ke hL14 hE16
 obtain ⟨r14, q14, h⟩ := zdp h
 refine zaf (zay en41 rfl rfl (linequality_w N (-3) (-4) _ Any r14 q14) ?_)
 rintro _ w16 hE17 ⟨v18, v19, rfl, k18, k19, -⟩
 replace k18 := k18.mono (zbc (S := None) hL15 [])
 replace k19 := k19.mono (zbc (S := None) hL15 [])
 have hL16 := hL15.ext hE17
 have K16 := ke hL15 hE17
 have f14 := (k16.mono (K16 None))
 have f15 := (k17.mono (K16 None))
 have hE18 : Els rIneq (vH w None [some b11, some b10] w16) [v16, (zaa r13.Bound.Negative), v17, v18, (zaa r14.Bound.Negative), v19] [r13, r14] := (zco (a := [v16, (zaa r13.Bound.Negative), v17]) (rIneq_close ⟨v16, v17, rfl, f14, f15, trivial⟩) (zco (a := [v18, (zaa r14.Bound.Negative), v19]) (rIneq_close ⟨v18, v19, rfl, k18, k19, trivial⟩) zcy))
 refine zaf (zcq (r := rIneq) (vs := [(zaq #[v16, (zaa r13.Bound.Negative), v17]), (zaq #[v18, (zaa r14.Bound.Negative), v19])]) (css := [[v16, (zaa r13.Bound.Negative), v17], [v18, (zaa r14.Bound.Negative), v19]]) (xs := [r13, r14]) zbv ti34 (zae rfl) rfl rfl ⟨rfl, rfl, ⟨rfl, rfl, trivial⟩⟩ (zae rfl) hE18 rfl hL16 ?_)
 intro b12 w17 hc12 hL17 hS12
 have K17 := ks w hS12
 refine zaf (zal (v := (osv (some b12) 0 2 2)) rfl ?_)
 refine zar (zaj (zah rfl ?_))
 obtain ⟨r15, q15, h⟩ := zdp h
 refine zaf (zay en42 rfl rfl (luse_w N 0 1 _ Any r15 q15) ?_)
 rintro _ w18 hE19 ⟨v20, rfl, k20, -⟩
 replace k20 := k20.mono (zbc (S := None) hL17 [])
 have hL18 := hL17.ext hE19
 have K18 := ke hL17 hE19
 have hE20 : Els rUse (vH w None [some b12, some b11, some b10] w18) [(zab .i64 r15.Index), (zaa r15.N.Negative), v20] [r15] := (zco (a := [(zab .i64 r15.Index), (zaa r15.N.Negative), v20]) (rUse_close ⟨v20, rfl, k20, trivial⟩) zcy)
 refine zaf (zcq (r := rUse) (vs := [(zaq #[(zab .i64 r15.Index), (zaa r15.N.Negative), v20])]) (css := [[(zab .i64 r15.Index), (zaa r15.N.Negative), v20]]) (xs := [r15]) zbp ti50 (zae rfl) rfl rfl ⟨rfl, rfl, trivial⟩ (zae rfl) hE20 rfl hL18 ?_)
 intro b13 w19 hc13 hL19 hS13
 have K19 := ks w hS13
 obtain ⟨r16, q16, h⟩ := zdp h
 refine zaf (zay en24 rfl rfl (lbig_w N 2 _ Any r16 q16) ?_)
 rintro _ w20 hE21 ⟨v21, rfl, k21, -⟩
 replace k21 := k21.mono (zbc (S := None) hL19 [])
 have hL20 := hL19.ext hE21
 have K20 := ke hL19 hE21
 refine zaf (zdc (zc := [(zad none 0 0), (zaa false), (zad none 0 0)]) (cs := [(osv (some b13) 0 1 1), (zaa r16.Negative), v21]) (is := [0, 1]) (vs := [(osv (some b13) 0 1 1), (zaq #[(zaa r16.Negative), v21])]) (css := [[(osv (some b13) 0 1 1)], [(zaa r16.Negative), v21]]) pl28 ti28 rfl rfl rfl ⟨(zec (zea _ _ _ _)), ⟨rfl, trivial⟩⟩ rfl ?_)
 obtain ⟨r17, q17, h⟩ := zdp h
 refine zaf (zay en42 rfl rfl (luse_w N 1 1 _ Any r17 q17) ?_)
 rintro _ w21 hE22 ⟨v22, rfl, k22, -⟩
 replace k22 := k22.mono (zbc (S := None) hL20 [])
 have hL21 := hL20.ext hE22
 have K21 := ke hL20 hE22
 have hE23 : Els rUse (vH w None [some b13, some b12, some b11, some b10] w21) [(zab .i64 r17.Index), (zaa r17.N.Negative), v22] [r17] := (zco (a := [(zab .i64 r17.Index), (zaa r17.N.Negative), v22]) (rUse_close ⟨v22, rfl, k22, trivial⟩) zcy)
 refine zaf (zcq (r := rUse) (vs := [(zaq #[(zab .i64 r17.Index), (zaa r17.N.Negative), v22])]) (css := [[(zab .i64 r17.Index), (zaa r17.N.Negative), v22]]) (xs := [r17]) zbp ti50 (zae rfl) rfl rfl ⟨rfl, rfl, trivial⟩ (zae rfl) hE23 rfl hL21 ?_)
 intro b14 w22 hc14 hL22 hS14
 have K22 := ks w hS14
 obtain ⟨r18, q18, h⟩ := zdp h
 refine zaf (zay en24 rfl rfl (lbig_w N 2 _ Any r18 q18) ?_)
 rintro _ w23 hE24 ⟨v23, rfl, k23, -⟩
 replace k23 := k23.mono (zbc (S := None) hL22 [])
 have hL23 := hL22.ext hE24
 have K23 := ke hL22 hE24
 refine zaf (zdc (zc := [(zad none 0 0), (zaa false), (zad none 0 0)]) (cs := [(osv (some b14) 0 1 1), (zaa r18.Negative), v23]) (is := [0, 1]) (vs := [(osv (some b14) 0 1 1), (zaq #[(zaa r18.Negative), v23])]) (css := [[(osv (some b14) 0 1 1)], [(zaa r18.Negative), v23]]) pl28 ti28 rfl rfl rfl ⟨(zec (zea _ _ _ _)), ⟨rfl, trivial⟩⟩ rfl ?_)
 obtain ⟨r19, q19, h⟩ := zdp h
 refine zaf (zay en42 rfl rfl (luse_w N 2 1 _ Any r19 q19) ?_)
 rintro _ w24 hE25 ⟨v24, rfl, k24, -⟩
 replace k24 := k24.mono (zbc (S := None) hL23 [])
 have hL24 := hL23.ext hE25
 have K24 := ke hL23 hE25
 obtain ⟨r20, q20, h⟩ := zdp h
 refine zaf (zay en42 rfl rfl (luse_w N 3 1 _ Any r20 q20) ?_)
 rintro _ w25 hE26 ⟨v25, rfl, k25, -⟩
 replace k25 := k25.mono (zbc (S := None) hL24 [])
 have hL25 := hL24.ext hE26
 have K25 := ke hL24 hE26
 have f16 := (k24.mono (K25 None))
 have hE27 : Els rUse (vH w None [some b14, some b13, some b12, some b11, some b10] w25) [(zab .i64 r19.Index), (zaa r19.N.Negative), v24, (zab .i64 r20.Index), (zaa r20.N.Negative), v25] [r19, r20] := (zco (a := [(zab .i64 r19.Index), (zaa r19.N.Negative), v24]) (rUse_close ⟨v24, rfl, f16, trivial⟩) (zco (a := [(zab .i64 r20.Index), (zaa r20.N.Negative), v25]) (rUse_close ⟨v25, rfl, k25, trivial⟩) zcy))
 refine zaf (zcq (r := rUse) (vs := [(zaq #[(zab .i64 r19.Index), (zaa r19.N.Negative), v24]), (zaq #[(zab .i64 r20.Index), (zaa r20.N.Negative), v25])]) (css := [[(zab .i64 r19.Index), (zaa r19.N.Negative), v24], [(zab .i64 r20.Index), (zaa r20.N.Negative), v25]]) (xs := [r19, r20]) zbp ti50 (zae rfl) rfl rfl ⟨rfl, rfl, ⟨rfl, rfl, trivial⟩⟩ (zae rfl) hE27 rfl hL25 ?_)
 intro b15 w26 hc15 hL26 hS15
 have K26 := ks w hS15
 obtain ⟨r21, q21, h⟩ := zdp h
 refine zaf (zay en24 rfl rfl (lbig_w N 1 _ Any r21 q21) ?_)
 rintro _ w27 hE28 ⟨v26, rfl, k26, -⟩
 replace k26 := k26.mono (zbc (S := None) hL26 [])
 have hL27 := hL26.ext hE28
 have K27 := ke hL26 hE28
 refine zaf (zdc (zc := [(zad none 0 0), (zaa false), (zad none 0 0)]) (cs := [(osv (some b15) 0 2 2), (zaa r21.Negative), v26]) (is := [0, 1]) (vs := [(osv (some b15) 0 2 2), (zaq #[(zaa r21.Negative), v26])]) (css := [[(osv (some b15) 0 2 2)], [(zaa r21.Negative), v26]]) pl28 ti28 rfl rfl rfl ⟨(zec (zea _ _ _ _)), ⟨rfl, trivial⟩⟩ rfl ?_)
 have f17 := (((((((((hE20.mono (K19 None)).mono (K20 None)).mono (K21 None)).mono (K22 None)).mono (K23 None)).mono (K24 None)).mono (K25 None)).mono (K26 None)).mono (K27 None))
 have f18 := hL27.freezeRow 2 rfl rfl f17 rfl rfl rfl hc13
 have hp10 := hL27.pick [0, 1, 3, 4, 5] rfl rfl rfl
 have hL28 : vL w w27 [some b15, some b14, some b12, some b11, some b10] [zac ([] ++ ([(zab .i64 r19.Index), (zaa r19.N.Negative), v24, (zab .i64 r20.Index), (zaa r20.N.Negative), v25] ++ [])), zac ([] ++ ([(zab .i64 r17.Index), (zaa r17.N.Negative), v22] ++ [])), zac ([] ++ ([v16, (zaa r13.Bound.Negative), v17, v18, (zaa r14.Bound.Negative), v19] ++ [])), zac ([] ++ ([v12, (zaa r11.Bound.Negative), v13, v14, (zaa r12.Bound.Negative), v15] ++ [])), zac ([] ++ ([v3, (zaa r1.Bound.Negative), v5, v10, (zaa r10.Bound.Negative), v11] ++ []))] := hp10.1
 have K28 := ks w hp10.2
 have f19 := (((((((hE23.mono (K22 None)).mono (K23 None)).mono (K24 None)).mono (K25 None)).mono (K26 None)).mono (K27 None)).mono (K28 None))
 have f20 := hL28.freezeRow 1 rfl rfl f19 rfl rfl rfl hc14
 have hp11 := hL28.pick [0, 2, 3, 4] rfl rfl rfl
 have hL29 : vL w w27 [some b15, some b12, some b11, some b10] [zac ([] ++ ([(zab .i64 r19.Index), (zaa r19.N.Negative), v24, (zab .i64 r20.Index), (zaa r20.N.Negative), v25] ++ [])), zac ([] ++ ([v16, (zaa r13.Bound.Negative), v17, v18, (zaa r14.Bound.Negative), v19] ++ [])), zac ([] ++ ([v12, (zaa r11.Bound.Negative), v13, v14, (zaa r12.Bound.Negative), v15] ++ [])), zac ([] ++ ([v3, (zaa r1.Bound.Negative), v5, v10, (zaa r10.Bound.Negative), v11] ++ []))] := hp11.1
 have K29 := ks w hp11.2
 have f21 := ((((hE27.mono (K26 None)).mono (K27 None)).mono (K28 None)).mono (K29 None))
 have f22 := hL29.freezeRow 0 rfl rfl f21 rfl rfl rfl hc15
 have hp12 := hL29.pick [1, 2, 3] rfl rfl rfl
 have hL30 : vL w w27 [some b12, some b11, some b10] [zac ([] ++ ([v16, (zaa r13.Bound.Negative), v17, v18, (zaa r14.Bound.Negative), v19] ++ [])), zac ([] ++ ([v12, (zaa r11.Bound.Negative), v13, v14, (zaa r12.Bound.Negative), v15] ++ [])), zac ([] ++ ([v3, (zaa r1.Bound.Negative), v5, v10, (zaa r10.Bound.Negative), v11] ++ []))] := hp12.1
 have K30 := ks w hp12.2
 have f23 := (((k26.mono (K28 None)).mono (K29 None)).mono (K30 None))
 have f24 := (f20.mono (K30 None))
 have f25 := (((((((k23.mono (K24 None)).mono (K25 None)).mono (K26 None)).mono (K27 None)).mono (K28 None)).mono (K29 None)).mono (K30 None))
 have f26 := ((f18.mono (K29 None)).mono (K30 None))
 have f27 := ((((((((((k21.mono (K21 None)).mono (K22 None)).mono (K23 None)).mono (K24 None)).mono (K25 None)).mono (K26 None)).mono (K27 None)).mono (K28 None)).mono (K29 None)).mono (K30 None))
 have hE29 : Els rStep (vH w None [some b12, some b11, some b10] w27) [(osv (some b13) 0 1 1), (zaa r16.Negative), v21, (osv (some b14) 0 1 1), (zaa r18.Negative), v23, (osv (some b15) 0 2 2), (zaa r21.Negative), v26] [(Step.mk [r15] r16), (Step.mk [r17] r18), (Step.mk [r19, r20] r21)] := (zco (a := [(osv (some b13) 0 1 1), (zaa r16.Negative), v21]) (rStep_close ⟨(osv (some b13) 0 1 1), v21, rfl, f26, f27, trivial⟩) (zco (a := [(osv (some b14) 0 1 1), (zaa r18.Negative), v23]) (rStep_close ⟨(osv (some b14) 0 1 1), v23, rfl, f24, f25, trivial⟩) (zco (a := [(osv (some b15) 0 2 2), (zaa r21.Negative), v26]) (rStep_close ⟨(osv (some b15) 0 2 2), v26, rfl, f22, f23, trivial⟩) zcy)))
 refine zaf (zcq (r := rStep) (vs := [(zaq #[(osv (some b13) 0 1 1), (zaa r16.Negative), v21]), (zaq #[(osv (some b14) 0 1 1), (zaa r18.Negative), v23]), (zaq #[(osv (some b15) 0 2 2), (zaa r21.Negative), v26])]) (css := [[(osv (some b13) 0 1 1), (zaa r16.Negative), v21], [(osv (some b14) 0 1 1), (zaa r18.Negative), v23], [(osv (some b15) 0 2 2), (zaa r21.Negative), v26]]) (xs := [(Step.mk [r15] r16), (Step.mk [r17] r18), (Step.mk [r19, r20] r21)]) zbi ti28 (zae rfl) rfl rfl ⟨rfl, rfl, ⟨rfl, rfl, ⟨rfl, rfl, trivial⟩⟩⟩ (zae rfl) hE29 rfl hL30 ?_)
 intro b16 w28 hc16 hL31 hS16
 have K31 := ks w hS16
 refine zaf (zdc (zc := [(zad none 0 0), (zad none 0 0), (zaa false), (zad none 0 0), (zad none 0 0)]) (cs := [(osv (some b16) 0 3 3), (zad none 0 0), (zaa false), (zad none 0 0), (zad none 0 0)]) (is := [0]) (vs := [(osv (some b16) 0 3 3)]) (css := [[(osv (some b16) 0 3 3)]]) pl42 ti42 rfl rfl rfl ⟨(zec (zea _ _ _ _)), trivial⟩ rfl ?_)
 refine zaf (zch (cs := [(zad none 0 0), (zad none 0 0), (zaa false), (zad none 0 0), (zad none 0 0)]) ti42 rfl hL31 ?_)
 intro b17 w29 hL32 hS17
 have K32 := ks w hS17
 refine zcj (zbs (vs := [(osv (some b16) 0 3 3), (zad none 0 0), (zaa false), (zad none 0 0), (zad none 0 0)]) ti42 rfl rfl rfl rfl (zds (zea _ _ _ _) (zds rfl (zds rfl (zds rfl (zds rfl zdw))))) hL32 0 rfl rfl (zae rfl) ?_)
 intro w30 (hL33 : vL w w30 [some b17, some b16, some b12, some b11, some b10] [zac [(osv (some b16) 0 3 3), (zad none 0 0), (zaa false), (zad none 0 0), (zad none 0 0)], zac ([] ++ ([(osv (some b13) 0 1 1), (zaa r16.Negative), v21, (osv (some b14) 0 1 1), (zaa r18.Negative), v23, (osv (some b15) 0 2 2), (zaa r21.Negative), v26] ++ [])), zac ([] ++ ([v16, (zaa r13.Bound.Negative), v17, v18, (zaa r14.Bound.Negative), v19] ++ [])), zac ([] ++ ([v12, (zaa r11.Bound.Negative), v13, v14, (zaa r12.Bound.Negative), v15] ++ [])), zac ([] ++ ([v3, (zaa r1.Bound.Negative), v5, v10, (zaa r10.Bound.Negative), v11] ++ []))]) hS18
 have K33 := ks w hS18
 refine zar (zaj (zah rfl ?_))
 obtain ⟨r22, q22, h⟩ := zdp h
 refine zaf (zay en24 rfl rfl (lbig_w N 1 _ Any r22 q22) ?_)
 rintro _ w31 hE30 ⟨v27, rfl, k27, -⟩
 replace k27 := k27.mono (zbc (S := None) hL33 [])
 have hL34 := hL33.ext hE30
 have K34 := ke hL33 hE30
 have hE31 : Els rBig (vH w None [some b17, some b16, some b12, some b11, some b10] w31) [(zaa r22.Negative), v27] [r22] := (zco (a := [(zaa r22.Negative), v27]) (rBig_close ⟨v27, rfl, k27, trivial⟩) zcy)
 refine zaf (zcq (r := rBig) (vs := [(zaq #[(zaa r22.Negative), v27])]) (css := [[(zaa r22.Negative), v27]]) (xs := [r22]) zbb ti26 (zae rfl) rfl rfl ⟨rfl, rfl, trivial⟩ (zae rfl) hE31 rfl hL34 ?_)
 intro b18 w32 hc17 hL35 hS19
 have K35 := ks w hS19
 obtain ⟨r23, q23, h⟩ := zdp h
 refine zaf (zay en24 rfl rfl (lbig_w N 1 _ Any r23 q23) ?_)
 rintro _ w33 hE32 ⟨v28, rfl, k28, -⟩
 replace k28 := k28.mono (zbc (S := None) hL35 [])
 have hL36 := hL35.ext hE32
 have K36 := ke hL35 hE32
 obtain ⟨r24, q24, h⟩ := zdp h
 refine zaf (zay en42 rfl rfl (luse_w N 2 3 _ Any r24 q24) ?_)
 rintro _ w34 hE33 ⟨v29, rfl, k29, -⟩
 replace k29 := k29.mono (zbc (S := None) hL36 [])
 have hL37 := hL36.ext hE33
 have K37 := ke hL36 hE33
 obtain ⟨r25, q25, h⟩ := zdp h
 refine zaf (zay en42 rfl rfl (luse_w N 1 1 _ Any r25 q25) ?_)
 rintro _ w35 hE34 ⟨v30, rfl, k30, -⟩
 replace k30 := k30.mono (zbc (S := None) hL37 [])
 have hL38 := hL37.ext hE34
 have K38 := ke hL37 hE34
 have f28 := (k29.mono (K38 None))
 have hE35 : Els rUse (vH w None [some b18, some b17, some b16, some b12, some b11, some b10] w35) [(zab .i64 r24.Index), (zaa r24.N.Negative), v29, (zab .i64 r25.Index), (zaa r25.N.Negative), v30] [r24, r25] := (zco (a := [(zab .i64 r24.Index), (zaa r24.N.Negative), v29]) (rUse_close ⟨v29, rfl, f28, trivial⟩) (zco (a := [(zab .i64 r25.Index), (zaa r25.N.Negative), v30]) (rUse_close ⟨v30, rfl, k30, trivial⟩) zcy))
 refine zaf (zcq (r := rUse) (vs := [(zaq #[(zab .i64 r24.Index), (zaa r24.N.Negative), v29]), (zaq #[(zab .i64 r25.Index), (zaa r25.N.Negative), v30])]) (css := [[(zab .i64 r24.Index), (zaa r24.N.Negative), v29], [(zab .i64 r25.Index), (zaa r25.N.Negative), v30]]) (xs := [r24, r25]) zbp ti50 (zae rfl) rfl rfl ⟨rfl, rfl, ⟨rfl, rfl, trivial⟩⟩ (zae rfl) hE35 rfl hL38 ?_)
 intro b19 w36 hc18 hL39 hS20
 have K39 := ks w hS20
 obtain ⟨r26, q26, h⟩ := zdp h
 have f29 := (hE35.mono (K39 None))
 refine zaf (zay en20 rfl rfl (cSum_w N [r24, r25] (osv (some b19) 0 2 2) _ Any (zdv (pre := []) (o := 0) (n := 2) (cap := 2) (hL39.at 0 rfl rfl) f29 vw_any rfl rfl rfl hc18) r26 q26) ?_)
 rintro _ w37 hE36 ⟨v31, v32, v33, v34, rfl, k31, k32, k33, k34, -⟩
 replace k31 := k31.mono (zbc (S := None) hL39 [])
 replace k32 := k32.mono (zbc (S := None) hL39 [])
 replace k33 := k33.mono (zbc (S := None) hL39 [])
 replace k34 := k34.mono (zbc (S := None) hL39 [])
 have hL40 := hL39.ext hE36
 have K40 := ke hL39 hE36
 obtain ⟨r27, q27, h⟩ := zdp h
 refine zaf (zay en42 rfl rfl (luse_w N 2 3 _ Any r27 q27) ?_)
 rintro _ w38 hE37 ⟨v35, rfl, k35, -⟩
 replace k35 := k35.mono (zbc (S := None) hL40 [])
 have hL41 := hL40.ext hE37
 have K41 := ke hL40 hE37
 obtain ⟨r28, q28, h⟩ := zdp h
 refine zaf (zay en42 rfl rfl (luse_w N 0 1 _ Any r28 q28) ?_)
 rintro _ w39 hE38 ⟨v36, rfl, k36, -⟩
 replace k36 := k36.mono (zbc (S := None) hL41 [])
 have hL42 := hL41.ext hE38
 have K42 := ke hL41 hE38
 have f30 := (k35.mono (K42 None))
 have hE39 : Els rUse (vH w None [some b19, some b18, some b17, some b16, some b12, some b11, some b10] w39) [(zab .i64 r27.Index), (zaa r27.N.Negative), v35, (zab .i64 r28.Index), (zaa r28.N.Negative), v36] [r27, r28] := (zco (a := [(zab .i64 r27.Index), (zaa r27.N.Negative), v35]) (rUse_close ⟨v35, rfl, f30, trivial⟩) (zco (a := [(zab .i64 r28.Index), (zaa r28.N.Negative), v36]) (rUse_close ⟨v36, rfl, k36, trivial⟩) zcy))
 refine zaf (zcq (r := rUse) (vs := [(zaq #[(zab .i64 r27.Index), (zaa r27.N.Negative), v35]), (zaq #[(zab .i64 r28.Index), (zaa r28.N.Negative), v36])]) (css := [[(zab .i64 r27.Index), (zaa r27.N.Negative), v35], [(zab .i64 r28.Index), (zaa r28.N.Negative), v36]]) (xs := [r27, r28]) zbp ti50 (zae rfl) rfl rfl ⟨rfl, rfl, ⟨rfl, rfl, trivial⟩⟩ (zae rfl) hE39 rfl hL42 ?_)
 intro b20 w40 hc19 hL43 hS21
 have K43 := ks w hS21
 obtain ⟨r29, q29, h⟩ := zdp h
 have f31 := (hE39.mono (K43 None))
 refine zaf (zay en20 rfl rfl (cSum_w N [r27, r28] (osv (some b20) 0 2 2) _ Any (zdv (pre := []) (o := 0) (n := 2) (cap := 2) (hL43.at 0 rfl rfl) f31 vw_any rfl rfl rfl hc19) r29 q29) ?_)
 rintro _ w41 hE40 ⟨v37, v38, v39, v40, rfl, k37, k38, k39, k40, -⟩
 replace k37 := k37.mono (zbc (S := None) hL43 [])
 replace k38 := k38.mono (zbc (S := None) hL43 [])
 replace k39 := k39.mono (zbc (S := None) hL43 [])
 replace k40 := k40.mono (zbc (S := None) hL43 [])
 have hL44 := hL43.ext hE40
 have K44 := ke hL43 hE40
 have f32 := ((((k31.mono (K41 None)).mono (K42 None)).mono (K43 None)).mono (K44 None))
 have f33 := ((((k32.mono (K41 None)).mono (K42 None)).mono (K43 None)).mono (K44 None))
 have f34 := ((((k33.mono (K41 None)).mono (K42 None)).mono (K43 None)).mono (K44 None))
 have f35 := ((((k34.mono (K41 None)).mono (K42 None)).mono (K43 None)).mono (K44 None))
 have hE41 : Els rProof (vH w None [some b20, some b19, some b18, some b17, some b16, some b12, some b11, some b10] w41) [v31, v32, (zaa r26.Bound.Negative), v33, v34, v37, v38, (zaa r29.Bound.Negative), v39, v40] [r26, r29] := (zco (a := [v31, v32, (zaa r26.Bound.Negative), v33, v34]) (rProof_close ⟨v31, v32, v33, v34, rfl, f32, f33, f34, f35, trivial⟩) (zco (a := [v37, v38, (zaa r29.Bound.Negative), v39, v40]) (rProof_close ⟨v37, v38, v39, v40, rfl, k37, k38, k39, k40, trivial⟩) zcy))
 refine zaf (zcq (r := rProof) (vs := [(zaq #[v31, v32, (zaa r26.Bound.Negative), v33, v34]), (zaq #[v37, v38, (zaa r29.Bound.Negative), v39, v40])]) (css := [[v31, v32, (zaa r26.Bound.Negative), v33, v34], [v37, v38, (zaa r29.Bound.Negative), v39, v40]]) (xs := [r26, r29]) zbj ti42 (zae rfl) rfl rfl ⟨rfl, rfl, ⟨rfl, rfl, trivial⟩⟩ (zae rfl) hE41 rfl hL44 ?_)
 intro b21 w42 hc20 hL45 hS22
 have K45 := ks w hS22
 refine zaf (zdc (zc := [(zad none 0 0), (zad none 0 0), (zaa false), (zad none 0 0), (zad none 0 0)]) (cs := [(zad none 0 0), (osv (some b18) 0 1 1), (zaa r23.Negative), v28, (osv (some b21) 0 2 2)]) (is := [1, 2, 3]) (vs := [(osv (some b18) 0 1 1), (zaq #[(zaa r23.Negative), v28]), (osv (some b21) 0 2 2)]) (css := [[(osv (some b18) 0 1 1)], [(zaa r23.Negative), v28], [(osv (some b21) 0 2 2)]]) pl42 ti42 rfl rfl rfl ⟨(zec (zea _ _ _ _)), ⟨rfl, ⟨(zec (zea _ _ _ _)), trivial⟩⟩⟩ rfl ?_)
 refine zaf (zch (cs := [(zad none 0 0), (zad none 0 0), (zaa false), (zad none 0 0), (zad none 0 0)]) ti42 rfl hL45 ?_)
 intro b22 w43 hL46 hS23
 have K46 := ks w hS23
 have f36 := ((((((((((k28.mono (K37 None)).mono (K38 None)).mono (K39 None)).mono (K40 None)).mono (K41 None)).mono (K42 None)).mono (K43 None)).mono (K44 None)).mono (K45 None)).mono (K46 None))
 refine zcj (zbs (vs := [(zad none 0 0), (osv (some b18) 0 1 1), (zaa r23.Negative), v28, (osv (some b21) 0 2 2)]) ti42 rfl rfl rfl rfl (zds rfl (zds (zea _ _ _ _) (zds rfl (zds f36.one (zds (zea _ _ _ _) zdw))))) hL46 0 rfl rfl (zae rfl) ?_)
 intro w44 (hL47 : vL w w44 [some b22, some b21, some b20, some b19, some b18, some b17, some b16, some b12, some b11, some b10] [zac [(zad none 0 0), (osv (some b18) 0 1 1), (zaa r23.Negative), v28, (osv (some b21) 0 2 2)], zac ([] ++ ([v31, v32, (zaa r26.Bound.Negative), v33, v34, v37, v38, (zaa r29.Bound.Negative), v39, v40] ++ [])), zac ([] ++ ([(zab .i64 r27.Index), (zaa r27.N.Negative), v35, (zab .i64 r28.Index), (zaa r28.N.Negative), v36] ++ [])), zac ([] ++ ([(zab .i64 r24.Index), (zaa r24.N.Negative), v29, (zab .i64 r25.Index), (zaa r25.N.Negative), v30] ++ [])), zac ([] ++ ([(zaa r22.Negative), v27] ++ [])), zac [(osv (some b16) 0 3 3), (zad none 0 0), (zaa false), (zad none 0 0), (zad none 0 0)], zac ([] ++ ([(osv (some b13) 0 1 1), (zaa r16.Negative), v21, (osv (some b14) 0 1 1), (zaa r18.Negative), v23, (osv (some b15) 0 2 2), (zaa r21.Negative), v26] ++ [])), zac ([] ++ ([v16, (zaa r13.Bound.Negative), v17, v18, (zaa r14.Bound.Negative), v19] ++ [])), zac ([] ++ ([v12, (zaa r11.Bound.Negative), v13, v14, (zaa r12.Bound.Negative), v15] ++ [])), zac ([] ++ ([v3, (zaa r1.Bound.Negative), v5, v10, (zaa r10.Bound.Negative), v11] ++ []))]) hS24
 have K47 := ks w hS24
 refine zar (zaj (zah rfl (zaf (zai (v := (osv (some b10) 0 2 2)) rfl ?_))))
 obtain ⟨r30, q30, h⟩ := zdp h
 refine zaf (zay en42 rfl rfl (luse_w N 0 1 _ Any r30 q30) ?_)
 rintro _ w45 hE42 ⟨v41, rfl, k41, -⟩
 replace k41 := k41.mono (zbc (S := None) hL47 [])
 have hL48 := hL47.ext hE42
 have K48 := ke hL47 hE42
 obtain ⟨r31, q31, h⟩ := zdp h
 refine zaf (zay en42 rfl rfl (luse_w N 1 1 _ Any r31 q31) ?_)
 rintro _ w46 hE43 ⟨v42, rfl, k42, -⟩
 replace k42 := k42.mono (zbc (S := None) hL48 [])
 have hL49 := hL48.ext hE43
 have K49 := ke hL48 hE43
 have f37 := (k41.mono (K49 None))
 have hE44 : Els rUse (vH w None [some b22, some b21, some b20, some b19, some b18, some b17, some b16, some b12, some b11, some b10] w46) [(zab .i64 r30.Index), (zaa r30.N.Negative), v41, (zab .i64 r31.Index), (zaa r31.N.Negative), v42] [r30, r31] := (zco (a := [(zab .i64 r30.Index), (zaa r30.N.Negative), v41]) (rUse_close ⟨v41, rfl, f37, trivial⟩) (zco (a := [(zab .i64 r31.Index), (zaa r31.N.Negative), v42]) (rUse_close ⟨v42, rfl, k42, trivial⟩) zcy))
 refine zaf (zcq (r := rUse) (vs := [(zaq #[(zab .i64 r30.Index), (zaa r30.N.Negative), v41]), (zaq #[(zab .i64 r31.Index), (zaa r31.N.Negative), v42])]) (css := [[(zab .i64 r30.Index), (zaa r30.N.Negative), v41], [(zab .i64 r31.Index), (zaa r31.N.Negative), v42]]) (xs := [r30, r31]) zbp ti50 (zae rfl) rfl rfl ⟨rfl, rfl, ⟨rfl, rfl, trivial⟩⟩ (zae rfl) hE44 rfl hL49 ?_)
 intro b23 w47 hc21 hL50 hS25
 have K50 := ks w hS25
 obtain ⟨r32, q32, h⟩ := zdp h
 have f38 := (hE44.mono (K50 None))
 refine zaf (zay en20 rfl rfl (cSum_w N [r30, r31] (osv (some b23) 0 2 2) _ Any (zdv (pre := []) (o := 0) (n := 2) (cap := 2) (hL50.at 0 rfl rfl) f38 vw_any rfl rfl rfl hc21) r32 q32) ?_)
 rintro _ w48 hE45 ⟨v43, v44, v45, v46, rfl, k43, k44, k45, k46, -⟩
 replace k43 := k43.mono (zbc (S := None) hL50 [])
 replace k44 := k44.mono (zbc (S := None) hL50 [])
 replace k45 := k45.mono (zbc (S := None) hL50 [])
 replace k46 := k46.mono (zbc (S := None) hL50 [])
 have hL51 := hL50.ext hE45
 have K51 := ke hL50 hE45
 obtain ⟨r33, q33, h⟩ := zdp h
 have f39 := (((((((((((((((((((((((((((((((((((((((((hE12.mono (K11 None)).mono (K12 None)).mono (K13 None)).mono (K14 None)).mono (K15 None)).mono (K16 None)).mono (K17 None)).mono (K18 None)).mono (K19 None)).mono (K20 None)).mono (K21 None)).mono (K22 None)).mono (K23 None)).mono (K24 None)).mono (K25 None)).mono (K26 None)).mono (K27 None)).mono (K28 None)).mono (K29 None)).mono (K30 None)).mono (K31 None)).mono (K32 None)).mono (K33 None)).mono (K34 None)).mono (K35 None)).mono (K36 None)).mono (K37 None)).mono (K38 None)).mono (K39 None)).mono (K40 None)).mono (K41 None)).mono (K42 None)).mono (K43 None)).mono (K44 None)).mono (K45 None)).mono (K46 None)).mono (K47 None)).mono (K48 None)).mono (K49 None)).mono (K50 None)).mono (K51 None))
 refine zaf (zay en18 rfl rfl (cCheck_w N [r1, r10] r32 (osv (some b10) 0 2 2) v43 v44 v45 v46 _ Any (zdv (pre := []) (o := 0) (n := 2) (cap := 2) (hL51.at 10 rfl rfl) f39 vw_any rfl rfl rfl hc10) (k43.mono vw_any) (k44.mono vw_any) (k45.mono vw_any) (k46.mono vw_any) r33 q33) ?_)
 rintro _ w49 hE46 ⟨rfl, -⟩
 have hL52 := hL51.ext hE46
 have K52 := ke hL51 hE46
 refine zaf (zai (v := (zaa r33)) rfl ?_)
 by_cases hc22 : r33 = true
 ·
  replace h := ite_t hc22 h
  refine zcc rfl rfl hc22 (zai (v := (osv (some b11) 0 2 2)) rfl ?_)
  obtain ⟨r34, q34, h⟩ := zdp h
  refine zcc rfl rfl hc22 (zay en42 rfl rfl (luse_w N 0 1 _ Any r34 q34) ?_)
  rintro _ w50 hE47 ⟨v47, rfl, k47, -⟩
  replace k47 := k47.mono (zbc (S := None) hL52 [])
  have hL53 := hL52.ext hE47
  have K53 := ke hL52 hE47
  obtain ⟨r35, q35, h⟩ := zdp h
  refine zcc rfl rfl hc22 (zay en42 rfl rfl (luse_w N 1 1 _ Any r35 q35) ?_)
  rintro _ w51 hE48 ⟨v48, rfl, k48, -⟩
  replace k48 := k48.mono (zbc (S := None) hL53 [])
  have hL54 := hL53.ext hE48
  have K54 := ke hL53 hE48
  have f40 := (k47.mono (K54 None))
  have hE49 : Els rUse (vH w None [some b23, some b22, some b21, some b20, some b19, some b18, some b17, some b16, some b12, some b11, some b10] w51) [(zab .i64 r34.Index), (zaa r34.N.Negative), v47, (zab .i64 r35.Index), (zaa r35.N.Negative), v48] [r34, r35] := (zco (a := [(zab .i64 r34.Index), (zaa r34.N.Negative), v47]) (rUse_close ⟨v47, rfl, f40, trivial⟩) (zco (a := [(zab .i64 r35.Index), (zaa r35.N.Negative), v48]) (rUse_close ⟨v48, rfl, k48, trivial⟩) zcy))
  refine zcc rfl rfl hc22 (zcq (r := rUse) (vs := [(zaq #[(zab .i64 r34.Index), (zaa r34.N.Negative), v47]), (zaq #[(zab .i64 r35.Index), (zaa r35.N.Negative), v48])]) (css := [[(zab .i64 r34.Index), (zaa r34.N.Negative), v47], [(zab .i64 r35.Index), (zaa r35.N.Negative), v48]]) (xs := [r34, r35]) zbp ti50 (zae rfl) rfl rfl ⟨rfl, rfl, ⟨rfl, rfl, trivial⟩⟩ (zae rfl) hE49 rfl hL54 ?_)
  intro b24 w52 hc23 hL55 hS26
  have K55 := ks w hS26
  obtain ⟨r36, q36, h⟩ := zdp h
  have f41 := (hE49.mono (K55 None))
  refine zcc rfl rfl hc22 (zay en20 rfl rfl (cSum_w N [r34, r35] (osv (some b24) 0 2 2) _ Any (zdv (pre := []) (o := 0) (n := 2) (cap := 2) (hL55.at 0 rfl rfl) f41 vw_any rfl rfl rfl hc23) r36 q36) ?_)
  rintro _ w53 hE50 ⟨v49, v50, v51, v52, rfl, k49, k50, k51, k52, -⟩
  replace k49 := k49.mono (zbc (S := None) hL55 [])
  replace k50 := k50.mono (zbc (S := None) hL55 [])
  replace k51 := k51.mono (zbc (S := None) hL55 [])
  replace k52 := k52.mono (zbc (S := None) hL55 [])
  have hL56 := hL55.ext hE50
  have K56 := ke hL55 hE50
  obtain ⟨r37, q37, h⟩ := zdp h
  have f42 := (((((((((((((((((((((((((((((((((((((((((((hE15.mono (K14 None)).mono (K15 None)).mono (K16 None)).mono (K17 None)).mono (K18 None)).mono (K19 None)).mono (K20 None)).mono (K21 None)).mono (K22 None)).mono (K23 None)).mono (K24 None)).mono (K25 None)).mono (K26 None)).mono (K27 None)).mono (K28 None)).mono (K29 None)).mono (K30 None)).mono (K31 None)).mono (K32 None)).mono (K33 None)).mono (K34 None)).mono (K35 None)).mono (K36 None)).mono (K37 None)).mono (K38 None)).mono (K39 None)).mono (K40 None)).mono (K41 None)).mono (K42 None)).mono (K43 None)).mono (K44 None)).mono (K45 None)).mono (K46 None)).mono (K47 None)).mono (K48 None)).mono (K49 None)).mono (K50 None)).mono (K51 None)).mono (K52 None)).mono (K53 None)).mono (K54 None)).mono (K55 None)).mono (K56 None))
  refine zcc rfl rfl hc22 (zay en18 rfl rfl (cCheck_w N [r11, r12] r36 (osv (some b11) 0 2 2) v49 v50 v51 v52 _ Any (zdv (pre := []) (o := 0) (n := 2) (cap := 2) (hL56.at 10 rfl rfl) f42 vw_any rfl rfl rfl hc11) (k49.mono vw_any) (k50.mono vw_any) (k51.mono vw_any) (k52.mono vw_any) r37 q37) ?_)
  rintro _ w54 hE51 ⟨rfl, -⟩
  have hL57 := hL56.ext hE51
  have K57 := ke hL56 hE51
  refine zcc rfl rfl hc22 (OpY.not (x := r37) rfl ?_)
  refine zaf (zbu (t := r33) (v := (zaa (!r37))) rfl hc22 rfl ?_)
  refine zaf (zai (v := (zaa (!r37))) rfl ?_)
  by_cases hc24 : (!r37) = true
  ·
   replace h := ite_t hc24 h
   refine zcc rfl rfl hc24 (zai (v := (osv (some b11) 0 2 2)) rfl ?_)
   refine zcc rfl rfl hc24 (zbh (vs := [(osv (some b16) 0 3 3), (zad none 0 0), (zaa false), (zad none 0 0), (zad none 0 0)]) zav rfl ti42 rfl (hL57.at 7 rfl rfl) rfl rfl ?_)
   obtain ⟨r38, q38, h⟩ := zdp h
   have f43 := (f42.mono (K57 None))
   have f44 := (((((((((((((((((((((((((((hE29.mono (K31 None)).mono (K32 None)).mono (K33 None)).mono (K34 None)).mono (K35 None)).mono (K36 None)).mono (K37 None)).mono (K38 None)).mono (K39 None)).mono (K40 None)).mono (K41 None)).mono (K42 None)).mono (K43 None)).mono (K44 None)).mono (K45 None)).mono (K46 None)).mono (K47 None)).mono (K48 None)).mono (K49 None)).mono (K50 None)).mono (K51 None)).mono (K52 None)).mono (K53 None)).mono (K54 None)).mono (K55 None)).mono (K56 None)).mono (K57 None))
   refine zcc rfl rfl hc24 (zay en18 rfl rfl (cCheck_w N [r11, r12] (Proof.mk [(Step.mk [r15] r16), (Step.mk [r17] r18), (Step.mk [r19, r20] r21)] [] (Big.mk false []) []) (osv (some b11) 0 2 2) (osv (some b16) 0 3 3) (zad none 0 0) (zad none 0 0) (zad none 0 0) _ Any (zdv (pre := []) (o := 0) (n := 2) (cap := 2) (hL57.at 10 rfl rfl) f43 vw_any rfl rfl rfl hc11) (zdv (pre := []) (o := 0) (n := 3) (cap := 3) (hL57.at 8 rfl rfl) f44 vw_any rfl rfl rfl hc16) Rs.nil Rs.nil Rs.nil r38 q38) ?_)
   rintro _ w55 hE52 ⟨rfl, -⟩
   have hL58 := hL57.ext hE52
   have K58 := ke hL57 hE52
   refine zaf (zbu (t := (!r37)) (v := (zaa r38)) rfl hc24 rfl ?_)
   refine zaf (zai (v := (zaa r38)) rfl ?_)
   by_cases hc25 : r38 = true
   ·
    replace h := ite_t hc25 h
    refine zcc rfl rfl hc25 (zai (v := (osv (some b12) 0 2 2)) rfl ?_)
    refine zcc rfl rfl hc25 (zbh (vs := [(zad none 0 0), (osv (some b18) 0 1 1), (zaa r23.Negative), v28, (osv (some b21) 0 2 2)]) zav rfl ti42 rfl (hL58.at 2 rfl rfl) rfl rfl ?_)
    obtain ⟨r39, q39, h⟩ := zdp h
    have f45 := ((((((((((((((((((((((((((((((((((((((((((hE18.mono (K17 None)).mono (K18 None)).mono (K19 None)).mono (K20 None)).mono (K21 None)).mono (K22 None)).mono (K23 None)).mono (K24 None)).mono (K25 None)).mono (K26 None)).mono (K27 None)).mono (K28 None)).mono (K29 None)).mono (K30 None)).mono (K31 None)).mono (K32 None)).mono (K33 None)).mono (K34 None)).mono (K35 None)).mono (K36 None)).mono (K37 None)).mono (K38 None)).mono (K39 None)).mono (K40 None)).mono (K41 None)).mono (K42 None)).mono (K43 None)).mono (K44 None)).mono (K45 None)).mono (K46 None)).mono (K47 None)).mono (K48 None)).mono (K49 None)).mono (K50 None)).mono (K51 None)).mono (K52 None)).mono (K53 None)).mono (K54 None)).mono (K55 None)).mono (K56 None)).mono (K57 None)).mono (K58 None))
    have f46 := ((((((((((((((((((((((((hE31.mono (K35 None)).mono (K36 None)).mono (K37 None)).mono (K38 None)).mono (K39 None)).mono (K40 None)).mono (K41 None)).mono (K42 None)).mono (K43 None)).mono (K44 None)).mono (K45 None)).mono (K46 None)).mono (K47 None)).mono (K48 None)).mono (K49 None)).mono (K50 None)).mono (K51 None)).mono (K52 None)).mono (K53 None)).mono (K54 None)).mono (K55 None)).mono (K56 None)).mono (K57 None)).mono (K58 None))
    have f47 := ((((((((((((f36.mono (K47 None)).mono (K48 None)).mono (K49 None)).mono (K50 None)).mono (K51 None)).mono (K52 None)).mono (K53 None)).mono (K54 None)).mono (K55 None)).mono (K56 None)).mono (K57 None)).mono (K58 None))
    have f48 := ((((((((((((((hE41.mono (K45 None)).mono (K46 None)).mono (K47 None)).mono (K48 None)).mono (K49 None)).mono (K50 None)).mono (K51 None)).mono (K52 None)).mono (K53 None)).mono (K54 None)).mono (K55 None)).mono (K56 None)).mono (K57 None)).mono (K58 None))
    refine zcc rfl rfl hc25 (zay en18 rfl rfl (cCheck_w N [r13, r14] (Proof.mk [] [r22] r23 [r26, r29]) (osv (some b12) 0 2 2) (zad none 0 0) (osv (some b18) 0 1 1) v28 (osv (some b21) 0 2 2) _ Any (zdv (pre := []) (o := 0) (n := 2) (cap := 2) (hL58.at 9 rfl rfl) f45 vw_any rfl rfl rfl hc12) Rs.nil (zdv (pre := []) (o := 0) (n := 1) (cap := 1) (hL58.at 6 rfl rfl) f46 vw_any rfl rfl rfl hc17) (f47.mono vw_any) (zdv (pre := []) (o := 0) (n := 2) (cap := 2) (hL58.at 3 rfl rfl) f48 vw_any rfl rfl rfl hc20) r39 q39) ?_)
    rintro _ w56 hE53 ⟨rfl, -⟩
    have hL59 := hL58.ext hE53
    have K59 := ke hL58 hE53
    refine zaf (zbu (t := r38) (v := (zaa r39)) rfl hc25 rfl ?_)
    refine zaf (zai (v := (zaa r39)) rfl ?_)
    by_cases hc26 : r39 = true
    ·
     replace h := ite_t hc26 h
     refine zcc rfl rfl hc26 (zai (v := (osv (some b11) 0 2 2)) rfl ?_)
     refine zcc rfl rfl hc26 (zbh (vs := [(zad none 0 0), (osv (some b18) 0 1 1), (zaa r23.Negative), v28, (osv (some b21) 0 2 2)]) zav rfl ti42 rfl (hL59.at 2 rfl rfl) rfl rfl ?_)
     obtain ⟨r40, q40, h⟩ := zdp h
     have f49 := ((f43.mono (K58 None)).mono (K59 None))
     have f50 := (f46.mono (K59 None))
     have f51 := (f47.mono (K59 None))
     have f52 := (f48.mono (K59 None))
     refine zcc rfl rfl hc26 (zay en18 rfl rfl (cCheck_w N [r11, r12] (Proof.mk [] [r22] r23 [r26, r29]) (osv (some b11) 0 2 2) (zad none 0 0) (osv (some b18) 0 1 1) v28 (osv (some b21) 0 2 2) _ Any (zdv (pre := []) (o := 0) (n := 2) (cap := 2) (hL59.at 10 rfl rfl) f49 vw_any rfl rfl rfl hc11) Rs.nil (zdv (pre := []) (o := 0) (n := 1) (cap := 1) (hL59.at 6 rfl rfl) f50 vw_any rfl rfl rfl hc17) (f51.mono vw_any) (zdv (pre := []) (o := 0) (n := 2) (cap := 2) (hL59.at 3 rfl rfl) f52 vw_any rfl rfl rfl hc20) r40 q40) ?_)
     rintro _ w57 hE54 ⟨rfl, -⟩
     have hL60 := hL59.ext hE54
     have K60 := ke hL59 hE54
     refine zcc rfl rfl hc26 (OpY.not (x := r40) rfl ?_)
     refine zaf (zbu (t := r39) (v := (zaa (!r40))) rfl hc26 rfl ?_)
     refine zaf (zai (v := (zaa (!r40))) rfl ?_)
     by_cases hc27 : (!r40) = true
     ·
      replace h := ite_t hc27 h
      refine zcc rfl rfl hc27 (zbh (vs := [(osv (some b16) 0 3 3), (zad none 0 0), (zaa false), (zad none 0 0), (zad none 0 0)]) zav rfl ti42 rfl (hL60.at 7 rfl rfl) rfl rfl ?_)
      obtain ⟨r41, q41, h⟩ := zdp h
      have f53 := (((f44.mono (K58 None)).mono (K59 None)).mono (K60 None))
      refine zcc rfl rfl hc27 (zay en21 rfl rfl (cSize_w N (Proof.mk [(Step.mk [r15] r16), (Step.mk [r17] r18), (Step.mk [r19, r20] r21)] [] (Big.mk false []) []) (osv (some b16) 0 3 3) (zad none 0 0) (zad none 0 0) (zad none 0 0) _ Any (zdv (pre := []) (o := 0) (n := 3) (cap := 3) (hL60.at 8 rfl rfl) f53 vw_any rfl rfl rfl hc16) Rs.nil Rs.nil Rs.nil r41 q41) ?_)
      rintro _ w58 hE55 ⟨rfl, -⟩
      have hL61 := hL60.ext hE55
      have K61 := ke hL60 hE55
      refine zcc rfl rfl hc27 (OpY.eql (x := r41) (y := 3) ((r41 : Int) = 3) rfl rfl zbf ?_)
      refine zaf (zbu (t := (!r40)) (v := (zaa (decide ((r41 : Int) = 3)))) rfl hc27 rfl ?_)
      refine zaf (zai (v := (zaa (decide ((r41 : Int) = 3)))) rfl ?_)
      by_cases hc28 : (r41 : Int) = 3
      ·
       replace h := ite_t hc28 h
       refine zcc rfl rfl (zdr hc28) (zbh (vs := [(zad none 0 0), (osv (some b18) 0 1 1), (zaa r23.Negative), v28, (osv (some b21) 0 2 2)]) zav rfl ti42 rfl (hL61.at 2 rfl rfl) rfl rfl ?_)
       obtain ⟨r42, q42, h⟩ := zdp h
       have f54 := ((f50.mono (K60 None)).mono (K61 None))
       have f55 := ((f51.mono (K60 None)).mono (K61 None))
       have f56 := ((f52.mono (K60 None)).mono (K61 None))
       refine zcc rfl rfl (zdr hc28) (zay en21 rfl rfl (cSize_w N (Proof.mk [] [r22] r23 [r26, r29]) (zad none 0 0) (osv (some b18) 0 1 1) v28 (osv (some b21) 0 2 2) _ Any Rs.nil (zdv (pre := []) (o := 0) (n := 1) (cap := 1) (hL61.at 6 rfl rfl) f54 vw_any rfl rfl rfl hc17) (f55.mono vw_any) (zdv (pre := []) (o := 0) (n := 2) (cap := 2) (hL61.at 3 rfl rfl) f56 vw_any rfl rfl rfl hc20) r42 q42) ?_)
       rintro _ w59 hE56 ⟨rfl, -⟩
       have hL62 := hL61.ext hE56
       refine zcc rfl rfl (zdr hc28) (OpY.eql (x := r42) (y := 3) ((r42 : Int) = 3) rfl rfl zbf ?_)
       refine zaf (zbu (t := (decide ((r41 : Int) = 3))) (v := (zaa (decide ((r42 : Int) = 3)))) rfl (zdr hc28) rfl ?_)
       refine zaf (zal (v := (zaa (decide ((r42 : Int) = 3)))) rfl ?_)
       refine zar (zbn ?_)
       obtain rfl := zag h
       refine ⟨[(zaa (decide ((r42 : Int) = 3)))], ⟨rfl, trivial⟩, ⟨_, rfl, hL62.done, ?_⟩⟩
       exact ⟨rfl, trivial⟩
      ·
       replace h := ite_f hc28 h
       refine zbx rfl rfl (zdo hc28) ?_
       refine zbx rfl rfl (zdo hc28) ?_
       refine zbx rfl rfl (zdo hc28) ?_
       refine zaf (zbo (t := (decide ((r41 : Int) = 3))) (v := (zaa false)) rfl (zdo hc28) rfl ?_)
       refine zaf (zal (v := (zaa false)) rfl ?_)
       refine zar (zbn ?_)
       obtain rfl := zag h
       refine ⟨[(zaa false)], ⟨rfl, trivial⟩, ⟨_, rfl, hL61.done, ?_⟩⟩
       exact ⟨rfl, trivial⟩
     ·
      replace h := ite_f hc27 h
      refine zbx rfl rfl (zdq hc27) ?_
      refine zbx rfl rfl (zdq hc27) ?_
      refine zbx rfl rfl (zdq hc27) ?_
      refine zaf (zbo (t := (!r40)) (v := (zaa false)) rfl (zdq hc27) rfl ?_)
      refine zaf (zai (v := (zaa false)) rfl ?_)
      refine zbx rfl rfl rfl ?_
      refine zbx rfl rfl rfl ?_
      refine zbx rfl rfl rfl ?_
      refine zaf (zbo (t := false) (v := (zaa false)) rfl rfl rfl ?_)
      refine zaf (zal (v := (zaa false)) rfl ?_)
      refine zar (zbn ?_)
      obtain rfl := zag h
      refine ⟨[(zaa false)], ⟨rfl, trivial⟩, ⟨_, rfl, hL60.done, ?_⟩⟩
      exact ⟨rfl, trivial⟩
    ·
     replace h := ite_f hc26 h
     refine zbx rfl rfl (zdq hc26) ?_
     refine zbx rfl rfl (zdq hc26) ?_
     refine zbx rfl rfl (zdq hc26) ?_
     refine zbx rfl rfl (zdq hc26) ?_
     refine zaf (zbo (t := r39) (v := (zaa false)) rfl (zdq hc26) rfl ?_)
     refine zaf (zai (v := (zaa false)) rfl ?_)
     refine zbx rfl rfl rfl ?_
     refine zbx rfl rfl rfl ?_
     refine zbx rfl rfl rfl ?_
     refine zaf (zbo (t := false) (v := (zaa false)) rfl rfl rfl ?_)
     refine zaf (zai (v := (zaa false)) rfl ?_)
     refine zbx rfl rfl rfl ?_
     refine zbx rfl rfl rfl ?_
     refine zbx rfl rfl rfl ?_
     refine zaf (zbo (t := false) (v := (zaa false)) rfl rfl rfl ?_)
     refine zaf (zal (v := (zaa false)) rfl ?_)
     refine zar (zbn ?_)
     obtain rfl := zag h
     refine ⟨[(zaa false)], ⟨rfl, trivial⟩, ⟨_, rfl, hL59.done, ?_⟩⟩
     exact ⟨rfl, trivial⟩
   ·
    replace h := ite_f hc25 h
    refine zbx rfl rfl (zdq hc25) ?_
    refine zbx rfl rfl (zdq hc25) ?_
    refine zbx rfl rfl (zdq hc25) ?_
    refine zaf (zbo (t := r38) (v := (zaa false)) rfl (zdq hc25) rfl ?_)
    refine zaf (zai (v := (zaa false)) rfl ?_)
    refine zbx rfl rfl rfl ?_
    refine zbx rfl rfl rfl ?_
    refine zbx rfl rfl rfl ?_
    refine zbx rfl rfl rfl ?_
    refine zaf (zbo (t := false) (v := (zaa false)) rfl rfl rfl ?_)
    refine zaf (zai (v := (zaa false)) rfl ?_)
    refine zbx rfl rfl rfl ?_
    refine zbx rfl rfl rfl ?_
    refine zbx rfl rfl rfl ?_
    refine zaf (zbo (t := false) (v := (zaa false)) rfl rfl rfl ?_)
    refine zaf (zai (v := (zaa false)) rfl ?_)
    refine zbx rfl rfl rfl ?_
    refine zbx rfl rfl rfl ?_
    refine zbx rfl rfl rfl ?_
    refine zaf (zbo (t := false) (v := (zaa false)) rfl rfl rfl ?_)
    refine zaf (zal (v := (zaa false)) rfl ?_)
    refine zar (zbn ?_)
    obtain rfl := zag h
    refine ⟨[(zaa false)], ⟨rfl, trivial⟩, ⟨_, rfl, hL58.done, ?_⟩⟩
    exact ⟨rfl, trivial⟩
  ·
   replace h := ite_f hc24 h
   refine zbx rfl rfl (zdq hc24) ?_
   refine zbx rfl rfl (zdq hc24) ?_
   refine zbx rfl rfl (zdq hc24) ?_
   refine zaf (zbo (t := (!r37)) (v := (zaa false)) rfl (zdq hc24) rfl ?_)
   refine zaf (zai (v := (zaa false)) rfl ?_)
   refine zbx rfl rfl rfl ?_
   refine zbx rfl rfl rfl ?_
   refine zbx rfl rfl rfl ?_
   refine zaf (zbo (t := false) (v := (zaa false)) rfl rfl rfl ?_)
   refine zaf (zai (v := (zaa false)) rfl ?_)
   refine zbx rfl rfl rfl ?_
   refine zbx rfl rfl rfl ?_
   refine zbx rfl rfl rfl ?_
   refine zbx rfl rfl rfl ?_
   refine zaf (zbo (t := false) (v := (zaa false)) rfl rfl rfl ?_)
   refine zaf (zai (v := (zaa false)) rfl ?_)
   refine zbx rfl rfl rfl ?_
   refine zbx rfl rfl rfl ?_
   refine zbx rfl rfl rfl ?_
   refine zaf (zbo (t := false) (v := (zaa false)) rfl rfl rfl ?_)
   refine zaf (zai (v := (zaa false)) rfl ?_)
   refine zbx rfl rfl rfl ?_
   refine zbx rfl rfl rfl ?_
   refine zbx rfl rfl rfl ?_
   refine zaf (zbo (t := false) (v := (zaa false)) rfl rfl rfl ?_)
   refine zaf (zal (v := (zaa false)) rfl ?_)
   refine zar (zbn ?_)
   obtain rfl := zag h
   refine ⟨[(zaa false)], ⟨rfl, trivial⟩, ⟨_, rfl, hL57.done, ?_⟩⟩
   exact ⟨rfl, trivial⟩
 ·
  replace h := ite_f hc22 h
  refine zbx rfl rfl (zdq hc22) ?_
  refine zbx rfl rfl (zdq hc22) ?_
  refine zbx rfl rfl (zdq hc22) ?_
  refine zbx rfl rfl (zdq hc22) ?_
  refine zbx rfl rfl (zdq hc22) ?_
  refine zbx rfl rfl (zdq hc22) ?_
  refine zbx rfl rfl (zdq hc22) ?_
  refine zaf (zbo (t := r33) (v := (zaa false)) rfl (zdq hc22) rfl ?_)
  refine zaf (zai (v := (zaa false)) rfl ?_)
  refine zbx rfl rfl rfl ?_
  refine zbx rfl rfl rfl ?_
  refine zbx rfl rfl rfl ?_
  refine zaf (zbo (t := false) (v := (zaa false)) rfl rfl rfl ?_)
  refine zaf (zai (v := (zaa false)) rfl ?_)
  refine zbx rfl rfl rfl ?_
  refine zbx rfl rfl rfl ?_
  refine zbx rfl rfl rfl ?_
  refine zaf (zbo (t := false) (v := (zaa false)) rfl rfl rfl ?_)
  refine zaf (zai (v := (zaa false)) rfl ?_)
  refine zbx rfl rfl rfl ?_
  refine zbx rfl rfl rfl ?_
  refine zbx rfl rfl rfl ?_
  refine zbx rfl rfl rfl ?_
  refine zaf (zbo (t := false) (v := (zaa false)) rfl rfl rfl ?_)
  refine zaf (zai (v := (zaa false)) rfl ?_)
  refine zbx rfl rfl rfl ?_
  refine zbx rfl rfl rfl ?_
  refine zbx rfl rfl rfl ?_
  refine zaf (zbo (t := false) (v := (zaa false)) rfl rfl rfl ?_)
  refine zaf (zai (v := (zaa false)) rfl ?_)
  refine zbx rfl rfl rfl ?_
  refine zbx rfl rfl rfl ?_
  refine zbx rfl rfl rfl ?_
  refine zaf (zbo (t := false) (v := (zaa false)) rfl rfl rfl ?_)
  refine zaf (zal (v := (zaa false)) rfl ?_)
  refine zar (zbn ?_)
  obtain rfl := zag h
  refine ⟨[(zaa false)], ⟨rfl, trivial⟩, ⟨_, rfl, hL52.done, ?_⟩⟩
  exact ⟨rfl, trivial⟩
theorem lawSize_w (N : Nat) (p : Proof) (uses : (List Use)) (p_v : Value) (p_v1 : Value) (p_v2 : Value) (p_v3 : Value) (uses_v : Value) (w : World) (S : Nat → Prop) (p_h : Rs rStep (vH w S [] w) p_v p.Steps) (p_h1 : Rs rBig (vH w S [] w) p_v1 p.Form) (p_h2 : Rs (rInt .u32) (vH w S [] w) p_v2 p.Bound.Digits) (p_h3 : Rs rProof (vH w S [] w) p_v3 p.Children) (uses_h : Rs rUse (vH w S [] w) uses_v uses) (r : Bool) (h : lawSize N p uses = some r) :
  Calls Try.prog 5 #[(zaq #[p_v, p_v1, (zaa p.Bound.Negative), p_v2, p_v3]), uses_v] w (Ret w (fun v w' => (zaa r) = v ∧ True)) := by
 unfold lawSize at h
 have hL : vL w w [] [] := Go.X.Loc.begin0 w
 refine calls_of (l := [(zaq #[p_v, p_v1, (zaa p.Bound.Negative), p_v2, p_v3]), uses_v]) (rl := [.tmp 4]) (n := 105) Try.func5 rfl rfl rfl (zae rfl) ?_
 refine zaj (zah rfl (zaf (zdh (cs := [p_v, p_v1, (zaa p.Bound.Negative), p_v2, p_v3]) rfl rfl hL ?_)))
 intro b1 w2 hL3 hS5
 have K4 := ks w hS5
 refine zaf (zal (v := (zaa false)) rfl ?_)
 refine zar (zaj (zaj ?_))
 obtain ⟨s10, h, g10⟩ := zdp h
 refine zca (fun e w' => ∃ (x10 : Bool) (u : Env), x10 = s10 ∧ e = upds [(1, uses_v), (2, (zan (some ⟨b1, 0, none⟩))), (19, (zaa x10))] u ∧ vL w w' [some b1] [zac [p_v, p_v1, (zaa p.Bound.Negative), p_v2, p_v3]] ∧ Keep w.heap.size [some b1] w2 [some b1] w' ∧ True) ?_ ?_
 ·
  refine zah rfl ?_
  obtain ⟨r10, q10, h⟩ := zdp h
  refine zaf (zay en11 rfl rfl (awake_w N _ Any r10 q10) ?_)
  rintro _ w10 hE10 ⟨rfl, -⟩
  have hL10 := hL3.ext hE10
  have K10 := ke hL3 hE10
  refine zaf (OpY.not (x := r10) rfl ?_)
  refine zaf (zai (v := (zaa (!r10))) rfl ?_)
  by_cases hc10 : (!r10) = true
  ·
   replace h := ite_t hc10 h
   refine zbx rfl rfl hc10 ?_
   refine zbx rfl rfl hc10 ?_
   refine zbx rfl rfl hc10 ?_
   refine zaf (zbu (t := (!r10)) (v := (zaa true)) rfl hc10 rfl ?_)
   refine zaf (zai (v := (zaa true)) rfl ?_)
   refine zbx rfl rfl rfl ?_
   refine zbx rfl rfl rfl ?_
   refine zbx rfl rfl rfl ?_
   refine zaf (zbu (t := true) (v := (zaa true)) rfl rfl rfl ?_)
   refine zar ?_
   obtain rfl := zag h
   refine zau ?_
   exact ⟨true, _, rfl, (zdt ⟨rfl, rfl, rfl, trivial⟩), hL10, K10, trivial⟩
  ·
   replace h := ite_f hc10 h
   refine zcc rfl rfl (zdq hc10) (zbh (vs := [p_v, p_v1, (zaa p.Bound.Negative), p_v2, p_v3]) zav rfl ti42 rfl (hL10.at 0 rfl rfl) rfl rfl ?_)
   obtain ⟨r11, q11, h⟩ := zdp h
   have f10 := ((p_h.mono (K4 S)).mono (K10 S))
   have f11 := ((p_h1.mono (K4 S)).mono (K10 S))
   have f12 := ((p_h2.mono (K4 S)).mono (K10 S))
   have f13 := ((p_h3.mono (K4 S)).mono (K10 S))
   refine zcc rfl rfl (zdq hc10) (zay en17 rfl rfl (rSmallProof_w N p p_v p_v1 p_v2 p_v3 _ Any (f10.mono vw_any) (f11.mono vw_any) (f12.mono vw_any) (f13.mono vw_any) r11 q11) ?_)
   rintro _ w11 hE11 ⟨rfl, -⟩
   have hL11 := hL10.ext hE11
   have K11 := ke hL10 hE11
   refine zcc rfl rfl (zdq hc10) (OpY.not (x := r11) rfl ?_)
   refine zaf (zbo (t := (!r10)) (v := (zaa (!r11))) rfl (zdq hc10) rfl ?_)
   refine zaf (zai (v := (zaa (!r11))) rfl ?_)
   by_cases hc11 : (!r11) = true
   ·
    replace h := ite_t hc11 h
    refine zbx rfl rfl hc11 ?_
    refine zbx rfl rfl hc11 ?_
    refine zbx rfl rfl hc11 ?_
    refine zaf (zbu (t := (!r11)) (v := (zaa true)) rfl hc11 rfl ?_)
    refine zar ?_
    obtain rfl := zag h
    refine zau ?_
    exact ⟨true, _, rfl, (zdt ⟨rfl, rfl, rfl, trivial⟩), hL11, (zat K10 K11), trivial⟩
   ·
    replace h := ite_f hc11 h
    refine zcc rfl rfl (zdq hc11) (zai (v := uses_v) rfl ?_)
    have f14 := (((uses_h.mono (K4 S)).mono (K10 S)).mono (K11 S))
    refine zcc rfl rfl (zdq hc11) (zba (v := uses_v) zbp rfl f14 ?_)
    refine zcc rfl rfl (zdq hc11) (zdn (x := (uses.length : Int)) (y := 12) (((uses.length : Int) : Int) > 12) rfl rfl zbf ?_)
    refine zaf (zbo (t := (!r11)) (v := (zaa (decide (((uses.length : Int) : Int) > 12)))) rfl (zdq hc11) rfl ?_)
    refine zar ?_
    obtain rfl := zag h
    refine zau ?_
    exact ⟨(decide (((uses.length : Int) : Int) > 12)), _, rfl, (zdt ⟨rfl, rfl, rfl, trivial⟩), hL11, (zat K10 K11), trivial⟩
 ·
  rintro _ w12 ⟨x10, u, rfl, rfl, hL12, K12, -⟩
  replace h := g10
  try dsimp only at h
  refine zcu x10 rfl (fun hc12 => ?_) (fun hc12 => ?_)
  ·
   replace h := ite_t hc12 h
   refine zaj (zah rfl ?_)
   obtain ⟨r12, q12, h⟩ := zdp h
   refine zaf (zay en11 rfl rfl (awake_w N _ Any r12 q12) ?_)
   rintro _ w13 hE12 ⟨rfl, -⟩
   have hL13 := hL12.ext hE12
   refine zaf (zal (v := (zaa r12)) rfl ?_)
   refine zar (zbn ?_)
   obtain rfl := zag h
   refine ⟨[(zaa r12)], ⟨rfl, trivial⟩, ⟨_, rfl, hL13.done, ?_⟩⟩
   exact ⟨rfl, trivial⟩
  ·
   replace h := ite_f hc12 h
   refine zbl (zaj (zah rfl (zaf (zai (v := uses_v) rfl ?_))))
   obtain ⟨r13, q13, h⟩ := zdp h
   have f15 := ((uses_h.mono (K4 S)).mono (K12 S))
   refine zaf (zay en20 rfl rfl (cSum_w N uses uses_v _ Any (f15.mono vw_any) r13 q13) ?_)
   rintro _ w14 hE13 ⟨v10, v11, v12, v13, rfl, k10, k11, k12, k13, -⟩
   replace k10 := k10.mono (zbc (S := None) hL12 [])
   replace k11 := k11.mono (zbc (S := None) hL12 [])
   replace k12 := k12.mono (zbc (S := None) hL12 [])
   replace k13 := k13.mono (zbc (S := None) hL12 [])
   have hL14 := hL12.ext hE13
   have K13 := ke hL12 hE13
   refine zaf (zch (cs := [(zad none 0 0), (zad none 0 0), (zaa false), (zad none 0 0), (zad none 0 0)]) ti42 rfl hL14 ?_)
   intro b10 w15 hL15 hS10
   have K14 := ks w hS10
   have f16 := (k13.mono (K14 None))
   have f17 := (k12.mono (K14 None))
   have f18 := (k11.mono (K14 None))
   have f19 := (k10.mono (K14 None))
   refine zcj (zbs (vs := [v10, v11, (zaa r13.Bound.Negative), v12, v13]) ti42 rfl rfl rfl rfl (zds f19.one (zds f18.one (zds rfl (zds f17.one (zds f16.one zdw))))) hL15 0 rfl rfl (zae rfl) ?_)
   intro w16 (hL16 : vL w w16 [some b10, some b1] [zac [v10, v11, (zaa r13.Bound.Negative), v12, v13], zac [p_v, p_v1, (zaa p.Bound.Negative), p_v2, p_v3]]) hS11
   have K15 := ks w hS11
   refine zar (zaj (zaj ?_))
   obtain ⟨s11, h, g11⟩ := zdp h
   refine zca (fun e w' => ∃ (x11 : Bool) (u : Env), x11 = s11 ∧ e = upds [(1, uses_v), (5, (zan (some ⟨b10, 0, none⟩))), (73, (zaa x11))] u ∧ vL w w' [some b10] [zac [v10, v11, (zaa r13.Bound.Negative), v12, v13]] ∧ Keep w.heap.size [some b10, some b1] w16 [some b10] w' ∧ True) ?_ ?_
   ·
    obtain ⟨r14, q14, h⟩ := zdp h
    obtain ⟨r15, q15, h⟩ := zdp h
    by_cases hc13 : (r14 : Int) ≠ r15
    ·
     replace h := ite_t hc13 h
     refine zcg 49 [] [] (fun W1 => [.det (zaq #[p_v, p_v1, (zaa p.Bound.Negative), p_v2, p_v3]), .det (zab .i64 r14), .det (zaq #[p_v, p_v1, (zaa p.Bound.Negative), p_v2, p_v3]), .det (zab .i64 r15), .det (zaa (decide ((r14 : Int) ≠ r15))), .det (zaa (decide ((r14 : Int) ≠ r15))), .det undef, .det undef, .det undef, .det undef, .det (zaa true), .det (zaa true), .det undef, .det undef, .det undef, .det undef, .det (zaa true), .det (zaa true), .det undef, .det undef, .det undef, .det undef, .det (zaa true), .det (zaa true), .det undef, .det undef, .det undef, .det undef, .det undef, .det (zaa true), .det (zaa true), .det undef, .det undef, .det undef, .det undef, .det undef, .det undef, .det undef, .det undef, .det (zaa true), .det (zaa true), .det undef, .det undef, .det undef, .det undef, .det undef, .det undef, .det undef, .det undef]) mixed rfl rfl rfl (fun _ => rfl) (fun _ => rfl) ?_ ?_
     ·
      intro W1 _
      exact trivial
     ·
      intro w17 hE14
      have hL17 := hL16.ext hE14
      have K16 := ke hL16 hE14
      refine zak (fun _ hE15 => zas (zbh (vs := [p_v, p_v1, (zaa p.Bound.Negative), p_v2, p_v3]) zav rfl ti42 rfl ((hL17.ext hE15).at 1 rfl rfl) rfl rfl (er rfl))) ?_
      refine zdl ?_ ?_
      ·
       rintro w19 Z11 hE16 hZ11 ⟨-⟩
       have K17 := ke hL17 hE16
       refine zas (zay en21 rfl rfl (cSize_w N p p_v p_v1 p_v2 p_v3 _ Any ((((((((p_h.mono (K4 S)).mono (K12 S)).mono (K13 S)).mono (K14 S)).mono (K15 S)).mono (K16 S)).mono (K17 S)).mono vw_any) ((((((((p_h1.mono (K4 S)).mono (K12 S)).mono (K13 S)).mono (K14 S)).mono (K15 S)).mono (K16 S)).mono (K17 S)).mono vw_any) ((((((((p_h2.mono (K4 S)).mono (K12 S)).mono (K13 S)).mono (K14 S)).mono (K15 S)).mono (K16 S)).mono (K17 S)).mono vw_any) ((((((((p_h3.mono (K4 S)).mono (K12 S)).mono (K13 S)).mono (K14 S)).mono (K15 S)).mono (K16 S)).mono (K17 S)).mono vw_any) r14 q14) ?_)
       rintro _ w20 hE17 ⟨rfl, -⟩
       exact ⟨hE17, rfl⟩
      refine zak (fun _ hE18 => zas (zbh (vs := [p_v, p_v1, (zaa p.Bound.Negative), p_v2, p_v3]) zav rfl ti42 rfl ((hL17.ext hE18).at 1 rfl rfl) rfl rfl (er rfl))) ?_
      refine zdl ?_ ?_
      ·
       rintro w22 Z13 hE19 hZ13 ⟨-⟩
       have K18 := ke hL17 hE19
       refine zas (zay en22 rfl rfl (rSize_w N p p_v p_v1 p_v2 p_v3 _ Any ((((((((p_h.mono (K4 S)).mono (K12 S)).mono (K13 S)).mono (K14 S)).mono (K15 S)).mono (K16 S)).mono (K18 S)).mono vw_any) ((((((((p_h1.mono (K4 S)).mono (K12 S)).mono (K13 S)).mono (K14 S)).mono (K15 S)).mono (K16 S)).mono (K18 S)).mono vw_any) ((((((((p_h2.mono (K4 S)).mono (K12 S)).mono (K13 S)).mono (K14 S)).mono (K15 S)).mono (K16 S)).mono (K18 S)).mono vw_any) ((((((((p_h3.mono (K4 S)).mono (K12 S)).mono (K13 S)).mono (K14 S)).mono (K15 S)).mono (K16 S)).mono (K18 S)).mono vw_any) r15 q15) ?_)
       rintro _ w23 hE20 ⟨rfl, -⟩
       exact ⟨hE20, rfl⟩
      refine zak (fun _ _ => zas (zcw (x := r14) (y := r15) ((r14 : Int) ≠ r15) rfl rfl zbf (er rfl))) ?_
      refine zak (fun _ _ => zas (zai rfl (er rfl))) ?_
      refine zak (fun _ _ => zbg rfl rfl (zdr hc13) (er rfl)) ?_
      refine zak (fun _ _ => zbg rfl rfl (zdr hc13) (er rfl)) ?_
      refine zak (fun _ _ => zbg rfl rfl (zdr hc13) (er rfl)) ?_
      refine zak (fun _ _ => zbg rfl rfl (zdr hc13) (er rfl)) ?_
      refine zak (fun _ _ => zas (zbu rfl (zdr hc13) rfl (er rfl))) ?_
      refine zak (fun _ _ => zas (zai rfl (er rfl))) ?_
      refine zak (fun _ _ => zbg rfl rfl rfl (er rfl)) ?_
      refine zak (fun _ _ => zbg rfl rfl rfl (er rfl)) ?_
      refine zak (fun _ _ => zbg rfl rfl rfl (er rfl)) ?_
      refine zak (fun _ _ => zbg rfl rfl rfl (er rfl)) ?_
      refine zak (fun _ _ => zas (zbu rfl rfl rfl (er rfl))) ?_
      refine zak (fun _ _ => zas (zai rfl (er rfl))) ?_
      refine zak (fun _ _ => zbg rfl rfl rfl (er rfl)) ?_
      refine zak (fun _ _ => zbg rfl rfl rfl (er rfl)) ?_
      refine zak (fun _ _ => zbg rfl rfl rfl (er rfl)) ?_
      refine zak (fun _ _ => zbg rfl rfl rfl (er rfl)) ?_
      refine zak (fun _ _ => zas (zbu rfl rfl rfl (er rfl))) ?_
      refine zak (fun _ _ => zas (zai rfl (er rfl))) ?_
      refine zak (fun _ _ => zbg rfl rfl rfl (er rfl)) ?_
      refine zak (fun _ _ => zbg rfl rfl rfl (er rfl)) ?_
      refine zak (fun _ _ => zbg rfl rfl rfl (er rfl)) ?_
      refine zak (fun _ _ => zbg rfl rfl rfl (er rfl)) ?_
      refine zak (fun _ _ => zbg rfl rfl rfl (er rfl)) ?_
      refine zak (fun _ _ => zas (zbu rfl rfl rfl (er rfl))) ?_
      refine zak (fun _ _ => zas (zai rfl (er rfl))) ?_
      refine zak (fun _ _ => zbg rfl rfl rfl (er rfl)) ?_
      refine zak (fun _ _ => zbg rfl rfl rfl (er rfl)) ?_
      refine zak (fun _ _ => zbg rfl rfl rfl (er rfl)) ?_
      refine zak (fun _ _ => zbg rfl rfl rfl (er rfl)) ?_
      refine zak (fun _ _ => zbg rfl rfl rfl (er rfl)) ?_
      refine zak (fun _ _ => zbg rfl rfl rfl (er rfl)) ?_
      refine zak (fun _ _ => zbg rfl rfl rfl (er rfl)) ?_
      refine zak (fun _ _ => zbg rfl rfl rfl (er rfl)) ?_
      refine zak (fun _ _ => zas (zbu rfl rfl rfl (er rfl))) ?_
      refine zak (fun _ _ => zas (zai rfl (er rfl))) ?_
      refine zak (fun _ _ => zbg rfl rfl rfl (er rfl)) ?_
      refine zak (fun _ _ => zbg rfl rfl rfl (er rfl)) ?_
      refine zak (fun _ _ => zbg rfl rfl rfl (er rfl)) ?_
      refine zak (fun _ _ => zbg rfl rfl rfl (er rfl)) ?_
      refine zak (fun _ _ => zbg rfl rfl rfl (er rfl)) ?_
      refine zak (fun _ _ => zbg rfl rfl rfl (er rfl)) ?_
      refine zak (fun _ _ => zbg rfl rfl rfl (er rfl)) ?_
      refine zak (fun _ _ => zbg rfl rfl rfl (er rfl)) ?_
      refine zck ?_
      rintro w69 Z59 hE66 hZ59 ⟨-⟩ ap10
      have hB10 : ∀ b, some b ∈ ([] : List (Option Nat)) → w17.heap.size ≤ b ∧ ¬ Z59 b := by
       intro b hb; cases hb
      have hL20 := hL17.ext hE66
      have K19 := ke hL17 hE66
      refine zbx rfl rfl rfl ?_
      refine zaf (zbu (t := true) (v := (zaa true)) rfl rfl rfl ?_)
      refine zar ?_
      have hp10 := hL20.pick [0] rfl rfl rfl
      have hL21 : vL w w69 [some b10] [zac [v10, v11, (zaa r13.Bound.Negative), v12, v13]] := hp10.1
      have K20 := ks w hp10.2
      obtain rfl := zag h
      refine zau ?_
      exact ⟨true, _, rfl, (zdt ⟨rfl, rfl, rfl, trivial⟩), hL21, (zat (zat K16 K19) K20), trivial⟩
    ·
     replace h := ite_f hc13 h
     by_cases hc14 : ((r13.Steps.length : Int) : Int) ≠ 1
     ·
      replace h := ite_t hc14 h
      refine zcg 49 [] [] (fun W1 => [.det (zaq #[p_v, p_v1, (zaa p.Bound.Negative), p_v2, p_v3]), .det (zab .i64 r14), .det (zaq #[p_v, p_v1, (zaa p.Bound.Negative), p_v2, p_v3]), .det (zab .i64 r15), .det (zaa (decide ((r14 : Int) ≠ r15))), .det (zaa (decide ((r14 : Int) ≠ r15))), .det (zan (some ⟨b10, 0, none⟩)), .det v10, .det (zab .i64 (r13.Steps.length : Int)), .det (zaa (decide (((r13.Steps.length : Int) : Int) ≠ 1))), .det (zaa (decide (((r13.Steps.length : Int) : Int) ≠ 1))), .det (zaa (decide (((r13.Steps.length : Int) : Int) ≠ 1))), .det undef, .det undef, .det undef, .det undef, .det (zaa true), .det (zaa true), .det undef, .det undef, .det undef, .det undef, .det (zaa true), .det (zaa true), .det undef, .det undef, .det undef, .det undef, .det undef, .det (zaa true), .det (zaa true), .det undef, .det undef, .det undef, .det undef, .det undef, .det undef, .det undef, .det undef, .det (zaa true), .det (zaa true), .det undef, .det undef, .det undef, .det undef, .det undef, .det undef, .det undef, .det undef]) mixed rfl rfl rfl (fun _ => rfl) (fun _ => rfl) ?_ ?_
      ·
       intro W1 _
       exact trivial
      ·
       intro w70 hE67
       have hL22 := hL16.ext hE67
       have K21 := ke hL16 hE67
       refine zak (fun _ hE68 => zas (zbh (vs := [p_v, p_v1, (zaa p.Bound.Negative), p_v2, p_v3]) zav rfl ti42 rfl ((hL22.ext hE68).at 1 rfl rfl) rfl rfl (er rfl))) ?_
       refine zdl ?_ ?_
       ·
        rintro w72 Z61 hE69 hZ61 ⟨-⟩
        have K22 := ke hL22 hE69
        refine zas (zay en21 rfl rfl (cSize_w N p p_v p_v1 p_v2 p_v3 _ Any ((((((((p_h.mono (K4 S)).mono (K12 S)).mono (K13 S)).mono (K14 S)).mono (K15 S)).mono (K21 S)).mono (K22 S)).mono vw_any) ((((((((p_h1.mono (K4 S)).mono (K12 S)).mono (K13 S)).mono (K14 S)).mono (K15 S)).mono (K21 S)).mono (K22 S)).mono vw_any) ((((((((p_h2.mono (K4 S)).mono (K12 S)).mono (K13 S)).mono (K14 S)).mono (K15 S)).mono (K21 S)).mono (K22 S)).mono vw_any) ((((((((p_h3.mono (K4 S)).mono (K12 S)).mono (K13 S)).mono (K14 S)).mono (K15 S)).mono (K21 S)).mono (K22 S)).mono vw_any) r14 q14) ?_)
        rintro _ w73 hE70 ⟨rfl, -⟩
        exact ⟨hE70, rfl⟩
       refine zak (fun _ hE71 => zas (zbh (vs := [p_v, p_v1, (zaa p.Bound.Negative), p_v2, p_v3]) zav rfl ti42 rfl ((hL22.ext hE71).at 1 rfl rfl) rfl rfl (er rfl))) ?_
       refine zdl ?_ ?_
       ·
        rintro w75 Z63 hE72 hZ63 ⟨-⟩
        have K23 := ke hL22 hE72
        refine zas (zay en22 rfl rfl (rSize_w N p p_v p_v1 p_v2 p_v3 _ Any ((((((((p_h.mono (K4 S)).mono (K12 S)).mono (K13 S)).mono (K14 S)).mono (K15 S)).mono (K21 S)).mono (K23 S)).mono vw_any) ((((((((p_h1.mono (K4 S)).mono (K12 S)).mono (K13 S)).mono (K14 S)).mono (K15 S)).mono (K21 S)).mono (K23 S)).mono vw_any) ((((((((p_h2.mono (K4 S)).mono (K12 S)).mono (K13 S)).mono (K14 S)).mono (K15 S)).mono (K21 S)).mono (K23 S)).mono vw_any) ((((((((p_h3.mono (K4 S)).mono (K12 S)).mono (K13 S)).mono (K14 S)).mono (K15 S)).mono (K21 S)).mono (K23 S)).mono vw_any) r15 q15) ?_)
        rintro _ w76 hE73 ⟨rfl, -⟩
        exact ⟨hE73, rfl⟩
       refine zak (fun _ _ => zas (zcw (x := r14) (y := r15) ((r14 : Int) ≠ r15) rfl rfl zbf (er rfl))) ?_
       refine zak (fun _ _ => zas (zai rfl (er rfl))) ?_
       refine zak (fun _ _ => zbd rfl rfl (zdo hc13) (zap zav rfl ti39 rfl rfl rfl (er rfl))) ?_
       refine zak (fun _ hE77 => zbd rfl rfl (zdo hc13) (zax zbi rfl rfl ((hL22.ext hE77).at 0 rfl rfl) rfl (er rfl))) ?_
       refine zak (fun _ hE78 => zbd rfl rfl (zdo hc13) (zba (v := v10) zbi rfl (((f19.mono (K15 None)).mono (K21 None)).mono ((ke hL22 hE78) None)) (er rfl))) ?_
       refine zak (fun _ _ => zbd rfl rfl (zdo hc13) (zcw (x := (r13.Steps.length : Int)) (y := 1) (((r13.Steps.length : Int) : Int) ≠ 1) rfl rfl zbf (er rfl))) ?_
       refine zak (fun _ _ => zas (zbo rfl (zdo hc13) rfl (er rfl))) ?_
       refine zak (fun _ _ => zas (zai rfl (er rfl))) ?_
       refine zak (fun _ _ => zbg rfl rfl (zdr hc14) (er rfl)) ?_
       refine zak (fun _ _ => zbg rfl rfl (zdr hc14) (er rfl)) ?_
       refine zak (fun _ _ => zbg rfl rfl (zdr hc14) (er rfl)) ?_
       refine zak (fun _ _ => zbg rfl rfl (zdr hc14) (er rfl)) ?_
       refine zak (fun _ _ => zas (zbu rfl (zdr hc14) rfl (er rfl))) ?_
       refine zak (fun _ _ => zas (zai rfl (er rfl))) ?_
       refine zak (fun _ _ => zbg rfl rfl rfl (er rfl)) ?_
       refine zak (fun _ _ => zbg rfl rfl rfl (er rfl)) ?_
       refine zak (fun _ _ => zbg rfl rfl rfl (er rfl)) ?_
       refine zak (fun _ _ => zbg rfl rfl rfl (er rfl)) ?_
       refine zak (fun _ _ => zas (zbu rfl rfl rfl (er rfl))) ?_
       refine zak (fun _ _ => zas (zai rfl (er rfl))) ?_
       refine zak (fun _ _ => zbg rfl rfl rfl (er rfl)) ?_
       refine zak (fun _ _ => zbg rfl rfl rfl (er rfl)) ?_
       refine zak (fun _ _ => zbg rfl rfl rfl (er rfl)) ?_
       refine zak (fun _ _ => zbg rfl rfl rfl (er rfl)) ?_
       refine zak (fun _ _ => zbg rfl rfl rfl (er rfl)) ?_
       refine zak (fun _ _ => zas (zbu rfl rfl rfl (er rfl))) ?_
       refine zak (fun _ _ => zas (zai rfl (er rfl))) ?_
       refine zak (fun _ _ => zbg rfl rfl rfl (er rfl)) ?_
       refine zak (fun _ _ => zbg rfl rfl rfl (er rfl)) ?_
       refine zak (fun _ _ => zbg rfl rfl rfl (er rfl)) ?_
       refine zak (fun _ _ => zbg rfl rfl rfl (er rfl)) ?_
       refine zak (fun _ _ => zbg rfl rfl rfl (er rfl)) ?_
       refine zak (fun _ _ => zbg rfl rfl rfl (er rfl)) ?_
       refine zak (fun _ _ => zbg rfl rfl rfl (er rfl)) ?_
       refine zak (fun _ _ => zbg rfl rfl rfl (er rfl)) ?_
       refine zak (fun _ _ => zas (zbu rfl rfl rfl (er rfl))) ?_
       refine zak (fun _ _ => zas (zai rfl (er rfl))) ?_
       refine zak (fun _ _ => zbg rfl rfl rfl (er rfl)) ?_
       refine zak (fun _ _ => zbg rfl rfl rfl (er rfl)) ?_
       refine zak (fun _ _ => zbg rfl rfl rfl (er rfl)) ?_
       refine zak (fun _ _ => zbg rfl rfl rfl (er rfl)) ?_
       refine zak (fun _ _ => zbg rfl rfl rfl (er rfl)) ?_
       refine zak (fun _ _ => zbg rfl rfl rfl (er rfl)) ?_
       refine zak (fun _ _ => zbg rfl rfl rfl (er rfl)) ?_
       refine zak (fun _ _ => zbg rfl rfl rfl (er rfl)) ?_
       refine zck ?_
       rintro w122 Z109 hE119 hZ109 ⟨-⟩ ap11
       have hB11 : ∀ b, some b ∈ ([] : List (Option Nat)) → w70.heap.size ≤ b ∧ ¬ Z109 b := by
        intro b hb; cases hb
       have hL26 := hL22.ext hE119
       have K25 := ke hL22 hE119
       refine zbx rfl rfl rfl ?_
       refine zaf (zbu (t := true) (v := (zaa true)) rfl rfl rfl ?_)
       refine zar ?_
       have hp11 := hL26.pick [0] rfl rfl rfl
       have hL27 : vL w w122 [some b10] [zac [v10, v11, (zaa r13.Bound.Negative), v12, v13]] := hp11.1
       have K26 := ks w hp11.2
       obtain rfl := zag h
       refine zau ?_
       exact ⟨true, _, rfl, (zdt ⟨rfl, rfl, rfl, trivial⟩), hL27, (zat (zat K21 K25) K26), trivial⟩
     ·
      replace h := ite_f hc14 h
      by_cases hc15 : ((r13.Children.length : Int) : Int) ≠ 0
      ·
       replace h := ite_t hc15 h
       refine zcg 49 [] [] (fun W1 => [.det (zaq #[p_v, p_v1, (zaa p.Bound.Negative), p_v2, p_v3]), .det (zab .i64 r14), .det (zaq #[p_v, p_v1, (zaa p.Bound.Negative), p_v2, p_v3]), .det (zab .i64 r15), .det (zaa (decide ((r14 : Int) ≠ r15))), .det (zaa (decide ((r14 : Int) ≠ r15))), .det (zan (some ⟨b10, 0, none⟩)), .det v10, .det (zab .i64 (r13.Steps.length : Int)), .det (zaa (decide (((r13.Steps.length : Int) : Int) ≠ 1))), .det (zaa (decide (((r13.Steps.length : Int) : Int) ≠ 1))), .det (zaa (decide (((r13.Steps.length : Int) : Int) ≠ 1))), .det (zan (some ⟨b10, 4, none⟩)), .det v13, .det (zab .i64 (r13.Children.length : Int)), .det (zaa (decide (((r13.Children.length : Int) : Int) ≠ 0))), .det (zaa (decide (((r13.Children.length : Int) : Int) ≠ 0))), .det (zaa (decide (((r13.Children.length : Int) : Int) ≠ 0))), .det undef, .det undef, .det undef, .det undef, .det (zaa true), .det (zaa true), .det undef, .det undef, .det undef, .det undef, .det undef, .det (zaa true), .det (zaa true), .det undef, .det undef, .det undef, .det undef, .det undef, .det undef, .det undef, .det undef, .det (zaa true), .det (zaa true), .det undef, .det undef, .det undef, .det undef, .det undef, .det undef, .det undef, .det undef]) mixed rfl rfl rfl (fun _ => rfl) (fun _ => rfl) ?_ ?_
       ·
        intro W1 _
        exact trivial
       ·
        intro w123 hE120
        have hL28 := hL16.ext hE120
        have K27 := ke hL16 hE120
        refine zak (fun _ hE121 => zas (zbh (vs := [p_v, p_v1, (zaa p.Bound.Negative), p_v2, p_v3]) zav rfl ti42 rfl ((hL28.ext hE121).at 1 rfl rfl) rfl rfl (er rfl))) ?_
        refine zdl ?_ ?_
        ·
         rintro w125 Z111 hE122 hZ111 ⟨-⟩
         have K28 := ke hL28 hE122
         refine zas (zay en21 rfl rfl (cSize_w N p p_v p_v1 p_v2 p_v3 _ Any ((((((((p_h.mono (K4 S)).mono (K12 S)).mono (K13 S)).mono (K14 S)).mono (K15 S)).mono (K27 S)).mono (K28 S)).mono vw_any) ((((((((p_h1.mono (K4 S)).mono (K12 S)).mono (K13 S)).mono (K14 S)).mono (K15 S)).mono (K27 S)).mono (K28 S)).mono vw_any) ((((((((p_h2.mono (K4 S)).mono (K12 S)).mono (K13 S)).mono (K14 S)).mono (K15 S)).mono (K27 S)).mono (K28 S)).mono vw_any) ((((((((p_h3.mono (K4 S)).mono (K12 S)).mono (K13 S)).mono (K14 S)).mono (K15 S)).mono (K27 S)).mono (K28 S)).mono vw_any) r14 q14) ?_)
         rintro _ w126 hE123 ⟨rfl, -⟩
         exact ⟨hE123, rfl⟩
        refine zak (fun _ hE124 => zas (zbh (vs := [p_v, p_v1, (zaa p.Bound.Negative), p_v2, p_v3]) zav rfl ti42 rfl ((hL28.ext hE124).at 1 rfl rfl) rfl rfl (er rfl))) ?_
        refine zdl ?_ ?_
        ·
         rintro w128 Z113 hE125 hZ113 ⟨-⟩
         have K29 := ke hL28 hE125
         refine zas (zay en22 rfl rfl (rSize_w N p p_v p_v1 p_v2 p_v3 _ Any ((((((((p_h.mono (K4 S)).mono (K12 S)).mono (K13 S)).mono (K14 S)).mono (K15 S)).mono (K27 S)).mono (K29 S)).mono vw_any) ((((((((p_h1.mono (K4 S)).mono (K12 S)).mono (K13 S)).mono (K14 S)).mono (K15 S)).mono (K27 S)).mono (K29 S)).mono vw_any) ((((((((p_h2.mono (K4 S)).mono (K12 S)).mono (K13 S)).mono (K14 S)).mono (K15 S)).mono (K27 S)).mono (K29 S)).mono vw_any) ((((((((p_h3.mono (K4 S)).mono (K12 S)).mono (K13 S)).mono (K14 S)).mono (K15 S)).mono (K27 S)).mono (K29 S)).mono vw_any) r15 q15) ?_)
         rintro _ w129 hE126 ⟨rfl, -⟩
         exact ⟨hE126, rfl⟩
        refine zak (fun _ _ => zas (zcw (x := r14) (y := r15) ((r14 : Int) ≠ r15) rfl rfl zbf (er rfl))) ?_
        refine zak (fun _ _ => zas (zai rfl (er rfl))) ?_
        refine zak (fun _ _ => zbd rfl rfl (zdo hc13) (zap zav rfl ti39 rfl rfl rfl (er rfl))) ?_
        refine zak (fun _ hE130 => zbd rfl rfl (zdo hc13) (zax zbi rfl rfl ((hL28.ext hE130).at 0 rfl rfl) rfl (er rfl))) ?_
        refine zak (fun _ hE131 => zbd rfl rfl (zdo hc13) (zba (v := v10) zbi rfl (((f19.mono (K15 None)).mono (K27 None)).mono ((ke hL28 hE131) None)) (er rfl))) ?_
        refine zak (fun _ _ => zbd rfl rfl (zdo hc13) (zcw (x := (r13.Steps.length : Int)) (y := 1) (((r13.Steps.length : Int) : Int) ≠ 1) rfl rfl zbf (er rfl))) ?_
        refine zak (fun _ _ => zas (zbo rfl (zdo hc13) rfl (er rfl))) ?_
        refine zak (fun _ _ => zas (zai rfl (er rfl))) ?_
        refine zak (fun _ _ => zbd rfl rfl (zdo hc14) (zap zav rfl ti40 rfl rfl rfl (er rfl))) ?_
        refine zak (fun _ hE136 => zbd rfl rfl (zdo hc14) (zax zbj rfl rfl ((hL28.ext hE136).at 0 rfl rfl) rfl (er rfl))) ?_
        refine zak (fun _ hE137 => zbd rfl rfl (zdo hc14) (zba (v := v13) zbj rfl (((f16.mono (K15 None)).mono (K27 None)).mono ((ke hL28 hE137) None)) (er rfl))) ?_
        refine zak (fun _ _ => zbd rfl rfl (zdo hc14) (zcw (x := (r13.Children.length : Int)) (y := 0) (((r13.Children.length : Int) : Int) ≠ 0) rfl rfl zbf (er rfl))) ?_
        refine zak (fun _ _ => zas (zbo rfl (zdo hc14) rfl (er rfl))) ?_
        refine zak (fun _ _ => zas (zai rfl (er rfl))) ?_
        refine zak (fun _ _ => zbg rfl rfl (zdr hc15) (er rfl)) ?_
        refine zak (fun _ _ => zbg rfl rfl (zdr hc15) (er rfl)) ?_
        refine zak (fun _ _ => zbg rfl rfl (zdr hc15) (er rfl)) ?_
        refine zak (fun _ _ => zbg rfl rfl (zdr hc15) (er rfl)) ?_
        refine zak (fun _ _ => zas (zbu rfl (zdr hc15) rfl (er rfl))) ?_
        refine zak (fun _ _ => zas (zai rfl (er rfl))) ?_
        refine zak (fun _ _ => zbg rfl rfl rfl (er rfl)) ?_
        refine zak (fun _ _ => zbg rfl rfl rfl (er rfl)) ?_
        refine zak (fun _ _ => zbg rfl rfl rfl (er rfl)) ?_
        refine zak (fun _ _ => zbg rfl rfl rfl (er rfl)) ?_
        refine zak (fun _ _ => zbg rfl rfl rfl (er rfl)) ?_
        refine zak (fun _ _ => zas (zbu rfl rfl rfl (er rfl))) ?_
        refine zak (fun _ _ => zas (zai rfl (er rfl))) ?_
        refine zak (fun _ _ => zbg rfl rfl rfl (er rfl)) ?_
        refine zak (fun _ _ => zbg rfl rfl rfl (er rfl)) ?_
        refine zak (fun _ _ => zbg rfl rfl rfl (er rfl)) ?_
        refine zak (fun _ _ => zbg rfl rfl rfl (er rfl)) ?_
        refine zak (fun _ _ => zbg rfl rfl rfl (er rfl)) ?_
        refine zak (fun _ _ => zbg rfl rfl rfl (er rfl)) ?_
        refine zak (fun _ _ => zbg rfl rfl rfl (er rfl)) ?_
        refine zak (fun _ _ => zbg rfl rfl rfl (er rfl)) ?_
        refine zak (fun _ _ => zas (zbu rfl rfl rfl (er rfl))) ?_
        refine zak (fun _ _ => zas (zai rfl (er rfl))) ?_
        refine zak (fun _ _ => zbg rfl rfl rfl (er rfl)) ?_
        refine zak (fun _ _ => zbg rfl rfl rfl (er rfl)) ?_
        refine zak (fun _ _ => zbg rfl rfl rfl (er rfl)) ?_
        refine zak (fun _ _ => zbg rfl rfl rfl (er rfl)) ?_
        refine zak (fun _ _ => zbg rfl rfl rfl (er rfl)) ?_
        refine zak (fun _ _ => zbg rfl rfl rfl (er rfl)) ?_
        refine zak (fun _ _ => zbg rfl rfl rfl (er rfl)) ?_
        refine zak (fun _ _ => zbg rfl rfl rfl (er rfl)) ?_
        refine zck ?_
        rintro w175 Z159 hE172 hZ159 ⟨-⟩ ap12
        have hB12 : ∀ b, some b ∈ ([] : List (Option Nat)) → w123.heap.size ≤ b ∧ ¬ Z159 b := by
         intro b hb; cases hb
        have hL33 := hL28.ext hE172
        have K32 := ke hL28 hE172
        refine zbx rfl rfl rfl ?_
        refine zaf (zbu (t := true) (v := (zaa true)) rfl rfl rfl ?_)
        refine zar ?_
        have hp12 := hL33.pick [0] rfl rfl rfl
        have hL34 : vL w w175 [some b10] [zac [v10, v11, (zaa r13.Bound.Negative), v12, v13]] := hp12.1
        have K33 := ks w hp12.2
        obtain rfl := zag h
        refine zau ?_
        exact ⟨true, _, rfl, (zdt ⟨rfl, rfl, rfl, trivial⟩), hL34, (zat (zat K27 K32) K33), trivial⟩
      ·
       replace h := ite_f hc15 h
       by_cases hc16 : ((r13.Form.length : Int) : Int) ≠ 0
       ·
        replace h := ite_t hc16 h
        refine zcg 49 [] [] (fun W1 => [.det (zaq #[p_v, p_v1, (zaa p.Bound.Negative), p_v2, p_v3]), .det (zab .i64 r14), .det (zaq #[p_v, p_v1, (zaa p.Bound.Negative), p_v2, p_v3]), .det (zab .i64 r15), .det (zaa (decide ((r14 : Int) ≠ r15))), .det (zaa (decide ((r14 : Int) ≠ r15))), .det (zan (some ⟨b10, 0, none⟩)), .det v10, .det (zab .i64 (r13.Steps.length : Int)), .det (zaa (decide (((r13.Steps.length : Int) : Int) ≠ 1))), .det (zaa (decide (((r13.Steps.length : Int) : Int) ≠ 1))), .det (zaa (decide (((r13.Steps.length : Int) : Int) ≠ 1))), .det (zan (some ⟨b10, 4, none⟩)), .det v13, .det (zab .i64 (r13.Children.length : Int)), .det (zaa (decide (((r13.Children.length : Int) : Int) ≠ 0))), .det (zaa (decide (((r13.Children.length : Int) : Int) ≠ 0))), .det (zaa (decide (((r13.Children.length : Int) : Int) ≠ 0))), .det (zan (some ⟨b10, 1, none⟩)), .det v11, .det (zab .i64 (r13.Form.length : Int)), .det (zaa (decide (((r13.Form.length : Int) : Int) ≠ 0))), .det (zaa (decide (((r13.Form.length : Int) : Int) ≠ 0))), .det (zaa (decide (((r13.Form.length : Int) : Int) ≠ 0))), .det undef, .det undef, .det undef, .det undef, .det undef, .det (zaa true), .det (zaa true), .det undef, .det undef, .det undef, .det undef, .det undef, .det undef, .det undef, .det undef, .det (zaa true), .det (zaa true), .det undef, .det undef, .det undef, .det undef, .det undef, .det undef, .det undef, .det undef]) mixed rfl rfl rfl (fun _ => rfl) (fun _ => rfl) ?_ ?_
        ·
         intro W1 _
         exact trivial
        ·
         intro w176 hE173
         have hL35 := hL16.ext hE173
         have K34 := ke hL16 hE173
         refine zak (fun _ hE174 => zas (zbh (vs := [p_v, p_v1, (zaa p.Bound.Negative), p_v2, p_v3]) zav rfl ti42 rfl ((hL35.ext hE174).at 1 rfl rfl) rfl rfl (er rfl))) ?_
         refine zdl ?_ ?_
         ·
          rintro w178 Z161 hE175 hZ161 ⟨-⟩
          have K35 := ke hL35 hE175
          refine zas (zay en21 rfl rfl (cSize_w N p p_v p_v1 p_v2 p_v3 _ Any ((((((((p_h.mono (K4 S)).mono (K12 S)).mono (K13 S)).mono (K14 S)).mono (K15 S)).mono (K34 S)).mono (K35 S)).mono vw_any) ((((((((p_h1.mono (K4 S)).mono (K12 S)).mono (K13 S)).mono (K14 S)).mono (K15 S)).mono (K34 S)).mono (K35 S)).mono vw_any) ((((((((p_h2.mono (K4 S)).mono (K12 S)).mono (K13 S)).mono (K14 S)).mono (K15 S)).mono (K34 S)).mono (K35 S)).mono vw_any) ((((((((p_h3.mono (K4 S)).mono (K12 S)).mono (K13 S)).mono (K14 S)).mono (K15 S)).mono (K34 S)).mono (K35 S)).mono vw_any) r14 q14) ?_)
          rintro _ w179 hE176 ⟨rfl, -⟩
          exact ⟨hE176, rfl⟩
         refine zak (fun _ hE177 => zas (zbh (vs := [p_v, p_v1, (zaa p.Bound.Negative), p_v2, p_v3]) zav rfl ti42 rfl ((hL35.ext hE177).at 1 rfl rfl) rfl rfl (er rfl))) ?_
         refine zdl ?_ ?_
         ·
          rintro w181 Z163 hE178 hZ163 ⟨-⟩
          have K36 := ke hL35 hE178
          refine zas (zay en22 rfl rfl (rSize_w N p p_v p_v1 p_v2 p_v3 _ Any ((((((((p_h.mono (K4 S)).mono (K12 S)).mono (K13 S)).mono (K14 S)).mono (K15 S)).mono (K34 S)).mono (K36 S)).mono vw_any) ((((((((p_h1.mono (K4 S)).mono (K12 S)).mono (K13 S)).mono (K14 S)).mono (K15 S)).mono (K34 S)).mono (K36 S)).mono vw_any) ((((((((p_h2.mono (K4 S)).mono (K12 S)).mono (K13 S)).mono (K14 S)).mono (K15 S)).mono (K34 S)).mono (K36 S)).mono vw_any) ((((((((p_h3.mono (K4 S)).mono (K12 S)).mono (K13 S)).mono (K14 S)).mono (K15 S)).mono (K34 S)).mono (K36 S)).mono vw_any) r15 q15) ?_)
          rintro _ w182 hE179 ⟨rfl, -⟩
          exact ⟨hE179, rfl⟩
         refine zak (fun _ _ => zas (zcw (x := r14) (y := r15) ((r14 : Int) ≠ r15) rfl rfl zbf (er rfl))) ?_
         refine zak (fun _ _ => zas (zai rfl (er rfl))) ?_
         refine zak (fun _ _ => zbd rfl rfl (zdo hc13) (zap zav rfl ti39 rfl rfl rfl (er rfl))) ?_
         refine zak (fun _ hE183 => zbd rfl rfl (zdo hc13) (zax zbi rfl rfl ((hL35.ext hE183).at 0 rfl rfl) rfl (er rfl))) ?_
         refine zak (fun _ hE184 => zbd rfl rfl (zdo hc13) (zba (v := v10) zbi rfl (((f19.mono (K15 None)).mono (K34 None)).mono ((ke hL35 hE184) None)) (er rfl))) ?_
         refine zak (fun _ _ => zbd rfl rfl (zdo hc13) (zcw (x := (r13.Steps.length : Int)) (y := 1) (((r13.Steps.length : Int) : Int) ≠ 1) rfl rfl zbf (er rfl))) ?_
         refine zak (fun _ _ => zas (zbo rfl (zdo hc13) rfl (er rfl))) ?_
         refine zak (fun _ _ => zas (zai rfl (er rfl))) ?_
         refine zak (fun _ _ => zbd rfl rfl (zdo hc14) (zap zav rfl ti40 rfl rfl rfl (er rfl))) ?_
         refine zak (fun _ hE189 => zbd rfl rfl (zdo hc14) (zax zbj rfl rfl ((hL35.ext hE189).at 0 rfl rfl) rfl (er rfl))) ?_
         refine zak (fun _ hE190 => zbd rfl rfl (zdo hc14) (zba (v := v13) zbj rfl (((f16.mono (K15 None)).mono (K34 None)).mono ((ke hL35 hE190) None)) (er rfl))) ?_
         refine zak (fun _ _ => zbd rfl rfl (zdo hc14) (zcw (x := (r13.Children.length : Int)) (y := 0) (((r13.Children.length : Int) : Int) ≠ 0) rfl rfl zbf (er rfl))) ?_
         refine zak (fun _ _ => zas (zbo rfl (zdo hc14) rfl (er rfl))) ?_
         refine zak (fun _ _ => zas (zai rfl (er rfl))) ?_
         refine zak (fun _ _ => zbd rfl rfl (zdo hc15) (zap zav rfl ti32 rfl rfl rfl (er rfl))) ?_
         refine zak (fun _ hE195 => zbd rfl rfl (zdo hc15) (zax zbb rfl rfl ((hL35.ext hE195).at 0 rfl rfl) rfl (er rfl))) ?_
         refine zak (fun _ hE196 => zbd rfl rfl (zdo hc15) (zba (v := v11) zbb rfl (((f18.mono (K15 None)).mono (K34 None)).mono ((ke hL35 hE196) None)) (er rfl))) ?_
         refine zak (fun _ _ => zbd rfl rfl (zdo hc15) (zcw (x := (r13.Form.length : Int)) (y := 0) (((r13.Form.length : Int) : Int) ≠ 0) rfl rfl zbf (er rfl))) ?_
         refine zak (fun _ _ => zas (zbo rfl (zdo hc15) rfl (er rfl))) ?_
         refine zak (fun _ _ => zas (zai rfl (er rfl))) ?_
         refine zak (fun _ _ => zbg rfl rfl (zdr hc16) (er rfl)) ?_
         refine zak (fun _ _ => zbg rfl rfl (zdr hc16) (er rfl)) ?_
         refine zak (fun _ _ => zbg rfl rfl (zdr hc16) (er rfl)) ?_
         refine zak (fun _ _ => zbg rfl rfl (zdr hc16) (er rfl)) ?_
         refine zak (fun _ _ => zbg rfl rfl (zdr hc16) (er rfl)) ?_
         refine zak (fun _ _ => zas (zbu rfl (zdr hc16) rfl (er rfl))) ?_
         refine zak (fun _ _ => zas (zai rfl (er rfl))) ?_
         refine zak (fun _ _ => zbg rfl rfl rfl (er rfl)) ?_
         refine zak (fun _ _ => zbg rfl rfl rfl (er rfl)) ?_
         refine zak (fun _ _ => zbg rfl rfl rfl (er rfl)) ?_
         refine zak (fun _ _ => zbg rfl rfl rfl (er rfl)) ?_
         refine zak (fun _ _ => zbg rfl rfl rfl (er rfl)) ?_
         refine zak (fun _ _ => zbg rfl rfl rfl (er rfl)) ?_
         refine zak (fun _ _ => zbg rfl rfl rfl (er rfl)) ?_
         refine zak (fun _ _ => zbg rfl rfl rfl (er rfl)) ?_
         refine zak (fun _ _ => zas (zbu rfl rfl rfl (er rfl))) ?_
         refine zak (fun _ _ => zas (zai rfl (er rfl))) ?_
         refine zak (fun _ _ => zbg rfl rfl rfl (er rfl)) ?_
         refine zak (fun _ _ => zbg rfl rfl rfl (er rfl)) ?_
         refine zak (fun _ _ => zbg rfl rfl rfl (er rfl)) ?_
         refine zak (fun _ _ => zbg rfl rfl rfl (er rfl)) ?_
         refine zak (fun _ _ => zbg rfl rfl rfl (er rfl)) ?_
         refine zak (fun _ _ => zbg rfl rfl rfl (er rfl)) ?_
         refine zak (fun _ _ => zbg rfl rfl rfl (er rfl)) ?_
         refine zak (fun _ _ => zbg rfl rfl rfl (er rfl)) ?_
         refine zck ?_
         rintro w228 Z209 hE225 hZ209 ⟨-⟩ ap13
         have hB13 : ∀ b, some b ∈ ([] : List (Option Nat)) → w176.heap.size ≤ b ∧ ¬ Z209 b := by
          intro b hb; cases hb
         have hL41 := hL35.ext hE225
         have K40 := ke hL35 hE225
         refine zbx rfl rfl rfl ?_
         refine zaf (zbu (t := true) (v := (zaa true)) rfl rfl rfl ?_)
         refine zar ?_
         have hp13 := hL41.pick [0] rfl rfl rfl
         have hL42 : vL w w228 [some b10] [zac [v10, v11, (zaa r13.Bound.Negative), v12, v13]] := hp13.1
         have K41 := ks w hp13.2
         obtain rfl := zag h
         refine zau ?_
         exact ⟨true, _, rfl, (zdt ⟨rfl, rfl, rfl, trivial⟩), hL42, (zat (zat K34 K40) K41), trivial⟩
       ·
        replace h := ite_f hc16 h
        by_cases hc17 : ((r13.Bound.Digits.length : Int) : Int) ≠ 0
        ·
         replace h := ite_t hc17 h
         refine zcg 49 [] [] (fun W1 => [.det (zaq #[p_v, p_v1, (zaa p.Bound.Negative), p_v2, p_v3]), .det (zab .i64 r14), .det (zaq #[p_v, p_v1, (zaa p.Bound.Negative), p_v2, p_v3]), .det (zab .i64 r15), .det (zaa (decide ((r14 : Int) ≠ r15))), .det (zaa (decide ((r14 : Int) ≠ r15))), .det (zan (some ⟨b10, 0, none⟩)), .det v10, .det (zab .i64 (r13.Steps.length : Int)), .det (zaa (decide (((r13.Steps.length : Int) : Int) ≠ 1))), .det (zaa (decide (((r13.Steps.length : Int) : Int) ≠ 1))), .det (zaa (decide (((r13.Steps.length : Int) : Int) ≠ 1))), .det (zan (some ⟨b10, 4, none⟩)), .det v13, .det (zab .i64 (r13.Children.length : Int)), .det (zaa (decide (((r13.Children.length : Int) : Int) ≠ 0))), .det (zaa (decide (((r13.Children.length : Int) : Int) ≠ 0))), .det (zaa (decide (((r13.Children.length : Int) : Int) ≠ 0))), .det (zan (some ⟨b10, 1, none⟩)), .det v11, .det (zab .i64 (r13.Form.length : Int)), .det (zaa (decide (((r13.Form.length : Int) : Int) ≠ 0))), .det (zaa (decide (((r13.Form.length : Int) : Int) ≠ 0))), .det (zaa (decide (((r13.Form.length : Int) : Int) ≠ 0))), .det (zan (some ⟨b10, 2, none⟩)), .det (zan (some ⟨b10, 3, none⟩)), .det v12, .det (zab .i64 (r13.Bound.Digits.length : Int)), .det (zaa (decide (((r13.Bound.Digits.length : Int) : Int) ≠ 0))), .det (zaa (decide (((r13.Bound.Digits.length : Int) : Int) ≠ 0))), .det (zaa (decide (((r13.Bound.Digits.length : Int) : Int) ≠ 0))), .det undef, .det undef, .det undef, .det undef, .det undef, .det undef, .det undef, .det undef, .det (zaa true), .det (zaa true), .det undef, .det undef, .det undef, .det undef, .det undef, .det undef, .det undef, .det undef]) mixed rfl rfl rfl (fun _ => rfl) (fun _ => rfl) ?_ ?_
         ·
          intro W1 _
          exact trivial
         ·
          intro w229 hE226
          have hL43 := hL16.ext hE226
          have K42 := ke hL16 hE226
          refine zak (fun _ hE227 => zas (zbh (vs := [p_v, p_v1, (zaa p.Bound.Negative), p_v2, p_v3]) zav rfl ti42 rfl ((hL43.ext hE227).at 1 rfl rfl) rfl rfl (er rfl))) ?_
          refine zdl ?_ ?_
          ·
           rintro w231 Z211 hE228 hZ211 ⟨-⟩
           have K43 := ke hL43 hE228
           refine zas (zay en21 rfl rfl (cSize_w N p p_v p_v1 p_v2 p_v3 _ Any ((((((((p_h.mono (K4 S)).mono (K12 S)).mono (K13 S)).mono (K14 S)).mono (K15 S)).mono (K42 S)).mono (K43 S)).mono vw_any) ((((((((p_h1.mono (K4 S)).mono (K12 S)).mono (K13 S)).mono (K14 S)).mono (K15 S)).mono (K42 S)).mono (K43 S)).mono vw_any) ((((((((p_h2.mono (K4 S)).mono (K12 S)).mono (K13 S)).mono (K14 S)).mono (K15 S)).mono (K42 S)).mono (K43 S)).mono vw_any) ((((((((p_h3.mono (K4 S)).mono (K12 S)).mono (K13 S)).mono (K14 S)).mono (K15 S)).mono (K42 S)).mono (K43 S)).mono vw_any) r14 q14) ?_)
           rintro _ w232 hE229 ⟨rfl, -⟩
           exact ⟨hE229, rfl⟩
          refine zak (fun _ hE230 => zas (zbh (vs := [p_v, p_v1, (zaa p.Bound.Negative), p_v2, p_v3]) zav rfl ti42 rfl ((hL43.ext hE230).at 1 rfl rfl) rfl rfl (er rfl))) ?_
          refine zdl ?_ ?_
          ·
           rintro w234 Z213 hE231 hZ213 ⟨-⟩
           have K44 := ke hL43 hE231
           refine zas (zay en22 rfl rfl (rSize_w N p p_v p_v1 p_v2 p_v3 _ Any ((((((((p_h.mono (K4 S)).mono (K12 S)).mono (K13 S)).mono (K14 S)).mono (K15 S)).mono (K42 S)).mono (K44 S)).mono vw_any) ((((((((p_h1.mono (K4 S)).mono (K12 S)).mono (K13 S)).mono (K14 S)).mono (K15 S)).mono (K42 S)).mono (K44 S)).mono vw_any) ((((((((p_h2.mono (K4 S)).mono (K12 S)).mono (K13 S)).mono (K14 S)).mono (K15 S)).mono (K42 S)).mono (K44 S)).mono vw_any) ((((((((p_h3.mono (K4 S)).mono (K12 S)).mono (K13 S)).mono (K14 S)).mono (K15 S)).mono (K42 S)).mono (K44 S)).mono vw_any) r15 q15) ?_)
           rintro _ w235 hE232 ⟨rfl, -⟩
           exact ⟨hE232, rfl⟩
          refine zak (fun _ _ => zas (zcw (x := r14) (y := r15) ((r14 : Int) ≠ r15) rfl rfl zbf (er rfl))) ?_
          refine zak (fun _ _ => zas (zai rfl (er rfl))) ?_
          refine zak (fun _ _ => zbd rfl rfl (zdo hc13) (zap zav rfl ti39 rfl rfl rfl (er rfl))) ?_
          refine zak (fun _ hE236 => zbd rfl rfl (zdo hc13) (zax zbi rfl rfl ((hL43.ext hE236).at 0 rfl rfl) rfl (er rfl))) ?_
          refine zak (fun _ hE237 => zbd rfl rfl (zdo hc13) (zba (v := v10) zbi rfl (((f19.mono (K15 None)).mono (K42 None)).mono ((ke hL43 hE237) None)) (er rfl))) ?_
          refine zak (fun _ _ => zbd rfl rfl (zdo hc13) (zcw (x := (r13.Steps.length : Int)) (y := 1) (((r13.Steps.length : Int) : Int) ≠ 1) rfl rfl zbf (er rfl))) ?_
          refine zak (fun _ _ => zas (zbo rfl (zdo hc13) rfl (er rfl))) ?_
          refine zak (fun _ _ => zas (zai rfl (er rfl))) ?_
          refine zak (fun _ _ => zbd rfl rfl (zdo hc14) (zap zav rfl ti40 rfl rfl rfl (er rfl))) ?_
          refine zak (fun _ hE242 => zbd rfl rfl (zdo hc14) (zax zbj rfl rfl ((hL43.ext hE242).at 0 rfl rfl) rfl (er rfl))) ?_
          refine zak (fun _ hE243 => zbd rfl rfl (zdo hc14) (zba (v := v13) zbj rfl (((f16.mono (K15 None)).mono (K42 None)).mono ((ke hL43 hE243) None)) (er rfl))) ?_
          refine zak (fun _ _ => zbd rfl rfl (zdo hc14) (zcw (x := (r13.Children.length : Int)) (y := 0) (((r13.Children.length : Int) : Int) ≠ 0) rfl rfl zbf (er rfl))) ?_
          refine zak (fun _ _ => zas (zbo rfl (zdo hc14) rfl (er rfl))) ?_
          refine zak (fun _ _ => zas (zai rfl (er rfl))) ?_
          refine zak (fun _ _ => zbd rfl rfl (zdo hc15) (zap zav rfl ti32 rfl rfl rfl (er rfl))) ?_
          refine zak (fun _ hE248 => zbd rfl rfl (zdo hc15) (zax zbb rfl rfl ((hL43.ext hE248).at 0 rfl rfl) rfl (er rfl))) ?_
          refine zak (fun _ hE249 => zbd rfl rfl (zdo hc15) (zba (v := v11) zbb rfl (((f18.mono (K15 None)).mono (K42 None)).mono ((ke hL43 hE249) None)) (er rfl))) ?_
          refine zak (fun _ _ => zbd rfl rfl (zdo hc15) (zcw (x := (r13.Form.length : Int)) (y := 0) (((r13.Form.length : Int) : Int) ≠ 0) rfl rfl zbf (er rfl))) ?_
          refine zak (fun _ _ => zas (zbo rfl (zdo hc15) rfl (er rfl))) ?_
          refine zak (fun _ _ => zas (zai rfl (er rfl))) ?_
          refine zak (fun _ _ => zbd rfl rfl (zdo hc16) (zap zav rfl ti26 rfl rfl rfl (er rfl))) ?_
          refine zak (fun _ _ => zbd rfl rfl (zdo hc16) (zap zao rfl ti24 rfl rfl rfl (er rfl))) ?_
          refine zak (fun _ hE255 => zbd rfl rfl (zdo hc16) (zax zam rfl rfl ((hL43.ext hE255).at 0 rfl rfl) rfl (er rfl))) ?_
          refine zak (fun _ hE256 => zbd rfl rfl (zdo hc16) (zba (v := v12) zam rfl (((f17.mono (K15 None)).mono (K42 None)).mono ((ke hL43 hE256) None)) (er rfl))) ?_
          refine zak (fun _ _ => zbd rfl rfl (zdo hc16) (zcw (x := (r13.Bound.Digits.length : Int)) (y := 0) (((r13.Bound.Digits.length : Int) : Int) ≠ 0) rfl rfl zbf (er rfl))) ?_
          refine zak (fun _ _ => zas (zbo rfl (zdo hc16) rfl (er rfl))) ?_
          refine zak (fun _ _ => zas (zai rfl (er rfl))) ?_
          refine zak (fun _ _ => zbg rfl rfl (zdr hc17) (er rfl)) ?_
          refine zak (fun _ _ => zbg rfl rfl (zdr hc17) (er rfl)) ?_
          refine zak (fun _ _ => zbg rfl rfl (zdr hc17) (er rfl)) ?_
          refine zak (fun _ _ => zbg rfl rfl (zdr hc17) (er rfl)) ?_
          refine zak (fun _ _ => zbg rfl rfl (zdr hc17) (er rfl)) ?_
          refine zak (fun _ _ => zbg rfl rfl (zdr hc17) (er rfl)) ?_
          refine zak (fun _ _ => zbg rfl rfl (zdr hc17) (er rfl)) ?_
          refine zak (fun _ _ => zbg rfl rfl (zdr hc17) (er rfl)) ?_
          refine zak (fun _ _ => zas (zbu rfl (zdr hc17) rfl (er rfl))) ?_
          refine zak (fun _ _ => zas (zai rfl (er rfl))) ?_
          refine zak (fun _ _ => zbg rfl rfl rfl (er rfl)) ?_
          refine zak (fun _ _ => zbg rfl rfl rfl (er rfl)) ?_
          refine zak (fun _ _ => zbg rfl rfl rfl (er rfl)) ?_
          refine zak (fun _ _ => zbg rfl rfl rfl (er rfl)) ?_
          refine zak (fun _ _ => zbg rfl rfl rfl (er rfl)) ?_
          refine zak (fun _ _ => zbg rfl rfl rfl (er rfl)) ?_
          refine zak (fun _ _ => zbg rfl rfl rfl (er rfl)) ?_
          refine zak (fun _ _ => zbg rfl rfl rfl (er rfl)) ?_
          refine zck ?_
          rintro w281 Z259 hE278 hZ259 ⟨-⟩ ap14
          have hB14 : ∀ b, some b ∈ ([] : List (Option Nat)) → w229.heap.size ≤ b ∧ ¬ Z259 b := by
           intro b hb; cases hb
          have hL50 := hL43.ext hE278
          have K49 := ke hL43 hE278
          refine zbx rfl rfl rfl ?_
          refine zaf (zbu (t := true) (v := (zaa true)) rfl rfl rfl ?_)
          refine zar ?_
          have hp14 := hL50.pick [0] rfl rfl rfl
          have hL51 : vL w w281 [some b10] [zac [v10, v11, (zaa r13.Bound.Negative), v12, v13]] := hp14.1
          have K50 := ks w hp14.2
          obtain rfl := zag h
          refine zau ?_
          exact ⟨true, _, rfl, (zdt ⟨rfl, rfl, rfl, trivial⟩), hL51, (zat (zat K42 K49) K50), trivial⟩
        ·
         replace h := ite_f hc17 h
         obtain ⟨x12, q16, h⟩ := zdp h
         obtain ⟨n10, q17, q18⟩ := zdu q16
         have f20 := (f19.mono (K15 None))
         obtain ⟨b11, o10, c10, vs10, q19, q20, f21, q21⟩ := zdb f20 q18
         obtain ⟨v14, v15, rfl, k14, k15, -⟩ := rStep_open q21
         have f22 := (f21.part (us := [(zaa x12.Divisor.Negative), v15]) 1 rfl)
         obtain ⟨r16, q22, h⟩ := zdp h
         obtain ⟨r17, q23, h⟩ := zdp h
         by_cases hc18 : (!r17) = true
         ·
          replace h := ite_t hc18 h
          refine zcg 49 [] [] (fun W1 => [.det (zaq #[p_v, p_v1, (zaa p.Bound.Negative), p_v2, p_v3]), .det (zab .i64 r14), .det (zaq #[p_v, p_v1, (zaa p.Bound.Negative), p_v2, p_v3]), .det (zab .i64 r15), .det (zaa (decide ((r14 : Int) ≠ r15))), .det (zaa (decide ((r14 : Int) ≠ r15))), .det (zan (some ⟨b10, 0, none⟩)), .det v10, .det (zab .i64 (r13.Steps.length : Int)), .det (zaa (decide (((r13.Steps.length : Int) : Int) ≠ 1))), .det (zaa (decide (((r13.Steps.length : Int) : Int) ≠ 1))), .det (zaa (decide (((r13.Steps.length : Int) : Int) ≠ 1))), .det (zan (some ⟨b10, 4, none⟩)), .det v13, .det (zab .i64 (r13.Children.length : Int)), .det (zaa (decide (((r13.Children.length : Int) : Int) ≠ 0))), .det (zaa (decide (((r13.Children.length : Int) : Int) ≠ 0))), .det (zaa (decide (((r13.Children.length : Int) : Int) ≠ 0))), .det (zan (some ⟨b10, 1, none⟩)), .det v11, .det (zab .i64 (r13.Form.length : Int)), .det (zaa (decide (((r13.Form.length : Int) : Int) ≠ 0))), .det (zaa (decide (((r13.Form.length : Int) : Int) ≠ 0))), .det (zaa (decide (((r13.Form.length : Int) : Int) ≠ 0))), .det (zan (some ⟨b10, 2, none⟩)), .det (zan (some ⟨b10, 3, none⟩)), .det v12, .det (zab .i64 (r13.Bound.Digits.length : Int)), .det (zaa (decide (((r13.Bound.Digits.length : Int) : Int) ≠ 0))), .det (zaa (decide (((r13.Bound.Digits.length : Int) : Int) ≠ 0))), .det (zaa (decide (((r13.Bound.Digits.length : Int) : Int) ≠ 0))), .det (zan (some ⟨b10, 0, none⟩)), .det v10, .det (zan (some ⟨b11, (o10 + n10 * rStep.sz), none⟩)), .det (zan (some ⟨b11, (o10 + n10 * rStep.sz) + 1, none⟩)), .det (zaq #[(zaa x12.Divisor.Negative), v15]), .rel (fun v Z w' => ∃ v16, (zaq #[(zaa r16.Negative), v16]) = v ∧ Rs (rInt .u32) (vZ W1 w None [some b10, some b1] Z w') v16 r16.Digits ∧ True) (fun _ => []), .det (zaa r17), .det (zaa (!r17)), .det (zaa (!r17)), .det (zaa (!r17)), .det undef, .det undef, .det undef, .det undef, .det undef, .det undef, .det undef, .det undef]) mixed rfl rfl rfl (fun _ => rfl) (fun _ => rfl) ?_ ?_
          ·
           intro W1 _
           exact ⟨fun v Z Z' w w' hΦ hz _ _ hs => by obtain ⟨v16, rfl, k16, -⟩ := hΦ; exact ⟨v16, rfl, (k16.mono (zcx hz hs)), trivial⟩, trivial⟩
          ·
           intro w282 hE279
           have hL52 := hL16.ext hE279
           have K51 := ke hL16 hE279
           refine zak (fun _ hE280 => zas (zbh (vs := [p_v, p_v1, (zaa p.Bound.Negative), p_v2, p_v3]) zav rfl ti42 rfl ((hL52.ext hE280).at 1 rfl rfl) rfl rfl (er rfl))) ?_
           refine zdl ?_ ?_
           ·
            rintro w284 Z261 hE281 hZ261 ⟨-⟩
            have K52 := ke hL52 hE281
            refine zas (zay en21 rfl rfl (cSize_w N p p_v p_v1 p_v2 p_v3 _ Any ((((((((p_h.mono (K4 S)).mono (K12 S)).mono (K13 S)).mono (K14 S)).mono (K15 S)).mono (K51 S)).mono (K52 S)).mono vw_any) ((((((((p_h1.mono (K4 S)).mono (K12 S)).mono (K13 S)).mono (K14 S)).mono (K15 S)).mono (K51 S)).mono (K52 S)).mono vw_any) ((((((((p_h2.mono (K4 S)).mono (K12 S)).mono (K13 S)).mono (K14 S)).mono (K15 S)).mono (K51 S)).mono (K52 S)).mono vw_any) ((((((((p_h3.mono (K4 S)).mono (K12 S)).mono (K13 S)).mono (K14 S)).mono (K15 S)).mono (K51 S)).mono (K52 S)).mono vw_any) r14 q14) ?_)
            rintro _ w285 hE282 ⟨rfl, -⟩
            exact ⟨hE282, rfl⟩
           refine zak (fun _ hE283 => zas (zbh (vs := [p_v, p_v1, (zaa p.Bound.Negative), p_v2, p_v3]) zav rfl ti42 rfl ((hL52.ext hE283).at 1 rfl rfl) rfl rfl (er rfl))) ?_
           refine zdl ?_ ?_
           ·
            rintro w287 Z263 hE284 hZ263 ⟨-⟩
            have K53 := ke hL52 hE284
            refine zas (zay en22 rfl rfl (rSize_w N p p_v p_v1 p_v2 p_v3 _ Any ((((((((p_h.mono (K4 S)).mono (K12 S)).mono (K13 S)).mono (K14 S)).mono (K15 S)).mono (K51 S)).mono (K53 S)).mono vw_any) ((((((((p_h1.mono (K4 S)).mono (K12 S)).mono (K13 S)).mono (K14 S)).mono (K15 S)).mono (K51 S)).mono (K53 S)).mono vw_any) ((((((((p_h2.mono (K4 S)).mono (K12 S)).mono (K13 S)).mono (K14 S)).mono (K15 S)).mono (K51 S)).mono (K53 S)).mono vw_any) ((((((((p_h3.mono (K4 S)).mono (K12 S)).mono (K13 S)).mono (K14 S)).mono (K15 S)).mono (K51 S)).mono (K53 S)).mono vw_any) r15 q15) ?_)
            rintro _ w288 hE285 ⟨rfl, -⟩
            exact ⟨hE285, rfl⟩
           refine zak (fun _ _ => zas (zcw (x := r14) (y := r15) ((r14 : Int) ≠ r15) rfl rfl zbf (er rfl))) ?_
           refine zak (fun _ _ => zas (zai rfl (er rfl))) ?_
           refine zak (fun _ _ => zbd rfl rfl (zdo hc13) (zap zav rfl ti39 rfl rfl rfl (er rfl))) ?_
           refine zak (fun _ hE289 => zbd rfl rfl (zdo hc13) (zax zbi rfl rfl ((hL52.ext hE289).at 0 rfl rfl) rfl (er rfl))) ?_
           refine zak (fun _ hE290 => zbd rfl rfl (zdo hc13) (zba (v := v10) zbi rfl (((f19.mono (K15 None)).mono (K51 None)).mono ((ke hL52 hE290) None)) (er rfl))) ?_
           refine zak (fun _ _ => zbd rfl rfl (zdo hc13) (zcw (x := (r13.Steps.length : Int)) (y := 1) (((r13.Steps.length : Int) : Int) ≠ 1) rfl rfl zbf (er rfl))) ?_
           refine zak (fun _ _ => zas (zbo rfl (zdo hc13) rfl (er rfl))) ?_
           refine zak (fun _ _ => zas (zai rfl (er rfl))) ?_
           refine zak (fun _ _ => zbd rfl rfl (zdo hc14) (zap zav rfl ti40 rfl rfl rfl (er rfl))) ?_
           refine zak (fun _ hE295 => zbd rfl rfl (zdo hc14) (zax zbj rfl rfl ((hL52.ext hE295).at 0 rfl rfl) rfl (er rfl))) ?_
           refine zak (fun _ hE296 => zbd rfl rfl (zdo hc14) (zba (v := v13) zbj rfl (((f16.mono (K15 None)).mono (K51 None)).mono ((ke hL52 hE296) None)) (er rfl))) ?_
           refine zak (fun _ _ => zbd rfl rfl (zdo hc14) (zcw (x := (r13.Children.length : Int)) (y := 0) (((r13.Children.length : Int) : Int) ≠ 0) rfl rfl zbf (er rfl))) ?_
           refine zak (fun _ _ => zas (zbo rfl (zdo hc14) rfl (er rfl))) ?_
           refine zak (fun _ _ => zas (zai rfl (er rfl))) ?_
           refine zak (fun _ _ => zbd rfl rfl (zdo hc15) (zap zav rfl ti32 rfl rfl rfl (er rfl))) ?_
           refine zak (fun _ hE301 => zbd rfl rfl (zdo hc15) (zax zbb rfl rfl ((hL52.ext hE301).at 0 rfl rfl) rfl (er rfl))) ?_
           refine zak (fun _ hE302 => zbd rfl rfl (zdo hc15) (zba (v := v11) zbb rfl (((f18.mono (K15 None)).mono (K51 None)).mono ((ke hL52 hE302) None)) (er rfl))) ?_
           refine zak (fun _ _ => zbd rfl rfl (zdo hc15) (zcw (x := (r13.Form.length : Int)) (y := 0) (((r13.Form.length : Int) : Int) ≠ 0) rfl rfl zbf (er rfl))) ?_
           refine zak (fun _ _ => zas (zbo rfl (zdo hc15) rfl (er rfl))) ?_
           refine zak (fun _ _ => zas (zai rfl (er rfl))) ?_
           refine zak (fun _ _ => zbd rfl rfl (zdo hc16) (zap zav rfl ti26 rfl rfl rfl (er rfl))) ?_
           refine zak (fun _ _ => zbd rfl rfl (zdo hc16) (zap zao rfl ti24 rfl rfl rfl (er rfl))) ?_
           refine zak (fun _ hE308 => zbd rfl rfl (zdo hc16) (zax zam rfl rfl ((hL52.ext hE308).at 0 rfl rfl) rfl (er rfl))) ?_
           refine zak (fun _ hE309 => zbd rfl rfl (zdo hc16) (zba (v := v12) zam rfl (((f17.mono (K15 None)).mono (K51 None)).mono ((ke hL52 hE309) None)) (er rfl))) ?_
           refine zak (fun _ _ => zbd rfl rfl (zdo hc16) (zcw (x := (r13.Bound.Digits.length : Int)) (y := 0) (((r13.Bound.Digits.length : Int) : Int) ≠ 0) rfl rfl zbf (er rfl))) ?_
           refine zak (fun _ _ => zas (zbo rfl (zdo hc16) rfl (er rfl))) ?_
           refine zak (fun _ _ => zas (zai rfl (er rfl))) ?_
           refine zak (fun _ _ => zbd rfl rfl (zdo hc17) (zap zav rfl ti39 rfl rfl rfl (er rfl))) ?_
           refine zak (fun _ hE314 => zbd rfl rfl (zdo hc17) (zax zbi rfl rfl ((hL52.ext hE314).at 0 rfl rfl) rfl (er rfl))) ?_
           refine zak (fun _ _ => zbd rfl rfl (zdo hc17) (zbw (r := rStep) (v := v10) (n := n10) (m := (o10 + n10 * rStep.sz)) zbi ti28 rfl q19 rfl q17 q18 rfl (er rfl))) ?_
           refine zak (fun _ _ => zbd rfl rfl (zdo hc17) (zap zci rfl ti26 rfl rfl rfl (er rfl))) ?_
           refine zak (fun _ hE317 => zbd rfl rfl (zdo hc17) (zdf (vs := [(zaa x12.Divisor.Negative), v15]) zao rfl ti26 rfl rfl zdy (zcr ((ke hL52 hE317) None) (zcr (K51 None) f22)) (er rfl))) ?_
           refine zcz ?_ ?_
           ·
            rintro w321 Z296 hE318 hZ296 ⟨-⟩
            refine zbd rfl rfl (zdo hc17) (zay en24 rfl rfl (lbig_w N 1 _ Any r16 q22) ?_)
            rintro _ w322 hE319 ⟨v16, rfl, k16, -⟩
            exact zct hE319 hZ296 zcn (fun _ h => h) ⟨v16, rfl, (k16.mono zdj), trivial⟩
           intro z10
           refine zdl ?_ ?_
           ·
            rintro w323 Z297 hE320 hZ297 ⟨⟨⟨v16, rfl, k16, -⟩, hB15⟩, -⟩
            have K59 := ke hL52 hE320
            refine zbd rfl rfl (zdo hc17) (zay en23 rfl rfl (rSame_w N x12.Divisor r16 v15 v16 _ Any (((k15.mono (K51 None)).mono (K59 None)).mono vw_any) (k16.mono vw_any) r17 q23) ?_)
            rintro _ w324 hE321 ⟨rfl, -⟩
            exact ⟨hE321, rfl⟩
           refine zak (fun _ _ => zbd rfl rfl (zdo hc17) (OpY.not rfl (er rfl))) ?_
           refine zak (fun _ _ => zas (zbo rfl (zdo hc17) rfl (er rfl))) ?_
           refine zak (fun _ _ => zas (zai rfl (er rfl))) ?_
           refine zak (fun _ _ => zbg rfl rfl hc18 (er rfl)) ?_
           refine zak (fun _ _ => zbg rfl rfl hc18 (er rfl)) ?_
           refine zak (fun _ _ => zbg rfl rfl hc18 (er rfl)) ?_
           refine zak (fun _ _ => zbg rfl rfl hc18 (er rfl)) ?_
           refine zak (fun _ _ => zbg rfl rfl hc18 (er rfl)) ?_
           refine zak (fun _ _ => zbg rfl rfl hc18 (er rfl)) ?_
           refine zak (fun _ _ => zbg rfl rfl hc18 (er rfl)) ?_
           refine zak (fun _ _ => zbg rfl rfl hc18 (er rfl)) ?_
           refine zck ?_
           rintro w336 Z309 hE333 hZ309 ⟨⟨⟨v16, rfl, k16, -⟩, hB15⟩, -⟩ ap15
           have hB16 : ∀ b, some b ∈ ([] : List (Option Nat)) → w282.heap.size ≤ b ∧ ¬ Z309 b := by
            intro b hb; cases hb
           replace k16 := k16.mono (zdi hL52 hZ309 hB16)
           have hL60 := hL52.ext hE333
           have K60 := ke hL52 hE333
           refine zbx rfl rfl hc18 ?_
           refine zaf (zbu (t := (!r17)) (v := (zaa true)) rfl hc18 rfl ?_)
           refine zar ?_
           have hp15 := hL60.pick [0] rfl rfl rfl
           have hL61 : vL w w336 [some b10] [zac [v10, v11, (zaa r13.Bound.Negative), v12, v13]] := hp15.1
           have K61 := ks w hp15.2
           obtain rfl := zag h
           refine zau ?_
           exact ⟨true, _, rfl, (zdt ⟨rfl, rfl, rfl, trivial⟩), hL61, (zat (zat K51 K60) K61), trivial⟩
         ·
          replace h := ite_f hc18 h
          obtain ⟨x13, q24, h⟩ := zdp h
          obtain ⟨n11, q25, q26⟩ := zdu q24
          obtain ⟨b12, o11, c11, vs11, q27, q28, f23, q29⟩ := zdb f20 q26
          obtain ⟨v17, v18, rfl, k17, k18, -⟩ := rStep_open q29
          have f24 := (f23.part (us := [v17]) 0 rfl)
          refine zcg 49 [] [] (fun W1 => [.det (zaq #[p_v, p_v1, (zaa p.Bound.Negative), p_v2, p_v3]), .det (zab .i64 r14), .det (zaq #[p_v, p_v1, (zaa p.Bound.Negative), p_v2, p_v3]), .det (zab .i64 r15), .det (zaa (decide ((r14 : Int) ≠ r15))), .det (zaa (decide ((r14 : Int) ≠ r15))), .det (zan (some ⟨b10, 0, none⟩)), .det v10, .det (zab .i64 (r13.Steps.length : Int)), .det (zaa (decide (((r13.Steps.length : Int) : Int) ≠ 1))), .det (zaa (decide (((r13.Steps.length : Int) : Int) ≠ 1))), .det (zaa (decide (((r13.Steps.length : Int) : Int) ≠ 1))), .det (zan (some ⟨b10, 4, none⟩)), .det v13, .det (zab .i64 (r13.Children.length : Int)), .det (zaa (decide (((r13.Children.length : Int) : Int) ≠ 0))), .det (zaa (decide (((r13.Children.length : Int) : Int) ≠ 0))), .det (zaa (decide (((r13.Children.length : Int) : Int) ≠ 0))), .det (zan (some ⟨b10, 1, none⟩)), .det v11, .det (zab .i64 (r13.Form.length : Int)), .det (zaa (decide (((r13.Form.length : Int) : Int) ≠ 0))), .det (zaa (decide (((r13.Form.length : Int) : Int) ≠ 0))), .det (zaa (decide (((r13.Form.length : Int) : Int) ≠ 0))), .det (zan (some ⟨b10, 2, none⟩)), .det (zan (some ⟨b10, 3, none⟩)), .det v12, .det (zab .i64 (r13.Bound.Digits.length : Int)), .det (zaa (decide (((r13.Bound.Digits.length : Int) : Int) ≠ 0))), .det (zaa (decide (((r13.Bound.Digits.length : Int) : Int) ≠ 0))), .det (zaa (decide (((r13.Bound.Digits.length : Int) : Int) ≠ 0))), .det (zan (some ⟨b10, 0, none⟩)), .det v10, .det (zan (some ⟨b11, (o10 + n10 * rStep.sz), none⟩)), .det (zan (some ⟨b11, (o10 + n10 * rStep.sz) + 1, none⟩)), .det (zaq #[(zaa x12.Divisor.Negative), v15]), .rel (fun v Z w' => ∃ v16, (zaq #[(zaa r16.Negative), v16]) = v ∧ Rs (rInt .u32) (vZ W1 w None [some b10, some b1] Z w') v16 r16.Digits ∧ True) (fun _ => []), .det (zaa r17), .det (zaa (!r17)), .det (zaa (!r17)), .det (zaa (!r17)), .det (zan (some ⟨b10, 0, none⟩)), .det v10, .det (zan (some ⟨b12, (o11 + n11 * rStep.sz), none⟩)), .det (zan (some ⟨b12, (o11 + n11 * rStep.sz) + 0, none⟩)), .det v17, .det (zab .i64 (x13.Uses.length : Int)), .det uses_v, .det (zab .i64 (uses.length : Int))]) mixed rfl rfl rfl (fun _ => rfl) (fun _ => rfl) ?_ ?_
          ·
           intro W1 _
           exact ⟨fun v Z Z' w w' hΦ hz _ _ hs => by obtain ⟨v16, rfl, k16, -⟩ := hΦ; exact ⟨v16, rfl, (k16.mono (zcx hz hs)), trivial⟩, trivial⟩
          ·
           intro w337 hE334
           have hL62 := hL16.ext hE334
           have K62 := ke hL16 hE334
           refine zak (fun _ hE335 => zas (zbh (vs := [p_v, p_v1, (zaa p.Bound.Negative), p_v2, p_v3]) zav rfl ti42 rfl ((hL62.ext hE335).at 1 rfl rfl) rfl rfl (er rfl))) ?_
           refine zdl ?_ ?_
           ·
            rintro w339 Z311 hE336 hZ311 ⟨-⟩
            have K63 := ke hL62 hE336
            refine zas (zay en21 rfl rfl (cSize_w N p p_v p_v1 p_v2 p_v3 _ Any ((((((((p_h.mono (K4 S)).mono (K12 S)).mono (K13 S)).mono (K14 S)).mono (K15 S)).mono (K62 S)).mono (K63 S)).mono vw_any) ((((((((p_h1.mono (K4 S)).mono (K12 S)).mono (K13 S)).mono (K14 S)).mono (K15 S)).mono (K62 S)).mono (K63 S)).mono vw_any) ((((((((p_h2.mono (K4 S)).mono (K12 S)).mono (K13 S)).mono (K14 S)).mono (K15 S)).mono (K62 S)).mono (K63 S)).mono vw_any) ((((((((p_h3.mono (K4 S)).mono (K12 S)).mono (K13 S)).mono (K14 S)).mono (K15 S)).mono (K62 S)).mono (K63 S)).mono vw_any) r14 q14) ?_)
            rintro _ w340 hE337 ⟨rfl, -⟩
            exact ⟨hE337, rfl⟩
           refine zak (fun _ hE338 => zas (zbh (vs := [p_v, p_v1, (zaa p.Bound.Negative), p_v2, p_v3]) zav rfl ti42 rfl ((hL62.ext hE338).at 1 rfl rfl) rfl rfl (er rfl))) ?_
           refine zdl ?_ ?_
           ·
            rintro w342 Z313 hE339 hZ313 ⟨-⟩
            have K64 := ke hL62 hE339
            refine zas (zay en22 rfl rfl (rSize_w N p p_v p_v1 p_v2 p_v3 _ Any ((((((((p_h.mono (K4 S)).mono (K12 S)).mono (K13 S)).mono (K14 S)).mono (K15 S)).mono (K62 S)).mono (K64 S)).mono vw_any) ((((((((p_h1.mono (K4 S)).mono (K12 S)).mono (K13 S)).mono (K14 S)).mono (K15 S)).mono (K62 S)).mono (K64 S)).mono vw_any) ((((((((p_h2.mono (K4 S)).mono (K12 S)).mono (K13 S)).mono (K14 S)).mono (K15 S)).mono (K62 S)).mono (K64 S)).mono vw_any) ((((((((p_h3.mono (K4 S)).mono (K12 S)).mono (K13 S)).mono (K14 S)).mono (K15 S)).mono (K62 S)).mono (K64 S)).mono vw_any) r15 q15) ?_)
            rintro _ w343 hE340 ⟨rfl, -⟩
            exact ⟨hE340, rfl⟩
           refine zak (fun _ _ => zas (zcw (x := r14) (y := r15) ((r14 : Int) ≠ r15) rfl rfl zbf (er rfl))) ?_
           refine zak (fun _ _ => zas (zai rfl (er rfl))) ?_
           refine zak (fun _ _ => zbd rfl rfl (zdo hc13) (zap zav rfl ti39 rfl rfl rfl (er rfl))) ?_
           refine zak (fun _ hE344 => zbd rfl rfl (zdo hc13) (zax zbi rfl rfl ((hL62.ext hE344).at 0 rfl rfl) rfl (er rfl))) ?_
           refine zak (fun _ hE345 => zbd rfl rfl (zdo hc13) (zba (v := v10) zbi rfl (((f19.mono (K15 None)).mono (K62 None)).mono ((ke hL62 hE345) None)) (er rfl))) ?_
           refine zak (fun _ _ => zbd rfl rfl (zdo hc13) (zcw (x := (r13.Steps.length : Int)) (y := 1) (((r13.Steps.length : Int) : Int) ≠ 1) rfl rfl zbf (er rfl))) ?_
           refine zak (fun _ _ => zas (zbo rfl (zdo hc13) rfl (er rfl))) ?_
           refine zak (fun _ _ => zas (zai rfl (er rfl))) ?_
           refine zak (fun _ _ => zbd rfl rfl (zdo hc14) (zap zav rfl ti40 rfl rfl rfl (er rfl))) ?_
           refine zak (fun _ hE350 => zbd rfl rfl (zdo hc14) (zax zbj rfl rfl ((hL62.ext hE350).at 0 rfl rfl) rfl (er rfl))) ?_
           refine zak (fun _ hE351 => zbd rfl rfl (zdo hc14) (zba (v := v13) zbj rfl (((f16.mono (K15 None)).mono (K62 None)).mono ((ke hL62 hE351) None)) (er rfl))) ?_
           refine zak (fun _ _ => zbd rfl rfl (zdo hc14) (zcw (x := (r13.Children.length : Int)) (y := 0) (((r13.Children.length : Int) : Int) ≠ 0) rfl rfl zbf (er rfl))) ?_
           refine zak (fun _ _ => zas (zbo rfl (zdo hc14) rfl (er rfl))) ?_
           refine zak (fun _ _ => zas (zai rfl (er rfl))) ?_
           refine zak (fun _ _ => zbd rfl rfl (zdo hc15) (zap zav rfl ti32 rfl rfl rfl (er rfl))) ?_
           refine zak (fun _ hE356 => zbd rfl rfl (zdo hc15) (zax zbb rfl rfl ((hL62.ext hE356).at 0 rfl rfl) rfl (er rfl))) ?_
           refine zak (fun _ hE357 => zbd rfl rfl (zdo hc15) (zba (v := v11) zbb rfl (((f18.mono (K15 None)).mono (K62 None)).mono ((ke hL62 hE357) None)) (er rfl))) ?_
           refine zak (fun _ _ => zbd rfl rfl (zdo hc15) (zcw (x := (r13.Form.length : Int)) (y := 0) (((r13.Form.length : Int) : Int) ≠ 0) rfl rfl zbf (er rfl))) ?_
           refine zak (fun _ _ => zas (zbo rfl (zdo hc15) rfl (er rfl))) ?_
           refine zak (fun _ _ => zas (zai rfl (er rfl))) ?_
           refine zak (fun _ _ => zbd rfl rfl (zdo hc16) (zap zav rfl ti26 rfl rfl rfl (er rfl))) ?_
           refine zak (fun _ _ => zbd rfl rfl (zdo hc16) (zap zao rfl ti24 rfl rfl rfl (er rfl))) ?_
           refine zak (fun _ hE363 => zbd rfl rfl (zdo hc16) (zax zam rfl rfl ((hL62.ext hE363).at 0 rfl rfl) rfl (er rfl))) ?_
           refine zak (fun _ hE364 => zbd rfl rfl (zdo hc16) (zba (v := v12) zam rfl (((f17.mono (K15 None)).mono (K62 None)).mono ((ke hL62 hE364) None)) (er rfl))) ?_
           refine zak (fun _ _ => zbd rfl rfl (zdo hc16) (zcw (x := (r13.Bound.Digits.length : Int)) (y := 0) (((r13.Bound.Digits.length : Int) : Int) ≠ 0) rfl rfl zbf (er rfl))) ?_
           refine zak (fun _ _ => zas (zbo rfl (zdo hc16) rfl (er rfl))) ?_
           refine zak (fun _ _ => zas (zai rfl (er rfl))) ?_
           refine zak (fun _ _ => zbd rfl rfl (zdo hc17) (zap zav rfl ti39 rfl rfl rfl (er rfl))) ?_
           refine zak (fun _ hE369 => zbd rfl rfl (zdo hc17) (zax zbi rfl rfl ((hL62.ext hE369).at 0 rfl rfl) rfl (er rfl))) ?_
           refine zak (fun _ _ => zbd rfl rfl (zdo hc17) (zbw (r := rStep) (v := v10) (n := n10) (m := (o10 + n10 * rStep.sz)) zbi ti28 rfl q19 rfl q17 q18 rfl (er rfl))) ?_
           refine zak (fun _ _ => zbd rfl rfl (zdo hc17) (zap zci rfl ti26 rfl rfl rfl (er rfl))) ?_
           refine zak (fun _ hE372 => zbd rfl rfl (zdo hc17) (zdf (vs := [(zaa x12.Divisor.Negative), v15]) zao rfl ti26 rfl rfl zdy (zcr ((ke hL62 hE372) None) (zcr (K62 None) f22)) (er rfl))) ?_
           refine zcz ?_ ?_
           ·
            rintro w376 Z346 hE373 hZ346 ⟨-⟩
            refine zbd rfl rfl (zdo hc17) (zay en24 rfl rfl (lbig_w N 1 _ Any r16 q22) ?_)
            rintro _ w377 hE374 ⟨v16, rfl, k16, -⟩
            exact zct hE374 hZ346 zcn (fun _ h => h) ⟨v16, rfl, (k16.mono zdj), trivial⟩
           intro z10
           refine zdl ?_ ?_
           ·
            rintro w378 Z347 hE375 hZ347 ⟨⟨⟨v16, rfl, k16, -⟩, hB15⟩, -⟩
            have K70 := ke hL62 hE375
            refine zbd rfl rfl (zdo hc17) (zay en23 rfl rfl (rSame_w N x12.Divisor r16 v15 v16 _ Any (((k15.mono (K62 None)).mono (K70 None)).mono vw_any) (k16.mono vw_any) r17 q23) ?_)
            rintro _ w379 hE376 ⟨rfl, -⟩
            exact ⟨hE376, rfl⟩
           refine zak (fun _ _ => zbd rfl rfl (zdo hc17) (OpY.not rfl (er rfl))) ?_
           refine zak (fun _ _ => zas (zbo rfl (zdo hc17) rfl (er rfl))) ?_
           refine zak (fun _ _ => zas (zai rfl (er rfl))) ?_
           refine zak (fun _ _ => zbd rfl rfl (zdq hc18) (zap zav rfl ti39 rfl rfl rfl (er rfl))) ?_
           refine zak (fun _ hE381 => zbd rfl rfl (zdq hc18) (zax zbi rfl rfl ((hL62.ext hE381).at 0 rfl rfl) rfl (er rfl))) ?_
           refine zak (fun _ _ => zbd rfl rfl (zdq hc18) (zbw (r := rStep) (v := v10) (n := n11) (m := (o11 + n11 * rStep.sz)) zbi ti28 rfl q27 rfl q25 q26 rfl (er rfl))) ?_
           refine zak (fun _ _ => zbd rfl rfl (zdq hc18) (zap zci rfl ti23 rfl rfl rfl (er rfl))) ?_
           refine zak (fun _ hE384 => zbd rfl rfl (zdq hc18) (zcp zbp rfl rfl zdy (zcr ((ke hL62 hE384) None) (zcr (K62 None) f24)) (er rfl))) ?_
           refine zak (fun _ hE385 => zbd rfl rfl (zdq hc18) (zba (v := v17) zbp rfl ((k17.mono (K62 None)).mono ((ke hL62 hE385) None)) (er rfl))) ?_
           refine zak (fun _ _ => zbd rfl rfl (zdq hc18) (zai rfl (er rfl))) ?_
           refine zak (fun _ hE387 => zbd rfl rfl (zdq hc18) (zba (v := uses_v) zbp rfl (((((f15.mono (K13 S)).mono (K14 S)).mono (K15 S)).mono (K62 S)).mono ((ke hL62 hE387) S)) (er rfl))) ?_
           refine zck ?_
           rintro w391 Z359 hE388 hZ359 ⟨⟨⟨v16, rfl, k16, -⟩, hB15⟩, -⟩ ap16
           have hB17 : ∀ b, some b ∈ ([] : List (Option Nat)) → w337.heap.size ≤ b ∧ ¬ Z359 b := by
            intro b hb; cases hb
           replace k16 := k16.mono (zdi hL62 hZ359 hB17)
           have hL71 := hL62.ext hE388
           have K74 := ke hL62 hE388
           refine zcc rfl rfl (zdq hc18) (zcw (x := (x13.Uses.length : Int)) (y := (uses.length : Int)) (((x13.Uses.length : Int) : Int) ≠ (uses.length : Int)) rfl rfl zbf ?_)
           refine zaf (zbo (t := (!r17)) (v := (zaa (decide (((x13.Uses.length : Int) : Int) ≠ (uses.length : Int))))) rfl (zdq hc18) rfl ?_)
           refine zar ?_
           have hp16 := hL71.pick [0] rfl rfl rfl
           have hL72 : vL w w391 [some b10] [zac [v10, v11, (zaa r13.Bound.Negative), v12, v13]] := hp16.1
           have K75 := ks w hp16.2
           obtain rfl := zag h
           refine zau ?_
           exact ⟨(decide (((x13.Uses.length : Int) : Int) ≠ (uses.length : Int))), _, rfl, (zdt ⟨rfl, rfl, rfl, trivial⟩), hL72, (zat (zat K62 K74) K75), trivial⟩
   ·
    rintro _ w392 ⟨x11, u, rfl, rfl, hL73, K76, -⟩
    replace h := g11
    try dsimp only at h
    refine zcu x11 rfl (fun hc19 => ?_) (fun hc19 => ?_)
    ·
     replace h := ite_t hc19 h
     refine zaj (zah rfl (zaf (zal (v := (zaa false)) rfl ?_)))
     refine zar (zbn ?_)
     obtain rfl := zag h
     refine ⟨[(zaa false)], ⟨rfl, trivial⟩, ⟨_, rfl, hL73.done, ?_⟩⟩
     exact ⟨rfl, trivial⟩
    ·
     replace h := ite_f hc19 h
     refine zbl (zaj (zaj (zah rfl (zaf (zap (q := 0) zav rfl ti39 rfl rfl rfl ?_)))))
     refine zaf (zax (v := v10) zbi rfl rfl (hL73.at 0 rfl rfl) rfl ?_)
     obtain ⟨x14, q30, h⟩ := zdp h
     obtain ⟨n12, q31, q32⟩ := zdu q30
     have f25 := ((f19.mono (K15 None)).mono (K76 None))
     obtain ⟨b13, o12, c12, vs12, q33, q34, f26, q35⟩ := zdb f25 q32
     obtain ⟨v19, v20, rfl, k19, k20, -⟩ := rStep_open q35
     refine zaf (zbw (r := rStep) (v := v10) (n := n12) (m := (o12 + n12 * rStep.sz)) zbi ti28 rfl q33 rfl q31 q32 rfl ?_)
     have f27 := (f26.part (us := [v19]) 0 rfl)
     refine zaf (zap (q := (o12 + n12 * rStep.sz) + 0) zci rfl ti23 rfl rfl rfl ?_)
     refine zaf (zcp (v := v19) zbp rfl rfl zdy f27 ?_)
     refine zaf (zba (v := v19) zbp rfl k19 ?_)
     refine zaf (zai (v := (zab .i64 0)) rfl ?_)
     refine zar ?_
     obtain ⟨s12, hl10, g12⟩ := zdp h
     refine zca (fun e w' => ∃  (u : Env), (Sum.inl ()) = s12 ∧ e = upds [] u ∧ vL w w' [] [] ∧ Keep w.heap.size [some b10] w392 [] w' ∧ True) ?_ ?_
     ·
      refine zbm ?_
      have hp17 := hL73.pick [] rfl rfl rfl
      have hL74 : vL w w392 [] [] := hp17.1
      have K77 := ks w hp17.2
      refine zcl hl10 (fun (ss : Int) (e : Env) (w' : World) => match ss with | x15 => ∃ (u : Env), e = upds [(1, uses_v), (78, v19), (79, (zab .i64 (x14.Uses.length : Int))), (80, (zab .i64 x15))] u ∧ vL w w' [] [] ∧ Keep w.heap.size [some b10] w392 [] w' ∧ True) ⟨_, (zdt ⟨rfl, rfl, rfl, rfl, trivial⟩), hL74, K77, trivial⟩ ?_
      rintro x15 oo _ w393 ⟨u, rfl, hL75, K78, -⟩ h hd10
      rw [lawSize_b1] at h
      refine zaj (zah rfl (zaf (zcv (x := x15) (y := (x14.Uses.length : Int)) ((x15 : Int) < (x14.Uses.length : Int)) rfl rfl zbf ?_)))
      refine zar (zaj ?_)
      refine zbk ((x15 : Int) < (x14.Uses.length : Int)) rfl (fun hc20 => ?_) (fun hc20 => ?_)
      ·
       replace h := ite_t hc20 h
       refine zbl (zaj (zbm (zaj (zah rfl (zaf (zai (v := (zab .i64 x15)) rfl ?_))))))
       obtain ⟨x16, q36, h⟩ := zdp h
       obtain ⟨n13, q37, q38⟩ := zdu q36
       have f28 := (k19.mono (K78 None))
       obtain ⟨b14, o13, c13, vs13, q39, q40, f29, q41⟩ := zdb f28 q38
       obtain ⟨v21, rfl, k21, -⟩ := rUse_open q41
       refine zaf (zbw (r := rUse) (v := v19) (n := n13) (m := (o13 + n13 * rUse.sz)) zbp ti50 rfl q39 rfl q37 q38 rfl ?_)
       refine zaf (zdf (vs := [(zab .i64 x16.Index), (zaa x16.N.Negative), v21]) zcf rfl ti50 rfl rfl zdy f29 ?_)
       refine zaf (zch (cs := [(zab .i64 0), (zaa false), (zad none 0 0)]) ti50 rfl hL75 ?_)
       intro b15 w394 hL76 hS12
       have K79 := ks w hS12
       refine zaf (zal (v := (zab .i64 x15)) rfl ?_)
       have f30 := (k21.mono (K79 None))
       refine zcj (zbs (vs := [(zab .i64 x16.Index), (zaa x16.N.Negative), v21]) ti50 rfl rfl rfl rfl (zds rfl (zds rfl (zds f30.one zdw))) hL76 0 rfl rfl (zae rfl) ?_)
       intro w395 (hL77 : vL w w395 [some b15] [zac [(zab .i64 x16.Index), (zaa x16.N.Negative), v21]]) hS13
       have K80 := ks w hS13
       refine zar (zaj ?_)
       obtain ⟨s13, h, g13⟩ := zdp h
       refine zca (fun e w' => ∃ (x17 : Bool) (u : Env), x17 = s13 ∧ e = upds [(1, uses_v), (78, v19), (79, (zab .i64 (x14.Uses.length : Int))), (80, (zab .i64 x15)), (103, (zaa x17))] u ∧ vL w w' [] [] ∧ Keep w.heap.size [some b15] w395 [] w' ∧ True) ?_ ?_
       ·
        obtain ⟨x18, q42, h⟩ := zdp h
        obtain ⟨n14, q43, q44⟩ := zdu q42
        have f31 := (((((((f15.mono (K13 S)).mono (K14 S)).mono (K15 S)).mono (K76 S)).mono (K78 S)).mono (K79 S)).mono (K80 S))
        obtain ⟨b16, o14, c14, vs14, q45, q46, f32, q47⟩ := zdb f31 q44
        obtain ⟨v22, rfl, k22, -⟩ := rUse_open q47
        have f33 := (f32.part (us := [(zab .i64 x18.Index)]) 0 rfl)
        by_cases hc21 : (x16.Index : Int) ≠ x18.Index
        ·
         replace h := ite_t hc21 h
         refine zcg 16 [] [] (fun W1 => [.det (zan (some ⟨b15, 0, none⟩)), .det (zab .i64 x16.Index), .det uses_v, .det (zab .i64 x15), .det (zan (some ⟨b16, (o14 + n14 * rUse.sz), none⟩)), .det (zan (some ⟨b16, (o14 + n14 * rUse.sz) + 0, none⟩)), .det (zab .i64 x18.Index), .det (zaa (decide ((x16.Index : Int) ≠ x18.Index))), .det (zaa (decide ((x16.Index : Int) ≠ x18.Index))), .det undef, .det undef, .det undef, .det undef, .det undef, .det undef, .det undef]) mixed rfl rfl rfl (fun _ => rfl) (fun _ => rfl) ?_ ?_
         ·
          intro W1 _
          exact trivial
         ·
          intro w396 hE389
          have hL78 := hL77.ext hE389
          have K81 := ke hL77 hE389
          refine zak (fun _ _ => zas (zap zcf rfl ti3 rfl rfl rfl (er rfl))) ?_
          refine zak (fun _ hE391 => zas (zax zby rfl rfl ((hL78.ext hE391).at 0 rfl rfl) rfl (er rfl))) ?_
          refine zak (fun _ _ => zas (zai rfl (er rfl))) ?_
          refine zak (fun _ _ => zas (zai rfl (er rfl))) ?_
          refine zak (fun _ _ => zas (zbw (r := rUse) (v := uses_v) (n := n14) (m := (o14 + n14 * rUse.sz)) zbp ti50 rfl q45 rfl q43 q44 rfl (er rfl))) ?_
          refine zak (fun _ _ => zas (zap zcf rfl ti3 rfl rfl rfl (er rfl))) ?_
          refine zak (fun _ hE396 => zas (zcp zby rfl rfl zdy (zcr ((ke hL78 hE396) S) (zcr (K81 S) f33)) (er rfl))) ?_
          refine zak (fun _ _ => zas (zcw (x := x16.Index) (y := x18.Index) ((x16.Index : Int) ≠ x18.Index) rfl rfl zbf (er rfl))) ?_
          refine zak (fun _ _ => zas (zai rfl (er rfl))) ?_
          refine zak (fun _ _ => zbg rfl rfl (zdr hc21) (er rfl)) ?_
          refine zak (fun _ _ => zbg rfl rfl (zdr hc21) (er rfl)) ?_
          refine zak (fun _ _ => zbg rfl rfl (zdr hc21) (er rfl)) ?_
          refine zak (fun _ _ => zbg rfl rfl (zdr hc21) (er rfl)) ?_
          refine zak (fun _ _ => zbg rfl rfl (zdr hc21) (er rfl)) ?_
          refine zak (fun _ _ => zbg rfl rfl (zdr hc21) (er rfl)) ?_
          refine zak (fun _ _ => zbg rfl rfl (zdr hc21) (er rfl)) ?_
          refine zck ?_
          rintro w413 Z376 hE406 hZ376 ⟨-⟩ ap17
          have hB18 : ∀ b, some b ∈ ([] : List (Option Nat)) → w396.heap.size ≤ b ∧ ¬ Z376 b := by
           intro b hb; cases hb
          have hL80 := hL78.ext hE406
          have K83 := ke hL78 hE406
          refine zbx rfl rfl (zdr hc21) ?_
          refine zbx rfl rfl (zdr hc21) ?_
          refine zaf (zbu (t := (decide ((x16.Index : Int) ≠ x18.Index))) (v := (zaa true)) rfl (zdr hc21) rfl ?_)
          refine zar ?_
          have hp18 := hL80.pick [] rfl rfl rfl
          have hL81 : vL w w413 [] [] := hp18.1
          have K84 := ks w hp18.2
          obtain rfl := zag h
          refine zau ?_
          exact ⟨true, _, rfl, (zdt ⟨rfl, rfl, rfl, rfl, rfl, trivial⟩), hL81, (zat (zat K81 K83) K84), trivial⟩
        ·
         replace h := ite_f hc21 h
         obtain ⟨x19, q48, h⟩ := zdp h
         obtain ⟨n15, q49, q50⟩ := zdu q48
         obtain ⟨b17, o15, c15, vs15, q51, q52, f34, q53⟩ := zdb f31 q50
         obtain ⟨v23, rfl, k23, -⟩ := rUse_open q53
         have f35 := (f34.part (us := [(zaa x19.N.Negative), v23]) 1 rfl)
         refine zcg 16 [] [] (fun W1 => [.det (zan (some ⟨b15, 0, none⟩)), .det (zab .i64 x16.Index), .det uses_v, .det (zab .i64 x15), .det (zan (some ⟨b16, (o14 + n14 * rUse.sz), none⟩)), .det (zan (some ⟨b16, (o14 + n14 * rUse.sz) + 0, none⟩)), .det (zab .i64 x18.Index), .det (zaa (decide ((x16.Index : Int) ≠ x18.Index))), .det (zaa (decide ((x16.Index : Int) ≠ x18.Index))), .det (zan (some ⟨b15, 1, none⟩)), .det (zaq #[(zaa x16.N.Negative), v21]), .det uses_v, .det (zab .i64 x15), .det (zan (some ⟨b17, (o15 + n15 * rUse.sz), none⟩)), .det (zan (some ⟨b17, (o15 + n15 * rUse.sz) + 1, none⟩)), .det (zaq #[(zaa x19.N.Negative), v23])]) mixed rfl rfl rfl (fun _ => rfl) (fun _ => rfl) ?_ ?_
         ·
          intro W1 _
          exact trivial
         ·
          intro w414 hE407
          have hL82 := hL77.ext hE407
          have K85 := ke hL77 hE407
          refine zak (fun _ _ => zas (zap zcf rfl ti3 rfl rfl rfl (er rfl))) ?_
          refine zak (fun _ hE409 => zas (zax zby rfl rfl ((hL82.ext hE409).at 0 rfl rfl) rfl (er rfl))) ?_
          refine zak (fun _ _ => zas (zai rfl (er rfl))) ?_
          refine zak (fun _ _ => zas (zai rfl (er rfl))) ?_
          refine zak (fun _ _ => zas (zbw (r := rUse) (v := uses_v) (n := n14) (m := (o14 + n14 * rUse.sz)) zbp ti50 rfl q45 rfl q43 q44 rfl (er rfl))) ?_
          refine zak (fun _ _ => zas (zap zcf rfl ti3 rfl rfl rfl (er rfl))) ?_
          refine zak (fun _ hE414 => zas (zcp zby rfl rfl zdy (zcr ((ke hL82 hE414) S) (zcr (K85 S) f33)) (er rfl))) ?_
          refine zak (fun _ _ => zas (zcw (x := x16.Index) (y := x18.Index) ((x16.Index : Int) ≠ x18.Index) rfl rfl zbf (er rfl))) ?_
          refine zak (fun _ _ => zas (zai rfl (er rfl))) ?_
          refine zak (fun _ _ => zbd rfl rfl (zdo hc21) (zap zcf rfl ti26 rfl rfl rfl (er rfl))) ?_
          refine zak (fun _ hE418 => zbd rfl rfl (zdo hc21) (zbh (vs := [(zaa x16.N.Negative), v21]) zao rfl ti26 rfl ((hL82.ext hE418).at 0 rfl rfl) rfl rfl (er rfl))) ?_
          refine zak (fun _ _ => zbd rfl rfl (zdo hc21) (zai rfl (er rfl))) ?_
          refine zak (fun _ _ => zbd rfl rfl (zdo hc21) (zai rfl (er rfl))) ?_
          refine zak (fun _ _ => zbd rfl rfl (zdo hc21) (zbw (r := rUse) (v := uses_v) (n := n15) (m := (o15 + n15 * rUse.sz)) zbp ti50 rfl q51 rfl q49 q50 rfl (er rfl))) ?_
          refine zak (fun _ _ => zbd rfl rfl (zdo hc21) (zap zcf rfl ti26 rfl rfl rfl (er rfl))) ?_
          refine zak (fun _ hE423 => zbd rfl rfl (zdo hc21) (zdf (vs := [(zaa x19.N.Negative), v23]) zao rfl ti26 rfl rfl zdy (zcr ((ke hL82 hE423) S) (zcr (K85 S) f35)) (er rfl))) ?_
          refine zck ?_
          rintro w431 Z393 hE424 hZ393 ⟨-⟩ ap18
          have hB19 : ∀ b, some b ∈ ([] : List (Option Nat)) → w414.heap.size ≤ b ∧ ¬ Z393 b := by
           intro b hb; cases hb
          have hL85 := hL82.ext hE424
          have K88 := ke hL82 hE424
          obtain ⟨r18, q54, h⟩ := zdp h
          have f36 := (((f30.mono (K80 None)).mono (K85 None)).mono (K88 None))
          have f37 := ((k23.mono (K85 S)).mono (K88 S))
          refine zcc rfl rfl (zdo hc21) (zay en25 rfl rfl (rCompare_w N x16.N x19.N v21 v23 _ Any (f36.mono vw_any) (f37.mono vw_any) r18 q54) ?_)
          rintro _ w432 hE425 ⟨rfl, -⟩
          have hL86 := hL85.ext hE425
          have K89 := ke hL85 hE425
          refine zcc rfl rfl (zdo hc21) (zcw (x := r18) (y := 0) ((r18 : Int) ≠ 0) rfl rfl zbf ?_)
          refine zaf (zbo (t := (decide ((x16.Index : Int) ≠ x18.Index))) (v := (zaa (decide ((r18 : Int) ≠ 0)))) rfl (zdo hc21) rfl ?_)
          refine zar ?_
          have hp19 := hL86.pick [] rfl rfl rfl
          have hL87 : vL w w432 [] [] := hp19.1
          have K90 := ks w hp19.2
          obtain rfl := zag h
          refine zau ?_
          exact ⟨(decide ((r18 : Int) ≠ 0)), _, rfl, (zdt ⟨rfl, rfl, rfl, rfl, rfl, trivial⟩), hL87, (zat (zat (zat K85 K88) K89) K90), trivial⟩
       ·
        rintro _ w433 ⟨x17, u, rfl, rfl, hL88, K91, -⟩
        replace h := g13
        try dsimp only at h
        refine zcu x17 rfl (fun hc22 => ?_) (fun hc22 => ?_)
        ·
         replace h := ite_t hc22 h
         refine zaj (zah rfl (zaf (zal (v := (zaa false)) rfl ?_)))
         refine zar (zbn ?_)
         obtain rfl := zag h
         obtain rfl := hd10 _ rfl
         replace h := g12
         try dsimp only at h
         obtain rfl := zag h
         refine ⟨[(zaa false)], ⟨rfl, trivial⟩, ⟨_, rfl, hL88.done, ?_⟩⟩
         exact ⟨rfl, trivial⟩
        ·
         replace h := ite_f hc22 h
         refine zbl (zbz (zah rfl (zaf (zcd (x := x15) (y := 1) (z := (iw (x15 + 1))) rfl rfl rfl ?_))))
         refine zaf (zai (v := (zab .i64 (iw (x15 + 1)))) rfl ?_)
         refine zar ?_
         obtain rfl := zag h
         refine zau ⟨(iw (x15 + 1)), rfl, ?_⟩
         exact ⟨_, (zdt ⟨rfl, rfl, rfl, rfl, trivial⟩), hL88, (zat (zat (zat K78 K79) K80) K91), trivial⟩
      ·
       replace h := ite_f hc20 h
       refine zcs rfl ?_
       obtain rfl := zag h
       obtain rfl := hd10 _ rfl
       replace h := g12
       try dsimp only at h
       skip
       refine zau ?_
       exact ⟨_, rfl, (zdt trivial), hL75, K78, trivial⟩
     ·
      rintro _ w434 ⟨u, rfl, rfl, hL89, K92, -⟩
      replace h := g12
      try dsimp only at h
      refine zaj (zah rfl (zaf (zal (v := (zaa true)) rfl ?_)))
      refine zar (zbn ?_)
      obtain rfl := zag h
      refine ⟨[(zaa true)], ⟨rfl, trivial⟩, ⟨_, rfl, hL89.done, ?_⟩⟩
      exact ⟨rfl, trivial⟩
end Go.Proofs.Ytakkacdhlocckaa.WL

/- Walks, written by a program of mine (wip/tool); the kernel checks them. -/
import Derived.Test.YtakkacdhlocckaaProg
import Derived.Test.YtakkacdhlocckaaSqSound
import Derived.Test.YtakkacdhlocckaaPL
import Derived.Test.YtakkacdhlocckaaWASound
import Derived.Test.YtakkacdhlocckaaWRSound
import Derived.Test.YtakkacdhlocckaaWBSound
import Derived.Test.YtakkacdhlocckaaWCSound
import Derived.Test.YtakkacdhlocckaaWDSound
set_option maxRecDepth 100000
set_option maxHeartbeats 4000000
set_option linter.unusedVariables false
namespace Go.Proofs.Ytakkacdhlocckaa.WL
open Go Go.RowKit Go.X Go.D Go.Proofs.Ytakkacdhlocckaa.WA Go.Proofs.Ytakkacdhlocckaa.WR Go.Proofs.Ytakkacdhlocckaa.WB Go.Proofs.Ytakkacdhlocckaa.WC Go.Proofs.Ytakkacdhlocckaa.WD
theorem en24 : Enters Try.prog 24 := ⟨Try.f24, Try.func24, by kernel_rfl, by kernel_rfl⟩
theorem en41 : Enters Try.prog 41 := ⟨Try.f41, Try.func41, by kernel_rfl, by kernel_rfl⟩
theorem en42 : Enters Try.prog 42 := ⟨Try.f42, Try.func42, by kernel_rfl, by kernel_rfl⟩
theorem en20 : Enters Try.prog 20 := ⟨Try.f20, Try.func20, by kernel_rfl, by kernel_rfl⟩
theorem en11 : Enters Try.prog 11 := ⟨Try.f11, Try.func11, by kernel_rfl, by kernel_rfl⟩
theorem en12 : Enters Try.prog 12 := ⟨Try.f12, Try.func12, by kernel_rfl, by kernel_rfl⟩
theorem en17 : Enters Try.prog 17 := ⟨Try.f17, Try.func17, by kernel_rfl, by kernel_rfl⟩
theorem en26 : Enters Try.prog 26 := ⟨Try.f26, Try.func26, by kernel_rfl, by kernel_rfl⟩
theorem lbig_w (N : Nat) (n : Int)  (w : World) (S : Nat → Prop)  (r : Big) (h : lbig N n = some r) :
  Calls Try.prog 24 #[(zab .i64 n)] w (Ret w (fun v w' => ∃ (v0_0 : Value), (zap #[(zaa r.Negative), v0_0]) = v ∧ Rs (rInt .u32) (vH w None [] w') v0_0 r.Digits ∧ True)) := by
 unfold lbig at h
 have hL : vL w w [] [] := Go.X.Loc.begin0 w
 refine calls_of (l := [(zab .i64 n)]) (rl := [.cell 2 26]) (n := 5) Try.func24 rfl rfl rfl (zae rfl) ?_
 refine zaj (zah rfl (zaf (zca (cs := [(zaa false), (zad none 0 0)]) ti26 rfl hL ?_)))
 intro b1 w2 hL3 hS5
 refine zan (zaj (zah rfl (zaf (zai (v := (zab .i64 n)) rfl ?_))))
 obtain ⟨r6, q7, h⟩ := zdo h
 refine zaf (zaw en37 rfl rfl (rOf_w N n _ Any r6 q7) ?_)
 rintro _ w10 hE10 ⟨v8, rfl, k9, -⟩
 replace k9 := k9.mono (zba (S := None) hL3 [])
 have hL10 := hL3.ext hE10
 refine zcc (zbn (vs := [(zaa r6.Negative), v8]) ti26 rfl rfl rfl rfl (zds rfl (zds k9.one zdw)) hL10 0 rfl rfl (zae rfl) ?_)
 intro w11 (hL11 : vL w w11 [some b1] [zac [(zaa r6.Negative), v8]]) hS10
 have K10 := ks w hS10
 refine zan (zbj ?_)
 obtain rfl := zag h
 refine ⟨[(zap #[(zaa r6.Negative), v8])], ⟨⟨⟨b1, 0, none⟩, rfl, zdz zam rfl ti26 (hL11.at 0 rfl rfl) rfl⟩, trivial⟩, ⟨_, rfl, hL11.done, ?_⟩⟩
 have f10 := (k9.mono (K10 None))
 exact ⟨v8, rfl, (f10.mono zdi), trivial⟩
theorem linequality_w (N : Nat) (coef : Int) (bound : Int)  (w : World) (S : Nat → Prop)  (r : Ineq) (h : linequality N coef bound = some r) :
  Calls Try.prog 41 #[(zab .i64 coef), (zab .i64 bound)] w (Ret w (fun v w' => ∃ (v0_0 : Value) (v0_1 : Value), (zap #[v0_0, (zaa r.Bound.Negative), v0_1]) = v ∧ Rs rBig (vH w None [] w') v0_0 r.Coefs ∧ Rs (rInt .u32) (vH w None [] w') v0_1 r.Bound.Digits ∧ True)) := by
 unfold linequality at h
 have hL : vL w w [] [] := Go.X.Loc.begin0 w
 refine calls_of (l := [(zab .i64 coef), (zab .i64 bound)]) (rl := [.cell 4 34]) (n := 11) Try.func41 rfl rfl rfl (zae rfl) ?_
 refine zaj (zah rfl (zaf (zca (cs := [(zad none 0 0), (zaa false), (zad none 0 0)]) ti34 rfl hL ?_)))
 intro b1 w2 hL3 hS5
 refine zan (zaj (zah rfl (zaf (zai (v := (zab .i64 coef)) rfl ?_))))
 obtain ⟨r6, q7, h⟩ := zdo h
 refine zaf (zaw en24 rfl rfl (lbig_w N coef _ Any r6 q7) ?_)
 rintro _ w10 hE10 ⟨v8, rfl, k9, -⟩
 replace k9 := k9.mono (zba (S := None) hL3 [])
 have hL10 := hL3.ext hE10
 have hE11 : Els rBig (vH w None [some b1] w10) [(zaa r6.Negative), v8] [r6] := (zcg (a := [(zaa r6.Negative), v8]) (rBig_close ⟨v8, rfl, k9, trivial⟩) zcp)
 refine zaf (zch (r := rBig) (vs := [(zap #[(zaa r6.Negative), v8])]) (css := [[(zaa r6.Negative), v8]]) (xs := [r6]) zbb ti26 (zae rfl) rfl rfl ⟨rfl, rfl, trivial⟩ (zae rfl) hE11 rfl hL10 ?_)
 intro b10 w11 hc10 hL11 hS10
 have K10 := ks w hS10
 refine zaf (zai (v := (zab .i64 bound)) rfl ?_)
 obtain ⟨r10, q10, h⟩ := zdo h
 refine zaf (zaw en24 rfl rfl (lbig_w N bound _ Any r10 q10) ?_)
 rintro _ w12 hE12 ⟨v10, rfl, k10, -⟩
 replace k10 := k10.mono (zba (S := None) hL11 [])
 have hL12 := hL11.ext hE12
 have K11 := ke hL11 hE12
 refine zaf (zcy (zc := [(zad none 0 0), (zaa false), (zad none 0 0)]) (cs := [(osv (some b10) 0 1 1), (zaa r10.Negative), v10]) (is := [0, 1]) (vs := [(osv (some b10) 0 1 1), (zap #[(zaa r10.Negative), v10])]) (css := [[(osv (some b10) 0 1 1)], [(zaa r10.Negative), v10]]) pl34 ti34 rfl rfl rfl ⟨(zec (zea _ _ _ _)), ⟨rfl, trivial⟩⟩ rfl ?_)
 refine zcc (zbn (vs := [(osv (some b10) 0 1 1), (zaa r10.Negative), v10]) ti34 rfl rfl rfl rfl (zds (zea _ _ _ _) (zds rfl (zds k10.one zdw))) hL12 1 rfl rfl (zae rfl) ?_)
 intro w13 (hL13 : vL w w13 [some b10, some b1] [zac ([] ++ ([(zaa r6.Negative), v8] ++ [])), zac [(osv (some b10) 0 1 1), (zaa r10.Negative), v10]]) hS11
 have K12 := ks w hS11
 refine zan ?_
 have f10 := (((hE11.mono (K10 None)).mono (K11 None)).mono (K12 None))
 have f11 := hL13.freezeRow 0 rfl rfl f10 rfl rfl rfl hc10
 have hp10 := hL13.pick [1] rfl rfl rfl
 have hL14 : vL w w13 [some b1] [zac [(osv (some b10) 0 1 1), (zaa r10.Negative), v10]] := hp10.1
 have K13 := ks w hp10.2
 refine zbj ?_
 obtain rfl := zag h
 refine ⟨[(zap #[(osv (some b10) 0 1 1), (zaa r10.Negative), v10])], ⟨⟨⟨b1, 0, none⟩, rfl, zdz zbg rfl ti34 (hL14.at 0 rfl rfl) rfl⟩, trivial⟩, ⟨_, rfl, hL14.done, ?_⟩⟩
 have f12 := ((k10.mono (K12 None)).mono (K13 None))
 exact ⟨(osv (some b10) 0 1 1), v10, rfl, (f11.mono zdi), (f12.mono zdi), trivial⟩
theorem luse_w (N : Nat) (i : Int) (n : Int)  (w : World) (S : Nat → Prop)  (r : Use) (h : luse N i n = some r) :
  Calls Try.prog 42 #[(zab .i64 i), (zab .i64 n)] w (Ret w (fun v w' => ∃ (v0_0 : Value), (zap #[(zab .i64 r.Index), (zaa r.N.Negative), v0_0]) = v ∧ Rs (rInt .u32) (vH w None [] w') v0_0 r.N.Digits ∧ True)) := by
 unfold luse at h
 have hL : vL w w [] [] := Go.X.Loc.begin0 w
 refine calls_of (l := [(zab .i64 i), (zab .i64 n)]) (rl := [.cell 4 50]) (n := 9) Try.func42 rfl rfl rfl (zae rfl) ?_
 refine zaj (zah rfl (zaf (zca (cs := [(zab .i64 0), (zaa false), (zad none 0 0)]) ti50 rfl hL ?_)))
 intro b1 w2 hL3 hS5
 refine zan (zaj (zah rfl (zaf (zai (v := (zab .i64 i)) rfl ?_))))
 refine zaf (zai (v := (zab .i64 n)) rfl ?_)
 obtain ⟨r6, q7, h⟩ := zdo h
 refine zaf (zaw en24 rfl rfl (lbig_w N n _ Any r6 q7) ?_)
 rintro _ w10 hE10 ⟨v8, rfl, k9, -⟩
 replace k9 := k9.mono (zba (S := None) hL3 [])
 have hL10 := hL3.ext hE10
 refine zaf (zcy (zc := [(zab .i64 0), (zaa false), (zad none 0 0)]) (cs := [(zab .i64 i), (zaa r6.Negative), v8]) (is := [0, 1]) (vs := [(zab .i64 i), (zap #[(zaa r6.Negative), v8])]) (css := [[(zab .i64 i)], [(zaa r6.Negative), v8]]) pl50 ti50 rfl rfl rfl ⟨rfl, rfl, trivial⟩ rfl ?_)
 refine zcc (zbn (vs := [(zab .i64 i), (zaa r6.Negative), v8]) ti50 rfl rfl rfl rfl (zds rfl (zds rfl (zds k9.one zdw))) hL10 0 rfl rfl (zae rfl) ?_)
 intro w11 (hL11 : vL w w11 [some b1] [zac [(zab .i64 i), (zaa r6.Negative), v8]]) hS10
 have K10 := ks w hS10
 refine zan (zbj ?_)
 obtain rfl := zag h
 refine ⟨[(zap #[(zab .i64 i), (zaa r6.Negative), v8])], ⟨⟨⟨b1, 0, none⟩, rfl, zdz zcv rfl ti50 (hL11.at 0 rfl rfl) rfl⟩, trivial⟩, ⟨_, rfl, hL11.done, ?_⟩⟩
 have f10 := (k9.mono (K10 None))
 exact ⟨v8, rfl, (f10.mono zdi), trivial⟩
theorem awake_w (N : Nat)   (w : World) (S : Nat → Prop)  (r : Bool) (h : awake N  = some r) :
  Calls Try.prog 11 #[] w (Ret w (fun v w' => (zaa r) = v ∧ True)) := by
 unfold awake at h
 have hL : vL w w [] [] := Go.X.Loc.begin0 w
 refine calls_of (l := []) (rl := [.tmp 0]) (n := 84) Try.func11 rfl rfl rfl (zae rfl) ?_
 refine zaj (zah rfl (zaf (zak (v := (zaa false)) rfl ?_)))
 refine zan (zaj (zah rfl ?_))
 obtain ⟨r1, q2, h⟩ := zdo h
 refine zaf (zaw en41 rfl rfl (linequality_w N 1 2 _ Any r1 q2) ?_)
 rintro _ w8 hE10 ⟨v3, v5, rfl, k4, k6, -⟩
 replace k4 := k4.mono (zba (S := None) hL [])
 replace k6 := k6.mono (zba (S := None) hL [])
 have hL9 := hL.ext hE10
 obtain ⟨r10, q10, h⟩ := zdo h
 refine zaf (zaw en41 rfl rfl (linequality_w N (-1) (-5) _ Any r10 q10) ?_)
 rintro _ w10 hE11 ⟨v10, v11, rfl, k10, k11, -⟩
 replace k10 := k10.mono (zba (S := None) hL9 [])
 replace k11 := k11.mono (zba (S := None) hL9 [])
 have hL10 := hL9.ext hE11
 have K10 := ke hL9 hE11
 have f10 := (k4.mono (K10 None))
 have f11 := (k6.mono (K10 None))
 have hE12 : Els rIneq (vH w None [] w10) [v3, (zaa r1.Bound.Negative), v5, v10, (zaa r10.Bound.Negative), v11] [r1, r10] := (zcg (a := [v3, (zaa r1.Bound.Negative), v5]) (rIneq_close ⟨v3, v5, rfl, f10, f11, trivial⟩) (zcg (a := [v10, (zaa r10.Bound.Negative), v11]) (rIneq_close ⟨v10, v11, rfl, k10, k11, trivial⟩) zcp))
 refine zaf (zch (r := rIneq) (vs := [(zap #[v3, (zaa r1.Bound.Negative), v5]), (zap #[v10, (zaa r10.Bound.Negative), v11])]) (css := [[v3, (zaa r1.Bound.Negative), v5], [v10, (zaa r10.Bound.Negative), v11]]) (xs := [r1, r10]) zbl ti34 (zae rfl) rfl rfl ⟨rfl, rfl, ⟨rfl, rfl, trivial⟩⟩ (zae rfl) hE12 rfl hL10 ?_)
 intro b10 w11 hc10 hL11 hS10
 have K11 := ks w hS10
 refine zaf (zak (v := (osv (some b10) 0 2 2)) rfl ?_)
 refine zan (zaj (zah rfl ?_))
 obtain ⟨r11, q11, h⟩ := zdo h
 refine zaf (zaw en41 rfl rfl (linequality_w N 2 5 _ Any r11 q11) ?_)
 rintro _ w12 hE13 ⟨v12, v13, rfl, k12, k13, -⟩
 replace k12 := k12.mono (zba (S := None) hL11 [])
 replace k13 := k13.mono (zba (S := None) hL11 [])
 have hL12 := hL11.ext hE13
 have K12 := ke hL11 hE13
 obtain ⟨r12, q12, h⟩ := zdo h
 refine zaf (zaw en41 rfl rfl (linequality_w N (-2) (-5) _ Any r12 q12) ?_)
 rintro _ w13 hE14 ⟨v14, v15, rfl, k14, k15, -⟩
 replace k14 := k14.mono (zba (S := None) hL12 [])
 replace k15 := k15.mono (zba (S := None) hL12 [])
 have hL13 := hL12.ext hE14
 have K13 := ke hL12 hE14
 have f12 := (k12.mono (K13 None))
 have f13 := (k13.mono (K13 None))
 have hE15 : Els rIneq (vH w None [some b10] w13) [v12, (zaa r11.Bound.Negative), v13, v14, (zaa r12.Bound.Negative), v15] [r11, r12] := (zcg (a := [v12, (zaa r11.Bound.Negative), v13]) (rIneq_close ⟨v12, v13, rfl, f12, f13, trivial⟩) (zcg (a := [v14, (zaa r12.Bound.Negative), v15]) (rIneq_close ⟨v14, v15, rfl, k14, k15, trivial⟩) zcp))
 refine zaf (zch (r := rIneq) (vs := [(zap #[v12, (zaa r11.Bound.Negative), v13]), (zap #[v14, (zaa r12.Bound.Negative), v15])]) (css := [[v12, (zaa r11.Bound.Negative), v13], [v14, (zaa r12.Bound.Negative), v15]]) (xs := [r11, r12]) zbl ti34 (zae rfl) rfl rfl ⟨rfl, rfl, ⟨rfl, rfl, trivial⟩⟩ (zae rfl) hE15 rfl hL13 ?_)
 intro b11 w14 hc11 hL14 hS11
 have K14 := ks w hS11
 refine zaf (zak (v := (osv (some b11) 0 2 2)) rfl ?_)
 refine zan (zaj (zah rfl ?_))
 obtain ⟨r13, q13, h⟩ := zdo h
 refine zaf (zaw en41 rfl rfl (linequality_w N 3 4 _ Any r13 q13) ?_)
 rintro _ w15 hE16 ⟨v16, v17, rfl, k16, k17, -⟩
 replace k16 := k16.mono (zba (S := None) hL14 [])
 replace k17 := k17.mono (zba (S := None) hL14 [])
 have hL15 := hL14.ext hE16
 have K15 := ke hL14 hE16
 obtain ⟨r14, q14, h⟩ := zdo h
 refine zaf (zaw en41 rfl rfl (linequality_w N (-3) (-4) _ Any r14 q14) ?_)
 rintro _ w16 hE17 ⟨v18, v19, rfl, k18, k19, -⟩
 replace k18 := k18.mono (zba (S := None) hL15 [])
 replace k19 := k19.mono (zba (S := None) hL15 [])
 have hL16 := hL15.ext hE17
 have K16 := ke hL15 hE17
 have f14 := (k16.mono (K16 None))
 have f15 := (k17.mono (K16 None))
 have hE18 : Els rIneq (vH w None [some b11, some b10] w16) [v16, (zaa r13.Bound.Negative), v17, v18, (zaa r14.Bound.Negative), v19] [r13, r14] := (zcg (a := [v16, (zaa r13.Bound.Negative), v17]) (rIneq_close ⟨v16, v17, rfl, f14, f15, trivial⟩) (zcg (a := [v18, (zaa r14.Bound.Negative), v19]) (rIneq_close ⟨v18, v19, rfl, k18, k19, trivial⟩) zcp))
 refine zaf (zch (r := rIneq) (vs := [(zap #[v16, (zaa r13.Bound.Negative), v17]), (zap #[v18, (zaa r14.Bound.Negative), v19])]) (css := [[v16, (zaa r13.Bound.Negative), v17], [v18, (zaa r14.Bound.Negative), v19]]) (xs := [r13, r14]) zbl ti34 (zae rfl) rfl rfl ⟨rfl, rfl, ⟨rfl, rfl, trivial⟩⟩ (zae rfl) hE18 rfl hL16 ?_)
 intro b12 w17 hc12 hL17 hS12
 have K17 := ks w hS12
 refine zaf (zak (v := (osv (some b12) 0 2 2)) rfl ?_)
 refine zan (zaj (zah rfl ?_))
 obtain ⟨r15, q15, h⟩ := zdo h
 refine zaf (zaw en42 rfl rfl (luse_w N 0 1 _ Any r15 q15) ?_)
 rintro _ w18 hE19 ⟨v20, rfl, k20, -⟩
 replace k20 := k20.mono (zba (S := None) hL17 [])
 have hL18 := hL17.ext hE19
 have K18 := ke hL17 hE19
 have hE20 : Els rUse (vH w None [some b12, some b11, some b10] w18) [(zab .i64 r15.Index), (zaa r15.N.Negative), v20] [r15] := (zcg (a := [(zab .i64 r15.Index), (zaa r15.N.Negative), v20]) (rUse_close ⟨v20, rfl, k20, trivial⟩) zcp)
 refine zaf (zch (r := rUse) (vs := [(zap #[(zab .i64 r15.Index), (zaa r15.N.Negative), v20])]) (css := [[(zab .i64 r15.Index), (zaa r15.N.Negative), v20]]) (xs := [r15]) zbz ti50 (zae rfl) rfl rfl ⟨rfl, rfl, trivial⟩ (zae rfl) hE20 rfl hL18 ?_)
 intro b13 w19 hc13 hL19 hS13
 have K19 := ks w hS13
 obtain ⟨r16, q16, h⟩ := zdo h
 refine zaf (zaw en24 rfl rfl (lbig_w N 2 _ Any r16 q16) ?_)
 rintro _ w20 hE21 ⟨v21, rfl, k21, -⟩
 replace k21 := k21.mono (zba (S := None) hL19 [])
 have hL20 := hL19.ext hE21
 have K20 := ke hL19 hE21
 refine zaf (zcy (zc := [(zad none 0 0), (zaa false), (zad none 0 0)]) (cs := [(osv (some b13) 0 1 1), (zaa r16.Negative), v21]) (is := [0, 1]) (vs := [(osv (some b13) 0 1 1), (zap #[(zaa r16.Negative), v21])]) (css := [[(osv (some b13) 0 1 1)], [(zaa r16.Negative), v21]]) pl28 ti28 rfl rfl rfl ⟨(zec (zea _ _ _ _)), ⟨rfl, trivial⟩⟩ rfl ?_)
 obtain ⟨r17, q17, h⟩ := zdo h
 refine zaf (zaw en42 rfl rfl (luse_w N 1 1 _ Any r17 q17) ?_)
 rintro _ w21 hE22 ⟨v22, rfl, k22, -⟩
 replace k22 := k22.mono (zba (S := None) hL20 [])
 have hL21 := hL20.ext hE22
 have K21 := ke hL20 hE22
 have hE23 : Els rUse (vH w None [some b13, some b12, some b11, some b10] w21) [(zab .i64 r17.Index), (zaa r17.N.Negative), v22] [r17] := (zcg (a := [(zab .i64 r17.Index), (zaa r17.N.Negative), v22]) (rUse_close ⟨v22, rfl, k22, trivial⟩) zcp)
 refine zaf (zch (r := rUse) (vs := [(zap #[(zab .i64 r17.Index), (zaa r17.N.Negative), v22])]) (css := [[(zab .i64 r17.Index), (zaa r17.N.Negative), v22]]) (xs := [r17]) zbz ti50 (zae rfl) rfl rfl ⟨rfl, rfl, trivial⟩ (zae rfl) hE23 rfl hL21 ?_)
 intro b14 w22 hc14 hL22 hS14
 have K22 := ks w hS14
 obtain ⟨r18, q18, h⟩ := zdo h
 refine zaf (zaw en24 rfl rfl (lbig_w N 2 _ Any r18 q18) ?_)
 rintro _ w23 hE24 ⟨v23, rfl, k23, -⟩
 replace k23 := k23.mono (zba (S := None) hL22 [])
 have hL23 := hL22.ext hE24
 have K23 := ke hL22 hE24
 refine zaf (zcy (zc := [(zad none 0 0), (zaa false), (zad none 0 0)]) (cs := [(osv (some b14) 0 1 1), (zaa r18.Negative), v23]) (is := [0, 1]) (vs := [(osv (some b14) 0 1 1), (zap #[(zaa r18.Negative), v23])]) (css := [[(osv (some b14) 0 1 1)], [(zaa r18.Negative), v23]]) pl28 ti28 rfl rfl rfl ⟨(zec (zea _ _ _ _)), ⟨rfl, trivial⟩⟩ rfl ?_)
 obtain ⟨r19, q19, h⟩ := zdo h
 refine zaf (zaw en42 rfl rfl (luse_w N 2 1 _ Any r19 q19) ?_)
 rintro _ w24 hE25 ⟨v24, rfl, k24, -⟩
 replace k24 := k24.mono (zba (S := None) hL23 [])
 have hL24 := hL23.ext hE25
 have K24 := ke hL23 hE25
 obtain ⟨r20, q20, h⟩ := zdo h
 refine zaf (zaw en42 rfl rfl (luse_w N 3 1 _ Any r20 q20) ?_)
 rintro _ w25 hE26 ⟨v25, rfl, k25, -⟩
 replace k25 := k25.mono (zba (S := None) hL24 [])
 have hL25 := hL24.ext hE26
 have K25 := ke hL24 hE26
 have f16 := (k24.mono (K25 None))
 have hE27 : Els rUse (vH w None [some b14, some b13, some b12, some b11, some b10] w25) [(zab .i64 r19.Index), (zaa r19.N.Negative), v24, (zab .i64 r20.Index), (zaa r20.N.Negative), v25] [r19, r20] := (zcg (a := [(zab .i64 r19.Index), (zaa r19.N.Negative), v24]) (rUse_close ⟨v24, rfl, f16, trivial⟩) (zcg (a := [(zab .i64 r20.Index), (zaa r20.N.Negative), v25]) (rUse_close ⟨v25, rfl, k25, trivial⟩) zcp))
 refine zaf (zch (r := rUse) (vs := [(zap #[(zab .i64 r19.Index), (zaa r19.N.Negative), v24]), (zap #[(zab .i64 r20.Index), (zaa r20.N.Negative), v25])]) (css := [[(zab .i64 r19.Index), (zaa r19.N.Negative), v24], [(zab .i64 r20.Index), (zaa r20.N.Negative), v25]]) (xs := [r19, r20]) zbz ti50 (zae rfl) rfl rfl ⟨rfl, rfl, ⟨rfl, rfl, trivial⟩⟩ (zae rfl) hE27 rfl hL25 ?_)
 intro b15 w26 hc15 hL26 hS15
 have K26 := ks w hS15
 obtain ⟨r21, q21, h⟩ := zdo h
 refine zaf (zaw en24 rfl rfl (lbig_w N 1 _ Any r21 q21) ?_)
 rintro _ w27 hE28 ⟨v26, rfl, k26, -⟩
 replace k26 := k26.mono (zba (S := None) hL26 [])
 have hL27 := hL26.ext hE28
 have K27 := ke hL26 hE28
 refine zaf (zcy (zc := [(zad none 0 0), (zaa false), (zad none 0 0)]) (cs := [(osv (some b15) 0 2 2), (zaa r21.Negative), v26]) (is := [0, 1]) (vs := [(osv (some b15) 0 2 2), (zap #[(zaa r21.Negative), v26])]) (css := [[(osv (some b15) 0 2 2)], [(zaa r21.Negative), v26]]) pl28 ti28 rfl rfl rfl ⟨(zec (zea _ _ _ _)), ⟨rfl, trivial⟩⟩ rfl ?_)
 have f17 := (((((((((hE20.mono (K19 None)).mono (K20 None)).mono (K21 None)).mono (K22 None)).mono (K23 None)).mono (K24 None)).mono (K25 None)).mono (K26 None)).mono (K27 None))
 have f18 := hL27.freezeRow 2 rfl rfl f17 rfl rfl rfl hc13
 have hp10 := hL27.pick [0, 1, 3, 4, 5] rfl rfl rfl
 have hL28 : vL w w27 [some b15, some b14, some b12, some b11, some b10] [zac ([] ++ ([(zab .i64 r19.Index), (zaa r19.N.Negative), v24, (zab .i64 r20.Index), (zaa r20.N.Negative), v25] ++ [])), zac ([] ++ ([(zab .i64 r17.Index), (zaa r17.N.Negative), v22] ++ [])), zac ([] ++ ([v16, (zaa r13.Bound.Negative), v17, v18, (zaa r14.Bound.Negative), v19] ++ [])), zac ([] ++ ([v12, (zaa r11.Bound.Negative), v13, v14, (zaa r12.Bound.Negative), v15] ++ [])), zac ([] ++ ([v3, (zaa r1.Bound.Negative), v5, v10, (zaa r10.Bound.Negative), v11] ++ []))] := hp10.1
 have K28 := ks w hp10.2
 have f19 := (((((((hE23.mono (K22 None)).mono (K23 None)).mono (K24 None)).mono (K25 None)).mono (K26 None)).mono (K27 None)).mono (K28 None))
 have f20 := hL28.freezeRow 1 rfl rfl f19 rfl rfl rfl hc14
 have hp11 := hL28.pick [0, 2, 3, 4] rfl rfl rfl
 have hL29 : vL w w27 [some b15, some b12, some b11, some b10] [zac ([] ++ ([(zab .i64 r19.Index), (zaa r19.N.Negative), v24, (zab .i64 r20.Index), (zaa r20.N.Negative), v25] ++ [])), zac ([] ++ ([v16, (zaa r13.Bound.Negative), v17, v18, (zaa r14.Bound.Negative), v19] ++ [])), zac ([] ++ ([v12, (zaa r11.Bound.Negative), v13, v14, (zaa r12.Bound.Negative), v15] ++ [])), zac ([] ++ ([v3, (zaa r1.Bound.Negative), v5, v10, (zaa r10.Bound.Negative), v11] ++ []))] := hp11.1
 have K29 := ks w hp11.2
 have f21 := ((((hE27.mono (K26 None)).mono (K27 None)).mono (K28 None)).mono (K29 None))
 have f22 := hL29.freezeRow 0 rfl rfl f21 rfl rfl rfl hc15
 have hp12 := hL29.pick [1, 2, 3] rfl rfl rfl
 have hL30 : vL w w27 [some b12, some b11, some b10] [zac ([] ++ ([v16, (zaa r13.Bound.Negative), v17, v18, (zaa r14.Bound.Negative), v19] ++ [])), zac ([] ++ ([v12, (zaa r11.Bound.Negative), v13, v14, (zaa r12.Bound.Negative), v15] ++ [])), zac ([] ++ ([v3, (zaa r1.Bound.Negative), v5, v10, (zaa r10.Bound.Negative), v11] ++ []))] := hp12.1
 have K30 := ks w hp12.2
 have f23 := (((k26.mono (K28 None)).mono (K29 None)).mono (K30 None))
 have f24 := (f20.mono (K30 None))
 have f25 := (((((((k23.mono (K24 None)).mono (K25 None)).mono (K26 None)).mono (K27 None)).mono (K28 None)).mono (K29 None)).mono (K30 None))
 have f26 := ((f18.mono (K29 None)).mono (K30 None))
 have f27 := ((((((((((k21.mono (K21 None)).mono (K22 None)).mono (K23 None)).mono (K24 None)).mono (K25 None)).mono (K26 None)).mono (K27 None)).mono (K28 None)).mono (K29 None)).mono (K30 None))
 have hE29 : Els rStep (vH w None [some b12, some b11, some b10] w27) [(osv (some b13) 0 1 1), (zaa r16.Negative), v21, (osv (some b14) 0 1 1), (zaa r18.Negative), v23, (osv (some b15) 0 2 2), (zaa r21.Negative), v26] [(Step.mk [r15] r16), (Step.mk [r17] r18), (Step.mk [r19, r20] r21)] := (zcg (a := [(osv (some b13) 0 1 1), (zaa r16.Negative), v21]) (rStep_close ⟨(osv (some b13) 0 1 1), v21, rfl, f26, f27, trivial⟩) (zcg (a := [(osv (some b14) 0 1 1), (zaa r18.Negative), v23]) (rStep_close ⟨(osv (some b14) 0 1 1), v23, rfl, f24, f25, trivial⟩) (zcg (a := [(osv (some b15) 0 2 2), (zaa r21.Negative), v26]) (rStep_close ⟨(osv (some b15) 0 2 2), v26, rfl, f22, f23, trivial⟩) zcp)))
 refine zaf (zch (r := rStep) (vs := [(zap #[(osv (some b13) 0 1 1), (zaa r16.Negative), v21]), (zap #[(osv (some b14) 0 1 1), (zaa r18.Negative), v23]), (zap #[(osv (some b15) 0 2 2), (zaa r21.Negative), v26])]) (css := [[(osv (some b13) 0 1 1), (zaa r16.Negative), v21], [(osv (some b14) 0 1 1), (zaa r18.Negative), v23], [(osv (some b15) 0 2 2), (zaa r21.Negative), v26]]) (xs := [(Step.mk [r15] r16), (Step.mk [r17] r18), (Step.mk [r19, r20] r21)]) zcu ti28 (zae rfl) rfl rfl ⟨rfl, rfl, ⟨rfl, rfl, ⟨rfl, rfl, trivial⟩⟩⟩ (zae rfl) hE29 rfl hL30 ?_)
 intro b16 w28 hc16 hL31 hS16
 have K31 := ks w hS16
 refine zaf (zcy (zc := [(zad none 0 0), (zad none 0 0), (zaa false), (zad none 0 0), (zad none 0 0)]) (cs := [(osv (some b16) 0 3 3), (zad none 0 0), (zaa false), (zad none 0 0), (zad none 0 0)]) (is := [0]) (vs := [(osv (some b16) 0 3 3)]) (css := [[(osv (some b16) 0 3 3)]]) pl42 ti42 rfl rfl rfl ⟨(zec (zea _ _ _ _)), trivial⟩ rfl ?_)
 refine zaf (zca (cs := [(zad none 0 0), (zad none 0 0), (zaa false), (zad none 0 0), (zad none 0 0)]) ti42 rfl hL31 ?_)
 intro b17 w29 hL32 hS17
 have K32 := ks w hS17
 refine zcc (zbn (vs := [(osv (some b16) 0 3 3), (zad none 0 0), (zaa false), (zad none 0 0), (zad none 0 0)]) ti42 rfl rfl rfl rfl (zds (zea _ _ _ _) (zds rfl (zds rfl (zds rfl (zds rfl zdw))))) hL32 0 rfl rfl (zae rfl) ?_)
 intro w30 (hL33 : vL w w30 [some b17, some b16, some b12, some b11, some b10] [zac [(osv (some b16) 0 3 3), (zad none 0 0), (zaa false), (zad none 0 0), (zad none 0 0)], zac ([] ++ ([(osv (some b13) 0 1 1), (zaa r16.Negative), v21, (osv (some b14) 0 1 1), (zaa r18.Negative), v23, (osv (some b15) 0 2 2), (zaa r21.Negative), v26] ++ [])), zac ([] ++ ([v16, (zaa r13.Bound.Negative), v17, v18, (zaa r14.Bound.Negative), v19] ++ [])), zac ([] ++ ([v12, (zaa r11.Bound.Negative), v13, v14, (zaa r12.Bound.Negative), v15] ++ [])), zac ([] ++ ([v3, (zaa r1.Bound.Negative), v5, v10, (zaa r10.Bound.Negative), v11] ++ []))]) hS18
 have K33 := ks w hS18
 refine zan (zaj (zah rfl ?_))
 obtain ⟨r22, q22, h⟩ := zdo h
 refine zaf (zaw en24 rfl rfl (lbig_w N 1 _ Any r22 q22) ?_)
 rintro _ w31 hE30 ⟨v27, rfl, k27, -⟩
 replace k27 := k27.mono (zba (S := None) hL33 [])
 have hL34 := hL33.ext hE30
 have K34 := ke hL33 hE30
 have hE31 : Els rBig (vH w None [some b17, some b16, some b12, some b11, some b10] w31) [(zaa r22.Negative), v27] [r22] := (zcg (a := [(zaa r22.Negative), v27]) (rBig_close ⟨v27, rfl, k27, trivial⟩) zcp)
 refine zaf (zch (r := rBig) (vs := [(zap #[(zaa r22.Negative), v27])]) (css := [[(zaa r22.Negative), v27]]) (xs := [r22]) zbb ti26 (zae rfl) rfl rfl ⟨rfl, rfl, trivial⟩ (zae rfl) hE31 rfl hL34 ?_)
 intro b18 w32 hc17 hL35 hS19
 have K35 := ks w hS19
 obtain ⟨r23, q23, h⟩ := zdo h
 refine zaf (zaw en24 rfl rfl (lbig_w N 1 _ Any r23 q23) ?_)
 rintro _ w33 hE32 ⟨v28, rfl, k28, -⟩
 replace k28 := k28.mono (zba (S := None) hL35 [])
 have hL36 := hL35.ext hE32
 have K36 := ke hL35 hE32
 obtain ⟨r24, q24, h⟩ := zdo h
 refine zaf (zaw en42 rfl rfl (luse_w N 2 3 _ Any r24 q24) ?_)
 rintro _ w34 hE33 ⟨v29, rfl, k29, -⟩
 replace k29 := k29.mono (zba (S := None) hL36 [])
 have hL37 := hL36.ext hE33
 have K37 := ke hL36 hE33
 obtain ⟨r25, q25, h⟩ := zdo h
 refine zaf (zaw en42 rfl rfl (luse_w N 1 1 _ Any r25 q25) ?_)
 rintro _ w35 hE34 ⟨v30, rfl, k30, -⟩
 replace k30 := k30.mono (zba (S := None) hL37 [])
 have hL38 := hL37.ext hE34
 have K38 := ke hL37 hE34
 have f28 := (k29.mono (K38 None))
 have hE35 : Els rUse (vH w None [some b18, some b17, some b16, some b12, some b11, some b10] w35) [(zab .i64 r24.Index), (zaa r24.N.Negative), v29, (zab .i64 r25.Index), (zaa r25.N.Negative), v30] [r24, r25] := (zcg (a := [(zab .i64 r24.Index), (zaa r24.N.Negative), v29]) (rUse_close ⟨v29, rfl, f28, trivial⟩) (zcg (a := [(zab .i64 r25.Index), (zaa r25.N.Negative), v30]) (rUse_close ⟨v30, rfl, k30, trivial⟩) zcp))
 refine zaf (zch (r := rUse) (vs := [(zap #[(zab .i64 r24.Index), (zaa r24.N.Negative), v29]), (zap #[(zab .i64 r25.Index), (zaa r25.N.Negative), v30])]) (css := [[(zab .i64 r24.Index), (zaa r24.N.Negative), v29], [(zab .i64 r25.Index), (zaa r25.N.Negative), v30]]) (xs := [r24, r25]) zbz ti50 (zae rfl) rfl rfl ⟨rfl, rfl, ⟨rfl, rfl, trivial⟩⟩ (zae rfl) hE35 rfl hL38 ?_)
 intro b19 w36 hc18 hL39 hS20
 have K39 := ks w hS20
 obtain ⟨r26, q26, h⟩ := zdo h
 have f29 := (hE35.mono (K39 None))
 refine zaf (zaw en20 rfl rfl (cSum_w N [r24, r25] (osv (some b19) 0 2 2) _ Any (zdv (pre := []) (o := 0) (n := 2) (cap := 2) (hL39.at 0 rfl rfl) f29 vw_any rfl rfl rfl hc18) r26 q26) ?_)
 rintro _ w37 hE36 ⟨v31, v32, v33, v34, rfl, k31, k32, k33, k34, -⟩
 replace k31 := k31.mono (zba (S := None) hL39 [])
 replace k32 := k32.mono (zba (S := None) hL39 [])
 replace k33 := k33.mono (zba (S := None) hL39 [])
 replace k34 := k34.mono (zba (S := None) hL39 [])
 have hL40 := hL39.ext hE36
 have K40 := ke hL39 hE36
 obtain ⟨r27, q27, h⟩ := zdo h
 refine zaf (zaw en42 rfl rfl (luse_w N 2 3 _ Any r27 q27) ?_)
 rintro _ w38 hE37 ⟨v35, rfl, k35, -⟩
 replace k35 := k35.mono (zba (S := None) hL40 [])
 have hL41 := hL40.ext hE37
 have K41 := ke hL40 hE37
 obtain ⟨r28, q28, h⟩ := zdo h
 refine zaf (zaw en42 rfl rfl (luse_w N 0 1 _ Any r28 q28) ?_)
 rintro _ w39 hE38 ⟨v36, rfl, k36, -⟩
 replace k36 := k36.mono (zba (S := None) hL41 [])
 have hL42 := hL41.ext hE38
 have K42 := ke hL41 hE38
 have f30 := (k35.mono (K42 None))
 have hE39 : Els rUse (vH w None [some b19, some b18, some b17, some b16, some b12, some b11, some b10] w39) [(zab .i64 r27.Index), (zaa r27.N.Negative), v35, (zab .i64 r28.Index), (zaa r28.N.Negative), v36] [r27, r28] := (zcg (a := [(zab .i64 r27.Index), (zaa r27.N.Negative), v35]) (rUse_close ⟨v35, rfl, f30, trivial⟩) (zcg (a := [(zab .i64 r28.Index), (zaa r28.N.Negative), v36]) (rUse_close ⟨v36, rfl, k36, trivial⟩) zcp))
 refine zaf (zch (r := rUse) (vs := [(zap #[(zab .i64 r27.Index), (zaa r27.N.Negative), v35]), (zap #[(zab .i64 r28.Index), (zaa r28.N.Negative), v36])]) (css := [[(zab .i64 r27.Index), (zaa r27.N.Negative), v35], [(zab .i64 r28.Index), (zaa r28.N.Negative), v36]]) (xs := [r27, r28]) zbz ti50 (zae rfl) rfl rfl ⟨rfl, rfl, ⟨rfl, rfl, trivial⟩⟩ (zae rfl) hE39 rfl hL42 ?_)
 intro b20 w40 hc19 hL43 hS21
 have K43 := ks w hS21
 obtain ⟨r29, q29, h⟩ := zdo h
 have f31 := (hE39.mono (K43 None))
 refine zaf (zaw en20 rfl rfl (cSum_w N [r27, r28] (osv (some b20) 0 2 2) _ Any (zdv (pre := []) (o := 0) (n := 2) (cap := 2) (hL43.at 0 rfl rfl) f31 vw_any rfl rfl rfl hc19) r29 q29) ?_)
 rintro _ w41 hE40 ⟨v37, v38, v39, v40, rfl, k37, k38, k39, k40, -⟩
 replace k37 := k37.mono (zba (S := None) hL43 [])
 replace k38 := k38.mono (zba (S := None) hL43 [])
 replace k39 := k39.mono (zba (S := None) hL43 [])
 replace k40 := k40.mono (zba (S := None) hL43 [])
 have hL44 := hL43.ext hE40
 have K44 := ke hL43 hE40
 have f32 := ((((k31.mono (K41 None)).mono (K42 None)).mono (K43 None)).mono (K44 None))
 have f33 := ((((k32.mono (K41 None)).mono (K42 None)).mono (K43 None)).mono (K44 None))
 have f34 := ((((k33.mono (K41 None)).mono (K42 None)).mono (K43 None)).mono (K44 None))
 have f35 := ((((k34.mono (K41 None)).mono (K42 None)).mono (K43 None)).mono (K44 None))
 have hE41 : Els rProof (vH w None [some b20, some b19, some b18, some b17, some b16, some b12, some b11, some b10] w41) [v31, v32, (zaa r26.Bound.Negative), v33, v34, v37, v38, (zaa r29.Bound.Negative), v39, v40] [r26, r29] := (zcg (a := [v31, v32, (zaa r26.Bound.Negative), v33, v34]) (rProof_close ⟨v31, v32, v33, v34, rfl, f32, f33, f34, f35, trivial⟩) (zcg (a := [v37, v38, (zaa r29.Bound.Negative), v39, v40]) (rProof_close ⟨v37, v38, v39, v40, rfl, k37, k38, k39, k40, trivial⟩) zcp))
 refine zaf (zch (r := rProof) (vs := [(zap #[v31, v32, (zaa r26.Bound.Negative), v33, v34]), (zap #[v37, v38, (zaa r29.Bound.Negative), v39, v40])]) (css := [[v31, v32, (zaa r26.Bound.Negative), v33, v34], [v37, v38, (zaa r29.Bound.Negative), v39, v40]]) (xs := [r26, r29]) zcd ti42 (zae rfl) rfl rfl ⟨rfl, rfl, ⟨rfl, rfl, trivial⟩⟩ (zae rfl) hE41 rfl hL44 ?_)
 intro b21 w42 hc20 hL45 hS22
 have K45 := ks w hS22
 refine zaf (zcy (zc := [(zad none 0 0), (zad none 0 0), (zaa false), (zad none 0 0), (zad none 0 0)]) (cs := [(zad none 0 0), (osv (some b18) 0 1 1), (zaa r23.Negative), v28, (osv (some b21) 0 2 2)]) (is := [1, 2, 3]) (vs := [(osv (some b18) 0 1 1), (zap #[(zaa r23.Negative), v28]), (osv (some b21) 0 2 2)]) (css := [[(osv (some b18) 0 1 1)], [(zaa r23.Negative), v28], [(osv (some b21) 0 2 2)]]) pl42 ti42 rfl rfl rfl ⟨(zec (zea _ _ _ _)), ⟨rfl, ⟨(zec (zea _ _ _ _)), trivial⟩⟩⟩ rfl ?_)
 refine zaf (zca (cs := [(zad none 0 0), (zad none 0 0), (zaa false), (zad none 0 0), (zad none 0 0)]) ti42 rfl hL45 ?_)
 intro b22 w43 hL46 hS23
 have K46 := ks w hS23
 have f36 := ((((((((((k28.mono (K37 None)).mono (K38 None)).mono (K39 None)).mono (K40 None)).mono (K41 None)).mono (K42 None)).mono (K43 None)).mono (K44 None)).mono (K45 None)).mono (K46 None))
 refine zcc (zbn (vs := [(zad none 0 0), (osv (some b18) 0 1 1), (zaa r23.Negative), v28, (osv (some b21) 0 2 2)]) ti42 rfl rfl rfl rfl (zds rfl (zds (zea _ _ _ _) (zds rfl (zds f36.one (zds (zea _ _ _ _) zdw))))) hL46 0 rfl rfl (zae rfl) ?_)
 intro w44 (hL47 : vL w w44 [some b22, some b21, some b20, some b19, some b18, some b17, some b16, some b12, some b11, some b10] [zac [(zad none 0 0), (osv (some b18) 0 1 1), (zaa r23.Negative), v28, (osv (some b21) 0 2 2)], zac ([] ++ ([v31, v32, (zaa r26.Bound.Negative), v33, v34, v37, v38, (zaa r29.Bound.Negative), v39, v40] ++ [])), zac ([] ++ ([(zab .i64 r27.Index), (zaa r27.N.Negative), v35, (zab .i64 r28.Index), (zaa r28.N.Negative), v36] ++ [])), zac ([] ++ ([(zab .i64 r24.Index), (zaa r24.N.Negative), v29, (zab .i64 r25.Index), (zaa r25.N.Negative), v30] ++ [])), zac ([] ++ ([(zaa r22.Negative), v27] ++ [])), zac [(osv (some b16) 0 3 3), (zad none 0 0), (zaa false), (zad none 0 0), (zad none 0 0)], zac ([] ++ ([(osv (some b13) 0 1 1), (zaa r16.Negative), v21, (osv (some b14) 0 1 1), (zaa r18.Negative), v23, (osv (some b15) 0 2 2), (zaa r21.Negative), v26] ++ [])), zac ([] ++ ([v16, (zaa r13.Bound.Negative), v17, v18, (zaa r14.Bound.Negative), v19] ++ [])), zac ([] ++ ([v12, (zaa r11.Bound.Negative), v13, v14, (zaa r12.Bound.Negative), v15] ++ [])), zac ([] ++ ([v3, (zaa r1.Bound.Negative), v5, v10, (zaa r10.Bound.Negative), v11] ++ []))]) hS24
 have K47 := ks w hS24
 refine zan (zaj (zah rfl (zaf (zai (v := (osv (some b10) 0 2 2)) rfl ?_))))
 obtain ⟨r30, q30, h⟩ := zdo h
 refine zaf (zaw en42 rfl rfl (luse_w N 0 1 _ Any r30 q30) ?_)
 rintro _ w45 hE42 ⟨v41, rfl, k41, -⟩
 replace k41 := k41.mono (zba (S := None) hL47 [])
 have hL48 := hL47.ext hE42
 have K48 := ke hL47 hE42
 obtain ⟨r31, q31, h⟩ := zdo h
 refine zaf (zaw en42 rfl rfl (luse_w N 1 1 _ Any r31 q31) ?_)
 rintro _ w46 hE43 ⟨v42, rfl, k42, -⟩
 replace k42 := k42.mono (zba (S := None) hL48 [])
 have hL49 := hL48.ext hE43
 have K49 := ke hL48 hE43
 have f37 := (k41.mono (K49 None))
 have hE44 : Els rUse (vH w None [some b22, some b21, some b20, some b19, some b18, some b17, some b16, some b12, some b11, some b10] w46) [(zab .i64 r30.Index), (zaa r30.N.Negative), v41, (zab .i64 r31.Index), (zaa r31.N.Negative), v42] [r30, r31] := (zcg (a := [(zab .i64 r30.Index), (zaa r30.N.Negative), v41]) (rUse_close ⟨v41, rfl, f37, trivial⟩) (zcg (a := [(zab .i64 r31.Index), (zaa r31.N.Negative), v42]) (rUse_close ⟨v42, rfl, k42, trivial⟩) zcp))
 refine zaf (zch (r := rUse) (vs := [(zap #[(zab .i64 r30.Index), (zaa r30.N.Negative), v41]), (zap #[(zab .i64 r31.Index), (zaa r31.N.Negative), v42])]) (css := [[(zab .i64 r30.Index), (zaa r30.N.Negative), v41], [(zab .i64 r31.Index), (zaa r31.N.Negative), v42]]) (xs := [r30, r31]) zbz ti50 (zae rfl) rfl rfl ⟨rfl, rfl, ⟨rfl, rfl, trivial⟩⟩ (zae rfl) hE44 rfl hL49 ?_)
 intro b23 w47 hc21 hL50 hS25
 have K50 := ks w hS25
 obtain ⟨r32, q32, h⟩ := zdo h
 have f38 := (hE44.mono (K50 None))
 refine zaf (zaw en20 rfl rfl (cSum_w N [r30, r31] (osv (some b23) 0 2 2) _ Any (zdv (pre := []) (o := 0) (n := 2) (cap := 2) (hL50.at 0 rfl rfl) f38 vw_any rfl rfl rfl hc21) r32 q32) ?_)
 rintro _ w48 hE45 ⟨v43, v44, v45, v46, rfl, k43, k44, k45, k46, -⟩
 replace k43 := k43.mono (zba (S := None) hL50 [])
 replace k44 := k44.mono (zba (S := None) hL50 [])
 replace k45 := k45.mono (zba (S := None) hL50 [])
 replace k46 := k46.mono (zba (S := None) hL50 [])
 have hL51 := hL50.ext hE45
 have K51 := ke hL50 hE45
 obtain ⟨r33, q33, h⟩ := zdo h
 have f39 := (((((((((((((((((((((((((((((((((((((((((hE12.mono (K11 None)).mono (K12 None)).mono (K13 None)).mono (K14 None)).mono (K15 None)).mono (K16 None)).mono (K17 None)).mono (K18 None)).mono (K19 None)).mono (K20 None)).mono (K21 None)).mono (K22 None)).mono (K23 None)).mono (K24 None)).mono (K25 None)).mono (K26 None)).mono (K27 None)).mono (K28 None)).mono (K29 None)).mono (K30 None)).mono (K31 None)).mono (K32 None)).mono (K33 None)).mono (K34 None)).mono (K35 None)).mono (K36 None)).mono (K37 None)).mono (K38 None)).mono (K39 None)).mono (K40 None)).mono (K41 None)).mono (K42 None)).mono (K43 None)).mono (K44 None)).mono (K45 None)).mono (K46 None)).mono (K47 None)).mono (K48 None)).mono (K49 None)).mono (K50 None)).mono (K51 None))
 refine zaf (zaw en18 rfl rfl (cCheck_w N [r1, r10] r32 (osv (some b10) 0 2 2) v43 v44 v45 v46 _ Any (zdv (pre := []) (o := 0) (n := 2) (cap := 2) (hL51.at 10 rfl rfl) f39 vw_any rfl rfl rfl hc10) (k43.mono vw_any) (k44.mono vw_any) (k45.mono vw_any) (k46.mono vw_any) r33 q33) ?_)
 rintro _ w49 hE46 ⟨rfl, -⟩
 have hL52 := hL51.ext hE46
 have K52 := ke hL51 hE46
 refine zaf (zai (v := (zaa r33)) rfl ?_)
 by_cases hc22 : r33 = true
 ·
  replace h := ite_t hc22 h
  refine zbu rfl rfl hc22 (zai (v := (osv (some b11) 0 2 2)) rfl ?_)
  obtain ⟨r34, q34, h⟩ := zdo h
  refine zbu rfl rfl hc22 (zaw en42 rfl rfl (luse_w N 0 1 _ Any r34 q34) ?_)
  rintro _ w50 hE47 ⟨v47, rfl, k47, -⟩
  replace k47 := k47.mono (zba (S := None) hL52 [])
  have hL53 := hL52.ext hE47
  have K53 := ke hL52 hE47
  obtain ⟨r35, q35, h⟩ := zdo h
  refine zbu rfl rfl hc22 (zaw en42 rfl rfl (luse_w N 1 1 _ Any r35 q35) ?_)
  rintro _ w51 hE48 ⟨v48, rfl, k48, -⟩
  replace k48 := k48.mono (zba (S := None) hL53 [])
  have hL54 := hL53.ext hE48
  have K54 := ke hL53 hE48
  have f40 := (k47.mono (K54 None))
  have hE49 : Els rUse (vH w None [some b23, some b22, some b21, some b20, some b19, some b18, some b17, some b16, some b12, some b11, some b10] w51) [(zab .i64 r34.Index), (zaa r34.N.Negative), v47, (zab .i64 r35.Index), (zaa r35.N.Negative), v48] [r34, r35] := (zcg (a := [(zab .i64 r34.Index), (zaa r34.N.Negative), v47]) (rUse_close ⟨v47, rfl, f40, trivial⟩) (zcg (a := [(zab .i64 r35.Index), (zaa r35.N.Negative), v48]) (rUse_close ⟨v48, rfl, k48, trivial⟩) zcp))
  refine zbu rfl rfl hc22 (zch (r := rUse) (vs := [(zap #[(zab .i64 r34.Index), (zaa r34.N.Negative), v47]), (zap #[(zab .i64 r35.Index), (zaa r35.N.Negative), v48])]) (css := [[(zab .i64 r34.Index), (zaa r34.N.Negative), v47], [(zab .i64 r35.Index), (zaa r35.N.Negative), v48]]) (xs := [r34, r35]) zbz ti50 (zae rfl) rfl rfl ⟨rfl, rfl, ⟨rfl, rfl, trivial⟩⟩ (zae rfl) hE49 rfl hL54 ?_)
  intro b24 w52 hc23 hL55 hS26
  have K55 := ks w hS26
  obtain ⟨r36, q36, h⟩ := zdo h
  have f41 := (hE49.mono (K55 None))
  refine zbu rfl rfl hc22 (zaw en20 rfl rfl (cSum_w N [r34, r35] (osv (some b24) 0 2 2) _ Any (zdv (pre := []) (o := 0) (n := 2) (cap := 2) (hL55.at 0 rfl rfl) f41 vw_any rfl rfl rfl hc23) r36 q36) ?_)
  rintro _ w53 hE50 ⟨v49, v50, v51, v52, rfl, k49, k50, k51, k52, -⟩
  replace k49 := k49.mono (zba (S := None) hL55 [])
  replace k50 := k50.mono (zba (S := None) hL55 [])
  replace k51 := k51.mono (zba (S := None) hL55 [])
  replace k52 := k52.mono (zba (S := None) hL55 [])
  have hL56 := hL55.ext hE50
  have K56 := ke hL55 hE50
  obtain ⟨r37, q37, h⟩ := zdo h
  have f42 := (((((((((((((((((((((((((((((((((((((((((((hE15.mono (K14 None)).mono (K15 None)).mono (K16 None)).mono (K17 None)).mono (K18 None)).mono (K19 None)).mono (K20 None)).mono (K21 None)).mono (K22 None)).mono (K23 None)).mono (K24 None)).mono (K25 None)).mono (K26 None)).mono (K27 None)).mono (K28 None)).mono (K29 None)).mono (K30 None)).mono (K31 None)).mono (K32 None)).mono (K33 None)).mono (K34 None)).mono (K35 None)).mono (K36 None)).mono (K37 None)).mono (K38 None)).mono (K39 None)).mono (K40 None)).mono (K41 None)).mono (K42 None)).mono (K43 None)).mono (K44 None)).mono (K45 None)).mono (K46 None)).mono (K47 None)).mono (K48 None)).mono (K49 None)).mono (K50 None)).mono (K51 None)).mono (K52 None)).mono (K53 None)).mono (K54 None)).mono (K55 None)).mono (K56 None))
  refine zbu rfl rfl hc22 (zaw en18 rfl rfl (cCheck_w N [r11, r12] r36 (osv (some b11) 0 2 2) v49 v50 v51 v52 _ Any (zdv (pre := []) (o := 0) (n := 2) (cap := 2) (hL56.at 10 rfl rfl) f42 vw_any rfl rfl rfl hc11) (k49.mono vw_any) (k50.mono vw_any) (k51.mono vw_any) (k52.mono vw_any) r37 q37) ?_)
  rintro _ w54 hE51 ⟨rfl, -⟩
  have hL57 := hL56.ext hE51
  have K57 := ke hL56 hE51
  refine zbu rfl rfl hc22 (OpY.not (x := r37) rfl ?_)
  refine zaf (zci (t := r33) (v := (zaa (!r37))) rfl hc22 rfl ?_)
  refine zaf (zai (v := (zaa (!r37))) rfl ?_)
  by_cases hc24 : (!r37) = true
  ·
   replace h := ite_t hc24 h
   refine zbu rfl rfl hc24 (zai (v := (osv (some b11) 0 2 2)) rfl ?_)
   refine zbu rfl rfl hc24 (zbm (vs := [(osv (some b16) 0 3 3), (zad none 0 0), (zaa false), (zad none 0 0), (zad none 0 0)]) zbi rfl ti42 rfl (hL57.at 7 rfl rfl) rfl rfl ?_)
   obtain ⟨r38, q38, h⟩ := zdo h
   have f43 := (f42.mono (K57 None))
   have f44 := (((((((((((((((((((((((((((hE29.mono (K31 None)).mono (K32 None)).mono (K33 None)).mono (K34 None)).mono (K35 None)).mono (K36 None)).mono (K37 None)).mono (K38 None)).mono (K39 None)).mono (K40 None)).mono (K41 None)).mono (K42 None)).mono (K43 None)).mono (K44 None)).mono (K45 None)).mono (K46 None)).mono (K47 None)).mono (K48 None)).mono (K49 None)).mono (K50 None)).mono (K51 None)).mono (K52 None)).mono (K53 None)).mono (K54 None)).mono (K55 None)).mono (K56 None)).mono (K57 None))
   refine zbu rfl rfl hc24 (zaw en18 rfl rfl (cCheck_w N [r11, r12] (Proof.mk [(Step.mk [r15] r16), (Step.mk [r17] r18), (Step.mk [r19, r20] r21)] [] (Big.mk false []) []) (osv (some b11) 0 2 2) (osv (some b16) 0 3 3) (zad none 0 0) (zad none 0 0) (zad none 0 0) _ Any (zdv (pre := []) (o := 0) (n := 2) (cap := 2) (hL57.at 10 rfl rfl) f43 vw_any rfl rfl rfl hc11) (zdv (pre := []) (o := 0) (n := 3) (cap := 3) (hL57.at 8 rfl rfl) f44 vw_any rfl rfl rfl hc16) zdn zdn zdn r38 q38) ?_)
   rintro _ w55 hE52 ⟨rfl, -⟩
   have hL58 := hL57.ext hE52
   have K58 := ke hL57 hE52
   refine zaf (zci (t := (!r37)) (v := (zaa r38)) rfl hc24 rfl ?_)
   refine zaf (zai (v := (zaa r38)) rfl ?_)
   by_cases hc25 : r38 = true
   ·
    replace h := ite_t hc25 h
    refine zbu rfl rfl hc25 (zai (v := (osv (some b12) 0 2 2)) rfl ?_)
    refine zbu rfl rfl hc25 (zbm (vs := [(zad none 0 0), (osv (some b18) 0 1 1), (zaa r23.Negative), v28, (osv (some b21) 0 2 2)]) zbi rfl ti42 rfl (hL58.at 2 rfl rfl) rfl rfl ?_)
    obtain ⟨r39, q39, h⟩ := zdo h
    have f45 := ((((((((((((((((((((((((((((((((((((((((((hE18.mono (K17 None)).mono (K18 None)).mono (K19 None)).mono (K20 None)).mono (K21 None)).mono (K22 None)).mono (K23 None)).mono (K24 None)).mono (K25 None)).mono (K26 None)).mono (K27 None)).mono (K28 None)).mono (K29 None)).mono (K30 None)).mono (K31 None)).mono (K32 None)).mono (K33 None)).mono (K34 None)).mono (K35 None)).mono (K36 None)).mono (K37 None)).mono (K38 None)).mono (K39 None)).mono (K40 None)).mono (K41 None)).mono (K42 None)).mono (K43 None)).mono (K44 None)).mono (K45 None)).mono (K46 None)).mono (K47 None)).mono (K48 None)).mono (K49 None)).mono (K50 None)).mono (K51 None)).mono (K52 None)).mono (K53 None)).mono (K54 None)).mono (K55 None)).mono (K56 None)).mono (K57 None)).mono (K58 None))
    have f46 := ((((((((((((((((((((((((hE31.mono (K35 None)).mono (K36 None)).mono (K37 None)).mono (K38 None)).mono (K39 None)).mono (K40 None)).mono (K41 None)).mono (K42 None)).mono (K43 None)).mono (K44 None)).mono (K45 None)).mono (K46 None)).mono (K47 None)).mono (K48 None)).mono (K49 None)).mono (K50 None)).mono (K51 None)).mono (K52 None)).mono (K53 None)).mono (K54 None)).mono (K55 None)).mono (K56 None)).mono (K57 None)).mono (K58 None))
    have f47 := ((((((((((((f36.mono (K47 None)).mono (K48 None)).mono (K49 None)).mono (K50 None)).mono (K51 None)).mono (K52 None)).mono (K53 None)).mono (K54 None)).mono (K55 None)).mono (K56 None)).mono (K57 None)).mono (K58 None))
    have f48 := ((((((((((((((hE41.mono (K45 None)).mono (K46 None)).mono (K47 None)).mono (K48 None)).mono (K49 None)).mono (K50 None)).mono (K51 None)).mono (K52 None)).mono (K53 None)).mono (K54 None)).mono (K55 None)).mono (K56 None)).mono (K57 None)).mono (K58 None))
    refine zbu rfl rfl hc25 (zaw en18 rfl rfl (cCheck_w N [r13, r14] (Proof.mk [] [r22] r23 [r26, r29]) (osv (some b12) 0 2 2) (zad none 0 0) (osv (some b18) 0 1 1) v28 (osv (some b21) 0 2 2) _ Any (zdv (pre := []) (o := 0) (n := 2) (cap := 2) (hL58.at 9 rfl rfl) f45 vw_any rfl rfl rfl hc12) zdn (zdv (pre := []) (o := 0) (n := 1) (cap := 1) (hL58.at 6 rfl rfl) f46 vw_any rfl rfl rfl hc17) (f47.mono vw_any) (zdv (pre := []) (o := 0) (n := 2) (cap := 2) (hL58.at 3 rfl rfl) f48 vw_any rfl rfl rfl hc20) r39 q39) ?_)
    rintro _ w56 hE53 ⟨rfl, -⟩
    have hL59 := hL58.ext hE53
    have K59 := ke hL58 hE53
    refine zaf (zci (t := r38) (v := (zaa r39)) rfl hc25 rfl ?_)
    refine zaf (zai (v := (zaa r39)) rfl ?_)
    by_cases hc26 : r39 = true
    ·
     replace h := ite_t hc26 h
     refine zbu rfl rfl hc26 (zai (v := (osv (some b11) 0 2 2)) rfl ?_)
     refine zbu rfl rfl hc26 (zbm (vs := [(zad none 0 0), (osv (some b18) 0 1 1), (zaa r23.Negative), v28, (osv (some b21) 0 2 2)]) zbi rfl ti42 rfl (hL59.at 2 rfl rfl) rfl rfl ?_)
     obtain ⟨r40, q40, h⟩ := zdo h
     have f49 := ((f43.mono (K58 None)).mono (K59 None))
     have f50 := (f46.mono (K59 None))
     have f51 := (f47.mono (K59 None))
     have f52 := (f48.mono (K59 None))
     refine zbu rfl rfl hc26 (zaw en18 rfl rfl (cCheck_w N [r11, r12] (Proof.mk [] [r22] r23 [r26, r29]) (osv (some b11) 0 2 2) (zad none 0 0) (osv (some b18) 0 1 1) v28 (osv (some b21) 0 2 2) _ Any (zdv (pre := []) (o := 0) (n := 2) (cap := 2) (hL59.at 10 rfl rfl) f49 vw_any rfl rfl rfl hc11) zdn (zdv (pre := []) (o := 0) (n := 1) (cap := 1) (hL59.at 6 rfl rfl) f50 vw_any rfl rfl rfl hc17) (f51.mono vw_any) (zdv (pre := []) (o := 0) (n := 2) (cap := 2) (hL59.at 3 rfl rfl) f52 vw_any rfl rfl rfl hc20) r40 q40) ?_)
     rintro _ w57 hE54 ⟨rfl, -⟩
     have hL60 := hL59.ext hE54
     have K60 := ke hL59 hE54
     refine zbu rfl rfl hc26 (OpY.not (x := r40) rfl ?_)
     refine zaf (zci (t := r39) (v := (zaa (!r40))) rfl hc26 rfl ?_)
     refine zaf (zai (v := (zaa (!r40))) rfl ?_)
     by_cases hc27 : (!r40) = true
     ·
      replace h := ite_t hc27 h
      refine zbu rfl rfl hc27 (zbm (vs := [(osv (some b16) 0 3 3), (zad none 0 0), (zaa false), (zad none 0 0), (zad none 0 0)]) zbi rfl ti42 rfl (hL60.at 7 rfl rfl) rfl rfl ?_)
      obtain ⟨r41, q41, h⟩ := zdo h
      have f53 := (((f44.mono (K58 None)).mono (K59 None)).mono (K60 None))
      refine zbu rfl rfl hc27 (zaw en21 rfl rfl (cSize_w N (Proof.mk [(Step.mk [r15] r16), (Step.mk [r17] r18), (Step.mk [r19, r20] r21)] [] (Big.mk false []) []) (osv (some b16) 0 3 3) (zad none 0 0) (zad none 0 0) (zad none 0 0) _ Any (zdv (pre := []) (o := 0) (n := 3) (cap := 3) (hL60.at 8 rfl rfl) f53 vw_any rfl rfl rfl hc16) zdn zdn zdn r41 q41) ?_)
      rintro _ w58 hE55 ⟨rfl, -⟩
      have hL61 := hL60.ext hE55
      have K61 := ke hL60 hE55
      refine zbu rfl rfl hc27 (OpY.eql (x := r41) (y := 3) ((r41 : Int) = 3) rfl rfl zbk ?_)
      refine zaf (zci (t := (!r40)) (v := (zaa (decide ((r41 : Int) = 3)))) rfl hc27 rfl ?_)
      refine zaf (zai (v := (zaa (decide ((r41 : Int) = 3)))) rfl ?_)
      by_cases hc28 : (r41 : Int) = 3
      ·
       replace h := ite_t hc28 h
       refine zbu rfl rfl (zdr hc28) (zbm (vs := [(zad none 0 0), (osv (some b18) 0 1 1), (zaa r23.Negative), v28, (osv (some b21) 0 2 2)]) zbi rfl ti42 rfl (hL61.at 2 rfl rfl) rfl rfl ?_)
       obtain ⟨r42, q42, h⟩ := zdo h
       have f54 := ((f50.mono (K60 None)).mono (K61 None))
       have f55 := ((f51.mono (K60 None)).mono (K61 None))
       have f56 := ((f52.mono (K60 None)).mono (K61 None))
       refine zbu rfl rfl (zdr hc28) (zaw en21 rfl rfl (cSize_w N (Proof.mk [] [r22] r23 [r26, r29]) (zad none 0 0) (osv (some b18) 0 1 1) v28 (osv (some b21) 0 2 2) _ Any zdn (zdv (pre := []) (o := 0) (n := 1) (cap := 1) (hL61.at 6 rfl rfl) f54 vw_any rfl rfl rfl hc17) (f55.mono vw_any) (zdv (pre := []) (o := 0) (n := 2) (cap := 2) (hL61.at 3 rfl rfl) f56 vw_any rfl rfl rfl hc20) r42 q42) ?_)
       rintro _ w59 hE56 ⟨rfl, -⟩
       have hL62 := hL61.ext hE56
       refine zbu rfl rfl (zdr hc28) (OpY.eql (x := r42) (y := 3) ((r42 : Int) = 3) rfl rfl zbk ?_)
       refine zaf (zci (t := (decide ((r41 : Int) = 3))) (v := (zaa (decide ((r42 : Int) = 3)))) rfl (zdr hc28) rfl ?_)
       refine zaf (zak (v := (zaa (decide ((r42 : Int) = 3)))) rfl ?_)
       refine zan (zbj ?_)
       obtain rfl := zag h
       refine ⟨[(zaa (decide ((r42 : Int) = 3)))], ⟨rfl, trivial⟩, ⟨_, rfl, hL62.done, ?_⟩⟩
       exact ⟨rfl, trivial⟩
      ·
       replace h := ite_f hc28 h
       refine zbq rfl rfl (zdq hc28) ?_
       refine zbq rfl rfl (zdq hc28) ?_
       refine zbq rfl rfl (zdq hc28) ?_
       refine zaf (zbx (t := (decide ((r41 : Int) = 3))) (v := (zaa false)) rfl (zdq hc28) rfl ?_)
       refine zaf (zak (v := (zaa false)) rfl ?_)
       refine zan (zbj ?_)
       obtain rfl := zag h
       refine ⟨[(zaa false)], ⟨rfl, trivial⟩, ⟨_, rfl, hL61.done, ?_⟩⟩
       exact ⟨rfl, trivial⟩
     ·
      replace h := ite_f hc27 h
      refine zbq rfl rfl (zdp hc27) ?_
      refine zbq rfl rfl (zdp hc27) ?_
      refine zbq rfl rfl (zdp hc27) ?_
      refine zaf (zbx (t := (!r40)) (v := (zaa false)) rfl (zdp hc27) rfl ?_)
      refine zaf (zai (v := (zaa false)) rfl ?_)
      refine zbq rfl rfl rfl ?_
      refine zbq rfl rfl rfl ?_
      refine zbq rfl rfl rfl ?_
      refine zaf (zbx (t := false) (v := (zaa false)) rfl rfl rfl ?_)
      refine zaf (zak (v := (zaa false)) rfl ?_)
      refine zan (zbj ?_)
      obtain rfl := zag h
      refine ⟨[(zaa false)], ⟨rfl, trivial⟩, ⟨_, rfl, hL60.done, ?_⟩⟩
      exact ⟨rfl, trivial⟩
    ·
     replace h := ite_f hc26 h
     refine zbq rfl rfl (zdp hc26) ?_
     refine zbq rfl rfl (zdp hc26) ?_
     refine zbq rfl rfl (zdp hc26) ?_
     refine zbq rfl rfl (zdp hc26) ?_
     refine zaf (zbx (t := r39) (v := (zaa false)) rfl (zdp hc26) rfl ?_)
     refine zaf (zai (v := (zaa false)) rfl ?_)
     refine zbq rfl rfl rfl ?_
     refine zbq rfl rfl rfl ?_
     refine zbq rfl rfl rfl ?_
     refine zaf (zbx (t := false) (v := (zaa false)) rfl rfl rfl ?_)
     refine zaf (zai (v := (zaa false)) rfl ?_)
     refine zbq rfl rfl rfl ?_
     refine zbq rfl rfl rfl ?_
     refine zbq rfl rfl rfl ?_
     refine zaf (zbx (t := false) (v := (zaa false)) rfl rfl rfl ?_)
     refine zaf (zak (v := (zaa false)) rfl ?_)
     refine zan (zbj ?_)
     obtain rfl := zag h
     refine ⟨[(zaa false)], ⟨rfl, trivial⟩, ⟨_, rfl, hL59.done, ?_⟩⟩
     exact ⟨rfl, trivial⟩
   ·
    replace h := ite_f hc25 h
    refine zbq rfl rfl (zdp hc25) ?_
    refine zbq rfl rfl (zdp hc25) ?_
    refine zbq rfl rfl (zdp hc25) ?_
    refine zaf (zbx (t := r38) (v := (zaa false)) rfl (zdp hc25) rfl ?_)
    refine zaf (zai (v := (zaa false)) rfl ?_)
    refine zbq rfl rfl rfl ?_
    refine zbq rfl rfl rfl ?_
    refine zbq rfl rfl rfl ?_
    refine zbq rfl rfl rfl ?_
    refine zaf (zbx (t := false) (v := (zaa false)) rfl rfl rfl ?_)
    refine zaf (zai (v := (zaa false)) rfl ?_)
    refine zbq rfl rfl rfl ?_
    refine zbq rfl rfl rfl ?_
    refine zbq rfl rfl rfl ?_
    refine zaf (zbx (t := false) (v := (zaa false)) rfl rfl rfl ?_)
    refine zaf (zai (v := (zaa false)) rfl ?_)
    refine zbq rfl rfl rfl ?_
    refine zbq rfl rfl rfl ?_
    refine zbq rfl rfl rfl ?_
    refine zaf (zbx (t := false) (v := (zaa false)) rfl rfl rfl ?_)
    refine zaf (zak (v := (zaa false)) rfl ?_)
    refine zan (zbj ?_)
    obtain rfl := zag h
    refine ⟨[(zaa false)], ⟨rfl, trivial⟩, ⟨_, rfl, hL58.done, ?_⟩⟩
    exact ⟨rfl, trivial⟩
  ·
   replace h := ite_f hc24 h
   refine zbq rfl rfl (zdp hc24) ?_
   refine zbq rfl rfl (zdp hc24) ?_
   refine zbq rfl rfl (zdp hc24) ?_
   refine zaf (zbx (t := (!r37)) (v := (zaa false)) rfl (zdp hc24) rfl ?_)
   refine zaf (zai (v := (zaa false)) rfl ?_)
   refine zbq rfl rfl rfl ?_
   refine zbq rfl rfl rfl ?_
   refine zbq rfl rfl rfl ?_
   refine zaf (zbx (t := false) (v := (zaa false)) rfl rfl rfl ?_)
   refine zaf (zai (v := (zaa false)) rfl ?_)
   refine zbq rfl rfl rfl ?_
   refine zbq rfl rfl rfl ?_
   refine zbq rfl rfl rfl ?_
   refine zbq rfl rfl rfl ?_
   refine zaf (zbx (t := false) (v := (zaa false)) rfl rfl rfl ?_)
   refine zaf (zai (v := (zaa false)) rfl ?_)
   refine zbq rfl rfl rfl ?_
   refine zbq rfl rfl rfl ?_
   refine zbq rfl rfl rfl ?_
   refine zaf (zbx (t := false) (v := (zaa false)) rfl rfl rfl ?_)
   refine zaf (zai (v := (zaa false)) rfl ?_)
   refine zbq rfl rfl rfl ?_
   refine zbq rfl rfl rfl ?_
   refine zbq rfl rfl rfl ?_
   refine zaf (zbx (t := false) (v := (zaa false)) rfl rfl rfl ?_)
   refine zaf (zak (v := (zaa false)) rfl ?_)
   refine zan (zbj ?_)
   obtain rfl := zag h
   refine ⟨[(zaa false)], ⟨rfl, trivial⟩, ⟨_, rfl, hL57.done, ?_⟩⟩
   exact ⟨rfl, trivial⟩
 ·
  replace h := ite_f hc22 h
  refine zbq rfl rfl (zdp hc22) ?_
  refine zbq rfl rfl (zdp hc22) ?_
  refine zbq rfl rfl (zdp hc22) ?_
  refine zbq rfl rfl (zdp hc22) ?_
  refine zbq rfl rfl (zdp hc22) ?_
  refine zbq rfl rfl (zdp hc22) ?_
  refine zbq rfl rfl (zdp hc22) ?_
  refine zaf (zbx (t := r33) (v := (zaa false)) rfl (zdp hc22) rfl ?_)
  refine zaf (zai (v := (zaa false)) rfl ?_)
  refine zbq rfl rfl rfl ?_
  refine zbq rfl rfl rfl ?_
  refine zbq rfl rfl rfl ?_
  refine zaf (zbx (t := false) (v := (zaa false)) rfl rfl rfl ?_)
  refine zaf (zai (v := (zaa false)) rfl ?_)
  refine zbq rfl rfl rfl ?_
  refine zbq rfl rfl rfl ?_
  refine zbq rfl rfl rfl ?_
  refine zaf (zbx (t := false) (v := (zaa false)) rfl rfl rfl ?_)
  refine zaf (zai (v := (zaa false)) rfl ?_)
  refine zbq rfl rfl rfl ?_
  refine zbq rfl rfl rfl ?_
  refine zbq rfl rfl rfl ?_
  refine zbq rfl rfl rfl ?_
  refine zaf (zbx (t := false) (v := (zaa false)) rfl rfl rfl ?_)
  refine zaf (zai (v := (zaa false)) rfl ?_)
  refine zbq rfl rfl rfl ?_
  refine zbq rfl rfl rfl ?_
  refine zbq rfl rfl rfl ?_
  refine zaf (zbx (t := false) (v := (zaa false)) rfl rfl rfl ?_)
  refine zaf (zai (v := (zaa false)) rfl ?_)
  refine zbq rfl rfl rfl ?_
  refine zbq rfl rfl rfl ?_
  refine zbq rfl rfl rfl ?_
  refine zaf (zbx (t := false) (v := (zaa false)) rfl rfl rfl ?_)
  refine zaf (zak (v := (zaa false)) rfl ?_)
  refine zan (zbj ?_)
  obtain rfl := zag h
  refine ⟨[(zaa false)], ⟨rfl, trivial⟩, ⟨_, rfl, hL52.done, ?_⟩⟩
  exact ⟨rfl, trivial⟩
theorem lawSound_w (N : Nat) (l : (List Ineq)) (p : Proof) (x : (List Big)) (l_v : Value) (p_v : Value) (p_v1 : Value) (p_v2 : Value) (p_v3 : Value) (x_v : Value) (w : World) (S : Nat → Prop) (l_h : Rs rIneq (vH w S [] w) l_v l) (p_h : Rs rStep (vH w S [] w) p_v p.Steps) (p_h1 : Rs rBig (vH w S [] w) p_v1 p.Form) (p_h2 : Rs (rInt .u32) (vH w S [] w) p_v2 p.Bound.Digits) (p_h3 : Rs rProof (vH w S [] w) p_v3 p.Children) (x_h : Rs rBig (vH w S [] w) x_v x) (r : Bool) (h : lawSound N l p x = some r) :
  Calls Try.prog 7 #[l_v, (zap #[p_v, p_v1, (zaa p.Bound.Negative), p_v2, p_v3]), x_v] w (Ret w (fun v w' => (zaa r) = v ∧ True)) := by
 unfold lawSound at h
 have hL : vL w w [] [] := Go.X.Loc.begin0 w
 refine calls_of (l := [l_v, (zap #[p_v, p_v1, (zaa p.Bound.Negative), p_v2, p_v3]), x_v]) (rl := [.tmp 6]) (n := 39) Try.func7 rfl rfl rfl (zae rfl) ?_
 refine zaj (zah rfl (zaf (zde (cs := [p_v, p_v1, (zaa p.Bound.Negative), p_v2, p_v3]) rfl rfl hL ?_)))
 intro b1 w2 hL3 hS5
 have K4 := ks w hS5
 refine zaf (zak (v := (zaa false)) rfl ?_)
 refine zan (zaj (zaj ?_))
 obtain ⟨s10, h, g10⟩ := zdo h
 refine zbr (fun e w' => ∃ (x10 : Bool) (u : Env), x10 = s10 ∧ e = upds [(0, l_v), (2, x_v), (4, (zao (some ⟨b1, 0, none⟩))), (22, (zaa x10))] u ∧ vL w w' [some b1] [zac [p_v, p_v1, (zaa p.Bound.Negative), p_v2, p_v3]] ∧ Keep w.heap.size [some b1] w2 [some b1] w' ∧ True) ?_ ?_
 ·
  refine zah rfl ?_
  obtain ⟨r10, q10, h⟩ := zdo h
  refine zaf (zaw en11 rfl rfl (awake_w N _ Any r10 q10) ?_)
  rintro _ w10 hE10 ⟨rfl, -⟩
  have hL10 := hL3.ext hE10
  have K10 := ke hL3 hE10
  refine zaf (OpY.not (x := r10) rfl ?_)
  refine zaf (zai (v := (zaa (!r10))) rfl ?_)
  by_cases hc10 : (!r10) = true
  ·
   replace h := ite_t hc10 h
   refine zbq rfl rfl hc10 ?_
   refine zbq rfl rfl hc10 ?_
   refine zbq rfl rfl hc10 ?_
   refine zbq rfl rfl hc10 ?_
   refine zbq rfl rfl hc10 ?_
   refine zbq rfl rfl hc10 ?_
   refine zbq rfl rfl hc10 ?_
   refine zaf (zci (t := (!r10)) (v := (zaa true)) rfl hc10 rfl ?_)
   refine zaf (zai (v := (zaa true)) rfl ?_)
   refine zbq rfl rfl rfl ?_
   refine zbq rfl rfl rfl ?_
   refine zbq rfl rfl rfl ?_
   refine zaf (zci (t := true) (v := (zaa true)) rfl rfl rfl ?_)
   refine zan ?_
   obtain rfl := zag h
   refine zar ?_
   exact ⟨true, _, rfl, (zdt ⟨rfl, rfl, rfl, rfl, trivial⟩), hL10, K10, trivial⟩
  ·
   replace h := ite_f hc10 h
   refine zbu rfl rfl (zdp hc10) (zai (v := x_v) rfl ?_)
   have f10 := ((x_h.mono (K4 S)).mono (K10 S))
   refine zbu rfl rfl (zdp hc10) (zcy (zc := [(zad none 0 0), (zaa false), (zad none 0 0)]) (cs := [x_v, (zaa false), (zad none 0 0)]) (is := [0]) (vs := [x_v]) (css := [[x_v]]) pl34 ti34 rfl rfl rfl ⟨(zec f10.one), trivial⟩ rfl ?_)
   have hE11 : Els rIneq (vH w S [some b1] w10) [x_v, (zaa false), (zad none 0 0)] [(Ineq.mk x (Big.mk false []))] := (zcg (a := [x_v, (zaa false), (zad none 0 0)]) (rIneq_close ⟨x_v, (zad none 0 0), rfl, f10, zdn, trivial⟩) zcp)
   refine zbu rfl rfl (zdp hc10) (zch (r := rIneq) (vs := [(zap #[x_v, (zaa false), (zad none 0 0)])]) (css := [[x_v, (zaa false), (zad none 0 0)]]) (xs := [(Ineq.mk x (Big.mk false []))]) zbl ti34 (zae rfl) rfl rfl ⟨rfl, rfl, trivial⟩ (zae rfl) hE11 rfl hL10 ?_)
   intro b10 w11 hc11 hL11 hS10
   have K11 := ks w hS10
   refine zbu rfl rfl (zdp hc10) (zai (v := l_v) rfl ?_)
   obtain ⟨x11, q11, h⟩ := zdo h
   obtain ⟨q12, q13, q14⟩ := zeb q11
   have f11 := (((l_h.mono (K4 S)).mono (K10 S)).mono (K11 S))
   obtain ⟨ds10, q15, q16⟩ := Rs.src f11
   have f12 := (hE11.mono (K11 S))
   refine zbu rfl rfl (zdp hc10) (zdk (r := rIneq) (H := (vH w S [some b10, some b1] w11)) (cs := [x_v, (zaa false), (zad none 0 0)]) (sp := []) (xs := [(Ineq.mk x (Big.mk false []))]) (ys := l) (Y := x11) (n := 1) (cap := 1) (i := 0) zbl ti34 rfl rfl rfl rfl hL11 rfl rfl f12 rfl hc11 q15 q16 q12 q13 q14 ?_)
   intro ob10 cap10 sp10 cs10 w12 hE12 hc12 (hL12 : vL w w12 [ob10, some b1] [zac ([] ++ (cs10 ++ sp10)), zac [p_v, p_v1, (zaa p.Bound.Negative), p_v2, p_v3]]) hS11
   have K12 := ks w hS11
   obtain ⟨r11, q17, h⟩ := zdo h
   have f13 := (hE12.mono (K12 S))
   refine zbu rfl rfl (zdp hc10) (zaw en12 rfl rfl (rSmall_w N x11 (osv ob10 0 x11.length cap10) _ Any (zdv (pre := []) (o := 0) (n := x11.length) (cap := cap10) (hL12.at 0 rfl rfl) f13 vw_any rfl rfl rfl hc12) r11 q17) ?_)
   rintro _ w13 hE13 ⟨rfl, -⟩
   have hL13 := hL12.ext hE13
   have K13 := ke hL12 hE13
   refine zbu rfl rfl (zdp hc10) (OpY.not (x := r11) rfl ?_)
   refine zaf (zbx (t := (!r10)) (v := (zaa (!r11))) rfl (zdp hc10) rfl ?_)
   refine zaf (zai (v := (zaa (!r11))) rfl ?_)
   by_cases hc13 : (!r11) = true
   ·
    replace h := ite_t hc13 h
    refine zbq rfl rfl hc13 ?_
    refine zbq rfl rfl hc13 ?_
    refine zbq rfl rfl hc13 ?_
    refine zaf (zci (t := (!r11)) (v := (zaa true)) rfl hc13 rfl ?_)
    refine zan ?_
    have hp10 := hL13.pick [1] rfl rfl rfl
    have hL14 : vL w w13 [some b1] [zac [p_v, p_v1, (zaa p.Bound.Negative), p_v2, p_v3]] := hp10.1
    have K14 := ks w hp10.2
    obtain rfl := zag h
    refine zar ?_
    exact ⟨true, _, rfl, (zdt ⟨rfl, rfl, rfl, rfl, trivial⟩), hL14, (zaq (zaq (zaq (zaq K10 K11) K12) K13) K14), trivial⟩
   ·
    replace h := ite_f hc13 h
    refine zbu rfl rfl (zdp hc13) (zbm (vs := [p_v, p_v1, (zaa p.Bound.Negative), p_v2, p_v3]) zbi rfl ti42 rfl (hL13.at 1 rfl rfl) rfl rfl ?_)
    obtain ⟨r12, q18, h⟩ := zdo h
    have f14 := (((((p_h.mono (K4 S)).mono (K10 S)).mono (K11 S)).mono (K12 S)).mono (K13 S))
    have f15 := (((((p_h1.mono (K4 S)).mono (K10 S)).mono (K11 S)).mono (K12 S)).mono (K13 S))
    have f16 := (((((p_h2.mono (K4 S)).mono (K10 S)).mono (K11 S)).mono (K12 S)).mono (K13 S))
    have f17 := (((((p_h3.mono (K4 S)).mono (K10 S)).mono (K11 S)).mono (K12 S)).mono (K13 S))
    refine zbu rfl rfl (zdp hc13) (zaw en17 rfl rfl (rSmallProof_w N p p_v p_v1 p_v2 p_v3 _ Any (f14.mono vw_any) (f15.mono vw_any) (f16.mono vw_any) (f17.mono vw_any) r12 q18) ?_)
    rintro _ w14 hE14 ⟨rfl, -⟩
    have hL15 := hL13.ext hE14
    have K15 := ke hL13 hE14
    refine zbu rfl rfl (zdp hc13) (OpY.not (x := r12) rfl ?_)
    refine zaf (zbx (t := (!r11)) (v := (zaa (!r12))) rfl (zdp hc13) rfl ?_)
    refine zan ?_
    have hp11 := hL15.pick [1] rfl rfl rfl
    have hL16 : vL w w14 [some b1] [zac [p_v, p_v1, (zaa p.Bound.Negative), p_v2, p_v3]] := hp11.1
    have K16 := ks w hp11.2
    obtain rfl := zag h
    refine zar ?_
    exact ⟨(!r12), _, rfl, (zdt ⟨rfl, rfl, rfl, rfl, trivial⟩), hL16, (zaq (zaq (zaq (zaq (zaq K10 K11) K12) K13) K15) K16), trivial⟩
 ·
  rintro _ w15 ⟨x10, u, rfl, rfl, hL17, K17, -⟩
  replace h := g10
  try dsimp only at h
  refine zcr x10 rfl (fun hc14 => ?_) (fun hc14 => ?_)
  ·
   replace h := ite_t hc14 h
   refine zaj (zah rfl ?_)
   obtain ⟨r13, q19, h⟩ := zdo h
   refine zaf (zaw en11 rfl rfl (awake_w N _ Any r13 q19) ?_)
   rintro _ w16 hE15 ⟨rfl, -⟩
   have hL18 := hL17.ext hE15
   refine zaf (zak (v := (zaa r13)) rfl ?_)
   refine zan (zbj ?_)
   obtain rfl := zag h
   refine ⟨[(zaa r13)], ⟨rfl, trivial⟩, ⟨_, rfl, hL18.done, ?_⟩⟩
   exact ⟨rfl, trivial⟩
  ·
   replace h := ite_f hc14 h
   refine zbf (zaj (zah rfl (zaf (zai (v := l_v) rfl ?_))))
   refine zaf (zbm (vs := [p_v, p_v1, (zaa p.Bound.Negative), p_v2, p_v3]) zbi rfl ti42 rfl (hL17.at 0 rfl rfl) rfl rfl ?_)
   obtain ⟨r14, q20, h⟩ := zdo h
   have f18 := ((l_h.mono (K4 S)).mono (K17 S))
   have f19 := ((p_h.mono (K4 S)).mono (K17 S))
   have f20 := ((p_h1.mono (K4 S)).mono (K17 S))
   have f21 := ((p_h2.mono (K4 S)).mono (K17 S))
   have f22 := ((p_h3.mono (K4 S)).mono (K17 S))
   refine zaf (zaw en18 rfl rfl (cCheck_w N l p l_v p_v p_v1 p_v2 p_v3 _ Any (f18.mono vw_any) (f19.mono vw_any) (f20.mono vw_any) (f21.mono vw_any) (f22.mono vw_any) r14 q20) ?_)
   rintro _ w17 hE16 ⟨rfl, -⟩
   have hL19 := hL17.ext hE16
   have K18 := ke hL17 hE16
   refine zaf (OpY.not (x := r14) rfl ?_)
   refine zaf (zai (v := (zaa (!r14))) rfl ?_)
   by_cases hc15 : (!r14) = true
   ·
    replace h := ite_t hc15 h
    refine zbq rfl rfl hc15 ?_
    refine zbq rfl rfl hc15 ?_
    refine zbq rfl rfl hc15 ?_
    refine zaf (zci (t := (!r14)) (v := (zaa true)) rfl hc15 rfl ?_)
    refine zaf (zai (v := (zaa true)) rfl ?_)
    refine zbq rfl rfl rfl ?_
    refine zbq rfl rfl rfl ?_
    refine zbq rfl rfl rfl ?_
    refine zbq rfl rfl rfl ?_
    refine zaf (zci (t := true) (v := (zaa true)) rfl rfl rfl ?_)
    refine zaf (zak (v := (zaa true)) rfl ?_)
    refine zan (zbj ?_)
    obtain rfl := zag h
    refine ⟨[(zaa true)], ⟨rfl, trivial⟩, ⟨_, rfl, hL19.done, ?_⟩⟩
    exact ⟨rfl, trivial⟩
   ·
    replace h := ite_f hc15 h
    refine zbu rfl rfl (zdp hc15) (zai (v := l_v) rfl ?_)
    have f23 := (f18.mono (K18 S))
    refine zbu rfl rfl (zdp hc15) (zbd (v := l_v) zbl rfl f23 ?_)
    refine zbu rfl rfl (zdp hc15) (OpY.eql (x := (l.length : Int)) (y := 0) (((l.length : Int) : Int) = 0) rfl rfl zbk ?_)
    refine zaf (zbx (t := (!r14)) (v := (zaa (decide (((l.length : Int) : Int) = 0)))) rfl (zdp hc15) rfl ?_)
    refine zaf (zai (v := (zaa (decide (((l.length : Int) : Int) = 0)))) rfl ?_)
    by_cases hc16 : ((l.length : Int) : Int) = 0
    ·
     replace h := ite_t hc16 h
     refine zbq rfl rfl (zdr hc16) ?_
     refine zbq rfl rfl (zdr hc16) ?_
     refine zbq rfl rfl (zdr hc16) ?_
     refine zbq rfl rfl (zdr hc16) ?_
     refine zaf (zci (t := (decide (((l.length : Int) : Int) = 0))) (v := (zaa true)) rfl (zdr hc16) rfl ?_)
     refine zaf (zak (v := (zaa true)) rfl ?_)
     refine zan (zbj ?_)
     obtain rfl := zag h
     refine ⟨[(zaa true)], ⟨rfl, trivial⟩, ⟨_, rfl, hL19.done, ?_⟩⟩
     exact ⟨rfl, trivial⟩
    ·
     replace h := ite_f hc16 h
     refine zbu rfl rfl (zdq hc16) (zai (v := l_v) rfl ?_)
     refine zbu rfl rfl (zdq hc16) (zai (v := x_v) rfl ?_)
     obtain ⟨r15, q21, h⟩ := zdo h
     have f24 := (((x_h.mono (K4 S)).mono (K17 S)).mono (K18 S))
     refine zbu rfl rfl (zdq hc16) (zaw en26 rfl rfl (rAll_w N l x l_v x_v _ Any (f23.mono vw_any) (f24.mono vw_any) r15 q21) ?_)
     rintro _ w18 hE17 ⟨rfl, -⟩
     have hL20 := hL19.ext hE17
     refine zbu rfl rfl (zdq hc16) (OpY.not (x := r15) rfl ?_)
     refine zaf (zbx (t := (decide (((l.length : Int) : Int) = 0))) (v := (zaa (!r15))) rfl (zdq hc16) rfl ?_)
     refine zaf (zak (v := (zaa (!r15))) rfl ?_)
     refine zan (zbj ?_)
     obtain rfl := zag h
     refine ⟨[(zaa (!r15))], ⟨rfl, trivial⟩, ⟨_, rfl, hL20.done, ?_⟩⟩
     exact ⟨rfl, trivial⟩
end Go.Proofs.Ytakkacdhlocckaa.WL

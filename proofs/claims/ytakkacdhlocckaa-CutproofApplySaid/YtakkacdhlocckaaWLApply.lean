/- Walks, written by a program of mine (wip/tool); the kernel checks them. -/
import Derived.Test.YtakkacdhlocckaaProg
import Derived.Test.YtakkacdhlocckaaSqApply
import Derived.Test.YtakkacdhlocckaaPL
import Derived.Test.YtakkacdhlocckaaWAApply
import Derived.Test.YtakkacdhlocckaaWRApply
import Derived.Test.YtakkacdhlocckaaWBApply
import Derived.Test.YtakkacdhlocckaaWCApply
import Derived.Test.YtakkacdhlocckaaWDApply
set_option maxRecDepth 100000
set_option maxHeartbeats 4000000
set_option linter.unusedVariables false
namespace Go.Proofs.Ytakkacdhlocckaa.WL
open Go Go.RowKit Go.X Go.D Go.Proofs.Ytakkacdhlocckaa.WA Go.Proofs.Ytakkacdhlocckaa.WR Go.Proofs.Ytakkacdhlocckaa.WB Go.Proofs.Ytakkacdhlocckaa.WC Go.Proofs.Ytakkacdhlocckaa.WD
theorem en24 : Enters Try.prog 24 := ⟨Try.f24, Try.func24, by kernel_rfl, by kernel_rfl⟩
theorem en41 : Enters Try.prog 41 := ⟨Try.f41, Try.func41, by kernel_rfl, by kernel_rfl⟩
theorem en42 : Enters Try.prog 42 := ⟨Try.f42, Try.func42, by kernel_rfl, by kernel_rfl⟩
theorem en20 : Enters Try.prog 20 := ⟨Try.f20, Try.func20, by kernel_rfl, by kernel_rfl⟩
theorem en11 : Enters Try.prog 11 := ⟨Try.f11, Try.func11, by kernel_rfl, by kernel_rfl⟩
theorem en12 : Enters Try.prog 12 := ⟨Try.f12, Try.func12, by kernel_rfl, by kernel_rfl⟩
theorem lbig_w (N : Nat) (n : Int)  (w : World) (S : Nat → Prop)  (r : Big) (h : lbig N n = some r) :
  Calls Try.prog 24 #[(zac .i64 n)] w (Ret w (fun v w' => ∃ (v0_0 : Value), (zan #[(zaa r.Negative), v0_0]) = v ∧ Rs (rInt .u32) (vH w None [] w') v0_0 r.Digits ∧ True)) := by
 unfold lbig at h
 have hL : vL w w [] [] := Go.X.Loc.begin0 w
 refine calls_of (l := [(zac .i64 n)]) (rl := [.cell 2 26]) (n := 5) Try.func24 rfl rfl rfl (zae rfl) ?_
 refine zaj (zah rfl (zaf (zbw (cs := [(zaa false), (zad none 0 0)]) ti26 rfl hL ?_)))
 intro b1 w2 hL3 hS5
 refine zap (zaj (zah rfl (zaf (zai (v := (zac .i64 n)) rfl ?_))))
 obtain ⟨r6, q7, h⟩ := bind_some h
 refine zaf (zaw en37 rfl rfl (rOf_w N n _ Any r6 q7) ?_)
 rintro _ w11 hE14 ⟨v8, rfl, k9, -⟩
 replace k9 := k9.mono (zbc (S := None) hL3 [])
 have hL12 := hL3.ext hE14
 refine zcb (zbh (vs := [(zaa r6.Negative), v8]) ti26 rfl rfl rfl rfl (ones_cons rfl (ones_cons k9.one ones_nil)) hL12 0 rfl rfl (zae rfl) ?_)
 intro w15 (hL16 : vL w w15 [some b1] [zab [(zaa r6.Negative), v8]]) hS18
 have K17 := ks w hS18
 refine zap (zbl ?_)
 obtain rfl := zag h
 refine ⟨[(zan #[(zaa r6.Negative), v8])], ⟨⟨⟨b1, 0, none⟩, rfl, res_boxA zal rfl ti26 (hL16.at 0 rfl rfl) rfl⟩, trivial⟩, ⟨_, rfl, hL16.done, ?_⟩⟩
 have f19 := (k9.mono (K17 None))
 exact ⟨v8, rfl, (f19.mono zdf), trivial⟩
theorem linequality_w (N : Nat) (coef : Int) (bound : Int)  (w : World) (S : Nat → Prop)  (r : Ineq) (h : linequality N coef bound = some r) :
  Calls Try.prog 41 #[(zac .i64 coef), (zac .i64 bound)] w (Ret w (fun v w' => ∃ (v0_0 : Value) (v0_1 : Value), (zan #[v0_0, (zaa r.Bound.Negative), v0_1]) = v ∧ Rs rBig (vH w None [] w') v0_0 r.Coefs ∧ Rs (rInt .u32) (vH w None [] w') v0_1 r.Bound.Digits ∧ True)) := by
 unfold linequality at h
 have hL : vL w w [] [] := Go.X.Loc.begin0 w
 refine calls_of (l := [(zac .i64 coef), (zac .i64 bound)]) (rl := [.cell 4 34]) (n := 11) Try.func41 rfl rfl rfl (zae rfl) ?_
 refine zaj (zah rfl (zaf (zbw (cs := [(zad none 0 0), (zaa false), (zad none 0 0)]) ti34 rfl hL ?_)))
 intro b1 w2 hL3 hS5
 refine zap (zaj (zah rfl (zaf (zai (v := (zac .i64 coef)) rfl ?_))))
 obtain ⟨r6, q7, h⟩ := bind_some h
 refine zaf (zaw en24 rfl rfl (lbig_w N coef _ Any r6 q7) ?_)
 rintro _ w11 hE14 ⟨v8, rfl, k9, -⟩
 replace k9 := k9.mono (zbc (S := None) hL3 [])
 have hL12 := hL3.ext hE14
 have hE16 : Els rBig (vH w None [some b1] w11) [(zaa r6.Negative), v8] [r6] := (zco (a := [(zaa r6.Negative), v8]) (rBig_close ⟨v8, rfl, k9, trivial⟩) zct)
 refine zaf (zcp (r := rBig) (vs := [(zan #[(zaa r6.Negative), v8])]) (css := [[(zaa r6.Negative), v8]]) (xs := [r6]) zax ti26 (zae rfl) rfl rfl ⟨rfl, rfl, trivial⟩ (zae rfl) hE16 rfl hL12 ?_)
 intro b15 w19 hc17 hL20 hS22
 have K21 := ks w hS22
 refine zaf (zai (v := (zac .i64 bound)) rfl ?_)
 obtain ⟨r23, q24, h⟩ := bind_some h
 refine zaf (zaw en24 rfl rfl (lbig_w N bound _ Any r23 q24) ?_)
 rintro _ w28 hE31 ⟨v25, rfl, k26, -⟩
 replace k26 := k26.mono (zbc (S := None) hL20 [])
 have hL29 := hL20.ext hE31
 have K30 := ke hL20 hE31
 refine zaf (zcx (zc := [(zad none 0 0), (zaa false), (zad none 0 0)]) (cs := [(osv (some b15) 0 1 1), (zaa r23.Negative), v25]) (is := [0, 1]) (vs := [(osv (some b15) 0 1 1), (zan #[(zaa r23.Negative), v25])]) (css := [[(osv (some b15) 0 1 1)], [(zaa r23.Negative), v25]]) pl34 ti34 rfl rfl rfl ⟨(one_cells (osv_one _ _ _ _)), ⟨rfl, trivial⟩⟩ rfl ?_)
 refine zcb (zbh (vs := [(osv (some b15) 0 1 1), (zaa r23.Negative), v25]) ti34 rfl rfl rfl rfl (ones_cons (osv_one _ _ _ _) (ones_cons rfl (ones_cons k26.one ones_nil))) hL29 1 rfl rfl (zae rfl) ?_)
 intro w32 (hL33 : vL w w32 [some b15, some b1] [zab ([] ++ ([(zaa r6.Negative), v8] ++ [])), zab [(osv (some b15) 0 1 1), (zaa r23.Negative), v25]]) hS35
 have K34 := ks w hS35
 refine zap ?_
 have f37 := (((hE16.mono (K21 None)).mono (K30 None)).mono (K34 None))
 have f36 := hL33.freezeRow 0 rfl rfl f37 rfl rfl rfl hc17
 have hp38 := hL33.pick [1] rfl rfl rfl
 have hL40 : vL w w32 [some b1] [zab [(osv (some b15) 0 1 1), (zaa r23.Negative), v25]] := hp38.1
 have K39 := ks w hp38.2
 refine zbl ?_
 obtain rfl := zag h
 refine ⟨[(zan #[(osv (some b15) 0 1 1), (zaa r23.Negative), v25])], ⟨⟨⟨b1, 0, none⟩, rfl, res_boxA zba rfl ti34 (hL40.at 0 rfl rfl) rfl⟩, trivial⟩, ⟨_, rfl, hL40.done, ?_⟩⟩
 have f41 := ((k26.mono (K34 None)).mono (K39 None))
 exact ⟨(osv (some b15) 0 1 1), v25, rfl, (f36.mono zdf), (f41.mono zdf), trivial⟩
theorem luse_w (N : Nat) (i : Int) (n : Int)  (w : World) (S : Nat → Prop)  (r : Use) (h : luse N i n = some r) :
  Calls Try.prog 42 #[(zac .i64 i), (zac .i64 n)] w (Ret w (fun v w' => ∃ (v0_0 : Value), (zan #[(zac .i64 r.Index), (zaa r.N.Negative), v0_0]) = v ∧ Rs (rInt .u32) (vH w None [] w') v0_0 r.N.Digits ∧ True)) := by
 unfold luse at h
 have hL : vL w w [] [] := Go.X.Loc.begin0 w
 refine calls_of (l := [(zac .i64 i), (zac .i64 n)]) (rl := [.cell 4 50]) (n := 9) Try.func42 rfl rfl rfl (zae rfl) ?_
 refine zaj (zah rfl (zaf (zbw (cs := [(zac .i64 0), (zaa false), (zad none 0 0)]) ti50 rfl hL ?_)))
 intro b1 w2 hL3 hS5
 refine zap (zaj (zah rfl (zaf (zai (v := (zac .i64 i)) rfl ?_))))
 refine zaf (zai (v := (zac .i64 n)) rfl ?_)
 obtain ⟨r6, q7, h⟩ := bind_some h
 refine zaf (zaw en24 rfl rfl (lbig_w N n _ Any r6 q7) ?_)
 rintro _ w11 hE14 ⟨v8, rfl, k9, -⟩
 replace k9 := k9.mono (zbc (S := None) hL3 [])
 have hL12 := hL3.ext hE14
 refine zaf (zcx (zc := [(zac .i64 0), (zaa false), (zad none 0 0)]) (cs := [(zac .i64 i), (zaa r6.Negative), v8]) (is := [0, 1]) (vs := [(zac .i64 i), (zan #[(zaa r6.Negative), v8])]) (css := [[(zac .i64 i)], [(zaa r6.Negative), v8]]) pl50 ti50 rfl rfl rfl ⟨rfl, rfl, trivial⟩ rfl ?_)
 refine zcb (zbh (vs := [(zac .i64 i), (zaa r6.Negative), v8]) ti50 rfl rfl rfl rfl (ones_cons rfl (ones_cons rfl (ones_cons k9.one ones_nil))) hL12 0 rfl rfl (zae rfl) ?_)
 intro w15 (hL16 : vL w w15 [some b1] [zab [(zac .i64 i), (zaa r6.Negative), v8]]) hS18
 have K17 := ks w hS18
 refine zap (zbl ?_)
 obtain rfl := zag h
 refine ⟨[(zan #[(zac .i64 i), (zaa r6.Negative), v8])], ⟨⟨⟨b1, 0, none⟩, rfl, res_boxA zch rfl ti50 (hL16.at 0 rfl rfl) rfl⟩, trivial⟩, ⟨_, rfl, hL16.done, ?_⟩⟩
 have f19 := (k9.mono (K17 None))
 exact ⟨v8, rfl, (f19.mono zdf), trivial⟩
theorem awake_w (N : Nat)   (w : World) (S : Nat → Prop)  (r : Bool) (h : awake N  = some r) :
  Calls Try.prog 11 #[] w (Ret w (fun v w' => (zaa r) = v ∧ True)) := by
 unfold awake at h
 have hL : vL w w [] [] := Go.X.Loc.begin0 w
 refine calls_of (l := []) (rl := [.tmp 0]) (n := 84) Try.func11 rfl rfl rfl (zae rfl) ?_
 refine zaj (zah rfl (zaf (zak (v := (zaa false)) rfl ?_)))
 refine zap (zaj (zah rfl ?_))
 obtain ⟨r1, q2, h⟩ := bind_some h
 refine zaf (zaw en41 rfl rfl (linequality_w N 1 2 _ Any r1 q2) ?_)
 rintro _ w8 hE11 ⟨v3, v5, rfl, k4, k6, -⟩
 replace k4 := k4.mono (zbc (S := None) hL [])
 replace k6 := k6.mono (zbc (S := None) hL [])
 have hL9 := hL.ext hE11
 obtain ⟨r12, q13, h⟩ := bind_some h
 refine zaf (zaw en41 rfl rfl (linequality_w N (-1) (-5) _ Any r12 q13) ?_)
 rintro _ w19 hE22 ⟨v14, v16, rfl, k15, k17, -⟩
 replace k15 := k15.mono (zbc (S := None) hL9 [])
 replace k17 := k17.mono (zbc (S := None) hL9 [])
 have hL20 := hL9.ext hE22
 have K21 := ke hL9 hE22
 have f27 := (k4.mono (K21 None))
 have f28 := (k6.mono (K21 None))
 have hE24 : Els rIneq (vH w None [] w19) [v3, (zaa r1.Bound.Negative), v5, v14, (zaa r12.Bound.Negative), v16] [r1, r12] := (zco (a := [v3, (zaa r1.Bound.Negative), v5]) (rIneq_close ⟨v3, v5, rfl, f27, f28, trivial⟩) (zco (a := [v14, (zaa r12.Bound.Negative), v16]) (rIneq_close ⟨v14, v16, rfl, k15, k17, trivial⟩) zct))
 refine zaf (zcp (r := rIneq) (vs := [(zan #[v3, (zaa r1.Bound.Negative), v5]), (zan #[v14, (zaa r12.Bound.Negative), v16])]) (css := [[v3, (zaa r1.Bound.Negative), v5], [v14, (zaa r12.Bound.Negative), v16]]) (xs := [r1, r12]) zbm ti34 (zae rfl) rfl rfl ⟨rfl, rfl, ⟨rfl, rfl, trivial⟩⟩ (zae rfl) hE24 rfl hL20 ?_)
 intro b23 w29 hc25 hL30 hS32
 have K31 := ks w hS32
 refine zaf (zak (v := (osv (some b23) 0 2 2)) rfl ?_)
 refine zap (zaj (zah rfl ?_))
 obtain ⟨r33, q34, h⟩ := bind_some h
 refine zaf (zaw en41 rfl rfl (linequality_w N 2 5 _ Any r33 q34) ?_)
 rintro _ w40 hE43 ⟨v35, v37, rfl, k36, k38, -⟩
 replace k36 := k36.mono (zbc (S := None) hL30 [])
 replace k38 := k38.mono (zbc (S := None) hL30 [])
 have hL41 := hL30.ext hE43
 have K42 := ke hL30 hE43
 obtain ⟨r44, q45, h⟩ := bind_some h
 refine zaf (zaw en41 rfl rfl (linequality_w N (-2) (-5) _ Any r44 q45) ?_)
 rintro _ w51 hE54 ⟨v46, v48, rfl, k47, k49, -⟩
 replace k47 := k47.mono (zbc (S := None) hL41 [])
 replace k49 := k49.mono (zbc (S := None) hL41 [])
 have hL52 := hL41.ext hE54
 have K53 := ke hL41 hE54
 have f59 := (k36.mono (K53 None))
 have f60 := (k38.mono (K53 None))
 have hE56 : Els rIneq (vH w None [some b23] w51) [v35, (zaa r33.Bound.Negative), v37, v46, (zaa r44.Bound.Negative), v48] [r33, r44] := (zco (a := [v35, (zaa r33.Bound.Negative), v37]) (rIneq_close ⟨v35, v37, rfl, f59, f60, trivial⟩) (zco (a := [v46, (zaa r44.Bound.Negative), v48]) (rIneq_close ⟨v46, v48, rfl, k47, k49, trivial⟩) zct))
 refine zaf (zcp (r := rIneq) (vs := [(zan #[v35, (zaa r33.Bound.Negative), v37]), (zan #[v46, (zaa r44.Bound.Negative), v48])]) (css := [[v35, (zaa r33.Bound.Negative), v37], [v46, (zaa r44.Bound.Negative), v48]]) (xs := [r33, r44]) zbm ti34 (zae rfl) rfl rfl ⟨rfl, rfl, ⟨rfl, rfl, trivial⟩⟩ (zae rfl) hE56 rfl hL52 ?_)
 intro b55 w61 hc57 hL62 hS64
 have K63 := ks w hS64
 refine zaf (zak (v := (osv (some b55) 0 2 2)) rfl ?_)
 refine zap (zaj (zah rfl ?_))
 obtain ⟨r65, q66, h⟩ := bind_some h
 refine zaf (zaw en41 rfl rfl (linequality_w N 3 4 _ Any r65 q66) ?_)
 rintro _ w72 hE75 ⟨v67, v69, rfl, k68, k70, -⟩
 replace k68 := k68.mono (zbc (S := None) hL62 [])
 replace k70 := k70.mono (zbc (S := None) hL62 [])
 have hL73 := hL62.ext hE75
 have K74 := ke hL62 hE75
 obtain ⟨r76, q77, h⟩ := bind_some h
 refine zaf (zaw en41 rfl rfl (linequality_w N (-3) (-4) _ Any r76 q77) ?_)
 rintro _ w83 hE86 ⟨v78, v80, rfl, k79, k81, -⟩
 replace k79 := k79.mono (zbc (S := None) hL73 [])
 replace k81 := k81.mono (zbc (S := None) hL73 [])
 have hL84 := hL73.ext hE86
 have K85 := ke hL73 hE86
 have f91 := (k68.mono (K85 None))
 have f92 := (k70.mono (K85 None))
 have hE88 : Els rIneq (vH w None [some b55, some b23] w83) [v67, (zaa r65.Bound.Negative), v69, v78, (zaa r76.Bound.Negative), v80] [r65, r76] := (zco (a := [v67, (zaa r65.Bound.Negative), v69]) (rIneq_close ⟨v67, v69, rfl, f91, f92, trivial⟩) (zco (a := [v78, (zaa r76.Bound.Negative), v80]) (rIneq_close ⟨v78, v80, rfl, k79, k81, trivial⟩) zct))
 refine zaf (zcp (r := rIneq) (vs := [(zan #[v67, (zaa r65.Bound.Negative), v69]), (zan #[v78, (zaa r76.Bound.Negative), v80])]) (css := [[v67, (zaa r65.Bound.Negative), v69], [v78, (zaa r76.Bound.Negative), v80]]) (xs := [r65, r76]) zbm ti34 (zae rfl) rfl rfl ⟨rfl, rfl, ⟨rfl, rfl, trivial⟩⟩ (zae rfl) hE88 rfl hL84 ?_)
 intro b87 w93 hc89 hL94 hS96
 have K95 := ks w hS96
 refine zaf (zak (v := (osv (some b87) 0 2 2)) rfl ?_)
 refine zap (zaj (zah rfl ?_))
 obtain ⟨r97, q98, h⟩ := bind_some h
 refine zaf (zaw en42 rfl rfl (luse_w N 0 1 _ Any r97 q98) ?_)
 rintro _ w102 hE105 ⟨v99, rfl, k100, -⟩
 replace k100 := k100.mono (zbc (S := None) hL94 [])
 have hL103 := hL94.ext hE105
 have K104 := ke hL94 hE105
 have hE107 : Els rUse (vH w None [some b87, some b55, some b23] w102) [(zac .i64 r97.Index), (zaa r97.N.Negative), v99] [r97] := (zco (a := [(zac .i64 r97.Index), (zaa r97.N.Negative), v99]) (rUse_close ⟨v99, rfl, k100, trivial⟩) zct)
 refine zaf (zcp (r := rUse) (vs := [(zan #[(zac .i64 r97.Index), (zaa r97.N.Negative), v99])]) (css := [[(zac .i64 r97.Index), (zaa r97.N.Negative), v99]]) (xs := [r97]) zbx ti50 (zae rfl) rfl rfl ⟨rfl, rfl, trivial⟩ (zae rfl) hE107 rfl hL103 ?_)
 intro b106 w110 hc108 hL111 hS113
 have K112 := ks w hS113
 obtain ⟨r114, q115, h⟩ := bind_some h
 refine zaf (zaw en24 rfl rfl (lbig_w N 2 _ Any r114 q115) ?_)
 rintro _ w119 hE122 ⟨v116, rfl, k117, -⟩
 replace k117 := k117.mono (zbc (S := None) hL111 [])
 have hL120 := hL111.ext hE122
 have K121 := ke hL111 hE122
 refine zaf (zcx (zc := [(zad none 0 0), (zaa false), (zad none 0 0)]) (cs := [(osv (some b106) 0 1 1), (zaa r114.Negative), v116]) (is := [0, 1]) (vs := [(osv (some b106) 0 1 1), (zan #[(zaa r114.Negative), v116])]) (css := [[(osv (some b106) 0 1 1)], [(zaa r114.Negative), v116]]) pl28 ti28 rfl rfl rfl ⟨(one_cells (osv_one _ _ _ _)), ⟨rfl, trivial⟩⟩ rfl ?_)
 obtain ⟨r123, q124, h⟩ := bind_some h
 refine zaf (zaw en42 rfl rfl (luse_w N 1 1 _ Any r123 q124) ?_)
 rintro _ w128 hE131 ⟨v125, rfl, k126, -⟩
 replace k126 := k126.mono (zbc (S := None) hL120 [])
 have hL129 := hL120.ext hE131
 have K130 := ke hL120 hE131
 have hE133 : Els rUse (vH w None [some b106, some b87, some b55, some b23] w128) [(zac .i64 r123.Index), (zaa r123.N.Negative), v125] [r123] := (zco (a := [(zac .i64 r123.Index), (zaa r123.N.Negative), v125]) (rUse_close ⟨v125, rfl, k126, trivial⟩) zct)
 refine zaf (zcp (r := rUse) (vs := [(zan #[(zac .i64 r123.Index), (zaa r123.N.Negative), v125])]) (css := [[(zac .i64 r123.Index), (zaa r123.N.Negative), v125]]) (xs := [r123]) zbx ti50 (zae rfl) rfl rfl ⟨rfl, rfl, trivial⟩ (zae rfl) hE133 rfl hL129 ?_)
 intro b132 w136 hc134 hL137 hS139
 have K138 := ks w hS139
 obtain ⟨r140, q141, h⟩ := bind_some h
 refine zaf (zaw en24 rfl rfl (lbig_w N 2 _ Any r140 q141) ?_)
 rintro _ w145 hE148 ⟨v142, rfl, k143, -⟩
 replace k143 := k143.mono (zbc (S := None) hL137 [])
 have hL146 := hL137.ext hE148
 have K147 := ke hL137 hE148
 refine zaf (zcx (zc := [(zad none 0 0), (zaa false), (zad none 0 0)]) (cs := [(osv (some b132) 0 1 1), (zaa r140.Negative), v142]) (is := [0, 1]) (vs := [(osv (some b132) 0 1 1), (zan #[(zaa r140.Negative), v142])]) (css := [[(osv (some b132) 0 1 1)], [(zaa r140.Negative), v142]]) pl28 ti28 rfl rfl rfl ⟨(one_cells (osv_one _ _ _ _)), ⟨rfl, trivial⟩⟩ rfl ?_)
 obtain ⟨r149, q150, h⟩ := bind_some h
 refine zaf (zaw en42 rfl rfl (luse_w N 2 1 _ Any r149 q150) ?_)
 rintro _ w154 hE157 ⟨v151, rfl, k152, -⟩
 replace k152 := k152.mono (zbc (S := None) hL146 [])
 have hL155 := hL146.ext hE157
 have K156 := ke hL146 hE157
 obtain ⟨r158, q159, h⟩ := bind_some h
 refine zaf (zaw en42 rfl rfl (luse_w N 3 1 _ Any r158 q159) ?_)
 rintro _ w163 hE166 ⟨v160, rfl, k161, -⟩
 replace k161 := k161.mono (zbc (S := None) hL155 [])
 have hL164 := hL155.ext hE166
 have K165 := ke hL155 hE166
 have f171 := (k152.mono (K165 None))
 have hE168 : Els rUse (vH w None [some b132, some b106, some b87, some b55, some b23] w163) [(zac .i64 r149.Index), (zaa r149.N.Negative), v151, (zac .i64 r158.Index), (zaa r158.N.Negative), v160] [r149, r158] := (zco (a := [(zac .i64 r149.Index), (zaa r149.N.Negative), v151]) (rUse_close ⟨v151, rfl, f171, trivial⟩) (zco (a := [(zac .i64 r158.Index), (zaa r158.N.Negative), v160]) (rUse_close ⟨v160, rfl, k161, trivial⟩) zct))
 refine zaf (zcp (r := rUse) (vs := [(zan #[(zac .i64 r149.Index), (zaa r149.N.Negative), v151]), (zan #[(zac .i64 r158.Index), (zaa r158.N.Negative), v160])]) (css := [[(zac .i64 r149.Index), (zaa r149.N.Negative), v151], [(zac .i64 r158.Index), (zaa r158.N.Negative), v160]]) (xs := [r149, r158]) zbx ti50 (zae rfl) rfl rfl ⟨rfl, rfl, ⟨rfl, rfl, trivial⟩⟩ (zae rfl) hE168 rfl hL164 ?_)
 intro b167 w172 hc169 hL173 hS175
 have K174 := ks w hS175
 obtain ⟨r176, q177, h⟩ := bind_some h
 refine zaf (zaw en24 rfl rfl (lbig_w N 1 _ Any r176 q177) ?_)
 rintro _ w181 hE184 ⟨v178, rfl, k179, -⟩
 replace k179 := k179.mono (zbc (S := None) hL173 [])
 have hL182 := hL173.ext hE184
 have K183 := ke hL173 hE184
 refine zaf (zcx (zc := [(zad none 0 0), (zaa false), (zad none 0 0)]) (cs := [(osv (some b167) 0 2 2), (zaa r176.Negative), v178]) (is := [0, 1]) (vs := [(osv (some b167) 0 2 2), (zan #[(zaa r176.Negative), v178])]) (css := [[(osv (some b167) 0 2 2)], [(zaa r176.Negative), v178]]) pl28 ti28 rfl rfl rfl ⟨(one_cells (osv_one _ _ _ _)), ⟨rfl, trivial⟩⟩ rfl ?_)
 have f187 := (((((((((hE107.mono (K112 None)).mono (K121 None)).mono (K130 None)).mono (K138 None)).mono (K147 None)).mono (K156 None)).mono (K165 None)).mono (K174 None)).mono (K183 None))
 have f186 := hL182.freezeRow 2 rfl rfl f187 rfl rfl rfl hc108
 have hp188 := hL182.pick [0, 1, 3, 4, 5] rfl rfl rfl
 have hL190 : vL w w181 [some b167, some b132, some b87, some b55, some b23] [zab ([] ++ ([(zac .i64 r149.Index), (zaa r149.N.Negative), v151, (zac .i64 r158.Index), (zaa r158.N.Negative), v160] ++ [])), zab ([] ++ ([(zac .i64 r123.Index), (zaa r123.N.Negative), v125] ++ [])), zab ([] ++ ([v67, (zaa r65.Bound.Negative), v69, v78, (zaa r76.Bound.Negative), v80] ++ [])), zab ([] ++ ([v35, (zaa r33.Bound.Negative), v37, v46, (zaa r44.Bound.Negative), v48] ++ [])), zab ([] ++ ([v3, (zaa r1.Bound.Negative), v5, v14, (zaa r12.Bound.Negative), v16] ++ []))] := hp188.1
 have K189 := ks w hp188.2
 have f192 := (((((((hE133.mono (K138 None)).mono (K147 None)).mono (K156 None)).mono (K165 None)).mono (K174 None)).mono (K183 None)).mono (K189 None))
 have f191 := hL190.freezeRow 1 rfl rfl f192 rfl rfl rfl hc134
 have hp193 := hL190.pick [0, 2, 3, 4] rfl rfl rfl
 have hL195 : vL w w181 [some b167, some b87, some b55, some b23] [zab ([] ++ ([(zac .i64 r149.Index), (zaa r149.N.Negative), v151, (zac .i64 r158.Index), (zaa r158.N.Negative), v160] ++ [])), zab ([] ++ ([v67, (zaa r65.Bound.Negative), v69, v78, (zaa r76.Bound.Negative), v80] ++ [])), zab ([] ++ ([v35, (zaa r33.Bound.Negative), v37, v46, (zaa r44.Bound.Negative), v48] ++ [])), zab ([] ++ ([v3, (zaa r1.Bound.Negative), v5, v14, (zaa r12.Bound.Negative), v16] ++ []))] := hp193.1
 have K194 := ks w hp193.2
 have f197 := ((((hE168.mono (K174 None)).mono (K183 None)).mono (K189 None)).mono (K194 None))
 have f196 := hL195.freezeRow 0 rfl rfl f197 rfl rfl rfl hc169
 have hp198 := hL195.pick [1, 2, 3] rfl rfl rfl
 have hL200 : vL w w181 [some b87, some b55, some b23] [zab ([] ++ ([v67, (zaa r65.Bound.Negative), v69, v78, (zaa r76.Bound.Negative), v80] ++ [])), zab ([] ++ ([v35, (zaa r33.Bound.Negative), v37, v46, (zaa r44.Bound.Negative), v48] ++ [])), zab ([] ++ ([v3, (zaa r1.Bound.Negative), v5, v14, (zaa r12.Bound.Negative), v16] ++ []))] := hp198.1
 have K199 := ks w hp198.2
 have f204 := (((k179.mono (K189 None)).mono (K194 None)).mono (K199 None))
 have f205 := (f191.mono (K199 None))
 have f206 := (((((((k143.mono (K156 None)).mono (K165 None)).mono (K174 None)).mono (K183 None)).mono (K189 None)).mono (K194 None)).mono (K199 None))
 have f207 := ((f186.mono (K194 None)).mono (K199 None))
 have f208 := ((((((((((k117.mono (K130 None)).mono (K138 None)).mono (K147 None)).mono (K156 None)).mono (K165 None)).mono (K174 None)).mono (K183 None)).mono (K189 None)).mono (K194 None)).mono (K199 None))
 have hE201 : Els rStep (vH w None [some b87, some b55, some b23] w181) [(osv (some b106) 0 1 1), (zaa r114.Negative), v116, (osv (some b132) 0 1 1), (zaa r140.Negative), v142, (osv (some b167) 0 2 2), (zaa r176.Negative), v178] [(Step.mk [r97] r114), (Step.mk [r123] r140), (Step.mk [r149, r158] r176)] := (zco (a := [(osv (some b106) 0 1 1), (zaa r114.Negative), v116]) (rStep_close ⟨(osv (some b106) 0 1 1), v116, rfl, f207, f208, trivial⟩) (zco (a := [(osv (some b132) 0 1 1), (zaa r140.Negative), v142]) (rStep_close ⟨(osv (some b132) 0 1 1), v142, rfl, f205, f206, trivial⟩) (zco (a := [(osv (some b167) 0 2 2), (zaa r176.Negative), v178]) (rStep_close ⟨(osv (some b167) 0 2 2), v178, rfl, f196, f204, trivial⟩) zct)))
 refine zaf (zcp (r := rStep) (vs := [(zan #[(osv (some b106) 0 1 1), (zaa r114.Negative), v116]), (zan #[(osv (some b132) 0 1 1), (zaa r140.Negative), v142]), (zan #[(osv (some b167) 0 2 2), (zaa r176.Negative), v178])]) (css := [[(osv (some b106) 0 1 1), (zaa r114.Negative), v116], [(osv (some b132) 0 1 1), (zaa r140.Negative), v142], [(osv (some b167) 0 2 2), (zaa r176.Negative), v178]]) (xs := [(Step.mk [r97] r114), (Step.mk [r123] r140), (Step.mk [r149, r158] r176)]) Try.underlying39 ti28 (zae rfl) rfl rfl ⟨rfl, rfl, ⟨rfl, rfl, ⟨rfl, rfl, trivial⟩⟩⟩ (zae rfl) hE201 rfl hL200 ?_)
 intro b185 w209 hc202 hL210 hS212
 have K211 := ks w hS212
 refine zaf (zcx (zc := [(zad none 0 0), (zad none 0 0), (zaa false), (zad none 0 0), (zad none 0 0)]) (cs := [(osv (some b185) 0 3 3), (zad none 0 0), (zaa false), (zad none 0 0), (zad none 0 0)]) (is := [0]) (vs := [(osv (some b185) 0 3 3)]) (css := [[(osv (some b185) 0 3 3)]]) pl42 ti42 rfl rfl rfl ⟨(one_cells (osv_one _ _ _ _)), trivial⟩ rfl ?_)
 refine zaf (zbw (cs := [(zad none 0 0), (zad none 0 0), (zaa false), (zad none 0 0), (zad none 0 0)]) ti42 rfl hL210 ?_)
 intro b213 w214 hL215 hS217
 have K216 := ks w hS217
 refine zcb (zbh (vs := [(osv (some b185) 0 3 3), (zad none 0 0), (zaa false), (zad none 0 0), (zad none 0 0)]) ti42 rfl rfl rfl rfl (ones_cons (osv_one _ _ _ _) (ones_cons rfl (ones_cons rfl (ones_cons rfl (ones_cons rfl ones_nil))))) hL215 0 rfl rfl (zae rfl) ?_)
 intro w218 (hL219 : vL w w218 [some b213, some b185, some b87, some b55, some b23] [zab [(osv (some b185) 0 3 3), (zad none 0 0), (zaa false), (zad none 0 0), (zad none 0 0)], zab ([] ++ ([(osv (some b106) 0 1 1), (zaa r114.Negative), v116, (osv (some b132) 0 1 1), (zaa r140.Negative), v142, (osv (some b167) 0 2 2), (zaa r176.Negative), v178] ++ [])), zab ([] ++ ([v67, (zaa r65.Bound.Negative), v69, v78, (zaa r76.Bound.Negative), v80] ++ [])), zab ([] ++ ([v35, (zaa r33.Bound.Negative), v37, v46, (zaa r44.Bound.Negative), v48] ++ [])), zab ([] ++ ([v3, (zaa r1.Bound.Negative), v5, v14, (zaa r12.Bound.Negative), v16] ++ []))]) hS221
 have K220 := ks w hS221
 refine zap (zaj (zah rfl ?_))
 obtain ⟨r222, q223, h⟩ := bind_some h
 refine zaf (zaw en24 rfl rfl (lbig_w N 1 _ Any r222 q223) ?_)
 rintro _ w227 hE230 ⟨v224, rfl, k225, -⟩
 replace k225 := k225.mono (zbc (S := None) hL219 [])
 have hL228 := hL219.ext hE230
 have K229 := ke hL219 hE230
 have hE232 : Els rBig (vH w None [some b213, some b185, some b87, some b55, some b23] w227) [(zaa r222.Negative), v224] [r222] := (zco (a := [(zaa r222.Negative), v224]) (rBig_close ⟨v224, rfl, k225, trivial⟩) zct)
 refine zaf (zcp (r := rBig) (vs := [(zan #[(zaa r222.Negative), v224])]) (css := [[(zaa r222.Negative), v224]]) (xs := [r222]) zax ti26 (zae rfl) rfl rfl ⟨rfl, rfl, trivial⟩ (zae rfl) hE232 rfl hL228 ?_)
 intro b231 w235 hc233 hL236 hS238
 have K237 := ks w hS238
 obtain ⟨r239, q240, h⟩ := bind_some h
 refine zaf (zaw en24 rfl rfl (lbig_w N 1 _ Any r239 q240) ?_)
 rintro _ w244 hE247 ⟨v241, rfl, k242, -⟩
 replace k242 := k242.mono (zbc (S := None) hL236 [])
 have hL245 := hL236.ext hE247
 have K246 := ke hL236 hE247
 obtain ⟨r248, q249, h⟩ := bind_some h
 refine zaf (zaw en42 rfl rfl (luse_w N 2 3 _ Any r248 q249) ?_)
 rintro _ w253 hE256 ⟨v250, rfl, k251, -⟩
 replace k251 := k251.mono (zbc (S := None) hL245 [])
 have hL254 := hL245.ext hE256
 have K255 := ke hL245 hE256
 obtain ⟨r257, q258, h⟩ := bind_some h
 refine zaf (zaw en42 rfl rfl (luse_w N 1 1 _ Any r257 q258) ?_)
 rintro _ w262 hE265 ⟨v259, rfl, k260, -⟩
 replace k260 := k260.mono (zbc (S := None) hL254 [])
 have hL263 := hL254.ext hE265
 have K264 := ke hL254 hE265
 have f270 := (k251.mono (K264 None))
 have hE267 : Els rUse (vH w None [some b231, some b213, some b185, some b87, some b55, some b23] w262) [(zac .i64 r248.Index), (zaa r248.N.Negative), v250, (zac .i64 r257.Index), (zaa r257.N.Negative), v259] [r248, r257] := (zco (a := [(zac .i64 r248.Index), (zaa r248.N.Negative), v250]) (rUse_close ⟨v250, rfl, f270, trivial⟩) (zco (a := [(zac .i64 r257.Index), (zaa r257.N.Negative), v259]) (rUse_close ⟨v259, rfl, k260, trivial⟩) zct))
 refine zaf (zcp (r := rUse) (vs := [(zan #[(zac .i64 r248.Index), (zaa r248.N.Negative), v250]), (zan #[(zac .i64 r257.Index), (zaa r257.N.Negative), v259])]) (css := [[(zac .i64 r248.Index), (zaa r248.N.Negative), v250], [(zac .i64 r257.Index), (zaa r257.N.Negative), v259]]) (xs := [r248, r257]) zbx ti50 (zae rfl) rfl rfl ⟨rfl, rfl, ⟨rfl, rfl, trivial⟩⟩ (zae rfl) hE267 rfl hL263 ?_)
 intro b266 w271 hc268 hL272 hS274
 have K273 := ks w hS274
 obtain ⟨r275, q276, h⟩ := bind_some h
 have f286 := (hE267.mono (K273 None))
 refine zaf (zaw en20 rfl rfl (cSum_w N [r248, r257] (osv (some b266) 0 2 2) _ Any (own_row_any (pre := []) (o := 0) (n := 2) (cap := 2) (hL272.at 0 rfl rfl) f286 vw_any rfl rfl rfl hc268) r275 q276) ?_)
 rintro _ w287 hE290 ⟨v277, v279, v281, v283, rfl, k278, k280, k282, k284, -⟩
 replace k278 := k278.mono (zbc (S := None) hL272 [])
 replace k280 := k280.mono (zbc (S := None) hL272 [])
 replace k282 := k282.mono (zbc (S := None) hL272 [])
 replace k284 := k284.mono (zbc (S := None) hL272 [])
 have hL288 := hL272.ext hE290
 have K289 := ke hL272 hE290
 obtain ⟨r291, q292, h⟩ := bind_some h
 refine zaf (zaw en42 rfl rfl (luse_w N 2 3 _ Any r291 q292) ?_)
 rintro _ w296 hE299 ⟨v293, rfl, k294, -⟩
 replace k294 := k294.mono (zbc (S := None) hL288 [])
 have hL297 := hL288.ext hE299
 have K298 := ke hL288 hE299
 obtain ⟨r300, q301, h⟩ := bind_some h
 refine zaf (zaw en42 rfl rfl (luse_w N 0 1 _ Any r300 q301) ?_)
 rintro _ w305 hE308 ⟨v302, rfl, k303, -⟩
 replace k303 := k303.mono (zbc (S := None) hL297 [])
 have hL306 := hL297.ext hE308
 have K307 := ke hL297 hE308
 have f313 := (k294.mono (K307 None))
 have hE310 : Els rUse (vH w None [some b266, some b231, some b213, some b185, some b87, some b55, some b23] w305) [(zac .i64 r291.Index), (zaa r291.N.Negative), v293, (zac .i64 r300.Index), (zaa r300.N.Negative), v302] [r291, r300] := (zco (a := [(zac .i64 r291.Index), (zaa r291.N.Negative), v293]) (rUse_close ⟨v293, rfl, f313, trivial⟩) (zco (a := [(zac .i64 r300.Index), (zaa r300.N.Negative), v302]) (rUse_close ⟨v302, rfl, k303, trivial⟩) zct))
 refine zaf (zcp (r := rUse) (vs := [(zan #[(zac .i64 r291.Index), (zaa r291.N.Negative), v293]), (zan #[(zac .i64 r300.Index), (zaa r300.N.Negative), v302])]) (css := [[(zac .i64 r291.Index), (zaa r291.N.Negative), v293], [(zac .i64 r300.Index), (zaa r300.N.Negative), v302]]) (xs := [r291, r300]) zbx ti50 (zae rfl) rfl rfl ⟨rfl, rfl, ⟨rfl, rfl, trivial⟩⟩ (zae rfl) hE310 rfl hL306 ?_)
 intro b309 w314 hc311 hL315 hS317
 have K316 := ks w hS317
 obtain ⟨r318, q319, h⟩ := bind_some h
 have f329 := (hE310.mono (K316 None))
 refine zaf (zaw en20 rfl rfl (cSum_w N [r291, r300] (osv (some b309) 0 2 2) _ Any (own_row_any (pre := []) (o := 0) (n := 2) (cap := 2) (hL315.at 0 rfl rfl) f329 vw_any rfl rfl rfl hc311) r318 q319) ?_)
 rintro _ w330 hE333 ⟨v320, v322, v324, v326, rfl, k321, k323, k325, k327, -⟩
 replace k321 := k321.mono (zbc (S := None) hL315 [])
 replace k323 := k323.mono (zbc (S := None) hL315 [])
 replace k325 := k325.mono (zbc (S := None) hL315 [])
 replace k327 := k327.mono (zbc (S := None) hL315 [])
 have hL331 := hL315.ext hE333
 have K332 := ke hL315 hE333
 have f338 := ((((k278.mono (K298 None)).mono (K307 None)).mono (K316 None)).mono (K332 None))
 have f339 := ((((k280.mono (K298 None)).mono (K307 None)).mono (K316 None)).mono (K332 None))
 have f340 := ((((k282.mono (K298 None)).mono (K307 None)).mono (K316 None)).mono (K332 None))
 have f341 := ((((k284.mono (K298 None)).mono (K307 None)).mono (K316 None)).mono (K332 None))
 have hE335 : Els rProof (vH w None [some b309, some b266, some b231, some b213, some b185, some b87, some b55, some b23] w330) [v277, v279, (zaa r275.Bound.Negative), v281, v283, v320, v322, (zaa r318.Bound.Negative), v324, v326] [r275, r318] := (zco (a := [v277, v279, (zaa r275.Bound.Negative), v281, v283]) (rProof_close ⟨v277, v279, v281, v283, rfl, f338, f339, f340, f341, trivial⟩) (zco (a := [v320, v322, (zaa r318.Bound.Negative), v324, v326]) (rProof_close ⟨v320, v322, v324, v326, rfl, k321, k323, k325, k327, trivial⟩) zct))
 refine zaf (zcp (r := rProof) (vs := [(zan #[v277, v279, (zaa r275.Bound.Negative), v281, v283]), (zan #[v320, v322, (zaa r318.Bound.Negative), v324, v326])]) (css := [[v277, v279, (zaa r275.Bound.Negative), v281, v283], [v320, v322, (zaa r318.Bound.Negative), v324, v326]]) (xs := [r275, r318]) zcv ti42 (zae rfl) rfl rfl ⟨rfl, rfl, ⟨rfl, rfl, trivial⟩⟩ (zae rfl) hE335 rfl hL331 ?_)
 intro b334 w342 hc336 hL343 hS345
 have K344 := ks w hS345
 refine zaf (zcx (zc := [(zad none 0 0), (zad none 0 0), (zaa false), (zad none 0 0), (zad none 0 0)]) (cs := [(zad none 0 0), (osv (some b231) 0 1 1), (zaa r239.Negative), v241, (osv (some b334) 0 2 2)]) (is := [1, 2, 3]) (vs := [(osv (some b231) 0 1 1), (zan #[(zaa r239.Negative), v241]), (osv (some b334) 0 2 2)]) (css := [[(osv (some b231) 0 1 1)], [(zaa r239.Negative), v241], [(osv (some b334) 0 2 2)]]) pl42 ti42 rfl rfl rfl ⟨(one_cells (osv_one _ _ _ _)), ⟨rfl, ⟨(one_cells (osv_one _ _ _ _)), trivial⟩⟩⟩ rfl ?_)
 refine zaf (zbw (cs := [(zad none 0 0), (zad none 0 0), (zaa false), (zad none 0 0), (zad none 0 0)]) ti42 rfl hL343 ?_)
 intro b346 w347 hL348 hS350
 have K349 := ks w hS350
 have f351 := ((((((((((k242.mono (K255 None)).mono (K264 None)).mono (K273 None)).mono (K289 None)).mono (K298 None)).mono (K307 None)).mono (K316 None)).mono (K332 None)).mono (K344 None)).mono (K349 None))
 refine zcb (zbh (vs := [(zad none 0 0), (osv (some b231) 0 1 1), (zaa r239.Negative), v241, (osv (some b334) 0 2 2)]) ti42 rfl rfl rfl rfl (ones_cons rfl (ones_cons (osv_one _ _ _ _) (ones_cons rfl (ones_cons f351.one (ones_cons (osv_one _ _ _ _) ones_nil))))) hL348 0 rfl rfl (zae rfl) ?_)
 intro w352 (hL353 : vL w w352 [some b346, some b334, some b309, some b266, some b231, some b213, some b185, some b87, some b55, some b23] [zab [(zad none 0 0), (osv (some b231) 0 1 1), (zaa r239.Negative), v241, (osv (some b334) 0 2 2)], zab ([] ++ ([v277, v279, (zaa r275.Bound.Negative), v281, v283, v320, v322, (zaa r318.Bound.Negative), v324, v326] ++ [])), zab ([] ++ ([(zac .i64 r291.Index), (zaa r291.N.Negative), v293, (zac .i64 r300.Index), (zaa r300.N.Negative), v302] ++ [])), zab ([] ++ ([(zac .i64 r248.Index), (zaa r248.N.Negative), v250, (zac .i64 r257.Index), (zaa r257.N.Negative), v259] ++ [])), zab ([] ++ ([(zaa r222.Negative), v224] ++ [])), zab [(osv (some b185) 0 3 3), (zad none 0 0), (zaa false), (zad none 0 0), (zad none 0 0)], zab ([] ++ ([(osv (some b106) 0 1 1), (zaa r114.Negative), v116, (osv (some b132) 0 1 1), (zaa r140.Negative), v142, (osv (some b167) 0 2 2), (zaa r176.Negative), v178] ++ [])), zab ([] ++ ([v67, (zaa r65.Bound.Negative), v69, v78, (zaa r76.Bound.Negative), v80] ++ [])), zab ([] ++ ([v35, (zaa r33.Bound.Negative), v37, v46, (zaa r44.Bound.Negative), v48] ++ [])), zab ([] ++ ([v3, (zaa r1.Bound.Negative), v5, v14, (zaa r12.Bound.Negative), v16] ++ []))]) hS355
 have K354 := ks w hS355
 refine zap (zaj (zah rfl (zaf (zai (v := (osv (some b23) 0 2 2)) rfl ?_))))
 obtain ⟨r356, q357, h⟩ := bind_some h
 refine zaf (zaw en42 rfl rfl (luse_w N 0 1 _ Any r356 q357) ?_)
 rintro _ w361 hE364 ⟨v358, rfl, k359, -⟩
 replace k359 := k359.mono (zbc (S := None) hL353 [])
 have hL362 := hL353.ext hE364
 have K363 := ke hL353 hE364
 obtain ⟨r365, q366, h⟩ := bind_some h
 refine zaf (zaw en42 rfl rfl (luse_w N 1 1 _ Any r365 q366) ?_)
 rintro _ w370 hE373 ⟨v367, rfl, k368, -⟩
 replace k368 := k368.mono (zbc (S := None) hL362 [])
 have hL371 := hL362.ext hE373
 have K372 := ke hL362 hE373
 have f378 := (k359.mono (K372 None))
 have hE375 : Els rUse (vH w None [some b346, some b334, some b309, some b266, some b231, some b213, some b185, some b87, some b55, some b23] w370) [(zac .i64 r356.Index), (zaa r356.N.Negative), v358, (zac .i64 r365.Index), (zaa r365.N.Negative), v367] [r356, r365] := (zco (a := [(zac .i64 r356.Index), (zaa r356.N.Negative), v358]) (rUse_close ⟨v358, rfl, f378, trivial⟩) (zco (a := [(zac .i64 r365.Index), (zaa r365.N.Negative), v367]) (rUse_close ⟨v367, rfl, k368, trivial⟩) zct))
 refine zaf (zcp (r := rUse) (vs := [(zan #[(zac .i64 r356.Index), (zaa r356.N.Negative), v358]), (zan #[(zac .i64 r365.Index), (zaa r365.N.Negative), v367])]) (css := [[(zac .i64 r356.Index), (zaa r356.N.Negative), v358], [(zac .i64 r365.Index), (zaa r365.N.Negative), v367]]) (xs := [r356, r365]) zbx ti50 (zae rfl) rfl rfl ⟨rfl, rfl, ⟨rfl, rfl, trivial⟩⟩ (zae rfl) hE375 rfl hL371 ?_)
 intro b374 w379 hc376 hL380 hS382
 have K381 := ks w hS382
 obtain ⟨r383, q384, h⟩ := bind_some h
 have f394 := (hE375.mono (K381 None))
 refine zaf (zaw en20 rfl rfl (cSum_w N [r356, r365] (osv (some b374) 0 2 2) _ Any (own_row_any (pre := []) (o := 0) (n := 2) (cap := 2) (hL380.at 0 rfl rfl) f394 vw_any rfl rfl rfl hc376) r383 q384) ?_)
 rintro _ w395 hE398 ⟨v385, v387, v389, v391, rfl, k386, k388, k390, k392, -⟩
 replace k386 := k386.mono (zbc (S := None) hL380 [])
 replace k388 := k388.mono (zbc (S := None) hL380 [])
 replace k390 := k390.mono (zbc (S := None) hL380 [])
 replace k392 := k392.mono (zbc (S := None) hL380 [])
 have hL396 := hL380.ext hE398
 have K397 := ke hL380 hE398
 obtain ⟨r399, q400, h⟩ := bind_some h
 have f402 := (((((((((((((((((((((((((((((((((((((((((hE24.mono (K31 None)).mono (K42 None)).mono (K53 None)).mono (K63 None)).mono (K74 None)).mono (K85 None)).mono (K95 None)).mono (K104 None)).mono (K112 None)).mono (K121 None)).mono (K130 None)).mono (K138 None)).mono (K147 None)).mono (K156 None)).mono (K165 None)).mono (K174 None)).mono (K183 None)).mono (K189 None)).mono (K194 None)).mono (K199 None)).mono (K211 None)).mono (K216 None)).mono (K220 None)).mono (K229 None)).mono (K237 None)).mono (K246 None)).mono (K255 None)).mono (K264 None)).mono (K273 None)).mono (K289 None)).mono (K298 None)).mono (K307 None)).mono (K316 None)).mono (K332 None)).mono (K344 None)).mono (K349 None)).mono (K354 None)).mono (K363 None)).mono (K372 None)).mono (K381 None)).mono (K397 None))
 refine zaf (zaw en18 rfl rfl (cCheck_w N [r1, r12] r383 (osv (some b23) 0 2 2) v385 v387 v389 v391 _ Any (own_row_any (pre := []) (o := 0) (n := 2) (cap := 2) (hL396.at 10 rfl rfl) f402 vw_any rfl rfl rfl hc25) (k386.mono vw_any) (k388.mono vw_any) (k390.mono vw_any) (k392.mono vw_any) r399 q400) ?_)
 rintro _ w403 hE406 ⟨rfl, -⟩
 have hL404 := hL396.ext hE406
 have K405 := ke hL396 hE406
 refine zaf (zai (v := (zaa r399)) rfl ?_)
 by_cases hc407 : r399 = true
 ·
  replace h := ite_t hc407 h
  refine zbu rfl rfl hc407 (zai (v := (osv (some b55) 0 2 2)) rfl ?_)
  obtain ⟨r408, q409, h⟩ := bind_some h
  refine zbu rfl rfl hc407 (zaw en42 rfl rfl (luse_w N 0 1 _ Any r408 q409) ?_)
  rintro _ w413 hE416 ⟨v410, rfl, k411, -⟩
  replace k411 := k411.mono (zbc (S := None) hL404 [])
  have hL414 := hL404.ext hE416
  have K415 := ke hL404 hE416
  obtain ⟨r417, q418, h⟩ := bind_some h
  refine zbu rfl rfl hc407 (zaw en42 rfl rfl (luse_w N 1 1 _ Any r417 q418) ?_)
  rintro _ w422 hE425 ⟨v419, rfl, k420, -⟩
  replace k420 := k420.mono (zbc (S := None) hL414 [])
  have hL423 := hL414.ext hE425
  have K424 := ke hL414 hE425
  have f430 := (k411.mono (K424 None))
  have hE427 : Els rUse (vH w None [some b374, some b346, some b334, some b309, some b266, some b231, some b213, some b185, some b87, some b55, some b23] w422) [(zac .i64 r408.Index), (zaa r408.N.Negative), v410, (zac .i64 r417.Index), (zaa r417.N.Negative), v419] [r408, r417] := (zco (a := [(zac .i64 r408.Index), (zaa r408.N.Negative), v410]) (rUse_close ⟨v410, rfl, f430, trivial⟩) (zco (a := [(zac .i64 r417.Index), (zaa r417.N.Negative), v419]) (rUse_close ⟨v419, rfl, k420, trivial⟩) zct))
  refine zbu rfl rfl hc407 (zcp (r := rUse) (vs := [(zan #[(zac .i64 r408.Index), (zaa r408.N.Negative), v410]), (zan #[(zac .i64 r417.Index), (zaa r417.N.Negative), v419])]) (css := [[(zac .i64 r408.Index), (zaa r408.N.Negative), v410], [(zac .i64 r417.Index), (zaa r417.N.Negative), v419]]) (xs := [r408, r417]) zbx ti50 (zae rfl) rfl rfl ⟨rfl, rfl, ⟨rfl, rfl, trivial⟩⟩ (zae rfl) hE427 rfl hL423 ?_)
  intro b426 w431 hc428 hL432 hS434
  have K433 := ks w hS434
  obtain ⟨r435, q436, h⟩ := bind_some h
  have f446 := (hE427.mono (K433 None))
  refine zbu rfl rfl hc407 (zaw en20 rfl rfl (cSum_w N [r408, r417] (osv (some b426) 0 2 2) _ Any (own_row_any (pre := []) (o := 0) (n := 2) (cap := 2) (hL432.at 0 rfl rfl) f446 vw_any rfl rfl rfl hc428) r435 q436) ?_)
  rintro _ w447 hE450 ⟨v437, v439, v441, v443, rfl, k438, k440, k442, k444, -⟩
  replace k438 := k438.mono (zbc (S := None) hL432 [])
  replace k440 := k440.mono (zbc (S := None) hL432 [])
  replace k442 := k442.mono (zbc (S := None) hL432 [])
  replace k444 := k444.mono (zbc (S := None) hL432 [])
  have hL448 := hL432.ext hE450
  have K449 := ke hL432 hE450
  obtain ⟨r451, q452, h⟩ := bind_some h
  have f454 := (((((((((((((((((((((((((((((((((((((((((((hE56.mono (K63 None)).mono (K74 None)).mono (K85 None)).mono (K95 None)).mono (K104 None)).mono (K112 None)).mono (K121 None)).mono (K130 None)).mono (K138 None)).mono (K147 None)).mono (K156 None)).mono (K165 None)).mono (K174 None)).mono (K183 None)).mono (K189 None)).mono (K194 None)).mono (K199 None)).mono (K211 None)).mono (K216 None)).mono (K220 None)).mono (K229 None)).mono (K237 None)).mono (K246 None)).mono (K255 None)).mono (K264 None)).mono (K273 None)).mono (K289 None)).mono (K298 None)).mono (K307 None)).mono (K316 None)).mono (K332 None)).mono (K344 None)).mono (K349 None)).mono (K354 None)).mono (K363 None)).mono (K372 None)).mono (K381 None)).mono (K397 None)).mono (K405 None)).mono (K415 None)).mono (K424 None)).mono (K433 None)).mono (K449 None))
  refine zbu rfl rfl hc407 (zaw en18 rfl rfl (cCheck_w N [r33, r44] r435 (osv (some b55) 0 2 2) v437 v439 v441 v443 _ Any (own_row_any (pre := []) (o := 0) (n := 2) (cap := 2) (hL448.at 10 rfl rfl) f454 vw_any rfl rfl rfl hc57) (k438.mono vw_any) (k440.mono vw_any) (k442.mono vw_any) (k444.mono vw_any) r451 q452) ?_)
  rintro _ w455 hE458 ⟨rfl, -⟩
  have hL456 := hL448.ext hE458
  have K457 := ke hL448 hE458
  refine zbu rfl rfl hc407 (OpY.not (x := r451) rfl ?_)
  refine zaf (zcm (t := r399) (v := (zaa (!r451))) rfl hc407 rfl ?_)
  refine zaf (zai (v := (zaa (!r451))) rfl ?_)
  by_cases hc459 : (!r451) = true
  ·
   replace h := ite_t hc459 h
   refine zbu rfl rfl hc459 (zai (v := (osv (some b55) 0 2 2)) rfl ?_)
   refine zbu rfl rfl hc459 (zbd (vs := [(osv (some b185) 0 3 3), (zad none 0 0), (zaa false), (zad none 0 0), (zad none 0 0)]) zby rfl ti42 rfl (hL456.at 7 rfl rfl) rfl rfl ?_)
   obtain ⟨r460, q461, h⟩ := bind_some h
   have f463 := (f454.mono (K457 None))
   have f464 := (((((((((((((((((((((((((((hE201.mono (K211 None)).mono (K216 None)).mono (K220 None)).mono (K229 None)).mono (K237 None)).mono (K246 None)).mono (K255 None)).mono (K264 None)).mono (K273 None)).mono (K289 None)).mono (K298 None)).mono (K307 None)).mono (K316 None)).mono (K332 None)).mono (K344 None)).mono (K349 None)).mono (K354 None)).mono (K363 None)).mono (K372 None)).mono (K381 None)).mono (K397 None)).mono (K405 None)).mono (K415 None)).mono (K424 None)).mono (K433 None)).mono (K449 None)).mono (K457 None))
   refine zbu rfl rfl hc459 (zaw en18 rfl rfl (cCheck_w N [r33, r44] (Proof.mk [(Step.mk [r97] r114), (Step.mk [r123] r140), (Step.mk [r149, r158] r176)] [] (Big.mk false []) []) (osv (some b55) 0 2 2) (osv (some b185) 0 3 3) (zad none 0 0) (zad none 0 0) (zad none 0 0) _ Any (own_row_any (pre := []) (o := 0) (n := 2) (cap := 2) (hL456.at 10 rfl rfl) f463 vw_any rfl rfl rfl hc57) (own_row_any (pre := []) (o := 0) (n := 3) (cap := 3) (hL456.at 8 rfl rfl) f464 vw_any rfl rfl rfl hc202) zdj zdj zdj r460 q461) ?_)
   rintro _ w465 hE468 ⟨rfl, -⟩
   have hL466 := hL456.ext hE468
   have K467 := ke hL456 hE468
   refine zaf (zcm (t := (!r451)) (v := (zaa r460)) rfl hc459 rfl ?_)
   refine zaf (zai (v := (zaa r460)) rfl ?_)
   by_cases hc469 : r460 = true
   ·
    replace h := ite_t hc469 h
    refine zbu rfl rfl hc469 (zai (v := (osv (some b87) 0 2 2)) rfl ?_)
    refine zbu rfl rfl hc469 (zbd (vs := [(zad none 0 0), (osv (some b231) 0 1 1), (zaa r239.Negative), v241, (osv (some b334) 0 2 2)]) zby rfl ti42 rfl (hL466.at 2 rfl rfl) rfl rfl ?_)
    obtain ⟨r470, q471, h⟩ := bind_some h
    have f473 := ((((((((((((((((((((((((((((((((((((((((((hE88.mono (K95 None)).mono (K104 None)).mono (K112 None)).mono (K121 None)).mono (K130 None)).mono (K138 None)).mono (K147 None)).mono (K156 None)).mono (K165 None)).mono (K174 None)).mono (K183 None)).mono (K189 None)).mono (K194 None)).mono (K199 None)).mono (K211 None)).mono (K216 None)).mono (K220 None)).mono (K229 None)).mono (K237 None)).mono (K246 None)).mono (K255 None)).mono (K264 None)).mono (K273 None)).mono (K289 None)).mono (K298 None)).mono (K307 None)).mono (K316 None)).mono (K332 None)).mono (K344 None)).mono (K349 None)).mono (K354 None)).mono (K363 None)).mono (K372 None)).mono (K381 None)).mono (K397 None)).mono (K405 None)).mono (K415 None)).mono (K424 None)).mono (K433 None)).mono (K449 None)).mono (K457 None)).mono (K467 None))
    have f474 := ((((((((((((((((((((((((hE232.mono (K237 None)).mono (K246 None)).mono (K255 None)).mono (K264 None)).mono (K273 None)).mono (K289 None)).mono (K298 None)).mono (K307 None)).mono (K316 None)).mono (K332 None)).mono (K344 None)).mono (K349 None)).mono (K354 None)).mono (K363 None)).mono (K372 None)).mono (K381 None)).mono (K397 None)).mono (K405 None)).mono (K415 None)).mono (K424 None)).mono (K433 None)).mono (K449 None)).mono (K457 None)).mono (K467 None))
    have f475 := ((((((((((((f351.mono (K354 None)).mono (K363 None)).mono (K372 None)).mono (K381 None)).mono (K397 None)).mono (K405 None)).mono (K415 None)).mono (K424 None)).mono (K433 None)).mono (K449 None)).mono (K457 None)).mono (K467 None))
    have f476 := ((((((((((((((hE335.mono (K344 None)).mono (K349 None)).mono (K354 None)).mono (K363 None)).mono (K372 None)).mono (K381 None)).mono (K397 None)).mono (K405 None)).mono (K415 None)).mono (K424 None)).mono (K433 None)).mono (K449 None)).mono (K457 None)).mono (K467 None))
    refine zbu rfl rfl hc469 (zaw en18 rfl rfl (cCheck_w N [r65, r76] (Proof.mk [] [r222] r239 [r275, r318]) (osv (some b87) 0 2 2) (zad none 0 0) (osv (some b231) 0 1 1) v241 (osv (some b334) 0 2 2) _ Any (own_row_any (pre := []) (o := 0) (n := 2) (cap := 2) (hL466.at 9 rfl rfl) f473 vw_any rfl rfl rfl hc89) zdj (own_row_any (pre := []) (o := 0) (n := 1) (cap := 1) (hL466.at 6 rfl rfl) f474 vw_any rfl rfl rfl hc233) (f475.mono vw_any) (own_row_any (pre := []) (o := 0) (n := 2) (cap := 2) (hL466.at 3 rfl rfl) f476 vw_any rfl rfl rfl hc336) r470 q471) ?_)
    rintro _ w477 hE480 ⟨rfl, -⟩
    have hL478 := hL466.ext hE480
    have K479 := ke hL466 hE480
    refine zaf (zcm (t := r460) (v := (zaa r470)) rfl hc469 rfl ?_)
    refine zaf (zai (v := (zaa r470)) rfl ?_)
    by_cases hc481 : r470 = true
    ·
     replace h := ite_t hc481 h
     refine zbu rfl rfl hc481 (zai (v := (osv (some b55) 0 2 2)) rfl ?_)
     refine zbu rfl rfl hc481 (zbd (vs := [(zad none 0 0), (osv (some b231) 0 1 1), (zaa r239.Negative), v241, (osv (some b334) 0 2 2)]) zby rfl ti42 rfl (hL478.at 2 rfl rfl) rfl rfl ?_)
     obtain ⟨r482, q483, h⟩ := bind_some h
     have f485 := ((f463.mono (K467 None)).mono (K479 None))
     have f486 := (f474.mono (K479 None))
     have f487 := (f475.mono (K479 None))
     have f488 := (f476.mono (K479 None))
     refine zbu rfl rfl hc481 (zaw en18 rfl rfl (cCheck_w N [r33, r44] (Proof.mk [] [r222] r239 [r275, r318]) (osv (some b55) 0 2 2) (zad none 0 0) (osv (some b231) 0 1 1) v241 (osv (some b334) 0 2 2) _ Any (own_row_any (pre := []) (o := 0) (n := 2) (cap := 2) (hL478.at 10 rfl rfl) f485 vw_any rfl rfl rfl hc57) zdj (own_row_any (pre := []) (o := 0) (n := 1) (cap := 1) (hL478.at 6 rfl rfl) f486 vw_any rfl rfl rfl hc233) (f487.mono vw_any) (own_row_any (pre := []) (o := 0) (n := 2) (cap := 2) (hL478.at 3 rfl rfl) f488 vw_any rfl rfl rfl hc336) r482 q483) ?_)
     rintro _ w489 hE492 ⟨rfl, -⟩
     have hL490 := hL478.ext hE492
     have K491 := ke hL478 hE492
     refine zbu rfl rfl hc481 (OpY.not (x := r482) rfl ?_)
     refine zaf (zcm (t := r470) (v := (zaa (!r482))) rfl hc481 rfl ?_)
     refine zaf (zai (v := (zaa (!r482))) rfl ?_)
     by_cases hc493 : (!r482) = true
     ·
      replace h := ite_t hc493 h
      refine zbu rfl rfl hc493 (zbd (vs := [(osv (some b185) 0 3 3), (zad none 0 0), (zaa false), (zad none 0 0), (zad none 0 0)]) zby rfl ti42 rfl (hL490.at 7 rfl rfl) rfl rfl ?_)
      obtain ⟨r494, q495, h⟩ := bind_some h
      have f497 := (((f464.mono (K467 None)).mono (K479 None)).mono (K491 None))
      refine zbu rfl rfl hc493 (zaw en21 rfl rfl (cSize_w N (Proof.mk [(Step.mk [r97] r114), (Step.mk [r123] r140), (Step.mk [r149, r158] r176)] [] (Big.mk false []) []) (osv (some b185) 0 3 3) (zad none 0 0) (zad none 0 0) (zad none 0 0) _ Any (own_row_any (pre := []) (o := 0) (n := 3) (cap := 3) (hL490.at 8 rfl rfl) f497 vw_any rfl rfl rfl hc202) zdj zdj zdj r494 q495) ?_)
      rintro _ w498 hE501 ⟨rfl, -⟩
      have hL499 := hL490.ext hE501
      have K500 := ke hL490 hE501
      refine zbu rfl rfl hc493 (OpY.eql (x := r494) (y := 3) ((r494 : Int) = 3) rfl rfl zbk ?_)
      refine zaf (zcm (t := (!r482)) (v := (zaa (decide ((r494 : Int) = 3)))) rfl hc493 rfl ?_)
      refine zaf (zai (v := (zaa (decide ((r494 : Int) = 3)))) rfl ?_)
      by_cases hc502 : (r494 : Int) = 3
      ·
       replace h := ite_t hc502 h
       refine zbu rfl rfl (decide_eq_true hc502) (zbd (vs := [(zad none 0 0), (osv (some b231) 0 1 1), (zaa r239.Negative), v241, (osv (some b334) 0 2 2)]) zby rfl ti42 rfl (hL499.at 2 rfl rfl) rfl rfl ?_)
       obtain ⟨r503, q504, h⟩ := bind_some h
       have f506 := ((f486.mono (K491 None)).mono (K500 None))
       have f507 := ((f487.mono (K491 None)).mono (K500 None))
       have f508 := ((f488.mono (K491 None)).mono (K500 None))
       refine zbu rfl rfl (decide_eq_true hc502) (zaw en21 rfl rfl (cSize_w N (Proof.mk [] [r222] r239 [r275, r318]) (zad none 0 0) (osv (some b231) 0 1 1) v241 (osv (some b334) 0 2 2) _ Any zdj (own_row_any (pre := []) (o := 0) (n := 1) (cap := 1) (hL499.at 6 rfl rfl) f506 vw_any rfl rfl rfl hc233) (f507.mono vw_any) (own_row_any (pre := []) (o := 0) (n := 2) (cap := 2) (hL499.at 3 rfl rfl) f508 vw_any rfl rfl rfl hc336) r503 q504) ?_)
       rintro _ w509 hE512 ⟨rfl, -⟩
       have hL510 := hL499.ext hE512
       refine zbu rfl rfl (decide_eq_true hc502) (OpY.eql (x := r503) (y := 3) ((r503 : Int) = 3) rfl rfl zbk ?_)
       refine zaf (zcm (t := (decide ((r494 : Int) = 3))) (v := (zaa (decide ((r503 : Int) = 3)))) rfl (decide_eq_true hc502) rfl ?_)
       refine zaf (zak (v := (zaa (decide ((r503 : Int) = 3)))) rfl ?_)
       refine zap (zbl ?_)
       obtain rfl := zag h
       refine ⟨[(zaa (decide ((r503 : Int) = 3)))], ⟨rfl, trivial⟩, ⟨_, rfl, hL510.done, ?_⟩⟩
       exact ⟨rfl, trivial⟩
      ·
       replace h := ite_f hc502 h
       refine zbt rfl rfl (decide_eq_false hc502) ?_
       refine zbt rfl rfl (decide_eq_false hc502) ?_
       refine zbt rfl rfl (decide_eq_false hc502) ?_
       refine zaf (zbz (t := (decide ((r494 : Int) = 3))) (v := (zaa false)) rfl (decide_eq_false hc502) rfl ?_)
       refine zaf (zak (v := (zaa false)) rfl ?_)
       refine zap (zbl ?_)
       obtain rfl := zag h
       refine ⟨[(zaa false)], ⟨rfl, trivial⟩, ⟨_, rfl, hL499.done, ?_⟩⟩
       exact ⟨rfl, trivial⟩
     ·
      replace h := ite_f hc493 h
      refine zbt rfl rfl (eq_false_of_ne_true hc493) ?_
      refine zbt rfl rfl (eq_false_of_ne_true hc493) ?_
      refine zbt rfl rfl (eq_false_of_ne_true hc493) ?_
      refine zaf (zbz (t := (!r482)) (v := (zaa false)) rfl (eq_false_of_ne_true hc493) rfl ?_)
      refine zaf (zai (v := (zaa false)) rfl ?_)
      refine zbt rfl rfl rfl ?_
      refine zbt rfl rfl rfl ?_
      refine zbt rfl rfl rfl ?_
      refine zaf (zbz (t := false) (v := (zaa false)) rfl rfl rfl ?_)
      refine zaf (zak (v := (zaa false)) rfl ?_)
      refine zap (zbl ?_)
      obtain rfl := zag h
      refine ⟨[(zaa false)], ⟨rfl, trivial⟩, ⟨_, rfl, hL490.done, ?_⟩⟩
      exact ⟨rfl, trivial⟩
    ·
     replace h := ite_f hc481 h
     refine zbt rfl rfl (eq_false_of_ne_true hc481) ?_
     refine zbt rfl rfl (eq_false_of_ne_true hc481) ?_
     refine zbt rfl rfl (eq_false_of_ne_true hc481) ?_
     refine zbt rfl rfl (eq_false_of_ne_true hc481) ?_
     refine zaf (zbz (t := r470) (v := (zaa false)) rfl (eq_false_of_ne_true hc481) rfl ?_)
     refine zaf (zai (v := (zaa false)) rfl ?_)
     refine zbt rfl rfl rfl ?_
     refine zbt rfl rfl rfl ?_
     refine zbt rfl rfl rfl ?_
     refine zaf (zbz (t := false) (v := (zaa false)) rfl rfl rfl ?_)
     refine zaf (zai (v := (zaa false)) rfl ?_)
     refine zbt rfl rfl rfl ?_
     refine zbt rfl rfl rfl ?_
     refine zbt rfl rfl rfl ?_
     refine zaf (zbz (t := false) (v := (zaa false)) rfl rfl rfl ?_)
     refine zaf (zak (v := (zaa false)) rfl ?_)
     refine zap (zbl ?_)
     obtain rfl := zag h
     refine ⟨[(zaa false)], ⟨rfl, trivial⟩, ⟨_, rfl, hL478.done, ?_⟩⟩
     exact ⟨rfl, trivial⟩
   ·
    replace h := ite_f hc469 h
    refine zbt rfl rfl (eq_false_of_ne_true hc469) ?_
    refine zbt rfl rfl (eq_false_of_ne_true hc469) ?_
    refine zbt rfl rfl (eq_false_of_ne_true hc469) ?_
    refine zaf (zbz (t := r460) (v := (zaa false)) rfl (eq_false_of_ne_true hc469) rfl ?_)
    refine zaf (zai (v := (zaa false)) rfl ?_)
    refine zbt rfl rfl rfl ?_
    refine zbt rfl rfl rfl ?_
    refine zbt rfl rfl rfl ?_
    refine zbt rfl rfl rfl ?_
    refine zaf (zbz (t := false) (v := (zaa false)) rfl rfl rfl ?_)
    refine zaf (zai (v := (zaa false)) rfl ?_)
    refine zbt rfl rfl rfl ?_
    refine zbt rfl rfl rfl ?_
    refine zbt rfl rfl rfl ?_
    refine zaf (zbz (t := false) (v := (zaa false)) rfl rfl rfl ?_)
    refine zaf (zai (v := (zaa false)) rfl ?_)
    refine zbt rfl rfl rfl ?_
    refine zbt rfl rfl rfl ?_
    refine zbt rfl rfl rfl ?_
    refine zaf (zbz (t := false) (v := (zaa false)) rfl rfl rfl ?_)
    refine zaf (zak (v := (zaa false)) rfl ?_)
    refine zap (zbl ?_)
    obtain rfl := zag h
    refine ⟨[(zaa false)], ⟨rfl, trivial⟩, ⟨_, rfl, hL466.done, ?_⟩⟩
    exact ⟨rfl, trivial⟩
  ·
   replace h := ite_f hc459 h
   refine zbt rfl rfl (eq_false_of_ne_true hc459) ?_
   refine zbt rfl rfl (eq_false_of_ne_true hc459) ?_
   refine zbt rfl rfl (eq_false_of_ne_true hc459) ?_
   refine zaf (zbz (t := (!r451)) (v := (zaa false)) rfl (eq_false_of_ne_true hc459) rfl ?_)
   refine zaf (zai (v := (zaa false)) rfl ?_)
   refine zbt rfl rfl rfl ?_
   refine zbt rfl rfl rfl ?_
   refine zbt rfl rfl rfl ?_
   refine zaf (zbz (t := false) (v := (zaa false)) rfl rfl rfl ?_)
   refine zaf (zai (v := (zaa false)) rfl ?_)
   refine zbt rfl rfl rfl ?_
   refine zbt rfl rfl rfl ?_
   refine zbt rfl rfl rfl ?_
   refine zbt rfl rfl rfl ?_
   refine zaf (zbz (t := false) (v := (zaa false)) rfl rfl rfl ?_)
   refine zaf (zai (v := (zaa false)) rfl ?_)
   refine zbt rfl rfl rfl ?_
   refine zbt rfl rfl rfl ?_
   refine zbt rfl rfl rfl ?_
   refine zaf (zbz (t := false) (v := (zaa false)) rfl rfl rfl ?_)
   refine zaf (zai (v := (zaa false)) rfl ?_)
   refine zbt rfl rfl rfl ?_
   refine zbt rfl rfl rfl ?_
   refine zbt rfl rfl rfl ?_
   refine zaf (zbz (t := false) (v := (zaa false)) rfl rfl rfl ?_)
   refine zaf (zak (v := (zaa false)) rfl ?_)
   refine zap (zbl ?_)
   obtain rfl := zag h
   refine ⟨[(zaa false)], ⟨rfl, trivial⟩, ⟨_, rfl, hL456.done, ?_⟩⟩
   exact ⟨rfl, trivial⟩
 ·
  replace h := ite_f hc407 h
  refine zbt rfl rfl (eq_false_of_ne_true hc407) ?_
  refine zbt rfl rfl (eq_false_of_ne_true hc407) ?_
  refine zbt rfl rfl (eq_false_of_ne_true hc407) ?_
  refine zbt rfl rfl (eq_false_of_ne_true hc407) ?_
  refine zbt rfl rfl (eq_false_of_ne_true hc407) ?_
  refine zbt rfl rfl (eq_false_of_ne_true hc407) ?_
  refine zbt rfl rfl (eq_false_of_ne_true hc407) ?_
  refine zaf (zbz (t := r399) (v := (zaa false)) rfl (eq_false_of_ne_true hc407) rfl ?_)
  refine zaf (zai (v := (zaa false)) rfl ?_)
  refine zbt rfl rfl rfl ?_
  refine zbt rfl rfl rfl ?_
  refine zbt rfl rfl rfl ?_
  refine zaf (zbz (t := false) (v := (zaa false)) rfl rfl rfl ?_)
  refine zaf (zai (v := (zaa false)) rfl ?_)
  refine zbt rfl rfl rfl ?_
  refine zbt rfl rfl rfl ?_
  refine zbt rfl rfl rfl ?_
  refine zaf (zbz (t := false) (v := (zaa false)) rfl rfl rfl ?_)
  refine zaf (zai (v := (zaa false)) rfl ?_)
  refine zbt rfl rfl rfl ?_
  refine zbt rfl rfl rfl ?_
  refine zbt rfl rfl rfl ?_
  refine zbt rfl rfl rfl ?_
  refine zaf (zbz (t := false) (v := (zaa false)) rfl rfl rfl ?_)
  refine zaf (zai (v := (zaa false)) rfl ?_)
  refine zbt rfl rfl rfl ?_
  refine zbt rfl rfl rfl ?_
  refine zbt rfl rfl rfl ?_
  refine zaf (zbz (t := false) (v := (zaa false)) rfl rfl rfl ?_)
  refine zaf (zai (v := (zaa false)) rfl ?_)
  refine zbt rfl rfl rfl ?_
  refine zbt rfl rfl rfl ?_
  refine zbt rfl rfl rfl ?_
  refine zaf (zbz (t := false) (v := (zaa false)) rfl rfl rfl ?_)
  refine zaf (zak (v := (zaa false)) rfl ?_)
  refine zap (zbl ?_)
  obtain rfl := zag h
  refine ⟨[(zaa false)], ⟨rfl, trivial⟩, ⟨_, rfl, hL404.done, ?_⟩⟩
  exact ⟨rfl, trivial⟩
theorem lawApply_w (N : Nat) (l : (List Ineq)) (s : Step) (l_v : Value) (s_v : Value) (s_v1 : Value) (w : World) (S : Nat → Prop) (l_h : Rs rIneq (vH w S [] w) l_v l) (s_h : Rs rUse (vH w S [] w) s_v s.Uses) (s_h1 : Rs (rInt .u32) (vH w S [] w) s_v1 s.Divisor.Digits) (r : Bool) (h : lawApply N l s = some r) :
  Calls Try.prog 3 #[l_v, (zan #[s_v, (zaa s.Divisor.Negative), s_v1])] w (Ret w (fun v w' => (zaa r) = v ∧ True)) := by
 unfold lawApply at h
 have hL : vL w w [] [] := Go.X.Loc.begin0 w
 refine calls_of (l := [l_v, (zan #[s_v, (zaa s.Divisor.Negative), s_v1])]) (rl := [.tmp 4]) (n := 42) Try.func3 rfl rfl rfl (zae rfl) ?_
 refine zaj (zah rfl (zaf (zdc (cs := [s_v, (zaa s.Divisor.Negative), s_v1]) rfl rfl hL ?_)))
 intro b1 w2 hL3 hS5
 have K4 := ks w hS5
 refine zaf (zak (v := (zaa false)) rfl ?_)
 refine zap (zaj (zaj ?_))
 obtain ⟨s34, h, g35⟩ := bind_some h
 refine zbr (fun e w' => ∃ (x33 : Bool) (u : Env), x33 = s34 ∧ e = upds [(0, l_v), (3, (zam (some ⟨b1, 0, none⟩))), (20, (zaa x33))] u ∧ vL w w' [some b1] [zab [s_v, (zaa s.Divisor.Negative), s_v1]] ∧ Keep w.heap.size [some b1] w2 [some b1] w' ∧ True) ?_ ?_
 ·
  refine zah rfl ?_
  obtain ⟨r36, q37, h⟩ := bind_some h
  refine zaf (zaw en11 rfl rfl (awake_w N _ Any r36 q37) ?_)
  rintro _ w39 hE42 ⟨rfl, -⟩
  have hL40 := hL3.ext hE42
  have K41 := ke hL3 hE42
  refine zaf (OpY.not (x := r36) rfl ?_)
  refine zaf (zai (v := (zaa (!r36))) rfl ?_)
  by_cases hc43 : (!r36) = true
  ·
   replace h := ite_t hc43 h
   refine zbt rfl rfl hc43 ?_
   refine zbt rfl rfl hc43 ?_
   refine zbt rfl rfl hc43 ?_
   refine zaf (zcm (t := (!r36)) (v := (zaa true)) rfl hc43 rfl ?_)
   refine zaf (zai (v := (zaa true)) rfl ?_)
   refine zbt rfl rfl rfl ?_
   refine zbt rfl rfl rfl ?_
   refine zbt rfl rfl rfl ?_
   refine zaf (zcm (t := true) (v := (zaa true)) rfl rfl rfl ?_)
   refine zap ?_
   obtain rfl := zag h
   refine zas ?_
   exact ⟨true, _, rfl, (upds_sym ⟨rfl, rfl, rfl, trivial⟩), hL40, K41, trivial⟩
  ·
   replace h := ite_f hc43 h
   refine zbu rfl rfl (eq_false_of_ne_true hc43) (zai (v := l_v) rfl ?_)
   obtain ⟨r44, q45, h⟩ := bind_some h
   have f47 := ((l_h.mono (K4 S)).mono (K41 S))
   refine zbu rfl rfl (eq_false_of_ne_true hc43) (zaw en12 rfl rfl (rSmall_w N l l_v _ Any (f47.mono vw_any) r44 q45) ?_)
   rintro _ w48 hE51 ⟨rfl, -⟩
   have hL49 := hL40.ext hE51
   have K50 := ke hL40 hE51
   refine zbu rfl rfl (eq_false_of_ne_true hc43) (OpY.not (x := r44) rfl ?_)
   refine zaf (zbz (t := (!r36)) (v := (zaa (!r44))) rfl (eq_false_of_ne_true hc43) rfl ?_)
   refine zaf (zai (v := (zaa (!r44))) rfl ?_)
   by_cases hc52 : (!r44) = true
   ·
    replace h := ite_t hc52 h
    refine zbt rfl rfl hc52 ?_
    refine zbt rfl rfl hc52 ?_
    refine zbt rfl rfl hc52 ?_
    refine zaf (zcm (t := (!r44)) (v := (zaa true)) rfl hc52 rfl ?_)
    refine zap ?_
    obtain rfl := zag h
    refine zas ?_
    exact ⟨true, _, rfl, (upds_sym ⟨rfl, rfl, rfl, trivial⟩), hL49, (zaq K41 K50), trivial⟩
   ·
    replace h := ite_f hc52 h
    refine zbu rfl rfl (eq_false_of_ne_true hc52) (zbd (vs := [s_v, (zaa s.Divisor.Negative), s_v1]) zce rfl ti28 rfl (hL49.at 0 rfl rfl) rfl rfl ?_)
    obtain ⟨r53, q54, h⟩ := bind_some h
    have f56 := (((s_h.mono (K4 S)).mono (K41 S)).mono (K50 S))
    have f57 := (((s_h1.mono (K4 S)).mono (K41 S)).mono (K50 S))
    refine zbu rfl rfl (eq_false_of_ne_true hc52) (zaw en13 rfl rfl (rSmallStep_w N s s_v s_v1 _ Any (f56.mono vw_any) (f57.mono vw_any) r53 q54) ?_)
    rintro _ w58 hE61 ⟨rfl, -⟩
    have hL59 := hL49.ext hE61
    have K60 := ke hL49 hE61
    refine zbu rfl rfl (eq_false_of_ne_true hc52) (OpY.not (x := r53) rfl ?_)
    refine zaf (zbz (t := (!r44)) (v := (zaa (!r53))) rfl (eq_false_of_ne_true hc52) rfl ?_)
    refine zap ?_
    obtain rfl := zag h
    refine zas ?_
    exact ⟨(!r53), _, rfl, (upds_sym ⟨rfl, rfl, rfl, trivial⟩), hL59, (zaq (zaq K41 K50) K60), trivial⟩
 ·
  rintro _ w62 ⟨x33, u, rfl, rfl, hL63, K64, -⟩
  replace h := g35
  try dsimp only at h
  refine zcu x33 rfl (fun hc65 => ?_) (fun hc65 => ?_)
  ·
   replace h := ite_t hc65 h
   refine zaj (zah rfl ?_)
   obtain ⟨r66, q67, h⟩ := bind_some h
   refine zaf (zaw en11 rfl rfl (awake_w N _ Any r66 q67) ?_)
   rintro _ w69 hE72 ⟨rfl, -⟩
   have hL70 := hL63.ext hE72
   refine zaf (zak (v := (zaa r66)) rfl ?_)
   refine zap (zbl ?_)
   obtain rfl := zag h
   refine ⟨[(zaa r66)], ⟨rfl, trivial⟩, ⟨_, rfl, hL70.done, ?_⟩⟩
   exact ⟨rfl, trivial⟩
  ·
   replace h := ite_f hc65 h
   refine zbg (zaj (zah rfl (zaf (zai (v := l_v) rfl ?_))))
   refine zaf (zbd (vs := [s_v, (zaa s.Divisor.Negative), s_v1]) zce rfl ti28 rfl (hL63.at 0 rfl rfl) rfl rfl ?_)
   obtain ⟨r73, q74, h⟩ := bind_some h
   have f80 := ((l_h.mono (K4 S)).mono (K64 S))
   have f81 := ((s_h.mono (K4 S)).mono (K64 S))
   have f82 := ((s_h1.mono (K4 S)).mono (K64 S))
   refine zaf (zaw en14 rfl rfl (cApply_w N l s l_v s_v s_v1 _ Any (f80.mono vw_any) (f81.mono vw_any) (f82.mono vw_any) r73 q74) ?_)
   rintro _ w83 hE86 ⟨v75, v77, rfl, k76, k78, -⟩
   replace k76 := k76.mono (zbc (S := None) hL63 [])
   replace k78 := k78.mono (zbc (S := None) hL63 [])
   have hL84 := hL63.ext hE86
   have K85 := ke hL63 hE86
   refine zaf (zai (v := (Value.tuple #[(zan #[v75, (zaa r73.1.Bound.Negative), v77]), (zaa r73.2)])) rfl ?_)
   refine zaf (zcf (vs := [(zan #[v75, (zaa r73.1.Bound.Negative), v77]), (zaa r73.2)]) (v := (zan #[v75, (zaa r73.1.Bound.Negative), v77])) rfl rfl ?_)
   refine zaf (zcf (vs := [(zan #[v75, (zaa r73.1.Bound.Negative), v77]), (zaa r73.2)]) (v := (zaa r73.2)) rfl rfl ?_)
   refine zaf (zbw (cs := [(zad none 0 0), (zaa false), (zad none 0 0)]) ti34 rfl hL84 ?_)
   intro b87 w88 hL89 hS91
   have K90 := ks w hS91
   have f92 := (k78.mono (K90 None))
   have f93 := (k76.mono (K90 None))
   refine zcb (zbh (vs := [v75, (zaa r73.1.Bound.Negative), v77]) ti34 rfl rfl rfl rfl (ones_cons f93.one (ones_cons rfl (ones_cons f92.one ones_nil))) hL89 0 rfl rfl (zae rfl) ?_)
   intro w94 (hL95 : vL w w94 [some b87, some b1] [zab [v75, (zaa r73.1.Bound.Negative), v77], zab [s_v, (zaa s.Divisor.Negative), s_v1]]) hS97
   have K96 := ks w hS97
   refine zaf (zak (v := (zaa r73.2)) rfl ?_)
   refine zap (zaj (zah rfl (zaf (zai (v := l_v) rfl ?_))))
   refine zaf (zbd (vs := [s_v, (zaa s.Divisor.Negative), s_v1]) zce rfl ti28 rfl (hL95.at 1 rfl rfl) rfl rfl ?_)
   obtain ⟨r98, q99, h⟩ := bind_some h
   have f105 := (((f80.mono (K85 S)).mono (K90 S)).mono (K96 S))
   have f106 := (((f81.mono (K85 S)).mono (K90 S)).mono (K96 S))
   have f107 := (((f82.mono (K85 S)).mono (K90 S)).mono (K96 S))
   refine zaf (zaw en15 rfl rfl (rApply_w N l s l_v s_v s_v1 _ Any (f105.mono vw_any) (f106.mono vw_any) (f107.mono vw_any) r98 q99) ?_)
   rintro _ w108 hE111 ⟨v100, v102, rfl, k101, k103, -⟩
   replace k101 := k101.mono (zbc (S := None) hL95 [])
   replace k103 := k103.mono (zbc (S := None) hL95 [])
   have hL109 := hL95.ext hE111
   have K110 := ke hL95 hE111
   refine zaf (zai (v := (Value.tuple #[(zan #[v100, (zaa r98.1.Bound.Negative), v102]), (zaa r98.2)])) rfl ?_)
   refine zaf (zcf (vs := [(zan #[v100, (zaa r98.1.Bound.Negative), v102]), (zaa r98.2)]) (v := (zan #[v100, (zaa r98.1.Bound.Negative), v102])) rfl rfl ?_)
   refine zaf (zcf (vs := [(zan #[v100, (zaa r98.1.Bound.Negative), v102]), (zaa r98.2)]) (v := (zaa r98.2)) rfl rfl ?_)
   refine zaf (zbw (cs := [(zad none 0 0), (zaa false), (zad none 0 0)]) ti34 rfl hL109 ?_)
   intro b112 w113 hL114 hS116
   have K115 := ks w hS116
   have f117 := (k103.mono (K115 None))
   have f118 := (k101.mono (K115 None))
   refine zcb (zbh (vs := [v100, (zaa r98.1.Bound.Negative), v102]) ti34 rfl rfl rfl rfl (ones_cons f118.one (ones_cons rfl (ones_cons f117.one ones_nil))) hL114 0 rfl rfl (zae rfl) ?_)
   intro w119 (hL120 : vL w w119 [some b112, some b87, some b1] [zab [v100, (zaa r98.1.Bound.Negative), v102], zab [v75, (zaa r73.1.Bound.Negative), v77], zab [s_v, (zaa s.Divisor.Negative), s_v1]]) hS122
   have K121 := ks w hS122
   refine zaf (zak (v := (zaa r98.2)) rfl ?_)
   refine zap (zaj (zah rfl (zaf (zai (v := (zaa r73.2)) rfl ?_))))
   refine zaf (zai (v := (zaa r98.2)) rfl ?_)
   refine zaf (OpY.eqlBool (x := r73.2) (y := r98.2) zbn rfl rfl ?_)
   refine zaf (zai (v := (zaa (r73.2 == r98.2))) rfl ?_)
   by_cases hc123 : (r73.2 == r98.2) = true
   ·
    replace h := ite_t hc123 h
    refine zbu rfl rfl hc123 (zbd (vs := [v75, (zaa r73.1.Bound.Negative), v77]) zba rfl ti34 rfl (hL120.at 1 rfl rfl) rfl rfl ?_)
    refine zbu rfl rfl hc123 (zbd (vs := [v100, (zaa r98.1.Bound.Negative), v102]) zba rfl ti34 rfl (hL120.at 0 rfl rfl) rfl rfl ?_)
    obtain ⟨r124, q125, h⟩ := bind_some h
    have f127 := ((((f93.mono (K96 None)).mono (K110 None)).mono (K115 None)).mono (K121 None))
    have f128 := ((((f92.mono (K96 None)).mono (K110 None)).mono (K115 None)).mono (K121 None))
    have f129 := (f118.mono (K121 None))
    have f130 := (f117.mono (K121 None))
    refine zbu rfl rfl hc123 (zaw en16 rfl rfl (rSame1_w N r73.1 r98.1 v75 v77 v100 v102 _ Any (f127.mono vw_any) (f128.mono vw_any) (f129.mono vw_any) (f130.mono vw_any) r124 q125) ?_)
    rintro _ w131 hE134 ⟨rfl, -⟩
    have hL132 := hL120.ext hE134
    refine zaf (zcm (t := (r73.2 == r98.2)) (v := (zaa r124)) rfl hc123 rfl ?_)
    refine zaf (zak (v := (zaa r124)) rfl ?_)
    refine zap (zbl ?_)
    obtain rfl := zag h
    refine ⟨[(zaa r124)], ⟨rfl, trivial⟩, ⟨_, rfl, hL132.done, ?_⟩⟩
    exact ⟨rfl, trivial⟩
   ·
    replace h := ite_f hc123 h
    refine zbt rfl rfl (eq_false_of_ne_true hc123) ?_
    refine zbt rfl rfl (eq_false_of_ne_true hc123) ?_
    refine zbt rfl rfl (eq_false_of_ne_true hc123) ?_
    refine zaf (zbz (t := (r73.2 == r98.2)) (v := (zaa false)) rfl (eq_false_of_ne_true hc123) rfl ?_)
    refine zaf (zak (v := (zaa false)) rfl ?_)
    refine zap (zbl ?_)
    obtain rfl := zag h
    refine ⟨[(zaa false)], ⟨rfl, trivial⟩, ⟨_, rfl, hL120.done, ?_⟩⟩
    exact ⟨rfl, trivial⟩
end Go.Proofs.Ytakkacdhlocckaa.WL

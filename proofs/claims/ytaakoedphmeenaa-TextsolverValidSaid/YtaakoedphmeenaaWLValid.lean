/- Walks, written by a program of mine (wip/tool); the kernel checks them. -/
import Derived.Test.YtaakoedphmeenaaProg
import Derived.Test.YtaakoedphmeenaaSqValid
import Derived.Test.YtaakoedphmeenaaA22
import Derived.Test.YtaakoedphmeenaaPL
import Derived.Test.YtaakoedphmeenaaWAValid
import Derived.Test.YtaakoedphmeenaaWRValid
import Derived.Test.YtaakoedphmeenaaWTValid
set_option maxRecDepth 100000
set_option maxHeartbeats 40000000
set_option linter.unusedVariables false
set_option linter.unusedSimpArgs false
namespace Go.Proofs.Ytaakoedphmeenaa.WL
open Go Go.RowKit Go.X Go.D Go.Proofs.Ytaakoedphmeenaa.WA Go.Proofs.Ytaakoedphmeenaa.WR Go.Proofs.Ytaakoedphmeenaa.WT
theorem pl31 : placesT Try.prog 31 = some [(0, 1), (1, 1), (2, 1), (3, 1), (4, 1)] := by kernel_rfl
theorem pl26 : placesT Try.prog 26 = some [(0, 1), (1, 1), (2, 1), (3, 1), (4, 1)] := by kernel_rfl
theorem en26 : Go.X.Enters Try.prog 26 := ⟨Try.f26, Try.func26, by kernel_rfl, by kernel_rfl⟩
theorem en14 : Go.X.Enters Try.prog 14 := ⟨Try.f14, Try.func14, by kernel_rfl, by kernel_rfl⟩
theorem en17 : Go.X.Enters Try.prog 17 := ⟨Try.f17, Try.func17, by kernel_rfl, by kernel_rfl⟩
theorem en20 : Go.X.Enters Try.prog 20 := ⟨Try.f20, Try.func20, by kernel_rfl, by kernel_rfl⟩
theorem en27 : Go.X.Enters Try.prog 27 := ⟨Try.f27, Try.func27, by kernel_rfl, by kernel_rfl⟩
theorem en22 : Go.X.Enters Try.prog 22 := ⟨Try.f22, Try.func22, by kernel_rfl, by kernel_rfl⟩
theorem en13 : Go.X.Enters Try.prog 13 := ⟨Try.f13, Try.func13, by kernel_rfl, by kernel_rfl⟩
theorem en19 : Go.X.Enters Try.prog 19 := ⟨Try.f19, Try.func19, by kernel_rfl, by kernel_rfl⟩
theorem en11 : Go.X.Enters Try.prog 11 := ⟨Try.f11, Try.func11, by kernel_rfl, by kernel_rfl⟩
theorem en25 : Go.X.Enters Try.prog 25 := ⟨Try.f25, Try.func25, by kernel_rfl, by kernel_rfl⟩
theorem lof_w (N : Nat) (p : TProb) (p_v : Value) (p_v1 : Value) (p_v2 : Value) (p_v3 : Value) (p_v4 : Value) (w : World) (S : Nat → Prop) (p_h : Rs rI (vH w S [] w) p_v p.Min) (p_h1 : Rs rI (vH w S [] w) p_v1 p.Max) (p_h2 : Rs rTTest (vH w S [] w) p_v2 p.Tests) (p_h3 : Rs rArr2Int (vH w S [] w) p_v3 p.Same) (p_h4 : Rs rArr2Int (vH w S [] w) p_v4 p.Different) (r : TProb) (h : lof N p = some r) :
  Calls Try.prog 14 #[(zbo #[p_v, p_v1, p_v2, p_v3, p_v4])] w (Ret w (fun v w' => ∃ (v0_0 : Value) (v0_1 : Value) (v0_2 : Value) (v0_3 : Value) (v0_4 : Value), (zbo #[v0_0, v0_1, v0_2, v0_3, v0_4]) = v ∧ Rs rI (vH w None [] w') v0_0 r.Min ∧ Rs rI (vH w None [] w') v0_1 r.Max ∧ Rs rTTest (vH w None [] w') v0_2 r.Tests ∧ Rs rArr2Int (vH w None [] w') v0_3 r.Same ∧ Rs rArr2Int (vH w None [] w') v0_4 r.Different ∧ True)) := by
 unfold lof at h
 have hL : vL w w [] [] := Go.X.Loc.begin0 w
 refine calls_of (l := [(zbo #[p_v, p_v1, p_v2, p_v3, p_v4])]) (rl := [.cell 2 31]) (n := 24) Try.func14 rfl rfl rfl (zai rfl) ?_
 refine zan (zaf rfl (zag (zdr (cs := [p_v, p_v1, p_v2, p_v3, p_v4]) rfl rfl hL ?_)))
 intro b1 w2 hL3 hS5
 have K4 := ks w hS5
 refine zag (zdh (cs := [zN, zN, zN, zN, zN]) ti31 rfl hL3 ?_)
 intro b6 w7 hL8 hS10
 have K9 := ks w hS10
 refine zas (zan ?_)
 obtain ⟨x10, q10, h⟩ := zdt h
 obtain ⟨q11, q12, q13⟩ := zek q10
 obtain ⟨x11, q14, h⟩ := zdt h
 obtain ⟨q15, q16, q17⟩ := zek q14
 obtain ⟨x12, q18, h⟩ := zdt h
 obtain ⟨q19, q20, q21⟩ := zek q18
 obtain ⟨x13, q22, h⟩ := zdt h
 obtain ⟨q23, q24, q25⟩ := zek q22
 refine zcz 19 [[], [], [], [0], [], [], [], [4], [], [], [], [8], [], [], [], [12], [], [], []] [] (fun W1 => [.rel (fun v Z w' => ∃ b10, (osv (some b10) 0 (List.length ([] : (List Int))) 0) = v ∧ OwnC w' (some b10) (zab ([] ++ ([] ++ []))) ∧ Els rI (vZ W1 w None [some b6, some b1] Z w') [] ([] : (List Int)) ∧ ([] ++ [] : List Value).length = 0 * rI.sz ∧ True) footV, .det (zak (some ⟨b1, 0, none⟩)), .det p_v, .rel (fun v Z w' => ∃ ob10 cap10 cs10 sp10, (zO ob10 x10 cap10) = v ∧ OwnC w' ob10 (zab ([] ++ (cs10 ++ sp10))) ∧ Els rI (vZ W1 w None [some b6, some b1] Z w') cs10 x10 ∧ (cs10 ++ sp10 : List Value).length = cap10 * rI.sz ∧ True) footV, .rel (fun v Z w' => ∃ b11, (osv (some b11) 0 (List.length ([] : (List Int))) 0) = v ∧ OwnC w' (some b11) (zab ([] ++ ([] ++ []))) ∧ Els rI (vZ W1 w None [some b6, some b1] Z w') [] ([] : (List Int)) ∧ ([] ++ [] : List Value).length = 0 * rI.sz ∧ True) footV, .det (zak (some ⟨b1, 1, none⟩)), .det p_v1, .rel (fun v Z w' => ∃ ob11 cap11 cs11 sp11, (zO ob11 x11 cap11) = v ∧ OwnC w' ob11 (zab ([] ++ (cs11 ++ sp11))) ∧ Els rI (vZ W1 w None [some b6, some b1] Z w') cs11 x11 ∧ (cs11 ++ sp11 : List Value).length = cap11 * rI.sz ∧ True) footV, .rel (fun v Z w' => ∃ b12, (osv (some b12) 0 (List.length ([] : (List TTest))) 0) = v ∧ OwnC w' (some b12) (zab ([] ++ ([] ++ []))) ∧ Els rTTest (vZ W1 w None [some b6, some b1] Z w') [] ([] : (List TTest)) ∧ ([] ++ [] : List Value).length = 0 * rTTest.sz ∧ True) footV, .det (zak (some ⟨b1, 2, none⟩)), .det p_v2, .rel (fun v Z w' => ∃ ob12 cap12 cs12 sp12, (zO ob12 x12 cap12) = v ∧ OwnC w' ob12 (zab ([] ++ (cs12 ++ sp12))) ∧ Els rTTest (vZ W1 w None [some b6, some b1] Z w') cs12 x12 ∧ (cs12 ++ sp12 : List Value).length = cap12 * rTTest.sz ∧ True) footV, .rel (fun v Z w' => ∃ b13, (osv (some b13) 0 (List.length ([] : (List Arr2Int))) 0) = v ∧ OwnC w' (some b13) (zab ([] ++ ([] ++ []))) ∧ Els rArr2Int (vZ W1 w None [some b6, some b1] Z w') [] ([] : (List Arr2Int)) ∧ ([] ++ [] : List Value).length = 0 * rArr2Int.sz ∧ True) footV, .det (zak (some ⟨b1, 3, none⟩)), .det p_v3, .rel (fun v Z w' => ∃ ob13 cap13 cs13 sp13, (zO ob13 x13 cap13) = v ∧ OwnC w' ob13 (zab ([] ++ (cs13 ++ sp13))) ∧ Els rArr2Int (vZ W1 w None [some b6, some b1] Z w') cs13 x13 ∧ (cs13 ++ sp13 : List Value).length = cap13 * rArr2Int.sz ∧ True) footV, .rel (fun v Z w' => ∃ b14, (osv (some b14) 0 (List.length ([] : (List Arr2Int))) 0) = v ∧ OwnC w' (some b14) (zab ([] ++ ([] ++ []))) ∧ Els rArr2Int (vZ W1 w None [some b6, some b1] Z w') [] ([] : (List Arr2Int)) ∧ ([] ++ [] : List Value).length = 0 * rArr2Int.sz ∧ True) footV, .det (zak (some ⟨b1, 4, none⟩)), .det p_v4]) mixed rfl rfl rfl (fun _ => rfl) (fun _ => rfl) ?_ ?_
 ·
  intro W1 _
  exact ⟨fun v Z Z' w w' hΦ hz _ _ hs => by obtain ⟨b10, rfl, hO10, hE10, hc10, -⟩ := hΦ; exact ⟨b10, rfl, (hO10.stay (fun b hb => by cases hb; exact zbj) hs), (hE10.mono (Zv.stay hz hs)), hc10, trivial⟩, ⟨fun v Z Z' w w' hΦ hz _ _ hs => by obtain ⟨ob10, cap10, cs10, sp10, rfl, hO11, hE11, hc11, -⟩ := hΦ; exact ⟨ob10, cap10, cs10, sp10, rfl, (hO11.stay (fun b hb => (zeb (ob := ob10) (o := 0) (n := x10.length) (cap := cap10)).2 (by rw [hb]; exact zbj)) hs), (hE11.mono (Zv.stay hz hs)), hc11, trivial⟩, ⟨fun v Z Z' w w' hΦ hz _ _ hs => by obtain ⟨b11, rfl, hO12, hE12, hc12, -⟩ := hΦ; exact ⟨b11, rfl, (hO12.stay (fun b hb => by cases hb; exact zbj) hs), (hE12.mono (Zv.stay hz hs)), hc12, trivial⟩, ⟨fun v Z Z' w w' hΦ hz _ _ hs => by obtain ⟨ob11, cap11, cs11, sp11, rfl, hO13, hE13, hc13, -⟩ := hΦ; exact ⟨ob11, cap11, cs11, sp11, rfl, (hO13.stay (fun b hb => (zeb (ob := ob11) (o := 0) (n := x11.length) (cap := cap11)).2 (by rw [hb]; exact zbj)) hs), (hE13.mono (Zv.stay hz hs)), hc13, trivial⟩, ⟨fun v Z Z' w w' hΦ hz _ _ hs => by obtain ⟨b12, rfl, hO14, hE14, hc14, -⟩ := hΦ; exact ⟨b12, rfl, (hO14.stay (fun b hb => by cases hb; exact zbj) hs), (hE14.mono (Zv.stay hz hs)), hc14, trivial⟩, ⟨fun v Z Z' w w' hΦ hz _ _ hs => by obtain ⟨ob12, cap12, cs12, sp12, rfl, hO15, hE15, hc15, -⟩ := hΦ; exact ⟨ob12, cap12, cs12, sp12, rfl, (hO15.stay (fun b hb => (zeb (ob := ob12) (o := 0) (n := x12.length) (cap := cap12)).2 (by rw [hb]; exact zbj)) hs), (hE15.mono (Zv.stay hz hs)), hc15, trivial⟩, ⟨fun v Z Z' w w' hΦ hz _ _ hs => by obtain ⟨b13, rfl, hO16, hE16, hc16, -⟩ := hΦ; exact ⟨b13, rfl, (hO16.stay (fun b hb => by cases hb; exact zbj) hs), (hE16.mono (Zv.stay hz hs)), hc16, trivial⟩, ⟨fun v Z Z' w w' hΦ hz _ _ hs => by obtain ⟨ob13, cap13, cs13, sp13, rfl, hO17, hE17, hc17, -⟩ := hΦ; exact ⟨ob13, cap13, cs13, sp13, rfl, (hO17.stay (fun b hb => (zeb (ob := ob13) (o := 0) (n := x13.length) (cap := cap13)).2 (by rw [hb]; exact zbj)) hs), (hE17.mono (Zv.stay hz hs)), hc17, trivial⟩, ⟨fun v Z Z' w w' hΦ hz _ _ hs => by obtain ⟨b14, rfl, hO18, hE18, hc18, -⟩ := hΦ; exact ⟨b14, rfl, (hO18.stay (fun b hb => by cases hb; exact zbj) hs), (hE18.mono (Zv.stay hz hs)), hc18, trivial⟩, trivial⟩⟩⟩⟩⟩⟩⟩⟩⟩
 intro w10 hE19
 obtain ⟨hL10, K10⟩ := zl hL8 hE19
 refine DrH.rel ?_ ?_
 ·
  rintro w11 Z18 hE20 hZ10 ⟨-⟩
  refine zaq (OpY.litRow0 zao ti3 (Go.X.Loc.begin0 w11) ?_)
  intro b10 w12 hL11 hS11
  have hN10 : NewOwn w11 w12 [some b10] [zab ([] ++ ([] ++ []))] := hL11.newOwn [0] rfl rfl rfl
  exact Made.ext hL11.done hZ10 hN10 (fun _ h => h) ⟨b10, rfl, hN10.2.2.1, zcq, (by simp), trivial⟩
 intro z0
 refine zay (fun _ _ => zaq (zau zbf rfl ti22 rfl rfl rfl (er rfl))) ?_
 refine zay (fun _ hE22 => zaq (zav zao rfl rfl ((hL10.ext hE22).at 1 rfl rfl) rfl (er rfl))) ?_
 refine DrH.rel ?_ ?_
 ·
  rintro w15 Z22 hE23 hZ13 ⟨⟨⟨b10, rfl, hO10, hE10, hc10, -⟩, hB0⟩, -⟩
  obtain ⟨ds10, q26, q27⟩ := Rs.src ((((p_h.mono (K4 S)).mono (K9 S)).mono (K10 S)).mono (Zv.old (Z := Z22) hE23))
  refine zaq (zcw (r := rI) (H := (vZ w10 w None [some b6, some b1] Z22 w15)) (cs := []) (sp := []) (xs := ([] : (List Int))) (ys := p.Min) (Y := x10) (n := (List.length ([] : (List Int)))) (cap := 0) (i := 0) zao ti3 rfl rfl rfl rfl (Go.X.Loc.begin1 hO10) rfl rfl hE10 rfl hc10 q26 (zcg (fun _ _ _ _ h => h) q27) q11 q12 q13 ?_)
  intro ob10 cap10 sp10 cs10 w16 hE11 hc11 (hL13 : Go.X.Loc [some b10] [] w15 w16 [ob10] [zab ([] ++ (cs10 ++ sp10))]) hS12
  exact Made.use hZ13 (fun b hb => hB0 b ((zeb (o := 0) (n := (List.length ([] : (List Int)))) (cap := 0)).2 hb)) hL13 (fun b hb => List.mem_append_left _ ((zeb (o := 0) (n := (List.length ([] : (List Int)))) (cap := 0)).2 (by rw [← hb]; exact zbj))) (fun b hb => footV_osv.1 hb) ⟨ob10, cap10, cs10, sp10, rfl, hL13.own.1, (hE11.mono (Zv.use (fun b hb => hB0 b ((zeb (o := 0) (n := (List.length ([] : (List Int)))) (cap := 0)).2 hb)) hL13)), hc11, trivial⟩
 intro z3
 refine DrH.rel ?_ ?_
 ·
  rintro w17 Z23 hE24 hZ14 ⟨-, -, -⟩
  refine zaq (OpY.litRow0 zao ti3 (Go.X.Loc.begin0 w17) ?_)
  intro b11 w18 hL14 hS13
  have hN11 : NewOwn w17 w18 [some b11] [zab ([] ++ ([] ++ []))] := hL14.newOwn [0] rfl rfl rfl
  exact Made.ext hL14.done hZ14 hN11 (fun _ h => h) ⟨b11, rfl, hN11.2.2.1, zcq, (by simp), trivial⟩
 intro z4
 refine zay (fun _ _ => zaq (zau zbf rfl ti22 rfl rfl rfl (er rfl))) ?_
 refine zay (fun _ hE26 => zaq (zav zao rfl rfl ((hL10.ext hE26).at 1 rfl rfl) rfl (er rfl))) ?_
 refine DrH.rel ?_ ?_
 ·
  rintro w21 Z26 hE27 hZ17 ⟨⟨⟨b11, rfl, hO12, hE12, hc12, -⟩, hB4⟩, ⟨⟨ob10, cap10, cs10, sp10, rfl, hO11, hE11, hc11, -⟩, hB3⟩, -, -⟩
  obtain ⟨ds11, q28, q29⟩ := Rs.src ((((p_h1.mono (K4 S)).mono (K9 S)).mono (K10 S)).mono (Zv.old (Z := Z26) hE27))
  refine zaq (zcw (r := rI) (H := (vZ w10 w None [some b6, some b1] Z26 w21)) (cs := []) (sp := []) (xs := ([] : (List Int))) (ys := p.Max) (Y := x11) (n := (List.length ([] : (List Int)))) (cap := 0) (i := 0) zao ti3 rfl rfl rfl rfl (Go.X.Loc.begin1 hO12) rfl rfl hE12 rfl hc12 q28 (zcg (fun _ _ _ _ h => h) q29) q15 q16 q17 ?_)
  intro ob11 cap11 sp11 cs11 w22 hE13 hc13 (hL16 : Go.X.Loc [some b11] [] w21 w22 [ob11] [zab ([] ++ (cs11 ++ sp11))]) hS14
  exact Made.use hZ17 (fun b hb => hB4 b ((zeb (o := 0) (n := (List.length ([] : (List Int)))) (cap := 0)).2 hb)) hL16 (fun b hb => List.mem_append_left _ ((zeb (o := 0) (n := (List.length ([] : (List Int)))) (cap := 0)).2 (by rw [← hb]; exact zbj))) (fun b hb => footV_osv.1 hb) ⟨ob11, cap11, cs11, sp11, rfl, hL16.own.1, (hE13.mono (Zv.use (fun b hb => hB4 b ((zeb (o := 0) (n := (List.length ([] : (List Int)))) (cap := 0)).2 hb)) hL16)), hc13, trivial⟩
 intro z7
 refine DrH.rel ?_ ?_
 ·
  rintro w23 Z27 hE28 hZ18 ⟨-, -, -, -, -⟩
  refine zaq (OpY.litRow0 zbc ti44 (Go.X.Loc.begin0 w23) ?_)
  intro b12 w24 hL17 hS15
  have hN12 : NewOwn w23 w24 [some b12] [zab ([] ++ ([] ++ []))] := hL17.newOwn [0] rfl rfl rfl
  exact Made.ext hL17.done hZ18 hN12 (fun _ h => h) ⟨b12, rfl, hN12.2.2.1, zcq, (by simp), trivial⟩
 intro z8
 refine zay (fun _ _ => zaq (zau zbf rfl ti23 rfl rfl rfl (er rfl))) ?_
 refine zay (fun _ hE30 => zaq (zav zbc rfl rfl ((hL10.ext hE30).at 1 rfl rfl) rfl (er rfl))) ?_
 refine DrH.rel ?_ ?_
 ·
  rintro w27 Z30 hE31 hZ21 ⟨⟨⟨b12, rfl, hO14, hE14, hc14, -⟩, hB8⟩, ⟨⟨ob11, cap11, cs11, sp11, rfl, hO13, hE13, hc13, -⟩, hB7⟩, -, -, -, -⟩
  obtain ⟨ds12, q30, q31⟩ := Rs.src ((((p_h2.mono (K4 S)).mono (K9 S)).mono (K10 S)).mono (Zv.old (Z := Z30) hE31))
  refine zaq (zcw (r := rTTest) (H := (vZ w10 w None [some b6, some b1] Z30 w27)) (cs := []) (sp := []) (xs := ([] : (List TTest))) (ys := p.Tests) (Y := x12) (n := (List.length ([] : (List TTest)))) (cap := 0) (i := 0) zbc ti44 rfl rfl rfl rfl (Go.X.Loc.begin1 hO14) rfl rfl hE14 rfl hc14 q30 (zcg (fun _ _ _ _ h => h) q31) q19 q20 q21 ?_)
  intro ob12 cap12 sp12 cs12 w28 hE15 hc15 (hL19 : Go.X.Loc [some b12] [] w27 w28 [ob12] [zab ([] ++ (cs12 ++ sp12))]) hS16
  exact Made.use hZ21 (fun b hb => hB8 b ((zeb (o := 0) (n := (List.length ([] : (List TTest)))) (cap := 0)).2 hb)) hL19 (fun b hb => List.mem_append_left _ ((zeb (o := 0) (n := (List.length ([] : (List TTest)))) (cap := 0)).2 (by rw [← hb]; exact zbj))) (fun b hb => footV_osv.1 hb) ⟨ob12, cap12, cs12, sp12, rfl, hL19.own.1, (hE15.mono (Zv.use (fun b hb => hB8 b ((zeb (o := 0) (n := (List.length ([] : (List TTest)))) (cap := 0)).2 hb)) hL19)), hc15, trivial⟩
 intro z10
 refine DrH.rel ?_ ?_
 ·
  rintro w29 Z31 hE32 hZ22 ⟨-, -, -, -, -, -, -⟩
  refine zaq (OpY.litRow0 zbn ti45 (Go.X.Loc.begin0 w29) ?_)
  intro b13 w30 hL20 hS17
  have hN13 : NewOwn w29 w30 [some b13] [zab ([] ++ ([] ++ []))] := hL20.newOwn [0] rfl rfl rfl
  exact Made.ext hL20.done hZ22 hN13 (fun _ h => h) ⟨b13, rfl, hN13.2.2.1, zcq, (by simp), trivial⟩
 intro z11
 refine zay (fun _ _ => zaq (zau zbf rfl ti24 rfl rfl rfl (er rfl))) ?_
 refine zay (fun _ hE34 => zaq (zav zbn rfl rfl ((hL10.ext hE34).at 1 rfl rfl) rfl (er rfl))) ?_
 refine DrH.rel ?_ ?_
 ·
  rintro w33 Z34 hE35 hZ25 ⟨⟨⟨b13, rfl, hO16, hE16, hc16, -⟩, hB10⟩, ⟨⟨ob12, cap12, cs12, sp12, rfl, hO15, hE15, hc15, -⟩, hB11⟩, -, -, -, -, -, -⟩
  obtain ⟨ds13, q32, q33⟩ := Rs.src ((((p_h3.mono (K4 S)).mono (K9 S)).mono (K10 S)).mono (Zv.old (Z := Z34) hE35))
  refine zaq (zcw (r := rArr2Int) (H := (vZ w10 w None [some b6, some b1] Z34 w33)) (cs := []) (sp := []) (xs := ([] : (List Arr2Int))) (ys := p.Same) (Y := x13) (n := (List.length ([] : (List Arr2Int)))) (cap := 0) (i := 0) zbn ti45 rfl rfl rfl rfl (Go.X.Loc.begin1 hO16) rfl rfl hE16 rfl hc16 q32 (zcg (fun _ _ _ _ h => h) q33) q23 q24 q25 ?_)
  intro ob13 cap13 sp13 cs13 w34 hE17 hc17 (hL22 : Go.X.Loc [some b13] [] w33 w34 [ob13] [zab ([] ++ (cs13 ++ sp13))]) hS18
  exact Made.use hZ25 (fun b hb => hB10 b ((zeb (o := 0) (n := (List.length ([] : (List Arr2Int)))) (cap := 0)).2 hb)) hL22 (fun b hb => List.mem_append_left _ ((zeb (o := 0) (n := (List.length ([] : (List Arr2Int)))) (cap := 0)).2 (by rw [← hb]; exact zbj))) (fun b hb => footV_osv.1 hb) ⟨ob13, cap13, cs13, sp13, rfl, hL22.own.1, (hE17.mono (Zv.use (fun b hb => hB10 b ((zeb (o := 0) (n := (List.length ([] : (List Arr2Int)))) (cap := 0)).2 hb)) hL22)), hc17, trivial⟩
 intro z12
 refine DrH.rel ?_ ?_
 ·
  rintro w35 Z35 hE36 hZ26 ⟨-, -, -, -, -, -, -, -, -⟩
  refine zaq (OpY.litRow0 zbn ti45 (Go.X.Loc.begin0 w35) ?_)
  intro b14 w36 hL23 hS19
  have hN14 : NewOwn w35 w36 [some b14] [zab ([] ++ ([] ++ []))] := hL23.newOwn [0] rfl rfl rfl
  exact Made.ext hL23.done hZ26 hN14 (fun _ h => h) ⟨b14, rfl, hN14.2.2.1, zcq, (by simp), trivial⟩
 intro z13
 refine zay (fun _ _ => zaq (zau zbf rfl ti24 rfl rfl rfl (er rfl))) ?_
 refine zay (fun _ hE38 => zaq (zav zbn rfl rfl ((hL10.ext hE38).at 1 rfl rfl) rfl (er rfl))) ?_
 refine zdj ?_
 rintro w39 Z38 hE39 hZ29 ⟨⟨⟨b14, rfl, hO18, hE18, hc18, -⟩, hB12⟩, ⟨⟨ob13, cap13, cs13, sp13, rfl, hO17, hE17, hc17, -⟩, hB13⟩, -, ⟨⟨ob12, cap12, cs12, sp12, rfl, hO15, hE15, hc15, -⟩, hB11⟩, -, ⟨⟨ob11, cap11, cs11, sp11, rfl, hO13, hE13, hc13, -⟩, hB7⟩, -, ⟨⟨ob10, cap10, cs10, sp10, rfl, hO11, hE11, hc11, -⟩, hB3⟩, -, -⟩ ap10
 have hB14 : ∀ b, some b ∈ ([some b14, ob13, ob12, ob11, ob10] : List (Option Nat)) → w10.heap.size ≤ b ∧ ¬ Z38 b := by
  intro b hb
  rcases List.mem_cons.1 hb with hb' | hb
  ·
   have := hB12 b (by rw [hb']; exact zbj); exact ⟨this.1, this.2.2⟩
  rcases List.mem_cons.1 hb with hb' | hb
  ·
   have := hB13 b ((zeb (ob := ob13) (o := 0) (n := x13.length) (cap := cap13)).2 (by rw [hb']; exact zbj)); exact ⟨this.1, this.2.2⟩
  rcases List.mem_cons.1 hb with hb' | hb
  ·
   have := hB11 b ((zeb (ob := ob12) (o := 0) (n := x12.length) (cap := cap12)).2 (by rw [hb']; exact zbj)); exact ⟨this.1, this.2.2⟩
  rcases List.mem_cons.1 hb with hb' | hb
  ·
   have := hB7 b ((zeb (ob := ob11) (o := 0) (n := x11.length) (cap := cap11)).2 (by rw [hb']; exact zbj)); exact ⟨this.1, this.2.2⟩
  rcases List.mem_cons.1 hb with hb' | hb
  ·
   have := hB3 b ((zeb (ob := ob10) (o := 0) (n := x10.length) (cap := cap10)).2 (by rw [hb']; exact zbj)); exact ⟨this.1, this.2.2⟩
  cases hb
 replace hE18 := hE18.mono (Zv.fin hL10 hZ29 hB14)
 replace hE17 := hE17.mono (Zv.fin hL10 hZ29 hB14)
 replace hE15 := hE15.mono (Zv.fin hL10 hZ29 hB14)
 replace hE13 := hE13.mono (Zv.fin hL10 hZ29 hB14)
 replace hE11 := hE11.mono (Zv.fin hL10 hZ29 hB14)
 have hN15 : NewOwn w10 w39 [some b14, ob13, ob12, ob11, ob10] [zab ([] ++ ([] ++ [])), zab ([] ++ (cs13 ++ sp13)), zab ([] ++ (cs12 ++ sp12)), zab ([] ++ (cs11 ++ sp11)), zab ([] ++ (cs10 ++ sp10))] := (NewOwn.cons (NewOwn.cons (NewOwn.cons (NewOwn.cons (NewOwn.cons NewOwn.nil hO11 (fun b hb => (hB14 b (by rw [← hb]; simp)).1) (fun b _ hb => by cases hb)) hO13 (fun b hb => (hB14 b (by rw [← hb]; simp)).1) (fun b hb hm => (List.mem_cons.1 hm).elim (fun e => apE (ap10.2.2.2.2.2.1.2) rfl rfl b ((zeb (ob := ob11) (o := 0) (n := x11.length) (cap := cap11)).2 hb) ((zeb (ob := ob10) (o := 0) (n := x10.length) (cap := cap10)).2 (by rw [e]; exact zbj))) (fun hm => by cases hm))) hO15 (fun b hb => (hB14 b (by rw [← hb]; simp)).1) (fun b hb hm => (List.mem_cons.1 hm).elim (fun e => apE (ap10.2.2.2.1.2) rfl rfl b ((zeb (ob := ob12) (o := 0) (n := x12.length) (cap := cap12)).2 hb) ((zeb (ob := ob11) (o := 0) (n := x11.length) (cap := cap11)).2 (by rw [e]; exact zbj))) (fun hm => (List.mem_cons.1 hm).elim (fun e => apE (ap10.2.2.2.1.2.2.2) rfl rfl b ((zeb (ob := ob12) (o := 0) (n := x12.length) (cap := cap12)).2 hb) ((zeb (ob := ob10) (o := 0) (n := x10.length) (cap := cap10)).2 (by rw [e]; exact zbj))) (fun hm => by cases hm)))) hO17 (fun b hb => (hB14 b (by rw [← hb]; simp)).1) (fun b hb hm => (List.mem_cons.1 hm).elim (fun e => apE (ap10.2.1.2) rfl rfl b ((zeb (ob := ob13) (o := 0) (n := x13.length) (cap := cap13)).2 hb) ((zeb (ob := ob12) (o := 0) (n := x12.length) (cap := cap12)).2 (by rw [e]; exact zbj))) (fun hm => (List.mem_cons.1 hm).elim (fun e => apE (ap10.2.1.2.2.2) rfl rfl b ((zeb (ob := ob13) (o := 0) (n := x13.length) (cap := cap13)).2 hb) ((zeb (ob := ob11) (o := 0) (n := x11.length) (cap := cap11)).2 (by rw [e]; exact zbj))) (fun hm => (List.mem_cons.1 hm).elim (fun e => apE (ap10.2.1.2.2.2.2.2) rfl rfl b ((zeb (ob := ob13) (o := 0) (n := x13.length) (cap := cap13)).2 hb) ((zeb (ob := ob10) (o := 0) (n := x10.length) (cap := cap10)).2 (by rw [e]; exact zbj))) (fun hm => by cases hm))))) hO18 (fun b hb => (hB14 b (by rw [← hb]; simp)).1) (fun b hb hm => (List.mem_cons.1 hm).elim (fun e => apE (ap10.1) rfl rfl b ((zeb (ob := (some b14)) (o := 0) (n := (List.length ([] : (List Arr2Int)))) (cap := 0)).2 hb) ((zeb (ob := ob13) (o := 0) (n := x13.length) (cap := cap13)).2 (by rw [e]; exact zbj))) (fun hm => (List.mem_cons.1 hm).elim (fun e => apE (ap10.1.2.2) rfl rfl b ((zeb (ob := (some b14)) (o := 0) (n := (List.length ([] : (List Arr2Int)))) (cap := 0)).2 hb) ((zeb (ob := ob12) (o := 0) (n := x12.length) (cap := cap12)).2 (by rw [e]; exact zbj))) (fun hm => (List.mem_cons.1 hm).elim (fun e => apE (ap10.1.2.2.2.2) rfl rfl b ((zeb (ob := (some b14)) (o := 0) (n := (List.length ([] : (List Arr2Int)))) (cap := 0)).2 hb) ((zeb (ob := ob11) (o := 0) (n := x11.length) (cap := cap11)).2 (by rw [e]; exact zbj))) (fun hm => (List.mem_cons.1 hm).elim (fun e => apE (ap10.1.2.2.2.2.2.2) rfl rfl b ((zeb (ob := (some b14)) (o := 0) (n := (List.length ([] : (List Arr2Int)))) (cap := 0)).2 hb) ((zeb (ob := ob10) (o := 0) (n := x10.length) (cap := cap10)).2 (by rw [e]; exact zbj))) (fun hm => by cases hm))))))
 have hp10 := hL10.adoptL hE39 hN15
 have hL25 := hp10.1
 have K11 := ks w hp10.2
 obtain ⟨x14, q34, h⟩ := zdt h
 obtain ⟨q35, q36, q37⟩ := zek q34
 have f10 := ((((p_h4.mono (K4 S)).mono (K9 S)).mono (K10 S)).mono (K11 S))
 obtain ⟨ds14, q38, q39⟩ := Rs.src f10
 refine zag (zcw (r := rArr2Int) (H := (vH w None [some b14, ob13, ob12, ob11, ob10, some b6, some b1] w39)) (cs := []) (sp := []) (xs := ([] : (List Arr2Int))) (ys := p.Different) (Y := x14) (n := (List.length ([] : (List Arr2Int)))) (cap := 0) (i := 0) zbn ti45 rfl rfl rfl rfl hL25 rfl rfl hE18 rfl hc18 q38 (zcg (fun _ _ _ _ h => h) q39) q35 q36 q37 ?_)
 intro ob14 cap14 sp14 cs14 w40 hE40 hc19 (hL26 : vL w w40 [ob14, ob13, ob12, ob11, ob10, some b6, some b1] [zab ([] ++ (cs14 ++ sp14)), zab ([] ++ (cs13 ++ sp13)), zab ([] ++ (cs12 ++ sp12)), zab ([] ++ (cs11 ++ sp11)), zab ([] ++ (cs10 ++ sp10)), zab [zN, zN, zN, zN, zN], zab [p_v, p_v1, p_v2, p_v3, p_v4]]) hS20
 have K12 := ks w hS20
 refine zag (OpY.build (zc := [zN, zN, zN, zN, zN]) (cs := [(zO ob10 x10 cap10), (zO ob11 x11 cap11), (zO ob12 x12 cap12), (zO ob13 x13 cap13), (zO ob14 x14 cap14)]) (is := [0, 1, 2, 3, 4]) (vs := [(zO ob10 x10 cap10), (zO ob11 x11 cap11), (zO ob12 x12 cap12), (zO ob13 x13 cap13), (zO ob14 x14 cap14)]) (css := [[(zO ob10 x10 cap10)], [(zO ob11 x11 cap11)], [(zO ob12 x12 cap12)], [(zO ob13 x13 cap13)], [(zO ob14 x14 cap14)]]) pl31 ti31 rfl rfl rfl ⟨(zeg (zed _ _ _ _)), ⟨(zeg (zed _ _ _ _)), ⟨(zeg (zed _ _ _ _)), ⟨(zeg (zed _ _ _ _)), ⟨(zeg (zed _ _ _ _)), trivial⟩⟩⟩⟩⟩ rfl ?_)
 refine zde (zcv (vs := [(zO ob10 x10 cap10), (zO ob11 x11 cap11), (zO ob12 x12 cap12), (zO ob13 x13 cap13), (zO ob14 x14 cap14)]) ti31 rfl rfl rfl rfl (zdz (zed _ _ _ _) (zdz (zed _ _ _ _) (zdz (zed _ _ _ _) (zdz (zed _ _ _ _) (zdz (zed _ _ _ _) zej))))) hL26 5 rfl rfl (zai rfl) ?_)
 intro w41 (hL27 : vL w w41 [ob14, ob13, ob12, ob11, ob10, some b6, some b1] [zab ([] ++ (cs14 ++ sp14)), zab ([] ++ (cs13 ++ sp13)), zab ([] ++ (cs12 ++ sp12)), zab ([] ++ (cs11 ++ sp11)), zab ([] ++ (cs10 ++ sp10)), zab [(zO ob10 x10 cap10), (zO ob11 x11 cap11), (zO ob12 x12 cap12), (zO ob13 x13 cap13), (zO ob14 x14 cap14)], zab [p_v, p_v1, p_v2, p_v3, p_v4]]) hS21
 have K13 := ks w hS21
 refine zas ?_
 have f11 := ((hE11.mono (K12 None)).mono (K13 None))
 have f12 := hL27.freezeRow 4 rfl rfl f11 rfl rfl rfl hc11
 have hp11 := hL27.pick [0, 1, 2, 3, 5, 6] rfl rfl rfl
 have hL28 : vL w w41 [ob14, ob13, ob12, ob11, some b6, some b1] [zab ([] ++ (cs14 ++ sp14)), zab ([] ++ (cs13 ++ sp13)), zab ([] ++ (cs12 ++ sp12)), zab ([] ++ (cs11 ++ sp11)), zab [(zO ob10 x10 cap10), (zO ob11 x11 cap11), (zO ob12 x12 cap12), (zO ob13 x13 cap13), (zO ob14 x14 cap14)], zab [p_v, p_v1, p_v2, p_v3, p_v4]] := hp11.1
 have K14 := ks w hp11.2
 have f13 := (((hE13.mono (K12 None)).mono (K13 None)).mono (K14 None))
 have f14 := hL28.freezeRow 3 rfl rfl f13 rfl rfl rfl hc13
 have hp12 := hL28.pick [0, 1, 2, 4, 5] rfl rfl rfl
 have hL29 : vL w w41 [ob14, ob13, ob12, some b6, some b1] [zab ([] ++ (cs14 ++ sp14)), zab ([] ++ (cs13 ++ sp13)), zab ([] ++ (cs12 ++ sp12)), zab [(zO ob10 x10 cap10), (zO ob11 x11 cap11), (zO ob12 x12 cap12), (zO ob13 x13 cap13), (zO ob14 x14 cap14)], zab [p_v, p_v1, p_v2, p_v3, p_v4]] := hp12.1
 have K15 := ks w hp12.2
 have f15 := ((((hE15.mono (K12 None)).mono (K13 None)).mono (K14 None)).mono (K15 None))
 have f16 := hL29.freezeRow 2 rfl rfl f15 rfl rfl rfl hc15
 have hp13 := hL29.pick [0, 1, 3, 4] rfl rfl rfl
 have hL30 : vL w w41 [ob14, ob13, some b6, some b1] [zab ([] ++ (cs14 ++ sp14)), zab ([] ++ (cs13 ++ sp13)), zab [(zO ob10 x10 cap10), (zO ob11 x11 cap11), (zO ob12 x12 cap12), (zO ob13 x13 cap13), (zO ob14 x14 cap14)], zab [p_v, p_v1, p_v2, p_v3, p_v4]] := hp13.1
 have K16 := ks w hp13.2
 have f17 := (((((hE17.mono (K12 None)).mono (K13 None)).mono (K14 None)).mono (K15 None)).mono (K16 None))
 have f18 := hL30.freezeRow 1 rfl rfl f17 rfl rfl rfl hc17
 have hp14 := hL30.pick [0, 2, 3] rfl rfl rfl
 have hL31 : vL w w41 [ob14, some b6, some b1] [zab ([] ++ (cs14 ++ sp14)), zab [(zO ob10 x10 cap10), (zO ob11 x11 cap11), (zO ob12 x12 cap12), (zO ob13 x13 cap13), (zO ob14 x14 cap14)], zab [p_v, p_v1, p_v2, p_v3, p_v4]] := hp14.1
 have K17 := ks w hp14.2
 have f19 := ((((((hE40.mono (K12 None)).mono (K13 None)).mono (K14 None)).mono (K15 None)).mono (K16 None)).mono (K17 None))
 have f20 := hL31.freezeRow 0 rfl rfl f19 rfl rfl rfl hc19
 have hp15 := hL31.pick [1, 2] rfl rfl rfl
 have hL32 : vL w w41 [some b6, some b1] [zab [(zO ob10 x10 cap10), (zO ob11 x11 cap11), (zO ob12 x12 cap12), (zO ob13 x13 cap13), (zO ob14 x14 cap14)], zab [p_v, p_v1, p_v2, p_v3, p_v4]] := hp15.1
 have K18 := ks w hp15.2
 refine zbq ?_
 obtain rfl := zad h
 refine ⟨[(zbo #[(zO ob10 x10 cap10), (zO ob11 x11 cap11), (zO ob12 x12 cap12), (zO ob13 x13 cap13), (zO ob14 x14 cap14)])], ⟨⟨⟨b6, 0, none⟩, rfl, res_boxA zbw rfl ti31 (hL32.at 0 rfl rfl) rfl⟩, trivial⟩, ⟨_, rfl, hL32.done, ?_⟩⟩
 have f21 := ((((f12.mono (K15 None)).mono (K16 None)).mono (K17 None)).mono (K18 None))
 have f22 := (((f14.mono (K16 None)).mono (K17 None)).mono (K18 None))
 have f23 := ((f16.mono (K17 None)).mono (K18 None))
 have f24 := (f18.mono (K18 None))
 exact ⟨(zO ob10 x10 cap10), (zO ob11 x11 cap11), (zO ob12 x12 cap12), (zO ob13 x13 cap13), (zO ob14 x14 cap14), rfl, (f21.mono Hv.out), (f22.mono Hv.out), (f23.mono Hv.out), (f24.mono Hv.out), (f20.mono Hv.out), trivial⟩
theorem lequal_w (N : Nat) (a : (List (List UInt8))) (b : (List (List UInt8))) (a_v : Value) (b_v : Value) (w : World) (S : Nat → Prop) (a_h : Rs rStr (vH w S [] w) a_v a) (b_h : Rs rStr (vH w S [] w) b_v b) (r : Bool) (h : lequal N a b = some r) :
  Calls Try.prog 27 #[a_v, b_v] w (Ret w (fun v w' => (zac r) = v ∧ True)) := by
 unfold lequal at h
 have hL : vL w w [] [] := Go.X.Loc.begin0 w
 refine calls_of (l := [a_v, b_v]) (rl := [.tmp 4]) (n := 26) Try.func27 rfl rfl rfl (zai rfl) ?_
 refine zan (zaf rfl (zag (zal (v := zF) rfl ?_)))
 refine zas (zan (zan (zaf rfl (zag (zae (v := a_v) rfl ?_)))))
 refine zag (zcc (v := a_v) zax rfl a_h ?_)
 refine zag (zae (v := b_v) rfl ?_)
 refine zag (zcc (v := b_v) zax rfl b_h ?_)
 refine zag (OpY.neq (x := (a.length : Int)) (y := (b.length : Int)) (((a.length : Int) : Int) ≠ (b.length : Int)) rfl rfl zbk (zas ?_))
 refine zbm (((a.length : Int) : Int) ≠ (b.length : Int)) rfl (fun hc1 => ?_) (fun hc1 => ?_)
 ·
  replace h := ite_t hc1 h
  refine zan (zaf rfl (zag (zal (v := zF) rfl ?_)))
  refine zas (zbq ?_)
  obtain rfl := zad h
  refine ⟨[zF], zrt, ⟨_, rfl, hL.done, ?_⟩⟩
  exact zrt
 replace h := ite_f hc1 h
 refine zbl (zan (zan (zaf rfl (zag (zae (v := a_v) rfl ?_)))))
 refine zag (zcc (v := a_v) zax rfl a_h ?_)
 refine zag (zae (v := (zI 0)) rfl (zas ?_))
 obtain ⟨s10, hl10, g10⟩ := zdt h
 refine zbu (fun e w' => ∃  (u : Env), (Sum.inl ()) = s10 ∧ e = upds [] u ∧ vL w w' [] [] ∧ Keep w.heap.size [] w [] w' ∧ True) ?_ ?_
 ·
  refine zbb ?_
  refine zca hl10 (fun (ss : Int) (e : Env) (w' : World) => match ss with | x10 => ∃ (u : Env), e = upds [(0, a_v), (1, b_v), (12, (zI (a.length : Int))), (13, (zI x10))] u ∧ vL w w' [] [] ∧ Keep w.heap.size [] w [] w' ∧ True) ⟨_, (zdx ⟨rfl, rfl, rfl, rfl, trivial⟩), hL, zbt, trivial⟩ ?_
  rintro x10 oo _ w10 ⟨u, rfl, hL10, K10, -⟩ h hd10
  rw [lequal_b1] at h
  refine zan (zaf rfl (zag (zck (x := x10) (y := (a.length : Int)) ((x10 : Int) < (a.length : Int)) rfl rfl zbk ?_)))
  refine zas (zan ?_)
  refine zbm ((x10 : Int) < (a.length : Int)) rfl (fun hc10 => ?_) (fun hc10 => ?_)
  ·
   replace h := ite_t hc10 h
   refine zbl (zan (zbb (zan (zaf rfl (zag (zae (v := (zI x10)) rfl ?_))))))
   refine zag (zal (v := (zI x10)) rfl ?_)
   refine zas (zan ?_)
   obtain ⟨x11, n10, q11, q12, -, h⟩ := zix h
   have f10 := (a_h.mono (K10 S))
   obtain ⟨b10, o10, c10, vs10, q13, q14, f11, q15⟩ := zcy f10 q12
   obtain rfl := q15
   obtain ⟨x12, n11, q17, q18, -, h⟩ := zix h
   have f12 := (b_h.mono (K10 S))
   obtain ⟨b11, o11, c11, vs11, q19, q20, f13, q21⟩ := zcy f12 q18
   obtain rfl := q21
   refine zcz 8 [] [] (fun W1 => [.det a_v, .det (zI x10), .det (zak (some ⟨b10, (o10 + n10 * rStr.sz), none⟩)), .det (zS x11), .det b_v, .det (zI x10), .det (zak (some ⟨b11, (o11 + n11 * rStr.sz), none⟩)), .det (zS x12)]) mixed rfl rfl rfl (fun _ => rfl) (fun _ => rfl) ?_ ?_
   ·
    intro W1 _
    exact trivial
   intro w11 hE10
   obtain ⟨hL11, K11⟩ := zl hL10 hE10
   refine zay (fun _ _ => zaq (zae rfl (er rfl))) ?_
   refine zay (fun _ _ => zaq (zae rfl (er rfl))) ?_
   refine zay (fun _ _ => zaq (zcb (r := rStr) (v := a_v) (n := n10) (m := (o10 + n10 * rStr.sz)) zax ti9 rfl q13 rfl q11 q12 rfl (er rfl))) ?_
   refine zay (fun _ hE14 => zaq (zcd zba rfl rfl zec (zco ((ke hL11 hE14) S) (zco (K11 S) f11)) (er rfl))) ?_
   refine zay (fun _ _ => zaq (zae rfl (er rfl))) ?_
   refine zay (fun _ _ => zaq (zae rfl (er rfl))) ?_
   refine zay (fun _ _ => zaq (zcb (r := rStr) (v := b_v) (n := n11) (m := (o11 + n11 * rStr.sz)) zax ti9 rfl q19 rfl q17 q18 rfl (er rfl))) ?_
   refine zay (fun _ hE18 => zaq (zcd zba rfl rfl zec (zco ((ke hL11 hE18) S) (zco (K11 S) f13)) (er rfl))) ?_
   refine zdj ?_
   rintro w20 Z27 hE19 hZ18 ⟨-⟩ ap10
   have hB10 := @zhb w11 Z27
   obtain ⟨hL12, K14⟩ := zl hL11 hE19
   refine zag (OpY.sNeq (x := x11) (y := x12) rfl rfl (zas ?_))
   refine zbm (¬ x11 = x12) rfl (fun hc11 => ?_) (fun hc11 => ?_)
   ·
    replace h := ite_t hc11 h
    refine zan (zaf rfl (zag (zal (v := zF) rfl ?_)))
    refine zas (zbq ?_)
    obtain rfl := zad h
    obtain rfl := hd10 _ rfl
    replace h := g10
    try dsimp only at h
    obtain rfl := zad h
    refine ⟨[zF], zrt, ⟨_, rfl, hL12.done, ?_⟩⟩
    exact zrt
   replace h := ite_f hc11 h
   refine zbl (zbh (zaf rfl (zag (zce (x := x10) (y := 1) (z := (iw (x10 + 1))) rfl rfl rfl ?_))))
   refine zag (zae (v := (zI (iw (x10 + 1)))) rfl (zas ?_))
   obtain rfl := zad h
   refine zat ⟨(iw (x10 + 1)), rfl, ?_⟩
   exact ⟨_, (zdx ⟨rfl, rfl, rfl, rfl, trivial⟩), hL12, (zam (zam K10 K11) K14), trivial⟩
  replace h := ite_f hc10 h
  refine zcf rfl ?_
  obtain rfl := zad h
  obtain rfl := hd10 _ rfl
  replace h := g10
  try dsimp only at h
  refine zat ?_
  exact ⟨_, rfl, (zdx trivial), hL10, K10, trivial⟩
 rintro _ w21 ⟨u, rfl, rfl, hL13, K15, -⟩
 replace h := g10
 try dsimp only at h
 refine zan (zaf rfl (zag (zal (v := zT) rfl ?_)))
 refine zas (zbq ?_)
 obtain rfl := zad h
 refine ⟨[zT], zrt, ⟨_, rfl, hL13.done, ?_⟩⟩
 exact zrt
theorem lnumbers_w (N : Nat) (a : (List Int)) (b : (List Int)) (a_v : Value) (b_v : Value) (w : World) (S : Nat → Prop) (a_h : Rs rI (vH w S [] w) a_v a) (b_h : Rs rI (vH w S [] w) b_v b) (r : Bool) (h : lnumbers N a b = some r) :
  Calls Try.prog 22 #[a_v, b_v] w (Ret w (fun v w' => (zac r) = v ∧ True)) := by
 unfold lnumbers at h
 have hL : vL w w [] [] := Go.X.Loc.begin0 w
 refine calls_of (l := [a_v, b_v]) (rl := [.tmp 4]) (n := 26) Try.func22 rfl rfl rfl (zai rfl) ?_
 refine zan (zaf rfl (zag (zal (v := zF) rfl ?_)))
 refine zas (zan (zan (zaf rfl (zag (zae (v := a_v) rfl ?_)))))
 refine zag (zcc (v := a_v) zao rfl a_h ?_)
 refine zag (zae (v := b_v) rfl ?_)
 refine zag (zcc (v := b_v) zao rfl b_h ?_)
 refine zag (OpY.neq (x := (a.length : Int)) (y := (b.length : Int)) (((a.length : Int) : Int) ≠ (b.length : Int)) rfl rfl zbk (zas ?_))
 refine zbm (((a.length : Int) : Int) ≠ (b.length : Int)) rfl (fun hc1 => ?_) (fun hc1 => ?_)
 ·
  replace h := ite_t hc1 h
  refine zan (zaf rfl (zag (zal (v := zF) rfl ?_)))
  refine zas (zbq ?_)
  obtain rfl := zad h
  refine ⟨[zF], zrt, ⟨_, rfl, hL.done, ?_⟩⟩
  exact zrt
 replace h := ite_f hc1 h
 refine zbl (zan (zan (zaf rfl (zag (zae (v := a_v) rfl ?_)))))
 refine zag (zcc (v := a_v) zao rfl a_h ?_)
 refine zag (zae (v := (zI 0)) rfl (zas ?_))
 obtain ⟨s10, hl10, g10⟩ := zdt h
 refine zbu (fun e w' => ∃  (u : Env), (Sum.inl ()) = s10 ∧ e = upds [] u ∧ vL w w' [] [] ∧ Keep w.heap.size [] w [] w' ∧ True) ?_ ?_
 ·
  refine zbb ?_
  refine zca hl10 (fun (ss : Int) (e : Env) (w' : World) => match ss with | x10 => ∃ (u : Env), e = upds [(0, a_v), (1, b_v), (12, (zI (a.length : Int))), (13, (zI x10))] u ∧ vL w w' [] [] ∧ Keep w.heap.size [] w [] w' ∧ True) ⟨_, (zdx ⟨rfl, rfl, rfl, rfl, trivial⟩), hL, zbt, trivial⟩ ?_
  rintro x10 oo _ w10 ⟨u, rfl, hL10, K10, -⟩ h hd10
  rw [lnumbers_b1] at h
  refine zan (zaf rfl (zag (zck (x := x10) (y := (a.length : Int)) ((x10 : Int) < (a.length : Int)) rfl rfl zbk ?_)))
  refine zas (zan ?_)
  refine zbm ((x10 : Int) < (a.length : Int)) rfl (fun hc10 => ?_) (fun hc10 => ?_)
  ·
   replace h := ite_t hc10 h
   refine zbl (zan (zbb (zan (zaf rfl (zag (zae (v := (zI x10)) rfl ?_))))))
   refine zag (zal (v := (zI x10)) rfl ?_)
   refine zas (zan ?_)
   obtain ⟨x11, n10, q11, q12, -, h⟩ := zix h
   have f10 := (a_h.mono (K10 S))
   obtain ⟨b10, o10, c10, vs10, q13, q14, f11, q15⟩ := zcy f10 q12
   obtain rfl := q15
   obtain ⟨x12, n11, q17, q18, -, h⟩ := zix h
   have f12 := (b_h.mono (K10 S))
   obtain ⟨b11, o11, c11, vs11, q19, q20, f13, q21⟩ := zcy f12 q18
   obtain rfl := q21
   refine zcz 8 [] [] (fun W1 => [.det a_v, .det (zI x10), .det (zak (some ⟨b10, (o10 + n10 * rI.sz), none⟩)), .det (zI x11), .det b_v, .det (zI x10), .det (zak (some ⟨b11, (o11 + n11 * rI.sz), none⟩)), .det (zI x12)]) mixed rfl rfl rfl (fun _ => rfl) (fun _ => rfl) ?_ ?_
   ·
    intro W1 _
    exact trivial
   intro w11 hE10
   obtain ⟨hL11, K11⟩ := zl hL10 hE10
   refine zay (fun _ _ => zaq (zae rfl (er rfl))) ?_
   refine zay (fun _ _ => zaq (zae rfl (er rfl))) ?_
   refine zay (fun _ _ => zaq (zcb (r := rI) (v := a_v) (n := n10) (m := (o10 + n10 * rI.sz)) zao ti3 rfl q13 rfl q11 q12 rfl (er rfl))) ?_
   refine zay (fun _ hE14 => zaq (zcd zaw rfl rfl zec (zco ((ke hL11 hE14) S) (zco (K11 S) f11)) (er rfl))) ?_
   refine zay (fun _ _ => zaq (zae rfl (er rfl))) ?_
   refine zay (fun _ _ => zaq (zae rfl (er rfl))) ?_
   refine zay (fun _ _ => zaq (zcb (r := rI) (v := b_v) (n := n11) (m := (o11 + n11 * rI.sz)) zao ti3 rfl q19 rfl q17 q18 rfl (er rfl))) ?_
   refine zay (fun _ hE18 => zaq (zcd zaw rfl rfl zec (zco ((ke hL11 hE18) S) (zco (K11 S) f13)) (er rfl))) ?_
   refine zdj ?_
   rintro w20 Z27 hE19 hZ18 ⟨-⟩ ap10
   have hB10 := @zhb w11 Z27
   obtain ⟨hL12, K14⟩ := zl hL11 hE19
   refine zag (OpY.neq (x := x11) (y := x12) ((x11 : Int) ≠ x12) rfl rfl zbk (zas ?_))
   refine zbm ((x11 : Int) ≠ x12) rfl (fun hc11 => ?_) (fun hc11 => ?_)
   ·
    replace h := ite_t hc11 h
    refine zan (zaf rfl (zag (zal (v := zF) rfl ?_)))
    refine zas (zbq ?_)
    obtain rfl := zad h
    obtain rfl := hd10 _ rfl
    replace h := g10
    try dsimp only at h
    obtain rfl := zad h
    refine ⟨[zF], zrt, ⟨_, rfl, hL12.done, ?_⟩⟩
    exact zrt
   replace h := ite_f hc11 h
   refine zbl (zbh (zaf rfl (zag (zce (x := x10) (y := 1) (z := (iw (x10 + 1))) rfl rfl rfl ?_))))
   refine zag (zae (v := (zI (iw (x10 + 1)))) rfl (zas ?_))
   obtain rfl := zad h
   refine zat ⟨(iw (x10 + 1)), rfl, ?_⟩
   exact ⟨_, (zdx ⟨rfl, rfl, rfl, rfl, trivial⟩), hL12, (zam (zam K10 K11) K14), trivial⟩
  replace h := ite_f hc10 h
  refine zcf rfl ?_
  obtain rfl := zad h
  obtain rfl := hd10 _ rfl
  replace h := g10
  try dsimp only at h
  refine zat ?_
  exact ⟨_, rfl, (zdx trivial), hL10, K10, trivial⟩
 rintro _ w21 ⟨u, rfl, rfl, hL13, K15, -⟩
 replace h := g10
 try dsimp only at h
 refine zan (zaf rfl (zag (zal (v := zT) rfl ?_)))
 refine zas (zbq ?_)
 obtain rfl := zad h
 refine ⟨[zT], zrt, ⟨_, rfl, hL13.done, ?_⟩⟩
 exact zrt
theorem lexample_w (N : Nat)   (w : World) (S : Nat → Prop)  (r : TProb) (h : lexample N  = some r) :
  Calls Try.prog 26 #[] w (Ret w (fun v w' => ∃ (ob0_0 : Option Nat) (cap0_0 : Nat) (cs0_0 : List Value) (sp0_0 : List Value) (ob0_1 : Option Nat) (cap0_1 : Nat) (cs0_1 : List Value) (sp0_1 : List Value) (ob0_2 : Option Nat) (cap0_2 : Nat) (cs0_2 : List Value) (sp0_2 : List Value) (ob0_3 : Option Nat) (cap0_3 : Nat) (cs0_3 : List Value) (sp0_3 : List Value) (ob0_4 : Option Nat) (cap0_4 : Nat) (cs0_4 : List Value) (sp0_4 : List Value), (zbo #[(zO ob0_0 r.Min cap0_0), (zO ob0_1 r.Max cap0_1), (zO ob0_2 r.Tests cap0_2), (zO ob0_3 r.Same cap0_3), (zO ob0_4 r.Different cap0_4)]) = v ∧ NewOwn w w' [ob0_0, ob0_1, ob0_2, ob0_3, ob0_4] [.cells ([] ++ (cs0_0 ++ sp0_0)), .cells ([] ++ (cs0_1 ++ sp0_1)), .cells ([] ++ (cs0_2 ++ sp0_2)), .cells ([] ++ (cs0_3 ++ sp0_3)), .cells ([] ++ (cs0_4 ++ sp0_4))] ∧ Els rI (vH w None [ob0_0, ob0_1, ob0_2, ob0_3, ob0_4] w') cs0_0 r.Min ∧ (cs0_0 ++ sp0_0).length = cap0_0 * rI.sz ∧ Els rI (vH w None [ob0_0, ob0_1, ob0_2, ob0_3, ob0_4] w') cs0_1 r.Max ∧ (cs0_1 ++ sp0_1).length = cap0_1 * rI.sz ∧ Els rTTest (vH w None [ob0_0, ob0_1, ob0_2, ob0_3, ob0_4] w') cs0_2 r.Tests ∧ (cs0_2 ++ sp0_2).length = cap0_2 * rTTest.sz ∧ Els rArr2Int (vH w None [ob0_0, ob0_1, ob0_2, ob0_3, ob0_4] w') cs0_3 r.Same ∧ (cs0_3 ++ sp0_3).length = cap0_3 * rArr2Int.sz ∧ Els rArr2Int (vH w None [ob0_0, ob0_1, ob0_2, ob0_3, ob0_4] w') cs0_4 r.Different ∧ (cs0_4 ++ sp0_4).length = cap0_4 * rArr2Int.sz ∧ True)) := by
 unfold lexample at h
 have hL : vL w w [] [] := Go.X.Loc.begin0 w
 refine calls_of (l := []) (rl := [.cell 0 26]) (n := 10) Try.func26 rfl rfl rfl (zai rfl) ?_
 refine zan (zaf rfl (zag (zdh (cs := [zN, zN, zN, zN, zN]) ti26 rfl hL ?_)))
 intro b1 w2 hL3 hS5
 refine zas (zan (zaf rfl ?_))
 have hE7 : Els rI (vH w None [some b1] w2) [(zI 0), (zI 0)] [0, 0] := (zcp (a := [(zI 0)]) rfl (zcp (a := [(zI 0)]) rfl zcq))
 refine zag (zct (r := rI) (vs := [(zI 0), (zI 0)]) (css := [[(zI 0)], [(zI 0)]]) (xs := [0, 0]) zao ti3 (zai rfl) rfl rfl ⟨rfl, rfl, ⟨rfl, rfl, trivial⟩⟩ (zai rfl) hE7 rfl hL3 ?_)
 intro b6 w10 hc8 hL10 hS10
 have K10 := ks w hS10
 have hE10 : Els rI (vH w None [some b6, some b1] w10) [(zI 1), (zI 2)] [1, 2] := (zcp (a := [(zI 1)]) rfl (zcp (a := [(zI 2)]) rfl zcq))
 refine zag (zct (r := rI) (vs := [(zI 1), (zI 2)]) (css := [[(zI 1)], [(zI 2)]]) (xs := [1, 2]) zao ti3 (zai rfl) rfl rfl ⟨rfl, rfl, ⟨rfl, rfl, trivial⟩⟩ (zai rfl) hE10 rfl hL10 ?_)
 intro b10 w11 hc10 hL11 hS11
 have K11 := ks w hS11
 refine zag (OpY.build (zc := [(zI 0), (zI 0), zF, (zah ⟨#[]⟩)]) (cs := [(zI 0), (zI 3), zF, (zS ([98] : List UInt8))]) (is := [0, 1, 3]) (vs := [(zI 0), (zI 3), (zS ([98] : List UInt8))]) (css := [[(zI 0)], [(zI 3)], [(zS ([98] : List UInt8))]]) pl44 ti44 rfl rfl rfl ⟨rfl, rfl, rfl, trivial⟩ rfl ?_)
 refine zag (OpY.build (zc := [(zI 0), (zI 0), zF, (zah ⟨#[]⟩)]) (cs := [(zI 0), (zI 2), zT, (zS ([97] : List UInt8))]) (is := [0, 1, 2, 3]) (vs := [(zI 0), (zI 2), zT, (zS ([97] : List UInt8))]) (css := [[(zI 0)], [(zI 2)], [zT], [(zS ([97] : List UInt8))]]) pl44 ti44 rfl rfl rfl ⟨rfl, rfl, rfl, rfl, trivial⟩ rfl ?_)
 refine zag (OpY.build (zc := [(zI 0), (zI 0), zF, (zah ⟨#[]⟩)]) (cs := [(zI 1), (zI 1), zF, (zS ([95] : List UInt8))]) (is := [0, 1, 3]) (vs := [(zI 1), (zI 1), (zS ([95] : List UInt8))]) (css := [[(zI 1)], [(zI 1)], [(zS ([95] : List UInt8))]]) pl44 ti44 rfl rfl rfl ⟨rfl, rfl, rfl, trivial⟩ rfl ?_)
 refine zag (OpY.build (zc := [(zI 0), (zI 0), zF, (zah ⟨#[]⟩)]) (cs := [(zI 1), (zI 2), zF, (zS ([99] : List UInt8))]) (is := [0, 1, 3]) (vs := [(zI 1), (zI 2), (zS ([99] : List UInt8))]) (css := [[(zI 1)], [(zI 2)], [(zS ([99] : List UInt8))]]) pl44 ti44 rfl rfl rfl ⟨rfl, rfl, rfl, trivial⟩ rfl ?_)
 refine zag (OpY.build (zc := [(zI 0), (zI 0), zF, (zah ⟨#[]⟩)]) (cs := [(zI 1), (zI 2), zT, (zS ([98] : List UInt8))]) (is := [0, 1, 2, 3]) (vs := [(zI 1), (zI 2), zT, (zS ([98] : List UInt8))]) (css := [[(zI 1)], [(zI 2)], [zT], [(zS ([98] : List UInt8))]]) pl44 ti44 rfl rfl rfl ⟨rfl, rfl, rfl, rfl, trivial⟩ rfl ?_)
 have hE11 : Els rTTest (vH w None [some b10, some b6, some b1] w11) [(zI 0), (zI 3), zF, (zS ([98] : List UInt8)), (zI 0), (zI 2), zT, (zS ([97] : List UInt8)), (zI 1), (zI 1), zF, (zS ([95] : List UInt8)), (zI 1), (zI 2), zF, (zS ([99] : List UInt8)), (zI 1), (zI 2), zT, (zS ([98] : List UInt8))] [(TTest.mk 0 3 false ([98] : List UInt8)), (TTest.mk 0 2 true ([97] : List UInt8)), (TTest.mk 1 1 false ([95] : List UInt8)), (TTest.mk 1 2 false ([99] : List UInt8)), (TTest.mk 1 2 true ([98] : List UInt8))] := (zcp (a := [(zI 0), (zI 3), zF, (zS ([98] : List UInt8))]) (rTTest_close ⟨rfl, trivial⟩) (zcp (a := [(zI 0), (zI 2), zT, (zS ([97] : List UInt8))]) (rTTest_close ⟨rfl, trivial⟩) (zcp (a := [(zI 1), (zI 1), zF, (zS ([95] : List UInt8))]) (rTTest_close ⟨rfl, trivial⟩) (zcp (a := [(zI 1), (zI 2), zF, (zS ([99] : List UInt8))]) (rTTest_close ⟨rfl, trivial⟩) (zcp (a := [(zI 1), (zI 2), zT, (zS ([98] : List UInt8))]) (rTTest_close ⟨rfl, trivial⟩) zcq)))))
 refine zag (zct (r := rTTest) (vs := [(zbo #[(zI 0), (zI 3), zF, (zS ([98] : List UInt8))]), (zbo #[(zI 0), (zI 2), zT, (zS ([97] : List UInt8))]), (zbo #[(zI 1), (zI 1), zF, (zS ([95] : List UInt8))]), (zbo #[(zI 1), (zI 2), zF, (zS ([99] : List UInt8))]), (zbo #[(zI 1), (zI 2), zT, (zS ([98] : List UInt8))])]) (css := [[(zI 0), (zI 3), zF, (zS ([98] : List UInt8))], [(zI 0), (zI 2), zT, (zS ([97] : List UInt8))], [(zI 1), (zI 1), zF, (zS ([95] : List UInt8))], [(zI 1), (zI 2), zF, (zS ([99] : List UInt8))], [(zI 1), (zI 2), zT, (zS ([98] : List UInt8))]]) (xs := [(TTest.mk 0 3 false ([98] : List UInt8)), (TTest.mk 0 2 true ([97] : List UInt8)), (TTest.mk 1 1 false ([95] : List UInt8)), (TTest.mk 1 2 false ([99] : List UInt8)), (TTest.mk 1 2 true ([98] : List UInt8))]) zbc ti44 (zai rfl) rfl rfl ⟨rfl, rfl, ⟨rfl, rfl, ⟨rfl, rfl, ⟨rfl, rfl, ⟨rfl, rfl, trivial⟩⟩⟩⟩⟩ (zai rfl) hE11 rfl hL11 ?_)
 intro b11 w12 hc11 hL12 hS12
 have K12 := ks w hS12
 refine zag (OpY.build (zc := [zN, zN, zN, zN, zN]) (cs := [(osv (some b6) 0 2 2), (osv (some b10) 0 2 2), (osv (some b11) 0 5 5), zN, zN]) (is := [0, 1, 2]) (vs := [(osv (some b6) 0 2 2), (osv (some b10) 0 2 2), (osv (some b11) 0 5 5)]) (css := [[(osv (some b6) 0 2 2)], [(osv (some b10) 0 2 2)], [(osv (some b11) 0 5 5)]]) pl26 ti26 rfl rfl rfl ⟨(zeg (zed _ _ _ _)), ⟨(zeg (zed _ _ _ _)), ⟨(zeg (zed _ _ _ _)), trivial⟩⟩⟩ rfl ?_)
 refine zde (zcv (vs := [(osv (some b6) 0 2 2), (osv (some b10) 0 2 2), (osv (some b11) 0 5 5), zN, zN]) ti26 rfl rfl rfl rfl (zdz (zed _ _ _ _) (zdz (zed _ _ _ _) (zdz (zed _ _ _ _) (zdz rfl (zdz rfl zej))))) hL12 3 rfl rfl (zai rfl) ?_)
 intro w13 (hL13 : vL w w13 [some b11, some b10, some b6, some b1] [zab ([] ++ ([(zI 0), (zI 3), zF, (zS ([98] : List UInt8)), (zI 0), (zI 2), zT, (zS ([97] : List UInt8)), (zI 1), (zI 1), zF, (zS ([95] : List UInt8)), (zI 1), (zI 2), zF, (zS ([99] : List UInt8)), (zI 1), (zI 2), zT, (zS ([98] : List UInt8))] ++ [])), zab ([] ++ ([(zI 1), (zI 2)] ++ [])), zab ([] ++ ([(zI 0), (zI 0)] ++ [])), zab [(osv (some b6) 0 2 2), (osv (some b10) 0 2 2), (osv (some b11) 0 5 5), zN, zN]]) hS13
 have K13 := ks w hS13
 refine zas ?_
 have hp10 := hL13.addNil
 have hL14 : vL w w13 [none, some b11, some b10, some b6, some b1] [zab ([] ++ ([] ++ [])), zab ([] ++ ([(zI 0), (zI 3), zF, (zS ([98] : List UInt8)), (zI 0), (zI 2), zT, (zS ([97] : List UInt8)), (zI 1), (zI 1), zF, (zS ([95] : List UInt8)), (zI 1), (zI 2), zF, (zS ([99] : List UInt8)), (zI 1), (zI 2), zT, (zS ([98] : List UInt8))] ++ [])), zab ([] ++ ([(zI 1), (zI 2)] ++ [])), zab ([] ++ ([(zI 0), (zI 0)] ++ [])), zab [(osv (some b6) 0 2 2), (osv (some b10) 0 2 2), (osv (some b11) 0 5 5), zN, zN]] := hp10.1
 have K14 := ks w hp10.2
 have hE12 : Els rArr2Int (vH w None [none, some b11, some b10, some b6, some b1] w13) [] [] := zcq
 have hp11 := hL14.addNil
 have hL15 : vL w w13 [none, none, some b11, some b10, some b6, some b1] [zab ([] ++ ([] ++ [])), zab ([] ++ ([] ++ [])), zab ([] ++ ([(zI 0), (zI 3), zF, (zS ([98] : List UInt8)), (zI 0), (zI 2), zT, (zS ([97] : List UInt8)), (zI 1), (zI 1), zF, (zS ([95] : List UInt8)), (zI 1), (zI 2), zF, (zS ([99] : List UInt8)), (zI 1), (zI 2), zT, (zS ([98] : List UInt8))] ++ [])), zab ([] ++ ([(zI 1), (zI 2)] ++ [])), zab ([] ++ ([(zI 0), (zI 0)] ++ [])), zab [(osv (some b6) 0 2 2), (osv (some b10) 0 2 2), (osv (some b11) 0 5 5), zN, zN]] := hp11.1
 have K15 := ks w hp11.2
 have hE13 : Els rArr2Int (vH w None [none, none, some b11, some b10, some b6, some b1] w13) [] [] := zcq
 refine zbq ?_
 obtain rfl := zad h
 refine ⟨[(zbo #[(osv (some b6) 0 2 2), (osv (some b10) 0 2 2), (osv (some b11) 0 5 5), (osv none 0 (List.length ([] : (List Arr2Int))) 0), (osv none 0 (List.length ([] : (List Arr2Int))) 0)])], ⟨⟨⟨b1, 0, none⟩, rfl, res_boxA zbf rfl ti26 (hL15.at 5 rfl rfl) rfl⟩, trivial⟩, ⟨_, rfl, hL15.done, ?_⟩⟩
 have f10 := ((((((hE7.mono (K10 None)).mono (K11 None)).mono (K12 None)).mono (K13 None)).mono (K14 None)).mono (K15 None))
 have f11 := (((((hE10.mono (K11 None)).mono (K12 None)).mono (K13 None)).mono (K14 None)).mono (K15 None))
 have f12 := ((((hE11.mono (K12 None)).mono (K13 None)).mono (K14 None)).mono (K15 None))
 have f13 := (hE12.mono (K15 None))
 exact ⟨some b6, 2, [(zI 0), (zI 0)], [], some b10, 2, [(zI 1), (zI 2)], [], some b11, 5, [(zI 0), (zI 3), zF, (zS ([98] : List UInt8)), (zI 0), (zI 2), zT, (zS ([97] : List UInt8)), (zI 1), (zI 1), zF, (zS ([95] : List UInt8)), (zI 1), (zI 2), zF, (zS ([99] : List UInt8)), (zI 1), (zI 2), zT, (zS ([98] : List UInt8))], [], none, 0, [], [], none, 0, [], [], rfl, (hL15.newOwn [4, 3, 2, 1, 0] rfl rfl rfl), (f10.mono (zds [4, 3, 2, 1, 0] rfl)), hc8, (f11.mono (zds [4, 3, 2, 1, 0] rfl)), hc10, (f12.mono (zds [4, 3, 2, 1, 0] rfl)), hc11, (f13.mono (zds [4, 3, 2, 1, 0] rfl)), (show ([] ++ [] : List Value).length = 0 * rArr2Int.sz by simp), (hE13.mono (zds [4, 3, 2, 1, 0] rfl)), (show ([] ++ [] : List Value).length = 0 * rArr2Int.sz by simp), trivial⟩
theorem awake_w0 (N : Nat)   (w : World) (S : Nat → Prop)  (r : Bool) (h : awake N  = some r) (hr : r = true) :
  Calls Try.prog 11 #[] w (Ret w (fun v w' => (zac r) = v ∧ True)) := by
 unfold awake at h
 have hL : vL w w [] [] := Go.X.Loc.begin0 w
 refine calls_of (l := []) (rl := [.tmp 0]) (n := 120) Try.func11 rfl rfl rfl (zai rfl) ?_
 refine zan (zaf rfl (zag (zal (v := zF) rfl ?_)))
 refine zas (zan (zaf rfl ?_))
 obtain ⟨r1, q2, h⟩ := zdt h
 refine zag (zbz en26 rfl rfl (lexample_w N _ Any r1 q2) ?_)
 rintro _ w10 hE10 ⟨ob3, cap4, cs5, sp6, ob10, cap10, cs10, sp10, ob11, cap11, cs11, sp11, ob12, cap12, cs12, sp12, ob13, cap13, cs13, sp13, rfl, hN10, hE7, hc8, hE11, hc10, hE12, hc11, hE13, hc12, hE14, hc13, -⟩
 replace hE7 := hE7.mono (zbs (S := None) hL [ob3, ob10, ob11, ob12, ob13])
 replace hE11 := hE11.mono (zbs (S := None) hL [ob3, ob10, ob11, ob12, ob13])
 replace hE12 := hE12.mono (zbs (S := None) hL [ob3, ob10, ob11, ob12, ob13])
 replace hE13 := hE13.mono (zbs (S := None) hL [ob3, ob10, ob11, ob12, ob13])
 replace hE14 := hE14.mono (zbs (S := None) hL [ob3, ob10, ob11, ob12, ob13])
 have hp10 := hL.adoptL hE10 hN10
 have hL10 := hp10.1
 obtain ⟨r10, q10, h⟩ := zdt h
 refine zag (zbz en26 rfl rfl (lexample_w N _ Any r10 q10) ?_)
 rintro _ w11 hE15 ⟨ob14, cap14, cs14, sp14, ob15, cap15, cs15, sp15, ob16, cap16, cs16, sp16, ob17, cap17, cs17, sp17, ob18, cap18, cs18, sp18, rfl, hN11, hE16, hc14, hE17, hc15, hE18, hc16, hE19, hc17, hE20, hc18, -⟩
 replace hE16 := hE16.mono (zbs (S := None) hL10 [ob14, ob15, ob16, ob17, ob18])
 replace hE17 := hE17.mono (zbs (S := None) hL10 [ob14, ob15, ob16, ob17, ob18])
 replace hE18 := hE18.mono (zbs (S := None) hL10 [ob14, ob15, ob16, ob17, ob18])
 replace hE19 := hE19.mono (zbs (S := None) hL10 [ob14, ob15, ob16, ob17, ob18])
 replace hE20 := hE20.mono (zbs (S := None) hL10 [ob14, ob15, ob16, ob17, ob18])
 have hp11 := hL10.adoptL hE15 hN11
 have hL11 := hp11.1
 have K10 := ks w hp11.2
 obtain ⟨r11, q11, h⟩ := zdt h
 refine zag (zbz en26 rfl rfl (lexample_w N _ Any r11 q11) ?_)
 rintro _ w12 hE21 ⟨ob19, cap19, cs19, sp19, ob20, cap20, cs20, sp20, ob21, cap21, cs21, sp21, ob22, cap22, cs22, sp22, ob23, cap23, cs23, sp23, rfl, hN12, hE22, hc19, hE23, hc20, hE24, hc21, hE25, hc22, hE26, hc23, -⟩
 replace hE22 := hE22.mono (zbs (S := None) hL11 [ob19, ob20, ob21, ob22, ob23])
 replace hE23 := hE23.mono (zbs (S := None) hL11 [ob19, ob20, ob21, ob22, ob23])
 replace hE24 := hE24.mono (zbs (S := None) hL11 [ob19, ob20, ob21, ob22, ob23])
 replace hE25 := hE25.mono (zbs (S := None) hL11 [ob19, ob20, ob21, ob22, ob23])
 replace hE26 := hE26.mono (zbs (S := None) hL11 [ob19, ob20, ob21, ob22, ob23])
 have hp12 := hL11.adoptL hE21 hN12
 have hL12 := hp12.1
 have K11 := ks w hp12.2
 refine zag (zdh (cs := [zN, zN, zN, zN, zN]) ti26 rfl hL12 ?_)
 intro b10 w13 hL13 hS10
 have K12 := ks w hS10
 refine zag (zdh (cs := [zN, zN, zN, zN, zN]) ti26 rfl hL13 ?_)
 intro b11 w14 hL14 hS11
 have K13 := ks w hS11
 refine zag (zdh (cs := [zN, zN, zN, zN, zN]) ti26 rfl hL14 ?_)
 intro b12 w15 hL15 hS12
 have K14 := ks w hS12
 refine zde (zcv (vs := [(zO ob3 r1.Min cap4), (zO ob10 r1.Max cap10), (zO ob11 r1.Tests cap11), (zO ob12 r1.Same cap12), (zO ob13 r1.Different cap13)]) ti26 rfl rfl rfl rfl (zdz (zed ob3 0 r1.Min.length cap4) (zdz (zed ob10 0 r1.Max.length cap10) (zdz (zed ob11 0 r1.Tests.length cap11) (zdz (zed ob12 0 r1.Same.length cap12) (zdz (zed ob13 0 r1.Different.length cap13) zej))))) hL15 2 rfl rfl (zai rfl) ?_)
 intro w16 (hL16 : vL w w16 [some b12, some b11, some b10, ob19, ob20, ob21, ob22, ob23, ob14, ob15, ob16, ob17, ob18, ob3, ob10, ob11, ob12, ob13] [zab [zN, zN, zN, zN, zN], zab [zN, zN, zN, zN, zN], zab [(zO ob3 r1.Min cap4), (zO ob10 r1.Max cap10), (zO ob11 r1.Tests cap11), (zO ob12 r1.Same cap12), (zO ob13 r1.Different cap13)], zab ([] ++ (cs19 ++ sp19)), zab ([] ++ (cs20 ++ sp20)), zab ([] ++ (cs21 ++ sp21)), zab ([] ++ (cs22 ++ sp22)), zab ([] ++ (cs23 ++ sp23)), zab ([] ++ (cs14 ++ sp14)), zab ([] ++ (cs15 ++ sp15)), zab ([] ++ (cs16 ++ sp16)), zab ([] ++ (cs17 ++ sp17)), zab ([] ++ (cs18 ++ sp18)), zab ([] ++ (cs5 ++ sp6)), zab ([] ++ (cs10 ++ sp10)), zab ([] ++ (cs11 ++ sp11)), zab ([] ++ (cs12 ++ sp12)), zab ([] ++ (cs13 ++ sp13))]) hS13
 have K15 := ks w hS13
 refine zde (zcv (vs := [(zO ob14 r10.Min cap14), (zO ob15 r10.Max cap15), (zO ob16 r10.Tests cap16), (zO ob17 r10.Same cap17), (zO ob18 r10.Different cap18)]) ti26 rfl rfl rfl rfl (zdz (zed ob14 0 r10.Min.length cap14) (zdz (zed ob15 0 r10.Max.length cap15) (zdz (zed ob16 0 r10.Tests.length cap16) (zdz (zed ob17 0 r10.Same.length cap17) (zdz (zed ob18 0 r10.Different.length cap18) zej))))) hL16 1 rfl rfl (zai rfl) ?_)
 intro w17 (hL17 : vL w w17 [some b12, some b11, some b10, ob19, ob20, ob21, ob22, ob23, ob14, ob15, ob16, ob17, ob18, ob3, ob10, ob11, ob12, ob13] [zab [zN, zN, zN, zN, zN], zab [(zO ob14 r10.Min cap14), (zO ob15 r10.Max cap15), (zO ob16 r10.Tests cap16), (zO ob17 r10.Same cap17), (zO ob18 r10.Different cap18)], zab [(zO ob3 r1.Min cap4), (zO ob10 r1.Max cap10), (zO ob11 r1.Tests cap11), (zO ob12 r1.Same cap12), (zO ob13 r1.Different cap13)], zab ([] ++ (cs19 ++ sp19)), zab ([] ++ (cs20 ++ sp20)), zab ([] ++ (cs21 ++ sp21)), zab ([] ++ (cs22 ++ sp22)), zab ([] ++ (cs23 ++ sp23)), zab ([] ++ (cs14 ++ sp14)), zab ([] ++ (cs15 ++ sp15)), zab ([] ++ (cs16 ++ sp16)), zab ([] ++ (cs17 ++ sp17)), zab ([] ++ (cs18 ++ sp18)), zab ([] ++ (cs5 ++ sp6)), zab ([] ++ (cs10 ++ sp10)), zab ([] ++ (cs11 ++ sp11)), zab ([] ++ (cs12 ++ sp12)), zab ([] ++ (cs13 ++ sp13))]) hS14
 have K16 := ks w hS14
 refine zde (zcv (vs := [(zO ob19 r11.Min cap19), (zO ob20 r11.Max cap20), (zO ob21 r11.Tests cap21), (zO ob22 r11.Same cap22), (zO ob23 r11.Different cap23)]) ti26 rfl rfl rfl rfl (zdz (zed ob19 0 r11.Min.length cap19) (zdz (zed ob20 0 r11.Max.length cap20) (zdz (zed ob21 0 r11.Tests.length cap21) (zdz (zed ob22 0 r11.Same.length cap22) (zdz (zed ob23 0 r11.Different.length cap23) zej))))) hL17 0 rfl rfl (zai rfl) ?_)
 intro w18 (hL18 : vL w w18 [some b12, some b11, some b10, ob19, ob20, ob21, ob22, ob23, ob14, ob15, ob16, ob17, ob18, ob3, ob10, ob11, ob12, ob13] [zab [(zO ob19 r11.Min cap19), (zO ob20 r11.Max cap20), (zO ob21 r11.Tests cap21), (zO ob22 r11.Same cap22), (zO ob23 r11.Different cap23)], zab [(zO ob14 r10.Min cap14), (zO ob15 r10.Max cap15), (zO ob16 r10.Tests cap16), (zO ob17 r10.Same cap17), (zO ob18 r10.Different cap18)], zab [(zO ob3 r1.Min cap4), (zO ob10 r1.Max cap10), (zO ob11 r1.Tests cap11), (zO ob12 r1.Same cap12), (zO ob13 r1.Different cap13)], zab ([] ++ (cs19 ++ sp19)), zab ([] ++ (cs20 ++ sp20)), zab ([] ++ (cs21 ++ sp21)), zab ([] ++ (cs22 ++ sp22)), zab ([] ++ (cs23 ++ sp23)), zab ([] ++ (cs14 ++ sp14)), zab ([] ++ (cs15 ++ sp15)), zab ([] ++ (cs16 ++ sp16)), zab ([] ++ (cs17 ++ sp17)), zab ([] ++ (cs18 ++ sp18)), zab ([] ++ (cs5 ++ sp6)), zab ([] ++ (cs10 ++ sp10)), zab ([] ++ (cs11 ++ sp11)), zab ([] ++ (cs12 ++ sp12)), zab ([] ++ (cs13 ++ sp13))]) hS15
 have K17 := ks w hS15
 refine zas (zan (zaf rfl (zag (OpY.buildArr (zc := [(zI 0), (zI 0)]) (vs := [(zI 0), (zI 1)]) (css := [[(zI 0)], [(zI 1)]]) zbv ti45 rfl ti3 rfl rfl ⟨rfl, rfl, ⟨rfl, rfl, trivial⟩⟩ ?_))))
 have hE27 : Els rArr2Int (vH w None [some b12, some b11, some b10, ob19, ob20, ob21, ob22, ob23, ob14, ob15, ob16, ob17, ob18, ob3, ob10, ob11, ob12, ob13] w18) [(zI 0), (zI 1)] [(Arr2Int.mk 0 1)] := (zcp (a := [(zI 0), (zI 1)]) (rArr2Int_close ⟨rfl, trivial⟩) zcq)
 refine zag (zct (r := rArr2Int) (vs := [(zbo #[(zI 0), (zI 1)])]) (css := [[(zI 0), (zI 1)]]) (xs := [(Arr2Int.mk 0 1)]) zbn ti45 (zai rfl) rfl rfl ⟨rfl, rfl, trivial⟩ (zai rfl) hE27 rfl hL18 ?_)
 intro b13 w19 hc24 hL19 hS16
 have K18 := ks w hS16
 refine zag (zau (q := 4) zbf rfl ti24 rfl rfl rfl ?_)
 refine zde (zcv (vs := [(osv (some b13) 0 1 1)]) ti24 rfl rfl (zeg (zed (some b13) 0 1 1)) rfl (zdz (zed (some b13) 0 1 1) zej) hL19 3 rfl rfl (zai rfl) ?_)
 intro w20 (hL20 : vL w w20 [some b13, some b12, some b11, some b10, ob19, ob20, ob21, ob22, ob23, ob14, ob15, ob16, ob17, ob18, ob3, ob10, ob11, ob12, ob13] [zab ([] ++ ([(zI 0), (zI 1)] ++ [])), zab [(zO ob19 r11.Min cap19), (zO ob20 r11.Max cap20), (zO ob21 r11.Tests cap21), (zO ob22 r11.Same cap22), (zO ob23 r11.Different cap23)], zab [(zO ob14 r10.Min cap14), (zO ob15 r10.Max cap15), (zO ob16 r10.Tests cap16), (zO ob17 r10.Same cap17), (zO ob18 r10.Different cap18)], zab [(zO ob3 r1.Min cap4), (zO ob10 r1.Max cap10), (zO ob11 r1.Tests cap11), (zO ob12 r1.Same cap12), (osv (some b13) 0 1 1)], zab ([] ++ (cs19 ++ sp19)), zab ([] ++ (cs20 ++ sp20)), zab ([] ++ (cs21 ++ sp21)), zab ([] ++ (cs22 ++ sp22)), zab ([] ++ (cs23 ++ sp23)), zab ([] ++ (cs14 ++ sp14)), zab ([] ++ (cs15 ++ sp15)), zab ([] ++ (cs16 ++ sp16)), zab ([] ++ (cs17 ++ sp17)), zab ([] ++ (cs18 ++ sp18)), zab ([] ++ (cs5 ++ sp6)), zab ([] ++ (cs10 ++ sp10)), zab ([] ++ (cs11 ++ sp11)), zab ([] ++ (cs12 ++ sp12)), zab ([] ++ (cs13 ++ sp13))]) hS17
 have K19 := ks w hS17
 refine zas (zan (zaf rfl (zag (OpY.buildArr (zc := [(zI 0), (zI 0)]) (vs := [(zI 1), (zI 0)]) (css := [[(zI 1)], [(zI 0)]]) zbv ti45 rfl ti3 rfl rfl ⟨rfl, rfl, ⟨rfl, rfl, trivial⟩⟩ ?_))))
 have hE28 : Els rArr2Int (vH w None [some b13, some b12, some b11, some b10, ob19, ob20, ob21, ob22, ob23, ob14, ob15, ob16, ob17, ob18, ob3, ob10, ob11, ob12, ob13] w20) [(zI 1), (zI 0)] [(Arr2Int.mk 1 0)] := (zcp (a := [(zI 1), (zI 0)]) (rArr2Int_close ⟨rfl, trivial⟩) zcq)
 refine zag (zct (r := rArr2Int) (vs := [(zbo #[(zI 1), (zI 0)])]) (css := [[(zI 1), (zI 0)]]) (xs := [(Arr2Int.mk 1 0)]) zbn ti45 (zai rfl) rfl rfl ⟨rfl, rfl, trivial⟩ (zai rfl) hE28 rfl hL20 ?_)
 intro b14 w21 hc25 hL21 hS18
 have K20 := ks w hS18
 refine zag (zau (q := 3) zbf rfl ti24 rfl rfl rfl ?_)
 refine zde (zcv (vs := [(osv (some b14) 0 1 1)]) ti24 rfl rfl (zeg (zed (some b14) 0 1 1)) rfl (zdz (zed (some b14) 0 1 1) zej) hL21 3 rfl rfl (zai rfl) ?_)
 intro w22 (hL22 : vL w w22 [some b14, some b13, some b12, some b11, some b10, ob19, ob20, ob21, ob22, ob23, ob14, ob15, ob16, ob17, ob18, ob3, ob10, ob11, ob12, ob13] [zab ([] ++ ([(zI 1), (zI 0)] ++ [])), zab ([] ++ ([(zI 0), (zI 1)] ++ [])), zab [(zO ob19 r11.Min cap19), (zO ob20 r11.Max cap20), (zO ob21 r11.Tests cap21), (zO ob22 r11.Same cap22), (zO ob23 r11.Different cap23)], zab [(zO ob14 r10.Min cap14), (zO ob15 r10.Max cap15), (zO ob16 r10.Tests cap16), (osv (some b14) 0 1 1), (zO ob18 r10.Different cap18)], zab [(zO ob3 r1.Min cap4), (zO ob10 r1.Max cap10), (zO ob11 r1.Tests cap11), (zO ob12 r1.Same cap12), (osv (some b13) 0 1 1)], zab ([] ++ (cs19 ++ sp19)), zab ([] ++ (cs20 ++ sp20)), zab ([] ++ (cs21 ++ sp21)), zab ([] ++ (cs22 ++ sp22)), zab ([] ++ (cs23 ++ sp23)), zab ([] ++ (cs14 ++ sp14)), zab ([] ++ (cs15 ++ sp15)), zab ([] ++ (cs16 ++ sp16)), zab ([] ++ (cs17 ++ sp17)), zab ([] ++ (cs18 ++ sp18)), zab ([] ++ (cs5 ++ sp6)), zab ([] ++ (cs10 ++ sp10)), zab ([] ++ (cs11 ++ sp11)), zab ([] ++ (cs12 ++ sp12)), zab ([] ++ (cs13 ++ sp13))]) hS19
 have K21 := ks w hS19
 refine zas (zan ?_)
 refine Swp.drawF (O := [some b14, some b13, some b12, some b11, some b10, ob19, ob20, ob21, ob22, ob23, ob14, ob15, ob16, ob17, ob18, ob3, ob10, ob11, ob12, ob13]) [3, 7, 9, 11] [0, 1, 4, 5, 8, 10] [0, 1, 4, 5] [(2, 22), (6, 26)] [(20, (zak (some ⟨b12, 0, none⟩))), (21, (zO ob19 r11.Min cap19)), (24, (zak (some ⟨b12, 1, none⟩))), (25, (zO ob20 r11.Max cap20))] (fun f v O w' => Rs rI (vH w None O w') v (bif Nat.beq f 2 then [0] else (bif Nat.beq f 6 then [16] else []))) w.heap.size mixed rfl rfl rfl rfl (fun b hb => hL22.own.lt b hb) hL22.size (fun _ _ _ _ _ _ h hs => h.mono (hs _)) (FloatP.cons rfl (fun w1 O1 hK hs hO => zaq (OpY.litInts (ys := [0]) zao ti3 rfl rfl (by decide) (by decide) hs hO)) (FloatP.cons rfl (fun w1 O1 hK hs hO => zaq (OpY.litInts (ys := [16]) zao ti3 rfl rfl (by decide) (by decide) hs hO)) FloatP.nil)) ?_
 intro w23 hE29
 obtain ⟨hL23, K22⟩ := zl hL22 hE29
 refine ⟨?_, ?_⟩
 ·
  intro w24 hE30
  have hL24 := hL23.ext hE30
  refine zaj (i := 0) rfl rfl (zaq (zau (q := 0) zbf rfl ti22 rfl rfl rfl zrr)) ?_
  refine zaj (i := 1) rfl rfl (zaq (zav (v := (zO ob19 r11.Min cap19)) zao rfl rfl (hL24.at 2 rfl rfl) rfl zrr)) ?_
  refine zaj (i := 4) rfl rfl (zaq (zau (q := 1) zbf rfl ti22 rfl rfl rfl zrr)) ?_
  refine zaj (i := 5) rfl rfl (zaq (zav (v := (zO ob20 r11.Max cap20)) zao rfl rfl (hL24.at 2 rfl rfl) rfl zrr)) ?_
  exact zby
 refine zdd (m := 3) [3] rfl rfl (fun q hq => ?_)
 obtain rfl := List.mem_singleton.1 hq
 refine zdk rfl ?_
 intro w25 V10 hE31 hp13
 obtain ⟨hL25, K23⟩ := zl hL23 hE31
 have f10 : Rs rI (vH w None [some b14, some b13, some b12, some b11, some b10, ob19, ob20, ob21, ob22, ob23, ob14, ob15, ob16, ob17, ob18, ob3, ob10, ob11, ob12, ob13] w25) (V10 2) [0] := hp13 (2, 22) (by decide) rfl
 obtain ⟨x10, q12, h⟩ := zdt h
 obtain ⟨q13, q14, q15⟩ := zek q12
 obtain ⟨ds10, q16, q17⟩ := Rs.src f10
 have f11 := ((((((((((((hE22.mono (K12 None)).mono (K13 None)).mono (K14 None)).mono (K15 None)).mono (K16 None)).mono (K17 None)).mono (K18 None)).mono (K19 None)).mono (K20 None)).mono (K21 None)).mono (K22 None)).mono (K23 None))
 refine zcw (r := rI) (H := (vH w None [some b14, some b13, some b12, some b11, some b10, ob19, ob20, ob21, ob22, ob23, ob14, ob15, ob16, ob17, ob18, ob3, ob10, ob11, ob12, ob13] w25)) (cs := cs19) (sp := sp19) (xs := r11.Min) (ys := [0]) (Y := x10) (n := r11.Min.length) (cap := cap19) (i := 5) zao ti3 rfl rfl rfl rfl hL25 rfl rfl f11 rfl hc19 q16 (zcg (fun _ _ _ _ h => h) q17) q13 q14 q15 ?_
 intro ob24 cap24 sp24 cs24 w26 hE32 hc26 (hL26 : vL w w26 [some b14, some b13, some b12, some b11, some b10, ob24, ob20, ob21, ob22, ob23, ob14, ob15, ob16, ob17, ob18, ob3, ob10, ob11, ob12, ob13] [zab ([] ++ ([(zI 1), (zI 0)] ++ [])), zab ([] ++ ([(zI 0), (zI 1)] ++ [])), zab [(zO ob19 r11.Min cap19), (zO ob20 r11.Max cap20), (zO ob21 r11.Tests cap21), (zO ob22 r11.Same cap22), (zO ob23 r11.Different cap23)], zab [(zO ob14 r10.Min cap14), (zO ob15 r10.Max cap15), (zO ob16 r10.Tests cap16), (osv (some b14) 0 1 1), (zO ob18 r10.Different cap18)], zab [(zO ob3 r1.Min cap4), (zO ob10 r1.Max cap10), (zO ob11 r1.Tests cap11), (zO ob12 r1.Same cap12), (osv (some b13) 0 1 1)], zab ([] ++ (cs24 ++ sp24)), zab ([] ++ (cs20 ++ sp20)), zab ([] ++ (cs21 ++ sp21)), zab ([] ++ (cs22 ++ sp22)), zab ([] ++ (cs23 ++ sp23)), zab ([] ++ (cs14 ++ sp14)), zab ([] ++ (cs15 ++ sp15)), zab ([] ++ (cs16 ++ sp16)), zab ([] ++ (cs17 ++ sp17)), zab ([] ++ (cs18 ++ sp18)), zab ([] ++ (cs5 ++ sp6)), zab ([] ++ (cs10 ++ sp10)), zab ([] ++ (cs11 ++ sp11)), zab ([] ++ (cs12 ++ sp12)), zab ([] ++ (cs13 ++ sp13))]) hS20
 have K24 := ks w hS20
 refine ⟨_, [8], [(28, (zak (some ⟨b12, 0, none⟩)))], K24, (fun b hb => hL26.own.lt b hb), hL26.size, rfl, rfl, ?_⟩
 refine ⟨?_, ?_⟩
 ·
  intro w27 hE33
  have hL27 := hL26.ext hE33
  refine zaj (i := 0) rfl rfl (zaq (zau (q := 0) zbf rfl ti22 rfl rfl rfl zrr)) ?_
  refine zaj (i := 4) rfl rfl (zaq (zau (q := 1) zbf rfl ti22 rfl rfl rfl zrr)) ?_
  refine zaj (i := 5) rfl rfl (zaq (zav (v := (zO ob20 r11.Max cap20)) zao rfl rfl (hL27.at 2 rfl rfl) rfl zrr)) ?_
  refine zaj (i := 8) rfl rfl (zaq (zau (q := 0) zbf rfl ti22 rfl rfl rfl zrr)) ?_
  exact zby
 refine zdd (m := 2) [7] rfl rfl (fun q hq => ?_)
 obtain rfl := List.mem_singleton.1 hq
 refine zdk rfl ?_
 intro w28 V11 hE34 hp14
 obtain ⟨hL28, K25⟩ := zl hL26 hE34
 have f12 : Rs rI (vH w None [some b14, some b13, some b12, some b11, some b10, ob24, ob20, ob21, ob22, ob23, ob14, ob15, ob16, ob17, ob18, ob3, ob10, ob11, ob12, ob13] w28) (V11 6) [16] := hp14 (6, 26) (by decide) rfl
 obtain ⟨x11, q18, h⟩ := zdt h
 obtain ⟨q19, q20, q21⟩ := zek q18
 obtain ⟨ds11, q22, q23⟩ := Rs.src f12
 have f13 := ((((((((((((((hE23.mono (K12 None)).mono (K13 None)).mono (K14 None)).mono (K15 None)).mono (K16 None)).mono (K17 None)).mono (K18 None)).mono (K19 None)).mono (K20 None)).mono (K21 None)).mono (K22 None)).mono (K23 None)).mono (K24 None)).mono (K25 None))
 refine zcw (r := rI) (H := (vH w None [some b14, some b13, some b12, some b11, some b10, ob24, ob20, ob21, ob22, ob23, ob14, ob15, ob16, ob17, ob18, ob3, ob10, ob11, ob12, ob13] w28)) (cs := cs20) (sp := sp20) (xs := r11.Max) (ys := [16]) (Y := x11) (n := r11.Max.length) (cap := cap20) (i := 6) zao ti3 rfl rfl rfl rfl hL28 rfl rfl f13 rfl hc20 q22 (zcg (fun _ _ _ _ h => h) q23) q19 q20 q21 ?_
 intro ob25 cap25 sp25 cs25 w29 hE35 hc27 (hL29 : vL w w29 [some b14, some b13, some b12, some b11, some b10, ob24, ob25, ob21, ob22, ob23, ob14, ob15, ob16, ob17, ob18, ob3, ob10, ob11, ob12, ob13] [zab ([] ++ ([(zI 1), (zI 0)] ++ [])), zab ([] ++ ([(zI 0), (zI 1)] ++ [])), zab [(zO ob19 r11.Min cap19), (zO ob20 r11.Max cap20), (zO ob21 r11.Tests cap21), (zO ob22 r11.Same cap22), (zO ob23 r11.Different cap23)], zab [(zO ob14 r10.Min cap14), (zO ob15 r10.Max cap15), (zO ob16 r10.Tests cap16), (osv (some b14) 0 1 1), (zO ob18 r10.Different cap18)], zab [(zO ob3 r1.Min cap4), (zO ob10 r1.Max cap10), (zO ob11 r1.Tests cap11), (zO ob12 r1.Same cap12), (osv (some b13) 0 1 1)], zab ([] ++ (cs24 ++ sp24)), zab ([] ++ (cs25 ++ sp25)), zab ([] ++ (cs21 ++ sp21)), zab ([] ++ (cs22 ++ sp22)), zab ([] ++ (cs23 ++ sp23)), zab ([] ++ (cs14 ++ sp14)), zab ([] ++ (cs15 ++ sp15)), zab ([] ++ (cs16 ++ sp16)), zab ([] ++ (cs17 ++ sp17)), zab ([] ++ (cs18 ++ sp18)), zab ([] ++ (cs5 ++ sp6)), zab ([] ++ (cs10 ++ sp10)), zab ([] ++ (cs11 ++ sp11)), zab ([] ++ (cs12 ++ sp12)), zab ([] ++ (cs13 ++ sp13))]) hS21
 have K26 := ks w hS21
 refine ⟨_, [], [], K26, (fun b hb => hL29.own.lt b hb), hL29.size, rfl, rfl, ?_⟩
 refine ⟨?_, ?_⟩
 ·
  intro w30 hE36
  refine zaj (i := 0) rfl rfl (zaq (zau (q := 0) zbf rfl ti22 rfl rfl rfl zrr)) ?_
  refine zaj (i := 4) rfl rfl (zaq (zau (q := 1) zbf rfl ti22 rfl rfl rfl zrr)) ?_
  refine zaj (i := 8) rfl rfl (zaq (zau (q := 0) zbf rfl ti22 rfl rfl rfl zrr)) ?_
  exact zby
 refine zdd (m := 1) [9] rfl rfl (fun q hq => ?_)
 obtain rfl := List.mem_singleton.1 hq
 refine RlF1.op0 rfl ?_
 intro w31 V12 hE37 hp15
 obtain ⟨hL30, K27⟩ := zl hL29 hE37
 refine zcv (vs := [(zO ob24 x10 cap24)]) ti22 rfl rfl (zeg (zed ob24 0 x10.length cap24)) rfl (zdz (zed ob24 0 x10.length cap24) zej) hL30 2 rfl rfl (zai rfl) ?_
 intro w32 (hL31 : vL w w32 [some b14, some b13, some b12, some b11, some b10, ob24, ob25, ob21, ob22, ob23, ob14, ob15, ob16, ob17, ob18, ob3, ob10, ob11, ob12, ob13] [zab ([] ++ ([(zI 1), (zI 0)] ++ [])), zab ([] ++ ([(zI 0), (zI 1)] ++ [])), zab [(zO ob24 x10 cap24), (zO ob20 r11.Max cap20), (zO ob21 r11.Tests cap21), (zO ob22 r11.Same cap22), (zO ob23 r11.Different cap23)], zab [(zO ob14 r10.Min cap14), (zO ob15 r10.Max cap15), (zO ob16 r10.Tests cap16), (osv (some b14) 0 1 1), (zO ob18 r10.Different cap18)], zab [(zO ob3 r1.Min cap4), (zO ob10 r1.Max cap10), (zO ob11 r1.Tests cap11), (zO ob12 r1.Same cap12), (osv (some b13) 0 1 1)], zab ([] ++ (cs24 ++ sp24)), zab ([] ++ (cs25 ++ sp25)), zab ([] ++ (cs21 ++ sp21)), zab ([] ++ (cs22 ++ sp22)), zab ([] ++ (cs23 ++ sp23)), zab ([] ++ (cs14 ++ sp14)), zab ([] ++ (cs15 ++ sp15)), zab ([] ++ (cs16 ++ sp16)), zab ([] ++ (cs17 ++ sp17)), zab ([] ++ (cs18 ++ sp18)), zab ([] ++ (cs5 ++ sp6)), zab ([] ++ (cs10 ++ sp10)), zab ([] ++ (cs11 ++ sp11)), zab ([] ++ (cs12 ++ sp12)), zab ([] ++ (cs13 ++ sp13))]) hS22
 have K28 := ks w hS22
 refine ⟨_, [10], [(29, (zak (some ⟨b12, 1, none⟩)))], K28, (fun b hb => hL31.own.lt b hb), hL31.size, rfl, rfl, ?_⟩
 refine ⟨?_, ?_⟩
 ·
  intro w33 hE38
  refine zaj (i := 10) rfl rfl (zaq (zau (q := 1) zbf rfl ti22 rfl rfl rfl zrr)) ?_
  exact zby
 refine zdd (m := 0) [11] rfl rfl (fun q hq => ?_)
 obtain rfl := List.mem_singleton.1 hq
 refine RlF1.op0 rfl ?_
 intro w34 V13 hE39 hp16
 obtain ⟨hL32, K29⟩ := zl hL31 hE39
 refine zcv (vs := [(zO ob25 x11 cap25)]) ti22 rfl rfl (zeg (zed ob25 0 x11.length cap25)) rfl (zdz (zed ob25 0 x11.length cap25) zej) hL32 2 rfl rfl (zai rfl) ?_
 intro w35 (hL33 : vL w w35 [some b14, some b13, some b12, some b11, some b10, ob24, ob25, ob21, ob22, ob23, ob14, ob15, ob16, ob17, ob18, ob3, ob10, ob11, ob12, ob13] [zab ([] ++ ([(zI 1), (zI 0)] ++ [])), zab ([] ++ ([(zI 0), (zI 1)] ++ [])), zab [(zO ob24 x10 cap24), (zO ob25 x11 cap25), (zO ob21 r11.Tests cap21), (zO ob22 r11.Same cap22), (zO ob23 r11.Different cap23)], zab [(zO ob14 r10.Min cap14), (zO ob15 r10.Max cap15), (zO ob16 r10.Tests cap16), (osv (some b14) 0 1 1), (zO ob18 r10.Different cap18)], zab [(zO ob3 r1.Min cap4), (zO ob10 r1.Max cap10), (zO ob11 r1.Tests cap11), (zO ob12 r1.Same cap12), (osv (some b13) 0 1 1)], zab ([] ++ (cs24 ++ sp24)), zab ([] ++ (cs25 ++ sp25)), zab ([] ++ (cs21 ++ sp21)), zab ([] ++ (cs22 ++ sp22)), zab ([] ++ (cs23 ++ sp23)), zab ([] ++ (cs14 ++ sp14)), zab ([] ++ (cs15 ++ sp15)), zab ([] ++ (cs16 ++ sp16)), zab ([] ++ (cs17 ++ sp17)), zab ([] ++ (cs18 ++ sp18)), zab ([] ++ (cs5 ++ sp6)), zab ([] ++ (cs10 ++ sp10)), zab ([] ++ (cs11 ++ sp11)), zab ([] ++ (cs12 ++ sp12)), zab ([] ++ (cs13 ++ sp13))]) hS23
 have K30 := ks w hS23
 refine ⟨_, [], [], K30, (fun b hb => hL33.own.lt b hb), hL33.size, rfl, rfl, ?_⟩
 refine ⟨?_, ?_⟩
 ·
  intro w36 hE40
  exact zby
 refine RlF.fin ?_
 intro w37 V14 hE41
 obtain ⟨hL34, K31⟩ := zl hL33 hE41
 refine zan (zaf rfl (zag (OpY.buildArr (zc := [(zI 0), (zI 0)]) (vs := [(zI 2), (zI 0)]) (css := [[(zI 2)], [(zI 0)]]) zbv ti45 rfl ti3 rfl rfl ⟨rfl, rfl, ⟨rfl, rfl, trivial⟩⟩ ?_)))
 have hE42 : Els rArr2Int (vH w None [some b14, some b13, some b12, some b11, some b10, ob24, ob25, ob21, ob22, ob23, ob14, ob15, ob16, ob17, ob18, ob3, ob10, ob11, ob12, ob13] w37) [(zI 2), (zI 0)] [(Arr2Int.mk 2 0)] := (zcp (a := [(zI 2), (zI 0)]) (rArr2Int_close ⟨rfl, trivial⟩) zcq)
 refine zag (zct (r := rArr2Int) (vs := [(zbo #[(zI 2), (zI 0)])]) (css := [[(zI 2), (zI 0)]]) (xs := [(Arr2Int.mk 2 0)]) zbn ti45 (zai rfl) rfl rfl ⟨rfl, rfl, trivial⟩ (zai rfl) hE42 rfl hL34 ?_)
 intro b15 w38 hc28 hL35 hS24
 have K32 := ks w hS24
 refine zag (zau (q := 3) zbf rfl ti24 rfl rfl rfl ?_)
 refine zde (zcv (vs := [(osv (some b15) 0 1 1)]) ti24 rfl rfl (zeg (zed (some b15) 0 1 1)) rfl (zdz (zed (some b15) 0 1 1) zej) hL35 3 rfl rfl (zai rfl) ?_)
 intro w39 (hL36 : vL w w39 [some b15, some b14, some b13, some b12, some b11, some b10, ob24, ob25, ob21, ob22, ob23, ob14, ob15, ob16, ob17, ob18, ob3, ob10, ob11, ob12, ob13] [zab ([] ++ ([(zI 2), (zI 0)] ++ [])), zab ([] ++ ([(zI 1), (zI 0)] ++ [])), zab ([] ++ ([(zI 0), (zI 1)] ++ [])), zab [(zO ob24 x10 cap24), (zO ob25 x11 cap25), (zO ob21 r11.Tests cap21), (osv (some b15) 0 1 1), (zO ob23 r11.Different cap23)], zab [(zO ob14 r10.Min cap14), (zO ob15 r10.Max cap15), (zO ob16 r10.Tests cap16), (osv (some b14) 0 1 1), (zO ob18 r10.Different cap18)], zab [(zO ob3 r1.Min cap4), (zO ob10 r1.Max cap10), (zO ob11 r1.Tests cap11), (zO ob12 r1.Same cap12), (osv (some b13) 0 1 1)], zab ([] ++ (cs24 ++ sp24)), zab ([] ++ (cs25 ++ sp25)), zab ([] ++ (cs21 ++ sp21)), zab ([] ++ (cs22 ++ sp22)), zab ([] ++ (cs23 ++ sp23)), zab ([] ++ (cs14 ++ sp14)), zab ([] ++ (cs15 ++ sp15)), zab ([] ++ (cs16 ++ sp16)), zab ([] ++ (cs17 ++ sp17)), zab ([] ++ (cs18 ++ sp18)), zab ([] ++ (cs5 ++ sp6)), zab ([] ++ (cs10 ++ sp10)), zab ([] ++ (cs11 ++ sp11)), zab ([] ++ (cs12 ++ sp12)), zab ([] ++ (cs13 ++ sp13))]) hS25
 have K33 := ks w hS25
 refine zas (zan (zaf rfl (zag (OpY.buildArr (zc := [(zI 0), (zI 0)]) (vs := [(zI 2), (zI 1)]) (css := [[(zI 2)], [(zI 1)]]) zbv ti45 rfl ti3 rfl rfl ⟨rfl, rfl, ⟨rfl, rfl, trivial⟩⟩ ?_))))
 have hE43 : Els rArr2Int (vH w None [some b15, some b14, some b13, some b12, some b11, some b10, ob24, ob25, ob21, ob22, ob23, ob14, ob15, ob16, ob17, ob18, ob3, ob10, ob11, ob12, ob13] w39) [(zI 2), (zI 1)] [(Arr2Int.mk 2 1)] := (zcp (a := [(zI 2), (zI 1)]) (rArr2Int_close ⟨rfl, trivial⟩) zcq)
 refine zag (zct (r := rArr2Int) (vs := [(zbo #[(zI 2), (zI 1)])]) (css := [[(zI 2), (zI 1)]]) (xs := [(Arr2Int.mk 2 1)]) zbn ti45 (zai rfl) rfl rfl ⟨rfl, rfl, trivial⟩ (zai rfl) hE43 rfl hL36 ?_)
 intro b16 w40 hc29 hL37 hS26
 have K34 := ks w hS26
 refine zag (zau (q := 4) zbf rfl ti24 rfl rfl rfl ?_)
 refine zde (zcv (vs := [(osv (some b16) 0 1 1)]) ti24 rfl rfl (zeg (zed (some b16) 0 1 1)) rfl (zdz (zed (some b16) 0 1 1) zej) hL37 4 rfl rfl (zai rfl) ?_)
 intro w41 (hL38 : vL w w41 [some b16, some b15, some b14, some b13, some b12, some b11, some b10, ob24, ob25, ob21, ob22, ob23, ob14, ob15, ob16, ob17, ob18, ob3, ob10, ob11, ob12, ob13] [zab ([] ++ ([(zI 2), (zI 1)] ++ [])), zab ([] ++ ([(zI 2), (zI 0)] ++ [])), zab ([] ++ ([(zI 1), (zI 0)] ++ [])), zab ([] ++ ([(zI 0), (zI 1)] ++ [])), zab [(zO ob24 x10 cap24), (zO ob25 x11 cap25), (zO ob21 r11.Tests cap21), (osv (some b15) 0 1 1), (osv (some b16) 0 1 1)], zab [(zO ob14 r10.Min cap14), (zO ob15 r10.Max cap15), (zO ob16 r10.Tests cap16), (osv (some b14) 0 1 1), (zO ob18 r10.Different cap18)], zab [(zO ob3 r1.Min cap4), (zO ob10 r1.Max cap10), (zO ob11 r1.Tests cap11), (zO ob12 r1.Same cap12), (osv (some b13) 0 1 1)], zab ([] ++ (cs24 ++ sp24)), zab ([] ++ (cs25 ++ sp25)), zab ([] ++ (cs21 ++ sp21)), zab ([] ++ (cs22 ++ sp22)), zab ([] ++ (cs23 ++ sp23)), zab ([] ++ (cs14 ++ sp14)), zab ([] ++ (cs15 ++ sp15)), zab ([] ++ (cs16 ++ sp16)), zab ([] ++ (cs17 ++ sp17)), zab ([] ++ (cs18 ++ sp18)), zab ([] ++ (cs5 ++ sp6)), zab ([] ++ (cs10 ++ sp10)), zab ([] ++ (cs11 ++ sp11)), zab ([] ++ (cs12 ++ sp12)), zab ([] ++ (cs13 ++ sp13))]) hS27
 have K35 := ks w hS27
 refine zas (zan (zaf rfl (zag (zau (q := 2) zbf rfl ti23 rfl rfl rfl ?_))))
 refine zag (zav (v := (zO ob21 r11.Tests cap21)) zbc rfl rfl (hL38.at 4 rfl rfl) rfl ?_)
 refine zag (OpY.build (zc := [(zI 0), (zI 0), zF, (zah ⟨#[]⟩)]) (cs := [(zI 2), (zI 0), zT, (zS ([97] : List UInt8))]) (is := [0, 1, 2, 3]) (vs := [(zI 2), (zI 0), zT, (zS ([97] : List UInt8))]) (css := [[(zI 2)], [(zI 0)], [zT], [(zS ([97] : List UInt8))]]) pl44 ti44 rfl rfl rfl ⟨rfl, rfl, rfl, rfl, trivial⟩ rfl ?_)
 have hE44 : Els rTTest (vH w None [some b16, some b15, some b14, some b13, some b12, some b11, some b10, ob24, ob25, ob21, ob22, ob23, ob14, ob15, ob16, ob17, ob18, ob3, ob10, ob11, ob12, ob13] w41) [(zI 2), (zI 0), zT, (zS ([97] : List UInt8))] [(TTest.mk 2 0 true ([97] : List UInt8))] := (zcp (a := [(zI 2), (zI 0), zT, (zS ([97] : List UInt8))]) (rTTest_close ⟨rfl, trivial⟩) zcq)
 refine zag (zct (r := rTTest) (vs := [(zbo #[(zI 2), (zI 0), zT, (zS ([97] : List UInt8))])]) (css := [[(zI 2), (zI 0), zT, (zS ([97] : List UInt8))]]) (xs := [(TTest.mk 2 0 true ([97] : List UInt8))]) zbc ti44 (zai rfl) rfl rfl ⟨rfl, rfl, trivial⟩ (zai rfl) hE44 rfl hL38 ?_)
 intro b17 w42 hc30 hL39 hS28
 have K36 := ks w hS28
 obtain ⟨x12, q24, h⟩ := zdt h
 obtain ⟨q25, q26, q27⟩ := zek q24
 have f14 := (hE44.mono (K36 None))
 have f15 := (((((((((((((((((((((((((hE24.mono (K12 None)).mono (K13 None)).mono (K14 None)).mono (K15 None)).mono (K16 None)).mono (K17 None)).mono (K18 None)).mono (K19 None)).mono (K20 None)).mono (K21 None)).mono (K22 None)).mono (K23 None)).mono (K24 None)).mono (K25 None)).mono (K26 None)).mono (K27 None)).mono (K28 None)).mono (K29 None)).mono (K30 None)).mono (K31 None)).mono (K32 None)).mono (K33 None)).mono (K34 None)).mono (K35 None)).mono (K36 None))
 refine zag (zcw (r := rTTest) (H := (vH w None [some b17, some b16, some b15, some b14, some b13, some b12, some b11, some b10, ob24, ob25, ob21, ob22, ob23, ob14, ob15, ob16, ob17, ob18, ob3, ob10, ob11, ob12, ob13] w42)) (cs := cs21) (sp := sp21) (xs := r11.Tests) (ys := [(TTest.mk 2 0 true ([97] : List UInt8))]) (Y := x12) (n := r11.Tests.length) (cap := cap21) (i := 10) zbc ti44 rfl rfl rfl rfl hL39 rfl rfl f15 rfl hc21 (Src.row (pre := []) (o := 0) (n := 1) (cap := 1) (hL39.at 0 rfl rfl) f14 rfl rfl rfl) (zcg (fun _ _ _ _ h => h) f14) q25 q26 q27 ?_)
 intro ob26 cap26 sp26 cs26 w43 hE45 hc31 (hL40 : vL w w43 [some b17, some b16, some b15, some b14, some b13, some b12, some b11, some b10, ob24, ob25, ob26, ob22, ob23, ob14, ob15, ob16, ob17, ob18, ob3, ob10, ob11, ob12, ob13] [zab ([] ++ ([(zI 2), (zI 0), zT, (zS ([97] : List UInt8))] ++ [])), zab ([] ++ ([(zI 2), (zI 1)] ++ [])), zab ([] ++ ([(zI 2), (zI 0)] ++ [])), zab ([] ++ ([(zI 1), (zI 0)] ++ [])), zab ([] ++ ([(zI 0), (zI 1)] ++ [])), zab [(zO ob24 x10 cap24), (zO ob25 x11 cap25), (zO ob21 r11.Tests cap21), (osv (some b15) 0 1 1), (osv (some b16) 0 1 1)], zab [(zO ob14 r10.Min cap14), (zO ob15 r10.Max cap15), (zO ob16 r10.Tests cap16), (osv (some b14) 0 1 1), (zO ob18 r10.Different cap18)], zab [(zO ob3 r1.Min cap4), (zO ob10 r1.Max cap10), (zO ob11 r1.Tests cap11), (zO ob12 r1.Same cap12), (osv (some b13) 0 1 1)], zab ([] ++ (cs24 ++ sp24)), zab ([] ++ (cs25 ++ sp25)), zab ([] ++ (cs26 ++ sp26)), zab ([] ++ (cs22 ++ sp22)), zab ([] ++ (cs23 ++ sp23)), zab ([] ++ (cs14 ++ sp14)), zab ([] ++ (cs15 ++ sp15)), zab ([] ++ (cs16 ++ sp16)), zab ([] ++ (cs17 ++ sp17)), zab ([] ++ (cs18 ++ sp18)), zab ([] ++ (cs5 ++ sp6)), zab ([] ++ (cs10 ++ sp10)), zab ([] ++ (cs11 ++ sp11)), zab ([] ++ (cs12 ++ sp12)), zab ([] ++ (cs13 ++ sp13))]) hS29
 have K37 := ks w hS29
 refine zag (zau (q := 2) zbf rfl ti23 rfl rfl rfl ?_)
 refine zde (zcv (vs := [(zO ob26 x12 cap26)]) ti23 rfl rfl (zeg (zed ob26 0 x12.length cap26)) rfl (zdz (zed ob26 0 x12.length cap26) zej) hL40 5 rfl rfl (zai rfl) ?_)
 intro w44 (hL41 : vL w w44 [some b17, some b16, some b15, some b14, some b13, some b12, some b11, some b10, ob24, ob25, ob26, ob22, ob23, ob14, ob15, ob16, ob17, ob18, ob3, ob10, ob11, ob12, ob13] [zab ([] ++ ([(zI 2), (zI 0), zT, (zS ([97] : List UInt8))] ++ [])), zab ([] ++ ([(zI 2), (zI 1)] ++ [])), zab ([] ++ ([(zI 2), (zI 0)] ++ [])), zab ([] ++ ([(zI 1), (zI 0)] ++ [])), zab ([] ++ ([(zI 0), (zI 1)] ++ [])), zab [(zO ob24 x10 cap24), (zO ob25 x11 cap25), (zO ob26 x12 cap26), (osv (some b15) 0 1 1), (osv (some b16) 0 1 1)], zab [(zO ob14 r10.Min cap14), (zO ob15 r10.Max cap15), (zO ob16 r10.Tests cap16), (osv (some b14) 0 1 1), (zO ob18 r10.Different cap18)], zab [(zO ob3 r1.Min cap4), (zO ob10 r1.Max cap10), (zO ob11 r1.Tests cap11), (zO ob12 r1.Same cap12), (osv (some b13) 0 1 1)], zab ([] ++ (cs24 ++ sp24)), zab ([] ++ (cs25 ++ sp25)), zab ([] ++ (cs26 ++ sp26)), zab ([] ++ (cs22 ++ sp22)), zab ([] ++ (cs23 ++ sp23)), zab ([] ++ (cs14 ++ sp14)), zab ([] ++ (cs15 ++ sp15)), zab ([] ++ (cs16 ++ sp16)), zab ([] ++ (cs17 ++ sp17)), zab ([] ++ (cs18 ++ sp18)), zab ([] ++ (cs5 ++ sp6)), zab ([] ++ (cs10 ++ sp10)), zab ([] ++ (cs11 ++ sp11)), zab ([] ++ (cs12 ++ sp12)), zab ([] ++ (cs13 ++ sp13))]) hS30
 have K38 := ks w hS30
 refine zas (zan (zaf rfl (zag (zcu (vs := [(zO ob3 r1.Min cap4), (zO ob10 r1.Max cap10), (zO ob11 r1.Tests cap11), (zO ob12 r1.Same cap12), (osv (some b13) 0 1 1)]) zbf rfl ti26 rfl (hL41.at 7 rfl rfl) rfl rfl ?_))))
 obtain ⟨r12, q28, h⟩ := zdt h
 have f16 := (((((((((((((((((((((((((((((hE7.mono (K10 None)).mono (K11 None)).mono (K12 None)).mono (K13 None)).mono (K14 None)).mono (K15 None)).mono (K16 None)).mono (K17 None)).mono (K18 None)).mono (K19 None)).mono (K20 None)).mono (K21 None)).mono (K22 None)).mono (K23 None)).mono (K24 None)).mono (K25 None)).mono (K26 None)).mono (K27 None)).mono (K28 None)).mono (K29 None)).mono (K30 None)).mono (K31 None)).mono (K32 None)).mono (K33 None)).mono (K34 None)).mono (K35 None)).mono (K36 None)).mono (K37 None)).mono (K38 None))
 have f17 := (((((((((((((((((((((((((((((hE11.mono (K10 None)).mono (K11 None)).mono (K12 None)).mono (K13 None)).mono (K14 None)).mono (K15 None)).mono (K16 None)).mono (K17 None)).mono (K18 None)).mono (K19 None)).mono (K20 None)).mono (K21 None)).mono (K22 None)).mono (K23 None)).mono (K24 None)).mono (K25 None)).mono (K26 None)).mono (K27 None)).mono (K28 None)).mono (K29 None)).mono (K30 None)).mono (K31 None)).mono (K32 None)).mono (K33 None)).mono (K34 None)).mono (K35 None)).mono (K36 None)).mono (K37 None)).mono (K38 None))
 have f18 := (((((((((((((((((((((((((((((hE12.mono (K10 None)).mono (K11 None)).mono (K12 None)).mono (K13 None)).mono (K14 None)).mono (K15 None)).mono (K16 None)).mono (K17 None)).mono (K18 None)).mono (K19 None)).mono (K20 None)).mono (K21 None)).mono (K22 None)).mono (K23 None)).mono (K24 None)).mono (K25 None)).mono (K26 None)).mono (K27 None)).mono (K28 None)).mono (K29 None)).mono (K30 None)).mono (K31 None)).mono (K32 None)).mono (K33 None)).mono (K34 None)).mono (K35 None)).mono (K36 None)).mono (K37 None)).mono (K38 None))
 have f19 := (((((((((((((((((((((((((((((hE13.mono (K10 None)).mono (K11 None)).mono (K12 None)).mono (K13 None)).mono (K14 None)).mono (K15 None)).mono (K16 None)).mono (K17 None)).mono (K18 None)).mono (K19 None)).mono (K20 None)).mono (K21 None)).mono (K22 None)).mono (K23 None)).mono (K24 None)).mono (K25 None)).mono (K26 None)).mono (K27 None)).mono (K28 None)).mono (K29 None)).mono (K30 None)).mono (K31 None)).mono (K32 None)).mono (K33 None)).mono (K34 None)).mono (K35 None)).mono (K36 None)).mono (K37 None)).mono (K38 None))
 have f20 := (((((((((((((((((((((hE27.mono (K18 None)).mono (K19 None)).mono (K20 None)).mono (K21 None)).mono (K22 None)).mono (K23 None)).mono (K24 None)).mono (K25 None)).mono (K26 None)).mono (K27 None)).mono (K28 None)).mono (K29 None)).mono (K30 None)).mono (K31 None)).mono (K32 None)).mono (K33 None)).mono (K34 None)).mono (K35 None)).mono (K36 None)).mono (K37 None)).mono (K38 None))
 refine zag (zbz en14 rfl rfl (lof_w N (TProb.mk r1.Min r1.Max r1.Tests r1.Same [(Arr2Int.mk 0 1)]) (zO ob3 r1.Min cap4) (zO ob10 r1.Max cap10) (zO ob11 r1.Tests cap11) (zO ob12 r1.Same cap12) (osv (some b13) 0 1 1) _ Any (zea (pre := []) (o := 0) (n := r1.Min.length) (cap := cap4) (hL41.at 18 rfl rfl) f16 vw_any rfl rfl rfl hc8) (zea (pre := []) (o := 0) (n := r1.Max.length) (cap := cap10) (hL41.at 19 rfl rfl) f17 vw_any rfl rfl rfl hc10) (zea (pre := []) (o := 0) (n := r1.Tests.length) (cap := cap11) (hL41.at 20 rfl rfl) f18 vw_any rfl rfl rfl hc11) (zea (pre := []) (o := 0) (n := r1.Same.length) (cap := cap12) (hL41.at 21 rfl rfl) f19 vw_any rfl rfl rfl hc12) (zea (pre := []) (o := 0) (n := 1) (cap := 1) (hL41.at 4 rfl rfl) f20 vw_any rfl rfl rfl hc24) r12 q28) ?_)
 rintro _ w45 hE46 ⟨v10, v11, v12, v13, v14, rfl, k10, k11, k12, k13, k14, -⟩
 replace k10 := k10.mono (zbs (S := None) hL41 [])
 replace k11 := k11.mono (zbs (S := None) hL41 [])
 replace k12 := k12.mono (zbs (S := None) hL41 [])
 replace k13 := k13.mono (zbs (S := None) hL41 [])
 replace k14 := k14.mono (zbs (S := None) hL41 [])
 obtain ⟨hL42, K39⟩ := zl hL41 hE46
 obtain ⟨r13, q29, h⟩ := zdt h
 refine zag (zbz en17 rfl rfl (tSolve_w N r12 v10 v11 v12 v13 v14 _ Any (k10.mono vw_any) (k11.mono vw_any) (k12.mono vw_any) (k13.mono vw_any) (k14.mono vw_any) r13 q29) ?_)
 rintro _ w46 hE47 ⟨ob27, cap27, cs27, sp27, rfl, hN13, hE48, hc32, -⟩
 replace hE48 := hE48.mono (zbs (S := None) hL42 [ob27])
 have hp17 := hL42.adoptL hE47 hN13
 have hL43 := hp17.1
 have K40 := ks w hp17.2
 refine zag (zae (v := (Value.tuple #[(zO ob27 r13.1 cap27), (zac r13.2)])) rfl ?_)
 refine zag (zcl (vs := [(zO ob27 r13.1 cap27), (zac r13.2)]) (v := (zO ob27 r13.1 cap27)) rfl rfl ?_)
 refine zag (zcl (vs := [(zO ob27 r13.1 cap27), (zac r13.2)]) (v := (zac r13.2)) rfl rfl ?_)
 refine zag (zal (v := (zO ob27 r13.1 cap27)) rfl ?_)
 refine zag (zal (v := (zac r13.2)) rfl ?_)
 refine zas (zan (zaf rfl (zag (zcu (vs := [(zO ob14 r10.Min cap14), (zO ob15 r10.Max cap15), (zO ob16 r10.Tests cap16), (osv (some b14) 0 1 1), (zO ob18 r10.Different cap18)]) zbf rfl ti26 rfl (hL43.at 7 rfl rfl) rfl rfl ?_))))
 obtain ⟨r14, q30, h⟩ := zdt h
 have f21 := ((((((((((((((((((((((((((((((hE16.mono (K11 None)).mono (K12 None)).mono (K13 None)).mono (K14 None)).mono (K15 None)).mono (K16 None)).mono (K17 None)).mono (K18 None)).mono (K19 None)).mono (K20 None)).mono (K21 None)).mono (K22 None)).mono (K23 None)).mono (K24 None)).mono (K25 None)).mono (K26 None)).mono (K27 None)).mono (K28 None)).mono (K29 None)).mono (K30 None)).mono (K31 None)).mono (K32 None)).mono (K33 None)).mono (K34 None)).mono (K35 None)).mono (K36 None)).mono (K37 None)).mono (K38 None)).mono (K39 None)).mono (K40 None))
 have f22 := ((((((((((((((((((((((((((((((hE17.mono (K11 None)).mono (K12 None)).mono (K13 None)).mono (K14 None)).mono (K15 None)).mono (K16 None)).mono (K17 None)).mono (K18 None)).mono (K19 None)).mono (K20 None)).mono (K21 None)).mono (K22 None)).mono (K23 None)).mono (K24 None)).mono (K25 None)).mono (K26 None)).mono (K27 None)).mono (K28 None)).mono (K29 None)).mono (K30 None)).mono (K31 None)).mono (K32 None)).mono (K33 None)).mono (K34 None)).mono (K35 None)).mono (K36 None)).mono (K37 None)).mono (K38 None)).mono (K39 None)).mono (K40 None))
 have f23 := ((((((((((((((((((((((((((((((hE18.mono (K11 None)).mono (K12 None)).mono (K13 None)).mono (K14 None)).mono (K15 None)).mono (K16 None)).mono (K17 None)).mono (K18 None)).mono (K19 None)).mono (K20 None)).mono (K21 None)).mono (K22 None)).mono (K23 None)).mono (K24 None)).mono (K25 None)).mono (K26 None)).mono (K27 None)).mono (K28 None)).mono (K29 None)).mono (K30 None)).mono (K31 None)).mono (K32 None)).mono (K33 None)).mono (K34 None)).mono (K35 None)).mono (K36 None)).mono (K37 None)).mono (K38 None)).mono (K39 None)).mono (K40 None))
 have f24 := (((((((((((((((((((((hE28.mono (K20 None)).mono (K21 None)).mono (K22 None)).mono (K23 None)).mono (K24 None)).mono (K25 None)).mono (K26 None)).mono (K27 None)).mono (K28 None)).mono (K29 None)).mono (K30 None)).mono (K31 None)).mono (K32 None)).mono (K33 None)).mono (K34 None)).mono (K35 None)).mono (K36 None)).mono (K37 None)).mono (K38 None)).mono (K39 None)).mono (K40 None))
 have f25 := ((((((((((((((((((((((((((((((hE20.mono (K11 None)).mono (K12 None)).mono (K13 None)).mono (K14 None)).mono (K15 None)).mono (K16 None)).mono (K17 None)).mono (K18 None)).mono (K19 None)).mono (K20 None)).mono (K21 None)).mono (K22 None)).mono (K23 None)).mono (K24 None)).mono (K25 None)).mono (K26 None)).mono (K27 None)).mono (K28 None)).mono (K29 None)).mono (K30 None)).mono (K31 None)).mono (K32 None)).mono (K33 None)).mono (K34 None)).mono (K35 None)).mono (K36 None)).mono (K37 None)).mono (K38 None)).mono (K39 None)).mono (K40 None))
 refine zag (zbz en14 rfl rfl (lof_w N (TProb.mk r10.Min r10.Max r10.Tests [(Arr2Int.mk 1 0)] r10.Different) (zO ob14 r10.Min cap14) (zO ob15 r10.Max cap15) (zO ob16 r10.Tests cap16) (osv (some b14) 0 1 1) (zO ob18 r10.Different cap18) _ Any (zea (pre := []) (o := 0) (n := r10.Min.length) (cap := cap14) (hL43.at 14 rfl rfl) f21 vw_any rfl rfl rfl hc14) (zea (pre := []) (o := 0) (n := r10.Max.length) (cap := cap15) (hL43.at 15 rfl rfl) f22 vw_any rfl rfl rfl hc15) (zea (pre := []) (o := 0) (n := r10.Tests.length) (cap := cap16) (hL43.at 16 rfl rfl) f23 vw_any rfl rfl rfl hc16) (zea (pre := []) (o := 0) (n := 1) (cap := 1) (hL43.at 4 rfl rfl) f24 vw_any rfl rfl rfl hc25) (zea (pre := []) (o := 0) (n := r10.Different.length) (cap := cap18) (hL43.at 18 rfl rfl) f25 vw_any rfl rfl rfl hc18) r14 q30) ?_)
 rintro _ w47 hE49 ⟨v15, v16, v17, v18, v19, rfl, k15, k16, k17, k18, k19, -⟩
 replace k15 := k15.mono (zbs (S := None) hL43 [])
 replace k16 := k16.mono (zbs (S := None) hL43 [])
 replace k17 := k17.mono (zbs (S := None) hL43 [])
 replace k18 := k18.mono (zbs (S := None) hL43 [])
 replace k19 := k19.mono (zbs (S := None) hL43 [])
 obtain ⟨hL44, K41⟩ := zl hL43 hE49
 obtain ⟨r15, q31, h⟩ := zdt h
 refine zag (zbz en17 rfl rfl (tSolve_w N r14 v15 v16 v17 v18 v19 _ Any (k15.mono vw_any) (k16.mono vw_any) (k17.mono vw_any) (k18.mono vw_any) (k19.mono vw_any) r15 q31) ?_)
 rintro _ w48 hE50 ⟨ob28, cap28, cs28, sp28, rfl, hN14, hE51, hc33, -⟩
 replace hE51 := hE51.mono (zbs (S := None) hL44 [ob28])
 have hp18 := hL44.adoptL hE50 hN14
 have hL45 := hp18.1
 have K42 := ks w hp18.2
 refine zag (zae (v := (Value.tuple #[(zO ob28 r15.1 cap28), (zac r15.2)])) rfl ?_)
 refine zag (zcl (vs := [(zO ob28 r15.1 cap28), (zac r15.2)]) (v := (zO ob28 r15.1 cap28)) rfl rfl ?_)
 refine zag (zcl (vs := [(zO ob28 r15.1 cap28), (zac r15.2)]) (v := (zac r15.2)) rfl rfl ?_)
 refine zag (zal (v := (zO ob28 r15.1 cap28)) rfl ?_)
 refine zag (zal (v := (zac r15.2)) rfl ?_)
 refine zas (zan (zaf rfl (zag (zcu (vs := [(zO ob24 x10 cap24), (zO ob25 x11 cap25), (zO ob26 x12 cap26), (osv (some b15) 0 1 1), (osv (some b16) 0 1 1)]) zbf rfl ti26 rfl (hL45.at 7 rfl rfl) rfl rfl ?_))))
 obtain ⟨r16, q32, h⟩ := zdt h
 have f26 := (((((((((((((((((((hE32.mono (K24 None)).mono (K25 None)).mono (K26 None)).mono (K27 None)).mono (K28 None)).mono (K29 None)).mono (K30 None)).mono (K31 None)).mono (K32 None)).mono (K33 None)).mono (K34 None)).mono (K35 None)).mono (K36 None)).mono (K37 None)).mono (K38 None)).mono (K39 None)).mono (K40 None)).mono (K41 None)).mono (K42 None))
 have f27 := (((((((((((((((((hE35.mono (K26 None)).mono (K27 None)).mono (K28 None)).mono (K29 None)).mono (K30 None)).mono (K31 None)).mono (K32 None)).mono (K33 None)).mono (K34 None)).mono (K35 None)).mono (K36 None)).mono (K37 None)).mono (K38 None)).mono (K39 None)).mono (K40 None)).mono (K41 None)).mono (K42 None))
 have f28 := ((((((hE45.mono (K37 None)).mono (K38 None)).mono (K39 None)).mono (K40 None)).mono (K41 None)).mono (K42 None))
 have f29 := (((((((((((hE42.mono (K32 None)).mono (K33 None)).mono (K34 None)).mono (K35 None)).mono (K36 None)).mono (K37 None)).mono (K38 None)).mono (K39 None)).mono (K40 None)).mono (K41 None)).mono (K42 None))
 have f30 := (((((((((hE43.mono (K34 None)).mono (K35 None)).mono (K36 None)).mono (K37 None)).mono (K38 None)).mono (K39 None)).mono (K40 None)).mono (K41 None)).mono (K42 None))
 refine zag (zbz en14 rfl rfl (lof_w N (TProb.mk x10 x11 x12 [(Arr2Int.mk 2 0)] [(Arr2Int.mk 2 1)]) (zO ob24 x10 cap24) (zO ob25 x11 cap25) (zO ob26 x12 cap26) (osv (some b15) 0 1 1) (osv (some b16) 0 1 1) _ Any (zea (pre := []) (o := 0) (n := x10.length) (cap := cap24) (hL45.at 10 rfl rfl) f26 vw_any rfl rfl rfl hc26) (zea (pre := []) (o := 0) (n := x11.length) (cap := cap25) (hL45.at 11 rfl rfl) f27 vw_any rfl rfl rfl hc27) (zea (pre := []) (o := 0) (n := x12.length) (cap := cap26) (hL45.at 12 rfl rfl) f28 vw_any rfl rfl rfl hc31) (zea (pre := []) (o := 0) (n := 1) (cap := 1) (hL45.at 4 rfl rfl) f29 vw_any rfl rfl rfl hc28) (zea (pre := []) (o := 0) (n := 1) (cap := 1) (hL45.at 3 rfl rfl) f30 vw_any rfl rfl rfl hc29) r16 q32) ?_)
 rintro _ w49 hE52 ⟨v20, v21, v22, v23, v24, rfl, k20, k21, k22, k23, k24, -⟩
 replace k20 := k20.mono (zbs (S := None) hL45 [])
 replace k21 := k21.mono (zbs (S := None) hL45 [])
 replace k22 := k22.mono (zbs (S := None) hL45 [])
 replace k23 := k23.mono (zbs (S := None) hL45 [])
 replace k24 := k24.mono (zbs (S := None) hL45 [])
 obtain ⟨hL46, K43⟩ := zl hL45 hE52
 obtain ⟨r17, q33, h⟩ := zdt h
 refine zag (zbz en17 rfl rfl (tSolve_w N r16 v20 v21 v22 v23 v24 _ Any (k20.mono vw_any) (k21.mono vw_any) (k22.mono vw_any) (k23.mono vw_any) (k24.mono vw_any) r17 q33) ?_)
 rintro _ w50 hE53 ⟨ob29, cap29, cs29, sp29, rfl, hN15, hE54, hc34, -⟩
 replace hE54 := hE54.mono (zbs (S := None) hL46 [ob29])
 have hp19 := hL46.adoptL hE53 hN15
 have hL47 := hp19.1
 have K44 := ks w hp19.2
 refine zag (zae (v := (Value.tuple #[(zO ob29 r17.1 cap29), (zac r17.2)])) rfl ?_)
 refine zag (zcl (vs := [(zO ob29 r17.1 cap29), (zac r17.2)]) (v := (zO ob29 r17.1 cap29)) rfl rfl ?_)
 refine zag (zcl (vs := [(zO ob29 r17.1 cap29), (zac r17.2)]) (v := (zac r17.2)) rfl rfl ?_)
 refine zag (zal (v := (zO ob29 r17.1 cap29)) rfl ?_)
 refine zag (zal (v := (zac r17.2)) rfl ?_)
 refine zas (zan (zaf rfl (zag (zcu (vs := [(zO ob24 x10 cap24), (zO ob25 x11 cap25), (zO ob26 x12 cap26), (osv (some b15) 0 1 1), (osv (some b16) 0 1 1)]) zbf rfl ti26 rfl (hL47.at 8 rfl rfl) rfl rfl ?_))))
 obtain ⟨r18, q34, h⟩ := zdt h
 have f31 := ((f26.mono (K43 None)).mono (K44 None))
 have f32 := ((f27.mono (K43 None)).mono (K44 None))
 have f33 := ((f28.mono (K43 None)).mono (K44 None))
 have f34 := ((f29.mono (K43 None)).mono (K44 None))
 have f35 := ((f30.mono (K43 None)).mono (K44 None))
 refine zag (zbz en14 rfl rfl (lof_w N (TProb.mk x10 x11 x12 [(Arr2Int.mk 2 0)] [(Arr2Int.mk 2 1)]) (zO ob24 x10 cap24) (zO ob25 x11 cap25) (zO ob26 x12 cap26) (osv (some b15) 0 1 1) (osv (some b16) 0 1 1) _ Any (zea (pre := []) (o := 0) (n := x10.length) (cap := cap24) (hL47.at 11 rfl rfl) f31 vw_any rfl rfl rfl hc26) (zea (pre := []) (o := 0) (n := x11.length) (cap := cap25) (hL47.at 12 rfl rfl) f32 vw_any rfl rfl rfl hc27) (zea (pre := []) (o := 0) (n := x12.length) (cap := cap26) (hL47.at 13 rfl rfl) f33 vw_any rfl rfl rfl hc31) (zea (pre := []) (o := 0) (n := 1) (cap := 1) (hL47.at 5 rfl rfl) f34 vw_any rfl rfl rfl hc28) (zea (pre := []) (o := 0) (n := 1) (cap := 1) (hL47.at 4 rfl rfl) f35 vw_any rfl rfl rfl hc29) r18 q34) ?_)
 rintro _ w51 hE55 ⟨v25, v26, v27, v28, v29, rfl, k25, k26, k27, k28, k29, -⟩
 replace k25 := k25.mono (zbs (S := None) hL47 [])
 replace k26 := k26.mono (zbs (S := None) hL47 [])
 replace k27 := k27.mono (zbs (S := None) hL47 [])
 replace k28 := k28.mono (zbs (S := None) hL47 [])
 replace k29 := k29.mono (zbs (S := None) hL47 [])
 obtain ⟨hL48, K45⟩ := zl hL47 hE55
 obtain ⟨r19, q35, h⟩ := zdt h
 refine zag (zbz en20 rfl rfl (tClasses_w N r18 v25 v26 v27 v28 v29 _ Any (k25.mono vw_any) (k26.mono vw_any) (k27.mono vw_any) (k28.mono vw_any) (k29.mono vw_any) r19 q35) ?_)
 rintro _ w52 hE56 ⟨ob30, cap30, cs30, sp30, rfl, hN16, hE57, hc35, -⟩
 replace hE57 := hE57.mono (zbs (S := None) hL48 [ob30])
 have hp20 := hL48.adoptL hE56 hN16
 have hL49 := hp20.1
 have K46 := ks w hp20.2
 refine zag (zal (v := (zO ob30 r19 cap30)) rfl ?_)
 refine zas (zan (zaf rfl (zag (zae (v := (zac r13.2)) rfl ?_))))
 refine zag (zae (v := (zac r13.2)) rfl ?_)
 by_cases hc36 : r13.2 = true
 ·
  replace h := ite_t hc36 h
  refine zaz rfl rfl hc36 (zae (v := (zO ob27 r13.1 cap27)) rfl ?_)
  have hE58 : Els rStr (vH w None [ob30, ob29, ob28, ob27, some b17, some b16, some b15, some b14, some b13, some b12, some b11, some b10, ob24, ob25, ob26, ob22, ob23, ob14, ob15, ob16, ob17, ob18, ob3, ob10, ob11, ob12, ob13] w52) [(zS ([97] : List UInt8)), (zS ([98] : List UInt8))] [([97] : List UInt8), ([98] : List UInt8)] := (zcp (a := [(zS ([97] : List UInt8))]) rfl (zcp (a := [(zS ([98] : List UInt8))]) rfl zcq))
  refine zaz rfl rfl hc36 (zct (r := rStr) (vs := [(zS ([97] : List UInt8)), (zS ([98] : List UInt8))]) (css := [[(zS ([97] : List UInt8))], [(zS ([98] : List UInt8))]]) (xs := [([97] : List UInt8), ([98] : List UInt8)]) zax ti9 (zai rfl) rfl rfl ⟨rfl, rfl, ⟨rfl, rfl, trivial⟩⟩ (zai rfl) hE58 rfl hL49 ?_)
  intro b18 w53 hc37 hL50 hS31
  have K47 := ks w hS31
  obtain ⟨r20, q36, h⟩ := zdt h
  have f36 := (((((((hE48.mono (K41 None)).mono (K42 None)).mono (K43 None)).mono (K44 None)).mono (K45 None)).mono (K46 None)).mono (K47 None))
  have f37 := (hE58.mono (K47 None))
  refine zaz rfl rfl hc36 (zbz en27 rfl rfl (lequal_w N r13.1 [([97] : List UInt8), ([98] : List UInt8)] (zO ob27 r13.1 cap27) (osv (some b18) 0 2 2) _ Any (zea (pre := []) (o := 0) (n := r13.1.length) (cap := cap27) (hL50.at 4 rfl rfl) f36 vw_any rfl rfl rfl hc32) (zea (pre := []) (o := 0) (n := 2) (cap := 2) (hL50.at 0 rfl rfl) f37 vw_any rfl rfl rfl hc37) r20 q36) ?_)
  rintro _ w54 hE59 ⟨rfl, -⟩
  obtain ⟨hL51, K48⟩ := zl hL50 hE59
  refine zag (zbr (t := r13.2) (v := (zac r20)) rfl hc36 rfl ?_)
  refine zag (zae (v := (zac r20)) rfl ?_)
  by_cases hc38 : r20 = true
  ·
   replace h := ite_t hc38 h
   refine zaz rfl rfl hc38 (zae (v := (zac r15.2)) rfl ?_)
   refine zag (zbr (t := r20) (v := (zac r15.2)) rfl hc38 rfl ?_)
   refine zag (zae (v := (zac r15.2)) rfl ?_)
   by_cases hc39 : r15.2 = true
   ·
    replace h := ite_t hc39 h
    refine zaz rfl rfl hc39 (zae (v := (zO ob28 r15.1 cap28)) rfl ?_)
    have hE60 : Els rStr (vH w None [some b18, ob30, ob29, ob28, ob27, some b17, some b16, some b15, some b14, some b13, some b12, some b11, some b10, ob24, ob25, ob26, ob22, ob23, ob14, ob15, ob16, ob17, ob18, ob3, ob10, ob11, ob12, ob13] w54) [(zS ([98] : List UInt8)), (zS ([98] : List UInt8))] [([98] : List UInt8), ([98] : List UInt8)] := (zcp (a := [(zS ([98] : List UInt8))]) rfl (zcp (a := [(zS ([98] : List UInt8))]) rfl zcq))
    refine zaz rfl rfl hc39 (zct (r := rStr) (vs := [(zS ([98] : List UInt8)), (zS ([98] : List UInt8))]) (css := [[(zS ([98] : List UInt8))], [(zS ([98] : List UInt8))]]) (xs := [([98] : List UInt8), ([98] : List UInt8)]) zax ti9 (zai rfl) rfl rfl ⟨rfl, rfl, ⟨rfl, rfl, trivial⟩⟩ (zai rfl) hE60 rfl hL51 ?_)
    intro b19 w55 hc40 hL52 hS32
    have K49 := ks w hS32
    obtain ⟨r21, q37, h⟩ := zdt h
    have f38 := (((((((hE51.mono (K43 None)).mono (K44 None)).mono (K45 None)).mono (K46 None)).mono (K47 None)).mono (K48 None)).mono (K49 None))
    have f39 := (hE60.mono (K49 None))
    refine zaz rfl rfl hc39 (zbz en27 rfl rfl (lequal_w N r15.1 [([98] : List UInt8), ([98] : List UInt8)] (zO ob28 r15.1 cap28) (osv (some b19) 0 2 2) _ Any (zea (pre := []) (o := 0) (n := r15.1.length) (cap := cap28) (hL52.at 4 rfl rfl) f38 vw_any rfl rfl rfl hc33) (zea (pre := []) (o := 0) (n := 2) (cap := 2) (hL52.at 0 rfl rfl) f39 vw_any rfl rfl rfl hc40) r21 q37) ?_)
    rintro _ w56 hE61 ⟨rfl, -⟩
    obtain ⟨hL53, K50⟩ := zl hL52 hE61
    refine zag (zbr (t := r15.2) (v := (zac r21)) rfl hc39 rfl ?_)
    refine zag (zae (v := (zac r21)) rfl ?_)
    by_cases hc41 : r21 = true
    ·
     replace h := ite_t hc41 h
     refine zaz rfl rfl hc41 (zae (v := (zac r17.2)) rfl ?_)
     refine zaz rfl rfl hc41 (zdq (x := r17.2) rfl ?_)
     refine zag (zbr (t := r21) (v := (zac (!r17.2))) rfl hc41 rfl ?_)
     refine zag (zae (v := (zac (!r17.2))) rfl ?_)
     by_cases hc42 : (!r17.2) = true
     ·
      replace h := ite_t hc42 h
      refine zaz rfl rfl hc42 (zae (v := (zO ob30 r19 cap30)) rfl ?_)
      have f40 := ((((hE57.mono (K47 None)).mono (K48 None)).mono (K49 None)).mono (K50 None))
      refine zaz rfl rfl hc42 (zcj (pre := []) (r := (rSl rI)) (xs := r19) Try.underlying37 rfl (hL53.at 2 rfl rfl) f40 rfl rfl ?_)
      refine zaz rfl rfl hc42 (zdn (x := (r19.length : Int)) (y := 2) (((r19.length : Int) : Int) = 2) rfl rfl zbk ?_)
      refine zag (zbr (t := (!r17.2)) (v := (zac (decide (((r19.length : Int) : Int) = 2)))) rfl hc42 rfl ?_)
      refine zag (zae (v := (zac (decide (((r19.length : Int) : Int) = 2)))) rfl ?_)
      by_cases hc43 : ((r19.length : Int) : Int) = 2
      ·
       replace h := ite_t hc43 h
       refine zaz rfl rfl (zdv hc43) (zae (v := (zO ob30 r19 cap30)) rfl ?_)
       obtain ⟨x13, n10, q39, q40, q41, h⟩ := zix h
       obtain ⟨b20, hb10⟩ := hL53.row_some 2 rfl rfl (zem (pre := []) f40 q40 (Nat.lt_of_sub_eq_succ rfl))
       refine zaz rfl rfl (zdv hc43) (zbd (r := (rSl rI)) (b := b20) (o := 0) (n := n10) (m := r19.length) (xs := r19) (q := (0 + n10 * (rSl rI).sz)) Try.underlying37 ti22 (zef hb10) rfl rfl q39 q41 rfl ?_)
       obtain ⟨vs10, q42, q43, q44⟩ := zee (pre := []) (sp := sp30) f40 q40
       obtain ⟨v30, rfl, k30⟩ := q43
       refine zaz rfl rfl (zdv hc43) (zbx (v := v30) zao rfl rfl (zel hb10 (hL53.at 2 rfl rfl)) q44 ?_)
       have hE62 : Els rI (vH w None [some b19, some b18, ob30, ob29, ob28, ob27, some b17, some b16, some b15, some b14, some b13, some b12, some b11, some b10, ob24, ob25, ob26, ob22, ob23, ob14, ob15, ob16, ob17, ob18, ob3, ob10, ob11, ob12, ob13] w56) [(zI 0), (zI 2)] [0, 2] := (zcp (a := [(zI 0)]) rfl (zcp (a := [(zI 2)]) rfl zcq))
       refine zaz rfl rfl (zdv hc43) (zct (r := rI) (vs := [(zI 0), (zI 2)]) (css := [[(zI 0)], [(zI 2)]]) (xs := [0, 2]) zao ti3 (zai rfl) rfl rfl ⟨rfl, rfl, ⟨rfl, rfl, trivial⟩⟩ (zai rfl) hE62 rfl hL53 ?_)
       intro b21 w57 hc44 hL54 hS33
       have K51 := ks w hS33
       obtain ⟨r22, q45, h⟩ := zdt h
       have f41 := (k30.mono (K51 None))
       have f42 := (hE62.mono (K51 None))
       refine zaz rfl rfl (zdv hc43) (zbz en22 rfl rfl (lnumbers_w N x13 [0, 2] v30 (osv (some b21) 0 2 2) _ Any (f41.mono vw_any) (zea (pre := []) (o := 0) (n := 2) (cap := 2) (hL54.at 0 rfl rfl) f42 vw_any rfl rfl rfl hc44) r22 q45) ?_)
       rintro _ w58 hE63 ⟨rfl, -⟩
       obtain ⟨hL55, K52⟩ := zl hL54 hE63
       refine zag (zbr (t := (decide (((r19.length : Int) : Int) = 2))) (v := (zac r22)) rfl (zdv hc43) rfl ?_)
       refine zag (zae (v := (zac r22)) rfl ?_)
       by_cases hc45 : r22 = true
       ·
        replace h := ite_t hc45 h
        refine zaz rfl rfl hc45 (zae (v := (zO ob30 r19 cap30)) rfl ?_)
        obtain ⟨x14, n11, q47, q48, q49, h⟩ := zix h
        refine zaz rfl rfl hc45 (zbd (r := (rSl rI)) (b := b20) (o := 0) (n := n11) (m := r19.length) (xs := r19) (q := (0 + n11 * (rSl rI).sz)) Try.underlying37 ti22 (zef hb10) rfl rfl q47 q49 rfl ?_)
        have f43 := ((f40.mono (K51 None)).mono (K52 None))
        obtain ⟨vs11, q50, q51, q52⟩ := zee (pre := []) (sp := sp30) f43 q48
        obtain ⟨v31, rfl, k31⟩ := q51
        refine zaz rfl rfl hc45 (zbx (v := v31) zao rfl rfl (zel hb10 (hL55.at 3 rfl rfl)) q52 ?_)
        have hE64 : Els rI (vH w None [some b21, some b19, some b18, ob30, ob29, ob28, ob27, some b17, some b16, some b15, some b14, some b13, some b12, some b11, some b10, ob24, ob25, ob26, ob22, ob23, ob14, ob15, ob16, ob17, ob18, ob3, ob10, ob11, ob12, ob13] w58) [(zI 1)] [1] := (zcp (a := [(zI 1)]) rfl zcq)
        refine zaz rfl rfl hc45 (zct (r := rI) (vs := [(zI 1)]) (css := [[(zI 1)]]) (xs := [1]) zao ti3 (zai rfl) rfl rfl ⟨rfl, rfl, trivial⟩ (zai rfl) hE64 rfl hL55 ?_)
        intro b22 w59 hc46 hL56 hS34
        have K53 := ks w hS34
        obtain ⟨r23, q53, h⟩ := zdt h
        have f44 := (k31.mono (K53 None))
        have f45 := (hE64.mono (K53 None))
        refine zaz rfl rfl hc45 (zbz en22 rfl rfl (lnumbers_w N x14 [1] v31 (osv (some b22) 0 1 1) _ Any (f44.mono vw_any) (zea (pre := []) (o := 0) (n := 1) (cap := 1) (hL56.at 0 rfl rfl) f45 vw_any rfl rfl rfl hc46) r23 q53) ?_)
        rintro _ w60 hE65 ⟨rfl, -⟩
        obtain ⟨hL57, K54⟩ := zl hL56 hE65
        refine zag (zbr (t := r22) (v := (zac r23)) rfl hc45 rfl ?_)
        refine zag (zae (v := (zac r23)) rfl ?_)
        by_cases hc47 : r23 = true
        ·
         replace h := ite_t hc47 h
         refine zaz rfl rfl hc47 (zcu (vs := [(zO ob3 r1.Min cap4), (zO ob10 r1.Max cap10), (zO ob11 r1.Tests cap11), (zO ob12 r1.Same cap12), (osv (some b13) 0 1 1)]) zbf rfl ti26 rfl (hL57.at 15 rfl rfl) rfl rfl ?_)
         obtain ⟨r24, q54, h⟩ := zdt h
         have f46 := ((((((((((((((((f16.mono (K39 None)).mono (K40 None)).mono (K41 None)).mono (K42 None)).mono (K43 None)).mono (K44 None)).mono (K45 None)).mono (K46 None)).mono (K47 None)).mono (K48 None)).mono (K49 None)).mono (K50 None)).mono (K51 None)).mono (K52 None)).mono (K53 None)).mono (K54 None))
         have f47 := ((((((((((((((((f17.mono (K39 None)).mono (K40 None)).mono (K41 None)).mono (K42 None)).mono (K43 None)).mono (K44 None)).mono (K45 None)).mono (K46 None)).mono (K47 None)).mono (K48 None)).mono (K49 None)).mono (K50 None)).mono (K51 None)).mono (K52 None)).mono (K53 None)).mono (K54 None))
         have f48 := ((((((((((((((((f18.mono (K39 None)).mono (K40 None)).mono (K41 None)).mono (K42 None)).mono (K43 None)).mono (K44 None)).mono (K45 None)).mono (K46 None)).mono (K47 None)).mono (K48 None)).mono (K49 None)).mono (K50 None)).mono (K51 None)).mono (K52 None)).mono (K53 None)).mono (K54 None))
         have f49 := ((((((((((((((((f19.mono (K39 None)).mono (K40 None)).mono (K41 None)).mono (K42 None)).mono (K43 None)).mono (K44 None)).mono (K45 None)).mono (K46 None)).mono (K47 None)).mono (K48 None)).mono (K49 None)).mono (K50 None)).mono (K51 None)).mono (K52 None)).mono (K53 None)).mono (K54 None))
         have f50 := ((((((((((((((((f20.mono (K39 None)).mono (K40 None)).mono (K41 None)).mono (K42 None)).mono (K43 None)).mono (K44 None)).mono (K45 None)).mono (K46 None)).mono (K47 None)).mono (K48 None)).mono (K49 None)).mono (K50 None)).mono (K51 None)).mono (K52 None)).mono (K53 None)).mono (K54 None))
         refine zaz rfl rfl hc47 (zbz en14 rfl rfl (lof_w N (TProb.mk r1.Min r1.Max r1.Tests r1.Same [(Arr2Int.mk 0 1)]) (zO ob3 r1.Min cap4) (zO ob10 r1.Max cap10) (zO ob11 r1.Tests cap11) (zO ob12 r1.Same cap12) (osv (some b13) 0 1 1) _ Any (zea (pre := []) (o := 0) (n := r1.Min.length) (cap := cap4) (hL57.at 26 rfl rfl) f46 vw_any rfl rfl rfl hc8) (zea (pre := []) (o := 0) (n := r1.Max.length) (cap := cap10) (hL57.at 27 rfl rfl) f47 vw_any rfl rfl rfl hc10) (zea (pre := []) (o := 0) (n := r1.Tests.length) (cap := cap11) (hL57.at 28 rfl rfl) f48 vw_any rfl rfl rfl hc11) (zea (pre := []) (o := 0) (n := r1.Same.length) (cap := cap12) (hL57.at 29 rfl rfl) f49 vw_any rfl rfl rfl hc12) (zea (pre := []) (o := 0) (n := 1) (cap := 1) (hL57.at 12 rfl rfl) f50 vw_any rfl rfl rfl hc24) r24 q54) ?_)
         rintro _ w61 hE66 ⟨v32, v33, v34, v35, v36, rfl, k32, k33, k34, k35, k36, -⟩
         replace k32 := k32.mono (zbs (S := None) hL57 [])
         replace k33 := k33.mono (zbs (S := None) hL57 [])
         replace k34 := k34.mono (zbs (S := None) hL57 [])
         replace k35 := k35.mono (zbs (S := None) hL57 [])
         replace k36 := k36.mono (zbs (S := None) hL57 [])
         obtain ⟨hL58, K55⟩ := zl hL57 hE66
         have hE67 : Els rStr (vH w None [some b22, some b21, some b19, some b18, ob30, ob29, ob28, ob27, some b17, some b16, some b15, some b14, some b13, some b12, some b11, some b10, ob24, ob25, ob26, ob22, ob23, ob14, ob15, ob16, ob17, ob18, ob3, ob10, ob11, ob12, ob13] w61) [(zS ([97] : List UInt8)), (zS ([98] : List UInt8))] [([97] : List UInt8), ([98] : List UInt8)] := (zcp (a := [(zS ([97] : List UInt8))]) rfl (zcp (a := [(zS ([98] : List UInt8))]) rfl zcq))
         refine zaz rfl rfl hc47 (zct (r := rStr) (vs := [(zS ([97] : List UInt8)), (zS ([98] : List UInt8))]) (css := [[(zS ([97] : List UInt8))], [(zS ([98] : List UInt8))]]) (xs := [([97] : List UInt8), ([98] : List UInt8)]) zax ti9 (zai rfl) rfl rfl ⟨rfl, rfl, ⟨rfl, rfl, trivial⟩⟩ (zai rfl) hE67 rfl hL58 ?_)
         intro b23 w62 hc48 hL59 hS35
         have K56 := ks w hS35
         obtain ⟨r25, q55, h⟩ := zdt h
         have f51 := (k32.mono (K56 None))
         have f52 := (k33.mono (K56 None))
         have f53 := (k34.mono (K56 None))
         have f54 := (k35.mono (K56 None))
         have f55 := (k36.mono (K56 None))
         have f56 := (hE67.mono (K56 None))
         refine zaz rfl rfl hc47 (zbz en13 rfl rfl (tSatisfies_w N r24 [([97] : List UInt8), ([98] : List UInt8)] v32 v33 v34 v35 v36 (osv (some b23) 0 2 2) _ Any (f51.mono vw_any) (f52.mono vw_any) (f53.mono vw_any) (f54.mono vw_any) (f55.mono vw_any) (zea (pre := []) (o := 0) (n := 2) (cap := 2) (hL59.at 0 rfl rfl) f56 vw_any rfl rfl rfl hc48) r25 q55) ?_)
         rintro _ w63 hE68 ⟨rfl, -⟩
         obtain ⟨hL60, K57⟩ := zl hL59 hE68
         refine zag (zbr (t := r23) (v := (zac r25)) rfl hc47 rfl ?_)
         refine zag (zae (v := (zac r25)) rfl ?_)
         by_cases hc49 : r25 = true
         ·
          replace h := ite_t hc49 h
          refine zaz rfl rfl hc49 (zcu (vs := [(zO ob3 r1.Min cap4), (zO ob10 r1.Max cap10), (zO ob11 r1.Tests cap11), (zO ob12 r1.Same cap12), (osv (some b13) 0 1 1)]) zbf rfl ti26 rfl (hL60.at 16 rfl rfl) rfl rfl ?_)
          obtain ⟨r26, q56, h⟩ := zdt h
          have f57 := (((f46.mono (K55 None)).mono (K56 None)).mono (K57 None))
          have f58 := (((f47.mono (K55 None)).mono (K56 None)).mono (K57 None))
          have f59 := (((f48.mono (K55 None)).mono (K56 None)).mono (K57 None))
          have f60 := (((f49.mono (K55 None)).mono (K56 None)).mono (K57 None))
          have f61 := (((f50.mono (K55 None)).mono (K56 None)).mono (K57 None))
          refine zaz rfl rfl hc49 (zbz en14 rfl rfl (lof_w N (TProb.mk r1.Min r1.Max r1.Tests r1.Same [(Arr2Int.mk 0 1)]) (zO ob3 r1.Min cap4) (zO ob10 r1.Max cap10) (zO ob11 r1.Tests cap11) (zO ob12 r1.Same cap12) (osv (some b13) 0 1 1) _ Any (zea (pre := []) (o := 0) (n := r1.Min.length) (cap := cap4) (hL60.at 27 rfl rfl) f57 vw_any rfl rfl rfl hc8) (zea (pre := []) (o := 0) (n := r1.Max.length) (cap := cap10) (hL60.at 28 rfl rfl) f58 vw_any rfl rfl rfl hc10) (zea (pre := []) (o := 0) (n := r1.Tests.length) (cap := cap11) (hL60.at 29 rfl rfl) f59 vw_any rfl rfl rfl hc11) (zea (pre := []) (o := 0) (n := r1.Same.length) (cap := cap12) (hL60.at 30 rfl rfl) f60 vw_any rfl rfl rfl hc12) (zea (pre := []) (o := 0) (n := 1) (cap := 1) (hL60.at 13 rfl rfl) f61 vw_any rfl rfl rfl hc24) r26 q56) ?_)
          rintro _ w64 hE69 ⟨v37, v38, v39, v40, v41, rfl, k37, k38, k39, k40, k41, -⟩
          replace k37 := k37.mono (zbs (S := None) hL60 [])
          replace k38 := k38.mono (zbs (S := None) hL60 [])
          replace k39 := k39.mono (zbs (S := None) hL60 [])
          replace k40 := k40.mono (zbs (S := None) hL60 [])
          replace k41 := k41.mono (zbs (S := None) hL60 [])
          obtain ⟨hL61, K58⟩ := zl hL60 hE69
          have hE70 : Els rStr (vH w None [some b23, some b22, some b21, some b19, some b18, ob30, ob29, ob28, ob27, some b17, some b16, some b15, some b14, some b13, some b12, some b11, some b10, ob24, ob25, ob26, ob22, ob23, ob14, ob15, ob16, ob17, ob18, ob3, ob10, ob11, ob12, ob13] w64) [(zS ([98] : List UInt8)), (zS ([98] : List UInt8))] [([98] : List UInt8), ([98] : List UInt8)] := (zcp (a := [(zS ([98] : List UInt8))]) rfl (zcp (a := [(zS ([98] : List UInt8))]) rfl zcq))
          refine zaz rfl rfl hc49 (zct (r := rStr) (vs := [(zS ([98] : List UInt8)), (zS ([98] : List UInt8))]) (css := [[(zS ([98] : List UInt8))], [(zS ([98] : List UInt8))]]) (xs := [([98] : List UInt8), ([98] : List UInt8)]) zax ti9 (zai rfl) rfl rfl ⟨rfl, rfl, ⟨rfl, rfl, trivial⟩⟩ (zai rfl) hE70 rfl hL61 ?_)
          intro b24 w65 hc50 hL62 hS36
          have K59 := ks w hS36
          obtain ⟨r27, q57, h⟩ := zdt h
          have f62 := (k37.mono (K59 None))
          have f63 := (k38.mono (K59 None))
          have f64 := (k39.mono (K59 None))
          have f65 := (k40.mono (K59 None))
          have f66 := (k41.mono (K59 None))
          have f67 := (hE70.mono (K59 None))
          refine zaz rfl rfl hc49 (zbz en13 rfl rfl (tSatisfies_w N r26 [([98] : List UInt8), ([98] : List UInt8)] v37 v38 v39 v40 v41 (osv (some b24) 0 2 2) _ Any (f62.mono vw_any) (f63.mono vw_any) (f64.mono vw_any) (f65.mono vw_any) (f66.mono vw_any) (zea (pre := []) (o := 0) (n := 2) (cap := 2) (hL62.at 0 rfl rfl) f67 vw_any rfl rfl rfl hc50) r27 q57) ?_)
          rintro _ w66 hE71 ⟨rfl, -⟩
          obtain ⟨hL63, K60⟩ := zl hL62 hE71
          refine zaz rfl rfl hc49 (zdq (x := r27) rfl ?_)
          refine zag (zbr (t := r25) (v := (zac (!r27))) rfl hc49 rfl ?_)
          refine zag (zae (v := (zac (!r27))) rfl ?_)
          by_cases hc51 : (!r27) = true
          ·
           replace h := ite_t hc51 h
           refine zaz rfl rfl hc51 (zcu (vs := [(zO ob3 r1.Min cap4), (zO ob10 r1.Max cap10), (zO ob11 r1.Tests cap11), (zO ob12 r1.Same cap12), (osv (some b13) 0 1 1)]) zbf rfl ti26 rfl (hL63.at 17 rfl rfl) rfl rfl ?_)
           obtain ⟨r28, q58, h⟩ := zdt h
           have f68 := (((f57.mono (K58 None)).mono (K59 None)).mono (K60 None))
           have f69 := (((f58.mono (K58 None)).mono (K59 None)).mono (K60 None))
           have f70 := (((f59.mono (K58 None)).mono (K59 None)).mono (K60 None))
           have f71 := (((f60.mono (K58 None)).mono (K59 None)).mono (K60 None))
           have f72 := (((f61.mono (K58 None)).mono (K59 None)).mono (K60 None))
           refine zaz rfl rfl hc51 (zbz en14 rfl rfl (lof_w N (TProb.mk r1.Min r1.Max r1.Tests r1.Same [(Arr2Int.mk 0 1)]) (zO ob3 r1.Min cap4) (zO ob10 r1.Max cap10) (zO ob11 r1.Tests cap11) (zO ob12 r1.Same cap12) (osv (some b13) 0 1 1) _ Any (zea (pre := []) (o := 0) (n := r1.Min.length) (cap := cap4) (hL63.at 28 rfl rfl) f68 vw_any rfl rfl rfl hc8) (zea (pre := []) (o := 0) (n := r1.Max.length) (cap := cap10) (hL63.at 29 rfl rfl) f69 vw_any rfl rfl rfl hc10) (zea (pre := []) (o := 0) (n := r1.Tests.length) (cap := cap11) (hL63.at 30 rfl rfl) f70 vw_any rfl rfl rfl hc11) (zea (pre := []) (o := 0) (n := r1.Same.length) (cap := cap12) (hL63.at 31 rfl rfl) f71 vw_any rfl rfl rfl hc12) (zea (pre := []) (o := 0) (n := 1) (cap := 1) (hL63.at 14 rfl rfl) f72 vw_any rfl rfl rfl hc24) r28 q58) ?_)
           rintro _ w67 hE72 ⟨v42, v43, v44, v45, v46, rfl, k42, k43, k44, k45, k46, -⟩
           replace k42 := k42.mono (zbs (S := None) hL63 [])
           replace k43 := k43.mono (zbs (S := None) hL63 [])
           replace k44 := k44.mono (zbs (S := None) hL63 [])
           replace k45 := k45.mono (zbs (S := None) hL63 [])
           replace k46 := k46.mono (zbs (S := None) hL63 [])
           have hL64 := hL63.ext hE72
           obtain ⟨r29, q59, h⟩ := zdt h
           refine zaz rfl rfl hc51 (zbz en19 rfl rfl (tLengths_w N r28 1 v42 v43 v44 v45 v46 _ Any (k42.mono vw_any) (k43.mono vw_any) (k44.mono vw_any) (k45.mono vw_any) (k46.mono vw_any) r29 q59) ?_)
           rintro _ w68 hE73 ⟨ob31, cap31, cs31, sp31, rfl, hN17, hE74, hc52, -⟩
           replace hE74 := hE74.mono (zbs (S := None) hL64 [ob31])
           have hp21 := hL64.adoptL hE73 hN17
           have hL65 := hp21.1
           have hE75 : Els rI (vH w None [ob31, some b24, some b23, some b22, some b21, some b19, some b18, ob30, ob29, ob28, ob27, some b17, some b16, some b15, some b14, some b13, some b12, some b11, some b10, ob24, ob25, ob26, ob22, ob23, ob14, ob15, ob16, ob17, ob18, ob3, ob10, ob11, ob12, ob13] w68) [(zI 1)] [1] := (zcp (a := [(zI 1)]) rfl zcq)
           refine zaz rfl rfl hc51 (zct (r := rI) (vs := [(zI 1)]) (css := [[(zI 1)]]) (xs := [1]) zao ti3 (zai rfl) rfl rfl ⟨rfl, rfl, trivial⟩ (zai rfl) hE75 rfl hL65 ?_)
           intro b25 w69 hc53 hL66 hS37
           have K61 := ks w hS37
           obtain ⟨r30, q60, h⟩ := zdt h
           have f73 := (hE74.mono (K61 None))
           have f74 := (hE75.mono (K61 None))
           refine zaz rfl rfl hc51 (zbz en22 rfl rfl (lnumbers_w N r29 [1] (zO ob31 r29 cap31) (osv (some b25) 0 1 1) _ Any (zea (pre := []) (o := 0) (n := r29.length) (cap := cap31) (hL66.at 1 rfl rfl) f73 vw_any rfl rfl rfl hc52) (zea (pre := []) (o := 0) (n := 1) (cap := 1) (hL66.at 0 rfl rfl) f74 vw_any rfl rfl rfl hc53) r30 q60) ?_)
           rintro _ w70 hE76 ⟨rfl, -⟩
           have hL67 := hL66.ext hE76
           refine zag (zbr (t := (!r27)) (v := (zac r30)) rfl hc51 rfl ?_)
           refine zag (zal (v := (zac r30)) rfl ?_)
           refine zas (zbq ?_)
           obtain rfl := zad h
           refine ⟨[(zac r30)], zrt, ⟨_, rfl, hL67.done, ?_⟩⟩
           exact zrt
          exact absurd ((zad (ite_f hc51 h)).trans hr) Bool.false_ne_true
         exact absurd ((zad (ite_f hc49 h)).trans hr) Bool.false_ne_true
        exact absurd ((zad (ite_f hc47 h)).trans hr) Bool.false_ne_true
       exact absurd ((zad (ite_f hc45 h)).trans hr) Bool.false_ne_true
      exact absurd ((zad (ite_f hc43 h)).trans hr) Bool.false_ne_true
     exact absurd ((zad (ite_f hc42 h)).trans hr) Bool.false_ne_true
    exact absurd ((zad (ite_f hc41 h)).trans hr) Bool.false_ne_true
   exact absurd ((zad (ite_f hc39 h)).trans hr) Bool.false_ne_true
  exact absurd ((zad (ite_f hc38 h)).trans hr) Bool.false_ne_true
 exact absurd ((zad (ite_f hc36 h)).trans hr) Bool.false_ne_true
theorem awake_w (N : Nat) (w : World) (S : Nat → Prop) (r : Bool) (h : awake N = some r) :
  Calls Try.prog 11 #[] w (Ret w (fun v w' => (zac r) = v ∧ True)) := awake_w0 N w S r h (awake_true h)
theorem lawValid_w (N : Nat) (p : TProb) (p_v : Value) (p_v1 : Value) (p_v2 : Value) (p_v3 : Value) (p_v4 : Value) (w : World) (S : Nat → Prop) (p_h : Rs rI (vH w S [] w) p_v p.Min) (p_h1 : Rs rI (vH w S [] w) p_v1 p.Max) (p_h2 : Rs rTTest (vH w S [] w) p_v2 p.Tests) (p_h3 : Rs rArr2Int (vH w S [] w) p_v3 p.Same) (p_h4 : Rs rArr2Int (vH w S [] w) p_v4 p.Different) (r : Bool) (h : lawValid N p = some r) :
  Calls Try.prog 10 #[(zbo #[p_v, p_v1, p_v2, p_v3, p_v4])] w (Ret w (fun v w' => (zac r) = v ∧ True)) := by
 unfold lawValid at h
 have hL : vL w w [] [] := Go.X.Loc.begin0 w
 refine calls_of (l := [(zbo #[p_v, p_v1, p_v2, p_v3, p_v4])]) (rl := [.tmp 2]) (n := 34) Try.func10 rfl rfl rfl (zai rfl) ?_
 refine zan (zaf rfl (zag (zdr (cs := [p_v, p_v1, p_v2, p_v3, p_v4]) rfl rfl hL ?_)))
 intro b1 w2 hL3 hS5
 have K4 := ks w hS5
 refine zag (zal (v := zF) rfl ?_)
 refine zas (zan (zan ?_))
 obtain ⟨s10, h, g10⟩ := zdt h
 refine zbu (fun e w' => ∃ (x10 : Bool) (u : Env), x10 = s10 ∧ e = upds [(1, (zak (some ⟨b1, 0, none⟩))), (26, (zac x10))] u ∧ vL w w' [some b1] [zab [p_v, p_v1, p_v2, p_v3, p_v4]] ∧ Keep w.heap.size [some b1] w2 [some b1] w' ∧ True) ?_ ?_
 ·
  refine zaf rfl ?_
  obtain ⟨r10, q10, h⟩ := zdt h
  refine zag (zbz en11 rfl rfl (awake_w N _ Any r10 q10) ?_)
  rintro _ w10 hE10 ⟨rfl, -⟩
  obtain ⟨hL10, K10⟩ := zl hL3 hE10
  refine zag (zdq (x := r10) rfl ?_)
  refine zag (zae (v := (zac (!r10))) rfl ?_)
  by_cases hc10 : (!r10) = true
  ·
   replace h := ite_t hc10 h
   refine zbe rfl rfl hc10 ?_
   refine zbe rfl rfl hc10 ?_
   refine zbe rfl rfl hc10 ?_
   refine zbe rfl rfl hc10 ?_
   refine zbe rfl rfl hc10 ?_
   refine zbe rfl rfl hc10 ?_
   refine zbe rfl rfl hc10 ?_
   refine zbe rfl rfl hc10 ?_
   refine zbe rfl rfl hc10 ?_
   refine zbe rfl rfl hc10 ?_
   refine zbe rfl rfl hc10 ?_
   refine zbe rfl rfl hc10 ?_
   refine zbe rfl rfl hc10 ?_
   refine zbe rfl rfl hc10 ?_
   refine zbe rfl rfl hc10 ?_
   refine zbe rfl rfl hc10 ?_
   refine zbe rfl rfl hc10 ?_
   refine zbe rfl rfl hc10 ?_
   refine zbe rfl rfl hc10 ?_
   refine zbe rfl rfl hc10 ?_
   refine zag (zbr (t := (!r10)) (v := zT) rfl hc10 rfl (zas ?_))
   obtain rfl := zad h
   refine zat ?_
   exact ⟨true, _, rfl, (zdx ⟨rfl, rfl, trivial⟩), hL10, K10, trivial⟩
  replace h := ite_f hc10 h
  refine zaz rfl rfl (zdw hc10) (zau (q := 0) zbf rfl ti22 rfl rfl rfl ?_)
  refine zaz rfl rfl (zdw hc10) (zav (v := p_v) zao rfl rfl (hL10.at 0 rfl rfl) rfl ?_)
  have f10 := ((p_h.mono (K4 S)).mono (K10 S))
  refine zaz rfl rfl (zdw hc10) (zcc (v := p_v) zao rfl f10 ?_)
  refine zaz rfl rfl (zdw hc10) (zau (q := 1) zbf rfl ti22 rfl rfl rfl ?_)
  refine zaz rfl rfl (zdw hc10) (zav (v := p_v1) zao rfl rfl (hL10.at 0 rfl rfl) rfl ?_)
  have f11 := ((p_h1.mono (K4 S)).mono (K10 S))
  refine zaz rfl rfl (zdw hc10) (zcc (v := p_v1) zao rfl f11 ?_)
  refine zaz rfl rfl (zdw hc10) (zce (x := (p.Min.length : Int)) (y := (p.Max.length : Int)) (z := (iw ((p.Min.length : Int) + (p.Max.length : Int)))) rfl rfl rfl ?_)
  refine zaz rfl rfl (zdw hc10) (zau (q := 2) zbf rfl ti23 rfl rfl rfl ?_)
  refine zaz rfl rfl (zdw hc10) (zav (v := p_v2) zbc rfl rfl (hL10.at 0 rfl rfl) rfl ?_)
  have f12 := ((p_h2.mono (K4 S)).mono (K10 S))
  refine zaz rfl rfl (zdw hc10) (zcc (v := p_v2) zbc rfl f12 ?_)
  refine zaz rfl rfl (zdw hc10) (zce (x := (iw ((p.Min.length : Int) + (p.Max.length : Int)))) (y := (p.Tests.length : Int)) (z := (iw ((iw ((p.Min.length : Int) + (p.Max.length : Int))) + (p.Tests.length : Int)))) rfl rfl rfl ?_)
  refine zaz rfl rfl (zdw hc10) (zau (q := 3) zbf rfl ti24 rfl rfl rfl ?_)
  refine zaz rfl rfl (zdw hc10) (zav (v := p_v3) zbn rfl rfl (hL10.at 0 rfl rfl) rfl ?_)
  have f13 := ((p_h3.mono (K4 S)).mono (K10 S))
  refine zaz rfl rfl (zdw hc10) (zcc (v := p_v3) zbn rfl f13 ?_)
  refine zaz rfl rfl (zdw hc10) (zce (x := (iw ((iw ((p.Min.length : Int) + (p.Max.length : Int))) + (p.Tests.length : Int)))) (y := (p.Same.length : Int)) (z := (iw ((iw ((iw ((p.Min.length : Int) + (p.Max.length : Int))) + (p.Tests.length : Int))) + (p.Same.length : Int)))) rfl rfl rfl ?_)
  refine zaz rfl rfl (zdw hc10) (zau (q := 4) zbf rfl ti24 rfl rfl rfl ?_)
  refine zaz rfl rfl (zdw hc10) (zav (v := p_v4) zbn rfl rfl (hL10.at 0 rfl rfl) rfl ?_)
  have f14 := ((p_h4.mono (K4 S)).mono (K10 S))
  refine zaz rfl rfl (zdw hc10) (zcc (v := p_v4) zbn rfl f14 ?_)
  refine zaz rfl rfl (zdw hc10) (zce (x := (iw ((iw ((iw ((p.Min.length : Int) + (p.Max.length : Int))) + (p.Tests.length : Int))) + (p.Same.length : Int)))) (y := (p.Different.length : Int)) (z := (iw ((iw ((iw ((iw ((p.Min.length : Int) + (p.Max.length : Int))) + (p.Tests.length : Int))) + (p.Same.length : Int))) + (p.Different.length : Int)))) rfl rfl rfl ?_)
  refine zaz rfl rfl (zdw hc10) (OpY.gtr (x := (iw ((iw ((iw ((iw ((p.Min.length : Int) + (p.Max.length : Int))) + (p.Tests.length : Int))) + (p.Same.length : Int))) + (p.Different.length : Int)))) (y := 200) (((iw ((iw ((iw ((iw ((p.Min.length : Int) + (p.Max.length : Int))) + (p.Tests.length : Int))) + (p.Same.length : Int))) + (p.Different.length : Int))) : Int) > 200) rfl rfl zbk ?_)
  refine zag (zbp (t := (!r10)) (v := (zac (decide (((iw ((iw ((iw ((iw ((p.Min.length : Int) + (p.Max.length : Int))) + (p.Tests.length : Int))) + (p.Same.length : Int))) + (p.Different.length : Int))) : Int) > 200)))) rfl (zdw hc10) rfl (zas ?_))
  obtain rfl := zad h
  refine zat ?_
  exact ⟨(decide (((iw ((iw ((iw ((iw ((p.Min.length : Int) + (p.Max.length : Int))) + (p.Tests.length : Int))) + (p.Same.length : Int))) + (p.Different.length : Int))) : Int) > 200)), _, rfl, (zdx ⟨rfl, rfl, trivial⟩), hL10, K10, trivial⟩
 rintro _ w11 ⟨x10, u, rfl, rfl, hL11, K11, -⟩
 replace h := g10
 try dsimp only at h
 refine zch x10 rfl (fun hc11 => ?_) (fun hc11 => ?_)
 ·
  replace h := ite_t hc11 h
  refine zan (zaf rfl ?_)
  obtain ⟨r11, q11, h⟩ := zdt h
  refine zag (zbz en11 rfl rfl (awake_w N _ Any r11 q11) ?_)
  rintro _ w12 hE11 ⟨rfl, -⟩
  have hL12 := hL11.ext hE11
  refine zag (zal (v := (zac r11)) rfl ?_)
  refine zas (zbq ?_)
  obtain rfl := zad h
  refine ⟨[(zac r11)], zrt, ⟨_, rfl, hL12.done, ?_⟩⟩
  exact zrt
 replace h := ite_f hc11 h
 refine zbl (zan ?_)
 obtain ⟨r12, q12, h⟩ := zdt h
 obtain ⟨r13, q13, h⟩ := zdt h
 refine zcz 4 [] [] (fun W1 => [.det (zbo #[p_v, p_v1, p_v2, p_v3, p_v4]), .rel (fun v Z w' => ∃ v10 v11 v12 v13 v14, (zbo #[v10, v11, v12, v13, v14]) = v ∧ Rs rI (vZ W1 w None [some b1] Z w') v10 r12.Min ∧ Rs rI (vZ W1 w None [some b1] Z w') v11 r12.Max ∧ Rs rTTest (vZ W1 w None [some b1] Z w') v12 r12.Tests ∧ Rs rArr2Int (vZ W1 w None [some b1] Z w') v13 r12.Same ∧ Rs rArr2Int (vZ W1 w None [some b1] Z w') v14 r12.Different ∧ True) (fun _ => []), .det (zac r13), .det (zbo #[p_v, p_v1, p_v2, p_v3, p_v4])]) mixed rfl rfl rfl (fun _ => rfl) (fun _ => rfl) ?_ ?_
 ·
  intro W1 _
  exact ⟨fun v Z Z' w w' hΦ hz _ _ hs => by obtain ⟨v10, v11, v12, v13, v14, rfl, k10, k11, k12, k13, k14, -⟩ := hΦ; exact ⟨v10, v11, v12, v13, v14, rfl, (k10.mono (Zv.stay hz hs)), (k11.mono (Zv.stay hz hs)), (k12.mono (Zv.stay hz hs)), (k13.mono (Zv.stay hz hs)), (k14.mono (Zv.stay hz hs)), trivial⟩, trivial⟩
 intro w13 hE12
 obtain ⟨hL13, K12⟩ := zl hL11 hE12
 refine zay (fun _ hE13 => zaq (zcu (vs := [p_v, p_v1, p_v2, p_v3, p_v4]) zbf rfl ti26 rfl ((hL13.ext hE13).at 0 rfl rfl) rfl rfl (er rfl))) ?_
 refine DrH.rel ?_ ?_
 ·
  rintro w15 Z20 hE14 hZ11 ⟨-⟩
  have K13 := ke hL13 hE14
  refine zaq (zbz en14 rfl rfl (lof_w N p p_v p_v1 p_v2 p_v3 p_v4 _ Any (((((p_h.mono (K4 S)).mono (K11 S)).mono (K12 S)).mono (K13 S)).mono vw_any) (((((p_h1.mono (K4 S)).mono (K11 S)).mono (K12 S)).mono (K13 S)).mono vw_any) (((((p_h2.mono (K4 S)).mono (K11 S)).mono (K12 S)).mono (K13 S)).mono vw_any) (((((p_h3.mono (K4 S)).mono (K11 S)).mono (K12 S)).mono (K13 S)).mono vw_any) (((((p_h4.mono (K4 S)).mono (K11 S)).mono (K12 S)).mono (K13 S)).mono vw_any) r12 q12) ?_)
  rintro _ w16 hE15 ⟨v10, v11, v12, v13, v14, rfl, k10, k11, k12, k13, k14, -⟩
  exact Made.ext hE15 hZ11 NewOwn.nil (fun _ h => h) ⟨v10, v11, v12, v13, v14, rfl, (k10.mono Zv.made), (k11.mono Zv.made), (k12.mono Zv.made), (k13.mono Zv.made), (k14.mono Zv.made), trivial⟩
 intro z1
 refine DrH.det ?_ ?_
 ·
  rintro w17 Z21 hE16 hZ12 ⟨⟨⟨v10, v11, v12, v13, v14, rfl, k10, k11, k12, k13, k14, -⟩, hB1⟩, -⟩
  refine zaq (zbz en25 rfl rfl (tValid_w N r12 v10 v11 v12 v13 v14 _ Any (k10.mono vw_any) (k11.mono vw_any) (k12.mono vw_any) (k13.mono vw_any) (k14.mono vw_any) r13 q13) ?_)
  rintro _ w18 hE17 ⟨rfl, -⟩
  exact ⟨hE17, rfl⟩
 refine zay (fun _ hE18 => zaq (zcu (vs := [p_v, p_v1, p_v2, p_v3, p_v4]) zbf rfl ti26 rfl ((hL13.ext hE18).at 0 rfl rfl) rfl rfl (er rfl))) ?_
 refine zdj ?_
 rintro w20 Z23 hE19 hZ14 ⟨⟨⟨v10, v11, v12, v13, v14, rfl, k10, k11, k12, k13, k14, -⟩, hB1⟩, -⟩ ap10
 have hB10 := @zhb w13 Z23
 replace k10 := k10.mono (Zv.fin hL13 hZ14 hB10)
 replace k11 := k11.mono (Zv.fin hL13 hZ14 hB10)
 replace k12 := k12.mono (Zv.fin hL13 hZ14 hB10)
 replace k13 := k13.mono (Zv.fin hL13 hZ14 hB10)
 replace k14 := k14.mono (Zv.fin hL13 hZ14 hB10)
 obtain ⟨hL16, K14⟩ := zl hL13 hE19
 obtain ⟨r14, q14, h⟩ := zdt h
 have f15 := ((((p_h.mono (K4 S)).mono (K11 S)).mono (K12 S)).mono (K14 S))
 have f16 := ((((p_h1.mono (K4 S)).mono (K11 S)).mono (K12 S)).mono (K14 S))
 have f17 := ((((p_h2.mono (K4 S)).mono (K11 S)).mono (K12 S)).mono (K14 S))
 have f18 := ((((p_h3.mono (K4 S)).mono (K11 S)).mono (K12 S)).mono (K14 S))
 have f19 := ((((p_h4.mono (K4 S)).mono (K11 S)).mono (K12 S)).mono (K14 S))
 refine zag (zbz en24 rfl rfl (rValid_w N p p_v p_v1 p_v2 p_v3 p_v4 _ Any (f15.mono vw_any) (f16.mono vw_any) (f17.mono vw_any) (f18.mono vw_any) (f19.mono vw_any) r14 q14) ?_)
 rintro _ w21 hE20 ⟨rfl, -⟩
 have hL17 := hL16.ext hE20
 refine zag (OpY.eqlBool (x := r13) (y := r14) zdm rfl rfl ?_)
 refine zag (zal (v := (zac (r13 == r14))) rfl ?_)
 refine zas (zbq ?_)
 obtain rfl := zad h
 refine ⟨[(zac (r13 == r14))], zrt, ⟨_, rfl, hL17.done, ?_⟩⟩
 exact zrt
end Go.Proofs.Ytaakoedphmeenaa.WL

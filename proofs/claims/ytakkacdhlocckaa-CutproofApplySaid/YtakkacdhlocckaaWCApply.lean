/- Walks, written by a program of mine (wip/tool); the kernel checks them. -/
import Derived.Test.YtakkacdhlocckaaProg
import Derived.Test.YtakkacdhlocckaaSqApply
import Derived.Test.YtakkacdhlocckaaPC
import Derived.Test.YtakkacdhlocckaaWAApply
import Derived.Test.YtakkacdhlocckaaWRApply
import Derived.Test.YtakkacdhlocckaaWBApply
set_option maxRecDepth 100000
set_option maxHeartbeats 4000000
set_option linter.unusedVariables false
namespace Go.Proofs.Ytakkacdhlocckaa.WC
open Go Go.RowKit Go.X Go.D Go.Proofs.Ytakkacdhlocckaa.WA Go.Proofs.Ytakkacdhlocckaa.WR Go.Proofs.Ytakkacdhlocckaa.WB
theorem ti34 : TI Try.prog 34 3 56 (zan #[(zad none 0 0), (zaa false), (zad none 0 0)]) := TI.mk (by kernel_rfl)
theorem pl34 : placesT Try.prog 34 = some [(0, 1), (1, 2)] := by kernel_rfl
theorem ti32 : TI Try.prog 32 1 24 (zad none 0 0) := TI.mk (by kernel_rfl)
theorem en58 : Enters Try.prog 58 := ⟨Try.f58, Try.func58, by kernel_rfl, by kernel_rfl⟩
theorem en55 : Enters Try.prog 55 := ⟨Try.f55, Try.func55, by kernel_rfl, by kernel_rfl⟩
theorem en80 : Enters Try.prog 80 := ⟨Try.f80, Try.func80, by kernel_rfl, by kernel_rfl⟩
theorem en72 : Enters Try.prog 72 := ⟨Try.f72, Try.func72, by kernel_rfl, by kernel_rfl⟩
theorem en54 : Enters Try.prog 54 := ⟨Try.f54, Try.func54, by kernel_rfl, by kernel_rfl⟩
theorem en44 : Enters Try.prog 44 := ⟨Try.f44, Try.func44, by kernel_rfl, by kernel_rfl⟩
theorem en45 : Enters Try.prog 45 := ⟨Try.f45, Try.func45, by kernel_rfl, by kernel_rfl⟩
theorem ti23 : TI Try.prog 23 1 24 (zad none 0 0) := TI.mk (by kernel_rfl)
theorem ti50 : TI Try.prog 50 3 40 (zan #[(zac .i64 0), (zaa false), (zad none 0 0)]) := TI.mk (by kernel_rfl)
theorem en47 : Enters Try.prog 47 := ⟨Try.f47, Try.func47, by kernel_rfl, by kernel_rfl⟩
theorem en48 : Enters Try.prog 48 := ⟨Try.f48, Try.func48, by kernel_rfl, by kernel_rfl⟩
theorem en53 : Enters Try.prog 53 := ⟨Try.f53, Try.func53, by kernel_rfl, by kernel_rfl⟩
theorem ti39 : TI Try.prog 39 1 24 (zad none 0 0) := TI.mk (by kernel_rfl)
theorem ti28 : TI Try.prog 28 3 56 (zan #[(zad none 0 0), (zaa false), (zad none 0 0)]) := TI.mk (by kernel_rfl)
theorem en14 : Enters Try.prog 14 := ⟨Try.f14, Try.func14, by kernel_rfl, by kernel_rfl⟩
theorem ti40 : TI Try.prog 40 1 24 (zad none 0 0) := TI.mk (by kernel_rfl)
theorem en29 : Enters Try.prog 29 := ⟨Try.f29, Try.func29, by kernel_rfl, by kernel_rfl⟩
theorem en56 : Enters Try.prog 56 := ⟨Try.f56, Try.func56, by kernel_rfl, by kernel_rfl⟩
theorem en59 : Enters Try.prog 59 := ⟨Try.f59, Try.func59, by kernel_rfl, by kernel_rfl⟩
theorem ti42 : TI Try.prog 42 5 104 (zan #[(zad none 0 0), (zad none 0 0), (zaa false), (zad none 0 0), (zad none 0 0)]) := TI.mk (by kernel_rfl)
theorem en18 : Enters Try.prog 18 := ⟨Try.f18, Try.func18, by kernel_rfl, by kernel_rfl⟩
theorem en21 : Enters Try.prog 21 := ⟨Try.f21, Try.func21, by kernel_rfl, by kernel_rfl⟩
theorem pl28 : placesT Try.prog 28 = some [(0, 1), (1, 2)] := by kernel_rfl
theorem pl50 : placesT Try.prog 50 = some [(0, 1), (1, 2)] := by kernel_rfl
theorem pl42 : placesT Try.prog 42 = some [(0, 1), (1, 1), (2, 2), (4, 1)] := by kernel_rfl
theorem negated_w (N : Nat) (l : (List Big)) (bound : Big) (l_v : Value) (bound_v : Value) (w : World) (S : Nat → Prop) (l_h : Rs rBig (vH w S [] w) l_v l) (bound_h : Rs (rInt .u32) (vH w S [] w) bound_v bound.Digits) (r : Ineq) (h : negated N l bound = some r) :
  Calls Try.prog 55 #[l_v, (zan #[(zaa bound.Negative), bound_v])] w (Ret w (fun v w' => ∃ (v0_0 : Value) (v0_1 : Value), (zan #[v0_0, (zaa r.Bound.Negative), v0_1]) = v ∧ Rs rBig (vH w None [] w') v0_0 r.Coefs ∧ Rs (rInt .u32) (vH w None [] w') v0_1 r.Bound.Digits ∧ True)) := by
 unfold negated at h
 have hL : vL w w [] [] := Go.X.Loc.begin0 w
 refine calls_of (l := [l_v, (zan #[(zaa bound.Negative), bound_v])]) (rl := [.cell 4 34]) (n := 26) Try.func55 rfl rfl rfl (zae rfl) ?_
 refine zaj (zah rfl (zaf (zdc (cs := [(zaa bound.Negative), bound_v]) rfl rfl hL ?_)))
 intro b1 w2 hL3 hS5
 have K4 := ks w hS5
 refine zaf (zbw (cs := [(zad none 0 0), (zaa false), (zad none 0 0)]) ti34 rfl hL3 ?_)
 intro b6 w7 hL8 hS10
 have K9 := ks w hS10
 refine zap (zaj (zah rfl (zaf (zbd (vs := [(zaa bound.Negative), bound_v]) zal rfl ti26 rfl (hL8.at 1 rfl rfl) rfl rfl ?_))))
 obtain ⟨r11, q12, h⟩ := bind_some h
 have f16 := ((bound_h.mono (K4 S)).mono (K9 S))
 refine zaf (zaw en63 rfl rfl (bNormal_w N bound bound_v _ Any (f16.mono vw_any) r11 q12) ?_)
 rintro _ w17 hE20 ⟨v13, rfl, k14, -⟩
 replace k14 := k14.mono (zbc (S := None) hL8 [])
 have hL18 := hL8.ext hE20
 have K19 := ke hL8 hE20
 refine zaf (zcx (zc := [(zad none 0 0), (zaa false), (zad none 0 0)]) (cs := [(zad none 0 0), (zaa r11.Negative), v13]) (is := [1]) (vs := [(zan #[(zaa r11.Negative), v13])]) (css := [[(zaa r11.Negative), v13]]) pl34 ti34 rfl rfl rfl ⟨rfl, trivial⟩ rfl ?_)
 refine zaf (zbw (cs := [(zad none 0 0), (zaa false), (zad none 0 0)]) ti34 rfl hL18 ?_)
 intro b21 w22 hL23 hS25
 have K24 := ks w hS25
 have f26 := (k14.mono (K24 None))
 refine zcb (zbh (vs := [(zad none 0 0), (zaa r11.Negative), v13]) ti34 rfl rfl rfl rfl (ones_cons rfl (ones_cons rfl (ones_cons f26.one ones_nil))) hL23 0 rfl rfl (zae rfl) ?_)
 intro w27 (hL28 : vL w w27 [some b21, some b6, some b1] [zab [(zad none 0 0), (zaa r11.Negative), v13], zab [(zad none 0 0), (zaa false), (zad none 0 0)], zab [(zaa bound.Negative), bound_v]]) hS30
 have K29 := ks w hS30
 refine zap (zaj (zaj (zah rfl (zaf (zai (v := l_v) rfl ?_)))))
 have f31 := (((((l_h.mono (K4 S)).mono (K9 S)).mono (K19 S)).mono (K24 S)).mono (K29 S))
 refine zaf (zbf (v := l_v) zax rfl f31 ?_)
 refine zaf (zai (v := (zac .i64 0)) rfl ?_)
 refine zap ?_
 obtain ⟨s302, hl304, g303⟩ := bind_some h
 refine zbr (fun e w' => ∃ (coefs298 : (List Big)) (ob294 : Option Nat) (cap295 : Nat) (sp296 : List Value) (cs297 : List Value) (ln301 : Nat) (u : Env), coefs298 = s302 ∧ e = upds [(4, (zam (some ⟨b6, 0, none⟩))), (5, (zam (some ⟨b21, 0, none⟩)))] u ∧ vL w w' [some b6, some b21, ob294] [zab [(zad none 0 0), (zaa false), (zad none 0 0)], zab [(osv ob294 0 ln301 cap295), (zaa r11.Negative), v13], zab ([] ++ (cs297 ++ sp296))] ∧ Keep w.heap.size [some b21, some b6, some b1] w27 [some b6, some b21, ob294] w' ∧ Els rBig (vH w None [some b6, some b21, ob294] w') cs297 coefs298 ∧ ln301 = List.length coefs298 ∧ (cs297 ++ sp296).length = cap295 * rBig.sz ∧ True) ?_ ?_
 ·
  refine zbj ?_
  have hp306 := hL28.addNil
  have hL307 : vL w w27 [none, some b21, some b6, some b1] [zab ([] ++ ([] ++ [])), zab [(zad none 0 0), (zaa r11.Negative), v13], zab [(zad none 0 0), (zaa false), (zad none 0 0)], zab [(zaa bound.Negative), bound_v]] := hp306.1
  have K308 := ks w hp306.2
  have hp310 := hL307.pick [2, 1, 0] rfl rfl rfl
  have hL312 : vL w w27 [some b6, some b21, none] [zab [(zad none 0 0), (zaa false), (zad none 0 0)], zab [(osv none 0 (List.length ([] : (List Big))) 0), (zaa r11.Negative), v13], zab ([] ++ ([] ++ []))] := hp310.1
  have K311 := ks w hp310.2
  have f313 := ((zct (r := rBig)).mono (K311 None))
  refine zcg hl304 (fun (ss : ((List Big) × Int)) (e : Env) (w' : World) => match ss with | (coefs286, x290) => ∃ (ob282 : Option Nat) (cap283 : Nat) (sp284 : List Value) (cs285 : List Value) (ln289 : Nat) (u : Env), e = upds [(4, (zam (some ⟨b6, 0, none⟩))), (5, (zam (some ⟨b21, 0, none⟩))), (11, l_v), (12, (zac .i64 (l.length : Int))), (13, (zac .i64 x290))] u ∧ vL w w' [some b6, some b21, ob282] [zab [(zad none 0 0), (zaa false), (zad none 0 0)], zab [(osv ob282 0 ln289 cap283), (zaa r11.Negative), v13], zab ([] ++ (cs285 ++ sp284))] ∧ Keep w.heap.size [some b21, some b6, some b1] w27 [some b6, some b21, ob282] w' ∧ Els rBig (vH w None [some b6, some b21, ob282] w') cs285 coefs286 ∧ ln289 = List.length coefs286 ∧ (cs285 ++ sp284).length = cap283 * rBig.sz ∧ True) ⟨none, 0, [], [], (List.length ([] : (List Big))), _, (upds_sym ⟨rfl, rfl, rfl, rfl, rfl, trivial⟩), hL312, (zaq K308 K311), f313, rfl, (show ([] ++ [] : List Value).length = 0 * rBig.sz by simp), trivial⟩ ?_
  rintro ⟨coefs286, x290⟩ oo _ w314 ⟨ob282, cap283, sp284, cs285, ln289, u, rfl, hL315, K316, hE287, rfl, hc288, -⟩ h hd305
  rw [negated_b1] at h
  refine zaj (zah rfl (zaf (zcr (x := x290) (y := (l.length : Int)) ((x290 : Int) < (l.length : Int)) rfl rfl zbk ?_)))
  refine zap (zaj ?_)
  refine zbe ((x290 : Int) < (l.length : Int)) rfl (fun hc317 => ?_) (fun hc317 => ?_)
  ·
   replace h := ite_t hc317 h
   refine zbg (zaj (zbj (zaj (zah rfl ?_))))
   obtain ⟨x318, q319, h⟩ := bind_some h
   obtain ⟨n320, q321, q322⟩ := idx_some q319
   have f333 := (f31.mono (K316 S))
   obtain ⟨b323, o324, c325, vs326, q327, q328, f329, q330⟩ := zcz f333 q322
   obtain ⟨v331, rfl, k332, -⟩ := rBig_open q330
   refine zaf (zbv (r := rBig) (v := l_v) (n := n320) (m := (o324 + n320 * rBig.sz)) zax ti26 rfl q327 rfl q321 q322 rfl ?_)
   refine zaf (zdi (vs := [(zaa x318.Negative), v331]) zal rfl ti26 rfl rfl vw_view f329 ?_)
   refine zaf (zbw (cs := [(zaa false), (zad none 0 0)]) ti26 rfl hL315 ?_)
   intro b334 w335 hL336 hS338
   have K337 := ks w hS338
   have f339 := (k332.mono (K337 S))
   refine zcb (zbh (vs := [(zaa x318.Negative), v331]) ti26 rfl rfl rfl rfl (ones_cons rfl (ones_cons f339.one ones_nil)) hL336 0 rfl rfl (zae rfl) ?_)
   intro w340 (hL341 : vL w w340 [some b334, some b6, some b21, ob282] [zab [(zaa x318.Negative), v331], zab [(zad none 0 0), (zaa false), (zad none 0 0)], zab [(osv ob282 0 coefs286.length cap283), (zaa r11.Negative), v13], zab ([] ++ (cs285 ++ sp284))]) hS343
   have K342 := ks w hS343
   refine zap ?_
   obtain ⟨r344, q345, h⟩ := bind_some h
   refine zcc 5 [] [] (fun W1 => [.det (zam (some ⟨b21, 0, none⟩)), .det (osv ob282 0 coefs286.length cap283), .det (zan #[(zaa x318.Negative), v331]), .rel (fun v Z w' => ∃ v346, (zan #[(zaa r344.Negative), v346]) = v ∧ Rs (rInt .u32) (vZ W1 w None [some b334, some b6, some b21, ob282] Z w') v346 r344.Digits ∧ True) (fun _ => []), .rel (fun v Z w' => ∃ b349 cs356, (osv (some b349) 0 1 1) = v ∧ OwnC w' (some b349) (zab ([] ++ (cs356 ++ []))) ∧ Els rBig (vZ W1 w None [some b334, some b6, some b21, ob282] Z w') cs356 [r344] ∧ (cs356 ++ [] : List Value).length = 1 * rBig.sz ∧ True) footV]) mixed rfl rfl rfl (fun _ => rfl) (fun _ => rfl) ?_ ?_
   ·
    intro W1 _
    exact ⟨fun v Z Z' w w' hΦ hz _ _ hs => by obtain ⟨v346, rfl, k347, -⟩ := hΦ; exact ⟨v346, rfl, (k347.mono (zcl hz hs)), trivial⟩, ⟨fun v Z Z' w w' hΦ hz _ _ hs => by obtain ⟨b349, cs356, rfl, hO353, hE354, hc355, -⟩ := hΦ; exact ⟨b349, cs356, rfl, (hO353.stay (fun b hb => by cases hb; exact zay) hs), (hE354.mono (zcl hz hs)), hc355, trivial⟩, trivial⟩⟩
   ·
    intro w357 hE358
    have hL359 := hL341.ext hE358
    have K360 := ke hL341 hE358
    refine zau (fun _ _ => zat (zar zba rfl ti32 rfl rfl rfl (er rfl))) ?_
    refine zau (fun _ hE369 => zat (zbb zax rfl rfl ((hL359.ext hE369).at 2 rfl rfl) rfl (er rfl))) ?_
    refine zau (fun _ hE375 => zat (zbd (vs := [(zaa x318.Negative), v331]) zal rfl ti26 rfl ((hL359.ext hE375).at 0 rfl rfl) rfl rfl (er rfl))) ?_
    refine zcq ?_ ?_
    ·
     rintro w379 Z380 hE381 hZ382 ⟨-⟩
     have K384 := ke hL359 hE381
     refine zat (zaw en57 rfl rfl (bNeg_w N x318 v331 _ Any ((((f339.mono (K342 S)).mono (K360 S)).mono (K384 S)).mono vw_any) r344 q345) ?_)
     rintro _ w385 hE386 ⟨v346, rfl, k347, -⟩
     exact zcj hE386 hZ382 zca (fun _ h => h) ⟨v346, rfl, (k347.mono zda), trivial⟩
    intro z3
    refine zcq ?_ ?_
    ·
     rintro w387 Z388 hE389 hZ390 ⟨⟨⟨v346, rfl, k347, -⟩, hB3⟩, -⟩
     have hE350 : Els rBig (vZ w357 w None [some b334, some b6, some b21, ob282] Z388 w387) [(zaa r344.Negative), v346] [r344] := (zco (a := [(zaa r344.Negative), v346]) (rBig_close ⟨v346, rfl, k347, trivial⟩) zct)
     refine zat (zcp (r := rBig) (vs := [(zan #[(zaa r344.Negative), v346])]) (css := [[(zaa r344.Negative), v346]]) (xs := [r344]) zax ti26 (zae rfl) rfl rfl ⟨rfl, rfl, trivial⟩ (zae rfl) hE350 rfl (Go.X.Loc.begin0 w387) ?_)
     intro b349 w393 hc351 hL394 hS395
     have hN396 : NewOwn w387 w393 [some b349] [zab ([] ++ ([(zaa r344.Negative), v346] ++ []))] := hL394.newOwn [0] rfl rfl rfl
     exact zcj hL394.done hZ390 hN396 (fun _ h => h) ⟨b349, [(zaa r344.Negative), v346], rfl, hN396.2.2.1, (hE350.mono (Zv.grow hL394.done)), hc351, trivial⟩
    intro z4
    refine zcn ?_
    rintro w397 Z398 hE399 hZ400 ⟨⟨⟨b349, cs356, rfl, hO353, hE354, hc355, -⟩, hB4⟩, ⟨⟨v346, rfl, k347, -⟩, hB3⟩, -⟩ ap401
    have hB402 : ∀ b, some b ∈ ([some b349] : List (Option Nat)) → w357.heap.size ≤ b ∧ ¬ Z398 b := by
     intro b hb
     rcases List.mem_cons.1 hb with hb' | hb
     ·
      have := hB4 b (by rw [hb']; exact zay); exact ⟨this.1, this.2.2⟩
     cases hb
    replace hE354 := hE354.mono (zcy hL359 hZ400 hB402)
    replace k347 := k347.mono (zcy hL359 hZ400 hB402)
    have hN405 : NewOwn w357 w397 [some b349] [zab ([] ++ (cs356 ++ []))] := (zdb zca hO353 (fun b hb => (hB402 b (by rw [← hb]; simp)).1) (fun b _ hb => by cases hb))
    have hp406 := hL359.adoptL hE399 hN405
    have hL403 := hp406.1
    have K404 := ks w hp406.2
    obtain ⟨x407, q408, h⟩ := bind_some h
    obtain ⟨q409, q410, q411⟩ := apnd_some q408
    have f419 := ((((hE287.mono (K337 None)).mono (K342 None)).mono (K360 None)).mono (K404 None))
    refine zaf (zdl (r := rBig) (H := (vH w None [some b349, some b334, some b6, some b21, ob282] w397)) (cs := cs285) (sp := sp284) (xs := coefs286) (ys := [r344]) (Y := x407) (n := coefs286.length) (cap := cap283) (i := 4) zax ti26 rfl rfl rfl rfl hL403 rfl rfl f419 rfl hc288 (Src.row (pre := []) (o := 0) (n := 1) (cap := 1) (hL403.at 0 rfl rfl) hE354 rfl rfl rfl) hE354 q409 q410 q411 ?_)
    intro ob412 cap413 sp415 cs414 w420 hE416 hc417 (hL421 : vL w w420 [some b349, some b334, some b6, some b21, ob412] [zab ([] ++ (cs356 ++ [])), zab [(zaa x318.Negative), v331], zab [(zad none 0 0), (zaa false), (zad none 0 0)], zab [(osv ob282 0 coefs286.length cap283), (zaa r11.Negative), v13], zab ([] ++ (cs414 ++ sp415))]) hS423
    have K422 := ks w hS423
    refine zaf (zar (q := 0) zba rfl ti32 rfl rfl rfl ?_)
    refine zcb (zbh (vs := [(osv ob412 0 x407.length cap413)]) ti32 rfl rfl (one_cells (osv_one _ _ _ _)) rfl (ones_cons (osv_one _ _ _ _) ones_nil) hL421 3 rfl rfl (zae rfl) ?_)
    intro w424 (hL425 : vL w w424 [some b349, some b334, some b6, some b21, ob412] [zab ([] ++ (cs356 ++ [])), zab [(zaa x318.Negative), v331], zab [(zad none 0 0), (zaa false), (zad none 0 0)], zab [(osv ob412 0 x407.length cap413), (zaa r11.Negative), v13], zab ([] ++ (cs414 ++ sp415))]) hS427
    have K426 := ks w hS427
    refine zap (zbs (zah rfl (zaf (zcd (x := x290) (y := 1) (z := (iw (x290 + 1))) rfl rfl rfl ?_))))
    refine zaf (zai (v := (zac .i64 (iw (x290 + 1)))) rfl ?_)
    refine zap ?_
    have hp428 := hL425.pick [2, 3, 4] rfl rfl rfl
    have hL430 : vL w w424 [some b6, some b21, ob412] [zab [(zad none 0 0), (zaa false), (zad none 0 0)], zab [(osv ob412 0 x407.length cap413), (zaa r11.Negative), v13], zab ([] ++ (cs414 ++ sp415))] := hp428.1
    have K429 := ks w hp428.2
    have f431 := (((hE416.mono (K422 None)).mono (K426 None)).mono (K429 None))
    obtain rfl := zag h
    refine zas ⟨(x407, (iw (x290 + 1))), rfl, ?_⟩
    exact ⟨ob412, cap413, sp415, cs414, x407.length, _, (upds_sym ⟨rfl, rfl, rfl, rfl, rfl, trivial⟩), hL430, (zaq (zaq (zaq (zaq (zaq (zaq (zaq K316 K337) K342) K360) K404) K422) K426) K429), f431, rfl, hc417, trivial⟩
  ·
   replace h := ite_f hc317 h
   refine zcs rfl ?_
   obtain rfl := zag h
   obtain rfl := hd305 _ rfl
   replace h := g303
   try dsimp only at h
   skip
   refine zas ?_
   exact ⟨coefs286, ob282, cap283, sp284, cs285, coefs286.length, _, rfl, (upds_sym ⟨rfl, rfl, trivial⟩), hL315, K316, hE287, rfl, hc288, trivial⟩
 ·
  rintro _ w432 ⟨coefs298, ob294, cap295, sp296, cs297, ln301, u, rfl, rfl, hL433, K434, hE299, rfl, hc300, -⟩
  replace h := g303
  try dsimp only at h
  refine zaj (zah rfl (zaf (zbd (vs := [(osv ob294 0 coefs298.length cap295), (zaa r11.Negative), v13]) zba rfl ti34 rfl (hL433.at 1 rfl rfl) rfl rfl ?_)))
  have f435 := ((f26.mono (K29 None)).mono (K434 None))
  refine zcb (zbh (vs := [(osv ob294 0 coefs298.length cap295), (zaa r11.Negative), v13]) ti34 rfl rfl rfl rfl (ones_cons (osv_one _ _ _ _) (ones_cons rfl (ones_cons f435.one ones_nil))) hL433 0 rfl rfl (zae rfl) ?_)
  intro w436 (hL437 : vL w w436 [some b6, some b21, ob294] [zab [(osv ob294 0 coefs298.length cap295), (zaa r11.Negative), v13], zab [(osv ob294 0 coefs298.length cap295), (zaa r11.Negative), v13], zab ([] ++ (cs297 ++ sp296))]) hS439
  have K438 := ks w hS439
  refine zap ?_
  have f441 := (hE299.mono (K438 None))
  have f440 := hL437.freezeRow 2 rfl rfl f441 rfl rfl rfl hc300
  have hp442 := hL437.pick [0, 1] rfl rfl rfl
  have hL444 : vL w w436 [some b6, some b21] [zab [(osv ob294 0 coefs298.length cap295), (zaa r11.Negative), v13], zab [(osv ob294 0 coefs298.length cap295), (zaa r11.Negative), v13]] := hp442.1
  have K443 := ks w hp442.2
  refine zbl ?_
  obtain rfl := zag h
  refine ⟨[(zan #[(osv ob294 0 coefs298.length cap295), (zaa r11.Negative), v13])], ⟨⟨⟨b6, 0, none⟩, rfl, res_boxA zba rfl ti34 (hL444.at 0 rfl rfl) rfl⟩, trivial⟩, ⟨_, rfl, hL444.done, ?_⟩⟩
  have f445 := ((f435.mono (K438 None)).mono (K443 None))
  exact ⟨(osv ob294 0 coefs298.length cap295), v13, rfl, (f440.mono zdf), (f445.mono zdf), trivial⟩
theorem cloneIneq_w (N : Nat) (s : (List Ineq)) (s_v : Value) (w : World) (S : Nat → Prop) (s_h : Rs rIneq (vH w S [] w) s_v s) (r : (List Ineq)) (h : cloneIneq N s = some r) :
  Calls Try.prog 53 #[s_v] w (Ret w (fun v w' => ∃ (ob0 : Option Nat) (cap0 : Nat) (cs0 : List Value) (sp0 : List Value), (osv ob0 0 r.length cap0) = v ∧ NewOwn w w' [ob0] [zab ([] ++ (cs0 ++ sp0))] ∧ Els rIneq (vH w S [ob0] w') cs0 r ∧ (cs0 ++ sp0).length = cap0 * rIneq.sz ∧ True)) := by
 unfold cloneIneq at h
 have hL : vL w w [] [] := Go.X.Loc.begin0 w
 refine calls_of (l := [s_v]) (rl := [.tmp 2]) (n := 8) Try.func53 rfl rfl rfl (zae rfl) ?_
 refine zaj (zah rfl (zaf (zak (v := (zad none 0 0)) rfl ?_)))
 refine zap (zaj (zaj (zah rfl (zaf (zai (v := s_v) rfl ?_)))))
 refine zaf (OpY.eqlNil (v := s_v) zbm rfl s_h.isSlice rfl ?_)
 refine zap ?_
 refine zcu (isNil s_v) rfl (fun hc1 => ?_) (fun hc1 => ?_)
 ·
  have hnil := (Sl.of_isNil s_h hc1).1
  replace h : some [] = some r := by rw [hnil] at h; simpa [apnd] using h
  refine zaj (zah rfl (zaf (zak (v := (zad none 0 0)) rfl ?_)))
  refine zap ?_
  have hp2 := hL.addNil
  have hL3 : vL w w [none] [zab ([] ++ ([] ++ []))] := hp2.1
  have hE6 : Els rIneq (vH w None [none] w) [] [] := zct
  refine zbl ?_
  obtain rfl := zag h
  refine ⟨[(osv none 0 (List.length ([] : (List Ineq))) 0)], ⟨rfl, trivial⟩, ⟨_, rfl, hL3.done, ?_⟩⟩
  exact ⟨none, 0, [], [], rfl, (hL3.newOwn [0] rfl rfl rfl), ((hE6.mono Hv.none).mono (Hv.pick [0] rfl)), (show ([] ++ [] : List Value).length = 0 * rIneq.sz by simp), trivial⟩
 ·
  refine zbg (zaj (zah rfl (zaf (OpY.litRow0 zbm ti34 hL ?_))))
  intro b7 w11 hL12 hS14
  have hE15 : Els rIneq (vH w None [] w) [] [] := zct
  have K13 := ks w hS14
  refine zaf (zai (v := s_v) rfl ?_)
  obtain ⟨x16, q17, h⟩ := bind_some h
  obtain ⟨q18, q19, q20⟩ := apnd_some q17
  have f24 := (s_h.mono (K13 S))
  obtain ⟨ds21, q22, q23⟩ := Rs.src f24
  have f32 := (hE15.mono (K13 None))
  refine zaf (zdl (r := rIneq) (H := (vH w S [some b7] w11)) (cs := []) (sp := []) (xs := ([] : (List Ineq))) (ys := s) (Y := x16) (n := (List.length ([] : (List Ineq)))) (cap := 0) (i := 0) zbm ti34 rfl rfl rfl rfl hL12 rfl rfl (f32.mono Hv.none) rfl (show ([] ++ [] : List Value).length = 0 * rIneq.sz by simp) q22 q23 q18 q19 q20 ?_)
  intro ob25 cap26 sp28 cs27 w33 hE29 hc30 (hL34 : vL w w33 [ob25] [zab ([] ++ (cs27 ++ sp28))]) hS36
  have K35 := ks w hS36
  refine zaf (zak (v := (osv ob25 0 x16.length cap26)) rfl ?_)
  refine zap (zbl ?_)
  obtain rfl := zag h
  refine ⟨[(osv ob25 0 x16.length cap26)], ⟨rfl, trivial⟩, ⟨_, rfl, hL34.done, ?_⟩⟩
  have f37 := (hE29.mono (K35 S))
  exact ⟨ob25, cap26, cs27, sp28, rfl, (hL34.newOwn [0] rfl rfl rfl), (f37.mono (Hv.pick [0] rfl)), hc30, trivial⟩
theorem clipIneq_w (N : Nat) (s : (List Ineq)) (s_v : Value) (w : World) (S : Nat → Prop) (s_h : Rs rIneq (vH w S [] w) s_v s) (r : (List Ineq)) (h : clipIneq N s = some r) :
  Calls Try.prog 59 #[s_v] w (Ret w (fun v w' => ∃ (v0_0 : Value), v0_0 = v ∧ Rs rIneq (vH w S [] w') v0_0 r ∧ Clipped v0_0 ∧ True)) := by
 unfold clipIneq at h
 have hL : vL w w [] [] := Go.X.Loc.begin0 w
 refine calls_of (l := [s_v]) (rl := [.tmp 2]) (n := 9) Try.func59 rfl rfl rfl (zae rfl) ?_
 refine zaj (zah rfl (zaf (zak (v := (zad none 0 0)) rfl ?_)))
 refine zap (zaj (zah rfl (zaf (zai (v := s_v) rfl ?_))))
 refine zaf (zai (v := s_v) rfl ?_)
 refine zaf (zbf (v := s_v) zbm rfl s_h ?_)
 refine zaf (zai (v := s_v) rfl ?_)
 refine zaf (zbf (v := s_v) zbm rfl s_h ?_)
 refine zaf (OpY.clipRo (n := List.length s) zbm ti34 rfl s_h rfl rfl rfl rfl ?_)
 intro v1 k2 cl3
 refine zaf (zak (v := v1) rfl ?_)
 refine zap (zbl ?_)
 obtain rfl := zag h
 refine ⟨[v1], ⟨rfl, trivial⟩, ⟨_, rfl, hL.done, ?_⟩⟩
 exact ⟨v1, rfl, (k2.mono zdf), cl3, trivial⟩
theorem indexIneq_w (N : Nat) (s : (List Ineq)) (f : (Ineq → Option Bool)) (s_v : Value) (f_v : Value) (w : World) (S : Nat → Prop) (s_h : Rs rIneq (vH w S [] w) s_v s) (f_h : ∀ w' : World, Ext w w' → ∀ (xa_ : Ineq) (vaa_ vab_ : Value), Rs rBig (Hv w'.heap.size Any [] w') vaa_ xa_.Coefs → Rs (rInt .u32) (Hv w'.heap.size Any [] w') vab_ xa_.Bound.Digits → ∀ z, f xa_ = some z → FunOk Try.prog f_v [(zan #[vaa_, (zaa xa_.Bound.Negative), vab_])] w' (fun v w'' => zaa z = v ∧ True)) (r : Int) (h : indexIneq N s f = some r) :
  Calls Try.prog 80 #[s_v, f_v] w (Ret w (fun v w' => (zac .i64 r) = v ∧ True)) := by
 unfold indexIneq at h
 have hL : vL w w [] [] := Go.X.Loc.begin0 w
 refine calls_of (l := [s_v, f_v]) (rl := [.tmp 4]) (n := 19) Try.func80 rfl rfl rfl (zae rfl) ?_
 refine zaj (zah rfl (zaf (zak (v := (zac .i64 0)) rfl ?_)))
 refine zap (zaj (zaj (zah rfl (zaf (zai (v := s_v) rfl ?_)))))
 refine zaf (zbf (v := s_v) zbm rfl s_h ?_)
 refine zaf (zai (v := (zac .i64 0)) rfl ?_)
 refine zap ?_
 obtain ⟨s63, hl65, g64⟩ := bind_some h
 refine zbr (fun e w' => ∃  (u : Env), (Sum.inl ()) = s63 ∧ e = upds [] u ∧ vL w w' [] [] ∧ Keep w.heap.size [] w [] w' ∧ True) ?_ ?_
 ·
  refine zbj ?_
  refine zcg hl65 (fun (ss : Int) (e : Env) (w' : World) => match ss with | x62 => ∃ (u : Env), e = upds [(0, s_v), (1, f_v), (7, (zac .i64 (s.length : Int))), (8, (zac .i64 x62))] u ∧ vL w w' [] [] ∧ Keep w.heap.size [] w [] w' ∧ True) ⟨_, (upds_sym ⟨rfl, rfl, rfl, rfl, trivial⟩), hL, zbo, trivial⟩ ?_
  rintro x62 oo _ w67 ⟨u, rfl, hL68, K69, -⟩ h hd66
  rw [indexIneq_b1] at h
  refine zaj (zah rfl (zaf (zcr (x := x62) (y := (s.length : Int)) ((x62 : Int) < (s.length : Int)) rfl rfl zbk ?_)))
  refine zap (zaj ?_)
  refine zbe ((x62 : Int) < (s.length : Int)) rfl (fun hc70 => ?_) (fun hc70 => ?_)
  ·
   replace h := ite_t hc70 h
   refine zbg (zaj (zbj (zaj (zah rfl (zaf (zai (v := (zac .i64 x62)) rfl ?_))))))
   refine zaf (zak (v := (zac .i64 x62)) rfl ?_)
   refine zap (zaj (zah rfl (zaf (zai (v := f_v) rfl ?_))))
   refine zaf (zai (v := s_v) rfl ?_)
   refine zaf (zai (v := (zac .i64 x62)) rfl ?_)
   obtain ⟨x71, q72, h⟩ := bind_some h
   obtain ⟨n73, q74, q75⟩ := idx_some q72
   have f88 := (s_h.mono (K69 S))
   obtain ⟨b76, o77, c78, vs79, q80, q81, f82, q83⟩ := zcz f88 q75
   obtain ⟨v84, v86, rfl, k85, k87, -⟩ := rIneq_open q83
   refine zaf (zbv (r := rIneq) (v := s_v) (n := n73) (m := (o77 + n73 * rIneq.sz)) zbm ti34 rfl q80 rfl q74 q75 rfl ?_)
   refine zaf (zdi (vs := [v84, (zaa x71.Bound.Negative), v86]) zba rfl ti34 rfl rfl vw_view f82 ?_)
   obtain ⟨r89, q90, h⟩ := bind_some h
   refine zaf (OpY.callF rfl rfl (f_h _ hL68.done x71 v84 v86 (k85.mono vw_any) (k87.mono vw_any) r89 q90) ?_)
   rintro _ w92 hE95 ⟨rfl, -⟩
   have hL93 := hL68.ext hE95
   have K94 := ke hL68 hE95
   refine zap ?_
   refine zcu r89 rfl (fun hc96 => ?_) (fun hc96 => ?_)
   ·
    replace h := ite_t hc96 h
    refine zaj (zah rfl (zaf (zai (v := (zac .i64 x62)) rfl ?_)))
    refine zaf (zak (v := (zac .i64 x62)) rfl ?_)
    refine zap (zbl ?_)
    obtain rfl := zag h
    obtain rfl := hd66 _ rfl
    replace h := g64
    try dsimp only at h
    obtain rfl := zag h
    refine ⟨[(zac .i64 x62)], ⟨rfl, trivial⟩, ⟨_, rfl, hL93.done, ?_⟩⟩
    exact ⟨rfl, trivial⟩
   ·
    replace h := ite_f hc96 h
    refine zbg (zbs (zah rfl (zaf (zcd (x := x62) (y := 1) (z := (iw (x62 + 1))) rfl rfl rfl ?_))))
    refine zaf (zai (v := (zac .i64 (iw (x62 + 1)))) rfl ?_)
    refine zap ?_
    obtain rfl := zag h
    refine zas ⟨(iw (x62 + 1)), rfl, ?_⟩
    exact ⟨_, (upds_sym ⟨rfl, rfl, rfl, rfl, trivial⟩), hL93, (zaq K69 K94), trivial⟩
  ·
   replace h := ite_f hc70 h
   refine zcs rfl ?_
   obtain rfl := zag h
   obtain rfl := hd66 _ rfl
   replace h := g64
   try dsimp only at h
   skip
   refine zas ?_
   exact ⟨_, rfl, (upds_sym trivial), hL68, K69, trivial⟩
 ·
  rintro _ w97 ⟨u, rfl, rfl, hL98, K99, -⟩
  replace h := g64
  try dsimp only at h
  refine zaj (zah rfl (zaf (zak (v := (zac .i64 (-1))) rfl ?_)))
  refine zap (zbl ?_)
  obtain rfl := zag h
  refine ⟨[(zac .i64 (-1))], ⟨rfl, trivial⟩, ⟨_, rfl, hL98.done, ?_⟩⟩
  exact ⟨rfl, trivial⟩
theorem containsIneq_w (N : Nat) (s : (List Ineq)) (f : (Ineq → Option Bool)) (s_v : Value) (f_v : Value) (w : World) (S : Nat → Prop) (s_h : Rs rIneq (vH w S [] w) s_v s) (f_h : ∀ w' : World, Ext w w' → ∀ (xa_ : Ineq) (vaa_ vab_ : Value), Rs rBig (Hv w'.heap.size Any [] w') vaa_ xa_.Coefs → Rs (rInt .u32) (Hv w'.heap.size Any [] w') vab_ xa_.Bound.Digits → ∀ z, f xa_ = some z → FunOk Try.prog f_v [(zan #[vaa_, (zaa xa_.Bound.Negative), vab_])] w' (fun v w'' => zaa z = v ∧ True)) (r : Bool) (h : containsIneq N s f = some r) :
  Calls Try.prog 54 #[s_v, f_v] w (Ret w (fun v w' => (zaa r) = v ∧ True)) := by
 unfold containsIneq at h
 have hL : vL w w [] [] := Go.X.Loc.begin0 w
 refine calls_of (l := [s_v, f_v]) (rl := [.tmp 4]) (n := 9) Try.func54 rfl rfl rfl (zae rfl) ?_
 refine zaj (zah rfl (zaf (zak (v := (zaa false)) rfl ?_)))
 refine zap (zaj (zah rfl (zaf (zai (v := s_v) rfl ?_))))
 refine zaf (zai (v := f_v) rfl ?_)
 obtain ⟨r1, q2, h⟩ := bind_some h
 refine zaf (zaw en80 rfl rfl (indexIneq_w N s f s_v f_v _ Any (s_h.mono vw_any) (fun w9 hE9 => f_h w9 (hL.done.trans hE9)) r1 q2) ?_)
 rintro _ w4 hE7 ⟨rfl, -⟩
 have hL5 := hL.ext hE7
 refine zaf (OpY.geq (x := r1) (y := 0) ((r1 : Int) ≥ 0) rfl rfl zbk ?_)
 refine zaf (zak (v := (zaa (decide ((r1 : Int) ≥ 0)))) rfl ?_)
 refine zap (zbl ?_)
 obtain rfl := zag h
 refine ⟨[(zaa (decide ((r1 : Int) ≥ 0)))], ⟨rfl, trivial⟩, ⟨_, rfl, hL5.done, ?_⟩⟩
 exact ⟨rfl, trivial⟩
theorem width1_w (N : Nat) (q : Ineq) (ca : Int) (q_v : Value) (q_v1 : Value) (ca_b : Nat) (w : World) (S : Nat → Prop) (q_h : Rs rBig (vH w S [] w) q_v q.Coefs) (q_h1 : Rs (rInt .u32) (vH w S [] w) q_v1 q.Bound.Digits) (ca_at : At (vH w S [] w) ca_b 0 [(zac .i64 ca)]) (r : Bool) (h : width1 N q ca = some r) :
  Calls Try.prog 72 #[(zan #[q_v, (zaa q.Bound.Negative), q_v1]), (zam (some ⟨ca_b, 0, none⟩))] w (Ret w (fun v w' => (zaa r) = v ∧ True)) := by
 unfold width1 at h
 have hL : vL w w [] [] := Go.X.Loc.begin0 w
 refine calls_of (l := [(zan #[q_v, (zaa q.Bound.Negative), q_v1]), (zam (some ⟨ca_b, 0, none⟩))]) (rl := [.tmp 3]) (n := 9) Try.func72 rfl rfl rfl (zae rfl) ?_
 refine zaj (zah rfl (zaf (zdc (cs := [q_v, (zaa q.Bound.Negative), q_v1]) rfl rfl hL ?_)))
 intro b1 w2 hL3 hS5
 have K4 := ks w hS5
 refine zaf (zak (v := (zaa false)) rfl ?_)
 refine zap (zaj (zah rfl (zaf (zar (q := 0) zba rfl ti32 rfl rfl rfl ?_))))
 refine zaf (zbb (v := q_v) zax rfl rfl (hL3.at 0 rfl rfl) rfl ?_)
 have f6 := (q_h.mono (K4 S))
 refine zaf (zbf (v := q_v) zax rfl f6 ?_)
 have f7 := (zcw (K4 S) ca_at)
 refine zaf (zck (v := (zac .i64 ca)) zbq rfl rfl vw_view f7 ?_)
 refine zaf (OpY.neq (x := (q.Coefs.length : Int)) (y := ca) (((q.Coefs.length : Int) : Int) ≠ ca) rfl rfl zbk ?_)
 refine zaf (zak (v := (zaa (decide (((q.Coefs.length : Int) : Int) ≠ ca)))) rfl ?_)
 refine zap (zbl ?_)
 obtain rfl := zag h
 refine ⟨[(zaa (decide (((q.Coefs.length : Int) : Int) ≠ ca)))], ⟨rfl, trivial⟩, ⟨_, rfl, hL3.done, ?_⟩⟩
 exact ⟨rfl, trivial⟩
theorem cwidth_w (N : Nat) (l : (List Ineq)) (l_v : Value) (w : World) (S : Nat → Prop) (l_h : Rs rIneq (vH w S [] w) l_v l) (r : (Int × Bool)) (h : cwidth N l = some r) :
  Calls Try.prog 44 #[l_v] w (Ret w (fun v w' => .tuple #[(zac .i64 r.1), (zaa r.2)] = v ∧ True)) := by
 unfold cwidth at h
 have hL : vL w w [] [] := Go.X.Loc.begin0 w
 refine calls_of (l := [l_v]) (rl := [.tmp 2, .tmp 3]) (n := 18) Try.func44 rfl rfl rfl (zae rfl) ?_
 refine zaj (zah rfl (zaf (zak (v := (zac .i64 0)) rfl ?_)))
 refine zaf (zak (v := (zaa false)) rfl ?_)
 refine zap (zaj (zaj (zah rfl (zaf (zai (v := l_v) rfl ?_)))))
 refine zaf (zbf (v := l_v) zbm rfl l_h ?_)
 refine zaf (OpY.eql (x := (l.length : Int)) (y := 0) (((l.length : Int) : Int) = 0) rfl rfl zbk ?_)
 refine zap ?_
 refine zbe (((l.length : Int) : Int) = 0) rfl (fun hc1 => ?_) (fun hc1 => ?_)
 ·
  replace h := ite_t hc1 h
  refine zaj (zah rfl (zaf (zak (v := (zac .i64 0)) rfl ?_)))
  refine zaf (zak (v := (zaa true)) rfl ?_)
  refine zap (zbl ?_)
  obtain rfl := zag h
  refine ⟨[(zac .i64 0), (zaa true)], ⟨rfl, rfl, trivial⟩, ⟨_, rfl, hL.done, ?_⟩⟩
  exact ⟨rfl, trivial⟩
 ·
  replace h := ite_f hc1 h
  refine zbg (zaj (zah rfl (zaf (zai (v := l_v) rfl ?_))))
  obtain ⟨x2, q3, h⟩ := bind_some h
  obtain ⟨n4, q5, q6⟩ := idx_some q3
  obtain ⟨b7, o8, c9, vs10, q11, q12, f13, q14⟩ := zcz l_h q6
  obtain ⟨v15, v17, rfl, k16, k18, -⟩ := rIneq_open q14
  refine zaf (zbv (r := rIneq) (v := l_v) (n := n4) (m := (o8 + n4 * rIneq.sz)) zbm ti34 rfl q11 rfl q5 q6 rfl ?_)
  have f19 := (f13.part (us := [v15]) 0 rfl)
  refine zaf (zar (q := (o8 + n4 * rIneq.sz) + 0) zba rfl ti32 rfl rfl rfl ?_)
  refine zaf (zck (v := v15) zax rfl rfl vw_view f19 ?_)
  refine zaf (zbf (v := v15) zax rfl k16 ?_)
  refine zaf (zbw (cs := [(zac .i64 0)]) ti3 rfl hL ?_)
  intro b20 w21 hL22 hS24
  have K23 := ks w hS24
  refine zcb (zbh (vs := [(zac .i64 (x2.Coefs.length : Int))]) ti3 rfl rfl rfl rfl (ones_cons rfl ones_nil) hL22 0 rfl rfl (zae rfl) ?_)
  intro w25 (hL26 : vL w w25 [some b20] [zab [(zac .i64 (x2.Coefs.length : Int))]]) hS28
  have K27 := ks w hS28
  refine zap (zaj ?_)
  obtain ⟨r30, q31, h⟩ := bind_some h
  refine zcc 6 [] [] (fun W1 => [.det (zac .i64 (x2.Coefs.length : Int)), .det l_v, .det (Value.func (.func 72) #[] #[(zam (some ⟨b20, 0, none⟩))]), .det (zaa r30), .det (zaa (!r30)), .det (zac .i64 (x2.Coefs.length : Int))]) mixed rfl rfl rfl (fun _ => rfl) (fun _ => rfl) ?_ ?_
  ·
   intro W1 _
   exact trivial
  ·
   intro w33 hE34
   have hL35 := hL26.ext hE34
   have K36 := ke hL26 hE34
   refine zau (fun _ hE39 => zat (zbb zbq rfl rfl ((hL35.ext hE39).at 0 rfl rfl) rfl (er rfl))) ?_
   refine zau (fun _ _ => zat (zai rfl (er rfl))) ?_
   refine zau (fun _ _ => zat (OpY.makeFunc (vs := [(zam (some ⟨b20, 0, none⟩))]) rfl (er rfl))) ?_
   refine DrH.det ?_ ?_
   ·
    rintro w55 Z56 hE57 hZ58 ⟨-⟩
    have hL59 := hL35.ext hE57
    have K60 := ke hL35 hE57
    refine zat (zaw en54 rfl rfl (containsIneq_w N l (fun y29 => width1 N y29 (x2.Coefs.length : Int)) l_v (Value.func (.func 72) #[] #[(zam (some ⟨b20, 0, none⟩))]) _ Any (((((l_h.mono (K23 S)).mono (K27 S)).mono (K36 S)).mono (K60 S)).mono vw_any) (fun w9 hE9 y61 v62 v64 k63 k65 z9 hz9 => ⟨72, [(zam (some ⟨b20, 0, none⟩))], rfl, en72, (width1_w N y61 (x2.Coefs.length : Int) v62 v64 b20 _ Any (k63.mono vw_any) (k65.mono vw_any) (own_any ((hL59.at 0 rfl rfl).ext hE9)) z9 hz9)⟩) r30 q31) ?_)
    rintro _ w66 hE67 ⟨rfl, -⟩
    exact ⟨hE67, rfl⟩
   refine zau (fun _ _ => zat (OpY.not rfl (er rfl))) ?_
   refine zau (fun _ _ => zat (zak rfl (er rfl))) ?_
   refine zcn ?_
   rintro w80 Z81 hE82 hZ83 ⟨-⟩ ap84
   have hB85 : ∀ b, some b ∈ ([] : List (Option Nat)) → w33.heap.size ≤ b ∧ ¬ Z81 b := by
    intro b hb; cases hb
   have hL86 := hL35.ext hE82
   refine zaf (zak (v := (zaa (!r30))) rfl ?_)
   refine zap (zbl ?_)
   obtain rfl := zag h
   refine ⟨[(zac .i64 (x2.Coefs.length : Int)), (zaa (!r30))], ⟨rfl, rfl, trivial⟩, ⟨_, rfl, hL86.done, ?_⟩⟩
   exact ⟨rfl, trivial⟩
theorem cApply_w (N : Nat) (l : (List Ineq)) (s : Step) (l_v : Value) (s_v : Value) (s_v1 : Value) (w : World) (S : Nat → Prop) (l_h : Rs rIneq (vH w S [] w) l_v l) (s_h : Rs rUse (vH w S [] w) s_v s.Uses) (s_h1 : Rs (rInt .u32) (vH w S [] w) s_v1 s.Divisor.Digits) (r : (Ineq × Bool)) (h : cApply N l s = some r) :
  Calls Try.prog 14 #[l_v, (zan #[s_v, (zaa s.Divisor.Negative), s_v1])] w (Ret w (fun v w' => ∃ (v0_0 : Value) (v0_1 : Value), .tuple #[(zan #[v0_0, (zaa r.1.Bound.Negative), v0_1]), (zaa r.2)] = v ∧ Rs rBig (vH w None [] w') v0_0 r.1.Coefs ∧ Rs (rInt .u32) (vH w None [] w') v0_1 r.1.Bound.Digits ∧ True)) := by
 unfold cApply at h
 have hL : vL w w [] [] := Go.X.Loc.begin0 w
 refine calls_of (l := [l_v, (zan #[s_v, (zaa s.Divisor.Negative), s_v1])]) (rl := [.cell 4 34, .tmp 5]) (n := 135) Try.func14 rfl rfl rfl (zae rfl) ?_
 refine zaj (zah rfl (zaf (zdc (cs := [s_v, (zaa s.Divisor.Negative), s_v1]) rfl rfl hL ?_)))
 intro b1 w2 hL3 hS5
 have K4 := ks w hS5
 refine zaf (zbw (cs := [(zad none 0 0), (zaa false), (zad none 0 0)]) ti34 rfl hL3 ?_)
 intro b6 w7 hL8 hS10
 have K9 := ks w hS10
 refine zaf (zak (v := (zaa false)) rfl ?_)
 refine zap (zaj (zah rfl (zaf (zai (v := l_v) rfl ?_))))
 obtain ⟨r11, q12, h⟩ := bind_some h
 have f14 := ((l_h.mono (K4 S)).mono (K9 S))
 refine zaf (zaw en44 rfl rfl (cwidth_w N l l_v _ Any (f14.mono vw_any) r11 q12) ?_)
 rintro _ w15 hE18 ⟨rfl, -⟩
 have hL16 := hL8.ext hE18
 have K17 := ke hL8 hE18
 refine zaf (zai (v := (Value.tuple #[(zac .i64 r11.1), (zaa r11.2)])) rfl ?_)
 refine zaf (zcf (vs := [(zac .i64 r11.1), (zaa r11.2)]) (v := (zac .i64 r11.1)) rfl rfl ?_)
 refine zaf (zcf (vs := [(zac .i64 r11.1), (zaa r11.2)]) (v := (zaa r11.2)) rfl rfl ?_)
 refine zaf (zak (v := (zac .i64 r11.1)) rfl ?_)
 refine zaf (zak (v := (zaa r11.2)) rfl ?_)
 refine zap (zaj (zaj ?_))
 obtain ⟨s31, h, g32⟩ := bind_some h
 refine zbr (fun e w' => ∃ (x30 : Bool) (u : Env), x30 = s31 ∧ e = upds [(0, l_v), (3, (zam (some ⟨b1, 0, none⟩))), (4, (zam (some ⟨b6, 0, none⟩))), (6, (zac .i64 r11.1)), (31, (zaa x30))] u ∧ vL w w' [some b1, some b6] [zab [s_v, (zaa s.Divisor.Negative), s_v1], zab [(zad none 0 0), (zaa false), (zad none 0 0)]] ∧ Keep w.heap.size [some b6, some b1] w15 [some b1, some b6] w' ∧ True) ?_ ?_
 ·
  refine zah rfl (zaf (zai (v := (zaa r11.2)) rfl ?_))
  refine zaf (OpY.not (x := r11.2) rfl ?_)
  refine zaf (zai (v := (zaa (!r11.2))) rfl ?_)
  by_cases hc33 : (!r11.2) = true
  ·
   replace h := ite_t hc33 h
   refine zbt rfl rfl hc33 ?_
   refine zbt rfl rfl hc33 ?_
   refine zbt rfl rfl hc33 ?_
   refine zbt rfl rfl hc33 ?_
   refine zaf (zcm (t := (!r11.2)) (v := (zaa true)) rfl hc33 rfl ?_)
   refine zap ?_
   have hp34 := hL16.pick [1, 0] rfl rfl rfl
   have hL36 : vL w w15 [some b1, some b6] [zab [s_v, (zaa s.Divisor.Negative), s_v1], zab [(zad none 0 0), (zaa false), (zad none 0 0)]] := hp34.1
   have K35 := ks w hp34.2
   obtain rfl := zag h
   refine zas ?_
   exact ⟨true, _, rfl, (upds_sym ⟨rfl, rfl, rfl, rfl, rfl, trivial⟩), hL36, K35, trivial⟩
  ·
   replace h := ite_f hc33 h
   refine zbu rfl rfl (eq_false_of_ne_true hc33) (zar (q := 1) zce rfl ti26 rfl rfl rfl ?_)
   refine zbu rfl rfl (eq_false_of_ne_true hc33) (zbd (vs := [(zaa s.Divisor.Negative), s_v1]) zal rfl ti26 rfl (hL16.at 1 rfl rfl) rfl rfl ?_)
   obtain ⟨r37, q38, h⟩ := bind_some h
   have f40 := (((s_h1.mono (K4 S)).mono (K9 S)).mono (K17 S))
   refine zbu rfl rfl (eq_false_of_ne_true hc33) (zaw en45 rfl rfl (bSign_w N s.Divisor s_v1 _ Any (f40.mono vw_any) r37 q38) ?_)
   rintro _ w41 hE44 ⟨rfl, -⟩
   have hL42 := hL16.ext hE44
   have K43 := ke hL16 hE44
   refine zbu rfl rfl (eq_false_of_ne_true hc33) (zcr (x := r37) (y := 1) ((r37 : Int) < 1) rfl rfl zbk ?_)
   refine zaf (zbz (t := (!r11.2)) (v := (zaa (decide ((r37 : Int) < 1)))) rfl (eq_false_of_ne_true hc33) rfl ?_)
   refine zap ?_
   have hp45 := hL42.pick [1, 0] rfl rfl rfl
   have hL47 : vL w w41 [some b1, some b6] [zab [s_v, (zaa s.Divisor.Negative), s_v1], zab [(zad none 0 0), (zaa false), (zad none 0 0)]] := hp45.1
   have K46 := ks w hp45.2
   obtain rfl := zag h
   refine zas ?_
   exact ⟨(decide ((r37 : Int) < 1)), _, rfl, (upds_sym ⟨rfl, rfl, rfl, rfl, rfl, trivial⟩), hL47, (zaq K43 K46), trivial⟩
 ·
  rintro _ w48 ⟨x30, u, rfl, rfl, hL49, K50, -⟩
  replace h := g32
  try dsimp only at h
  refine zcu x30 rfl (fun hc51 => ?_) (fun hc51 => ?_)
  ·
   replace h := ite_t hc51 h
   refine zaj (zah rfl (zaf (zcx (zc := [(zad none 0 0), (zaa false), (zad none 0 0)]) (cs := [(zad none 0 0), (zaa false), (zad none 0 0)]) (is := []) (vs := []) (css := []) pl34 ti34 rfl rfl rfl trivial rfl ?_)))
   refine zcb (zbh (vs := [(zad none 0 0), (zaa false), (zad none 0 0)]) ti34 rfl rfl rfl rfl (ones_cons rfl (ones_cons rfl (ones_cons rfl ones_nil))) hL49 1 rfl rfl (zae rfl) ?_)
   intro w52 (hL53 : vL w w52 [some b1, some b6] [zab [s_v, (zaa s.Divisor.Negative), s_v1], zab [(zad none 0 0), (zaa false), (zad none 0 0)]]) hS55
   refine zaf (zak (v := (zaa false)) rfl ?_)
   refine zap (zbl ?_)
   obtain rfl := zag h
   refine ⟨[(zan #[(zad none 0 0), (zaa false), (zad none 0 0)]), (zaa false)], ⟨⟨⟨b6, 0, none⟩, rfl, res_boxA zba rfl ti34 (hL53.at 1 rfl rfl) rfl⟩, ⟨rfl, trivial⟩⟩, ⟨_, rfl, hL53.done, ?_⟩⟩
   exact ⟨(zad none 0 0), (zad none 0 0), rfl, zdj, zdj, trivial⟩
  ·
   replace h := ite_f hc51 h
   refine zbg (zaj (zah rfl (zaf (zai (v := (zac .i64 r11.1)) rfl ?_))))
   obtain ⟨x57, q58, h⟩ := bind_some h
   obtain ⟨m56, q59, q60, q61, q62⟩ := mk1_some q58
   refine zaf (OpY.mkRowX (r := rBig) (H := (vH w None [some b1, some b6] w48)) (zc := [(zaa false), (zad none 0 0)]) (x := (Big.mk false [])) zax ti26 rfl (rBig_close ⟨(zad none 0 0), rfl, zdj, trivial⟩) rfl rfl q59 q60 q61 q62 hL49 ?_)
   intro b63 w68 cs64 hE65 hc66 hL69 hS71
   have K70 := ks w hS71
   refine zaf (zcx (zc := [(zad none 0 0), (zaa false), (zad none 0 0)]) (cs := [(osv (some b63) 0 x57.length m56), (zaa false), (zad none 0 0)]) (is := [0]) (vs := [(osv (some b63) 0 x57.length m56)]) (css := [[(osv (some b63) 0 x57.length m56)]]) pl34 ti34 rfl rfl rfl ⟨(one_cells (osv_one _ _ _ _)), trivial⟩ rfl ?_)
   refine zaf (zbw (cs := [(zad none 0 0), (zaa false), (zad none 0 0)]) ti34 rfl hL69 ?_)
   intro b72 w73 hL74 hS76
   have K75 := ks w hS76
   refine zcb (zbh (vs := [(osv (some b63) 0 x57.length m56), (zaa false), (zad none 0 0)]) ti34 rfl rfl rfl rfl (ones_cons (osv_one _ _ _ _) (ones_cons rfl (ones_cons rfl ones_nil))) hL74 0 rfl rfl (zae rfl) ?_)
   intro w77 (hL78 : vL w w77 [some b72, some b63, some b1, some b6] [zab [(osv (some b63) 0 x57.length m56), (zaa false), (zad none 0 0)], zab ([] ++ (cs64 ++ [])), zab [s_v, (zaa s.Divisor.Negative), s_v1], zab [(zad none 0 0), (zaa false), (zad none 0 0)]]) hS80
   have K79 := ks w hS80
   refine zap (zaj (zaj (zah rfl (zaf (zar (q := 0) zce rfl ti23 rfl rfl rfl ?_)))))
   refine zaf (zbb (v := s_v) zbx rfl rfl (hL78.at 2 rfl rfl) rfl ?_)
   have f81 := (((((((s_h.mono (K4 S)).mono (K9 S)).mono (K17 S)).mono (K50 S)).mono (K70 S)).mono (K75 S)).mono (K79 S))
   refine zaf (zbf (v := s_v) zbx rfl f81 ?_)
   refine zaf (zai (v := (zac .i64 0)) rfl ?_)
   refine zap ?_
   obtain ⟨s1616, hl1618, g1617⟩ := bind_some h
   refine zbr (fun e w' => ∃ (coefs1608 : (List Big)) (negative1612 : Bool) (digits1613 : (List Int)) (cs1607 : List Value) (v1614 : Value) (u : Env), (Sum.inl (coefs1608, negative1612, digits1613)) = s1616 ∧ e = upds [(3, (zam (some ⟨b1, 0, none⟩))), (4, (zam (some ⟨b6, 0, none⟩))), (8, (zam (some ⟨b72, 0, none⟩)))] u ∧ vL w w' [some b1, some b6, some b72, some b63] [zab [s_v, (zaa s.Divisor.Negative), s_v1], zab [(zad none 0 0), (zaa false), (zad none 0 0)], zab [(osv (some b63) 0 x57.length m56), (zaa negative1612), v1614], zab ([] ++ (cs1607 ++ []))] ∧ Keep w.heap.size [some b72, some b63, some b1, some b6] w77 [some b1, some b6, some b72, some b63] w' ∧ Els rBig (vH w None [some b1, some b6, some b72, some b63] w') cs1607 coefs1608 ∧ x57.length = List.length coefs1608 ∧ (cs1607 ++ []).length = m56 * rBig.sz ∧ Rs (rInt .u32) (vH w None [some b1, some b6, some b72, some b63] w') v1614 digits1613 ∧ True) ?_ ?_
   ·
    refine zbj ?_
    have hp1620 := hL78.pick [2, 3, 0, 1] rfl rfl rfl
    have hL1622 : vL w w77 [some b1, some b6, some b72, some b63] [zab [s_v, (zaa s.Divisor.Negative), s_v1], zab [(zad none 0 0), (zaa false), (zad none 0 0)], zab [(osv (some b63) 0 x57.length m56), (zaa false), (zad none 0 0)], zab ([] ++ (cs64 ++ []))] := hp1620.1
    have K1621 := ks w hp1620.2
    have f1623 := ((((hE65.mono (K70 None)).mono (K75 None)).mono (K79 None)).mono (K1621 None))
    refine zcg hl1618 (fun (ss : ((List Big) × Bool × (List Int) × Int)) (e : Env) (w' : World) => match ss with | (coefs1594, negative1598, digits1599, x1602) => ∃ (cs1593 : List Value) (v1600 : Value) (u : Env), e = upds [(0, l_v), (3, (zam (some ⟨b1, 0, none⟩))), (4, (zam (some ⟨b6, 0, none⟩))), (8, (zam (some ⟨b72, 0, none⟩))), (37, s_v), (38, (zac .i64 (s.Uses.length : Int))), (39, (zac .i64 x1602))] u ∧ vL w w' [some b1, some b6, some b72, some b63] [zab [s_v, (zaa s.Divisor.Negative), s_v1], zab [(zad none 0 0), (zaa false), (zad none 0 0)], zab [(osv (some b63) 0 x57.length m56), (zaa negative1598), v1600], zab ([] ++ (cs1593 ++ []))] ∧ Keep w.heap.size [some b72, some b63, some b1, some b6] w77 [some b1, some b6, some b72, some b63] w' ∧ Els rBig (vH w None [some b1, some b6, some b72, some b63] w') cs1593 coefs1594 ∧ x57.length = List.length coefs1594 ∧ (cs1593 ++ []).length = m56 * rBig.sz ∧ Rs (rInt .u32) (vH w None [some b1, some b6, some b72, some b63] w') v1600 digits1599 ∧ True) ⟨cs64, (zad none 0 0), _, (upds_sym ⟨rfl, rfl, rfl, rfl, rfl, rfl, rfl, trivial⟩), hL1622, K1621, f1623, rfl, hc66, zdj, trivial⟩ ?_
    rintro ⟨coefs1594, negative1598, digits1599, x1602⟩ oo _ w1624 ⟨cs1593, v1600, u, rfl, hL1625, K1626, hE1595, hl1597, hc1596, k1601, -⟩ h hd1619
    rw [cApply_b1] at h
    refine zaj (zah rfl (zaf (zcr (x := x1602) (y := (s.Uses.length : Int)) ((x1602 : Int) < (s.Uses.length : Int)) rfl rfl zbk ?_)))
    refine zap (zaj ?_)
    refine zbe ((x1602 : Int) < (s.Uses.length : Int)) rfl (fun hc1627 => ?_) (fun hc1627 => ?_)
    ·
     replace h := ite_t hc1627 h
     refine zbg (zaj (zbj (zaj (zah rfl ?_))))
     obtain ⟨x1628, q1629, h⟩ := bind_some h
     obtain ⟨n1630, q1631, q1632⟩ := idx_some q1629
     have f1643 := (f81.mono (K1626 S))
     obtain ⟨b1633, o1634, c1635, vs1636, q1637, q1638, f1639, q1640⟩ := zcz f1643 q1632
     obtain ⟨v1641, rfl, k1642, -⟩ := rUse_open q1640
     refine zaf (zbv (r := rUse) (v := s_v) (n := n1630) (m := (o1634 + n1630 * rUse.sz)) zbx ti50 rfl q1637 rfl q1631 q1632 rfl ?_)
     refine zaf (zdi (vs := [(zac .i64 x1628.Index), (zaa x1628.N.Negative), v1641]) zch rfl ti50 rfl rfl vw_view f1639 ?_)
     refine zaf (zbw (cs := [(zac .i64 0), (zaa false), (zad none 0 0)]) ti50 rfl hL1625 ?_)
     intro b1644 w1645 hL1646 hS1648
     have K1647 := ks w hS1648
     have f1649 := (k1642.mono (K1647 S))
     refine zcb (zbh (vs := [(zac .i64 x1628.Index), (zaa x1628.N.Negative), v1641]) ti50 rfl rfl rfl rfl (ones_cons rfl (ones_cons rfl (ones_cons f1649.one ones_nil))) hL1646 0 rfl rfl (zae rfl) ?_)
     intro w1650 (hL1651 : vL w w1650 [some b1644, some b1, some b6, some b72, some b63] [zab [(zac .i64 x1628.Index), (zaa x1628.N.Negative), v1641], zab [s_v, (zaa s.Divisor.Negative), s_v1], zab [(zad none 0 0), (zaa false), (zad none 0 0)], zab [(osv (some b63) 0 x57.length m56), (zaa negative1598), v1600], zab ([] ++ (cs1593 ++ []))]) hS1653
     have K1652 := ks w hS1653
     refine zap (zaj (zaj ?_))
     obtain ⟨s1671, h, g1672⟩ := bind_some h
     refine zbr (fun e w' => ∃ (x1670 : Bool) (u : Env), x1670 = s1671 ∧ e = upds [(0, l_v), (3, (zam (some ⟨b1, 0, none⟩))), (4, (zam (some ⟨b6, 0, none⟩))), (8, (zam (some ⟨b72, 0, none⟩))), (10, (zam (some ⟨b1644, 0, none⟩))), (37, s_v), (38, (zac .i64 (s.Uses.length : Int))), (39, (zac .i64 x1602)), (58, (zaa x1670))] u ∧ vL w w' [some b1, some b6, some b72, some b63, some b1644] [zab [s_v, (zaa s.Divisor.Negative), s_v1], zab [(zad none 0 0), (zaa false), (zad none 0 0)], zab [(osv (some b63) 0 x57.length m56), (zaa negative1598), v1600], zab ([] ++ (cs1593 ++ [])), zab [(zac .i64 x1628.Index), (zaa x1628.N.Negative), v1641]] ∧ Keep w.heap.size [some b1644, some b1, some b6, some b72, some b63] w1650 [some b1, some b6, some b72, some b63, some b1644] w' ∧ True) ?_ ?_
     ·
      refine zah rfl (zaf (zar (q := 0) zch rfl ti3 rfl rfl rfl ?_))
      refine zaf (zbb (v := (zac .i64 x1628.Index)) zbq rfl rfl (hL1651.at 0 rfl rfl) rfl ?_)
      refine zaf (zcr (x := x1628.Index) (y := 0) ((x1628.Index : Int) < 0) rfl rfl zbk ?_)
      refine zaf (zai (v := (zaa (decide ((x1628.Index : Int) < 0)))) rfl ?_)
      by_cases hc1673 : (x1628.Index : Int) < 0
      ·
       replace h := ite_t hc1673 h
       refine zbt rfl rfl (decide_eq_true hc1673) ?_
       refine zbt rfl rfl (decide_eq_true hc1673) ?_
       refine zbt rfl rfl (decide_eq_true hc1673) ?_
       refine zbt rfl rfl (decide_eq_true hc1673) ?_
       refine zbt rfl rfl (decide_eq_true hc1673) ?_
       refine zaf (zcm (t := (decide ((x1628.Index : Int) < 0))) (v := (zaa true)) rfl (decide_eq_true hc1673) rfl ?_)
       refine zaf (zai (v := (zaa true)) rfl ?_)
       refine zbt rfl rfl rfl ?_
       refine zbt rfl rfl rfl ?_
       refine zbt rfl rfl rfl ?_
       refine zbt rfl rfl rfl ?_
       refine zaf (zcm (t := true) (v := (zaa true)) rfl rfl rfl ?_)
       refine zap ?_
       have hp1674 := hL1651.pick [1, 2, 3, 4, 0] rfl rfl rfl
       have hL1676 : vL w w1650 [some b1, some b6, some b72, some b63, some b1644] [zab [s_v, (zaa s.Divisor.Negative), s_v1], zab [(zad none 0 0), (zaa false), (zad none 0 0)], zab [(osv (some b63) 0 x57.length m56), (zaa negative1598), v1600], zab ([] ++ (cs1593 ++ [])), zab [(zac .i64 x1628.Index), (zaa x1628.N.Negative), v1641]] := hp1674.1
       have K1675 := ks w hp1674.2
       obtain rfl := zag h
       refine zas ?_
       exact ⟨true, _, rfl, (upds_sym ⟨rfl, rfl, rfl, rfl, rfl, rfl, rfl, rfl, rfl, trivial⟩), hL1676, K1675, trivial⟩
      ·
       replace h := ite_f hc1673 h
       refine zbu rfl rfl (decide_eq_false hc1673) (zar (q := 0) zch rfl ti3 rfl rfl rfl ?_)
       refine zbu rfl rfl (decide_eq_false hc1673) (zbb (v := (zac .i64 x1628.Index)) zbq rfl rfl (hL1651.at 0 rfl rfl) rfl ?_)
       refine zbu rfl rfl (decide_eq_false hc1673) (zai (v := l_v) rfl ?_)
       have f1677 := ((((((((f14.mono (K17 S)).mono (K50 S)).mono (K70 S)).mono (K75 S)).mono (K79 S)).mono (K1626 S)).mono (K1647 S)).mono (K1652 S))
       refine zbu rfl rfl (decide_eq_false hc1673) (zbf (v := l_v) zbm rfl f1677 ?_)
       refine zbu rfl rfl (decide_eq_false hc1673) (OpY.geq (x := x1628.Index) (y := (l.length : Int)) ((x1628.Index : Int) ≥ (l.length : Int)) rfl rfl zbk ?_)
       refine zaf (zbz (t := (decide ((x1628.Index : Int) < 0))) (v := (zaa (decide ((x1628.Index : Int) ≥ (l.length : Int))))) rfl (decide_eq_false hc1673) rfl ?_)
       refine zaf (zai (v := (zaa (decide ((x1628.Index : Int) ≥ (l.length : Int))))) rfl ?_)
       by_cases hc1678 : (x1628.Index : Int) ≥ (l.length : Int)
       ·
        replace h := ite_t hc1678 h
        refine zbt rfl rfl (decide_eq_true hc1678) ?_
        refine zbt rfl rfl (decide_eq_true hc1678) ?_
        refine zbt rfl rfl (decide_eq_true hc1678) ?_
        refine zbt rfl rfl (decide_eq_true hc1678) ?_
        refine zaf (zcm (t := (decide ((x1628.Index : Int) ≥ (l.length : Int)))) (v := (zaa true)) rfl (decide_eq_true hc1678) rfl ?_)
        refine zap ?_
        have hp1679 := hL1651.pick [1, 2, 3, 4, 0] rfl rfl rfl
        have hL1681 : vL w w1650 [some b1, some b6, some b72, some b63, some b1644] [zab [s_v, (zaa s.Divisor.Negative), s_v1], zab [(zad none 0 0), (zaa false), (zad none 0 0)], zab [(osv (some b63) 0 x57.length m56), (zaa negative1598), v1600], zab ([] ++ (cs1593 ++ [])), zab [(zac .i64 x1628.Index), (zaa x1628.N.Negative), v1641]] := hp1679.1
        have K1680 := ks w hp1679.2
        obtain rfl := zag h
        refine zas ?_
        exact ⟨true, _, rfl, (upds_sym ⟨rfl, rfl, rfl, rfl, rfl, rfl, rfl, rfl, rfl, trivial⟩), hL1681, K1680, trivial⟩
       ·
        replace h := ite_f hc1678 h
        refine zbu rfl rfl (decide_eq_false hc1678) (zar (q := 1) zch rfl ti26 rfl rfl rfl ?_)
        refine zbu rfl rfl (decide_eq_false hc1678) (zbd (vs := [(zaa x1628.N.Negative), v1641]) zal rfl ti26 rfl (hL1651.at 0 rfl rfl) rfl rfl ?_)
        obtain ⟨r1682, q1683, h⟩ := bind_some h
        have f1685 := (f1649.mono (K1652 S))
        refine zbu rfl rfl (decide_eq_false hc1678) (zaw en45 rfl rfl (bSign_w N x1628.N v1641 _ Any (f1685.mono vw_any) r1682 q1683) ?_)
        rintro _ w1686 hE1689 ⟨rfl, -⟩
        have hL1687 := hL1651.ext hE1689
        have K1688 := ke hL1651 hE1689
        refine zbu rfl rfl (decide_eq_false hc1678) (zcr (x := r1682) (y := 0) ((r1682 : Int) < 0) rfl rfl zbk ?_)
        refine zaf (zbz (t := (decide ((x1628.Index : Int) ≥ (l.length : Int)))) (v := (zaa (decide ((r1682 : Int) < 0)))) rfl (decide_eq_false hc1678) rfl ?_)
        refine zap ?_
        have hp1690 := hL1687.pick [1, 2, 3, 4, 0] rfl rfl rfl
        have hL1692 : vL w w1686 [some b1, some b6, some b72, some b63, some b1644] [zab [s_v, (zaa s.Divisor.Negative), s_v1], zab [(zad none 0 0), (zaa false), (zad none 0 0)], zab [(osv (some b63) 0 x57.length m56), (zaa negative1598), v1600], zab ([] ++ (cs1593 ++ [])), zab [(zac .i64 x1628.Index), (zaa x1628.N.Negative), v1641]] := hp1690.1
        have K1691 := ks w hp1690.2
        obtain rfl := zag h
        refine zas ?_
        exact ⟨(decide ((r1682 : Int) < 0)), _, rfl, (upds_sym ⟨rfl, rfl, rfl, rfl, rfl, rfl, rfl, rfl, rfl, trivial⟩), hL1692, (zaq K1688 K1691), trivial⟩
     ·
      rintro _ w1693 ⟨x1670, u, rfl, rfl, hL1694, K1695, -⟩
      replace h := g1672
      try dsimp only at h
      refine zcu x1670 rfl (fun hc1696 => ?_) (fun hc1696 => ?_)
      ·
       replace h := ite_t hc1696 h
       refine zaj (zah rfl (zaf (zcx (zc := [(zad none 0 0), (zaa false), (zad none 0 0)]) (cs := [(zad none 0 0), (zaa false), (zad none 0 0)]) (is := []) (vs := []) (css := []) pl34 ti34 rfl rfl rfl trivial rfl ?_)))
       refine zcb (zbh (vs := [(zad none 0 0), (zaa false), (zad none 0 0)]) ti34 rfl rfl rfl rfl (ones_cons rfl (ones_cons rfl (ones_cons rfl ones_nil))) hL1694 1 rfl rfl (zae rfl) ?_)
       intro w1697 (hL1698 : vL w w1697 [some b1, some b6, some b72, some b63, some b1644] [zab [s_v, (zaa s.Divisor.Negative), s_v1], zab [(zad none 0 0), (zaa false), (zad none 0 0)], zab [(osv (some b63) 0 x57.length m56), (zaa negative1598), v1600], zab ([] ++ (cs1593 ++ [])), zab [(zac .i64 x1628.Index), (zaa x1628.N.Negative), v1641]]) hS1700
       refine zaf (zak (v := (zaa false)) rfl ?_)
       refine zap (zbl ?_)
       obtain rfl := zag h
       obtain rfl := hd1619 _ rfl
       replace h := g1617
       try dsimp only at h
       obtain rfl := zag h
       refine ⟨[(zan #[(zad none 0 0), (zaa false), (zad none 0 0)]), (zaa false)], ⟨⟨⟨b6, 0, none⟩, rfl, res_boxA zba rfl ti34 (hL1698.at 1 rfl rfl) rfl⟩, ⟨rfl, trivial⟩⟩, ⟨_, rfl, hL1698.done, ?_⟩⟩
       exact ⟨(zad none 0 0), (zad none 0 0), rfl, zdj, zdj, trivial⟩
      ·
       replace h := ite_f hc1696 h
       refine zbg (zaj (zah rfl (zaf (zai (v := l_v) rfl ?_))))
       refine zaf (zar (q := 0) zch rfl ti3 rfl rfl rfl ?_)
       refine zaf (zbb (v := (zac .i64 x1628.Index)) zbq rfl rfl (hL1694.at 4 rfl rfl) rfl ?_)
       obtain ⟨x1701, q1702, h⟩ := bind_some h
       obtain ⟨n1703, q1704, q1705⟩ := idx_some q1702
       have f1718 := (((((((((f14.mono (K17 S)).mono (K50 S)).mono (K70 S)).mono (K75 S)).mono (K79 S)).mono (K1626 S)).mono (K1647 S)).mono (K1652 S)).mono (K1695 S))
       obtain ⟨b1706, o1707, c1708, vs1709, q1710, q1711, f1712, q1713⟩ := zcz f1718 q1705
       obtain ⟨v1714, v1716, rfl, k1715, k1717, -⟩ := rIneq_open q1713
       refine zaf (zbv (r := rIneq) (v := l_v) (n := n1703) (m := (o1707 + n1703 * rIneq.sz)) zbm ti34 rfl q1710 rfl q1704 q1705 rfl ?_)
       refine zaf (zdi (vs := [v1714, (zaa x1701.Bound.Negative), v1716]) zba rfl ti34 rfl rfl vw_view f1712 ?_)
       refine zaf (zbw (cs := [(zad none 0 0), (zaa false), (zad none 0 0)]) ti34 rfl hL1694 ?_)
       intro b1719 w1720 hL1721 hS1723
       have K1722 := ks w hS1723
       have f1724 := (k1717.mono (K1722 S))
       have f1725 := (k1715.mono (K1722 S))
       refine zcb (zbh (vs := [v1714, (zaa x1701.Bound.Negative), v1716]) ti34 rfl rfl rfl rfl (ones_cons f1725.one (ones_cons rfl (ones_cons f1724.one ones_nil))) hL1721 0 rfl rfl (zae rfl) ?_)
       intro w1726 (hL1727 : vL w w1726 [some b1719, some b1, some b6, some b72, some b63, some b1644] [zab [v1714, (zaa x1701.Bound.Negative), v1716], zab [s_v, (zaa s.Divisor.Negative), s_v1], zab [(zad none 0 0), (zaa false), (zad none 0 0)], zab [(osv (some b63) 0 x57.length m56), (zaa negative1598), v1600], zab ([] ++ (cs1593 ++ [])), zab [(zac .i64 x1628.Index), (zaa x1628.N.Negative), v1641]]) hS1729
       have K1728 := ks w hS1729
       refine zap (zaj (zaj (zah rfl (zaf (zar (q := 0) zba rfl ti32 rfl rfl rfl ?_)))))
       refine zaf (zbb (v := v1714) zax rfl rfl (hL1727.at 0 rfl rfl) rfl ?_)
       have f1730 := (f1725.mono (K1728 S))
       refine zaf (zbf (v := v1714) zax rfl f1730 ?_)
       refine zaf (zai (v := (zac .i64 0)) rfl ?_)
       refine zap ?_
       obtain ⟨s2110, hl2112, g2111⟩ := bind_some h
       refine zbr (fun e w' => ∃ (coefs2104 : (List Big)) (cs2103 : List Value) (u : Env), coefs2104 = s2110 ∧ e = upds [(0, l_v), (3, (zam (some ⟨b1, 0, none⟩))), (4, (zam (some ⟨b6, 0, none⟩))), (8, (zam (some ⟨b72, 0, none⟩))), (10, (zam (some ⟨b1644, 0, none⟩))), (11, (zam (some ⟨b1719, 0, none⟩))), (37, s_v), (38, (zac .i64 (s.Uses.length : Int))), (39, (zac .i64 x1602))] u ∧ vL w w' [some b1, some b6, some b72, some b63, some b1644, some b1719] [zab [s_v, (zaa s.Divisor.Negative), s_v1], zab [(zad none 0 0), (zaa false), (zad none 0 0)], zab [(osv (some b63) 0 x57.length m56), (zaa negative1598), v1600], zab ([] ++ (cs2103 ++ [])), zab [(zac .i64 x1628.Index), (zaa x1628.N.Negative), v1641], zab [v1714, (zaa x1701.Bound.Negative), v1716]] ∧ Keep w.heap.size [some b1719, some b1, some b6, some b72, some b63, some b1644] w1726 [some b1, some b6, some b72, some b63, some b1644, some b1719] w' ∧ Els rBig (vH w None [some b1, some b6, some b72, some b63, some b1644, some b1719] w') cs2103 coefs2104 ∧ x57.length = List.length coefs2104 ∧ (cs2103 ++ []).length = m56 * rBig.sz ∧ True) ?_ ?_
       ·
        refine zbj ?_
        have hp2114 := hL1727.pick [1, 2, 3, 4, 5, 0] rfl rfl rfl
        have hL2116 : vL w w1726 [some b1, some b6, some b72, some b63, some b1644, some b1719] [zab [s_v, (zaa s.Divisor.Negative), s_v1], zab [(zad none 0 0), (zaa false), (zad none 0 0)], zab [(osv (some b63) 0 x57.length m56), (zaa negative1598), v1600], zab ([] ++ (cs1593 ++ [])), zab [(zac .i64 x1628.Index), (zaa x1628.N.Negative), v1641], zab [v1714, (zaa x1701.Bound.Negative), v1716]] := hp2114.1
        have K2115 := ks w hp2114.2
        have f2117 := ((((((hE1595.mono (K1647 None)).mono (K1652 None)).mono (K1695 None)).mono (K1722 None)).mono (K1728 None)).mono (K2115 None))
        refine zcg hl2112 (fun (ss : ((List Big) × Int)) (e : Env) (w' : World) => match ss with | (coefs2092, x2098) => ∃ (cs2091 : List Value) (u : Env), e = upds [(0, l_v), (3, (zam (some ⟨b1, 0, none⟩))), (4, (zam (some ⟨b6, 0, none⟩))), (8, (zam (some ⟨b72, 0, none⟩))), (10, (zam (some ⟨b1644, 0, none⟩))), (11, (zam (some ⟨b1719, 0, none⟩))), (37, s_v), (38, (zac .i64 (s.Uses.length : Int))), (39, (zac .i64 x1602)), (66, v1714), (67, (zac .i64 (x1701.Coefs.length : Int))), (68, (zac .i64 x2098))] u ∧ vL w w' [some b1, some b6, some b72, some b63, some b1644, some b1719] [zab [s_v, (zaa s.Divisor.Negative), s_v1], zab [(zad none 0 0), (zaa false), (zad none 0 0)], zab [(osv (some b63) 0 x57.length m56), (zaa negative1598), v1600], zab ([] ++ (cs2091 ++ [])), zab [(zac .i64 x1628.Index), (zaa x1628.N.Negative), v1641], zab [v1714, (zaa x1701.Bound.Negative), v1716]] ∧ Keep w.heap.size [some b1719, some b1, some b6, some b72, some b63, some b1644] w1726 [some b1, some b6, some b72, some b63, some b1644, some b1719] w' ∧ Els rBig (vH w None [some b1, some b6, some b72, some b63, some b1644, some b1719] w') cs2091 coefs2092 ∧ x57.length = List.length coefs2092 ∧ (cs2091 ++ []).length = m56 * rBig.sz ∧ True) ⟨cs1593, _, (upds_sym ⟨rfl, rfl, rfl, rfl, rfl, rfl, rfl, rfl, rfl, rfl, rfl, rfl, trivial⟩), hL2116, K2115, f2117, hl1597, hc1596, trivial⟩ ?_
        rintro ⟨coefs2092, x2098⟩ oo _ w2118 ⟨cs2091, u, rfl, hL2119, K2120, hE2093, hl2095, hc2094, -⟩ h hd2113
        rw [cApply_b2] at h
        refine zaj (zah rfl (zaf (zcr (x := x2098) (y := (x1701.Coefs.length : Int)) ((x2098 : Int) < (x1701.Coefs.length : Int)) rfl rfl zbk ?_)))
        refine zap (zaj ?_)
        refine zbe ((x2098 : Int) < (x1701.Coefs.length : Int)) rfl (fun hc2121 => ?_) (fun hc2121 => ?_)
        ·
         replace h := ite_t hc2121 h
         refine zbg (zaj (zbj (zaj (zah rfl (zaf (zai (v := (zac .i64 x2098)) rfl ?_))))))
         obtain ⟨x2122, q2123, h⟩ := bind_some h
         obtain ⟨n2124, q2125, q2126⟩ := idx_some q2123
         have f2137 := (f1730.mono (K2120 S))
         obtain ⟨b2127, o2128, c2129, vs2130, q2131, q2132, f2133, q2134⟩ := zcz f2137 q2126
         obtain ⟨v2135, rfl, k2136, -⟩ := rBig_open q2134
         refine zaf (zbv (r := rBig) (v := v1714) (n := n2124) (m := (o2128 + n2124 * rBig.sz)) zax ti26 rfl q2131 rfl q2125 q2126 rfl ?_)
         refine zaf (zdi (vs := [(zaa x2122.Negative), v2135]) zal rfl ti26 rfl rfl vw_view f2133 ?_)
         refine zaf (zbw (cs := [(zaa false), (zad none 0 0)]) ti26 rfl hL2119 ?_)
         intro b2138 w2139 hL2140 hS2142
         have K2141 := ks w hS2142
         refine zaf (zak (v := (zac .i64 x2098)) rfl ?_)
         have f2143 := (k2136.mono (K2141 S))
         refine zcb (zbh (vs := [(zaa x2122.Negative), v2135]) ti26 rfl rfl rfl rfl (ones_cons rfl (ones_cons f2143.one ones_nil)) hL2140 0 rfl rfl (zae rfl) ?_)
         intro w2144 (hL2145 : vL w w2144 [some b2138, some b1, some b6, some b72, some b63, some b1644, some b1719] [zab [(zaa x2122.Negative), v2135], zab [s_v, (zaa s.Divisor.Negative), s_v1], zab [(zad none 0 0), (zaa false), (zad none 0 0)], zab [(osv (some b63) 0 x57.length m56), (zaa negative1598), v1600], zab ([] ++ (cs2091 ++ [])), zab [(zac .i64 x1628.Index), (zaa x1628.N.Negative), v1641], zab [v1714, (zaa x1701.Bound.Negative), v1716]]) hS2147
         have K2146 := ks w hS2147
         refine zap ?_
         obtain ⟨x2148, q2149, h⟩ := bind_some h
         obtain ⟨n2150, q2151, q2152⟩ := idx_some q2149
         have q2153 := (List.getElem?_eq_some_iff.1 q2152).1
         have f2160 := ((hE2093.mono (K2141 None)).mono (K2146 None))
         obtain ⟨vs2156, q2157, q2158, q2159⟩ := row_elem (pre := []) (sp := []) f2160 q2152
         obtain ⟨v2154, rfl, k2155, -⟩ := rBig_open q2158
         obtain ⟨r2161, q2162, h⟩ := bind_some h
         obtain ⟨r2166, q2167, h⟩ := bind_some h
         refine zcc 13 [] [] (fun W1 => [.det (zam (some ⟨b72, 0, none⟩)), .det (osv (some b63) 0 x57.length m56), .det (zac .i64 x2098), .det (zam (some ⟨b72, 0, none⟩)), .det (osv (some b63) 0 x57.length m56), .det (zac .i64 x2098), .det (zam (some ⟨b63, (0 + n2150 * rBig.sz), none⟩)), .det (zan #[(zaa x2148.Negative), v2154]), .det (zam (some ⟨b1644, 1, none⟩)), .det (zan #[(zaa x1628.N.Negative), v1641]), .det (zan #[(zaa x2122.Negative), v2135]), .rel (fun v Z w' => ∃ v2163, (zan #[(zaa r2161.Negative), v2163]) = v ∧ Rs (rInt .u32) (vZ W1 w None [some b2138, some b1, some b6, some b72, some b63, some b1644, some b1719] Z w') v2163 r2161.Digits ∧ True) (fun _ => []), .rel (fun v Z w' => ∃ v2168, (zan #[(zaa r2166.Negative), v2168]) = v ∧ Rs (rInt .u32) (vZ W1 w None [some b2138, some b1, some b6, some b72, some b63, some b1644, some b1719] Z w') v2168 r2166.Digits ∧ True) (fun _ => [])]) mixed rfl rfl rfl (fun _ => rfl) (fun _ => rfl) ?_ ?_
         ·
          intro W1 _
          exact ⟨fun v Z Z' w w' hΦ hz _ _ hs => by obtain ⟨v2163, rfl, k2164, -⟩ := hΦ; exact ⟨v2163, rfl, (k2164.mono (zcl hz hs)), trivial⟩, ⟨fun v Z Z' w w' hΦ hz _ _ hs => by obtain ⟨v2168, rfl, k2169, -⟩ := hΦ; exact ⟨v2168, rfl, (k2169.mono (zcl hz hs)), trivial⟩, trivial⟩⟩
         ·
          intro w2171 hE2172
          have hL2173 := hL2145.ext hE2172
          have K2174 := ke hL2145 hE2172
          refine zau (fun _ _ => zat (zar zba rfl ti32 rfl rfl rfl (er rfl))) ?_
          refine zau (fun _ hE2183 => zat (zbb zax rfl rfl ((hL2173.ext hE2183).at 3 rfl rfl) rfl (er rfl))) ?_
          refine zau (fun _ _ => zat (zai rfl (er rfl))) ?_
          refine zau (fun _ _ => zat (zar zba rfl ti32 rfl rfl rfl (er rfl))) ?_
          refine zau (fun _ hE2201 => zat (zbb zax rfl rfl ((hL2173.ext hE2201).at 3 rfl rfl) rfl (er rfl))) ?_
          refine zau (fun _ _ => zat (zai rfl (er rfl))) ?_
          refine zau (fun _ _ => zat (zci (r := rBig) (b := b63) (o := 0) (n := n2150) (m := x57.length) (xs := coefs2092) (q := (0 + n2150 * rBig.sz)) zax ti26 rfl hl2095 rfl q2151 q2153 rfl (er rfl))) ?_
          refine zau (fun _ hE2219 => zat (zbd (vs := [(zaa x2148.Negative), v2154]) zal rfl ti26 rfl ((hL2173.ext hE2219).at 4 rfl rfl) rfl q2159 (er rfl))) ?_
          refine zau (fun _ _ => zat (zar zch rfl ti26 rfl rfl rfl (er rfl))) ?_
          refine zau (fun _ hE2231 => zat (zbd (vs := [(zaa x1628.N.Negative), v1641]) zal rfl ti26 rfl ((hL2173.ext hE2231).at 5 rfl rfl) rfl rfl (er rfl))) ?_
          refine zau (fun _ hE2237 => zat (zbd (vs := [(zaa x2122.Negative), v2135]) zal rfl ti26 rfl ((hL2173.ext hE2237).at 0 rfl rfl) rfl rfl (er rfl))) ?_
          refine zcq ?_ ?_
          ·
           rintro w2241 Z2242 hE2243 hZ2244 ⟨-⟩
           have K2246 := ke hL2173 hE2243
           refine zat (zaw en47 rfl rfl (bMul_w N x1628.N x2122 v1641 v2135 _ Any ((((((((((f1649.mono (K1652 S)).mono (K1695 S)).mono (K1722 S)).mono (K1728 S)).mono (K2120 S)).mono (K2141 S)).mono (K2146 S)).mono (K2174 S)).mono (K2246 S)).mono vw_any) ((((f2143.mono (K2146 S)).mono (K2174 S)).mono (K2246 S)).mono vw_any) r2161 q2162) ?_)
           rintro _ w2247 hE2248 ⟨v2163, rfl, k2164, -⟩
           exact zcj hE2248 hZ2244 zca (fun _ h => h) ⟨v2163, rfl, (k2164.mono zda), trivial⟩
          intro z11
          refine zcq ?_ ?_
          ·
           rintro w2249 Z2250 hE2251 hZ2252 ⟨⟨⟨v2163, rfl, k2164, -⟩, hB11⟩, -⟩
           have K2254 := ke hL2173 hE2251
           refine zat (zaw en46 rfl rfl (bAdd_w N x2148 r2161 v2154 v2163 _ Any (((k2155.mono (K2174 None)).mono (K2254 None)).mono vw_any) (k2164.mono vw_any) r2166 q2167) ?_)
           rintro _ w2255 hE2256 ⟨v2168, rfl, k2169, -⟩
           exact zcj hE2256 hZ2252 zca (fun _ h => h) ⟨v2168, rfl, (k2169.mono zda), trivial⟩
          intro z12
          refine zcn ?_
          rintro w2257 Z2258 hE2259 hZ2260 ⟨⟨⟨v2168, rfl, k2169, -⟩, hB12⟩, ⟨⟨v2163, rfl, k2164, -⟩, hB11⟩, -⟩ ap2261
          have hB2262 : ∀ b, some b ∈ ([] : List (Option Nat)) → w2171.heap.size ≤ b ∧ ¬ Z2258 b := by
           intro b hb; cases hb
          replace k2169 := k2169.mono (zcy hL2173 hZ2260 hB2262)
          replace k2164 := k2164.mono (zcy hL2173 hZ2260 hB2262)
          have hL2263 := hL2173.ext hE2259
          have K2264 := ke hL2173 hE2259
          obtain ⟨x2265, q2266, h⟩ := bind_some h
          obtain ⟨n2267, q2268, q2269⟩ := idx_some q2266
          have q2270 := (List.getElem?_eq_some_iff.1 q2269).1
          refine zaf (zci (r := rBig) (b := b63) (o := 0) (n := n2267) (m := x57.length) (xs := coefs2092) (q := (0 + n2267 * rBig.sz)) zax ti26 rfl hl2095 rfl q2268 q2270 rfl ?_)
          obtain ⟨x2271, q2272, h⟩ := bind_some h
          obtain ⟨n2273, q2274, q2275, q2276⟩ := upd1_some q2272
          obtain rfl := Int.ofNat_inj.1 (q2268.symm.trans q2274)
          have f2277 := ((f2160.mono (K2174 None)).mono (K2264 None))
          refine zcb (zdh (pre := []) (r := rBig) (vs := [(zaa r2166.Negative), v2168]) (a := r2166) ti26 rfl rfl rfl (rBig_close ⟨v2168, rfl, k2169, trivial⟩) hL2263 4 rfl rfl f2277 q2270 rfl q2276 ?_)
          have hl2285 : x57.length = List.length x2271 := by rw [q2276, List.length_set]; exact hl2095
          intro w2278 cs2282 (hL2279 : vL w w2278 [some b2138, some b1, some b6, some b72, some b63, some b1644, some b1719] [zab [(zaa x2122.Negative), v2135], zab [s_v, (zaa s.Divisor.Negative), s_v1], zab [(zad none 0 0), (zaa false), (zad none 0 0)], zab [(osv (some b63) 0 x57.length m56), (zaa negative1598), v1600], zab ([] ++ (cs2282 ++ [])), zab [(zac .i64 x1628.Index), (zaa x1628.N.Negative), v1641], zab [v1714, (zaa x1701.Bound.Negative), v1716]]) hS2281 hE2283 q2284
          have hc2286 : (cs2282 ++ []).length = m56 * rBig.sz := by have := hc2094; rw [List.length_append] at this ⊢; rw [q2284]; exact this
          have K2280 := ks w hS2281
          refine zap (zbs (zah rfl (zaf (zcd (x := x2098) (y := 1) (z := (iw (x2098 + 1))) rfl rfl rfl ?_))))
          refine zaf (zai (v := (zac .i64 (iw (x2098 + 1)))) rfl ?_)
          refine zap ?_
          have hp2287 := hL2279.pick [1, 2, 3, 4, 5, 6] rfl rfl rfl
          have hL2289 : vL w w2278 [some b1, some b6, some b72, some b63, some b1644, some b1719] [zab [s_v, (zaa s.Divisor.Negative), s_v1], zab [(zad none 0 0), (zaa false), (zad none 0 0)], zab [(osv (some b63) 0 x57.length m56), (zaa negative1598), v1600], zab ([] ++ (cs2282 ++ [])), zab [(zac .i64 x1628.Index), (zaa x1628.N.Negative), v1641], zab [v1714, (zaa x1701.Bound.Negative), v1716]] := hp2287.1
          have K2288 := ks w hp2287.2
          have f2290 := ((hE2283.mono (K2280 None)).mono (K2288 None))
          obtain rfl := zag h
          refine zas ⟨(x2271, (iw (x2098 + 1))), rfl, ?_⟩
          exact ⟨cs2282, _, (upds_sym ⟨rfl, rfl, rfl, rfl, rfl, rfl, rfl, rfl, rfl, rfl, rfl, rfl, trivial⟩), hL2289, (zaq (zaq (zaq (zaq (zaq (zaq K2120 K2141) K2146) K2174) K2264) K2280) K2288), f2290, hl2285, hc2286, trivial⟩
        ·
         replace h := ite_f hc2121 h
         refine zcs rfl ?_
         obtain rfl := zag h
         obtain rfl := hd2113 _ rfl
         replace h := g2111
         try dsimp only at h
         skip
         refine zas ?_
         exact ⟨coefs2092, cs2091, _, rfl, (upds_sym ⟨rfl, rfl, rfl, rfl, rfl, rfl, rfl, rfl, rfl, trivial⟩), hL2119, K2120, hE2093, hl2095, hc2094, trivial⟩
       ·
        rintro _ w2291 ⟨coefs2104, cs2103, u, rfl, rfl, hL2292, K2293, hE2105, hl2107, hc2106, -⟩
        replace h := g2111
        try dsimp only at h
        obtain ⟨r2294, q2295, h⟩ := bind_some h
        refine zcc 7 [] [] (fun W1 => [.det (zam (some ⟨b72, 1, none⟩)), .det (zan #[(zaa negative1598), v1600]), .det (zam (some ⟨b1644, 1, none⟩)), .det (zan #[(zaa x1628.N.Negative), v1641]), .det (zam (some ⟨b1719, 1, none⟩)), .det (zan #[(zaa x1701.Bound.Negative), v1716]), .rel (fun v Z w' => ∃ v2296, (zan #[(zaa r2294.Negative), v2296]) = v ∧ Rs (rInt .u32) (vZ W1 w None [some b1, some b6, some b72, some b63, some b1644, some b1719] Z w') v2296 r2294.Digits ∧ True) (fun _ => [])]) mixed rfl rfl rfl (fun _ => rfl) (fun _ => rfl) ?_ ?_
        ·
         intro W1 _
         exact ⟨fun v Z Z' w w' hΦ hz _ _ hs => by obtain ⟨v2296, rfl, k2297, -⟩ := hΦ; exact ⟨v2296, rfl, (k2297.mono (zcl hz hs)), trivial⟩, trivial⟩
        ·
         intro w2299 hE2300
         have hL2301 := hL2292.ext hE2300
         have K2302 := ke hL2292 hE2300
         refine zau (fun _ _ => zat (zar zba rfl ti26 rfl rfl rfl (er rfl))) ?_
         refine zau (fun _ hE2311 => zat (zbd (vs := [(zaa negative1598), v1600]) zal rfl ti26 rfl ((hL2301.ext hE2311).at 2 rfl rfl) rfl rfl (er rfl))) ?_
         refine zau (fun _ _ => zat (zar zch rfl ti26 rfl rfl rfl (er rfl))) ?_
         refine zau (fun _ hE2323 => zat (zbd (vs := [(zaa x1628.N.Negative), v1641]) zal rfl ti26 rfl ((hL2301.ext hE2323).at 4 rfl rfl) rfl rfl (er rfl))) ?_
         refine zau (fun _ _ => zat (zar zba rfl ti26 rfl rfl rfl (er rfl))) ?_
         refine zau (fun _ hE2335 => zat (zbd (vs := [(zaa x1701.Bound.Negative), v1716]) zal rfl ti26 rfl ((hL2301.ext hE2335).at 5 rfl rfl) rfl rfl (er rfl))) ?_
         refine zcq ?_ ?_
         ·
          rintro w2339 Z2340 hE2341 hZ2342 ⟨-⟩
          have K2344 := ke hL2301 hE2341
          refine zat (zaw en47 rfl rfl (bMul_w N x1628.N x1701.Bound v1641 v1716 _ Any ((((((((f1649.mono (K1652 S)).mono (K1695 S)).mono (K1722 S)).mono (K1728 S)).mono (K2293 S)).mono (K2302 S)).mono (K2344 S)).mono vw_any) (((((f1724.mono (K1728 S)).mono (K2293 S)).mono (K2302 S)).mono (K2344 S)).mono vw_any) r2294 q2295) ?_)
          rintro _ w2345 hE2346 ⟨v2296, rfl, k2297, -⟩
          exact zcj hE2346 hZ2342 zca (fun _ h => h) ⟨v2296, rfl, (k2297.mono zda), trivial⟩
         intro z6
         refine zcn ?_
         rintro w2347 Z2348 hE2349 hZ2350 ⟨⟨⟨v2296, rfl, k2297, -⟩, hB6⟩, -⟩ ap2351
         have hB2352 : ∀ b, some b ∈ ([] : List (Option Nat)) → w2299.heap.size ≤ b ∧ ¬ Z2348 b := by
          intro b hb; cases hb
         replace k2297 := k2297.mono (zcy hL2301 hZ2350 hB2352)
         have hL2353 := hL2301.ext hE2349
         have K2354 := ke hL2301 hE2349
         obtain ⟨r2355, q2356, h⟩ := bind_some h
         have f2360 := ((((((((k1601.mono (K1647 None)).mono (K1652 None)).mono (K1695 None)).mono (K1722 None)).mono (K1728 None)).mono (K2293 None)).mono (K2302 None)).mono (K2354 None))
         refine zaf (zaw en46 rfl rfl (bAdd_w N (Big.mk negative1598 digits1599) r2294 v1600 v2296 _ Any (f2360.mono vw_any) (k2297.mono vw_any) r2355 q2356) ?_)
         rintro _ w2361 hE2364 ⟨v2357, rfl, k2358, -⟩
         replace k2358 := k2358.mono (zbc (S := None) hL2353 [])
         have hL2362 := hL2353.ext hE2364
         have K2363 := ke hL2353 hE2364
         refine zaf (zar (q := 1) zba rfl ti26 rfl rfl rfl ?_)
         refine zcb (zbh (vs := [(zaa r2355.Negative), v2357]) ti26 rfl rfl rfl rfl (ones_cons rfl (ones_cons k2358.one ones_nil)) hL2362 2 rfl rfl (zae rfl) ?_)
         intro w2365 (hL2366 : vL w w2365 [some b1, some b6, some b72, some b63, some b1644, some b1719] [zab [s_v, (zaa s.Divisor.Negative), s_v1], zab [(zad none 0 0), (zaa false), (zad none 0 0)], zab [(osv (some b63) 0 x57.length m56), (zaa r2355.Negative), v2357], zab ([] ++ (cs2103 ++ [])), zab [(zac .i64 x1628.Index), (zaa x1628.N.Negative), v1641], zab [v1714, (zaa x1701.Bound.Negative), v1716]]) hS2368
         have K2367 := ks w hS2368
         refine zap (zbs (zah rfl (zaf (zcd (x := x1602) (y := 1) (z := (iw (x1602 + 1))) rfl rfl rfl ?_))))
         refine zaf (zai (v := (zac .i64 (iw (x1602 + 1)))) rfl ?_)
         refine zap ?_
         have hp2369 := hL2366.pick [0, 1, 2, 3] rfl rfl rfl
         have hL2371 : vL w w2365 [some b1, some b6, some b72, some b63] [zab [s_v, (zaa s.Divisor.Negative), s_v1], zab [(zad none 0 0), (zaa false), (zad none 0 0)], zab [(osv (some b63) 0 x57.length m56), (zaa r2355.Negative), v2357], zab ([] ++ (cs2103 ++ []))] := hp2369.1
         have K2370 := ks w hp2369.2
         have f2372 := (((((hE2105.mono (K2302 None)).mono (K2354 None)).mono (K2363 None)).mono (K2367 None)).mono (K2370 None))
         have f2373 := ((k2358.mono (K2367 None)).mono (K2370 None))
         obtain rfl := zag h
         refine zas ⟨(coefs2104, r2355.Negative, r2355.Digits, (iw (x1602 + 1))), rfl, ?_⟩
         exact ⟨cs2103, v2357, _, (upds_sym ⟨rfl, rfl, rfl, rfl, rfl, rfl, rfl, trivial⟩), hL2371, (zaq (zaq (zaq (zaq (zaq (zaq (zaq (zaq (zaq (zaq (zaq K1626 K1647) K1652) K1695) K1722) K1728) K2293) K2302) K2354) K2363) K2367) K2370), f2372, hl2107, hc2106, f2373, trivial⟩
    ·
     replace h := ite_f hc1627 h
     refine zcs rfl ?_
     obtain rfl := zag h
     obtain rfl := hd1619 _ rfl
     replace h := g1617
     try dsimp only at h
     skip
     refine zas ?_
     exact ⟨coefs1594, negative1598, digits1599, cs1593, v1600, _, rfl, (upds_sym ⟨rfl, rfl, rfl, trivial⟩), hL1625, K1626, hE1595, hl1597, hc1596, k1601, trivial⟩
   ·
    rintro _ w2374 ⟨coefs1608, negative1612, digits1613, cs1607, v1614, u, rfl, rfl, hL2375, K2376, hE1609, hl1611, hc1610, k1615, -⟩
    replace h := g1617
    try dsimp only at h
    refine zaj (zaj (zah rfl (zaf (zar (q := 0) zba rfl ti32 rfl rfl rfl ?_))))
    refine zaf (zbb (v := (osv (some b63) 0 x57.length m56)) zax rfl rfl (hL2375.at 2 rfl rfl) rfl ?_)
    refine zaf (OpY.lenRow (pre := []) (r := rBig) (xs := coefs1608) zax rfl (hL2375.at 3 rfl rfl) hE1609 rfl hl1611 ?_)
    refine zaf (zai (v := (zac .i64 0)) rfl ?_)
    refine zap ?_
    obtain ⟨s2601, hl2603, g2602⟩ := bind_some h
    refine zbr (fun e w' => ∃ (coefs2597 : (List Big)) (cs2596 : List Value) (u : Env), (Sum.inl coefs2597) = s2601 ∧ e = upds [(3, (zam (some ⟨b1, 0, none⟩))), (4, (zam (some ⟨b6, 0, none⟩))), (8, (zam (some ⟨b72, 0, none⟩)))] u ∧ vL w w' [some b1, some b6, some b72, some b63] [zab [s_v, (zaa s.Divisor.Negative), s_v1], zab [(zad none 0 0), (zaa false), (zad none 0 0)], zab [(osv (some b63) 0 x57.length m56), (zaa negative1612), v1614], zab ([] ++ (cs2596 ++ []))] ∧ Keep w.heap.size [some b1, some b6, some b72, some b63] w2374 [some b1, some b6, some b72, some b63] w' ∧ Els rBig (vH w None [some b1, some b6, some b72, some b63] w') cs2596 coefs2597 ∧ x57.length = List.length coefs2597 ∧ (cs2596 ++ []).length = m56 * rBig.sz ∧ True) ?_ ?_
    ·
     refine zbj ?_
     refine zcg hl2603 (fun (ss : ((List Big) × Int)) (e : Env) (w' : World) => match ss with | (coefs2587, x2591) => ∃ (cs2586 : List Value) (u : Env), e = upds [(3, (zam (some ⟨b1, 0, none⟩))), (4, (zam (some ⟨b6, 0, none⟩))), (8, (zam (some ⟨b72, 0, none⟩))), (99, (osv (some b63) 0 x57.length m56)), (100, (zac .i64 (coefs1608.length : Int))), (101, (zac .i64 x2591))] u ∧ vL w w' [some b1, some b6, some b72, some b63] [zab [s_v, (zaa s.Divisor.Negative), s_v1], zab [(zad none 0 0), (zaa false), (zad none 0 0)], zab [(osv (some b63) 0 x57.length m56), (zaa negative1612), v1614], zab ([] ++ (cs2586 ++ []))] ∧ Keep w.heap.size [some b1, some b6, some b72, some b63] w2374 [some b1, some b6, some b72, some b63] w' ∧ Els rBig (vH w None [some b1, some b6, some b72, some b63] w') cs2586 coefs2587 ∧ x57.length = List.length coefs2587 ∧ (cs2586 ++ []).length = m56 * rBig.sz ∧ True) ⟨cs1607, _, (upds_sym ⟨rfl, rfl, rfl, rfl, rfl, rfl, trivial⟩), hL2375, zbo, hE1609, hl1611, hc1610, trivial⟩ ?_
     rintro ⟨coefs2587, x2591⟩ oo _ w2605 ⟨cs2586, u, rfl, hL2606, K2607, hE2588, hl2590, hc2589, -⟩ h hd2604
     rw [cApply_b3] at h
     refine zaj (zah rfl (zaf (zcr (x := x2591) (y := (coefs1608.length : Int)) ((x2591 : Int) < (coefs1608.length : Int)) rfl rfl zbk ?_)))
     refine zap (zaj ?_)
     refine zbe ((x2591 : Int) < (coefs1608.length : Int)) rfl (fun hc2608 => ?_) (fun hc2608 => ?_)
     ·
      replace h := ite_t hc2608 h
      refine zbg (zaj (zbj (zaj (zah rfl (zaf (zai (v := (zac .i64 x2591)) rfl ?_))))))
      obtain ⟨x2609, q2610, h⟩ := bind_some h
      obtain ⟨n2611, q2612, q2613⟩ := idx_some q2610
      have q2614 := (List.getElem?_eq_some_iff.1 q2613).1
      refine zaf (zci (r := rBig) (b := b63) (o := 0) (n := n2611) (m := x57.length) (xs := coefs2587) (q := (0 + n2611 * rBig.sz)) zax ti26 rfl hl2590 rfl q2612 q2614 rfl ?_)
      obtain ⟨vs2617, q2618, q2619, q2620⟩ := row_elem (pre := []) (sp := []) hE2588 q2613
      obtain ⟨v2615, rfl, k2616, -⟩ := rBig_open q2619
      refine zaf (zbd (vs := [(zaa x2609.Negative), v2615]) zal rfl ti26 rfl (hL2606.at 3 rfl rfl) rfl q2620 ?_)
      refine zaf (zbw (cs := [(zaa false), (zad none 0 0)]) ti26 rfl hL2606 ?_)
      intro b2621 w2622 hL2623 hS2625
      have K2624 := ks w hS2625
      refine zaf (zak (v := (zac .i64 x2591)) rfl ?_)
      have f2626 := (k2616.mono (K2624 None))
      refine zcb (zbh (vs := [(zaa x2609.Negative), v2615]) ti26 rfl rfl rfl rfl (ones_cons rfl (ones_cons f2626.one ones_nil)) hL2623 0 rfl rfl (zae rfl) ?_)
      intro w2627 (hL2628 : vL w w2627 [some b2621, some b1, some b6, some b72, some b63] [zab [(zaa x2609.Negative), v2615], zab [s_v, (zaa s.Divisor.Negative), s_v1], zab [(zad none 0 0), (zaa false), (zad none 0 0)], zab [(osv (some b63) 0 x57.length m56), (zaa negative1612), v1614], zab ([] ++ (cs2586 ++ []))]) hS2630
      have K2629 := ks w hS2630
      refine zap (zaj (zah rfl (zaf (zbd (vs := [(zaa x2609.Negative), v2615]) zal rfl ti26 rfl (hL2628.at 0 rfl rfl) rfl rfl ?_))))
      refine zaf (zar (q := 1) zce rfl ti26 rfl rfl rfl ?_)
      refine zaf (zbd (vs := [(zaa s.Divisor.Negative), s_v1]) zal rfl ti26 rfl (hL2628.at 1 rfl rfl) rfl rfl ?_)
      obtain ⟨r2631, q2632, h⟩ := bind_some h
      have f2638 := (f2626.mono (K2629 None))
      have f2639 := (((((((((((s_h1.mono (K4 S)).mono (K9 S)).mono (K17 S)).mono (K50 S)).mono (K70 S)).mono (K75 S)).mono (K79 S)).mono (K2376 S)).mono (K2607 S)).mono (K2624 S)).mono (K2629 S))
      refine zaf (zaw en48 rfl rfl (bDivFloor_w N x2609 s.Divisor v2615 s_v1 _ Any (f2638.mono vw_any) (f2639.mono vw_any) r2631 q2632) ?_)
      rintro _ w2640 hE2643 ⟨v2633, v2635, rfl, k2634, k2636, -⟩
      replace k2634 := k2634.mono (zbc (S := None) hL2628 [])
      replace k2636 := k2636.mono (zbc (S := None) hL2628 [])
      have hL2641 := hL2628.ext hE2643
      have K2642 := ke hL2628 hE2643
      refine zaf (zai (v := (Value.tuple #[(zan #[(zaa r2631.1.Negative), v2633]), (zan #[(zaa r2631.2.1.Negative), v2635]), (zaa r2631.2.2)])) rfl ?_)
      refine zaf (zcf (vs := [(zan #[(zaa r2631.1.Negative), v2633]), (zan #[(zaa r2631.2.1.Negative), v2635]), (zaa r2631.2.2)]) (v := (zan #[(zaa r2631.1.Negative), v2633])) rfl rfl ?_)
      refine zaf (zcf (vs := [(zan #[(zaa r2631.1.Negative), v2633]), (zan #[(zaa r2631.2.1.Negative), v2635]), (zaa r2631.2.2)]) (v := (zan #[(zaa r2631.2.1.Negative), v2635])) rfl rfl ?_)
      refine zaf (zcf (vs := [(zan #[(zaa r2631.1.Negative), v2633]), (zan #[(zaa r2631.2.1.Negative), v2635]), (zaa r2631.2.2)]) (v := (zaa r2631.2.2)) rfl rfl ?_)
      refine zaf (zbw (cs := [(zaa false), (zad none 0 0)]) ti26 rfl hL2641 ?_)
      intro b2644 w2645 hL2646 hS2648
      have K2647 := ks w hS2648
      refine zaf (zbw (cs := [(zaa false), (zad none 0 0)]) ti26 rfl hL2646 ?_)
      intro b2649 w2650 hL2651 hS2653
      have K2652 := ks w hS2653
      have f2654 := ((k2634.mono (K2647 None)).mono (K2652 None))
      refine zcb (zbh (vs := [(zaa r2631.1.Negative), v2633]) ti26 rfl rfl rfl rfl (ones_cons rfl (ones_cons f2654.one ones_nil)) hL2651 1 rfl rfl (zae rfl) ?_)
      intro w2655 (hL2656 : vL w w2655 [some b2649, some b2644, some b2621, some b1, some b6, some b72, some b63] [zab [(zaa false), (zad none 0 0)], zab [(zaa r2631.1.Negative), v2633], zab [(zaa x2609.Negative), v2615], zab [s_v, (zaa s.Divisor.Negative), s_v1], zab [(zad none 0 0), (zaa false), (zad none 0 0)], zab [(osv (some b63) 0 x57.length m56), (zaa negative1612), v1614], zab ([] ++ (cs2586 ++ []))]) hS2658
      have K2657 := ks w hS2658
      have f2659 := (((k2636.mono (K2647 None)).mono (K2652 None)).mono (K2657 None))
      refine zcb (zbh (vs := [(zaa r2631.2.1.Negative), v2635]) ti26 rfl rfl rfl rfl (ones_cons rfl (ones_cons f2659.one ones_nil)) hL2656 0 rfl rfl (zae rfl) ?_)
      intro w2660 (hL2661 : vL w w2660 [some b2649, some b2644, some b2621, some b1, some b6, some b72, some b63] [zab [(zaa r2631.2.1.Negative), v2635], zab [(zaa r2631.1.Negative), v2633], zab [(zaa x2609.Negative), v2615], zab [s_v, (zaa s.Divisor.Negative), s_v1], zab [(zad none 0 0), (zaa false), (zad none 0 0)], zab [(osv (some b63) 0 x57.length m56), (zaa negative1612), v1614], zab ([] ++ (cs2586 ++ []))]) hS2663
      have K2662 := ks w hS2663
      refine zaf (zak (v := (zaa r2631.2.2)) rfl ?_)
      refine zap (zaj (zaj (zah rfl (zaf (zbd (vs := [(zaa r2631.2.1.Negative), v2635]) zal rfl ti26 rfl (hL2661.at 0 rfl rfl) rfl rfl ?_)))))
      obtain ⟨r2664, q2665, h⟩ := bind_some h
      have f2667 := (f2659.mono (K2662 None))
      refine zaf (zaw en45 rfl rfl (bSign_w N r2631.2.1 v2635 _ Any (f2667.mono vw_any) r2664 q2665) ?_)
      rintro _ w2668 hE2671 ⟨rfl, -⟩
      have hL2669 := hL2661.ext hE2671
      have K2670 := ke hL2661 hE2671
      refine zaf (OpY.neq (x := r2664) (y := 0) ((r2664 : Int) ≠ 0) rfl rfl zbk ?_)
      refine zap ?_
      refine zbe ((r2664 : Int) ≠ 0) rfl (fun hc2672 => ?_) (fun hc2672 => ?_)
      ·
       replace h := ite_t hc2672 h
       refine zaj (zah rfl (zaf (zcx (zc := [(zad none 0 0), (zaa false), (zad none 0 0)]) (cs := [(zad none 0 0), (zaa false), (zad none 0 0)]) (is := []) (vs := []) (css := []) pl34 ti34 rfl rfl rfl trivial rfl ?_)))
       refine zcb (zbh (vs := [(zad none 0 0), (zaa false), (zad none 0 0)]) ti34 rfl rfl rfl rfl (ones_cons rfl (ones_cons rfl (ones_cons rfl ones_nil))) hL2669 4 rfl rfl (zae rfl) ?_)
       intro w2673 (hL2674 : vL w w2673 [some b2649, some b2644, some b2621, some b1, some b6, some b72, some b63] [zab [(zaa r2631.2.1.Negative), v2635], zab [(zaa r2631.1.Negative), v2633], zab [(zaa x2609.Negative), v2615], zab [s_v, (zaa s.Divisor.Negative), s_v1], zab [(zad none 0 0), (zaa false), (zad none 0 0)], zab [(osv (some b63) 0 x57.length m56), (zaa negative1612), v1614], zab ([] ++ (cs2586 ++ []))]) hS2676
       refine zaf (zak (v := (zaa false)) rfl ?_)
       refine zap (zbl ?_)
       obtain rfl := zag h
       obtain rfl := hd2604 _ rfl
       replace h := g2602
       try dsimp only at h
       obtain rfl := zag h
       refine ⟨[(zan #[(zad none 0 0), (zaa false), (zad none 0 0)]), (zaa false)], ⟨⟨⟨b6, 0, none⟩, rfl, res_boxA zba rfl ti34 (hL2674.at 4 rfl rfl) rfl⟩, ⟨rfl, trivial⟩⟩, ⟨_, rfl, hL2674.done, ?_⟩⟩
       exact ⟨(zad none 0 0), (zad none 0 0), rfl, zdj, zdj, trivial⟩
      ·
       replace h := ite_f hc2672 h
       refine zbg (zah rfl (zaf (zar (q := 0) zba rfl ti32 rfl rfl rfl ?_)))
       refine zaf (zbb (v := (osv (some b63) 0 x57.length m56)) zax rfl rfl (hL2669.at 5 rfl rfl) rfl ?_)
       refine zaf (zai (v := (zac .i64 x2591)) rfl ?_)
       refine zaf (zbd (vs := [(zaa r2631.1.Negative), v2633]) zal rfl ti26 rfl (hL2669.at 1 rfl rfl) rfl rfl ?_)
       obtain ⟨x2677, q2678, h⟩ := bind_some h
       obtain ⟨n2679, q2680, q2681⟩ := idx_some q2678
       have q2682 := (List.getElem?_eq_some_iff.1 q2681).1
       refine zaf (zci (r := rBig) (b := b63) (o := 0) (n := n2679) (m := x57.length) (xs := coefs2587) (q := (0 + n2679 * rBig.sz)) zax ti26 rfl hl2590 rfl q2680 q2682 rfl ?_)
       obtain ⟨x2683, q2684, h⟩ := bind_some h
       obtain ⟨n2685, q2686, q2687, q2688⟩ := upd1_some q2684
       obtain rfl := Int.ofNat_inj.1 (q2680.symm.trans q2686)
       have f2689 := ((((((((hE2588.mono (K2624 None)).mono (K2629 None)).mono (K2642 None)).mono (K2647 None)).mono (K2652 None)).mono (K2657 None)).mono (K2662 None)).mono (K2670 None))
       have f2690 := (((f2654.mono (K2657 None)).mono (K2662 None)).mono (K2670 None))
       refine zcb (zdh (pre := []) (r := rBig) (vs := [(zaa r2631.1.Negative), v2633]) (a := r2631.1) ti26 rfl rfl rfl (rBig_close ⟨v2633, rfl, f2690, trivial⟩) hL2669 6 rfl rfl f2689 q2682 rfl q2688 ?_)
       have hl2698 : x57.length = List.length x2683 := by rw [q2688, List.length_set]; exact hl2590
       intro w2691 cs2695 (hL2692 : vL w w2691 [some b2649, some b2644, some b2621, some b1, some b6, some b72, some b63] [zab [(zaa r2631.2.1.Negative), v2635], zab [(zaa r2631.1.Negative), v2633], zab [(zaa x2609.Negative), v2615], zab [s_v, (zaa s.Divisor.Negative), s_v1], zab [(zad none 0 0), (zaa false), (zad none 0 0)], zab [(osv (some b63) 0 x57.length m56), (zaa negative1612), v1614], zab ([] ++ (cs2695 ++ []))]) hS2694 hE2696 q2697
       have hc2699 : (cs2695 ++ []).length = m56 * rBig.sz := by have := hc2589; rw [List.length_append] at this ⊢; rw [q2697]; exact this
       have K2693 := ks w hS2694
       refine zap (zbs (zah rfl (zaf (zcd (x := x2591) (y := 1) (z := (iw (x2591 + 1))) rfl rfl rfl ?_))))
       refine zaf (zai (v := (zac .i64 (iw (x2591 + 1)))) rfl ?_)
       refine zap ?_
       have hp2700 := hL2692.pick [3, 4, 5, 6] rfl rfl rfl
       have hL2702 : vL w w2691 [some b1, some b6, some b72, some b63] [zab [s_v, (zaa s.Divisor.Negative), s_v1], zab [(zad none 0 0), (zaa false), (zad none 0 0)], zab [(osv (some b63) 0 x57.length m56), (zaa negative1612), v1614], zab ([] ++ (cs2695 ++ []))] := hp2700.1
       have K2701 := ks w hp2700.2
       have f2703 := ((hE2696.mono (K2693 None)).mono (K2701 None))
       obtain rfl := zag h
       refine zas ⟨(x2683, (iw (x2591 + 1))), rfl, ?_⟩
       exact ⟨cs2695, _, (upds_sym ⟨rfl, rfl, rfl, rfl, rfl, rfl, trivial⟩), hL2702, (zaq (zaq (zaq (zaq (zaq (zaq (zaq (zaq (zaq (zaq K2607 K2624) K2629) K2642) K2647) K2652) K2657) K2662) K2670) K2693) K2701), f2703, hl2698, hc2699, trivial⟩
     ·
      replace h := ite_f hc2608 h
      refine zcs rfl ?_
      obtain rfl := zag h
      obtain rfl := hd2604 _ rfl
      replace h := g2602
      try dsimp only at h
      skip
      refine zas ?_
      exact ⟨coefs2587, cs2586, _, rfl, (upds_sym ⟨rfl, rfl, rfl, trivial⟩), hL2606, K2607, hE2588, hl2590, hc2589, trivial⟩
    ·
     rintro _ w2704 ⟨coefs2597, cs2596, u, rfl, rfl, hL2705, K2706, hE2598, hl2600, hc2599, -⟩
     replace h := g2602
     try dsimp only at h
     refine zaj (zah rfl (zaf (zar (q := 1) zba rfl ti26 rfl rfl rfl ?_)))
     refine zaf (zbd (vs := [(zaa negative1612), v1614]) zal rfl ti26 rfl (hL2705.at 2 rfl rfl) rfl rfl ?_)
     refine zaf (zar (q := 1) zce rfl ti26 rfl rfl rfl ?_)
     refine zaf (zbd (vs := [(zaa s.Divisor.Negative), s_v1]) zal rfl ti26 rfl (hL2705.at 0 rfl rfl) rfl rfl ?_)
     obtain ⟨r2707, q2708, h⟩ := bind_some h
     have f2714 := (k1615.mono (K2706 None))
     have f2715 := (((((((((s_h1.mono (K4 S)).mono (K9 S)).mono (K17 S)).mono (K50 S)).mono (K70 S)).mono (K75 S)).mono (K79 S)).mono (K2376 S)).mono (K2706 S))
     refine zaf (zaw en48 rfl rfl (bDivFloor_w N (Big.mk negative1612 digits1613) s.Divisor v1614 s_v1 _ Any (f2714.mono vw_any) (f2715.mono vw_any) r2707 q2708) ?_)
     rintro _ w2716 hE2719 ⟨v2709, v2711, rfl, k2710, k2712, -⟩
     replace k2710 := k2710.mono (zbc (S := None) hL2705 [])
     replace k2712 := k2712.mono (zbc (S := None) hL2705 [])
     have hL2717 := hL2705.ext hE2719
     have K2718 := ke hL2705 hE2719
     refine zaf (zai (v := (Value.tuple #[(zan #[(zaa r2707.1.Negative), v2709]), (zan #[(zaa r2707.2.1.Negative), v2711]), (zaa r2707.2.2)])) rfl ?_)
     refine zaf (zcf (vs := [(zan #[(zaa r2707.1.Negative), v2709]), (zan #[(zaa r2707.2.1.Negative), v2711]), (zaa r2707.2.2)]) (v := (zan #[(zaa r2707.1.Negative), v2709])) rfl rfl ?_)
     refine zaf (zcf (vs := [(zan #[(zaa r2707.1.Negative), v2709]), (zan #[(zaa r2707.2.1.Negative), v2711]), (zaa r2707.2.2)]) (v := (zan #[(zaa r2707.2.1.Negative), v2711])) rfl rfl ?_)
     refine zaf (zcf (vs := [(zan #[(zaa r2707.1.Negative), v2709]), (zan #[(zaa r2707.2.1.Negative), v2711]), (zaa r2707.2.2)]) (v := (zaa r2707.2.2)) rfl rfl ?_)
     refine zaf (zar (q := 1) zba rfl ti26 rfl rfl rfl ?_)
     refine zcb (zbh (vs := [(zaa r2707.1.Negative), v2709]) ti26 rfl rfl rfl rfl (ones_cons rfl (ones_cons k2710.one ones_nil)) hL2717 2 rfl rfl (zae rfl) ?_)
     intro w2720 (hL2721 : vL w w2720 [some b1, some b6, some b72, some b63] [zab [s_v, (zaa s.Divisor.Negative), s_v1], zab [(zad none 0 0), (zaa false), (zad none 0 0)], zab [(osv (some b63) 0 x57.length m56), (zaa r2707.1.Negative), v2709], zab ([] ++ (cs2596 ++ []))]) hS2723
     have K2722 := ks w hS2723
     refine zap (zaj (zah rfl (zaf (zbd (vs := [(osv (some b63) 0 x57.length m56), (zaa r2707.1.Negative), v2709]) zba rfl ti34 rfl (hL2721.at 2 rfl rfl) rfl rfl ?_))))
     have f2724 := (k2710.mono (K2722 None))
     refine zcb (zbh (vs := [(osv (some b63) 0 x57.length m56), (zaa r2707.1.Negative), v2709]) ti34 rfl rfl rfl rfl (ones_cons (osv_one _ _ _ _) (ones_cons rfl (ones_cons f2724.one ones_nil))) hL2721 1 rfl rfl (zae rfl) ?_)
     intro w2725 (hL2726 : vL w w2725 [some b1, some b6, some b72, some b63] [zab [s_v, (zaa s.Divisor.Negative), s_v1], zab [(osv (some b63) 0 x57.length m56), (zaa r2707.1.Negative), v2709], zab [(osv (some b63) 0 x57.length m56), (zaa r2707.1.Negative), v2709], zab ([] ++ (cs2596 ++ []))]) hS2728
     have K2727 := ks w hS2728
     refine zaf (zak (v := (zaa true)) rfl ?_)
     refine zap ?_
     have f2730 := (((hE2598.mono (K2718 None)).mono (K2722 None)).mono (K2727 None))
     have f2729 := hL2726.freezeRow 3 rfl rfl f2730 rfl rfl hl2600 hc2599
     have hp2731 := hL2726.pick [0, 1, 2] rfl rfl rfl
     have hL2733 : vL w w2725 [some b1, some b6, some b72] [zab [s_v, (zaa s.Divisor.Negative), s_v1], zab [(osv (some b63) 0 x57.length m56), (zaa r2707.1.Negative), v2709], zab [(osv (some b63) 0 x57.length m56), (zaa r2707.1.Negative), v2709]] := hp2731.1
     have K2732 := ks w hp2731.2
     refine zbl ?_
     obtain rfl := zag h
     refine ⟨[(zan #[(osv (some b63) 0 x57.length m56), (zaa r2707.1.Negative), v2709]), (zaa true)], ⟨⟨⟨b6, 0, none⟩, rfl, res_boxA zba rfl ti34 (hL2733.at 1 rfl rfl) rfl⟩, ⟨rfl, trivial⟩⟩, ⟨_, rfl, hL2733.done, ?_⟩⟩
     have f2734 := ((f2724.mono (K2727 None)).mono (K2732 None))
     exact ⟨(osv (some b63) 0 x57.length m56), v2709, rfl, (f2729.mono zdf), (f2734.mono zdf), trivial⟩
theorem cContradictory_w (N : Nat) (q : Ineq) (q_v : Value) (q_v1 : Value) (w : World) (S : Nat → Prop) (q_h : Rs rBig (vH w S [] w) q_v q.Coefs) (q_h1 : Rs (rInt .u32) (vH w S [] w) q_v1 q.Bound.Digits) (r : Bool) (h : cContradictory N q = some r) :
  Calls Try.prog 29 #[(zan #[q_v, (zaa q.Bound.Negative), q_v1])] w (Ret w (fun v w' => (zaa r) = v ∧ True)) := by
 unfold cContradictory at h
 have hL : vL w w [] [] := Go.X.Loc.begin0 w
 refine calls_of (l := [(zan #[q_v, (zaa q.Bound.Negative), q_v1])]) (rl := [.tmp 2]) (n := 20) Try.func29 rfl rfl rfl (zae rfl) ?_
 refine zaj (zah rfl (zaf (zdc (cs := [q_v, (zaa q.Bound.Negative), q_v1]) rfl rfl hL ?_)))
 intro b1 w2 hL3 hS5
 have K4 := ks w hS5
 refine zaf (zak (v := (zaa false)) rfl ?_)
 refine zap (zaj (zaj (zah rfl (zaf (zar (q := 0) zba rfl ti32 rfl rfl rfl ?_)))))
 refine zaf (zbb (v := q_v) zax rfl rfl (hL3.at 0 rfl rfl) rfl ?_)
 have f6 := (q_h.mono (K4 S))
 refine zaf (zbf (v := q_v) zax rfl f6 ?_)
 refine zaf (zai (v := (zac .i64 0)) rfl ?_)
 refine zap ?_
 obtain ⟨s91, hl93, g92⟩ := bind_some h
 refine zbr (fun e w' => ∃  (u : Env), (Sum.inl ()) = s91 ∧ e = upds [(1, (zam (some ⟨b1, 0, none⟩)))] u ∧ vL w w' [some b1] [zab [q_v, (zaa q.Bound.Negative), q_v1]] ∧ Keep w.heap.size [some b1] w2 [some b1] w' ∧ True) ?_ ?_
 ·
  refine zbj ?_
  refine zcg hl93 (fun (ss : Int) (e : Env) (w' : World) => match ss with | x89 => ∃ (u : Env), e = upds [(1, (zam (some ⟨b1, 0, none⟩))), (6, q_v), (7, (zac .i64 (q.Coefs.length : Int))), (8, (zac .i64 x89))] u ∧ vL w w' [some b1] [zab [q_v, (zaa q.Bound.Negative), q_v1]] ∧ Keep w.heap.size [some b1] w2 [some b1] w' ∧ True) ⟨_, (upds_sym ⟨rfl, rfl, rfl, rfl, trivial⟩), hL3, zbo, trivial⟩ ?_
  rintro x89 oo _ w95 ⟨u, rfl, hL96, K97, -⟩ h hd94
  rw [cContradictory_b1] at h
  refine zaj (zah rfl (zaf (zcr (x := x89) (y := (q.Coefs.length : Int)) ((x89 : Int) < (q.Coefs.length : Int)) rfl rfl zbk ?_)))
  refine zap (zaj ?_)
  refine zbe ((x89 : Int) < (q.Coefs.length : Int)) rfl (fun hc98 => ?_) (fun hc98 => ?_)
  ·
   replace h := ite_t hc98 h
   refine zbg (zaj (zbj (zaj (zah rfl ?_))))
   obtain ⟨x99, q100, h⟩ := bind_some h
   obtain ⟨n101, q102, q103⟩ := idx_some q100
   have f114 := (f6.mono (K97 S))
   obtain ⟨b104, o105, c106, vs107, q108, q109, f110, q111⟩ := zcz f114 q103
   obtain ⟨v112, rfl, k113, -⟩ := rBig_open q111
   refine zaf (zbv (r := rBig) (v := q_v) (n := n101) (m := (o105 + n101 * rBig.sz)) zax ti26 rfl q108 rfl q102 q103 rfl ?_)
   refine zaf (zdi (vs := [(zaa x99.Negative), v112]) zal rfl ti26 rfl rfl vw_view f110 ?_)
   refine zaf (zbw (cs := [(zaa false), (zad none 0 0)]) ti26 rfl hL96 ?_)
   intro b115 w116 hL117 hS119
   have K118 := ks w hS119
   have f120 := (k113.mono (K118 S))
   refine zcb (zbh (vs := [(zaa x99.Negative), v112]) ti26 rfl rfl rfl rfl (ones_cons rfl (ones_cons f120.one ones_nil)) hL117 0 rfl rfl (zae rfl) ?_)
   intro w121 (hL122 : vL w w121 [some b115, some b1] [zab [(zaa x99.Negative), v112], zab [q_v, (zaa q.Bound.Negative), q_v1]]) hS124
   have K123 := ks w hS124
   refine zap (zaj (zah rfl (zaf (zbd (vs := [(zaa x99.Negative), v112]) zal rfl ti26 rfl (hL122.at 0 rfl rfl) rfl rfl ?_))))
   obtain ⟨r125, q126, h⟩ := bind_some h
   have f128 := (f120.mono (K123 S))
   refine zaf (zaw en45 rfl rfl (bSign_w N x99 v112 _ Any (f128.mono vw_any) r125 q126) ?_)
   rintro _ w129 hE132 ⟨rfl, -⟩
   have hL130 := hL122.ext hE132
   have K131 := ke hL122 hE132
   refine zaf (OpY.neq (x := r125) (y := 0) ((r125 : Int) ≠ 0) rfl rfl zbk ?_)
   refine zap ?_
   refine zbe ((r125 : Int) ≠ 0) rfl (fun hc133 => ?_) (fun hc133 => ?_)
   ·
    replace h := ite_t hc133 h
    refine zaj (zah rfl (zaf (zak (v := (zaa false)) rfl ?_)))
    refine zap (zbl ?_)
    obtain rfl := zag h
    obtain rfl := hd94 _ rfl
    replace h := g92
    try dsimp only at h
    obtain rfl := zag h
    refine ⟨[(zaa false)], ⟨rfl, trivial⟩, ⟨_, rfl, hL130.done, ?_⟩⟩
    exact ⟨rfl, trivial⟩
   ·
    replace h := ite_f hc133 h
    refine zbg (zbs (zah rfl (zaf (zcd (x := x89) (y := 1) (z := (iw (x89 + 1))) rfl rfl rfl ?_))))
    refine zaf (zai (v := (zac .i64 (iw (x89 + 1)))) rfl ?_)
    refine zap ?_
    have hp134 := hL130.pick [1] rfl rfl rfl
    have hL136 : vL w w129 [some b1] [zab [q_v, (zaa q.Bound.Negative), q_v1]] := hp134.1
    have K135 := ks w hp134.2
    obtain rfl := zag h
    refine zas ⟨(iw (x89 + 1)), rfl, ?_⟩
    exact ⟨_, (upds_sym ⟨rfl, rfl, rfl, rfl, trivial⟩), hL136, (zaq (zaq (zaq (zaq K97 K118) K123) K131) K135), trivial⟩
  ·
   replace h := ite_f hc98 h
   refine zcs rfl ?_
   obtain rfl := zag h
   obtain rfl := hd94 _ rfl
   replace h := g92
   try dsimp only at h
   skip
   refine zas ?_
   exact ⟨_, rfl, (upds_sym ⟨rfl, trivial⟩), hL96, K97, trivial⟩
 ·
  rintro _ w137 ⟨u, rfl, rfl, hL138, K139, -⟩
  replace h := g92
  try dsimp only at h
  refine zaj (zah rfl (zaf (zar (q := 1) zba rfl ti26 rfl rfl rfl ?_)))
  refine zaf (zbd (vs := [(zaa q.Bound.Negative), q_v1]) zal rfl ti26 rfl (hL138.at 0 rfl rfl) rfl rfl ?_)
  obtain ⟨r140, q141, h⟩ := bind_some h
  have f143 := ((q_h1.mono (K4 S)).mono (K139 S))
  refine zaf (zaw en45 rfl rfl (bSign_w N q.Bound q_v1 _ Any (f143.mono vw_any) r140 q141) ?_)
  rintro _ w144 hE147 ⟨rfl, -⟩
  have hL145 := hL138.ext hE147
  refine zaf (zcr (x := r140) (y := 0) ((r140 : Int) < 0) rfl rfl zbk ?_)
  refine zaf (zak (v := (zaa (decide ((r140 : Int) < 0)))) rfl ?_)
  refine zap (zbl ?_)
  obtain rfl := zag h
  refine ⟨[(zaa (decide ((r140 : Int) < 0)))], ⟨rfl, trivial⟩, ⟨_, rfl, hL145.done, ?_⟩⟩
  exact ⟨rfl, trivial⟩
theorem cCheck_w (N : Nat) : ∀ (l : (List Ineq)) (p : Proof) (l_v : Value) (p_v : Value) (p_v1 : Value) (p_v2 : Value) (p_v3 : Value) (w : World) (S : Nat → Prop) (l_h : Rs rIneq (vH w S [] w) l_v l) (p_h : Rs rStep (vH w S [] w) p_v p.Steps) (p_h1 : Rs rBig (vH w S [] w) p_v1 p.Form) (p_h2 : Rs (rInt .u32) (vH w S [] w) p_v2 p.Bound.Digits) (p_h3 : Rs rProof (vH w S [] w) p_v3 p.Children) (r : Bool) (h : cCheck N l p = some r), Calls Try.prog 18 #[l_v, (zan #[p_v, p_v1, (zaa p.Bound.Negative), p_v2, p_v3])] w (Ret w (fun v w' => (zaa r) = v ∧ True)) := by
 induction N with
 | zero => intro l p l_v p_v p_v1 p_v2 p_v3 w S l_h p_h p_h1 p_h2 p_h3 r h; cases (show (none : Option Bool) = some r from h)
 | succ N ih =>
  intro l p l_v p_v p_v1 p_v2 p_v3 w S l_h p_h p_h1 p_h2 p_h3 r h
  replace h : cCheck_step N (cCheck N) l p = some r := h
  unfold cCheck_step at h
  have hL : vL w w [] [] := Go.X.Loc.begin0 w
  refine calls_of (l := [l_v, (zan #[p_v, p_v1, (zaa p.Bound.Negative), p_v2, p_v3])]) (rl := [.tmp 4]) (n := 104) Try.func18 rfl rfl rfl (zae rfl) ?_
  refine zaj (zah rfl (zaf (zdc (cs := [p_v, p_v1, (zaa p.Bound.Negative), p_v2, p_v3]) rfl rfl hL ?_)))
  intro b1 w2 hL3 hS5
  have K4 := ks w hS5
  refine zaf (zak (v := (zaa false)) rfl ?_)
  refine zap (zaj (zaj (zah rfl (zaf (zai (v := l_v) rfl ?_)))))
  obtain ⟨r6, q7, h⟩ := bind_some h
  have f9 := (l_h.mono (K4 S))
  refine zaf (zaw en44 rfl rfl (cwidth_w N l l_v _ Any (f9.mono vw_any) r6 q7) ?_)
  rintro _ w10 hE13 ⟨rfl, -⟩
  have hL11 := hL3.ext hE13
  have K12 := ke hL3 hE13
  refine zaf (zai (v := (Value.tuple #[(zac .i64 r6.1), (zaa r6.2)])) rfl ?_)
  refine zaf (zcf (vs := [(zac .i64 r6.1), (zaa r6.2)]) (v := (zac .i64 r6.1)) rfl rfl ?_)
  refine zaf (zcf (vs := [(zac .i64 r6.1), (zaa r6.2)]) (v := (zaa r6.2)) rfl rfl ?_)
  refine zaf (zak (v := (zac .i64 r6.1)) rfl ?_)
  refine zaf (zak (v := (zaa r6.2)) rfl ?_)
  refine zap (zaj (zah rfl (zaf (zai (v := (zaa r6.2)) rfl ?_))))
  refine zaf (OpY.not (x := r6.2) rfl ?_)
  refine zap ?_
  refine zcu (!r6.2) rfl (fun hc14 => ?_) (fun hc14 => ?_)
  ·
   replace h := ite_t hc14 h
   refine zaj (zah rfl (zaf (zak (v := (zaa false)) rfl ?_)))
   refine zap (zbl ?_)
   obtain rfl := zag h
   refine ⟨[(zaa false)], ⟨rfl, trivial⟩, ⟨_, rfl, hL11.done, ?_⟩⟩
   exact ⟨rfl, trivial⟩
  ·
   replace h := ite_f hc14 h
   refine zbg (zaj (zah rfl (zaf (zai (v := l_v) rfl ?_))))
   obtain ⟨r15, q16, h⟩ := bind_some h
   have f25 := (f9.mono (K12 S))
   refine zaf (zaw en53 rfl rfl (cloneIneq_w N l l_v _ _ (f25.mono Hv.enter) r15 q16) ?_)
   rintro _ w26 hE29 ⟨ob17, cap18, cs19, sp20, rfl, hN24, hE21, hc22, -⟩
   replace hE21 := hE21.mono (Hv.aliasO (S := S) hL11 [ob17])
   have hp30 := hL11.adoptL hE29 hN24
   have hL27 := hp30.1
   have K28 := ks w hp30.2
   refine zaf (zak (v := (osv ob17 0 r15.length cap18)) rfl ?_)
   refine zap (zaj (zaj (zah rfl (zaf (zar (q := 0) zby rfl ti39 rfl rfl rfl ?_)))))
   refine zaf (zbb (v := p_v) Try.underlying39 rfl rfl (hL27.at 1 rfl rfl) rfl ?_)
   have f31 := (((p_h.mono (K4 S)).mono (K12 S)).mono (K28 S))
   refine zaf (zbf (v := p_v) Try.underlying39 rfl f31 ?_)
   refine zaf (zai (v := (zac .i64 0)) rfl ?_)
   refine zap ?_
   obtain ⟨s240, hl242, g241⟩ := bind_some h
   refine zbr (fun e w' => ∃ (e236 : (List Ineq)) (ob232 : Option Nat) (cap233 : Nat) (sp234 : List Value) (cs235 : List Value) (ln239 : Nat) (u : Env), (Sum.inl e236) = s240 ∧ e = upds [(3, (zam (some ⟨b1, 0, none⟩))), (7, (osv ob232 0 ln239 cap233))] u ∧ vL w w' [some b1, ob232] [zab [p_v, p_v1, (zaa p.Bound.Negative), p_v2, p_v3], zab ([] ++ (cs235 ++ sp234))] ∧ Keep w.heap.size [ob17, some b1] w26 [some b1, ob232] w' ∧ Els rIneq (vH w S [some b1, ob232] w') cs235 e236 ∧ ln239 = List.length e236 ∧ (cs235 ++ sp234).length = cap233 * rIneq.sz ∧ True) ?_ ?_
   ·
    refine zbj ?_
    have hp244 := hL27.pick [1, 0] rfl rfl rfl
    have hL246 : vL w w26 [some b1, ob17] [zab [p_v, p_v1, (zaa p.Bound.Negative), p_v2, p_v3], zab ([] ++ (cs19 ++ sp20))] := hp244.1
    have K245 := ks w hp244.2
    have f247 := (hE21.mono (K245 S))
    refine zcg hl242 (fun (ss : ((List Ineq) × Int)) (e : Env) (w' : World) => match ss with | (e225, x229) => ∃ (ob221 : Option Nat) (cap222 : Nat) (sp223 : List Value) (cs224 : List Value) (ln228 : Nat) (u : Env), e = upds [(3, (zam (some ⟨b1, 0, none⟩))), (7, (osv ob221 0 ln228 cap222)), (26, p_v), (27, (zac .i64 (p.Steps.length : Int))), (28, (zac .i64 x229))] u ∧ vL w w' [some b1, ob221] [zab [p_v, p_v1, (zaa p.Bound.Negative), p_v2, p_v3], zab ([] ++ (cs224 ++ sp223))] ∧ Keep w.heap.size [ob17, some b1] w26 [some b1, ob221] w' ∧ Els rIneq (vH w S [some b1, ob221] w') cs224 e225 ∧ ln228 = List.length e225 ∧ (cs224 ++ sp223).length = cap222 * rIneq.sz ∧ True) ⟨ob17, cap18, sp20, cs19, r15.length, _, (upds_sym ⟨rfl, rfl, rfl, rfl, rfl, trivial⟩), hL246, K245, f247, rfl, hc22, trivial⟩ ?_
    rintro ⟨e225, x229⟩ oo _ w248 ⟨ob221, cap222, sp223, cs224, ln228, u, rfl, hL249, K250, hE226, rfl, hc227, -⟩ h hd243
    rw [cCheck_b1] at h
    refine zaj (zah rfl (zaf (zcr (x := x229) (y := (p.Steps.length : Int)) ((x229 : Int) < (p.Steps.length : Int)) rfl rfl zbk ?_)))
    refine zap (zaj ?_)
    refine zbe ((x229 : Int) < (p.Steps.length : Int)) rfl (fun hc251 => ?_) (fun hc251 => ?_)
    ·
     replace h := ite_t hc251 h
     refine zbg (zaj (zbj (zaj (zah rfl ?_))))
     obtain ⟨x252, q253, h⟩ := bind_some h
     obtain ⟨n254, q255, q256⟩ := idx_some q253
     have f269 := (f31.mono (K250 S))
     obtain ⟨b257, o258, c259, vs260, q261, q262, f263, q264⟩ := zcz f269 q256
     obtain ⟨v265, v267, rfl, k266, k268, -⟩ := rStep_open q264
     refine zaf (zbv (r := rStep) (v := p_v) (n := n254) (m := (o258 + n254 * rStep.sz)) Try.underlying39 ti28 rfl q261 rfl q255 q256 rfl ?_)
     refine zaf (zdi (vs := [v265, (zaa x252.Divisor.Negative), v267]) zce rfl ti28 rfl rfl vw_view f263 ?_)
     refine zaf (zbw (cs := [(zad none 0 0), (zaa false), (zad none 0 0)]) ti28 rfl hL249 ?_)
     intro b270 w271 hL272 hS274
     have K273 := ks w hS274
     have f275 := (k268.mono (K273 S))
     have f276 := (k266.mono (K273 S))
     refine zcb (zbh (vs := [v265, (zaa x252.Divisor.Negative), v267]) ti28 rfl rfl rfl rfl (ones_cons f276.one (ones_cons rfl (ones_cons f275.one ones_nil))) hL272 0 rfl rfl (zae rfl) ?_)
     intro w277 (hL278 : vL w w277 [some b270, some b1, ob221] [zab [v265, (zaa x252.Divisor.Negative), v267], zab [p_v, p_v1, (zaa p.Bound.Negative), p_v2, p_v3], zab ([] ++ (cs224 ++ sp223))]) hS280
     have K279 := ks w hS280
     refine zap (zaj (zah rfl (zaf (zai (v := (osv ob221 0 e225.length cap222)) rfl ?_))))
     refine zaf (zbd (vs := [v265, (zaa x252.Divisor.Negative), v267]) zce rfl ti28 rfl (hL278.at 0 rfl rfl) rfl rfl ?_)
     obtain ⟨r281, q282, h⟩ := bind_some h
     have f288 := ((hE226.mono (K273 S)).mono (K279 S))
     have f289 := (f276.mono (K279 S))
     have f290 := (f275.mono (K279 S))
     refine zaf (zaw en14 rfl rfl (cApply_w N e225 x252 (osv ob221 0 e225.length cap222) v265 v267 _ Any (own_row_any (pre := []) (o := 0) (n := e225.length) (cap := cap222) (hL278.at 2 rfl rfl) f288 vw_any rfl rfl rfl hc227) (f289.mono vw_any) (f290.mono vw_any) r281 q282) ?_)
     rintro _ w291 hE294 ⟨v283, v285, rfl, k284, k286, -⟩
     replace k284 := k284.mono (zbc (S := None) hL278 [])
     replace k286 := k286.mono (zbc (S := None) hL278 [])
     have hL292 := hL278.ext hE294
     have K293 := ke hL278 hE294
     refine zaf (zai (v := (Value.tuple #[(zan #[v283, (zaa r281.1.Bound.Negative), v285]), (zaa r281.2)])) rfl ?_)
     refine zaf (zcf (vs := [(zan #[v283, (zaa r281.1.Bound.Negative), v285]), (zaa r281.2)]) (v := (zan #[v283, (zaa r281.1.Bound.Negative), v285])) rfl rfl ?_)
     refine zaf (zcf (vs := [(zan #[v283, (zaa r281.1.Bound.Negative), v285]), (zaa r281.2)]) (v := (zaa r281.2)) rfl rfl ?_)
     refine zaf (zbw (cs := [(zad none 0 0), (zaa false), (zad none 0 0)]) ti34 rfl hL292 ?_)
     intro b295 w296 hL297 hS299
     have K298 := ks w hS299
     have f300 := (k286.mono (K298 None))
     have f301 := (k284.mono (K298 None))
     refine zcb (zbh (vs := [v283, (zaa r281.1.Bound.Negative), v285]) ti34 rfl rfl rfl rfl (ones_cons f301.one (ones_cons rfl (ones_cons f300.one ones_nil))) hL297 0 rfl rfl (zae rfl) ?_)
     intro w302 (hL303 : vL w w302 [some b295, some b270, some b1, ob221] [zab [v283, (zaa r281.1.Bound.Negative), v285], zab [v265, (zaa x252.Divisor.Negative), v267], zab [p_v, p_v1, (zaa p.Bound.Negative), p_v2, p_v3], zab ([] ++ (cs224 ++ sp223))]) hS305
     have K304 := ks w hS305
     refine zaf (zak (v := (zaa r281.2)) rfl ?_)
     refine zap (zaj (zaj (zah rfl (zaf (zai (v := (zaa r281.2)) rfl ?_)))))
     refine zaf (OpY.not (x := r281.2) rfl ?_)
     refine zap ?_
     refine zcu (!r281.2) rfl (fun hc306 => ?_) (fun hc306 => ?_)
     ·
      replace h := ite_t hc306 h
      refine zaj (zah rfl (zaf (zak (v := (zaa false)) rfl ?_)))
      refine zap (zbl ?_)
      obtain rfl := zag h
      obtain rfl := hd243 _ rfl
      replace h := g241
      try dsimp only at h
      obtain rfl := zag h
      refine ⟨[(zaa false)], ⟨rfl, trivial⟩, ⟨_, rfl, hL303.done, ?_⟩⟩
      exact ⟨rfl, trivial⟩
     ·
      replace h := ite_f hc306 h
      refine zbg (zah rfl (zaf (zai (v := (osv ob221 0 e225.length cap222)) rfl ?_)))
      refine zaf (zbd (vs := [v283, (zaa r281.1.Bound.Negative), v285]) zba rfl ti34 rfl (hL303.at 0 rfl rfl) rfl rfl ?_)
      have f311 := (f301.mono (K304 None))
      have f312 := (f300.mono (K304 None))
      have hE308 : Els rIneq (vH w None [some b295, some b270, some b1, ob221] w302) [v283, (zaa r281.1.Bound.Negative), v285] [r281.1] := (zco (a := [v283, (zaa r281.1.Bound.Negative), v285]) (rIneq_close ⟨v283, v285, rfl, f311, f312, trivial⟩) zct)
      refine zaf (zcp (r := rIneq) (vs := [(zan #[v283, (zaa r281.1.Bound.Negative), v285])]) (css := [[v283, (zaa r281.1.Bound.Negative), v285]]) (xs := [r281.1]) zbm ti34 (zae rfl) rfl rfl ⟨rfl, rfl, trivial⟩ (zae rfl) hE308 rfl hL303 ?_)
      intro b307 w313 hc309 hL314 hS316
      have K315 := ks w hS316
      obtain ⟨x317, q318, h⟩ := bind_some h
      obtain ⟨q319, q320, q321⟩ := apnd_some q318
      have f322 := (hE308.mono (K315 None))
      have f330 := ((((f288.mono (K293 S)).mono (K298 S)).mono (K304 S)).mono (K315 S))
      refine zaf (zdl (r := rIneq) (H := (vH w S [some b307, some b295, some b270, some b1, ob221] w313)) (cs := cs224) (sp := sp223) (xs := e225) (ys := [r281.1]) (Y := x317) (n := e225.length) (cap := cap222) (i := 4) zbm ti34 rfl rfl rfl rfl hL314 rfl rfl f330 rfl hc227 (Src.row (pre := []) (o := 0) (n := 1) (cap := 1) (hL314.at 0 rfl rfl) f322 rfl rfl rfl) (f322.mono Hv.none) q319 q320 q321 ?_)
      intro ob323 cap324 sp326 cs325 w331 hE327 hc328 (hL332 : vL w w331 [some b307, some b295, some b270, some b1, ob323] [zab ([] ++ ([v283, (zaa r281.1.Bound.Negative), v285] ++ [])), zab [v283, (zaa r281.1.Bound.Negative), v285], zab [v265, (zaa x252.Divisor.Negative), v267], zab [p_v, p_v1, (zaa p.Bound.Negative), p_v2, p_v3], zab ([] ++ (cs325 ++ sp326))]) hS334
      have K333 := ks w hS334
      refine zaf (zak (v := (osv ob323 0 x317.length cap324)) rfl ?_)
      refine zap (zbs (zah rfl (zaf (zcd (x := x229) (y := 1) (z := (iw (x229 + 1))) rfl rfl rfl ?_))))
      refine zaf (zai (v := (zac .i64 (iw (x229 + 1)))) rfl ?_)
      refine zap ?_
      have hp335 := hL332.pick [3, 4] rfl rfl rfl
      have hL337 : vL w w331 [some b1, ob323] [zab [p_v, p_v1, (zaa p.Bound.Negative), p_v2, p_v3], zab ([] ++ (cs325 ++ sp326))] := hp335.1
      have K336 := ks w hp335.2
      have f338 := ((hE327.mono (K333 S)).mono (K336 S))
      obtain rfl := zag h
      refine zas ⟨(x317, (iw (x229 + 1))), rfl, ?_⟩
      exact ⟨ob323, cap324, sp326, cs325, x317.length, _, (upds_sym ⟨rfl, rfl, rfl, rfl, rfl, trivial⟩), hL337, (zaq (zaq (zaq (zaq (zaq (zaq (zaq (zaq K250 K273) K279) K293) K298) K304) K315) K333) K336), f338, rfl, hc328, trivial⟩
    ·
     replace h := ite_f hc251 h
     refine zcs rfl ?_
     obtain rfl := zag h
     obtain rfl := hd243 _ rfl
     replace h := g241
     try dsimp only at h
     skip
     refine zas ?_
     exact ⟨e225, ob221, cap222, sp223, cs224, e225.length, _, rfl, (upds_sym ⟨rfl, rfl, trivial⟩), hL249, K250, hE226, rfl, hc227, trivial⟩
   ·
    rintro _ w339 ⟨e236, ob232, cap233, sp234, cs235, ln239, u, rfl, rfl, hL340, K341, hE237, rfl, hc238, -⟩
    replace h := g241
    try dsimp only at h
    refine zaj (zaj (zah rfl (zaf (zar (q := 4) zby rfl ti40 rfl rfl rfl ?_))))
    refine zaf (zbb (v := p_v3) zcv rfl rfl (hL340.at 0 rfl rfl) rfl ?_)
    have f342 := ((((p_h3.mono (K4 S)).mono (K12 S)).mono (K28 S)).mono (K341 S))
    refine zaf (zbf (v := p_v3) zcv rfl f342 ?_)
    refine zap (zbj (zaj (zah rfl (zaf (OpY.eql (x := (p.Children.length : Int)) (y := 0) (((p.Children.length : Int) : Int) = 0) rfl rfl zbk ?_)))))
    refine zaf (zak (v := (zaa (decide (((p.Children.length : Int) : Int) = 0)))) rfl ?_)
    refine zap ?_
    refine zbe (((p.Children.length : Int) : Int) = 0) rfl (fun hc343 => ?_) (fun hc343 => ?_)
    ·
     replace h := ite_t hc343 h
     refine zaj (zah rfl (zaf (zai (v := (osv ob232 0 e236.length cap233)) rfl ?_)))
     obtain ⟨r345, q346, h⟩ := bind_some h
     refine zaf (zaw en54 rfl rfl (containsIneq_w N e236 (fun y344 => cContradictory N y344) (osv ob232 0 e236.length cap233) (Value.func (.func 29) #[] #[]) _ Any (own_row_any (pre := []) (o := 0) (n := e236.length) (cap := cap233) (hL340.at 1 rfl rfl) hE237 vw_any rfl rfl rfl hc238) (fun w9 hE9 y348 v349 v351 k350 k352 z9 hz9 => ⟨29, [], rfl, en29, (cContradictory_w N y348 v349 v351 _ Any (k350.mono vw_any) (k352.mono vw_any) z9 hz9)⟩) r345 q346) ?_)
     rintro _ w353 hE356 ⟨rfl, -⟩
     have hL354 := hL340.ext hE356
     refine zaf (zak (v := (zaa r345)) rfl ?_)
     refine zap (zbl ?_)
     obtain rfl := zag h
     refine ⟨[(zaa r345)], ⟨rfl, trivial⟩, ⟨_, rfl, hL354.done, ?_⟩⟩
     exact ⟨rfl, trivial⟩
    ·
     replace h := ite_f hc343 h
     refine zaj (zah rfl (zaf (OpY.eql (x := (p.Children.length : Int)) (y := 2) (((p.Children.length : Int) : Int) = 2) rfl rfl zbk ?_)))
     refine zaf (zak (v := (zaa (decide (((p.Children.length : Int) : Int) = 2)))) rfl ?_)
     refine zap ?_
     refine zbe (((p.Children.length : Int) : Int) = 2) rfl (fun hc357 => ?_) (fun hc357 => ?_)
     ·
      replace h := ite_t hc357 h
      refine zbg (zbs (zaj (zaj (zah rfl (zaf (zai (v := (osv ob232 0 e236.length cap233)) rfl ?_))))))
      obtain ⟨r358, q359, h⟩ := bind_some h
      refine zaf (zaw en44 rfl rfl (cwidth_w N e236 (osv ob232 0 e236.length cap233) _ Any (own_row_any (pre := []) (o := 0) (n := e236.length) (cap := cap233) (hL340.at 1 rfl rfl) hE237 vw_any rfl rfl rfl hc238) r358 q359) ?_)
      rintro _ w361 hE364 ⟨rfl, -⟩
      have hL362 := hL340.ext hE364
      have K363 := ke hL340 hE364
      refine zaf (zai (v := (Value.tuple #[(zac .i64 r358.1), (zaa r358.2)])) rfl ?_)
      refine zaf (zcf (vs := [(zac .i64 r358.1), (zaa r358.2)]) (v := (zac .i64 r358.1)) rfl rfl ?_)
      refine zaf (zcf (vs := [(zac .i64 r358.1), (zaa r358.2)]) (v := (zaa r358.2)) rfl rfl ?_)
      refine zaf (zak (v := (zac .i64 r358.1)) rfl ?_)
      refine zaf (zak (v := (zaa r358.2)) rfl ?_)
      refine zap (zaj ?_)
      obtain ⟨s371, h, g372⟩ := bind_some h
      refine zbr (fun e w' => ∃ (x370 : Bool) (u : Env), x370 = s371 ∧ e = upds [(3, (zam (some ⟨b1, 0, none⟩))), (7, (osv ob232 0 e236.length cap233)), (68, (zaa x370))] u ∧ vL w w' [some b1, ob232] [zab [p_v, p_v1, (zaa p.Bound.Negative), p_v2, p_v3], zab ([] ++ (cs235 ++ sp234))] ∧ Keep w.heap.size [some b1, ob232] w361 [some b1, ob232] w' ∧ True) ?_ ?_
      ·
       refine zah rfl (zaf (zai (v := (osv ob232 0 e236.length cap233)) rfl ?_))
       have f373 := (hE237.mono (K363 S))
       refine zaf (OpY.lenRow (pre := []) (r := rIneq) (xs := e236) zbm rfl (hL362.at 1 rfl rfl) f373 rfl rfl ?_)
       refine zaf (zdm (x := (e236.length : Int)) (y := 0) (((e236.length : Int) : Int) > 0) rfl rfl zbk ?_)
       refine zaf (zai (v := (zaa (decide (((e236.length : Int) : Int) > 0)))) rfl ?_)
       by_cases hc374 : ((e236.length : Int) : Int) > 0
       ·
        replace h := ite_t hc374 h
        refine zbu rfl rfl (decide_eq_true hc374) (zar (q := 1) zby rfl ti32 rfl rfl rfl ?_)
        refine zbu rfl rfl (decide_eq_true hc374) (zbb (v := p_v1) zax rfl rfl (hL362.at 0 rfl rfl) rfl ?_)
        have f375 := (((((p_h1.mono (K4 S)).mono (K12 S)).mono (K28 S)).mono (K341 S)).mono (K363 S))
        refine zbu rfl rfl (decide_eq_true hc374) (zbf (v := p_v1) zax rfl f375 ?_)
        refine zbu rfl rfl (decide_eq_true hc374) (zai (v := (zac .i64 r358.1)) rfl ?_)
        refine zbu rfl rfl (decide_eq_true hc374) (OpY.neq (x := (p.Form.length : Int)) (y := r358.1) (((p.Form.length : Int) : Int) ≠ r358.1) rfl rfl zbk ?_)
        refine zaf (zcm (t := (decide (((e236.length : Int) : Int) > 0))) (v := (zaa (decide (((p.Form.length : Int) : Int) ≠ r358.1)))) rfl (decide_eq_true hc374) rfl ?_)
        refine zap ?_
        obtain rfl := zag h
        refine zas ?_
        exact ⟨(decide (((p.Form.length : Int) : Int) ≠ r358.1)), _, rfl, (upds_sym ⟨rfl, rfl, rfl, trivial⟩), hL362, zbo, trivial⟩
       ·
        replace h := ite_f hc374 h
        refine zbt rfl rfl (decide_eq_false hc374) ?_
        refine zbt rfl rfl (decide_eq_false hc374) ?_
        refine zbt rfl rfl (decide_eq_false hc374) ?_
        refine zbt rfl rfl (decide_eq_false hc374) ?_
        refine zbt rfl rfl (decide_eq_false hc374) ?_
        refine zaf (zbz (t := (decide (((e236.length : Int) : Int) > 0))) (v := (zaa false)) rfl (decide_eq_false hc374) rfl ?_)
        refine zap ?_
        obtain rfl := zag h
        refine zas ?_
        exact ⟨false, _, rfl, (upds_sym ⟨rfl, rfl, rfl, trivial⟩), hL362, zbo, trivial⟩
      ·
       rintro _ w376 ⟨x370, u, rfl, rfl, hL377, K378, -⟩
       replace h := g372
       try dsimp only at h
       refine zcu x370 rfl (fun hc379 => ?_) (fun hc379 => ?_)
       ·
        replace h := ite_t hc379 h
        refine zaj (zah rfl (zaf (zak (v := (zaa false)) rfl ?_)))
        refine zap (zbl ?_)
        obtain rfl := zag h
        refine ⟨[(zaa false)], ⟨rfl, trivial⟩, ⟨_, rfl, hL377.done, ?_⟩⟩
        exact ⟨rfl, trivial⟩
       ·
        replace h := ite_f hc379 h
        refine zbg (zaj (zah rfl (zaf (zar (q := 1) zby rfl ti32 rfl rfl rfl ?_))))
        refine zaf (zbb (v := p_v1) zax rfl rfl (hL377.at 0 rfl rfl) rfl ?_)
        refine zaf (zar (q := 2) zby rfl ti26 rfl rfl rfl ?_)
        refine zaf (zbd (vs := [(zaa p.Bound.Negative), p_v2]) zal rfl ti26 rfl (hL377.at 0 rfl rfl) rfl rfl ?_)
        have f380 := ((((((p_h1.mono (K4 S)).mono (K12 S)).mono (K28 S)).mono (K341 S)).mono (K363 S)).mono (K378 S))
        refine zaf (zcx (zc := [(zad none 0 0), (zaa false), (zad none 0 0)]) (cs := [p_v1, (zaa p.Bound.Negative), p_v2]) (is := [0, 1]) (vs := [p_v1, (zan #[(zaa p.Bound.Negative), p_v2])]) (css := [[p_v1], [(zaa p.Bound.Negative), p_v2]]) pl34 ti34 rfl rfl rfl ⟨(one_cells f380.one), ⟨rfl, trivial⟩⟩ rfl ?_)
        refine zaf (zbw (cs := [(zad none 0 0), (zaa false), (zad none 0 0)]) ti34 rfl hL377 ?_)
        intro b381 w382 hL383 hS385
        have K384 := ks w hS385
        have f386 := (((((((p_h2.mono (K4 S)).mono (K12 S)).mono (K28 S)).mono (K341 S)).mono (K363 S)).mono (K378 S)).mono (K384 S))
        have f387 := (f380.mono (K384 S))
        refine zcb (zbh (vs := [p_v1, (zaa p.Bound.Negative), p_v2]) ti34 rfl rfl rfl rfl (ones_cons f387.one (ones_cons rfl (ones_cons f386.one ones_nil))) hL383 0 rfl rfl (zae rfl) ?_)
        intro w388 (hL389 : vL w w388 [some b381, some b1, ob232] [zab [p_v1, (zaa p.Bound.Negative), p_v2], zab [p_v, p_v1, (zaa p.Bound.Negative), p_v2, p_v3], zab ([] ++ (cs235 ++ sp234))]) hS391
        have K390 := ks w hS391
        refine zap (zaj ?_)
        obtain ⟨r392, q393, h⟩ := bind_some h
        obtain ⟨r397, q398, h⟩ := bind_some h
        obtain ⟨r402, q403, h⟩ := bind_some h
        obtain ⟨r407, q408, h⟩ := bind_some h
        refine zcc 9 [] [] (fun W1 => [.det (zam (some ⟨b1, 1, none⟩)), .det p_v1, .det (zam (some ⟨b1, 2, none⟩)), .det (zan #[(zaa p.Bound.Negative), p_v2]), .rel (fun v Z w' => ∃ v394, (zan #[(zaa r392.Negative), v394]) = v ∧ Rs (rInt .u32) (vZ W1 w None [some b381, some b1, ob232] Z w') v394 r392.Digits ∧ True) (fun _ => []), .rel (fun v Z w' => ∃ v399, (zan #[(zaa r397.Negative), v399]) = v ∧ Rs (rInt .u32) (vZ W1 w None [some b381, some b1, ob232] Z w') v399 r397.Digits ∧ True) (fun _ => []), .rel (fun v Z w' => ∃ v404, (zan #[(zaa r402.Negative), v404]) = v ∧ Rs (rInt .u32) (vZ W1 w None [some b381, some b1, ob232] Z w') v404 r402.Digits ∧ True) (fun _ => []), .rel (fun v Z w' => ∃ v409 v411, (zan #[v409, (zaa r407.Bound.Negative), v411]) = v ∧ Rs rBig (vZ W1 w None [some b381, some b1, ob232] Z w') v409 r407.Coefs ∧ Rs (rInt .u32) (vZ W1 w None [some b381, some b1, ob232] Z w') v411 r407.Bound.Digits ∧ True) (fun _ => []), .rel (fun v Z w' => ∃ b414, (zam (some ⟨b414, 0, none⟩)) = v ∧ OwnC w' (some b414) (zab [(zad none 0 0), (zaa false), (zad none 0 0)]) ∧ True) footV]) mixed rfl rfl rfl (fun _ => rfl) (fun _ => rfl) ?_ ?_
        ·
         intro W1 _
         exact ⟨fun v Z Z' w w' hΦ hz _ _ hs => by obtain ⟨v394, rfl, k395, -⟩ := hΦ; exact ⟨v394, rfl, (k395.mono (zcl hz hs)), trivial⟩, ⟨fun v Z Z' w w' hΦ hz _ _ hs => by obtain ⟨v399, rfl, k400, -⟩ := hΦ; exact ⟨v399, rfl, (k400.mono (zcl hz hs)), trivial⟩, ⟨fun v Z Z' w w' hΦ hz _ _ hs => by obtain ⟨v404, rfl, k405, -⟩ := hΦ; exact ⟨v404, rfl, (k405.mono (zcl hz hs)), trivial⟩, ⟨fun v Z Z' w w' hΦ hz _ _ hs => by obtain ⟨v409, v411, rfl, k410, k412, -⟩ := hΦ; exact ⟨v409, v411, rfl, (k410.mono (zcl hz hs)), (k412.mono (zcl hz hs)), trivial⟩, ⟨fun v Z Z' w w' hΦ hz _ _ hs => by obtain ⟨b414, rfl, hO415, -⟩ := hΦ; exact ⟨b414, rfl, (hO415.stay (fun b hb => by cases hb; exact zay) hs), trivial⟩, trivial⟩⟩⟩⟩⟩
        ·
         intro w416 hE417
         have hL418 := hL389.ext hE417
         have K419 := ke hL389 hE417
         refine zau (fun _ _ => zat (zar zby rfl ti32 rfl rfl rfl (er rfl))) ?_
         refine zau (fun _ hE428 => zat (zbb zax rfl rfl ((hL418.ext hE428).at 1 rfl rfl) rfl (er rfl))) ?_
         refine zau (fun _ _ => zat (zar zby rfl ti26 rfl rfl rfl (er rfl))) ?_
         refine zau (fun _ hE440 => zat (zbd (vs := [(zaa p.Bound.Negative), p_v2]) zal rfl ti26 rfl ((hL418.ext hE440).at 1 rfl rfl) rfl rfl (er rfl))) ?_
         refine zcq ?_ ?_
         ·
          rintro w444 Z445 hE446 hZ447 ⟨-⟩
          have K449 := ke hL418 hE446
          refine zat (zaw en57 rfl rfl (bNeg_w N p.Bound p_v2 _ Any ((((f386.mono (K390 S)).mono (K419 S)).mono (K449 S)).mono vw_any) r392 q393) ?_)
          rintro _ w450 hE451 ⟨v394, rfl, k395, -⟩
          exact zcj hE451 hZ447 zca (fun _ h => h) ⟨v394, rfl, (k395.mono zda), trivial⟩
         intro z4
         refine zcq ?_ ?_
         ·
          rintro w452 Z453 hE454 hZ455 ⟨⟨⟨v394, rfl, k395, -⟩, hB4⟩, -⟩
          refine zat (zaw en58 rfl rfl (bOf_w N 1 _ Any r397 q398) ?_)
          rintro _ w458 hE459 ⟨v399, rfl, k400, -⟩
          exact zcj hE459 hZ455 zca (fun _ h => h) ⟨v399, rfl, (k400.mono zda), trivial⟩
         intro z5
         refine zcq ?_ ?_
         ·
          rintro w460 Z461 hE462 hZ463 ⟨⟨⟨v399, rfl, k400, -⟩, hB5⟩, ⟨⟨v394, rfl, k395, -⟩, hB4⟩, -⟩
          refine zat (zaw en56 rfl rfl (bSub_w N r392 r397 v394 v399 _ Any (k395.mono vw_any) (k400.mono vw_any) r402 q403) ?_)
          rintro _ w466 hE467 ⟨v404, rfl, k405, -⟩
          exact zcj hE467 hZ463 zca (fun _ h => h) ⟨v404, rfl, (k405.mono zda), trivial⟩
         intro z6
         refine zcq ?_ ?_
         ·
          rintro w468 Z469 hE470 hZ471 ⟨⟨⟨v404, rfl, k405, -⟩, hB6⟩, -, -, -⟩
          have K473 := ke hL418 hE470
          refine zat (zaw en55 rfl rfl (negated_w N p.Form r402 p_v1 v404 _ Any ((((f387.mono (K390 S)).mono (K419 S)).mono (K473 S)).mono vw_any) (k405.mono vw_any) r407 q408) ?_)
          rintro _ w474 hE475 ⟨v409, v411, rfl, k410, k412, -⟩
          exact zcj hE475 hZ471 zca (fun _ h => h) ⟨v409, v411, rfl, (k410.mono zda), (k412.mono zda), trivial⟩
         intro z7
         refine zcq ?_ ?_
         ·
          rintro w476 Z477 hE478 hZ479 ⟨-, -, -, -, -⟩
          refine zat (zbw (cs := [(zad none 0 0), (zaa false), (zad none 0 0)]) ti34 rfl (Go.X.Loc.begin0 w476) ?_)
          intro b414 w482 hL483 hS484
          have hN485 : NewOwn w476 w482 [some b414] [zab [(zad none 0 0), (zaa false), (zad none 0 0)]] := hL483.newOwn [0] rfl rfl rfl
          exact zcj hL483.done hZ479 hN485 (fun _ h => h) ⟨b414, rfl, hN485.2.2.1, trivial⟩
         intro z8
         refine zcn ?_
         rintro w486 Z487 hE488 hZ489 ⟨⟨⟨b414, rfl, hO415, -⟩, hB8⟩, ⟨⟨v409, v411, rfl, k410, k412, -⟩, hB7⟩, ⟨⟨v404, rfl, k405, -⟩, hB6⟩, ⟨⟨v399, rfl, k400, -⟩, hB5⟩, ⟨⟨v394, rfl, k395, -⟩, hB4⟩, -⟩ ap490
         have hB491 : ∀ b, some b ∈ ([some b414] : List (Option Nat)) → w416.heap.size ≤ b ∧ ¬ Z487 b := by
          intro b hb
          rcases List.mem_cons.1 hb with hb' | hb
          ·
           have := hB8 b (by rw [hb']; exact zay); exact ⟨this.1, this.2.2⟩
          cases hb
         replace k410 := k410.mono (zcy hL418 hZ489 hB491)
         replace k412 := k412.mono (zcy hL418 hZ489 hB491)
         replace k405 := k405.mono (zcy hL418 hZ489 hB491)
         replace k400 := k400.mono (zcy hL418 hZ489 hB491)
         replace k395 := k395.mono (zcy hL418 hZ489 hB491)
         have hN494 : NewOwn w416 w486 [some b414] [zab [(zad none 0 0), (zaa false), (zad none 0 0)]] := (zdb zca hO415 (fun b hb => (hB491 b (by rw [← hb]; simp)).1) (fun b _ hb => by cases hb))
         have hp495 := hL418.adoptL hE488 hN494
         have hL492 := hp495.1
         have K493 := ks w hp495.2
         refine zcb (zbh (vs := [v409, (zaa r407.Bound.Negative), v411]) ti34 rfl rfl rfl rfl (ones_cons k410.one (ones_cons rfl (ones_cons k412.one ones_nil))) hL492 0 rfl rfl (zae rfl) ?_)
         intro w496 (hL497 : vL w w496 [some b414, some b381, some b1, ob232] [zab [v409, (zaa r407.Bound.Negative), v411], zab [p_v1, (zaa p.Bound.Negative), p_v2], zab [p_v, p_v1, (zaa p.Bound.Negative), p_v2, p_v3], zab ([] ++ (cs235 ++ sp234))]) hS499
         have K498 := ks w hS499
         refine zap (zaj (zah rfl (zaf (zai (v := (osv ob232 0 e236.length cap233)) rfl ?_))))
         have f501 := (((((((hE237.mono (K363 S)).mono (K378 S)).mono (K384 S)).mono (K390 S)).mono (K419 S)).mono (K493 S)).mono (K498 S))
         have f500 := hL497.freezeRow 3 rfl rfl f501 rfl rfl rfl hc238
         have hp502 := hL497.pick [0, 1, 2] rfl rfl rfl
         have hL504 : vL w w496 [some b414, some b381, some b1] [zab [v409, (zaa r407.Bound.Negative), v411], zab [p_v1, (zaa p.Bound.Negative), p_v2], zab [p_v, p_v1, (zaa p.Bound.Negative), p_v2, p_v3]] := hp502.1
         have K503 := ks w hp502.2
         obtain ⟨r505, q506, h⟩ := bind_some h
         refine zaf (zaw en59 rfl rfl (clipIneq_w N e236 (osv ob232 0 e236.length cap233) _ _ (f500.mono Hv.enter) r505 q506) ?_)
         rintro _ w511 hE514 ⟨v507, rfl, k508, cl509, -⟩
         replace k508 := k508.mono (Hv.aliasO (S := S) hL504 [])
         have hL512 := hL504.ext hE514
         have K513 := ke hL504 hE514
         refine zaf (zak (v := v507) rfl ?_)
         refine zap (zaj ?_)
         obtain ⟨x523, q524, h⟩ := bind_some h
         obtain ⟨q525, q526, q527⟩ := apnd_some q524
         obtain ⟨x538, q539, h⟩ := bind_some h
         obtain ⟨n540, q541, q542⟩ := idx_some q539
         have f559 := (((((((((f342.mono (K363 S)).mono (K378 S)).mono (K384 S)).mono (K390 S)).mono (K419 S)).mono (K493 S)).mono (K498 S)).mono (K503 S)).mono (K513 S))
         obtain ⟨b543, o544, c545, vs546, q547, q548, f549, q550⟩ := zcz f559 q542
         obtain ⟨v551, v553, v555, v557, rfl, k552, k554, k556, k558, -⟩ := rProof_open q550
         obtain ⟨r560, q561, h⟩ := bind_some h
         by_cases hc563 : r560 = true
         ·
          replace h := ite_t hc563 h
          obtain ⟨x572, q573, h⟩ := bind_some h
          obtain ⟨q574, q575, q576⟩ := apnd_some q573
          obtain ⟨x587, q588, h⟩ := bind_some h
          obtain ⟨n589, q590, q591⟩ := idx_some q588
          obtain ⟨b592, o593, c594, vs595, q596, q597, f598, q599⟩ := zcz f559 q591
          obtain ⟨v600, v602, v604, v606, rfl, k601, k603, k605, k607, -⟩ := rProof_open q599
          refine zcc 18 [] [] (fun W1 => [.det v507, .det (zan #[p_v1, (zaa p.Bound.Negative), p_v2]), .rel (fun v Z w' => ∃ b515 cs522, (osv (some b515) 0 1 1) = v ∧ OwnC w' (some b515) (zab ([] ++ (cs522 ++ []))) ∧ Els rIneq (vZ W1 w S [some b414, some b381, some b1] Z w') cs522 [(Ineq.mk p.Form p.Bound)] ∧ (cs522 ++ [] : List Value).length = 1 * rIneq.sz ∧ True) footV, .rel (fun v Z w' => ∃ b528 cap529 cs530 sp531, (osv (some b528) 0 x523.length cap529) = v ∧ OwnC w' (some b528) (zab ([] ++ (cs530 ++ sp531))) ∧ Els rIneq (vZ W1 w S [some b414, some b381, some b1] Z w') cs530 x523 ∧ (cs530 ++ sp531 : List Value).length = cap529 * rIneq.sz ∧ True) footV, .det (zam (some ⟨b1, 4, none⟩)), .det p_v3, .det (zam (some ⟨b543, (o544 + n540 * rProof.sz), none⟩)), .det (zan #[v551, v553, (zaa x538.Bound.Negative), v555, v557]), .det (zaa r560), .det (zaa r560), .det v507, .det (zan #[v409, (zaa r407.Bound.Negative), v411]), .rel (fun v Z w' => ∃ b564 cs571, (osv (some b564) 0 1 1) = v ∧ OwnC w' (some b564) (zab ([] ++ (cs571 ++ []))) ∧ Els rIneq (vZ W1 w None [some b414, some b381, some b1] Z w') cs571 [r407] ∧ (cs571 ++ [] : List Value).length = 1 * rIneq.sz ∧ True) footV, .rel (fun v Z w' => ∃ b577 cap578 cs579 sp580, (osv (some b577) 0 x572.length cap578) = v ∧ OwnC w' (some b577) (zab ([] ++ (cs579 ++ sp580))) ∧ Els rIneq (vZ W1 w S [some b414, some b381, some b1] Z w') cs579 x572 ∧ (cs579 ++ sp580 : List Value).length = cap578 * rIneq.sz ∧ True) footV, .det (zam (some ⟨b1, 4, none⟩)), .det p_v3, .det (zam (some ⟨b592, (o593 + n589 * rProof.sz), none⟩)), .det (zan #[v600, v602, (zaa x587.Bound.Negative), v604, v606])]) mixed rfl rfl rfl (fun _ => rfl) (fun _ => rfl) ?_ ?_
          ·
           intro W1 _
           exact ⟨fun v Z Z' w w' hΦ hz _ _ hs => by obtain ⟨b515, cs522, rfl, hO519, hE520, hc521, -⟩ := hΦ; exact ⟨b515, cs522, rfl, (hO519.stay (fun b hb => by cases hb; exact zay) hs), (hE520.mono (zcl hz hs)), hc521, trivial⟩, ⟨fun v Z Z' w w' hΦ hz _ _ hs => by obtain ⟨b528, cap529, cs530, sp531, rfl, hO535, hE536, hc537, -⟩ := hΦ; exact ⟨b528, cap529, cs530, sp531, rfl, (hO535.stay (fun b hb => by cases hb; exact zay) hs), (hE536.mono (zcl hz hs)), hc537, trivial⟩, ⟨fun v Z Z' w w' hΦ hz _ _ hs => by obtain ⟨b564, cs571, rfl, hO568, hE569, hc570, -⟩ := hΦ; exact ⟨b564, cs571, rfl, (hO568.stay (fun b hb => by cases hb; exact zay) hs), (hE569.mono (zcl hz hs)), hc570, trivial⟩, ⟨fun v Z Z' w w' hΦ hz _ _ hs => by obtain ⟨b577, cap578, cs579, sp580, rfl, hO584, hE585, hc586, -⟩ := hΦ; exact ⟨b577, cap578, cs579, sp580, rfl, (hO584.stay (fun b hb => by cases hb; exact zay) hs), (hE585.mono (zcl hz hs)), hc586, trivial⟩, trivial⟩⟩⟩⟩
          ·
           intro w608 hE609
           have hL610 := hL512.ext hE609
           have K611 := ke hL512 hE609
           refine zau (fun _ _ => zat (zai rfl (er rfl))) ?_
           refine zau (fun _ hE620 => zat (zbd (vs := [p_v1, (zaa p.Bound.Negative), p_v2]) zba rfl ti34 rfl ((hL610.ext hE620).at 1 rfl rfl) rfl rfl (er rfl))) ?_
           refine zcq ?_ ?_
           ·
            rintro w624 Z625 hE626 hZ627 ⟨-⟩
            have hE516 : Els rIneq (vZ w608 w S [some b414, some b381, some b1] Z625 w624) [p_v1, (zaa p.Bound.Negative), p_v2] [(Ineq.mk p.Form p.Bound)] := (zco (a := [p_v1, (zaa p.Bound.Negative), p_v2]) (rIneq_close ⟨p_v1, p_v2, rfl, ((((((((f387.mono (K390 S)).mono (K419 S)).mono (K493 S)).mono (K498 S)).mono (K503 S)).mono (K513 S)).mono (K611 S)).mono (Zv.old (Z := Z625) hE626)), ((((((((f386.mono (K390 S)).mono (K419 S)).mono (K493 S)).mono (K498 S)).mono (K503 S)).mono (K513 S)).mono (K611 S)).mono (Zv.old (Z := Z625) hE626)), trivial⟩) zct)
            refine zat (zcp (r := rIneq) (vs := [(zan #[p_v1, (zaa p.Bound.Negative), p_v2])]) (css := [[p_v1, (zaa p.Bound.Negative), p_v2]]) (xs := [(Ineq.mk p.Form p.Bound)]) zbm ti34 (zae rfl) rfl rfl ⟨rfl, rfl, trivial⟩ (zae rfl) hE516 rfl (Go.X.Loc.begin0 w624) ?_)
            intro b515 w630 hc517 hL631 hS632
            have hN633 : NewOwn w624 w630 [some b515] [zab ([] ++ ([p_v1, (zaa p.Bound.Negative), p_v2] ++ []))] := hL631.newOwn [0] rfl rfl rfl
            exact zcj hL631.done hZ627 hN633 (fun _ h => h) ⟨b515, [p_v1, (zaa p.Bound.Negative), p_v2], rfl, hN633.2.2.1, (hE516.mono (Zv.grow hL631.done)), hc517, trivial⟩
           intro z2
           refine zcq ?_ ?_
           ·
            rintro w634 Z635 hE636 hZ637 ⟨⟨⟨b515, cs522, rfl, hO519, hE520, hc521, -⟩, hB2⟩, -⟩
            refine zat (OpY.apClip (r := rIneq) (v := v507) (xs := r505) (ys := [(Ineq.mk p.Form p.Bound)]) (Y := x523) zbm ti34 rfl rfl rfl rfl ((k508.mono (K611 S)).mono (Zv.old (Z := Z635) hE636)) cl509 (Src.row (pre := []) (o := 0) (n := 1) (cap := 1) hO519 hE520 rfl rfl rfl) hE520 (zae rfl) q525 q526 q527 (Go.X.Loc.begin0 w634) ?_)
            intro b528 cap529 sp531 cs530 w640 hE536 hc537 hL641 hS642
            have hN643 : NewOwn w634 w640 [some b528] [zab ([] ++ (cs530 ++ sp531))] := hL641.newOwn [0] rfl rfl rfl
            exact zcj hL641.done hZ637 hN643 (fun _ h => h) ⟨b528, cap529, cs530, sp531, rfl, hN643.2.2.1, (hE536.mono (Zv.grow hL641.done)), hc537, trivial⟩
           intro z3
           refine zau (fun _ _ => zat (zar zby rfl ti40 rfl rfl rfl (er rfl))) ?_
           refine zau (fun _ hE652 => zat (zbb zcv rfl rfl ((hL610.ext hE652).at 2 rfl rfl) rfl (er rfl))) ?_
           refine zau (fun _ _ => zat (zbv (r := rProof) (v := p_v3) (n := n540) (m := (o544 + n540 * rProof.sz)) zcv ti42 rfl q547 rfl q541 q542 rfl (er rfl))) ?_
           refine zau (fun _ hE664 => zat (zdi (vs := [v551, v553, (zaa x538.Bound.Negative), v555, v557]) zby rfl ti42 rfl rfl vw_view (zcw ((ke hL610 hE664) S) (zcw (K611 S) f549)) (er rfl))) ?_
           refine DrH.det ?_ ?_
           ·
            rintro w668 Z669 hE670 hZ671 ⟨⟨⟨b528, cap529, cs530, sp531, rfl, hO535, hE536, hc537, -⟩, hB3⟩, -, -⟩
            have K673 := ke hL610 hE670
            refine zat (zaw en18 rfl rfl (ih x523 x538 (osv (some b528) 0 x523.length cap529) v551 v553 v555 v557 _ Any (own_row_any (pre := []) (o := 0) (n := x523.length) (cap := cap529) hO535 hE536 vw_any rfl rfl rfl hc537) (((k552.mono (K611 S)).mono (K673 S)).mono vw_any) (((k554.mono (K611 S)).mono (K673 S)).mono vw_any) (((k556.mono (K611 S)).mono (K673 S)).mono vw_any) (((k558.mono (K611 S)).mono (K673 S)).mono vw_any) r560 q561) ?_)
            rintro _ w674 hE675 ⟨rfl, -⟩
            exact ⟨hE675, rfl⟩
           refine zau (fun _ _ => zat (zai rfl (er rfl))) ?_
           refine zau (fun _ _ => zdg rfl rfl hc563 (zai rfl (er rfl))) ?_
           refine zau (fun _ hE690 => zdg rfl rfl hc563 (zbd (vs := [v409, (zaa r407.Bound.Negative), v411]) zba rfl ti34 rfl ((hL610.ext hE690).at 0 rfl rfl) rfl rfl (er rfl))) ?_
           refine zcq ?_ ?_
           ·
            rintro w694 Z695 hE696 hZ697 ⟨-, -, -⟩
            have hE565 : Els rIneq (vZ w608 w None [some b414, some b381, some b1] Z695 w694) [v409, (zaa r407.Bound.Negative), v411] [r407] := (zco (a := [v409, (zaa r407.Bound.Negative), v411]) (rIneq_close ⟨v409, v411, rfl, (((((k410.mono (K498 None)).mono (K503 None)).mono (K513 None)).mono (K611 None)).mono (Zv.old (Z := Z695) hE696)), (((((k412.mono (K498 None)).mono (K503 None)).mono (K513 None)).mono (K611 None)).mono (Zv.old (Z := Z695) hE696)), trivial⟩) zct)
            refine zdg rfl rfl hc563 (zcp (r := rIneq) (vs := [(zan #[v409, (zaa r407.Bound.Negative), v411])]) (css := [[v409, (zaa r407.Bound.Negative), v411]]) (xs := [r407]) zbm ti34 (zae rfl) rfl rfl ⟨rfl, rfl, trivial⟩ (zae rfl) hE565 rfl (Go.X.Loc.begin0 w694) ?_)
            intro b564 w700 hc566 hL701 hS702
            have hN703 : NewOwn w694 w700 [some b564] [zab ([] ++ ([v409, (zaa r407.Bound.Negative), v411] ++ []))] := hL701.newOwn [0] rfl rfl rfl
            exact zcj hL701.done hZ697 hN703 (fun _ h => h) ⟨b564, [v409, (zaa r407.Bound.Negative), v411], rfl, hN703.2.2.1, (hE565.mono (Zv.grow hL701.done)), hc566, trivial⟩
           intro z12
           refine zcq ?_ ?_
           ·
            rintro w704 Z705 hE706 hZ707 ⟨⟨⟨b564, cs571, rfl, hO568, hE569, hc570, -⟩, hB12⟩, -, -, -⟩
            refine zdg rfl rfl hc563 (OpY.apClip (r := rIneq) (v := v507) (xs := r505) (ys := [r407]) (Y := x572) zbm ti34 rfl rfl rfl rfl ((k508.mono (K611 S)).mono (Zv.old (Z := Z705) hE706)) cl509 (Src.row (pre := []) (o := 0) (n := 1) (cap := 1) hO568 (hE569.mono (Zv.none (S := S))) rfl rfl rfl) (hE569.mono (Zv.none (S := S))) (zae rfl) q574 q575 q576 (Go.X.Loc.begin0 w704) ?_)
            intro b577 cap578 sp580 cs579 w710 hE585 hc586 hL711 hS712
            have hN713 : NewOwn w704 w710 [some b577] [zab ([] ++ (cs579 ++ sp580))] := hL711.newOwn [0] rfl rfl rfl
            exact zcj hL711.done hZ707 hN713 (fun _ h => h) ⟨b577, cap578, cs579, sp580, rfl, hN713.2.2.1, (hE585.mono (Zv.grow hL711.done)), hc586, trivial⟩
           intro z13
           refine zau (fun _ _ => zdg rfl rfl hc563 (zar zby rfl ti40 rfl rfl rfl (er rfl))) ?_
           refine zau (fun _ hE722 => zdg rfl rfl hc563 (zbb zcv rfl rfl ((hL610.ext hE722).at 2 rfl rfl) rfl (er rfl))) ?_
           refine zau (fun _ _ => zdg rfl rfl hc563 (zbv (r := rProof) (v := p_v3) (n := n589) (m := (o593 + n589 * rProof.sz)) zcv ti42 rfl q596 rfl q590 q591 rfl (er rfl))) ?_
           refine zau (fun _ hE734 => zdg rfl rfl hc563 (zdi (vs := [v600, v602, (zaa x587.Bound.Negative), v604, v606]) zby rfl ti42 rfl rfl vw_view (zcw ((ke hL610 hE734) S) (zcw (K611 S) f598)) (er rfl))) ?_
           refine zcn ?_
           rintro w738 Z739 hE740 hZ741 ⟨⟨⟨b577, cap578, cs579, sp580, rfl, hO584, hE585, hc586, -⟩, hB13⟩, ⟨⟨b564, cs571, rfl, hO568, hE569, hc570, -⟩, hB12⟩, ⟨⟨b528, cap529, cs530, sp531, rfl, hO535, hE536, hc537, -⟩, hB3⟩, ⟨⟨b515, cs522, rfl, hO519, hE520, hc521, -⟩, hB2⟩, -⟩ ap742
           have hB743 : ∀ b, some b ∈ ([some b577, some b564, some b528, some b515] : List (Option Nat)) → w608.heap.size ≤ b ∧ ¬ Z739 b := by
            intro b hb
            rcases List.mem_cons.1 hb with hb' | hb
            ·
             have := hB13 b (by rw [hb']; exact zay); exact ⟨this.1, this.2.2⟩
            rcases List.mem_cons.1 hb with hb' | hb
            ·
             have := hB12 b (by rw [hb']; exact zay); exact ⟨this.1, this.2.2⟩
            rcases List.mem_cons.1 hb with hb' | hb
            ·
             have := hB3 b (by rw [hb']; exact zay); exact ⟨this.1, this.2.2⟩
            rcases List.mem_cons.1 hb with hb' | hb
            ·
             have := hB2 b (by rw [hb']; exact zay); exact ⟨this.1, this.2.2⟩
            cases hb
           replace hE585 := hE585.mono (zcy hL610 hZ741 hB743)
           replace hE569 := hE569.mono (zcy hL610 hZ741 hB743)
           replace hE536 := hE536.mono (zcy hL610 hZ741 hB743)
           replace hE520 := hE520.mono (zcy hL610 hZ741 hB743)
           have hN746 : NewOwn w608 w738 [some b577, some b564, some b528, some b515] [zab ([] ++ (cs579 ++ sp580)), zab ([] ++ (cs571 ++ [])), zab ([] ++ (cs530 ++ sp531)), zab ([] ++ (cs522 ++ []))] := (zdb (zdb (zdb (zdb zca hO519 (fun b hb => (hB743 b (by rw [← hb]; simp)).1) (fun b _ hb => by cases hb)) hO535 (fun b hb => (hB743 b (by rw [← hb]; simp)).1) (fun b hb hm => (List.mem_cons.1 hm).elim (fun e => apE (ap742.2.2.1) rfl rfl b ((footV_osv (ob := (some b528)) (o := 0) (n := x523.length) (cap := cap529)).2 hb) ((footV_osv (ob := (some b515)) (o := 0) (n := 1) (cap := 1)).2 (by rw [e]; exact zay))) (fun hm => by cases hm))) hO568 (fun b hb => (hB743 b (by rw [← hb]; simp)).1) (fun b hb hm => (List.mem_cons.1 hm).elim (fun e => apE (ap742.2.1) rfl rfl b ((footV_osv (ob := (some b564)) (o := 0) (n := 1) (cap := 1)).2 hb) ((footV_osv (ob := (some b528)) (o := 0) (n := x523.length) (cap := cap529)).2 (by rw [e]; exact zay))) (fun hm => (List.mem_cons.1 hm).elim (fun e => apE (ap742.2.1.2) rfl rfl b ((footV_osv (ob := (some b564)) (o := 0) (n := 1) (cap := 1)).2 hb) ((footV_osv (ob := (some b515)) (o := 0) (n := 1) (cap := 1)).2 (by rw [e]; exact zay))) (fun hm => by cases hm)))) hO584 (fun b hb => (hB743 b (by rw [← hb]; simp)).1) (fun b hb hm => (List.mem_cons.1 hm).elim (fun e => apE (ap742.1) rfl rfl b ((footV_osv (ob := (some b577)) (o := 0) (n := x572.length) (cap := cap578)).2 hb) ((footV_osv (ob := (some b564)) (o := 0) (n := 1) (cap := 1)).2 (by rw [e]; exact zay))) (fun hm => (List.mem_cons.1 hm).elim (fun e => apE (ap742.1.2) rfl rfl b ((footV_osv (ob := (some b577)) (o := 0) (n := x572.length) (cap := cap578)).2 hb) ((footV_osv (ob := (some b528)) (o := 0) (n := x523.length) (cap := cap529)).2 (by rw [e]; exact zay))) (fun hm => (List.mem_cons.1 hm).elim (fun e => apE (ap742.1.2.2) rfl rfl b ((footV_osv (ob := (some b577)) (o := 0) (n := x572.length) (cap := cap578)).2 hb) ((footV_osv (ob := (some b515)) (o := 0) (n := 1) (cap := 1)).2 (by rw [e]; exact zay))) (fun hm => by cases hm)))))
           have hp747 := hL610.adoptL hE740 hN746
           have hL744 := hp747.1
           have K745 := ks w hp747.2
           obtain ⟨r748, q749, h⟩ := bind_some h
           have f751 := ((k601.mono (K611 S)).mono (K745 S))
           have f752 := ((k603.mono (K611 S)).mono (K745 S))
           have f753 := ((k605.mono (K611 S)).mono (K745 S))
           have f754 := ((k607.mono (K611 S)).mono (K745 S))
           refine zbu rfl rfl hc563 (zaw en18 rfl rfl (ih x572 x587 (osv (some b577) 0 x572.length cap578) v600 v602 v604 v606 _ Any (own_row_any (pre := []) (o := 0) (n := x572.length) (cap := cap578) (hL744.at 0 rfl rfl) hE585 vw_any rfl rfl rfl hc586) (f751.mono vw_any) (f752.mono vw_any) (f753.mono vw_any) (f754.mono vw_any) r748 q749) ?_)
           rintro _ w755 hE758 ⟨rfl, -⟩
           have hL756 := hL744.ext hE758
           refine zaf (zcm (t := r560) (v := (zaa r748)) rfl hc563 rfl ?_)
           refine zaf (zak (v := (zaa r748)) rfl ?_)
           refine zap (zbl ?_)
           obtain rfl := zag h
           refine ⟨[(zaa r748)], ⟨rfl, trivial⟩, ⟨_, rfl, hL756.done, ?_⟩⟩
           exact ⟨rfl, trivial⟩
         ·
          replace h := ite_f hc563 h
          refine zcc 18 [] [] (fun W1 => [.det v507, .det (zan #[p_v1, (zaa p.Bound.Negative), p_v2]), .rel (fun v Z w' => ∃ b515 cs522, (osv (some b515) 0 1 1) = v ∧ OwnC w' (some b515) (zab ([] ++ (cs522 ++ []))) ∧ Els rIneq (vZ W1 w S [some b414, some b381, some b1] Z w') cs522 [(Ineq.mk p.Form p.Bound)] ∧ (cs522 ++ [] : List Value).length = 1 * rIneq.sz ∧ True) footV, .rel (fun v Z w' => ∃ b528 cap529 cs530 sp531, (osv (some b528) 0 x523.length cap529) = v ∧ OwnC w' (some b528) (zab ([] ++ (cs530 ++ sp531))) ∧ Els rIneq (vZ W1 w S [some b414, some b381, some b1] Z w') cs530 x523 ∧ (cs530 ++ sp531 : List Value).length = cap529 * rIneq.sz ∧ True) footV, .det (zam (some ⟨b1, 4, none⟩)), .det p_v3, .det (zam (some ⟨b543, (o544 + n540 * rProof.sz), none⟩)), .det (zan #[v551, v553, (zaa x538.Bound.Negative), v555, v557]), .det (zaa r560), .det (zaa r560), .det undef, .det undef, .det undef, .det undef, .det undef, .det undef, .det undef, .det undef]) mixed rfl rfl rfl (fun _ => rfl) (fun _ => rfl) ?_ ?_
          ·
           intro W1 _
           exact ⟨fun v Z Z' w w' hΦ hz _ _ hs => by obtain ⟨b515, cs522, rfl, hO519, hE520, hc521, -⟩ := hΦ; exact ⟨b515, cs522, rfl, (hO519.stay (fun b hb => by cases hb; exact zay) hs), (hE520.mono (zcl hz hs)), hc521, trivial⟩, ⟨fun v Z Z' w w' hΦ hz _ _ hs => by obtain ⟨b528, cap529, cs530, sp531, rfl, hO535, hE536, hc537, -⟩ := hΦ; exact ⟨b528, cap529, cs530, sp531, rfl, (hO535.stay (fun b hb => by cases hb; exact zay) hs), (hE536.mono (zcl hz hs)), hc537, trivial⟩, trivial⟩⟩
          ·
           intro w759 hE760
           have hL761 := hL512.ext hE760
           have K762 := ke hL512 hE760
           refine zau (fun _ _ => zat (zai rfl (er rfl))) ?_
           refine zau (fun _ hE771 => zat (zbd (vs := [p_v1, (zaa p.Bound.Negative), p_v2]) zba rfl ti34 rfl ((hL761.ext hE771).at 1 rfl rfl) rfl rfl (er rfl))) ?_
           refine zcq ?_ ?_
           ·
            rintro w775 Z776 hE777 hZ778 ⟨-⟩
            have hE516 : Els rIneq (vZ w759 w S [some b414, some b381, some b1] Z776 w775) [p_v1, (zaa p.Bound.Negative), p_v2] [(Ineq.mk p.Form p.Bound)] := (zco (a := [p_v1, (zaa p.Bound.Negative), p_v2]) (rIneq_close ⟨p_v1, p_v2, rfl, ((((((((f387.mono (K390 S)).mono (K419 S)).mono (K493 S)).mono (K498 S)).mono (K503 S)).mono (K513 S)).mono (K762 S)).mono (Zv.old (Z := Z776) hE777)), ((((((((f386.mono (K390 S)).mono (K419 S)).mono (K493 S)).mono (K498 S)).mono (K503 S)).mono (K513 S)).mono (K762 S)).mono (Zv.old (Z := Z776) hE777)), trivial⟩) zct)
            refine zat (zcp (r := rIneq) (vs := [(zan #[p_v1, (zaa p.Bound.Negative), p_v2])]) (css := [[p_v1, (zaa p.Bound.Negative), p_v2]]) (xs := [(Ineq.mk p.Form p.Bound)]) zbm ti34 (zae rfl) rfl rfl ⟨rfl, rfl, trivial⟩ (zae rfl) hE516 rfl (Go.X.Loc.begin0 w775) ?_)
            intro b515 w781 hc517 hL782 hS783
            have hN784 : NewOwn w775 w781 [some b515] [zab ([] ++ ([p_v1, (zaa p.Bound.Negative), p_v2] ++ []))] := hL782.newOwn [0] rfl rfl rfl
            exact zcj hL782.done hZ778 hN784 (fun _ h => h) ⟨b515, [p_v1, (zaa p.Bound.Negative), p_v2], rfl, hN784.2.2.1, (hE516.mono (Zv.grow hL782.done)), hc517, trivial⟩
           intro z2
           refine zcq ?_ ?_
           ·
            rintro w785 Z786 hE787 hZ788 ⟨⟨⟨b515, cs522, rfl, hO519, hE520, hc521, -⟩, hB2⟩, -⟩
            refine zat (OpY.apClip (r := rIneq) (v := v507) (xs := r505) (ys := [(Ineq.mk p.Form p.Bound)]) (Y := x523) zbm ti34 rfl rfl rfl rfl ((k508.mono (K762 S)).mono (Zv.old (Z := Z786) hE787)) cl509 (Src.row (pre := []) (o := 0) (n := 1) (cap := 1) hO519 hE520 rfl rfl rfl) hE520 (zae rfl) q525 q526 q527 (Go.X.Loc.begin0 w785) ?_)
            intro b528 cap529 sp531 cs530 w791 hE536 hc537 hL792 hS793
            have hN794 : NewOwn w785 w791 [some b528] [zab ([] ++ (cs530 ++ sp531))] := hL792.newOwn [0] rfl rfl rfl
            exact zcj hL792.done hZ788 hN794 (fun _ h => h) ⟨b528, cap529, cs530, sp531, rfl, hN794.2.2.1, (hE536.mono (Zv.grow hL792.done)), hc537, trivial⟩
           intro z3
           refine zau (fun _ _ => zat (zar zby rfl ti40 rfl rfl rfl (er rfl))) ?_
           refine zau (fun _ hE803 => zat (zbb zcv rfl rfl ((hL761.ext hE803).at 2 rfl rfl) rfl (er rfl))) ?_
           refine zau (fun _ _ => zat (zbv (r := rProof) (v := p_v3) (n := n540) (m := (o544 + n540 * rProof.sz)) zcv ti42 rfl q547 rfl q541 q542 rfl (er rfl))) ?_
           refine zau (fun _ hE815 => zat (zdi (vs := [v551, v553, (zaa x538.Bound.Negative), v555, v557]) zby rfl ti42 rfl rfl vw_view (zcw ((ke hL761 hE815) S) (zcw (K762 S) f549)) (er rfl))) ?_
           refine DrH.det ?_ ?_
           ·
            rintro w819 Z820 hE821 hZ822 ⟨⟨⟨b528, cap529, cs530, sp531, rfl, hO535, hE536, hc537, -⟩, hB3⟩, -, -⟩
            have K824 := ke hL761 hE821
            refine zat (zaw en18 rfl rfl (ih x523 x538 (osv (some b528) 0 x523.length cap529) v551 v553 v555 v557 _ Any (own_row_any (pre := []) (o := 0) (n := x523.length) (cap := cap529) hO535 hE536 vw_any rfl rfl rfl hc537) (((k552.mono (K762 S)).mono (K824 S)).mono vw_any) (((k554.mono (K762 S)).mono (K824 S)).mono vw_any) (((k556.mono (K762 S)).mono (K824 S)).mono vw_any) (((k558.mono (K762 S)).mono (K824 S)).mono vw_any) r560 q561) ?_)
            rintro _ w825 hE826 ⟨rfl, -⟩
            exact ⟨hE826, rfl⟩
           refine zau (fun _ _ => zat (zai rfl (er rfl))) ?_
           refine zau (fun _ _ => zdk rfl rfl (eq_false_of_ne_true hc563) (er rfl)) ?_
           refine zau (fun _ _ => zdk rfl rfl (eq_false_of_ne_true hc563) (er rfl)) ?_
           refine zau (fun _ _ => zdk rfl rfl (eq_false_of_ne_true hc563) (er rfl)) ?_
           refine zau (fun _ _ => zdk rfl rfl (eq_false_of_ne_true hc563) (er rfl)) ?_
           refine zau (fun _ _ => zdk rfl rfl (eq_false_of_ne_true hc563) (er rfl)) ?_
           refine zau (fun _ _ => zdk rfl rfl (eq_false_of_ne_true hc563) (er rfl)) ?_
           refine zau (fun _ _ => zdk rfl rfl (eq_false_of_ne_true hc563) (er rfl)) ?_
           refine zau (fun _ _ => zdk rfl rfl (eq_false_of_ne_true hc563) (er rfl)) ?_
           refine zcn ?_
           rintro w881 Z882 hE883 hZ884 ⟨⟨⟨b528, cap529, cs530, sp531, rfl, hO535, hE536, hc537, -⟩, hB3⟩, ⟨⟨b515, cs522, rfl, hO519, hE520, hc521, -⟩, hB2⟩, -⟩ ap885
           have hB886 : ∀ b, some b ∈ ([some b528, some b515] : List (Option Nat)) → w759.heap.size ≤ b ∧ ¬ Z882 b := by
            intro b hb
            rcases List.mem_cons.1 hb with hb' | hb
            ·
             have := hB3 b (by rw [hb']; exact zay); exact ⟨this.1, this.2.2⟩
            rcases List.mem_cons.1 hb with hb' | hb
            ·
             have := hB2 b (by rw [hb']; exact zay); exact ⟨this.1, this.2.2⟩
            cases hb
           replace hE536 := hE536.mono (zcy hL761 hZ884 hB886)
           replace hE520 := hE520.mono (zcy hL761 hZ884 hB886)
           have hN889 : NewOwn w759 w881 [some b528, some b515] [zab ([] ++ (cs530 ++ sp531)), zab ([] ++ (cs522 ++ []))] := (zdb (zdb zca hO519 (fun b hb => (hB886 b (by rw [← hb]; simp)).1) (fun b _ hb => by cases hb)) hO535 (fun b hb => (hB886 b (by rw [← hb]; simp)).1) (fun b hb hm => (List.mem_cons.1 hm).elim (fun e => apE (ap885.1) rfl rfl b ((footV_osv (ob := (some b528)) (o := 0) (n := x523.length) (cap := cap529)).2 hb) ((footV_osv (ob := (some b515)) (o := 0) (n := 1) (cap := 1)).2 (by rw [e]; exact zay))) (fun hm => by cases hm)))
           have hp890 := hL761.adoptL hE883 hN889
           have hL887 := hp890.1
           refine zbt rfl rfl (eq_false_of_ne_true hc563) ?_
           refine zaf (zbz (t := r560) (v := (zaa false)) rfl (eq_false_of_ne_true hc563) rfl ?_)
           refine zaf (zak (v := (zaa false)) rfl ?_)
           refine zap (zbl ?_)
           obtain rfl := zag h
           refine ⟨[(zaa false)], ⟨rfl, trivial⟩, ⟨_, rfl, hL887.done, ?_⟩⟩
           exact ⟨rfl, trivial⟩
     ·
      replace h := ite_f hc357 h
      refine zaj (zah rfl (zaf (zak (v := (zaa false)) rfl ?_)))
      refine zap (zbl ?_)
      obtain rfl := zag h
      refine ⟨[(zaa false)], ⟨rfl, trivial⟩, ⟨_, rfl, hL340.done, ?_⟩⟩
      exact ⟨rfl, trivial⟩
theorem cSize_w (N : Nat) : ∀ (p : Proof) (p_v : Value) (p_v1 : Value) (p_v2 : Value) (p_v3 : Value) (w : World) (S : Nat → Prop) (p_h : Rs rStep (vH w S [] w) p_v p.Steps) (p_h1 : Rs rBig (vH w S [] w) p_v1 p.Form) (p_h2 : Rs (rInt .u32) (vH w S [] w) p_v2 p.Bound.Digits) (p_h3 : Rs rProof (vH w S [] w) p_v3 p.Children) (r : Int) (h : cSize N p = some r), Calls Try.prog 21 #[(zan #[p_v, p_v1, (zaa p.Bound.Negative), p_v2, p_v3])] w (Ret w (fun v w' => (zac .i64 r) = v ∧ True)) := by
 induction N with
 | zero => intro p p_v p_v1 p_v2 p_v3 w S p_h p_h1 p_h2 p_h3 r h; cases (show (none : Option Int) = some r from h)
 | succ N ih =>
  intro p p_v p_v1 p_v2 p_v3 w S p_h p_h1 p_h2 p_h3 r h
  replace h : cSize_step N (cSize N) p = some r := h
  unfold cSize_step at h
  have hL : vL w w [] [] := Go.X.Loc.begin0 w
  refine calls_of (l := [(zan #[p_v, p_v1, (zaa p.Bound.Negative), p_v2, p_v3])]) (rl := [.tmp 2]) (n := 28) Try.func21 rfl rfl rfl (zae rfl) ?_
  refine zaj (zah rfl (zaf (zdc (cs := [p_v, p_v1, (zaa p.Bound.Negative), p_v2, p_v3]) rfl rfl hL ?_)))
  intro b1 w2 hL3 hS5
  have K4 := ks w hS5
  refine zaf (zak (v := (zac .i64 0)) rfl ?_)
  refine zap (zaj (zah rfl (zaf (zar (q := 0) zby rfl ti39 rfl rfl rfl ?_))))
  refine zaf (zbb (v := p_v) Try.underlying39 rfl rfl (hL3.at 0 rfl rfl) rfl ?_)
  have f6 := (p_h.mono (K4 S))
  refine zaf (zbf (v := p_v) Try.underlying39 rfl f6 ?_)
  refine zaf (zak (v := (zac .i64 (p.Steps.length : Int))) rfl ?_)
  refine zap (zaj (zaj (zah rfl (zaf (zar (q := 4) zby rfl ti40 rfl rfl rfl ?_)))))
  refine zaf (zbb (v := p_v3) zcv rfl rfl (hL3.at 0 rfl rfl) rfl ?_)
  have f7 := (p_h3.mono (K4 S))
  refine zaf (zbf (v := p_v3) zcv rfl f7 ?_)
  refine zaf (zdm (x := (p.Children.length : Int)) (y := 0) (((p.Children.length : Int) : Int) > 0) rfl rfl zbk ?_)
  refine zap ?_
  obtain ⟨s11, h, g12⟩ := bind_some h
  refine zbr (fun e w' => ∃ (n10 : Int) (u : Env), n10 = s11 ∧ e = upds [(1, (zam (some ⟨b1, 0, none⟩))), (3, (zac .i64 n10))] u ∧ vL w w' [some b1] [zab [p_v, p_v1, (zaa p.Bound.Negative), p_v2, p_v3]] ∧ Keep w.heap.size [some b1] w2 [some b1] w' ∧ True) ?_ ?_
  ·
   refine zbe (((p.Children.length : Int) : Int) > 0) rfl (fun hc13 => ?_) (fun hc13 => ?_)
   ·
    replace h := ite_t hc13 h
    refine zah rfl (zaf (zai (v := (zac .i64 (p.Steps.length : Int))) rfl ?_))
    refine zaf (zcd (x := (p.Steps.length : Int)) (y := 1) (z := (iw ((p.Steps.length : Int) + 1))) rfl rfl rfl ?_)
    refine zaf (zak (v := (zac .i64 (iw ((p.Steps.length : Int) + 1)))) rfl ?_)
    refine zap ?_
    obtain rfl := zag h
    refine zas ?_
    exact ⟨(iw ((p.Steps.length : Int) + 1)), _, rfl, (upds_sym ⟨rfl, rfl, trivial⟩), hL3, zbo, trivial⟩
   ·
    replace h := ite_f hc13 h
    refine zbg ?_
    obtain rfl := zag h
    refine zas ?_
    exact ⟨(p.Steps.length : Int), _, rfl, (upds_sym ⟨rfl, rfl, trivial⟩), hL3, zbo, trivial⟩
  ·
   rintro _ w14 ⟨n10, u, rfl, rfl, hL15, K16, -⟩
   replace h := g12
   try dsimp only at h
   refine zaj (zaj (zah rfl (zaf (zar (q := 4) zby rfl ti40 rfl rfl rfl ?_))))
   refine zaf (zbb (v := p_v3) zcv rfl rfl (hL15.at 0 rfl rfl) rfl ?_)
   have f17 := (f7.mono (K16 S))
   refine zaf (zbf (v := p_v3) zcv rfl f17 ?_)
   refine zaf (zai (v := (zac .i64 0)) rfl ?_)
   refine zap ?_
   obtain ⟨s123, hl125, g124⟩ := bind_some h
   refine zbr (fun e w' => ∃ (n122 : Int) (u : Env), n122 = s123 ∧ e = upds [(3, (zac .i64 n122))] u ∧ vL w w' [] [] ∧ Keep w.heap.size [some b1] w14 [] w' ∧ True) ?_ ?_
   ·
    refine zbj ?_
    have hp127 := hL15.pick [] rfl rfl rfl
    have hL129 : vL w w14 [] [] := hp127.1
    have K128 := ks w hp127.2
    refine zcg hl125 (fun (ss : (Int × Int)) (e : Env) (w' : World) => match ss with | (n120, x121) => ∃ (u : Env), e = upds [(3, (zac .i64 n120)), (16, p_v3), (17, (zac .i64 (p.Children.length : Int))), (18, (zac .i64 x121))] u ∧ vL w w' [] [] ∧ Keep w.heap.size [some b1] w14 [] w' ∧ True) ⟨_, (upds_sym ⟨rfl, rfl, rfl, rfl, trivial⟩), hL129, K128, trivial⟩ ?_
    rintro ⟨n120, x121⟩ oo _ w130 ⟨u, rfl, hL131, K132, -⟩ h hd126
    rw [cSize_b1] at h
    refine zaj (zah rfl (zaf (zcr (x := x121) (y := (p.Children.length : Int)) ((x121 : Int) < (p.Children.length : Int)) rfl rfl zbk ?_)))
    refine zap (zaj ?_)
    refine zbe ((x121 : Int) < (p.Children.length : Int)) rfl (fun hc133 => ?_) (fun hc133 => ?_)
    ·
     replace h := ite_t hc133 h
     refine zbg (zaj (zbj (zaj (zah rfl ?_))))
     obtain ⟨x134, q135, h⟩ := bind_some h
     obtain ⟨n136, q137, q138⟩ := idx_some q135
     have f155 := (f17.mono (K132 S))
     obtain ⟨b139, o140, c141, vs142, q143, q144, f145, q146⟩ := zcz f155 q138
     obtain ⟨v147, v149, v151, v153, rfl, k148, k150, k152, k154, -⟩ := rProof_open q146
     refine zaf (zbv (r := rProof) (v := p_v3) (n := n136) (m := (o140 + n136 * rProof.sz)) zcv ti42 rfl q143 rfl q137 q138 rfl ?_)
     refine zaf (zdi (vs := [v147, v149, (zaa x134.Bound.Negative), v151, v153]) zby rfl ti42 rfl rfl vw_view f145 ?_)
     refine zaf (zbw (cs := [(zad none 0 0), (zad none 0 0), (zaa false), (zad none 0 0), (zad none 0 0)]) ti42 rfl hL131 ?_)
     intro b156 w157 hL158 hS160
     have K159 := ks w hS160
     have f161 := (k154.mono (K159 S))
     have f162 := (k152.mono (K159 S))
     have f163 := (k150.mono (K159 S))
     have f164 := (k148.mono (K159 S))
     refine zcb (zbh (vs := [v147, v149, (zaa x134.Bound.Negative), v151, v153]) ti42 rfl rfl rfl rfl (ones_cons f164.one (ones_cons f163.one (ones_cons rfl (ones_cons f162.one (ones_cons f161.one ones_nil))))) hL158 0 rfl rfl (zae rfl) ?_)
     intro w165 (hL166 : vL w w165 [some b156] [zab [v147, v149, (zaa x134.Bound.Negative), v151, v153]]) hS168
     have K167 := ks w hS168
     refine zap (zah rfl (zaf (zai (v := (zac .i64 n120)) rfl ?_)))
     refine zaf (zbd (vs := [v147, v149, (zaa x134.Bound.Negative), v151, v153]) zby rfl ti42 rfl (hL166.at 0 rfl rfl) rfl rfl ?_)
     obtain ⟨r169, q170, h⟩ := bind_some h
     have f172 := (f164.mono (K167 S))
     have f173 := (f163.mono (K167 S))
     have f174 := (f162.mono (K167 S))
     have f175 := (f161.mono (K167 S))
     refine zaf (zaw en21 rfl rfl (ih x134 v147 v149 v151 v153 _ Any (f172.mono vw_any) (f173.mono vw_any) (f174.mono vw_any) (f175.mono vw_any) r169 q170) ?_)
     rintro _ w176 hE179 ⟨rfl, -⟩
     have hL177 := hL166.ext hE179
     have K178 := ke hL166 hE179
     refine zaf (zcd (x := n120) (y := r169) (z := (iw (n120 + r169))) rfl rfl rfl ?_)
     refine zaf (zak (v := (zac .i64 (iw (n120 + r169)))) rfl ?_)
     refine zap (zbs (zah rfl (zaf (zcd (x := x121) (y := 1) (z := (iw (x121 + 1))) rfl rfl rfl ?_))))
     refine zaf (zai (v := (zac .i64 (iw (x121 + 1)))) rfl ?_)
     refine zap ?_
     have hp180 := hL177.pick [] rfl rfl rfl
     have hL182 : vL w w176 [] [] := hp180.1
     have K181 := ks w hp180.2
     obtain rfl := zag h
     refine zas ⟨((iw (n120 + r169)), (iw (x121 + 1))), rfl, ?_⟩
     exact ⟨_, (upds_sym ⟨rfl, rfl, rfl, rfl, trivial⟩), hL182, (zaq (zaq (zaq (zaq K132 K159) K167) K178) K181), trivial⟩
    ·
     replace h := ite_f hc133 h
     refine zcs rfl ?_
     obtain rfl := zag h
     obtain rfl := hd126 _ rfl
     replace h := g124
     try dsimp only at h
     skip
     refine zas ?_
     exact ⟨n120, _, rfl, (upds_sym ⟨rfl, trivial⟩), hL131, K132, trivial⟩
   ·
    rintro _ w183 ⟨n122, u, rfl, rfl, hL184, K185, -⟩
    replace h := g124
    try dsimp only at h
    refine zaj (zah rfl (zaf (zai (v := (zac .i64 n122)) rfl ?_)))
    refine zaf (zak (v := (zac .i64 n122)) rfl ?_)
    refine zap (zbl ?_)
    obtain rfl := zag h
    refine ⟨[(zac .i64 n122)], ⟨rfl, trivial⟩, ⟨_, rfl, hL184.done, ?_⟩⟩
    exact ⟨rfl, trivial⟩
theorem cSum_w (N : Nat) (uses : (List Use)) (uses_v : Value) (w : World) (S : Nat → Prop) (uses_h : Rs rUse (vH w S [] w) uses_v uses) (r : Proof) (h : cSum N uses = some r) :
  Calls Try.prog 20 #[uses_v] w (Ret w (fun v w' => ∃ (v0_0 : Value) (v0_1 : Value) (v0_2 : Value) (v0_3 : Value), (zan #[v0_0, v0_1, (zaa r.Bound.Negative), v0_2, v0_3]) = v ∧ Rs rStep (vH w None [] w') v0_0 r.Steps ∧ Rs rBig (vH w None [] w') v0_1 r.Form ∧ Rs (rInt .u32) (vH w None [] w') v0_2 r.Bound.Digits ∧ Rs rProof (vH w None [] w') v0_3 r.Children ∧ True)) := by
 unfold cSum at h
 have hL : vL w w [] [] := Go.X.Loc.begin0 w
 refine calls_of (l := [uses_v]) (rl := [.cell 2 42]) (n := 29) Try.func20 rfl rfl rfl (zae rfl) ?_
 refine zaj (zah rfl (zaf (zbw (cs := [(zad none 0 0), (zad none 0 0), (zaa false), (zad none 0 0), (zad none 0 0)]) ti42 rfl hL ?_)))
 intro b1 w2 hL3 hS5
 have K4 := ks w hS5
 refine zap (zaj (zah rfl ?_))
 obtain ⟨r6, q7, h⟩ := bind_some h
 refine zaf (zaw en58 rfl rfl (bOf_w N 1 _ Any r6 q7) ?_)
 rintro _ w11 hE14 ⟨v8, rfl, k9, -⟩
 replace k9 := k9.mono (zbc (S := None) hL3 [])
 have hL12 := hL3.ext hE14
 have K13 := ke hL3 hE14
 refine zaf (zcx (zc := [(zad none 0 0), (zaa false), (zad none 0 0)]) (cs := [(zad none 0 0), (zaa r6.Negative), v8]) (is := [1]) (vs := [(zan #[(zaa r6.Negative), v8])]) (css := [[(zaa r6.Negative), v8]]) pl28 ti28 rfl rfl rfl ⟨rfl, trivial⟩ rfl ?_)
 refine zaf (zbw (cs := [(zad none 0 0), (zaa false), (zad none 0 0)]) ti28 rfl hL12 ?_)
 intro b15 w16 hL17 hS19
 have K18 := ks w hS19
 have f20 := (k9.mono (K18 None))
 refine zcb (zbh (vs := [(zad none 0 0), (zaa r6.Negative), v8]) ti28 rfl rfl rfl rfl (ones_cons rfl (ones_cons rfl (ones_cons f20.one ones_nil))) hL17 0 rfl rfl (zae rfl) ?_)
 intro w21 (hL22 : vL w w21 [some b15, some b1] [zab [(zad none 0 0), (zaa r6.Negative), v8], zab [(zad none 0 0), (zad none 0 0), (zaa false), (zad none 0 0), (zad none 0 0)]]) hS24
 have K23 := ks w hS24
 refine zap (zaj (zaj (zah rfl (zaf (zai (v := uses_v) rfl ?_)))))
 have f25 := ((((uses_h.mono (K4 S)).mono (K13 S)).mono (K18 S)).mono (K23 S))
 refine zaf (zbf (v := uses_v) zbx rfl f25 ?_)
 refine zaf (zai (v := (zac .i64 0)) rfl ?_)
 refine zap ?_
 obtain ⟨s348, hl350, g349⟩ := bind_some h
 refine zbr (fun e w' => ∃ (uses344 : (List Use)) (ob340 : Option Nat) (cap341 : Nat) (sp342 : List Value) (cs343 : List Value) (ln347 : Nat) (u : Env), uses344 = s348 ∧ e = upds [(2, (zam (some ⟨b1, 0, none⟩))), (3, (zam (some ⟨b15, 0, none⟩)))] u ∧ vL w w' [some b1, some b15, ob340] [zab [(zad none 0 0), (zad none 0 0), (zaa false), (zad none 0 0), (zad none 0 0)], zab [(osv ob340 0 ln347 cap341), (zaa r6.Negative), v8], zab ([] ++ (cs343 ++ sp342))] ∧ Keep w.heap.size [some b15, some b1] w21 [some b1, some b15, ob340] w' ∧ Els rUse (vH w None [some b1, some b15, ob340] w') cs343 uses344 ∧ ln347 = List.length uses344 ∧ (cs343 ++ sp342).length = cap341 * rUse.sz ∧ True) ?_ ?_
 ·
  refine zbj ?_
  have hp352 := hL22.addNil
  have hL353 : vL w w21 [none, some b15, some b1] [zab ([] ++ ([] ++ [])), zab [(zad none 0 0), (zaa r6.Negative), v8], zab [(zad none 0 0), (zad none 0 0), (zaa false), (zad none 0 0), (zad none 0 0)]] := hp352.1
  have K354 := ks w hp352.2
  have hp356 := hL353.pick [2, 1, 0] rfl rfl rfl
  have hL358 : vL w w21 [some b1, some b15, none] [zab [(zad none 0 0), (zad none 0 0), (zaa false), (zad none 0 0), (zad none 0 0)], zab [(osv none 0 (List.length ([] : (List Use))) 0), (zaa r6.Negative), v8], zab ([] ++ ([] ++ []))] := hp356.1
  have K357 := ks w hp356.2
  have f359 := ((zct (r := rUse)).mono (K357 None))
  refine zcg hl350 (fun (ss : ((List Use) × Int)) (e : Env) (w' : World) => match ss with | (uses332, x336) => ∃ (ob328 : Option Nat) (cap329 : Nat) (sp330 : List Value) (cs331 : List Value) (ln335 : Nat) (u : Env), e = upds [(2, (zam (some ⟨b1, 0, none⟩))), (3, (zam (some ⟨b15, 0, none⟩))), (8, uses_v), (9, (zac .i64 (uses.length : Int))), (10, (zac .i64 x336))] u ∧ vL w w' [some b1, some b15, ob328] [zab [(zad none 0 0), (zad none 0 0), (zaa false), (zad none 0 0), (zad none 0 0)], zab [(osv ob328 0 ln335 cap329), (zaa r6.Negative), v8], zab ([] ++ (cs331 ++ sp330))] ∧ Keep w.heap.size [some b15, some b1] w21 [some b1, some b15, ob328] w' ∧ Els rUse (vH w None [some b1, some b15, ob328] w') cs331 uses332 ∧ ln335 = List.length uses332 ∧ (cs331 ++ sp330).length = cap329 * rUse.sz ∧ True) ⟨none, 0, [], [], (List.length ([] : (List Use))), _, (upds_sym ⟨rfl, rfl, rfl, rfl, rfl, trivial⟩), hL358, (zaq K354 K357), f359, rfl, (show ([] ++ [] : List Value).length = 0 * rUse.sz by simp), trivial⟩ ?_
  rintro ⟨uses332, x336⟩ oo _ w360 ⟨ob328, cap329, sp330, cs331, ln335, u, rfl, hL361, K362, hE333, rfl, hc334, -⟩ h hd351
  rw [cSum_b1] at h
  refine zaj (zah rfl (zaf (zcr (x := x336) (y := (uses.length : Int)) ((x336 : Int) < (uses.length : Int)) rfl rfl zbk ?_)))
  refine zap (zaj ?_)
  refine zbe ((x336 : Int) < (uses.length : Int)) rfl (fun hc363 => ?_) (fun hc363 => ?_)
  ·
   replace h := ite_t hc363 h
   refine zbg (zaj (zbj (zaj (zah rfl ?_))))
   obtain ⟨x364, q365, h⟩ := bind_some h
   obtain ⟨n366, q367, q368⟩ := idx_some q365
   have f379 := (f25.mono (K362 S))
   obtain ⟨b369, o370, c371, vs372, q373, q374, f375, q376⟩ := zcz f379 q368
   obtain ⟨v377, rfl, k378, -⟩ := rUse_open q376
   refine zaf (zbv (r := rUse) (v := uses_v) (n := n366) (m := (o370 + n366 * rUse.sz)) zbx ti50 rfl q373 rfl q367 q368 rfl ?_)
   refine zaf (zdi (vs := [(zac .i64 x364.Index), (zaa x364.N.Negative), v377]) zch rfl ti50 rfl rfl vw_view f375 ?_)
   refine zaf (zbw (cs := [(zac .i64 0), (zaa false), (zad none 0 0)]) ti50 rfl hL361 ?_)
   intro b380 w381 hL382 hS384
   have K383 := ks w hS384
   have f385 := (k378.mono (K383 S))
   refine zcb (zbh (vs := [(zac .i64 x364.Index), (zaa x364.N.Negative), v377]) ti50 rfl rfl rfl rfl (ones_cons rfl (ones_cons rfl (ones_cons f385.one ones_nil))) hL382 0 rfl rfl (zae rfl) ?_)
   intro w386 (hL387 : vL w w386 [some b380, some b1, some b15, ob328] [zab [(zac .i64 x364.Index), (zaa x364.N.Negative), v377], zab [(zad none 0 0), (zad none 0 0), (zaa false), (zad none 0 0), (zad none 0 0)], zab [(osv ob328 0 uses332.length cap329), (zaa r6.Negative), v8], zab ([] ++ (cs331 ++ sp330))]) hS389
   have K388 := ks w hS389
   refine zap ?_
   obtain ⟨r390, q391, h⟩ := bind_some h
   refine zcc 9 [] [] (fun W1 => [.det (zam (some ⟨b15, 0, none⟩)), .det (osv ob328 0 uses332.length cap329), .det (zam (some ⟨b380, 0, none⟩)), .det (zac .i64 x364.Index), .det (zam (some ⟨b380, 1, none⟩)), .det (zan #[(zaa x364.N.Negative), v377]), .rel (fun v Z w' => ∃ v392, (zan #[(zaa r390.Negative), v392]) = v ∧ Rs (rInt .u32) (vZ W1 w None [some b380, some b1, some b15, ob328] Z w') v392 r390.Digits ∧ True) (fun _ => []), .rel (fun v Z w' => ∃ v395, (zan #[(zac .i64 x364.Index), (zaa r390.Negative), v395]) = v ∧ Rs (rInt .u32) (vZ W1 w None [some b380, some b1, some b15, ob328] Z w') v395 r390.Digits ∧ True) (fun _ => []), .rel (fun v Z w' => ∃ b397 cs404, (osv (some b397) 0 1 1) = v ∧ OwnC w' (some b397) (zab ([] ++ (cs404 ++ []))) ∧ Els rUse (vZ W1 w None [some b380, some b1, some b15, ob328] Z w') cs404 [(Use.mk x364.Index r390)] ∧ (cs404 ++ [] : List Value).length = 1 * rUse.sz ∧ True) footV]) mixed rfl rfl rfl (fun _ => rfl) (fun _ => rfl) ?_ ?_
   ·
    intro W1 _
    exact ⟨fun v Z Z' w w' hΦ hz _ _ hs => by obtain ⟨v392, rfl, k393, -⟩ := hΦ; exact ⟨v392, rfl, (k393.mono (zcl hz hs)), trivial⟩, ⟨fun v Z Z' w w' hΦ hz _ _ hs => by obtain ⟨v395, rfl, k396, -⟩ := hΦ; exact ⟨v395, rfl, (k396.mono (zcl hz hs)), trivial⟩, ⟨fun v Z Z' w w' hΦ hz _ _ hs => by obtain ⟨b397, cs404, rfl, hO401, hE402, hc403, -⟩ := hΦ; exact ⟨b397, cs404, rfl, (hO401.stay (fun b hb => by cases hb; exact zay) hs), (hE402.mono (zcl hz hs)), hc403, trivial⟩, trivial⟩⟩⟩
   ·
    intro w405 hE406
    have hL407 := hL387.ext hE406
    have K408 := ke hL387 hE406
    refine zau (fun _ _ => zat (zar zce rfl ti23 rfl rfl rfl (er rfl))) ?_
    refine zau (fun _ hE417 => zat (zbb zbx rfl rfl ((hL407.ext hE417).at 2 rfl rfl) rfl (er rfl))) ?_
    refine zau (fun _ _ => zat (zar zch rfl ti3 rfl rfl rfl (er rfl))) ?_
    refine zau (fun _ hE429 => zat (zbb zbq rfl rfl ((hL407.ext hE429).at 0 rfl rfl) rfl (er rfl))) ?_
    refine zau (fun _ _ => zat (zar zch rfl ti26 rfl rfl rfl (er rfl))) ?_
    refine zau (fun _ hE441 => zat (zbd (vs := [(zaa x364.N.Negative), v377]) zal rfl ti26 rfl ((hL407.ext hE441).at 0 rfl rfl) rfl rfl (er rfl))) ?_
    refine zcq ?_ ?_
    ·
     rintro w445 Z446 hE447 hZ448 ⟨-⟩
     have K450 := ke hL407 hE447
     refine zat (zaw en63 rfl rfl (bNormal_w N x364.N v377 _ Any ((((f385.mono (K388 S)).mono (K408 S)).mono (K450 S)).mono vw_any) r390 q391) ?_)
     rintro _ w451 hE452 ⟨v392, rfl, k393, -⟩
     exact zcj hE452 hZ448 zca (fun _ h => h) ⟨v392, rfl, (k393.mono zda), trivial⟩
    intro z6
    refine zcq ?_ ?_
    ·
     rintro w453 Z454 hE455 hZ456 ⟨⟨⟨v392, rfl, k393, -⟩, hB6⟩, -⟩
     refine zat (zcx (zc := [(zac .i64 0), (zaa false), (zad none 0 0)]) (cs := [(zac .i64 x364.Index), (zaa r390.Negative), v392]) (is := [0, 1]) (vs := [(zac .i64 x364.Index), (zan #[(zaa r390.Negative), v392])]) (css := [[(zac .i64 x364.Index)], [(zaa r390.Negative), v392]]) pl50 ti50 rfl rfl rfl ⟨rfl, rfl, trivial⟩ rfl ?_)
     exact Go.X.Made.same ⟨v392, rfl, k393, trivial⟩
    intro z7
    refine zcq ?_ ?_
    ·
     rintro w459 Z460 hE461 hZ462 ⟨⟨⟨v395, rfl, k396, -⟩, hB7⟩, -, -⟩
     have hE398 : Els rUse (vZ w405 w None [some b380, some b1, some b15, ob328] Z460 w459) [(zac .i64 x364.Index), (zaa r390.Negative), v395] [(Use.mk x364.Index r390)] := (zco (a := [(zac .i64 x364.Index), (zaa r390.Negative), v395]) (rUse_close ⟨v395, rfl, k396, trivial⟩) zct)
     refine zat (zcp (r := rUse) (vs := [(zan #[(zac .i64 x364.Index), (zaa r390.Negative), v395])]) (css := [[(zac .i64 x364.Index), (zaa r390.Negative), v395]]) (xs := [(Use.mk x364.Index r390)]) zbx ti50 (zae rfl) rfl rfl ⟨rfl, rfl, trivial⟩ (zae rfl) hE398 rfl (Go.X.Loc.begin0 w459) ?_)
     intro b397 w465 hc399 hL466 hS467
     have hN468 : NewOwn w459 w465 [some b397] [zab ([] ++ ([(zac .i64 x364.Index), (zaa r390.Negative), v395] ++ []))] := hL466.newOwn [0] rfl rfl rfl
     exact zcj hL466.done hZ462 hN468 (fun _ h => h) ⟨b397, [(zac .i64 x364.Index), (zaa r390.Negative), v395], rfl, hN468.2.2.1, (hE398.mono (Zv.grow hL466.done)), hc399, trivial⟩
    intro z8
    refine zcn ?_
    rintro w469 Z470 hE471 hZ472 ⟨⟨⟨b397, cs404, rfl, hO401, hE402, hc403, -⟩, hB8⟩, ⟨⟨v395, rfl, k396, -⟩, hB7⟩, ⟨⟨v392, rfl, k393, -⟩, hB6⟩, -⟩ ap473
    have hB474 : ∀ b, some b ∈ ([some b397] : List (Option Nat)) → w405.heap.size ≤ b ∧ ¬ Z470 b := by
     intro b hb
     rcases List.mem_cons.1 hb with hb' | hb
     ·
      have := hB8 b (by rw [hb']; exact zay); exact ⟨this.1, this.2.2⟩
     cases hb
    replace hE402 := hE402.mono (zcy hL407 hZ472 hB474)
    replace k396 := k396.mono (zcy hL407 hZ472 hB474)
    replace k393 := k393.mono (zcy hL407 hZ472 hB474)
    have hN477 : NewOwn w405 w469 [some b397] [zab ([] ++ (cs404 ++ []))] := (zdb zca hO401 (fun b hb => (hB474 b (by rw [← hb]; simp)).1) (fun b _ hb => by cases hb))
    have hp478 := hL407.adoptL hE471 hN477
    have hL475 := hp478.1
    have K476 := ks w hp478.2
    obtain ⟨x479, q480, h⟩ := bind_some h
    obtain ⟨q481, q482, q483⟩ := apnd_some q480
    have f491 := ((((hE333.mono (K383 None)).mono (K388 None)).mono (K408 None)).mono (K476 None))
    refine zaf (zdl (r := rUse) (H := (vH w None [some b397, some b380, some b1, some b15, ob328] w469)) (cs := cs331) (sp := sp330) (xs := uses332) (ys := [(Use.mk x364.Index r390)]) (Y := x479) (n := uses332.length) (cap := cap329) (i := 4) zbx ti50 rfl rfl rfl rfl hL475 rfl rfl f491 rfl hc334 (Src.row (pre := []) (o := 0) (n := 1) (cap := 1) (hL475.at 0 rfl rfl) hE402 rfl rfl rfl) hE402 q481 q482 q483 ?_)
    intro ob484 cap485 sp487 cs486 w492 hE488 hc489 (hL493 : vL w w492 [some b397, some b380, some b1, some b15, ob484] [zab ([] ++ (cs404 ++ [])), zab [(zac .i64 x364.Index), (zaa x364.N.Negative), v377], zab [(zad none 0 0), (zad none 0 0), (zaa false), (zad none 0 0), (zad none 0 0)], zab [(osv ob328 0 uses332.length cap329), (zaa r6.Negative), v8], zab ([] ++ (cs486 ++ sp487))]) hS495
    have K494 := ks w hS495
    refine zaf (zar (q := 0) zce rfl ti23 rfl rfl rfl ?_)
    refine zcb (zbh (vs := [(osv ob484 0 x479.length cap485)]) ti23 rfl rfl (one_cells (osv_one _ _ _ _)) rfl (ones_cons (osv_one _ _ _ _) ones_nil) hL493 3 rfl rfl (zae rfl) ?_)
    intro w496 (hL497 : vL w w496 [some b397, some b380, some b1, some b15, ob484] [zab ([] ++ (cs404 ++ [])), zab [(zac .i64 x364.Index), (zaa x364.N.Negative), v377], zab [(zad none 0 0), (zad none 0 0), (zaa false), (zad none 0 0), (zad none 0 0)], zab [(osv ob484 0 x479.length cap485), (zaa r6.Negative), v8], zab ([] ++ (cs486 ++ sp487))]) hS499
    have K498 := ks w hS499
    refine zap (zbs (zah rfl (zaf (zcd (x := x336) (y := 1) (z := (iw (x336 + 1))) rfl rfl rfl ?_))))
    refine zaf (zai (v := (zac .i64 (iw (x336 + 1)))) rfl ?_)
    refine zap ?_
    have hp500 := hL497.pick [2, 3, 4] rfl rfl rfl
    have hL502 : vL w w496 [some b1, some b15, ob484] [zab [(zad none 0 0), (zad none 0 0), (zaa false), (zad none 0 0), (zad none 0 0)], zab [(osv ob484 0 x479.length cap485), (zaa r6.Negative), v8], zab ([] ++ (cs486 ++ sp487))] := hp500.1
    have K501 := ks w hp500.2
    have f503 := (((hE488.mono (K494 None)).mono (K498 None)).mono (K501 None))
    obtain rfl := zag h
    refine zas ⟨(x479, (iw (x336 + 1))), rfl, ?_⟩
    exact ⟨ob484, cap485, sp487, cs486, x479.length, _, (upds_sym ⟨rfl, rfl, rfl, rfl, rfl, trivial⟩), hL502, (zaq (zaq (zaq (zaq (zaq (zaq (zaq K362 K383) K388) K408) K476) K494) K498) K501), f503, rfl, hc489, trivial⟩
  ·
   replace h := ite_f hc363 h
   refine zcs rfl ?_
   obtain rfl := zag h
   obtain rfl := hd351 _ rfl
   replace h := g349
   try dsimp only at h
   skip
   refine zas ?_
   exact ⟨uses332, ob328, cap329, sp330, cs331, uses332.length, _, rfl, (upds_sym ⟨rfl, rfl, trivial⟩), hL361, K362, hE333, rfl, hc334, trivial⟩
 ·
  rintro _ w504 ⟨uses344, ob340, cap341, sp342, cs343, ln347, u, rfl, rfl, hL505, K506, hE345, rfl, hc346, -⟩
  replace h := g349
  try dsimp only at h
  refine zaj (zah rfl (zaf (zbd (vs := [(osv ob340 0 uses344.length cap341), (zaa r6.Negative), v8]) zce rfl ti28 rfl (hL505.at 1 rfl rfl) rfl rfl ?_)))
  have f508 := hL505.freezeRow 2 rfl rfl hE345 rfl rfl rfl hc346
  have hp509 := hL505.pick [0, 1] rfl rfl rfl
  have hL511 : vL w w504 [some b1, some b15] [zab [(zad none 0 0), (zad none 0 0), (zaa false), (zad none 0 0), (zad none 0 0)], zab [(osv ob340 0 uses344.length cap341), (zaa r6.Negative), v8]] := hp509.1
  have K510 := ks w hp509.2
  have f515 := (((f20.mono (K23 None)).mono (K506 None)).mono (K510 None))
  have hE512 : Els rStep (vH w None [some b1, some b15] w504) [(osv ob340 0 uses344.length cap341), (zaa r6.Negative), v8] [(Step.mk uses344 r6)] := (zco (a := [(osv ob340 0 uses344.length cap341), (zaa r6.Negative), v8]) (rStep_close ⟨(osv ob340 0 uses344.length cap341), v8, rfl, f508, f515, trivial⟩) zct)
  refine zaf (zcp (r := rStep) (vs := [(zan #[(osv ob340 0 uses344.length cap341), (zaa r6.Negative), v8])]) (css := [[(osv ob340 0 uses344.length cap341), (zaa r6.Negative), v8]]) (xs := [(Step.mk uses344 r6)]) Try.underlying39 ti28 (zae rfl) rfl rfl ⟨rfl, rfl, trivial⟩ (zae rfl) hE512 rfl hL511 ?_)
  intro b507 w516 hc513 hL517 hS519
  have K518 := ks w hS519
  refine zaf (zcx (zc := [(zad none 0 0), (zad none 0 0), (zaa false), (zad none 0 0), (zad none 0 0)]) (cs := [(osv (some b507) 0 1 1), (zad none 0 0), (zaa false), (zad none 0 0), (zad none 0 0)]) (is := [0]) (vs := [(osv (some b507) 0 1 1)]) (css := [[(osv (some b507) 0 1 1)]]) pl42 ti42 rfl rfl rfl ⟨(one_cells (osv_one _ _ _ _)), trivial⟩ rfl ?_)
  refine zcb (zbh (vs := [(osv (some b507) 0 1 1), (zad none 0 0), (zaa false), (zad none 0 0), (zad none 0 0)]) ti42 rfl rfl rfl rfl (ones_cons (osv_one _ _ _ _) (ones_cons rfl (ones_cons rfl (ones_cons rfl (ones_cons rfl ones_nil))))) hL517 1 rfl rfl (zae rfl) ?_)
  intro w520 (hL521 : vL w w520 [some b507, some b1, some b15] [zab ([] ++ ([(osv ob340 0 uses344.length cap341), (zaa r6.Negative), v8] ++ [])), zab [(osv (some b507) 0 1 1), (zad none 0 0), (zaa false), (zad none 0 0), (zad none 0 0)], zab [(osv ob340 0 uses344.length cap341), (zaa r6.Negative), v8]]) hS523
  have K522 := ks w hS523
  refine zap ?_
  have f525 := ((hE512.mono (K518 None)).mono (K522 None))
  have f524 := hL521.freezeRow 0 rfl rfl f525 rfl rfl rfl hc513
  have hp526 := hL521.pick [1, 2] rfl rfl rfl
  have hL528 : vL w w520 [some b1, some b15] [zab [(osv (some b507) 0 1 1), (zad none 0 0), (zaa false), (zad none 0 0), (zad none 0 0)], zab [(osv ob340 0 uses344.length cap341), (zaa r6.Negative), v8]] := hp526.1
  refine zbl ?_
  obtain rfl := zag h
  refine ⟨[(zan #[(osv (some b507) 0 1 1), (zad none 0 0), (zaa false), (zad none 0 0), (zad none 0 0)])], ⟨⟨⟨b1, 0, none⟩, rfl, res_boxA zby rfl ti42 (hL528.at 0 rfl rfl) rfl⟩, trivial⟩, ⟨_, rfl, hL528.done, ?_⟩⟩
  exact ⟨(osv (some b507) 0 1 1), (zad none 0 0), (zad none 0 0), (zad none 0 0), rfl, (f524.mono zdf), zdj, zdj, zdj, trivial⟩
end Go.Proofs.Ytakkacdhlocckaa.WC

/- Walks, written by a program of mine (wip/tool); the kernel checks them. -/
import Derived.Test.YtakkacdhlocckaaProg
import Derived.Test.YtakkacdhlocckaaSqApply
import Derived.Test.YtakkacdhlocckaaPR
import Derived.Test.YtakkacdhlocckaaWAApply
set_option maxRecDepth 100000
set_option maxHeartbeats 4000000
set_option linter.unusedVariables false
namespace Go.Proofs.Ytakkacdhlocckaa.WR
open Go Go.RowKit Go.X Go.D Go.Proofs.Ytakkacdhlocckaa.WA
theorem ti3 : TI Try.prog 3 1 8 (zac .i64 0) := TI.mk (by kernel_rfl)
theorem ti24 : TI Try.prog 24 1 24 (zad none 0 0) := TI.mk (by kernel_rfl)
theorem en82 : Enters Try.prog 82 := ⟨Try.f82, Try.func82, by kernel_rfl, by kernel_rfl⟩
theorem ti4 : TI Try.prog 4 1 1 (zaa false) := TI.mk (by kernel_rfl)
theorem en65 : Enters Try.prog 65 := ⟨Try.f65, Try.func65, by kernel_rfl, by kernel_rfl⟩
theorem en68 : Enters Try.prog 68 := ⟨Try.f68, Try.func68, by kernel_rfl, by kernel_rfl⟩
theorem en40 : Enters Try.prog 40 := ⟨Try.f40, Try.func40, by kernel_rfl, by kernel_rfl⟩
theorem en64 : Enters Try.prog 64 := ⟨Try.f64, Try.func64, by kernel_rfl, by kernel_rfl⟩
theorem en69 : Enters Try.prog 69 := ⟨Try.f69, Try.func69, by kernel_rfl, by kernel_rfl⟩
theorem en70 : Enters Try.prog 70 := ⟨Try.f70, Try.func70, by kernel_rfl, by kernel_rfl⟩
theorem en62 : Enters Try.prog 62 := ⟨Try.f62, Try.func62, by kernel_rfl, by kernel_rfl⟩
theorem en38 : Enters Try.prog 38 := ⟨Try.f38, Try.func38, by kernel_rfl, by kernel_rfl⟩
theorem en71 : Enters Try.prog 71 := ⟨Try.f71, Try.func71, by kernel_rfl, by kernel_rfl⟩
theorem en79 : Enters Try.prog 79 := ⟨Try.f79, Try.func79, by kernel_rfl, by kernel_rfl⟩
theorem en37 : Enters Try.prog 37 := ⟨Try.f37, Try.func37, by kernel_rfl, by kernel_rfl⟩
theorem en61 : Enters Try.prog 61 := ⟨Try.f61, Try.func61, by kernel_rfl, by kernel_rfl⟩
theorem rtrim_w (N : Nat) (l : (List Int)) (l_v : Value) (w : World) (S : Nat → Prop) (l_h : Rs (rInt .i64) (vH w S [] w) l_v l) (r : (List Int)) (h : rtrim N l = some r) :
  Calls Try.prog 82 #[l_v] w (Ret w (fun v w' => ∃ (v0_0 : Value), v0_0 = v ∧ Rs (rInt .i64) (vH w S [] w') v0_0 r ∧ True)) := by
 unfold rtrim at h
 have hL : vL w w [] [] := Go.X.Loc.begin0 w
 refine calls_of (l := [l_v]) (rl := [.tmp 2]) (n := 21) Try.func82 rfl rfl rfl (zae rfl) ?_
 refine zaj (zah rfl (zaf (zak (v := (zad none 0 0)) rfl ?_)))
 refine zap (zaj ?_)
 obtain ⟨s118, hl120, g119⟩ := bind_some h
 refine zbr (fun e w' => ∃ (l115 : (List Int)) (v116 : Value) (u : Env), l115 = s118 ∧ e = upds [(0, v116)] u ∧ vL w w' [] [] ∧ Keep w.heap.size [] w [] w' ∧ Rs (rInt .i64) (vH w S [] w') v116 l115 ∧ True) ?_ ?_
 ·
  refine zbj ?_
  refine zcg hl120 (fun (ss : (List Int)) (e : Env) (w' : World) => match ss with | l112 => ∃ (v113 : Value) (u : Env), e = upds [(0, v113)] u ∧ vL w w' [] [] ∧ Keep w.heap.size [] w [] w' ∧ Rs (rInt .i64) (vH w S [] w') v113 l112 ∧ True) ⟨l_v, _, (upds_sym ⟨rfl, trivial⟩), hL, zbo, l_h, trivial⟩ ?_
  rintro l112 oo _ w122 ⟨v113, u, rfl, hL123, K124, k114, -⟩ h hd121
  rw [rtrim_b1] at h
  refine zaj (zaj ?_)
  obtain ⟨s140, h, g141⟩ := bind_some h
  refine zbr (fun e w' => ∃ (x139 : Bool) (u : Env), x139 = s140 ∧ e = upds [(0, v113), (14, (zaa x139))] u ∧ vL w w' [] [] ∧ Keep w.heap.size [] w122 [] w' ∧ True) ?_ ?_
  ·
   refine zah rfl (zaf (zai (v := v113) rfl ?_))
   refine zaf (zbf (v := v113) zaz rfl k114 ?_)
   refine zaf (zdm (x := (l112.length : Int)) (y := 0) (((l112.length : Int) : Int) > 0) rfl rfl zbk ?_)
   refine zaf (zai (v := (zaa (decide (((l112.length : Int) : Int) > 0)))) rfl ?_)
   by_cases hc142 : ((l112.length : Int) : Int) > 0
   ·
    replace h := ite_t hc142 h
    refine zbu rfl rfl (decide_eq_true hc142) (zai (v := v113) rfl ?_)
    refine zbu rfl rfl (decide_eq_true hc142) (zai (v := v113) rfl ?_)
    refine zbu rfl rfl (decide_eq_true hc142) (zbf (v := v113) zaz rfl k114 ?_)
    refine zbu rfl rfl (decide_eq_true hc142) (zdd (x := (l112.length : Int)) (y := 1) (z := (iw ((l112.length : Int) - 1))) rfl rfl rfl ?_)
    obtain ⟨x143, q144, h⟩ := bind_some h
    obtain ⟨n145, q146, q147⟩ := idx_some q144
    obtain ⟨b148, o149, c150, vs151, q152, q153, f154, q155⟩ := zcz k114 q147
    obtain rfl := q155
    refine zbu rfl rfl (decide_eq_true hc142) (zbv (r := (rInt .i64)) (v := v113) (n := n145) (m := (o149 + n145 * (rInt .i64).sz)) zaz ti3 rfl q152 rfl q146 q147 rfl ?_)
    refine zbu rfl rfl (decide_eq_true hc142) (zck (v := (zac .i64 x143)) zbq rfl rfl vw_view f154 ?_)
    refine zbu rfl rfl (decide_eq_true hc142) (OpY.eql (x := x143) (y := 0) ((x143 : Int) = 0) rfl rfl zbk ?_)
    refine zaf (zcm (t := (decide (((l112.length : Int) : Int) > 0))) (v := (zaa (decide ((x143 : Int) = 0)))) rfl (decide_eq_true hc142) rfl ?_)
    refine zap ?_
    obtain rfl := zag h
    refine zas ?_
    exact ⟨(decide ((x143 : Int) = 0)), _, rfl, (upds_sym ⟨rfl, rfl, trivial⟩), hL123, zbo, trivial⟩
   ·
    replace h := ite_f hc142 h
    refine zbt rfl rfl (decide_eq_false hc142) ?_
    refine zbt rfl rfl (decide_eq_false hc142) ?_
    refine zbt rfl rfl (decide_eq_false hc142) ?_
    refine zbt rfl rfl (decide_eq_false hc142) ?_
    refine zbt rfl rfl (decide_eq_false hc142) ?_
    refine zbt rfl rfl (decide_eq_false hc142) ?_
    refine zbt rfl rfl (decide_eq_false hc142) ?_
    refine zaf (zbz (t := (decide (((l112.length : Int) : Int) > 0))) (v := (zaa false)) rfl (decide_eq_false hc142) rfl ?_)
    refine zap ?_
    obtain rfl := zag h
    refine zas ?_
    exact ⟨false, _, rfl, (upds_sym ⟨rfl, rfl, trivial⟩), hL123, zbo, trivial⟩
  ·
   rintro _ w156 ⟨x139, u, rfl, rfl, hL157, K158, -⟩
   replace h := g141
   try dsimp only at h
   refine zcu x139 rfl (fun hc159 => ?_) (fun hc159 => ?_)
   ·
    replace h := ite_t hc159 h
    refine zbg (zbj (zah rfl (zaf (zai (v := v113) rfl ?_))))
    refine zaf (zai (v := v113) rfl ?_)
    have f160 := (k114.mono (K158 S))
    refine zaf (zbf (v := v113) zaz rfl f160 ?_)
    refine zaf (zdd (x := (l112.length : Int)) (y := 1) (z := (iw ((l112.length : Int) - 1))) rfl rfl rfl ?_)
    obtain ⟨x161, q162, h⟩ := bind_some h
    obtain ⟨m163, n164, q165, q166, q167, q168, q169⟩ := cut_some q162
    refine zaf (OpY.cutRoX (l := m163) (h' := n164) zaz ti3 rfl f160 (.inl ⟨rfl, by omega⟩) (.inr ⟨_, _, rfl, by rw [← q166]; rfl⟩) q167 q168 q169 ?_)
    intro v170 k171
    refine zaf (zak (v := v170) rfl ?_)
    refine zap (zbs ?_)
    obtain rfl := zag h
    refine zas ⟨x161, rfl, ?_⟩
    exact ⟨v170, _, (upds_sym ⟨rfl, trivial⟩), hL157, (zaq K124 K158), k171, trivial⟩
   ·
    replace h := ite_f hc159 h
    refine zcs rfl ?_
    have f175 := (k114.mono (K158 S))
    obtain rfl := zag h
    obtain rfl := hd121 _ rfl
    replace h := g119
    try dsimp only at h
    skip
    refine zas ?_
    exact ⟨l112, v113, _, rfl, (upds_sym ⟨rfl, trivial⟩), hL157, (zaq K124 K158), f175, trivial⟩
 ·
  rintro _ w176 ⟨l115, v116, u, rfl, rfl, hL177, K178, k117, -⟩
  replace h := g119
  try dsimp only at h
  refine zaj (zah rfl (zaf (zai (v := v116) rfl ?_)))
  refine zaf (zak (v := v116) rfl ?_)
  refine zap (zbl ?_)
  obtain rfl := zag h
  refine ⟨[v116], ⟨rfl, trivial⟩, ⟨_, rfl, hL177.done, ?_⟩⟩
  exact ⟨v116, rfl, (k117.mono zdf), trivial⟩
theorem halves_w (N : Nat) (x : Big) (x_v : Value) (w : World) (S : Nat → Prop) (x_h : Rs (rInt .u32) (vH w S [] w) x_v x.Digits) (r : (List Int)) (h : halves N x = some r) :
  Calls Try.prog 65 #[(zan #[(zaa x.Negative), x_v])] w (Ret w (fun v w' => ∃ (v0_0 : Value), v0_0 = v ∧ Rs (rInt .i64) (vH w None [] w') v0_0 r ∧ True)) := by
 unfold halves at h
 have hL : vL w w [] [] := Go.X.Loc.begin0 w
 refine calls_of (l := [(zan #[(zaa x.Negative), x_v])]) (rl := [.tmp 2]) (n := 32) Try.func65 rfl rfl rfl (zae rfl) ?_
 refine zaj (zah rfl (zaf (zdc (cs := [(zaa x.Negative), x_v]) rfl rfl hL ?_)))
 intro b1 w2 hL3 hS5
 have K4 := ks w hS5
 refine zaf (zak (v := (zad none 0 0)) rfl ?_)
 refine zap (zaj (zah rfl (zaf (OpY.litRow0 zaz ti3 hL3 ?_))))
 intro b6 w10 hL11 hS13
 have hE14 : Els (rInt .i64) (vH w None [some b1] w2) [] [] := zct
 have K12 := ks w hS13
 refine zaf (zak (v := (osv (some b6) 0 (List.length ([] : (List Int))) 0)) rfl ?_)
 refine zap (zaj (zaj (zah rfl (zaf (zak (v := (zac .i64 0)) rfl ?_)))))
 refine zap ?_
 obtain ⟨s388, hl390, g389⟩ := bind_some h
 refine zbr (fun e w' => ∃ (l384 : (List Int)) (ob380 : Option Nat) (cap381 : Nat) (sp382 : List Value) (cs383 : List Value) (ln387 : Nat) (u : Env), l384 = s388 ∧ e = upds [(3, (osv ob380 0 ln387 cap381))] u ∧ vL w w' [ob380] [zab ([] ++ (cs383 ++ sp382))] ∧ Keep w.heap.size [some b6, some b1] w10 [ob380] w' ∧ Els (rInt .i64) (vH w None [ob380] w') cs383 l384 ∧ ln387 = List.length l384 ∧ (cs383 ++ sp382).length = cap381 * (rInt .i64).sz ∧ True) ?_ ?_
 ·
  refine zbj ?_
  have hp392 := hL11.pick [1, 0] rfl rfl rfl
  have hL394 : vL w w10 [some b1, some b6] [zab [(zaa x.Negative), x_v], zab ([] ++ ([] ++ []))] := hp392.1
  have K393 := ks w hp392.2
  have f395 := ((hE14.mono (K12 None)).mono (K393 None))
  refine zcg hl390 (fun (ss : ((List Int) × Int)) (e : Env) (w' : World) => match ss with | (l374, i378) => ∃ (ob370 : Option Nat) (cap371 : Nat) (sp372 : List Value) (cs373 : List Value) (ln377 : Nat) (u : Env), e = upds [(1, (zam (some ⟨b1, 0, none⟩))), (3, (osv ob370 0 ln377 cap371)), (4, (zac .i64 i378))] u ∧ vL w w' [some b1, ob370] [zab [(zaa x.Negative), x_v], zab ([] ++ (cs373 ++ sp372))] ∧ Keep w.heap.size [some b6, some b1] w10 [some b1, ob370] w' ∧ Els (rInt .i64) (vH w None [some b1, ob370] w') cs373 l374 ∧ ln377 = List.length l374 ∧ (cs373 ++ sp372).length = cap371 * (rInt .i64).sz ∧ True) ⟨some b6, 0, [], [], (List.length ([] : (List Int))), _, (upds_sym ⟨rfl, rfl, rfl, trivial⟩), hL394, K393, f395, rfl, (show ([] ++ [] : List Value).length = 0 * (rInt .i64).sz by simp), trivial⟩ ?_
  rintro ⟨l374, i378⟩ oo _ w396 ⟨ob370, cap371, sp372, cs373, ln377, u, rfl, hL397, K398, hE375, rfl, hc376, -⟩ h hd391
  rw [halves_b1] at h
  refine zaj (zaj (zah rfl (zaf (zai (v := (zac .i64 i378)) rfl ?_))))
  refine zaf (zar (q := 1) zal rfl ti24 rfl rfl rfl ?_)
  refine zaf (zbb (v := x_v) zao rfl rfl (hL397.at 0 rfl rfl) rfl ?_)
  have f399 := (((x_h.mono (K4 S)).mono (K12 S)).mono (K398 S))
  refine zaf (zbf (v := x_v) zao rfl f399 ?_)
  refine zaf (zcr (x := i378) (y := (x.Digits.length : Int)) ((i378 : Int) < (x.Digits.length : Int)) rfl rfl zbk ?_)
  refine zap ?_
  refine zbe ((i378 : Int) < (x.Digits.length : Int)) rfl (fun hc400 => ?_) (fun hc400 => ?_)
  ·
   replace h := ite_t hc400 h
   refine zbg (zaj (zbj ?_))
   obtain ⟨x401, q402, h⟩ := bind_some h
   obtain ⟨n403, q404, q405⟩ := idx_some q402
   obtain ⟨b406, o407, c408, vs409, q410, q411, f412, q413⟩ := zcz f399 q405
   obtain rfl := q413
   obtain ⟨x414, q415, h⟩ := bind_some h
   obtain ⟨n416, q417, q418⟩ := idx_some q415
   obtain ⟨b419, o420, c421, vs422, q423, q424, f425, q426⟩ := zcz f399 q418
   obtain rfl := q426
   refine zcc 16 [] [] (fun W1 => [.det (osv ob370 0 l374.length cap371), .det (zam (some ⟨b1, 1, none⟩)), .det x_v, .det (zac .i64 i378), .det (zam (some ⟨b406, (o407 + n403 * (rInt .u32).sz), none⟩)), .det (zac .u32 x401), .det (zac .u32 (Int.tmod x401 65536)), .det (zac .i64 (iw (Int.tmod x401 65536))), .det (zam (some ⟨b1, 1, none⟩)), .det x_v, .det (zac .i64 i378), .det (zam (some ⟨b419, (o420 + n416 * (rInt .u32).sz), none⟩)), .det (zac .u32 x414), .det (zac .u32 (uw32 (Int.tdiv x414 65536))), .det (zac .i64 (iw (uw32 (Int.tdiv x414 65536)))), .rel (fun v Z w' => ∃ b427 cs434, (osv (some b427) 0 2 2) = v ∧ OwnC w' (some b427) (zab ([] ++ (cs434 ++ []))) ∧ Els (rInt .i64) (vZ W1 w None [some b1, ob370] Z w') cs434 [(iw (Int.tmod x401 65536)), (iw (uw32 (Int.tdiv x414 65536)))] ∧ (cs434 ++ [] : List Value).length = 2 * (rInt .i64).sz ∧ True) footV]) mixed rfl rfl rfl (fun _ => rfl) (fun _ => rfl) ?_ ?_
   ·
    intro W1 _
    exact ⟨fun v Z Z' w w' hΦ hz _ _ hs => by obtain ⟨b427, cs434, rfl, hO431, hE432, hc433, -⟩ := hΦ; exact ⟨b427, cs434, rfl, (hO431.stay (fun b hb => by cases hb; exact zay) hs), (hE432.mono (zcl hz hs)), hc433, trivial⟩, trivial⟩
   ·
    intro w435 hE436
    have hL437 := hL397.ext hE436
    have K438 := ke hL397 hE436
    refine zau (fun _ _ => zat (zai rfl (er rfl))) ?_
    refine zau (fun _ _ => zat (zar zal rfl ti24 rfl rfl rfl (er rfl))) ?_
    refine zau (fun _ hE453 => zat (zbb zao rfl rfl ((hL437.ext hE453).at 0 rfl rfl) rfl (er rfl))) ?_
    refine zau (fun _ _ => zat (zai rfl (er rfl))) ?_
    refine zau (fun _ _ => zat (zbv (r := (rInt .u32)) (v := x_v) (n := n403) (m := (o407 + n403 * (rInt .u32).sz)) zao ti89 rfl q410 rfl q404 q405 rfl (er rfl))) ?_
    refine zau (fun _ hE471 => zat (zck zav rfl rfl vw_view (zcw ((ke hL437 hE471) S) (zcw (K438 S) f412)) (er rfl))) ?_
    refine zau (fun _ _ => zat (OpY.remI (x := x401) (y := 65536) rfl rfl (by decide) (er rfl))) ?_
    refine zau (fun _ _ => zat (zbp zav zbq rfl rfl (er rfl))) ?_
    refine zau (fun _ _ => zat (zar zal rfl ti24 rfl rfl rfl (er rfl))) ?_
    refine zau (fun _ hE495 => zat (zbb zao rfl rfl ((hL437.ext hE495).at 0 rfl rfl) rfl (er rfl))) ?_
    refine zau (fun _ _ => zat (zai rfl (er rfl))) ?_
    refine zau (fun _ _ => zat (zbv (r := (rInt .u32)) (v := x_v) (n := n416) (m := (o420 + n416 * (rInt .u32).sz)) zao ti89 rfl q423 rfl q417 q418 rfl (er rfl))) ?_
    refine zau (fun _ hE513 => zat (zck zav rfl rfl vw_view (zcw ((ke hL437 hE513) S) (zcw (K438 S) f425)) (er rfl))) ?_
    refine zau (fun _ _ => zat (OpY.quoI (x := x414) (y := 65536) (z := (uw32 (Int.tdiv x414 65536))) rfl rfl (by decide) rfl (er rfl))) ?_
    refine zau (fun _ _ => zat (zbp zav zbq rfl rfl (er rfl))) ?_
    refine zcq ?_ ?_
    ·
     rintro w529 Z530 hE531 hZ532 ⟨-⟩
     have hE428 : Els (rInt .i64) (vZ w435 w None [some b1, ob370] Z530 w529) [(zac .i64 (iw (Int.tmod x401 65536))), (zac .i64 (iw (uw32 (Int.tdiv x414 65536))))] [(iw (Int.tmod x401 65536)), (iw (uw32 (Int.tdiv x414 65536)))] := (zco (a := [(zac .i64 (iw (Int.tmod x401 65536)))]) rfl (zco (a := [(zac .i64 (iw (uw32 (Int.tdiv x414 65536))))]) rfl zct))
     refine zat (zcp (r := (rInt .i64)) (vs := [(zac .i64 (iw (Int.tmod x401 65536))), (zac .i64 (iw (uw32 (Int.tdiv x414 65536))))]) (css := [[(zac .i64 (iw (Int.tmod x401 65536)))], [(zac .i64 (iw (uw32 (Int.tdiv x414 65536))))]]) (xs := [(iw (Int.tmod x401 65536)), (iw (uw32 (Int.tdiv x414 65536)))]) zaz ti3 (zae rfl) rfl rfl ⟨rfl, rfl, ⟨rfl, rfl, trivial⟩⟩ (zae rfl) hE428 rfl (Go.X.Loc.begin0 w529) ?_)
     intro b427 w535 hc429 hL536 hS537
     have hN538 : NewOwn w529 w535 [some b427] [zab ([] ++ ([(zac .i64 (iw (Int.tmod x401 65536))), (zac .i64 (iw (uw32 (Int.tdiv x414 65536))))] ++ []))] := hL536.newOwn [0] rfl rfl rfl
     exact zcj hL536.done hZ532 hN538 (fun _ h => h) ⟨b427, [(zac .i64 (iw (Int.tmod x401 65536))), (zac .i64 (iw (uw32 (Int.tdiv x414 65536))))], rfl, hN538.2.2.1, (hE428.mono (Zv.grow hL536.done)), hc429, trivial⟩
    intro z15
    refine zcn ?_
    rintro w539 Z540 hE541 hZ542 ⟨⟨⟨b427, cs434, rfl, hO431, hE432, hc433, -⟩, hB15⟩, -⟩ ap543
    have hB544 : ∀ b, some b ∈ ([some b427] : List (Option Nat)) → w435.heap.size ≤ b ∧ ¬ Z540 b := by
     intro b hb
     rcases List.mem_cons.1 hb with hb' | hb
     ·
      have := hB15 b (by rw [hb']; exact zay); exact ⟨this.1, this.2.2⟩
     cases hb
    replace hE432 := hE432.mono (zcy hL437 hZ542 hB544)
    have hN547 : NewOwn w435 w539 [some b427] [zab ([] ++ (cs434 ++ []))] := (zdb zca hO431 (fun b hb => (hB544 b (by rw [← hb]; simp)).1) (fun b _ hb => by cases hb))
    have hp548 := hL437.adoptL hE541 hN547
    have hL545 := hp548.1
    have K546 := ks w hp548.2
    obtain ⟨x549, q550, h⟩ := bind_some h
    obtain ⟨q551, q552, q553⟩ := apnd_some q550
    have f561 := ((hE375.mono (K438 None)).mono (K546 None))
    refine zaf (zdl (r := (rInt .i64)) (H := (vH w None [some b427, some b1, ob370] w539)) (cs := cs373) (sp := sp372) (xs := l374) (ys := [(iw (Int.tmod x401 65536)), (iw (uw32 (Int.tdiv x414 65536)))]) (Y := x549) (n := l374.length) (cap := cap371) (i := 2) zaz ti3 rfl rfl rfl rfl hL545 rfl rfl f561 rfl hc376 (Src.row (pre := []) (o := 0) (n := 2) (cap := 2) (hL545.at 0 rfl rfl) hE432 rfl rfl rfl) (Els.anyH (fun _ _ _ _ h => h) hE432) q551 q552 q553 ?_)
    intro ob554 cap555 sp557 cs556 w562 hE558 hc559 (hL563 : vL w w562 [some b427, some b1, ob554] [zab ([] ++ (cs434 ++ [])), zab [(zaa x.Negative), x_v], zab ([] ++ (cs556 ++ sp557))]) hS565
    have K564 := ks w hS565
    refine zaf (zak (v := (osv ob554 0 x549.length cap555)) rfl ?_)
    refine zap (zbs (zah rfl (zaf (zai (v := (zac .i64 i378)) rfl ?_))))
    refine zaf (zcd (x := i378) (y := 1) (z := (iw (i378 + 1))) rfl rfl rfl ?_)
    refine zaf (zak (v := (zac .i64 (iw (i378 + 1)))) rfl ?_)
    refine zap ?_
    have hp566 := hL563.pick [1, 2] rfl rfl rfl
    have hL568 : vL w w562 [some b1, ob554] [zab [(zaa x.Negative), x_v], zab ([] ++ (cs556 ++ sp557))] := hp566.1
    have K567 := ks w hp566.2
    have f569 := ((hE558.mono (K564 None)).mono (K567 None))
    obtain rfl := zag h
    refine zas ⟨(x549, (iw (i378 + 1))), rfl, ?_⟩
    exact ⟨ob554, cap555, sp557, cs556, x549.length, _, (upds_sym ⟨rfl, rfl, rfl, trivial⟩), hL568, (zaq (zaq (zaq (zaq K398 K438) K546) K564) K567), f569, rfl, hc559, trivial⟩
  ·
   replace h := ite_f hc400 h
   refine zcs rfl ?_
   have hp570 := hL397.pick [1] rfl rfl rfl
   have hL572 : vL w w396 [ob370] [zab ([] ++ (cs373 ++ sp372))] := hp570.1
   have K571 := ks w hp570.2
   have f573 := (hE375.mono (K571 None))
   obtain rfl := zag h
   obtain rfl := hd391 _ rfl
   replace h := g389
   try dsimp only at h
   skip
   refine zas ?_
   exact ⟨l374, ob370, cap371, sp372, cs373, l374.length, _, rfl, (upds_sym ⟨rfl, trivial⟩), hL572, (zaq K398 K571), f573, rfl, hc376, trivial⟩
 ·
  rintro _ w574 ⟨l384, ob380, cap381, sp382, cs383, ln387, u, rfl, rfl, hL575, K576, hE385, rfl, hc386, -⟩
  replace h := g389
  try dsimp only at h
  refine zaj (zah rfl (zaf (zai (v := (osv ob380 0 l384.length cap381)) rfl ?_)))
  have f577 := hL575.freezeRow 0 rfl rfl hE385 rfl rfl rfl hc386
  have hp578 := hL575.pick [] rfl rfl rfl
  have hL580 : vL w w574 [] [] := hp578.1
  obtain ⟨r581, q582, h⟩ := bind_some h
  refine zaf (zaw en82 rfl rfl (rtrim_w N l384 (osv ob380 0 l384.length cap381) _ _ (f577.mono Hv.enter) r581 q582) ?_)
  rintro _ w586 hE589 ⟨v583, rfl, k584, -⟩
  replace k584 := k584.mono (Hv.aliasO (S := None) hL580 [])
  have hL587 := hL580.ext hE589
  refine zaf (zak (v := v583) rfl ?_)
  refine zap (zbl ?_)
  obtain rfl := zag h
  refine ⟨[v583], ⟨rfl, trivial⟩, ⟨_, rfl, hL587.done, ?_⟩⟩
  exact ⟨v583, rfl, (k584.mono zdf), trivial⟩
theorem rbig_w (N : Nat) (negative : Bool) (l : (List Int)) (l_v : Value) (w : World) (S : Nat → Prop) (l_h : Rs (rInt .i64) (vH w S [] w) l_v l) (r : Big) (h : rbig N negative l = some r) :
  Calls Try.prog 68 #[(zaa negative), l_v] w (Ret w (fun v w' => ∃ (v0_0 : Value), (zan #[(zaa r.Negative), v0_0]) = v ∧ Rs (rInt .u32) (vH w None [] w') v0_0 r.Digits ∧ True)) := by
 unfold rbig at h
 have hL : vL w w [] [] := Go.X.Loc.begin0 w
 refine calls_of (l := [(zaa negative), l_v]) (rl := [.cell 4 26]) (n := 49) Try.func68 rfl rfl rfl (zae rfl) ?_
 refine zaj (zah rfl (zaf (zbw (cs := [(zaa false), (zad none 0 0)]) ti26 rfl hL ?_)))
 intro b1 w2 hL3 hS5
 have K4 := ks w hS5
 refine zap (zaj (zah rfl (zaf (zai (v := l_v) rfl ?_))))
 obtain ⟨r6, q7, h⟩ := bind_some h
 have f11 := (l_h.mono (K4 S))
 refine zaf (zaw en82 rfl rfl (rtrim_w N l l_v _ _ (f11.mono Hv.enter) r6 q7) ?_)
 rintro _ w12 hE15 ⟨v8, rfl, k9, -⟩
 replace k9 := k9.mono (Hv.aliasO (S := S) hL3 [])
 have hL13 := hL3.ext hE15
 refine zaf (zak (v := v8) rfl ?_)
 refine zap (zaj ?_)
 obtain ⟨s39, h, g40⟩ := bind_some h
 refine zbr (fun e w' => ∃ (negative38 : Bool) (b37 : Nat) (u : Env), negative38 = s39 ∧ e = upds [(1, v8), (4, (zam (some ⟨b1, 0, none⟩))), (5, (zam (some ⟨b37, 0, none⟩)))] u ∧ vL w w' [some b1, some b37] [zab [(zaa false), (zad none 0 0)], zab [(zaa negative38), (zad none 0 0)]] ∧ Keep w.heap.size [some b1] w12 [some b1, some b37] w' ∧ True) ?_ ?_
 ·
  refine zah rfl (zaf (zai (v := (zaa negative)) rfl ?_))
  refine zaf (zai (v := (zaa negative)) rfl ?_)
  by_cases hc41 : negative = true
  ·
   replace h := ite_t hc41 h
   refine zbu rfl rfl hc41 (zai (v := v8) rfl ?_)
   refine zbu rfl rfl hc41 (zbf (v := v8) zaz rfl k9 ?_)
   refine zbu rfl rfl hc41 (zdm (x := (r6.length : Int)) (y := 0) (((r6.length : Int) : Int) > 0) rfl rfl zbk ?_)
   refine zaf (zcm (t := negative) (v := (zaa (decide (((r6.length : Int) : Int) > 0)))) rfl hc41 rfl ?_)
   refine zaf (zcx (zc := [(zaa false), (zad none 0 0)]) (cs := [(zaa (decide (((r6.length : Int) : Int) > 0))), (zad none 0 0)]) (is := [0]) (vs := [(zaa (decide (((r6.length : Int) : Int) > 0)))]) (css := [[(zaa (decide (((r6.length : Int) : Int) > 0)))]]) pl26 ti26 rfl rfl rfl ⟨rfl, trivial⟩ rfl ?_)
   refine zaf (zbw (cs := [(zaa false), (zad none 0 0)]) ti26 rfl hL13 ?_)
   intro b42 w43 hL44 hS46
   have K45 := ks w hS46
   refine zcb (zbh (vs := [(zaa (decide (((r6.length : Int) : Int) > 0))), (zad none 0 0)]) ti26 rfl rfl rfl rfl (ones_cons rfl (ones_cons rfl ones_nil)) hL44 0 rfl rfl (zae rfl) ?_)
   intro w47 (hL48 : vL w w47 [some b42, some b1] [zab [(zaa (decide (((r6.length : Int) : Int) > 0))), (zad none 0 0)], zab [(zaa false), (zad none 0 0)]]) hS50
   have K49 := ks w hS50
   refine zap ?_
   have hp51 := hL48.pick [1, 0] rfl rfl rfl
   have hL53 : vL w w47 [some b1, some b42] [zab [(zaa false), (zad none 0 0)], zab [(zaa (decide (((r6.length : Int) : Int) > 0))), (zad none 0 0)]] := hp51.1
   have K52 := ks w hp51.2
   obtain rfl := zag h
   refine zas ?_
   exact ⟨(decide (((r6.length : Int) : Int) > 0)), b42, _, rfl, (upds_sym ⟨rfl, rfl, rfl, trivial⟩), hL53, (zaq (zaq K45 K49) K52), trivial⟩
  ·
   replace h := ite_f hc41 h
   refine zbt rfl rfl (eq_false_of_ne_true hc41) ?_
   refine zbt rfl rfl (eq_false_of_ne_true hc41) ?_
   refine zbt rfl rfl (eq_false_of_ne_true hc41) ?_
   refine zaf (zbz (t := negative) (v := (zaa false)) rfl (eq_false_of_ne_true hc41) rfl ?_)
   refine zaf (zcx (zc := [(zaa false), (zad none 0 0)]) (cs := [(zaa false), (zad none 0 0)]) (is := [0]) (vs := [(zaa false)]) (css := [[(zaa false)]]) pl26 ti26 rfl rfl rfl ⟨rfl, trivial⟩ rfl ?_)
   refine zaf (zbw (cs := [(zaa false), (zad none 0 0)]) ti26 rfl hL13 ?_)
   intro b54 w55 hL56 hS58
   have K57 := ks w hS58
   refine zcb (zbh (vs := [(zaa false), (zad none 0 0)]) ti26 rfl rfl rfl rfl (ones_cons rfl (ones_cons rfl ones_nil)) hL56 0 rfl rfl (zae rfl) ?_)
   intro w59 (hL60 : vL w w59 [some b54, some b1] [zab [(zaa false), (zad none 0 0)], zab [(zaa false), (zad none 0 0)]]) hS62
   have K61 := ks w hS62
   refine zap ?_
   have hp63 := hL60.pick [1, 0] rfl rfl rfl
   have hL65 : vL w w59 [some b1, some b54] [zab [(zaa false), (zad none 0 0)], zab [(zaa false), (zad none 0 0)]] := hp63.1
   have K64 := ks w hp63.2
   obtain rfl := zag h
   refine zas ?_
   exact ⟨false, b54, _, rfl, (upds_sym ⟨rfl, rfl, rfl, trivial⟩), hL65, (zaq (zaq K57 K61) K64), trivial⟩
 ·
  rintro _ w66 ⟨negative38, b37, u, rfl, rfl, hL67, K68, -⟩
  replace h := g40
  try dsimp only at h
  refine zaj (zaj (zah rfl (zaf (zak (v := (zac .i64 0)) rfl ?_))))
  refine zap ?_
  obtain ⟨s279, hl281, g280⟩ := bind_some h
  refine zbr (fun e w' => ∃ (digits275 : (List Int)) (ob271 : Option Nat) (cap272 : Nat) (sp273 : List Value) (cs274 : List Value) (ln278 : Nat) (u : Env), digits275 = s279 ∧ e = upds [(4, (zam (some ⟨b1, 0, none⟩))), (5, (zam (some ⟨b37, 0, none⟩)))] u ∧ vL w w' [some b1, some b37, ob271] [zab [(zaa false), (zad none 0 0)], zab [(zaa negative38), (osv ob271 0 ln278 cap272)], zab ([] ++ (cs274 ++ sp273))] ∧ Keep w.heap.size [some b1, some b37] w66 [some b1, some b37, ob271] w' ∧ Els (rInt .u32) (vH w None [some b1, some b37, ob271] w') cs274 digits275 ∧ ln278 = List.length digits275 ∧ (cs274 ++ sp273).length = cap272 * (rInt .u32).sz ∧ True) ?_ ?_
  ·
   refine zbj ?_
   have hp283 := hL67.addNil
   have hL284 : vL w w66 [none, some b1, some b37] [zab ([] ++ ([] ++ [])), zab [(zaa false), (zad none 0 0)], zab [(zaa negative38), (zad none 0 0)]] := hp283.1
   have K285 := ks w hp283.2
   have hp287 := hL284.pick [1, 2, 0] rfl rfl rfl
   have hL289 : vL w w66 [some b1, some b37, none] [zab [(zaa false), (zad none 0 0)], zab [(zaa negative38), (osv none 0 (List.length ([] : (List Int))) 0)], zab ([] ++ ([] ++ []))] := hp287.1
   have K288 := ks w hp287.2
   have f290 := ((zct (r := (rInt .u32))).mono (K288 None))
   refine zcg hl281 (fun (ss : ((List Int) × Int)) (e : Env) (w' : World) => match ss with | (digits263, i267) => ∃ (ob259 : Option Nat) (cap260 : Nat) (sp261 : List Value) (cs262 : List Value) (ln266 : Nat) (u : Env), e = upds [(1, v8), (4, (zam (some ⟨b1, 0, none⟩))), (5, (zam (some ⟨b37, 0, none⟩))), (6, (zac .i64 i267))] u ∧ vL w w' [some b1, some b37, ob259] [zab [(zaa false), (zad none 0 0)], zab [(zaa negative38), (osv ob259 0 ln266 cap260)], zab ([] ++ (cs262 ++ sp261))] ∧ Keep w.heap.size [some b1, some b37] w66 [some b1, some b37, ob259] w' ∧ Els (rInt .u32) (vH w None [some b1, some b37, ob259] w') cs262 digits263 ∧ ln266 = List.length digits263 ∧ (cs262 ++ sp261).length = cap260 * (rInt .u32).sz ∧ True) ⟨none, 0, [], [], (List.length ([] : (List Int))), _, (upds_sym ⟨rfl, rfl, rfl, rfl, trivial⟩), hL289, (zaq K285 K288), f290, rfl, (show ([] ++ [] : List Value).length = 0 * (rInt .u32).sz by simp), trivial⟩ ?_
   rintro ⟨digits263, i267⟩ oo _ w291 ⟨ob259, cap260, sp261, cs262, ln266, u, rfl, hL292, K293, hE264, rfl, hc265, -⟩ h hd282
   rw [rbig_b1] at h
   refine zaj (zaj (zah rfl (zaf (zai (v := (zac .i64 i267)) rfl ?_))))
   refine zaf (zai (v := v8) rfl ?_)
   have f294 := ((k9.mono (K68 S)).mono (K293 S))
   refine zaf (zbf (v := v8) zaz rfl f294 ?_)
   refine zaf (zcr (x := i267) (y := (r6.length : Int)) ((i267 : Int) < (r6.length : Int)) rfl rfl zbk ?_)
   refine zap ?_
   refine zbe ((i267 : Int) < (r6.length : Int)) rfl (fun hc295 => ?_) (fun hc295 => ?_)
   ·
    replace h := ite_t hc295 h
    refine zbg (zaj (zbj (zaj (zah rfl (zaf (zai (v := v8) rfl ?_))))))
    refine zaf (zai (v := (zac .i64 i267)) rfl ?_)
    obtain ⟨x296, q297, h⟩ := bind_some h
    obtain ⟨n298, q299, q300⟩ := idx_some q297
    obtain ⟨b301, o302, c303, vs304, q305, q306, f307, q308⟩ := zcz f294 q300
    obtain rfl := q308
    refine zaf (zbv (r := (rInt .i64)) (v := v8) (n := n298) (m := (o302 + n298 * (rInt .i64).sz)) zaz ti3 rfl q305 rfl q299 q300 rfl ?_)
    refine zaf (zck (v := (zac .i64 x296)) zbq rfl rfl vw_view f307 ?_)
    refine zaf (zbp (x := x296) (z := (uw32 x296)) zbq zav rfl rfl ?_)
    refine zaf (zak (v := (zac .u32 (uw32 x296))) rfl ?_)
    refine zap (zaj (zaj (zah rfl (zaf (zai (v := (zac .i64 i267)) rfl ?_)))))
    refine zaf (zcd (x := i267) (y := 1) (z := (iw (i267 + 1))) rfl rfl rfl ?_)
    refine zaf (zai (v := v8) rfl ?_)
    refine zaf (zbf (v := v8) zaz rfl f294 ?_)
    refine zaf (zcr (x := (iw (i267 + 1))) (y := (r6.length : Int)) (((iw (i267 + 1)) : Int) < (r6.length : Int)) rfl rfl zbk ?_)
    refine zap ?_
    obtain ⟨s327, h, g328⟩ := bind_some h
    refine zbr (fun e w' => ∃ (d326 : Int) (u : Env), d326 = s327 ∧ e = upds [(1, v8), (4, (zam (some ⟨b1, 0, none⟩))), (5, (zam (some ⟨b37, 0, none⟩))), (6, (zac .i64 i267)), (7, (zac .u32 d326))] u ∧ vL w w' [some b1, some b37, ob259] [zab [(zaa false), (zad none 0 0)], zab [(zaa negative38), (osv ob259 0 digits263.length cap260)], zab ([] ++ (cs262 ++ sp261))] ∧ Keep w.heap.size [some b1, some b37, ob259] w291 [some b1, some b37, ob259] w' ∧ True) ?_ ?_
    ·
     refine zbe (((iw (i267 + 1)) : Int) < (r6.length : Int)) rfl (fun hc329 => ?_) (fun hc329 => ?_)
     ·
      replace h := ite_t hc329 h
      refine zah rfl (zaf (zai (v := (zac .u32 (uw32 x296))) rfl ?_))
      refine zaf (zai (v := v8) rfl ?_)
      refine zaf (zai (v := (zac .i64 i267)) rfl ?_)
      refine zaf (zcd (x := i267) (y := 1) (z := (iw (i267 + 1))) rfl rfl rfl ?_)
      obtain ⟨x330, q331, h⟩ := bind_some h
      obtain ⟨n332, q333, q334⟩ := idx_some q331
      obtain ⟨b335, o336, c337, vs338, q339, q340, f341, q342⟩ := zcz f294 q334
      obtain rfl := q342
      refine zaf (zbv (r := (rInt .i64)) (v := v8) (n := n332) (m := (o336 + n332 * (rInt .i64).sz)) zaz ti3 rfl q339 rfl q333 q334 rfl ?_)
      refine zaf (zck (v := (zac .i64 x330)) zbq rfl rfl vw_view f341 ?_)
      refine zaf (zbp (x := x330) (z := (uw32 x330)) zbq zav rfl rfl ?_)
      refine zaf (OpY.mul (x := 65536) (y := (uw32 x330)) (z := (uw32 (65536 * (uw32 x330)))) rfl rfl rfl ?_)
      refine zaf (zcd (x := (uw32 x296)) (y := (uw32 (65536 * (uw32 x330)))) (z := (uw32 ((uw32 x296) + (uw32 (65536 * (uw32 x330)))))) rfl rfl rfl ?_)
      refine zaf (zak (v := (zac .u32 (uw32 ((uw32 x296) + (uw32 (65536 * (uw32 x330))))))) rfl ?_)
      refine zap ?_
      obtain rfl := zag h
      refine zas ?_
      exact ⟨(uw32 ((uw32 x296) + (uw32 (65536 * (uw32 x330))))), _, rfl, (upds_sym ⟨rfl, rfl, rfl, rfl, rfl, trivial⟩), hL292, zbo, trivial⟩
     ·
      replace h := ite_f hc329 h
      refine zbg ?_
      obtain rfl := zag h
      refine zas ?_
      exact ⟨(uw32 x296), _, rfl, (upds_sym ⟨rfl, rfl, rfl, rfl, rfl, trivial⟩), hL292, zbo, trivial⟩
    ·
     rintro _ w343 ⟨d326, u, rfl, rfl, hL344, K345, -⟩
     replace h := g328
     try dsimp only at h
     refine zah rfl (zaf (zar (q := 1) zal rfl ti24 rfl rfl rfl ?_))
     refine zaf (zbb (v := (osv ob259 0 digits263.length cap260)) zao rfl rfl (hL344.at 1 rfl rfl) rfl ?_)
     refine zaf (zai (v := (zac .u32 d326)) rfl ?_)
     have hE347 : Els (rInt .u32) (vH w None [some b1, some b37, ob259] w343) [(zac .u32 d326)] [d326] := (zco (a := [(zac .u32 d326)]) rfl zct)
     refine zaf (zcp (r := (rInt .u32)) (vs := [(zac .u32 d326)]) (css := [[(zac .u32 d326)]]) (xs := [d326]) zao ti89 (zae rfl) rfl rfl ⟨rfl, rfl, trivial⟩ (zae rfl) hE347 rfl hL344 ?_)
     intro b346 w350 hc348 hL351 hS353
     have K352 := ks w hS353
     obtain ⟨x354, q355, h⟩ := bind_some h
     obtain ⟨q356, q357, q358⟩ := apnd_some q355
     have f359 := (hE347.mono (K352 None))
     have f367 := ((hE264.mono (K345 None)).mono (K352 None))
     refine zaf (zdl (r := (rInt .u32)) (H := (vH w None [some b346, some b1, some b37, ob259] w350)) (cs := cs262) (sp := sp261) (xs := digits263) (ys := [d326]) (Y := x354) (n := digits263.length) (cap := cap260) (i := 3) zao ti89 rfl rfl rfl rfl hL351 rfl rfl f367 rfl hc265 (Src.row (pre := []) (o := 0) (n := 1) (cap := 1) (hL351.at 0 rfl rfl) f359 rfl rfl rfl) (Els.anyH (fun _ _ _ _ h => h) f359) q356 q357 q358 ?_)
     intro ob360 cap361 sp363 cs362 w368 hE364 hc365 (hL369 : vL w w368 [some b346, some b1, some b37, ob360] [zab ([] ++ ([(zac .u32 d326)] ++ [])), zab [(zaa false), (zad none 0 0)], zab [(zaa negative38), (osv ob259 0 digits263.length cap260)], zab ([] ++ (cs362 ++ sp363))]) hS371
     have K370 := ks w hS371
     refine zaf (zar (q := 1) zal rfl ti24 rfl rfl rfl ?_)
     refine zcb (zbh (vs := [(osv ob360 0 x354.length cap361)]) ti24 rfl rfl (one_cells (osv_one _ _ _ _)) rfl (ones_cons (osv_one _ _ _ _) ones_nil) hL369 2 rfl rfl (zae rfl) ?_)
     intro w372 (hL373 : vL w w372 [some b346, some b1, some b37, ob360] [zab ([] ++ ([(zac .u32 d326)] ++ [])), zab [(zaa false), (zad none 0 0)], zab [(zaa negative38), (osv ob360 0 x354.length cap361)], zab ([] ++ (cs362 ++ sp363))]) hS375
     have K374 := ks w hS375
     refine zap (zbs (zah rfl (zaf (zai (v := (zac .i64 i267)) rfl ?_))))
     refine zaf (zcd (x := i267) (y := 2) (z := (iw (i267 + 2))) rfl rfl rfl ?_)
     refine zaf (zak (v := (zac .i64 (iw (i267 + 2)))) rfl ?_)
     refine zap ?_
     have hp376 := hL373.pick [1, 2, 3] rfl rfl rfl
     have hL378 : vL w w372 [some b1, some b37, ob360] [zab [(zaa false), (zad none 0 0)], zab [(zaa negative38), (osv ob360 0 x354.length cap361)], zab ([] ++ (cs362 ++ sp363))] := hp376.1
     have K377 := ks w hp376.2
     have f379 := (((hE364.mono (K370 None)).mono (K374 None)).mono (K377 None))
     obtain rfl := zag h
     refine zas ⟨(x354, (iw (i267 + 2))), rfl, ?_⟩
     exact ⟨ob360, cap361, sp363, cs362, x354.length, _, (upds_sym ⟨rfl, rfl, rfl, rfl, trivial⟩), hL378, (zaq (zaq (zaq (zaq (zaq K293 K345) K352) K370) K374) K377), f379, rfl, hc365, trivial⟩
   ·
    replace h := ite_f hc295 h
    refine zcs rfl ?_
    obtain rfl := zag h
    obtain rfl := hd282 _ rfl
    replace h := g280
    try dsimp only at h
    skip
    refine zas ?_
    exact ⟨digits263, ob259, cap260, sp261, cs262, digits263.length, _, rfl, (upds_sym ⟨rfl, rfl, trivial⟩), hL292, K293, hE264, rfl, hc265, trivial⟩
  ·
   rintro _ w380 ⟨digits275, ob271, cap272, sp273, cs274, ln278, u, rfl, rfl, hL381, K382, hE276, rfl, hc277, -⟩
   replace h := g280
   try dsimp only at h
   refine zaj (zah rfl (zaf (zbd (vs := [(zaa negative38), (osv ob271 0 digits275.length cap272)]) zal rfl ti26 rfl (hL381.at 1 rfl rfl) rfl rfl ?_)))
   refine zcb (zbh (vs := [(zaa negative38), (osv ob271 0 digits275.length cap272)]) ti26 rfl rfl rfl rfl (ones_cons rfl (ones_cons (osv_one _ _ _ _) ones_nil)) hL381 0 rfl rfl (zae rfl) ?_)
   intro w383 (hL384 : vL w w383 [some b1, some b37, ob271] [zab [(zaa negative38), (osv ob271 0 digits275.length cap272)], zab [(zaa negative38), (osv ob271 0 digits275.length cap272)], zab ([] ++ (cs274 ++ sp273))]) hS386
   have K385 := ks w hS386
   refine zap ?_
   have f388 := (hE276.mono (K385 None))
   have f387 := hL384.freezeRow 2 rfl rfl f388 rfl rfl rfl hc277
   have hp389 := hL384.pick [0, 1] rfl rfl rfl
   have hL391 : vL w w383 [some b1, some b37] [zab [(zaa negative38), (osv ob271 0 digits275.length cap272)], zab [(zaa negative38), (osv ob271 0 digits275.length cap272)]] := hp389.1
   refine zbl ?_
   obtain rfl := zag h
   refine ⟨[(zan #[(zaa negative38), (osv ob271 0 digits275.length cap272)])], ⟨⟨⟨b1, 0, none⟩, rfl, res_boxA zal rfl ti26 (hL391.at 0 rfl rfl) rfl⟩, trivial⟩, ⟨_, rfl, hL391.done, ?_⟩⟩
   exact ⟨(osv ob271 0 digits275.length cap272), rfl, (f387.mono zdf), trivial⟩
theorem rorder_w (N : Nat) (a : (List Int)) (b : (List Int)) (a_v : Value) (b_v : Value) (w : World) (S : Nat → Prop) (a_h : Rs (rInt .i64) (vH w S [] w) a_v a) (b_h : Rs (rInt .i64) (vH w S [] w) b_v b) (r : Int) (h : rorder N a b = some r) :
  Calls Try.prog 64 #[a_v, b_v] w (Ret w (fun v w' => (zac .i64 r) = v ∧ True)) := by
 unfold rorder at h
 have hL : vL w w [] [] := Go.X.Loc.begin0 w
 refine calls_of (l := [a_v, b_v]) (rl := [.tmp 4]) (n := 41) Try.func64 rfl rfl rfl (zae rfl) ?_
 refine zaj (zah rfl (zaf (zak (v := (zac .i64 0)) rfl ?_)))
 refine zap (zaj (zaj (zah rfl (zaf (zai (v := a_v) rfl ?_)))))
 refine zaf (zbf (v := a_v) zaz rfl a_h ?_)
 refine zaf (zai (v := b_v) rfl ?_)
 refine zaf (zbf (v := b_v) zaz rfl b_h ?_)
 refine zaf (OpY.neq (x := (a.length : Int)) (y := (b.length : Int)) (((a.length : Int) : Int) ≠ (b.length : Int)) rfl rfl zbk ?_)
 refine zap ?_
 refine zbe (((a.length : Int) : Int) ≠ (b.length : Int)) rfl (fun hc1 => ?_) (fun hc1 => ?_)
 ·
  replace h := ite_t hc1 h
  refine zaj (zaj (zah rfl (zaf (zai (v := a_v) rfl ?_))))
  refine zaf (zbf (v := a_v) zaz rfl a_h ?_)
  refine zaf (zai (v := b_v) rfl ?_)
  refine zaf (zbf (v := b_v) zaz rfl b_h ?_)
  refine zaf (zcr (x := (a.length : Int)) (y := (b.length : Int)) (((a.length : Int) : Int) < (b.length : Int)) rfl rfl zbk ?_)
  refine zap ?_
  refine zbe (((a.length : Int) : Int) < (b.length : Int)) rfl (fun hc2 => ?_) (fun hc2 => ?_)
  ·
   replace h := ite_t hc2 h
   refine zaj (zah rfl (zaf (zak (v := (zac .i64 (-1))) rfl ?_)))
   refine zap (zbl ?_)
   obtain rfl := zag h
   refine ⟨[(zac .i64 (-1))], ⟨rfl, trivial⟩, ⟨_, rfl, hL.done, ?_⟩⟩
   exact ⟨rfl, trivial⟩
  ·
   replace h := ite_f hc2 h
   refine zbg (zaj (zah rfl (zaf (zak (v := (zac .i64 1)) rfl ?_))))
   refine zap (zbl ?_)
   obtain rfl := zag h
   refine ⟨[(zac .i64 1)], ⟨rfl, trivial⟩, ⟨_, rfl, hL.done, ?_⟩⟩
   exact ⟨rfl, trivial⟩
 ·
  replace h := ite_f hc1 h
  refine zbg (zaj (zaj (zah rfl (zaf (zai (v := a_v) rfl ?_)))))
  refine zaf (zbf (v := a_v) zaz rfl a_h ?_)
  refine zaf (zdd (x := (a.length : Int)) (y := 1) (z := (iw ((a.length : Int) - 1))) rfl rfl rfl ?_)
  refine zaf (zak (v := (zac .i64 (iw ((a.length : Int) - 1)))) rfl ?_)
  refine zap ?_
  obtain ⟨s369, hl371, g370⟩ := bind_some h
  refine zbr (fun e w' => ∃  (u : Env), (Sum.inl ()) = s369 ∧ e = upds [] u ∧ vL w w' [] [] ∧ Keep w.heap.size [] w [] w' ∧ True) ?_ ?_
  ·
   refine zbj ?_
   refine zcg hl371 (fun (ss : Int) (e : Env) (w' : World) => match ss with | i368 => ∃ (u : Env), e = upds [(0, a_v), (1, b_v), (5, (zac .i64 i368))] u ∧ vL w w' [] [] ∧ Keep w.heap.size [] w [] w' ∧ True) ⟨_, (upds_sym ⟨rfl, rfl, rfl, trivial⟩), hL, zbo, trivial⟩ ?_
   rintro i368 oo _ w373 ⟨u, rfl, hL374, K375, -⟩ h hd372
   rw [rorder_b1] at h
   refine zaj (zaj (zah rfl (zaf (zai (v := (zac .i64 i368)) rfl ?_))))
   refine zaf (OpY.geq (x := i368) (y := 0) ((i368 : Int) ≥ 0) rfl rfl zbk ?_)
   refine zap ?_
   refine zbe ((i368 : Int) ≥ 0) rfl (fun hc376 => ?_) (fun hc376 => ?_)
   ·
    replace h := ite_t hc376 h
    refine zbg (zaj (zbj (zaj (zaj ?_))))
    obtain ⟨x377, q378, h⟩ := bind_some h
    obtain ⟨n379, q380, q381⟩ := idx_some q378
    have f390 := (a_h.mono (K375 S))
    obtain ⟨b382, o383, c384, vs385, q386, q387, f388, q389⟩ := zcz f390 q381
    obtain rfl := q389
    obtain ⟨x391, q392, h⟩ := bind_some h
    obtain ⟨n393, q394, q395⟩ := idx_some q392
    have f404 := (b_h.mono (K375 S))
    obtain ⟨b396, o397, c398, vs399, q400, q401, f402, q403⟩ := zcz f404 q395
    obtain rfl := q403
    refine zcc 8 [] [] (fun W1 => [.det a_v, .det (zac .i64 i368), .det (zam (some ⟨b382, (o383 + n379 * (rInt .i64).sz), none⟩)), .det (zac .i64 x377), .det b_v, .det (zac .i64 i368), .det (zam (some ⟨b396, (o397 + n393 * (rInt .i64).sz), none⟩)), .det (zac .i64 x391)]) mixed rfl rfl rfl (fun _ => rfl) (fun _ => rfl) ?_ ?_
    ·
     intro W1 _
     exact trivial
    ·
     intro w405 hE406
     have hL407 := hL374.ext hE406
     have K408 := ke hL374 hE406
     refine zau (fun _ _ => zat (zai rfl (er rfl))) ?_
     refine zau (fun _ _ => zat (zai rfl (er rfl))) ?_
     refine zau (fun _ _ => zat (zbv (r := (rInt .i64)) (v := a_v) (n := n379) (m := (o383 + n379 * (rInt .i64).sz)) zaz ti3 rfl q386 rfl q380 q381 rfl (er rfl))) ?_
     refine zau (fun _ hE429 => zat (zck zbq rfl rfl vw_view (zcw ((ke hL407 hE429) S) (zcw (K408 S) f388)) (er rfl))) ?_
     refine zau (fun _ _ => zat (zai rfl (er rfl))) ?_
     refine zau (fun _ _ => zat (zai rfl (er rfl))) ?_
     refine zau (fun _ _ => zat (zbv (r := (rInt .i64)) (v := b_v) (n := n393) (m := (o397 + n393 * (rInt .i64).sz)) zaz ti3 rfl q400 rfl q394 q395 rfl (er rfl))) ?_
     refine zau (fun _ hE453 => zat (zck zbq rfl rfl vw_view (zcw ((ke hL407 hE453) S) (zcw (K408 S) f402)) (er rfl))) ?_
     refine zcn ?_
     rintro w457 Z458 hE459 hZ460 ⟨-⟩ ap461
     have hB462 : ∀ b, some b ∈ ([] : List (Option Nat)) → w405.heap.size ≤ b ∧ ¬ Z458 b := by
      intro b hb; cases hb
     have hL463 := hL407.ext hE459
     have K464 := ke hL407 hE459
     refine zaf (zcr (x := x377) (y := x391) ((x377 : Int) < x391) rfl rfl zbk ?_)
     refine zap ?_
     refine zbe ((x377 : Int) < x391) rfl (fun hc465 => ?_) (fun hc465 => ?_)
     ·
      replace h := ite_t hc465 h
      refine zaj (zah rfl (zaf (zak (v := (zac .i64 (-1))) rfl ?_)))
      refine zap (zbl ?_)
      obtain rfl := zag h
      obtain rfl := hd372 _ rfl
      replace h := g370
      try dsimp only at h
      obtain rfl := zag h
      refine ⟨[(zac .i64 (-1))], ⟨rfl, trivial⟩, ⟨_, rfl, hL463.done, ?_⟩⟩
      exact ⟨rfl, trivial⟩
     ·
      replace h := ite_f hc465 h
      refine zbg (zaj ?_)
      obtain ⟨x466, q467, h⟩ := bind_some h
      obtain ⟨n468, q469, q470⟩ := idx_some q467
      have f479 := ((f390.mono (K408 S)).mono (K464 S))
      obtain ⟨b471, o472, c473, vs474, q475, q476, f477, q478⟩ := zcz f479 q470
      obtain rfl := q478
      obtain ⟨x480, q481, h⟩ := bind_some h
      obtain ⟨n482, q483, q484⟩ := idx_some q481
      have f493 := ((f404.mono (K408 S)).mono (K464 S))
      obtain ⟨b485, o486, c487, vs488, q489, q490, f491, q492⟩ := zcz f493 q484
      obtain rfl := q492
      refine zcc 8 [] [] (fun W1 => [.det a_v, .det (zac .i64 i368), .det (zam (some ⟨b471, (o472 + n468 * (rInt .i64).sz), none⟩)), .det (zac .i64 x466), .det b_v, .det (zac .i64 i368), .det (zam (some ⟨b485, (o486 + n482 * (rInt .i64).sz), none⟩)), .det (zac .i64 x480)]) mixed rfl rfl rfl (fun _ => rfl) (fun _ => rfl) ?_ ?_
      ·
       intro W1 _
       exact trivial
      ·
       intro w494 hE495
       have hL496 := hL463.ext hE495
       have K497 := ke hL463 hE495
       refine zau (fun _ _ => zat (zai rfl (er rfl))) ?_
       refine zau (fun _ _ => zat (zai rfl (er rfl))) ?_
       refine zau (fun _ _ => zat (zbv (r := (rInt .i64)) (v := a_v) (n := n468) (m := (o472 + n468 * (rInt .i64).sz)) zaz ti3 rfl q475 rfl q469 q470 rfl (er rfl))) ?_
       refine zau (fun _ hE518 => zat (zck zbq rfl rfl vw_view (zcw ((ke hL496 hE518) S) (zcw (K497 S) f477)) (er rfl))) ?_
       refine zau (fun _ _ => zat (zai rfl (er rfl))) ?_
       refine zau (fun _ _ => zat (zai rfl (er rfl))) ?_
       refine zau (fun _ _ => zat (zbv (r := (rInt .i64)) (v := b_v) (n := n482) (m := (o486 + n482 * (rInt .i64).sz)) zaz ti3 rfl q489 rfl q483 q484 rfl (er rfl))) ?_
       refine zau (fun _ hE542 => zat (zck zbq rfl rfl vw_view (zcw ((ke hL496 hE542) S) (zcw (K497 S) f491)) (er rfl))) ?_
       refine zcn ?_
       rintro w546 Z547 hE548 hZ549 ⟨-⟩ ap550
       have hB551 : ∀ b, some b ∈ ([] : List (Option Nat)) → w494.heap.size ≤ b ∧ ¬ Z547 b := by
        intro b hb; cases hb
       have hL552 := hL496.ext hE548
       have K553 := ke hL496 hE548
       refine zaf (zdm (x := x466) (y := x480) ((x466 : Int) > x480) rfl rfl zbk ?_)
       refine zap ?_
       refine zbe ((x466 : Int) > x480) rfl (fun hc554 => ?_) (fun hc554 => ?_)
       ·
        replace h := ite_t hc554 h
        refine zaj (zah rfl (zaf (zak (v := (zac .i64 1)) rfl ?_)))
        refine zap (zbl ?_)
        obtain rfl := zag h
        obtain rfl := hd372 _ rfl
        replace h := g370
        try dsimp only at h
        obtain rfl := zag h
        refine ⟨[(zac .i64 1)], ⟨rfl, trivial⟩, ⟨_, rfl, hL552.done, ?_⟩⟩
        exact ⟨rfl, trivial⟩
       ·
        replace h := ite_f hc554 h
        refine zbg (zbs (zah rfl (zaf (zai (v := (zac .i64 i368)) rfl ?_))))
        refine zaf (zdd (x := i368) (y := 1) (z := (iw (i368 - 1))) rfl rfl rfl ?_)
        refine zaf (zak (v := (zac .i64 (iw (i368 - 1)))) rfl ?_)
        refine zap ?_
        obtain rfl := zag h
        refine zas ⟨(iw (i368 - 1)), rfl, ?_⟩
        exact ⟨_, (upds_sym ⟨rfl, rfl, rfl, trivial⟩), hL552, (zaq (zaq (zaq (zaq K375 K408) K464) K497) K553), trivial⟩
   ·
    replace h := ite_f hc376 h
    refine zcs rfl ?_
    obtain rfl := zag h
    obtain rfl := hd372 _ rfl
    replace h := g370
    try dsimp only at h
    skip
    refine zas ?_
    exact ⟨_, rfl, (upds_sym trivial), hL374, K375, trivial⟩
  ·
   rintro _ w555 ⟨u, rfl, rfl, hL556, K557, -⟩
   replace h := g370
   try dsimp only at h
   refine zaj (zah rfl (zaf (zak (v := (zac .i64 0)) rfl ?_)))
   refine zap (zbl ?_)
   obtain rfl := zag h
   refine ⟨[(zac .i64 0)], ⟨rfl, trivial⟩, ⟨_, rfl, hL556.done, ?_⟩⟩
   exact ⟨rfl, trivial⟩
theorem rplus_w (N : Nat) (a : (List Int)) (b : (List Int)) (a_v : Value) (b_v : Value) (w : World) (S : Nat → Prop) (a_h : Rs (rInt .i64) (vH w S [] w) a_v a) (b_h : Rs (rInt .i64) (vH w S [] w) b_v b) (r : (List Int)) (h : rplus N a b = some r) :
  Calls Try.prog 69 #[a_v, b_v] w (Ret w (fun v w' => ∃ (v0_0 : Value), v0_0 = v ∧ Rs (rInt .i64) (vH w None [] w') v0_0 r ∧ True)) := by
 unfold rplus at h
 have hL : vL w w [] [] := Go.X.Loc.begin0 w
 refine calls_of (l := [a_v, b_v]) (rl := [.tmp 4]) (n := 54) Try.func69 rfl rfl rfl (zae rfl) ?_
 refine zaj (zah rfl (zaf (zak (v := (zad none 0 0)) rfl ?_)))
 refine zap (zaj (zah rfl (zaf (OpY.litRow0 zaz ti3 hL ?_))))
 intro b1 w5 hL6 hS8
 have hE9 : Els (rInt .i64) (vH w None [] w) [] [] := zct
 have K7 := ks w hS8
 refine zaf (zak (v := (osv (some b1) 0 (List.length ([] : (List Int))) 0)) rfl ?_)
 refine zap (zaj (zah rfl (zaf (zak (v := (zac .i64 0)) rfl ?_))))
 refine zap (zaj (zaj (zah rfl (zaf (zak (v := (zac .i64 0)) rfl ?_)))))
 refine zap ?_
 obtain ⟨s276, hl278, g277⟩ := bind_some h
 refine zbr (fun e w' => ∃ (out272 : (List Int)) (ob268 : Option Nat) (cap269 : Nat) (sp270 : List Value) (cs271 : List Value) (ln275 : Nat) (u : Env), out272 = s276 ∧ e = upds [(5, (osv ob268 0 ln275 cap269))] u ∧ vL w w' [ob268] [zab ([] ++ (cs271 ++ sp270))] ∧ Keep w.heap.size [some b1] w5 [ob268] w' ∧ Els (rInt .i64) (vH w None [ob268] w') cs271 out272 ∧ ln275 = List.length out272 ∧ (cs271 ++ sp270).length = cap269 * (rInt .i64).sz ∧ True) ?_ ?_
 ·
  refine zbj ?_
  have f280 := (hE9.mono (K7 None))
  refine zcg hl278 (fun (ss : ((List Int) × Int × Int)) (e : Env) (w' : World) => match ss with | (out261, carry265, i266) => ∃ (ob257 : Option Nat) (cap258 : Nat) (sp259 : List Value) (cs260 : List Value) (ln264 : Nat) (u : Env), e = upds [(0, a_v), (1, b_v), (5, (osv ob257 0 ln264 cap258)), (6, (zac .i64 carry265)), (7, (zac .i64 i266))] u ∧ vL w w' [ob257] [zab ([] ++ (cs260 ++ sp259))] ∧ Keep w.heap.size [some b1] w5 [ob257] w' ∧ Els (rInt .i64) (vH w None [ob257] w') cs260 out261 ∧ ln264 = List.length out261 ∧ (cs260 ++ sp259).length = cap258 * (rInt .i64).sz ∧ True) ⟨some b1, 0, [], [], (List.length ([] : (List Int))), _, (upds_sym ⟨rfl, rfl, rfl, rfl, rfl, trivial⟩), hL6, zbo, f280, rfl, (show ([] ++ [] : List Value).length = 0 * (rInt .i64).sz by simp), trivial⟩ ?_
  rintro ⟨out261, carry265, i266⟩ oo _ w281 ⟨ob257, cap258, sp259, cs260, ln264, u, rfl, hL282, K283, hE262, rfl, hc263, -⟩ h hd279
  rw [rplus_b1] at h
  refine zaj (zaj ?_)
  obtain ⟨s290, h, g291⟩ := bind_some h
  refine zbr (fun e w' => ∃ (x289 : Bool) (u : Env), x289 = s290 ∧ e = upds [(0, a_v), (1, b_v), (5, (osv ob257 0 out261.length cap258)), (6, (zac .i64 carry265)), (7, (zac .i64 i266)), (22, (zaa x289))] u ∧ vL w w' [ob257] [zab ([] ++ (cs260 ++ sp259))] ∧ Keep w.heap.size [ob257] w281 [ob257] w' ∧ True) ?_ ?_
  ·
   refine zah rfl (zaf (zai (v := (zac .i64 i266)) rfl ?_))
   refine zaf (zai (v := a_v) rfl ?_)
   have f292 := ((a_h.mono (K7 S)).mono (K283 S))
   refine zaf (zbf (v := a_v) zaz rfl f292 ?_)
   refine zaf (zcr (x := i266) (y := (a.length : Int)) ((i266 : Int) < (a.length : Int)) rfl rfl zbk ?_)
   refine zaf (zai (v := (zaa (decide ((i266 : Int) < (a.length : Int))))) rfl ?_)
   by_cases hc293 : (i266 : Int) < (a.length : Int)
   ·
    replace h := ite_t hc293 h
    refine zbt rfl rfl (decide_eq_true hc293) ?_
    refine zbt rfl rfl (decide_eq_true hc293) ?_
    refine zbt rfl rfl (decide_eq_true hc293) ?_
    refine zbt rfl rfl (decide_eq_true hc293) ?_
    refine zaf (zcm (t := (decide ((i266 : Int) < (a.length : Int)))) (v := (zaa true)) rfl (decide_eq_true hc293) rfl ?_)
    refine zaf (zai (v := (zaa true)) rfl ?_)
    refine zbt rfl rfl rfl ?_
    refine zbt rfl rfl rfl ?_
    refine zaf (zcm (t := true) (v := (zaa true)) rfl rfl rfl ?_)
    refine zap ?_
    obtain rfl := zag h
    refine zas ?_
    exact ⟨true, _, rfl, (upds_sym ⟨rfl, rfl, rfl, rfl, rfl, rfl, trivial⟩), hL282, zbo, trivial⟩
   ·
    replace h := ite_f hc293 h
    refine zbu rfl rfl (decide_eq_false hc293) (zai (v := (zac .i64 i266)) rfl ?_)
    refine zbu rfl rfl (decide_eq_false hc293) (zai (v := b_v) rfl ?_)
    have f294 := ((b_h.mono (K7 S)).mono (K283 S))
    refine zbu rfl rfl (decide_eq_false hc293) (zbf (v := b_v) zaz rfl f294 ?_)
    refine zbu rfl rfl (decide_eq_false hc293) (zcr (x := i266) (y := (b.length : Int)) ((i266 : Int) < (b.length : Int)) rfl rfl zbk ?_)
    refine zaf (zbz (t := (decide ((i266 : Int) < (a.length : Int)))) (v := (zaa (decide ((i266 : Int) < (b.length : Int))))) rfl (decide_eq_false hc293) rfl ?_)
    refine zaf (zai (v := (zaa (decide ((i266 : Int) < (b.length : Int))))) rfl ?_)
    by_cases hc295 : (i266 : Int) < (b.length : Int)
    ·
     replace h := ite_t hc295 h
     refine zbt rfl rfl (decide_eq_true hc295) ?_
     refine zbt rfl rfl (decide_eq_true hc295) ?_
     refine zaf (zcm (t := (decide ((i266 : Int) < (b.length : Int)))) (v := (zaa true)) rfl (decide_eq_true hc295) rfl ?_)
     refine zap ?_
     obtain rfl := zag h
     refine zas ?_
     exact ⟨true, _, rfl, (upds_sym ⟨rfl, rfl, rfl, rfl, rfl, rfl, trivial⟩), hL282, zbo, trivial⟩
    ·
     replace h := ite_f hc295 h
     refine zbu rfl rfl (decide_eq_false hc295) (zai (v := (zac .i64 carry265)) rfl ?_)
     refine zbu rfl rfl (decide_eq_false hc295) (zdm (x := carry265) (y := 0) ((carry265 : Int) > 0) rfl rfl zbk ?_)
     refine zaf (zbz (t := (decide ((i266 : Int) < (b.length : Int)))) (v := (zaa (decide ((carry265 : Int) > 0)))) rfl (decide_eq_false hc295) rfl ?_)
     refine zap ?_
     obtain rfl := zag h
     refine zas ?_
     exact ⟨(decide ((carry265 : Int) > 0)), _, rfl, (upds_sym ⟨rfl, rfl, rfl, rfl, rfl, rfl, trivial⟩), hL282, zbo, trivial⟩
  ·
   rintro _ w296 ⟨x289, u, rfl, rfl, hL297, K298, -⟩
   replace h := g291
   try dsimp only at h
   refine zcu x289 rfl (fun hc299 => ?_) (fun hc299 => ?_)
   ·
    replace h := ite_t hc299 h
    refine zbg (zaj (zbj (zaj (zaj (zah rfl (zaf (zai (v := (zac .i64 i266)) rfl ?_)))))))
    refine zaf (zai (v := a_v) rfl ?_)
    have f300 := (((a_h.mono (K7 S)).mono (K283 S)).mono (K298 S))
    refine zaf (zbf (v := a_v) zaz rfl f300 ?_)
    refine zaf (zcr (x := i266) (y := (a.length : Int)) ((i266 : Int) < (a.length : Int)) rfl rfl zbk ?_)
    refine zap ?_
    obtain ⟨s317, h, g318⟩ := bind_some h
    refine zbr (fun e w' => ∃ (carry316 : Int) (u : Env), carry316 = s317 ∧ e = upds [(0, a_v), (1, b_v), (5, (osv ob257 0 out261.length cap258)), (6, (zac .i64 carry316)), (7, (zac .i64 i266))] u ∧ vL w w' [ob257] [zab ([] ++ (cs260 ++ sp259))] ∧ Keep w.heap.size [ob257] w296 [ob257] w' ∧ True) ?_ ?_
    ·
     refine zbe ((i266 : Int) < (a.length : Int)) rfl (fun hc319 => ?_) (fun hc319 => ?_)
     ·
      replace h := ite_t hc319 h
      refine zah rfl (zaf (zai (v := (zac .i64 carry265)) rfl ?_))
      refine zaf (zai (v := a_v) rfl ?_)
      refine zaf (zai (v := (zac .i64 i266)) rfl ?_)
      obtain ⟨x320, q321, h⟩ := bind_some h
      obtain ⟨n322, q323, q324⟩ := idx_some q321
      obtain ⟨b325, o326, c327, vs328, q329, q330, f331, q332⟩ := zcz f300 q324
      obtain rfl := q332
      refine zaf (zbv (r := (rInt .i64)) (v := a_v) (n := n322) (m := (o326 + n322 * (rInt .i64).sz)) zaz ti3 rfl q329 rfl q323 q324 rfl ?_)
      refine zaf (zck (v := (zac .i64 x320)) zbq rfl rfl vw_view f331 ?_)
      refine zaf (zcd (x := carry265) (y := x320) (z := (iw (carry265 + x320))) rfl rfl rfl ?_)
      refine zaf (zak (v := (zac .i64 (iw (carry265 + x320)))) rfl ?_)
      refine zap ?_
      obtain rfl := zag h
      refine zas ?_
      exact ⟨(iw (carry265 + x320)), _, rfl, (upds_sym ⟨rfl, rfl, rfl, rfl, rfl, trivial⟩), hL297, zbo, trivial⟩
     ·
      replace h := ite_f hc319 h
      refine zbg ?_
      obtain rfl := zag h
      refine zas ?_
      exact ⟨carry265, _, rfl, (upds_sym ⟨rfl, rfl, rfl, rfl, rfl, trivial⟩), hL297, zbo, trivial⟩
    ·
     rintro _ w333 ⟨carry316, u, rfl, rfl, hL334, K335, -⟩
     replace h := g318
     try dsimp only at h
     refine zaj (zaj (zah rfl (zaf (zai (v := (zac .i64 i266)) rfl ?_))))
     refine zaf (zai (v := b_v) rfl ?_)
     have f336 := ((((b_h.mono (K7 S)).mono (K283 S)).mono (K298 S)).mono (K335 S))
     refine zaf (zbf (v := b_v) zaz rfl f336 ?_)
     refine zaf (zcr (x := i266) (y := (b.length : Int)) ((i266 : Int) < (b.length : Int)) rfl rfl zbk ?_)
     refine zap ?_
     obtain ⟨s353, h, g354⟩ := bind_some h
     refine zbr (fun e w' => ∃ (carry352 : Int) (u : Env), carry352 = s353 ∧ e = upds [(0, a_v), (1, b_v), (5, (osv ob257 0 out261.length cap258)), (6, (zac .i64 carry352)), (7, (zac .i64 i266))] u ∧ vL w w' [ob257] [zab ([] ++ (cs260 ++ sp259))] ∧ Keep w.heap.size [ob257] w333 [ob257] w' ∧ True) ?_ ?_
     ·
      refine zbe ((i266 : Int) < (b.length : Int)) rfl (fun hc355 => ?_) (fun hc355 => ?_)
      ·
       replace h := ite_t hc355 h
       refine zah rfl (zaf (zai (v := (zac .i64 carry316)) rfl ?_))
       refine zaf (zai (v := b_v) rfl ?_)
       refine zaf (zai (v := (zac .i64 i266)) rfl ?_)
       obtain ⟨x356, q357, h⟩ := bind_some h
       obtain ⟨n358, q359, q360⟩ := idx_some q357
       obtain ⟨b361, o362, c363, vs364, q365, q366, f367, q368⟩ := zcz f336 q360
       obtain rfl := q368
       refine zaf (zbv (r := (rInt .i64)) (v := b_v) (n := n358) (m := (o362 + n358 * (rInt .i64).sz)) zaz ti3 rfl q365 rfl q359 q360 rfl ?_)
       refine zaf (zck (v := (zac .i64 x356)) zbq rfl rfl vw_view f367 ?_)
       refine zaf (zcd (x := carry316) (y := x356) (z := (iw (carry316 + x356))) rfl rfl rfl ?_)
       refine zaf (zak (v := (zac .i64 (iw (carry316 + x356)))) rfl ?_)
       refine zap ?_
       obtain rfl := zag h
       refine zas ?_
       exact ⟨(iw (carry316 + x356)), _, rfl, (upds_sym ⟨rfl, rfl, rfl, rfl, rfl, trivial⟩), hL334, zbo, trivial⟩
      ·
       replace h := ite_f hc355 h
       refine zbg ?_
       obtain rfl := zag h
       refine zas ?_
       exact ⟨carry316, _, rfl, (upds_sym ⟨rfl, rfl, rfl, rfl, rfl, trivial⟩), hL334, zbo, trivial⟩
     ·
      rintro _ w369 ⟨carry352, u, rfl, rfl, hL370, K371, -⟩
      replace h := g354
      try dsimp only at h
      refine zaj (zah rfl (zaf (zai (v := (osv ob257 0 out261.length cap258)) rfl ?_)))
      refine zaf (zai (v := (zac .i64 carry352)) rfl ?_)
      refine zaf (OpY.remI (x := carry352) (y := 65536) rfl rfl (by decide) ?_)
      have hE373 : Els (rInt .i64) (vH w None [ob257] w369) [(zac .i64 (Int.tmod carry352 65536))] [(Int.tmod carry352 65536)] := (zco (a := [(zac .i64 (Int.tmod carry352 65536))]) rfl zct)
      refine zaf (zcp (r := (rInt .i64)) (vs := [(zac .i64 (Int.tmod carry352 65536))]) (css := [[(zac .i64 (Int.tmod carry352 65536))]]) (xs := [(Int.tmod carry352 65536)]) zaz ti3 (zae rfl) rfl rfl ⟨rfl, rfl, trivial⟩ (zae rfl) hE373 rfl hL370 ?_)
      intro b372 w376 hc374 hL377 hS379
      have K378 := ks w hS379
      obtain ⟨x380, q381, h⟩ := bind_some h
      obtain ⟨q382, q383, q384⟩ := apnd_some q381
      have f385 := (hE373.mono (K378 None))
      have f393 := ((((hE262.mono (K298 None)).mono (K335 None)).mono (K371 None)).mono (K378 None))
      refine zaf (zdl (r := (rInt .i64)) (H := (vH w None [some b372, ob257] w376)) (cs := cs260) (sp := sp259) (xs := out261) (ys := [(Int.tmod carry352 65536)]) (Y := x380) (n := out261.length) (cap := cap258) (i := 1) zaz ti3 rfl rfl rfl rfl hL377 rfl rfl f393 rfl hc263 (Src.row (pre := []) (o := 0) (n := 1) (cap := 1) (hL377.at 0 rfl rfl) f385 rfl rfl rfl) (Els.anyH (fun _ _ _ _ h => h) f385) q382 q383 q384 ?_)
      intro ob386 cap387 sp389 cs388 w394 hE390 hc391 (hL395 : vL w w394 [some b372, ob386] [zab ([] ++ ([(zac .i64 (Int.tmod carry352 65536))] ++ [])), zab ([] ++ (cs388 ++ sp389))]) hS397
      have K396 := ks w hS397
      refine zaf (zak (v := (osv ob386 0 x380.length cap387)) rfl ?_)
      refine zap (zah rfl (zaf (zai (v := (zac .i64 carry352)) rfl ?_)))
      refine zaf (OpY.quoI (x := carry352) (y := 65536) (z := (iw (Int.tdiv carry352 65536))) rfl rfl (by decide) rfl ?_)
      refine zaf (zak (v := (zac .i64 (iw (Int.tdiv carry352 65536)))) rfl ?_)
      refine zap (zbs (zah rfl (zaf (zai (v := (zac .i64 i266)) rfl ?_))))
      refine zaf (zcd (x := i266) (y := 1) (z := (iw (i266 + 1))) rfl rfl rfl ?_)
      refine zaf (zak (v := (zac .i64 (iw (i266 + 1)))) rfl ?_)
      refine zap ?_
      have hp398 := hL395.pick [1] rfl rfl rfl
      have hL400 : vL w w394 [ob386] [zab ([] ++ (cs388 ++ sp389))] := hp398.1
      have K399 := ks w hp398.2
      have f401 := ((hE390.mono (K396 None)).mono (K399 None))
      obtain rfl := zag h
      refine zas ⟨(x380, (iw (Int.tdiv carry352 65536)), (iw (i266 + 1))), rfl, ?_⟩
      exact ⟨ob386, cap387, sp389, cs388, x380.length, _, (upds_sym ⟨rfl, rfl, rfl, rfl, rfl, trivial⟩), hL400, (zaq (zaq (zaq (zaq (zaq (zaq K283 K298) K335) K371) K378) K396) K399), f401, rfl, hc391, trivial⟩
   ·
    replace h := ite_f hc299 h
    refine zcs rfl ?_
    have f402 := (hE262.mono (K298 None))
    obtain rfl := zag h
    obtain rfl := hd279 _ rfl
    replace h := g277
    try dsimp only at h
    skip
    refine zas ?_
    exact ⟨out261, ob257, cap258, sp259, cs260, out261.length, _, rfl, (upds_sym ⟨rfl, trivial⟩), hL297, (zaq K283 K298), f402, rfl, hc263, trivial⟩
 ·
  rintro _ w403 ⟨out272, ob268, cap269, sp270, cs271, ln275, u, rfl, rfl, hL404, K405, hE273, rfl, hc274, -⟩
  replace h := g277
  try dsimp only at h
  refine zaj (zah rfl (zaf (zai (v := (osv ob268 0 out272.length cap269)) rfl ?_)))
  have f406 := hL404.freezeRow 0 rfl rfl hE273 rfl rfl rfl hc274
  have hp407 := hL404.pick [] rfl rfl rfl
  have hL409 : vL w w403 [] [] := hp407.1
  obtain ⟨r410, q411, h⟩ := bind_some h
  refine zaf (zaw en82 rfl rfl (rtrim_w N out272 (osv ob268 0 out272.length cap269) _ _ (f406.mono Hv.enter) r410 q411) ?_)
  rintro _ w415 hE418 ⟨v412, rfl, k413, -⟩
  replace k413 := k413.mono (Hv.aliasO (S := None) hL409 [])
  have hL416 := hL409.ext hE418
  refine zaf (zak (v := v412) rfl ?_)
  refine zap (zbl ?_)
  obtain rfl := zag h
  refine ⟨[v412], ⟨rfl, trivial⟩, ⟨_, rfl, hL416.done, ?_⟩⟩
  exact ⟨v412, rfl, (k413.mono zdf), trivial⟩
theorem rminus_w (N : Nat) (a : (List Int)) (b : (List Int)) (a_v : Value) (b_v : Value) (w : World) (S : Nat → Prop) (a_h : Rs (rInt .i64) (vH w S [] w) a_v a) (b_h : Rs (rInt .i64) (vH w S [] w) b_v b) (r : (List Int)) (h : rminus N a b = some r) :
  Calls Try.prog 70 #[a_v, b_v] w (Ret w (fun v w' => ∃ (v0_0 : Value), v0_0 = v ∧ Rs (rInt .i64) (vH w None [] w') v0_0 r ∧ True)) := by
 unfold rminus at h
 have hL : vL w w [] [] := Go.X.Loc.begin0 w
 refine calls_of (l := [a_v, b_v]) (rl := [.tmp 4]) (n := 42) Try.func70 rfl rfl rfl (zae rfl) ?_
 refine zaj (zah rfl (zaf (zak (v := (zad none 0 0)) rfl ?_)))
 refine zap (zaj (zah rfl (zaf (OpY.litRow0 zaz ti3 hL ?_))))
 intro b1 w5 hL6 hS8
 have hE9 : Els (rInt .i64) (vH w None [] w) [] [] := zct
 have K7 := ks w hS8
 refine zaf (zak (v := (osv (some b1) 0 (List.length ([] : (List Int))) 0)) rfl ?_)
 refine zap (zaj (zah rfl (zaf (zak (v := (zac .i64 0)) rfl ?_))))
 refine zap (zaj (zaj (zah rfl (zaf (zak (v := (zac .i64 0)) rfl ?_)))))
 refine zap ?_
 obtain ⟨s222, hl224, g223⟩ := bind_some h
 refine zbr (fun e w' => ∃ (out218 : (List Int)) (ob214 : Option Nat) (cap215 : Nat) (sp216 : List Value) (cs217 : List Value) (ln221 : Nat) (u : Env), out218 = s222 ∧ e = upds [(5, (osv ob214 0 ln221 cap215))] u ∧ vL w w' [ob214] [zab ([] ++ (cs217 ++ sp216))] ∧ Keep w.heap.size [some b1] w5 [ob214] w' ∧ Els (rInt .i64) (vH w None [ob214] w') cs217 out218 ∧ ln221 = List.length out218 ∧ (cs217 ++ sp216).length = cap215 * (rInt .i64).sz ∧ True) ?_ ?_
 ·
  refine zbj ?_
  have f226 := (hE9.mono (K7 None))
  refine zcg hl224 (fun (ss : ((List Int) × Int × Int)) (e : Env) (w' : World) => match ss with | (out207, borrow211, i212) => ∃ (ob203 : Option Nat) (cap204 : Nat) (sp205 : List Value) (cs206 : List Value) (ln210 : Nat) (u : Env), e = upds [(0, a_v), (1, b_v), (5, (osv ob203 0 ln210 cap204)), (6, (zac .i64 borrow211)), (7, (zac .i64 i212))] u ∧ vL w w' [ob203] [zab ([] ++ (cs206 ++ sp205))] ∧ Keep w.heap.size [some b1] w5 [ob203] w' ∧ Els (rInt .i64) (vH w None [ob203] w') cs206 out207 ∧ ln210 = List.length out207 ∧ (cs206 ++ sp205).length = cap204 * (rInt .i64).sz ∧ True) ⟨some b1, 0, [], [], (List.length ([] : (List Int))), _, (upds_sym ⟨rfl, rfl, rfl, rfl, rfl, trivial⟩), hL6, zbo, f226, rfl, (show ([] ++ [] : List Value).length = 0 * (rInt .i64).sz by simp), trivial⟩ ?_
  rintro ⟨out207, borrow211, i212⟩ oo _ w227 ⟨ob203, cap204, sp205, cs206, ln210, u, rfl, hL228, K229, hE208, rfl, hc209, -⟩ h hd225
  rw [rminus_b1] at h
  refine zaj (zaj (zah rfl (zaf (zai (v := (zac .i64 i212)) rfl ?_))))
  refine zaf (zai (v := a_v) rfl ?_)
  have f230 := ((a_h.mono (K7 S)).mono (K229 S))
  refine zaf (zbf (v := a_v) zaz rfl f230 ?_)
  refine zaf (zcr (x := i212) (y := (a.length : Int)) ((i212 : Int) < (a.length : Int)) rfl rfl zbk ?_)
  refine zap ?_
  refine zbe ((i212 : Int) < (a.length : Int)) rfl (fun hc231 => ?_) (fun hc231 => ?_)
  ·
   replace h := ite_t hc231 h
   refine zbg (zaj (zbj (zaj (zah rfl (zaf (zai (v := a_v) rfl ?_))))))
   refine zaf (zai (v := (zac .i64 i212)) rfl ?_)
   obtain ⟨x232, q233, h⟩ := bind_some h
   obtain ⟨n234, q235, q236⟩ := idx_some q233
   obtain ⟨b237, o238, c239, vs240, q241, q242, f243, q244⟩ := zcz f230 q236
   obtain rfl := q244
   refine zaf (zbv (r := (rInt .i64)) (v := a_v) (n := n234) (m := (o238 + n234 * (rInt .i64).sz)) zaz ti3 rfl q241 rfl q235 q236 rfl ?_)
   refine zaf (zck (v := (zac .i64 x232)) zbq rfl rfl vw_view f243 ?_)
   refine zaf (zai (v := (zac .i64 borrow211)) rfl ?_)
   refine zaf (zdd (x := x232) (y := borrow211) (z := (iw (x232 - borrow211))) rfl rfl rfl ?_)
   refine zaf (zak (v := (zac .i64 (iw (x232 - borrow211)))) rfl ?_)
   refine zap (zaj (zaj (zah rfl (zaf (zai (v := (zac .i64 i212)) rfl ?_)))))
   refine zaf (zai (v := b_v) rfl ?_)
   have f245 := ((b_h.mono (K7 S)).mono (K229 S))
   refine zaf (zbf (v := b_v) zaz rfl f245 ?_)
   refine zaf (zcr (x := i212) (y := (b.length : Int)) ((i212 : Int) < (b.length : Int)) rfl rfl zbk ?_)
   refine zap ?_
   obtain ⟨s262, h, g263⟩ := bind_some h
   refine zbr (fun e w' => ∃ (n261 : Int) (u : Env), n261 = s262 ∧ e = upds [(0, a_v), (1, b_v), (5, (osv ob203 0 out207.length cap204)), (7, (zac .i64 i212)), (8, (zac .i64 n261))] u ∧ vL w w' [ob203] [zab ([] ++ (cs206 ++ sp205))] ∧ Keep w.heap.size [ob203] w227 [ob203] w' ∧ True) ?_ ?_
   ·
    refine zbe ((i212 : Int) < (b.length : Int)) rfl (fun hc264 => ?_) (fun hc264 => ?_)
    ·
     replace h := ite_t hc264 h
     refine zah rfl (zaf (zai (v := (zac .i64 (iw (x232 - borrow211)))) rfl ?_))
     refine zaf (zai (v := b_v) rfl ?_)
     refine zaf (zai (v := (zac .i64 i212)) rfl ?_)
     obtain ⟨x265, q266, h⟩ := bind_some h
     obtain ⟨n267, q268, q269⟩ := idx_some q266
     obtain ⟨b270, o271, c272, vs273, q274, q275, f276, q277⟩ := zcz f245 q269
     obtain rfl := q277
     refine zaf (zbv (r := (rInt .i64)) (v := b_v) (n := n267) (m := (o271 + n267 * (rInt .i64).sz)) zaz ti3 rfl q274 rfl q268 q269 rfl ?_)
     refine zaf (zck (v := (zac .i64 x265)) zbq rfl rfl vw_view f276 ?_)
     refine zaf (zdd (x := (iw (x232 - borrow211))) (y := x265) (z := (iw ((iw (x232 - borrow211)) - x265))) rfl rfl rfl ?_)
     refine zaf (zak (v := (zac .i64 (iw ((iw (x232 - borrow211)) - x265)))) rfl ?_)
     refine zap ?_
     obtain rfl := zag h
     refine zas ?_
     exact ⟨(iw ((iw (x232 - borrow211)) - x265)), _, rfl, (upds_sym ⟨rfl, rfl, rfl, rfl, rfl, trivial⟩), hL228, zbo, trivial⟩
    ·
     replace h := ite_f hc264 h
     refine zbg ?_
     obtain rfl := zag h
     refine zas ?_
     exact ⟨(iw (x232 - borrow211)), _, rfl, (upds_sym ⟨rfl, rfl, rfl, rfl, rfl, trivial⟩), hL228, zbo, trivial⟩
   ·
    rintro _ w278 ⟨n261, u, rfl, rfl, hL279, K280, -⟩
    replace h := g263
    try dsimp only at h
    refine zaj (zah rfl (zaf (zak (v := (zac .i64 0)) rfl ?_)))
    refine zap (zaj (zaj (zah rfl (zaf (zai (v := (zac .i64 n261)) rfl ?_)))))
    refine zaf (zcr (x := n261) (y := 0) ((n261 : Int) < 0) rfl rfl zbk ?_)
    refine zap ?_
    obtain ⟨s285, h, g286⟩ := bind_some h
    refine zbr (fun e w' => ∃ (borrow283 : Int) (n284 : Int) (u : Env), (borrow283, n284) = s285 ∧ e = upds [(0, a_v), (1, b_v), (5, (osv ob203 0 out207.length cap204)), (6, (zac .i64 borrow283)), (7, (zac .i64 i212)), (8, (zac .i64 n284))] u ∧ vL w w' [ob203] [zab ([] ++ (cs206 ++ sp205))] ∧ Keep w.heap.size [ob203] w278 [ob203] w' ∧ True) ?_ ?_
    ·
     refine zbe ((n261 : Int) < 0) rfl (fun hc287 => ?_) (fun hc287 => ?_)
     ·
      replace h := ite_t hc287 h
      refine zaj (zah rfl (zaf (zai (v := (zac .i64 n261)) rfl ?_)))
      refine zaf (zcd (x := n261) (y := 65536) (z := (iw (n261 + 65536))) rfl rfl rfl ?_)
      refine zaf (zak (v := (zac .i64 (iw (n261 + 65536)))) rfl ?_)
      refine zap (zah rfl (zaf (zak (v := (zac .i64 1)) rfl ?_)))
      refine zap ?_
      obtain rfl := zag h
      refine zas ?_
      exact ⟨1, (iw (n261 + 65536)), _, rfl, (upds_sym ⟨rfl, rfl, rfl, rfl, rfl, rfl, trivial⟩), hL279, zbo, trivial⟩
     ·
      replace h := ite_f hc287 h
      refine zbg ?_
      obtain rfl := zag h
      refine zas ?_
      exact ⟨0, n261, _, rfl, (upds_sym ⟨rfl, rfl, rfl, rfl, rfl, rfl, trivial⟩), hL279, zbo, trivial⟩
    ·
     rintro _ w288 ⟨borrow283, n284, u, rfl, rfl, hL289, K290, -⟩
     replace h := g286
     try dsimp only at h
     refine zah rfl (zaf (zai (v := (osv ob203 0 out207.length cap204)) rfl ?_))
     refine zaf (zai (v := (zac .i64 n284)) rfl ?_)
     have hE292 : Els (rInt .i64) (vH w None [ob203] w288) [(zac .i64 n284)] [n284] := (zco (a := [(zac .i64 n284)]) rfl zct)
     refine zaf (zcp (r := (rInt .i64)) (vs := [(zac .i64 n284)]) (css := [[(zac .i64 n284)]]) (xs := [n284]) zaz ti3 (zae rfl) rfl rfl ⟨rfl, rfl, trivial⟩ (zae rfl) hE292 rfl hL289 ?_)
     intro b291 w295 hc293 hL296 hS298
     have K297 := ks w hS298
     obtain ⟨x299, q300, h⟩ := bind_some h
     obtain ⟨q301, q302, q303⟩ := apnd_some q300
     have f304 := (hE292.mono (K297 None))
     have f312 := (((hE208.mono (K280 None)).mono (K290 None)).mono (K297 None))
     refine zaf (zdl (r := (rInt .i64)) (H := (vH w None [some b291, ob203] w295)) (cs := cs206) (sp := sp205) (xs := out207) (ys := [n284]) (Y := x299) (n := out207.length) (cap := cap204) (i := 1) zaz ti3 rfl rfl rfl rfl hL296 rfl rfl f312 rfl hc209 (Src.row (pre := []) (o := 0) (n := 1) (cap := 1) (hL296.at 0 rfl rfl) f304 rfl rfl rfl) (Els.anyH (fun _ _ _ _ h => h) f304) q301 q302 q303 ?_)
     intro ob305 cap306 sp308 cs307 w313 hE309 hc310 (hL314 : vL w w313 [some b291, ob305] [zab ([] ++ ([(zac .i64 n284)] ++ [])), zab ([] ++ (cs307 ++ sp308))]) hS316
     have K315 := ks w hS316
     refine zaf (zak (v := (osv ob305 0 x299.length cap306)) rfl ?_)
     refine zap (zbs (zah rfl (zaf (zai (v := (zac .i64 i212)) rfl ?_))))
     refine zaf (zcd (x := i212) (y := 1) (z := (iw (i212 + 1))) rfl rfl rfl ?_)
     refine zaf (zak (v := (zac .i64 (iw (i212 + 1)))) rfl ?_)
     refine zap ?_
     have hp317 := hL314.pick [1] rfl rfl rfl
     have hL319 : vL w w313 [ob305] [zab ([] ++ (cs307 ++ sp308))] := hp317.1
     have K318 := ks w hp317.2
     have f320 := ((hE309.mono (K315 None)).mono (K318 None))
     obtain rfl := zag h
     refine zas ⟨(x299, borrow283, (iw (i212 + 1))), rfl, ?_⟩
     exact ⟨ob305, cap306, sp308, cs307, x299.length, _, (upds_sym ⟨rfl, rfl, rfl, rfl, rfl, trivial⟩), hL319, (zaq (zaq (zaq (zaq (zaq K229 K280) K290) K297) K315) K318), f320, rfl, hc310, trivial⟩
  ·
   replace h := ite_f hc231 h
   refine zcs rfl ?_
   obtain rfl := zag h
   obtain rfl := hd225 _ rfl
   replace h := g223
   try dsimp only at h
   skip
   refine zas ?_
   exact ⟨out207, ob203, cap204, sp205, cs206, out207.length, _, rfl, (upds_sym ⟨rfl, trivial⟩), hL228, K229, hE208, rfl, hc209, trivial⟩
 ·
  rintro _ w321 ⟨out218, ob214, cap215, sp216, cs217, ln221, u, rfl, rfl, hL322, K323, hE219, rfl, hc220, -⟩
  replace h := g223
  try dsimp only at h
  refine zaj (zah rfl (zaf (zai (v := (osv ob214 0 out218.length cap215)) rfl ?_)))
  have f324 := hL322.freezeRow 0 rfl rfl hE219 rfl rfl rfl hc220
  have hp325 := hL322.pick [] rfl rfl rfl
  have hL327 : vL w w321 [] [] := hp325.1
  obtain ⟨r328, q329, h⟩ := bind_some h
  refine zaf (zaw en82 rfl rfl (rtrim_w N out218 (osv ob214 0 out218.length cap215) _ _ (f324.mono Hv.enter) r328 q329) ?_)
  rintro _ w333 hE336 ⟨v330, rfl, k331, -⟩
  replace k331 := k331.mono (Hv.aliasO (S := None) hL327 [])
  have hL334 := hL327.ext hE336
  refine zaf (zak (v := v330) rfl ?_)
  refine zap (zbl ?_)
  obtain rfl := zag h
  refine ⟨[v330], ⟨rfl, trivial⟩, ⟨_, rfl, hL334.done, ?_⟩⟩
  exact ⟨v330, rfl, (k331.mono zdf), trivial⟩
theorem rSign_w (N : Nat) (x : Big) (x_v : Value) (w : World) (S : Nat → Prop) (x_h : Rs (rInt .u32) (vH w S [] w) x_v x.Digits) (r : Int) (h : rSign N x = some r) :
  Calls Try.prog 40 #[(zan #[(zaa x.Negative), x_v])] w (Ret w (fun v w' => (zac .i64 r) = v ∧ True)) := by
 unfold rSign at h
 have hL : vL w w [] [] := Go.X.Loc.begin0 w
 refine calls_of (l := [(zan #[(zaa x.Negative), x_v])]) (rl := [.tmp 2]) (n := 9) Try.func40 rfl rfl rfl (zae rfl) ?_
 refine zaj (zah rfl (zaf (zdc (cs := [(zaa x.Negative), x_v]) rfl rfl hL ?_)))
 intro b1 w2 hL3 hS5
 have K4 := ks w hS5
 refine zaf (zak (v := (zac .i64 0)) rfl ?_)
 refine zap (zaj (zaj (zah rfl (zaf (zbd (vs := [(zaa x.Negative), x_v]) zal rfl ti26 rfl (hL3.at 0 rfl rfl) rfl rfl ?_)))))
 obtain ⟨r6, q7, h⟩ := bind_some h
 have f11 := (x_h.mono (K4 S))
 refine zaf (zaw en65 rfl rfl (halves_w N x x_v _ Any (f11.mono vw_any) r6 q7) ?_)
 rintro _ w12 hE15 ⟨v8, rfl, k9, -⟩
 replace k9 := k9.mono (zbc (S := None) hL3 [])
 have hL13 := hL3.ext hE15
 refine zaf (zbf (v := v8) zaz rfl k9 ?_)
 refine zaf (OpY.eql (x := (r6.length : Int)) (y := 0) (((r6.length : Int) : Int) = 0) rfl rfl zbk ?_)
 refine zap ?_
 refine zbe (((r6.length : Int) : Int) = 0) rfl (fun hc16 => ?_) (fun hc16 => ?_)
 ·
  replace h := ite_t hc16 h
  refine zaj (zah rfl (zaf (zak (v := (zac .i64 0)) rfl ?_)))
  refine zap (zbl ?_)
  obtain rfl := zag h
  refine ⟨[(zac .i64 0)], ⟨rfl, trivial⟩, ⟨_, rfl, hL13.done, ?_⟩⟩
  exact ⟨rfl, trivial⟩
 ·
  replace h := ite_f hc16 h
  refine zbg (zaj (zaj (zah rfl (zaf (zar (q := 0) zal rfl ti4 rfl rfl rfl ?_)))))
  refine zaf (zbb (v := (zaa x.Negative)) zbn rfl rfl (hL13.at 0 rfl rfl) rfl ?_)
  refine zap ?_
  refine zcu x.Negative rfl (fun hc17 => ?_) (fun hc17 => ?_)
  ·
   replace h := ite_t hc17 h
   refine zaj (zah rfl (zaf (zak (v := (zac .i64 (-1))) rfl ?_)))
   refine zap (zbl ?_)
   obtain rfl := zag h
   refine ⟨[(zac .i64 (-1))], ⟨rfl, trivial⟩, ⟨_, rfl, hL13.done, ?_⟩⟩
   exact ⟨rfl, trivial⟩
  ·
   replace h := ite_f hc17 h
   refine zbg (zaj (zah rfl (zaf (zak (v := (zac .i64 1)) rfl ?_))))
   refine zap (zbl ?_)
   obtain rfl := zag h
   refine ⟨[(zac .i64 1)], ⟨rfl, trivial⟩, ⟨_, rfl, hL13.done, ?_⟩⟩
   exact ⟨rfl, trivial⟩
theorem rNeg_w (N : Nat) (x : Big) (x_v : Value) (w : World) (S : Nat → Prop) (x_h : Rs (rInt .u32) (vH w S [] w) x_v x.Digits) (r : Big) (h : rNeg N x = some r) :
  Calls Try.prog 62 #[(zan #[(zaa x.Negative), x_v])] w (Ret w (fun v w' => ∃ (v0_0 : Value), (zan #[(zaa r.Negative), v0_0]) = v ∧ Rs (rInt .u32) (vH w None [] w') v0_0 r.Digits ∧ True)) := by
 unfold rNeg at h
 have hL : vL w w [] [] := Go.X.Loc.begin0 w
 refine calls_of (l := [(zan #[(zaa x.Negative), x_v])]) (rl := [.cell 2 26]) (n := 9) Try.func62 rfl rfl rfl (zae rfl) ?_
 refine zaj (zah rfl (zaf (zdc (cs := [(zaa x.Negative), x_v]) rfl rfl hL ?_)))
 intro b1 w2 hL3 hS5
 have K4 := ks w hS5
 refine zaf (zbw (cs := [(zaa false), (zad none 0 0)]) ti26 rfl hL3 ?_)
 intro b6 w7 hL8 hS10
 have K9 := ks w hS10
 refine zap (zaj ?_)
 obtain ⟨r11, q12, h⟩ := bind_some h
 refine zcc 5 [] [] (fun W1 => [.det (zam (some ⟨b1, 0, none⟩)), .det (zaa x.Negative), .det (zaa (!x.Negative)), .det (zan #[(zaa x.Negative), x_v]), .rel (fun v Z w' => ∃ v13, v13 = v ∧ Rs (rInt .i64) (vZ W1 w None [some b6, some b1] Z w') v13 r11 ∧ True) (fun _ => [])]) mixed rfl rfl rfl (fun _ => rfl) (fun _ => rfl) ?_ ?_
 ·
  intro W1 _
  exact ⟨fun v Z Z' w w' hΦ hz _ _ hs => by obtain ⟨v13, rfl, k14, -⟩ := hΦ; exact ⟨v13, rfl, (k14.mono (zcl hz hs)), trivial⟩, trivial⟩
 ·
  intro w16 hE17
  have hL18 := hL8.ext hE17
  have K19 := ke hL8 hE17
  refine zau (fun _ _ => zat (zar zal rfl ti4 rfl rfl rfl (er rfl))) ?_
  refine zau (fun _ hE28 => zat (zbb zbn rfl rfl ((hL18.ext hE28).at 1 rfl rfl) rfl (er rfl))) ?_
  refine zau (fun _ _ => zat (OpY.not rfl (er rfl))) ?_
  refine zau (fun _ hE40 => zat (zbd (vs := [(zaa x.Negative), x_v]) zal rfl ti26 rfl ((hL18.ext hE40).at 1 rfl rfl) rfl rfl (er rfl))) ?_
  refine zcq ?_ ?_
  ·
   rintro w44 Z45 hE46 hZ47 ⟨-⟩
   have K49 := ke hL18 hE46
   refine zat (zaw en65 rfl rfl (halves_w N x x_v _ Any (((((x_h.mono (K4 S)).mono (K9 S)).mono (K19 S)).mono (K49 S)).mono vw_any) r11 q12) ?_)
   rintro _ w50 hE51 ⟨v13, rfl, k14, -⟩
   exact zcj hE51 hZ47 zca (fun _ h => h) ⟨v13, rfl, (k14.mono zda), trivial⟩
  intro z4
  refine zcn ?_
  rintro w52 Z53 hE54 hZ55 ⟨⟨⟨v13, rfl, k14, -⟩, hB4⟩, -⟩ ap56
  have hB57 : ∀ b, some b ∈ ([] : List (Option Nat)) → w16.heap.size ≤ b ∧ ¬ Z53 b := by
   intro b hb; cases hb
  replace k14 := k14.mono (zcy hL18 hZ55 hB57)
  have hL58 := hL18.ext hE54
  obtain ⟨r60, q61, h⟩ := bind_some h
  refine zaf (zaw en68 rfl rfl (rbig_w N (!x.Negative) r11 v13 _ Any (k14.mono vw_any) r60 q61) ?_)
  rintro _ w65 hE68 ⟨v62, rfl, k63, -⟩
  replace k63 := k63.mono (zbc (S := None) hL58 [])
  have hL66 := hL58.ext hE68
  refine zcb (zbh (vs := [(zaa r60.Negative), v62]) ti26 rfl rfl rfl rfl (ones_cons rfl (ones_cons k63.one ones_nil)) hL66 0 rfl rfl (zae rfl) ?_)
  intro w69 (hL70 : vL w w69 [some b6, some b1] [zab [(zaa r60.Negative), v62], zab [(zaa x.Negative), x_v]]) hS72
  have K71 := ks w hS72
  refine zap (zbl ?_)
  obtain rfl := zag h
  refine ⟨[(zan #[(zaa r60.Negative), v62])], ⟨⟨⟨b6, 0, none⟩, rfl, res_boxA zal rfl ti26 (hL70.at 0 rfl rfl) rfl⟩, trivial⟩, ⟨_, rfl, hL70.done, ?_⟩⟩
  have f73 := (k63.mono (K71 None))
  exact ⟨v62, rfl, (f73.mono zdf), trivial⟩
theorem rAdd_w (N : Nat) (a : Big) (b : Big) (a_v : Value) (b_v : Value) (w : World) (S : Nat → Prop) (a_h : Rs (rInt .u32) (vH w S [] w) a_v a.Digits) (b_h : Rs (rInt .u32) (vH w S [] w) b_v b.Digits) (r : Big) (h : rAdd N a b = some r) :
  Calls Try.prog 38 #[(zan #[(zaa a.Negative), a_v]), (zan #[(zaa b.Negative), b_v])] w (Ret w (fun v w' => ∃ (v0_0 : Value), (zan #[(zaa r.Negative), v0_0]) = v ∧ Rs (rInt .u32) (vH w None [] w') v0_0 r.Digits ∧ True)) := by
 unfold rAdd at h
 have hL : vL w w [] [] := Go.X.Loc.begin0 w
 refine calls_of (l := [(zan #[(zaa a.Negative), a_v]), (zan #[(zaa b.Negative), b_v])]) (rl := [.cell 4 26]) (n := 38) Try.func38 rfl rfl rfl (zae rfl) ?_
 refine zaj (zah rfl (zaf (zdc (cs := [(zaa a.Negative), a_v]) rfl rfl hL ?_)))
 intro b1 w2 hL3 hS5
 have K4 := ks w hS5
 refine zaf (zdc (cs := [(zaa b.Negative), b_v]) rfl rfl hL3 ?_)
 intro b6 w7 hL8 hS10
 have K9 := ks w hS10
 refine zaf (zbw (cs := [(zaa false), (zad none 0 0)]) ti26 rfl hL8 ?_)
 intro b11 w12 hL13 hS15
 have K14 := ks w hS15
 refine zap (zaj ?_)
 obtain ⟨r16, q17, h⟩ := bind_some h
 refine zcc 3 [] [] (fun W1 => [.det (zan #[(zaa a.Negative), a_v]), .rel (fun v Z w' => ∃ v18, v18 = v ∧ Rs (rInt .i64) (vZ W1 w None [some b11, some b6, some b1] Z w') v18 r16 ∧ True) (fun _ => []), .det (zan #[(zaa b.Negative), b_v])]) mixed rfl rfl rfl (fun _ => rfl) (fun _ => rfl) ?_ ?_
 ·
  intro W1 _
  exact ⟨fun v Z Z' w w' hΦ hz _ _ hs => by obtain ⟨v18, rfl, k19, -⟩ := hΦ; exact ⟨v18, rfl, (k19.mono (zcl hz hs)), trivial⟩, trivial⟩
 ·
  intro w21 hE22
  have hL23 := hL13.ext hE22
  have K24 := ke hL13 hE22
  refine zau (fun _ hE27 => zat (zbd (vs := [(zaa a.Negative), a_v]) zal rfl ti26 rfl ((hL23.ext hE27).at 2 rfl rfl) rfl rfl (er rfl))) ?_
  refine zcq ?_ ?_
  ·
   rintro w31 Z32 hE33 hZ34 ⟨-⟩
   have K36 := ke hL23 hE33
   refine zat (zaw en65 rfl rfl (halves_w N a a_v _ Any ((((((a_h.mono (K4 S)).mono (K9 S)).mono (K14 S)).mono (K24 S)).mono (K36 S)).mono vw_any) r16 q17) ?_)
   rintro _ w37 hE38 ⟨v18, rfl, k19, -⟩
   exact zcj hE38 hZ34 zca (fun _ h => h) ⟨v18, rfl, (k19.mono zda), trivial⟩
  intro z1
  refine zau (fun _ hE41 => zat (zbd (vs := [(zaa b.Negative), b_v]) zal rfl ti26 rfl ((hL23.ext hE41).at 1 rfl rfl) rfl rfl (er rfl))) ?_
  refine zcn ?_
  rintro w45 Z46 hE47 hZ48 ⟨⟨⟨v18, rfl, k19, -⟩, hB1⟩, -⟩ ap49
  have hB50 : ∀ b, some b ∈ ([] : List (Option Nat)) → w21.heap.size ≤ b ∧ ¬ Z46 b := by
   intro b hb; cases hb
  replace k19 := k19.mono (zcy hL23 hZ48 hB50)
  have hL51 := hL23.ext hE47
  have K52 := ke hL23 hE47
  obtain ⟨r53, q54, h⟩ := bind_some h
  have f58 := (((((b_h.mono (K4 S)).mono (K9 S)).mono (K14 S)).mono (K24 S)).mono (K52 S))
  refine zaf (zaw en65 rfl rfl (halves_w N b b_v _ Any (f58.mono vw_any) r53 q54) ?_)
  rintro _ w59 hE62 ⟨v55, rfl, k56, -⟩
  replace k56 := k56.mono (zbc (S := None) hL51 [])
  have hL60 := hL51.ext hE62
  have K61 := ke hL51 hE62
  refine zaf (zak (v := v18) rfl ?_)
  refine zaf (zak (v := v55) rfl ?_)
  refine zap (zaj (zaj (zah rfl (zaf (zar (q := 0) zal rfl ti4 rfl rfl rfl ?_)))))
  refine zaf (zbb (v := (zaa a.Negative)) zbn rfl rfl (hL60.at 2 rfl rfl) rfl ?_)
  refine zaf (zar (q := 0) zal rfl ti4 rfl rfl rfl ?_)
  refine zaf (zbb (v := (zaa b.Negative)) zbn rfl rfl (hL60.at 1 rfl rfl) rfl ?_)
  refine zaf (OpY.eqlBool (x := a.Negative) (y := b.Negative) zbn rfl rfl ?_)
  refine zap ?_
  refine zcu (a.Negative == b.Negative) rfl (fun hc63 => ?_) (fun hc63 => ?_)
  ·
   replace h := ite_t hc63 h
   refine zaj ?_
   obtain ⟨r64, q65, h⟩ := bind_some h
   refine zcc 5 [] [] (fun W1 => [.det (zam (some ⟨b1, 0, none⟩)), .det (zaa a.Negative), .det v18, .det v55, .rel (fun v Z w' => ∃ v66, v66 = v ∧ Rs (rInt .i64) (vZ W1 w None [some b11, some b6, some b1] Z w') v66 r64 ∧ True) (fun _ => [])]) mixed rfl rfl rfl (fun _ => rfl) (fun _ => rfl) ?_ ?_
   ·
    intro W1 _
    exact ⟨fun v Z Z' w w' hΦ hz _ _ hs => by obtain ⟨v66, rfl, k67, -⟩ := hΦ; exact ⟨v66, rfl, (k67.mono (zcl hz hs)), trivial⟩, trivial⟩
   ·
    intro w69 hE70
    have hL71 := hL60.ext hE70
    have K72 := ke hL60 hE70
    refine zau (fun _ _ => zat (zar zal rfl ti4 rfl rfl rfl (er rfl))) ?_
    refine zau (fun _ hE81 => zat (zbb zbn rfl rfl ((hL71.ext hE81).at 2 rfl rfl) rfl (er rfl))) ?_
    refine zau (fun _ _ => zat (zai rfl (er rfl))) ?_
    refine zau (fun _ _ => zat (zai rfl (er rfl))) ?_
    refine zcq ?_ ?_
    ·
     rintro w97 Z98 hE99 hZ100 ⟨-⟩
     have K102 := ke hL71 hE99
     refine zat (zaw en69 rfl rfl (rplus_w N r16 r53 v18 v55 _ Any ((((k19.mono (K61 None)).mono (K72 None)).mono (K102 None)).mono vw_any) (((k56.mono (K72 None)).mono (K102 None)).mono vw_any) r64 q65) ?_)
     rintro _ w103 hE104 ⟨v66, rfl, k67, -⟩
     exact zcj hE104 hZ100 zca (fun _ h => h) ⟨v66, rfl, (k67.mono zda), trivial⟩
    intro z4
    refine zcn ?_
    rintro w105 Z106 hE107 hZ108 ⟨⟨⟨v66, rfl, k67, -⟩, hB4⟩, -⟩ ap109
    have hB110 : ∀ b, some b ∈ ([] : List (Option Nat)) → w69.heap.size ≤ b ∧ ¬ Z106 b := by
     intro b hb; cases hb
    replace k67 := k67.mono (zcy hL71 hZ108 hB110)
    have hL111 := hL71.ext hE107
    obtain ⟨r113, q114, h⟩ := bind_some h
    refine zaf (zaw en68 rfl rfl (rbig_w N a.Negative r64 v66 _ Any (k67.mono vw_any) r113 q114) ?_)
    rintro _ w118 hE121 ⟨v115, rfl, k116, -⟩
    replace k116 := k116.mono (zbc (S := None) hL111 [])
    have hL119 := hL111.ext hE121
    refine zcb (zbh (vs := [(zaa r113.Negative), v115]) ti26 rfl rfl rfl rfl (ones_cons rfl (ones_cons k116.one ones_nil)) hL119 0 rfl rfl (zae rfl) ?_)
    intro w122 (hL123 : vL w w122 [some b11, some b6, some b1] [zab [(zaa r113.Negative), v115], zab [(zaa b.Negative), b_v], zab [(zaa a.Negative), a_v]]) hS125
    have K124 := ks w hS125
    refine zap (zbl ?_)
    obtain rfl := zag h
    refine ⟨[(zan #[(zaa r113.Negative), v115])], ⟨⟨⟨b11, 0, none⟩, rfl, res_boxA zal rfl ti26 (hL123.at 0 rfl rfl) rfl⟩, trivial⟩, ⟨_, rfl, hL123.done, ?_⟩⟩
    have f126 := (k116.mono (K124 None))
    exact ⟨v115, rfl, (f126.mono zdf), trivial⟩
  ·
   replace h := ite_f hc63 h
   refine zbg (zaj (zaj (zah rfl (zaf (zai (v := v18) rfl ?_)))))
   refine zaf (zai (v := v55) rfl ?_)
   obtain ⟨r127, q128, h⟩ := bind_some h
   have f130 := (k19.mono (K61 None))
   refine zaf (zaw en64 rfl rfl (rorder_w N r16 r53 v18 v55 _ Any (f130.mono vw_any) (k56.mono vw_any) r127 q128) ?_)
   rintro _ w131 hE134 ⟨rfl, -⟩
   have hL132 := hL60.ext hE134
   have K133 := ke hL60 hE134
   refine zaf (OpY.geq (x := r127) (y := 0) ((r127 : Int) ≥ 0) rfl rfl zbk ?_)
   refine zap ?_
   refine zbe ((r127 : Int) ≥ 0) rfl (fun hc135 => ?_) (fun hc135 => ?_)
   ·
    replace h := ite_t hc135 h
    refine zaj ?_
    obtain ⟨r136, q137, h⟩ := bind_some h
    refine zcc 5 [] [] (fun W1 => [.det (zam (some ⟨b1, 0, none⟩)), .det (zaa a.Negative), .det v18, .det v55, .rel (fun v Z w' => ∃ v138, v138 = v ∧ Rs (rInt .i64) (vZ W1 w None [some b11, some b6, some b1] Z w') v138 r136 ∧ True) (fun _ => [])]) mixed rfl rfl rfl (fun _ => rfl) (fun _ => rfl) ?_ ?_
    ·
     intro W1 _
     exact ⟨fun v Z Z' w w' hΦ hz _ _ hs => by obtain ⟨v138, rfl, k139, -⟩ := hΦ; exact ⟨v138, rfl, (k139.mono (zcl hz hs)), trivial⟩, trivial⟩
    ·
     intro w141 hE142
     have hL143 := hL132.ext hE142
     have K144 := ke hL132 hE142
     refine zau (fun _ _ => zat (zar zal rfl ti4 rfl rfl rfl (er rfl))) ?_
     refine zau (fun _ hE153 => zat (zbb zbn rfl rfl ((hL143.ext hE153).at 2 rfl rfl) rfl (er rfl))) ?_
     refine zau (fun _ _ => zat (zai rfl (er rfl))) ?_
     refine zau (fun _ _ => zat (zai rfl (er rfl))) ?_
     refine zcq ?_ ?_
     ·
      rintro w169 Z170 hE171 hZ172 ⟨-⟩
      have K174 := ke hL143 hE171
      refine zat (zaw en70 rfl rfl (rminus_w N r16 r53 v18 v55 _ Any ((((f130.mono (K133 None)).mono (K144 None)).mono (K174 None)).mono vw_any) ((((k56.mono (K133 None)).mono (K144 None)).mono (K174 None)).mono vw_any) r136 q137) ?_)
      rintro _ w175 hE176 ⟨v138, rfl, k139, -⟩
      exact zcj hE176 hZ172 zca (fun _ h => h) ⟨v138, rfl, (k139.mono zda), trivial⟩
     intro z4
     refine zcn ?_
     rintro w177 Z178 hE179 hZ180 ⟨⟨⟨v138, rfl, k139, -⟩, hB4⟩, -⟩ ap181
     have hB182 : ∀ b, some b ∈ ([] : List (Option Nat)) → w141.heap.size ≤ b ∧ ¬ Z178 b := by
      intro b hb; cases hb
     replace k139 := k139.mono (zcy hL143 hZ180 hB182)
     have hL183 := hL143.ext hE179
     obtain ⟨r185, q186, h⟩ := bind_some h
     refine zaf (zaw en68 rfl rfl (rbig_w N a.Negative r136 v138 _ Any (k139.mono vw_any) r185 q186) ?_)
     rintro _ w190 hE193 ⟨v187, rfl, k188, -⟩
     replace k188 := k188.mono (zbc (S := None) hL183 [])
     have hL191 := hL183.ext hE193
     refine zcb (zbh (vs := [(zaa r185.Negative), v187]) ti26 rfl rfl rfl rfl (ones_cons rfl (ones_cons k188.one ones_nil)) hL191 0 rfl rfl (zae rfl) ?_)
     intro w194 (hL195 : vL w w194 [some b11, some b6, some b1] [zab [(zaa r185.Negative), v187], zab [(zaa b.Negative), b_v], zab [(zaa a.Negative), a_v]]) hS197
     have K196 := ks w hS197
     refine zap (zbl ?_)
     obtain rfl := zag h
     refine ⟨[(zan #[(zaa r185.Negative), v187])], ⟨⟨⟨b11, 0, none⟩, rfl, res_boxA zal rfl ti26 (hL195.at 0 rfl rfl) rfl⟩, trivial⟩, ⟨_, rfl, hL195.done, ?_⟩⟩
     have f198 := (k188.mono (K196 None))
     exact ⟨v187, rfl, (f198.mono zdf), trivial⟩
   ·
    replace h := ite_f hc135 h
    refine zbg (zaj ?_)
    obtain ⟨r199, q200, h⟩ := bind_some h
    refine zcc 5 [] [] (fun W1 => [.det (zam (some ⟨b6, 0, none⟩)), .det (zaa b.Negative), .det v55, .det v18, .rel (fun v Z w' => ∃ v201, v201 = v ∧ Rs (rInt .i64) (vZ W1 w None [some b11, some b6, some b1] Z w') v201 r199 ∧ True) (fun _ => [])]) mixed rfl rfl rfl (fun _ => rfl) (fun _ => rfl) ?_ ?_
    ·
     intro W1 _
     exact ⟨fun v Z Z' w w' hΦ hz _ _ hs => by obtain ⟨v201, rfl, k202, -⟩ := hΦ; exact ⟨v201, rfl, (k202.mono (zcl hz hs)), trivial⟩, trivial⟩
    ·
     intro w204 hE205
     have hL206 := hL132.ext hE205
     have K207 := ke hL132 hE205
     refine zau (fun _ _ => zat (zar zal rfl ti4 rfl rfl rfl (er rfl))) ?_
     refine zau (fun _ hE216 => zat (zbb zbn rfl rfl ((hL206.ext hE216).at 1 rfl rfl) rfl (er rfl))) ?_
     refine zau (fun _ _ => zat (zai rfl (er rfl))) ?_
     refine zau (fun _ _ => zat (zai rfl (er rfl))) ?_
     refine zcq ?_ ?_
     ·
      rintro w232 Z233 hE234 hZ235 ⟨-⟩
      have K237 := ke hL206 hE234
      refine zat (zaw en70 rfl rfl (rminus_w N r53 r16 v55 v18 _ Any ((((k56.mono (K133 None)).mono (K207 None)).mono (K237 None)).mono vw_any) ((((f130.mono (K133 None)).mono (K207 None)).mono (K237 None)).mono vw_any) r199 q200) ?_)
      rintro _ w238 hE239 ⟨v201, rfl, k202, -⟩
      exact zcj hE239 hZ235 zca (fun _ h => h) ⟨v201, rfl, (k202.mono zda), trivial⟩
     intro z4
     refine zcn ?_
     rintro w240 Z241 hE242 hZ243 ⟨⟨⟨v201, rfl, k202, -⟩, hB4⟩, -⟩ ap244
     have hB245 : ∀ b, some b ∈ ([] : List (Option Nat)) → w204.heap.size ≤ b ∧ ¬ Z241 b := by
      intro b hb; cases hb
     replace k202 := k202.mono (zcy hL206 hZ243 hB245)
     have hL246 := hL206.ext hE242
     obtain ⟨r248, q249, h⟩ := bind_some h
     refine zaf (zaw en68 rfl rfl (rbig_w N b.Negative r199 v201 _ Any (k202.mono vw_any) r248 q249) ?_)
     rintro _ w253 hE256 ⟨v250, rfl, k251, -⟩
     replace k251 := k251.mono (zbc (S := None) hL246 [])
     have hL254 := hL246.ext hE256
     refine zcb (zbh (vs := [(zaa r248.Negative), v250]) ti26 rfl rfl rfl rfl (ones_cons rfl (ones_cons k251.one ones_nil)) hL254 0 rfl rfl (zae rfl) ?_)
     intro w257 (hL258 : vL w w257 [some b11, some b6, some b1] [zab [(zaa r248.Negative), v250], zab [(zaa b.Negative), b_v], zab [(zaa a.Negative), a_v]]) hS260
     have K259 := ks w hS260
     refine zap (zbl ?_)
     obtain rfl := zag h
     refine ⟨[(zan #[(zaa r248.Negative), v250])], ⟨⟨⟨b11, 0, none⟩, rfl, res_boxA zal rfl ti26 (hL258.at 0 rfl rfl) rfl⟩, trivial⟩, ⟨_, rfl, hL258.done, ?_⟩⟩
     have f261 := (k251.mono (K259 None))
     exact ⟨v250, rfl, (f261.mono zdf), trivial⟩
theorem rSub_w (N : Nat) (a : Big) (b : Big) (a_v : Value) (b_v : Value) (w : World) (S : Nat → Prop) (a_h : Rs (rInt .u32) (vH w S [] w) a_v a.Digits) (b_h : Rs (rInt .u32) (vH w S [] w) b_v b.Digits) (r : Big) (h : rSub N a b = some r) :
  Calls Try.prog 61 #[(zan #[(zaa a.Negative), a_v]), (zan #[(zaa b.Negative), b_v])] w (Ret w (fun v w' => ∃ (v0_0 : Value), (zan #[(zaa r.Negative), v0_0]) = v ∧ Rs (rInt .u32) (vH w None [] w') v0_0 r.Digits ∧ True)) := by
 unfold rSub at h
 have hL : vL w w [] [] := Go.X.Loc.begin0 w
 refine calls_of (l := [(zan #[(zaa a.Negative), a_v]), (zan #[(zaa b.Negative), b_v])]) (rl := [.cell 4 26]) (n := 9) Try.func61 rfl rfl rfl (zae rfl) ?_
 refine zaj (zah rfl (zaf (zdc (cs := [(zaa a.Negative), a_v]) rfl rfl hL ?_)))
 intro b1 w2 hL3 hS5
 have K4 := ks w hS5
 refine zaf (zdc (cs := [(zaa b.Negative), b_v]) rfl rfl hL3 ?_)
 intro b6 w7 hL8 hS10
 have K9 := ks w hS10
 refine zaf (zbw (cs := [(zaa false), (zad none 0 0)]) ti26 rfl hL8 ?_)
 intro b11 w12 hL13 hS15
 have K14 := ks w hS15
 refine zap (zaj ?_)
 obtain ⟨r16, q17, h⟩ := bind_some h
 refine zcc 3 [] [] (fun W1 => [.det (zan #[(zaa a.Negative), a_v]), .det (zan #[(zaa b.Negative), b_v]), .rel (fun v Z w' => ∃ v18, (zan #[(zaa r16.Negative), v18]) = v ∧ Rs (rInt .u32) (vZ W1 w None [some b11, some b6, some b1] Z w') v18 r16.Digits ∧ True) (fun _ => [])]) mixed rfl rfl rfl (fun _ => rfl) (fun _ => rfl) ?_ ?_
 ·
  intro W1 _
  exact ⟨fun v Z Z' w w' hΦ hz _ _ hs => by obtain ⟨v18, rfl, k19, -⟩ := hΦ; exact ⟨v18, rfl, (k19.mono (zcl hz hs)), trivial⟩, trivial⟩
 ·
  intro w21 hE22
  have hL23 := hL13.ext hE22
  have K24 := ke hL13 hE22
  refine zau (fun _ hE27 => zat (zbd (vs := [(zaa a.Negative), a_v]) zal rfl ti26 rfl ((hL23.ext hE27).at 2 rfl rfl) rfl rfl (er rfl))) ?_
  refine zau (fun _ hE33 => zat (zbd (vs := [(zaa b.Negative), b_v]) zal rfl ti26 rfl ((hL23.ext hE33).at 1 rfl rfl) rfl rfl (er rfl))) ?_
  refine zcq ?_ ?_
  ·
   rintro w37 Z38 hE39 hZ40 ⟨-⟩
   have K42 := ke hL23 hE39
   refine zat (zaw en62 rfl rfl (rNeg_w N b b_v _ Any ((((((b_h.mono (K4 S)).mono (K9 S)).mono (K14 S)).mono (K24 S)).mono (K42 S)).mono vw_any) r16 q17) ?_)
   rintro _ w43 hE44 ⟨v18, rfl, k19, -⟩
   exact zcj hE44 hZ40 zca (fun _ h => h) ⟨v18, rfl, (k19.mono zda), trivial⟩
  intro z2
  refine zcn ?_
  rintro w45 Z46 hE47 hZ48 ⟨⟨⟨v18, rfl, k19, -⟩, hB2⟩, -⟩ ap49
  have hB50 : ∀ b, some b ∈ ([] : List (Option Nat)) → w21.heap.size ≤ b ∧ ¬ Z46 b := by
   intro b hb; cases hb
  replace k19 := k19.mono (zcy hL23 hZ48 hB50)
  have hL51 := hL23.ext hE47
  have K52 := ke hL23 hE47
  obtain ⟨r53, q54, h⟩ := bind_some h
  have f58 := (((((a_h.mono (K4 S)).mono (K9 S)).mono (K14 S)).mono (K24 S)).mono (K52 S))
  refine zaf (zaw en38 rfl rfl (rAdd_w N a r16 a_v v18 _ Any (f58.mono vw_any) (k19.mono vw_any) r53 q54) ?_)
  rintro _ w59 hE62 ⟨v55, rfl, k56, -⟩
  replace k56 := k56.mono (zbc (S := None) hL51 [])
  have hL60 := hL51.ext hE62
  refine zcb (zbh (vs := [(zaa r53.Negative), v55]) ti26 rfl rfl rfl rfl (ones_cons rfl (ones_cons k56.one ones_nil)) hL60 0 rfl rfl (zae rfl) ?_)
  intro w63 (hL64 : vL w w63 [some b11, some b6, some b1] [zab [(zaa r53.Negative), v55], zab [(zaa b.Negative), b_v], zab [(zaa a.Negative), a_v]]) hS66
  have K65 := ks w hS66
  refine zap (zbl ?_)
  obtain rfl := zag h
  refine ⟨[(zan #[(zaa r53.Negative), v55])], ⟨⟨⟨b11, 0, none⟩, rfl, res_boxA zal rfl ti26 (hL64.at 0 rfl rfl) rfl⟩, trivial⟩, ⟨_, rfl, hL64.done, ?_⟩⟩
  have f67 := (k56.mono (K65 None))
  exact ⟨v55, rfl, (f67.mono zdf), trivial⟩
theorem rtimes_w (N : Nat) (a : (List Int)) (d : Int) (a_v : Value) (w : World) (S : Nat → Prop) (a_h : Rs (rInt .i64) (vH w S [] w) a_v a) (r : (List Int)) (h : rtimes N a d = some r) :
  Calls Try.prog 71 #[a_v, (zac .i64 d)] w (Ret w (fun v w' => ∃ (v0_0 : Value), v0_0 = v ∧ Rs (rInt .i64) (vH w None [] w') v0_0 r ∧ True)) := by
 unfold rtimes at h
 have hL : vL w w [] [] := Go.X.Loc.begin0 w
 refine calls_of (l := [a_v, (zac .i64 d)]) (rl := [.tmp 4]) (n := 40) Try.func71 rfl rfl rfl (zae rfl) ?_
 refine zaj (zah rfl (zaf (zak (v := (zad none 0 0)) rfl ?_)))
 refine zap (zaj (zah rfl (zaf (OpY.litRow0 zaz ti3 hL ?_))))
 intro b1 w5 hL6 hS8
 have hE9 : Els (rInt .i64) (vH w None [] w) [] [] := zct
 have K7 := ks w hS8
 refine zaf (zak (v := (osv (some b1) 0 (List.length ([] : (List Int))) 0)) rfl ?_)
 refine zap (zaj (zah rfl (zaf (zak (v := (zac .i64 0)) rfl ?_))))
 refine zap (zaj (zaj (zah rfl (zaf (zak (v := (zac .i64 0)) rfl ?_)))))
 refine zap ?_
 obtain ⟨s196, hl198, g197⟩ := bind_some h
 refine zbr (fun e w' => ∃ (out192 : (List Int)) (ob188 : Option Nat) (cap189 : Nat) (sp190 : List Value) (cs191 : List Value) (ln195 : Nat) (u : Env), out192 = s196 ∧ e = upds [(5, (osv ob188 0 ln195 cap189))] u ∧ vL w w' [ob188] [zab ([] ++ (cs191 ++ sp190))] ∧ Keep w.heap.size [some b1] w5 [ob188] w' ∧ Els (rInt .i64) (vH w None [ob188] w') cs191 out192 ∧ ln195 = List.length out192 ∧ (cs191 ++ sp190).length = cap189 * (rInt .i64).sz ∧ True) ?_ ?_
 ·
  refine zbj ?_
  have f200 := (hE9.mono (K7 None))
  refine zcg hl198 (fun (ss : ((List Int) × Int × Int)) (e : Env) (w' : World) => match ss with | (out181, carry185, i186) => ∃ (ob177 : Option Nat) (cap178 : Nat) (sp179 : List Value) (cs180 : List Value) (ln184 : Nat) (u : Env), e = upds [(0, a_v), (1, (zac .i64 d)), (5, (osv ob177 0 ln184 cap178)), (6, (zac .i64 carry185)), (7, (zac .i64 i186))] u ∧ vL w w' [ob177] [zab ([] ++ (cs180 ++ sp179))] ∧ Keep w.heap.size [some b1] w5 [ob177] w' ∧ Els (rInt .i64) (vH w None [ob177] w') cs180 out181 ∧ ln184 = List.length out181 ∧ (cs180 ++ sp179).length = cap178 * (rInt .i64).sz ∧ True) ⟨some b1, 0, [], [], (List.length ([] : (List Int))), _, (upds_sym ⟨rfl, rfl, rfl, rfl, rfl, trivial⟩), hL6, zbo, f200, rfl, (show ([] ++ [] : List Value).length = 0 * (rInt .i64).sz by simp), trivial⟩ ?_
  rintro ⟨out181, carry185, i186⟩ oo _ w201 ⟨ob177, cap178, sp179, cs180, ln184, u, rfl, hL202, K203, hE182, rfl, hc183, -⟩ h hd199
  rw [rtimes_b1] at h
  refine zaj (zaj ?_)
  obtain ⟨s208, h, g209⟩ := bind_some h
  refine zbr (fun e w' => ∃ (x207 : Bool) (u : Env), x207 = s208 ∧ e = upds [(0, a_v), (1, (zac .i64 d)), (5, (osv ob177 0 out181.length cap178)), (6, (zac .i64 carry185)), (7, (zac .i64 i186)), (16, (zaa x207))] u ∧ vL w w' [ob177] [zab ([] ++ (cs180 ++ sp179))] ∧ Keep w.heap.size [ob177] w201 [ob177] w' ∧ True) ?_ ?_
  ·
   refine zah rfl (zaf (zai (v := (zac .i64 i186)) rfl ?_))
   refine zaf (zai (v := a_v) rfl ?_)
   have f210 := ((a_h.mono (K7 S)).mono (K203 S))
   refine zaf (zbf (v := a_v) zaz rfl f210 ?_)
   refine zaf (zcr (x := i186) (y := (a.length : Int)) ((i186 : Int) < (a.length : Int)) rfl rfl zbk ?_)
   refine zaf (zai (v := (zaa (decide ((i186 : Int) < (a.length : Int))))) rfl ?_)
   by_cases hc211 : (i186 : Int) < (a.length : Int)
   ·
    replace h := ite_t hc211 h
    refine zbt rfl rfl (decide_eq_true hc211) ?_
    refine zbt rfl rfl (decide_eq_true hc211) ?_
    refine zaf (zcm (t := (decide ((i186 : Int) < (a.length : Int)))) (v := (zaa true)) rfl (decide_eq_true hc211) rfl ?_)
    refine zap ?_
    obtain rfl := zag h
    refine zas ?_
    exact ⟨true, _, rfl, (upds_sym ⟨rfl, rfl, rfl, rfl, rfl, rfl, trivial⟩), hL202, zbo, trivial⟩
   ·
    replace h := ite_f hc211 h
    refine zbu rfl rfl (decide_eq_false hc211) (zai (v := (zac .i64 carry185)) rfl ?_)
    refine zbu rfl rfl (decide_eq_false hc211) (zdm (x := carry185) (y := 0) ((carry185 : Int) > 0) rfl rfl zbk ?_)
    refine zaf (zbz (t := (decide ((i186 : Int) < (a.length : Int)))) (v := (zaa (decide ((carry185 : Int) > 0)))) rfl (decide_eq_false hc211) rfl ?_)
    refine zap ?_
    obtain rfl := zag h
    refine zas ?_
    exact ⟨(decide ((carry185 : Int) > 0)), _, rfl, (upds_sym ⟨rfl, rfl, rfl, rfl, rfl, rfl, trivial⟩), hL202, zbo, trivial⟩
  ·
   rintro _ w212 ⟨x207, u, rfl, rfl, hL213, K214, -⟩
   replace h := g209
   try dsimp only at h
   refine zcu x207 rfl (fun hc215 => ?_) (fun hc215 => ?_)
   ·
    replace h := ite_t hc215 h
    refine zbg (zaj (zbj (zaj (zaj (zah rfl (zaf (zai (v := (zac .i64 i186)) rfl ?_)))))))
    refine zaf (zai (v := a_v) rfl ?_)
    have f216 := (((a_h.mono (K7 S)).mono (K203 S)).mono (K214 S))
    refine zaf (zbf (v := a_v) zaz rfl f216 ?_)
    refine zaf (zcr (x := i186) (y := (a.length : Int)) ((i186 : Int) < (a.length : Int)) rfl rfl zbk ?_)
    refine zap ?_
    obtain ⟨s233, h, g234⟩ := bind_some h
    refine zbr (fun e w' => ∃ (carry232 : Int) (u : Env), carry232 = s233 ∧ e = upds [(0, a_v), (1, (zac .i64 d)), (5, (osv ob177 0 out181.length cap178)), (6, (zac .i64 carry232)), (7, (zac .i64 i186))] u ∧ vL w w' [ob177] [zab ([] ++ (cs180 ++ sp179))] ∧ Keep w.heap.size [ob177] w212 [ob177] w' ∧ True) ?_ ?_
    ·
     refine zbe ((i186 : Int) < (a.length : Int)) rfl (fun hc235 => ?_) (fun hc235 => ?_)
     ·
      replace h := ite_t hc235 h
      refine zah rfl (zaf (zai (v := (zac .i64 carry185)) rfl ?_))
      refine zaf (zai (v := a_v) rfl ?_)
      refine zaf (zai (v := (zac .i64 i186)) rfl ?_)
      obtain ⟨x236, q237, h⟩ := bind_some h
      obtain ⟨n238, q239, q240⟩ := idx_some q237
      obtain ⟨b241, o242, c243, vs244, q245, q246, f247, q248⟩ := zcz f216 q240
      obtain rfl := q248
      refine zaf (zbv (r := (rInt .i64)) (v := a_v) (n := n238) (m := (o242 + n238 * (rInt .i64).sz)) zaz ti3 rfl q245 rfl q239 q240 rfl ?_)
      refine zaf (zck (v := (zac .i64 x236)) zbq rfl rfl vw_view f247 ?_)
      refine zaf (zai (v := (zac .i64 d)) rfl ?_)
      refine zaf (OpY.mul (x := x236) (y := d) (z := (iw (x236 * d))) rfl rfl rfl ?_)
      refine zaf (zcd (x := carry185) (y := (iw (x236 * d))) (z := (iw (carry185 + (iw (x236 * d))))) rfl rfl rfl ?_)
      refine zaf (zak (v := (zac .i64 (iw (carry185 + (iw (x236 * d)))))) rfl ?_)
      refine zap ?_
      obtain rfl := zag h
      refine zas ?_
      exact ⟨(iw (carry185 + (iw (x236 * d)))), _, rfl, (upds_sym ⟨rfl, rfl, rfl, rfl, rfl, trivial⟩), hL213, zbo, trivial⟩
     ·
      replace h := ite_f hc235 h
      refine zbg ?_
      obtain rfl := zag h
      refine zas ?_
      exact ⟨carry185, _, rfl, (upds_sym ⟨rfl, rfl, rfl, rfl, rfl, trivial⟩), hL213, zbo, trivial⟩
    ·
     rintro _ w249 ⟨carry232, u, rfl, rfl, hL250, K251, -⟩
     replace h := g234
     try dsimp only at h
     refine zaj (zah rfl (zaf (zai (v := (osv ob177 0 out181.length cap178)) rfl ?_)))
     refine zaf (zai (v := (zac .i64 carry232)) rfl ?_)
     refine zaf (OpY.remI (x := carry232) (y := 65536) rfl rfl (by decide) ?_)
     have hE253 : Els (rInt .i64) (vH w None [ob177] w249) [(zac .i64 (Int.tmod carry232 65536))] [(Int.tmod carry232 65536)] := (zco (a := [(zac .i64 (Int.tmod carry232 65536))]) rfl zct)
     refine zaf (zcp (r := (rInt .i64)) (vs := [(zac .i64 (Int.tmod carry232 65536))]) (css := [[(zac .i64 (Int.tmod carry232 65536))]]) (xs := [(Int.tmod carry232 65536)]) zaz ti3 (zae rfl) rfl rfl ⟨rfl, rfl, trivial⟩ (zae rfl) hE253 rfl hL250 ?_)
     intro b252 w256 hc254 hL257 hS259
     have K258 := ks w hS259
     obtain ⟨x260, q261, h⟩ := bind_some h
     obtain ⟨q262, q263, q264⟩ := apnd_some q261
     have f265 := (hE253.mono (K258 None))
     have f273 := (((hE182.mono (K214 None)).mono (K251 None)).mono (K258 None))
     refine zaf (zdl (r := (rInt .i64)) (H := (vH w None [some b252, ob177] w256)) (cs := cs180) (sp := sp179) (xs := out181) (ys := [(Int.tmod carry232 65536)]) (Y := x260) (n := out181.length) (cap := cap178) (i := 1) zaz ti3 rfl rfl rfl rfl hL257 rfl rfl f273 rfl hc183 (Src.row (pre := []) (o := 0) (n := 1) (cap := 1) (hL257.at 0 rfl rfl) f265 rfl rfl rfl) (Els.anyH (fun _ _ _ _ h => h) f265) q262 q263 q264 ?_)
     intro ob266 cap267 sp269 cs268 w274 hE270 hc271 (hL275 : vL w w274 [some b252, ob266] [zab ([] ++ ([(zac .i64 (Int.tmod carry232 65536))] ++ [])), zab ([] ++ (cs268 ++ sp269))]) hS277
     have K276 := ks w hS277
     refine zaf (zak (v := (osv ob266 0 x260.length cap267)) rfl ?_)
     refine zap (zah rfl (zaf (zai (v := (zac .i64 carry232)) rfl ?_)))
     refine zaf (OpY.quoI (x := carry232) (y := 65536) (z := (iw (Int.tdiv carry232 65536))) rfl rfl (by decide) rfl ?_)
     refine zaf (zak (v := (zac .i64 (iw (Int.tdiv carry232 65536)))) rfl ?_)
     refine zap (zbs (zah rfl (zaf (zai (v := (zac .i64 i186)) rfl ?_))))
     refine zaf (zcd (x := i186) (y := 1) (z := (iw (i186 + 1))) rfl rfl rfl ?_)
     refine zaf (zak (v := (zac .i64 (iw (i186 + 1)))) rfl ?_)
     refine zap ?_
     have hp278 := hL275.pick [1] rfl rfl rfl
     have hL280 : vL w w274 [ob266] [zab ([] ++ (cs268 ++ sp269))] := hp278.1
     have K279 := ks w hp278.2
     have f281 := ((hE270.mono (K276 None)).mono (K279 None))
     obtain rfl := zag h
     refine zas ⟨(x260, (iw (Int.tdiv carry232 65536)), (iw (i186 + 1))), rfl, ?_⟩
     exact ⟨ob266, cap267, sp269, cs268, x260.length, _, (upds_sym ⟨rfl, rfl, rfl, rfl, rfl, trivial⟩), hL280, (zaq (zaq (zaq (zaq (zaq K203 K214) K251) K258) K276) K279), f281, rfl, hc271, trivial⟩
   ·
    replace h := ite_f hc215 h
    refine zcs rfl ?_
    have f282 := (hE182.mono (K214 None))
    obtain rfl := zag h
    obtain rfl := hd199 _ rfl
    replace h := g197
    try dsimp only at h
    skip
    refine zas ?_
    exact ⟨out181, ob177, cap178, sp179, cs180, out181.length, _, rfl, (upds_sym ⟨rfl, trivial⟩), hL213, (zaq K203 K214), f282, rfl, hc183, trivial⟩
 ·
  rintro _ w283 ⟨out192, ob188, cap189, sp190, cs191, ln195, u, rfl, rfl, hL284, K285, hE193, rfl, hc194, -⟩
  replace h := g197
  try dsimp only at h
  refine zaj (zah rfl (zaf (zai (v := (osv ob188 0 out192.length cap189)) rfl ?_)))
  have f286 := hL284.freezeRow 0 rfl rfl hE193 rfl rfl rfl hc194
  have hp287 := hL284.pick [] rfl rfl rfl
  have hL289 : vL w w283 [] [] := hp287.1
  obtain ⟨r290, q291, h⟩ := bind_some h
  refine zaf (zaw en82 rfl rfl (rtrim_w N out192 (osv ob188 0 out192.length cap189) _ _ (f286.mono Hv.enter) r290 q291) ?_)
  rintro _ w295 hE298 ⟨v292, rfl, k293, -⟩
  replace k293 := k293.mono (Hv.aliasO (S := None) hL289 [])
  have hL296 := hL289.ext hE298
  refine zaf (zak (v := v292) rfl ?_)
  refine zap (zbl ?_)
  obtain rfl := zag h
  refine ⟨[v292], ⟨rfl, trivial⟩, ⟨_, rfl, hL296.done, ?_⟩⟩
  exact ⟨v292, rfl, (k293.mono zdf), trivial⟩
theorem rMul_w (N : Nat) (a : Big) (b : Big) (a_v : Value) (b_v : Value) (w : World) (S : Nat → Prop) (a_h : Rs (rInt .u32) (vH w S [] w) a_v a.Digits) (b_h : Rs (rInt .u32) (vH w S [] w) b_v b.Digits) (r : Big) (h : rMul N a b = some r) :
  Calls Try.prog 39 #[(zan #[(zaa a.Negative), a_v]), (zan #[(zaa b.Negative), b_v])] w (Ret w (fun v w' => ∃ (v0_0 : Value), (zan #[(zaa r.Negative), v0_0]) = v ∧ Rs (rInt .u32) (vH w None [] w') v0_0 r.Digits ∧ True)) := by
 unfold rMul at h
 have hL : vL w w [] [] := Go.X.Loc.begin0 w
 refine calls_of (l := [(zan #[(zaa a.Negative), a_v]), (zan #[(zaa b.Negative), b_v])]) (rl := [.cell 4 26]) (n := 38) Try.func39 rfl rfl rfl (zae rfl) ?_
 refine zaj (zah rfl (zaf (zdc (cs := [(zaa a.Negative), a_v]) rfl rfl hL ?_)))
 intro b1 w2 hL3 hS5
 have K4 := ks w hS5
 refine zaf (zdc (cs := [(zaa b.Negative), b_v]) rfl rfl hL3 ?_)
 intro b6 w7 hL8 hS10
 have K9 := ks w hS10
 refine zaf (zbw (cs := [(zaa false), (zad none 0 0)]) ti26 rfl hL8 ?_)
 intro b11 w12 hL13 hS15
 have K14 := ks w hS15
 refine zap (zaj ?_)
 obtain ⟨r16, q17, h⟩ := bind_some h
 refine zcc 3 [] [] (fun W1 => [.det (zan #[(zaa a.Negative), a_v]), .rel (fun v Z w' => ∃ v18, v18 = v ∧ Rs (rInt .i64) (vZ W1 w None [some b11, some b6, some b1] Z w') v18 r16 ∧ True) (fun _ => []), .det (zan #[(zaa b.Negative), b_v])]) mixed rfl rfl rfl (fun _ => rfl) (fun _ => rfl) ?_ ?_
 ·
  intro W1 _
  exact ⟨fun v Z Z' w w' hΦ hz _ _ hs => by obtain ⟨v18, rfl, k19, -⟩ := hΦ; exact ⟨v18, rfl, (k19.mono (zcl hz hs)), trivial⟩, trivial⟩
 ·
  intro w21 hE22
  have hL23 := hL13.ext hE22
  have K24 := ke hL13 hE22
  refine zau (fun _ hE27 => zat (zbd (vs := [(zaa a.Negative), a_v]) zal rfl ti26 rfl ((hL23.ext hE27).at 2 rfl rfl) rfl rfl (er rfl))) ?_
  refine zcq ?_ ?_
  ·
   rintro w31 Z32 hE33 hZ34 ⟨-⟩
   have K36 := ke hL23 hE33
   refine zat (zaw en65 rfl rfl (halves_w N a a_v _ Any ((((((a_h.mono (K4 S)).mono (K9 S)).mono (K14 S)).mono (K24 S)).mono (K36 S)).mono vw_any) r16 q17) ?_)
   rintro _ w37 hE38 ⟨v18, rfl, k19, -⟩
   exact zcj hE38 hZ34 zca (fun _ h => h) ⟨v18, rfl, (k19.mono zda), trivial⟩
  intro z1
  refine zau (fun _ hE41 => zat (zbd (vs := [(zaa b.Negative), b_v]) zal rfl ti26 rfl ((hL23.ext hE41).at 1 rfl rfl) rfl rfl (er rfl))) ?_
  refine zcn ?_
  rintro w45 Z46 hE47 hZ48 ⟨⟨⟨v18, rfl, k19, -⟩, hB1⟩, -⟩ ap49
  have hB50 : ∀ b, some b ∈ ([] : List (Option Nat)) → w21.heap.size ≤ b ∧ ¬ Z46 b := by
   intro b hb; cases hb
  replace k19 := k19.mono (zcy hL23 hZ48 hB50)
  have hL51 := hL23.ext hE47
  have K52 := ke hL23 hE47
  obtain ⟨r53, q54, h⟩ := bind_some h
  have f58 := (((((b_h.mono (K4 S)).mono (K9 S)).mono (K14 S)).mono (K24 S)).mono (K52 S))
  refine zaf (zaw en65 rfl rfl (halves_w N b b_v _ Any (f58.mono vw_any) r53 q54) ?_)
  rintro _ w59 hE62 ⟨v55, rfl, k56, -⟩
  replace k56 := k56.mono (zbc (S := None) hL51 [])
  have hL60 := hL51.ext hE62
  have K61 := ke hL51 hE62
  refine zaf (zak (v := v18) rfl ?_)
  refine zaf (zak (v := v55) rfl ?_)
  refine zap (zaj (zah rfl (zaf (OpY.litRow0 zaz ti3 hL60 ?_))))
  intro b63 w67 hL68 hS70
  have hE71 : Els (rInt .i64) (vH w None [some b11, some b6, some b1] w59) [] [] := zct
  have K69 := ks w hS70
  refine zaf (zak (v := (osv (some b63) 0 (List.length ([] : (List Int))) 0)) rfl ?_)
  refine zap (zaj (zaj (zah rfl (zaf (zai (v := v55) rfl ?_)))))
  have f72 := (k56.mono (K69 None))
  refine zaf (zbf (v := v55) zaz rfl f72 ?_)
  refine zaf (zdd (x := (r53.length : Int)) (y := 1) (z := (iw ((r53.length : Int) - 1))) rfl rfl rfl ?_)
  refine zaf (zak (v := (zac .i64 (iw ((r53.length : Int) - 1)))) rfl ?_)
  refine zap ?_
  obtain ⟨s356, hl358, g357⟩ := bind_some h
  refine zbr (fun e w' => ∃ (sum353 : (List Int)) (v354 : Value) (u : Env), sum353 = s356 ∧ e = upds [(2, (zam (some ⟨b1, 0, none⟩))), (3, (zam (some ⟨b6, 0, none⟩))), (4, (zam (some ⟨b11, 0, none⟩))), (7, v354)] u ∧ vL w w' [some b1, some b6, some b11] [zab [(zaa a.Negative), a_v], zab [(zaa b.Negative), b_v], zab [(zaa false), (zad none 0 0)]] ∧ Keep w.heap.size [some b63, some b11, some b6, some b1] w67 [some b1, some b6, some b11] w' ∧ Rs (rInt .i64) (vH w None [some b1, some b6, some b11] w') v354 sum353 ∧ True) ?_ ?_
  ·
   refine zbj ?_
   have f361 := (hE71.mono (K69 None))
   have f360 := hL68.freezeRow 0 rfl rfl f361 rfl rfl rfl (show ([] ++ [] : List Value).length = 0 * (rInt .i64).sz by simp)
   have hp362 := hL68.pick [1, 2, 3] rfl rfl rfl
   have hL364 : vL w w67 [some b11, some b6, some b1] [zab [(zaa false), (zad none 0 0)], zab [(zaa b.Negative), b_v], zab [(zaa a.Negative), a_v]] := hp362.1
   have K363 := ks w hp362.2
   have hp365 := hL364.pick [2, 1, 0] rfl rfl rfl
   have hL367 : vL w w67 [some b1, some b6, some b11] [zab [(zaa a.Negative), a_v], zab [(zaa b.Negative), b_v], zab [(zaa false), (zad none 0 0)]] := hp365.1
   have K366 := ks w hp365.2
   have f368 := (f360.mono (K366 None))
   refine zcg hl358 (fun (ss : ((List Int) × Int)) (e : Env) (w' : World) => match ss with | (sum346, i349) => ∃ (v347 : Value) (u : Env), e = upds [(2, (zam (some ⟨b1, 0, none⟩))), (3, (zam (some ⟨b6, 0, none⟩))), (4, (zam (some ⟨b11, 0, none⟩))), (5, v18), (6, v55), (7, v347), (8, (zac .i64 i349))] u ∧ vL w w' [some b1, some b6, some b11] [zab [(zaa a.Negative), a_v], zab [(zaa b.Negative), b_v], zab [(zaa false), (zad none 0 0)]] ∧ Keep w.heap.size [some b63, some b11, some b6, some b1] w67 [some b1, some b6, some b11] w' ∧ Rs (rInt .i64) (vH w None [some b1, some b6, some b11] w') v347 sum346 ∧ True) ⟨(osv (some b63) 0 (List.length ([] : (List Int))) 0), _, (upds_sym ⟨rfl, rfl, rfl, rfl, rfl, rfl, rfl, trivial⟩), hL367, (zaq K363 K366), f368, trivial⟩ ?_
   rintro ⟨sum346, i349⟩ oo _ w369 ⟨v347, u, rfl, hL370, K371, k348, -⟩ h hd359
   rw [rMul_b1] at h
   refine zaj (zaj (zah rfl (zaf (zai (v := (zac .i64 i349)) rfl ?_))))
   refine zaf (OpY.geq (x := i349) (y := 0) ((i349 : Int) ≥ 0) rfl rfl zbk ?_)
   refine zap ?_
   refine zbe ((i349 : Int) ≥ 0) rfl (fun hc372 => ?_) (fun hc372 => ?_)
   ·
    replace h := ite_t hc372 h
    refine zbg (zaj (zbj ?_))
    obtain ⟨x381, q382, h⟩ := bind_some h
    obtain ⟨q383, q384, q385⟩ := apnd_some q382
    obtain ⟨x394, q395, h⟩ := bind_some h
    obtain ⟨n396, q397, q398⟩ := idx_some q395
    have f407 := (f72.mono (K371 None))
    obtain ⟨b399, o400, c401, vs402, q403, q404, f405, q406⟩ := zcz f407 q398
    obtain rfl := q406
    refine zcc 8 [[], [], [0], [], [], [], [], []] [] (fun W1 => [.rel (fun v Z w' => ∃ b373 cs380, (osv (some b373) 0 1 1) = v ∧ OwnC w' (some b373) (zab ([] ++ (cs380 ++ []))) ∧ Els (rInt .i64) (vZ W1 w None [some b1, some b6, some b11] Z w') cs380 [0] ∧ (cs380 ++ [] : List Value).length = 1 * (rInt .i64).sz ∧ True) footV, .det v347, .rel (fun v Z w' => ∃ ob386 cap387 cs388 sp389, (osv ob386 0 x381.length cap387) = v ∧ OwnC w' ob386 (zab ([] ++ (cs388 ++ sp389))) ∧ Els (rInt .i64) (vZ W1 w None [some b1, some b6, some b11] Z w') cs388 x381 ∧ (cs388 ++ sp389 : List Value).length = cap387 * (rInt .i64).sz ∧ True) footV, .det v18, .det v55, .det (zac .i64 i349), .det (zam (some ⟨b399, (o400 + n396 * (rInt .i64).sz), none⟩)), .det (zac .i64 x394)]) mixed rfl rfl rfl (fun _ => rfl) (fun _ => rfl) ?_ ?_
    ·
     intro W1 _
     exact ⟨fun v Z Z' w w' hΦ hz _ _ hs => by obtain ⟨b373, cs380, rfl, hO377, hE378, hc379, -⟩ := hΦ; exact ⟨b373, cs380, rfl, (hO377.stay (fun b hb => by cases hb; exact zay) hs), (hE378.mono (zcl hz hs)), hc379, trivial⟩, ⟨fun v Z Z' w w' hΦ hz _ _ hs => by obtain ⟨ob386, cap387, cs388, sp389, rfl, hO393, hE390, hc391, -⟩ := hΦ; exact ⟨ob386, cap387, cs388, sp389, rfl, (hO393.stay (fun b hb => (footV_osv (ob := ob386) (o := 0) (n := x381.length) (cap := cap387)).2 (by rw [hb]; exact zay)) hs), (hE390.mono (zcl hz hs)), hc391, trivial⟩, trivial⟩⟩
    ·
     intro w408 hE409
     have hL410 := hL370.ext hE409
     have K411 := ke hL370 hE409
     refine zcq ?_ ?_
     ·
      rintro w412 Z413 hE414 hZ415 ⟨-⟩
      have hE374 : Els (rInt .i64) (vZ w408 w None [some b1, some b6, some b11] Z413 w412) [(zac .i64 0)] [0] := (zco (a := [(zac .i64 0)]) rfl zct)
      refine zat (zcp (r := (rInt .i64)) (vs := [(zac .i64 0)]) (css := [[(zac .i64 0)]]) (xs := [0]) zaz ti3 (zae rfl) rfl rfl ⟨rfl, rfl, trivial⟩ (zae rfl) hE374 rfl (Go.X.Loc.begin0 w412) ?_)
      intro b373 w418 hc375 hL419 hS420
      have hN421 : NewOwn w412 w418 [some b373] [zab ([] ++ ([(zac .i64 0)] ++ []))] := hL419.newOwn [0] rfl rfl rfl
      exact zcj hL419.done hZ415 hN421 (fun _ h => h) ⟨b373, [(zac .i64 0)], rfl, hN421.2.2.1, (hE374.mono (Zv.grow hL419.done)), hc375, trivial⟩
     intro z0
     refine zau (fun _ _ => zat (zai rfl (er rfl))) ?_
     refine zcq ?_ ?_
     ·
      rintro w428 Z429 hE430 hZ431 ⟨⟨⟨b373, cs380, rfl, hO377, hE378, hc379, -⟩, hB0⟩, -⟩
      obtain ⟨ds434, q435, q436⟩ := Rs.src ((k348.mono (K411 None)).mono (Zv.old (Z := Z429) hE430))
      refine zat (zdl (r := (rInt .i64)) (H := (vZ w408 w None [some b1, some b6, some b11] Z429 w428)) (cs := cs380) (sp := []) (xs := [0]) (ys := sum346) (Y := x381) (n := 1) (cap := 1) (i := 0) zaz ti3 rfl rfl rfl rfl (Go.X.Loc.begin1 hO377) rfl rfl hE378 rfl hc379 q435 (Els.anyH (fun _ _ _ _ h => h) q436) q383 q384 q385 ?_)
      intro ob386 cap387 sp389 cs388 w437 hE390 hc391 (hL438 : Go.X.Loc [some b373] [] w428 w437 [ob386] [zab ([] ++ (cs388 ++ sp389))]) hS439
      exact Made.use hZ431 (fun b hb => hB0 b ((footV_osv (o := 0) (n := 1) (cap := 1)).2 hb)) hL438 (fun b hb => List.mem_append_left _ ((footV_osv (o := 0) (n := 1) (cap := 1)).2 (by rw [← hb]; exact zay))) (fun b hb => footV_osv.1 hb) ⟨ob386, cap387, cs388, sp389, rfl, hL438.own.1, (hE390.mono (Zv.use (fun b hb => hB0 b ((footV_osv (o := 0) (n := 1) (cap := 1)).2 hb)) hL438)), hc391, trivial⟩
     intro z2
     refine zau (fun _ _ => zat (zai rfl (er rfl))) ?_
     refine zau (fun _ _ => zat (zai rfl (er rfl))) ?_
     refine zau (fun _ _ => zat (zai rfl (er rfl))) ?_
     refine zau (fun _ _ => zat (zbv (r := (rInt .i64)) (v := v55) (n := n396) (m := (o400 + n396 * (rInt .i64).sz)) zaz ti3 rfl q403 rfl q397 q398 rfl (er rfl))) ?_
     refine zau (fun _ hE466 => zat (zck zbq rfl rfl vw_view (zcw ((ke hL410 hE466) None) (zcw (K411 None) f405)) (er rfl))) ?_
     refine zcn ?_
     rintro w470 Z471 hE472 hZ473 ⟨⟨⟨ob386, cap387, cs388, sp389, rfl, hO393, hE390, hc391, -⟩, hB2⟩, -, -⟩ ap474
     have hB475 : ∀ b, some b ∈ ([ob386] : List (Option Nat)) → w408.heap.size ≤ b ∧ ¬ Z471 b := by
      intro b hb
      rcases List.mem_cons.1 hb with hb' | hb
      ·
       have := hB2 b ((footV_osv (ob := ob386) (o := 0) (n := x381.length) (cap := cap387)).2 (by rw [hb']; exact zay)); exact ⟨this.1, this.2.2⟩
      cases hb
     replace hE390 := hE390.mono (zcy hL410 hZ473 hB475)
     have hN478 : NewOwn w408 w470 [ob386] [zab ([] ++ (cs388 ++ sp389))] := (zdb zca hO393 (fun b hb => (hB475 b (by rw [← hb]; simp)).1) (fun b _ hb => by cases hb))
     have hp479 := hL410.adoptL hE472 hN478
     have hL476 := hp479.1
     have K477 := ks w hp479.2
     obtain ⟨r480, q481, h⟩ := bind_some h
     have f485 := (((((k19.mono (K61 None)).mono (K69 None)).mono (K371 None)).mono (K411 None)).mono (K477 None))
     refine zaf (zaw en71 rfl rfl (rtimes_w N r16 x394 v18 _ Any (f485.mono vw_any) r480 q481) ?_)
     rintro _ w486 hE489 ⟨v482, rfl, k483, -⟩
     replace k483 := k483.mono (zbc (S := None) hL476 [])
     have hL487 := hL476.ext hE489
     have K488 := ke hL476 hE489
     obtain ⟨r490, q491, h⟩ := bind_some h
     have f495 := (hE390.mono (K488 None))
     refine zaf (zaw en69 rfl rfl (rplus_w N x381 r480 (osv ob386 0 x381.length cap387) v482 _ Any (own_row_any (pre := []) (o := 0) (n := x381.length) (cap := cap387) (hL487.at 0 rfl rfl) f495 vw_any rfl rfl rfl hc391) (k483.mono vw_any) r490 q491) ?_)
     rintro _ w496 hE499 ⟨v492, rfl, k493, -⟩
     replace k493 := k493.mono (zbc (S := None) hL487 [])
     have hL497 := hL487.ext hE499
     have K498 := ke hL487 hE499
     refine zaf (zak (v := v492) rfl ?_)
     refine zap (zbs (zah rfl (zaf (zai (v := (zac .i64 i349)) rfl ?_))))
     refine zaf (zdd (x := i349) (y := 1) (z := (iw (i349 - 1))) rfl rfl rfl ?_)
     refine zaf (zak (v := (zac .i64 (iw (i349 - 1)))) rfl ?_)
     refine zap ?_
     have hp500 := hL497.pick [1, 2, 3] rfl rfl rfl
     have hL502 : vL w w496 [some b1, some b6, some b11] [zab [(zaa a.Negative), a_v], zab [(zaa b.Negative), b_v], zab [(zaa false), (zad none 0 0)]] := hp500.1
     have K501 := ks w hp500.2
     have f503 := (k493.mono (K501 None))
     obtain rfl := zag h
     refine zas ⟨(r490, (iw (i349 - 1))), rfl, ?_⟩
     exact ⟨v492, _, (upds_sym ⟨rfl, rfl, rfl, rfl, rfl, rfl, rfl, trivial⟩), hL502, (zaq (zaq (zaq (zaq (zaq K371 K411) K477) K488) K498) K501), f503, trivial⟩
   ·
    replace h := ite_f hc372 h
    refine zcs rfl ?_
    obtain rfl := zag h
    obtain rfl := hd359 _ rfl
    replace h := g357
    try dsimp only at h
    skip
    refine zas ?_
    exact ⟨sum346, v347, _, rfl, (upds_sym ⟨rfl, rfl, rfl, rfl, trivial⟩), hL370, K371, k348, trivial⟩
  ·
   rintro _ w504 ⟨sum353, v354, u, rfl, rfl, hL505, K506, k355, -⟩
   replace h := g357
   try dsimp only at h
   refine zaj (zah rfl (zaf (zar (q := 0) zal rfl ti4 rfl rfl rfl ?_)))
   refine zaf (zbb (v := (zaa a.Negative)) zbn rfl rfl (hL505.at 0 rfl rfl) rfl ?_)
   refine zaf (zar (q := 0) zal rfl ti4 rfl rfl rfl ?_)
   refine zaf (zbb (v := (zaa b.Negative)) zbn rfl rfl (hL505.at 1 rfl rfl) rfl ?_)
   refine zaf (OpY.neqBool (x := a.Negative) (y := b.Negative) zbn rfl rfl ?_)
   refine zaf (zai (v := v354) rfl ?_)
   obtain ⟨r507, q508, h⟩ := bind_some h
   refine zaf (zaw en68 rfl rfl (rbig_w N (!(a.Negative == b.Negative)) sum353 v354 _ Any (k355.mono vw_any) r507 q508) ?_)
   rintro _ w512 hE515 ⟨v509, rfl, k510, -⟩
   replace k510 := k510.mono (zbc (S := None) hL505 [])
   have hL513 := hL505.ext hE515
   refine zcb (zbh (vs := [(zaa r507.Negative), v509]) ti26 rfl rfl rfl rfl (ones_cons rfl (ones_cons k510.one ones_nil)) hL513 2 rfl rfl (zae rfl) ?_)
   intro w516 (hL517 : vL w w516 [some b1, some b6, some b11] [zab [(zaa a.Negative), a_v], zab [(zaa b.Negative), b_v], zab [(zaa r507.Negative), v509]]) hS519
   have K518 := ks w hS519
   refine zap (zbl ?_)
   obtain rfl := zag h
   refine ⟨[(zan #[(zaa r507.Negative), v509])], ⟨⟨⟨b11, 0, none⟩, rfl, res_boxA zal rfl ti26 (hL517.at 2 rfl rfl) rfl⟩, trivial⟩, ⟨_, rfl, hL517.done, ?_⟩⟩
   have f520 := (k510.mono (K518 None))
   exact ⟨v509, rfl, (f520.mono zdf), trivial⟩
theorem rsplit_w (N : Nat) (a : (List Int)) (b : (List Int)) (a_v : Value) (b_v : Value) (w : World) (S : Nat → Prop) (a_h : Rs (rInt .i64) (vH w S [] w) a_v a) (b_h : Rs (rInt .i64) (vH w S [] w) b_v b) (r : ((List Int) × (List Int))) (h : rsplit N a b = some r) :
  Calls Try.prog 79 #[a_v, b_v] w (Ret w (fun v w' => ∃ (v0_0 : Value) (v1_0 : Value), .tuple #[v0_0, v1_0] = v ∧ Rs (rInt .i64) (vH w None [] w') v0_0 r.1 ∧ Rs (rInt .i64) (vH w None [] w') v1_0 r.2 ∧ True)) := by
 unfold rsplit at h
 have hL : vL w w [] [] := Go.X.Loc.begin0 w
 refine calls_of (l := [a_v, b_v]) (rl := [.tmp 4, .tmp 5]) (n := 56) Try.func79 rfl rfl rfl (zae rfl) ?_
 refine zaj (zah rfl (zaf (zak (v := (zad none 0 0)) rfl ?_)))
 refine zaf (zak (v := (zad none 0 0)) rfl ?_)
 refine zap (zaj (zah rfl (zaf (zai (v := a_v) rfl ?_))))
 refine zaf (zbf (v := a_v) zaz rfl a_h ?_)
 obtain ⟨x2, q3, h⟩ := bind_some h
 obtain ⟨m1, q4, q5, q6, q7⟩ := mk1_some q3
 refine zaf (OpY.mkRowX (r := (rInt .i64)) (H := (vH w None [] w)) (zc := [(zac .i64 0)]) (x := 0) zaz ti3 rfl rfl rfl rfl q4 q5 q6 q7 hL ?_)
 intro b8 w13 cs9 hE10 hc11 hL14 hS16
 have K15 := ks w hS16
 refine zaf (OpY.litRow0 zaz ti3 hL14 ?_)
 intro b17 w21 hL22 hS24
 have hE25 : Els (rInt .i64) (vH w None [some b8] w13) [] [] := zct
 have K23 := ks w hS24
 refine zaf (zak (v := (osv (some b8) 0 x2.length m1)) rfl ?_)
 refine zaf (zak (v := (osv (some b17) 0 (List.length ([] : (List Int))) 0)) rfl ?_)
 refine zap (zaj (zaj (zah rfl (zaf (zai (v := a_v) rfl ?_)))))
 have f26 := ((a_h.mono (K15 S)).mono (K23 S))
 refine zaf (zbf (v := a_v) zaz rfl f26 ?_)
 refine zaf (zdd (x := (a.length : Int)) (y := 1) (z := (iw ((a.length : Int) - 1))) rfl rfl rfl ?_)
 refine zaf (zak (v := (zac .i64 (iw ((a.length : Int) - 1)))) rfl ?_)
 refine zap ?_
 obtain ⟨s969, hl971, g970⟩ := bind_some h
 refine zbr (fun e w' => ∃ (q962 : (List Int)) (x966 : (List Int)) (cs961 : List Value) (v967 : Value) (u : Env), (q962, x966) = s969 ∧ e = upds [(6, (osv (some b8) 0 x2.length m1)), (7, v967)] u ∧ vL w w' [some b8] [zab ([] ++ (cs961 ++ []))] ∧ Keep w.heap.size [some b17, some b8] w21 [some b8] w' ∧ Els (rInt .i64) (vH w None [some b8] w') cs961 q962 ∧ x2.length = List.length q962 ∧ (cs961 ++ []).length = m1 * (rInt .i64).sz ∧ Rs (rInt .i64) (vH w None [some b8] w') v967 x966 ∧ True) ?_ ?_
 ·
  refine zbj ?_
  have f974 := (hE25.mono (K23 None))
  have f973 := hL22.freezeRow 0 rfl rfl f974 rfl rfl rfl (show ([] ++ [] : List Value).length = 0 * (rInt .i64).sz by simp)
  have hp975 := hL22.pick [1] rfl rfl rfl
  have hL977 : vL w w21 [some b8] [zab ([] ++ (cs9 ++ []))] := hp975.1
  have K976 := ks w hp975.2
  have f978 := (((hE10.mono (K15 None)).mono (K23 None)).mono (K976 None))
  refine zcg hl971 (fun (ss : ((List Int) × (List Int) × Int)) (e : Env) (w' : World) => match ss with | (q952, x956, i959) => ∃ (cs951 : List Value) (v957 : Value) (u : Env), e = upds [(0, a_v), (1, b_v), (6, (osv (some b8) 0 x2.length m1)), (7, v957), (8, (zac .i64 i959))] u ∧ vL w w' [some b8] [zab ([] ++ (cs951 ++ []))] ∧ Keep w.heap.size [some b17, some b8] w21 [some b8] w' ∧ Els (rInt .i64) (vH w None [some b8] w') cs951 q952 ∧ x2.length = List.length q952 ∧ (cs951 ++ []).length = m1 * (rInt .i64).sz ∧ Rs (rInt .i64) (vH w None [some b8] w') v957 x956 ∧ True) ⟨cs9, (osv (some b17) 0 (List.length ([] : (List Int))) 0), _, (upds_sym ⟨rfl, rfl, rfl, rfl, rfl, trivial⟩), hL977, K976, f978, rfl, hc11, f973, trivial⟩ ?_
  rintro ⟨q952, x956, i959⟩ oo _ w979 ⟨cs951, v957, u, rfl, hL980, K981, hE953, hl955, hc954, k958, -⟩ h hd972
  rw [rsplit_b1] at h
  refine zaj (zaj (zah rfl (zaf (zai (v := (zac .i64 i959)) rfl ?_))))
  refine zaf (OpY.geq (x := i959) (y := 0) ((i959 : Int) ≥ 0) rfl rfl zbk ?_)
  refine zap ?_
  refine zbe ((i959 : Int) ≥ 0) rfl (fun hc982 => ?_) (fun hc982 => ?_)
  ·
   replace h := ite_t hc982 h
   refine zbg (zaj (zbj (zaj (zah rfl (zaf (zak (v := (zac .i64 32768)) rfl ?_))))))
   refine zap ?_
   obtain ⟨s1282, hl1284, g1283⟩ := bind_some h
   refine zbr (fun e w' => ∃ (q1275 : (List Int)) (x1279 : (List Int)) (cs1274 : List Value) (v1280 : Value) (u : Env), (q1275, x1279) = s1282 ∧ e = upds [(0, a_v), (1, b_v), (6, (osv (some b8) 0 x2.length m1)), (7, v1280), (8, (zac .i64 i959))] u ∧ vL w w' [some b8] [zab ([] ++ (cs1274 ++ []))] ∧ Keep w.heap.size [some b8] w979 [some b8] w' ∧ Els (rInt .i64) (vH w None [some b8] w') cs1274 q1275 ∧ x2.length = List.length q1275 ∧ (cs1274 ++ []).length = m1 * (rInt .i64).sz ∧ Rs (rInt .i64) (vH w None [some b8] w') v1280 x1279 ∧ True) ?_ ?_
   ·
    refine zbj ?_
    refine zcg hl1284 (fun (ss : ((List Int) × (List Int) × Int)) (e : Env) (w' : World) => match ss with | (q1265, x1269, bit1272) => ∃ (cs1264 : List Value) (v1270 : Value) (u : Env), e = upds [(0, a_v), (1, b_v), (6, (osv (some b8) 0 x2.length m1)), (7, v1270), (8, (zac .i64 i959)), (9, (zac .i64 bit1272))] u ∧ vL w w' [some b8] [zab ([] ++ (cs1264 ++ []))] ∧ Keep w.heap.size [some b8] w979 [some b8] w' ∧ Els (rInt .i64) (vH w None [some b8] w') cs1264 q1265 ∧ x2.length = List.length q1265 ∧ (cs1264 ++ []).length = m1 * (rInt .i64).sz ∧ Rs (rInt .i64) (vH w None [some b8] w') v1270 x1269 ∧ True) ⟨cs951, v957, _, (upds_sym ⟨rfl, rfl, rfl, rfl, rfl, rfl, trivial⟩), hL980, zbo, hE953, hl955, hc954, k958, trivial⟩ ?_
    rintro ⟨q1265, x1269, bit1272⟩ oo _ w1286 ⟨cs1264, v1270, u, rfl, hL1287, K1288, hE1266, hl1268, hc1267, k1271, -⟩ h hd1285
    rw [rsplit_b2] at h
    refine zaj (zaj (zah rfl (zaf (zai (v := (zac .i64 bit1272)) rfl ?_))))
    refine zaf (zdm (x := bit1272) (y := 0) ((bit1272 : Int) > 0) rfl rfl zbk ?_)
    refine zap ?_
    refine zbe ((bit1272 : Int) > 0) rfl (fun hc1289 => ?_) (fun hc1289 => ?_)
    ·
     replace h := ite_t hc1289 h
     refine zbg (zaj (zbj (zaj (zah rfl (zaf (zai (v := v1270) rfl ?_))))))
     refine zaf (zai (v := v1270) rfl ?_)
     obtain ⟨r1290, q1291, h⟩ := bind_some h
     refine zaf (zaw en69 rfl rfl (rplus_w N x1269 x1269 v1270 v1270 _ Any (k1271.mono vw_any) (k1271.mono vw_any) r1290 q1291) ?_)
     rintro _ w1295 hE1298 ⟨v1292, rfl, k1293, -⟩
     replace k1293 := k1293.mono (zbc (S := None) hL1287 [])
     have hL1296 := hL1287.ext hE1298
     have K1297 := ke hL1287 hE1298
     refine zaf (zak (v := v1292) rfl ?_)
     refine zap (zaj (zaj (zah rfl (zaf (zai (v := a_v) rfl ?_)))))
     refine zaf (zai (v := (zac .i64 i959)) rfl ?_)
     obtain ⟨x1299, q1300, h⟩ := bind_some h
     obtain ⟨n1301, q1302, q1303⟩ := idx_some q1300
     have f1312 := (((f26.mono (K981 S)).mono (K1288 S)).mono (K1297 S))
     obtain ⟨b1304, o1305, c1306, vs1307, q1308, q1309, f1310, q1311⟩ := zcz f1312 q1303
     obtain rfl := q1311
     refine zaf (zbv (r := (rInt .i64)) (v := a_v) (n := n1301) (m := (o1305 + n1301 * (rInt .i64).sz)) zaz ti3 rfl q1308 rfl q1302 q1303 rfl ?_)
     refine zaf (zck (v := (zac .i64 x1299)) zbq rfl rfl vw_view f1310 ?_)
     refine zaf (zai (v := (zac .i64 bit1272)) rfl ?_)
     obtain ⟨x1313, q1314, h⟩ := bind_some h
     obtain ⟨q1315, q1316⟩ := sdiv_some q1314
     refine zaf (OpY.quoI (x := x1299) (y := bit1272) (z := x1313) rfl rfl q1315 q1316 ?_)
     refine zaf (OpY.remI (x := x1313) (y := 2) rfl rfl (by decide) ?_)
     refine zaf (OpY.eql (x := (Int.tmod x1313 2)) (y := 1) (((Int.tmod x1313 2) : Int) = 1) rfl rfl zbk ?_)
     refine zap ?_
     obtain ⟨s1341, h, g1342⟩ := bind_some h
     refine zbr (fun e w' => ∃ (x1338 : (List Int)) (v1339 : Value) (u : Env), x1338 = s1341 ∧ e = upds [(0, a_v), (1, b_v), (6, (osv (some b8) 0 x2.length m1)), (7, v1339), (8, (zac .i64 i959)), (9, (zac .i64 bit1272))] u ∧ vL w w' [some b8] [zab ([] ++ (cs1264 ++ []))] ∧ Keep w.heap.size [some b8] w1295 [some b8] w' ∧ Rs (rInt .i64) (vH w None [some b8] w') v1339 x1338 ∧ True) ?_ ?_
     ·
      refine zbe (((Int.tmod x1313 2) : Int) = 1) rfl (fun hc1343 => ?_) (fun hc1343 => ?_)
      ·
       replace h := ite_t hc1343 h
       refine zah rfl (zaf (zai (v := v1292) rfl ?_))
       have hE1345 : Els (rInt .i64) (vH w None [some b8] w1295) [(zac .i64 1)] [1] := (zco (a := [(zac .i64 1)]) rfl zct)
       refine zaf (zcp (r := (rInt .i64)) (vs := [(zac .i64 1)]) (css := [[(zac .i64 1)]]) (xs := [1]) zaz ti3 (zae rfl) rfl rfl ⟨rfl, rfl, trivial⟩ (zae rfl) hE1345 rfl hL1296 ?_)
       intro b1344 w1348 hc1346 hL1349 hS1351
       have K1350 := ks w hS1351
       obtain ⟨r1352, q1353, h⟩ := bind_some h
       have f1357 := (k1293.mono (K1350 None))
       have f1358 := (hE1345.mono (K1350 None))
       refine zaf (zaw en69 rfl rfl (rplus_w N r1290 [1] v1292 (osv (some b1344) 0 1 1) _ Any (f1357.mono vw_any) (own_row_any (pre := []) (o := 0) (n := 1) (cap := 1) (hL1349.at 0 rfl rfl) f1358 vw_any rfl rfl rfl hc1346) r1352 q1353) ?_)
       rintro _ w1359 hE1362 ⟨v1354, rfl, k1355, -⟩
       replace k1355 := k1355.mono (zbc (S := None) hL1349 [])
       have hL1360 := hL1349.ext hE1362
       have K1361 := ke hL1349 hE1362
       refine zaf (zak (v := v1354) rfl ?_)
       refine zap ?_
       have hp1363 := hL1360.pick [1] rfl rfl rfl
       have hL1365 : vL w w1359 [some b8] [zab ([] ++ (cs1264 ++ []))] := hp1363.1
       have K1364 := ks w hp1363.2
       have f1366 := (k1355.mono (K1364 None))
       obtain rfl := zag h
       refine zas ?_
       exact ⟨r1352, v1354, _, rfl, (upds_sym ⟨rfl, rfl, rfl, rfl, rfl, rfl, trivial⟩), hL1365, (zaq (zaq K1350 K1361) K1364), f1366, trivial⟩
      ·
       replace h := ite_f hc1343 h
       refine zbg ?_
       obtain rfl := zag h
       refine zas ?_
       exact ⟨r1290, v1292, _, rfl, (upds_sym ⟨rfl, rfl, rfl, rfl, rfl, rfl, trivial⟩), hL1296, zbo, k1293, trivial⟩
     ·
      rintro _ w1367 ⟨x1338, v1339, u, rfl, rfl, hL1368, K1369, k1340, -⟩
      replace h := g1342
      try dsimp only at h
      refine zaj (zah rfl (zaf (zai (v := v1339) rfl ?_)))
      refine zaf (zai (v := b_v) rfl ?_)
      obtain ⟨r1370, q1371, h⟩ := bind_some h
      have f1373 := ((((((b_h.mono (K15 S)).mono (K23 S)).mono (K981 S)).mono (K1288 S)).mono (K1297 S)).mono (K1369 S))
      refine zaf (zaw en64 rfl rfl (rorder_w N x1338 b v1339 b_v _ Any (k1340.mono vw_any) (f1373.mono vw_any) r1370 q1371) ?_)
      rintro _ w1374 hE1377 ⟨rfl, -⟩
      have hL1375 := hL1368.ext hE1377
      have K1376 := ke hL1368 hE1377
      refine zaf (OpY.geq (x := r1370) (y := 0) ((r1370 : Int) ≥ 0) rfl rfl zbk ?_)
      refine zap ?_
      refine zbe ((r1370 : Int) ≥ 0) rfl (fun hc1378 => ?_) (fun hc1378 => ?_)
      ·
       replace h := ite_t hc1378 h
       refine zaj (zah rfl (zaf (zai (v := v1339) rfl ?_)))
       refine zaf (zai (v := b_v) rfl ?_)
       obtain ⟨r1379, q1380, h⟩ := bind_some h
       have f1384 := (k1340.mono (K1376 None))
       have f1385 := (f1373.mono (K1376 S))
       refine zaf (zaw en70 rfl rfl (rminus_w N x1338 b v1339 b_v _ Any (f1384.mono vw_any) (f1385.mono vw_any) r1379 q1380) ?_)
       rintro _ w1386 hE1389 ⟨v1381, rfl, k1382, -⟩
       replace k1382 := k1382.mono (zbc (S := None) hL1375 [])
       have hL1387 := hL1375.ext hE1389
       have K1388 := ke hL1375 hE1389
       refine zaf (zak (v := v1381) rfl ?_)
       refine zap (zah rfl (zaf (zai (v := (osv (some b8) 0 x2.length m1)) rfl ?_)))
       refine zaf (zai (v := (zac .i64 i959)) rfl ?_)
       obtain ⟨x1390, q1391, h⟩ := bind_some h
       obtain ⟨n1392, q1393, q1394⟩ := idx_some q1391
       have q1395 := (List.getElem?_eq_some_iff.1 q1394).1
       refine zaf (zci (r := (rInt .i64)) (b := b8) (o := 0) (n := n1392) (m := x2.length) (xs := q1265) (q := (0 + n1392 * (rInt .i64).sz)) zaz ti3 rfl hl1268 rfl q1393 q1395 rfl ?_)
       have f1400 := ((((hE1266.mono (K1297 None)).mono (K1369 None)).mono (K1376 None)).mono (K1388 None))
       obtain ⟨vs1396, q1397, q1398, q1399⟩ := row_elem (pre := []) (sp := []) f1400 q1394
       obtain rfl := q1398
       refine zaf (zde (v := (zac .i64 x1390)) zbq rfl rfl (hL1387.at 0 rfl rfl) q1399 ?_)
       refine zaf (zai (v := (zac .i64 bit1272)) rfl ?_)
       refine zaf (zcd (x := x1390) (y := bit1272) (z := (iw (x1390 + bit1272))) rfl rfl rfl ?_)
       obtain ⟨x1401, q1402, h⟩ := bind_some h
       obtain ⟨n1403, q1404, q1405⟩ := idx_some q1402
       have q1406 := (List.getElem?_eq_some_iff.1 q1405).1
       refine zaf (zci (r := (rInt .i64)) (b := b8) (o := 0) (n := n1403) (m := x2.length) (xs := q1265) (q := (0 + n1403 * (rInt .i64).sz)) zaz ti3 rfl hl1268 rfl q1404 q1406 rfl ?_)
       obtain ⟨x1407, q1408, h⟩ := bind_some h
       obtain ⟨n1409, q1410, q1411, q1412⟩ := upd1_some q1408
       obtain rfl := Int.ofNat_inj.1 (q1404.symm.trans q1410)
       refine zcb (zdh (pre := []) (r := (rInt .i64)) (vs := [(zac .i64 (iw (x1390 + bit1272)))]) (a := (iw (x1390 + bit1272))) ti3 rfl rfl rfl rfl hL1387 0 rfl rfl f1400 q1406 rfl q1412 ?_)
       have hl1420 : x2.length = List.length x1407 := by rw [q1412, List.length_set]; exact hl1268
       intro w1413 cs1417 (hL1414 : vL w w1413 [some b8] [zab ([] ++ (cs1417 ++ []))]) hS1416 hE1418 q1419
       have hc1421 : (cs1417 ++ []).length = m1 * (rInt .i64).sz := by have := hc1267; rw [List.length_append] at this ⊢; rw [q1419]; exact this
       have K1415 := ks w hS1416
       refine zap (zbs (zah rfl (zaf (zai (v := (zac .i64 bit1272)) rfl ?_))))
       refine zaf (OpY.quoI (x := bit1272) (y := 2) (z := (iw (Int.tdiv bit1272 2))) rfl rfl (by decide) rfl ?_)
       refine zaf (zak (v := (zac .i64 (iw (Int.tdiv bit1272 2)))) rfl ?_)
       refine zap ?_
       have f1422 := (hE1418.mono (K1415 None))
       have f1423 := (k1382.mono (K1415 None))
       obtain rfl := zag h
       refine zas ⟨(x1407, r1379, (iw (Int.tdiv bit1272 2))), rfl, ?_⟩
       exact ⟨cs1417, v1381, _, (upds_sym ⟨rfl, rfl, rfl, rfl, rfl, rfl, trivial⟩), hL1414, (zaq (zaq (zaq (zaq (zaq K1288 K1297) K1369) K1376) K1388) K1415), f1422, hl1420, hc1421, f1423, trivial⟩
      ·
       replace h := ite_f hc1378 h
       refine zbg (zbs (zah rfl (zaf (zai (v := (zac .i64 bit1272)) rfl ?_))))
       refine zaf (OpY.quoI (x := bit1272) (y := 2) (z := (iw (Int.tdiv bit1272 2))) rfl rfl (by decide) rfl ?_)
       refine zaf (zak (v := (zac .i64 (iw (Int.tdiv bit1272 2)))) rfl ?_)
       refine zap ?_
       have f1424 := (((hE1266.mono (K1297 None)).mono (K1369 None)).mono (K1376 None))
       have f1425 := (k1340.mono (K1376 None))
       obtain rfl := zag h
       refine zas ⟨(q1265, x1338, (iw (Int.tdiv bit1272 2))), rfl, ?_⟩
       exact ⟨cs1264, v1339, _, (upds_sym ⟨rfl, rfl, rfl, rfl, rfl, rfl, trivial⟩), hL1375, (zaq (zaq (zaq K1288 K1297) K1369) K1376), f1424, hl1268, hc1267, f1425, trivial⟩
    ·
     replace h := ite_f hc1289 h
     refine zcs rfl ?_
     obtain rfl := zag h
     obtain rfl := hd1285 _ rfl
     replace h := g1283
     try dsimp only at h
     skip
     refine zas ?_
     exact ⟨q1265, x1269, cs1264, v1270, _, rfl, (upds_sym ⟨rfl, rfl, rfl, rfl, rfl, trivial⟩), hL1287, K1288, hE1266, hl1268, hc1267, k1271, trivial⟩
   ·
    rintro _ w1426 ⟨q1275, x1279, cs1274, v1280, u, rfl, rfl, hL1427, K1428, hE1276, hl1278, hc1277, k1281, -⟩
    replace h := g1283
    try dsimp only at h
    refine zbs (zah rfl (zaf (zai (v := (zac .i64 i959)) rfl ?_)))
    refine zaf (zdd (x := i959) (y := 1) (z := (iw (i959 - 1))) rfl rfl rfl ?_)
    refine zaf (zak (v := (zac .i64 (iw (i959 - 1)))) rfl ?_)
    refine zap ?_
    obtain rfl := zag h
    refine zas ⟨(q1275, x1279, (iw (i959 - 1))), rfl, ?_⟩
    exact ⟨cs1274, v1280, _, (upds_sym ⟨rfl, rfl, rfl, rfl, rfl, trivial⟩), hL1427, (zaq K981 K1428), hE1276, hl1278, hc1277, k1281, trivial⟩
  ·
   replace h := ite_f hc982 h
   refine zcs rfl ?_
   obtain rfl := zag h
   obtain rfl := hd972 _ rfl
   replace h := g970
   try dsimp only at h
   skip
   refine zas ?_
   exact ⟨q952, x956, cs951, v957, _, rfl, (upds_sym ⟨rfl, rfl, trivial⟩), hL980, K981, hE953, hl955, hc954, k958, trivial⟩
 ·
  rintro _ w1429 ⟨q962, x966, cs961, v967, u, rfl, rfl, hL1430, K1431, hE963, hl965, hc964, k968, -⟩
  replace h := g970
  try dsimp only at h
  refine zaj (zah rfl (zaf (zai (v := (osv (some b8) 0 x2.length m1)) rfl ?_)))
  have f1432 := hL1430.freezeRow 0 rfl rfl hE963 rfl rfl hl965 hc964
  have hp1433 := hL1430.pick [] rfl rfl rfl
  have hL1435 : vL w w1429 [] [] := hp1433.1
  have K1434 := ks w hp1433.2
  obtain ⟨r1436, q1437, h⟩ := bind_some h
  refine zaf (zaw en82 rfl rfl (rtrim_w N q962 (osv (some b8) 0 x2.length m1) _ _ (f1432.mono Hv.enter) r1436 q1437) ?_)
  rintro _ w1441 hE1444 ⟨v1438, rfl, k1439, -⟩
  replace k1439 := k1439.mono (Hv.aliasO (S := None) hL1435 [])
  have hL1442 := hL1435.ext hE1444
  have K1443 := ke hL1435 hE1444
  refine zaf (zai (v := v967) rfl ?_)
  refine zaf (zak (v := v1438) rfl ?_)
  refine zaf (zak (v := v967) rfl ?_)
  refine zap (zbl ?_)
  obtain rfl := zag h
  refine ⟨[v1438, v967], ⟨rfl, rfl, trivial⟩, ⟨_, rfl, hL1442.done, ?_⟩⟩
  have f1445 := ((k968.mono (K1434 None)).mono (K1443 None))
  exact ⟨v1438, v967, rfl, (k1439.mono zdf), (f1445.mono zdf), trivial⟩
theorem rOf_w (N : Nat) (n : Int)  (w : World) (S : Nat → Prop)  (r : Big) (h : rOf N n = some r) :
  Calls Try.prog 37 #[(zac .i64 n)] w (Ret w (fun v w' => ∃ (v0_0 : Value), (zan #[(zaa r.Negative), v0_0]) = v ∧ Rs (rInt .u32) (vH w None [] w') v0_0 r.Digits ∧ True)) := by
 unfold rOf at h
 have hL : vL w w [] [] := Go.X.Loc.begin0 w
 refine calls_of (l := [(zac .i64 n)]) (rl := [.cell 2 26]) (n := 29) Try.func37 rfl rfl rfl (zae rfl) ?_
 refine zaj (zah rfl (zaf (zbw (cs := [(zaa false), (zad none 0 0)]) ti26 rfl hL ?_)))
 intro b1 w2 hL3 hS5
 refine zap (zaj (zah rfl (zaf (zai (v := (zac .i64 n)) rfl ?_))))
 refine zaf (zbp (x := n) (z := (uw n)) Try.underlying2 zbi rfl rfl ?_)
 refine zaf (zak (v := (zac .u64 (uw n))) rfl ?_)
 refine zap (zaj (zaj (zah rfl (zaf (zai (v := (zac .i64 n)) rfl ?_)))))
 refine zaf (zcr (x := n) (y := 0) ((n : Int) < 0) rfl rfl zbk ?_)
 refine zap ?_
 obtain ⟨s9, h, g10⟩ := bind_some h
 refine zbr (fun e w' => ∃ (u8 : Int) (u : Env), u8 = s9 ∧ e = upds [(0, (zac .i64 n)), (2, (zam (some ⟨b1, 0, none⟩))), (3, (zac .u64 u8))] u ∧ vL w w' [some b1] [zab [(zaa false), (zad none 0 0)]] ∧ Keep w.heap.size [some b1] w2 [some b1] w' ∧ True) ?_ ?_
 ·
  refine zbe ((n : Int) < 0) rfl (fun hc11 => ?_) (fun hc11 => ?_)
  ·
   replace h := ite_t hc11 h
   refine zah rfl (zaf (zai (v := (zac .i64 n)) rfl ?_))
   refine zaf (zcd (x := n) (y := 1) (z := (iw (n + 1))) rfl rfl rfl ?_)
   refine zaf (OpY.neg (x := (iw (n + 1))) (z := (iw (0 - (iw (n + 1))))) rfl rfl ?_)
   refine zaf (zbp (x := (iw (0 - (iw (n + 1))))) (z := (uw (iw (0 - (iw (n + 1)))))) Try.underlying2 zbi rfl rfl ?_)
   refine zaf (zcd (x := (uw (iw (0 - (iw (n + 1)))))) (y := 1) (z := (uw ((uw (iw (0 - (iw (n + 1))))) + 1))) rfl rfl rfl ?_)
   refine zaf (zak (v := (zac .u64 (uw ((uw (iw (0 - (iw (n + 1))))) + 1)))) rfl ?_)
   refine zap ?_
   obtain rfl := zag h
   refine zas ?_
   exact ⟨(uw ((uw (iw (0 - (iw (n + 1))))) + 1)), _, rfl, (upds_sym ⟨rfl, rfl, rfl, trivial⟩), hL3, zbo, trivial⟩
  ·
   replace h := ite_f hc11 h
   refine zbg ?_
   obtain rfl := zag h
   refine zas ?_
   exact ⟨(uw n), _, rfl, (upds_sym ⟨rfl, rfl, rfl, trivial⟩), hL3, zbo, trivial⟩
 ·
  rintro _ w12 ⟨u8, u, rfl, rfl, hL13, K14, -⟩
  replace h := g10
  try dsimp only at h
  refine zaj (zah rfl (zaf (OpY.litRow0 zaz ti3 hL13 ?_)))
  intro b15 w19 hL20 hS22
  have hE23 : Els (rInt .i64) (vH w None [some b1] w12) [] [] := zct
  have K21 := ks w hS22
  refine zaf (zak (v := (osv (some b15) 0 (List.length ([] : (List Int))) 0)) rfl ?_)
  refine zap (zaj ?_)
  obtain ⟨s118, hl120, g119⟩ := bind_some h
  refine zbr (fun e w' => ∃ (l114 : (List Int)) (ob110 : Option Nat) (cap111 : Nat) (sp112 : List Value) (cs113 : List Value) (ln117 : Nat) (u : Env), l114 = s118 ∧ e = upds [(0, (zac .i64 n)), (2, (zam (some ⟨b1, 0, none⟩))), (4, (osv ob110 0 ln117 cap111))] u ∧ vL w w' [some b1, ob110] [zab [(zaa false), (zad none 0 0)], zab ([] ++ (cs113 ++ sp112))] ∧ Keep w.heap.size [some b15, some b1] w19 [some b1, ob110] w' ∧ Els (rInt .i64) (vH w None [some b1, ob110] w') cs113 l114 ∧ ln117 = List.length l114 ∧ (cs113 ++ sp112).length = cap111 * (rInt .i64).sz ∧ True) ?_ ?_
  ·
   refine zbj ?_
   have hp122 := hL20.pick [1, 0] rfl rfl rfl
   have hL124 : vL w w19 [some b1, some b15] [zab [(zaa false), (zad none 0 0)], zab ([] ++ ([] ++ []))] := hp122.1
   have K123 := ks w hp122.2
   have f125 := ((hE23.mono (K21 None)).mono (K123 None))
   refine zcg hl120 (fun (ss : (Int × (List Int))) (e : Env) (w' : World) => match ss with | (u98, l104) => ∃ (ob100 : Option Nat) (cap101 : Nat) (sp102 : List Value) (cs103 : List Value) (ln107 : Nat) (u : Env), e = upds [(0, (zac .i64 n)), (2, (zam (some ⟨b1, 0, none⟩))), (3, (zac .u64 u98)), (4, (osv ob100 0 ln107 cap101))] u ∧ vL w w' [some b1, ob100] [zab [(zaa false), (zad none 0 0)], zab ([] ++ (cs103 ++ sp102))] ∧ Keep w.heap.size [some b15, some b1] w19 [some b1, ob100] w' ∧ Els (rInt .i64) (vH w None [some b1, ob100] w') cs103 l104 ∧ ln107 = List.length l104 ∧ (cs103 ++ sp102).length = cap101 * (rInt .i64).sz ∧ True) ⟨some b15, 0, [], [], (List.length ([] : (List Int))), _, (upds_sym ⟨rfl, rfl, rfl, rfl, trivial⟩), hL124, K123, f125, rfl, (show ([] ++ [] : List Value).length = 0 * (rInt .i64).sz by simp), trivial⟩ ?_
   rintro ⟨u98, l104⟩ oo _ w126 ⟨ob100, cap101, sp102, cs103, ln107, u, rfl, hL127, K128, hE105, rfl, hc106, -⟩ h hd121
   rw [rOf_b1] at h
   refine zaj (zaj (zah rfl (zaf (zai (v := (zac .u64 u98)) rfl ?_))))
   refine zaf (zdm (x := u98) (y := 0) ((u98 : Int) > 0) rfl rfl zbk ?_)
   refine zap ?_
   refine zbe ((u98 : Int) > 0) rfl (fun hc129 => ?_) (fun hc129 => ?_)
   ·
    replace h := ite_t hc129 h
    refine zbg (zbj (zaj (zah rfl (zaf (zai (v := (osv ob100 0 l104.length cap101)) rfl ?_)))))
    refine zaf (zai (v := (zac .u64 u98)) rfl ?_)
    refine zaf (OpY.remI (x := u98) (y := 65536) rfl rfl (by decide) ?_)
    refine zaf (zbp (x := (Int.tmod u98 65536)) (z := (iw (Int.tmod u98 65536))) zbi zbq rfl rfl ?_)
    have hE131 : Els (rInt .i64) (vH w None [some b1, ob100] w126) [(zac .i64 (iw (Int.tmod u98 65536)))] [(iw (Int.tmod u98 65536))] := (zco (a := [(zac .i64 (iw (Int.tmod u98 65536)))]) rfl zct)
    refine zaf (zcp (r := (rInt .i64)) (vs := [(zac .i64 (iw (Int.tmod u98 65536)))]) (css := [[(zac .i64 (iw (Int.tmod u98 65536)))]]) (xs := [(iw (Int.tmod u98 65536))]) zaz ti3 (zae rfl) rfl rfl ⟨rfl, rfl, trivial⟩ (zae rfl) hE131 rfl hL127 ?_)
    intro b130 w134 hc132 hL135 hS137
    have K136 := ks w hS137
    obtain ⟨x138, q139, h⟩ := bind_some h
    obtain ⟨q140, q141, q142⟩ := apnd_some q139
    have f143 := (hE131.mono (K136 None))
    have f151 := (hE105.mono (K136 None))
    refine zaf (zdl (r := (rInt .i64)) (H := (vH w None [some b130, some b1, ob100] w134)) (cs := cs103) (sp := sp102) (xs := l104) (ys := [(iw (Int.tmod u98 65536))]) (Y := x138) (n := l104.length) (cap := cap101) (i := 2) zaz ti3 rfl rfl rfl rfl hL135 rfl rfl f151 rfl hc106 (Src.row (pre := []) (o := 0) (n := 1) (cap := 1) (hL135.at 0 rfl rfl) f143 rfl rfl rfl) (Els.anyH (fun _ _ _ _ h => h) f143) q140 q141 q142 ?_)
    intro ob144 cap145 sp147 cs146 w152 hE148 hc149 (hL153 : vL w w152 [some b130, some b1, ob144] [zab ([] ++ ([(zac .i64 (iw (Int.tmod u98 65536)))] ++ [])), zab [(zaa false), (zad none 0 0)], zab ([] ++ (cs146 ++ sp147))]) hS155
    have K154 := ks w hS155
    refine zaf (zak (v := (osv ob144 0 x138.length cap145)) rfl ?_)
    refine zap (zah rfl (zaf (zai (v := (zac .u64 u98)) rfl ?_)))
    refine zaf (OpY.quoI (x := u98) (y := 65536) (z := (uw (Int.tdiv u98 65536))) rfl rfl (by decide) rfl ?_)
    refine zaf (zak (v := (zac .u64 (uw (Int.tdiv u98 65536)))) rfl ?_)
    refine zap (zbs ?_)
    have hp156 := hL153.pick [1, 2] rfl rfl rfl
    have hL158 : vL w w152 [some b1, ob144] [zab [(zaa false), (zad none 0 0)], zab ([] ++ (cs146 ++ sp147))] := hp156.1
    have K157 := ks w hp156.2
    have f159 := ((hE148.mono (K154 None)).mono (K157 None))
    obtain rfl := zag h
    refine zas ⟨((uw (Int.tdiv u98 65536)), x138), rfl, ?_⟩
    exact ⟨ob144, cap145, sp147, cs146, x138.length, _, (upds_sym ⟨rfl, rfl, rfl, rfl, trivial⟩), hL158, (zaq (zaq (zaq K128 K136) K154) K157), f159, rfl, hc149, trivial⟩
   ·
    replace h := ite_f hc129 h
    refine zcs rfl ?_
    obtain rfl := zag h
    obtain rfl := hd121 _ rfl
    replace h := g119
    try dsimp only at h
    skip
    refine zas ?_
    exact ⟨l104, ob100, cap101, sp102, cs103, l104.length, _, rfl, (upds_sym ⟨rfl, rfl, rfl, trivial⟩), hL127, K128, hE105, rfl, hc106, trivial⟩
  ·
   rintro _ w160 ⟨l114, ob110, cap111, sp112, cs113, ln117, u, rfl, rfl, hL161, K162, hE115, rfl, hc116, -⟩
   replace h := g119
   try dsimp only at h
   refine zaj (zah rfl (zaf (zai (v := (zac .i64 n)) rfl ?_)))
   refine zaf (zcr (x := n) (y := 0) ((n : Int) < 0) rfl rfl zbk ?_)
   refine zaf (zai (v := (osv ob110 0 l114.length cap111)) rfl ?_)
   obtain ⟨r163, q164, h⟩ := bind_some h
   refine zaf (zaw en68 rfl rfl (rbig_w N (decide ((n : Int) < 0)) l114 (osv ob110 0 l114.length cap111) _ Any (own_row_any (pre := []) (o := 0) (n := l114.length) (cap := cap111) (hL161.at 1 rfl rfl) hE115 vw_any rfl rfl rfl hc116) r163 q164) ?_)
   rintro _ w168 hE171 ⟨v165, rfl, k166, -⟩
   replace k166 := k166.mono (zbc (S := None) hL161 [])
   have hL169 := hL161.ext hE171
   refine zcb (zbh (vs := [(zaa r163.Negative), v165]) ti26 rfl rfl rfl rfl (ones_cons rfl (ones_cons k166.one ones_nil)) hL169 0 rfl rfl (zae rfl) ?_)
   intro w172 (hL173 : vL w w172 [some b1, ob110] [zab [(zaa r163.Negative), v165], zab ([] ++ (cs113 ++ sp112))]) hS175
   have K174 := ks w hS175
   refine zap (zbl ?_)
   obtain rfl := zag h
   refine ⟨[(zan #[(zaa r163.Negative), v165])], ⟨⟨⟨b1, 0, none⟩, rfl, res_boxA zal rfl ti26 (hL173.at 0 rfl rfl) rfl⟩, trivial⟩, ⟨_, rfl, hL173.done, ?_⟩⟩
   have f176 := (k166.mono (K174 None))
   exact ⟨v165, rfl, (f176.mono zdf), trivial⟩
theorem rDivFloor_w (N : Nat) (a : Big) (b : Big) (a_v : Value) (b_v : Value) (w : World) (S : Nat → Prop) (a_h : Rs (rInt .u32) (vH w S [] w) a_v a.Digits) (b_h : Rs (rInt .u32) (vH w S [] w) b_v b.Digits) (r : (Big × Big × Bool)) (h : rDivFloor N a b = some r) :
  Calls Try.prog 51 #[(zan #[(zaa a.Negative), a_v]), (zan #[(zaa b.Negative), b_v])] w (Ret w (fun v w' => ∃ (v0_0 : Value) (v1_0 : Value), .tuple #[(zan #[(zaa r.1.Negative), v0_0]), (zan #[(zaa r.2.1.Negative), v1_0]), (zaa r.2.2)] = v ∧ Rs (rInt .u32) (vH w None [] w') v0_0 r.1.Digits ∧ Rs (rInt .u32) (vH w None [] w') v1_0 r.2.1.Digits ∧ True)) := by
 unfold rDivFloor at h
 have hL : vL w w [] [] := Go.X.Loc.begin0 w
 refine calls_of (l := [(zan #[(zaa a.Negative), a_v]), (zan #[(zaa b.Negative), b_v])]) (rl := [.cell 4 26, .cell 5 26, .tmp 6]) (n := 53) Try.func51 rfl rfl rfl (zae rfl) ?_
 refine zaj (zah rfl (zaf (zdc (cs := [(zaa a.Negative), a_v]) rfl rfl hL ?_)))
 intro b1 w2 hL3 hS5
 have K4 := ks w hS5
 refine zaf (zdc (cs := [(zaa b.Negative), b_v]) rfl rfl hL3 ?_)
 intro b6 w7 hL8 hS10
 have K9 := ks w hS10
 refine zaf (zbw (cs := [(zaa false), (zad none 0 0)]) ti26 rfl hL8 ?_)
 intro b11 w12 hL13 hS15
 have K14 := ks w hS15
 refine zaf (zbw (cs := [(zaa false), (zad none 0 0)]) ti26 rfl hL13 ?_)
 intro b16 w17 hL18 hS20
 have K19 := ks w hS20
 refine zaf (zak (v := (zaa false)) rfl ?_)
 refine zap (zaj (zaj (zah rfl (zaf (zbd (vs := [(zaa b.Negative), b_v]) zal rfl ti26 rfl (hL18.at 2 rfl rfl) rfl rfl ?_)))))
 obtain ⟨r21, q22, h⟩ := bind_some h
 have f24 := ((((b_h.mono (K4 S)).mono (K9 S)).mono (K14 S)).mono (K19 S))
 refine zaf (zaw en40 rfl rfl (rSign_w N b b_v _ Any (f24.mono vw_any) r21 q22) ?_)
 rintro _ w25 hE28 ⟨rfl, -⟩
 have hL26 := hL18.ext hE28
 have K27 := ke hL18 hE28
 refine zaf (OpY.eql (x := r21) (y := 0) ((r21 : Int) = 0) rfl rfl zbk ?_)
 refine zap ?_
 refine zbe ((r21 : Int) = 0) rfl (fun hc29 => ?_) (fun hc29 => ?_)
 ·
  replace h := ite_t hc29 h
  refine zaj (zah rfl (zaf (zcx (zc := [(zaa false), (zad none 0 0)]) (cs := [(zaa false), (zad none 0 0)]) (is := []) (vs := []) (css := []) pl26 ti26 rfl rfl rfl trivial rfl ?_)))
  refine zaf (zcx (zc := [(zaa false), (zad none 0 0)]) (cs := [(zaa false), (zad none 0 0)]) (is := []) (vs := []) (css := []) pl26 ti26 rfl rfl rfl trivial rfl ?_)
  refine zcb (zbh (vs := [(zaa false), (zad none 0 0)]) ti26 rfl rfl rfl rfl (ones_cons rfl (ones_cons rfl ones_nil)) hL26 1 rfl rfl (zae rfl) ?_)
  intro w30 (hL31 : vL w w30 [some b16, some b11, some b6, some b1] [zab [(zaa false), (zad none 0 0)], zab [(zaa false), (zad none 0 0)], zab [(zaa b.Negative), b_v], zab [(zaa a.Negative), a_v]]) hS33
  refine zcb (zbh (vs := [(zaa false), (zad none 0 0)]) ti26 rfl rfl rfl rfl (ones_cons rfl (ones_cons rfl ones_nil)) hL31 0 rfl rfl (zae rfl) ?_)
  intro w34 (hL35 : vL w w34 [some b16, some b11, some b6, some b1] [zab [(zaa false), (zad none 0 0)], zab [(zaa false), (zad none 0 0)], zab [(zaa b.Negative), b_v], zab [(zaa a.Negative), a_v]]) hS37
  refine zaf (zak (v := (zaa false)) rfl ?_)
  refine zap (zbl ?_)
  obtain rfl := zag h
  refine ⟨[(zan #[(zaa false), (zad none 0 0)]), (zan #[(zaa false), (zad none 0 0)]), (zaa false)], ⟨⟨⟨b11, 0, none⟩, rfl, res_boxA zal rfl ti26 (hL35.at 1 rfl rfl) rfl⟩, ⟨⟨⟨b16, 0, none⟩, rfl, res_boxA zal rfl ti26 (hL35.at 0 rfl rfl) rfl⟩, ⟨rfl, trivial⟩⟩⟩, ⟨_, rfl, hL35.done, ?_⟩⟩
  exact ⟨(zad none 0 0), (zad none 0 0), rfl, zdj, zdj, trivial⟩
 ·
  replace h := ite_f hc29 h
  refine zbg (zaj ?_)
  obtain ⟨r38, q39, h⟩ := bind_some h
  obtain ⟨r43, q44, h⟩ := bind_some h
  obtain ⟨r48, q49, h⟩ := bind_some h
  refine zcc 9 [] [] (fun W1 => [.det (zan #[(zaa a.Negative), a_v]), .rel (fun v Z w' => ∃ v40, v40 = v ∧ Rs (rInt .i64) (vZ W1 w None [some b16, some b11, some b6, some b1] Z w') v40 r38 ∧ True) (fun _ => []), .det (zan #[(zaa b.Negative), b_v]), .rel (fun v Z w' => ∃ v45, v45 = v ∧ Rs (rInt .i64) (vZ W1 w None [some b16, some b11, some b6, some b1] Z w') v45 r43 ∧ True) (fun _ => []), .rel (fun v Z w' => ∃ v50 v52, (Value.tuple #[v50, v52]) = v ∧ Rs (rInt .i64) (vZ W1 w None [some b16, some b11, some b6, some b1] Z w') v50 r48.1 ∧ Rs (rInt .i64) (vZ W1 w None [some b16, some b11, some b6, some b1] Z w') v52 r48.2 ∧ True) (fun _ => []), .rel (fun v Z w' => ∃ v55 v57, (Value.tuple #[v55, v57]) = v ∧ Rs (rInt .i64) (vZ W1 w None [some b16, some b11, some b6, some b1] Z w') v55 r48.1 ∧ Rs (rInt .i64) (vZ W1 w None [some b16, some b11, some b6, some b1] Z w') v57 r48.2 ∧ True) (fun _ => []), .fn 5 (tg 0), .fn 5 (tg 1), .rel (fun v Z w' => ∃ v59, v59 = v ∧ Rs (rInt .i64) (vZ W1 w None [some b16, some b11, some b6, some b1] Z w') v59 r48.1 ∧ True) (fun _ => [])]) mixed rfl rfl rfl (fun _ => rfl) (fun _ => rfl) ?_ ?_
  ·
   intro W1 _
   exact ⟨fun v Z Z' w w' hΦ hz _ _ hs => by obtain ⟨v40, rfl, k41, -⟩ := hΦ; exact ⟨v40, rfl, (k41.mono (zcl hz hs)), trivial⟩, ⟨fun v Z Z' w w' hΦ hz _ _ hs => by obtain ⟨v45, rfl, k46, -⟩ := hΦ; exact ⟨v45, rfl, (k46.mono (zcl hz hs)), trivial⟩, ⟨fun v Z Z' w w' hΦ hz _ _ hs => by obtain ⟨v50, v52, rfl, k51, k53, -⟩ := hΦ; exact ⟨v50, v52, rfl, (k51.mono (zcl hz hs)), (k53.mono (zcl hz hs)), trivial⟩, ⟨fun v Z Z' w w' hΦ hz _ _ hs => by obtain ⟨v55, v57, rfl, k56, k58, -⟩ := hΦ; exact ⟨v55, v57, rfl, (k56.mono (zcl hz hs)), (k58.mono (zcl hz hs)), trivial⟩, ⟨fun v Z Z' w w' hΦ hz _ _ hs => by obtain ⟨v59, rfl, k60, -⟩ := hΦ; exact ⟨v59, rfl, (k60.mono (zcl hz hs)), trivial⟩, trivial⟩⟩⟩⟩⟩
  ·
   intro w61 hE62
   have hL63 := hL26.ext hE62
   have K64 := ke hL26 hE62
   refine zau (fun _ hE67 => zat (zbd (vs := [(zaa a.Negative), a_v]) zal rfl ti26 rfl ((hL63.ext hE67).at 3 rfl rfl) rfl rfl (er rfl))) ?_
   refine zcq ?_ ?_
   ·
    rintro w71 Z72 hE73 hZ74 ⟨-⟩
    have K76 := ke hL63 hE73
    refine zat (zaw en65 rfl rfl (halves_w N a a_v _ Any ((((((((a_h.mono (K4 S)).mono (K9 S)).mono (K14 S)).mono (K19 S)).mono (K27 S)).mono (K64 S)).mono (K76 S)).mono vw_any) r38 q39) ?_)
    rintro _ w77 hE78 ⟨v40, rfl, k41, -⟩
    exact zcj hE78 hZ74 zca (fun _ h => h) ⟨v40, rfl, (k41.mono zda), trivial⟩
   intro z1
   refine zau (fun _ hE81 => zat (zbd (vs := [(zaa b.Negative), b_v]) zal rfl ti26 rfl ((hL63.ext hE81).at 2 rfl rfl) rfl rfl (er rfl))) ?_
   refine zcq ?_ ?_
   ·
    rintro w85 Z86 hE87 hZ88 ⟨⟨⟨v40, rfl, k41, -⟩, hB1⟩, -⟩
    have K90 := ke hL63 hE87
    refine zat (zaw en65 rfl rfl (halves_w N b b_v _ Any ((((f24.mono (K27 S)).mono (K64 S)).mono (K90 S)).mono vw_any) r43 q44) ?_)
    rintro _ w91 hE92 ⟨v45, rfl, k46, -⟩
    exact zcj hE92 hZ88 zca (fun _ h => h) ⟨v45, rfl, (k46.mono zda), trivial⟩
   intro z3
   refine zcq ?_ ?_
   ·
    rintro w93 Z94 hE95 hZ96 ⟨⟨⟨v45, rfl, k46, -⟩, hB3⟩, ⟨⟨v40, rfl, k41, -⟩, hB1⟩, -⟩
    refine zat (zaw en79 rfl rfl (rsplit_w N r38 r43 v40 v45 _ Any (k41.mono vw_any) (k46.mono vw_any) r48 q49) ?_)
    rintro _ w99 hE100 ⟨v50, v52, rfl, k51, k53, -⟩
    exact zcj hE100 hZ96 zca (fun _ h => h) ⟨v50, v52, rfl, (k51.mono zda), (k53.mono zda), trivial⟩
   intro z4
   refine zcq ?_ ?_
   ·
    rintro w101 Z102 hE103 hZ104 ⟨⟨⟨v50, v52, rfl, k51, k53, -⟩, hB4⟩, -, -, -⟩
    refine zat (zai (v := (Value.tuple #[v50, v52])) rfl ?_)
    exact Go.X.Made.same ⟨v50, v52, rfl, k51, k53, trivial⟩
   intro z5
   refine DrH.fn rfl ?_ ?_
   ·
    rintro w107 Z108 hE109 hZ110 ⟨⟨⟨v55, v57, rfl, k56, k58, -⟩, hB5⟩, -, -, -, -⟩
    refine zat (zcf (vs := [v55, v57]) (v := v55) rfl rfl ?_)
    exact ⟨Ext.refl _, rfl⟩
   refine DrH.fn rfl ?_ ?_
   ·
    rintro w113 Z114 hE115 hZ116 ⟨⟨⟨v55, v57, rfl, k56, k58, -⟩, hB5⟩, -, -, -, -⟩
    refine zat (zcf (vs := [v55, v57]) (v := v57) rfl rfl ?_)
    exact ⟨Ext.refl _, rfl⟩
   refine zcq ?_ ?_
   ·
    rintro w119 Z120 hE121 hZ122 ⟨⟨⟨v55, v57, rfl, k56, k58, -⟩, hB5⟩, ⟨⟨v50, v52, rfl, k51, k53, -⟩, hB4⟩, ⟨⟨v45, rfl, k46, -⟩, hB3⟩, ⟨⟨v40, rfl, k41, -⟩, hB1⟩, -⟩
    refine zat (zak (v := v55) rfl ?_)
    exact Go.X.Made.same ⟨v55, rfl, k56, trivial⟩
   intro z8
   refine zcn ?_
   rintro w125 Z126 hE127 hZ128 ⟨⟨⟨v59, rfl, k60, -⟩, hB8⟩, ⟨⟨v55, v57, rfl, k56, k58, -⟩, hB5⟩, ⟨⟨v50, v52, rfl, k51, k53, -⟩, hB4⟩, ⟨⟨v45, rfl, k46, -⟩, hB3⟩, ⟨⟨v40, rfl, k41, -⟩, hB1⟩, -⟩ ap129
   have hB130 : ∀ b, some b ∈ ([] : List (Option Nat)) → w61.heap.size ≤ b ∧ ¬ Z126 b := by
    intro b hb; cases hb
   replace k60 := k60.mono (zcy hL63 hZ128 hB130)
   replace k56 := k56.mono (zcy hL63 hZ128 hB130)
   replace k58 := k58.mono (zcy hL63 hZ128 hB130)
   replace k51 := k51.mono (zcy hL63 hZ128 hB130)
   replace k53 := k53.mono (zcy hL63 hZ128 hB130)
   replace k46 := k46.mono (zcy hL63 hZ128 hB130)
   replace k41 := k41.mono (zcy hL63 hZ128 hB130)
   have hL131 := hL63.ext hE127
   have K132 := ke hL63 hE127
   refine zaf (zak (v := v57) rfl ?_)
   refine zap (zaj (zah rfl (zaf (zar (q := 0) zal rfl ti4 rfl rfl rfl ?_))))
   refine zaf (zbb (v := (zaa a.Negative)) zbn rfl rfl (hL131.at 3 rfl rfl) rfl ?_)
   refine zaf (zar (q := 0) zal rfl ti4 rfl rfl rfl ?_)
   refine zaf (zbb (v := (zaa b.Negative)) zbn rfl rfl (hL131.at 2 rfl rfl) rfl ?_)
   refine zaf (OpY.neqBool (x := a.Negative) (y := b.Negative) zbn rfl rfl ?_)
   refine zaf (zai (v := v59) rfl ?_)
   obtain ⟨r133, q134, h⟩ := bind_some h
   refine zaf (zaw en68 rfl rfl (rbig_w N (!(a.Negative == b.Negative)) r48.1 v59 _ Any (k60.mono vw_any) r133 q134) ?_)
   rintro _ w138 hE141 ⟨v135, rfl, k136, -⟩
   replace k136 := k136.mono (zbc (S := None) hL131 [])
   have hL139 := hL131.ext hE141
   have K140 := ke hL131 hE141
   refine zaf (zbw (cs := [(zaa false), (zad none 0 0)]) ti26 rfl hL139 ?_)
   intro b142 w143 hL144 hS146
   have K145 := ks w hS146
   have f147 := (k136.mono (K145 None))
   refine zcb (zbh (vs := [(zaa r133.Negative), v135]) ti26 rfl rfl rfl rfl (ones_cons rfl (ones_cons f147.one ones_nil)) hL144 0 rfl rfl (zae rfl) ?_)
   intro w148 (hL149 : vL w w148 [some b142, some b16, some b11, some b6, some b1] [zab [(zaa r133.Negative), v135], zab [(zaa false), (zad none 0 0)], zab [(zaa false), (zad none 0 0)], zab [(zaa b.Negative), b_v], zab [(zaa a.Negative), a_v]]) hS151
   have K150 := ks w hS151
   refine zap (zaj (zah rfl (zaf (zar (q := 0) zal rfl ti4 rfl rfl rfl ?_))))
   refine zaf (zbb (v := (zaa a.Negative)) zbn rfl rfl (hL149.at 4 rfl rfl) rfl ?_)
   refine zaf (zai (v := v57) rfl ?_)
   obtain ⟨r152, q153, h⟩ := bind_some h
   have f157 := (((k58.mono (K140 None)).mono (K145 None)).mono (K150 None))
   refine zaf (zaw en68 rfl rfl (rbig_w N a.Negative r48.2 v57 _ Any (f157.mono vw_any) r152 q153) ?_)
   rintro _ w158 hE161 ⟨v154, rfl, k155, -⟩
   replace k155 := k155.mono (zbc (S := None) hL149 [])
   have hL159 := hL149.ext hE161
   have K160 := ke hL149 hE161
   refine zaf (zbw (cs := [(zaa false), (zad none 0 0)]) ti26 rfl hL159 ?_)
   intro b162 w163 hL164 hS166
   have K165 := ks w hS166
   have f167 := (k155.mono (K165 None))
   refine zcb (zbh (vs := [(zaa r152.Negative), v154]) ti26 rfl rfl rfl rfl (ones_cons rfl (ones_cons f167.one ones_nil)) hL164 0 rfl rfl (zae rfl) ?_)
   intro w168 (hL169 : vL w w168 [some b162, some b142, some b16, some b11, some b6, some b1] [zab [(zaa r152.Negative), v154], zab [(zaa r133.Negative), v135], zab [(zaa false), (zad none 0 0)], zab [(zaa false), (zad none 0 0)], zab [(zaa b.Negative), b_v], zab [(zaa a.Negative), a_v]]) hS171
   have K170 := ks w hS171
   refine zap (zaj (zaj ?_))
   obtain ⟨s307, h, g308⟩ := bind_some h
   refine zbr (fun e w' => ∃ (x306 : Bool) (u : Env), x306 = s307 ∧ e = upds [(3, (zam (some ⟨b6, 0, none⟩))), (4, (zam (some ⟨b11, 0, none⟩))), (5, (zam (some ⟨b16, 0, none⟩))), (9, (zam (some ⟨b142, 0, none⟩))), (10, (zam (some ⟨b162, 0, none⟩))), (44, (zaa x306))] u ∧ vL w w' [some b6, some b11, some b16, some b142, some b162] [zab [(zaa b.Negative), b_v], zab [(zaa false), (zad none 0 0)], zab [(zaa false), (zad none 0 0)], zab [(zaa r133.Negative), v135], zab [(zaa r152.Negative), v154]] ∧ Keep w.heap.size [some b162, some b142, some b16, some b11, some b6, some b1] w168 [some b6, some b11, some b16, some b142, some b162] w' ∧ True) ?_ ?_
   ·
    obtain ⟨r309, q310, h⟩ := bind_some h
    by_cases hc312 : (r309 : Int) ≠ 0
    ·
     replace h := ite_t hc312 h
     obtain ⟨r313, q314, h⟩ := bind_some h
     refine zcc 7 [] [] (fun W1 => [.det (zan #[(zaa r152.Negative), v154]), .det (zac .i64 r309), .det (zaa (decide ((r309 : Int) ≠ 0))), .det (zaa (decide ((r309 : Int) ≠ 0))), .det (zan #[(zaa r152.Negative), v154]), .det (zac .i64 r313), .det (zan #[(zaa b.Negative), b_v])]) mixed rfl rfl rfl (fun _ => rfl) (fun _ => rfl) ?_ ?_
     ·
      intro W1 _
      exact trivial
     ·
      intro w316 hE317
      have hL318 := hL169.ext hE317
      have K319 := ke hL169 hE317
      refine zau (fun _ hE322 => zat (zbd (vs := [(zaa r152.Negative), v154]) zal rfl ti26 rfl ((hL318.ext hE322).at 0 rfl rfl) rfl rfl (er rfl))) ?_
      refine DrH.det ?_ ?_
      ·
       rintro w326 Z327 hE328 hZ329 ⟨-⟩
       have K331 := ke hL318 hE328
       refine zat (zaw en40 rfl rfl (rSign_w N r152 v154 _ Any ((((f167.mono (K170 None)).mono (K319 None)).mono (K331 None)).mono vw_any) r309 q310) ?_)
       rintro _ w332 hE333 ⟨rfl, -⟩
       exact ⟨hE333, rfl⟩
      refine zau (fun _ _ => zat (OpY.neq (x := r309) (y := 0) ((r309 : Int) ≠ 0) rfl rfl zbk (er rfl))) ?_
      refine zau (fun _ _ => zat (zai rfl (er rfl))) ?_
      refine zau (fun _ hE348 => zdg rfl rfl (decide_eq_true hc312) (zbd (vs := [(zaa r152.Negative), v154]) zal rfl ti26 rfl ((hL318.ext hE348).at 0 rfl rfl) rfl rfl (er rfl))) ?_
      refine DrH.det ?_ ?_
      ·
       rintro w352 Z353 hE354 hZ355 ⟨-⟩
       have K357 := ke hL318 hE354
       refine zdg rfl rfl (decide_eq_true hc312) (zaw en40 rfl rfl (rSign_w N r152 v154 _ Any ((((f167.mono (K170 None)).mono (K319 None)).mono (K357 None)).mono vw_any) r313 q314) ?_)
       rintro _ w358 hE359 ⟨rfl, -⟩
       exact ⟨hE359, rfl⟩
      refine zau (fun _ hE362 => zdg rfl rfl (decide_eq_true hc312) (zbd (vs := [(zaa b.Negative), b_v]) zal rfl ti26 rfl ((hL318.ext hE362).at 4 rfl rfl) rfl rfl (er rfl))) ?_
      refine zcn ?_
      rintro w366 Z367 hE368 hZ369 ⟨-⟩ ap370
      have hB371 : ∀ b, some b ∈ ([] : List (Option Nat)) → w316.heap.size ≤ b ∧ ¬ Z367 b := by
       intro b hb; cases hb
      have hL372 := hL318.ext hE368
      have K373 := ke hL318 hE368
      obtain ⟨r374, q375, h⟩ := bind_some h
      have f377 := (((((((((((f24.mono (K27 S)).mono (K64 S)).mono (K132 S)).mono (K140 S)).mono (K145 S)).mono (K150 S)).mono (K160 S)).mono (K165 S)).mono (K170 S)).mono (K319 S)).mono (K373 S))
      refine zbu rfl rfl (decide_eq_true hc312) (zaw en40 rfl rfl (rSign_w N b b_v _ Any (f377.mono vw_any) r374 q375) ?_)
      rintro _ w378 hE381 ⟨rfl, -⟩
      have hL379 := hL372.ext hE381
      have K380 := ke hL372 hE381
      refine zbu rfl rfl (decide_eq_true hc312) (OpY.neq (x := r313) (y := r374) ((r313 : Int) ≠ r374) rfl rfl zbk ?_)
      refine zaf (zcm (t := (decide ((r309 : Int) ≠ 0))) (v := (zaa (decide ((r313 : Int) ≠ r374)))) rfl (decide_eq_true hc312) rfl ?_)
      refine zap ?_
      have hp382 := hL379.pick [4, 3, 2, 1, 0] rfl rfl rfl
      have hL384 : vL w w378 [some b6, some b11, some b16, some b142, some b162] [zab [(zaa b.Negative), b_v], zab [(zaa false), (zad none 0 0)], zab [(zaa false), (zad none 0 0)], zab [(zaa r133.Negative), v135], zab [(zaa r152.Negative), v154]] := hp382.1
      have K383 := ks w hp382.2
      obtain rfl := zag h
      refine zas ?_
      exact ⟨(decide ((r313 : Int) ≠ r374)), _, rfl, (upds_sym ⟨rfl, rfl, rfl, rfl, rfl, rfl, trivial⟩), hL384, (zaq (zaq (zaq K319 K373) K380) K383), trivial⟩
    ·
     replace h := ite_f hc312 h
     refine zcc 7 [] [] (fun W1 => [.det (zan #[(zaa r152.Negative), v154]), .det (zac .i64 r309), .det (zaa (decide ((r309 : Int) ≠ 0))), .det (zaa (decide ((r309 : Int) ≠ 0))), .det undef, .det undef, .det undef]) mixed rfl rfl rfl (fun _ => rfl) (fun _ => rfl) ?_ ?_
     ·
      intro W1 _
      exact trivial
     ·
      intro w385 hE386
      have hL387 := hL169.ext hE386
      have K388 := ke hL169 hE386
      refine zau (fun _ hE391 => zat (zbd (vs := [(zaa r152.Negative), v154]) zal rfl ti26 rfl ((hL387.ext hE391).at 0 rfl rfl) rfl rfl (er rfl))) ?_
      refine DrH.det ?_ ?_
      ·
       rintro w395 Z396 hE397 hZ398 ⟨-⟩
       have K400 := ke hL387 hE397
       refine zat (zaw en40 rfl rfl (rSign_w N r152 v154 _ Any ((((f167.mono (K170 None)).mono (K388 None)).mono (K400 None)).mono vw_any) r309 q310) ?_)
       rintro _ w401 hE402 ⟨rfl, -⟩
       exact ⟨hE402, rfl⟩
      refine zau (fun _ _ => zat (OpY.neq (x := r309) (y := 0) ((r309 : Int) ≠ 0) rfl rfl zbk (er rfl))) ?_
      refine zau (fun _ _ => zat (zai rfl (er rfl))) ?_
      refine zau (fun _ _ => zdk rfl rfl (decide_eq_false hc312) (er rfl)) ?_
      refine zau (fun _ _ => zdk rfl rfl (decide_eq_false hc312) (er rfl)) ?_
      refine zau (fun _ _ => zdk rfl rfl (decide_eq_false hc312) (er rfl)) ?_
      refine zcn ?_
      rintro w433 Z434 hE435 hZ436 ⟨-⟩ ap437
      have hB438 : ∀ b, some b ∈ ([] : List (Option Nat)) → w385.heap.size ≤ b ∧ ¬ Z434 b := by
       intro b hb; cases hb
      have hL439 := hL387.ext hE435
      have K440 := ke hL387 hE435
      refine zbt rfl rfl (decide_eq_false hc312) ?_
      refine zbt rfl rfl (decide_eq_false hc312) ?_
      refine zaf (zbz (t := (decide ((r309 : Int) ≠ 0))) (v := (zaa false)) rfl (decide_eq_false hc312) rfl ?_)
      refine zap ?_
      have hp441 := hL439.pick [4, 3, 2, 1, 0] rfl rfl rfl
      have hL443 : vL w w433 [some b6, some b11, some b16, some b142, some b162] [zab [(zaa b.Negative), b_v], zab [(zaa false), (zad none 0 0)], zab [(zaa false), (zad none 0 0)], zab [(zaa r133.Negative), v135], zab [(zaa r152.Negative), v154]] := hp441.1
      have K442 := ks w hp441.2
      obtain rfl := zag h
      refine zas ?_
      exact ⟨false, _, rfl, (upds_sym ⟨rfl, rfl, rfl, rfl, rfl, rfl, trivial⟩), hL443, (zaq (zaq K388 K440) K442), trivial⟩
   ·
    rintro _ w444 ⟨x306, u, rfl, rfl, hL445, K446, -⟩
    replace h := g308
    try dsimp only at h
    obtain ⟨s535, h, g536⟩ := bind_some h
    refine zbr (fun e w' => ∃ (q528 : Big) (x532 : Big) (v529 : Value) (v533 : Value) (u : Env), (q528, x532) = s535 ∧ e = upds [(4, (zam (some ⟨b11, 0, none⟩))), (5, (zam (some ⟨b16, 0, none⟩))), (9, (zam (some ⟨b142, 0, none⟩))), (10, (zam (some ⟨b162, 0, none⟩)))] u ∧ vL w w' [some b11, some b16, some b142, some b162] [zab [(zaa false), (zad none 0 0)], zab [(zaa false), (zad none 0 0)], zab [(zaa q528.Negative), v529], zab [(zaa x532.Negative), v533]] ∧ Keep w.heap.size [some b6, some b11, some b16, some b142, some b162] w444 [some b11, some b16, some b142, some b162] w' ∧ Rs (rInt .u32) (vH w None [some b11, some b16, some b142, some b162] w') v529 q528.Digits ∧ Rs (rInt .u32) (vH w None [some b11, some b16, some b142, some b162] w') v533 x532.Digits ∧ True) ?_ ?_
    ·
     refine zcu x306 rfl (fun hc537 => ?_) (fun hc537 => ?_)
     ·
      replace h := ite_t hc537 h
      obtain ⟨r538, q539, h⟩ := bind_some h
      obtain ⟨r543, q544, h⟩ := bind_some h
      refine zcc 5 [] [] (fun W1 => [.det (zan #[(zaa r133.Negative), v135]), .rel (fun v Z w' => ∃ v540, (zan #[(zaa r538.Negative), v540]) = v ∧ Rs (rInt .u32) (vZ W1 w None [some b6, some b11, some b16, some b142, some b162] Z w') v540 r538.Digits ∧ True) (fun _ => []), .rel (fun v Z w' => ∃ v545, (zan #[(zaa r543.Negative), v545]) = v ∧ Rs (rInt .u32) (vZ W1 w None [some b6, some b11, some b16, some b142, some b162] Z w') v545 r543.Digits ∧ True) (fun _ => []), .det (zan #[(zaa r152.Negative), v154]), .det (zan #[(zaa b.Negative), b_v])]) mixed rfl rfl rfl (fun _ => rfl) (fun _ => rfl) ?_ ?_
      ·
       intro W1 _
       exact ⟨fun v Z Z' w w' hΦ hz _ _ hs => by obtain ⟨v540, rfl, k541, -⟩ := hΦ; exact ⟨v540, rfl, (k541.mono (zcl hz hs)), trivial⟩, ⟨fun v Z Z' w w' hΦ hz _ _ hs => by obtain ⟨v545, rfl, k546, -⟩ := hΦ; exact ⟨v545, rfl, (k546.mono (zcl hz hs)), trivial⟩, trivial⟩⟩
      ·
       intro w548 hE549
       have hL550 := hL445.ext hE549
       have K551 := ke hL445 hE549
       refine zau (fun _ hE554 => zat (zbd (vs := [(zaa r133.Negative), v135]) zal rfl ti26 rfl ((hL550.ext hE554).at 3 rfl rfl) rfl rfl (er rfl))) ?_
       refine zcq ?_ ?_
       ·
        rintro w558 Z559 hE560 hZ561 ⟨-⟩
        refine zat (zaw en37 rfl rfl (rOf_w N 1 _ Any r538 q539) ?_)
        rintro _ w564 hE565 ⟨v540, rfl, k541, -⟩
        exact zcj hE565 hZ561 zca (fun _ h => h) ⟨v540, rfl, (k541.mono zda), trivial⟩
       intro z1
       refine zcq ?_ ?_
       ·
        rintro w566 Z567 hE568 hZ569 ⟨⟨⟨v540, rfl, k541, -⟩, hB1⟩, -⟩
        have K571 := ke hL550 hE568
        refine zat (zaw en61 rfl rfl (rSub_w N r133 r538 v135 v540 _ Any ((((((((f147.mono (K150 None)).mono (K160 None)).mono (K165 None)).mono (K170 None)).mono (K446 None)).mono (K551 None)).mono (K571 None)).mono vw_any) (k541.mono vw_any) r543 q544) ?_)
        rintro _ w572 hE573 ⟨v545, rfl, k546, -⟩
        exact zcj hE573 hZ569 zca (fun _ h => h) ⟨v545, rfl, (k546.mono zda), trivial⟩
       intro z2
       refine zau (fun _ hE576 => zat (zbd (vs := [(zaa r152.Negative), v154]) zal rfl ti26 rfl ((hL550.ext hE576).at 4 rfl rfl) rfl rfl (er rfl))) ?_
       refine zau (fun _ hE582 => zat (zbd (vs := [(zaa b.Negative), b_v]) zal rfl ti26 rfl ((hL550.ext hE582).at 0 rfl rfl) rfl rfl (er rfl))) ?_
       refine zcn ?_
       rintro w586 Z587 hE588 hZ589 ⟨⟨⟨v545, rfl, k546, -⟩, hB2⟩, ⟨⟨v540, rfl, k541, -⟩, hB1⟩, -⟩ ap590
       have hB591 : ∀ b, some b ∈ ([] : List (Option Nat)) → w548.heap.size ≤ b ∧ ¬ Z587 b := by
        intro b hb; cases hb
       replace k546 := k546.mono (zcy hL550 hZ589 hB591)
       replace k541 := k541.mono (zcy hL550 hZ589 hB591)
       have hL592 := hL550.ext hE588
       have K593 := ke hL550 hE588
       obtain ⟨r594, q595, h⟩ := bind_some h
       have f599 := ((((f167.mono (K170 None)).mono (K446 None)).mono (K551 None)).mono (K593 None))
       have f600 := ((((((((((((f24.mono (K27 S)).mono (K64 S)).mono (K132 S)).mono (K140 S)).mono (K145 S)).mono (K150 S)).mono (K160 S)).mono (K165 S)).mono (K170 S)).mono (K446 S)).mono (K551 S)).mono (K593 S))
       refine zaf (zaw en38 rfl rfl (rAdd_w N r152 b v154 b_v _ Any (f599.mono vw_any) (f600.mono vw_any) r594 q595) ?_)
       rintro _ w601 hE604 ⟨v596, rfl, k597, -⟩
       replace k597 := k597.mono (zbc (S := None) hL592 [])
       have hL602 := hL592.ext hE604
       have K603 := ke hL592 hE604
       have f605 := (k546.mono (K603 None))
       refine zcb (zbh (vs := [(zaa r543.Negative), v545]) ti26 rfl rfl rfl rfl (ones_cons rfl (ones_cons f605.one ones_nil)) hL602 3 rfl rfl (zae rfl) ?_)
       intro w606 (hL607 : vL w w606 [some b6, some b11, some b16, some b142, some b162] [zab [(zaa b.Negative), b_v], zab [(zaa false), (zad none 0 0)], zab [(zaa false), (zad none 0 0)], zab [(zaa r543.Negative), v545], zab [(zaa r152.Negative), v154]]) hS609
       have K608 := ks w hS609
       have f610 := (k597.mono (K608 None))
       refine zcb (zbh (vs := [(zaa r594.Negative), v596]) ti26 rfl rfl rfl rfl (ones_cons rfl (ones_cons f610.one ones_nil)) hL607 4 rfl rfl (zae rfl) ?_)
       intro w611 (hL612 : vL w w611 [some b6, some b11, some b16, some b142, some b162] [zab [(zaa b.Negative), b_v], zab [(zaa false), (zad none 0 0)], zab [(zaa false), (zad none 0 0)], zab [(zaa r543.Negative), v545], zab [(zaa r594.Negative), v596]]) hS614
       have K613 := ks w hS614
       refine zap ?_
       have hp615 := hL612.pick [1, 2, 3, 4] rfl rfl rfl
       have hL617 : vL w w611 [some b11, some b16, some b142, some b162] [zab [(zaa false), (zad none 0 0)], zab [(zaa false), (zad none 0 0)], zab [(zaa r543.Negative), v545], zab [(zaa r594.Negative), v596]] := hp615.1
       have K616 := ks w hp615.2
       have f618 := (((f605.mono (K608 None)).mono (K613 None)).mono (K616 None))
       have f619 := ((f610.mono (K613 None)).mono (K616 None))
       obtain rfl := zag h
       refine zas ?_
       exact ⟨r543, r594, v545, v596, _, rfl, (upds_sym ⟨rfl, rfl, rfl, rfl, trivial⟩), hL617, (zaq (zaq (zaq (zaq (zaq K551 K593) K603) K608) K613) K616), f618, f619, trivial⟩
     ·
      replace h := ite_f hc537 h
      refine zbg ?_
      have hp620 := hL445.pick [1, 2, 3, 4] rfl rfl rfl
      have hL622 : vL w w444 [some b11, some b16, some b142, some b162] [zab [(zaa false), (zad none 0 0)], zab [(zaa false), (zad none 0 0)], zab [(zaa r133.Negative), v135], zab [(zaa r152.Negative), v154]] := hp620.1
      have K621 := ks w hp620.2
      have f623 := ((((((f147.mono (K150 None)).mono (K160 None)).mono (K165 None)).mono (K170 None)).mono (K446 None)).mono (K621 None))
      have f624 := (((f167.mono (K170 None)).mono (K446 None)).mono (K621 None))
      obtain rfl := zag h
      refine zas ?_
      exact ⟨r133, r152, v135, v154, _, rfl, (upds_sym ⟨rfl, rfl, rfl, rfl, trivial⟩), hL622, K621, f623, f624, trivial⟩
    ·
     rintro _ w625 ⟨q528, x532, v529, v533, u, rfl, rfl, hL626, K627, k530, k534, -⟩
     replace h := g536
     try dsimp only at h
     refine zaj ?_
     refine zcc 2 [] [1] (fun W1 => [.det (zan #[(zaa q528.Negative), v529]), .det (zan #[(zaa x532.Negative), v533])]) mixed rfl rfl rfl (fun _ => rfl) (fun _ => rfl) ?_ ?_
     ·
      intro W1 _
      exact trivial
     ·
      intro w628 hE629
      have hL630 := hL626.ext hE629
      have K631 := ke hL626 hE629
      refine zau (fun _ hE634 => zat (zbd (vs := [(zaa q528.Negative), v529]) zal rfl ti26 rfl ((hL630.ext hE634).at 2 rfl rfl) rfl rfl (er rfl))) ?_
      refine zau (fun _ hE640 => zat (zbd (vs := [(zaa x532.Negative), v533]) zal rfl ti26 rfl ((hL630.ext hE640).at 3 rfl rfl) rfl rfl (er rfl))) ?_
      refine DrH.fin ?_
      rintro w644 Z645 hE646 hZ647 ⟨-⟩ ap648
      have hB649 : ∀ b, some b ∈ ([] : List (Option Nat)) → w628.heap.size ≤ b ∧ ¬ Z645 b := by
       intro b hb; cases hb
      have hL650 := hL630.ext hE646
      have K651 := ke hL630 hE646
      have f652 := ((k530.mono (K631 None)).mono (K651 None))
      refine RlL.op0 (zbh (vs := [(zaa q528.Negative), v529]) ti26 rfl rfl rfl rfl (ones_cons rfl (ones_cons f652.one ones_nil)) hL650 0 rfl rfl (zae rfl) ?_)
      intro w653 (hL654 : vL w w653 [some b11, some b16, some b142, some b162] [zab [(zaa q528.Negative), v529], zab [(zaa false), (zad none 0 0)], zab [(zaa q528.Negative), v529], zab [(zaa x532.Negative), v533]]) hS656
      have K655 := ks w hS656
      refine ⟨?_, ?_⟩
      ·
       refine LateP.cons (i := 1) rfl rfl (zat (zbd (vs := [(zaa x532.Negative), v533]) zal rfl ti26 rfl (hL654.at 3 rfl rfl) rfl rfl ⟨rfl, rfl⟩)) ?_
       exact LateP.nil
      have f657 := (((k534.mono (K631 None)).mono (K651 None)).mono (K655 None))
      refine RlL.op0 (zbh (vs := [(zaa x532.Negative), v533]) ti26 rfl rfl rfl rfl (ones_cons rfl (ones_cons f657.one ones_nil)) hL654 1 rfl rfl (zae rfl) ?_)
      intro w658 (hL659 : vL w w658 [some b11, some b16, some b142, some b162] [zab [(zaa q528.Negative), v529], zab [(zaa x532.Negative), v533], zab [(zaa q528.Negative), v529], zab [(zaa x532.Negative), v533]]) hS661
      have K660 := ks w hS661
      refine ⟨?_, ?_⟩
      ·
       exact LateP.nil
      refine RlL_nil ?_
      refine zaf (zak (v := (zaa true)) rfl ?_)
      refine zap (zbl ?_)
      obtain rfl := zag h
      refine ⟨[(zan #[(zaa q528.Negative), v529]), (zan #[(zaa x532.Negative), v533]), (zaa true)], ⟨⟨⟨b11, 0, none⟩, rfl, res_boxA zal rfl ti26 (hL659.at 0 rfl rfl) rfl⟩, ⟨⟨⟨b16, 0, none⟩, rfl, res_boxA zal rfl ti26 (hL659.at 1 rfl rfl) rfl⟩, ⟨rfl, trivial⟩⟩⟩, ⟨_, rfl, hL659.done, ?_⟩⟩
      have f662 := ((f652.mono (K655 None)).mono (K660 None))
      have f663 := (f657.mono (K660 None))
      exact ⟨v529, v533, rfl, (f662.mono zdf), (f663.mono zdf), trivial⟩
theorem rSame_w (N : Nat) (a : Big) (b : Big) (a_v : Value) (b_v : Value) (w : World) (S : Nat → Prop) (a_h : Rs (rInt .u32) (vH w S [] w) a_v a.Digits) (b_h : Rs (rInt .u32) (vH w S [] w) b_v b.Digits) (r : Bool) (h : rSame N a b = some r) :
  Calls Try.prog 23 #[(zan #[(zaa a.Negative), a_v]), (zan #[(zaa b.Negative), b_v])] w (Ret w (fun v w' => (zaa r) = v ∧ True)) := by
 unfold rSame at h
 have hL : vL w w [] [] := Go.X.Loc.begin0 w
 refine calls_of (l := [(zan #[(zaa a.Negative), a_v]), (zan #[(zaa b.Negative), b_v])]) (rl := [.tmp 4]) (n := 38) Try.func23 rfl rfl rfl (zae rfl) ?_
 refine zaj (zah rfl (zaf (zdc (cs := [(zaa a.Negative), a_v]) rfl rfl hL ?_)))
 intro b1 w2 hL3 hS5
 have K4 := ks w hS5
 refine zaf (zdc (cs := [(zaa b.Negative), b_v]) rfl rfl hL3 ?_)
 intro b6 w7 hL8 hS10
 have K9 := ks w hS10
 refine zaf (zak (v := (zaa false)) rfl ?_)
 refine zap (zaj (zaj ?_))
 obtain ⟨s17, h, g18⟩ := bind_some h
 refine zbr (fun e w' => ∃ (x16 : Bool) (u : Env), x16 = s17 ∧ e = upds [(2, (zam (some ⟨b1, 0, none⟩))), (3, (zam (some ⟨b6, 0, none⟩))), (19, (zaa x16))] u ∧ vL w w' [some b1, some b6] [zab [(zaa a.Negative), a_v], zab [(zaa b.Negative), b_v]] ∧ Keep w.heap.size [some b6, some b1] w7 [some b1, some b6] w' ∧ True) ?_ ?_
 ·
  refine zah rfl (zaf (zar (q := 0) zal rfl ti4 rfl rfl rfl ?_))
  refine zaf (zbb (v := (zaa a.Negative)) zbn rfl rfl (hL8.at 1 rfl rfl) rfl ?_)
  refine zaf (zar (q := 0) zal rfl ti4 rfl rfl rfl ?_)
  refine zaf (zbb (v := (zaa b.Negative)) zbn rfl rfl (hL8.at 0 rfl rfl) rfl ?_)
  refine zaf (OpY.neqBool (x := a.Negative) (y := b.Negative) zbn rfl rfl ?_)
  refine zaf (zai (v := (zaa (!(a.Negative == b.Negative)))) rfl ?_)
  by_cases hc19 : (!(a.Negative == b.Negative)) = true
  ·
   replace h := ite_t hc19 h
   refine zbt rfl rfl hc19 ?_
   refine zbt rfl rfl hc19 ?_
   refine zbt rfl rfl hc19 ?_
   refine zbt rfl rfl hc19 ?_
   refine zbt rfl rfl hc19 ?_
   refine zbt rfl rfl hc19 ?_
   refine zbt rfl rfl hc19 ?_
   refine zaf (zcm (t := (!(a.Negative == b.Negative))) (v := (zaa true)) rfl hc19 rfl ?_)
   refine zap ?_
   have hp20 := hL8.pick [1, 0] rfl rfl rfl
   have hL22 : vL w w7 [some b1, some b6] [zab [(zaa a.Negative), a_v], zab [(zaa b.Negative), b_v]] := hp20.1
   have K21 := ks w hp20.2
   obtain rfl := zag h
   refine zas ?_
   exact ⟨true, _, rfl, (upds_sym ⟨rfl, rfl, rfl, trivial⟩), hL22, K21, trivial⟩
  ·
   replace h := ite_f hc19 h
   refine zbu rfl rfl (eq_false_of_ne_true hc19) (zar (q := 1) zal rfl ti24 rfl rfl rfl ?_)
   refine zbu rfl rfl (eq_false_of_ne_true hc19) (zbb (v := a_v) zao rfl rfl (hL8.at 1 rfl rfl) rfl ?_)
   have f23 := ((a_h.mono (K4 S)).mono (K9 S))
   refine zbu rfl rfl (eq_false_of_ne_true hc19) (zbf (v := a_v) zao rfl f23 ?_)
   refine zbu rfl rfl (eq_false_of_ne_true hc19) (zar (q := 1) zal rfl ti24 rfl rfl rfl ?_)
   refine zbu rfl rfl (eq_false_of_ne_true hc19) (zbb (v := b_v) zao rfl rfl (hL8.at 0 rfl rfl) rfl ?_)
   have f24 := ((b_h.mono (K4 S)).mono (K9 S))
   refine zbu rfl rfl (eq_false_of_ne_true hc19) (zbf (v := b_v) zao rfl f24 ?_)
   refine zbu rfl rfl (eq_false_of_ne_true hc19) (OpY.neq (x := (a.Digits.length : Int)) (y := (b.Digits.length : Int)) (((a.Digits.length : Int) : Int) ≠ (b.Digits.length : Int)) rfl rfl zbk ?_)
   refine zaf (zbz (t := (!(a.Negative == b.Negative))) (v := (zaa (decide (((a.Digits.length : Int) : Int) ≠ (b.Digits.length : Int))))) rfl (eq_false_of_ne_true hc19) rfl ?_)
   refine zap ?_
   have hp25 := hL8.pick [1, 0] rfl rfl rfl
   have hL27 : vL w w7 [some b1, some b6] [zab [(zaa a.Negative), a_v], zab [(zaa b.Negative), b_v]] := hp25.1
   have K26 := ks w hp25.2
   obtain rfl := zag h
   refine zas ?_
   exact ⟨(decide (((a.Digits.length : Int) : Int) ≠ (b.Digits.length : Int))), _, rfl, (upds_sym ⟨rfl, rfl, rfl, trivial⟩), hL27, K26, trivial⟩
 ·
  rintro _ w28 ⟨x16, u, rfl, rfl, hL29, K30, -⟩
  replace h := g18
  try dsimp only at h
  refine zcu x16 rfl (fun hc31 => ?_) (fun hc31 => ?_)
  ·
   replace h := ite_t hc31 h
   refine zaj (zah rfl (zaf (zak (v := (zaa false)) rfl ?_)))
   refine zap (zbl ?_)
   obtain rfl := zag h
   refine ⟨[(zaa false)], ⟨rfl, trivial⟩, ⟨_, rfl, hL29.done, ?_⟩⟩
   exact ⟨rfl, trivial⟩
  ·
   replace h := ite_f hc31 h
   refine zbg (zaj (zaj (zah rfl (zaf (zak (v := (zac .i64 0)) rfl ?_)))))
   refine zap ?_
   obtain ⟨s250, hl252, g251⟩ := bind_some h
   refine zbr (fun e w' => ∃  (u : Env), (Sum.inl ()) = s250 ∧ e = upds [] u ∧ vL w w' [] [] ∧ Keep w.heap.size [some b1, some b6] w28 [] w' ∧ True) ?_ ?_
   ·
    refine zbj ?_
    refine zcg hl252 (fun (ss : Int) (e : Env) (w' : World) => match ss with | i249 => ∃ (u : Env), e = upds [(2, (zam (some ⟨b1, 0, none⟩))), (3, (zam (some ⟨b6, 0, none⟩))), (5, (zac .i64 i249))] u ∧ vL w w' [some b1, some b6] [zab [(zaa a.Negative), a_v], zab [(zaa b.Negative), b_v]] ∧ Keep w.heap.size [some b1, some b6] w28 [some b1, some b6] w' ∧ True) ⟨_, (upds_sym ⟨rfl, rfl, rfl, trivial⟩), hL29, zbo, trivial⟩ ?_
    rintro i249 oo _ w254 ⟨u, rfl, hL255, K256, -⟩ h hd253
    rw [rSame_b1] at h
    refine zaj (zaj (zah rfl (zaf (zai (v := (zac .i64 i249)) rfl ?_))))
    refine zaf (zar (q := 1) zal rfl ti24 rfl rfl rfl ?_)
    refine zaf (zbb (v := a_v) zao rfl rfl (hL255.at 0 rfl rfl) rfl ?_)
    have f257 := ((((a_h.mono (K4 S)).mono (K9 S)).mono (K30 S)).mono (K256 S))
    refine zaf (zbf (v := a_v) zao rfl f257 ?_)
    refine zaf (zcr (x := i249) (y := (a.Digits.length : Int)) ((i249 : Int) < (a.Digits.length : Int)) rfl rfl zbk ?_)
    refine zap ?_
    refine zbe ((i249 : Int) < (a.Digits.length : Int)) rfl (fun hc258 => ?_) (fun hc258 => ?_)
    ·
     replace h := ite_t hc258 h
     refine zbg (zaj (zbj (zaj ?_)))
     obtain ⟨x259, q260, h⟩ := bind_some h
     obtain ⟨n261, q262, q263⟩ := idx_some q260
     obtain ⟨b264, o265, c266, vs267, q268, q269, f270, q271⟩ := zcz f257 q263
     obtain rfl := q271
     obtain ⟨x272, q273, h⟩ := bind_some h
     obtain ⟨n274, q275, q276⟩ := idx_some q273
     have f285 := ((((b_h.mono (K4 S)).mono (K9 S)).mono (K30 S)).mono (K256 S))
     obtain ⟨b277, o278, c279, vs280, q281, q282, f283, q284⟩ := zcz f285 q276
     obtain rfl := q284
     refine zcc 10 [] [] (fun W1 => [.det (zam (some ⟨b1, 1, none⟩)), .det a_v, .det (zac .i64 i249), .det (zam (some ⟨b264, (o265 + n261 * (rInt .u32).sz), none⟩)), .det (zac .u32 x259), .det (zam (some ⟨b6, 1, none⟩)), .det b_v, .det (zac .i64 i249), .det (zam (some ⟨b277, (o278 + n274 * (rInt .u32).sz), none⟩)), .det (zac .u32 x272)]) mixed rfl rfl rfl (fun _ => rfl) (fun _ => rfl) ?_ ?_
     ·
      intro W1 _
      exact trivial
     ·
      intro w286 hE287
      have hL288 := hL255.ext hE287
      have K289 := ke hL255 hE287
      refine zau (fun _ _ => zat (zar zal rfl ti24 rfl rfl rfl (er rfl))) ?_
      refine zau (fun _ hE298 => zat (zbb zao rfl rfl ((hL288.ext hE298).at 0 rfl rfl) rfl (er rfl))) ?_
      refine zau (fun _ _ => zat (zai rfl (er rfl))) ?_
      refine zau (fun _ _ => zat (zbv (r := (rInt .u32)) (v := a_v) (n := n261) (m := (o265 + n261 * (rInt .u32).sz)) zao ti89 rfl q268 rfl q262 q263 rfl (er rfl))) ?_
      refine zau (fun _ hE316 => zat (zck zav rfl rfl vw_view (zcw ((ke hL288 hE316) S) (zcw (K289 S) f270)) (er rfl))) ?_
      refine zau (fun _ _ => zat (zar zal rfl ti24 rfl rfl rfl (er rfl))) ?_
      refine zau (fun _ hE328 => zat (zbb zao rfl rfl ((hL288.ext hE328).at 1 rfl rfl) rfl (er rfl))) ?_
      refine zau (fun _ _ => zat (zai rfl (er rfl))) ?_
      refine zau (fun _ _ => zat (zbv (r := (rInt .u32)) (v := b_v) (n := n274) (m := (o278 + n274 * (rInt .u32).sz)) zao ti89 rfl q281 rfl q275 q276 rfl (er rfl))) ?_
      refine zau (fun _ hE346 => zat (zck zav rfl rfl vw_view (zcw ((ke hL288 hE346) S) (zcw (K289 S) f283)) (er rfl))) ?_
      refine zcn ?_
      rintro w350 Z351 hE352 hZ353 ⟨-⟩ ap354
      have hB355 : ∀ b, some b ∈ ([] : List (Option Nat)) → w286.heap.size ≤ b ∧ ¬ Z351 b := by
       intro b hb; cases hb
      have hL356 := hL288.ext hE352
      have K357 := ke hL288 hE352
      refine zaf (OpY.neq (x := x259) (y := x272) ((x259 : Int) ≠ x272) rfl rfl zbk ?_)
      refine zap ?_
      refine zbe ((x259 : Int) ≠ x272) rfl (fun hc358 => ?_) (fun hc358 => ?_)
      ·
       replace h := ite_t hc358 h
       refine zaj (zah rfl (zaf (zak (v := (zaa false)) rfl ?_)))
       refine zap (zbl ?_)
       obtain rfl := zag h
       obtain rfl := hd253 _ rfl
       replace h := g251
       try dsimp only at h
       obtain rfl := zag h
       refine ⟨[(zaa false)], ⟨rfl, trivial⟩, ⟨_, rfl, hL356.done, ?_⟩⟩
       exact ⟨rfl, trivial⟩
      ·
       replace h := ite_f hc358 h
       refine zbg (zbs (zah rfl (zaf (zai (v := (zac .i64 i249)) rfl ?_))))
       refine zaf (zcd (x := i249) (y := 1) (z := (iw (i249 + 1))) rfl rfl rfl ?_)
       refine zaf (zak (v := (zac .i64 (iw (i249 + 1)))) rfl ?_)
       refine zap ?_
       obtain rfl := zag h
       refine zas ⟨(iw (i249 + 1)), rfl, ?_⟩
       exact ⟨_, (upds_sym ⟨rfl, rfl, rfl, trivial⟩), hL356, (zaq (zaq K256 K289) K357), trivial⟩
    ·
     replace h := ite_f hc258 h
     refine zcs rfl ?_
     have hp359 := hL255.pick [] rfl rfl rfl
     have hL361 : vL w w254 [] [] := hp359.1
     have K360 := ks w hp359.2
     obtain rfl := zag h
     obtain rfl := hd253 _ rfl
     replace h := g251
     try dsimp only at h
     skip
     refine zas ?_
     exact ⟨_, rfl, (upds_sym trivial), hL361, (zaq K256 K360), trivial⟩
   ·
    rintro _ w362 ⟨u, rfl, rfl, hL363, K364, -⟩
    replace h := g251
    try dsimp only at h
    refine zaj (zah rfl (zaf (zak (v := (zaa true)) rfl ?_)))
    refine zap (zbl ?_)
    obtain rfl := zag h
    refine ⟨[(zaa true)], ⟨rfl, trivial⟩, ⟨_, rfl, hL363.done, ?_⟩⟩
    exact ⟨rfl, trivial⟩
end Go.Proofs.Ytakkacdhlocckaa.WR

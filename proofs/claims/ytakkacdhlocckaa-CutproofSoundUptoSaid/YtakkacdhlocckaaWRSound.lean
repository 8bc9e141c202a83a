/- Walks, written by a program of mine (wip/tool); the kernel checks them. -/
import Derived.Test.YtakkacdhlocckaaProg
import Derived.Test.YtakkacdhlocckaaSqSound
import Derived.Test.YtakkacdhlocckaaPR
import Derived.Test.YtakkacdhlocckaaWASound
set_option maxRecDepth 100000
set_option maxHeartbeats 4000000
set_option linter.unusedVariables false
namespace Go.Proofs.Ytakkacdhlocckaa.WR
open Go Go.RowKit Go.X Go.D Go.Proofs.Ytakkacdhlocckaa.WA
theorem ti3 : TI Try.prog 3 1 8 (zab .i64 0) := TI.mk (by kernel_rfl)
theorem ti24 : TI Try.prog 24 1 24 (zad none 0 0) := TI.mk (by kernel_rfl)
theorem en82 : Enters Try.prog 82 := ⟨Try.f82, Try.func82, by kernel_rfl, by kernel_rfl⟩
theorem ti4 : TI Try.prog 4 1 1 (zaa false) := TI.mk (by kernel_rfl)
theorem en65 : Enters Try.prog 65 := ⟨Try.f65, Try.func65, by kernel_rfl, by kernel_rfl⟩
theorem en68 : Enters Try.prog 68 := ⟨Try.f68, Try.func68, by kernel_rfl, by kernel_rfl⟩
theorem en40 : Enters Try.prog 40 := ⟨Try.f40, Try.func40, by kernel_rfl, by kernel_rfl⟩
theorem en64 : Enters Try.prog 64 := ⟨Try.f64, Try.func64, by kernel_rfl, by kernel_rfl⟩
theorem en69 : Enters Try.prog 69 := ⟨Try.f69, Try.func69, by kernel_rfl, by kernel_rfl⟩
theorem en70 : Enters Try.prog 70 := ⟨Try.f70, Try.func70, by kernel_rfl, by kernel_rfl⟩
theorem en38 : Enters Try.prog 38 := ⟨Try.f38, Try.func38, by kernel_rfl, by kernel_rfl⟩
theorem en71 : Enters Try.prog 71 := ⟨Try.f71, Try.func71, by kernel_rfl, by kernel_rfl⟩
theorem en37 : Enters Try.prog 37 := ⟨Try.f37, Try.func37, by kernel_rfl, by kernel_rfl⟩
theorem rtrim_w (N : Nat) (l : (List Int)) (l_v : Value) (w : World) (S : Nat → Prop) (l_h : Rs (rInt .i64) (vH w S [] w) l_v l) (r : (List Int)) (h : rtrim N l = some r) :
  Calls Try.prog 82 #[l_v] w (Ret w (fun v w' => ∃ (v0_0 : Value), v0_0 = v ∧ Rs (rInt .i64) (vH w S [] w') v0_0 r ∧ True)) := by
 unfold rtrim at h
 have hL : vL w w [] [] := Go.X.Loc.begin0 w
 refine calls_of (l := [l_v]) (rl := [.tmp 2]) (n := 21) Try.func82 rfl rfl rfl (zae rfl) ?_
 refine zaj (zah rfl (zaf (zak (v := (zad none 0 0)) rfl ?_)))
 refine zan (zaj ?_)
 obtain ⟨s10, hl10, g10⟩ := zdo h
 refine zbr (fun e w' => ∃ (l10 : (List Int)) (v10 : Value) (u : Env), l10 = s10 ∧ e = upds [(0, v10)] u ∧ vL w w' [] [] ∧ Keep w.heap.size [] w [] w' ∧ Rs (rInt .i64) (vH w S [] w') v10 l10 ∧ True) ?_ ?_
 ·
  refine zbh ?_
  refine zce hl10 (fun (ss : (List Int)) (e : Env) (w' : World) => match ss with | l11 => ∃ (v11 : Value) (u : Env), e = upds [(0, v11)] u ∧ vL w w' [] [] ∧ Keep w.heap.size [] w [] w' ∧ Rs (rInt .i64) (vH w S [] w') v11 l11 ∧ True) ⟨l_v, _, (zdt ⟨rfl, trivial⟩), hL, zbo, l_h, trivial⟩ ?_
  rintro l11 oo _ w10 ⟨v11, u, rfl, hL10, K10, k10, -⟩ h hd10
  rw [rtrim_b1] at h
  refine zaj (zaj ?_)
  obtain ⟨s11, h, g11⟩ := zdo h
  refine zbr (fun e w' => ∃ (x10 : Bool) (u : Env), x10 = s11 ∧ e = upds [(0, v11), (14, (zaa x10))] u ∧ vL w w' [] [] ∧ Keep w.heap.size [] w10 [] w' ∧ True) ?_ ?_
  ·
   refine zah rfl (zaf (zai (v := v11) rfl ?_))
   refine zaf (zbd (v := v11) zay rfl k10 ?_)
   refine zaf (zdm (x := (l11.length : Int)) (y := 0) (((l11.length : Int) : Int) > 0) rfl rfl zbk ?_)
   refine zaf (zai (v := (zaa (decide (((l11.length : Int) : Int) > 0)))) rfl ?_)
   by_cases hc10 : ((l11.length : Int) : Int) > 0
   ·
    replace h := ite_t hc10 h
    refine zbu rfl rfl (zdr hc10) (zai (v := v11) rfl ?_)
    refine zbu rfl rfl (zdr hc10) (zai (v := v11) rfl ?_)
    refine zbu rfl rfl (zdr hc10) (zbd (v := v11) zay rfl k10 ?_)
    refine zbu rfl rfl (zdr hc10) (zdb (x := (l11.length : Int)) (y := 1) (z := (iw ((l11.length : Int) - 1))) rfl rfl rfl ?_)
    obtain ⟨x11, q10, h⟩ := zdo h
    obtain ⟨n10, q11, q12⟩ := zdu q10
    obtain ⟨b10, o10, c10, vs10, q13, q14, f10, q15⟩ := zcw k10 q12
    obtain rfl := q15
    refine zbu rfl rfl (zdr hc10) (zbw (r := (rInt .i64)) (v := v11) (n := n10) (m := (o10 + n10 * (rInt .i64).sz)) zay ti3 rfl q13 rfl q11 q12 rfl ?_)
    refine zbu rfl rfl (zdr hc10) (zck (v := (zab .i64 x11)) zbv rfl rfl zdy f10 ?_)
    refine zbu rfl rfl (zdr hc10) (OpY.eql (x := x11) (y := 0) ((x11 : Int) = 0) rfl rfl zbk ?_)
    refine zaf (zci (t := (decide (((l11.length : Int) : Int) > 0))) (v := (zaa (decide ((x11 : Int) = 0)))) rfl (zdr hc10) rfl ?_)
    refine zan ?_
    obtain rfl := zag h
    refine zar ?_
    exact ⟨(decide ((x11 : Int) = 0)), _, rfl, (zdt ⟨rfl, rfl, trivial⟩), hL10, zbo, trivial⟩
   ·
    replace h := ite_f hc10 h
    refine zbq rfl rfl (zdq hc10) ?_
    refine zbq rfl rfl (zdq hc10) ?_
    refine zbq rfl rfl (zdq hc10) ?_
    refine zbq rfl rfl (zdq hc10) ?_
    refine zbq rfl rfl (zdq hc10) ?_
    refine zbq rfl rfl (zdq hc10) ?_
    refine zbq rfl rfl (zdq hc10) ?_
    refine zaf (zbx (t := (decide (((l11.length : Int) : Int) > 0))) (v := (zaa false)) rfl (zdq hc10) rfl ?_)
    refine zan ?_
    obtain rfl := zag h
    refine zar ?_
    exact ⟨false, _, rfl, (zdt ⟨rfl, rfl, trivial⟩), hL10, zbo, trivial⟩
  ·
   rintro _ w11 ⟨x10, u, rfl, rfl, hL11, K11, -⟩
   replace h := g11
   try dsimp only at h
   refine zcr x10 rfl (fun hc11 => ?_) (fun hc11 => ?_)
   ·
    replace h := ite_t hc11 h
    refine zbf (zbh (zah rfl (zaf (zai (v := v11) rfl ?_))))
    refine zaf (zai (v := v11) rfl ?_)
    have f11 := (k10.mono (K11 S))
    refine zaf (zbd (v := v11) zay rfl f11 ?_)
    refine zaf (zdb (x := (l11.length : Int)) (y := 1) (z := (iw ((l11.length : Int) - 1))) rfl rfl rfl ?_)
    obtain ⟨x12, q16, h⟩ := zdo h
    obtain ⟨m10, n11, q17, q18, q19, q20, q21⟩ := cut_some q16
    refine zaf (OpY.cutRoX (l := m10) (h' := n11) zay ti3 rfl f11 (.inl ⟨rfl, by omega⟩) (.inr ⟨_, _, rfl, by rw [← q18]; rfl⟩) q19 q20 q21 ?_)
    intro v12 k11
    refine zaf (zak (v := v12) rfl ?_)
    refine zan (zbt ?_)
    obtain rfl := zag h
    refine zar ⟨x12, rfl, ?_⟩
    exact ⟨v12, _, (zdt ⟨rfl, trivial⟩), hL11, (zaq K10 K11), k11, trivial⟩
   ·
    replace h := ite_f hc11 h
    refine zcm rfl ?_
    have f12 := (k10.mono (K11 S))
    obtain rfl := zag h
    obtain rfl := hd10 _ rfl
    replace h := g10
    try dsimp only at h
    skip
    refine zar ?_
    exact ⟨l11, v11, _, rfl, (zdt ⟨rfl, trivial⟩), hL11, (zaq K10 K11), f12, trivial⟩
 ·
  rintro _ w12 ⟨l10, v10, u, rfl, rfl, hL12, K12, k12, -⟩
  replace h := g10
  try dsimp only at h
  refine zaj (zah rfl (zaf (zai (v := v10) rfl ?_)))
  refine zaf (zak (v := v10) rfl ?_)
  refine zan (zbj ?_)
  obtain rfl := zag h
  refine ⟨[v10], ⟨rfl, trivial⟩, ⟨_, rfl, hL12.done, ?_⟩⟩
  exact ⟨v10, rfl, (k12.mono zdi), trivial⟩
theorem halves_w (N : Nat) (x : Big) (x_v : Value) (w : World) (S : Nat → Prop) (x_h : Rs (rInt .u32) (vH w S [] w) x_v x.Digits) (r : (List Int)) (h : halves N x = some r) :
  Calls Try.prog 65 #[(zap #[(zaa x.Negative), x_v])] w (Ret w (fun v w' => ∃ (v0_0 : Value), v0_0 = v ∧ Rs (rInt .i64) (vH w None [] w') v0_0 r ∧ True)) := by
 unfold halves at h
 have hL : vL w w [] [] := Go.X.Loc.begin0 w
 refine calls_of (l := [(zap #[(zaa x.Negative), x_v])]) (rl := [.tmp 2]) (n := 32) Try.func65 rfl rfl rfl (zae rfl) ?_
 refine zaj (zah rfl (zaf (zde (cs := [(zaa x.Negative), x_v]) rfl rfl hL ?_)))
 intro b1 w2 hL3 hS5
 have K4 := ks w hS5
 refine zaf (zak (v := (zad none 0 0)) rfl ?_)
 refine zan (zaj (zah rfl (zaf (OpY.litRow0 zay ti3 hL3 ?_))))
 intro b6 w10 hL10 hS10
 have hE10 : Els (rInt .i64) (vH w None [some b1] w2) [] [] := zcp
 have K10 := ks w hS10
 refine zaf (zak (v := (osv (some b6) 0 (List.length ([] : (List Int))) 0)) rfl ?_)
 refine zan (zaj (zaj (zah rfl (zaf (zak (v := (zab .i64 0)) rfl ?_)))))
 refine zan ?_
 obtain ⟨s10, hl10, g10⟩ := zdo h
 refine zbr (fun e w' => ∃ (l10 : (List Int)) (ob10 : Option Nat) (cap10 : Nat) (sp10 : List Value) (cs10 : List Value) (ln10 : Nat) (u : Env), l10 = s10 ∧ e = upds [(3, (osv ob10 0 ln10 cap10))] u ∧ vL w w' [ob10] [zac ([] ++ (cs10 ++ sp10))] ∧ Keep w.heap.size [some b6, some b1] w10 [ob10] w' ∧ Els (rInt .i64) (vH w None [ob10] w') cs10 l10 ∧ ln10 = List.length l10 ∧ (cs10 ++ sp10).length = cap10 * (rInt .i64).sz ∧ True) ?_ ?_
 ·
  refine zbh ?_
  have hp10 := hL10.pick [1, 0] rfl rfl rfl
  have hL11 : vL w w10 [some b1, some b6] [zac [(zaa x.Negative), x_v], zac ([] ++ ([] ++ []))] := hp10.1
  have K11 := ks w hp10.2
  have f10 := ((hE10.mono (K10 None)).mono (K11 None))
  refine zce hl10 (fun (ss : ((List Int) × Int)) (e : Env) (w' : World) => match ss with | (l11, i10) => ∃ (ob11 : Option Nat) (cap11 : Nat) (sp11 : List Value) (cs11 : List Value) (ln11 : Nat) (u : Env), e = upds [(1, (zao (some ⟨b1, 0, none⟩))), (3, (osv ob11 0 ln11 cap11)), (4, (zab .i64 i10))] u ∧ vL w w' [some b1, ob11] [zac [(zaa x.Negative), x_v], zac ([] ++ (cs11 ++ sp11))] ∧ Keep w.heap.size [some b6, some b1] w10 [some b1, ob11] w' ∧ Els (rInt .i64) (vH w None [some b1, ob11] w') cs11 l11 ∧ ln11 = List.length l11 ∧ (cs11 ++ sp11).length = cap11 * (rInt .i64).sz ∧ True) ⟨some b6, 0, [], [], (List.length ([] : (List Int))), _, (zdt ⟨rfl, rfl, rfl, trivial⟩), hL11, K11, f10, rfl, (show ([] ++ [] : List Value).length = 0 * (rInt .i64).sz by simp), trivial⟩ ?_
  rintro ⟨l11, i10⟩ oo _ w11 ⟨ob11, cap11, sp11, cs11, ln11, u, rfl, hL12, K12, hE11, rfl, hc10, -⟩ h hd10
  rw [halves_b1] at h
  refine zaj (zaj (zah rfl (zaf (zai (v := (zab .i64 i10)) rfl ?_))))
  refine zaf (zas (q := 1) zam rfl ti24 rfl rfl rfl ?_)
  refine zaf (zaz (v := x_v) zal rfl rfl (hL12.at 0 rfl rfl) rfl ?_)
  have f11 := (((x_h.mono (K4 S)).mono (K10 S)).mono (K12 S))
  refine zaf (zbd (v := x_v) zal rfl f11 ?_)
  refine zaf (zcj (x := i10) (y := (x.Digits.length : Int)) ((i10 : Int) < (x.Digits.length : Int)) rfl rfl zbk ?_)
  refine zan ?_
  refine zbe ((i10 : Int) < (x.Digits.length : Int)) rfl (fun hc11 => ?_) (fun hc11 => ?_)
  ·
   replace h := ite_t hc11 h
   refine zbf (zaj (zbh ?_))
   obtain ⟨x10, q10, h⟩ := zdo h
   obtain ⟨n10, q11, q12⟩ := zdu q10
   obtain ⟨b10, o10, c10, vs10, q13, q14, f12, q15⟩ := zcw f11 q12
   obtain rfl := q15
   obtain ⟨x11, q16, h⟩ := zdo h
   obtain ⟨n11, q17, q18⟩ := zdu q16
   obtain ⟨b11, o11, c11, vs11, q19, q20, f13, q21⟩ := zcw f11 q18
   obtain rfl := q21
   refine zcf 16 [] [] (fun W1 => [.det (osv ob11 0 l11.length cap11), .det (zao (some ⟨b1, 1, none⟩)), .det x_v, .det (zab .i64 i10), .det (zao (some ⟨b10, (o10 + n10 * (rInt .u32).sz), none⟩)), .det (zab .u32 x10), .det (zab .u32 (Int.tmod x10 65536)), .det (zab .i64 (iw (Int.tmod x10 65536))), .det (zao (some ⟨b1, 1, none⟩)), .det x_v, .det (zab .i64 i10), .det (zao (some ⟨b11, (o11 + n11 * (rInt .u32).sz), none⟩)), .det (zab .u32 x11), .det (zab .u32 (uw32 (Int.tdiv x11 65536))), .det (zab .i64 (iw (uw32 (Int.tdiv x11 65536)))), .rel (fun v Z w' => ∃ b12 cs12, (osv (some b12) 0 2 2) = v ∧ OwnC w' (some b12) (zac ([] ++ (cs12 ++ []))) ∧ Els (rInt .i64) (vZ W1 w None [some b1, ob11] Z w') cs12 [(iw (Int.tmod x10 65536)), (iw (uw32 (Int.tdiv x11 65536)))] ∧ (cs12 ++ [] : List Value).length = 2 * (rInt .i64).sz ∧ True) footV]) mixed rfl rfl rfl (fun _ => rfl) (fun _ => rfl) ?_ ?_
   ·
    intro W1 _
    exact ⟨fun v Z Z' w w' hΦ hz _ _ hs => by obtain ⟨b12, cs12, rfl, hO10, hE12, hc12, -⟩ := hΦ; exact ⟨b12, cs12, rfl, (hO10.stay (fun b hb => by cases hb; exact zax) hs), (hE12.mono (zcs hz hs)), hc12, trivial⟩, trivial⟩
   ·
    intro w12 hE13
    have hL13 := hL12.ext hE13
    have K13 := ke hL12 hE13
    refine zau (fun _ _ => zav (zai rfl (er rfl))) ?_
    refine zau (fun _ _ => zav (zas zam rfl ti24 rfl rfl rfl (er rfl))) ?_
    refine zau (fun _ hE16 => zav (zaz zal rfl rfl ((hL13.ext hE16).at 0 rfl rfl) rfl (er rfl))) ?_
    refine zau (fun _ _ => zav (zai rfl (er rfl))) ?_
    refine zau (fun _ _ => zav (zbw (r := (rInt .u32)) (v := x_v) (n := n10) (m := (o10 + n10 * (rInt .u32).sz)) zal ti89 rfl q13 rfl q11 q12 rfl (er rfl))) ?_
    refine zau (fun _ hE19 => zav (zck zat rfl rfl zdy (zcz ((ke hL13 hE19) S) (zcz (K13 S) f12)) (er rfl))) ?_
    refine zau (fun _ _ => zav (OpY.remI (x := x10) (y := 65536) rfl rfl (by decide) (er rfl))) ?_
    refine zau (fun _ _ => zav (zbp zat zbv rfl rfl (er rfl))) ?_
    refine zau (fun _ _ => zav (zas zam rfl ti24 rfl rfl rfl (er rfl))) ?_
    refine zau (fun _ hE23 => zav (zaz zal rfl rfl ((hL13.ext hE23).at 0 rfl rfl) rfl (er rfl))) ?_
    refine zau (fun _ _ => zav (zai rfl (er rfl))) ?_
    refine zau (fun _ _ => zav (zbw (r := (rInt .u32)) (v := x_v) (n := n11) (m := (o11 + n11 * (rInt .u32).sz)) zal ti89 rfl q19 rfl q17 q18 rfl (er rfl))) ?_
    refine zau (fun _ hE26 => zav (zck zat rfl rfl zdy (zcz ((ke hL13 hE26) S) (zcz (K13 S) f13)) (er rfl))) ?_
    refine zau (fun _ _ => zav (OpY.quoI (x := x11) (y := 65536) (z := (uw32 (Int.tdiv x11 65536))) rfl rfl (by decide) rfl (er rfl))) ?_
    refine zau (fun _ _ => zav (zbp zat zbv rfl rfl (er rfl))) ?_
    refine zct ?_ ?_
    ·
     rintro w28 Z25 hE29 hZ25 ⟨-⟩
     have hE30 : Els (rInt .i64) (vZ w12 w None [some b1, ob11] Z25 w28) [(zab .i64 (iw (Int.tmod x10 65536))), (zab .i64 (iw (uw32 (Int.tdiv x11 65536))))] [(iw (Int.tmod x10 65536)), (iw (uw32 (Int.tdiv x11 65536)))] := (zcg (a := [(zab .i64 (iw (Int.tmod x10 65536)))]) rfl (zcg (a := [(zab .i64 (iw (uw32 (Int.tdiv x11 65536))))]) rfl zcp))
     refine zav (zch (r := (rInt .i64)) (vs := [(zab .i64 (iw (Int.tmod x10 65536))), (zab .i64 (iw (uw32 (Int.tdiv x11 65536))))]) (css := [[(zab .i64 (iw (Int.tmod x10 65536)))], [(zab .i64 (iw (uw32 (Int.tdiv x11 65536))))]]) (xs := [(iw (Int.tmod x10 65536)), (iw (uw32 (Int.tdiv x11 65536)))]) zay ti3 (zae rfl) rfl rfl ⟨rfl, rfl, ⟨rfl, rfl, trivial⟩⟩ (zae rfl) hE30 rfl (Go.X.Loc.begin0 w28) ?_)
     intro b12 w29 hc13 hL16 hS11
     have hN10 : NewOwn w28 w29 [some b12] [zac ([] ++ ([(zab .i64 (iw (Int.tmod x10 65536))), (zab .i64 (iw (uw32 (Int.tdiv x11 65536))))] ++ []))] := hL16.newOwn [0] rfl rfl rfl
     exact zcn hL16.done hZ25 hN10 (fun _ h => h) ⟨b12, [(zab .i64 (iw (Int.tmod x10 65536))), (zab .i64 (iw (uw32 (Int.tdiv x11 65536))))], rfl, hN10.2.2.1, (hE30.mono (Zv.grow hL16.done)), hc13, trivial⟩
    intro z10
    refine zco ?_
    rintro w30 Z26 hE31 hZ26 ⟨⟨⟨b12, cs12, rfl, hO10, hE12, hc12, -⟩, hB10⟩, -⟩ ap10
    have hB11 : ∀ b, some b ∈ ([some b12] : List (Option Nat)) → w12.heap.size ≤ b ∧ ¬ Z26 b := by
     intro b hb
     rcases List.mem_cons.1 hb with hb' | hb
     ·
      have := hB10 b (by rw [hb']; exact zax); exact ⟨this.1, this.2.2⟩
     cases hb
    replace hE12 := hE12.mono (zdc hL13 hZ26 hB11)
    have hN11 : NewOwn w12 w30 [some b12] [zac ([] ++ (cs12 ++ []))] := (zda zcb hO10 (fun b hb => (hB11 b (by rw [← hb]; simp)).1) (fun b _ hb => by cases hb))
    have hp11 := hL13.adoptL hE31 hN11
    have hL17 := hp11.1
    have K16 := ks w hp11.2
    obtain ⟨x12, q22, h⟩ := zdo h
    obtain ⟨q23, q24, q25⟩ := zeb q22
    have f14 := ((hE11.mono (K13 None)).mono (K16 None))
    refine zaf (zdk (r := (rInt .i64)) (H := (vH w None [some b12, some b1, ob11] w30)) (cs := cs11) (sp := sp11) (xs := l11) (ys := [(iw (Int.tmod x10 65536)), (iw (uw32 (Int.tdiv x11 65536)))]) (Y := x12) (n := l11.length) (cap := cap11) (i := 2) zay ti3 rfl rfl rfl rfl hL17 rfl rfl f14 rfl hc10 (Src.row (pre := []) (o := 0) (n := 2) (cap := 2) (hL17.at 0 rfl rfl) hE12 rfl rfl rfl) (Els.anyH (fun _ _ _ _ h => h) hE12) q23 q24 q25 ?_)
    intro ob12 cap12 sp12 cs13 w31 hE32 hc14 (hL18 : vL w w31 [some b12, some b1, ob12] [zac ([] ++ (cs12 ++ [])), zac [(zaa x.Negative), x_v], zac ([] ++ (cs13 ++ sp12))]) hS12
    have K17 := ks w hS12
    refine zaf (zak (v := (osv ob12 0 x12.length cap12)) rfl ?_)
    refine zan (zbt (zah rfl (zaf (zai (v := (zab .i64 i10)) rfl ?_))))
    refine zaf (zby (x := i10) (y := 1) (z := (iw (i10 + 1))) rfl rfl rfl ?_)
    refine zaf (zak (v := (zab .i64 (iw (i10 + 1)))) rfl ?_)
    refine zan ?_
    have hp12 := hL18.pick [1, 2] rfl rfl rfl
    have hL19 : vL w w31 [some b1, ob12] [zac [(zaa x.Negative), x_v], zac ([] ++ (cs13 ++ sp12))] := hp12.1
    have K18 := ks w hp12.2
    have f15 := ((hE32.mono (K17 None)).mono (K18 None))
    obtain rfl := zag h
    refine zar ⟨(x12, (iw (i10 + 1))), rfl, ?_⟩
    exact ⟨ob12, cap12, sp12, cs13, x12.length, _, (zdt ⟨rfl, rfl, rfl, trivial⟩), hL19, (zaq (zaq (zaq (zaq K12 K13) K16) K17) K18), f15, rfl, hc14, trivial⟩
  ·
   replace h := ite_f hc11 h
   refine zcm rfl ?_
   have hp13 := hL12.pick [1] rfl rfl rfl
   have hL20 : vL w w11 [ob11] [zac ([] ++ (cs11 ++ sp11))] := hp13.1
   have K19 := ks w hp13.2
   have f16 := (hE11.mono (K19 None))
   obtain rfl := zag h
   obtain rfl := hd10 _ rfl
   replace h := g10
   try dsimp only at h
   skip
   refine zar ?_
   exact ⟨l11, ob11, cap11, sp11, cs11, l11.length, _, rfl, (zdt ⟨rfl, trivial⟩), hL20, (zaq K12 K19), f16, rfl, hc10, trivial⟩
 ·
  rintro _ w32 ⟨l10, ob10, cap10, sp10, cs10, ln10, u, rfl, rfl, hL21, K20, hE33, rfl, hc15, -⟩
  replace h := g10
  try dsimp only at h
  refine zaj (zah rfl (zaf (zai (v := (osv ob10 0 l10.length cap10)) rfl ?_)))
  have f17 := hL21.freezeRow 0 rfl rfl hE33 rfl rfl rfl hc15
  have hp14 := hL21.pick [] rfl rfl rfl
  have hL22 : vL w w32 [] [] := hp14.1
  obtain ⟨r10, q26, h⟩ := zdo h
  refine zaf (zaw en82 rfl rfl (rtrim_w N l10 (osv ob10 0 l10.length cap10) _ _ (f17.mono Hv.enter) r10 q26) ?_)
  rintro _ w33 hE34 ⟨v10, rfl, k10, -⟩
  replace k10 := k10.mono (Hv.aliasO (S := None) hL22 [])
  have hL23 := hL22.ext hE34
  refine zaf (zak (v := v10) rfl ?_)
  refine zan (zbj ?_)
  obtain rfl := zag h
  refine ⟨[v10], ⟨rfl, trivial⟩, ⟨_, rfl, hL23.done, ?_⟩⟩
  exact ⟨v10, rfl, (k10.mono zdi), trivial⟩
theorem rbig_w (N : Nat) (negative : Bool) (l : (List Int)) (l_v : Value) (w : World) (S : Nat → Prop) (l_h : Rs (rInt .i64) (vH w S [] w) l_v l) (r : Big) (h : rbig N negative l = some r) :
  Calls Try.prog 68 #[(zaa negative), l_v] w (Ret w (fun v w' => ∃ (v0_0 : Value), (zap #[(zaa r.Negative), v0_0]) = v ∧ Rs (rInt .u32) (vH w None [] w') v0_0 r.Digits ∧ True)) := by
 unfold rbig at h
 have hL : vL w w [] [] := Go.X.Loc.begin0 w
 refine calls_of (l := [(zaa negative), l_v]) (rl := [.cell 4 26]) (n := 49) Try.func68 rfl rfl rfl (zae rfl) ?_
 refine zaj (zah rfl (zaf (zca (cs := [(zaa false), (zad none 0 0)]) ti26 rfl hL ?_)))
 intro b1 w2 hL3 hS5
 have K4 := ks w hS5
 refine zan (zaj (zah rfl (zaf (zai (v := l_v) rfl ?_))))
 obtain ⟨r6, q7, h⟩ := zdo h
 have f10 := (l_h.mono (K4 S))
 refine zaf (zaw en82 rfl rfl (rtrim_w N l l_v _ _ (f10.mono Hv.enter) r6 q7) ?_)
 rintro _ w10 hE10 ⟨v8, rfl, k9, -⟩
 replace k9 := k9.mono (Hv.aliasO (S := S) hL3 [])
 have hL10 := hL3.ext hE10
 refine zaf (zak (v := v8) rfl ?_)
 refine zan (zaj ?_)
 obtain ⟨s10, h, g10⟩ := zdo h
 refine zbr (fun e w' => ∃ (negative10 : Bool) (b10 : Nat) (u : Env), negative10 = s10 ∧ e = upds [(1, v8), (4, (zao (some ⟨b1, 0, none⟩))), (5, (zao (some ⟨b10, 0, none⟩)))] u ∧ vL w w' [some b1, some b10] [zac [(zaa false), (zad none 0 0)], zac [(zaa negative10), (zad none 0 0)]] ∧ Keep w.heap.size [some b1] w10 [some b1, some b10] w' ∧ True) ?_ ?_
 ·
  refine zah rfl (zaf (zai (v := (zaa negative)) rfl ?_))
  refine zaf (zai (v := (zaa negative)) rfl ?_)
  by_cases hc10 : negative = true
  ·
   replace h := ite_t hc10 h
   refine zbu rfl rfl hc10 (zai (v := v8) rfl ?_)
   refine zbu rfl rfl hc10 (zbd (v := v8) zay rfl k9 ?_)
   refine zbu rfl rfl hc10 (zdm (x := (r6.length : Int)) (y := 0) (((r6.length : Int) : Int) > 0) rfl rfl zbk ?_)
   refine zaf (zci (t := negative) (v := (zaa (decide (((r6.length : Int) : Int) > 0)))) rfl hc10 rfl ?_)
   refine zaf (zcy (zc := [(zaa false), (zad none 0 0)]) (cs := [(zaa (decide (((r6.length : Int) : Int) > 0))), (zad none 0 0)]) (is := [0]) (vs := [(zaa (decide (((r6.length : Int) : Int) > 0)))]) (css := [[(zaa (decide (((r6.length : Int) : Int) > 0)))]]) pl26 ti26 rfl rfl rfl ⟨rfl, trivial⟩ rfl ?_)
   refine zaf (zca (cs := [(zaa false), (zad none 0 0)]) ti26 rfl hL10 ?_)
   intro b11 w11 hL11 hS10
   have K10 := ks w hS10
   refine zcc (zbn (vs := [(zaa (decide (((r6.length : Int) : Int) > 0))), (zad none 0 0)]) ti26 rfl rfl rfl rfl (zds rfl (zds rfl zdw)) hL11 0 rfl rfl (zae rfl) ?_)
   intro w12 (hL12 : vL w w12 [some b11, some b1] [zac [(zaa (decide (((r6.length : Int) : Int) > 0))), (zad none 0 0)], zac [(zaa false), (zad none 0 0)]]) hS11
   have K11 := ks w hS11
   refine zan ?_
   have hp10 := hL12.pick [1, 0] rfl rfl rfl
   have hL13 : vL w w12 [some b1, some b11] [zac [(zaa false), (zad none 0 0)], zac [(zaa (decide (((r6.length : Int) : Int) > 0))), (zad none 0 0)]] := hp10.1
   have K12 := ks w hp10.2
   obtain rfl := zag h
   refine zar ?_
   exact ⟨(decide (((r6.length : Int) : Int) > 0)), b11, _, rfl, (zdt ⟨rfl, rfl, rfl, trivial⟩), hL13, (zaq (zaq K10 K11) K12), trivial⟩
  ·
   replace h := ite_f hc10 h
   refine zbq rfl rfl (zdp hc10) ?_
   refine zbq rfl rfl (zdp hc10) ?_
   refine zbq rfl rfl (zdp hc10) ?_
   refine zaf (zbx (t := negative) (v := (zaa false)) rfl (zdp hc10) rfl ?_)
   refine zaf (zcy (zc := [(zaa false), (zad none 0 0)]) (cs := [(zaa false), (zad none 0 0)]) (is := [0]) (vs := [(zaa false)]) (css := [[(zaa false)]]) pl26 ti26 rfl rfl rfl ⟨rfl, trivial⟩ rfl ?_)
   refine zaf (zca (cs := [(zaa false), (zad none 0 0)]) ti26 rfl hL10 ?_)
   intro b12 w13 hL14 hS12
   have K13 := ks w hS12
   refine zcc (zbn (vs := [(zaa false), (zad none 0 0)]) ti26 rfl rfl rfl rfl (zds rfl (zds rfl zdw)) hL14 0 rfl rfl (zae rfl) ?_)
   intro w14 (hL15 : vL w w14 [some b12, some b1] [zac [(zaa false), (zad none 0 0)], zac [(zaa false), (zad none 0 0)]]) hS13
   have K14 := ks w hS13
   refine zan ?_
   have hp11 := hL15.pick [1, 0] rfl rfl rfl
   have hL16 : vL w w14 [some b1, some b12] [zac [(zaa false), (zad none 0 0)], zac [(zaa false), (zad none 0 0)]] := hp11.1
   have K15 := ks w hp11.2
   obtain rfl := zag h
   refine zar ?_
   exact ⟨false, b12, _, rfl, (zdt ⟨rfl, rfl, rfl, trivial⟩), hL16, (zaq (zaq K13 K14) K15), trivial⟩
 ·
  rintro _ w15 ⟨negative10, b10, u, rfl, rfl, hL17, K16, -⟩
  replace h := g10
  try dsimp only at h
  refine zaj (zaj (zah rfl (zaf (zak (v := (zab .i64 0)) rfl ?_))))
  refine zan ?_
  obtain ⟨s11, hl10, g11⟩ := zdo h
  refine zbr (fun e w' => ∃ (digits10 : (List Int)) (ob10 : Option Nat) (cap10 : Nat) (sp10 : List Value) (cs10 : List Value) (ln10 : Nat) (u : Env), digits10 = s11 ∧ e = upds [(4, (zao (some ⟨b1, 0, none⟩))), (5, (zao (some ⟨b10, 0, none⟩)))] u ∧ vL w w' [some b1, some b10, ob10] [zac [(zaa false), (zad none 0 0)], zac [(zaa negative10), (osv ob10 0 ln10 cap10)], zac ([] ++ (cs10 ++ sp10))] ∧ Keep w.heap.size [some b1, some b10] w15 [some b1, some b10, ob10] w' ∧ Els (rInt .u32) (vH w None [some b1, some b10, ob10] w') cs10 digits10 ∧ ln10 = List.length digits10 ∧ (cs10 ++ sp10).length = cap10 * (rInt .u32).sz ∧ True) ?_ ?_
  ·
   refine zbh ?_
   have hp12 := hL17.addNil
   have hL18 : vL w w15 [none, some b1, some b10] [zac ([] ++ ([] ++ [])), zac [(zaa false), (zad none 0 0)], zac [(zaa negative10), (zad none 0 0)]] := hp12.1
   have K17 := ks w hp12.2
   have hp13 := hL18.pick [1, 2, 0] rfl rfl rfl
   have hL19 : vL w w15 [some b1, some b10, none] [zac [(zaa false), (zad none 0 0)], zac [(zaa negative10), (osv none 0 (List.length ([] : (List Int))) 0)], zac ([] ++ ([] ++ []))] := hp13.1
   have K18 := ks w hp13.2
   have f11 := ((zcp (r := (rInt .u32))).mono (K18 None))
   refine zce hl10 (fun (ss : ((List Int) × Int)) (e : Env) (w' : World) => match ss with | (digits11, i10) => ∃ (ob11 : Option Nat) (cap11 : Nat) (sp11 : List Value) (cs11 : List Value) (ln11 : Nat) (u : Env), e = upds [(1, v8), (4, (zao (some ⟨b1, 0, none⟩))), (5, (zao (some ⟨b10, 0, none⟩))), (6, (zab .i64 i10))] u ∧ vL w w' [some b1, some b10, ob11] [zac [(zaa false), (zad none 0 0)], zac [(zaa negative10), (osv ob11 0 ln11 cap11)], zac ([] ++ (cs11 ++ sp11))] ∧ Keep w.heap.size [some b1, some b10] w15 [some b1, some b10, ob11] w' ∧ Els (rInt .u32) (vH w None [some b1, some b10, ob11] w') cs11 digits11 ∧ ln11 = List.length digits11 ∧ (cs11 ++ sp11).length = cap11 * (rInt .u32).sz ∧ True) ⟨none, 0, [], [], (List.length ([] : (List Int))), _, (zdt ⟨rfl, rfl, rfl, rfl, trivial⟩), hL19, (zaq K17 K18), f11, rfl, (show ([] ++ [] : List Value).length = 0 * (rInt .u32).sz by simp), trivial⟩ ?_
   rintro ⟨digits11, i10⟩ oo _ w16 ⟨ob11, cap11, sp11, cs11, ln11, u, rfl, hL20, K19, hE11, rfl, hc11, -⟩ h hd10
   rw [rbig_b1] at h
   refine zaj (zaj (zah rfl (zaf (zai (v := (zab .i64 i10)) rfl ?_))))
   refine zaf (zai (v := v8) rfl ?_)
   have f12 := ((k9.mono (K16 S)).mono (K19 S))
   refine zaf (zbd (v := v8) zay rfl f12 ?_)
   refine zaf (zcj (x := i10) (y := (r6.length : Int)) ((i10 : Int) < (r6.length : Int)) rfl rfl zbk ?_)
   refine zan ?_
   refine zbe ((i10 : Int) < (r6.length : Int)) rfl (fun hc12 => ?_) (fun hc12 => ?_)
   ·
    replace h := ite_t hc12 h
    refine zbf (zaj (zbh (zaj (zah rfl (zaf (zai (v := v8) rfl ?_))))))
    refine zaf (zai (v := (zab .i64 i10)) rfl ?_)
    obtain ⟨x10, q10, h⟩ := zdo h
    obtain ⟨n10, q11, q12⟩ := zdu q10
    obtain ⟨b13, o10, c10, vs10, q13, q14, f13, q15⟩ := zcw f12 q12
    obtain rfl := q15
    refine zaf (zbw (r := (rInt .i64)) (v := v8) (n := n10) (m := (o10 + n10 * (rInt .i64).sz)) zay ti3 rfl q13 rfl q11 q12 rfl ?_)
    refine zaf (zck (v := (zab .i64 x10)) zbv rfl rfl zdy f13 ?_)
    refine zaf (zbp (x := x10) (z := (uw32 x10)) zbv zat rfl rfl ?_)
    refine zaf (zak (v := (zab .u32 (uw32 x10))) rfl ?_)
    refine zan (zaj (zaj (zah rfl (zaf (zai (v := (zab .i64 i10)) rfl ?_)))))
    refine zaf (zby (x := i10) (y := 1) (z := (iw (i10 + 1))) rfl rfl rfl ?_)
    refine zaf (zai (v := v8) rfl ?_)
    refine zaf (zbd (v := v8) zay rfl f12 ?_)
    refine zaf (zcj (x := (iw (i10 + 1))) (y := (r6.length : Int)) (((iw (i10 + 1)) : Int) < (r6.length : Int)) rfl rfl zbk ?_)
    refine zan ?_
    obtain ⟨s12, h, g12⟩ := zdo h
    refine zbr (fun e w' => ∃ (d10 : Int) (u : Env), d10 = s12 ∧ e = upds [(1, v8), (4, (zao (some ⟨b1, 0, none⟩))), (5, (zao (some ⟨b10, 0, none⟩))), (6, (zab .i64 i10)), (7, (zab .u32 d10))] u ∧ vL w w' [some b1, some b10, ob11] [zac [(zaa false), (zad none 0 0)], zac [(zaa negative10), (osv ob11 0 digits11.length cap11)], zac ([] ++ (cs11 ++ sp11))] ∧ Keep w.heap.size [some b1, some b10, ob11] w16 [some b1, some b10, ob11] w' ∧ True) ?_ ?_
    ·
     refine zbe (((iw (i10 + 1)) : Int) < (r6.length : Int)) rfl (fun hc13 => ?_) (fun hc13 => ?_)
     ·
      replace h := ite_t hc13 h
      refine zah rfl (zaf (zai (v := (zab .u32 (uw32 x10))) rfl ?_))
      refine zaf (zai (v := v8) rfl ?_)
      refine zaf (zai (v := (zab .i64 i10)) rfl ?_)
      refine zaf (zby (x := i10) (y := 1) (z := (iw (i10 + 1))) rfl rfl rfl ?_)
      obtain ⟨x11, q16, h⟩ := zdo h
      obtain ⟨n11, q17, q18⟩ := zdu q16
      obtain ⟨b14, o11, c11, vs11, q19, q20, f14, q21⟩ := zcw f12 q18
      obtain rfl := q21
      refine zaf (zbw (r := (rInt .i64)) (v := v8) (n := n11) (m := (o11 + n11 * (rInt .i64).sz)) zay ti3 rfl q19 rfl q17 q18 rfl ?_)
      refine zaf (zck (v := (zab .i64 x11)) zbv rfl rfl zdy f14 ?_)
      refine zaf (zbp (x := x11) (z := (uw32 x11)) zbv zat rfl rfl ?_)
      refine zaf (OpY.mul (x := 65536) (y := (uw32 x11)) (z := (uw32 (65536 * (uw32 x11)))) rfl rfl rfl ?_)
      refine zaf (zby (x := (uw32 x10)) (y := (uw32 (65536 * (uw32 x11)))) (z := (uw32 ((uw32 x10) + (uw32 (65536 * (uw32 x11)))))) rfl rfl rfl ?_)
      refine zaf (zak (v := (zab .u32 (uw32 ((uw32 x10) + (uw32 (65536 * (uw32 x11))))))) rfl ?_)
      refine zan ?_
      obtain rfl := zag h
      refine zar ?_
      exact ⟨(uw32 ((uw32 x10) + (uw32 (65536 * (uw32 x11))))), _, rfl, (zdt ⟨rfl, rfl, rfl, rfl, rfl, trivial⟩), hL20, zbo, trivial⟩
     ·
      replace h := ite_f hc13 h
      refine zbf ?_
      obtain rfl := zag h
      refine zar ?_
      exact ⟨(uw32 x10), _, rfl, (zdt ⟨rfl, rfl, rfl, rfl, rfl, trivial⟩), hL20, zbo, trivial⟩
    ·
     rintro _ w17 ⟨d10, u, rfl, rfl, hL21, K20, -⟩
     replace h := g12
     try dsimp only at h
     refine zah rfl (zaf (zas (q := 1) zam rfl ti24 rfl rfl rfl ?_))
     refine zaf (zaz (v := (osv ob11 0 digits11.length cap11)) zal rfl rfl (hL21.at 1 rfl rfl) rfl ?_)
     refine zaf (zai (v := (zab .u32 d10)) rfl ?_)
     have hE12 : Els (rInt .u32) (vH w None [some b1, some b10, ob11] w17) [(zab .u32 d10)] [d10] := (zcg (a := [(zab .u32 d10)]) rfl zcp)
     refine zaf (zch (r := (rInt .u32)) (vs := [(zab .u32 d10)]) (css := [[(zab .u32 d10)]]) (xs := [d10]) zal ti89 (zae rfl) rfl rfl ⟨rfl, rfl, trivial⟩ (zae rfl) hE12 rfl hL21 ?_)
     intro b15 w18 hc14 hL22 hS14
     have K21 := ks w hS14
     obtain ⟨x12, q22, h⟩ := zdo h
     obtain ⟨q23, q24, q25⟩ := zeb q22
     have f15 := (hE12.mono (K21 None))
     have f16 := ((hE11.mono (K20 None)).mono (K21 None))
     refine zaf (zdk (r := (rInt .u32)) (H := (vH w None [some b15, some b1, some b10, ob11] w18)) (cs := cs11) (sp := sp11) (xs := digits11) (ys := [d10]) (Y := x12) (n := digits11.length) (cap := cap11) (i := 3) zal ti89 rfl rfl rfl rfl hL22 rfl rfl f16 rfl hc11 (Src.row (pre := []) (o := 0) (n := 1) (cap := 1) (hL22.at 0 rfl rfl) f15 rfl rfl rfl) (Els.anyH (fun _ _ _ _ h => h) f15) q23 q24 q25 ?_)
     intro ob12 cap12 sp12 cs12 w19 hE13 hc15 (hL23 : vL w w19 [some b15, some b1, some b10, ob12] [zac ([] ++ ([(zab .u32 d10)] ++ [])), zac [(zaa false), (zad none 0 0)], zac [(zaa negative10), (osv ob11 0 digits11.length cap11)], zac ([] ++ (cs12 ++ sp12))]) hS15
     have K22 := ks w hS15
     refine zaf (zas (q := 1) zam rfl ti24 rfl rfl rfl ?_)
     refine zcc (zbn (vs := [(osv ob12 0 x12.length cap12)]) ti24 rfl rfl (zec (zea _ _ _ _)) rfl (zds (zea _ _ _ _) zdw) hL23 2 rfl rfl (zae rfl) ?_)
     intro w20 (hL24 : vL w w20 [some b15, some b1, some b10, ob12] [zac ([] ++ ([(zab .u32 d10)] ++ [])), zac [(zaa false), (zad none 0 0)], zac [(zaa negative10), (osv ob12 0 x12.length cap12)], zac ([] ++ (cs12 ++ sp12))]) hS16
     have K23 := ks w hS16
     refine zan (zbt (zah rfl (zaf (zai (v := (zab .i64 i10)) rfl ?_))))
     refine zaf (zby (x := i10) (y := 2) (z := (iw (i10 + 2))) rfl rfl rfl ?_)
     refine zaf (zak (v := (zab .i64 (iw (i10 + 2)))) rfl ?_)
     refine zan ?_
     have hp14 := hL24.pick [1, 2, 3] rfl rfl rfl
     have hL25 : vL w w20 [some b1, some b10, ob12] [zac [(zaa false), (zad none 0 0)], zac [(zaa negative10), (osv ob12 0 x12.length cap12)], zac ([] ++ (cs12 ++ sp12))] := hp14.1
     have K24 := ks w hp14.2
     have f17 := (((hE13.mono (K22 None)).mono (K23 None)).mono (K24 None))
     obtain rfl := zag h
     refine zar ⟨(x12, (iw (i10 + 2))), rfl, ?_⟩
     exact ⟨ob12, cap12, sp12, cs12, x12.length, _, (zdt ⟨rfl, rfl, rfl, rfl, trivial⟩), hL25, (zaq (zaq (zaq (zaq (zaq K19 K20) K21) K22) K23) K24), f17, rfl, hc15, trivial⟩
   ·
    replace h := ite_f hc12 h
    refine zcm rfl ?_
    obtain rfl := zag h
    obtain rfl := hd10 _ rfl
    replace h := g11
    try dsimp only at h
    skip
    refine zar ?_
    exact ⟨digits11, ob11, cap11, sp11, cs11, digits11.length, _, rfl, (zdt ⟨rfl, rfl, trivial⟩), hL20, K19, hE11, rfl, hc11, trivial⟩
  ·
   rintro _ w21 ⟨digits10, ob10, cap10, sp10, cs10, ln10, u, rfl, rfl, hL26, K25, hE14, rfl, hc16, -⟩
   replace h := g11
   try dsimp only at h
   refine zaj (zah rfl (zaf (zbm (vs := [(zaa negative10), (osv ob10 0 digits10.length cap10)]) zam rfl ti26 rfl (hL26.at 1 rfl rfl) rfl rfl ?_)))
   refine zcc (zbn (vs := [(zaa negative10), (osv ob10 0 digits10.length cap10)]) ti26 rfl rfl rfl rfl (zds rfl (zds (zea _ _ _ _) zdw)) hL26 0 rfl rfl (zae rfl) ?_)
   intro w22 (hL27 : vL w w22 [some b1, some b10, ob10] [zac [(zaa negative10), (osv ob10 0 digits10.length cap10)], zac [(zaa negative10), (osv ob10 0 digits10.length cap10)], zac ([] ++ (cs10 ++ sp10))]) hS17
   have K26 := ks w hS17
   refine zan ?_
   have f18 := (hE14.mono (K26 None))
   have f19 := hL27.freezeRow 2 rfl rfl f18 rfl rfl rfl hc16
   have hp15 := hL27.pick [0, 1] rfl rfl rfl
   have hL28 : vL w w22 [some b1, some b10] [zac [(zaa negative10), (osv ob10 0 digits10.length cap10)], zac [(zaa negative10), (osv ob10 0 digits10.length cap10)]] := hp15.1
   refine zbj ?_
   obtain rfl := zag h
   refine ⟨[(zap #[(zaa negative10), (osv ob10 0 digits10.length cap10)])], ⟨⟨⟨b1, 0, none⟩, rfl, zdz zam rfl ti26 (hL28.at 0 rfl rfl) rfl⟩, trivial⟩, ⟨_, rfl, hL28.done, ?_⟩⟩
   exact ⟨(osv ob10 0 digits10.length cap10), rfl, (f19.mono zdi), trivial⟩
theorem rorder_w (N : Nat) (a : (List Int)) (b : (List Int)) (a_v : Value) (b_v : Value) (w : World) (S : Nat → Prop) (a_h : Rs (rInt .i64) (vH w S [] w) a_v a) (b_h : Rs (rInt .i64) (vH w S [] w) b_v b) (r : Int) (h : rorder N a b = some r) :
  Calls Try.prog 64 #[a_v, b_v] w (Ret w (fun v w' => (zab .i64 r) = v ∧ True)) := by
 unfold rorder at h
 have hL : vL w w [] [] := Go.X.Loc.begin0 w
 refine calls_of (l := [a_v, b_v]) (rl := [.tmp 4]) (n := 41) Try.func64 rfl rfl rfl (zae rfl) ?_
 refine zaj (zah rfl (zaf (zak (v := (zab .i64 0)) rfl ?_)))
 refine zan (zaj (zaj (zah rfl (zaf (zai (v := a_v) rfl ?_)))))
 refine zaf (zbd (v := a_v) zay rfl a_h ?_)
 refine zaf (zai (v := b_v) rfl ?_)
 refine zaf (zbd (v := b_v) zay rfl b_h ?_)
 refine zaf (OpY.neq (x := (a.length : Int)) (y := (b.length : Int)) (((a.length : Int) : Int) ≠ (b.length : Int)) rfl rfl zbk ?_)
 refine zan ?_
 refine zbe (((a.length : Int) : Int) ≠ (b.length : Int)) rfl (fun hc1 => ?_) (fun hc1 => ?_)
 ·
  replace h := ite_t hc1 h
  refine zaj (zaj (zah rfl (zaf (zai (v := a_v) rfl ?_))))
  refine zaf (zbd (v := a_v) zay rfl a_h ?_)
  refine zaf (zai (v := b_v) rfl ?_)
  refine zaf (zbd (v := b_v) zay rfl b_h ?_)
  refine zaf (zcj (x := (a.length : Int)) (y := (b.length : Int)) (((a.length : Int) : Int) < (b.length : Int)) rfl rfl zbk ?_)
  refine zan ?_
  refine zbe (((a.length : Int) : Int) < (b.length : Int)) rfl (fun hc2 => ?_) (fun hc2 => ?_)
  ·
   replace h := ite_t hc2 h
   refine zaj (zah rfl (zaf (zak (v := (zab .i64 (-1))) rfl ?_)))
   refine zan (zbj ?_)
   obtain rfl := zag h
   refine ⟨[(zab .i64 (-1))], ⟨rfl, trivial⟩, ⟨_, rfl, hL.done, ?_⟩⟩
   exact ⟨rfl, trivial⟩
  ·
   replace h := ite_f hc2 h
   refine zbf (zaj (zah rfl (zaf (zak (v := (zab .i64 1)) rfl ?_))))
   refine zan (zbj ?_)
   obtain rfl := zag h
   refine ⟨[(zab .i64 1)], ⟨rfl, trivial⟩, ⟨_, rfl, hL.done, ?_⟩⟩
   exact ⟨rfl, trivial⟩
 ·
  replace h := ite_f hc1 h
  refine zbf (zaj (zaj (zah rfl (zaf (zai (v := a_v) rfl ?_)))))
  refine zaf (zbd (v := a_v) zay rfl a_h ?_)
  refine zaf (zdb (x := (a.length : Int)) (y := 1) (z := (iw ((a.length : Int) - 1))) rfl rfl rfl ?_)
  refine zaf (zak (v := (zab .i64 (iw ((a.length : Int) - 1)))) rfl ?_)
  refine zan ?_
  obtain ⟨s10, hl10, g10⟩ := zdo h
  refine zbr (fun e w' => ∃  (u : Env), (Sum.inl ()) = s10 ∧ e = upds [] u ∧ vL w w' [] [] ∧ Keep w.heap.size [] w [] w' ∧ True) ?_ ?_
  ·
   refine zbh ?_
   refine zce hl10 (fun (ss : Int) (e : Env) (w' : World) => match ss with | i10 => ∃ (u : Env), e = upds [(0, a_v), (1, b_v), (5, (zab .i64 i10))] u ∧ vL w w' [] [] ∧ Keep w.heap.size [] w [] w' ∧ True) ⟨_, (zdt ⟨rfl, rfl, rfl, trivial⟩), hL, zbo, trivial⟩ ?_
   rintro i10 oo _ w10 ⟨u, rfl, hL10, K10, -⟩ h hd10
   rw [rorder_b1] at h
   refine zaj (zaj (zah rfl (zaf (zai (v := (zab .i64 i10)) rfl ?_))))
   refine zaf (OpY.geq (x := i10) (y := 0) ((i10 : Int) ≥ 0) rfl rfl zbk ?_)
   refine zan ?_
   refine zbe ((i10 : Int) ≥ 0) rfl (fun hc10 => ?_) (fun hc10 => ?_)
   ·
    replace h := ite_t hc10 h
    refine zbf (zaj (zbh (zaj (zaj ?_))))
    obtain ⟨x10, q10, h⟩ := zdo h
    obtain ⟨n10, q11, q12⟩ := zdu q10
    have f10 := (a_h.mono (K10 S))
    obtain ⟨b10, o10, c10, vs10, q13, q14, f11, q15⟩ := zcw f10 q12
    obtain rfl := q15
    obtain ⟨x11, q16, h⟩ := zdo h
    obtain ⟨n11, q17, q18⟩ := zdu q16
    have f12 := (b_h.mono (K10 S))
    obtain ⟨b11, o11, c11, vs11, q19, q20, f13, q21⟩ := zcw f12 q18
    obtain rfl := q21
    refine zcf 8 [] [] (fun W1 => [.det a_v, .det (zab .i64 i10), .det (zao (some ⟨b10, (o10 + n10 * (rInt .i64).sz), none⟩)), .det (zab .i64 x10), .det b_v, .det (zab .i64 i10), .det (zao (some ⟨b11, (o11 + n11 * (rInt .i64).sz), none⟩)), .det (zab .i64 x11)]) mixed rfl rfl rfl (fun _ => rfl) (fun _ => rfl) ?_ ?_
    ·
     intro W1 _
     exact trivial
    ·
     intro w11 hE10
     have hL11 := hL10.ext hE10
     have K11 := ke hL10 hE10
     refine zau (fun _ _ => zav (zai rfl (er rfl))) ?_
     refine zau (fun _ _ => zav (zai rfl (er rfl))) ?_
     refine zau (fun _ _ => zav (zbw (r := (rInt .i64)) (v := a_v) (n := n10) (m := (o10 + n10 * (rInt .i64).sz)) zay ti3 rfl q13 rfl q11 q12 rfl (er rfl))) ?_
     refine zau (fun _ hE14 => zav (zck zbv rfl rfl zdy (zcz ((ke hL11 hE14) S) (zcz (K11 S) f11)) (er rfl))) ?_
     refine zau (fun _ _ => zav (zai rfl (er rfl))) ?_
     refine zau (fun _ _ => zav (zai rfl (er rfl))) ?_
     refine zau (fun _ _ => zav (zbw (r := (rInt .i64)) (v := b_v) (n := n11) (m := (o11 + n11 * (rInt .i64).sz)) zay ti3 rfl q19 rfl q17 q18 rfl (er rfl))) ?_
     refine zau (fun _ hE18 => zav (zck zbv rfl rfl zdy (zcz ((ke hL11 hE18) S) (zcz (K11 S) f13)) (er rfl))) ?_
     refine zco ?_
     rintro w20 Z18 hE19 hZ18 ⟨-⟩ ap10
     have hB10 : ∀ b, some b ∈ ([] : List (Option Nat)) → w11.heap.size ≤ b ∧ ¬ Z18 b := by
      intro b hb; cases hb
     have hL12 := hL11.ext hE19
     have K14 := ke hL11 hE19
     refine zaf (zcj (x := x10) (y := x11) ((x10 : Int) < x11) rfl rfl zbk ?_)
     refine zan ?_
     refine zbe ((x10 : Int) < x11) rfl (fun hc11 => ?_) (fun hc11 => ?_)
     ·
      replace h := ite_t hc11 h
      refine zaj (zah rfl (zaf (zak (v := (zab .i64 (-1))) rfl ?_)))
      refine zan (zbj ?_)
      obtain rfl := zag h
      obtain rfl := hd10 _ rfl
      replace h := g10
      try dsimp only at h
      obtain rfl := zag h
      refine ⟨[(zab .i64 (-1))], ⟨rfl, trivial⟩, ⟨_, rfl, hL12.done, ?_⟩⟩
      exact ⟨rfl, trivial⟩
     ·
      replace h := ite_f hc11 h
      refine zbf (zaj ?_)
      obtain ⟨x12, q22, h⟩ := zdo h
      obtain ⟨n12, q23, q24⟩ := zdu q22
      have f14 := ((f10.mono (K11 S)).mono (K14 S))
      obtain ⟨b12, o12, c12, vs12, q25, q26, f15, q27⟩ := zcw f14 q24
      obtain rfl := q27
      obtain ⟨x13, q28, h⟩ := zdo h
      obtain ⟨n13, q29, q30⟩ := zdu q28
      have f16 := ((f12.mono (K11 S)).mono (K14 S))
      obtain ⟨b13, o13, c13, vs13, q31, q32, f17, q33⟩ := zcw f16 q30
      obtain rfl := q33
      refine zcf 8 [] [] (fun W1 => [.det a_v, .det (zab .i64 i10), .det (zao (some ⟨b12, (o12 + n12 * (rInt .i64).sz), none⟩)), .det (zab .i64 x12), .det b_v, .det (zab .i64 i10), .det (zao (some ⟨b13, (o13 + n13 * (rInt .i64).sz), none⟩)), .det (zab .i64 x13)]) mixed rfl rfl rfl (fun _ => rfl) (fun _ => rfl) ?_ ?_
      ·
       intro W1 _
       exact trivial
      ·
       intro w21 hE20
       have hL13 := hL12.ext hE20
       have K15 := ke hL12 hE20
       refine zau (fun _ _ => zav (zai rfl (er rfl))) ?_
       refine zau (fun _ _ => zav (zai rfl (er rfl))) ?_
       refine zau (fun _ _ => zav (zbw (r := (rInt .i64)) (v := a_v) (n := n12) (m := (o12 + n12 * (rInt .i64).sz)) zay ti3 rfl q25 rfl q23 q24 rfl (er rfl))) ?_
       refine zau (fun _ hE24 => zav (zck zbv rfl rfl zdy (zcz ((ke hL13 hE24) S) (zcz (K15 S) f15)) (er rfl))) ?_
       refine zau (fun _ _ => zav (zai rfl (er rfl))) ?_
       refine zau (fun _ _ => zav (zai rfl (er rfl))) ?_
       refine zau (fun _ _ => zav (zbw (r := (rInt .i64)) (v := b_v) (n := n13) (m := (o13 + n13 * (rInt .i64).sz)) zay ti3 rfl q31 rfl q29 q30 rfl (er rfl))) ?_
       refine zau (fun _ hE28 => zav (zck zbv rfl rfl zdy (zcz ((ke hL13 hE28) S) (zcz (K15 S) f17)) (er rfl))) ?_
       refine zco ?_
       rintro w30 Z27 hE29 hZ27 ⟨-⟩ ap11
       have hB11 : ∀ b, some b ∈ ([] : List (Option Nat)) → w21.heap.size ≤ b ∧ ¬ Z27 b := by
        intro b hb; cases hb
       have hL14 := hL13.ext hE29
       have K18 := ke hL13 hE29
       refine zaf (zdm (x := x12) (y := x13) ((x12 : Int) > x13) rfl rfl zbk ?_)
       refine zan ?_
       refine zbe ((x12 : Int) > x13) rfl (fun hc12 => ?_) (fun hc12 => ?_)
       ·
        replace h := ite_t hc12 h
        refine zaj (zah rfl (zaf (zak (v := (zab .i64 1)) rfl ?_)))
        refine zan (zbj ?_)
        obtain rfl := zag h
        obtain rfl := hd10 _ rfl
        replace h := g10
        try dsimp only at h
        obtain rfl := zag h
        refine ⟨[(zab .i64 1)], ⟨rfl, trivial⟩, ⟨_, rfl, hL14.done, ?_⟩⟩
        exact ⟨rfl, trivial⟩
       ·
        replace h := ite_f hc12 h
        refine zbf (zbt (zah rfl (zaf (zai (v := (zab .i64 i10)) rfl ?_))))
        refine zaf (zdb (x := i10) (y := 1) (z := (iw (i10 - 1))) rfl rfl rfl ?_)
        refine zaf (zak (v := (zab .i64 (iw (i10 - 1)))) rfl ?_)
        refine zan ?_
        obtain rfl := zag h
        refine zar ⟨(iw (i10 - 1)), rfl, ?_⟩
        exact ⟨_, (zdt ⟨rfl, rfl, rfl, trivial⟩), hL14, (zaq (zaq (zaq (zaq K10 K11) K14) K15) K18), trivial⟩
   ·
    replace h := ite_f hc10 h
    refine zcm rfl ?_
    obtain rfl := zag h
    obtain rfl := hd10 _ rfl
    replace h := g10
    try dsimp only at h
    skip
    refine zar ?_
    exact ⟨_, rfl, (zdt trivial), hL10, K10, trivial⟩
  ·
   rintro _ w31 ⟨u, rfl, rfl, hL15, K19, -⟩
   replace h := g10
   try dsimp only at h
   refine zaj (zah rfl (zaf (zak (v := (zab .i64 0)) rfl ?_)))
   refine zan (zbj ?_)
   obtain rfl := zag h
   refine ⟨[(zab .i64 0)], ⟨rfl, trivial⟩, ⟨_, rfl, hL15.done, ?_⟩⟩
   exact ⟨rfl, trivial⟩
theorem rplus_w (N : Nat) (a : (List Int)) (b : (List Int)) (a_v : Value) (b_v : Value) (w : World) (S : Nat → Prop) (a_h : Rs (rInt .i64) (vH w S [] w) a_v a) (b_h : Rs (rInt .i64) (vH w S [] w) b_v b) (r : (List Int)) (h : rplus N a b = some r) :
  Calls Try.prog 69 #[a_v, b_v] w (Ret w (fun v w' => ∃ (v0_0 : Value), v0_0 = v ∧ Rs (rInt .i64) (vH w None [] w') v0_0 r ∧ True)) := by
 unfold rplus at h
 have hL : vL w w [] [] := Go.X.Loc.begin0 w
 refine calls_of (l := [a_v, b_v]) (rl := [.tmp 4]) (n := 54) Try.func69 rfl rfl rfl (zae rfl) ?_
 refine zaj (zah rfl (zaf (zak (v := (zad none 0 0)) rfl ?_)))
 refine zan (zaj (zah rfl (zaf (OpY.litRow0 zay ti3 hL ?_))))
 intro b1 w5 hL6 hS8
 have hE9 : Els (rInt .i64) (vH w None [] w) [] [] := zcp
 have K7 := ks w hS8
 refine zaf (zak (v := (osv (some b1) 0 (List.length ([] : (List Int))) 0)) rfl ?_)
 refine zan (zaj (zah rfl (zaf (zak (v := (zab .i64 0)) rfl ?_))))
 refine zan (zaj (zaj (zah rfl (zaf (zak (v := (zab .i64 0)) rfl ?_)))))
 refine zan ?_
 obtain ⟨s10, hl10, g10⟩ := zdo h
 refine zbr (fun e w' => ∃ (out10 : (List Int)) (ob10 : Option Nat) (cap10 : Nat) (sp10 : List Value) (cs10 : List Value) (ln10 : Nat) (u : Env), out10 = s10 ∧ e = upds [(5, (osv ob10 0 ln10 cap10))] u ∧ vL w w' [ob10] [zac ([] ++ (cs10 ++ sp10))] ∧ Keep w.heap.size [some b1] w5 [ob10] w' ∧ Els (rInt .i64) (vH w None [ob10] w') cs10 out10 ∧ ln10 = List.length out10 ∧ (cs10 ++ sp10).length = cap10 * (rInt .i64).sz ∧ True) ?_ ?_
 ·
  refine zbh ?_
  have f10 := (hE9.mono (K7 None))
  refine zce hl10 (fun (ss : ((List Int) × Int × Int)) (e : Env) (w' : World) => match ss with | (out11, carry10, i10) => ∃ (ob11 : Option Nat) (cap11 : Nat) (sp11 : List Value) (cs11 : List Value) (ln11 : Nat) (u : Env), e = upds [(0, a_v), (1, b_v), (5, (osv ob11 0 ln11 cap11)), (6, (zab .i64 carry10)), (7, (zab .i64 i10))] u ∧ vL w w' [ob11] [zac ([] ++ (cs11 ++ sp11))] ∧ Keep w.heap.size [some b1] w5 [ob11] w' ∧ Els (rInt .i64) (vH w None [ob11] w') cs11 out11 ∧ ln11 = List.length out11 ∧ (cs11 ++ sp11).length = cap11 * (rInt .i64).sz ∧ True) ⟨some b1, 0, [], [], (List.length ([] : (List Int))), _, (zdt ⟨rfl, rfl, rfl, rfl, rfl, trivial⟩), hL6, zbo, f10, rfl, (show ([] ++ [] : List Value).length = 0 * (rInt .i64).sz by simp), trivial⟩ ?_
  rintro ⟨out11, carry10, i10⟩ oo _ w10 ⟨ob11, cap11, sp11, cs11, ln11, u, rfl, hL10, K10, hE10, rfl, hc10, -⟩ h hd10
  rw [rplus_b1] at h
  refine zaj (zaj ?_)
  obtain ⟨s11, h, g11⟩ := zdo h
  refine zbr (fun e w' => ∃ (x10 : Bool) (u : Env), x10 = s11 ∧ e = upds [(0, a_v), (1, b_v), (5, (osv ob11 0 out11.length cap11)), (6, (zab .i64 carry10)), (7, (zab .i64 i10)), (22, (zaa x10))] u ∧ vL w w' [ob11] [zac ([] ++ (cs11 ++ sp11))] ∧ Keep w.heap.size [ob11] w10 [ob11] w' ∧ True) ?_ ?_
  ·
   refine zah rfl (zaf (zai (v := (zab .i64 i10)) rfl ?_))
   refine zaf (zai (v := a_v) rfl ?_)
   have f11 := ((a_h.mono (K7 S)).mono (K10 S))
   refine zaf (zbd (v := a_v) zay rfl f11 ?_)
   refine zaf (zcj (x := i10) (y := (a.length : Int)) ((i10 : Int) < (a.length : Int)) rfl rfl zbk ?_)
   refine zaf (zai (v := (zaa (decide ((i10 : Int) < (a.length : Int))))) rfl ?_)
   by_cases hc11 : (i10 : Int) < (a.length : Int)
   ·
    replace h := ite_t hc11 h
    refine zbq rfl rfl (zdr hc11) ?_
    refine zbq rfl rfl (zdr hc11) ?_
    refine zbq rfl rfl (zdr hc11) ?_
    refine zbq rfl rfl (zdr hc11) ?_
    refine zaf (zci (t := (decide ((i10 : Int) < (a.length : Int)))) (v := (zaa true)) rfl (zdr hc11) rfl ?_)
    refine zaf (zai (v := (zaa true)) rfl ?_)
    refine zbq rfl rfl rfl ?_
    refine zbq rfl rfl rfl ?_
    refine zaf (zci (t := true) (v := (zaa true)) rfl rfl rfl ?_)
    refine zan ?_
    obtain rfl := zag h
    refine zar ?_
    exact ⟨true, _, rfl, (zdt ⟨rfl, rfl, rfl, rfl, rfl, rfl, trivial⟩), hL10, zbo, trivial⟩
   ·
    replace h := ite_f hc11 h
    refine zbu rfl rfl (zdq hc11) (zai (v := (zab .i64 i10)) rfl ?_)
    refine zbu rfl rfl (zdq hc11) (zai (v := b_v) rfl ?_)
    have f12 := ((b_h.mono (K7 S)).mono (K10 S))
    refine zbu rfl rfl (zdq hc11) (zbd (v := b_v) zay rfl f12 ?_)
    refine zbu rfl rfl (zdq hc11) (zcj (x := i10) (y := (b.length : Int)) ((i10 : Int) < (b.length : Int)) rfl rfl zbk ?_)
    refine zaf (zbx (t := (decide ((i10 : Int) < (a.length : Int)))) (v := (zaa (decide ((i10 : Int) < (b.length : Int))))) rfl (zdq hc11) rfl ?_)
    refine zaf (zai (v := (zaa (decide ((i10 : Int) < (b.length : Int))))) rfl ?_)
    by_cases hc12 : (i10 : Int) < (b.length : Int)
    ·
     replace h := ite_t hc12 h
     refine zbq rfl rfl (zdr hc12) ?_
     refine zbq rfl rfl (zdr hc12) ?_
     refine zaf (zci (t := (decide ((i10 : Int) < (b.length : Int)))) (v := (zaa true)) rfl (zdr hc12) rfl ?_)
     refine zan ?_
     obtain rfl := zag h
     refine zar ?_
     exact ⟨true, _, rfl, (zdt ⟨rfl, rfl, rfl, rfl, rfl, rfl, trivial⟩), hL10, zbo, trivial⟩
    ·
     replace h := ite_f hc12 h
     refine zbu rfl rfl (zdq hc12) (zai (v := (zab .i64 carry10)) rfl ?_)
     refine zbu rfl rfl (zdq hc12) (zdm (x := carry10) (y := 0) ((carry10 : Int) > 0) rfl rfl zbk ?_)
     refine zaf (zbx (t := (decide ((i10 : Int) < (b.length : Int)))) (v := (zaa (decide ((carry10 : Int) > 0)))) rfl (zdq hc12) rfl ?_)
     refine zan ?_
     obtain rfl := zag h
     refine zar ?_
     exact ⟨(decide ((carry10 : Int) > 0)), _, rfl, (zdt ⟨rfl, rfl, rfl, rfl, rfl, rfl, trivial⟩), hL10, zbo, trivial⟩
  ·
   rintro _ w11 ⟨x10, u, rfl, rfl, hL11, K11, -⟩
   replace h := g11
   try dsimp only at h
   refine zcr x10 rfl (fun hc13 => ?_) (fun hc13 => ?_)
   ·
    replace h := ite_t hc13 h
    refine zbf (zaj (zbh (zaj (zaj (zah rfl (zaf (zai (v := (zab .i64 i10)) rfl ?_)))))))
    refine zaf (zai (v := a_v) rfl ?_)
    have f13 := (((a_h.mono (K7 S)).mono (K10 S)).mono (K11 S))
    refine zaf (zbd (v := a_v) zay rfl f13 ?_)
    refine zaf (zcj (x := i10) (y := (a.length : Int)) ((i10 : Int) < (a.length : Int)) rfl rfl zbk ?_)
    refine zan ?_
    obtain ⟨s12, h, g12⟩ := zdo h
    refine zbr (fun e w' => ∃ (carry11 : Int) (u : Env), carry11 = s12 ∧ e = upds [(0, a_v), (1, b_v), (5, (osv ob11 0 out11.length cap11)), (6, (zab .i64 carry11)), (7, (zab .i64 i10))] u ∧ vL w w' [ob11] [zac ([] ++ (cs11 ++ sp11))] ∧ Keep w.heap.size [ob11] w11 [ob11] w' ∧ True) ?_ ?_
    ·
     refine zbe ((i10 : Int) < (a.length : Int)) rfl (fun hc14 => ?_) (fun hc14 => ?_)
     ·
      replace h := ite_t hc14 h
      refine zah rfl (zaf (zai (v := (zab .i64 carry10)) rfl ?_))
      refine zaf (zai (v := a_v) rfl ?_)
      refine zaf (zai (v := (zab .i64 i10)) rfl ?_)
      obtain ⟨x11, q10, h⟩ := zdo h
      obtain ⟨n10, q11, q12⟩ := zdu q10
      obtain ⟨b10, o10, c10, vs10, q13, q14, f14, q15⟩ := zcw f13 q12
      obtain rfl := q15
      refine zaf (zbw (r := (rInt .i64)) (v := a_v) (n := n10) (m := (o10 + n10 * (rInt .i64).sz)) zay ti3 rfl q13 rfl q11 q12 rfl ?_)
      refine zaf (zck (v := (zab .i64 x11)) zbv rfl rfl zdy f14 ?_)
      refine zaf (zby (x := carry10) (y := x11) (z := (iw (carry10 + x11))) rfl rfl rfl ?_)
      refine zaf (zak (v := (zab .i64 (iw (carry10 + x11)))) rfl ?_)
      refine zan ?_
      obtain rfl := zag h
      refine zar ?_
      exact ⟨(iw (carry10 + x11)), _, rfl, (zdt ⟨rfl, rfl, rfl, rfl, rfl, trivial⟩), hL11, zbo, trivial⟩
     ·
      replace h := ite_f hc14 h
      refine zbf ?_
      obtain rfl := zag h
      refine zar ?_
      exact ⟨carry10, _, rfl, (zdt ⟨rfl, rfl, rfl, rfl, rfl, trivial⟩), hL11, zbo, trivial⟩
    ·
     rintro _ w12 ⟨carry11, u, rfl, rfl, hL12, K12, -⟩
     replace h := g12
     try dsimp only at h
     refine zaj (zaj (zah rfl (zaf (zai (v := (zab .i64 i10)) rfl ?_))))
     refine zaf (zai (v := b_v) rfl ?_)
     have f15 := ((((b_h.mono (K7 S)).mono (K10 S)).mono (K11 S)).mono (K12 S))
     refine zaf (zbd (v := b_v) zay rfl f15 ?_)
     refine zaf (zcj (x := i10) (y := (b.length : Int)) ((i10 : Int) < (b.length : Int)) rfl rfl zbk ?_)
     refine zan ?_
     obtain ⟨s13, h, g13⟩ := zdo h
     refine zbr (fun e w' => ∃ (carry12 : Int) (u : Env), carry12 = s13 ∧ e = upds [(0, a_v), (1, b_v), (5, (osv ob11 0 out11.length cap11)), (6, (zab .i64 carry12)), (7, (zab .i64 i10))] u ∧ vL w w' [ob11] [zac ([] ++ (cs11 ++ sp11))] ∧ Keep w.heap.size [ob11] w12 [ob11] w' ∧ True) ?_ ?_
     ·
      refine zbe ((i10 : Int) < (b.length : Int)) rfl (fun hc15 => ?_) (fun hc15 => ?_)
      ·
       replace h := ite_t hc15 h
       refine zah rfl (zaf (zai (v := (zab .i64 carry11)) rfl ?_))
       refine zaf (zai (v := b_v) rfl ?_)
       refine zaf (zai (v := (zab .i64 i10)) rfl ?_)
       obtain ⟨x12, q16, h⟩ := zdo h
       obtain ⟨n11, q17, q18⟩ := zdu q16
       obtain ⟨b11, o11, c11, vs11, q19, q20, f16, q21⟩ := zcw f15 q18
       obtain rfl := q21
       refine zaf (zbw (r := (rInt .i64)) (v := b_v) (n := n11) (m := (o11 + n11 * (rInt .i64).sz)) zay ti3 rfl q19 rfl q17 q18 rfl ?_)
       refine zaf (zck (v := (zab .i64 x12)) zbv rfl rfl zdy f16 ?_)
       refine zaf (zby (x := carry11) (y := x12) (z := (iw (carry11 + x12))) rfl rfl rfl ?_)
       refine zaf (zak (v := (zab .i64 (iw (carry11 + x12)))) rfl ?_)
       refine zan ?_
       obtain rfl := zag h
       refine zar ?_
       exact ⟨(iw (carry11 + x12)), _, rfl, (zdt ⟨rfl, rfl, rfl, rfl, rfl, trivial⟩), hL12, zbo, trivial⟩
      ·
       replace h := ite_f hc15 h
       refine zbf ?_
       obtain rfl := zag h
       refine zar ?_
       exact ⟨carry11, _, rfl, (zdt ⟨rfl, rfl, rfl, rfl, rfl, trivial⟩), hL12, zbo, trivial⟩
     ·
      rintro _ w13 ⟨carry12, u, rfl, rfl, hL13, K13, -⟩
      replace h := g13
      try dsimp only at h
      refine zaj (zah rfl (zaf (zai (v := (osv ob11 0 out11.length cap11)) rfl ?_)))
      refine zaf (zai (v := (zab .i64 carry12)) rfl ?_)
      refine zaf (OpY.remI (x := carry12) (y := 65536) rfl rfl (by decide) ?_)
      have hE11 : Els (rInt .i64) (vH w None [ob11] w13) [(zab .i64 (Int.tmod carry12 65536))] [(Int.tmod carry12 65536)] := (zcg (a := [(zab .i64 (Int.tmod carry12 65536))]) rfl zcp)
      refine zaf (zch (r := (rInt .i64)) (vs := [(zab .i64 (Int.tmod carry12 65536))]) (css := [[(zab .i64 (Int.tmod carry12 65536))]]) (xs := [(Int.tmod carry12 65536)]) zay ti3 (zae rfl) rfl rfl ⟨rfl, rfl, trivial⟩ (zae rfl) hE11 rfl hL13 ?_)
      intro b12 w14 hc16 hL14 hS10
      have K14 := ks w hS10
      obtain ⟨x13, q22, h⟩ := zdo h
      obtain ⟨q23, q24, q25⟩ := zeb q22
      have f17 := (hE11.mono (K14 None))
      have f18 := ((((hE10.mono (K11 None)).mono (K12 None)).mono (K13 None)).mono (K14 None))
      refine zaf (zdk (r := (rInt .i64)) (H := (vH w None [some b12, ob11] w14)) (cs := cs11) (sp := sp11) (xs := out11) (ys := [(Int.tmod carry12 65536)]) (Y := x13) (n := out11.length) (cap := cap11) (i := 1) zay ti3 rfl rfl rfl rfl hL14 rfl rfl f18 rfl hc10 (Src.row (pre := []) (o := 0) (n := 1) (cap := 1) (hL14.at 0 rfl rfl) f17 rfl rfl rfl) (Els.anyH (fun _ _ _ _ h => h) f17) q23 q24 q25 ?_)
      intro ob12 cap12 sp12 cs12 w15 hE12 hc17 (hL15 : vL w w15 [some b12, ob12] [zac ([] ++ ([(zab .i64 (Int.tmod carry12 65536))] ++ [])), zac ([] ++ (cs12 ++ sp12))]) hS11
      have K15 := ks w hS11
      refine zaf (zak (v := (osv ob12 0 x13.length cap12)) rfl ?_)
      refine zan (zah rfl (zaf (zai (v := (zab .i64 carry12)) rfl ?_)))
      refine zaf (OpY.quoI (x := carry12) (y := 65536) (z := (iw (Int.tdiv carry12 65536))) rfl rfl (by decide) rfl ?_)
      refine zaf (zak (v := (zab .i64 (iw (Int.tdiv carry12 65536)))) rfl ?_)
      refine zan (zbt (zah rfl (zaf (zai (v := (zab .i64 i10)) rfl ?_))))
      refine zaf (zby (x := i10) (y := 1) (z := (iw (i10 + 1))) rfl rfl rfl ?_)
      refine zaf (zak (v := (zab .i64 (iw (i10 + 1)))) rfl ?_)
      refine zan ?_
      have hp10 := hL15.pick [1] rfl rfl rfl
      have hL16 : vL w w15 [ob12] [zac ([] ++ (cs12 ++ sp12))] := hp10.1
      have K16 := ks w hp10.2
      have f19 := ((hE12.mono (K15 None)).mono (K16 None))
      obtain rfl := zag h
      refine zar ⟨(x13, (iw (Int.tdiv carry12 65536)), (iw (i10 + 1))), rfl, ?_⟩
      exact ⟨ob12, cap12, sp12, cs12, x13.length, _, (zdt ⟨rfl, rfl, rfl, rfl, rfl, trivial⟩), hL16, (zaq (zaq (zaq (zaq (zaq (zaq K10 K11) K12) K13) K14) K15) K16), f19, rfl, hc17, trivial⟩
   ·
    replace h := ite_f hc13 h
    refine zcm rfl ?_
    have f20 := (hE10.mono (K11 None))
    obtain rfl := zag h
    obtain rfl := hd10 _ rfl
    replace h := g10
    try dsimp only at h
    skip
    refine zar ?_
    exact ⟨out11, ob11, cap11, sp11, cs11, out11.length, _, rfl, (zdt ⟨rfl, trivial⟩), hL11, (zaq K10 K11), f20, rfl, hc10, trivial⟩
 ·
  rintro _ w16 ⟨out10, ob10, cap10, sp10, cs10, ln10, u, rfl, rfl, hL17, K17, hE13, rfl, hc18, -⟩
  replace h := g10
  try dsimp only at h
  refine zaj (zah rfl (zaf (zai (v := (osv ob10 0 out10.length cap10)) rfl ?_)))
  have f21 := hL17.freezeRow 0 rfl rfl hE13 rfl rfl rfl hc18
  have hp11 := hL17.pick [] rfl rfl rfl
  have hL18 : vL w w16 [] [] := hp11.1
  obtain ⟨r10, q26, h⟩ := zdo h
  refine zaf (zaw en82 rfl rfl (rtrim_w N out10 (osv ob10 0 out10.length cap10) _ _ (f21.mono Hv.enter) r10 q26) ?_)
  rintro _ w17 hE14 ⟨v10, rfl, k10, -⟩
  replace k10 := k10.mono (Hv.aliasO (S := None) hL18 [])
  have hL19 := hL18.ext hE14
  refine zaf (zak (v := v10) rfl ?_)
  refine zan (zbj ?_)
  obtain rfl := zag h
  refine ⟨[v10], ⟨rfl, trivial⟩, ⟨_, rfl, hL19.done, ?_⟩⟩
  exact ⟨v10, rfl, (k10.mono zdi), trivial⟩
theorem rminus_w (N : Nat) (a : (List Int)) (b : (List Int)) (a_v : Value) (b_v : Value) (w : World) (S : Nat → Prop) (a_h : Rs (rInt .i64) (vH w S [] w) a_v a) (b_h : Rs (rInt .i64) (vH w S [] w) b_v b) (r : (List Int)) (h : rminus N a b = some r) :
  Calls Try.prog 70 #[a_v, b_v] w (Ret w (fun v w' => ∃ (v0_0 : Value), v0_0 = v ∧ Rs (rInt .i64) (vH w None [] w') v0_0 r ∧ True)) := by
 unfold rminus at h
 have hL : vL w w [] [] := Go.X.Loc.begin0 w
 refine calls_of (l := [a_v, b_v]) (rl := [.tmp 4]) (n := 42) Try.func70 rfl rfl rfl (zae rfl) ?_
 refine zaj (zah rfl (zaf (zak (v := (zad none 0 0)) rfl ?_)))
 refine zan (zaj (zah rfl (zaf (OpY.litRow0 zay ti3 hL ?_))))
 intro b1 w5 hL6 hS8
 have hE9 : Els (rInt .i64) (vH w None [] w) [] [] := zcp
 have K7 := ks w hS8
 refine zaf (zak (v := (osv (some b1) 0 (List.length ([] : (List Int))) 0)) rfl ?_)
 refine zan (zaj (zah rfl (zaf (zak (v := (zab .i64 0)) rfl ?_))))
 refine zan (zaj (zaj (zah rfl (zaf (zak (v := (zab .i64 0)) rfl ?_)))))
 refine zan ?_
 obtain ⟨s10, hl10, g10⟩ := zdo h
 refine zbr (fun e w' => ∃ (out10 : (List Int)) (ob10 : Option Nat) (cap10 : Nat) (sp10 : List Value) (cs10 : List Value) (ln10 : Nat) (u : Env), out10 = s10 ∧ e = upds [(5, (osv ob10 0 ln10 cap10))] u ∧ vL w w' [ob10] [zac ([] ++ (cs10 ++ sp10))] ∧ Keep w.heap.size [some b1] w5 [ob10] w' ∧ Els (rInt .i64) (vH w None [ob10] w') cs10 out10 ∧ ln10 = List.length out10 ∧ (cs10 ++ sp10).length = cap10 * (rInt .i64).sz ∧ True) ?_ ?_
 ·
  refine zbh ?_
  have f10 := (hE9.mono (K7 None))
  refine zce hl10 (fun (ss : ((List Int) × Int × Int)) (e : Env) (w' : World) => match ss with | (out11, borrow10, i10) => ∃ (ob11 : Option Nat) (cap11 : Nat) (sp11 : List Value) (cs11 : List Value) (ln11 : Nat) (u : Env), e = upds [(0, a_v), (1, b_v), (5, (osv ob11 0 ln11 cap11)), (6, (zab .i64 borrow10)), (7, (zab .i64 i10))] u ∧ vL w w' [ob11] [zac ([] ++ (cs11 ++ sp11))] ∧ Keep w.heap.size [some b1] w5 [ob11] w' ∧ Els (rInt .i64) (vH w None [ob11] w') cs11 out11 ∧ ln11 = List.length out11 ∧ (cs11 ++ sp11).length = cap11 * (rInt .i64).sz ∧ True) ⟨some b1, 0, [], [], (List.length ([] : (List Int))), _, (zdt ⟨rfl, rfl, rfl, rfl, rfl, trivial⟩), hL6, zbo, f10, rfl, (show ([] ++ [] : List Value).length = 0 * (rInt .i64).sz by simp), trivial⟩ ?_
  rintro ⟨out11, borrow10, i10⟩ oo _ w10 ⟨ob11, cap11, sp11, cs11, ln11, u, rfl, hL10, K10, hE10, rfl, hc10, -⟩ h hd10
  rw [rminus_b1] at h
  refine zaj (zaj (zah rfl (zaf (zai (v := (zab .i64 i10)) rfl ?_))))
  refine zaf (zai (v := a_v) rfl ?_)
  have f11 := ((a_h.mono (K7 S)).mono (K10 S))
  refine zaf (zbd (v := a_v) zay rfl f11 ?_)
  refine zaf (zcj (x := i10) (y := (a.length : Int)) ((i10 : Int) < (a.length : Int)) rfl rfl zbk ?_)
  refine zan ?_
  refine zbe ((i10 : Int) < (a.length : Int)) rfl (fun hc11 => ?_) (fun hc11 => ?_)
  ·
   replace h := ite_t hc11 h
   refine zbf (zaj (zbh (zaj (zah rfl (zaf (zai (v := a_v) rfl ?_))))))
   refine zaf (zai (v := (zab .i64 i10)) rfl ?_)
   obtain ⟨x10, q10, h⟩ := zdo h
   obtain ⟨n10, q11, q12⟩ := zdu q10
   obtain ⟨b10, o10, c10, vs10, q13, q14, f12, q15⟩ := zcw f11 q12
   obtain rfl := q15
   refine zaf (zbw (r := (rInt .i64)) (v := a_v) (n := n10) (m := (o10 + n10 * (rInt .i64).sz)) zay ti3 rfl q13 rfl q11 q12 rfl ?_)
   refine zaf (zck (v := (zab .i64 x10)) zbv rfl rfl zdy f12 ?_)
   refine zaf (zai (v := (zab .i64 borrow10)) rfl ?_)
   refine zaf (zdb (x := x10) (y := borrow10) (z := (iw (x10 - borrow10))) rfl rfl rfl ?_)
   refine zaf (zak (v := (zab .i64 (iw (x10 - borrow10)))) rfl ?_)
   refine zan (zaj (zaj (zah rfl (zaf (zai (v := (zab .i64 i10)) rfl ?_)))))
   refine zaf (zai (v := b_v) rfl ?_)
   have f13 := ((b_h.mono (K7 S)).mono (K10 S))
   refine zaf (zbd (v := b_v) zay rfl f13 ?_)
   refine zaf (zcj (x := i10) (y := (b.length : Int)) ((i10 : Int) < (b.length : Int)) rfl rfl zbk ?_)
   refine zan ?_
   obtain ⟨s11, h, g11⟩ := zdo h
   refine zbr (fun e w' => ∃ (n11 : Int) (u : Env), n11 = s11 ∧ e = upds [(0, a_v), (1, b_v), (5, (osv ob11 0 out11.length cap11)), (7, (zab .i64 i10)), (8, (zab .i64 n11))] u ∧ vL w w' [ob11] [zac ([] ++ (cs11 ++ sp11))] ∧ Keep w.heap.size [ob11] w10 [ob11] w' ∧ True) ?_ ?_
   ·
    refine zbe ((i10 : Int) < (b.length : Int)) rfl (fun hc12 => ?_) (fun hc12 => ?_)
    ·
     replace h := ite_t hc12 h
     refine zah rfl (zaf (zai (v := (zab .i64 (iw (x10 - borrow10)))) rfl ?_))
     refine zaf (zai (v := b_v) rfl ?_)
     refine zaf (zai (v := (zab .i64 i10)) rfl ?_)
     obtain ⟨x11, q16, h⟩ := zdo h
     obtain ⟨n12, q17, q18⟩ := zdu q16
     obtain ⟨b11, o11, c11, vs11, q19, q20, f14, q21⟩ := zcw f13 q18
     obtain rfl := q21
     refine zaf (zbw (r := (rInt .i64)) (v := b_v) (n := n12) (m := (o11 + n12 * (rInt .i64).sz)) zay ti3 rfl q19 rfl q17 q18 rfl ?_)
     refine zaf (zck (v := (zab .i64 x11)) zbv rfl rfl zdy f14 ?_)
     refine zaf (zdb (x := (iw (x10 - borrow10))) (y := x11) (z := (iw ((iw (x10 - borrow10)) - x11))) rfl rfl rfl ?_)
     refine zaf (zak (v := (zab .i64 (iw ((iw (x10 - borrow10)) - x11)))) rfl ?_)
     refine zan ?_
     obtain rfl := zag h
     refine zar ?_
     exact ⟨(iw ((iw (x10 - borrow10)) - x11)), _, rfl, (zdt ⟨rfl, rfl, rfl, rfl, rfl, trivial⟩), hL10, zbo, trivial⟩
    ·
     replace h := ite_f hc12 h
     refine zbf ?_
     obtain rfl := zag h
     refine zar ?_
     exact ⟨(iw (x10 - borrow10)), _, rfl, (zdt ⟨rfl, rfl, rfl, rfl, rfl, trivial⟩), hL10, zbo, trivial⟩
   ·
    rintro _ w11 ⟨n11, u, rfl, rfl, hL11, K11, -⟩
    replace h := g11
    try dsimp only at h
    refine zaj (zah rfl (zaf (zak (v := (zab .i64 0)) rfl ?_)))
    refine zan (zaj (zaj (zah rfl (zaf (zai (v := (zab .i64 n11)) rfl ?_)))))
    refine zaf (zcj (x := n11) (y := 0) ((n11 : Int) < 0) rfl rfl zbk ?_)
    refine zan ?_
    obtain ⟨s12, h, g12⟩ := zdo h
    refine zbr (fun e w' => ∃ (borrow11 : Int) (n13 : Int) (u : Env), (borrow11, n13) = s12 ∧ e = upds [(0, a_v), (1, b_v), (5, (osv ob11 0 out11.length cap11)), (6, (zab .i64 borrow11)), (7, (zab .i64 i10)), (8, (zab .i64 n13))] u ∧ vL w w' [ob11] [zac ([] ++ (cs11 ++ sp11))] ∧ Keep w.heap.size [ob11] w11 [ob11] w' ∧ True) ?_ ?_
    ·
     refine zbe ((n11 : Int) < 0) rfl (fun hc13 => ?_) (fun hc13 => ?_)
     ·
      replace h := ite_t hc13 h
      refine zaj (zah rfl (zaf (zai (v := (zab .i64 n11)) rfl ?_)))
      refine zaf (zby (x := n11) (y := 65536) (z := (iw (n11 + 65536))) rfl rfl rfl ?_)
      refine zaf (zak (v := (zab .i64 (iw (n11 + 65536)))) rfl ?_)
      refine zan (zah rfl (zaf (zak (v := (zab .i64 1)) rfl ?_)))
      refine zan ?_
      obtain rfl := zag h
      refine zar ?_
      exact ⟨1, (iw (n11 + 65536)), _, rfl, (zdt ⟨rfl, rfl, rfl, rfl, rfl, rfl, trivial⟩), hL11, zbo, trivial⟩
     ·
      replace h := ite_f hc13 h
      refine zbf ?_
      obtain rfl := zag h
      refine zar ?_
      exact ⟨0, n11, _, rfl, (zdt ⟨rfl, rfl, rfl, rfl, rfl, rfl, trivial⟩), hL11, zbo, trivial⟩
    ·
     rintro _ w12 ⟨borrow11, n13, u, rfl, rfl, hL12, K12, -⟩
     replace h := g12
     try dsimp only at h
     refine zah rfl (zaf (zai (v := (osv ob11 0 out11.length cap11)) rfl ?_))
     refine zaf (zai (v := (zab .i64 n13)) rfl ?_)
     have hE11 : Els (rInt .i64) (vH w None [ob11] w12) [(zab .i64 n13)] [n13] := (zcg (a := [(zab .i64 n13)]) rfl zcp)
     refine zaf (zch (r := (rInt .i64)) (vs := [(zab .i64 n13)]) (css := [[(zab .i64 n13)]]) (xs := [n13]) zay ti3 (zae rfl) rfl rfl ⟨rfl, rfl, trivial⟩ (zae rfl) hE11 rfl hL12 ?_)
     intro b12 w13 hc14 hL13 hS10
     have K13 := ks w hS10
     obtain ⟨x12, q22, h⟩ := zdo h
     obtain ⟨q23, q24, q25⟩ := zeb q22
     have f15 := (hE11.mono (K13 None))
     have f16 := (((hE10.mono (K11 None)).mono (K12 None)).mono (K13 None))
     refine zaf (zdk (r := (rInt .i64)) (H := (vH w None [some b12, ob11] w13)) (cs := cs11) (sp := sp11) (xs := out11) (ys := [n13]) (Y := x12) (n := out11.length) (cap := cap11) (i := 1) zay ti3 rfl rfl rfl rfl hL13 rfl rfl f16 rfl hc10 (Src.row (pre := []) (o := 0) (n := 1) (cap := 1) (hL13.at 0 rfl rfl) f15 rfl rfl rfl) (Els.anyH (fun _ _ _ _ h => h) f15) q23 q24 q25 ?_)
     intro ob12 cap12 sp12 cs12 w14 hE12 hc15 (hL14 : vL w w14 [some b12, ob12] [zac ([] ++ ([(zab .i64 n13)] ++ [])), zac ([] ++ (cs12 ++ sp12))]) hS11
     have K14 := ks w hS11
     refine zaf (zak (v := (osv ob12 0 x12.length cap12)) rfl ?_)
     refine zan (zbt (zah rfl (zaf (zai (v := (zab .i64 i10)) rfl ?_))))
     refine zaf (zby (x := i10) (y := 1) (z := (iw (i10 + 1))) rfl rfl rfl ?_)
     refine zaf (zak (v := (zab .i64 (iw (i10 + 1)))) rfl ?_)
     refine zan ?_
     have hp10 := hL14.pick [1] rfl rfl rfl
     have hL15 : vL w w14 [ob12] [zac ([] ++ (cs12 ++ sp12))] := hp10.1
     have K15 := ks w hp10.2
     have f17 := ((hE12.mono (K14 None)).mono (K15 None))
     obtain rfl := zag h
     refine zar ⟨(x12, borrow11, (iw (i10 + 1))), rfl, ?_⟩
     exact ⟨ob12, cap12, sp12, cs12, x12.length, _, (zdt ⟨rfl, rfl, rfl, rfl, rfl, trivial⟩), hL15, (zaq (zaq (zaq (zaq (zaq K10 K11) K12) K13) K14) K15), f17, rfl, hc15, trivial⟩
  ·
   replace h := ite_f hc11 h
   refine zcm rfl ?_
   obtain rfl := zag h
   obtain rfl := hd10 _ rfl
   replace h := g10
   try dsimp only at h
   skip
   refine zar ?_
   exact ⟨out11, ob11, cap11, sp11, cs11, out11.length, _, rfl, (zdt ⟨rfl, trivial⟩), hL10, K10, hE10, rfl, hc10, trivial⟩
 ·
  rintro _ w15 ⟨out10, ob10, cap10, sp10, cs10, ln10, u, rfl, rfl, hL16, K16, hE13, rfl, hc16, -⟩
  replace h := g10
  try dsimp only at h
  refine zaj (zah rfl (zaf (zai (v := (osv ob10 0 out10.length cap10)) rfl ?_)))
  have f18 := hL16.freezeRow 0 rfl rfl hE13 rfl rfl rfl hc16
  have hp11 := hL16.pick [] rfl rfl rfl
  have hL17 : vL w w15 [] [] := hp11.1
  obtain ⟨r10, q26, h⟩ := zdo h
  refine zaf (zaw en82 rfl rfl (rtrim_w N out10 (osv ob10 0 out10.length cap10) _ _ (f18.mono Hv.enter) r10 q26) ?_)
  rintro _ w16 hE14 ⟨v10, rfl, k10, -⟩
  replace k10 := k10.mono (Hv.aliasO (S := None) hL17 [])
  have hL18 := hL17.ext hE14
  refine zaf (zak (v := v10) rfl ?_)
  refine zan (zbj ?_)
  obtain rfl := zag h
  refine ⟨[v10], ⟨rfl, trivial⟩, ⟨_, rfl, hL18.done, ?_⟩⟩
  exact ⟨v10, rfl, (k10.mono zdi), trivial⟩
theorem rSign_w (N : Nat) (x : Big) (x_v : Value) (w : World) (S : Nat → Prop) (x_h : Rs (rInt .u32) (vH w S [] w) x_v x.Digits) (r : Int) (h : rSign N x = some r) :
  Calls Try.prog 40 #[(zap #[(zaa x.Negative), x_v])] w (Ret w (fun v w' => (zab .i64 r) = v ∧ True)) := by
 unfold rSign at h
 have hL : vL w w [] [] := Go.X.Loc.begin0 w
 refine calls_of (l := [(zap #[(zaa x.Negative), x_v])]) (rl := [.tmp 2]) (n := 9) Try.func40 rfl rfl rfl (zae rfl) ?_
 refine zaj (zah rfl (zaf (zde (cs := [(zaa x.Negative), x_v]) rfl rfl hL ?_)))
 intro b1 w2 hL3 hS5
 have K4 := ks w hS5
 refine zaf (zak (v := (zab .i64 0)) rfl ?_)
 refine zan (zaj (zaj (zah rfl (zaf (zbm (vs := [(zaa x.Negative), x_v]) zam rfl ti26 rfl (hL3.at 0 rfl rfl) rfl rfl ?_)))))
 obtain ⟨r6, q7, h⟩ := zdo h
 have f10 := (x_h.mono (K4 S))
 refine zaf (zaw en65 rfl rfl (halves_w N x x_v _ Any (f10.mono vw_any) r6 q7) ?_)
 rintro _ w10 hE10 ⟨v8, rfl, k9, -⟩
 replace k9 := k9.mono (zba (S := None) hL3 [])
 have hL10 := hL3.ext hE10
 refine zaf (zbd (v := v8) zay rfl k9 ?_)
 refine zaf (OpY.eql (x := (r6.length : Int)) (y := 0) (((r6.length : Int) : Int) = 0) rfl rfl zbk ?_)
 refine zan ?_
 refine zbe (((r6.length : Int) : Int) = 0) rfl (fun hc10 => ?_) (fun hc10 => ?_)
 ·
  replace h := ite_t hc10 h
  refine zaj (zah rfl (zaf (zak (v := (zab .i64 0)) rfl ?_)))
  refine zan (zbj ?_)
  obtain rfl := zag h
  refine ⟨[(zab .i64 0)], ⟨rfl, trivial⟩, ⟨_, rfl, hL10.done, ?_⟩⟩
  exact ⟨rfl, trivial⟩
 ·
  replace h := ite_f hc10 h
  refine zbf (zaj (zaj (zah rfl (zaf (zas (q := 0) zam rfl ti4 rfl rfl rfl ?_)))))
  refine zaf (zaz (v := (zaa x.Negative)) zbs rfl rfl (hL10.at 0 rfl rfl) rfl ?_)
  refine zan ?_
  refine zcr x.Negative rfl (fun hc11 => ?_) (fun hc11 => ?_)
  ·
   replace h := ite_t hc11 h
   refine zaj (zah rfl (zaf (zak (v := (zab .i64 (-1))) rfl ?_)))
   refine zan (zbj ?_)
   obtain rfl := zag h
   refine ⟨[(zab .i64 (-1))], ⟨rfl, trivial⟩, ⟨_, rfl, hL10.done, ?_⟩⟩
   exact ⟨rfl, trivial⟩
  ·
   replace h := ite_f hc11 h
   refine zbf (zaj (zah rfl (zaf (zak (v := (zab .i64 1)) rfl ?_))))
   refine zan (zbj ?_)
   obtain rfl := zag h
   refine ⟨[(zab .i64 1)], ⟨rfl, trivial⟩, ⟨_, rfl, hL10.done, ?_⟩⟩
   exact ⟨rfl, trivial⟩
theorem rCompare_w (N : Nat) (a : Big) (b : Big) (a_v : Value) (b_v : Value) (w : World) (S : Nat → Prop) (a_h : Rs (rInt .u32) (vH w S [] w) a_v a.Digits) (b_h : Rs (rInt .u32) (vH w S [] w) b_v b.Digits) (r : Int) (h : rCompare N a b = some r) :
  Calls Try.prog 25 #[(zap #[(zaa a.Negative), a_v]), (zap #[(zaa b.Negative), b_v])] w (Ret w (fun v w' => (zab .i64 r) = v ∧ True)) := by
 unfold rCompare at h
 have hL : vL w w [] [] := Go.X.Loc.begin0 w
 refine calls_of (l := [(zap #[(zaa a.Negative), a_v]), (zap #[(zaa b.Negative), b_v])]) (rl := [.tmp 4]) (n := 24) Try.func25 rfl rfl rfl (zae rfl) ?_
 refine zaj (zah rfl (zaf (zde (cs := [(zaa a.Negative), a_v]) rfl rfl hL ?_)))
 intro b1 w2 hL3 hS5
 have K4 := ks w hS5
 refine zaf (zde (cs := [(zaa b.Negative), b_v]) rfl rfl hL3 ?_)
 intro b6 w7 hL8 hS10
 have K9 := ks w hS10
 refine zaf (zak (v := (zab .i64 0)) rfl ?_)
 refine zan (zaj ?_)
 obtain ⟨r10, q10, h⟩ := zdo h
 refine zcf 3 [] [] (fun W1 => [.det (zap #[(zaa a.Negative), a_v]), .det (zab .i64 r10), .det (zap #[(zaa b.Negative), b_v])]) mixed rfl rfl rfl (fun _ => rfl) (fun _ => rfl) ?_ ?_
 ·
  intro W1 _
  exact trivial
 ·
  intro w10 hE10
  have hL10 := hL8.ext hE10
  have K10 := ke hL8 hE10
  refine zau (fun _ hE11 => zav (zbm (vs := [(zaa a.Negative), a_v]) zam rfl ti26 rfl ((hL10.ext hE11).at 1 rfl rfl) rfl rfl (er rfl))) ?_
  refine DrH.det ?_ ?_
  ·
   rintro w12 Z11 hE12 hZ11 ⟨-⟩
   have K11 := ke hL10 hE12
   refine zav (zaw en40 rfl rfl (rSign_w N a a_v _ Any (((((a_h.mono (K4 S)).mono (K9 S)).mono (K10 S)).mono (K11 S)).mono vw_any) r10 q10) ?_)
   rintro _ w13 hE13 ⟨rfl, -⟩
   exact ⟨hE13, rfl⟩
  refine zau (fun _ hE14 => zav (zbm (vs := [(zaa b.Negative), b_v]) zam rfl ti26 rfl ((hL10.ext hE14).at 0 rfl rfl) rfl rfl (er rfl))) ?_
  refine zco ?_
  rintro w15 Z13 hE15 hZ13 ⟨-⟩ ap10
  have hB10 : ∀ b, some b ∈ ([] : List (Option Nat)) → w10.heap.size ≤ b ∧ ¬ Z13 b := by
   intro b hb; cases hb
  have hL13 := hL10.ext hE15
  have K12 := ke hL10 hE15
  obtain ⟨r11, q11, h⟩ := zdo h
  have f10 := ((((b_h.mono (K4 S)).mono (K9 S)).mono (K10 S)).mono (K12 S))
  refine zaf (zaw en40 rfl rfl (rSign_w N b b_v _ Any (f10.mono vw_any) r11 q11) ?_)
  rintro _ w16 hE16 ⟨rfl, -⟩
  have hL14 := hL13.ext hE16
  have K13 := ke hL13 hE16
  refine zaf (zak (v := (zab .i64 r10)) rfl ?_)
  refine zaf (zak (v := (zab .i64 r11)) rfl ?_)
  refine zan (zaj (zaj (zah rfl (zaf (zai (v := (zab .i64 r10)) rfl ?_)))))
  refine zaf (zai (v := (zab .i64 r11)) rfl ?_)
  refine zaf (zcj (x := r10) (y := r11) ((r10 : Int) < r11) rfl rfl zbk ?_)
  refine zan ?_
  refine zbe ((r10 : Int) < r11) rfl (fun hc10 => ?_) (fun hc10 => ?_)
  ·
   replace h := ite_t hc10 h
   refine zaj (zah rfl (zaf (zak (v := (zab .i64 (-1))) rfl ?_)))
   refine zan (zbj ?_)
   obtain rfl := zag h
   refine ⟨[(zab .i64 (-1))], ⟨rfl, trivial⟩, ⟨_, rfl, hL14.done, ?_⟩⟩
   exact ⟨rfl, trivial⟩
  ·
   replace h := ite_f hc10 h
   refine zbf (zaj (zaj (zah rfl (zaf (zai (v := (zab .i64 r10)) rfl ?_)))))
   refine zaf (zai (v := (zab .i64 r11)) rfl ?_)
   refine zaf (zdm (x := r10) (y := r11) ((r10 : Int) > r11) rfl rfl zbk ?_)
   refine zan ?_
   refine zbe ((r10 : Int) > r11) rfl (fun hc11 => ?_) (fun hc11 => ?_)
   ·
    replace h := ite_t hc11 h
    refine zaj (zah rfl (zaf (zak (v := (zab .i64 1)) rfl ?_)))
    refine zan (zbj ?_)
    obtain rfl := zag h
    refine ⟨[(zab .i64 1)], ⟨rfl, trivial⟩, ⟨_, rfl, hL14.done, ?_⟩⟩
    exact ⟨rfl, trivial⟩
   ·
    replace h := ite_f hc11 h
    refine zbf (zaj ?_)
    obtain ⟨r12, q12, h⟩ := zdo h
    obtain ⟨r13, q13, h⟩ := zdo h
    obtain ⟨r14, q14, h⟩ := zdo h
    refine zcf 6 [] [] (fun W1 => [.det (zab .i64 r10), .det (zap #[(zaa a.Negative), a_v]), .rel (fun v Z w' => ∃ v10, v10 = v ∧ Rs (rInt .i64) (vZ W1 w None [some b6, some b1] Z w') v10 r12 ∧ True) (fun _ => []), .det (zap #[(zaa b.Negative), b_v]), .rel (fun v Z w' => ∃ v11, v11 = v ∧ Rs (rInt .i64) (vZ W1 w None [some b6, some b1] Z w') v11 r13 ∧ True) (fun _ => []), .det (zab .i64 r14)]) mixed rfl rfl rfl (fun _ => rfl) (fun _ => rfl) ?_ ?_
    ·
     intro W1 _
     exact ⟨fun v Z Z' w w' hΦ hz _ _ hs => by obtain ⟨v10, rfl, k10, -⟩ := hΦ; exact ⟨v10, rfl, (k10.mono (zcs hz hs)), trivial⟩, ⟨fun v Z Z' w w' hΦ hz _ _ hs => by obtain ⟨v11, rfl, k11, -⟩ := hΦ; exact ⟨v11, rfl, (k11.mono (zcs hz hs)), trivial⟩, trivial⟩⟩
    ·
     intro w17 hE17
     have hL15 := hL14.ext hE17
     have K14 := ke hL14 hE17
     refine zau (fun _ _ => zav (zai rfl (er rfl))) ?_
     refine zau (fun _ hE19 => zav (zbm (vs := [(zaa a.Negative), a_v]) zam rfl ti26 rfl ((hL15.ext hE19).at 1 rfl rfl) rfl rfl (er rfl))) ?_
     refine zct ?_ ?_
     ·
      rintro w20 Z16 hE20 hZ16 ⟨-⟩
      have K15 := ke hL15 hE20
      refine zav (zaw en65 rfl rfl (halves_w N a a_v _ Any ((((((((a_h.mono (K4 S)).mono (K9 S)).mono (K10 S)).mono (K12 S)).mono (K13 S)).mono (K14 S)).mono (K15 S)).mono vw_any) r12 q12) ?_)
      rintro _ w21 hE21 ⟨v10, rfl, k10, -⟩
      exact zcn hE21 hZ16 zcb (fun _ h => h) ⟨v10, rfl, (k10.mono zdf), trivial⟩
     intro z2
     refine zau (fun _ hE22 => zav (zbm (vs := [(zaa b.Negative), b_v]) zam rfl ti26 rfl ((hL15.ext hE22).at 0 rfl rfl) rfl rfl (er rfl))) ?_
     refine zct ?_ ?_
     ·
      rintro w23 Z18 hE23 hZ18 ⟨⟨⟨v10, rfl, k10, -⟩, hB2⟩, -⟩
      have K16 := ke hL15 hE23
      refine zav (zaw en65 rfl rfl (halves_w N b b_v _ Any ((((f10.mono (K13 S)).mono (K14 S)).mono (K16 S)).mono vw_any) r13 q13) ?_)
      rintro _ w24 hE24 ⟨v11, rfl, k11, -⟩
      exact zcn hE24 hZ18 zcb (fun _ h => h) ⟨v11, rfl, (k11.mono zdf), trivial⟩
     intro z4
     refine DrH.det ?_ ?_
     ·
      rintro w25 Z19 hE25 hZ19 ⟨⟨⟨v11, rfl, k11, -⟩, hB4⟩, ⟨⟨v10, rfl, k10, -⟩, hB2⟩, -⟩
      refine zav (zaw en64 rfl rfl (rorder_w N r12 r13 v10 v11 _ Any (k10.mono vw_any) (k11.mono vw_any) r14 q14) ?_)
      rintro _ w26 hE26 ⟨rfl, -⟩
      exact ⟨hE26, rfl⟩
     refine zco ?_
     rintro w27 Z20 hE27 hZ20 ⟨⟨⟨v11, rfl, k11, -⟩, hB4⟩, ⟨⟨v10, rfl, k10, -⟩, hB2⟩, -⟩ ap11
     have hB11 : ∀ b, some b ∈ ([] : List (Option Nat)) → w17.heap.size ≤ b ∧ ¬ Z20 b := by
      intro b hb; cases hb
     replace k11 := k11.mono (zdc hL15 hZ20 hB11)
     replace k10 := k10.mono (zdc hL15 hZ20 hB11)
     have hL18 := hL15.ext hE27
     refine zaf (OpY.mul (x := r10) (y := r14) (z := (iw (r10 * r14))) rfl rfl rfl ?_)
     refine zaf (zak (v := (zab .i64 (iw (r10 * r14)))) rfl ?_)
     refine zan (zbj ?_)
     obtain rfl := zag h
     refine ⟨[(zab .i64 (iw (r10 * r14)))], ⟨rfl, trivial⟩, ⟨_, rfl, hL18.done, ?_⟩⟩
     exact ⟨rfl, trivial⟩
theorem rAdd_w (N : Nat) (a : Big) (b : Big) (a_v : Value) (b_v : Value) (w : World) (S : Nat → Prop) (a_h : Rs (rInt .u32) (vH w S [] w) a_v a.Digits) (b_h : Rs (rInt .u32) (vH w S [] w) b_v b.Digits) (r : Big) (h : rAdd N a b = some r) :
  Calls Try.prog 38 #[(zap #[(zaa a.Negative), a_v]), (zap #[(zaa b.Negative), b_v])] w (Ret w (fun v w' => ∃ (v0_0 : Value), (zap #[(zaa r.Negative), v0_0]) = v ∧ Rs (rInt .u32) (vH w None [] w') v0_0 r.Digits ∧ True)) := by
 unfold rAdd at h
 have hL : vL w w [] [] := Go.X.Loc.begin0 w
 refine calls_of (l := [(zap #[(zaa a.Negative), a_v]), (zap #[(zaa b.Negative), b_v])]) (rl := [.cell 4 26]) (n := 38) Try.func38 rfl rfl rfl (zae rfl) ?_
 refine zaj (zah rfl (zaf (zde (cs := [(zaa a.Negative), a_v]) rfl rfl hL ?_)))
 intro b1 w2 hL3 hS5
 have K4 := ks w hS5
 refine zaf (zde (cs := [(zaa b.Negative), b_v]) rfl rfl hL3 ?_)
 intro b6 w7 hL8 hS10
 have K9 := ks w hS10
 refine zaf (zca (cs := [(zaa false), (zad none 0 0)]) ti26 rfl hL8 ?_)
 intro b10 w10 hL10 hS11
 have K10 := ks w hS11
 refine zan (zaj ?_)
 obtain ⟨r10, q10, h⟩ := zdo h
 refine zcf 3 [] [] (fun W1 => [.det (zap #[(zaa a.Negative), a_v]), .rel (fun v Z w' => ∃ v10, v10 = v ∧ Rs (rInt .i64) (vZ W1 w None [some b10, some b6, some b1] Z w') v10 r10 ∧ True) (fun _ => []), .det (zap #[(zaa b.Negative), b_v])]) mixed rfl rfl rfl (fun _ => rfl) (fun _ => rfl) ?_ ?_
 ·
  intro W1 _
  exact ⟨fun v Z Z' w w' hΦ hz _ _ hs => by obtain ⟨v10, rfl, k10, -⟩ := hΦ; exact ⟨v10, rfl, (k10.mono (zcs hz hs)), trivial⟩, trivial⟩
 ·
  intro w11 hE10
  have hL11 := hL10.ext hE10
  have K11 := ke hL10 hE10
  refine zau (fun _ hE11 => zav (zbm (vs := [(zaa a.Negative), a_v]) zam rfl ti26 rfl ((hL11.ext hE11).at 2 rfl rfl) rfl rfl (er rfl))) ?_
  refine zct ?_ ?_
  ·
   rintro w13 Z11 hE12 hZ11 ⟨-⟩
   have K12 := ke hL11 hE12
   refine zav (zaw en65 rfl rfl (halves_w N a a_v _ Any ((((((a_h.mono (K4 S)).mono (K9 S)).mono (K10 S)).mono (K11 S)).mono (K12 S)).mono vw_any) r10 q10) ?_)
   rintro _ w14 hE13 ⟨v10, rfl, k10, -⟩
   exact zcn hE13 hZ11 zcb (fun _ h => h) ⟨v10, rfl, (k10.mono zdf), trivial⟩
  intro z1
  refine zau (fun _ hE14 => zav (zbm (vs := [(zaa b.Negative), b_v]) zam rfl ti26 rfl ((hL11.ext hE14).at 1 rfl rfl) rfl rfl (er rfl))) ?_
  refine zco ?_
  rintro w16 Z13 hE15 hZ13 ⟨⟨⟨v10, rfl, k10, -⟩, hB1⟩, -⟩ ap10
  have hB10 : ∀ b, some b ∈ ([] : List (Option Nat)) → w11.heap.size ≤ b ∧ ¬ Z13 b := by
   intro b hb; cases hb
  replace k10 := k10.mono (zdc hL11 hZ13 hB10)
  have hL14 := hL11.ext hE15
  have K13 := ke hL11 hE15
  obtain ⟨r11, q11, h⟩ := zdo h
  have f10 := (((((b_h.mono (K4 S)).mono (K9 S)).mono (K10 S)).mono (K11 S)).mono (K13 S))
  refine zaf (zaw en65 rfl rfl (halves_w N b b_v _ Any (f10.mono vw_any) r11 q11) ?_)
  rintro _ w17 hE16 ⟨v11, rfl, k11, -⟩
  replace k11 := k11.mono (zba (S := None) hL14 [])
  have hL15 := hL14.ext hE16
  have K14 := ke hL14 hE16
  refine zaf (zak (v := v10) rfl ?_)
  refine zaf (zak (v := v11) rfl ?_)
  refine zan (zaj (zaj (zah rfl (zaf (zas (q := 0) zam rfl ti4 rfl rfl rfl ?_)))))
  refine zaf (zaz (v := (zaa a.Negative)) zbs rfl rfl (hL15.at 2 rfl rfl) rfl ?_)
  refine zaf (zas (q := 0) zam rfl ti4 rfl rfl rfl ?_)
  refine zaf (zaz (v := (zaa b.Negative)) zbs rfl rfl (hL15.at 1 rfl rfl) rfl ?_)
  refine zaf (OpY.eqlBool (x := a.Negative) (y := b.Negative) zbs rfl rfl ?_)
  refine zan ?_
  refine zcr (a.Negative == b.Negative) rfl (fun hc10 => ?_) (fun hc10 => ?_)
  ·
   replace h := ite_t hc10 h
   refine zaj ?_
   obtain ⟨r12, q12, h⟩ := zdo h
   refine zcf 5 [] [] (fun W1 => [.det (zao (some ⟨b1, 0, none⟩)), .det (zaa a.Negative), .det v10, .det v11, .rel (fun v Z w' => ∃ v12, v12 = v ∧ Rs (rInt .i64) (vZ W1 w None [some b10, some b6, some b1] Z w') v12 r12 ∧ True) (fun _ => [])]) mixed rfl rfl rfl (fun _ => rfl) (fun _ => rfl) ?_ ?_
   ·
    intro W1 _
    exact ⟨fun v Z Z' w w' hΦ hz _ _ hs => by obtain ⟨v12, rfl, k12, -⟩ := hΦ; exact ⟨v12, rfl, (k12.mono (zcs hz hs)), trivial⟩, trivial⟩
   ·
    intro w18 hE17
    have hL16 := hL15.ext hE17
    have K15 := ke hL15 hE17
    refine zau (fun _ _ => zav (zas zam rfl ti4 rfl rfl rfl (er rfl))) ?_
    refine zau (fun _ hE19 => zav (zaz zbs rfl rfl ((hL16.ext hE19).at 2 rfl rfl) rfl (er rfl))) ?_
    refine zau (fun _ _ => zav (zai rfl (er rfl))) ?_
    refine zau (fun _ _ => zav (zai rfl (er rfl))) ?_
    refine zct ?_ ?_
    ·
     rintro w23 Z18 hE22 hZ18 ⟨-⟩
     have K16 := ke hL16 hE22
     refine zav (zaw en69 rfl rfl (rplus_w N r10 r11 v10 v11 _ Any ((((k10.mono (K14 None)).mono (K15 None)).mono (K16 None)).mono vw_any) (((k11.mono (K15 None)).mono (K16 None)).mono vw_any) r12 q12) ?_)
     rintro _ w24 hE23 ⟨v12, rfl, k12, -⟩
     exact zcn hE23 hZ18 zcb (fun _ h => h) ⟨v12, rfl, (k12.mono zdf), trivial⟩
    intro z4
    refine zco ?_
    rintro w25 Z19 hE24 hZ19 ⟨⟨⟨v12, rfl, k12, -⟩, hB4⟩, -⟩ ap11
    have hB11 : ∀ b, some b ∈ ([] : List (Option Nat)) → w18.heap.size ≤ b ∧ ¬ Z19 b := by
     intro b hb; cases hb
    replace k12 := k12.mono (zdc hL16 hZ19 hB11)
    have hL18 := hL16.ext hE24
    obtain ⟨r13, q13, h⟩ := zdo h
    refine zaf (zaw en68 rfl rfl (rbig_w N a.Negative r12 v12 _ Any (k12.mono vw_any) r13 q13) ?_)
    rintro _ w26 hE25 ⟨v13, rfl, k13, -⟩
    replace k13 := k13.mono (zba (S := None) hL18 [])
    have hL19 := hL18.ext hE25
    refine zcc (zbn (vs := [(zaa r13.Negative), v13]) ti26 rfl rfl rfl rfl (zds rfl (zds k13.one zdw)) hL19 0 rfl rfl (zae rfl) ?_)
    intro w27 (hL20 : vL w w27 [some b10, some b6, some b1] [zac [(zaa r13.Negative), v13], zac [(zaa b.Negative), b_v], zac [(zaa a.Negative), a_v]]) hS12
    have K17 := ks w hS12
    refine zan (zbj ?_)
    obtain rfl := zag h
    refine ⟨[(zap #[(zaa r13.Negative), v13])], ⟨⟨⟨b10, 0, none⟩, rfl, zdz zam rfl ti26 (hL20.at 0 rfl rfl) rfl⟩, trivial⟩, ⟨_, rfl, hL20.done, ?_⟩⟩
    have f11 := (k13.mono (K17 None))
    exact ⟨v13, rfl, (f11.mono zdi), trivial⟩
  ·
   replace h := ite_f hc10 h
   refine zbf (zaj (zaj (zah rfl (zaf (zai (v := v10) rfl ?_)))))
   refine zaf (zai (v := v11) rfl ?_)
   obtain ⟨r14, q14, h⟩ := zdo h
   have f12 := (k10.mono (K14 None))
   refine zaf (zaw en64 rfl rfl (rorder_w N r10 r11 v10 v11 _ Any (f12.mono vw_any) (k11.mono vw_any) r14 q14) ?_)
   rintro _ w28 hE26 ⟨rfl, -⟩
   have hL21 := hL15.ext hE26
   have K18 := ke hL15 hE26
   refine zaf (OpY.geq (x := r14) (y := 0) ((r14 : Int) ≥ 0) rfl rfl zbk ?_)
   refine zan ?_
   refine zbe ((r14 : Int) ≥ 0) rfl (fun hc11 => ?_) (fun hc11 => ?_)
   ·
    replace h := ite_t hc11 h
    refine zaj ?_
    obtain ⟨r15, q15, h⟩ := zdo h
    refine zcf 5 [] [] (fun W1 => [.det (zao (some ⟨b1, 0, none⟩)), .det (zaa a.Negative), .det v10, .det v11, .rel (fun v Z w' => ∃ v14, v14 = v ∧ Rs (rInt .i64) (vZ W1 w None [some b10, some b6, some b1] Z w') v14 r15 ∧ True) (fun _ => [])]) mixed rfl rfl rfl (fun _ => rfl) (fun _ => rfl) ?_ ?_
    ·
     intro W1 _
     exact ⟨fun v Z Z' w w' hΦ hz _ _ hs => by obtain ⟨v14, rfl, k14, -⟩ := hΦ; exact ⟨v14, rfl, (k14.mono (zcs hz hs)), trivial⟩, trivial⟩
    ·
     intro w29 hE27
     have hL22 := hL21.ext hE27
     have K19 := ke hL21 hE27
     refine zau (fun _ _ => zav (zas zam rfl ti4 rfl rfl rfl (er rfl))) ?_
     refine zau (fun _ hE29 => zav (zaz zbs rfl rfl ((hL22.ext hE29).at 2 rfl rfl) rfl (er rfl))) ?_
     refine zau (fun _ _ => zav (zai rfl (er rfl))) ?_
     refine zau (fun _ _ => zav (zai rfl (er rfl))) ?_
     refine zct ?_ ?_
     ·
      rintro w34 Z24 hE32 hZ24 ⟨-⟩
      have K20 := ke hL22 hE32
      refine zav (zaw en70 rfl rfl (rminus_w N r10 r11 v10 v11 _ Any ((((f12.mono (K18 None)).mono (K19 None)).mono (K20 None)).mono vw_any) ((((k11.mono (K18 None)).mono (K19 None)).mono (K20 None)).mono vw_any) r15 q15) ?_)
      rintro _ w35 hE33 ⟨v14, rfl, k14, -⟩
      exact zcn hE33 hZ24 zcb (fun _ h => h) ⟨v14, rfl, (k14.mono zdf), trivial⟩
     intro z4
     refine zco ?_
     rintro w36 Z25 hE34 hZ25 ⟨⟨⟨v14, rfl, k14, -⟩, hB4⟩, -⟩ ap12
     have hB12 : ∀ b, some b ∈ ([] : List (Option Nat)) → w29.heap.size ≤ b ∧ ¬ Z25 b := by
      intro b hb; cases hb
     replace k14 := k14.mono (zdc hL22 hZ25 hB12)
     have hL24 := hL22.ext hE34
     obtain ⟨r16, q16, h⟩ := zdo h
     refine zaf (zaw en68 rfl rfl (rbig_w N a.Negative r15 v14 _ Any (k14.mono vw_any) r16 q16) ?_)
     rintro _ w37 hE35 ⟨v15, rfl, k15, -⟩
     replace k15 := k15.mono (zba (S := None) hL24 [])
     have hL25 := hL24.ext hE35
     refine zcc (zbn (vs := [(zaa r16.Negative), v15]) ti26 rfl rfl rfl rfl (zds rfl (zds k15.one zdw)) hL25 0 rfl rfl (zae rfl) ?_)
     intro w38 (hL26 : vL w w38 [some b10, some b6, some b1] [zac [(zaa r16.Negative), v15], zac [(zaa b.Negative), b_v], zac [(zaa a.Negative), a_v]]) hS13
     have K21 := ks w hS13
     refine zan (zbj ?_)
     obtain rfl := zag h
     refine ⟨[(zap #[(zaa r16.Negative), v15])], ⟨⟨⟨b10, 0, none⟩, rfl, zdz zam rfl ti26 (hL26.at 0 rfl rfl) rfl⟩, trivial⟩, ⟨_, rfl, hL26.done, ?_⟩⟩
     have f13 := (k15.mono (K21 None))
     exact ⟨v15, rfl, (f13.mono zdi), trivial⟩
   ·
    replace h := ite_f hc11 h
    refine zbf (zaj ?_)
    obtain ⟨r17, q17, h⟩ := zdo h
    refine zcf 5 [] [] (fun W1 => [.det (zao (some ⟨b6, 0, none⟩)), .det (zaa b.Negative), .det v11, .det v10, .rel (fun v Z w' => ∃ v16, v16 = v ∧ Rs (rInt .i64) (vZ W1 w None [some b10, some b6, some b1] Z w') v16 r17 ∧ True) (fun _ => [])]) mixed rfl rfl rfl (fun _ => rfl) (fun _ => rfl) ?_ ?_
    ·
     intro W1 _
     exact ⟨fun v Z Z' w w' hΦ hz _ _ hs => by obtain ⟨v16, rfl, k16, -⟩ := hΦ; exact ⟨v16, rfl, (k16.mono (zcs hz hs)), trivial⟩, trivial⟩
    ·
     intro w39 hE36
     have hL27 := hL21.ext hE36
     have K22 := ke hL21 hE36
     refine zau (fun _ _ => zav (zas zam rfl ti4 rfl rfl rfl (er rfl))) ?_
     refine zau (fun _ hE38 => zav (zaz zbs rfl rfl ((hL27.ext hE38).at 1 rfl rfl) rfl (er rfl))) ?_
     refine zau (fun _ _ => zav (zai rfl (er rfl))) ?_
     refine zau (fun _ _ => zav (zai rfl (er rfl))) ?_
     refine zct ?_ ?_
     ·
      rintro w44 Z30 hE41 hZ30 ⟨-⟩
      have K23 := ke hL27 hE41
      refine zav (zaw en70 rfl rfl (rminus_w N r11 r10 v11 v10 _ Any ((((k11.mono (K18 None)).mono (K22 None)).mono (K23 None)).mono vw_any) ((((f12.mono (K18 None)).mono (K22 None)).mono (K23 None)).mono vw_any) r17 q17) ?_)
      rintro _ w45 hE42 ⟨v16, rfl, k16, -⟩
      exact zcn hE42 hZ30 zcb (fun _ h => h) ⟨v16, rfl, (k16.mono zdf), trivial⟩
     intro z4
     refine zco ?_
     rintro w46 Z31 hE43 hZ31 ⟨⟨⟨v16, rfl, k16, -⟩, hB4⟩, -⟩ ap13
     have hB13 : ∀ b, some b ∈ ([] : List (Option Nat)) → w39.heap.size ≤ b ∧ ¬ Z31 b := by
      intro b hb; cases hb
     replace k16 := k16.mono (zdc hL27 hZ31 hB13)
     have hL29 := hL27.ext hE43
     obtain ⟨r18, q18, h⟩ := zdo h
     refine zaf (zaw en68 rfl rfl (rbig_w N b.Negative r17 v16 _ Any (k16.mono vw_any) r18 q18) ?_)
     rintro _ w47 hE44 ⟨v17, rfl, k17, -⟩
     replace k17 := k17.mono (zba (S := None) hL29 [])
     have hL30 := hL29.ext hE44
     refine zcc (zbn (vs := [(zaa r18.Negative), v17]) ti26 rfl rfl rfl rfl (zds rfl (zds k17.one zdw)) hL30 0 rfl rfl (zae rfl) ?_)
     intro w48 (hL31 : vL w w48 [some b10, some b6, some b1] [zac [(zaa r18.Negative), v17], zac [(zaa b.Negative), b_v], zac [(zaa a.Negative), a_v]]) hS14
     have K24 := ks w hS14
     refine zan (zbj ?_)
     obtain rfl := zag h
     refine ⟨[(zap #[(zaa r18.Negative), v17])], ⟨⟨⟨b10, 0, none⟩, rfl, zdz zam rfl ti26 (hL31.at 0 rfl rfl) rfl⟩, trivial⟩, ⟨_, rfl, hL31.done, ?_⟩⟩
     have f14 := (k17.mono (K24 None))
     exact ⟨v17, rfl, (f14.mono zdi), trivial⟩
theorem rtimes_w (N : Nat) (a : (List Int)) (d : Int) (a_v : Value) (w : World) (S : Nat → Prop) (a_h : Rs (rInt .i64) (vH w S [] w) a_v a) (r : (List Int)) (h : rtimes N a d = some r) :
  Calls Try.prog 71 #[a_v, (zab .i64 d)] w (Ret w (fun v w' => ∃ (v0_0 : Value), v0_0 = v ∧ Rs (rInt .i64) (vH w None [] w') v0_0 r ∧ True)) := by
 unfold rtimes at h
 have hL : vL w w [] [] := Go.X.Loc.begin0 w
 refine calls_of (l := [a_v, (zab .i64 d)]) (rl := [.tmp 4]) (n := 40) Try.func71 rfl rfl rfl (zae rfl) ?_
 refine zaj (zah rfl (zaf (zak (v := (zad none 0 0)) rfl ?_)))
 refine zan (zaj (zah rfl (zaf (OpY.litRow0 zay ti3 hL ?_))))
 intro b1 w5 hL6 hS8
 have hE9 : Els (rInt .i64) (vH w None [] w) [] [] := zcp
 have K7 := ks w hS8
 refine zaf (zak (v := (osv (some b1) 0 (List.length ([] : (List Int))) 0)) rfl ?_)
 refine zan (zaj (zah rfl (zaf (zak (v := (zab .i64 0)) rfl ?_))))
 refine zan (zaj (zaj (zah rfl (zaf (zak (v := (zab .i64 0)) rfl ?_)))))
 refine zan ?_
 obtain ⟨s10, hl10, g10⟩ := zdo h
 refine zbr (fun e w' => ∃ (out10 : (List Int)) (ob10 : Option Nat) (cap10 : Nat) (sp10 : List Value) (cs10 : List Value) (ln10 : Nat) (u : Env), out10 = s10 ∧ e = upds [(5, (osv ob10 0 ln10 cap10))] u ∧ vL w w' [ob10] [zac ([] ++ (cs10 ++ sp10))] ∧ Keep w.heap.size [some b1] w5 [ob10] w' ∧ Els (rInt .i64) (vH w None [ob10] w') cs10 out10 ∧ ln10 = List.length out10 ∧ (cs10 ++ sp10).length = cap10 * (rInt .i64).sz ∧ True) ?_ ?_
 ·
  refine zbh ?_
  have f10 := (hE9.mono (K7 None))
  refine zce hl10 (fun (ss : ((List Int) × Int × Int)) (e : Env) (w' : World) => match ss with | (out11, carry10, i10) => ∃ (ob11 : Option Nat) (cap11 : Nat) (sp11 : List Value) (cs11 : List Value) (ln11 : Nat) (u : Env), e = upds [(0, a_v), (1, (zab .i64 d)), (5, (osv ob11 0 ln11 cap11)), (6, (zab .i64 carry10)), (7, (zab .i64 i10))] u ∧ vL w w' [ob11] [zac ([] ++ (cs11 ++ sp11))] ∧ Keep w.heap.size [some b1] w5 [ob11] w' ∧ Els (rInt .i64) (vH w None [ob11] w') cs11 out11 ∧ ln11 = List.length out11 ∧ (cs11 ++ sp11).length = cap11 * (rInt .i64).sz ∧ True) ⟨some b1, 0, [], [], (List.length ([] : (List Int))), _, (zdt ⟨rfl, rfl, rfl, rfl, rfl, trivial⟩), hL6, zbo, f10, rfl, (show ([] ++ [] : List Value).length = 0 * (rInt .i64).sz by simp), trivial⟩ ?_
  rintro ⟨out11, carry10, i10⟩ oo _ w10 ⟨ob11, cap11, sp11, cs11, ln11, u, rfl, hL10, K10, hE10, rfl, hc10, -⟩ h hd10
  rw [rtimes_b1] at h
  refine zaj (zaj ?_)
  obtain ⟨s11, h, g11⟩ := zdo h
  refine zbr (fun e w' => ∃ (x10 : Bool) (u : Env), x10 = s11 ∧ e = upds [(0, a_v), (1, (zab .i64 d)), (5, (osv ob11 0 out11.length cap11)), (6, (zab .i64 carry10)), (7, (zab .i64 i10)), (16, (zaa x10))] u ∧ vL w w' [ob11] [zac ([] ++ (cs11 ++ sp11))] ∧ Keep w.heap.size [ob11] w10 [ob11] w' ∧ True) ?_ ?_
  ·
   refine zah rfl (zaf (zai (v := (zab .i64 i10)) rfl ?_))
   refine zaf (zai (v := a_v) rfl ?_)
   have f11 := ((a_h.mono (K7 S)).mono (K10 S))
   refine zaf (zbd (v := a_v) zay rfl f11 ?_)
   refine zaf (zcj (x := i10) (y := (a.length : Int)) ((i10 : Int) < (a.length : Int)) rfl rfl zbk ?_)
   refine zaf (zai (v := (zaa (decide ((i10 : Int) < (a.length : Int))))) rfl ?_)
   by_cases hc11 : (i10 : Int) < (a.length : Int)
   ·
    replace h := ite_t hc11 h
    refine zbq rfl rfl (zdr hc11) ?_
    refine zbq rfl rfl (zdr hc11) ?_
    refine zaf (zci (t := (decide ((i10 : Int) < (a.length : Int)))) (v := (zaa true)) rfl (zdr hc11) rfl ?_)
    refine zan ?_
    obtain rfl := zag h
    refine zar ?_
    exact ⟨true, _, rfl, (zdt ⟨rfl, rfl, rfl, rfl, rfl, rfl, trivial⟩), hL10, zbo, trivial⟩
   ·
    replace h := ite_f hc11 h
    refine zbu rfl rfl (zdq hc11) (zai (v := (zab .i64 carry10)) rfl ?_)
    refine zbu rfl rfl (zdq hc11) (zdm (x := carry10) (y := 0) ((carry10 : Int) > 0) rfl rfl zbk ?_)
    refine zaf (zbx (t := (decide ((i10 : Int) < (a.length : Int)))) (v := (zaa (decide ((carry10 : Int) > 0)))) rfl (zdq hc11) rfl ?_)
    refine zan ?_
    obtain rfl := zag h
    refine zar ?_
    exact ⟨(decide ((carry10 : Int) > 0)), _, rfl, (zdt ⟨rfl, rfl, rfl, rfl, rfl, rfl, trivial⟩), hL10, zbo, trivial⟩
  ·
   rintro _ w11 ⟨x10, u, rfl, rfl, hL11, K11, -⟩
   replace h := g11
   try dsimp only at h
   refine zcr x10 rfl (fun hc12 => ?_) (fun hc12 => ?_)
   ·
    replace h := ite_t hc12 h
    refine zbf (zaj (zbh (zaj (zaj (zah rfl (zaf (zai (v := (zab .i64 i10)) rfl ?_)))))))
    refine zaf (zai (v := a_v) rfl ?_)
    have f12 := (((a_h.mono (K7 S)).mono (K10 S)).mono (K11 S))
    refine zaf (zbd (v := a_v) zay rfl f12 ?_)
    refine zaf (zcj (x := i10) (y := (a.length : Int)) ((i10 : Int) < (a.length : Int)) rfl rfl zbk ?_)
    refine zan ?_
    obtain ⟨s12, h, g12⟩ := zdo h
    refine zbr (fun e w' => ∃ (carry11 : Int) (u : Env), carry11 = s12 ∧ e = upds [(0, a_v), (1, (zab .i64 d)), (5, (osv ob11 0 out11.length cap11)), (6, (zab .i64 carry11)), (7, (zab .i64 i10))] u ∧ vL w w' [ob11] [zac ([] ++ (cs11 ++ sp11))] ∧ Keep w.heap.size [ob11] w11 [ob11] w' ∧ True) ?_ ?_
    ·
     refine zbe ((i10 : Int) < (a.length : Int)) rfl (fun hc13 => ?_) (fun hc13 => ?_)
     ·
      replace h := ite_t hc13 h
      refine zah rfl (zaf (zai (v := (zab .i64 carry10)) rfl ?_))
      refine zaf (zai (v := a_v) rfl ?_)
      refine zaf (zai (v := (zab .i64 i10)) rfl ?_)
      obtain ⟨x11, q10, h⟩ := zdo h
      obtain ⟨n10, q11, q12⟩ := zdu q10
      obtain ⟨b10, o10, c10, vs10, q13, q14, f13, q15⟩ := zcw f12 q12
      obtain rfl := q15
      refine zaf (zbw (r := (rInt .i64)) (v := a_v) (n := n10) (m := (o10 + n10 * (rInt .i64).sz)) zay ti3 rfl q13 rfl q11 q12 rfl ?_)
      refine zaf (zck (v := (zab .i64 x11)) zbv rfl rfl zdy f13 ?_)
      refine zaf (zai (v := (zab .i64 d)) rfl ?_)
      refine zaf (OpY.mul (x := x11) (y := d) (z := (iw (x11 * d))) rfl rfl rfl ?_)
      refine zaf (zby (x := carry10) (y := (iw (x11 * d))) (z := (iw (carry10 + (iw (x11 * d))))) rfl rfl rfl ?_)
      refine zaf (zak (v := (zab .i64 (iw (carry10 + (iw (x11 * d)))))) rfl ?_)
      refine zan ?_
      obtain rfl := zag h
      refine zar ?_
      exact ⟨(iw (carry10 + (iw (x11 * d)))), _, rfl, (zdt ⟨rfl, rfl, rfl, rfl, rfl, trivial⟩), hL11, zbo, trivial⟩
     ·
      replace h := ite_f hc13 h
      refine zbf ?_
      obtain rfl := zag h
      refine zar ?_
      exact ⟨carry10, _, rfl, (zdt ⟨rfl, rfl, rfl, rfl, rfl, trivial⟩), hL11, zbo, trivial⟩
    ·
     rintro _ w12 ⟨carry11, u, rfl, rfl, hL12, K12, -⟩
     replace h := g12
     try dsimp only at h
     refine zaj (zah rfl (zaf (zai (v := (osv ob11 0 out11.length cap11)) rfl ?_)))
     refine zaf (zai (v := (zab .i64 carry11)) rfl ?_)
     refine zaf (OpY.remI (x := carry11) (y := 65536) rfl rfl (by decide) ?_)
     have hE11 : Els (rInt .i64) (vH w None [ob11] w12) [(zab .i64 (Int.tmod carry11 65536))] [(Int.tmod carry11 65536)] := (zcg (a := [(zab .i64 (Int.tmod carry11 65536))]) rfl zcp)
     refine zaf (zch (r := (rInt .i64)) (vs := [(zab .i64 (Int.tmod carry11 65536))]) (css := [[(zab .i64 (Int.tmod carry11 65536))]]) (xs := [(Int.tmod carry11 65536)]) zay ti3 (zae rfl) rfl rfl ⟨rfl, rfl, trivial⟩ (zae rfl) hE11 rfl hL12 ?_)
     intro b11 w13 hc14 hL13 hS10
     have K13 := ks w hS10
     obtain ⟨x12, q16, h⟩ := zdo h
     obtain ⟨q17, q18, q19⟩ := zeb q16
     have f14 := (hE11.mono (K13 None))
     have f15 := (((hE10.mono (K11 None)).mono (K12 None)).mono (K13 None))
     refine zaf (zdk (r := (rInt .i64)) (H := (vH w None [some b11, ob11] w13)) (cs := cs11) (sp := sp11) (xs := out11) (ys := [(Int.tmod carry11 65536)]) (Y := x12) (n := out11.length) (cap := cap11) (i := 1) zay ti3 rfl rfl rfl rfl hL13 rfl rfl f15 rfl hc10 (Src.row (pre := []) (o := 0) (n := 1) (cap := 1) (hL13.at 0 rfl rfl) f14 rfl rfl rfl) (Els.anyH (fun _ _ _ _ h => h) f14) q17 q18 q19 ?_)
     intro ob12 cap12 sp12 cs12 w14 hE12 hc15 (hL14 : vL w w14 [some b11, ob12] [zac ([] ++ ([(zab .i64 (Int.tmod carry11 65536))] ++ [])), zac ([] ++ (cs12 ++ sp12))]) hS11
     have K14 := ks w hS11
     refine zaf (zak (v := (osv ob12 0 x12.length cap12)) rfl ?_)
     refine zan (zah rfl (zaf (zai (v := (zab .i64 carry11)) rfl ?_)))
     refine zaf (OpY.quoI (x := carry11) (y := 65536) (z := (iw (Int.tdiv carry11 65536))) rfl rfl (by decide) rfl ?_)
     refine zaf (zak (v := (zab .i64 (iw (Int.tdiv carry11 65536)))) rfl ?_)
     refine zan (zbt (zah rfl (zaf (zai (v := (zab .i64 i10)) rfl ?_))))
     refine zaf (zby (x := i10) (y := 1) (z := (iw (i10 + 1))) rfl rfl rfl ?_)
     refine zaf (zak (v := (zab .i64 (iw (i10 + 1)))) rfl ?_)
     refine zan ?_
     have hp10 := hL14.pick [1] rfl rfl rfl
     have hL15 : vL w w14 [ob12] [zac ([] ++ (cs12 ++ sp12))] := hp10.1
     have K15 := ks w hp10.2
     have f16 := ((hE12.mono (K14 None)).mono (K15 None))
     obtain rfl := zag h
     refine zar ⟨(x12, (iw (Int.tdiv carry11 65536)), (iw (i10 + 1))), rfl, ?_⟩
     exact ⟨ob12, cap12, sp12, cs12, x12.length, _, (zdt ⟨rfl, rfl, rfl, rfl, rfl, trivial⟩), hL15, (zaq (zaq (zaq (zaq (zaq K10 K11) K12) K13) K14) K15), f16, rfl, hc15, trivial⟩
   ·
    replace h := ite_f hc12 h
    refine zcm rfl ?_
    have f17 := (hE10.mono (K11 None))
    obtain rfl := zag h
    obtain rfl := hd10 _ rfl
    replace h := g10
    try dsimp only at h
    skip
    refine zar ?_
    exact ⟨out11, ob11, cap11, sp11, cs11, out11.length, _, rfl, (zdt ⟨rfl, trivial⟩), hL11, (zaq K10 K11), f17, rfl, hc10, trivial⟩
 ·
  rintro _ w15 ⟨out10, ob10, cap10, sp10, cs10, ln10, u, rfl, rfl, hL16, K16, hE13, rfl, hc16, -⟩
  replace h := g10
  try dsimp only at h
  refine zaj (zah rfl (zaf (zai (v := (osv ob10 0 out10.length cap10)) rfl ?_)))
  have f18 := hL16.freezeRow 0 rfl rfl hE13 rfl rfl rfl hc16
  have hp11 := hL16.pick [] rfl rfl rfl
  have hL17 : vL w w15 [] [] := hp11.1
  obtain ⟨r10, q20, h⟩ := zdo h
  refine zaf (zaw en82 rfl rfl (rtrim_w N out10 (osv ob10 0 out10.length cap10) _ _ (f18.mono Hv.enter) r10 q20) ?_)
  rintro _ w16 hE14 ⟨v10, rfl, k10, -⟩
  replace k10 := k10.mono (Hv.aliasO (S := None) hL17 [])
  have hL18 := hL17.ext hE14
  refine zaf (zak (v := v10) rfl ?_)
  refine zan (zbj ?_)
  obtain rfl := zag h
  refine ⟨[v10], ⟨rfl, trivial⟩, ⟨_, rfl, hL18.done, ?_⟩⟩
  exact ⟨v10, rfl, (k10.mono zdi), trivial⟩
theorem rMul_w (N : Nat) (a : Big) (b : Big) (a_v : Value) (b_v : Value) (w : World) (S : Nat → Prop) (a_h : Rs (rInt .u32) (vH w S [] w) a_v a.Digits) (b_h : Rs (rInt .u32) (vH w S [] w) b_v b.Digits) (r : Big) (h : rMul N a b = some r) :
  Calls Try.prog 39 #[(zap #[(zaa a.Negative), a_v]), (zap #[(zaa b.Negative), b_v])] w (Ret w (fun v w' => ∃ (v0_0 : Value), (zap #[(zaa r.Negative), v0_0]) = v ∧ Rs (rInt .u32) (vH w None [] w') v0_0 r.Digits ∧ True)) := by
 unfold rMul at h
 have hL : vL w w [] [] := Go.X.Loc.begin0 w
 refine calls_of (l := [(zap #[(zaa a.Negative), a_v]), (zap #[(zaa b.Negative), b_v])]) (rl := [.cell 4 26]) (n := 38) Try.func39 rfl rfl rfl (zae rfl) ?_
 refine zaj (zah rfl (zaf (zde (cs := [(zaa a.Negative), a_v]) rfl rfl hL ?_)))
 intro b1 w2 hL3 hS5
 have K4 := ks w hS5
 refine zaf (zde (cs := [(zaa b.Negative), b_v]) rfl rfl hL3 ?_)
 intro b6 w7 hL8 hS10
 have K9 := ks w hS10
 refine zaf (zca (cs := [(zaa false), (zad none 0 0)]) ti26 rfl hL8 ?_)
 intro b10 w10 hL10 hS11
 have K10 := ks w hS11
 refine zan (zaj ?_)
 obtain ⟨r10, q10, h⟩ := zdo h
 refine zcf 3 [] [] (fun W1 => [.det (zap #[(zaa a.Negative), a_v]), .rel (fun v Z w' => ∃ v10, v10 = v ∧ Rs (rInt .i64) (vZ W1 w None [some b10, some b6, some b1] Z w') v10 r10 ∧ True) (fun _ => []), .det (zap #[(zaa b.Negative), b_v])]) mixed rfl rfl rfl (fun _ => rfl) (fun _ => rfl) ?_ ?_
 ·
  intro W1 _
  exact ⟨fun v Z Z' w w' hΦ hz _ _ hs => by obtain ⟨v10, rfl, k10, -⟩ := hΦ; exact ⟨v10, rfl, (k10.mono (zcs hz hs)), trivial⟩, trivial⟩
 ·
  intro w11 hE10
  have hL11 := hL10.ext hE10
  have K11 := ke hL10 hE10
  refine zau (fun _ hE11 => zav (zbm (vs := [(zaa a.Negative), a_v]) zam rfl ti26 rfl ((hL11.ext hE11).at 2 rfl rfl) rfl rfl (er rfl))) ?_
  refine zct ?_ ?_
  ·
   rintro w13 Z11 hE12 hZ11 ⟨-⟩
   have K12 := ke hL11 hE12
   refine zav (zaw en65 rfl rfl (halves_w N a a_v _ Any ((((((a_h.mono (K4 S)).mono (K9 S)).mono (K10 S)).mono (K11 S)).mono (K12 S)).mono vw_any) r10 q10) ?_)
   rintro _ w14 hE13 ⟨v10, rfl, k10, -⟩
   exact zcn hE13 hZ11 zcb (fun _ h => h) ⟨v10, rfl, (k10.mono zdf), trivial⟩
  intro z1
  refine zau (fun _ hE14 => zav (zbm (vs := [(zaa b.Negative), b_v]) zam rfl ti26 rfl ((hL11.ext hE14).at 1 rfl rfl) rfl rfl (er rfl))) ?_
  refine zco ?_
  rintro w16 Z13 hE15 hZ13 ⟨⟨⟨v10, rfl, k10, -⟩, hB1⟩, -⟩ ap10
  have hB10 : ∀ b, some b ∈ ([] : List (Option Nat)) → w11.heap.size ≤ b ∧ ¬ Z13 b := by
   intro b hb; cases hb
  replace k10 := k10.mono (zdc hL11 hZ13 hB10)
  have hL14 := hL11.ext hE15
  have K13 := ke hL11 hE15
  obtain ⟨r11, q11, h⟩ := zdo h
  have f10 := (((((b_h.mono (K4 S)).mono (K9 S)).mono (K10 S)).mono (K11 S)).mono (K13 S))
  refine zaf (zaw en65 rfl rfl (halves_w N b b_v _ Any (f10.mono vw_any) r11 q11) ?_)
  rintro _ w17 hE16 ⟨v11, rfl, k11, -⟩
  replace k11 := k11.mono (zba (S := None) hL14 [])
  have hL15 := hL14.ext hE16
  have K14 := ke hL14 hE16
  refine zaf (zak (v := v10) rfl ?_)
  refine zaf (zak (v := v11) rfl ?_)
  refine zan (zaj (zah rfl (zaf (OpY.litRow0 zay ti3 hL15 ?_))))
  intro b11 w18 hL16 hS12
  have hE17 : Els (rInt .i64) (vH w None [some b10, some b6, some b1] w17) [] [] := zcp
  have K15 := ks w hS12
  refine zaf (zak (v := (osv (some b11) 0 (List.length ([] : (List Int))) 0)) rfl ?_)
  refine zan (zaj (zaj (zah rfl (zaf (zai (v := v11) rfl ?_)))))
  have f11 := (k11.mono (K15 None))
  refine zaf (zbd (v := v11) zay rfl f11 ?_)
  refine zaf (zdb (x := (r11.length : Int)) (y := 1) (z := (iw ((r11.length : Int) - 1))) rfl rfl rfl ?_)
  refine zaf (zak (v := (zab .i64 (iw ((r11.length : Int) - 1)))) rfl ?_)
  refine zan ?_
  obtain ⟨s10, hl10, g10⟩ := zdo h
  refine zbr (fun e w' => ∃ (sum10 : (List Int)) (v12 : Value) (u : Env), sum10 = s10 ∧ e = upds [(2, (zao (some ⟨b1, 0, none⟩))), (3, (zao (some ⟨b6, 0, none⟩))), (4, (zao (some ⟨b10, 0, none⟩))), (7, v12)] u ∧ vL w w' [some b1, some b6, some b10] [zac [(zaa a.Negative), a_v], zac [(zaa b.Negative), b_v], zac [(zaa false), (zad none 0 0)]] ∧ Keep w.heap.size [some b11, some b10, some b6, some b1] w18 [some b1, some b6, some b10] w' ∧ Rs (rInt .i64) (vH w None [some b1, some b6, some b10] w') v12 sum10 ∧ True) ?_ ?_
  ·
   refine zbh ?_
   have f12 := (hE17.mono (K15 None))
   have f13 := hL16.freezeRow 0 rfl rfl f12 rfl rfl rfl (show ([] ++ [] : List Value).length = 0 * (rInt .i64).sz by simp)
   have hp10 := hL16.pick [1, 2, 3] rfl rfl rfl
   have hL17 : vL w w18 [some b10, some b6, some b1] [zac [(zaa false), (zad none 0 0)], zac [(zaa b.Negative), b_v], zac [(zaa a.Negative), a_v]] := hp10.1
   have K16 := ks w hp10.2
   have hp11 := hL17.pick [2, 1, 0] rfl rfl rfl
   have hL18 : vL w w18 [some b1, some b6, some b10] [zac [(zaa a.Negative), a_v], zac [(zaa b.Negative), b_v], zac [(zaa false), (zad none 0 0)]] := hp11.1
   have K17 := ks w hp11.2
   have f14 := (f13.mono (K17 None))
   refine zce hl10 (fun (ss : ((List Int) × Int)) (e : Env) (w' : World) => match ss with | (sum11, i10) => ∃ (v13 : Value) (u : Env), e = upds [(2, (zao (some ⟨b1, 0, none⟩))), (3, (zao (some ⟨b6, 0, none⟩))), (4, (zao (some ⟨b10, 0, none⟩))), (5, v10), (6, v11), (7, v13), (8, (zab .i64 i10))] u ∧ vL w w' [some b1, some b6, some b10] [zac [(zaa a.Negative), a_v], zac [(zaa b.Negative), b_v], zac [(zaa false), (zad none 0 0)]] ∧ Keep w.heap.size [some b11, some b10, some b6, some b1] w18 [some b1, some b6, some b10] w' ∧ Rs (rInt .i64) (vH w None [some b1, some b6, some b10] w') v13 sum11 ∧ True) ⟨(osv (some b11) 0 (List.length ([] : (List Int))) 0), _, (zdt ⟨rfl, rfl, rfl, rfl, rfl, rfl, rfl, trivial⟩), hL18, (zaq K16 K17), f14, trivial⟩ ?_
   rintro ⟨sum11, i10⟩ oo _ w19 ⟨v13, u, rfl, hL19, K18, k12, -⟩ h hd10
   rw [rMul_b1] at h
   refine zaj (zaj (zah rfl (zaf (zai (v := (zab .i64 i10)) rfl ?_))))
   refine zaf (OpY.geq (x := i10) (y := 0) ((i10 : Int) ≥ 0) rfl rfl zbk ?_)
   refine zan ?_
   refine zbe ((i10 : Int) ≥ 0) rfl (fun hc10 => ?_) (fun hc10 => ?_)
   ·
    replace h := ite_t hc10 h
    refine zbf (zaj (zbh ?_))
    obtain ⟨x10, q12, h⟩ := zdo h
    obtain ⟨q13, q14, q15⟩ := zeb q12
    obtain ⟨x11, q16, h⟩ := zdo h
    obtain ⟨n10, q17, q18⟩ := zdu q16
    have f15 := (f11.mono (K18 None))
    obtain ⟨b12, o10, c10, vs10, q19, q20, f16, q21⟩ := zcw f15 q18
    obtain rfl := q21
    refine zcf 8 [[], [], [0], [], [], [], [], []] [] (fun W1 => [.rel (fun v Z w' => ∃ b13 cs10, (osv (some b13) 0 1 1) = v ∧ OwnC w' (some b13) (zac ([] ++ (cs10 ++ []))) ∧ Els (rInt .i64) (vZ W1 w None [some b1, some b6, some b10] Z w') cs10 [0] ∧ (cs10 ++ [] : List Value).length = 1 * (rInt .i64).sz ∧ True) footV, .det v13, .rel (fun v Z w' => ∃ ob10 cap10 cs11 sp10, (osv ob10 0 x10.length cap10) = v ∧ OwnC w' ob10 (zac ([] ++ (cs11 ++ sp10))) ∧ Els (rInt .i64) (vZ W1 w None [some b1, some b6, some b10] Z w') cs11 x10 ∧ (cs11 ++ sp10 : List Value).length = cap10 * (rInt .i64).sz ∧ True) footV, .det v10, .det v11, .det (zab .i64 i10), .det (zao (some ⟨b12, (o10 + n10 * (rInt .i64).sz), none⟩)), .det (zab .i64 x11)]) mixed rfl rfl rfl (fun _ => rfl) (fun _ => rfl) ?_ ?_
    ·
     intro W1 _
     exact ⟨fun v Z Z' w w' hΦ hz _ _ hs => by obtain ⟨b13, cs10, rfl, hO10, hE18, hc11, -⟩ := hΦ; exact ⟨b13, cs10, rfl, (hO10.stay (fun b hb => by cases hb; exact zax) hs), (hE18.mono (zcs hz hs)), hc11, trivial⟩, ⟨fun v Z Z' w w' hΦ hz _ _ hs => by obtain ⟨ob10, cap10, cs11, sp10, rfl, hO11, hE19, hc12, -⟩ := hΦ; exact ⟨ob10, cap10, cs11, sp10, rfl, (hO11.stay (fun b hb => (zdx (ob := ob10) (o := 0) (n := x10.length) (cap := cap10)).2 (by rw [hb]; exact zax)) hs), (hE19.mono (zcs hz hs)), hc12, trivial⟩, trivial⟩⟩
    ·
     intro w20 hE20
     have hL20 := hL19.ext hE20
     have K19 := ke hL19 hE20
     refine zct ?_ ?_
     ·
      rintro w21 Z14 hE21 hZ14 ⟨-⟩
      have hE22 : Els (rInt .i64) (vZ w20 w None [some b1, some b6, some b10] Z14 w21) [(zab .i64 0)] [0] := (zcg (a := [(zab .i64 0)]) rfl zcp)
      refine zav (zch (r := (rInt .i64)) (vs := [(zab .i64 0)]) (css := [[(zab .i64 0)]]) (xs := [0]) zay ti3 (zae rfl) rfl rfl ⟨rfl, rfl, trivial⟩ (zae rfl) hE22 rfl (Go.X.Loc.begin0 w21) ?_)
      intro b13 w22 hc13 hL21 hS13
      have hN10 : NewOwn w21 w22 [some b13] [zac ([] ++ ([(zab .i64 0)] ++ []))] := hL21.newOwn [0] rfl rfl rfl
      exact zcn hL21.done hZ14 hN10 (fun _ h => h) ⟨b13, [(zab .i64 0)], rfl, hN10.2.2.1, (hE22.mono (Zv.grow hL21.done)), hc13, trivial⟩
     intro z0
     refine zau (fun _ _ => zav (zai rfl (er rfl))) ?_
     refine zct ?_ ?_
     ·
      rintro w24 Z16 hE24 hZ16 ⟨⟨⟨b13, cs10, rfl, hO10, hE18, hc11, -⟩, hB0⟩, -⟩
      obtain ⟨ds10, q22, q23⟩ := Rs.src ((k12.mono (K19 None)).mono (Zv.old (Z := Z16) hE24))
      refine zav (zdk (r := (rInt .i64)) (H := (vZ w20 w None [some b1, some b6, some b10] Z16 w24)) (cs := cs10) (sp := []) (xs := [0]) (ys := sum11) (Y := x10) (n := 1) (cap := 1) (i := 0) zay ti3 rfl rfl rfl rfl (Go.X.Loc.begin1 hO10) rfl rfl hE18 rfl hc11 q22 (Els.anyH (fun _ _ _ _ h => h) q23) q13 q14 q15 ?_)
      intro ob10 cap10 sp10 cs11 w25 hE19 hc12 (hL22 : Go.X.Loc [some b13] [] w24 w25 [ob10] [zac ([] ++ (cs11 ++ sp10))]) hS14
      exact Made.use hZ16 (fun b hb => hB0 b ((zdx (o := 0) (n := 1) (cap := 1)).2 hb)) hL22 (fun b hb => List.mem_append_left _ ((zdx (o := 0) (n := 1) (cap := 1)).2 (by rw [← hb]; exact zax))) (fun b hb => footV_osv.1 hb) ⟨ob10, cap10, cs11, sp10, rfl, hL22.own.1, (hE19.mono (Zv.use (fun b hb => hB0 b ((zdx (o := 0) (n := 1) (cap := 1)).2 hb)) hL22)), hc12, trivial⟩
     intro z2
     refine zau (fun _ _ => zav (zai rfl (er rfl))) ?_
     refine zau (fun _ _ => zav (zai rfl (er rfl))) ?_
     refine zau (fun _ _ => zav (zai rfl (er rfl))) ?_
     refine zau (fun _ _ => zav (zbw (r := (rInt .i64)) (v := v11) (n := n10) (m := (o10 + n10 * (rInt .i64).sz)) zay ti3 rfl q19 rfl q17 q18 rfl (er rfl))) ?_
     refine zau (fun _ hE29 => zav (zck zbv rfl rfl zdy (zcz ((ke hL20 hE29) None) (zcz (K19 None) f16)) (er rfl))) ?_
     refine zco ?_
     rintro w31 Z22 hE30 hZ22 ⟨⟨⟨ob10, cap10, cs11, sp10, rfl, hO11, hE19, hc12, -⟩, hB2⟩, -, -⟩ ap11
     have hB11 : ∀ b, some b ∈ ([ob10] : List (Option Nat)) → w20.heap.size ≤ b ∧ ¬ Z22 b := by
      intro b hb
      rcases List.mem_cons.1 hb with hb' | hb
      ·
       have := hB2 b ((zdx (ob := ob10) (o := 0) (n := x10.length) (cap := cap10)).2 (by rw [hb']; exact zax)); exact ⟨this.1, this.2.2⟩
      cases hb
     replace hE19 := hE19.mono (zdc hL20 hZ22 hB11)
     have hN11 : NewOwn w20 w31 [ob10] [zac ([] ++ (cs11 ++ sp10))] := (zda zcb hO11 (fun b hb => (hB11 b (by rw [← hb]; simp)).1) (fun b _ hb => by cases hb))
     have hp12 := hL20.adoptL hE30 hN11
     have hL23 := hp12.1
     have K21 := ks w hp12.2
     obtain ⟨r12, q24, h⟩ := zdo h
     have f17 := (((((k10.mono (K14 None)).mono (K15 None)).mono (K18 None)).mono (K19 None)).mono (K21 None))
     refine zaf (zaw en71 rfl rfl (rtimes_w N r10 x11 v10 _ Any (f17.mono vw_any) r12 q24) ?_)
     rintro _ w32 hE31 ⟨v14, rfl, k13, -⟩
     replace k13 := k13.mono (zba (S := None) hL23 [])
     have hL24 := hL23.ext hE31
     have K22 := ke hL23 hE31
     obtain ⟨r13, q25, h⟩ := zdo h
     have f18 := (hE19.mono (K22 None))
     refine zaf (zaw en69 rfl rfl (rplus_w N x10 r12 (osv ob10 0 x10.length cap10) v14 _ Any (zdv (pre := []) (o := 0) (n := x10.length) (cap := cap10) (hL24.at 0 rfl rfl) f18 vw_any rfl rfl rfl hc12) (k13.mono vw_any) r13 q25) ?_)
     rintro _ w33 hE32 ⟨v15, rfl, k14, -⟩
     replace k14 := k14.mono (zba (S := None) hL24 [])
     have hL25 := hL24.ext hE32
     have K23 := ke hL24 hE32
     refine zaf (zak (v := v15) rfl ?_)
     refine zan (zbt (zah rfl (zaf (zai (v := (zab .i64 i10)) rfl ?_))))
     refine zaf (zdb (x := i10) (y := 1) (z := (iw (i10 - 1))) rfl rfl rfl ?_)
     refine zaf (zak (v := (zab .i64 (iw (i10 - 1)))) rfl ?_)
     refine zan ?_
     have hp13 := hL25.pick [1, 2, 3] rfl rfl rfl
     have hL26 : vL w w33 [some b1, some b6, some b10] [zac [(zaa a.Negative), a_v], zac [(zaa b.Negative), b_v], zac [(zaa false), (zad none 0 0)]] := hp13.1
     have K24 := ks w hp13.2
     have f19 := (k14.mono (K24 None))
     obtain rfl := zag h
     refine zar ⟨(r13, (iw (i10 - 1))), rfl, ?_⟩
     exact ⟨v15, _, (zdt ⟨rfl, rfl, rfl, rfl, rfl, rfl, rfl, trivial⟩), hL26, (zaq (zaq (zaq (zaq (zaq K18 K19) K21) K22) K23) K24), f19, trivial⟩
   ·
    replace h := ite_f hc10 h
    refine zcm rfl ?_
    obtain rfl := zag h
    obtain rfl := hd10 _ rfl
    replace h := g10
    try dsimp only at h
    skip
    refine zar ?_
    exact ⟨sum11, v13, _, rfl, (zdt ⟨rfl, rfl, rfl, rfl, trivial⟩), hL19, K18, k12, trivial⟩
  ·
   rintro _ w34 ⟨sum10, v12, u, rfl, rfl, hL27, K25, k15, -⟩
   replace h := g10
   try dsimp only at h
   refine zaj (zah rfl (zaf (zas (q := 0) zam rfl ti4 rfl rfl rfl ?_)))
   refine zaf (zaz (v := (zaa a.Negative)) zbs rfl rfl (hL27.at 0 rfl rfl) rfl ?_)
   refine zaf (zas (q := 0) zam rfl ti4 rfl rfl rfl ?_)
   refine zaf (zaz (v := (zaa b.Negative)) zbs rfl rfl (hL27.at 1 rfl rfl) rfl ?_)
   refine zaf (OpY.neqBool (x := a.Negative) (y := b.Negative) zbs rfl rfl ?_)
   refine zaf (zai (v := v12) rfl ?_)
   obtain ⟨r14, q26, h⟩ := zdo h
   refine zaf (zaw en68 rfl rfl (rbig_w N (!(a.Negative == b.Negative)) sum10 v12 _ Any (k15.mono vw_any) r14 q26) ?_)
   rintro _ w35 hE33 ⟨v16, rfl, k16, -⟩
   replace k16 := k16.mono (zba (S := None) hL27 [])
   have hL28 := hL27.ext hE33
   refine zcc (zbn (vs := [(zaa r14.Negative), v16]) ti26 rfl rfl rfl rfl (zds rfl (zds k16.one zdw)) hL28 2 rfl rfl (zae rfl) ?_)
   intro w36 (hL29 : vL w w36 [some b1, some b6, some b10] [zac [(zaa a.Negative), a_v], zac [(zaa b.Negative), b_v], zac [(zaa r14.Negative), v16]]) hS15
   have K26 := ks w hS15
   refine zan (zbj ?_)
   obtain rfl := zag h
   refine ⟨[(zap #[(zaa r14.Negative), v16])], ⟨⟨⟨b10, 0, none⟩, rfl, zdz zam rfl ti26 (hL29.at 2 rfl rfl) rfl⟩, trivial⟩, ⟨_, rfl, hL29.done, ?_⟩⟩
   have f20 := (k16.mono (K26 None))
   exact ⟨v16, rfl, (f20.mono zdi), trivial⟩
theorem rOf_w (N : Nat) (n : Int)  (w : World) (S : Nat → Prop)  (r : Big) (h : rOf N n = some r) :
  Calls Try.prog 37 #[(zab .i64 n)] w (Ret w (fun v w' => ∃ (v0_0 : Value), (zap #[(zaa r.Negative), v0_0]) = v ∧ Rs (rInt .u32) (vH w None [] w') v0_0 r.Digits ∧ True)) := by
 unfold rOf at h
 have hL : vL w w [] [] := Go.X.Loc.begin0 w
 refine calls_of (l := [(zab .i64 n)]) (rl := [.cell 2 26]) (n := 29) Try.func37 rfl rfl rfl (zae rfl) ?_
 refine zaj (zah rfl (zaf (zca (cs := [(zaa false), (zad none 0 0)]) ti26 rfl hL ?_)))
 intro b1 w2 hL3 hS5
 refine zan (zaj (zah rfl (zaf (zai (v := (zab .i64 n)) rfl ?_))))
 refine zaf (zbp (x := n) (z := (uw n)) Try.underlying2 zbc rfl rfl ?_)
 refine zaf (zak (v := (zab .u64 (uw n))) rfl ?_)
 refine zan (zaj (zaj (zah rfl (zaf (zai (v := (zab .i64 n)) rfl ?_)))))
 refine zaf (zcj (x := n) (y := 0) ((n : Int) < 0) rfl rfl zbk ?_)
 refine zan ?_
 obtain ⟨s9, h, g10⟩ := zdo h
 refine zbr (fun e w' => ∃ (u8 : Int) (u : Env), u8 = s9 ∧ e = upds [(0, (zab .i64 n)), (2, (zao (some ⟨b1, 0, none⟩))), (3, (zab .u64 u8))] u ∧ vL w w' [some b1] [zac [(zaa false), (zad none 0 0)]] ∧ Keep w.heap.size [some b1] w2 [some b1] w' ∧ True) ?_ ?_
 ·
  refine zbe ((n : Int) < 0) rfl (fun hc10 => ?_) (fun hc10 => ?_)
  ·
   replace h := ite_t hc10 h
   refine zah rfl (zaf (zai (v := (zab .i64 n)) rfl ?_))
   refine zaf (zby (x := n) (y := 1) (z := (iw (n + 1))) rfl rfl rfl ?_)
   refine zaf (OpY.neg (x := (iw (n + 1))) (z := (iw (0 - (iw (n + 1))))) rfl rfl ?_)
   refine zaf (zbp (x := (iw (0 - (iw (n + 1))))) (z := (uw (iw (0 - (iw (n + 1)))))) Try.underlying2 zbc rfl rfl ?_)
   refine zaf (zby (x := (uw (iw (0 - (iw (n + 1)))))) (y := 1) (z := (uw ((uw (iw (0 - (iw (n + 1))))) + 1))) rfl rfl rfl ?_)
   refine zaf (zak (v := (zab .u64 (uw ((uw (iw (0 - (iw (n + 1))))) + 1)))) rfl ?_)
   refine zan ?_
   obtain rfl := zag h
   refine zar ?_
   exact ⟨(uw ((uw (iw (0 - (iw (n + 1))))) + 1)), _, rfl, (zdt ⟨rfl, rfl, rfl, trivial⟩), hL3, zbo, trivial⟩
  ·
   replace h := ite_f hc10 h
   refine zbf ?_
   obtain rfl := zag h
   refine zar ?_
   exact ⟨(uw n), _, rfl, (zdt ⟨rfl, rfl, rfl, trivial⟩), hL3, zbo, trivial⟩
 ·
  rintro _ w10 ⟨u8, u, rfl, rfl, hL10, K10, -⟩
  replace h := g10
  try dsimp only at h
  refine zaj (zah rfl (zaf (OpY.litRow0 zay ti3 hL10 ?_)))
  intro b10 w11 hL11 hS10
  have hE10 : Els (rInt .i64) (vH w None [some b1] w10) [] [] := zcp
  have K11 := ks w hS10
  refine zaf (zak (v := (osv (some b10) 0 (List.length ([] : (List Int))) 0)) rfl ?_)
  refine zan (zaj ?_)
  obtain ⟨s10, hl10, g11⟩ := zdo h
  refine zbr (fun e w' => ∃ (l10 : (List Int)) (ob10 : Option Nat) (cap10 : Nat) (sp10 : List Value) (cs10 : List Value) (ln10 : Nat) (u : Env), l10 = s10 ∧ e = upds [(0, (zab .i64 n)), (2, (zao (some ⟨b1, 0, none⟩))), (4, (osv ob10 0 ln10 cap10))] u ∧ vL w w' [some b1, ob10] [zac [(zaa false), (zad none 0 0)], zac ([] ++ (cs10 ++ sp10))] ∧ Keep w.heap.size [some b10, some b1] w11 [some b1, ob10] w' ∧ Els (rInt .i64) (vH w None [some b1, ob10] w') cs10 l10 ∧ ln10 = List.length l10 ∧ (cs10 ++ sp10).length = cap10 * (rInt .i64).sz ∧ True) ?_ ?_
  ·
   refine zbh ?_
   have hp10 := hL11.pick [1, 0] rfl rfl rfl
   have hL12 : vL w w11 [some b1, some b10] [zac [(zaa false), (zad none 0 0)], zac ([] ++ ([] ++ []))] := hp10.1
   have K12 := ks w hp10.2
   have f10 := ((hE10.mono (K11 None)).mono (K12 None))
   refine zce hl10 (fun (ss : (Int × (List Int))) (e : Env) (w' : World) => match ss with | (u10, l11) => ∃ (ob11 : Option Nat) (cap11 : Nat) (sp11 : List Value) (cs11 : List Value) (ln11 : Nat) (u : Env), e = upds [(0, (zab .i64 n)), (2, (zao (some ⟨b1, 0, none⟩))), (3, (zab .u64 u10)), (4, (osv ob11 0 ln11 cap11))] u ∧ vL w w' [some b1, ob11] [zac [(zaa false), (zad none 0 0)], zac ([] ++ (cs11 ++ sp11))] ∧ Keep w.heap.size [some b10, some b1] w11 [some b1, ob11] w' ∧ Els (rInt .i64) (vH w None [some b1, ob11] w') cs11 l11 ∧ ln11 = List.length l11 ∧ (cs11 ++ sp11).length = cap11 * (rInt .i64).sz ∧ True) ⟨some b10, 0, [], [], (List.length ([] : (List Int))), _, (zdt ⟨rfl, rfl, rfl, rfl, trivial⟩), hL12, K12, f10, rfl, (show ([] ++ [] : List Value).length = 0 * (rInt .i64).sz by simp), trivial⟩ ?_
   rintro ⟨u10, l11⟩ oo _ w12 ⟨ob11, cap11, sp11, cs11, ln11, u, rfl, hL13, K13, hE11, rfl, hc11, -⟩ h hd10
   rw [rOf_b1] at h
   refine zaj (zaj (zah rfl (zaf (zai (v := (zab .u64 u10)) rfl ?_))))
   refine zaf (zdm (x := u10) (y := 0) ((u10 : Int) > 0) rfl rfl zbk ?_)
   refine zan ?_
   refine zbe ((u10 : Int) > 0) rfl (fun hc12 => ?_) (fun hc12 => ?_)
   ·
    replace h := ite_t hc12 h
    refine zbf (zbh (zaj (zah rfl (zaf (zai (v := (osv ob11 0 l11.length cap11)) rfl ?_)))))
    refine zaf (zai (v := (zab .u64 u10)) rfl ?_)
    refine zaf (OpY.remI (x := u10) (y := 65536) rfl rfl (by decide) ?_)
    refine zaf (zbp (x := (Int.tmod u10 65536)) (z := (iw (Int.tmod u10 65536))) zbc zbv rfl rfl ?_)
    have hE12 : Els (rInt .i64) (vH w None [some b1, ob11] w12) [(zab .i64 (iw (Int.tmod u10 65536)))] [(iw (Int.tmod u10 65536))] := (zcg (a := [(zab .i64 (iw (Int.tmod u10 65536)))]) rfl zcp)
    refine zaf (zch (r := (rInt .i64)) (vs := [(zab .i64 (iw (Int.tmod u10 65536)))]) (css := [[(zab .i64 (iw (Int.tmod u10 65536)))]]) (xs := [(iw (Int.tmod u10 65536))]) zay ti3 (zae rfl) rfl rfl ⟨rfl, rfl, trivial⟩ (zae rfl) hE12 rfl hL13 ?_)
    intro b11 w13 hc13 hL14 hS11
    have K14 := ks w hS11
    obtain ⟨x10, q10, h⟩ := zdo h
    obtain ⟨q11, q12, q13⟩ := zeb q10
    have f11 := (hE12.mono (K14 None))
    have f12 := (hE11.mono (K14 None))
    refine zaf (zdk (r := (rInt .i64)) (H := (vH w None [some b11, some b1, ob11] w13)) (cs := cs11) (sp := sp11) (xs := l11) (ys := [(iw (Int.tmod u10 65536))]) (Y := x10) (n := l11.length) (cap := cap11) (i := 2) zay ti3 rfl rfl rfl rfl hL14 rfl rfl f12 rfl hc11 (Src.row (pre := []) (o := 0) (n := 1) (cap := 1) (hL14.at 0 rfl rfl) f11 rfl rfl rfl) (Els.anyH (fun _ _ _ _ h => h) f11) q11 q12 q13 ?_)
    intro ob12 cap12 sp12 cs12 w14 hE13 hc14 (hL15 : vL w w14 [some b11, some b1, ob12] [zac ([] ++ ([(zab .i64 (iw (Int.tmod u10 65536)))] ++ [])), zac [(zaa false), (zad none 0 0)], zac ([] ++ (cs12 ++ sp12))]) hS12
    have K15 := ks w hS12
    refine zaf (zak (v := (osv ob12 0 x10.length cap12)) rfl ?_)
    refine zan (zah rfl (zaf (zai (v := (zab .u64 u10)) rfl ?_)))
    refine zaf (OpY.quoI (x := u10) (y := 65536) (z := (uw (Int.tdiv u10 65536))) rfl rfl (by decide) rfl ?_)
    refine zaf (zak (v := (zab .u64 (uw (Int.tdiv u10 65536)))) rfl ?_)
    refine zan (zbt ?_)
    have hp11 := hL15.pick [1, 2] rfl rfl rfl
    have hL16 : vL w w14 [some b1, ob12] [zac [(zaa false), (zad none 0 0)], zac ([] ++ (cs12 ++ sp12))] := hp11.1
    have K16 := ks w hp11.2
    have f13 := ((hE13.mono (K15 None)).mono (K16 None))
    obtain rfl := zag h
    refine zar ⟨((uw (Int.tdiv u10 65536)), x10), rfl, ?_⟩
    exact ⟨ob12, cap12, sp12, cs12, x10.length, _, (zdt ⟨rfl, rfl, rfl, rfl, trivial⟩), hL16, (zaq (zaq (zaq K13 K14) K15) K16), f13, rfl, hc14, trivial⟩
   ·
    replace h := ite_f hc12 h
    refine zcm rfl ?_
    obtain rfl := zag h
    obtain rfl := hd10 _ rfl
    replace h := g11
    try dsimp only at h
    skip
    refine zar ?_
    exact ⟨l11, ob11, cap11, sp11, cs11, l11.length, _, rfl, (zdt ⟨rfl, rfl, rfl, trivial⟩), hL13, K13, hE11, rfl, hc11, trivial⟩
  ·
   rintro _ w15 ⟨l10, ob10, cap10, sp10, cs10, ln10, u, rfl, rfl, hL17, K17, hE14, rfl, hc15, -⟩
   replace h := g11
   try dsimp only at h
   refine zaj (zah rfl (zaf (zai (v := (zab .i64 n)) rfl ?_)))
   refine zaf (zcj (x := n) (y := 0) ((n : Int) < 0) rfl rfl zbk ?_)
   refine zaf (zai (v := (osv ob10 0 l10.length cap10)) rfl ?_)
   obtain ⟨r10, q14, h⟩ := zdo h
   refine zaf (zaw en68 rfl rfl (rbig_w N (decide ((n : Int) < 0)) l10 (osv ob10 0 l10.length cap10) _ Any (zdv (pre := []) (o := 0) (n := l10.length) (cap := cap10) (hL17.at 1 rfl rfl) hE14 vw_any rfl rfl rfl hc15) r10 q14) ?_)
   rintro _ w16 hE15 ⟨v10, rfl, k10, -⟩
   replace k10 := k10.mono (zba (S := None) hL17 [])
   have hL18 := hL17.ext hE15
   refine zcc (zbn (vs := [(zaa r10.Negative), v10]) ti26 rfl rfl rfl rfl (zds rfl (zds k10.one zdw)) hL18 0 rfl rfl (zae rfl) ?_)
   intro w17 (hL19 : vL w w17 [some b1, ob10] [zac [(zaa r10.Negative), v10], zac ([] ++ (cs10 ++ sp10))]) hS13
   have K18 := ks w hS13
   refine zan (zbj ?_)
   obtain rfl := zag h
   refine ⟨[(zap #[(zaa r10.Negative), v10])], ⟨⟨⟨b1, 0, none⟩, rfl, zdz zam rfl ti26 (hL19.at 0 rfl rfl) rfl⟩, trivial⟩, ⟨_, rfl, hL19.done, ?_⟩⟩
   have f14 := (k10.mono (K18 None))
   exact ⟨v10, rfl, (f14.mono zdi), trivial⟩
end Go.Proofs.Ytakkacdhlocckaa.WR

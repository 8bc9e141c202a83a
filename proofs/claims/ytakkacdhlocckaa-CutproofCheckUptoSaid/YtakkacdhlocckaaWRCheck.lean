/- Walks, written by a program of mine (wip/tool); the kernel checks them. -/
import Derived.Test.YtakkacdhlocckaaProg
import Derived.Test.YtakkacdhlocckaaSqCheck
import Derived.Test.YtakkacdhlocckaaPR
import Derived.Test.YtakkacdhlocckaaWACheck
set_option maxRecDepth 100000
set_option maxHeartbeats 4000000
set_option linter.unusedVariables false
namespace Go.Proofs.Ytakkacdhlocckaa.WR
open Go Go.RowKit Go.X Go.D Go.Proofs.Ytakkacdhlocckaa.WA
theorem ti3 : TI Try.prog 3 1 8 (zac .i64 0) := TI.mk (by kernel_rfl)
theorem ti24 : TI Try.prog 24 1 24 (zad none 0 0) := TI.mk (by kernel_rfl)
theorem en82 : Enters Try.prog 82 := ⟨Try.f82, Try.func82, by kernel_rfl, by kernel_rfl⟩
theorem ti4 : TI Try.prog 4 1 1 (zaa false) := TI.mk (by kernel_rfl)
theorem en65 : Enters Try.prog 65 := ⟨Try.f65, Try.func65, by kernel_rfl, by kernel_rfl⟩
theorem en68 : Enters Try.prog 68 := ⟨Try.f68, Try.func68, by kernel_rfl, by kernel_rfl⟩
theorem en40 : Enters Try.prog 40 := ⟨Try.f40, Try.func40, by kernel_rfl, by kernel_rfl⟩
theorem en64 : Enters Try.prog 64 := ⟨Try.f64, Try.func64, by kernel_rfl, by kernel_rfl⟩
theorem en69 : Enters Try.prog 69 := ⟨Try.f69, Try.func69, by kernel_rfl, by kernel_rfl⟩
theorem en70 : Enters Try.prog 70 := ⟨Try.f70, Try.func70, by kernel_rfl, by kernel_rfl⟩
theorem en62 : Enters Try.prog 62 := ⟨Try.f62, Try.func62, by kernel_rfl, by kernel_rfl⟩
theorem en38 : Enters Try.prog 38 := ⟨Try.f38, Try.func38, by kernel_rfl, by kernel_rfl⟩
theorem en71 : Enters Try.prog 71 := ⟨Try.f71, Try.func71, by kernel_rfl, by kernel_rfl⟩
theorem en79 : Enters Try.prog 79 := ⟨Try.f79, Try.func79, by kernel_rfl, by kernel_rfl⟩
theorem en37 : Enters Try.prog 37 := ⟨Try.f37, Try.func37, by kernel_rfl, by kernel_rfl⟩
theorem en61 : Enters Try.prog 61 := ⟨Try.f61, Try.func61, by kernel_rfl, by kernel_rfl⟩
theorem rtrim_w (N : Nat) (l : (List Int)) (l_v : Value) (w : World) (S : Nat → Prop) (l_h : Rs (rInt .i64) (vH w S [] w) l_v l) (r : (List Int)) (h : rtrim N l = some r) :
  Calls Try.prog 82 #[l_v] w (Ret w (fun v w' => ∃ (v0_0 : Value), v0_0 = v ∧ Rs (rInt .i64) (vH w S [] w') v0_0 r ∧ True)) := by
 unfold rtrim at h
 have hL : vL w w [] [] := Go.X.Loc.begin0 w
 refine calls_of (l := [l_v]) (rl := [.tmp 2]) (n := 21) Try.func82 rfl rfl rfl (zae rfl) ?_
 refine zaj (zah rfl (zaf (zak (v := (zad none 0 0)) rfl ?_)))
 refine zao (zaj ?_)
 obtain ⟨s10, hl10, g10⟩ := zdq h
 refine zbq (fun e w' => ∃ (l10 : (List Int)) (v10 : Value) (u : Env), l10 = s10 ∧ e = upds [(0, v10)] u ∧ vL w w' [] [] ∧ Keep w.heap.size [] w [] w' ∧ Rs (rInt .i64) (vH w S [] w') v10 l10 ∧ True) ?_ ?_
 ·
  refine zbj ?_
  refine zci hl10 (fun (ss : (List Int)) (e : Env) (w' : World) => match ss with | l11 => ∃ (v11 : Value) (u : Env), e = upds [(0, v11)] u ∧ vL w w' [] [] ∧ Keep w.heap.size [] w [] w' ∧ Rs (rInt .i64) (vH w S [] w') v11 l11 ∧ True) ⟨l_v, _, (zdv ⟨rfl, trivial⟩), hL, zbo, l_h, trivial⟩ ?_
  rintro l11 oo _ w10 ⟨v11, u, rfl, hL10, K10, k10, -⟩ h hd10
  rw [rtrim_b1] at h
  refine zaj (zaj ?_)
  obtain ⟨s11, h, g11⟩ := zdq h
  refine zbq (fun e w' => ∃ (x10 : Bool) (u : Env), x10 = s11 ∧ e = upds [(0, v11), (14, (zaa x10))] u ∧ vL w w' [] [] ∧ Keep w.heap.size [] w10 [] w' ∧ True) ?_ ?_
  ·
   refine zah rfl (zaf (zai (v := v11) rfl ?_))
   refine zaf (zbg (v := v11) zba rfl k10 ?_)
   refine zaf (zdo (x := (l11.length : Int)) (y := 0) (((l11.length : Int) : Int) > 0) rfl rfl zbl ?_)
   refine zaf (zai (v := (zaa (decide (((l11.length : Int) : Int) > 0)))) rfl ?_)
   by_cases hc10 : ((l11.length : Int) : Int) > 0
   ·
    replace h := ite_t hc10 h
    refine zby rfl rfl (zdu hc10) (zai (v := v11) rfl ?_)
    refine zby rfl rfl (zdu hc10) (zai (v := v11) rfl ?_)
    refine zby rfl rfl (zdu hc10) (zbg (v := v11) zba rfl k10 ?_)
    refine zby rfl rfl (zdu hc10) (zdf (x := (l11.length : Int)) (y := 1) (z := (iw ((l11.length : Int) - 1))) rfl rfl rfl ?_)
    obtain ⟨x11, q10, h⟩ := zdq h
    obtain ⟨n10, q11, q12⟩ := zdw q10
    obtain ⟨b10, o10, c10, vs10, q13, q14, f10, q15⟩ := zdc k10 q12
    obtain rfl := q15
    refine zby rfl rfl (zdu hc10) (zbz (r := (rInt .i64)) (v := v11) (n := n10) (m := (o10 + n10 * (rInt .i64).sz)) zba ti3 rfl q13 rfl q11 q12 rfl ?_)
    refine zby rfl rfl (zdu hc10) (zct (v := (zac .i64 x11)) zbu rfl rfl zea f10 ?_)
    refine zby rfl rfl (zdu hc10) (OpY.eql (x := x11) (y := 0) ((x11 : Int) = 0) rfl rfl zbl ?_)
    refine zaf (zcm (t := (decide (((l11.length : Int) : Int) > 0))) (v := (zaa (decide ((x11 : Int) = 0)))) rfl (zdu hc10) rfl ?_)
    refine zao ?_
    obtain rfl := zag h
    refine zas ?_
    exact ⟨(decide ((x11 : Int) = 0)), _, rfl, (zdv ⟨rfl, rfl, trivial⟩), hL10, zbo, trivial⟩
   ·
    replace h := ite_f hc10 h
    refine zbx rfl rfl (zdr hc10) ?_
    refine zbx rfl rfl (zdr hc10) ?_
    refine zbx rfl rfl (zdr hc10) ?_
    refine zbx rfl rfl (zdr hc10) ?_
    refine zbx rfl rfl (zdr hc10) ?_
    refine zbx rfl rfl (zdr hc10) ?_
    refine zbx rfl rfl (zdr hc10) ?_
    refine zaf (zca (t := (decide (((l11.length : Int) : Int) > 0))) (v := (zaa false)) rfl (zdr hc10) rfl ?_)
    refine zao ?_
    obtain rfl := zag h
    refine zas ?_
    exact ⟨false, _, rfl, (zdv ⟨rfl, rfl, trivial⟩), hL10, zbo, trivial⟩
  ·
   rintro _ w11 ⟨x10, u, rfl, rfl, hL11, K11, -⟩
   replace h := g11
   try dsimp only at h
   refine zcu x10 rfl (fun hc11 => ?_) (fun hc11 => ?_)
   ·
    replace h := ite_t hc11 h
    refine zbi (zbj (zah rfl (zaf (zai (v := v11) rfl ?_))))
    refine zaf (zai (v := v11) rfl ?_)
    have f11 := (k10.mono (K11 S))
    refine zaf (zbg (v := v11) zba rfl f11 ?_)
    refine zaf (zdf (x := (l11.length : Int)) (y := 1) (z := (iw ((l11.length : Int) - 1))) rfl rfl rfl ?_)
    obtain ⟨x12, q16, h⟩ := zdq h
    obtain ⟨m10, n11, q17, q18, q19, q20, q21⟩ := cut_some q16
    refine zaf (OpY.cutRoX (l := m10) (h' := n11) zba ti3 rfl f11 (.inl ⟨rfl, by omega⟩) (.inr ⟨_, _, rfl, by rw [← q18]; rfl⟩) q19 q20 q21 ?_)
    intro v12 k11
    refine zaf (zak (v := v12) rfl ?_)
    refine zao (zbr ?_)
    obtain rfl := zag h
    refine zas ⟨x12, rfl, ?_⟩
    exact ⟨v12, _, (zdv ⟨rfl, trivial⟩), hL11, (zaq K10 K11), k11, trivial⟩
   ·
    replace h := ite_f hc11 h
    refine zcs rfl ?_
    have f12 := (k10.mono (K11 S))
    obtain rfl := zag h
    obtain rfl := hd10 _ rfl
    replace h := g10
    try dsimp only at h
    skip
    refine zas ?_
    exact ⟨l11, v11, _, rfl, (zdv ⟨rfl, trivial⟩), hL11, (zaq K10 K11), f12, trivial⟩
 ·
  rintro _ w12 ⟨l10, v10, u, rfl, rfl, hL12, K12, k12, -⟩
  replace h := g10
  try dsimp only at h
  refine zaj (zah rfl (zaf (zai (v := v10) rfl ?_)))
  refine zaf (zak (v := v10) rfl ?_)
  refine zao (zbn ?_)
  obtain rfl := zag h
  refine ⟨[v10], ⟨rfl, trivial⟩, ⟨_, rfl, hL12.done, ?_⟩⟩
  exact ⟨v10, rfl, (k12.mono zdh), trivial⟩
theorem halves_w (N : Nat) (x : Big) (x_v : Value) (w : World) (S : Nat → Prop) (x_h : Rs (rInt .u32) (vH w S [] w) x_v x.Digits) (r : (List Int)) (h : halves N x = some r) :
  Calls Try.prog 65 #[(zam #[(zaa x.Negative), x_v])] w (Ret w (fun v w' => ∃ (v0_0 : Value), v0_0 = v ∧ Rs (rInt .i64) (vH w None [] w') v0_0 r ∧ True)) := by
 unfold halves at h
 have hL : vL w w [] [] := Go.X.Loc.begin0 w
 refine calls_of (l := [(zam #[(zaa x.Negative), x_v])]) (rl := [.tmp 2]) (n := 32) Try.func65 rfl rfl rfl (zae rfl) ?_
 refine zaj (zah rfl (zaf (zde (cs := [(zaa x.Negative), x_v]) rfl rfl hL ?_)))
 intro b1 w2 hL3 hS5
 have K4 := ks w hS5
 refine zaf (zak (v := (zad none 0 0)) rfl ?_)
 refine zao (zaj (zah rfl (zaf (zdn zba ti3 hL3 ?_))))
 intro b6 w10 hL10 hS10
 have hE10 : Els (rInt .i64) (vH w None [some b1] w2) [] [] := zcv
 have K10 := ks w hS10
 refine zaf (zak (v := (osv (some b6) 0 (List.length ([] : (List Int))) 0)) rfl ?_)
 refine zao (zaj (zaj (zah rfl (zaf (zak (v := (zac .i64 0)) rfl ?_)))))
 refine zao ?_
 obtain ⟨s10, hl10, g10⟩ := zdq h
 refine zbq (fun e w' => ∃ (l10 : (List Int)) (ob10 : Option Nat) (cap10 : Nat) (sp10 : List Value) (cs10 : List Value) (ln10 : Nat) (u : Env), l10 = s10 ∧ e = upds [(3, (osv ob10 0 ln10 cap10))] u ∧ vL w w' [ob10] [zab ([] ++ (cs10 ++ sp10))] ∧ Keep w.heap.size [some b6, some b1] w10 [ob10] w' ∧ Els (rInt .i64) (vH w None [ob10] w') cs10 l10 ∧ ln10 = List.length l10 ∧ (cs10 ++ sp10).length = cap10 * (rInt .i64).sz ∧ True) ?_ ?_
 ·
  refine zbj ?_
  have hp10 := hL10.pick [1, 0] rfl rfl rfl
  have hL11 : vL w w10 [some b1, some b6] [zab [(zaa x.Negative), x_v], zab ([] ++ ([] ++ []))] := hp10.1
  have K11 := ks w hp10.2
  have f10 := ((hE10.mono (K10 None)).mono (K11 None))
  refine zci hl10 (fun (ss : ((List Int) × Int)) (e : Env) (w' : World) => match ss with | (l11, i10) => ∃ (ob11 : Option Nat) (cap11 : Nat) (sp11 : List Value) (cs11 : List Value) (ln11 : Nat) (u : Env), e = upds [(1, (zal (some ⟨b1, 0, none⟩))), (3, (osv ob11 0 ln11 cap11)), (4, (zac .i64 i10))] u ∧ vL w w' [some b1, ob11] [zab [(zaa x.Negative), x_v], zab ([] ++ (cs11 ++ sp11))] ∧ Keep w.heap.size [some b6, some b1] w10 [some b1, ob11] w' ∧ Els (rInt .i64) (vH w None [some b1, ob11] w') cs11 l11 ∧ ln11 = List.length l11 ∧ (cs11 ++ sp11).length = cap11 * (rInt .i64).sz ∧ True) ⟨some b6, 0, [], [], (List.length ([] : (List Int))), _, (zdv ⟨rfl, rfl, rfl, trivial⟩), hL11, K11, f10, rfl, (show ([] ++ [] : List Value).length = 0 * (rInt .i64).sz by simp), trivial⟩ ?_
  rintro ⟨l11, i10⟩ oo _ w11 ⟨ob11, cap11, sp11, cs11, ln11, u, rfl, hL12, K12, hE11, rfl, hc10, -⟩ h hd10
  rw [halves_b1] at h
  refine zaj (zaj (zah rfl (zaf (zai (v := (zac .i64 i10)) rfl ?_))))
  refine zaf (zar (q := 1) zan rfl ti24 rfl rfl rfl ?_)
  refine zaf (zbb (v := x_v) zap rfl rfl (hL12.at 0 rfl rfl) rfl ?_)
  have f11 := (((x_h.mono (K4 S)).mono (K10 S)).mono (K12 S))
  refine zaf (zbg (v := x_v) zap rfl f11 ?_)
  refine zaf (zcr (x := i10) (y := (x.Digits.length : Int)) ((i10 : Int) < (x.Digits.length : Int)) rfl rfl zbl ?_)
  refine zao ?_
  refine zbh ((i10 : Int) < (x.Digits.length : Int)) rfl (fun hc11 => ?_) (fun hc11 => ?_)
  ·
   replace h := ite_t hc11 h
   refine zbi (zaj (zbj ?_))
   obtain ⟨x10, q10, h⟩ := zdq h
   obtain ⟨n10, q11, q12⟩ := zdw q10
   obtain ⟨b10, o10, c10, vs10, q13, q14, f12, q15⟩ := zdc f11 q12
   obtain rfl := q15
   obtain ⟨x11, q16, h⟩ := zdq h
   obtain ⟨n11, q17, q18⟩ := zdw q16
   obtain ⟨b11, o11, c11, vs11, q19, q20, f13, q21⟩ := zdc f11 q18
   obtain rfl := q21
   refine zcb 16 [] [] (fun W1 => [.det (osv ob11 0 l11.length cap11), .det (zal (some ⟨b1, 1, none⟩)), .det x_v, .det (zac .i64 i10), .det (zal (some ⟨b10, (o10 + n10 * (rInt .u32).sz), none⟩)), .det (zac .u32 x10), .det (zac .u32 (Int.tmod x10 65536)), .det (zac .i64 (iw (Int.tmod x10 65536))), .det (zal (some ⟨b1, 1, none⟩)), .det x_v, .det (zac .i64 i10), .det (zal (some ⟨b11, (o11 + n11 * (rInt .u32).sz), none⟩)), .det (zac .u32 x11), .det (zac .u32 (uw32 (Int.tdiv x11 65536))), .det (zac .i64 (iw (uw32 (Int.tdiv x11 65536)))), .rel (fun v Z w' => ∃ b12 cs12, (osv (some b12) 0 2 2) = v ∧ OwnC w' (some b12) (zab ([] ++ (cs12 ++ []))) ∧ Els (rInt .i64) (vZ W1 w None [some b1, ob11] Z w') cs12 [(iw (Int.tmod x10 65536)), (iw (uw32 (Int.tdiv x11 65536)))] ∧ (cs12 ++ [] : List Value).length = 2 * (rInt .i64).sz ∧ True) footV]) mixed rfl rfl rfl (fun _ => rfl) (fun _ => rfl) ?_ ?_
   ·
    intro W1 _
    exact ⟨fun v Z Z' w w' hΦ hz _ _ hs => by obtain ⟨b12, cs12, rfl, hO10, hE12, hc12, -⟩ := hΦ; exact ⟨b12, cs12, rfl, (hO10.stay (fun b hb => by cases hb; exact zav) hs), (hE12.mono (zcg hz hs)), hc12, trivial⟩, trivial⟩
   ·
    intro w12 hE13
    have hL13 := hL12.ext hE13
    have K13 := ke hL12 hE13
    refine zat (fun _ _ => zau (zai rfl (er rfl))) ?_
    refine zat (fun _ _ => zau (zar zan rfl ti24 rfl rfl rfl (er rfl))) ?_
    refine zat (fun _ hE16 => zau (zbb zap rfl rfl ((hL13.ext hE16).at 0 rfl rfl) rfl (er rfl))) ?_
    refine zat (fun _ _ => zau (zai rfl (er rfl))) ?_
    refine zat (fun _ _ => zau (zbz (r := (rInt .u32)) (v := x_v) (n := n10) (m := (o10 + n10 * (rInt .u32).sz)) zap ti89 rfl q13 rfl q11 q12 rfl (er rfl))) ?_
    refine zat (fun _ hE19 => zau (zct zax rfl rfl zea (zdd ((ke hL13 hE19) S) (zdd (K13 S) f12)) (er rfl))) ?_
    refine zat (fun _ _ => zau (OpY.remI (x := x10) (y := 65536) rfl rfl (by decide) (er rfl))) ?_
    refine zat (fun _ _ => zau (zbt zax zbu rfl rfl (er rfl))) ?_
    refine zat (fun _ _ => zau (zar zan rfl ti24 rfl rfl rfl (er rfl))) ?_
    refine zat (fun _ hE23 => zau (zbb zap rfl rfl ((hL13.ext hE23).at 0 rfl rfl) rfl (er rfl))) ?_
    refine zat (fun _ _ => zau (zai rfl (er rfl))) ?_
    refine zat (fun _ _ => zau (zbz (r := (rInt .u32)) (v := x_v) (n := n11) (m := (o11 + n11 * (rInt .u32).sz)) zap ti89 rfl q19 rfl q17 q18 rfl (er rfl))) ?_
    refine zat (fun _ hE26 => zau (zct zax rfl rfl zea (zdd ((ke hL13 hE26) S) (zdd (K13 S) f13)) (er rfl))) ?_
    refine zat (fun _ _ => zau (OpY.quoI (x := x11) (y := 65536) (z := (uw32 (Int.tdiv x11 65536))) rfl rfl (by decide) rfl (er rfl))) ?_
    refine zat (fun _ _ => zau (zbt zax zbu rfl rfl (er rfl))) ?_
    refine zch ?_ ?_
    ·
     rintro w28 Z25 hE29 hZ25 ⟨-⟩
     have hE30 : Els (rInt .i64) (vZ w12 w None [some b1, ob11] Z25 w28) [(zac .i64 (iw (Int.tmod x10 65536))), (zac .i64 (iw (uw32 (Int.tdiv x11 65536))))] [(iw (Int.tmod x10 65536)), (iw (uw32 (Int.tdiv x11 65536)))] := (zcq (a := [(zac .i64 (iw (Int.tmod x10 65536)))]) rfl (zcq (a := [(zac .i64 (iw (uw32 (Int.tdiv x11 65536))))]) rfl zcv))
     refine zau (zcn (r := (rInt .i64)) (vs := [(zac .i64 (iw (Int.tmod x10 65536))), (zac .i64 (iw (uw32 (Int.tdiv x11 65536))))]) (css := [[(zac .i64 (iw (Int.tmod x10 65536)))], [(zac .i64 (iw (uw32 (Int.tdiv x11 65536))))]]) (xs := [(iw (Int.tmod x10 65536)), (iw (uw32 (Int.tdiv x11 65536)))]) zba ti3 (zae rfl) rfl rfl ⟨rfl, rfl, ⟨rfl, rfl, trivial⟩⟩ (zae rfl) hE30 rfl (Go.X.Loc.begin0 w28) ?_)
     intro b12 w29 hc13 hL16 hS11
     have hN10 : NewOwn w28 w29 [some b12] [zab ([] ++ ([(zac .i64 (iw (Int.tmod x10 65536))), (zac .i64 (iw (uw32 (Int.tdiv x11 65536))))] ++ []))] := hL16.newOwn [0] rfl rfl rfl
     exact zce hL16.done hZ25 hN10 (fun _ h => h) ⟨b12, [(zac .i64 (iw (Int.tmod x10 65536))), (zac .i64 (iw (uw32 (Int.tdiv x11 65536))))], rfl, hN10.2.2.1, (hE30.mono (Zv.grow hL16.done)), hc13, trivial⟩
    intro z10
    refine zcj ?_
    rintro w30 Z26 hE31 hZ26 ⟨⟨⟨b12, cs12, rfl, hO10, hE12, hc12, -⟩, hB10⟩, -⟩ ap10
    have hB11 : ∀ b, some b ∈ ([some b12] : List (Option Nat)) → w12.heap.size ≤ b ∧ ¬ Z26 b := by
     intro b hb
     rcases List.mem_cons.1 hb with hb' | hb
     ·
      have := hB10 b (by rw [hb']; exact zav); exact ⟨this.1, this.2.2⟩
     cases hb
    replace hE12 := hE12.mono (zcx hL13 hZ26 hB11)
    have hN11 : NewOwn w12 w30 [some b12] [zab ([] ++ (cs12 ++ []))] := (zcy zbv hO10 (fun b hb => (hB11 b (by rw [← hb]; simp)).1) (fun b _ hb => by cases hb))
    have hp11 := hL13.adoptL hE31 hN11
    have hL17 := hp11.1
    have K16 := ks w hp11.2
    obtain ⟨x12, q22, h⟩ := zdq h
    obtain ⟨q23, q24, q25⟩ := zed q22
    have f14 := ((hE11.mono (K13 None)).mono (K16 None))
    refine zaf (zdi (r := (rInt .i64)) (H := (vH w None [some b12, some b1, ob11] w30)) (cs := cs11) (sp := sp11) (xs := l11) (ys := [(iw (Int.tmod x10 65536)), (iw (uw32 (Int.tdiv x11 65536)))]) (Y := x12) (n := l11.length) (cap := cap11) (i := 2) zba ti3 rfl rfl rfl rfl hL17 rfl rfl f14 rfl hc10 (Src.row (pre := []) (o := 0) (n := 2) (cap := 2) (hL17.at 0 rfl rfl) hE12 rfl rfl rfl) (Els.anyH (fun _ _ _ _ h => h) hE12) q23 q24 q25 ?_)
    intro ob12 cap12 sp12 cs13 w31 hE32 hc14 (hL18 : vL w w31 [some b12, some b1, ob12] [zab ([] ++ (cs12 ++ [])), zab [(zaa x.Negative), x_v], zab ([] ++ (cs13 ++ sp12))]) hS12
    have K17 := ks w hS12
    refine zaf (zak (v := (osv ob12 0 x12.length cap12)) rfl ?_)
    refine zao (zbr (zah rfl (zaf (zai (v := (zac .i64 i10)) rfl ?_))))
    refine zaf (zcf (x := i10) (y := 1) (z := (iw (i10 + 1))) rfl rfl rfl ?_)
    refine zaf (zak (v := (zac .i64 (iw (i10 + 1)))) rfl ?_)
    refine zao ?_
    have hp12 := hL18.pick [1, 2] rfl rfl rfl
    have hL19 : vL w w31 [some b1, ob12] [zab [(zaa x.Negative), x_v], zab ([] ++ (cs13 ++ sp12))] := hp12.1
    have K18 := ks w hp12.2
    have f15 := ((hE32.mono (K17 None)).mono (K18 None))
    obtain rfl := zag h
    refine zas ⟨(x12, (iw (i10 + 1))), rfl, ?_⟩
    exact ⟨ob12, cap12, sp12, cs13, x12.length, _, (zdv ⟨rfl, rfl, rfl, trivial⟩), hL19, (zaq (zaq (zaq (zaq K12 K13) K16) K17) K18), f15, rfl, hc14, trivial⟩
  ·
   replace h := ite_f hc11 h
   refine zcs rfl ?_
   have hp13 := hL12.pick [1] rfl rfl rfl
   have hL20 : vL w w11 [ob11] [zab ([] ++ (cs11 ++ sp11))] := hp13.1
   have K19 := ks w hp13.2
   have f16 := (hE11.mono (K19 None))
   obtain rfl := zag h
   obtain rfl := hd10 _ rfl
   replace h := g10
   try dsimp only at h
   skip
   refine zas ?_
   exact ⟨l11, ob11, cap11, sp11, cs11, l11.length, _, rfl, (zdv ⟨rfl, trivial⟩), hL20, (zaq K12 K19), f16, rfl, hc10, trivial⟩
 ·
  rintro _ w32 ⟨l10, ob10, cap10, sp10, cs10, ln10, u, rfl, rfl, hL21, K20, hE33, rfl, hc15, -⟩
  replace h := g10
  try dsimp only at h
  refine zaj (zah rfl (zaf (zai (v := (osv ob10 0 l10.length cap10)) rfl ?_)))
  have f17 := hL21.freezeRow 0 rfl rfl hE33 rfl rfl rfl hc15
  have hp14 := hL21.pick [] rfl rfl rfl
  have hL22 : vL w w32 [] [] := hp14.1
  obtain ⟨r10, q26, h⟩ := zdq h
  refine zaf (zaw en82 rfl rfl (rtrim_w N l10 (osv ob10 0 l10.length cap10) _ _ (f17.mono Hv.enter) r10 q26) ?_)
  rintro _ w33 hE34 ⟨v10, rfl, k10, -⟩
  replace k10 := k10.mono (Hv.aliasO (S := None) hL22 [])
  have hL23 := hL22.ext hE34
  refine zaf (zak (v := v10) rfl ?_)
  refine zao (zbn ?_)
  obtain rfl := zag h
  refine ⟨[v10], ⟨rfl, trivial⟩, ⟨_, rfl, hL23.done, ?_⟩⟩
  exact ⟨v10, rfl, (k10.mono zdh), trivial⟩
theorem rbig_w (N : Nat) (negative : Bool) (l : (List Int)) (l_v : Value) (w : World) (S : Nat → Prop) (l_h : Rs (rInt .i64) (vH w S [] w) l_v l) (r : Big) (h : rbig N negative l = some r) :
  Calls Try.prog 68 #[(zaa negative), l_v] w (Ret w (fun v w' => ∃ (v0_0 : Value), (zam #[(zaa r.Negative), v0_0]) = v ∧ Rs (rInt .u32) (vH w None [] w') v0_0 r.Digits ∧ True)) := by
 unfold rbig at h
 have hL : vL w w [] [] := Go.X.Loc.begin0 w
 refine calls_of (l := [(zaa negative), l_v]) (rl := [.cell 4 26]) (n := 49) Try.func68 rfl rfl rfl (zae rfl) ?_
 refine zaj (zah rfl (zaf (zbw (cs := [(zaa false), (zad none 0 0)]) ti26 rfl hL ?_)))
 intro b1 w2 hL3 hS5
 have K4 := ks w hS5
 refine zao (zaj (zah rfl (zaf (zai (v := l_v) rfl ?_))))
 obtain ⟨r6, q7, h⟩ := zdq h
 have f10 := (l_h.mono (K4 S))
 refine zaf (zaw en82 rfl rfl (rtrim_w N l l_v _ _ (f10.mono Hv.enter) r6 q7) ?_)
 rintro _ w10 hE10 ⟨v8, rfl, k9, -⟩
 replace k9 := k9.mono (Hv.aliasO (S := S) hL3 [])
 have hL10 := hL3.ext hE10
 refine zaf (zak (v := v8) rfl ?_)
 refine zao (zaj ?_)
 obtain ⟨s10, h, g10⟩ := zdq h
 refine zbq (fun e w' => ∃ (negative10 : Bool) (b10 : Nat) (u : Env), negative10 = s10 ∧ e = upds [(1, v8), (4, (zal (some ⟨b1, 0, none⟩))), (5, (zal (some ⟨b10, 0, none⟩)))] u ∧ vL w w' [some b1, some b10] [zab [(zaa false), (zad none 0 0)], zab [(zaa negative10), (zad none 0 0)]] ∧ Keep w.heap.size [some b1] w10 [some b1, some b10] w' ∧ True) ?_ ?_
 ·
  refine zah rfl (zaf (zai (v := (zaa negative)) rfl ?_))
  refine zaf (zai (v := (zaa negative)) rfl ?_)
  by_cases hc10 : negative = true
  ·
   replace h := ite_t hc10 h
   refine zby rfl rfl hc10 (zai (v := v8) rfl ?_)
   refine zby rfl rfl hc10 (zbg (v := v8) zba rfl k9 ?_)
   refine zby rfl rfl hc10 (zdo (x := (r6.length : Int)) (y := 0) (((r6.length : Int) : Int) > 0) rfl rfl zbl ?_)
   refine zaf (zcm (t := negative) (v := (zaa (decide (((r6.length : Int) : Int) > 0)))) rfl hc10 rfl ?_)
   refine zaf (zdb (zc := [(zaa false), (zad none 0 0)]) (cs := [(zaa (decide (((r6.length : Int) : Int) > 0))), (zad none 0 0)]) (is := [0]) (vs := [(zaa (decide (((r6.length : Int) : Int) > 0)))]) (css := [[(zaa (decide (((r6.length : Int) : Int) > 0)))]]) pl26 ti26 rfl rfl rfl ⟨rfl, trivial⟩ rfl ?_)
   refine zaf (zbw (cs := [(zaa false), (zad none 0 0)]) ti26 rfl hL10 ?_)
   intro b11 w11 hL11 hS10
   have K10 := ks w hS10
   refine zcd (zbk (vs := [(zaa (decide (((r6.length : Int) : Int) > 0))), (zad none 0 0)]) ti26 rfl rfl rfl rfl (zds rfl (zds rfl zdx)) hL11 0 rfl rfl (zae rfl) ?_)
   intro w12 (hL12 : vL w w12 [some b11, some b1] [zab [(zaa (decide (((r6.length : Int) : Int) > 0))), (zad none 0 0)], zab [(zaa false), (zad none 0 0)]]) hS11
   have K11 := ks w hS11
   refine zao ?_
   have hp10 := hL12.pick [1, 0] rfl rfl rfl
   have hL13 : vL w w12 [some b1, some b11] [zab [(zaa false), (zad none 0 0)], zab [(zaa (decide (((r6.length : Int) : Int) > 0))), (zad none 0 0)]] := hp10.1
   have K12 := ks w hp10.2
   obtain rfl := zag h
   refine zas ?_
   exact ⟨(decide (((r6.length : Int) : Int) > 0)), b11, _, rfl, (zdv ⟨rfl, rfl, rfl, trivial⟩), hL13, (zaq (zaq K10 K11) K12), trivial⟩
  ·
   replace h := ite_f hc10 h
   refine zbx rfl rfl (zdt hc10) ?_
   refine zbx rfl rfl (zdt hc10) ?_
   refine zbx rfl rfl (zdt hc10) ?_
   refine zaf (zca (t := negative) (v := (zaa false)) rfl (zdt hc10) rfl ?_)
   refine zaf (zdb (zc := [(zaa false), (zad none 0 0)]) (cs := [(zaa false), (zad none 0 0)]) (is := [0]) (vs := [(zaa false)]) (css := [[(zaa false)]]) pl26 ti26 rfl rfl rfl ⟨rfl, trivial⟩ rfl ?_)
   refine zaf (zbw (cs := [(zaa false), (zad none 0 0)]) ti26 rfl hL10 ?_)
   intro b12 w13 hL14 hS12
   have K13 := ks w hS12
   refine zcd (zbk (vs := [(zaa false), (zad none 0 0)]) ti26 rfl rfl rfl rfl (zds rfl (zds rfl zdx)) hL14 0 rfl rfl (zae rfl) ?_)
   intro w14 (hL15 : vL w w14 [some b12, some b1] [zab [(zaa false), (zad none 0 0)], zab [(zaa false), (zad none 0 0)]]) hS13
   have K14 := ks w hS13
   refine zao ?_
   have hp11 := hL15.pick [1, 0] rfl rfl rfl
   have hL16 : vL w w14 [some b1, some b12] [zab [(zaa false), (zad none 0 0)], zab [(zaa false), (zad none 0 0)]] := hp11.1
   have K15 := ks w hp11.2
   obtain rfl := zag h
   refine zas ?_
   exact ⟨false, b12, _, rfl, (zdv ⟨rfl, rfl, rfl, trivial⟩), hL16, (zaq (zaq K13 K14) K15), trivial⟩
 ·
  rintro _ w15 ⟨negative10, b10, u, rfl, rfl, hL17, K16, -⟩
  replace h := g10
  try dsimp only at h
  refine zaj (zaj (zah rfl (zaf (zak (v := (zac .i64 0)) rfl ?_))))
  refine zao ?_
  obtain ⟨s11, hl10, g11⟩ := zdq h
  refine zbq (fun e w' => ∃ (digits10 : (List Int)) (ob10 : Option Nat) (cap10 : Nat) (sp10 : List Value) (cs10 : List Value) (ln10 : Nat) (u : Env), digits10 = s11 ∧ e = upds [(4, (zal (some ⟨b1, 0, none⟩))), (5, (zal (some ⟨b10, 0, none⟩)))] u ∧ vL w w' [some b1, some b10, ob10] [zab [(zaa false), (zad none 0 0)], zab [(zaa negative10), (osv ob10 0 ln10 cap10)], zab ([] ++ (cs10 ++ sp10))] ∧ Keep w.heap.size [some b1, some b10] w15 [some b1, some b10, ob10] w' ∧ Els (rInt .u32) (vH w None [some b1, some b10, ob10] w') cs10 digits10 ∧ ln10 = List.length digits10 ∧ (cs10 ++ sp10).length = cap10 * (rInt .u32).sz ∧ True) ?_ ?_
  ·
   refine zbj ?_
   have hp12 := hL17.addNil
   have hL18 : vL w w15 [none, some b1, some b10] [zab ([] ++ ([] ++ [])), zab [(zaa false), (zad none 0 0)], zab [(zaa negative10), (zad none 0 0)]] := hp12.1
   have K17 := ks w hp12.2
   have hp13 := hL18.pick [1, 2, 0] rfl rfl rfl
   have hL19 : vL w w15 [some b1, some b10, none] [zab [(zaa false), (zad none 0 0)], zab [(zaa negative10), (osv none 0 (List.length ([] : (List Int))) 0)], zab ([] ++ ([] ++ []))] := hp13.1
   have K18 := ks w hp13.2
   have f11 := ((zcv (r := (rInt .u32))).mono (K18 None))
   refine zci hl10 (fun (ss : ((List Int) × Int)) (e : Env) (w' : World) => match ss with | (digits11, i10) => ∃ (ob11 : Option Nat) (cap11 : Nat) (sp11 : List Value) (cs11 : List Value) (ln11 : Nat) (u : Env), e = upds [(1, v8), (4, (zal (some ⟨b1, 0, none⟩))), (5, (zal (some ⟨b10, 0, none⟩))), (6, (zac .i64 i10))] u ∧ vL w w' [some b1, some b10, ob11] [zab [(zaa false), (zad none 0 0)], zab [(zaa negative10), (osv ob11 0 ln11 cap11)], zab ([] ++ (cs11 ++ sp11))] ∧ Keep w.heap.size [some b1, some b10] w15 [some b1, some b10, ob11] w' ∧ Els (rInt .u32) (vH w None [some b1, some b10, ob11] w') cs11 digits11 ∧ ln11 = List.length digits11 ∧ (cs11 ++ sp11).length = cap11 * (rInt .u32).sz ∧ True) ⟨none, 0, [], [], (List.length ([] : (List Int))), _, (zdv ⟨rfl, rfl, rfl, rfl, trivial⟩), hL19, (zaq K17 K18), f11, rfl, (show ([] ++ [] : List Value).length = 0 * (rInt .u32).sz by simp), trivial⟩ ?_
   rintro ⟨digits11, i10⟩ oo _ w16 ⟨ob11, cap11, sp11, cs11, ln11, u, rfl, hL20, K19, hE11, rfl, hc11, -⟩ h hd10
   rw [rbig_b1] at h
   refine zaj (zaj (zah rfl (zaf (zai (v := (zac .i64 i10)) rfl ?_))))
   refine zaf (zai (v := v8) rfl ?_)
   have f12 := ((k9.mono (K16 S)).mono (K19 S))
   refine zaf (zbg (v := v8) zba rfl f12 ?_)
   refine zaf (zcr (x := i10) (y := (r6.length : Int)) ((i10 : Int) < (r6.length : Int)) rfl rfl zbl ?_)
   refine zao ?_
   refine zbh ((i10 : Int) < (r6.length : Int)) rfl (fun hc12 => ?_) (fun hc12 => ?_)
   ·
    replace h := ite_t hc12 h
    refine zbi (zaj (zbj (zaj (zah rfl (zaf (zai (v := v8) rfl ?_))))))
    refine zaf (zai (v := (zac .i64 i10)) rfl ?_)
    obtain ⟨x10, q10, h⟩ := zdq h
    obtain ⟨n10, q11, q12⟩ := zdw q10
    obtain ⟨b13, o10, c10, vs10, q13, q14, f13, q15⟩ := zdc f12 q12
    obtain rfl := q15
    refine zaf (zbz (r := (rInt .i64)) (v := v8) (n := n10) (m := (o10 + n10 * (rInt .i64).sz)) zba ti3 rfl q13 rfl q11 q12 rfl ?_)
    refine zaf (zct (v := (zac .i64 x10)) zbu rfl rfl zea f13 ?_)
    refine zaf (zbt (x := x10) (z := (uw32 x10)) zbu zax rfl rfl ?_)
    refine zaf (zak (v := (zac .u32 (uw32 x10))) rfl ?_)
    refine zao (zaj (zaj (zah rfl (zaf (zai (v := (zac .i64 i10)) rfl ?_)))))
    refine zaf (zcf (x := i10) (y := 1) (z := (iw (i10 + 1))) rfl rfl rfl ?_)
    refine zaf (zai (v := v8) rfl ?_)
    refine zaf (zbg (v := v8) zba rfl f12 ?_)
    refine zaf (zcr (x := (iw (i10 + 1))) (y := (r6.length : Int)) (((iw (i10 + 1)) : Int) < (r6.length : Int)) rfl rfl zbl ?_)
    refine zao ?_
    obtain ⟨s12, h, g12⟩ := zdq h
    refine zbq (fun e w' => ∃ (d10 : Int) (u : Env), d10 = s12 ∧ e = upds [(1, v8), (4, (zal (some ⟨b1, 0, none⟩))), (5, (zal (some ⟨b10, 0, none⟩))), (6, (zac .i64 i10)), (7, (zac .u32 d10))] u ∧ vL w w' [some b1, some b10, ob11] [zab [(zaa false), (zad none 0 0)], zab [(zaa negative10), (osv ob11 0 digits11.length cap11)], zab ([] ++ (cs11 ++ sp11))] ∧ Keep w.heap.size [some b1, some b10, ob11] w16 [some b1, some b10, ob11] w' ∧ True) ?_ ?_
    ·
     refine zbh (((iw (i10 + 1)) : Int) < (r6.length : Int)) rfl (fun hc13 => ?_) (fun hc13 => ?_)
     ·
      replace h := ite_t hc13 h
      refine zah rfl (zaf (zai (v := (zac .u32 (uw32 x10))) rfl ?_))
      refine zaf (zai (v := v8) rfl ?_)
      refine zaf (zai (v := (zac .i64 i10)) rfl ?_)
      refine zaf (zcf (x := i10) (y := 1) (z := (iw (i10 + 1))) rfl rfl rfl ?_)
      obtain ⟨x11, q16, h⟩ := zdq h
      obtain ⟨n11, q17, q18⟩ := zdw q16
      obtain ⟨b14, o11, c11, vs11, q19, q20, f14, q21⟩ := zdc f12 q18
      obtain rfl := q21
      refine zaf (zbz (r := (rInt .i64)) (v := v8) (n := n11) (m := (o11 + n11 * (rInt .i64).sz)) zba ti3 rfl q19 rfl q17 q18 rfl ?_)
      refine zaf (zct (v := (zac .i64 x11)) zbu rfl rfl zea f14 ?_)
      refine zaf (zbt (x := x11) (z := (uw32 x11)) zbu zax rfl rfl ?_)
      refine zaf (OpY.mul (x := 65536) (y := (uw32 x11)) (z := (uw32 (65536 * (uw32 x11)))) rfl rfl rfl ?_)
      refine zaf (zcf (x := (uw32 x10)) (y := (uw32 (65536 * (uw32 x11)))) (z := (uw32 ((uw32 x10) + (uw32 (65536 * (uw32 x11)))))) rfl rfl rfl ?_)
      refine zaf (zak (v := (zac .u32 (uw32 ((uw32 x10) + (uw32 (65536 * (uw32 x11))))))) rfl ?_)
      refine zao ?_
      obtain rfl := zag h
      refine zas ?_
      exact ⟨(uw32 ((uw32 x10) + (uw32 (65536 * (uw32 x11))))), _, rfl, (zdv ⟨rfl, rfl, rfl, rfl, rfl, trivial⟩), hL20, zbo, trivial⟩
     ·
      replace h := ite_f hc13 h
      refine zbi ?_
      obtain rfl := zag h
      refine zas ?_
      exact ⟨(uw32 x10), _, rfl, (zdv ⟨rfl, rfl, rfl, rfl, rfl, trivial⟩), hL20, zbo, trivial⟩
    ·
     rintro _ w17 ⟨d10, u, rfl, rfl, hL21, K20, -⟩
     replace h := g12
     try dsimp only at h
     refine zah rfl (zaf (zar (q := 1) zan rfl ti24 rfl rfl rfl ?_))
     refine zaf (zbb (v := (osv ob11 0 digits11.length cap11)) zap rfl rfl (hL21.at 1 rfl rfl) rfl ?_)
     refine zaf (zai (v := (zac .u32 d10)) rfl ?_)
     have hE12 : Els (rInt .u32) (vH w None [some b1, some b10, ob11] w17) [(zac .u32 d10)] [d10] := (zcq (a := [(zac .u32 d10)]) rfl zcv)
     refine zaf (zcn (r := (rInt .u32)) (vs := [(zac .u32 d10)]) (css := [[(zac .u32 d10)]]) (xs := [d10]) zap ti89 (zae rfl) rfl rfl ⟨rfl, rfl, trivial⟩ (zae rfl) hE12 rfl hL21 ?_)
     intro b15 w18 hc14 hL22 hS14
     have K21 := ks w hS14
     obtain ⟨x12, q22, h⟩ := zdq h
     obtain ⟨q23, q24, q25⟩ := zed q22
     have f15 := (hE12.mono (K21 None))
     have f16 := ((hE11.mono (K20 None)).mono (K21 None))
     refine zaf (zdi (r := (rInt .u32)) (H := (vH w None [some b15, some b1, some b10, ob11] w18)) (cs := cs11) (sp := sp11) (xs := digits11) (ys := [d10]) (Y := x12) (n := digits11.length) (cap := cap11) (i := 3) zap ti89 rfl rfl rfl rfl hL22 rfl rfl f16 rfl hc11 (Src.row (pre := []) (o := 0) (n := 1) (cap := 1) (hL22.at 0 rfl rfl) f15 rfl rfl rfl) (Els.anyH (fun _ _ _ _ h => h) f15) q23 q24 q25 ?_)
     intro ob12 cap12 sp12 cs12 w19 hE13 hc15 (hL23 : vL w w19 [some b15, some b1, some b10, ob12] [zab ([] ++ ([(zac .u32 d10)] ++ [])), zab [(zaa false), (zad none 0 0)], zab [(zaa negative10), (osv ob11 0 digits11.length cap11)], zab ([] ++ (cs12 ++ sp12))]) hS15
     have K22 := ks w hS15
     refine zaf (zar (q := 1) zan rfl ti24 rfl rfl rfl ?_)
     refine zcd (zbk (vs := [(osv ob12 0 x12.length cap12)]) ti24 rfl rfl (zeg (zec _ _ _ _)) rfl (zds (zec _ _ _ _) zdx) hL23 2 rfl rfl (zae rfl) ?_)
     intro w20 (hL24 : vL w w20 [some b15, some b1, some b10, ob12] [zab ([] ++ ([(zac .u32 d10)] ++ [])), zab [(zaa false), (zad none 0 0)], zab [(zaa negative10), (osv ob12 0 x12.length cap12)], zab ([] ++ (cs12 ++ sp12))]) hS16
     have K23 := ks w hS16
     refine zao (zbr (zah rfl (zaf (zai (v := (zac .i64 i10)) rfl ?_))))
     refine zaf (zcf (x := i10) (y := 2) (z := (iw (i10 + 2))) rfl rfl rfl ?_)
     refine zaf (zak (v := (zac .i64 (iw (i10 + 2)))) rfl ?_)
     refine zao ?_
     have hp14 := hL24.pick [1, 2, 3] rfl rfl rfl
     have hL25 : vL w w20 [some b1, some b10, ob12] [zab [(zaa false), (zad none 0 0)], zab [(zaa negative10), (osv ob12 0 x12.length cap12)], zab ([] ++ (cs12 ++ sp12))] := hp14.1
     have K24 := ks w hp14.2
     have f17 := (((hE13.mono (K22 None)).mono (K23 None)).mono (K24 None))
     obtain rfl := zag h
     refine zas ⟨(x12, (iw (i10 + 2))), rfl, ?_⟩
     exact ⟨ob12, cap12, sp12, cs12, x12.length, _, (zdv ⟨rfl, rfl, rfl, rfl, trivial⟩), hL25, (zaq (zaq (zaq (zaq (zaq K19 K20) K21) K22) K23) K24), f17, rfl, hc15, trivial⟩
   ·
    replace h := ite_f hc12 h
    refine zcs rfl ?_
    obtain rfl := zag h
    obtain rfl := hd10 _ rfl
    replace h := g11
    try dsimp only at h
    skip
    refine zas ?_
    exact ⟨digits11, ob11, cap11, sp11, cs11, digits11.length, _, rfl, (zdv ⟨rfl, rfl, trivial⟩), hL20, K19, hE11, rfl, hc11, trivial⟩
  ·
   rintro _ w21 ⟨digits10, ob10, cap10, sp10, cs10, ln10, u, rfl, rfl, hL26, K25, hE14, rfl, hc16, -⟩
   replace h := g11
   try dsimp only at h
   refine zaj (zah rfl (zaf (zbe (vs := [(zaa negative10), (osv ob10 0 digits10.length cap10)]) zan rfl ti26 rfl (hL26.at 1 rfl rfl) rfl rfl ?_)))
   refine zcd (zbk (vs := [(zaa negative10), (osv ob10 0 digits10.length cap10)]) ti26 rfl rfl rfl rfl (zds rfl (zds (zec _ _ _ _) zdx)) hL26 0 rfl rfl (zae rfl) ?_)
   intro w22 (hL27 : vL w w22 [some b1, some b10, ob10] [zab [(zaa negative10), (osv ob10 0 digits10.length cap10)], zab [(zaa negative10), (osv ob10 0 digits10.length cap10)], zab ([] ++ (cs10 ++ sp10))]) hS17
   have K26 := ks w hS17
   refine zao ?_
   have f18 := (hE14.mono (K26 None))
   have f19 := hL27.freezeRow 2 rfl rfl f18 rfl rfl rfl hc16
   have hp15 := hL27.pick [0, 1] rfl rfl rfl
   have hL28 : vL w w22 [some b1, some b10] [zab [(zaa negative10), (osv ob10 0 digits10.length cap10)], zab [(zaa negative10), (osv ob10 0 digits10.length cap10)]] := hp15.1
   refine zbn ?_
   obtain rfl := zag h
   refine ⟨[(zam #[(zaa negative10), (osv ob10 0 digits10.length cap10)])], ⟨⟨⟨b1, 0, none⟩, rfl, zeb zan rfl ti26 (hL28.at 0 rfl rfl) rfl⟩, trivial⟩, ⟨_, rfl, hL28.done, ?_⟩⟩
   exact ⟨(osv ob10 0 digits10.length cap10), rfl, (f19.mono zdh), trivial⟩
theorem rNormal_w (N : Nat) (x : Big) (x_v : Value) (w : World) (S : Nat → Prop) (x_h : Rs (rInt .u32) (vH w S [] w) x_v x.Digits) (r : Big) (h : rNormal N x = some r) :
  Calls Try.prog 81 #[(zam #[(zaa x.Negative), x_v])] w (Ret w (fun v w' => ∃ (v0_0 : Value), (zam #[(zaa r.Negative), v0_0]) = v ∧ Rs (rInt .u32) (vH w None [] w') v0_0 r.Digits ∧ True)) := by
 unfold rNormal at h
 have hL : vL w w [] [] := Go.X.Loc.begin0 w
 refine calls_of (l := [(zam #[(zaa x.Negative), x_v])]) (rl := [.cell 2 26]) (n := 8) Try.func81 rfl rfl rfl (zae rfl) ?_
 refine zaj (zah rfl (zaf (zde (cs := [(zaa x.Negative), x_v]) rfl rfl hL ?_)))
 intro b1 w2 hL3 hS5
 have K4 := ks w hS5
 refine zaf (zbw (cs := [(zaa false), (zad none 0 0)]) ti26 rfl hL3 ?_)
 intro b6 w7 hL8 hS10
 have K9 := ks w hS10
 refine zao (zaj ?_)
 obtain ⟨r10, q10, h⟩ := zdq h
 refine zcb 4 [] [] (fun W1 => [.det (zal (some ⟨b1, 0, none⟩)), .det (zaa x.Negative), .det (zam #[(zaa x.Negative), x_v]), .rel (fun v Z w' => ∃ v10, v10 = v ∧ Rs (rInt .i64) (vZ W1 w None [some b6, some b1] Z w') v10 r10 ∧ True) (fun _ => [])]) mixed rfl rfl rfl (fun _ => rfl) (fun _ => rfl) ?_ ?_
 ·
  intro W1 _
  exact ⟨fun v Z Z' w w' hΦ hz _ _ hs => by obtain ⟨v10, rfl, k10, -⟩ := hΦ; exact ⟨v10, rfl, (k10.mono (zcg hz hs)), trivial⟩, trivial⟩
 ·
  intro w10 hE10
  have hL10 := hL8.ext hE10
  have K10 := ke hL8 hE10
  refine zat (fun _ _ => zau (zar zan rfl ti4 rfl rfl rfl (er rfl))) ?_
  refine zat (fun _ hE12 => zau (zbb zbp rfl rfl ((hL10.ext hE12).at 1 rfl rfl) rfl (er rfl))) ?_
  refine zat (fun _ hE13 => zau (zbe (vs := [(zaa x.Negative), x_v]) zan rfl ti26 rfl ((hL10.ext hE13).at 1 rfl rfl) rfl rfl (er rfl))) ?_
  refine zch ?_ ?_
  ·
   rintro w14 Z13 hE14 hZ13 ⟨-⟩
   have K11 := ke hL10 hE14
   refine zau (zaw en65 rfl rfl (halves_w N x x_v _ Any (((((x_h.mono (K4 S)).mono (K9 S)).mono (K10 S)).mono (K11 S)).mono vw_any) r10 q10) ?_)
   rintro _ w15 hE15 ⟨v10, rfl, k10, -⟩
   exact zce hE15 hZ13 zbv (fun _ h => h) ⟨v10, rfl, (k10.mono zcz), trivial⟩
  intro z3
  refine zcj ?_
  rintro w16 Z14 hE16 hZ14 ⟨⟨⟨v10, rfl, k10, -⟩, hB3⟩, -⟩ ap10
  have hB10 : ∀ b, some b ∈ ([] : List (Option Nat)) → w10.heap.size ≤ b ∧ ¬ Z14 b := by
   intro b hb; cases hb
  replace k10 := k10.mono (zcx hL10 hZ14 hB10)
  have hL13 := hL10.ext hE16
  obtain ⟨r11, q11, h⟩ := zdq h
  refine zaf (zaw en68 rfl rfl (rbig_w N x.Negative r10 v10 _ Any (k10.mono vw_any) r11 q11) ?_)
  rintro _ w17 hE17 ⟨v11, rfl, k11, -⟩
  replace k11 := k11.mono (zbd (S := None) hL13 [])
  have hL14 := hL13.ext hE17
  refine zcd (zbk (vs := [(zaa r11.Negative), v11]) ti26 rfl rfl rfl rfl (zds rfl (zds k11.one zdx)) hL14 0 rfl rfl (zae rfl) ?_)
  intro w18 (hL15 : vL w w18 [some b6, some b1] [zab [(zaa r11.Negative), v11], zab [(zaa x.Negative), x_v]]) hS11
  have K12 := ks w hS11
  refine zao (zbn ?_)
  obtain rfl := zag h
  refine ⟨[(zam #[(zaa r11.Negative), v11])], ⟨⟨⟨b6, 0, none⟩, rfl, zeb zan rfl ti26 (hL15.at 0 rfl rfl) rfl⟩, trivial⟩, ⟨_, rfl, hL15.done, ?_⟩⟩
  have f10 := (k11.mono (K12 None))
  exact ⟨v11, rfl, (f10.mono zdh), trivial⟩
theorem rorder_w (N : Nat) (a : (List Int)) (b : (List Int)) (a_v : Value) (b_v : Value) (w : World) (S : Nat → Prop) (a_h : Rs (rInt .i64) (vH w S [] w) a_v a) (b_h : Rs (rInt .i64) (vH w S [] w) b_v b) (r : Int) (h : rorder N a b = some r) :
  Calls Try.prog 64 #[a_v, b_v] w (Ret w (fun v w' => (zac .i64 r) = v ∧ True)) := by
 unfold rorder at h
 have hL : vL w w [] [] := Go.X.Loc.begin0 w
 refine calls_of (l := [a_v, b_v]) (rl := [.tmp 4]) (n := 41) Try.func64 rfl rfl rfl (zae rfl) ?_
 refine zaj (zah rfl (zaf (zak (v := (zac .i64 0)) rfl ?_)))
 refine zao (zaj (zaj (zah rfl (zaf (zai (v := a_v) rfl ?_)))))
 refine zaf (zbg (v := a_v) zba rfl a_h ?_)
 refine zaf (zai (v := b_v) rfl ?_)
 refine zaf (zbg (v := b_v) zba rfl b_h ?_)
 refine zaf (OpY.neq (x := (a.length : Int)) (y := (b.length : Int)) (((a.length : Int) : Int) ≠ (b.length : Int)) rfl rfl zbl ?_)
 refine zao ?_
 refine zbh (((a.length : Int) : Int) ≠ (b.length : Int)) rfl (fun hc1 => ?_) (fun hc1 => ?_)
 ·
  replace h := ite_t hc1 h
  refine zaj (zaj (zah rfl (zaf (zai (v := a_v) rfl ?_))))
  refine zaf (zbg (v := a_v) zba rfl a_h ?_)
  refine zaf (zai (v := b_v) rfl ?_)
  refine zaf (zbg (v := b_v) zba rfl b_h ?_)
  refine zaf (zcr (x := (a.length : Int)) (y := (b.length : Int)) (((a.length : Int) : Int) < (b.length : Int)) rfl rfl zbl ?_)
  refine zao ?_
  refine zbh (((a.length : Int) : Int) < (b.length : Int)) rfl (fun hc2 => ?_) (fun hc2 => ?_)
  ·
   replace h := ite_t hc2 h
   refine zaj (zah rfl (zaf (zak (v := (zac .i64 (-1))) rfl ?_)))
   refine zao (zbn ?_)
   obtain rfl := zag h
   refine ⟨[(zac .i64 (-1))], ⟨rfl, trivial⟩, ⟨_, rfl, hL.done, ?_⟩⟩
   exact ⟨rfl, trivial⟩
  ·
   replace h := ite_f hc2 h
   refine zbi (zaj (zah rfl (zaf (zak (v := (zac .i64 1)) rfl ?_))))
   refine zao (zbn ?_)
   obtain rfl := zag h
   refine ⟨[(zac .i64 1)], ⟨rfl, trivial⟩, ⟨_, rfl, hL.done, ?_⟩⟩
   exact ⟨rfl, trivial⟩
 ·
  replace h := ite_f hc1 h
  refine zbi (zaj (zaj (zah rfl (zaf (zai (v := a_v) rfl ?_)))))
  refine zaf (zbg (v := a_v) zba rfl a_h ?_)
  refine zaf (zdf (x := (a.length : Int)) (y := 1) (z := (iw ((a.length : Int) - 1))) rfl rfl rfl ?_)
  refine zaf (zak (v := (zac .i64 (iw ((a.length : Int) - 1)))) rfl ?_)
  refine zao ?_
  obtain ⟨s10, hl10, g10⟩ := zdq h
  refine zbq (fun e w' => ∃  (u : Env), (Sum.inl ()) = s10 ∧ e = upds [] u ∧ vL w w' [] [] ∧ Keep w.heap.size [] w [] w' ∧ True) ?_ ?_
  ·
   refine zbj ?_
   refine zci hl10 (fun (ss : Int) (e : Env) (w' : World) => match ss with | i10 => ∃ (u : Env), e = upds [(0, a_v), (1, b_v), (5, (zac .i64 i10))] u ∧ vL w w' [] [] ∧ Keep w.heap.size [] w [] w' ∧ True) ⟨_, (zdv ⟨rfl, rfl, rfl, trivial⟩), hL, zbo, trivial⟩ ?_
   rintro i10 oo _ w10 ⟨u, rfl, hL10, K10, -⟩ h hd10
   rw [rorder_b1] at h
   refine zaj (zaj (zah rfl (zaf (zai (v := (zac .i64 i10)) rfl ?_))))
   refine zaf (OpY.geq (x := i10) (y := 0) ((i10 : Int) ≥ 0) rfl rfl zbl ?_)
   refine zao ?_
   refine zbh ((i10 : Int) ≥ 0) rfl (fun hc10 => ?_) (fun hc10 => ?_)
   ·
    replace h := ite_t hc10 h
    refine zbi (zaj (zbj (zaj (zaj ?_))))
    obtain ⟨x10, q10, h⟩ := zdq h
    obtain ⟨n10, q11, q12⟩ := zdw q10
    have f10 := (a_h.mono (K10 S))
    obtain ⟨b10, o10, c10, vs10, q13, q14, f11, q15⟩ := zdc f10 q12
    obtain rfl := q15
    obtain ⟨x11, q16, h⟩ := zdq h
    obtain ⟨n11, q17, q18⟩ := zdw q16
    have f12 := (b_h.mono (K10 S))
    obtain ⟨b11, o11, c11, vs11, q19, q20, f13, q21⟩ := zdc f12 q18
    obtain rfl := q21
    refine zcb 8 [] [] (fun W1 => [.det a_v, .det (zac .i64 i10), .det (zal (some ⟨b10, (o10 + n10 * (rInt .i64).sz), none⟩)), .det (zac .i64 x10), .det b_v, .det (zac .i64 i10), .det (zal (some ⟨b11, (o11 + n11 * (rInt .i64).sz), none⟩)), .det (zac .i64 x11)]) mixed rfl rfl rfl (fun _ => rfl) (fun _ => rfl) ?_ ?_
    ·
     intro W1 _
     exact trivial
    ·
     intro w11 hE10
     have hL11 := hL10.ext hE10
     have K11 := ke hL10 hE10
     refine zat (fun _ _ => zau (zai rfl (er rfl))) ?_
     refine zat (fun _ _ => zau (zai rfl (er rfl))) ?_
     refine zat (fun _ _ => zau (zbz (r := (rInt .i64)) (v := a_v) (n := n10) (m := (o10 + n10 * (rInt .i64).sz)) zba ti3 rfl q13 rfl q11 q12 rfl (er rfl))) ?_
     refine zat (fun _ hE14 => zau (zct zbu rfl rfl zea (zdd ((ke hL11 hE14) S) (zdd (K11 S) f11)) (er rfl))) ?_
     refine zat (fun _ _ => zau (zai rfl (er rfl))) ?_
     refine zat (fun _ _ => zau (zai rfl (er rfl))) ?_
     refine zat (fun _ _ => zau (zbz (r := (rInt .i64)) (v := b_v) (n := n11) (m := (o11 + n11 * (rInt .i64).sz)) zba ti3 rfl q19 rfl q17 q18 rfl (er rfl))) ?_
     refine zat (fun _ hE18 => zau (zct zbu rfl rfl zea (zdd ((ke hL11 hE18) S) (zdd (K11 S) f13)) (er rfl))) ?_
     refine zcj ?_
     rintro w20 Z18 hE19 hZ18 ⟨-⟩ ap10
     have hB10 : ∀ b, some b ∈ ([] : List (Option Nat)) → w11.heap.size ≤ b ∧ ¬ Z18 b := by
      intro b hb; cases hb
     have hL12 := hL11.ext hE19
     have K14 := ke hL11 hE19
     refine zaf (zcr (x := x10) (y := x11) ((x10 : Int) < x11) rfl rfl zbl ?_)
     refine zao ?_
     refine zbh ((x10 : Int) < x11) rfl (fun hc11 => ?_) (fun hc11 => ?_)
     ·
      replace h := ite_t hc11 h
      refine zaj (zah rfl (zaf (zak (v := (zac .i64 (-1))) rfl ?_)))
      refine zao (zbn ?_)
      obtain rfl := zag h
      obtain rfl := hd10 _ rfl
      replace h := g10
      try dsimp only at h
      obtain rfl := zag h
      refine ⟨[(zac .i64 (-1))], ⟨rfl, trivial⟩, ⟨_, rfl, hL12.done, ?_⟩⟩
      exact ⟨rfl, trivial⟩
     ·
      replace h := ite_f hc11 h
      refine zbi (zaj ?_)
      obtain ⟨x12, q22, h⟩ := zdq h
      obtain ⟨n12, q23, q24⟩ := zdw q22
      have f14 := ((f10.mono (K11 S)).mono (K14 S))
      obtain ⟨b12, o12, c12, vs12, q25, q26, f15, q27⟩ := zdc f14 q24
      obtain rfl := q27
      obtain ⟨x13, q28, h⟩ := zdq h
      obtain ⟨n13, q29, q30⟩ := zdw q28
      have f16 := ((f12.mono (K11 S)).mono (K14 S))
      obtain ⟨b13, o13, c13, vs13, q31, q32, f17, q33⟩ := zdc f16 q30
      obtain rfl := q33
      refine zcb 8 [] [] (fun W1 => [.det a_v, .det (zac .i64 i10), .det (zal (some ⟨b12, (o12 + n12 * (rInt .i64).sz), none⟩)), .det (zac .i64 x12), .det b_v, .det (zac .i64 i10), .det (zal (some ⟨b13, (o13 + n13 * (rInt .i64).sz), none⟩)), .det (zac .i64 x13)]) mixed rfl rfl rfl (fun _ => rfl) (fun _ => rfl) ?_ ?_
      ·
       intro W1 _
       exact trivial
      ·
       intro w21 hE20
       have hL13 := hL12.ext hE20
       have K15 := ke hL12 hE20
       refine zat (fun _ _ => zau (zai rfl (er rfl))) ?_
       refine zat (fun _ _ => zau (zai rfl (er rfl))) ?_
       refine zat (fun _ _ => zau (zbz (r := (rInt .i64)) (v := a_v) (n := n12) (m := (o12 + n12 * (rInt .i64).sz)) zba ti3 rfl q25 rfl q23 q24 rfl (er rfl))) ?_
       refine zat (fun _ hE24 => zau (zct zbu rfl rfl zea (zdd ((ke hL13 hE24) S) (zdd (K15 S) f15)) (er rfl))) ?_
       refine zat (fun _ _ => zau (zai rfl (er rfl))) ?_
       refine zat (fun _ _ => zau (zai rfl (er rfl))) ?_
       refine zat (fun _ _ => zau (zbz (r := (rInt .i64)) (v := b_v) (n := n13) (m := (o13 + n13 * (rInt .i64).sz)) zba ti3 rfl q31 rfl q29 q30 rfl (er rfl))) ?_
       refine zat (fun _ hE28 => zau (zct zbu rfl rfl zea (zdd ((ke hL13 hE28) S) (zdd (K15 S) f17)) (er rfl))) ?_
       refine zcj ?_
       rintro w30 Z27 hE29 hZ27 ⟨-⟩ ap11
       have hB11 : ∀ b, some b ∈ ([] : List (Option Nat)) → w21.heap.size ≤ b ∧ ¬ Z27 b := by
        intro b hb; cases hb
       have hL14 := hL13.ext hE29
       have K18 := ke hL13 hE29
       refine zaf (zdo (x := x12) (y := x13) ((x12 : Int) > x13) rfl rfl zbl ?_)
       refine zao ?_
       refine zbh ((x12 : Int) > x13) rfl (fun hc12 => ?_) (fun hc12 => ?_)
       ·
        replace h := ite_t hc12 h
        refine zaj (zah rfl (zaf (zak (v := (zac .i64 1)) rfl ?_)))
        refine zao (zbn ?_)
        obtain rfl := zag h
        obtain rfl := hd10 _ rfl
        replace h := g10
        try dsimp only at h
        obtain rfl := zag h
        refine ⟨[(zac .i64 1)], ⟨rfl, trivial⟩, ⟨_, rfl, hL14.done, ?_⟩⟩
        exact ⟨rfl, trivial⟩
       ·
        replace h := ite_f hc12 h
        refine zbi (zbr (zah rfl (zaf (zai (v := (zac .i64 i10)) rfl ?_))))
        refine zaf (zdf (x := i10) (y := 1) (z := (iw (i10 - 1))) rfl rfl rfl ?_)
        refine zaf (zak (v := (zac .i64 (iw (i10 - 1)))) rfl ?_)
        refine zao ?_
        obtain rfl := zag h
        refine zas ⟨(iw (i10 - 1)), rfl, ?_⟩
        exact ⟨_, (zdv ⟨rfl, rfl, rfl, trivial⟩), hL14, (zaq (zaq (zaq (zaq K10 K11) K14) K15) K18), trivial⟩
   ·
    replace h := ite_f hc10 h
    refine zcs rfl ?_
    obtain rfl := zag h
    obtain rfl := hd10 _ rfl
    replace h := g10
    try dsimp only at h
    skip
    refine zas ?_
    exact ⟨_, rfl, (zdv trivial), hL10, K10, trivial⟩
  ·
   rintro _ w31 ⟨u, rfl, rfl, hL15, K19, -⟩
   replace h := g10
   try dsimp only at h
   refine zaj (zah rfl (zaf (zak (v := (zac .i64 0)) rfl ?_)))
   refine zao (zbn ?_)
   obtain rfl := zag h
   refine ⟨[(zac .i64 0)], ⟨rfl, trivial⟩, ⟨_, rfl, hL15.done, ?_⟩⟩
   exact ⟨rfl, trivial⟩
theorem rplus_w (N : Nat) (a : (List Int)) (b : (List Int)) (a_v : Value) (b_v : Value) (w : World) (S : Nat → Prop) (a_h : Rs (rInt .i64) (vH w S [] w) a_v a) (b_h : Rs (rInt .i64) (vH w S [] w) b_v b) (r : (List Int)) (h : rplus N a b = some r) :
  Calls Try.prog 69 #[a_v, b_v] w (Ret w (fun v w' => ∃ (v0_0 : Value), v0_0 = v ∧ Rs (rInt .i64) (vH w None [] w') v0_0 r ∧ True)) := by
 unfold rplus at h
 have hL : vL w w [] [] := Go.X.Loc.begin0 w
 refine calls_of (l := [a_v, b_v]) (rl := [.tmp 4]) (n := 54) Try.func69 rfl rfl rfl (zae rfl) ?_
 refine zaj (zah rfl (zaf (zak (v := (zad none 0 0)) rfl ?_)))
 refine zao (zaj (zah rfl (zaf (zdn zba ti3 hL ?_))))
 intro b1 w5 hL6 hS8
 have hE9 : Els (rInt .i64) (vH w None [] w) [] [] := zcv
 have K7 := ks w hS8
 refine zaf (zak (v := (osv (some b1) 0 (List.length ([] : (List Int))) 0)) rfl ?_)
 refine zao (zaj (zah rfl (zaf (zak (v := (zac .i64 0)) rfl ?_))))
 refine zao (zaj (zaj (zah rfl (zaf (zak (v := (zac .i64 0)) rfl ?_)))))
 refine zao ?_
 obtain ⟨s10, hl10, g10⟩ := zdq h
 refine zbq (fun e w' => ∃ (out10 : (List Int)) (ob10 : Option Nat) (cap10 : Nat) (sp10 : List Value) (cs10 : List Value) (ln10 : Nat) (u : Env), out10 = s10 ∧ e = upds [(5, (osv ob10 0 ln10 cap10))] u ∧ vL w w' [ob10] [zab ([] ++ (cs10 ++ sp10))] ∧ Keep w.heap.size [some b1] w5 [ob10] w' ∧ Els (rInt .i64) (vH w None [ob10] w') cs10 out10 ∧ ln10 = List.length out10 ∧ (cs10 ++ sp10).length = cap10 * (rInt .i64).sz ∧ True) ?_ ?_
 ·
  refine zbj ?_
  have f10 := (hE9.mono (K7 None))
  refine zci hl10 (fun (ss : ((List Int) × Int × Int)) (e : Env) (w' : World) => match ss with | (out11, carry10, i10) => ∃ (ob11 : Option Nat) (cap11 : Nat) (sp11 : List Value) (cs11 : List Value) (ln11 : Nat) (u : Env), e = upds [(0, a_v), (1, b_v), (5, (osv ob11 0 ln11 cap11)), (6, (zac .i64 carry10)), (7, (zac .i64 i10))] u ∧ vL w w' [ob11] [zab ([] ++ (cs11 ++ sp11))] ∧ Keep w.heap.size [some b1] w5 [ob11] w' ∧ Els (rInt .i64) (vH w None [ob11] w') cs11 out11 ∧ ln11 = List.length out11 ∧ (cs11 ++ sp11).length = cap11 * (rInt .i64).sz ∧ True) ⟨some b1, 0, [], [], (List.length ([] : (List Int))), _, (zdv ⟨rfl, rfl, rfl, rfl, rfl, trivial⟩), hL6, zbo, f10, rfl, (show ([] ++ [] : List Value).length = 0 * (rInt .i64).sz by simp), trivial⟩ ?_
  rintro ⟨out11, carry10, i10⟩ oo _ w10 ⟨ob11, cap11, sp11, cs11, ln11, u, rfl, hL10, K10, hE10, rfl, hc10, -⟩ h hd10
  rw [rplus_b1] at h
  refine zaj (zaj ?_)
  obtain ⟨s11, h, g11⟩ := zdq h
  refine zbq (fun e w' => ∃ (x10 : Bool) (u : Env), x10 = s11 ∧ e = upds [(0, a_v), (1, b_v), (5, (osv ob11 0 out11.length cap11)), (6, (zac .i64 carry10)), (7, (zac .i64 i10)), (22, (zaa x10))] u ∧ vL w w' [ob11] [zab ([] ++ (cs11 ++ sp11))] ∧ Keep w.heap.size [ob11] w10 [ob11] w' ∧ True) ?_ ?_
  ·
   refine zah rfl (zaf (zai (v := (zac .i64 i10)) rfl ?_))
   refine zaf (zai (v := a_v) rfl ?_)
   have f11 := ((a_h.mono (K7 S)).mono (K10 S))
   refine zaf (zbg (v := a_v) zba rfl f11 ?_)
   refine zaf (zcr (x := i10) (y := (a.length : Int)) ((i10 : Int) < (a.length : Int)) rfl rfl zbl ?_)
   refine zaf (zai (v := (zaa (decide ((i10 : Int) < (a.length : Int))))) rfl ?_)
   by_cases hc11 : (i10 : Int) < (a.length : Int)
   ·
    replace h := ite_t hc11 h
    refine zbx rfl rfl (zdu hc11) ?_
    refine zbx rfl rfl (zdu hc11) ?_
    refine zbx rfl rfl (zdu hc11) ?_
    refine zbx rfl rfl (zdu hc11) ?_
    refine zaf (zcm (t := (decide ((i10 : Int) < (a.length : Int)))) (v := (zaa true)) rfl (zdu hc11) rfl ?_)
    refine zaf (zai (v := (zaa true)) rfl ?_)
    refine zbx rfl rfl rfl ?_
    refine zbx rfl rfl rfl ?_
    refine zaf (zcm (t := true) (v := (zaa true)) rfl rfl rfl ?_)
    refine zao ?_
    obtain rfl := zag h
    refine zas ?_
    exact ⟨true, _, rfl, (zdv ⟨rfl, rfl, rfl, rfl, rfl, rfl, trivial⟩), hL10, zbo, trivial⟩
   ·
    replace h := ite_f hc11 h
    refine zby rfl rfl (zdr hc11) (zai (v := (zac .i64 i10)) rfl ?_)
    refine zby rfl rfl (zdr hc11) (zai (v := b_v) rfl ?_)
    have f12 := ((b_h.mono (K7 S)).mono (K10 S))
    refine zby rfl rfl (zdr hc11) (zbg (v := b_v) zba rfl f12 ?_)
    refine zby rfl rfl (zdr hc11) (zcr (x := i10) (y := (b.length : Int)) ((i10 : Int) < (b.length : Int)) rfl rfl zbl ?_)
    refine zaf (zca (t := (decide ((i10 : Int) < (a.length : Int)))) (v := (zaa (decide ((i10 : Int) < (b.length : Int))))) rfl (zdr hc11) rfl ?_)
    refine zaf (zai (v := (zaa (decide ((i10 : Int) < (b.length : Int))))) rfl ?_)
    by_cases hc12 : (i10 : Int) < (b.length : Int)
    ·
     replace h := ite_t hc12 h
     refine zbx rfl rfl (zdu hc12) ?_
     refine zbx rfl rfl (zdu hc12) ?_
     refine zaf (zcm (t := (decide ((i10 : Int) < (b.length : Int)))) (v := (zaa true)) rfl (zdu hc12) rfl ?_)
     refine zao ?_
     obtain rfl := zag h
     refine zas ?_
     exact ⟨true, _, rfl, (zdv ⟨rfl, rfl, rfl, rfl, rfl, rfl, trivial⟩), hL10, zbo, trivial⟩
    ·
     replace h := ite_f hc12 h
     refine zby rfl rfl (zdr hc12) (zai (v := (zac .i64 carry10)) rfl ?_)
     refine zby rfl rfl (zdr hc12) (zdo (x := carry10) (y := 0) ((carry10 : Int) > 0) rfl rfl zbl ?_)
     refine zaf (zca (t := (decide ((i10 : Int) < (b.length : Int)))) (v := (zaa (decide ((carry10 : Int) > 0)))) rfl (zdr hc12) rfl ?_)
     refine zao ?_
     obtain rfl := zag h
     refine zas ?_
     exact ⟨(decide ((carry10 : Int) > 0)), _, rfl, (zdv ⟨rfl, rfl, rfl, rfl, rfl, rfl, trivial⟩), hL10, zbo, trivial⟩
  ·
   rintro _ w11 ⟨x10, u, rfl, rfl, hL11, K11, -⟩
   replace h := g11
   try dsimp only at h
   refine zcu x10 rfl (fun hc13 => ?_) (fun hc13 => ?_)
   ·
    replace h := ite_t hc13 h
    refine zbi (zaj (zbj (zaj (zaj (zah rfl (zaf (zai (v := (zac .i64 i10)) rfl ?_)))))))
    refine zaf (zai (v := a_v) rfl ?_)
    have f13 := (((a_h.mono (K7 S)).mono (K10 S)).mono (K11 S))
    refine zaf (zbg (v := a_v) zba rfl f13 ?_)
    refine zaf (zcr (x := i10) (y := (a.length : Int)) ((i10 : Int) < (a.length : Int)) rfl rfl zbl ?_)
    refine zao ?_
    obtain ⟨s12, h, g12⟩ := zdq h
    refine zbq (fun e w' => ∃ (carry11 : Int) (u : Env), carry11 = s12 ∧ e = upds [(0, a_v), (1, b_v), (5, (osv ob11 0 out11.length cap11)), (6, (zac .i64 carry11)), (7, (zac .i64 i10))] u ∧ vL w w' [ob11] [zab ([] ++ (cs11 ++ sp11))] ∧ Keep w.heap.size [ob11] w11 [ob11] w' ∧ True) ?_ ?_
    ·
     refine zbh ((i10 : Int) < (a.length : Int)) rfl (fun hc14 => ?_) (fun hc14 => ?_)
     ·
      replace h := ite_t hc14 h
      refine zah rfl (zaf (zai (v := (zac .i64 carry10)) rfl ?_))
      refine zaf (zai (v := a_v) rfl ?_)
      refine zaf (zai (v := (zac .i64 i10)) rfl ?_)
      obtain ⟨x11, q10, h⟩ := zdq h
      obtain ⟨n10, q11, q12⟩ := zdw q10
      obtain ⟨b10, o10, c10, vs10, q13, q14, f14, q15⟩ := zdc f13 q12
      obtain rfl := q15
      refine zaf (zbz (r := (rInt .i64)) (v := a_v) (n := n10) (m := (o10 + n10 * (rInt .i64).sz)) zba ti3 rfl q13 rfl q11 q12 rfl ?_)
      refine zaf (zct (v := (zac .i64 x11)) zbu rfl rfl zea f14 ?_)
      refine zaf (zcf (x := carry10) (y := x11) (z := (iw (carry10 + x11))) rfl rfl rfl ?_)
      refine zaf (zak (v := (zac .i64 (iw (carry10 + x11)))) rfl ?_)
      refine zao ?_
      obtain rfl := zag h
      refine zas ?_
      exact ⟨(iw (carry10 + x11)), _, rfl, (zdv ⟨rfl, rfl, rfl, rfl, rfl, trivial⟩), hL11, zbo, trivial⟩
     ·
      replace h := ite_f hc14 h
      refine zbi ?_
      obtain rfl := zag h
      refine zas ?_
      exact ⟨carry10, _, rfl, (zdv ⟨rfl, rfl, rfl, rfl, rfl, trivial⟩), hL11, zbo, trivial⟩
    ·
     rintro _ w12 ⟨carry11, u, rfl, rfl, hL12, K12, -⟩
     replace h := g12
     try dsimp only at h
     refine zaj (zaj (zah rfl (zaf (zai (v := (zac .i64 i10)) rfl ?_))))
     refine zaf (zai (v := b_v) rfl ?_)
     have f15 := ((((b_h.mono (K7 S)).mono (K10 S)).mono (K11 S)).mono (K12 S))
     refine zaf (zbg (v := b_v) zba rfl f15 ?_)
     refine zaf (zcr (x := i10) (y := (b.length : Int)) ((i10 : Int) < (b.length : Int)) rfl rfl zbl ?_)
     refine zao ?_
     obtain ⟨s13, h, g13⟩ := zdq h
     refine zbq (fun e w' => ∃ (carry12 : Int) (u : Env), carry12 = s13 ∧ e = upds [(0, a_v), (1, b_v), (5, (osv ob11 0 out11.length cap11)), (6, (zac .i64 carry12)), (7, (zac .i64 i10))] u ∧ vL w w' [ob11] [zab ([] ++ (cs11 ++ sp11))] ∧ Keep w.heap.size [ob11] w12 [ob11] w' ∧ True) ?_ ?_
     ·
      refine zbh ((i10 : Int) < (b.length : Int)) rfl (fun hc15 => ?_) (fun hc15 => ?_)
      ·
       replace h := ite_t hc15 h
       refine zah rfl (zaf (zai (v := (zac .i64 carry11)) rfl ?_))
       refine zaf (zai (v := b_v) rfl ?_)
       refine zaf (zai (v := (zac .i64 i10)) rfl ?_)
       obtain ⟨x12, q16, h⟩ := zdq h
       obtain ⟨n11, q17, q18⟩ := zdw q16
       obtain ⟨b11, o11, c11, vs11, q19, q20, f16, q21⟩ := zdc f15 q18
       obtain rfl := q21
       refine zaf (zbz (r := (rInt .i64)) (v := b_v) (n := n11) (m := (o11 + n11 * (rInt .i64).sz)) zba ti3 rfl q19 rfl q17 q18 rfl ?_)
       refine zaf (zct (v := (zac .i64 x12)) zbu rfl rfl zea f16 ?_)
       refine zaf (zcf (x := carry11) (y := x12) (z := (iw (carry11 + x12))) rfl rfl rfl ?_)
       refine zaf (zak (v := (zac .i64 (iw (carry11 + x12)))) rfl ?_)
       refine zao ?_
       obtain rfl := zag h
       refine zas ?_
       exact ⟨(iw (carry11 + x12)), _, rfl, (zdv ⟨rfl, rfl, rfl, rfl, rfl, trivial⟩), hL12, zbo, trivial⟩
      ·
       replace h := ite_f hc15 h
       refine zbi ?_
       obtain rfl := zag h
       refine zas ?_
       exact ⟨carry11, _, rfl, (zdv ⟨rfl, rfl, rfl, rfl, rfl, trivial⟩), hL12, zbo, trivial⟩
     ·
      rintro _ w13 ⟨carry12, u, rfl, rfl, hL13, K13, -⟩
      replace h := g13
      try dsimp only at h
      refine zaj (zah rfl (zaf (zai (v := (osv ob11 0 out11.length cap11)) rfl ?_)))
      refine zaf (zai (v := (zac .i64 carry12)) rfl ?_)
      refine zaf (OpY.remI (x := carry12) (y := 65536) rfl rfl (by decide) ?_)
      have hE11 : Els (rInt .i64) (vH w None [ob11] w13) [(zac .i64 (Int.tmod carry12 65536))] [(Int.tmod carry12 65536)] := (zcq (a := [(zac .i64 (Int.tmod carry12 65536))]) rfl zcv)
      refine zaf (zcn (r := (rInt .i64)) (vs := [(zac .i64 (Int.tmod carry12 65536))]) (css := [[(zac .i64 (Int.tmod carry12 65536))]]) (xs := [(Int.tmod carry12 65536)]) zba ti3 (zae rfl) rfl rfl ⟨rfl, rfl, trivial⟩ (zae rfl) hE11 rfl hL13 ?_)
      intro b12 w14 hc16 hL14 hS10
      have K14 := ks w hS10
      obtain ⟨x13, q22, h⟩ := zdq h
      obtain ⟨q23, q24, q25⟩ := zed q22
      have f17 := (hE11.mono (K14 None))
      have f18 := ((((hE10.mono (K11 None)).mono (K12 None)).mono (K13 None)).mono (K14 None))
      refine zaf (zdi (r := (rInt .i64)) (H := (vH w None [some b12, ob11] w14)) (cs := cs11) (sp := sp11) (xs := out11) (ys := [(Int.tmod carry12 65536)]) (Y := x13) (n := out11.length) (cap := cap11) (i := 1) zba ti3 rfl rfl rfl rfl hL14 rfl rfl f18 rfl hc10 (Src.row (pre := []) (o := 0) (n := 1) (cap := 1) (hL14.at 0 rfl rfl) f17 rfl rfl rfl) (Els.anyH (fun _ _ _ _ h => h) f17) q23 q24 q25 ?_)
      intro ob12 cap12 sp12 cs12 w15 hE12 hc17 (hL15 : vL w w15 [some b12, ob12] [zab ([] ++ ([(zac .i64 (Int.tmod carry12 65536))] ++ [])), zab ([] ++ (cs12 ++ sp12))]) hS11
      have K15 := ks w hS11
      refine zaf (zak (v := (osv ob12 0 x13.length cap12)) rfl ?_)
      refine zao (zah rfl (zaf (zai (v := (zac .i64 carry12)) rfl ?_)))
      refine zaf (OpY.quoI (x := carry12) (y := 65536) (z := (iw (Int.tdiv carry12 65536))) rfl rfl (by decide) rfl ?_)
      refine zaf (zak (v := (zac .i64 (iw (Int.tdiv carry12 65536)))) rfl ?_)
      refine zao (zbr (zah rfl (zaf (zai (v := (zac .i64 i10)) rfl ?_))))
      refine zaf (zcf (x := i10) (y := 1) (z := (iw (i10 + 1))) rfl rfl rfl ?_)
      refine zaf (zak (v := (zac .i64 (iw (i10 + 1)))) rfl ?_)
      refine zao ?_
      have hp10 := hL15.pick [1] rfl rfl rfl
      have hL16 : vL w w15 [ob12] [zab ([] ++ (cs12 ++ sp12))] := hp10.1
      have K16 := ks w hp10.2
      have f19 := ((hE12.mono (K15 None)).mono (K16 None))
      obtain rfl := zag h
      refine zas ⟨(x13, (iw (Int.tdiv carry12 65536)), (iw (i10 + 1))), rfl, ?_⟩
      exact ⟨ob12, cap12, sp12, cs12, x13.length, _, (zdv ⟨rfl, rfl, rfl, rfl, rfl, trivial⟩), hL16, (zaq (zaq (zaq (zaq (zaq (zaq K10 K11) K12) K13) K14) K15) K16), f19, rfl, hc17, trivial⟩
   ·
    replace h := ite_f hc13 h
    refine zcs rfl ?_
    have f20 := (hE10.mono (K11 None))
    obtain rfl := zag h
    obtain rfl := hd10 _ rfl
    replace h := g10
    try dsimp only at h
    skip
    refine zas ?_
    exact ⟨out11, ob11, cap11, sp11, cs11, out11.length, _, rfl, (zdv ⟨rfl, trivial⟩), hL11, (zaq K10 K11), f20, rfl, hc10, trivial⟩
 ·
  rintro _ w16 ⟨out10, ob10, cap10, sp10, cs10, ln10, u, rfl, rfl, hL17, K17, hE13, rfl, hc18, -⟩
  replace h := g10
  try dsimp only at h
  refine zaj (zah rfl (zaf (zai (v := (osv ob10 0 out10.length cap10)) rfl ?_)))
  have f21 := hL17.freezeRow 0 rfl rfl hE13 rfl rfl rfl hc18
  have hp11 := hL17.pick [] rfl rfl rfl
  have hL18 : vL w w16 [] [] := hp11.1
  obtain ⟨r10, q26, h⟩ := zdq h
  refine zaf (zaw en82 rfl rfl (rtrim_w N out10 (osv ob10 0 out10.length cap10) _ _ (f21.mono Hv.enter) r10 q26) ?_)
  rintro _ w17 hE14 ⟨v10, rfl, k10, -⟩
  replace k10 := k10.mono (Hv.aliasO (S := None) hL18 [])
  have hL19 := hL18.ext hE14
  refine zaf (zak (v := v10) rfl ?_)
  refine zao (zbn ?_)
  obtain rfl := zag h
  refine ⟨[v10], ⟨rfl, trivial⟩, ⟨_, rfl, hL19.done, ?_⟩⟩
  exact ⟨v10, rfl, (k10.mono zdh), trivial⟩
theorem rminus_w (N : Nat) (a : (List Int)) (b : (List Int)) (a_v : Value) (b_v : Value) (w : World) (S : Nat → Prop) (a_h : Rs (rInt .i64) (vH w S [] w) a_v a) (b_h : Rs (rInt .i64) (vH w S [] w) b_v b) (r : (List Int)) (h : rminus N a b = some r) :
  Calls Try.prog 70 #[a_v, b_v] w (Ret w (fun v w' => ∃ (v0_0 : Value), v0_0 = v ∧ Rs (rInt .i64) (vH w None [] w') v0_0 r ∧ True)) := by
 unfold rminus at h
 have hL : vL w w [] [] := Go.X.Loc.begin0 w
 refine calls_of (l := [a_v, b_v]) (rl := [.tmp 4]) (n := 42) Try.func70 rfl rfl rfl (zae rfl) ?_
 refine zaj (zah rfl (zaf (zak (v := (zad none 0 0)) rfl ?_)))
 refine zao (zaj (zah rfl (zaf (zdn zba ti3 hL ?_))))
 intro b1 w5 hL6 hS8
 have hE9 : Els (rInt .i64) (vH w None [] w) [] [] := zcv
 have K7 := ks w hS8
 refine zaf (zak (v := (osv (some b1) 0 (List.length ([] : (List Int))) 0)) rfl ?_)
 refine zao (zaj (zah rfl (zaf (zak (v := (zac .i64 0)) rfl ?_))))
 refine zao (zaj (zaj (zah rfl (zaf (zak (v := (zac .i64 0)) rfl ?_)))))
 refine zao ?_
 obtain ⟨s10, hl10, g10⟩ := zdq h
 refine zbq (fun e w' => ∃ (out10 : (List Int)) (ob10 : Option Nat) (cap10 : Nat) (sp10 : List Value) (cs10 : List Value) (ln10 : Nat) (u : Env), out10 = s10 ∧ e = upds [(5, (osv ob10 0 ln10 cap10))] u ∧ vL w w' [ob10] [zab ([] ++ (cs10 ++ sp10))] ∧ Keep w.heap.size [some b1] w5 [ob10] w' ∧ Els (rInt .i64) (vH w None [ob10] w') cs10 out10 ∧ ln10 = List.length out10 ∧ (cs10 ++ sp10).length = cap10 * (rInt .i64).sz ∧ True) ?_ ?_
 ·
  refine zbj ?_
  have f10 := (hE9.mono (K7 None))
  refine zci hl10 (fun (ss : ((List Int) × Int × Int)) (e : Env) (w' : World) => match ss with | (out11, borrow10, i10) => ∃ (ob11 : Option Nat) (cap11 : Nat) (sp11 : List Value) (cs11 : List Value) (ln11 : Nat) (u : Env), e = upds [(0, a_v), (1, b_v), (5, (osv ob11 0 ln11 cap11)), (6, (zac .i64 borrow10)), (7, (zac .i64 i10))] u ∧ vL w w' [ob11] [zab ([] ++ (cs11 ++ sp11))] ∧ Keep w.heap.size [some b1] w5 [ob11] w' ∧ Els (rInt .i64) (vH w None [ob11] w') cs11 out11 ∧ ln11 = List.length out11 ∧ (cs11 ++ sp11).length = cap11 * (rInt .i64).sz ∧ True) ⟨some b1, 0, [], [], (List.length ([] : (List Int))), _, (zdv ⟨rfl, rfl, rfl, rfl, rfl, trivial⟩), hL6, zbo, f10, rfl, (show ([] ++ [] : List Value).length = 0 * (rInt .i64).sz by simp), trivial⟩ ?_
  rintro ⟨out11, borrow10, i10⟩ oo _ w10 ⟨ob11, cap11, sp11, cs11, ln11, u, rfl, hL10, K10, hE10, rfl, hc10, -⟩ h hd10
  rw [rminus_b1] at h
  refine zaj (zaj (zah rfl (zaf (zai (v := (zac .i64 i10)) rfl ?_))))
  refine zaf (zai (v := a_v) rfl ?_)
  have f11 := ((a_h.mono (K7 S)).mono (K10 S))
  refine zaf (zbg (v := a_v) zba rfl f11 ?_)
  refine zaf (zcr (x := i10) (y := (a.length : Int)) ((i10 : Int) < (a.length : Int)) rfl rfl zbl ?_)
  refine zao ?_
  refine zbh ((i10 : Int) < (a.length : Int)) rfl (fun hc11 => ?_) (fun hc11 => ?_)
  ·
   replace h := ite_t hc11 h
   refine zbi (zaj (zbj (zaj (zah rfl (zaf (zai (v := a_v) rfl ?_))))))
   refine zaf (zai (v := (zac .i64 i10)) rfl ?_)
   obtain ⟨x10, q10, h⟩ := zdq h
   obtain ⟨n10, q11, q12⟩ := zdw q10
   obtain ⟨b10, o10, c10, vs10, q13, q14, f12, q15⟩ := zdc f11 q12
   obtain rfl := q15
   refine zaf (zbz (r := (rInt .i64)) (v := a_v) (n := n10) (m := (o10 + n10 * (rInt .i64).sz)) zba ti3 rfl q13 rfl q11 q12 rfl ?_)
   refine zaf (zct (v := (zac .i64 x10)) zbu rfl rfl zea f12 ?_)
   refine zaf (zai (v := (zac .i64 borrow10)) rfl ?_)
   refine zaf (zdf (x := x10) (y := borrow10) (z := (iw (x10 - borrow10))) rfl rfl rfl ?_)
   refine zaf (zak (v := (zac .i64 (iw (x10 - borrow10)))) rfl ?_)
   refine zao (zaj (zaj (zah rfl (zaf (zai (v := (zac .i64 i10)) rfl ?_)))))
   refine zaf (zai (v := b_v) rfl ?_)
   have f13 := ((b_h.mono (K7 S)).mono (K10 S))
   refine zaf (zbg (v := b_v) zba rfl f13 ?_)
   refine zaf (zcr (x := i10) (y := (b.length : Int)) ((i10 : Int) < (b.length : Int)) rfl rfl zbl ?_)
   refine zao ?_
   obtain ⟨s11, h, g11⟩ := zdq h
   refine zbq (fun e w' => ∃ (n11 : Int) (u : Env), n11 = s11 ∧ e = upds [(0, a_v), (1, b_v), (5, (osv ob11 0 out11.length cap11)), (7, (zac .i64 i10)), (8, (zac .i64 n11))] u ∧ vL w w' [ob11] [zab ([] ++ (cs11 ++ sp11))] ∧ Keep w.heap.size [ob11] w10 [ob11] w' ∧ True) ?_ ?_
   ·
    refine zbh ((i10 : Int) < (b.length : Int)) rfl (fun hc12 => ?_) (fun hc12 => ?_)
    ·
     replace h := ite_t hc12 h
     refine zah rfl (zaf (zai (v := (zac .i64 (iw (x10 - borrow10)))) rfl ?_))
     refine zaf (zai (v := b_v) rfl ?_)
     refine zaf (zai (v := (zac .i64 i10)) rfl ?_)
     obtain ⟨x11, q16, h⟩ := zdq h
     obtain ⟨n12, q17, q18⟩ := zdw q16
     obtain ⟨b11, o11, c11, vs11, q19, q20, f14, q21⟩ := zdc f13 q18
     obtain rfl := q21
     refine zaf (zbz (r := (rInt .i64)) (v := b_v) (n := n12) (m := (o11 + n12 * (rInt .i64).sz)) zba ti3 rfl q19 rfl q17 q18 rfl ?_)
     refine zaf (zct (v := (zac .i64 x11)) zbu rfl rfl zea f14 ?_)
     refine zaf (zdf (x := (iw (x10 - borrow10))) (y := x11) (z := (iw ((iw (x10 - borrow10)) - x11))) rfl rfl rfl ?_)
     refine zaf (zak (v := (zac .i64 (iw ((iw (x10 - borrow10)) - x11)))) rfl ?_)
     refine zao ?_
     obtain rfl := zag h
     refine zas ?_
     exact ⟨(iw ((iw (x10 - borrow10)) - x11)), _, rfl, (zdv ⟨rfl, rfl, rfl, rfl, rfl, trivial⟩), hL10, zbo, trivial⟩
    ·
     replace h := ite_f hc12 h
     refine zbi ?_
     obtain rfl := zag h
     refine zas ?_
     exact ⟨(iw (x10 - borrow10)), _, rfl, (zdv ⟨rfl, rfl, rfl, rfl, rfl, trivial⟩), hL10, zbo, trivial⟩
   ·
    rintro _ w11 ⟨n11, u, rfl, rfl, hL11, K11, -⟩
    replace h := g11
    try dsimp only at h
    refine zaj (zah rfl (zaf (zak (v := (zac .i64 0)) rfl ?_)))
    refine zao (zaj (zaj (zah rfl (zaf (zai (v := (zac .i64 n11)) rfl ?_)))))
    refine zaf (zcr (x := n11) (y := 0) ((n11 : Int) < 0) rfl rfl zbl ?_)
    refine zao ?_
    obtain ⟨s12, h, g12⟩ := zdq h
    refine zbq (fun e w' => ∃ (borrow11 : Int) (n13 : Int) (u : Env), (borrow11, n13) = s12 ∧ e = upds [(0, a_v), (1, b_v), (5, (osv ob11 0 out11.length cap11)), (6, (zac .i64 borrow11)), (7, (zac .i64 i10)), (8, (zac .i64 n13))] u ∧ vL w w' [ob11] [zab ([] ++ (cs11 ++ sp11))] ∧ Keep w.heap.size [ob11] w11 [ob11] w' ∧ True) ?_ ?_
    ·
     refine zbh ((n11 : Int) < 0) rfl (fun hc13 => ?_) (fun hc13 => ?_)
     ·
      replace h := ite_t hc13 h
      refine zaj (zah rfl (zaf (zai (v := (zac .i64 n11)) rfl ?_)))
      refine zaf (zcf (x := n11) (y := 65536) (z := (iw (n11 + 65536))) rfl rfl rfl ?_)
      refine zaf (zak (v := (zac .i64 (iw (n11 + 65536)))) rfl ?_)
      refine zao (zah rfl (zaf (zak (v := (zac .i64 1)) rfl ?_)))
      refine zao ?_
      obtain rfl := zag h
      refine zas ?_
      exact ⟨1, (iw (n11 + 65536)), _, rfl, (zdv ⟨rfl, rfl, rfl, rfl, rfl, rfl, trivial⟩), hL11, zbo, trivial⟩
     ·
      replace h := ite_f hc13 h
      refine zbi ?_
      obtain rfl := zag h
      refine zas ?_
      exact ⟨0, n11, _, rfl, (zdv ⟨rfl, rfl, rfl, rfl, rfl, rfl, trivial⟩), hL11, zbo, trivial⟩
    ·
     rintro _ w12 ⟨borrow11, n13, u, rfl, rfl, hL12, K12, -⟩
     replace h := g12
     try dsimp only at h
     refine zah rfl (zaf (zai (v := (osv ob11 0 out11.length cap11)) rfl ?_))
     refine zaf (zai (v := (zac .i64 n13)) rfl ?_)
     have hE11 : Els (rInt .i64) (vH w None [ob11] w12) [(zac .i64 n13)] [n13] := (zcq (a := [(zac .i64 n13)]) rfl zcv)
     refine zaf (zcn (r := (rInt .i64)) (vs := [(zac .i64 n13)]) (css := [[(zac .i64 n13)]]) (xs := [n13]) zba ti3 (zae rfl) rfl rfl ⟨rfl, rfl, trivial⟩ (zae rfl) hE11 rfl hL12 ?_)
     intro b12 w13 hc14 hL13 hS10
     have K13 := ks w hS10
     obtain ⟨x12, q22, h⟩ := zdq h
     obtain ⟨q23, q24, q25⟩ := zed q22
     have f15 := (hE11.mono (K13 None))
     have f16 := (((hE10.mono (K11 None)).mono (K12 None)).mono (K13 None))
     refine zaf (zdi (r := (rInt .i64)) (H := (vH w None [some b12, ob11] w13)) (cs := cs11) (sp := sp11) (xs := out11) (ys := [n13]) (Y := x12) (n := out11.length) (cap := cap11) (i := 1) zba ti3 rfl rfl rfl rfl hL13 rfl rfl f16 rfl hc10 (Src.row (pre := []) (o := 0) (n := 1) (cap := 1) (hL13.at 0 rfl rfl) f15 rfl rfl rfl) (Els.anyH (fun _ _ _ _ h => h) f15) q23 q24 q25 ?_)
     intro ob12 cap12 sp12 cs12 w14 hE12 hc15 (hL14 : vL w w14 [some b12, ob12] [zab ([] ++ ([(zac .i64 n13)] ++ [])), zab ([] ++ (cs12 ++ sp12))]) hS11
     have K14 := ks w hS11
     refine zaf (zak (v := (osv ob12 0 x12.length cap12)) rfl ?_)
     refine zao (zbr (zah rfl (zaf (zai (v := (zac .i64 i10)) rfl ?_))))
     refine zaf (zcf (x := i10) (y := 1) (z := (iw (i10 + 1))) rfl rfl rfl ?_)
     refine zaf (zak (v := (zac .i64 (iw (i10 + 1)))) rfl ?_)
     refine zao ?_
     have hp10 := hL14.pick [1] rfl rfl rfl
     have hL15 : vL w w14 [ob12] [zab ([] ++ (cs12 ++ sp12))] := hp10.1
     have K15 := ks w hp10.2
     have f17 := ((hE12.mono (K14 None)).mono (K15 None))
     obtain rfl := zag h
     refine zas ⟨(x12, borrow11, (iw (i10 + 1))), rfl, ?_⟩
     exact ⟨ob12, cap12, sp12, cs12, x12.length, _, (zdv ⟨rfl, rfl, rfl, rfl, rfl, trivial⟩), hL15, (zaq (zaq (zaq (zaq (zaq K10 K11) K12) K13) K14) K15), f17, rfl, hc15, trivial⟩
  ·
   replace h := ite_f hc11 h
   refine zcs rfl ?_
   obtain rfl := zag h
   obtain rfl := hd10 _ rfl
   replace h := g10
   try dsimp only at h
   skip
   refine zas ?_
   exact ⟨out11, ob11, cap11, sp11, cs11, out11.length, _, rfl, (zdv ⟨rfl, trivial⟩), hL10, K10, hE10, rfl, hc10, trivial⟩
 ·
  rintro _ w15 ⟨out10, ob10, cap10, sp10, cs10, ln10, u, rfl, rfl, hL16, K16, hE13, rfl, hc16, -⟩
  replace h := g10
  try dsimp only at h
  refine zaj (zah rfl (zaf (zai (v := (osv ob10 0 out10.length cap10)) rfl ?_)))
  have f18 := hL16.freezeRow 0 rfl rfl hE13 rfl rfl rfl hc16
  have hp11 := hL16.pick [] rfl rfl rfl
  have hL17 : vL w w15 [] [] := hp11.1
  obtain ⟨r10, q26, h⟩ := zdq h
  refine zaf (zaw en82 rfl rfl (rtrim_w N out10 (osv ob10 0 out10.length cap10) _ _ (f18.mono Hv.enter) r10 q26) ?_)
  rintro _ w16 hE14 ⟨v10, rfl, k10, -⟩
  replace k10 := k10.mono (Hv.aliasO (S := None) hL17 [])
  have hL18 := hL17.ext hE14
  refine zaf (zak (v := v10) rfl ?_)
  refine zao (zbn ?_)
  obtain rfl := zag h
  refine ⟨[v10], ⟨rfl, trivial⟩, ⟨_, rfl, hL18.done, ?_⟩⟩
  exact ⟨v10, rfl, (k10.mono zdh), trivial⟩
theorem rSign_w (N : Nat) (x : Big) (x_v : Value) (w : World) (S : Nat → Prop) (x_h : Rs (rInt .u32) (vH w S [] w) x_v x.Digits) (r : Int) (h : rSign N x = some r) :
  Calls Try.prog 40 #[(zam #[(zaa x.Negative), x_v])] w (Ret w (fun v w' => (zac .i64 r) = v ∧ True)) := by
 unfold rSign at h
 have hL : vL w w [] [] := Go.X.Loc.begin0 w
 refine calls_of (l := [(zam #[(zaa x.Negative), x_v])]) (rl := [.tmp 2]) (n := 9) Try.func40 rfl rfl rfl (zae rfl) ?_
 refine zaj (zah rfl (zaf (zde (cs := [(zaa x.Negative), x_v]) rfl rfl hL ?_)))
 intro b1 w2 hL3 hS5
 have K4 := ks w hS5
 refine zaf (zak (v := (zac .i64 0)) rfl ?_)
 refine zao (zaj (zaj (zah rfl (zaf (zbe (vs := [(zaa x.Negative), x_v]) zan rfl ti26 rfl (hL3.at 0 rfl rfl) rfl rfl ?_)))))
 obtain ⟨r6, q7, h⟩ := zdq h
 have f10 := (x_h.mono (K4 S))
 refine zaf (zaw en65 rfl rfl (halves_w N x x_v _ Any (f10.mono vw_any) r6 q7) ?_)
 rintro _ w10 hE10 ⟨v8, rfl, k9, -⟩
 replace k9 := k9.mono (zbd (S := None) hL3 [])
 have hL10 := hL3.ext hE10
 refine zaf (zbg (v := v8) zba rfl k9 ?_)
 refine zaf (OpY.eql (x := (r6.length : Int)) (y := 0) (((r6.length : Int) : Int) = 0) rfl rfl zbl ?_)
 refine zao ?_
 refine zbh (((r6.length : Int) : Int) = 0) rfl (fun hc10 => ?_) (fun hc10 => ?_)
 ·
  replace h := ite_t hc10 h
  refine zaj (zah rfl (zaf (zak (v := (zac .i64 0)) rfl ?_)))
  refine zao (zbn ?_)
  obtain rfl := zag h
  refine ⟨[(zac .i64 0)], ⟨rfl, trivial⟩, ⟨_, rfl, hL10.done, ?_⟩⟩
  exact ⟨rfl, trivial⟩
 ·
  replace h := ite_f hc10 h
  refine zbi (zaj (zaj (zah rfl (zaf (zar (q := 0) zan rfl ti4 rfl rfl rfl ?_)))))
  refine zaf (zbb (v := (zaa x.Negative)) zbp rfl rfl (hL10.at 0 rfl rfl) rfl ?_)
  refine zao ?_
  refine zcu x.Negative rfl (fun hc11 => ?_) (fun hc11 => ?_)
  ·
   replace h := ite_t hc11 h
   refine zaj (zah rfl (zaf (zak (v := (zac .i64 (-1))) rfl ?_)))
   refine zao (zbn ?_)
   obtain rfl := zag h
   refine ⟨[(zac .i64 (-1))], ⟨rfl, trivial⟩, ⟨_, rfl, hL10.done, ?_⟩⟩
   exact ⟨rfl, trivial⟩
  ·
   replace h := ite_f hc11 h
   refine zbi (zaj (zah rfl (zaf (zak (v := (zac .i64 1)) rfl ?_))))
   refine zao (zbn ?_)
   obtain rfl := zag h
   refine ⟨[(zac .i64 1)], ⟨rfl, trivial⟩, ⟨_, rfl, hL10.done, ?_⟩⟩
   exact ⟨rfl, trivial⟩
theorem rNeg_w (N : Nat) (x : Big) (x_v : Value) (w : World) (S : Nat → Prop) (x_h : Rs (rInt .u32) (vH w S [] w) x_v x.Digits) (r : Big) (h : rNeg N x = some r) :
  Calls Try.prog 62 #[(zam #[(zaa x.Negative), x_v])] w (Ret w (fun v w' => ∃ (v0_0 : Value), (zam #[(zaa r.Negative), v0_0]) = v ∧ Rs (rInt .u32) (vH w None [] w') v0_0 r.Digits ∧ True)) := by
 unfold rNeg at h
 have hL : vL w w [] [] := Go.X.Loc.begin0 w
 refine calls_of (l := [(zam #[(zaa x.Negative), x_v])]) (rl := [.cell 2 26]) (n := 9) Try.func62 rfl rfl rfl (zae rfl) ?_
 refine zaj (zah rfl (zaf (zde (cs := [(zaa x.Negative), x_v]) rfl rfl hL ?_)))
 intro b1 w2 hL3 hS5
 have K4 := ks w hS5
 refine zaf (zbw (cs := [(zaa false), (zad none 0 0)]) ti26 rfl hL3 ?_)
 intro b6 w7 hL8 hS10
 have K9 := ks w hS10
 refine zao (zaj ?_)
 obtain ⟨r10, q10, h⟩ := zdq h
 refine zcb 5 [] [] (fun W1 => [.det (zal (some ⟨b1, 0, none⟩)), .det (zaa x.Negative), .det (zaa (!x.Negative)), .det (zam #[(zaa x.Negative), x_v]), .rel (fun v Z w' => ∃ v10, v10 = v ∧ Rs (rInt .i64) (vZ W1 w None [some b6, some b1] Z w') v10 r10 ∧ True) (fun _ => [])]) mixed rfl rfl rfl (fun _ => rfl) (fun _ => rfl) ?_ ?_
 ·
  intro W1 _
  exact ⟨fun v Z Z' w w' hΦ hz _ _ hs => by obtain ⟨v10, rfl, k10, -⟩ := hΦ; exact ⟨v10, rfl, (k10.mono (zcg hz hs)), trivial⟩, trivial⟩
 ·
  intro w10 hE10
  have hL10 := hL8.ext hE10
  have K10 := ke hL8 hE10
  refine zat (fun _ _ => zau (zar zan rfl ti4 rfl rfl rfl (er rfl))) ?_
  refine zat (fun _ hE12 => zau (zbb zbp rfl rfl ((hL10.ext hE12).at 1 rfl rfl) rfl (er rfl))) ?_
  refine zat (fun _ _ => zau (OpY.not rfl (er rfl))) ?_
  refine zat (fun _ hE14 => zau (zbe (vs := [(zaa x.Negative), x_v]) zan rfl ti26 rfl ((hL10.ext hE14).at 1 rfl rfl) rfl rfl (er rfl))) ?_
  refine zch ?_ ?_
  ·
   rintro w15 Z14 hE15 hZ14 ⟨-⟩
   have K11 := ke hL10 hE15
   refine zau (zaw en65 rfl rfl (halves_w N x x_v _ Any (((((x_h.mono (K4 S)).mono (K9 S)).mono (K10 S)).mono (K11 S)).mono vw_any) r10 q10) ?_)
   rintro _ w16 hE16 ⟨v10, rfl, k10, -⟩
   exact zce hE16 hZ14 zbv (fun _ h => h) ⟨v10, rfl, (k10.mono zcz), trivial⟩
  intro z4
  refine zcj ?_
  rintro w17 Z15 hE17 hZ15 ⟨⟨⟨v10, rfl, k10, -⟩, hB4⟩, -⟩ ap10
  have hB10 : ∀ b, some b ∈ ([] : List (Option Nat)) → w10.heap.size ≤ b ∧ ¬ Z15 b := by
   intro b hb; cases hb
  replace k10 := k10.mono (zcx hL10 hZ15 hB10)
  have hL13 := hL10.ext hE17
  obtain ⟨r11, q11, h⟩ := zdq h
  refine zaf (zaw en68 rfl rfl (rbig_w N (!x.Negative) r10 v10 _ Any (k10.mono vw_any) r11 q11) ?_)
  rintro _ w18 hE18 ⟨v11, rfl, k11, -⟩
  replace k11 := k11.mono (zbd (S := None) hL13 [])
  have hL14 := hL13.ext hE18
  refine zcd (zbk (vs := [(zaa r11.Negative), v11]) ti26 rfl rfl rfl rfl (zds rfl (zds k11.one zdx)) hL14 0 rfl rfl (zae rfl) ?_)
  intro w19 (hL15 : vL w w19 [some b6, some b1] [zab [(zaa r11.Negative), v11], zab [(zaa x.Negative), x_v]]) hS11
  have K12 := ks w hS11
  refine zao (zbn ?_)
  obtain rfl := zag h
  refine ⟨[(zam #[(zaa r11.Negative), v11])], ⟨⟨⟨b6, 0, none⟩, rfl, zeb zan rfl ti26 (hL15.at 0 rfl rfl) rfl⟩, trivial⟩, ⟨_, rfl, hL15.done, ?_⟩⟩
  have f10 := (k11.mono (K12 None))
  exact ⟨v11, rfl, (f10.mono zdh), trivial⟩
theorem rAdd_w (N : Nat) (a : Big) (b : Big) (a_v : Value) (b_v : Value) (w : World) (S : Nat → Prop) (a_h : Rs (rInt .u32) (vH w S [] w) a_v a.Digits) (b_h : Rs (rInt .u32) (vH w S [] w) b_v b.Digits) (r : Big) (h : rAdd N a b = some r) :
  Calls Try.prog 38 #[(zam #[(zaa a.Negative), a_v]), (zam #[(zaa b.Negative), b_v])] w (Ret w (fun v w' => ∃ (v0_0 : Value), (zam #[(zaa r.Negative), v0_0]) = v ∧ Rs (rInt .u32) (vH w None [] w') v0_0 r.Digits ∧ True)) := by
 unfold rAdd at h
 have hL : vL w w [] [] := Go.X.Loc.begin0 w
 refine calls_of (l := [(zam #[(zaa a.Negative), a_v]), (zam #[(zaa b.Negative), b_v])]) (rl := [.cell 4 26]) (n := 38) Try.func38 rfl rfl rfl (zae rfl) ?_
 refine zaj (zah rfl (zaf (zde (cs := [(zaa a.Negative), a_v]) rfl rfl hL ?_)))
 intro b1 w2 hL3 hS5
 have K4 := ks w hS5
 refine zaf (zde (cs := [(zaa b.Negative), b_v]) rfl rfl hL3 ?_)
 intro b6 w7 hL8 hS10
 have K9 := ks w hS10
 refine zaf (zbw (cs := [(zaa false), (zad none 0 0)]) ti26 rfl hL8 ?_)
 intro b10 w10 hL10 hS11
 have K10 := ks w hS11
 refine zao (zaj ?_)
 obtain ⟨r10, q10, h⟩ := zdq h
 refine zcb 3 [] [] (fun W1 => [.det (zam #[(zaa a.Negative), a_v]), .rel (fun v Z w' => ∃ v10, v10 = v ∧ Rs (rInt .i64) (vZ W1 w None [some b10, some b6, some b1] Z w') v10 r10 ∧ True) (fun _ => []), .det (zam #[(zaa b.Negative), b_v])]) mixed rfl rfl rfl (fun _ => rfl) (fun _ => rfl) ?_ ?_
 ·
  intro W1 _
  exact ⟨fun v Z Z' w w' hΦ hz _ _ hs => by obtain ⟨v10, rfl, k10, -⟩ := hΦ; exact ⟨v10, rfl, (k10.mono (zcg hz hs)), trivial⟩, trivial⟩
 ·
  intro w11 hE10
  have hL11 := hL10.ext hE10
  have K11 := ke hL10 hE10
  refine zat (fun _ hE11 => zau (zbe (vs := [(zaa a.Negative), a_v]) zan rfl ti26 rfl ((hL11.ext hE11).at 2 rfl rfl) rfl rfl (er rfl))) ?_
  refine zch ?_ ?_
  ·
   rintro w13 Z11 hE12 hZ11 ⟨-⟩
   have K12 := ke hL11 hE12
   refine zau (zaw en65 rfl rfl (halves_w N a a_v _ Any ((((((a_h.mono (K4 S)).mono (K9 S)).mono (K10 S)).mono (K11 S)).mono (K12 S)).mono vw_any) r10 q10) ?_)
   rintro _ w14 hE13 ⟨v10, rfl, k10, -⟩
   exact zce hE13 hZ11 zbv (fun _ h => h) ⟨v10, rfl, (k10.mono zcz), trivial⟩
  intro z1
  refine zat (fun _ hE14 => zau (zbe (vs := [(zaa b.Negative), b_v]) zan rfl ti26 rfl ((hL11.ext hE14).at 1 rfl rfl) rfl rfl (er rfl))) ?_
  refine zcj ?_
  rintro w16 Z13 hE15 hZ13 ⟨⟨⟨v10, rfl, k10, -⟩, hB1⟩, -⟩ ap10
  have hB10 : ∀ b, some b ∈ ([] : List (Option Nat)) → w11.heap.size ≤ b ∧ ¬ Z13 b := by
   intro b hb; cases hb
  replace k10 := k10.mono (zcx hL11 hZ13 hB10)
  have hL14 := hL11.ext hE15
  have K13 := ke hL11 hE15
  obtain ⟨r11, q11, h⟩ := zdq h
  have f10 := (((((b_h.mono (K4 S)).mono (K9 S)).mono (K10 S)).mono (K11 S)).mono (K13 S))
  refine zaf (zaw en65 rfl rfl (halves_w N b b_v _ Any (f10.mono vw_any) r11 q11) ?_)
  rintro _ w17 hE16 ⟨v11, rfl, k11, -⟩
  replace k11 := k11.mono (zbd (S := None) hL14 [])
  have hL15 := hL14.ext hE16
  have K14 := ke hL14 hE16
  refine zaf (zak (v := v10) rfl ?_)
  refine zaf (zak (v := v11) rfl ?_)
  refine zao (zaj (zaj (zah rfl (zaf (zar (q := 0) zan rfl ti4 rfl rfl rfl ?_)))))
  refine zaf (zbb (v := (zaa a.Negative)) zbp rfl rfl (hL15.at 2 rfl rfl) rfl ?_)
  refine zaf (zar (q := 0) zan rfl ti4 rfl rfl rfl ?_)
  refine zaf (zbb (v := (zaa b.Negative)) zbp rfl rfl (hL15.at 1 rfl rfl) rfl ?_)
  refine zaf (OpY.eqlBool (x := a.Negative) (y := b.Negative) zbp rfl rfl ?_)
  refine zao ?_
  refine zcu (a.Negative == b.Negative) rfl (fun hc10 => ?_) (fun hc10 => ?_)
  ·
   replace h := ite_t hc10 h
   refine zaj ?_
   obtain ⟨r12, q12, h⟩ := zdq h
   refine zcb 5 [] [] (fun W1 => [.det (zal (some ⟨b1, 0, none⟩)), .det (zaa a.Negative), .det v10, .det v11, .rel (fun v Z w' => ∃ v12, v12 = v ∧ Rs (rInt .i64) (vZ W1 w None [some b10, some b6, some b1] Z w') v12 r12 ∧ True) (fun _ => [])]) mixed rfl rfl rfl (fun _ => rfl) (fun _ => rfl) ?_ ?_
   ·
    intro W1 _
    exact ⟨fun v Z Z' w w' hΦ hz _ _ hs => by obtain ⟨v12, rfl, k12, -⟩ := hΦ; exact ⟨v12, rfl, (k12.mono (zcg hz hs)), trivial⟩, trivial⟩
   ·
    intro w18 hE17
    have hL16 := hL15.ext hE17
    have K15 := ke hL15 hE17
    refine zat (fun _ _ => zau (zar zan rfl ti4 rfl rfl rfl (er rfl))) ?_
    refine zat (fun _ hE19 => zau (zbb zbp rfl rfl ((hL16.ext hE19).at 2 rfl rfl) rfl (er rfl))) ?_
    refine zat (fun _ _ => zau (zai rfl (er rfl))) ?_
    refine zat (fun _ _ => zau (zai rfl (er rfl))) ?_
    refine zch ?_ ?_
    ·
     rintro w23 Z18 hE22 hZ18 ⟨-⟩
     have K16 := ke hL16 hE22
     refine zau (zaw en69 rfl rfl (rplus_w N r10 r11 v10 v11 _ Any ((((k10.mono (K14 None)).mono (K15 None)).mono (K16 None)).mono vw_any) (((k11.mono (K15 None)).mono (K16 None)).mono vw_any) r12 q12) ?_)
     rintro _ w24 hE23 ⟨v12, rfl, k12, -⟩
     exact zce hE23 hZ18 zbv (fun _ h => h) ⟨v12, rfl, (k12.mono zcz), trivial⟩
    intro z4
    refine zcj ?_
    rintro w25 Z19 hE24 hZ19 ⟨⟨⟨v12, rfl, k12, -⟩, hB4⟩, -⟩ ap11
    have hB11 : ∀ b, some b ∈ ([] : List (Option Nat)) → w18.heap.size ≤ b ∧ ¬ Z19 b := by
     intro b hb; cases hb
    replace k12 := k12.mono (zcx hL16 hZ19 hB11)
    have hL18 := hL16.ext hE24
    obtain ⟨r13, q13, h⟩ := zdq h
    refine zaf (zaw en68 rfl rfl (rbig_w N a.Negative r12 v12 _ Any (k12.mono vw_any) r13 q13) ?_)
    rintro _ w26 hE25 ⟨v13, rfl, k13, -⟩
    replace k13 := k13.mono (zbd (S := None) hL18 [])
    have hL19 := hL18.ext hE25
    refine zcd (zbk (vs := [(zaa r13.Negative), v13]) ti26 rfl rfl rfl rfl (zds rfl (zds k13.one zdx)) hL19 0 rfl rfl (zae rfl) ?_)
    intro w27 (hL20 : vL w w27 [some b10, some b6, some b1] [zab [(zaa r13.Negative), v13], zab [(zaa b.Negative), b_v], zab [(zaa a.Negative), a_v]]) hS12
    have K17 := ks w hS12
    refine zao (zbn ?_)
    obtain rfl := zag h
    refine ⟨[(zam #[(zaa r13.Negative), v13])], ⟨⟨⟨b10, 0, none⟩, rfl, zeb zan rfl ti26 (hL20.at 0 rfl rfl) rfl⟩, trivial⟩, ⟨_, rfl, hL20.done, ?_⟩⟩
    have f11 := (k13.mono (K17 None))
    exact ⟨v13, rfl, (f11.mono zdh), trivial⟩
  ·
   replace h := ite_f hc10 h
   refine zbi (zaj (zaj (zah rfl (zaf (zai (v := v10) rfl ?_)))))
   refine zaf (zai (v := v11) rfl ?_)
   obtain ⟨r14, q14, h⟩ := zdq h
   have f12 := (k10.mono (K14 None))
   refine zaf (zaw en64 rfl rfl (rorder_w N r10 r11 v10 v11 _ Any (f12.mono vw_any) (k11.mono vw_any) r14 q14) ?_)
   rintro _ w28 hE26 ⟨rfl, -⟩
   have hL21 := hL15.ext hE26
   have K18 := ke hL15 hE26
   refine zaf (OpY.geq (x := r14) (y := 0) ((r14 : Int) ≥ 0) rfl rfl zbl ?_)
   refine zao ?_
   refine zbh ((r14 : Int) ≥ 0) rfl (fun hc11 => ?_) (fun hc11 => ?_)
   ·
    replace h := ite_t hc11 h
    refine zaj ?_
    obtain ⟨r15, q15, h⟩ := zdq h
    refine zcb 5 [] [] (fun W1 => [.det (zal (some ⟨b1, 0, none⟩)), .det (zaa a.Negative), .det v10, .det v11, .rel (fun v Z w' => ∃ v14, v14 = v ∧ Rs (rInt .i64) (vZ W1 w None [some b10, some b6, some b1] Z w') v14 r15 ∧ True) (fun _ => [])]) mixed rfl rfl rfl (fun _ => rfl) (fun _ => rfl) ?_ ?_
    ·
     intro W1 _
     exact ⟨fun v Z Z' w w' hΦ hz _ _ hs => by obtain ⟨v14, rfl, k14, -⟩ := hΦ; exact ⟨v14, rfl, (k14.mono (zcg hz hs)), trivial⟩, trivial⟩
    ·
     intro w29 hE27
     have hL22 := hL21.ext hE27
     have K19 := ke hL21 hE27
     refine zat (fun _ _ => zau (zar zan rfl ti4 rfl rfl rfl (er rfl))) ?_
     refine zat (fun _ hE29 => zau (zbb zbp rfl rfl ((hL22.ext hE29).at 2 rfl rfl) rfl (er rfl))) ?_
     refine zat (fun _ _ => zau (zai rfl (er rfl))) ?_
     refine zat (fun _ _ => zau (zai rfl (er rfl))) ?_
     refine zch ?_ ?_
     ·
      rintro w34 Z24 hE32 hZ24 ⟨-⟩
      have K20 := ke hL22 hE32
      refine zau (zaw en70 rfl rfl (rminus_w N r10 r11 v10 v11 _ Any ((((f12.mono (K18 None)).mono (K19 None)).mono (K20 None)).mono vw_any) ((((k11.mono (K18 None)).mono (K19 None)).mono (K20 None)).mono vw_any) r15 q15) ?_)
      rintro _ w35 hE33 ⟨v14, rfl, k14, -⟩
      exact zce hE33 hZ24 zbv (fun _ h => h) ⟨v14, rfl, (k14.mono zcz), trivial⟩
     intro z4
     refine zcj ?_
     rintro w36 Z25 hE34 hZ25 ⟨⟨⟨v14, rfl, k14, -⟩, hB4⟩, -⟩ ap12
     have hB12 : ∀ b, some b ∈ ([] : List (Option Nat)) → w29.heap.size ≤ b ∧ ¬ Z25 b := by
      intro b hb; cases hb
     replace k14 := k14.mono (zcx hL22 hZ25 hB12)
     have hL24 := hL22.ext hE34
     obtain ⟨r16, q16, h⟩ := zdq h
     refine zaf (zaw en68 rfl rfl (rbig_w N a.Negative r15 v14 _ Any (k14.mono vw_any) r16 q16) ?_)
     rintro _ w37 hE35 ⟨v15, rfl, k15, -⟩
     replace k15 := k15.mono (zbd (S := None) hL24 [])
     have hL25 := hL24.ext hE35
     refine zcd (zbk (vs := [(zaa r16.Negative), v15]) ti26 rfl rfl rfl rfl (zds rfl (zds k15.one zdx)) hL25 0 rfl rfl (zae rfl) ?_)
     intro w38 (hL26 : vL w w38 [some b10, some b6, some b1] [zab [(zaa r16.Negative), v15], zab [(zaa b.Negative), b_v], zab [(zaa a.Negative), a_v]]) hS13
     have K21 := ks w hS13
     refine zao (zbn ?_)
     obtain rfl := zag h
     refine ⟨[(zam #[(zaa r16.Negative), v15])], ⟨⟨⟨b10, 0, none⟩, rfl, zeb zan rfl ti26 (hL26.at 0 rfl rfl) rfl⟩, trivial⟩, ⟨_, rfl, hL26.done, ?_⟩⟩
     have f13 := (k15.mono (K21 None))
     exact ⟨v15, rfl, (f13.mono zdh), trivial⟩
   ·
    replace h := ite_f hc11 h
    refine zbi (zaj ?_)
    obtain ⟨r17, q17, h⟩ := zdq h
    refine zcb 5 [] [] (fun W1 => [.det (zal (some ⟨b6, 0, none⟩)), .det (zaa b.Negative), .det v11, .det v10, .rel (fun v Z w' => ∃ v16, v16 = v ∧ Rs (rInt .i64) (vZ W1 w None [some b10, some b6, some b1] Z w') v16 r17 ∧ True) (fun _ => [])]) mixed rfl rfl rfl (fun _ => rfl) (fun _ => rfl) ?_ ?_
    ·
     intro W1 _
     exact ⟨fun v Z Z' w w' hΦ hz _ _ hs => by obtain ⟨v16, rfl, k16, -⟩ := hΦ; exact ⟨v16, rfl, (k16.mono (zcg hz hs)), trivial⟩, trivial⟩
    ·
     intro w39 hE36
     have hL27 := hL21.ext hE36
     have K22 := ke hL21 hE36
     refine zat (fun _ _ => zau (zar zan rfl ti4 rfl rfl rfl (er rfl))) ?_
     refine zat (fun _ hE38 => zau (zbb zbp rfl rfl ((hL27.ext hE38).at 1 rfl rfl) rfl (er rfl))) ?_
     refine zat (fun _ _ => zau (zai rfl (er rfl))) ?_
     refine zat (fun _ _ => zau (zai rfl (er rfl))) ?_
     refine zch ?_ ?_
     ·
      rintro w44 Z30 hE41 hZ30 ⟨-⟩
      have K23 := ke hL27 hE41
      refine zau (zaw en70 rfl rfl (rminus_w N r11 r10 v11 v10 _ Any ((((k11.mono (K18 None)).mono (K22 None)).mono (K23 None)).mono vw_any) ((((f12.mono (K18 None)).mono (K22 None)).mono (K23 None)).mono vw_any) r17 q17) ?_)
      rintro _ w45 hE42 ⟨v16, rfl, k16, -⟩
      exact zce hE42 hZ30 zbv (fun _ h => h) ⟨v16, rfl, (k16.mono zcz), trivial⟩
     intro z4
     refine zcj ?_
     rintro w46 Z31 hE43 hZ31 ⟨⟨⟨v16, rfl, k16, -⟩, hB4⟩, -⟩ ap13
     have hB13 : ∀ b, some b ∈ ([] : List (Option Nat)) → w39.heap.size ≤ b ∧ ¬ Z31 b := by
      intro b hb; cases hb
     replace k16 := k16.mono (zcx hL27 hZ31 hB13)
     have hL29 := hL27.ext hE43
     obtain ⟨r18, q18, h⟩ := zdq h
     refine zaf (zaw en68 rfl rfl (rbig_w N b.Negative r17 v16 _ Any (k16.mono vw_any) r18 q18) ?_)
     rintro _ w47 hE44 ⟨v17, rfl, k17, -⟩
     replace k17 := k17.mono (zbd (S := None) hL29 [])
     have hL30 := hL29.ext hE44
     refine zcd (zbk (vs := [(zaa r18.Negative), v17]) ti26 rfl rfl rfl rfl (zds rfl (zds k17.one zdx)) hL30 0 rfl rfl (zae rfl) ?_)
     intro w48 (hL31 : vL w w48 [some b10, some b6, some b1] [zab [(zaa r18.Negative), v17], zab [(zaa b.Negative), b_v], zab [(zaa a.Negative), a_v]]) hS14
     have K24 := ks w hS14
     refine zao (zbn ?_)
     obtain rfl := zag h
     refine ⟨[(zam #[(zaa r18.Negative), v17])], ⟨⟨⟨b10, 0, none⟩, rfl, zeb zan rfl ti26 (hL31.at 0 rfl rfl) rfl⟩, trivial⟩, ⟨_, rfl, hL31.done, ?_⟩⟩
     have f14 := (k17.mono (K24 None))
     exact ⟨v17, rfl, (f14.mono zdh), trivial⟩
theorem rSub_w (N : Nat) (a : Big) (b : Big) (a_v : Value) (b_v : Value) (w : World) (S : Nat → Prop) (a_h : Rs (rInt .u32) (vH w S [] w) a_v a.Digits) (b_h : Rs (rInt .u32) (vH w S [] w) b_v b.Digits) (r : Big) (h : rSub N a b = some r) :
  Calls Try.prog 61 #[(zam #[(zaa a.Negative), a_v]), (zam #[(zaa b.Negative), b_v])] w (Ret w (fun v w' => ∃ (v0_0 : Value), (zam #[(zaa r.Negative), v0_0]) = v ∧ Rs (rInt .u32) (vH w None [] w') v0_0 r.Digits ∧ True)) := by
 unfold rSub at h
 have hL : vL w w [] [] := Go.X.Loc.begin0 w
 refine calls_of (l := [(zam #[(zaa a.Negative), a_v]), (zam #[(zaa b.Negative), b_v])]) (rl := [.cell 4 26]) (n := 9) Try.func61 rfl rfl rfl (zae rfl) ?_
 refine zaj (zah rfl (zaf (zde (cs := [(zaa a.Negative), a_v]) rfl rfl hL ?_)))
 intro b1 w2 hL3 hS5
 have K4 := ks w hS5
 refine zaf (zde (cs := [(zaa b.Negative), b_v]) rfl rfl hL3 ?_)
 intro b6 w7 hL8 hS10
 have K9 := ks w hS10
 refine zaf (zbw (cs := [(zaa false), (zad none 0 0)]) ti26 rfl hL8 ?_)
 intro b10 w10 hL10 hS11
 have K10 := ks w hS11
 refine zao (zaj ?_)
 obtain ⟨r10, q10, h⟩ := zdq h
 refine zcb 3 [] [] (fun W1 => [.det (zam #[(zaa a.Negative), a_v]), .det (zam #[(zaa b.Negative), b_v]), .rel (fun v Z w' => ∃ v10, (zam #[(zaa r10.Negative), v10]) = v ∧ Rs (rInt .u32) (vZ W1 w None [some b10, some b6, some b1] Z w') v10 r10.Digits ∧ True) (fun _ => [])]) mixed rfl rfl rfl (fun _ => rfl) (fun _ => rfl) ?_ ?_
 ·
  intro W1 _
  exact ⟨fun v Z Z' w w' hΦ hz _ _ hs => by obtain ⟨v10, rfl, k10, -⟩ := hΦ; exact ⟨v10, rfl, (k10.mono (zcg hz hs)), trivial⟩, trivial⟩
 ·
  intro w11 hE10
  have hL11 := hL10.ext hE10
  have K11 := ke hL10 hE10
  refine zat (fun _ hE11 => zau (zbe (vs := [(zaa a.Negative), a_v]) zan rfl ti26 rfl ((hL11.ext hE11).at 2 rfl rfl) rfl rfl (er rfl))) ?_
  refine zat (fun _ hE12 => zau (zbe (vs := [(zaa b.Negative), b_v]) zan rfl ti26 rfl ((hL11.ext hE12).at 1 rfl rfl) rfl rfl (er rfl))) ?_
  refine zch ?_ ?_
  ·
   rintro w14 Z12 hE13 hZ12 ⟨-⟩
   have K12 := ke hL11 hE13
   refine zau (zaw en62 rfl rfl (rNeg_w N b b_v _ Any ((((((b_h.mono (K4 S)).mono (K9 S)).mono (K10 S)).mono (K11 S)).mono (K12 S)).mono vw_any) r10 q10) ?_)
   rintro _ w15 hE14 ⟨v10, rfl, k10, -⟩
   exact zce hE14 hZ12 zbv (fun _ h => h) ⟨v10, rfl, (k10.mono zcz), trivial⟩
  intro z2
  refine zcj ?_
  rintro w16 Z13 hE15 hZ13 ⟨⟨⟨v10, rfl, k10, -⟩, hB2⟩, -⟩ ap10
  have hB10 : ∀ b, some b ∈ ([] : List (Option Nat)) → w11.heap.size ≤ b ∧ ¬ Z13 b := by
   intro b hb; cases hb
  replace k10 := k10.mono (zcx hL11 hZ13 hB10)
  have hL14 := hL11.ext hE15
  have K13 := ke hL11 hE15
  obtain ⟨r11, q11, h⟩ := zdq h
  have f10 := (((((a_h.mono (K4 S)).mono (K9 S)).mono (K10 S)).mono (K11 S)).mono (K13 S))
  refine zaf (zaw en38 rfl rfl (rAdd_w N a r10 a_v v10 _ Any (f10.mono vw_any) (k10.mono vw_any) r11 q11) ?_)
  rintro _ w17 hE16 ⟨v11, rfl, k11, -⟩
  replace k11 := k11.mono (zbd (S := None) hL14 [])
  have hL15 := hL14.ext hE16
  refine zcd (zbk (vs := [(zaa r11.Negative), v11]) ti26 rfl rfl rfl rfl (zds rfl (zds k11.one zdx)) hL15 0 rfl rfl (zae rfl) ?_)
  intro w18 (hL16 : vL w w18 [some b10, some b6, some b1] [zab [(zaa r11.Negative), v11], zab [(zaa b.Negative), b_v], zab [(zaa a.Negative), a_v]]) hS12
  have K14 := ks w hS12
  refine zao (zbn ?_)
  obtain rfl := zag h
  refine ⟨[(zam #[(zaa r11.Negative), v11])], ⟨⟨⟨b10, 0, none⟩, rfl, zeb zan rfl ti26 (hL16.at 0 rfl rfl) rfl⟩, trivial⟩, ⟨_, rfl, hL16.done, ?_⟩⟩
  have f11 := (k11.mono (K14 None))
  exact ⟨v11, rfl, (f11.mono zdh), trivial⟩
theorem rtimes_w (N : Nat) (a : (List Int)) (d : Int) (a_v : Value) (w : World) (S : Nat → Prop) (a_h : Rs (rInt .i64) (vH w S [] w) a_v a) (r : (List Int)) (h : rtimes N a d = some r) :
  Calls Try.prog 71 #[a_v, (zac .i64 d)] w (Ret w (fun v w' => ∃ (v0_0 : Value), v0_0 = v ∧ Rs (rInt .i64) (vH w None [] w') v0_0 r ∧ True)) := by
 unfold rtimes at h
 have hL : vL w w [] [] := Go.X.Loc.begin0 w
 refine calls_of (l := [a_v, (zac .i64 d)]) (rl := [.tmp 4]) (n := 40) Try.func71 rfl rfl rfl (zae rfl) ?_
 refine zaj (zah rfl (zaf (zak (v := (zad none 0 0)) rfl ?_)))
 refine zao (zaj (zah rfl (zaf (zdn zba ti3 hL ?_))))
 intro b1 w5 hL6 hS8
 have hE9 : Els (rInt .i64) (vH w None [] w) [] [] := zcv
 have K7 := ks w hS8
 refine zaf (zak (v := (osv (some b1) 0 (List.length ([] : (List Int))) 0)) rfl ?_)
 refine zao (zaj (zah rfl (zaf (zak (v := (zac .i64 0)) rfl ?_))))
 refine zao (zaj (zaj (zah rfl (zaf (zak (v := (zac .i64 0)) rfl ?_)))))
 refine zao ?_
 obtain ⟨s10, hl10, g10⟩ := zdq h
 refine zbq (fun e w' => ∃ (out10 : (List Int)) (ob10 : Option Nat) (cap10 : Nat) (sp10 : List Value) (cs10 : List Value) (ln10 : Nat) (u : Env), out10 = s10 ∧ e = upds [(5, (osv ob10 0 ln10 cap10))] u ∧ vL w w' [ob10] [zab ([] ++ (cs10 ++ sp10))] ∧ Keep w.heap.size [some b1] w5 [ob10] w' ∧ Els (rInt .i64) (vH w None [ob10] w') cs10 out10 ∧ ln10 = List.length out10 ∧ (cs10 ++ sp10).length = cap10 * (rInt .i64).sz ∧ True) ?_ ?_
 ·
  refine zbj ?_
  have f10 := (hE9.mono (K7 None))
  refine zci hl10 (fun (ss : ((List Int) × Int × Int)) (e : Env) (w' : World) => match ss with | (out11, carry10, i10) => ∃ (ob11 : Option Nat) (cap11 : Nat) (sp11 : List Value) (cs11 : List Value) (ln11 : Nat) (u : Env), e = upds [(0, a_v), (1, (zac .i64 d)), (5, (osv ob11 0 ln11 cap11)), (6, (zac .i64 carry10)), (7, (zac .i64 i10))] u ∧ vL w w' [ob11] [zab ([] ++ (cs11 ++ sp11))] ∧ Keep w.heap.size [some b1] w5 [ob11] w' ∧ Els (rInt .i64) (vH w None [ob11] w') cs11 out11 ∧ ln11 = List.length out11 ∧ (cs11 ++ sp11).length = cap11 * (rInt .i64).sz ∧ True) ⟨some b1, 0, [], [], (List.length ([] : (List Int))), _, (zdv ⟨rfl, rfl, rfl, rfl, rfl, trivial⟩), hL6, zbo, f10, rfl, (show ([] ++ [] : List Value).length = 0 * (rInt .i64).sz by simp), trivial⟩ ?_
  rintro ⟨out11, carry10, i10⟩ oo _ w10 ⟨ob11, cap11, sp11, cs11, ln11, u, rfl, hL10, K10, hE10, rfl, hc10, -⟩ h hd10
  rw [rtimes_b1] at h
  refine zaj (zaj ?_)
  obtain ⟨s11, h, g11⟩ := zdq h
  refine zbq (fun e w' => ∃ (x10 : Bool) (u : Env), x10 = s11 ∧ e = upds [(0, a_v), (1, (zac .i64 d)), (5, (osv ob11 0 out11.length cap11)), (6, (zac .i64 carry10)), (7, (zac .i64 i10)), (16, (zaa x10))] u ∧ vL w w' [ob11] [zab ([] ++ (cs11 ++ sp11))] ∧ Keep w.heap.size [ob11] w10 [ob11] w' ∧ True) ?_ ?_
  ·
   refine zah rfl (zaf (zai (v := (zac .i64 i10)) rfl ?_))
   refine zaf (zai (v := a_v) rfl ?_)
   have f11 := ((a_h.mono (K7 S)).mono (K10 S))
   refine zaf (zbg (v := a_v) zba rfl f11 ?_)
   refine zaf (zcr (x := i10) (y := (a.length : Int)) ((i10 : Int) < (a.length : Int)) rfl rfl zbl ?_)
   refine zaf (zai (v := (zaa (decide ((i10 : Int) < (a.length : Int))))) rfl ?_)
   by_cases hc11 : (i10 : Int) < (a.length : Int)
   ·
    replace h := ite_t hc11 h
    refine zbx rfl rfl (zdu hc11) ?_
    refine zbx rfl rfl (zdu hc11) ?_
    refine zaf (zcm (t := (decide ((i10 : Int) < (a.length : Int)))) (v := (zaa true)) rfl (zdu hc11) rfl ?_)
    refine zao ?_
    obtain rfl := zag h
    refine zas ?_
    exact ⟨true, _, rfl, (zdv ⟨rfl, rfl, rfl, rfl, rfl, rfl, trivial⟩), hL10, zbo, trivial⟩
   ·
    replace h := ite_f hc11 h
    refine zby rfl rfl (zdr hc11) (zai (v := (zac .i64 carry10)) rfl ?_)
    refine zby rfl rfl (zdr hc11) (zdo (x := carry10) (y := 0) ((carry10 : Int) > 0) rfl rfl zbl ?_)
    refine zaf (zca (t := (decide ((i10 : Int) < (a.length : Int)))) (v := (zaa (decide ((carry10 : Int) > 0)))) rfl (zdr hc11) rfl ?_)
    refine zao ?_
    obtain rfl := zag h
    refine zas ?_
    exact ⟨(decide ((carry10 : Int) > 0)), _, rfl, (zdv ⟨rfl, rfl, rfl, rfl, rfl, rfl, trivial⟩), hL10, zbo, trivial⟩
  ·
   rintro _ w11 ⟨x10, u, rfl, rfl, hL11, K11, -⟩
   replace h := g11
   try dsimp only at h
   refine zcu x10 rfl (fun hc12 => ?_) (fun hc12 => ?_)
   ·
    replace h := ite_t hc12 h
    refine zbi (zaj (zbj (zaj (zaj (zah rfl (zaf (zai (v := (zac .i64 i10)) rfl ?_)))))))
    refine zaf (zai (v := a_v) rfl ?_)
    have f12 := (((a_h.mono (K7 S)).mono (K10 S)).mono (K11 S))
    refine zaf (zbg (v := a_v) zba rfl f12 ?_)
    refine zaf (zcr (x := i10) (y := (a.length : Int)) ((i10 : Int) < (a.length : Int)) rfl rfl zbl ?_)
    refine zao ?_
    obtain ⟨s12, h, g12⟩ := zdq h
    refine zbq (fun e w' => ∃ (carry11 : Int) (u : Env), carry11 = s12 ∧ e = upds [(0, a_v), (1, (zac .i64 d)), (5, (osv ob11 0 out11.length cap11)), (6, (zac .i64 carry11)), (7, (zac .i64 i10))] u ∧ vL w w' [ob11] [zab ([] ++ (cs11 ++ sp11))] ∧ Keep w.heap.size [ob11] w11 [ob11] w' ∧ True) ?_ ?_
    ·
     refine zbh ((i10 : Int) < (a.length : Int)) rfl (fun hc13 => ?_) (fun hc13 => ?_)
     ·
      replace h := ite_t hc13 h
      refine zah rfl (zaf (zai (v := (zac .i64 carry10)) rfl ?_))
      refine zaf (zai (v := a_v) rfl ?_)
      refine zaf (zai (v := (zac .i64 i10)) rfl ?_)
      obtain ⟨x11, q10, h⟩ := zdq h
      obtain ⟨n10, q11, q12⟩ := zdw q10
      obtain ⟨b10, o10, c10, vs10, q13, q14, f13, q15⟩ := zdc f12 q12
      obtain rfl := q15
      refine zaf (zbz (r := (rInt .i64)) (v := a_v) (n := n10) (m := (o10 + n10 * (rInt .i64).sz)) zba ti3 rfl q13 rfl q11 q12 rfl ?_)
      refine zaf (zct (v := (zac .i64 x11)) zbu rfl rfl zea f13 ?_)
      refine zaf (zai (v := (zac .i64 d)) rfl ?_)
      refine zaf (OpY.mul (x := x11) (y := d) (z := (iw (x11 * d))) rfl rfl rfl ?_)
      refine zaf (zcf (x := carry10) (y := (iw (x11 * d))) (z := (iw (carry10 + (iw (x11 * d))))) rfl rfl rfl ?_)
      refine zaf (zak (v := (zac .i64 (iw (carry10 + (iw (x11 * d)))))) rfl ?_)
      refine zao ?_
      obtain rfl := zag h
      refine zas ?_
      exact ⟨(iw (carry10 + (iw (x11 * d)))), _, rfl, (zdv ⟨rfl, rfl, rfl, rfl, rfl, trivial⟩), hL11, zbo, trivial⟩
     ·
      replace h := ite_f hc13 h
      refine zbi ?_
      obtain rfl := zag h
      refine zas ?_
      exact ⟨carry10, _, rfl, (zdv ⟨rfl, rfl, rfl, rfl, rfl, trivial⟩), hL11, zbo, trivial⟩
    ·
     rintro _ w12 ⟨carry11, u, rfl, rfl, hL12, K12, -⟩
     replace h := g12
     try dsimp only at h
     refine zaj (zah rfl (zaf (zai (v := (osv ob11 0 out11.length cap11)) rfl ?_)))
     refine zaf (zai (v := (zac .i64 carry11)) rfl ?_)
     refine zaf (OpY.remI (x := carry11) (y := 65536) rfl rfl (by decide) ?_)
     have hE11 : Els (rInt .i64) (vH w None [ob11] w12) [(zac .i64 (Int.tmod carry11 65536))] [(Int.tmod carry11 65536)] := (zcq (a := [(zac .i64 (Int.tmod carry11 65536))]) rfl zcv)
     refine zaf (zcn (r := (rInt .i64)) (vs := [(zac .i64 (Int.tmod carry11 65536))]) (css := [[(zac .i64 (Int.tmod carry11 65536))]]) (xs := [(Int.tmod carry11 65536)]) zba ti3 (zae rfl) rfl rfl ⟨rfl, rfl, trivial⟩ (zae rfl) hE11 rfl hL12 ?_)
     intro b11 w13 hc14 hL13 hS10
     have K13 := ks w hS10
     obtain ⟨x12, q16, h⟩ := zdq h
     obtain ⟨q17, q18, q19⟩ := zed q16
     have f14 := (hE11.mono (K13 None))
     have f15 := (((hE10.mono (K11 None)).mono (K12 None)).mono (K13 None))
     refine zaf (zdi (r := (rInt .i64)) (H := (vH w None [some b11, ob11] w13)) (cs := cs11) (sp := sp11) (xs := out11) (ys := [(Int.tmod carry11 65536)]) (Y := x12) (n := out11.length) (cap := cap11) (i := 1) zba ti3 rfl rfl rfl rfl hL13 rfl rfl f15 rfl hc10 (Src.row (pre := []) (o := 0) (n := 1) (cap := 1) (hL13.at 0 rfl rfl) f14 rfl rfl rfl) (Els.anyH (fun _ _ _ _ h => h) f14) q17 q18 q19 ?_)
     intro ob12 cap12 sp12 cs12 w14 hE12 hc15 (hL14 : vL w w14 [some b11, ob12] [zab ([] ++ ([(zac .i64 (Int.tmod carry11 65536))] ++ [])), zab ([] ++ (cs12 ++ sp12))]) hS11
     have K14 := ks w hS11
     refine zaf (zak (v := (osv ob12 0 x12.length cap12)) rfl ?_)
     refine zao (zah rfl (zaf (zai (v := (zac .i64 carry11)) rfl ?_)))
     refine zaf (OpY.quoI (x := carry11) (y := 65536) (z := (iw (Int.tdiv carry11 65536))) rfl rfl (by decide) rfl ?_)
     refine zaf (zak (v := (zac .i64 (iw (Int.tdiv carry11 65536)))) rfl ?_)
     refine zao (zbr (zah rfl (zaf (zai (v := (zac .i64 i10)) rfl ?_))))
     refine zaf (zcf (x := i10) (y := 1) (z := (iw (i10 + 1))) rfl rfl rfl ?_)
     refine zaf (zak (v := (zac .i64 (iw (i10 + 1)))) rfl ?_)
     refine zao ?_
     have hp10 := hL14.pick [1] rfl rfl rfl
     have hL15 : vL w w14 [ob12] [zab ([] ++ (cs12 ++ sp12))] := hp10.1
     have K15 := ks w hp10.2
     have f16 := ((hE12.mono (K14 None)).mono (K15 None))
     obtain rfl := zag h
     refine zas ⟨(x12, (iw (Int.tdiv carry11 65536)), (iw (i10 + 1))), rfl, ?_⟩
     exact ⟨ob12, cap12, sp12, cs12, x12.length, _, (zdv ⟨rfl, rfl, rfl, rfl, rfl, trivial⟩), hL15, (zaq (zaq (zaq (zaq (zaq K10 K11) K12) K13) K14) K15), f16, rfl, hc15, trivial⟩
   ·
    replace h := ite_f hc12 h
    refine zcs rfl ?_
    have f17 := (hE10.mono (K11 None))
    obtain rfl := zag h
    obtain rfl := hd10 _ rfl
    replace h := g10
    try dsimp only at h
    skip
    refine zas ?_
    exact ⟨out11, ob11, cap11, sp11, cs11, out11.length, _, rfl, (zdv ⟨rfl, trivial⟩), hL11, (zaq K10 K11), f17, rfl, hc10, trivial⟩
 ·
  rintro _ w15 ⟨out10, ob10, cap10, sp10, cs10, ln10, u, rfl, rfl, hL16, K16, hE13, rfl, hc16, -⟩
  replace h := g10
  try dsimp only at h
  refine zaj (zah rfl (zaf (zai (v := (osv ob10 0 out10.length cap10)) rfl ?_)))
  have f18 := hL16.freezeRow 0 rfl rfl hE13 rfl rfl rfl hc16
  have hp11 := hL16.pick [] rfl rfl rfl
  have hL17 : vL w w15 [] [] := hp11.1
  obtain ⟨r10, q20, h⟩ := zdq h
  refine zaf (zaw en82 rfl rfl (rtrim_w N out10 (osv ob10 0 out10.length cap10) _ _ (f18.mono Hv.enter) r10 q20) ?_)
  rintro _ w16 hE14 ⟨v10, rfl, k10, -⟩
  replace k10 := k10.mono (Hv.aliasO (S := None) hL17 [])
  have hL18 := hL17.ext hE14
  refine zaf (zak (v := v10) rfl ?_)
  refine zao (zbn ?_)
  obtain rfl := zag h
  refine ⟨[v10], ⟨rfl, trivial⟩, ⟨_, rfl, hL18.done, ?_⟩⟩
  exact ⟨v10, rfl, (k10.mono zdh), trivial⟩
theorem rMul_w (N : Nat) (a : Big) (b : Big) (a_v : Value) (b_v : Value) (w : World) (S : Nat → Prop) (a_h : Rs (rInt .u32) (vH w S [] w) a_v a.Digits) (b_h : Rs (rInt .u32) (vH w S [] w) b_v b.Digits) (r : Big) (h : rMul N a b = some r) :
  Calls Try.prog 39 #[(zam #[(zaa a.Negative), a_v]), (zam #[(zaa b.Negative), b_v])] w (Ret w (fun v w' => ∃ (v0_0 : Value), (zam #[(zaa r.Negative), v0_0]) = v ∧ Rs (rInt .u32) (vH w None [] w') v0_0 r.Digits ∧ True)) := by
 unfold rMul at h
 have hL : vL w w [] [] := Go.X.Loc.begin0 w
 refine calls_of (l := [(zam #[(zaa a.Negative), a_v]), (zam #[(zaa b.Negative), b_v])]) (rl := [.cell 4 26]) (n := 38) Try.func39 rfl rfl rfl (zae rfl) ?_
 refine zaj (zah rfl (zaf (zde (cs := [(zaa a.Negative), a_v]) rfl rfl hL ?_)))
 intro b1 w2 hL3 hS5
 have K4 := ks w hS5
 refine zaf (zde (cs := [(zaa b.Negative), b_v]) rfl rfl hL3 ?_)
 intro b6 w7 hL8 hS10
 have K9 := ks w hS10
 refine zaf (zbw (cs := [(zaa false), (zad none 0 0)]) ti26 rfl hL8 ?_)
 intro b10 w10 hL10 hS11
 have K10 := ks w hS11
 refine zao (zaj ?_)
 obtain ⟨r10, q10, h⟩ := zdq h
 refine zcb 3 [] [] (fun W1 => [.det (zam #[(zaa a.Negative), a_v]), .rel (fun v Z w' => ∃ v10, v10 = v ∧ Rs (rInt .i64) (vZ W1 w None [some b10, some b6, some b1] Z w') v10 r10 ∧ True) (fun _ => []), .det (zam #[(zaa b.Negative), b_v])]) mixed rfl rfl rfl (fun _ => rfl) (fun _ => rfl) ?_ ?_
 ·
  intro W1 _
  exact ⟨fun v Z Z' w w' hΦ hz _ _ hs => by obtain ⟨v10, rfl, k10, -⟩ := hΦ; exact ⟨v10, rfl, (k10.mono (zcg hz hs)), trivial⟩, trivial⟩
 ·
  intro w11 hE10
  have hL11 := hL10.ext hE10
  have K11 := ke hL10 hE10
  refine zat (fun _ hE11 => zau (zbe (vs := [(zaa a.Negative), a_v]) zan rfl ti26 rfl ((hL11.ext hE11).at 2 rfl rfl) rfl rfl (er rfl))) ?_
  refine zch ?_ ?_
  ·
   rintro w13 Z11 hE12 hZ11 ⟨-⟩
   have K12 := ke hL11 hE12
   refine zau (zaw en65 rfl rfl (halves_w N a a_v _ Any ((((((a_h.mono (K4 S)).mono (K9 S)).mono (K10 S)).mono (K11 S)).mono (K12 S)).mono vw_any) r10 q10) ?_)
   rintro _ w14 hE13 ⟨v10, rfl, k10, -⟩
   exact zce hE13 hZ11 zbv (fun _ h => h) ⟨v10, rfl, (k10.mono zcz), trivial⟩
  intro z1
  refine zat (fun _ hE14 => zau (zbe (vs := [(zaa b.Negative), b_v]) zan rfl ti26 rfl ((hL11.ext hE14).at 1 rfl rfl) rfl rfl (er rfl))) ?_
  refine zcj ?_
  rintro w16 Z13 hE15 hZ13 ⟨⟨⟨v10, rfl, k10, -⟩, hB1⟩, -⟩ ap10
  have hB10 : ∀ b, some b ∈ ([] : List (Option Nat)) → w11.heap.size ≤ b ∧ ¬ Z13 b := by
   intro b hb; cases hb
  replace k10 := k10.mono (zcx hL11 hZ13 hB10)
  have hL14 := hL11.ext hE15
  have K13 := ke hL11 hE15
  obtain ⟨r11, q11, h⟩ := zdq h
  have f10 := (((((b_h.mono (K4 S)).mono (K9 S)).mono (K10 S)).mono (K11 S)).mono (K13 S))
  refine zaf (zaw en65 rfl rfl (halves_w N b b_v _ Any (f10.mono vw_any) r11 q11) ?_)
  rintro _ w17 hE16 ⟨v11, rfl, k11, -⟩
  replace k11 := k11.mono (zbd (S := None) hL14 [])
  have hL15 := hL14.ext hE16
  have K14 := ke hL14 hE16
  refine zaf (zak (v := v10) rfl ?_)
  refine zaf (zak (v := v11) rfl ?_)
  refine zao (zaj (zah rfl (zaf (zdn zba ti3 hL15 ?_))))
  intro b11 w18 hL16 hS12
  have hE17 : Els (rInt .i64) (vH w None [some b10, some b6, some b1] w17) [] [] := zcv
  have K15 := ks w hS12
  refine zaf (zak (v := (osv (some b11) 0 (List.length ([] : (List Int))) 0)) rfl ?_)
  refine zao (zaj (zaj (zah rfl (zaf (zai (v := v11) rfl ?_)))))
  have f11 := (k11.mono (K15 None))
  refine zaf (zbg (v := v11) zba rfl f11 ?_)
  refine zaf (zdf (x := (r11.length : Int)) (y := 1) (z := (iw ((r11.length : Int) - 1))) rfl rfl rfl ?_)
  refine zaf (zak (v := (zac .i64 (iw ((r11.length : Int) - 1)))) rfl ?_)
  refine zao ?_
  obtain ⟨s10, hl10, g10⟩ := zdq h
  refine zbq (fun e w' => ∃ (sum10 : (List Int)) (v12 : Value) (u : Env), sum10 = s10 ∧ e = upds [(2, (zal (some ⟨b1, 0, none⟩))), (3, (zal (some ⟨b6, 0, none⟩))), (4, (zal (some ⟨b10, 0, none⟩))), (7, v12)] u ∧ vL w w' [some b1, some b6, some b10] [zab [(zaa a.Negative), a_v], zab [(zaa b.Negative), b_v], zab [(zaa false), (zad none 0 0)]] ∧ Keep w.heap.size [some b11, some b10, some b6, some b1] w18 [some b1, some b6, some b10] w' ∧ Rs (rInt .i64) (vH w None [some b1, some b6, some b10] w') v12 sum10 ∧ True) ?_ ?_
  ·
   refine zbj ?_
   have f12 := (hE17.mono (K15 None))
   have f13 := hL16.freezeRow 0 rfl rfl f12 rfl rfl rfl (show ([] ++ [] : List Value).length = 0 * (rInt .i64).sz by simp)
   have hp10 := hL16.pick [1, 2, 3] rfl rfl rfl
   have hL17 : vL w w18 [some b10, some b6, some b1] [zab [(zaa false), (zad none 0 0)], zab [(zaa b.Negative), b_v], zab [(zaa a.Negative), a_v]] := hp10.1
   have K16 := ks w hp10.2
   have hp11 := hL17.pick [2, 1, 0] rfl rfl rfl
   have hL18 : vL w w18 [some b1, some b6, some b10] [zab [(zaa a.Negative), a_v], zab [(zaa b.Negative), b_v], zab [(zaa false), (zad none 0 0)]] := hp11.1
   have K17 := ks w hp11.2
   have f14 := (f13.mono (K17 None))
   refine zci hl10 (fun (ss : ((List Int) × Int)) (e : Env) (w' : World) => match ss with | (sum11, i10) => ∃ (v13 : Value) (u : Env), e = upds [(2, (zal (some ⟨b1, 0, none⟩))), (3, (zal (some ⟨b6, 0, none⟩))), (4, (zal (some ⟨b10, 0, none⟩))), (5, v10), (6, v11), (7, v13), (8, (zac .i64 i10))] u ∧ vL w w' [some b1, some b6, some b10] [zab [(zaa a.Negative), a_v], zab [(zaa b.Negative), b_v], zab [(zaa false), (zad none 0 0)]] ∧ Keep w.heap.size [some b11, some b10, some b6, some b1] w18 [some b1, some b6, some b10] w' ∧ Rs (rInt .i64) (vH w None [some b1, some b6, some b10] w') v13 sum11 ∧ True) ⟨(osv (some b11) 0 (List.length ([] : (List Int))) 0), _, (zdv ⟨rfl, rfl, rfl, rfl, rfl, rfl, rfl, trivial⟩), hL18, (zaq K16 K17), f14, trivial⟩ ?_
   rintro ⟨sum11, i10⟩ oo _ w19 ⟨v13, u, rfl, hL19, K18, k12, -⟩ h hd10
   rw [rMul_b1] at h
   refine zaj (zaj (zah rfl (zaf (zai (v := (zac .i64 i10)) rfl ?_))))
   refine zaf (OpY.geq (x := i10) (y := 0) ((i10 : Int) ≥ 0) rfl rfl zbl ?_)
   refine zao ?_
   refine zbh ((i10 : Int) ≥ 0) rfl (fun hc10 => ?_) (fun hc10 => ?_)
   ·
    replace h := ite_t hc10 h
    refine zbi (zaj (zbj ?_))
    obtain ⟨x10, q12, h⟩ := zdq h
    obtain ⟨q13, q14, q15⟩ := zed q12
    obtain ⟨x11, q16, h⟩ := zdq h
    obtain ⟨n10, q17, q18⟩ := zdw q16
    have f15 := (f11.mono (K18 None))
    obtain ⟨b12, o10, c10, vs10, q19, q20, f16, q21⟩ := zdc f15 q18
    obtain rfl := q21
    refine zcb 8 [[], [], [0], [], [], [], [], []] [] (fun W1 => [.rel (fun v Z w' => ∃ b13 cs10, (osv (some b13) 0 1 1) = v ∧ OwnC w' (some b13) (zab ([] ++ (cs10 ++ []))) ∧ Els (rInt .i64) (vZ W1 w None [some b1, some b6, some b10] Z w') cs10 [0] ∧ (cs10 ++ [] : List Value).length = 1 * (rInt .i64).sz ∧ True) footV, .det v13, .rel (fun v Z w' => ∃ ob10 cap10 cs11 sp10, (osv ob10 0 x10.length cap10) = v ∧ OwnC w' ob10 (zab ([] ++ (cs11 ++ sp10))) ∧ Els (rInt .i64) (vZ W1 w None [some b1, some b6, some b10] Z w') cs11 x10 ∧ (cs11 ++ sp10 : List Value).length = cap10 * (rInt .i64).sz ∧ True) footV, .det v10, .det v11, .det (zac .i64 i10), .det (zal (some ⟨b12, (o10 + n10 * (rInt .i64).sz), none⟩)), .det (zac .i64 x11)]) mixed rfl rfl rfl (fun _ => rfl) (fun _ => rfl) ?_ ?_
    ·
     intro W1 _
     exact ⟨fun v Z Z' w w' hΦ hz _ _ hs => by obtain ⟨b13, cs10, rfl, hO10, hE18, hc11, -⟩ := hΦ; exact ⟨b13, cs10, rfl, (hO10.stay (fun b hb => by cases hb; exact zav) hs), (hE18.mono (zcg hz hs)), hc11, trivial⟩, ⟨fun v Z Z' w w' hΦ hz _ _ hs => by obtain ⟨ob10, cap10, cs11, sp10, rfl, hO11, hE19, hc12, -⟩ := hΦ; exact ⟨ob10, cap10, cs11, sp10, rfl, (hO11.stay (fun b hb => (zdz (ob := ob10) (o := 0) (n := x10.length) (cap := cap10)).2 (by rw [hb]; exact zav)) hs), (hE19.mono (zcg hz hs)), hc12, trivial⟩, trivial⟩⟩
    ·
     intro w20 hE20
     have hL20 := hL19.ext hE20
     have K19 := ke hL19 hE20
     refine zch ?_ ?_
     ·
      rintro w21 Z14 hE21 hZ14 ⟨-⟩
      have hE22 : Els (rInt .i64) (vZ w20 w None [some b1, some b6, some b10] Z14 w21) [(zac .i64 0)] [0] := (zcq (a := [(zac .i64 0)]) rfl zcv)
      refine zau (zcn (r := (rInt .i64)) (vs := [(zac .i64 0)]) (css := [[(zac .i64 0)]]) (xs := [0]) zba ti3 (zae rfl) rfl rfl ⟨rfl, rfl, trivial⟩ (zae rfl) hE22 rfl (Go.X.Loc.begin0 w21) ?_)
      intro b13 w22 hc13 hL21 hS13
      have hN10 : NewOwn w21 w22 [some b13] [zab ([] ++ ([(zac .i64 0)] ++ []))] := hL21.newOwn [0] rfl rfl rfl
      exact zce hL21.done hZ14 hN10 (fun _ h => h) ⟨b13, [(zac .i64 0)], rfl, hN10.2.2.1, (hE22.mono (Zv.grow hL21.done)), hc13, trivial⟩
     intro z0
     refine zat (fun _ _ => zau (zai rfl (er rfl))) ?_
     refine zch ?_ ?_
     ·
      rintro w24 Z16 hE24 hZ16 ⟨⟨⟨b13, cs10, rfl, hO10, hE18, hc11, -⟩, hB0⟩, -⟩
      obtain ⟨ds10, q22, q23⟩ := Rs.src ((k12.mono (K19 None)).mono (Zv.old (Z := Z16) hE24))
      refine zau (zdi (r := (rInt .i64)) (H := (vZ w20 w None [some b1, some b6, some b10] Z16 w24)) (cs := cs10) (sp := []) (xs := [0]) (ys := sum11) (Y := x10) (n := 1) (cap := 1) (i := 0) zba ti3 rfl rfl rfl rfl (Go.X.Loc.begin1 hO10) rfl rfl hE18 rfl hc11 q22 (Els.anyH (fun _ _ _ _ h => h) q23) q13 q14 q15 ?_)
      intro ob10 cap10 sp10 cs11 w25 hE19 hc12 (hL22 : Go.X.Loc [some b13] [] w24 w25 [ob10] [zab ([] ++ (cs11 ++ sp10))]) hS14
      exact Made.use hZ16 (fun b hb => hB0 b ((zdz (o := 0) (n := 1) (cap := 1)).2 hb)) hL22 (fun b hb => List.mem_append_left _ ((zdz (o := 0) (n := 1) (cap := 1)).2 (by rw [← hb]; exact zav))) (fun b hb => footV_osv.1 hb) ⟨ob10, cap10, cs11, sp10, rfl, hL22.own.1, (hE19.mono (Zv.use (fun b hb => hB0 b ((zdz (o := 0) (n := 1) (cap := 1)).2 hb)) hL22)), hc12, trivial⟩
     intro z2
     refine zat (fun _ _ => zau (zai rfl (er rfl))) ?_
     refine zat (fun _ _ => zau (zai rfl (er rfl))) ?_
     refine zat (fun _ _ => zau (zai rfl (er rfl))) ?_
     refine zat (fun _ _ => zau (zbz (r := (rInt .i64)) (v := v11) (n := n10) (m := (o10 + n10 * (rInt .i64).sz)) zba ti3 rfl q19 rfl q17 q18 rfl (er rfl))) ?_
     refine zat (fun _ hE29 => zau (zct zbu rfl rfl zea (zdd ((ke hL20 hE29) None) (zdd (K19 None) f16)) (er rfl))) ?_
     refine zcj ?_
     rintro w31 Z22 hE30 hZ22 ⟨⟨⟨ob10, cap10, cs11, sp10, rfl, hO11, hE19, hc12, -⟩, hB2⟩, -, -⟩ ap11
     have hB11 : ∀ b, some b ∈ ([ob10] : List (Option Nat)) → w20.heap.size ≤ b ∧ ¬ Z22 b := by
      intro b hb
      rcases List.mem_cons.1 hb with hb' | hb
      ·
       have := hB2 b ((zdz (ob := ob10) (o := 0) (n := x10.length) (cap := cap10)).2 (by rw [hb']; exact zav)); exact ⟨this.1, this.2.2⟩
      cases hb
     replace hE19 := hE19.mono (zcx hL20 hZ22 hB11)
     have hN11 : NewOwn w20 w31 [ob10] [zab ([] ++ (cs11 ++ sp10))] := (zcy zbv hO11 (fun b hb => (hB11 b (by rw [← hb]; simp)).1) (fun b _ hb => by cases hb))
     have hp12 := hL20.adoptL hE30 hN11
     have hL23 := hp12.1
     have K21 := ks w hp12.2
     obtain ⟨r12, q24, h⟩ := zdq h
     have f17 := (((((k10.mono (K14 None)).mono (K15 None)).mono (K18 None)).mono (K19 None)).mono (K21 None))
     refine zaf (zaw en71 rfl rfl (rtimes_w N r10 x11 v10 _ Any (f17.mono vw_any) r12 q24) ?_)
     rintro _ w32 hE31 ⟨v14, rfl, k13, -⟩
     replace k13 := k13.mono (zbd (S := None) hL23 [])
     have hL24 := hL23.ext hE31
     have K22 := ke hL23 hE31
     obtain ⟨r13, q25, h⟩ := zdq h
     have f18 := (hE19.mono (K22 None))
     refine zaf (zaw en69 rfl rfl (rplus_w N x10 r12 (osv ob10 0 x10.length cap10) v14 _ Any (zdy (pre := []) (o := 0) (n := x10.length) (cap := cap10) (hL24.at 0 rfl rfl) f18 vw_any rfl rfl rfl hc12) (k13.mono vw_any) r13 q25) ?_)
     rintro _ w33 hE32 ⟨v15, rfl, k14, -⟩
     replace k14 := k14.mono (zbd (S := None) hL24 [])
     have hL25 := hL24.ext hE32
     have K23 := ke hL24 hE32
     refine zaf (zak (v := v15) rfl ?_)
     refine zao (zbr (zah rfl (zaf (zai (v := (zac .i64 i10)) rfl ?_))))
     refine zaf (zdf (x := i10) (y := 1) (z := (iw (i10 - 1))) rfl rfl rfl ?_)
     refine zaf (zak (v := (zac .i64 (iw (i10 - 1)))) rfl ?_)
     refine zao ?_
     have hp13 := hL25.pick [1, 2, 3] rfl rfl rfl
     have hL26 : vL w w33 [some b1, some b6, some b10] [zab [(zaa a.Negative), a_v], zab [(zaa b.Negative), b_v], zab [(zaa false), (zad none 0 0)]] := hp13.1
     have K24 := ks w hp13.2
     have f19 := (k14.mono (K24 None))
     obtain rfl := zag h
     refine zas ⟨(r13, (iw (i10 - 1))), rfl, ?_⟩
     exact ⟨v15, _, (zdv ⟨rfl, rfl, rfl, rfl, rfl, rfl, rfl, trivial⟩), hL26, (zaq (zaq (zaq (zaq (zaq K18 K19) K21) K22) K23) K24), f19, trivial⟩
   ·
    replace h := ite_f hc10 h
    refine zcs rfl ?_
    obtain rfl := zag h
    obtain rfl := hd10 _ rfl
    replace h := g10
    try dsimp only at h
    skip
    refine zas ?_
    exact ⟨sum11, v13, _, rfl, (zdv ⟨rfl, rfl, rfl, rfl, trivial⟩), hL19, K18, k12, trivial⟩
  ·
   rintro _ w34 ⟨sum10, v12, u, rfl, rfl, hL27, K25, k15, -⟩
   replace h := g10
   try dsimp only at h
   refine zaj (zah rfl (zaf (zar (q := 0) zan rfl ti4 rfl rfl rfl ?_)))
   refine zaf (zbb (v := (zaa a.Negative)) zbp rfl rfl (hL27.at 0 rfl rfl) rfl ?_)
   refine zaf (zar (q := 0) zan rfl ti4 rfl rfl rfl ?_)
   refine zaf (zbb (v := (zaa b.Negative)) zbp rfl rfl (hL27.at 1 rfl rfl) rfl ?_)
   refine zaf (OpY.neqBool (x := a.Negative) (y := b.Negative) zbp rfl rfl ?_)
   refine zaf (zai (v := v12) rfl ?_)
   obtain ⟨r14, q26, h⟩ := zdq h
   refine zaf (zaw en68 rfl rfl (rbig_w N (!(a.Negative == b.Negative)) sum10 v12 _ Any (k15.mono vw_any) r14 q26) ?_)
   rintro _ w35 hE33 ⟨v16, rfl, k16, -⟩
   replace k16 := k16.mono (zbd (S := None) hL27 [])
   have hL28 := hL27.ext hE33
   refine zcd (zbk (vs := [(zaa r14.Negative), v16]) ti26 rfl rfl rfl rfl (zds rfl (zds k16.one zdx)) hL28 2 rfl rfl (zae rfl) ?_)
   intro w36 (hL29 : vL w w36 [some b1, some b6, some b10] [zab [(zaa a.Negative), a_v], zab [(zaa b.Negative), b_v], zab [(zaa r14.Negative), v16]]) hS15
   have K26 := ks w hS15
   refine zao (zbn ?_)
   obtain rfl := zag h
   refine ⟨[(zam #[(zaa r14.Negative), v16])], ⟨⟨⟨b10, 0, none⟩, rfl, zeb zan rfl ti26 (hL29.at 2 rfl rfl) rfl⟩, trivial⟩, ⟨_, rfl, hL29.done, ?_⟩⟩
   have f20 := (k16.mono (K26 None))
   exact ⟨v16, rfl, (f20.mono zdh), trivial⟩
theorem rsplit_w (N : Nat) (a : (List Int)) (b : (List Int)) (a_v : Value) (b_v : Value) (w : World) (S : Nat → Prop) (a_h : Rs (rInt .i64) (vH w S [] w) a_v a) (b_h : Rs (rInt .i64) (vH w S [] w) b_v b) (r : ((List Int) × (List Int))) (h : rsplit N a b = some r) :
  Calls Try.prog 79 #[a_v, b_v] w (Ret w (fun v w' => ∃ (v0_0 : Value) (v1_0 : Value), .tuple #[v0_0, v1_0] = v ∧ Rs (rInt .i64) (vH w None [] w') v0_0 r.1 ∧ Rs (rInt .i64) (vH w None [] w') v1_0 r.2 ∧ True)) := by
 unfold rsplit at h
 have hL : vL w w [] [] := Go.X.Loc.begin0 w
 refine calls_of (l := [a_v, b_v]) (rl := [.tmp 4, .tmp 5]) (n := 56) Try.func79 rfl rfl rfl (zae rfl) ?_
 refine zaj (zah rfl (zaf (zak (v := (zad none 0 0)) rfl ?_)))
 refine zaf (zak (v := (zad none 0 0)) rfl ?_)
 refine zao (zaj (zah rfl (zaf (zai (v := a_v) rfl ?_))))
 refine zaf (zbg (v := a_v) zba rfl a_h ?_)
 obtain ⟨x2, q3, h⟩ := zdq h
 obtain ⟨m1, q4, q5, q6, q7⟩ := mk1_some q3
 refine zaf (OpY.mkRowX (r := (rInt .i64)) (H := (vH w None [] w)) (zc := [(zac .i64 0)]) (x := 0) zba ti3 rfl rfl rfl rfl q4 q5 q6 q7 hL ?_)
 intro b8 w10 cs9 hE10 hc10 hL10 hS10
 have K10 := ks w hS10
 refine zaf (zdn zba ti3 hL10 ?_)
 intro b10 w11 hL11 hS11
 have hE11 : Els (rInt .i64) (vH w None [some b8] w10) [] [] := zcv
 have K11 := ks w hS11
 refine zaf (zak (v := (osv (some b8) 0 x2.length m1)) rfl ?_)
 refine zaf (zak (v := (osv (some b10) 0 (List.length ([] : (List Int))) 0)) rfl ?_)
 refine zao (zaj (zaj (zah rfl (zaf (zai (v := a_v) rfl ?_)))))
 have f10 := ((a_h.mono (K10 S)).mono (K11 S))
 refine zaf (zbg (v := a_v) zba rfl f10 ?_)
 refine zaf (zdf (x := (a.length : Int)) (y := 1) (z := (iw ((a.length : Int) - 1))) rfl rfl rfl ?_)
 refine zaf (zak (v := (zac .i64 (iw ((a.length : Int) - 1)))) rfl ?_)
 refine zao ?_
 obtain ⟨s10, hl10, g10⟩ := zdq h
 refine zbq (fun e w' => ∃ (q10 : (List Int)) (x10 : (List Int)) (cs10 : List Value) (v10 : Value) (u : Env), (q10, x10) = s10 ∧ e = upds [(6, (osv (some b8) 0 x2.length m1)), (7, v10)] u ∧ vL w w' [some b8] [zab ([] ++ (cs10 ++ []))] ∧ Keep w.heap.size [some b10, some b8] w11 [some b8] w' ∧ Els (rInt .i64) (vH w None [some b8] w') cs10 q10 ∧ x2.length = List.length q10 ∧ (cs10 ++ []).length = m1 * (rInt .i64).sz ∧ Rs (rInt .i64) (vH w None [some b8] w') v10 x10 ∧ True) ?_ ?_
 ·
  refine zbj ?_
  have f11 := (hE11.mono (K11 None))
  have f12 := hL11.freezeRow 0 rfl rfl f11 rfl rfl rfl (show ([] ++ [] : List Value).length = 0 * (rInt .i64).sz by simp)
  have hp10 := hL11.pick [1] rfl rfl rfl
  have hL12 : vL w w11 [some b8] [zab ([] ++ (cs9 ++ []))] := hp10.1
  have K12 := ks w hp10.2
  have f13 := (((hE10.mono (K10 None)).mono (K11 None)).mono (K12 None))
  refine zci hl10 (fun (ss : ((List Int) × (List Int) × Int)) (e : Env) (w' : World) => match ss with | (q11, x11, i10) => ∃ (cs11 : List Value) (v11 : Value) (u : Env), e = upds [(0, a_v), (1, b_v), (6, (osv (some b8) 0 x2.length m1)), (7, v11), (8, (zac .i64 i10))] u ∧ vL w w' [some b8] [zab ([] ++ (cs11 ++ []))] ∧ Keep w.heap.size [some b10, some b8] w11 [some b8] w' ∧ Els (rInt .i64) (vH w None [some b8] w') cs11 q11 ∧ x2.length = List.length q11 ∧ (cs11 ++ []).length = m1 * (rInt .i64).sz ∧ Rs (rInt .i64) (vH w None [some b8] w') v11 x11 ∧ True) ⟨cs9, (osv (some b10) 0 (List.length ([] : (List Int))) 0), _, (zdv ⟨rfl, rfl, rfl, rfl, rfl, trivial⟩), hL12, K12, f13, rfl, hc10, f12, trivial⟩ ?_
  rintro ⟨q11, x11, i10⟩ oo _ w12 ⟨cs11, v11, u, rfl, hL13, K13, hE12, hl11, hc11, k10, -⟩ h hd10
  rw [rsplit_b1] at h
  refine zaj (zaj (zah rfl (zaf (zai (v := (zac .i64 i10)) rfl ?_))))
  refine zaf (OpY.geq (x := i10) (y := 0) ((i10 : Int) ≥ 0) rfl rfl zbl ?_)
  refine zao ?_
  refine zbh ((i10 : Int) ≥ 0) rfl (fun hc12 => ?_) (fun hc12 => ?_)
  ·
   replace h := ite_t hc12 h
   refine zbi (zaj (zbj (zaj (zah rfl (zaf (zak (v := (zac .i64 32768)) rfl ?_))))))
   refine zao ?_
   obtain ⟨s11, hl12, g11⟩ := zdq h
   refine zbq (fun e w' => ∃ (q12 : (List Int)) (x12 : (List Int)) (cs12 : List Value) (v12 : Value) (u : Env), (q12, x12) = s11 ∧ e = upds [(0, a_v), (1, b_v), (6, (osv (some b8) 0 x2.length m1)), (7, v12), (8, (zac .i64 i10))] u ∧ vL w w' [some b8] [zab ([] ++ (cs12 ++ []))] ∧ Keep w.heap.size [some b8] w12 [some b8] w' ∧ Els (rInt .i64) (vH w None [some b8] w') cs12 q12 ∧ x2.length = List.length q12 ∧ (cs12 ++ []).length = m1 * (rInt .i64).sz ∧ Rs (rInt .i64) (vH w None [some b8] w') v12 x12 ∧ True) ?_ ?_
   ·
    refine zbj ?_
    refine zci hl12 (fun (ss : ((List Int) × (List Int) × Int)) (e : Env) (w' : World) => match ss with | (q13, x13, bit10) => ∃ (cs13 : List Value) (v13 : Value) (u : Env), e = upds [(0, a_v), (1, b_v), (6, (osv (some b8) 0 x2.length m1)), (7, v13), (8, (zac .i64 i10)), (9, (zac .i64 bit10))] u ∧ vL w w' [some b8] [zab ([] ++ (cs13 ++ []))] ∧ Keep w.heap.size [some b8] w12 [some b8] w' ∧ Els (rInt .i64) (vH w None [some b8] w') cs13 q13 ∧ x2.length = List.length q13 ∧ (cs13 ++ []).length = m1 * (rInt .i64).sz ∧ Rs (rInt .i64) (vH w None [some b8] w') v13 x13 ∧ True) ⟨cs11, v11, _, (zdv ⟨rfl, rfl, rfl, rfl, rfl, rfl, trivial⟩), hL13, zbo, hE12, hl11, hc11, k10, trivial⟩ ?_
    rintro ⟨q13, x13, bit10⟩ oo _ w13 ⟨cs13, v13, u, rfl, hL14, K14, hE13, hl13, hc13, k11, -⟩ h hd11
    rw [rsplit_b2] at h
    refine zaj (zaj (zah rfl (zaf (zai (v := (zac .i64 bit10)) rfl ?_))))
    refine zaf (zdo (x := bit10) (y := 0) ((bit10 : Int) > 0) rfl rfl zbl ?_)
    refine zao ?_
    refine zbh ((bit10 : Int) > 0) rfl (fun hc14 => ?_) (fun hc14 => ?_)
    ·
     replace h := ite_t hc14 h
     refine zbi (zaj (zbj (zaj (zah rfl (zaf (zai (v := v13) rfl ?_))))))
     refine zaf (zai (v := v13) rfl ?_)
     obtain ⟨r10, q14, h⟩ := zdq h
     refine zaf (zaw en69 rfl rfl (rplus_w N x13 x13 v13 v13 _ Any (k11.mono vw_any) (k11.mono vw_any) r10 q14) ?_)
     rintro _ w14 hE14 ⟨v14, rfl, k12, -⟩
     replace k12 := k12.mono (zbd (S := None) hL14 [])
     have hL15 := hL14.ext hE14
     have K15 := ke hL14 hE14
     refine zaf (zak (v := v14) rfl ?_)
     refine zao (zaj (zaj (zah rfl (zaf (zai (v := a_v) rfl ?_)))))
     refine zaf (zai (v := (zac .i64 i10)) rfl ?_)
     obtain ⟨x14, q15, h⟩ := zdq h
     obtain ⟨n10, q16, q17⟩ := zdw q15
     have f14 := (((f10.mono (K13 S)).mono (K14 S)).mono (K15 S))
     obtain ⟨b11, o10, c10, vs10, q18, q19, f15, q20⟩ := zdc f14 q17
     obtain rfl := q20
     refine zaf (zbz (r := (rInt .i64)) (v := a_v) (n := n10) (m := (o10 + n10 * (rInt .i64).sz)) zba ti3 rfl q18 rfl q16 q17 rfl ?_)
     refine zaf (zct (v := (zac .i64 x14)) zbu rfl rfl zea f15 ?_)
     refine zaf (zai (v := (zac .i64 bit10)) rfl ?_)
     obtain ⟨x15, q21, h⟩ := zdq h
     obtain ⟨q22, q23⟩ := sdiv_some q21
     refine zaf (OpY.quoI (x := x14) (y := bit10) (z := x15) rfl rfl q22 q23 ?_)
     refine zaf (OpY.remI (x := x15) (y := 2) rfl rfl (by decide) ?_)
     refine zaf (OpY.eql (x := (Int.tmod x15 2)) (y := 1) (((Int.tmod x15 2) : Int) = 1) rfl rfl zbl ?_)
     refine zao ?_
     obtain ⟨s12, h, g12⟩ := zdq h
     refine zbq (fun e w' => ∃ (x16 : (List Int)) (v15 : Value) (u : Env), x16 = s12 ∧ e = upds [(0, a_v), (1, b_v), (6, (osv (some b8) 0 x2.length m1)), (7, v15), (8, (zac .i64 i10)), (9, (zac .i64 bit10))] u ∧ vL w w' [some b8] [zab ([] ++ (cs13 ++ []))] ∧ Keep w.heap.size [some b8] w14 [some b8] w' ∧ Rs (rInt .i64) (vH w None [some b8] w') v15 x16 ∧ True) ?_ ?_
     ·
      refine zbh (((Int.tmod x15 2) : Int) = 1) rfl (fun hc15 => ?_) (fun hc15 => ?_)
      ·
       replace h := ite_t hc15 h
       refine zah rfl (zaf (zai (v := v14) rfl ?_))
       have hE15 : Els (rInt .i64) (vH w None [some b8] w14) [(zac .i64 1)] [1] := (zcq (a := [(zac .i64 1)]) rfl zcv)
       refine zaf (zcn (r := (rInt .i64)) (vs := [(zac .i64 1)]) (css := [[(zac .i64 1)]]) (xs := [1]) zba ti3 (zae rfl) rfl rfl ⟨rfl, rfl, trivial⟩ (zae rfl) hE15 rfl hL15 ?_)
       intro b12 w15 hc16 hL16 hS12
       have K16 := ks w hS12
       obtain ⟨r11, q24, h⟩ := zdq h
       have f16 := (k12.mono (K16 None))
       have f17 := (hE15.mono (K16 None))
       refine zaf (zaw en69 rfl rfl (rplus_w N r10 [1] v14 (osv (some b12) 0 1 1) _ Any (f16.mono vw_any) (zdy (pre := []) (o := 0) (n := 1) (cap := 1) (hL16.at 0 rfl rfl) f17 vw_any rfl rfl rfl hc16) r11 q24) ?_)
       rintro _ w16 hE16 ⟨v16, rfl, k13, -⟩
       replace k13 := k13.mono (zbd (S := None) hL16 [])
       have hL17 := hL16.ext hE16
       have K17 := ke hL16 hE16
       refine zaf (zak (v := v16) rfl ?_)
       refine zao ?_
       have hp11 := hL17.pick [1] rfl rfl rfl
       have hL18 : vL w w16 [some b8] [zab ([] ++ (cs13 ++ []))] := hp11.1
       have K18 := ks w hp11.2
       have f18 := (k13.mono (K18 None))
       obtain rfl := zag h
       refine zas ?_
       exact ⟨r11, v16, _, rfl, (zdv ⟨rfl, rfl, rfl, rfl, rfl, rfl, trivial⟩), hL18, (zaq (zaq K16 K17) K18), f18, trivial⟩
      ·
       replace h := ite_f hc15 h
       refine zbi ?_
       obtain rfl := zag h
       refine zas ?_
       exact ⟨r10, v14, _, rfl, (zdv ⟨rfl, rfl, rfl, rfl, rfl, rfl, trivial⟩), hL15, zbo, k12, trivial⟩
     ·
      rintro _ w17 ⟨x16, v15, u, rfl, rfl, hL19, K19, k14, -⟩
      replace h := g12
      try dsimp only at h
      refine zaj (zah rfl (zaf (zai (v := v15) rfl ?_)))
      refine zaf (zai (v := b_v) rfl ?_)
      obtain ⟨r12, q25, h⟩ := zdq h
      have f19 := ((((((b_h.mono (K10 S)).mono (K11 S)).mono (K13 S)).mono (K14 S)).mono (K15 S)).mono (K19 S))
      refine zaf (zaw en64 rfl rfl (rorder_w N x16 b v15 b_v _ Any (k14.mono vw_any) (f19.mono vw_any) r12 q25) ?_)
      rintro _ w18 hE17 ⟨rfl, -⟩
      have hL20 := hL19.ext hE17
      have K20 := ke hL19 hE17
      refine zaf (OpY.geq (x := r12) (y := 0) ((r12 : Int) ≥ 0) rfl rfl zbl ?_)
      refine zao ?_
      refine zbh ((r12 : Int) ≥ 0) rfl (fun hc17 => ?_) (fun hc17 => ?_)
      ·
       replace h := ite_t hc17 h
       refine zaj (zah rfl (zaf (zai (v := v15) rfl ?_)))
       refine zaf (zai (v := b_v) rfl ?_)
       obtain ⟨r13, q26, h⟩ := zdq h
       have f20 := (k14.mono (K20 None))
       have f21 := (f19.mono (K20 S))
       refine zaf (zaw en70 rfl rfl (rminus_w N x16 b v15 b_v _ Any (f20.mono vw_any) (f21.mono vw_any) r13 q26) ?_)
       rintro _ w19 hE18 ⟨v17, rfl, k15, -⟩
       replace k15 := k15.mono (zbd (S := None) hL20 [])
       have hL21 := hL20.ext hE18
       have K21 := ke hL20 hE18
       refine zaf (zak (v := v17) rfl ?_)
       refine zao (zah rfl (zaf (zai (v := (osv (some b8) 0 x2.length m1)) rfl ?_)))
       refine zaf (zai (v := (zac .i64 i10)) rfl ?_)
       obtain ⟨x17, q27, h⟩ := zdq h
       obtain ⟨n11, q28, q29⟩ := zdw q27
       have q30 := (List.getElem?_eq_some_iff.1 q29).1
       refine zaf (zcl (r := (rInt .i64)) (b := b8) (o := 0) (n := n11) (m := x2.length) (xs := q13) (q := (0 + n11 * (rInt .i64).sz)) zba ti3 rfl hl13 rfl q28 q30 rfl ?_)
       have f22 := ((((hE13.mono (K15 None)).mono (K19 None)).mono (K20 None)).mono (K21 None))
       obtain ⟨vs11, q31, q32, q33⟩ := zee (pre := []) (sp := []) f22 q29
       obtain rfl := q32
       refine zaf (zdg (v := (zac .i64 x17)) zbu rfl rfl (hL21.at 0 rfl rfl) q33 ?_)
       refine zaf (zai (v := (zac .i64 bit10)) rfl ?_)
       refine zaf (zcf (x := x17) (y := bit10) (z := (iw (x17 + bit10))) rfl rfl rfl ?_)
       obtain ⟨x18, q34, h⟩ := zdq h
       obtain ⟨n12, q35, q36⟩ := zdw q34
       have q37 := (List.getElem?_eq_some_iff.1 q36).1
       refine zaf (zcl (r := (rInt .i64)) (b := b8) (o := 0) (n := n12) (m := x2.length) (xs := q13) (q := (0 + n12 * (rInt .i64).sz)) zba ti3 rfl hl13 rfl q35 q37 rfl ?_)
       obtain ⟨x19, q38, h⟩ := zdq h
       obtain ⟨n13, q39, q40, q41⟩ := zeh q38
       obtain rfl := Int.ofNat_inj.1 (q35.symm.trans q39)
       refine zcd (zdl (pre := []) (r := (rInt .i64)) (vs := [(zac .i64 (iw (x17 + bit10)))]) (a := (iw (x17 + bit10))) ti3 rfl rfl rfl rfl hL21 0 rfl rfl f22 q37 rfl q41 ?_)
       have hl14 : x2.length = List.length x19 := by rw [q41, List.length_set]; exact hl13
       intro w20 cs14 (hL22 : vL w w20 [some b8] [zab ([] ++ (cs14 ++ []))]) hS13 hE19 q42
       have hc18 : (cs14 ++ []).length = m1 * (rInt .i64).sz := by have := hc13; rw [List.length_append] at this ⊢; rw [q42]; exact this
       have K22 := ks w hS13
       refine zao (zbr (zah rfl (zaf (zai (v := (zac .i64 bit10)) rfl ?_))))
       refine zaf (OpY.quoI (x := bit10) (y := 2) (z := (iw (Int.tdiv bit10 2))) rfl rfl (by decide) rfl ?_)
       refine zaf (zak (v := (zac .i64 (iw (Int.tdiv bit10 2)))) rfl ?_)
       refine zao ?_
       have f23 := (hE19.mono (K22 None))
       have f24 := (k15.mono (K22 None))
       obtain rfl := zag h
       refine zas ⟨(x19, r13, (iw (Int.tdiv bit10 2))), rfl, ?_⟩
       exact ⟨cs14, v17, _, (zdv ⟨rfl, rfl, rfl, rfl, rfl, rfl, trivial⟩), hL22, (zaq (zaq (zaq (zaq (zaq K14 K15) K19) K20) K21) K22), f23, hl14, hc18, f24, trivial⟩
      ·
       replace h := ite_f hc17 h
       refine zbi (zbr (zah rfl (zaf (zai (v := (zac .i64 bit10)) rfl ?_))))
       refine zaf (OpY.quoI (x := bit10) (y := 2) (z := (iw (Int.tdiv bit10 2))) rfl rfl (by decide) rfl ?_)
       refine zaf (zak (v := (zac .i64 (iw (Int.tdiv bit10 2)))) rfl ?_)
       refine zao ?_
       have f25 := (((hE13.mono (K15 None)).mono (K19 None)).mono (K20 None))
       have f26 := (k14.mono (K20 None))
       obtain rfl := zag h
       refine zas ⟨(q13, x16, (iw (Int.tdiv bit10 2))), rfl, ?_⟩
       exact ⟨cs13, v15, _, (zdv ⟨rfl, rfl, rfl, rfl, rfl, rfl, trivial⟩), hL20, (zaq (zaq (zaq K14 K15) K19) K20), f25, hl13, hc13, f26, trivial⟩
    ·
     replace h := ite_f hc14 h
     refine zcs rfl ?_
     obtain rfl := zag h
     obtain rfl := hd11 _ rfl
     replace h := g11
     try dsimp only at h
     skip
     refine zas ?_
     exact ⟨q13, x13, cs13, v13, _, rfl, (zdv ⟨rfl, rfl, rfl, rfl, rfl, trivial⟩), hL14, K14, hE13, hl13, hc13, k11, trivial⟩
   ·
    rintro _ w21 ⟨q12, x12, cs12, v12, u, rfl, rfl, hL23, K23, hE20, hl15, hc19, k16, -⟩
    replace h := g11
    try dsimp only at h
    refine zbr (zah rfl (zaf (zai (v := (zac .i64 i10)) rfl ?_)))
    refine zaf (zdf (x := i10) (y := 1) (z := (iw (i10 - 1))) rfl rfl rfl ?_)
    refine zaf (zak (v := (zac .i64 (iw (i10 - 1)))) rfl ?_)
    refine zao ?_
    obtain rfl := zag h
    refine zas ⟨(q12, x12, (iw (i10 - 1))), rfl, ?_⟩
    exact ⟨cs12, v12, _, (zdv ⟨rfl, rfl, rfl, rfl, rfl, trivial⟩), hL23, (zaq K13 K23), hE20, hl15, hc19, k16, trivial⟩
  ·
   replace h := ite_f hc12 h
   refine zcs rfl ?_
   obtain rfl := zag h
   obtain rfl := hd10 _ rfl
   replace h := g10
   try dsimp only at h
   skip
   refine zas ?_
   exact ⟨q11, x11, cs11, v11, _, rfl, (zdv ⟨rfl, rfl, trivial⟩), hL13, K13, hE12, hl11, hc11, k10, trivial⟩
 ·
  rintro _ w22 ⟨q10, x10, cs10, v10, u, rfl, rfl, hL24, K24, hE21, hl16, hc20, k17, -⟩
  replace h := g10
  try dsimp only at h
  refine zaj (zah rfl (zaf (zai (v := (osv (some b8) 0 x2.length m1)) rfl ?_)))
  have f27 := hL24.freezeRow 0 rfl rfl hE21 rfl rfl hl16 hc20
  have hp12 := hL24.pick [] rfl rfl rfl
  have hL25 : vL w w22 [] [] := hp12.1
  have K25 := ks w hp12.2
  obtain ⟨r14, q43, h⟩ := zdq h
  refine zaf (zaw en82 rfl rfl (rtrim_w N q10 (osv (some b8) 0 x2.length m1) _ _ (f27.mono Hv.enter) r14 q43) ?_)
  rintro _ w23 hE22 ⟨v18, rfl, k18, -⟩
  replace k18 := k18.mono (Hv.aliasO (S := None) hL25 [])
  have hL26 := hL25.ext hE22
  have K26 := ke hL25 hE22
  refine zaf (zai (v := v10) rfl ?_)
  refine zaf (zak (v := v18) rfl ?_)
  refine zaf (zak (v := v10) rfl ?_)
  refine zao (zbn ?_)
  obtain rfl := zag h
  refine ⟨[v18, v10], ⟨rfl, rfl, trivial⟩, ⟨_, rfl, hL26.done, ?_⟩⟩
  have f28 := ((k17.mono (K25 None)).mono (K26 None))
  exact ⟨v18, v10, rfl, (k18.mono zdh), (f28.mono zdh), trivial⟩
theorem rOf_w (N : Nat) (n : Int)  (w : World) (S : Nat → Prop)  (r : Big) (h : rOf N n = some r) :
  Calls Try.prog 37 #[(zac .i64 n)] w (Ret w (fun v w' => ∃ (v0_0 : Value), (zam #[(zaa r.Negative), v0_0]) = v ∧ Rs (rInt .u32) (vH w None [] w') v0_0 r.Digits ∧ True)) := by
 unfold rOf at h
 have hL : vL w w [] [] := Go.X.Loc.begin0 w
 refine calls_of (l := [(zac .i64 n)]) (rl := [.cell 2 26]) (n := 29) Try.func37 rfl rfl rfl (zae rfl) ?_
 refine zaj (zah rfl (zaf (zbw (cs := [(zaa false), (zad none 0 0)]) ti26 rfl hL ?_)))
 intro b1 w2 hL3 hS5
 refine zao (zaj (zah rfl (zaf (zai (v := (zac .i64 n)) rfl ?_))))
 refine zaf (zbt (x := n) (z := (uw n)) Try.underlying2 zbm rfl rfl ?_)
 refine zaf (zak (v := (zac .u64 (uw n))) rfl ?_)
 refine zao (zaj (zaj (zah rfl (zaf (zai (v := (zac .i64 n)) rfl ?_)))))
 refine zaf (zcr (x := n) (y := 0) ((n : Int) < 0) rfl rfl zbl ?_)
 refine zao ?_
 obtain ⟨s9, h, g10⟩ := zdq h
 refine zbq (fun e w' => ∃ (u8 : Int) (u : Env), u8 = s9 ∧ e = upds [(0, (zac .i64 n)), (2, (zal (some ⟨b1, 0, none⟩))), (3, (zac .u64 u8))] u ∧ vL w w' [some b1] [zab [(zaa false), (zad none 0 0)]] ∧ Keep w.heap.size [some b1] w2 [some b1] w' ∧ True) ?_ ?_
 ·
  refine zbh ((n : Int) < 0) rfl (fun hc10 => ?_) (fun hc10 => ?_)
  ·
   replace h := ite_t hc10 h
   refine zah rfl (zaf (zai (v := (zac .i64 n)) rfl ?_))
   refine zaf (zcf (x := n) (y := 1) (z := (iw (n + 1))) rfl rfl rfl ?_)
   refine zaf (OpY.neg (x := (iw (n + 1))) (z := (iw (0 - (iw (n + 1))))) rfl rfl ?_)
   refine zaf (zbt (x := (iw (0 - (iw (n + 1))))) (z := (uw (iw (0 - (iw (n + 1)))))) Try.underlying2 zbm rfl rfl ?_)
   refine zaf (zcf (x := (uw (iw (0 - (iw (n + 1)))))) (y := 1) (z := (uw ((uw (iw (0 - (iw (n + 1))))) + 1))) rfl rfl rfl ?_)
   refine zaf (zak (v := (zac .u64 (uw ((uw (iw (0 - (iw (n + 1))))) + 1)))) rfl ?_)
   refine zao ?_
   obtain rfl := zag h
   refine zas ?_
   exact ⟨(uw ((uw (iw (0 - (iw (n + 1))))) + 1)), _, rfl, (zdv ⟨rfl, rfl, rfl, trivial⟩), hL3, zbo, trivial⟩
  ·
   replace h := ite_f hc10 h
   refine zbi ?_
   obtain rfl := zag h
   refine zas ?_
   exact ⟨(uw n), _, rfl, (zdv ⟨rfl, rfl, rfl, trivial⟩), hL3, zbo, trivial⟩
 ·
  rintro _ w10 ⟨u8, u, rfl, rfl, hL10, K10, -⟩
  replace h := g10
  try dsimp only at h
  refine zaj (zah rfl (zaf (zdn zba ti3 hL10 ?_)))
  intro b10 w11 hL11 hS10
  have hE10 : Els (rInt .i64) (vH w None [some b1] w10) [] [] := zcv
  have K11 := ks w hS10
  refine zaf (zak (v := (osv (some b10) 0 (List.length ([] : (List Int))) 0)) rfl ?_)
  refine zao (zaj ?_)
  obtain ⟨s10, hl10, g11⟩ := zdq h
  refine zbq (fun e w' => ∃ (l10 : (List Int)) (ob10 : Option Nat) (cap10 : Nat) (sp10 : List Value) (cs10 : List Value) (ln10 : Nat) (u : Env), l10 = s10 ∧ e = upds [(0, (zac .i64 n)), (2, (zal (some ⟨b1, 0, none⟩))), (4, (osv ob10 0 ln10 cap10))] u ∧ vL w w' [some b1, ob10] [zab [(zaa false), (zad none 0 0)], zab ([] ++ (cs10 ++ sp10))] ∧ Keep w.heap.size [some b10, some b1] w11 [some b1, ob10] w' ∧ Els (rInt .i64) (vH w None [some b1, ob10] w') cs10 l10 ∧ ln10 = List.length l10 ∧ (cs10 ++ sp10).length = cap10 * (rInt .i64).sz ∧ True) ?_ ?_
  ·
   refine zbj ?_
   have hp10 := hL11.pick [1, 0] rfl rfl rfl
   have hL12 : vL w w11 [some b1, some b10] [zab [(zaa false), (zad none 0 0)], zab ([] ++ ([] ++ []))] := hp10.1
   have K12 := ks w hp10.2
   have f10 := ((hE10.mono (K11 None)).mono (K12 None))
   refine zci hl10 (fun (ss : (Int × (List Int))) (e : Env) (w' : World) => match ss with | (u10, l11) => ∃ (ob11 : Option Nat) (cap11 : Nat) (sp11 : List Value) (cs11 : List Value) (ln11 : Nat) (u : Env), e = upds [(0, (zac .i64 n)), (2, (zal (some ⟨b1, 0, none⟩))), (3, (zac .u64 u10)), (4, (osv ob11 0 ln11 cap11))] u ∧ vL w w' [some b1, ob11] [zab [(zaa false), (zad none 0 0)], zab ([] ++ (cs11 ++ sp11))] ∧ Keep w.heap.size [some b10, some b1] w11 [some b1, ob11] w' ∧ Els (rInt .i64) (vH w None [some b1, ob11] w') cs11 l11 ∧ ln11 = List.length l11 ∧ (cs11 ++ sp11).length = cap11 * (rInt .i64).sz ∧ True) ⟨some b10, 0, [], [], (List.length ([] : (List Int))), _, (zdv ⟨rfl, rfl, rfl, rfl, trivial⟩), hL12, K12, f10, rfl, (show ([] ++ [] : List Value).length = 0 * (rInt .i64).sz by simp), trivial⟩ ?_
   rintro ⟨u10, l11⟩ oo _ w12 ⟨ob11, cap11, sp11, cs11, ln11, u, rfl, hL13, K13, hE11, rfl, hc11, -⟩ h hd10
   rw [rOf_b1] at h
   refine zaj (zaj (zah rfl (zaf (zai (v := (zac .u64 u10)) rfl ?_))))
   refine zaf (zdo (x := u10) (y := 0) ((u10 : Int) > 0) rfl rfl zbl ?_)
   refine zao ?_
   refine zbh ((u10 : Int) > 0) rfl (fun hc12 => ?_) (fun hc12 => ?_)
   ·
    replace h := ite_t hc12 h
    refine zbi (zbj (zaj (zah rfl (zaf (zai (v := (osv ob11 0 l11.length cap11)) rfl ?_)))))
    refine zaf (zai (v := (zac .u64 u10)) rfl ?_)
    refine zaf (OpY.remI (x := u10) (y := 65536) rfl rfl (by decide) ?_)
    refine zaf (zbt (x := (Int.tmod u10 65536)) (z := (iw (Int.tmod u10 65536))) zbm zbu rfl rfl ?_)
    have hE12 : Els (rInt .i64) (vH w None [some b1, ob11] w12) [(zac .i64 (iw (Int.tmod u10 65536)))] [(iw (Int.tmod u10 65536))] := (zcq (a := [(zac .i64 (iw (Int.tmod u10 65536)))]) rfl zcv)
    refine zaf (zcn (r := (rInt .i64)) (vs := [(zac .i64 (iw (Int.tmod u10 65536)))]) (css := [[(zac .i64 (iw (Int.tmod u10 65536)))]]) (xs := [(iw (Int.tmod u10 65536))]) zba ti3 (zae rfl) rfl rfl ⟨rfl, rfl, trivial⟩ (zae rfl) hE12 rfl hL13 ?_)
    intro b11 w13 hc13 hL14 hS11
    have K14 := ks w hS11
    obtain ⟨x10, q10, h⟩ := zdq h
    obtain ⟨q11, q12, q13⟩ := zed q10
    have f11 := (hE12.mono (K14 None))
    have f12 := (hE11.mono (K14 None))
    refine zaf (zdi (r := (rInt .i64)) (H := (vH w None [some b11, some b1, ob11] w13)) (cs := cs11) (sp := sp11) (xs := l11) (ys := [(iw (Int.tmod u10 65536))]) (Y := x10) (n := l11.length) (cap := cap11) (i := 2) zba ti3 rfl rfl rfl rfl hL14 rfl rfl f12 rfl hc11 (Src.row (pre := []) (o := 0) (n := 1) (cap := 1) (hL14.at 0 rfl rfl) f11 rfl rfl rfl) (Els.anyH (fun _ _ _ _ h => h) f11) q11 q12 q13 ?_)
    intro ob12 cap12 sp12 cs12 w14 hE13 hc14 (hL15 : vL w w14 [some b11, some b1, ob12] [zab ([] ++ ([(zac .i64 (iw (Int.tmod u10 65536)))] ++ [])), zab [(zaa false), (zad none 0 0)], zab ([] ++ (cs12 ++ sp12))]) hS12
    have K15 := ks w hS12
    refine zaf (zak (v := (osv ob12 0 x10.length cap12)) rfl ?_)
    refine zao (zah rfl (zaf (zai (v := (zac .u64 u10)) rfl ?_)))
    refine zaf (OpY.quoI (x := u10) (y := 65536) (z := (uw (Int.tdiv u10 65536))) rfl rfl (by decide) rfl ?_)
    refine zaf (zak (v := (zac .u64 (uw (Int.tdiv u10 65536)))) rfl ?_)
    refine zao (zbr ?_)
    have hp11 := hL15.pick [1, 2] rfl rfl rfl
    have hL16 : vL w w14 [some b1, ob12] [zab [(zaa false), (zad none 0 0)], zab ([] ++ (cs12 ++ sp12))] := hp11.1
    have K16 := ks w hp11.2
    have f13 := ((hE13.mono (K15 None)).mono (K16 None))
    obtain rfl := zag h
    refine zas ⟨((uw (Int.tdiv u10 65536)), x10), rfl, ?_⟩
    exact ⟨ob12, cap12, sp12, cs12, x10.length, _, (zdv ⟨rfl, rfl, rfl, rfl, trivial⟩), hL16, (zaq (zaq (zaq K13 K14) K15) K16), f13, rfl, hc14, trivial⟩
   ·
    replace h := ite_f hc12 h
    refine zcs rfl ?_
    obtain rfl := zag h
    obtain rfl := hd10 _ rfl
    replace h := g11
    try dsimp only at h
    skip
    refine zas ?_
    exact ⟨l11, ob11, cap11, sp11, cs11, l11.length, _, rfl, (zdv ⟨rfl, rfl, rfl, trivial⟩), hL13, K13, hE11, rfl, hc11, trivial⟩
  ·
   rintro _ w15 ⟨l10, ob10, cap10, sp10, cs10, ln10, u, rfl, rfl, hL17, K17, hE14, rfl, hc15, -⟩
   replace h := g11
   try dsimp only at h
   refine zaj (zah rfl (zaf (zai (v := (zac .i64 n)) rfl ?_)))
   refine zaf (zcr (x := n) (y := 0) ((n : Int) < 0) rfl rfl zbl ?_)
   refine zaf (zai (v := (osv ob10 0 l10.length cap10)) rfl ?_)
   obtain ⟨r10, q14, h⟩ := zdq h
   refine zaf (zaw en68 rfl rfl (rbig_w N (decide ((n : Int) < 0)) l10 (osv ob10 0 l10.length cap10) _ Any (zdy (pre := []) (o := 0) (n := l10.length) (cap := cap10) (hL17.at 1 rfl rfl) hE14 vw_any rfl rfl rfl hc15) r10 q14) ?_)
   rintro _ w16 hE15 ⟨v10, rfl, k10, -⟩
   replace k10 := k10.mono (zbd (S := None) hL17 [])
   have hL18 := hL17.ext hE15
   refine zcd (zbk (vs := [(zaa r10.Negative), v10]) ti26 rfl rfl rfl rfl (zds rfl (zds k10.one zdx)) hL18 0 rfl rfl (zae rfl) ?_)
   intro w17 (hL19 : vL w w17 [some b1, ob10] [zab [(zaa r10.Negative), v10], zab ([] ++ (cs10 ++ sp10))]) hS13
   have K18 := ks w hS13
   refine zao (zbn ?_)
   obtain rfl := zag h
   refine ⟨[(zam #[(zaa r10.Negative), v10])], ⟨⟨⟨b1, 0, none⟩, rfl, zeb zan rfl ti26 (hL19.at 0 rfl rfl) rfl⟩, trivial⟩, ⟨_, rfl, hL19.done, ?_⟩⟩
   have f14 := (k10.mono (K18 None))
   exact ⟨v10, rfl, (f14.mono zdh), trivial⟩
theorem rDivFloor_w (N : Nat) (a : Big) (b : Big) (a_v : Value) (b_v : Value) (w : World) (S : Nat → Prop) (a_h : Rs (rInt .u32) (vH w S [] w) a_v a.Digits) (b_h : Rs (rInt .u32) (vH w S [] w) b_v b.Digits) (r : (Big × Big × Bool)) (h : rDivFloor N a b = some r) :
  Calls Try.prog 51 #[(zam #[(zaa a.Negative), a_v]), (zam #[(zaa b.Negative), b_v])] w (Ret w (fun v w' => ∃ (v0_0 : Value) (v1_0 : Value), .tuple #[(zam #[(zaa r.1.Negative), v0_0]), (zam #[(zaa r.2.1.Negative), v1_0]), (zaa r.2.2)] = v ∧ Rs (rInt .u32) (vH w None [] w') v0_0 r.1.Digits ∧ Rs (rInt .u32) (vH w None [] w') v1_0 r.2.1.Digits ∧ True)) := by
 unfold rDivFloor at h
 have hL : vL w w [] [] := Go.X.Loc.begin0 w
 refine calls_of (l := [(zam #[(zaa a.Negative), a_v]), (zam #[(zaa b.Negative), b_v])]) (rl := [.cell 4 26, .cell 5 26, .tmp 6]) (n := 53) Try.func51 rfl rfl rfl (zae rfl) ?_
 refine zaj (zah rfl (zaf (zde (cs := [(zaa a.Negative), a_v]) rfl rfl hL ?_)))
 intro b1 w2 hL3 hS5
 have K4 := ks w hS5
 refine zaf (zde (cs := [(zaa b.Negative), b_v]) rfl rfl hL3 ?_)
 intro b6 w7 hL8 hS10
 have K9 := ks w hS10
 refine zaf (zbw (cs := [(zaa false), (zad none 0 0)]) ti26 rfl hL8 ?_)
 intro b10 w10 hL10 hS11
 have K10 := ks w hS11
 refine zaf (zbw (cs := [(zaa false), (zad none 0 0)]) ti26 rfl hL10 ?_)
 intro b11 w11 hL11 hS12
 have K11 := ks w hS12
 refine zaf (zak (v := (zaa false)) rfl ?_)
 refine zao (zaj (zaj (zah rfl (zaf (zbe (vs := [(zaa b.Negative), b_v]) zan rfl ti26 rfl (hL11.at 2 rfl rfl) rfl rfl ?_)))))
 obtain ⟨r10, q10, h⟩ := zdq h
 have f10 := ((((b_h.mono (K4 S)).mono (K9 S)).mono (K10 S)).mono (K11 S))
 refine zaf (zaw en40 rfl rfl (rSign_w N b b_v _ Any (f10.mono vw_any) r10 q10) ?_)
 rintro _ w12 hE10 ⟨rfl, -⟩
 have hL12 := hL11.ext hE10
 have K12 := ke hL11 hE10
 refine zaf (OpY.eql (x := r10) (y := 0) ((r10 : Int) = 0) rfl rfl zbl ?_)
 refine zao ?_
 refine zbh ((r10 : Int) = 0) rfl (fun hc10 => ?_) (fun hc10 => ?_)
 ·
  replace h := ite_t hc10 h
  refine zaj (zah rfl (zaf (zdb (zc := [(zaa false), (zad none 0 0)]) (cs := [(zaa false), (zad none 0 0)]) (is := []) (vs := []) (css := []) pl26 ti26 rfl rfl rfl trivial rfl ?_)))
  refine zaf (zdb (zc := [(zaa false), (zad none 0 0)]) (cs := [(zaa false), (zad none 0 0)]) (is := []) (vs := []) (css := []) pl26 ti26 rfl rfl rfl trivial rfl ?_)
  refine zcd (zbk (vs := [(zaa false), (zad none 0 0)]) ti26 rfl rfl rfl rfl (zds rfl (zds rfl zdx)) hL12 1 rfl rfl (zae rfl) ?_)
  intro w13 (hL13 : vL w w13 [some b11, some b10, some b6, some b1] [zab [(zaa false), (zad none 0 0)], zab [(zaa false), (zad none 0 0)], zab [(zaa b.Negative), b_v], zab [(zaa a.Negative), a_v]]) hS13
  refine zcd (zbk (vs := [(zaa false), (zad none 0 0)]) ti26 rfl rfl rfl rfl (zds rfl (zds rfl zdx)) hL13 0 rfl rfl (zae rfl) ?_)
  intro w14 (hL14 : vL w w14 [some b11, some b10, some b6, some b1] [zab [(zaa false), (zad none 0 0)], zab [(zaa false), (zad none 0 0)], zab [(zaa b.Negative), b_v], zab [(zaa a.Negative), a_v]]) hS14
  refine zaf (zak (v := (zaa false)) rfl ?_)
  refine zao (zbn ?_)
  obtain rfl := zag h
  refine ⟨[(zam #[(zaa false), (zad none 0 0)]), (zam #[(zaa false), (zad none 0 0)]), (zaa false)], ⟨⟨⟨b10, 0, none⟩, rfl, zeb zan rfl ti26 (hL14.at 1 rfl rfl) rfl⟩, ⟨⟨⟨b11, 0, none⟩, rfl, zeb zan rfl ti26 (hL14.at 0 rfl rfl) rfl⟩, ⟨rfl, trivial⟩⟩⟩, ⟨_, rfl, hL14.done, ?_⟩⟩
  exact ⟨(zad none 0 0), (zad none 0 0), rfl, zdm, zdm, trivial⟩
 ·
  replace h := ite_f hc10 h
  refine zbi (zaj ?_)
  obtain ⟨r11, q11, h⟩ := zdq h
  obtain ⟨r12, q12, h⟩ := zdq h
  obtain ⟨r13, q13, h⟩ := zdq h
  refine zcb 9 [] [] (fun W1 => [.det (zam #[(zaa a.Negative), a_v]), .rel (fun v Z w' => ∃ v10, v10 = v ∧ Rs (rInt .i64) (vZ W1 w None [some b11, some b10, some b6, some b1] Z w') v10 r11 ∧ True) (fun _ => []), .det (zam #[(zaa b.Negative), b_v]), .rel (fun v Z w' => ∃ v11, v11 = v ∧ Rs (rInt .i64) (vZ W1 w None [some b11, some b10, some b6, some b1] Z w') v11 r12 ∧ True) (fun _ => []), .rel (fun v Z w' => ∃ v12 v13, (Value.tuple #[v12, v13]) = v ∧ Rs (rInt .i64) (vZ W1 w None [some b11, some b10, some b6, some b1] Z w') v12 r13.1 ∧ Rs (rInt .i64) (vZ W1 w None [some b11, some b10, some b6, some b1] Z w') v13 r13.2 ∧ True) (fun _ => []), .rel (fun v Z w' => ∃ v14 v15, (Value.tuple #[v14, v15]) = v ∧ Rs (rInt .i64) (vZ W1 w None [some b11, some b10, some b6, some b1] Z w') v14 r13.1 ∧ Rs (rInt .i64) (vZ W1 w None [some b11, some b10, some b6, some b1] Z w') v15 r13.2 ∧ True) (fun _ => []), .fn 5 (tg 0), .fn 5 (tg 1), .rel (fun v Z w' => ∃ v16, v16 = v ∧ Rs (rInt .i64) (vZ W1 w None [some b11, some b10, some b6, some b1] Z w') v16 r13.1 ∧ True) (fun _ => [])]) mixed rfl rfl rfl (fun _ => rfl) (fun _ => rfl) ?_ ?_
  ·
   intro W1 _
   exact ⟨fun v Z Z' w w' hΦ hz _ _ hs => by obtain ⟨v10, rfl, k10, -⟩ := hΦ; exact ⟨v10, rfl, (k10.mono (zcg hz hs)), trivial⟩, ⟨fun v Z Z' w w' hΦ hz _ _ hs => by obtain ⟨v11, rfl, k11, -⟩ := hΦ; exact ⟨v11, rfl, (k11.mono (zcg hz hs)), trivial⟩, ⟨fun v Z Z' w w' hΦ hz _ _ hs => by obtain ⟨v12, v13, rfl, k12, k13, -⟩ := hΦ; exact ⟨v12, v13, rfl, (k12.mono (zcg hz hs)), (k13.mono (zcg hz hs)), trivial⟩, ⟨fun v Z Z' w w' hΦ hz _ _ hs => by obtain ⟨v14, v15, rfl, k14, k15, -⟩ := hΦ; exact ⟨v14, v15, rfl, (k14.mono (zcg hz hs)), (k15.mono (zcg hz hs)), trivial⟩, ⟨fun v Z Z' w w' hΦ hz _ _ hs => by obtain ⟨v16, rfl, k16, -⟩ := hΦ; exact ⟨v16, rfl, (k16.mono (zcg hz hs)), trivial⟩, trivial⟩⟩⟩⟩⟩
  ·
   intro w15 hE11
   have hL15 := hL12.ext hE11
   have K13 := ke hL12 hE11
   refine zat (fun _ hE12 => zau (zbe (vs := [(zaa a.Negative), a_v]) zan rfl ti26 rfl ((hL15.ext hE12).at 3 rfl rfl) rfl rfl (er rfl))) ?_
   refine zch ?_ ?_
   ·
    rintro w17 Z11 hE13 hZ11 ⟨-⟩
    have K14 := ke hL15 hE13
    refine zau (zaw en65 rfl rfl (halves_w N a a_v _ Any ((((((((a_h.mono (K4 S)).mono (K9 S)).mono (K10 S)).mono (K11 S)).mono (K12 S)).mono (K13 S)).mono (K14 S)).mono vw_any) r11 q11) ?_)
    rintro _ w18 hE14 ⟨v10, rfl, k10, -⟩
    exact zce hE14 hZ11 zbv (fun _ h => h) ⟨v10, rfl, (k10.mono zcz), trivial⟩
   intro z1
   refine zat (fun _ hE15 => zau (zbe (vs := [(zaa b.Negative), b_v]) zan rfl ti26 rfl ((hL15.ext hE15).at 2 rfl rfl) rfl rfl (er rfl))) ?_
   refine zch ?_ ?_
   ·
    rintro w20 Z13 hE16 hZ13 ⟨⟨⟨v10, rfl, k10, -⟩, hB1⟩, -⟩
    have K15 := ke hL15 hE16
    refine zau (zaw en65 rfl rfl (halves_w N b b_v _ Any ((((f10.mono (K12 S)).mono (K13 S)).mono (K15 S)).mono vw_any) r12 q12) ?_)
    rintro _ w21 hE17 ⟨v11, rfl, k11, -⟩
    exact zce hE17 hZ13 zbv (fun _ h => h) ⟨v11, rfl, (k11.mono zcz), trivial⟩
   intro z3
   refine zch ?_ ?_
   ·
    rintro w22 Z14 hE18 hZ14 ⟨⟨⟨v11, rfl, k11, -⟩, hB3⟩, ⟨⟨v10, rfl, k10, -⟩, hB1⟩, -⟩
    refine zau (zaw en79 rfl rfl (rsplit_w N r11 r12 v10 v11 _ Any (k10.mono vw_any) (k11.mono vw_any) r13 q13) ?_)
    rintro _ w23 hE19 ⟨v12, v13, rfl, k12, k13, -⟩
    exact zce hE19 hZ14 zbv (fun _ h => h) ⟨v12, v13, rfl, (k12.mono zcz), (k13.mono zcz), trivial⟩
   intro z4
   refine zch ?_ ?_
   ·
    rintro w24 Z15 hE20 hZ15 ⟨⟨⟨v12, v13, rfl, k12, k13, -⟩, hB4⟩, -, -, -⟩
    refine zau (zai (v := (Value.tuple #[v12, v13])) rfl ?_)
    exact Go.X.Made.same ⟨v12, v13, rfl, k12, k13, trivial⟩
   intro z5
   refine DrH.fn rfl ?_ ?_
   ·
    rintro w25 Z16 hE21 hZ16 ⟨⟨⟨v14, v15, rfl, k14, k15, -⟩, hB5⟩, -, -, -, -⟩
    refine zau (zco (vs := [v14, v15]) (v := v14) rfl rfl ?_)
    exact ⟨Ext.refl _, rfl⟩
   refine DrH.fn rfl ?_ ?_
   ·
    rintro w26 Z17 hE22 hZ17 ⟨⟨⟨v14, v15, rfl, k14, k15, -⟩, hB5⟩, -, -, -, -⟩
    refine zau (zco (vs := [v14, v15]) (v := v15) rfl rfl ?_)
    exact ⟨Ext.refl _, rfl⟩
   refine zch ?_ ?_
   ·
    rintro w27 Z18 hE23 hZ18 ⟨⟨⟨v14, v15, rfl, k14, k15, -⟩, hB5⟩, ⟨⟨v12, v13, rfl, k12, k13, -⟩, hB4⟩, ⟨⟨v11, rfl, k11, -⟩, hB3⟩, ⟨⟨v10, rfl, k10, -⟩, hB1⟩, -⟩
    refine zau (zak (v := v14) rfl ?_)
    exact Go.X.Made.same ⟨v14, rfl, k14, trivial⟩
   intro z8
   refine zcj ?_
   rintro w28 Z19 hE24 hZ19 ⟨⟨⟨v16, rfl, k16, -⟩, hB8⟩, ⟨⟨v14, v15, rfl, k14, k15, -⟩, hB5⟩, ⟨⟨v12, v13, rfl, k12, k13, -⟩, hB4⟩, ⟨⟨v11, rfl, k11, -⟩, hB3⟩, ⟨⟨v10, rfl, k10, -⟩, hB1⟩, -⟩ ap10
   have hB10 : ∀ b, some b ∈ ([] : List (Option Nat)) → w15.heap.size ≤ b ∧ ¬ Z19 b := by
    intro b hb; cases hb
   replace k16 := k16.mono (zcx hL15 hZ19 hB10)
   replace k14 := k14.mono (zcx hL15 hZ19 hB10)
   replace k15 := k15.mono (zcx hL15 hZ19 hB10)
   replace k12 := k12.mono (zcx hL15 hZ19 hB10)
   replace k13 := k13.mono (zcx hL15 hZ19 hB10)
   replace k11 := k11.mono (zcx hL15 hZ19 hB10)
   replace k10 := k10.mono (zcx hL15 hZ19 hB10)
   have hL18 := hL15.ext hE24
   have K16 := ke hL15 hE24
   refine zaf (zak (v := v15) rfl ?_)
   refine zao (zaj (zah rfl (zaf (zar (q := 0) zan rfl ti4 rfl rfl rfl ?_))))
   refine zaf (zbb (v := (zaa a.Negative)) zbp rfl rfl (hL18.at 3 rfl rfl) rfl ?_)
   refine zaf (zar (q := 0) zan rfl ti4 rfl rfl rfl ?_)
   refine zaf (zbb (v := (zaa b.Negative)) zbp rfl rfl (hL18.at 2 rfl rfl) rfl ?_)
   refine zaf (OpY.neqBool (x := a.Negative) (y := b.Negative) zbp rfl rfl ?_)
   refine zaf (zai (v := v16) rfl ?_)
   obtain ⟨r14, q14, h⟩ := zdq h
   refine zaf (zaw en68 rfl rfl (rbig_w N (!(a.Negative == b.Negative)) r13.1 v16 _ Any (k16.mono vw_any) r14 q14) ?_)
   rintro _ w29 hE25 ⟨v17, rfl, k17, -⟩
   replace k17 := k17.mono (zbd (S := None) hL18 [])
   have hL19 := hL18.ext hE25
   have K17 := ke hL18 hE25
   refine zaf (zbw (cs := [(zaa false), (zad none 0 0)]) ti26 rfl hL19 ?_)
   intro b12 w30 hL20 hS15
   have K18 := ks w hS15
   have f11 := (k17.mono (K18 None))
   refine zcd (zbk (vs := [(zaa r14.Negative), v17]) ti26 rfl rfl rfl rfl (zds rfl (zds f11.one zdx)) hL20 0 rfl rfl (zae rfl) ?_)
   intro w31 (hL21 : vL w w31 [some b12, some b11, some b10, some b6, some b1] [zab [(zaa r14.Negative), v17], zab [(zaa false), (zad none 0 0)], zab [(zaa false), (zad none 0 0)], zab [(zaa b.Negative), b_v], zab [(zaa a.Negative), a_v]]) hS16
   have K19 := ks w hS16
   refine zao (zaj (zah rfl (zaf (zar (q := 0) zan rfl ti4 rfl rfl rfl ?_))))
   refine zaf (zbb (v := (zaa a.Negative)) zbp rfl rfl (hL21.at 4 rfl rfl) rfl ?_)
   refine zaf (zai (v := v15) rfl ?_)
   obtain ⟨r15, q15, h⟩ := zdq h
   have f12 := (((k15.mono (K17 None)).mono (K18 None)).mono (K19 None))
   refine zaf (zaw en68 rfl rfl (rbig_w N a.Negative r13.2 v15 _ Any (f12.mono vw_any) r15 q15) ?_)
   rintro _ w32 hE26 ⟨v18, rfl, k18, -⟩
   replace k18 := k18.mono (zbd (S := None) hL21 [])
   have hL22 := hL21.ext hE26
   have K20 := ke hL21 hE26
   refine zaf (zbw (cs := [(zaa false), (zad none 0 0)]) ti26 rfl hL22 ?_)
   intro b13 w33 hL23 hS17
   have K21 := ks w hS17
   have f13 := (k18.mono (K21 None))
   refine zcd (zbk (vs := [(zaa r15.Negative), v18]) ti26 rfl rfl rfl rfl (zds rfl (zds f13.one zdx)) hL23 0 rfl rfl (zae rfl) ?_)
   intro w34 (hL24 : vL w w34 [some b13, some b12, some b11, some b10, some b6, some b1] [zab [(zaa r15.Negative), v18], zab [(zaa r14.Negative), v17], zab [(zaa false), (zad none 0 0)], zab [(zaa false), (zad none 0 0)], zab [(zaa b.Negative), b_v], zab [(zaa a.Negative), a_v]]) hS18
   have K22 := ks w hS18
   refine zao (zaj (zaj ?_))
   obtain ⟨s10, h, g10⟩ := zdq h
   refine zbq (fun e w' => ∃ (x10 : Bool) (u : Env), x10 = s10 ∧ e = upds [(3, (zal (some ⟨b6, 0, none⟩))), (4, (zal (some ⟨b10, 0, none⟩))), (5, (zal (some ⟨b11, 0, none⟩))), (9, (zal (some ⟨b12, 0, none⟩))), (10, (zal (some ⟨b13, 0, none⟩))), (44, (zaa x10))] u ∧ vL w w' [some b6, some b10, some b11, some b12, some b13] [zab [(zaa b.Negative), b_v], zab [(zaa false), (zad none 0 0)], zab [(zaa false), (zad none 0 0)], zab [(zaa r14.Negative), v17], zab [(zaa r15.Negative), v18]] ∧ Keep w.heap.size [some b13, some b12, some b11, some b10, some b6, some b1] w34 [some b6, some b10, some b11, some b12, some b13] w' ∧ True) ?_ ?_
   ·
    obtain ⟨r16, q16, h⟩ := zdq h
    by_cases hc11 : (r16 : Int) ≠ 0
    ·
     replace h := ite_t hc11 h
     obtain ⟨r17, q17, h⟩ := zdq h
     refine zcb 7 [] [] (fun W1 => [.det (zam #[(zaa r15.Negative), v18]), .det (zac .i64 r16), .det (zaa (decide ((r16 : Int) ≠ 0))), .det (zaa (decide ((r16 : Int) ≠ 0))), .det (zam #[(zaa r15.Negative), v18]), .det (zac .i64 r17), .det (zam #[(zaa b.Negative), b_v])]) mixed rfl rfl rfl (fun _ => rfl) (fun _ => rfl) ?_ ?_
     ·
      intro W1 _
      exact trivial
     ·
      intro w35 hE27
      have hL25 := hL24.ext hE27
      have K23 := ke hL24 hE27
      refine zat (fun _ hE28 => zau (zbe (vs := [(zaa r15.Negative), v18]) zan rfl ti26 rfl ((hL25.ext hE28).at 0 rfl rfl) rfl rfl (er rfl))) ?_
      refine DrH.det ?_ ?_
      ·
       rintro w37 Z21 hE29 hZ21 ⟨-⟩
       have K24 := ke hL25 hE29
       refine zau (zaw en40 rfl rfl (rSign_w N r15 v18 _ Any ((((f13.mono (K22 None)).mono (K23 None)).mono (K24 None)).mono vw_any) r16 q16) ?_)
       rintro _ w38 hE30 ⟨rfl, -⟩
       exact ⟨hE30, rfl⟩
      refine zat (fun _ _ => zau (OpY.neq (x := r16) (y := 0) ((r16 : Int) ≠ 0) rfl rfl zbl (er rfl))) ?_
      refine zat (fun _ _ => zau (zai rfl (er rfl))) ?_
      refine zat (fun _ hE33 => zda rfl rfl (zdu hc11) (zbe (vs := [(zaa r15.Negative), v18]) zan rfl ti26 rfl ((hL25.ext hE33).at 0 rfl rfl) rfl rfl (er rfl))) ?_
      refine DrH.det ?_ ?_
      ·
       rintro w42 Z25 hE34 hZ25 ⟨-⟩
       have K25 := ke hL25 hE34
       refine zda rfl rfl (zdu hc11) (zaw en40 rfl rfl (rSign_w N r15 v18 _ Any ((((f13.mono (K22 None)).mono (K23 None)).mono (K25 None)).mono vw_any) r17 q17) ?_)
       rintro _ w43 hE35 ⟨rfl, -⟩
       exact ⟨hE35, rfl⟩
      refine zat (fun _ hE36 => zda rfl rfl (zdu hc11) (zbe (vs := [(zaa b.Negative), b_v]) zan rfl ti26 rfl ((hL25.ext hE36).at 4 rfl rfl) rfl rfl (er rfl))) ?_
      refine zcj ?_
      rintro w45 Z27 hE37 hZ27 ⟨-⟩ ap11
      have hB11 : ∀ b, some b ∈ ([] : List (Option Nat)) → w35.heap.size ≤ b ∧ ¬ Z27 b := by
       intro b hb; cases hb
      have hL29 := hL25.ext hE37
      have K26 := ke hL25 hE37
      obtain ⟨r18, q18, h⟩ := zdq h
      have f14 := (((((((((((f10.mono (K12 S)).mono (K13 S)).mono (K16 S)).mono (K17 S)).mono (K18 S)).mono (K19 S)).mono (K20 S)).mono (K21 S)).mono (K22 S)).mono (K23 S)).mono (K26 S))
      refine zby rfl rfl (zdu hc11) (zaw en40 rfl rfl (rSign_w N b b_v _ Any (f14.mono vw_any) r18 q18) ?_)
      rintro _ w46 hE38 ⟨rfl, -⟩
      have hL30 := hL29.ext hE38
      have K27 := ke hL29 hE38
      refine zby rfl rfl (zdu hc11) (OpY.neq (x := r17) (y := r18) ((r17 : Int) ≠ r18) rfl rfl zbl ?_)
      refine zaf (zcm (t := (decide ((r16 : Int) ≠ 0))) (v := (zaa (decide ((r17 : Int) ≠ r18)))) rfl (zdu hc11) rfl ?_)
      refine zao ?_
      have hp10 := hL30.pick [4, 3, 2, 1, 0] rfl rfl rfl
      have hL31 : vL w w46 [some b6, some b10, some b11, some b12, some b13] [zab [(zaa b.Negative), b_v], zab [(zaa false), (zad none 0 0)], zab [(zaa false), (zad none 0 0)], zab [(zaa r14.Negative), v17], zab [(zaa r15.Negative), v18]] := hp10.1
      have K28 := ks w hp10.2
      obtain rfl := zag h
      refine zas ?_
      exact ⟨(decide ((r17 : Int) ≠ r18)), _, rfl, (zdv ⟨rfl, rfl, rfl, rfl, rfl, rfl, trivial⟩), hL31, (zaq (zaq (zaq K23 K26) K27) K28), trivial⟩
    ·
     replace h := ite_f hc11 h
     refine zcb 7 [] [] (fun W1 => [.det (zam #[(zaa r15.Negative), v18]), .det (zac .i64 r16), .det (zaa (decide ((r16 : Int) ≠ 0))), .det (zaa (decide ((r16 : Int) ≠ 0))), .det undef, .det undef, .det undef]) mixed rfl rfl rfl (fun _ => rfl) (fun _ => rfl) ?_ ?_
     ·
      intro W1 _
      exact trivial
     ·
      intro w47 hE39
      have hL32 := hL24.ext hE39
      have K29 := ke hL24 hE39
      refine zat (fun _ hE40 => zau (zbe (vs := [(zaa r15.Negative), v18]) zan rfl ti26 rfl ((hL32.ext hE40).at 0 rfl rfl) rfl rfl (er rfl))) ?_
      refine DrH.det ?_ ?_
      ·
       rintro w49 Z29 hE41 hZ29 ⟨-⟩
       have K30 := ke hL32 hE41
       refine zau (zaw en40 rfl rfl (rSign_w N r15 v18 _ Any ((((f13.mono (K22 None)).mono (K29 None)).mono (K30 None)).mono vw_any) r16 q16) ?_)
       rintro _ w50 hE42 ⟨rfl, -⟩
       exact ⟨hE42, rfl⟩
      refine zat (fun _ _ => zau (OpY.neq (x := r16) (y := 0) ((r16 : Int) ≠ 0) rfl rfl zbl (er rfl))) ?_
      refine zat (fun _ _ => zau (zai rfl (er rfl))) ?_
      refine zat (fun _ _ => zdk rfl rfl (zdr hc11) (er rfl)) ?_
      refine zat (fun _ _ => zdk rfl rfl (zdr hc11) (er rfl)) ?_
      refine zat (fun _ _ => zdk rfl rfl (zdr hc11) (er rfl)) ?_
      refine zcj ?_
      rintro w56 Z35 hE48 hZ35 ⟨-⟩ ap12
      have hB12 : ∀ b, some b ∈ ([] : List (Option Nat)) → w47.heap.size ≤ b ∧ ¬ Z35 b := by
       intro b hb; cases hb
      have hL34 := hL32.ext hE48
      have K31 := ke hL32 hE48
      refine zbx rfl rfl (zdr hc11) ?_
      refine zbx rfl rfl (zdr hc11) ?_
      refine zaf (zca (t := (decide ((r16 : Int) ≠ 0))) (v := (zaa false)) rfl (zdr hc11) rfl ?_)
      refine zao ?_
      have hp11 := hL34.pick [4, 3, 2, 1, 0] rfl rfl rfl
      have hL35 : vL w w56 [some b6, some b10, some b11, some b12, some b13] [zab [(zaa b.Negative), b_v], zab [(zaa false), (zad none 0 0)], zab [(zaa false), (zad none 0 0)], zab [(zaa r14.Negative), v17], zab [(zaa r15.Negative), v18]] := hp11.1
      have K32 := ks w hp11.2
      obtain rfl := zag h
      refine zas ?_
      exact ⟨false, _, rfl, (zdv ⟨rfl, rfl, rfl, rfl, rfl, rfl, trivial⟩), hL35, (zaq (zaq K29 K31) K32), trivial⟩
   ·
    rintro _ w57 ⟨x10, u, rfl, rfl, hL36, K33, -⟩
    replace h := g10
    try dsimp only at h
    obtain ⟨s11, h, g11⟩ := zdq h
    refine zbq (fun e w' => ∃ (q19 : Big) (x11 : Big) (v19 : Value) (v20 : Value) (u : Env), (q19, x11) = s11 ∧ e = upds [(4, (zal (some ⟨b10, 0, none⟩))), (5, (zal (some ⟨b11, 0, none⟩))), (9, (zal (some ⟨b12, 0, none⟩))), (10, (zal (some ⟨b13, 0, none⟩)))] u ∧ vL w w' [some b10, some b11, some b12, some b13] [zab [(zaa false), (zad none 0 0)], zab [(zaa false), (zad none 0 0)], zab [(zaa q19.Negative), v19], zab [(zaa x11.Negative), v20]] ∧ Keep w.heap.size [some b6, some b10, some b11, some b12, some b13] w57 [some b10, some b11, some b12, some b13] w' ∧ Rs (rInt .u32) (vH w None [some b10, some b11, some b12, some b13] w') v19 q19.Digits ∧ Rs (rInt .u32) (vH w None [some b10, some b11, some b12, some b13] w') v20 x11.Digits ∧ True) ?_ ?_
    ·
     refine zcu x10 rfl (fun hc12 => ?_) (fun hc12 => ?_)
     ·
      replace h := ite_t hc12 h
      obtain ⟨r19, q20, h⟩ := zdq h
      obtain ⟨r20, q21, h⟩ := zdq h
      refine zcb 5 [] [] (fun W1 => [.det (zam #[(zaa r14.Negative), v17]), .rel (fun v Z w' => ∃ v21, (zam #[(zaa r19.Negative), v21]) = v ∧ Rs (rInt .u32) (vZ W1 w None [some b6, some b10, some b11, some b12, some b13] Z w') v21 r19.Digits ∧ True) (fun _ => []), .rel (fun v Z w' => ∃ v22, (zam #[(zaa r20.Negative), v22]) = v ∧ Rs (rInt .u32) (vZ W1 w None [some b6, some b10, some b11, some b12, some b13] Z w') v22 r20.Digits ∧ True) (fun _ => []), .det (zam #[(zaa r15.Negative), v18]), .det (zam #[(zaa b.Negative), b_v])]) mixed rfl rfl rfl (fun _ => rfl) (fun _ => rfl) ?_ ?_
      ·
       intro W1 _
       exact ⟨fun v Z Z' w w' hΦ hz _ _ hs => by obtain ⟨v21, rfl, k19, -⟩ := hΦ; exact ⟨v21, rfl, (k19.mono (zcg hz hs)), trivial⟩, ⟨fun v Z Z' w w' hΦ hz _ _ hs => by obtain ⟨v22, rfl, k20, -⟩ := hΦ; exact ⟨v22, rfl, (k20.mono (zcg hz hs)), trivial⟩, trivial⟩⟩
      ·
       intro w58 hE49
       have hL37 := hL36.ext hE49
       have K34 := ke hL36 hE49
       refine zat (fun _ hE50 => zau (zbe (vs := [(zaa r14.Negative), v17]) zan rfl ti26 rfl ((hL37.ext hE50).at 3 rfl rfl) rfl rfl (er rfl))) ?_
       refine zch ?_ ?_
       ·
        rintro w60 Z37 hE51 hZ37 ⟨-⟩
        refine zau (zaw en37 rfl rfl (rOf_w N 1 _ Any r19 q20) ?_)
        rintro _ w61 hE52 ⟨v21, rfl, k19, -⟩
        exact zce hE52 hZ37 zbv (fun _ h => h) ⟨v21, rfl, (k19.mono zcz), trivial⟩
       intro z1
       refine zch ?_ ?_
       ·
        rintro w62 Z38 hE53 hZ38 ⟨⟨⟨v21, rfl, k19, -⟩, hB1⟩, -⟩
        have K35 := ke hL37 hE53
        refine zau (zaw en61 rfl rfl (rSub_w N r14 r19 v17 v21 _ Any ((((((((f11.mono (K19 None)).mono (K20 None)).mono (K21 None)).mono (K22 None)).mono (K33 None)).mono (K34 None)).mono (K35 None)).mono vw_any) (k19.mono vw_any) r20 q21) ?_)
        rintro _ w63 hE54 ⟨v22, rfl, k20, -⟩
        exact zce hE54 hZ38 zbv (fun _ h => h) ⟨v22, rfl, (k20.mono zcz), trivial⟩
       intro z2
       refine zat (fun _ hE55 => zau (zbe (vs := [(zaa r15.Negative), v18]) zan rfl ti26 rfl ((hL37.ext hE55).at 4 rfl rfl) rfl rfl (er rfl))) ?_
       refine zat (fun _ hE56 => zau (zbe (vs := [(zaa b.Negative), b_v]) zan rfl ti26 rfl ((hL37.ext hE56).at 0 rfl rfl) rfl rfl (er rfl))) ?_
       refine zcj ?_
       rintro w66 Z41 hE57 hZ41 ⟨⟨⟨v22, rfl, k20, -⟩, hB2⟩, ⟨⟨v21, rfl, k19, -⟩, hB1⟩, -⟩ ap13
       have hB13 : ∀ b, some b ∈ ([] : List (Option Nat)) → w58.heap.size ≤ b ∧ ¬ Z41 b := by
        intro b hb; cases hb
       replace k20 := k20.mono (zcx hL37 hZ41 hB13)
       replace k19 := k19.mono (zcx hL37 hZ41 hB13)
       have hL41 := hL37.ext hE57
       have K36 := ke hL37 hE57
       obtain ⟨r21, q22, h⟩ := zdq h
       have f15 := ((((f13.mono (K22 None)).mono (K33 None)).mono (K34 None)).mono (K36 None))
       have f16 := ((((((((((((f10.mono (K12 S)).mono (K13 S)).mono (K16 S)).mono (K17 S)).mono (K18 S)).mono (K19 S)).mono (K20 S)).mono (K21 S)).mono (K22 S)).mono (K33 S)).mono (K34 S)).mono (K36 S))
       refine zaf (zaw en38 rfl rfl (rAdd_w N r15 b v18 b_v _ Any (f15.mono vw_any) (f16.mono vw_any) r21 q22) ?_)
       rintro _ w67 hE58 ⟨v23, rfl, k21, -⟩
       replace k21 := k21.mono (zbd (S := None) hL41 [])
       have hL42 := hL41.ext hE58
       have K37 := ke hL41 hE58
       have f17 := (k20.mono (K37 None))
       refine zcd (zbk (vs := [(zaa r20.Negative), v22]) ti26 rfl rfl rfl rfl (zds rfl (zds f17.one zdx)) hL42 3 rfl rfl (zae rfl) ?_)
       intro w68 (hL43 : vL w w68 [some b6, some b10, some b11, some b12, some b13] [zab [(zaa b.Negative), b_v], zab [(zaa false), (zad none 0 0)], zab [(zaa false), (zad none 0 0)], zab [(zaa r20.Negative), v22], zab [(zaa r15.Negative), v18]]) hS19
       have K38 := ks w hS19
       have f18 := (k21.mono (K38 None))
       refine zcd (zbk (vs := [(zaa r21.Negative), v23]) ti26 rfl rfl rfl rfl (zds rfl (zds f18.one zdx)) hL43 4 rfl rfl (zae rfl) ?_)
       intro w69 (hL44 : vL w w69 [some b6, some b10, some b11, some b12, some b13] [zab [(zaa b.Negative), b_v], zab [(zaa false), (zad none 0 0)], zab [(zaa false), (zad none 0 0)], zab [(zaa r20.Negative), v22], zab [(zaa r21.Negative), v23]]) hS20
       have K39 := ks w hS20
       refine zao ?_
       have hp12 := hL44.pick [1, 2, 3, 4] rfl rfl rfl
       have hL45 : vL w w69 [some b10, some b11, some b12, some b13] [zab [(zaa false), (zad none 0 0)], zab [(zaa false), (zad none 0 0)], zab [(zaa r20.Negative), v22], zab [(zaa r21.Negative), v23]] := hp12.1
       have K40 := ks w hp12.2
       have f19 := (((f17.mono (K38 None)).mono (K39 None)).mono (K40 None))
       have f20 := ((f18.mono (K39 None)).mono (K40 None))
       obtain rfl := zag h
       refine zas ?_
       exact ⟨r20, r21, v22, v23, _, rfl, (zdv ⟨rfl, rfl, rfl, rfl, trivial⟩), hL45, (zaq (zaq (zaq (zaq (zaq K34 K36) K37) K38) K39) K40), f19, f20, trivial⟩
     ·
      replace h := ite_f hc12 h
      refine zbi ?_
      have hp13 := hL36.pick [1, 2, 3, 4] rfl rfl rfl
      have hL46 : vL w w57 [some b10, some b11, some b12, some b13] [zab [(zaa false), (zad none 0 0)], zab [(zaa false), (zad none 0 0)], zab [(zaa r14.Negative), v17], zab [(zaa r15.Negative), v18]] := hp13.1
      have K41 := ks w hp13.2
      have f21 := ((((((f11.mono (K19 None)).mono (K20 None)).mono (K21 None)).mono (K22 None)).mono (K33 None)).mono (K41 None))
      have f22 := (((f13.mono (K22 None)).mono (K33 None)).mono (K41 None))
      obtain rfl := zag h
      refine zas ?_
      exact ⟨r14, r15, v17, v18, _, rfl, (zdv ⟨rfl, rfl, rfl, rfl, trivial⟩), hL46, K41, f21, f22, trivial⟩
    ·
     rintro _ w70 ⟨q19, x11, v19, v20, u, rfl, rfl, hL47, K42, k22, k23, -⟩
     replace h := g11
     try dsimp only at h
     refine zaj ?_
     refine zcb 2 [] [1] (fun W1 => [.det (zam #[(zaa q19.Negative), v19]), .det (zam #[(zaa x11.Negative), v20])]) mixed rfl rfl rfl (fun _ => rfl) (fun _ => rfl) ?_ ?_
     ·
      intro W1 _
      exact trivial
     ·
      intro w71 hE59
      have hL48 := hL47.ext hE59
      have K43 := ke hL47 hE59
      refine zat (fun _ hE60 => zau (zbe (vs := [(zaa q19.Negative), v19]) zan rfl ti26 rfl ((hL48.ext hE60).at 2 rfl rfl) rfl rfl (er rfl))) ?_
      refine zat (fun _ hE61 => zau (zbe (vs := [(zaa x11.Negative), v20]) zan rfl ti26 rfl ((hL48.ext hE61).at 3 rfl rfl) rfl rfl (er rfl))) ?_
      refine DrH.fin ?_
      rintro w74 Z44 hE62 hZ44 ⟨-⟩ ap14
      have hB14 : ∀ b, some b ∈ ([] : List (Option Nat)) → w71.heap.size ≤ b ∧ ¬ Z44 b := by
       intro b hb; cases hb
      have hL51 := hL48.ext hE62
      have K44 := ke hL48 hE62
      have f23 := ((k22.mono (K43 None)).mono (K44 None))
      refine RlL.op0 (zbk (vs := [(zaa q19.Negative), v19]) ti26 rfl rfl rfl rfl (zds rfl (zds f23.one zdx)) hL51 0 rfl rfl (zae rfl) ?_)
      intro w75 (hL52 : vL w w75 [some b10, some b11, some b12, some b13] [zab [(zaa q19.Negative), v19], zab [(zaa false), (zad none 0 0)], zab [(zaa q19.Negative), v19], zab [(zaa x11.Negative), v20]]) hS21
      have K45 := ks w hS21
      refine ⟨?_, ?_⟩
      ·
       refine LateP.cons (i := 1) rfl rfl (zau (zbe (vs := [(zaa x11.Negative), v20]) zan rfl ti26 rfl (hL52.at 3 rfl rfl) rfl rfl ⟨rfl, rfl⟩)) ?_
       exact LateP.nil
      have f24 := (((k23.mono (K43 None)).mono (K44 None)).mono (K45 None))
      refine RlL.op0 (zbk (vs := [(zaa x11.Negative), v20]) ti26 rfl rfl rfl rfl (zds rfl (zds f24.one zdx)) hL52 1 rfl rfl (zae rfl) ?_)
      intro w76 (hL53 : vL w w76 [some b10, some b11, some b12, some b13] [zab [(zaa q19.Negative), v19], zab [(zaa x11.Negative), v20], zab [(zaa q19.Negative), v19], zab [(zaa x11.Negative), v20]]) hS22
      have K46 := ks w hS22
      refine ⟨?_, ?_⟩
      ·
       exact LateP.nil
      refine RlL_nil ?_
      refine zaf (zak (v := (zaa true)) rfl ?_)
      refine zao (zbn ?_)
      obtain rfl := zag h
      refine ⟨[(zam #[(zaa q19.Negative), v19]), (zam #[(zaa x11.Negative), v20]), (zaa true)], ⟨⟨⟨b10, 0, none⟩, rfl, zeb zan rfl ti26 (hL53.at 0 rfl rfl) rfl⟩, ⟨⟨⟨b11, 0, none⟩, rfl, zeb zan rfl ti26 (hL53.at 1 rfl rfl) rfl⟩, ⟨rfl, trivial⟩⟩⟩, ⟨_, rfl, hL53.done, ?_⟩⟩
      have f25 := ((f23.mono (K45 None)).mono (K46 None))
      have f26 := (f24.mono (K46 None))
      exact ⟨v19, v20, rfl, (f25.mono zdh), (f26.mono zdh), trivial⟩
end Go.Proofs.Ytakkacdhlocckaa.WR

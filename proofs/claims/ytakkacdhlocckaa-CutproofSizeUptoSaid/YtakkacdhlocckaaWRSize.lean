/- Walks, written by a program of mine (wip/tool); the kernel checks them. -/
import Derived.Test.YtakkacdhlocckaaProg
import Derived.Test.YtakkacdhlocckaaSqSize
import Derived.Test.YtakkacdhlocckaaPR
import Derived.Test.YtakkacdhlocckaaWASize
set_option maxRecDepth 100000
set_option maxHeartbeats 4000000
set_option linter.unusedVariables false
namespace Go.Proofs.Ytakkacdhlocckaa.WR
open Go Go.RowKit Go.X Go.D Go.Proofs.Ytakkacdhlocckaa.WA
theorem ti3 : TI Try.prog 3 1 8 (zab .i64 0) := TI.mk (by kernel_rfl)
theorem ti24 : TI Try.prog 24 1 24 (zad none 0 0) := TI.mk (by kernel_rfl)
theorem en82 : Enters Try.prog 82 := ⟨Try.f82, Try.func82, by kernel_rfl, by kernel_rfl⟩
theorem ti4 : TI Try.prog 4 1 1 (zaa false) := TI.mk (by kernel_rfl)
theorem en65 : Enters Try.prog 65 := ⟨Try.f65, Try.func65, by kernel_rfl, by kernel_rfl⟩
theorem en68 : Enters Try.prog 68 := ⟨Try.f68, Try.func68, by kernel_rfl, by kernel_rfl⟩
theorem en40 : Enters Try.prog 40 := ⟨Try.f40, Try.func40, by kernel_rfl, by kernel_rfl⟩
theorem en64 : Enters Try.prog 64 := ⟨Try.f64, Try.func64, by kernel_rfl, by kernel_rfl⟩
theorem en37 : Enters Try.prog 37 := ⟨Try.f37, Try.func37, by kernel_rfl, by kernel_rfl⟩
theorem rtrim_w (N : Nat) (l : (List Int)) (l_v : Value) (w : World) (S : Nat → Prop) (l_h : Rs (rInt .i64) (vH w S [] w) l_v l) (r : (List Int)) (h : rtrim N l = some r) :
  Calls Try.prog 82 #[l_v] w (Ret w (fun v w' => ∃ (v0_0 : Value), v0_0 = v ∧ Rs (rInt .i64) (vH w S [] w') v0_0 r ∧ True)) := by
 unfold rtrim at h
 have hL : vL w w [] [] := Go.X.Loc.begin0 w
 refine calls_of (l := [l_v]) (rl := [.tmp 2]) (n := 21) Try.func82 rfl rfl rfl (zae rfl) ?_
 refine zaj (zah rfl (zaf (zal (v := (zad none 0 0)) rfl ?_)))
 refine zar (zaj ?_)
 obtain ⟨s10, hl10, g10⟩ := zdp h
 refine zca (fun e w' => ∃ (l10 : (List Int)) (v10 : Value) (u : Env), l10 = s10 ∧ e = upds [(0, v10)] u ∧ vL w w' [] [] ∧ Keep w.heap.size [] w [] w' ∧ Rs (rInt .i64) (vH w S [] w') v10 l10 ∧ True) ?_ ?_
 ·
  refine zbm ?_
  refine zcl hl10 (fun (ss : (List Int)) (e : Env) (w' : World) => match ss with | l11 => ∃ (v11 : Value) (u : Env), e = upds [(0, v11)] u ∧ vL w w' [] [] ∧ Keep w.heap.size [] w [] w' ∧ Rs (rInt .i64) (vH w S [] w') v11 l11 ∧ True) ⟨l_v, _, (zdt ⟨rfl, trivial⟩), hL, zcb, l_h, trivial⟩ ?_
  rintro l11 oo _ w10 ⟨v11, u, rfl, hL10, K10, k10, -⟩ h hd10
  rw [rtrim_b1] at h
  refine zaj (zaj ?_)
  obtain ⟨s11, h, g11⟩ := zdp h
  refine zca (fun e w' => ∃ (x10 : Bool) (u : Env), x10 = s11 ∧ e = upds [(0, v11), (14, (zaa x10))] u ∧ vL w w' [] [] ∧ Keep w.heap.size [] w10 [] w' ∧ True) ?_ ?_
  ·
   refine zah rfl (zaf (zai (v := v11) rfl ?_))
   refine zaf (zba (v := v11) zbt rfl k10 ?_)
   refine zaf (zdn (x := (l11.length : Int)) (y := 0) (((l11.length : Int) : Int) > 0) rfl rfl zbf ?_)
   refine zaf (zai (v := (zaa (decide (((l11.length : Int) : Int) > 0)))) rfl ?_)
   by_cases hc10 : ((l11.length : Int) : Int) > 0
   ·
    replace h := ite_t hc10 h
    refine zcc rfl rfl (zdr hc10) (zai (v := v11) rfl ?_)
    refine zcc rfl rfl (zdr hc10) (zai (v := v11) rfl ?_)
    refine zcc rfl rfl (zdr hc10) (zba (v := v11) zbt rfl k10 ?_)
    refine zcc rfl rfl (zdr hc10) (zdg (x := (l11.length : Int)) (y := 1) (z := (iw ((l11.length : Int) - 1))) rfl rfl rfl ?_)
    obtain ⟨x11, q10, h⟩ := zdp h
    obtain ⟨n10, q11, q12⟩ := zdu q10
    obtain ⟨b10, o10, c10, vs10, q13, q14, f10, q15⟩ := zdb k10 q12
    obtain rfl := q15
    refine zcc rfl rfl (zdr hc10) (zbw (r := (rInt .i64)) (v := v11) (n := n10) (m := (o10 + n10 * (rInt .i64).sz)) zbt ti3 rfl q13 rfl q11 q12 rfl ?_)
    refine zcc rfl rfl (zdr hc10) (zcp (v := (zab .i64 x11)) zby rfl rfl zdy f10 ?_)
    refine zcc rfl rfl (zdr hc10) (OpY.eql (x := x11) (y := 0) ((x11 : Int) = 0) rfl rfl zbf ?_)
    refine zaf (zbu (t := (decide (((l11.length : Int) : Int) > 0))) (v := (zaa (decide ((x11 : Int) = 0)))) rfl (zdr hc10) rfl ?_)
    refine zar ?_
    obtain rfl := zag h
    refine zau ?_
    exact ⟨(decide ((x11 : Int) = 0)), _, rfl, (zdt ⟨rfl, rfl, trivial⟩), hL10, zcb, trivial⟩
   ·
    replace h := ite_f hc10 h
    refine zbx rfl rfl (zdo hc10) ?_
    refine zbx rfl rfl (zdo hc10) ?_
    refine zbx rfl rfl (zdo hc10) ?_
    refine zbx rfl rfl (zdo hc10) ?_
    refine zbx rfl rfl (zdo hc10) ?_
    refine zbx rfl rfl (zdo hc10) ?_
    refine zbx rfl rfl (zdo hc10) ?_
    refine zaf (zbo (t := (decide (((l11.length : Int) : Int) > 0))) (v := (zaa false)) rfl (zdo hc10) rfl ?_)
    refine zar ?_
    obtain rfl := zag h
    refine zau ?_
    exact ⟨false, _, rfl, (zdt ⟨rfl, rfl, trivial⟩), hL10, zcb, trivial⟩
  ·
   rintro _ w11 ⟨x10, u, rfl, rfl, hL11, K11, -⟩
   replace h := g11
   try dsimp only at h
   refine zcu x10 rfl (fun hc11 => ?_) (fun hc11 => ?_)
   ·
    replace h := ite_t hc11 h
    refine zbl (zbm (zah rfl (zaf (zai (v := v11) rfl ?_))))
    refine zaf (zai (v := v11) rfl ?_)
    have f11 := (k10.mono (K11 S))
    refine zaf (zba (v := v11) zbt rfl f11 ?_)
    refine zaf (zdg (x := (l11.length : Int)) (y := 1) (z := (iw ((l11.length : Int) - 1))) rfl rfl rfl ?_)
    obtain ⟨x12, q16, h⟩ := zdp h
    obtain ⟨m10, n11, q17, q18, q19, q20, q21⟩ := cut_some q16
    refine zaf (OpY.cutRoX (l := m10) (h' := n11) zbt ti3 rfl f11 (.inl ⟨rfl, by omega⟩) (.inr ⟨_, _, rfl, by rw [← q18]; rfl⟩) q19 q20 q21 ?_)
    intro v12 k11
    refine zaf (zal (v := v12) rfl ?_)
    refine zar (zbz ?_)
    obtain rfl := zag h
    refine zau ⟨x12, rfl, ?_⟩
    exact ⟨v12, _, (zdt ⟨rfl, trivial⟩), hL11, (zat K10 K11), k11, trivial⟩
   ·
    replace h := ite_f hc11 h
    refine zcs rfl ?_
    have f12 := (k10.mono (K11 S))
    obtain rfl := zag h
    obtain rfl := hd10 _ rfl
    replace h := g10
    try dsimp only at h
    skip
    refine zau ?_
    exact ⟨l11, v11, _, rfl, (zdt ⟨rfl, trivial⟩), hL11, (zat K10 K11), f12, trivial⟩
 ·
  rintro _ w12 ⟨l10, v10, u, rfl, rfl, hL12, K12, k12, -⟩
  replace h := g10
  try dsimp only at h
  refine zaj (zah rfl (zaf (zai (v := v10) rfl ?_)))
  refine zaf (zal (v := v10) rfl ?_)
  refine zar (zbn ?_)
  obtain rfl := zag h
  refine ⟨[v10], ⟨rfl, trivial⟩, ⟨_, rfl, hL12.done, ?_⟩⟩
  exact ⟨v10, rfl, (k12.mono zdm), trivial⟩
theorem halves_w (N : Nat) (x : Big) (x_v : Value) (w : World) (S : Nat → Prop) (x_h : Rs (rInt .u32) (vH w S [] w) x_v x.Digits) (r : (List Int)) (h : halves N x = some r) :
  Calls Try.prog 65 #[(zaq #[(zaa x.Negative), x_v])] w (Ret w (fun v w' => ∃ (v0_0 : Value), v0_0 = v ∧ Rs (rInt .i64) (vH w None [] w') v0_0 r ∧ True)) := by
 unfold halves at h
 have hL : vL w w [] [] := Go.X.Loc.begin0 w
 refine calls_of (l := [(zaq #[(zaa x.Negative), x_v])]) (rl := [.tmp 2]) (n := 32) Try.func65 rfl rfl rfl (zae rfl) ?_
 refine zaj (zah rfl (zaf (zdh (cs := [(zaa x.Negative), x_v]) rfl rfl hL ?_)))
 intro b1 w2 hL3 hS5
 have K4 := ks w hS5
 refine zaf (zal (v := (zad none 0 0)) rfl ?_)
 refine zar (zaj (zah rfl (zaf (OpY.litRow0 zbt ti3 hL3 ?_))))
 intro b6 w10 hL10 hS10
 have hE10 : Els (rInt .i64) (vH w None [some b1] w2) [] [] := zcy
 have K10 := ks w hS10
 refine zaf (zal (v := (osv (some b6) 0 (List.length ([] : (List Int))) 0)) rfl ?_)
 refine zar (zaj (zaj (zah rfl (zaf (zal (v := (zab .i64 0)) rfl ?_)))))
 refine zar ?_
 obtain ⟨s10, hl10, g10⟩ := zdp h
 refine zca (fun e w' => ∃ (l10 : (List Int)) (ob10 : Option Nat) (cap10 : Nat) (sp10 : List Value) (cs10 : List Value) (ln10 : Nat) (u : Env), l10 = s10 ∧ e = upds [(3, (osv ob10 0 ln10 cap10))] u ∧ vL w w' [ob10] [zac ([] ++ (cs10 ++ sp10))] ∧ Keep w.heap.size [some b6, some b1] w10 [ob10] w' ∧ Els (rInt .i64) (vH w None [ob10] w') cs10 l10 ∧ ln10 = List.length l10 ∧ (cs10 ++ sp10).length = cap10 * (rInt .i64).sz ∧ True) ?_ ?_
 ·
  refine zbm ?_
  have hp10 := hL10.pick [1, 0] rfl rfl rfl
  have hL11 : vL w w10 [some b1, some b6] [zac [(zaa x.Negative), x_v], zac ([] ++ ([] ++ []))] := hp10.1
  have K11 := ks w hp10.2
  have f10 := ((hE10.mono (K10 None)).mono (K11 None))
  refine zcl hl10 (fun (ss : ((List Int) × Int)) (e : Env) (w' : World) => match ss with | (l11, i10) => ∃ (ob11 : Option Nat) (cap11 : Nat) (sp11 : List Value) (cs11 : List Value) (ln11 : Nat) (u : Env), e = upds [(1, (zan (some ⟨b1, 0, none⟩))), (3, (osv ob11 0 ln11 cap11)), (4, (zab .i64 i10))] u ∧ vL w w' [some b1, ob11] [zac [(zaa x.Negative), x_v], zac ([] ++ (cs11 ++ sp11))] ∧ Keep w.heap.size [some b6, some b1] w10 [some b1, ob11] w' ∧ Els (rInt .i64) (vH w None [some b1, ob11] w') cs11 l11 ∧ ln11 = List.length l11 ∧ (cs11 ++ sp11).length = cap11 * (rInt .i64).sz ∧ True) ⟨some b6, 0, [], [], (List.length ([] : (List Int))), _, (zdt ⟨rfl, rfl, rfl, trivial⟩), hL11, K11, f10, rfl, (show ([] ++ [] : List Value).length = 0 * (rInt .i64).sz by simp), trivial⟩ ?_
  rintro ⟨l11, i10⟩ oo _ w11 ⟨ob11, cap11, sp11, cs11, ln11, u, rfl, hL12, K12, hE11, rfl, hc10, -⟩ h hd10
  rw [halves_b1] at h
  refine zaj (zaj (zah rfl (zaf (zai (v := (zab .i64 i10)) rfl ?_))))
  refine zaf (zap (q := 1) zao rfl ti24 rfl rfl rfl ?_)
  refine zaf (zax (v := x_v) zam rfl rfl (hL12.at 0 rfl rfl) rfl ?_)
  have f11 := (((x_h.mono (K4 S)).mono (K10 S)).mono (K12 S))
  refine zaf (zba (v := x_v) zam rfl f11 ?_)
  refine zaf (zcv (x := i10) (y := (x.Digits.length : Int)) ((i10 : Int) < (x.Digits.length : Int)) rfl rfl zbf ?_)
  refine zar ?_
  refine zbk ((i10 : Int) < (x.Digits.length : Int)) rfl (fun hc11 => ?_) (fun hc11 => ?_)
  ·
   replace h := ite_t hc11 h
   refine zbl (zaj (zbm ?_))
   obtain ⟨x10, q10, h⟩ := zdp h
   obtain ⟨n10, q11, q12⟩ := zdu q10
   obtain ⟨b10, o10, c10, vs10, q13, q14, f12, q15⟩ := zdb f11 q12
   obtain rfl := q15
   obtain ⟨x11, q16, h⟩ := zdp h
   obtain ⟨n11, q17, q18⟩ := zdu q16
   obtain ⟨b11, o11, c11, vs11, q19, q20, f13, q21⟩ := zdb f11 q18
   obtain rfl := q21
   refine zcg 16 [] [] (fun W1 => [.det (osv ob11 0 l11.length cap11), .det (zan (some ⟨b1, 1, none⟩)), .det x_v, .det (zab .i64 i10), .det (zan (some ⟨b10, (o10 + n10 * (rInt .u32).sz), none⟩)), .det (zab .u32 x10), .det (zab .u32 (Int.tmod x10 65536)), .det (zab .i64 (iw (Int.tmod x10 65536))), .det (zan (some ⟨b1, 1, none⟩)), .det x_v, .det (zab .i64 i10), .det (zan (some ⟨b11, (o11 + n11 * (rInt .u32).sz), none⟩)), .det (zab .u32 x11), .det (zab .u32 (uw32 (Int.tdiv x11 65536))), .det (zab .i64 (iw (uw32 (Int.tdiv x11 65536)))), .rel (fun v Z w' => ∃ b12 cs12, (osv (some b12) 0 2 2) = v ∧ OwnC w' (some b12) (zac ([] ++ (cs12 ++ []))) ∧ Els (rInt .i64) (vZ W1 w None [some b1, ob11] Z w') cs12 [(iw (Int.tmod x10 65536)), (iw (uw32 (Int.tdiv x11 65536)))] ∧ (cs12 ++ [] : List Value).length = 2 * (rInt .i64).sz ∧ True) footV]) mixed rfl rfl rfl (fun _ => rfl) (fun _ => rfl) ?_ ?_
   ·
    intro W1 _
    exact ⟨fun v Z Z' w w' hΦ hz _ _ hs => by obtain ⟨b12, cs12, rfl, hO10, hE12, hc12, -⟩ := hΦ; exact ⟨b12, cs12, rfl, (hO10.stay (fun b hb => by cases hb; exact zaz) hs), (hE12.mono (zcx hz hs)), hc12, trivial⟩, trivial⟩
   ·
    intro w12 hE13
    have hL13 := hL12.ext hE13
    have K13 := ke hL12 hE13
    refine zak (fun _ _ => zas (zai rfl (er rfl))) ?_
    refine zak (fun _ _ => zas (zap zao rfl ti24 rfl rfl rfl (er rfl))) ?_
    refine zak (fun _ hE16 => zas (zax zam rfl rfl ((hL13.ext hE16).at 0 rfl rfl) rfl (er rfl))) ?_
    refine zak (fun _ _ => zas (zai rfl (er rfl))) ?_
    refine zak (fun _ _ => zas (zbw (r := (rInt .u32)) (v := x_v) (n := n10) (m := (o10 + n10 * (rInt .u32).sz)) zam ti89 rfl q13 rfl q11 q12 rfl (er rfl))) ?_
    refine zak (fun _ hE19 => zas (zcp zaw rfl rfl zdy (zcr ((ke hL13 hE19) S) (zcr (K13 S) f12)) (er rfl))) ?_
    refine zak (fun _ _ => zas (OpY.remI (x := x10) (y := 65536) rfl rfl (by decide) (er rfl))) ?_
    refine zak (fun _ _ => zas (zbr zaw zby rfl rfl (er rfl))) ?_
    refine zak (fun _ _ => zas (zap zao rfl ti24 rfl rfl rfl (er rfl))) ?_
    refine zak (fun _ hE23 => zas (zax zam rfl rfl ((hL13.ext hE23).at 0 rfl rfl) rfl (er rfl))) ?_
    refine zak (fun _ _ => zas (zai rfl (er rfl))) ?_
    refine zak (fun _ _ => zas (zbw (r := (rInt .u32)) (v := x_v) (n := n11) (m := (o11 + n11 * (rInt .u32).sz)) zam ti89 rfl q19 rfl q17 q18 rfl (er rfl))) ?_
    refine zak (fun _ hE26 => zas (zcp zaw rfl rfl zdy (zcr ((ke hL13 hE26) S) (zcr (K13 S) f13)) (er rfl))) ?_
    refine zak (fun _ _ => zas (OpY.quoI (x := x11) (y := 65536) (z := (uw32 (Int.tdiv x11 65536))) rfl rfl (by decide) rfl (er rfl))) ?_
    refine zak (fun _ _ => zas (zbr zaw zby rfl rfl (er rfl))) ?_
    refine zcz ?_ ?_
    ·
     rintro w28 Z25 hE29 hZ25 ⟨-⟩
     have hE30 : Els (rInt .i64) (vZ w12 w None [some b1, ob11] Z25 w28) [(zab .i64 (iw (Int.tmod x10 65536))), (zab .i64 (iw (uw32 (Int.tdiv x11 65536))))] [(iw (Int.tmod x10 65536)), (iw (uw32 (Int.tdiv x11 65536)))] := (zco (a := [(zab .i64 (iw (Int.tmod x10 65536)))]) rfl (zco (a := [(zab .i64 (iw (uw32 (Int.tdiv x11 65536))))]) rfl zcy))
     refine zas (zcq (r := (rInt .i64)) (vs := [(zab .i64 (iw (Int.tmod x10 65536))), (zab .i64 (iw (uw32 (Int.tdiv x11 65536))))]) (css := [[(zab .i64 (iw (Int.tmod x10 65536)))], [(zab .i64 (iw (uw32 (Int.tdiv x11 65536))))]]) (xs := [(iw (Int.tmod x10 65536)), (iw (uw32 (Int.tdiv x11 65536)))]) zbt ti3 (zae rfl) rfl rfl ⟨rfl, rfl, ⟨rfl, rfl, trivial⟩⟩ (zae rfl) hE30 rfl (Go.X.Loc.begin0 w28) ?_)
     intro b12 w29 hc13 hL16 hS11
     have hN10 : NewOwn w28 w29 [some b12] [zac ([] ++ ([(zab .i64 (iw (Int.tmod x10 65536))), (zab .i64 (iw (uw32 (Int.tdiv x11 65536))))] ++ []))] := hL16.newOwn [0] rfl rfl rfl
     exact zct hL16.done hZ25 hN10 (fun _ h => h) ⟨b12, [(zab .i64 (iw (Int.tmod x10 65536))), (zab .i64 (iw (uw32 (Int.tdiv x11 65536))))], rfl, hN10.2.2.1, (hE30.mono (Zv.grow hL16.done)), hc13, trivial⟩
    intro z10
    refine zck ?_
    rintro w30 Z26 hE31 hZ26 ⟨⟨⟨b12, cs12, rfl, hO10, hE12, hc12, -⟩, hB10⟩, -⟩ ap10
    have hB11 : ∀ b, some b ∈ ([some b12] : List (Option Nat)) → w12.heap.size ≤ b ∧ ¬ Z26 b := by
     intro b hb
     rcases List.mem_cons.1 hb with hb' | hb
     ·
      have := hB10 b (by rw [hb']; exact zaz); exact ⟨this.1, this.2.2⟩
     cases hb
    replace hE12 := hE12.mono (zdi hL13 hZ26 hB11)
    have hN11 : NewOwn w12 w30 [some b12] [zac ([] ++ (cs12 ++ []))] := (zdd zcn hO10 (fun b hb => (hB11 b (by rw [← hb]; simp)).1) (fun b _ hb => by cases hb))
    have hp11 := hL13.adoptL hE31 hN11
    have hL17 := hp11.1
    have K16 := ks w hp11.2
    obtain ⟨x12, q22, h⟩ := zdp h
    obtain ⟨q23, q24, q25⟩ := apnd_some q22
    have f14 := ((hE11.mono (K13 None)).mono (K16 None))
    refine zaf (OpY.apRowX (r := (rInt .i64)) (H := (vH w None [some b12, some b1, ob11] w30)) (cs := cs11) (sp := sp11) (xs := l11) (ys := [(iw (Int.tmod x10 65536)), (iw (uw32 (Int.tdiv x11 65536)))]) (Y := x12) (n := l11.length) (cap := cap11) (i := 2) zbt ti3 rfl rfl rfl rfl hL17 rfl rfl f14 rfl hc10 (Src.row (pre := []) (o := 0) (n := 2) (cap := 2) (hL17.at 0 rfl rfl) hE12 rfl rfl rfl) (Els.anyH (fun _ _ _ _ h => h) hE12) q23 q24 q25 ?_)
    intro ob12 cap12 sp12 cs13 w31 hE32 hc14 (hL18 : vL w w31 [some b12, some b1, ob12] [zac ([] ++ (cs12 ++ [])), zac [(zaa x.Negative), x_v], zac ([] ++ (cs13 ++ sp12))]) hS12
    have K17 := ks w hS12
    refine zaf (zal (v := (osv ob12 0 x12.length cap12)) rfl ?_)
    refine zar (zbz (zah rfl (zaf (zai (v := (zab .i64 i10)) rfl ?_))))
    refine zaf (zcd (x := i10) (y := 1) (z := (iw (i10 + 1))) rfl rfl rfl ?_)
    refine zaf (zal (v := (zab .i64 (iw (i10 + 1)))) rfl ?_)
    refine zar ?_
    have hp12 := hL18.pick [1, 2] rfl rfl rfl
    have hL19 : vL w w31 [some b1, ob12] [zac [(zaa x.Negative), x_v], zac ([] ++ (cs13 ++ sp12))] := hp12.1
    have K18 := ks w hp12.2
    have f15 := ((hE32.mono (K17 None)).mono (K18 None))
    obtain rfl := zag h
    refine zau ⟨(x12, (iw (i10 + 1))), rfl, ?_⟩
    exact ⟨ob12, cap12, sp12, cs13, x12.length, _, (zdt ⟨rfl, rfl, rfl, trivial⟩), hL19, (zat (zat (zat (zat K12 K13) K16) K17) K18), f15, rfl, hc14, trivial⟩
  ·
   replace h := ite_f hc11 h
   refine zcs rfl ?_
   have hp13 := hL12.pick [1] rfl rfl rfl
   have hL20 : vL w w11 [ob11] [zac ([] ++ (cs11 ++ sp11))] := hp13.1
   have K19 := ks w hp13.2
   have f16 := (hE11.mono (K19 None))
   obtain rfl := zag h
   obtain rfl := hd10 _ rfl
   replace h := g10
   try dsimp only at h
   skip
   refine zau ?_
   exact ⟨l11, ob11, cap11, sp11, cs11, l11.length, _, rfl, (zdt ⟨rfl, trivial⟩), hL20, (zat K12 K19), f16, rfl, hc10, trivial⟩
 ·
  rintro _ w32 ⟨l10, ob10, cap10, sp10, cs10, ln10, u, rfl, rfl, hL21, K20, hE33, rfl, hc15, -⟩
  replace h := g10
  try dsimp only at h
  refine zaj (zah rfl (zaf (zai (v := (osv ob10 0 l10.length cap10)) rfl ?_)))
  have f17 := hL21.freezeRow 0 rfl rfl hE33 rfl rfl rfl hc15
  have hp14 := hL21.pick [] rfl rfl rfl
  have hL22 : vL w w32 [] [] := hp14.1
  obtain ⟨r10, q26, h⟩ := zdp h
  refine zaf (zay en82 rfl rfl (rtrim_w N l10 (osv ob10 0 l10.length cap10) _ _ (f17.mono Hv.enter) r10 q26) ?_)
  rintro _ w33 hE34 ⟨v10, rfl, k10, -⟩
  replace k10 := k10.mono (Hv.aliasO (S := None) hL22 [])
  have hL23 := hL22.ext hE34
  refine zaf (zal (v := v10) rfl ?_)
  refine zar (zbn ?_)
  obtain rfl := zag h
  refine ⟨[v10], ⟨rfl, trivial⟩, ⟨_, rfl, hL23.done, ?_⟩⟩
  exact ⟨v10, rfl, (k10.mono zdm), trivial⟩
theorem rbig_w (N : Nat) (negative : Bool) (l : (List Int)) (l_v : Value) (w : World) (S : Nat → Prop) (l_h : Rs (rInt .i64) (vH w S [] w) l_v l) (r : Big) (h : rbig N negative l = some r) :
  Calls Try.prog 68 #[(zaa negative), l_v] w (Ret w (fun v w' => ∃ (v0_0 : Value), (zaq #[(zaa r.Negative), v0_0]) = v ∧ Rs (rInt .u32) (vH w None [] w') v0_0 r.Digits ∧ True)) := by
 unfold rbig at h
 have hL : vL w w [] [] := Go.X.Loc.begin0 w
 refine calls_of (l := [(zaa negative), l_v]) (rl := [.cell 4 26]) (n := 49) Try.func68 rfl rfl rfl (zae rfl) ?_
 refine zaj (zah rfl (zaf (zch (cs := [(zaa false), (zad none 0 0)]) ti26 rfl hL ?_)))
 intro b1 w2 hL3 hS5
 have K4 := ks w hS5
 refine zar (zaj (zah rfl (zaf (zai (v := l_v) rfl ?_))))
 obtain ⟨r6, q7, h⟩ := zdp h
 have f10 := (l_h.mono (K4 S))
 refine zaf (zay en82 rfl rfl (rtrim_w N l l_v _ _ (f10.mono Hv.enter) r6 q7) ?_)
 rintro _ w10 hE10 ⟨v8, rfl, k9, -⟩
 replace k9 := k9.mono (Hv.aliasO (S := S) hL3 [])
 have hL10 := hL3.ext hE10
 refine zaf (zal (v := v8) rfl ?_)
 refine zar (zaj ?_)
 obtain ⟨s10, h, g10⟩ := zdp h
 refine zca (fun e w' => ∃ (negative10 : Bool) (b10 : Nat) (u : Env), negative10 = s10 ∧ e = upds [(1, v8), (4, (zan (some ⟨b1, 0, none⟩))), (5, (zan (some ⟨b10, 0, none⟩)))] u ∧ vL w w' [some b1, some b10] [zac [(zaa false), (zad none 0 0)], zac [(zaa negative10), (zad none 0 0)]] ∧ Keep w.heap.size [some b1] w10 [some b1, some b10] w' ∧ True) ?_ ?_
 ·
  refine zah rfl (zaf (zai (v := (zaa negative)) rfl ?_))
  refine zaf (zai (v := (zaa negative)) rfl ?_)
  by_cases hc10 : negative = true
  ·
   replace h := ite_t hc10 h
   refine zcc rfl rfl hc10 (zai (v := v8) rfl ?_)
   refine zcc rfl rfl hc10 (zba (v := v8) zbt rfl k9 ?_)
   refine zcc rfl rfl hc10 (zdn (x := (r6.length : Int)) (y := 0) (((r6.length : Int) : Int) > 0) rfl rfl zbf ?_)
   refine zaf (zbu (t := negative) (v := (zaa (decide (((r6.length : Int) : Int) > 0)))) rfl hc10 rfl ?_)
   refine zaf (zdc (zc := [(zaa false), (zad none 0 0)]) (cs := [(zaa (decide (((r6.length : Int) : Int) > 0))), (zad none 0 0)]) (is := [0]) (vs := [(zaa (decide (((r6.length : Int) : Int) > 0)))]) (css := [[(zaa (decide (((r6.length : Int) : Int) > 0)))]]) pl26 ti26 rfl rfl rfl ⟨rfl, trivial⟩ rfl ?_)
   refine zaf (zch (cs := [(zaa false), (zad none 0 0)]) ti26 rfl hL10 ?_)
   intro b11 w11 hL11 hS10
   have K10 := ks w hS10
   refine zcj (zbs (vs := [(zaa (decide (((r6.length : Int) : Int) > 0))), (zad none 0 0)]) ti26 rfl rfl rfl rfl (zds rfl (zds rfl zdw)) hL11 0 rfl rfl (zae rfl) ?_)
   intro w12 (hL12 : vL w w12 [some b11, some b1] [zac [(zaa (decide (((r6.length : Int) : Int) > 0))), (zad none 0 0)], zac [(zaa false), (zad none 0 0)]]) hS11
   have K11 := ks w hS11
   refine zar ?_
   have hp10 := hL12.pick [1, 0] rfl rfl rfl
   have hL13 : vL w w12 [some b1, some b11] [zac [(zaa false), (zad none 0 0)], zac [(zaa (decide (((r6.length : Int) : Int) > 0))), (zad none 0 0)]] := hp10.1
   have K12 := ks w hp10.2
   obtain rfl := zag h
   refine zau ?_
   exact ⟨(decide (((r6.length : Int) : Int) > 0)), b11, _, rfl, (zdt ⟨rfl, rfl, rfl, trivial⟩), hL13, (zat (zat K10 K11) K12), trivial⟩
  ·
   replace h := ite_f hc10 h
   refine zbx rfl rfl (zdq hc10) ?_
   refine zbx rfl rfl (zdq hc10) ?_
   refine zbx rfl rfl (zdq hc10) ?_
   refine zaf (zbo (t := negative) (v := (zaa false)) rfl (zdq hc10) rfl ?_)
   refine zaf (zdc (zc := [(zaa false), (zad none 0 0)]) (cs := [(zaa false), (zad none 0 0)]) (is := [0]) (vs := [(zaa false)]) (css := [[(zaa false)]]) pl26 ti26 rfl rfl rfl ⟨rfl, trivial⟩ rfl ?_)
   refine zaf (zch (cs := [(zaa false), (zad none 0 0)]) ti26 rfl hL10 ?_)
   intro b12 w13 hL14 hS12
   have K13 := ks w hS12
   refine zcj (zbs (vs := [(zaa false), (zad none 0 0)]) ti26 rfl rfl rfl rfl (zds rfl (zds rfl zdw)) hL14 0 rfl rfl (zae rfl) ?_)
   intro w14 (hL15 : vL w w14 [some b12, some b1] [zac [(zaa false), (zad none 0 0)], zac [(zaa false), (zad none 0 0)]]) hS13
   have K14 := ks w hS13
   refine zar ?_
   have hp11 := hL15.pick [1, 0] rfl rfl rfl
   have hL16 : vL w w14 [some b1, some b12] [zac [(zaa false), (zad none 0 0)], zac [(zaa false), (zad none 0 0)]] := hp11.1
   have K15 := ks w hp11.2
   obtain rfl := zag h
   refine zau ?_
   exact ⟨false, b12, _, rfl, (zdt ⟨rfl, rfl, rfl, trivial⟩), hL16, (zat (zat K13 K14) K15), trivial⟩
 ·
  rintro _ w15 ⟨negative10, b10, u, rfl, rfl, hL17, K16, -⟩
  replace h := g10
  try dsimp only at h
  refine zaj (zaj (zah rfl (zaf (zal (v := (zab .i64 0)) rfl ?_))))
  refine zar ?_
  obtain ⟨s11, hl10, g11⟩ := zdp h
  refine zca (fun e w' => ∃ (digits10 : (List Int)) (ob10 : Option Nat) (cap10 : Nat) (sp10 : List Value) (cs10 : List Value) (ln10 : Nat) (u : Env), digits10 = s11 ∧ e = upds [(4, (zan (some ⟨b1, 0, none⟩))), (5, (zan (some ⟨b10, 0, none⟩)))] u ∧ vL w w' [some b1, some b10, ob10] [zac [(zaa false), (zad none 0 0)], zac [(zaa negative10), (osv ob10 0 ln10 cap10)], zac ([] ++ (cs10 ++ sp10))] ∧ Keep w.heap.size [some b1, some b10] w15 [some b1, some b10, ob10] w' ∧ Els (rInt .u32) (vH w None [some b1, some b10, ob10] w') cs10 digits10 ∧ ln10 = List.length digits10 ∧ (cs10 ++ sp10).length = cap10 * (rInt .u32).sz ∧ True) ?_ ?_
  ·
   refine zbm ?_
   have hp12 := hL17.addNil
   have hL18 : vL w w15 [none, some b1, some b10] [zac ([] ++ ([] ++ [])), zac [(zaa false), (zad none 0 0)], zac [(zaa negative10), (zad none 0 0)]] := hp12.1
   have K17 := ks w hp12.2
   have hp13 := hL18.pick [1, 2, 0] rfl rfl rfl
   have hL19 : vL w w15 [some b1, some b10, none] [zac [(zaa false), (zad none 0 0)], zac [(zaa negative10), (osv none 0 (List.length ([] : (List Int))) 0)], zac ([] ++ ([] ++ []))] := hp13.1
   have K18 := ks w hp13.2
   have f11 := ((zcy (r := (rInt .u32))).mono (K18 None))
   refine zcl hl10 (fun (ss : ((List Int) × Int)) (e : Env) (w' : World) => match ss with | (digits11, i10) => ∃ (ob11 : Option Nat) (cap11 : Nat) (sp11 : List Value) (cs11 : List Value) (ln11 : Nat) (u : Env), e = upds [(1, v8), (4, (zan (some ⟨b1, 0, none⟩))), (5, (zan (some ⟨b10, 0, none⟩))), (6, (zab .i64 i10))] u ∧ vL w w' [some b1, some b10, ob11] [zac [(zaa false), (zad none 0 0)], zac [(zaa negative10), (osv ob11 0 ln11 cap11)], zac ([] ++ (cs11 ++ sp11))] ∧ Keep w.heap.size [some b1, some b10] w15 [some b1, some b10, ob11] w' ∧ Els (rInt .u32) (vH w None [some b1, some b10, ob11] w') cs11 digits11 ∧ ln11 = List.length digits11 ∧ (cs11 ++ sp11).length = cap11 * (rInt .u32).sz ∧ True) ⟨none, 0, [], [], (List.length ([] : (List Int))), _, (zdt ⟨rfl, rfl, rfl, rfl, trivial⟩), hL19, (zat K17 K18), f11, rfl, (show ([] ++ [] : List Value).length = 0 * (rInt .u32).sz by simp), trivial⟩ ?_
   rintro ⟨digits11, i10⟩ oo _ w16 ⟨ob11, cap11, sp11, cs11, ln11, u, rfl, hL20, K19, hE11, rfl, hc11, -⟩ h hd10
   rw [rbig_b1] at h
   refine zaj (zaj (zah rfl (zaf (zai (v := (zab .i64 i10)) rfl ?_))))
   refine zaf (zai (v := v8) rfl ?_)
   have f12 := ((k9.mono (K16 S)).mono (K19 S))
   refine zaf (zba (v := v8) zbt rfl f12 ?_)
   refine zaf (zcv (x := i10) (y := (r6.length : Int)) ((i10 : Int) < (r6.length : Int)) rfl rfl zbf ?_)
   refine zar ?_
   refine zbk ((i10 : Int) < (r6.length : Int)) rfl (fun hc12 => ?_) (fun hc12 => ?_)
   ·
    replace h := ite_t hc12 h
    refine zbl (zaj (zbm (zaj (zah rfl (zaf (zai (v := v8) rfl ?_))))))
    refine zaf (zai (v := (zab .i64 i10)) rfl ?_)
    obtain ⟨x10, q10, h⟩ := zdp h
    obtain ⟨n10, q11, q12⟩ := zdu q10
    obtain ⟨b13, o10, c10, vs10, q13, q14, f13, q15⟩ := zdb f12 q12
    obtain rfl := q15
    refine zaf (zbw (r := (rInt .i64)) (v := v8) (n := n10) (m := (o10 + n10 * (rInt .i64).sz)) zbt ti3 rfl q13 rfl q11 q12 rfl ?_)
    refine zaf (zcp (v := (zab .i64 x10)) zby rfl rfl zdy f13 ?_)
    refine zaf (zbr (x := x10) (z := (uw32 x10)) zby zaw rfl rfl ?_)
    refine zaf (zal (v := (zab .u32 (uw32 x10))) rfl ?_)
    refine zar (zaj (zaj (zah rfl (zaf (zai (v := (zab .i64 i10)) rfl ?_)))))
    refine zaf (zcd (x := i10) (y := 1) (z := (iw (i10 + 1))) rfl rfl rfl ?_)
    refine zaf (zai (v := v8) rfl ?_)
    refine zaf (zba (v := v8) zbt rfl f12 ?_)
    refine zaf (zcv (x := (iw (i10 + 1))) (y := (r6.length : Int)) (((iw (i10 + 1)) : Int) < (r6.length : Int)) rfl rfl zbf ?_)
    refine zar ?_
    obtain ⟨s12, h, g12⟩ := zdp h
    refine zca (fun e w' => ∃ (d10 : Int) (u : Env), d10 = s12 ∧ e = upds [(1, v8), (4, (zan (some ⟨b1, 0, none⟩))), (5, (zan (some ⟨b10, 0, none⟩))), (6, (zab .i64 i10)), (7, (zab .u32 d10))] u ∧ vL w w' [some b1, some b10, ob11] [zac [(zaa false), (zad none 0 0)], zac [(zaa negative10), (osv ob11 0 digits11.length cap11)], zac ([] ++ (cs11 ++ sp11))] ∧ Keep w.heap.size [some b1, some b10, ob11] w16 [some b1, some b10, ob11] w' ∧ True) ?_ ?_
    ·
     refine zbk (((iw (i10 + 1)) : Int) < (r6.length : Int)) rfl (fun hc13 => ?_) (fun hc13 => ?_)
     ·
      replace h := ite_t hc13 h
      refine zah rfl (zaf (zai (v := (zab .u32 (uw32 x10))) rfl ?_))
      refine zaf (zai (v := v8) rfl ?_)
      refine zaf (zai (v := (zab .i64 i10)) rfl ?_)
      refine zaf (zcd (x := i10) (y := 1) (z := (iw (i10 + 1))) rfl rfl rfl ?_)
      obtain ⟨x11, q16, h⟩ := zdp h
      obtain ⟨n11, q17, q18⟩ := zdu q16
      obtain ⟨b14, o11, c11, vs11, q19, q20, f14, q21⟩ := zdb f12 q18
      obtain rfl := q21
      refine zaf (zbw (r := (rInt .i64)) (v := v8) (n := n11) (m := (o11 + n11 * (rInt .i64).sz)) zbt ti3 rfl q19 rfl q17 q18 rfl ?_)
      refine zaf (zcp (v := (zab .i64 x11)) zby rfl rfl zdy f14 ?_)
      refine zaf (zbr (x := x11) (z := (uw32 x11)) zby zaw rfl rfl ?_)
      refine zaf (OpY.mul (x := 65536) (y := (uw32 x11)) (z := (uw32 (65536 * (uw32 x11)))) rfl rfl rfl ?_)
      refine zaf (zcd (x := (uw32 x10)) (y := (uw32 (65536 * (uw32 x11)))) (z := (uw32 ((uw32 x10) + (uw32 (65536 * (uw32 x11)))))) rfl rfl rfl ?_)
      refine zaf (zal (v := (zab .u32 (uw32 ((uw32 x10) + (uw32 (65536 * (uw32 x11))))))) rfl ?_)
      refine zar ?_
      obtain rfl := zag h
      refine zau ?_
      exact ⟨(uw32 ((uw32 x10) + (uw32 (65536 * (uw32 x11))))), _, rfl, (zdt ⟨rfl, rfl, rfl, rfl, rfl, trivial⟩), hL20, zcb, trivial⟩
     ·
      replace h := ite_f hc13 h
      refine zbl ?_
      obtain rfl := zag h
      refine zau ?_
      exact ⟨(uw32 x10), _, rfl, (zdt ⟨rfl, rfl, rfl, rfl, rfl, trivial⟩), hL20, zcb, trivial⟩
    ·
     rintro _ w17 ⟨d10, u, rfl, rfl, hL21, K20, -⟩
     replace h := g12
     try dsimp only at h
     refine zah rfl (zaf (zap (q := 1) zao rfl ti24 rfl rfl rfl ?_))
     refine zaf (zax (v := (osv ob11 0 digits11.length cap11)) zam rfl rfl (hL21.at 1 rfl rfl) rfl ?_)
     refine zaf (zai (v := (zab .u32 d10)) rfl ?_)
     have hE12 : Els (rInt .u32) (vH w None [some b1, some b10, ob11] w17) [(zab .u32 d10)] [d10] := (zco (a := [(zab .u32 d10)]) rfl zcy)
     refine zaf (zcq (r := (rInt .u32)) (vs := [(zab .u32 d10)]) (css := [[(zab .u32 d10)]]) (xs := [d10]) zam ti89 (zae rfl) rfl rfl ⟨rfl, rfl, trivial⟩ (zae rfl) hE12 rfl hL21 ?_)
     intro b15 w18 hc14 hL22 hS14
     have K21 := ks w hS14
     obtain ⟨x12, q22, h⟩ := zdp h
     obtain ⟨q23, q24, q25⟩ := apnd_some q22
     have f15 := (hE12.mono (K21 None))
     have f16 := ((hE11.mono (K20 None)).mono (K21 None))
     refine zaf (OpY.apRowX (r := (rInt .u32)) (H := (vH w None [some b15, some b1, some b10, ob11] w18)) (cs := cs11) (sp := sp11) (xs := digits11) (ys := [d10]) (Y := x12) (n := digits11.length) (cap := cap11) (i := 3) zam ti89 rfl rfl rfl rfl hL22 rfl rfl f16 rfl hc11 (Src.row (pre := []) (o := 0) (n := 1) (cap := 1) (hL22.at 0 rfl rfl) f15 rfl rfl rfl) (Els.anyH (fun _ _ _ _ h => h) f15) q23 q24 q25 ?_)
     intro ob12 cap12 sp12 cs12 w19 hE13 hc15 (hL23 : vL w w19 [some b15, some b1, some b10, ob12] [zac ([] ++ ([(zab .u32 d10)] ++ [])), zac [(zaa false), (zad none 0 0)], zac [(zaa negative10), (osv ob11 0 digits11.length cap11)], zac ([] ++ (cs12 ++ sp12))]) hS15
     have K22 := ks w hS15
     refine zaf (zap (q := 1) zao rfl ti24 rfl rfl rfl ?_)
     refine zcj (zbs (vs := [(osv ob12 0 x12.length cap12)]) ti24 rfl rfl (zec (zea _ _ _ _)) rfl (zds (zea _ _ _ _) zdw) hL23 2 rfl rfl (zae rfl) ?_)
     intro w20 (hL24 : vL w w20 [some b15, some b1, some b10, ob12] [zac ([] ++ ([(zab .u32 d10)] ++ [])), zac [(zaa false), (zad none 0 0)], zac [(zaa negative10), (osv ob12 0 x12.length cap12)], zac ([] ++ (cs12 ++ sp12))]) hS16
     have K23 := ks w hS16
     refine zar (zbz (zah rfl (zaf (zai (v := (zab .i64 i10)) rfl ?_))))
     refine zaf (zcd (x := i10) (y := 2) (z := (iw (i10 + 2))) rfl rfl rfl ?_)
     refine zaf (zal (v := (zab .i64 (iw (i10 + 2)))) rfl ?_)
     refine zar ?_
     have hp14 := hL24.pick [1, 2, 3] rfl rfl rfl
     have hL25 : vL w w20 [some b1, some b10, ob12] [zac [(zaa false), (zad none 0 0)], zac [(zaa negative10), (osv ob12 0 x12.length cap12)], zac ([] ++ (cs12 ++ sp12))] := hp14.1
     have K24 := ks w hp14.2
     have f17 := (((hE13.mono (K22 None)).mono (K23 None)).mono (K24 None))
     obtain rfl := zag h
     refine zau ⟨(x12, (iw (i10 + 2))), rfl, ?_⟩
     exact ⟨ob12, cap12, sp12, cs12, x12.length, _, (zdt ⟨rfl, rfl, rfl, rfl, trivial⟩), hL25, (zat (zat (zat (zat (zat K19 K20) K21) K22) K23) K24), f17, rfl, hc15, trivial⟩
   ·
    replace h := ite_f hc12 h
    refine zcs rfl ?_
    obtain rfl := zag h
    obtain rfl := hd10 _ rfl
    replace h := g11
    try dsimp only at h
    skip
    refine zau ?_
    exact ⟨digits11, ob11, cap11, sp11, cs11, digits11.length, _, rfl, (zdt ⟨rfl, rfl, trivial⟩), hL20, K19, hE11, rfl, hc11, trivial⟩
  ·
   rintro _ w21 ⟨digits10, ob10, cap10, sp10, cs10, ln10, u, rfl, rfl, hL26, K25, hE14, rfl, hc16, -⟩
   replace h := g11
   try dsimp only at h
   refine zaj (zah rfl (zaf (zbh (vs := [(zaa negative10), (osv ob10 0 digits10.length cap10)]) zao rfl ti26 rfl (hL26.at 1 rfl rfl) rfl rfl ?_)))
   refine zcj (zbs (vs := [(zaa negative10), (osv ob10 0 digits10.length cap10)]) ti26 rfl rfl rfl rfl (zds rfl (zds (zea _ _ _ _) zdw)) hL26 0 rfl rfl (zae rfl) ?_)
   intro w22 (hL27 : vL w w22 [some b1, some b10, ob10] [zac [(zaa negative10), (osv ob10 0 digits10.length cap10)], zac [(zaa negative10), (osv ob10 0 digits10.length cap10)], zac ([] ++ (cs10 ++ sp10))]) hS17
   have K26 := ks w hS17
   refine zar ?_
   have f18 := (hE14.mono (K26 None))
   have f19 := hL27.freezeRow 2 rfl rfl f18 rfl rfl rfl hc16
   have hp15 := hL27.pick [0, 1] rfl rfl rfl
   have hL28 : vL w w22 [some b1, some b10] [zac [(zaa negative10), (osv ob10 0 digits10.length cap10)], zac [(zaa negative10), (osv ob10 0 digits10.length cap10)]] := hp15.1
   refine zbn ?_
   obtain rfl := zag h
   refine ⟨[(zaq #[(zaa negative10), (osv ob10 0 digits10.length cap10)])], ⟨⟨⟨b1, 0, none⟩, rfl, zdz zao rfl ti26 (hL28.at 0 rfl rfl) rfl⟩, trivial⟩, ⟨_, rfl, hL28.done, ?_⟩⟩
   exact ⟨(osv ob10 0 digits10.length cap10), rfl, (f19.mono zdm), trivial⟩
theorem rorder_w (N : Nat) (a : (List Int)) (b : (List Int)) (a_v : Value) (b_v : Value) (w : World) (S : Nat → Prop) (a_h : Rs (rInt .i64) (vH w S [] w) a_v a) (b_h : Rs (rInt .i64) (vH w S [] w) b_v b) (r : Int) (h : rorder N a b = some r) :
  Calls Try.prog 64 #[a_v, b_v] w (Ret w (fun v w' => (zab .i64 r) = v ∧ True)) := by
 unfold rorder at h
 have hL : vL w w [] [] := Go.X.Loc.begin0 w
 refine calls_of (l := [a_v, b_v]) (rl := [.tmp 4]) (n := 41) Try.func64 rfl rfl rfl (zae rfl) ?_
 refine zaj (zah rfl (zaf (zal (v := (zab .i64 0)) rfl ?_)))
 refine zar (zaj (zaj (zah rfl (zaf (zai (v := a_v) rfl ?_)))))
 refine zaf (zba (v := a_v) zbt rfl a_h ?_)
 refine zaf (zai (v := b_v) rfl ?_)
 refine zaf (zba (v := b_v) zbt rfl b_h ?_)
 refine zaf (zcw (x := (a.length : Int)) (y := (b.length : Int)) (((a.length : Int) : Int) ≠ (b.length : Int)) rfl rfl zbf ?_)
 refine zar ?_
 refine zbk (((a.length : Int) : Int) ≠ (b.length : Int)) rfl (fun hc1 => ?_) (fun hc1 => ?_)
 ·
  replace h := ite_t hc1 h
  refine zaj (zaj (zah rfl (zaf (zai (v := a_v) rfl ?_))))
  refine zaf (zba (v := a_v) zbt rfl a_h ?_)
  refine zaf (zai (v := b_v) rfl ?_)
  refine zaf (zba (v := b_v) zbt rfl b_h ?_)
  refine zaf (zcv (x := (a.length : Int)) (y := (b.length : Int)) (((a.length : Int) : Int) < (b.length : Int)) rfl rfl zbf ?_)
  refine zar ?_
  refine zbk (((a.length : Int) : Int) < (b.length : Int)) rfl (fun hc2 => ?_) (fun hc2 => ?_)
  ·
   replace h := ite_t hc2 h
   refine zaj (zah rfl (zaf (zal (v := (zab .i64 (-1))) rfl ?_)))
   refine zar (zbn ?_)
   obtain rfl := zag h
   refine ⟨[(zab .i64 (-1))], ⟨rfl, trivial⟩, ⟨_, rfl, hL.done, ?_⟩⟩
   exact ⟨rfl, trivial⟩
  ·
   replace h := ite_f hc2 h
   refine zbl (zaj (zah rfl (zaf (zal (v := (zab .i64 1)) rfl ?_))))
   refine zar (zbn ?_)
   obtain rfl := zag h
   refine ⟨[(zab .i64 1)], ⟨rfl, trivial⟩, ⟨_, rfl, hL.done, ?_⟩⟩
   exact ⟨rfl, trivial⟩
 ·
  replace h := ite_f hc1 h
  refine zbl (zaj (zaj (zah rfl (zaf (zai (v := a_v) rfl ?_)))))
  refine zaf (zba (v := a_v) zbt rfl a_h ?_)
  refine zaf (zdg (x := (a.length : Int)) (y := 1) (z := (iw ((a.length : Int) - 1))) rfl rfl rfl ?_)
  refine zaf (zal (v := (zab .i64 (iw ((a.length : Int) - 1)))) rfl ?_)
  refine zar ?_
  obtain ⟨s10, hl10, g10⟩ := zdp h
  refine zca (fun e w' => ∃  (u : Env), (Sum.inl ()) = s10 ∧ e = upds [] u ∧ vL w w' [] [] ∧ Keep w.heap.size [] w [] w' ∧ True) ?_ ?_
  ·
   refine zbm ?_
   refine zcl hl10 (fun (ss : Int) (e : Env) (w' : World) => match ss with | i10 => ∃ (u : Env), e = upds [(0, a_v), (1, b_v), (5, (zab .i64 i10))] u ∧ vL w w' [] [] ∧ Keep w.heap.size [] w [] w' ∧ True) ⟨_, (zdt ⟨rfl, rfl, rfl, trivial⟩), hL, zcb, trivial⟩ ?_
   rintro i10 oo _ w10 ⟨u, rfl, hL10, K10, -⟩ h hd10
   rw [rorder_b1] at h
   refine zaj (zaj (zah rfl (zaf (zai (v := (zab .i64 i10)) rfl ?_))))
   refine zaf (OpY.geq (x := i10) (y := 0) ((i10 : Int) ≥ 0) rfl rfl zbf ?_)
   refine zar ?_
   refine zbk ((i10 : Int) ≥ 0) rfl (fun hc10 => ?_) (fun hc10 => ?_)
   ·
    replace h := ite_t hc10 h
    refine zbl (zaj (zbm (zaj (zaj ?_))))
    obtain ⟨x10, q10, h⟩ := zdp h
    obtain ⟨n10, q11, q12⟩ := zdu q10
    have f10 := (a_h.mono (K10 S))
    obtain ⟨b10, o10, c10, vs10, q13, q14, f11, q15⟩ := zdb f10 q12
    obtain rfl := q15
    obtain ⟨x11, q16, h⟩ := zdp h
    obtain ⟨n11, q17, q18⟩ := zdu q16
    have f12 := (b_h.mono (K10 S))
    obtain ⟨b11, o11, c11, vs11, q19, q20, f13, q21⟩ := zdb f12 q18
    obtain rfl := q21
    refine zcg 8 [] [] (fun W1 => [.det a_v, .det (zab .i64 i10), .det (zan (some ⟨b10, (o10 + n10 * (rInt .i64).sz), none⟩)), .det (zab .i64 x10), .det b_v, .det (zab .i64 i10), .det (zan (some ⟨b11, (o11 + n11 * (rInt .i64).sz), none⟩)), .det (zab .i64 x11)]) mixed rfl rfl rfl (fun _ => rfl) (fun _ => rfl) ?_ ?_
    ·
     intro W1 _
     exact trivial
    ·
     intro w11 hE10
     have hL11 := hL10.ext hE10
     have K11 := ke hL10 hE10
     refine zak (fun _ _ => zas (zai rfl (er rfl))) ?_
     refine zak (fun _ _ => zas (zai rfl (er rfl))) ?_
     refine zak (fun _ _ => zas (zbw (r := (rInt .i64)) (v := a_v) (n := n10) (m := (o10 + n10 * (rInt .i64).sz)) zbt ti3 rfl q13 rfl q11 q12 rfl (er rfl))) ?_
     refine zak (fun _ hE14 => zas (zcp zby rfl rfl zdy (zcr ((ke hL11 hE14) S) (zcr (K11 S) f11)) (er rfl))) ?_
     refine zak (fun _ _ => zas (zai rfl (er rfl))) ?_
     refine zak (fun _ _ => zas (zai rfl (er rfl))) ?_
     refine zak (fun _ _ => zas (zbw (r := (rInt .i64)) (v := b_v) (n := n11) (m := (o11 + n11 * (rInt .i64).sz)) zbt ti3 rfl q19 rfl q17 q18 rfl (er rfl))) ?_
     refine zak (fun _ hE18 => zas (zcp zby rfl rfl zdy (zcr ((ke hL11 hE18) S) (zcr (K11 S) f13)) (er rfl))) ?_
     refine zck ?_
     rintro w20 Z18 hE19 hZ18 ⟨-⟩ ap10
     have hB10 : ∀ b, some b ∈ ([] : List (Option Nat)) → w11.heap.size ≤ b ∧ ¬ Z18 b := by
      intro b hb; cases hb
     have hL12 := hL11.ext hE19
     have K14 := ke hL11 hE19
     refine zaf (zcv (x := x10) (y := x11) ((x10 : Int) < x11) rfl rfl zbf ?_)
     refine zar ?_
     refine zbk ((x10 : Int) < x11) rfl (fun hc11 => ?_) (fun hc11 => ?_)
     ·
      replace h := ite_t hc11 h
      refine zaj (zah rfl (zaf (zal (v := (zab .i64 (-1))) rfl ?_)))
      refine zar (zbn ?_)
      obtain rfl := zag h
      obtain rfl := hd10 _ rfl
      replace h := g10
      try dsimp only at h
      obtain rfl := zag h
      refine ⟨[(zab .i64 (-1))], ⟨rfl, trivial⟩, ⟨_, rfl, hL12.done, ?_⟩⟩
      exact ⟨rfl, trivial⟩
     ·
      replace h := ite_f hc11 h
      refine zbl (zaj ?_)
      obtain ⟨x12, q22, h⟩ := zdp h
      obtain ⟨n12, q23, q24⟩ := zdu q22
      have f14 := ((f10.mono (K11 S)).mono (K14 S))
      obtain ⟨b12, o12, c12, vs12, q25, q26, f15, q27⟩ := zdb f14 q24
      obtain rfl := q27
      obtain ⟨x13, q28, h⟩ := zdp h
      obtain ⟨n13, q29, q30⟩ := zdu q28
      have f16 := ((f12.mono (K11 S)).mono (K14 S))
      obtain ⟨b13, o13, c13, vs13, q31, q32, f17, q33⟩ := zdb f16 q30
      obtain rfl := q33
      refine zcg 8 [] [] (fun W1 => [.det a_v, .det (zab .i64 i10), .det (zan (some ⟨b12, (o12 + n12 * (rInt .i64).sz), none⟩)), .det (zab .i64 x12), .det b_v, .det (zab .i64 i10), .det (zan (some ⟨b13, (o13 + n13 * (rInt .i64).sz), none⟩)), .det (zab .i64 x13)]) mixed rfl rfl rfl (fun _ => rfl) (fun _ => rfl) ?_ ?_
      ·
       intro W1 _
       exact trivial
      ·
       intro w21 hE20
       have hL13 := hL12.ext hE20
       have K15 := ke hL12 hE20
       refine zak (fun _ _ => zas (zai rfl (er rfl))) ?_
       refine zak (fun _ _ => zas (zai rfl (er rfl))) ?_
       refine zak (fun _ _ => zas (zbw (r := (rInt .i64)) (v := a_v) (n := n12) (m := (o12 + n12 * (rInt .i64).sz)) zbt ti3 rfl q25 rfl q23 q24 rfl (er rfl))) ?_
       refine zak (fun _ hE24 => zas (zcp zby rfl rfl zdy (zcr ((ke hL13 hE24) S) (zcr (K15 S) f15)) (er rfl))) ?_
       refine zak (fun _ _ => zas (zai rfl (er rfl))) ?_
       refine zak (fun _ _ => zas (zai rfl (er rfl))) ?_
       refine zak (fun _ _ => zas (zbw (r := (rInt .i64)) (v := b_v) (n := n13) (m := (o13 + n13 * (rInt .i64).sz)) zbt ti3 rfl q31 rfl q29 q30 rfl (er rfl))) ?_
       refine zak (fun _ hE28 => zas (zcp zby rfl rfl zdy (zcr ((ke hL13 hE28) S) (zcr (K15 S) f17)) (er rfl))) ?_
       refine zck ?_
       rintro w30 Z27 hE29 hZ27 ⟨-⟩ ap11
       have hB11 : ∀ b, some b ∈ ([] : List (Option Nat)) → w21.heap.size ≤ b ∧ ¬ Z27 b := by
        intro b hb; cases hb
       have hL14 := hL13.ext hE29
       have K18 := ke hL13 hE29
       refine zaf (zdn (x := x12) (y := x13) ((x12 : Int) > x13) rfl rfl zbf ?_)
       refine zar ?_
       refine zbk ((x12 : Int) > x13) rfl (fun hc12 => ?_) (fun hc12 => ?_)
       ·
        replace h := ite_t hc12 h
        refine zaj (zah rfl (zaf (zal (v := (zab .i64 1)) rfl ?_)))
        refine zar (zbn ?_)
        obtain rfl := zag h
        obtain rfl := hd10 _ rfl
        replace h := g10
        try dsimp only at h
        obtain rfl := zag h
        refine ⟨[(zab .i64 1)], ⟨rfl, trivial⟩, ⟨_, rfl, hL14.done, ?_⟩⟩
        exact ⟨rfl, trivial⟩
       ·
        replace h := ite_f hc12 h
        refine zbl (zbz (zah rfl (zaf (zai (v := (zab .i64 i10)) rfl ?_))))
        refine zaf (zdg (x := i10) (y := 1) (z := (iw (i10 - 1))) rfl rfl rfl ?_)
        refine zaf (zal (v := (zab .i64 (iw (i10 - 1)))) rfl ?_)
        refine zar ?_
        obtain rfl := zag h
        refine zau ⟨(iw (i10 - 1)), rfl, ?_⟩
        exact ⟨_, (zdt ⟨rfl, rfl, rfl, trivial⟩), hL14, (zat (zat (zat (zat K10 K11) K14) K15) K18), trivial⟩
   ·
    replace h := ite_f hc10 h
    refine zcs rfl ?_
    obtain rfl := zag h
    obtain rfl := hd10 _ rfl
    replace h := g10
    try dsimp only at h
    skip
    refine zau ?_
    exact ⟨_, rfl, (zdt trivial), hL10, K10, trivial⟩
  ·
   rintro _ w31 ⟨u, rfl, rfl, hL15, K19, -⟩
   replace h := g10
   try dsimp only at h
   refine zaj (zah rfl (zaf (zal (v := (zab .i64 0)) rfl ?_)))
   refine zar (zbn ?_)
   obtain rfl := zag h
   refine ⟨[(zab .i64 0)], ⟨rfl, trivial⟩, ⟨_, rfl, hL15.done, ?_⟩⟩
   exact ⟨rfl, trivial⟩
theorem rSign_w (N : Nat) (x : Big) (x_v : Value) (w : World) (S : Nat → Prop) (x_h : Rs (rInt .u32) (vH w S [] w) x_v x.Digits) (r : Int) (h : rSign N x = some r) :
  Calls Try.prog 40 #[(zaq #[(zaa x.Negative), x_v])] w (Ret w (fun v w' => (zab .i64 r) = v ∧ True)) := by
 unfold rSign at h
 have hL : vL w w [] [] := Go.X.Loc.begin0 w
 refine calls_of (l := [(zaq #[(zaa x.Negative), x_v])]) (rl := [.tmp 2]) (n := 9) Try.func40 rfl rfl rfl (zae rfl) ?_
 refine zaj (zah rfl (zaf (zdh (cs := [(zaa x.Negative), x_v]) rfl rfl hL ?_)))
 intro b1 w2 hL3 hS5
 have K4 := ks w hS5
 refine zaf (zal (v := (zab .i64 0)) rfl ?_)
 refine zar (zaj (zaj (zah rfl (zaf (zbh (vs := [(zaa x.Negative), x_v]) zao rfl ti26 rfl (hL3.at 0 rfl rfl) rfl rfl ?_)))))
 obtain ⟨r6, q7, h⟩ := zdp h
 have f10 := (x_h.mono (K4 S))
 refine zaf (zay en65 rfl rfl (halves_w N x x_v _ Any (f10.mono vw_any) r6 q7) ?_)
 rintro _ w10 hE10 ⟨v8, rfl, k9, -⟩
 replace k9 := k9.mono (zbc (S := None) hL3 [])
 have hL10 := hL3.ext hE10
 refine zaf (zba (v := v8) zbt rfl k9 ?_)
 refine zaf (OpY.eql (x := (r6.length : Int)) (y := 0) (((r6.length : Int) : Int) = 0) rfl rfl zbf ?_)
 refine zar ?_
 refine zbk (((r6.length : Int) : Int) = 0) rfl (fun hc10 => ?_) (fun hc10 => ?_)
 ·
  replace h := ite_t hc10 h
  refine zaj (zah rfl (zaf (zal (v := (zab .i64 0)) rfl ?_)))
  refine zar (zbn ?_)
  obtain rfl := zag h
  refine ⟨[(zab .i64 0)], ⟨rfl, trivial⟩, ⟨_, rfl, hL10.done, ?_⟩⟩
  exact ⟨rfl, trivial⟩
 ·
  replace h := ite_f hc10 h
  refine zbl (zaj (zaj (zah rfl (zaf (zap (q := 0) zao rfl ti4 rfl rfl rfl ?_)))))
  refine zaf (zax (v := (zaa x.Negative)) zce rfl rfl (hL10.at 0 rfl rfl) rfl ?_)
  refine zar ?_
  refine zcu x.Negative rfl (fun hc11 => ?_) (fun hc11 => ?_)
  ·
   replace h := ite_t hc11 h
   refine zaj (zah rfl (zaf (zal (v := (zab .i64 (-1))) rfl ?_)))
   refine zar (zbn ?_)
   obtain rfl := zag h
   refine ⟨[(zab .i64 (-1))], ⟨rfl, trivial⟩, ⟨_, rfl, hL10.done, ?_⟩⟩
   exact ⟨rfl, trivial⟩
  ·
   replace h := ite_f hc11 h
   refine zbl (zaj (zah rfl (zaf (zal (v := (zab .i64 1)) rfl ?_))))
   refine zar (zbn ?_)
   obtain rfl := zag h
   refine ⟨[(zab .i64 1)], ⟨rfl, trivial⟩, ⟨_, rfl, hL10.done, ?_⟩⟩
   exact ⟨rfl, trivial⟩
theorem rCompare_w (N : Nat) (a : Big) (b : Big) (a_v : Value) (b_v : Value) (w : World) (S : Nat → Prop) (a_h : Rs (rInt .u32) (vH w S [] w) a_v a.Digits) (b_h : Rs (rInt .u32) (vH w S [] w) b_v b.Digits) (r : Int) (h : rCompare N a b = some r) :
  Calls Try.prog 25 #[(zaq #[(zaa a.Negative), a_v]), (zaq #[(zaa b.Negative), b_v])] w (Ret w (fun v w' => (zab .i64 r) = v ∧ True)) := by
 unfold rCompare at h
 have hL : vL w w [] [] := Go.X.Loc.begin0 w
 refine calls_of (l := [(zaq #[(zaa a.Negative), a_v]), (zaq #[(zaa b.Negative), b_v])]) (rl := [.tmp 4]) (n := 24) Try.func25 rfl rfl rfl (zae rfl) ?_
 refine zaj (zah rfl (zaf (zdh (cs := [(zaa a.Negative), a_v]) rfl rfl hL ?_)))
 intro b1 w2 hL3 hS5
 have K4 := ks w hS5
 refine zaf (zdh (cs := [(zaa b.Negative), b_v]) rfl rfl hL3 ?_)
 intro b6 w7 hL8 hS10
 have K9 := ks w hS10
 refine zaf (zal (v := (zab .i64 0)) rfl ?_)
 refine zar (zaj ?_)
 obtain ⟨r10, q10, h⟩ := zdp h
 refine zcg 3 [] [] (fun W1 => [.det (zaq #[(zaa a.Negative), a_v]), .det (zab .i64 r10), .det (zaq #[(zaa b.Negative), b_v])]) mixed rfl rfl rfl (fun _ => rfl) (fun _ => rfl) ?_ ?_
 ·
  intro W1 _
  exact trivial
 ·
  intro w10 hE10
  have hL10 := hL8.ext hE10
  have K10 := ke hL8 hE10
  refine zak (fun _ hE11 => zas (zbh (vs := [(zaa a.Negative), a_v]) zao rfl ti26 rfl ((hL10.ext hE11).at 1 rfl rfl) rfl rfl (er rfl))) ?_
  refine zdl ?_ ?_
  ·
   rintro w12 Z11 hE12 hZ11 ⟨-⟩
   have K11 := ke hL10 hE12
   refine zas (zay en40 rfl rfl (rSign_w N a a_v _ Any (((((a_h.mono (K4 S)).mono (K9 S)).mono (K10 S)).mono (K11 S)).mono vw_any) r10 q10) ?_)
   rintro _ w13 hE13 ⟨rfl, -⟩
   exact ⟨hE13, rfl⟩
  refine zak (fun _ hE14 => zas (zbh (vs := [(zaa b.Negative), b_v]) zao rfl ti26 rfl ((hL10.ext hE14).at 0 rfl rfl) rfl rfl (er rfl))) ?_
  refine zck ?_
  rintro w15 Z13 hE15 hZ13 ⟨-⟩ ap10
  have hB10 : ∀ b, some b ∈ ([] : List (Option Nat)) → w10.heap.size ≤ b ∧ ¬ Z13 b := by
   intro b hb; cases hb
  have hL13 := hL10.ext hE15
  have K12 := ke hL10 hE15
  obtain ⟨r11, q11, h⟩ := zdp h
  have f10 := ((((b_h.mono (K4 S)).mono (K9 S)).mono (K10 S)).mono (K12 S))
  refine zaf (zay en40 rfl rfl (rSign_w N b b_v _ Any (f10.mono vw_any) r11 q11) ?_)
  rintro _ w16 hE16 ⟨rfl, -⟩
  have hL14 := hL13.ext hE16
  have K13 := ke hL13 hE16
  refine zaf (zal (v := (zab .i64 r10)) rfl ?_)
  refine zaf (zal (v := (zab .i64 r11)) rfl ?_)
  refine zar (zaj (zaj (zah rfl (zaf (zai (v := (zab .i64 r10)) rfl ?_)))))
  refine zaf (zai (v := (zab .i64 r11)) rfl ?_)
  refine zaf (zcv (x := r10) (y := r11) ((r10 : Int) < r11) rfl rfl zbf ?_)
  refine zar ?_
  refine zbk ((r10 : Int) < r11) rfl (fun hc10 => ?_) (fun hc10 => ?_)
  ·
   replace h := ite_t hc10 h
   refine zaj (zah rfl (zaf (zal (v := (zab .i64 (-1))) rfl ?_)))
   refine zar (zbn ?_)
   obtain rfl := zag h
   refine ⟨[(zab .i64 (-1))], ⟨rfl, trivial⟩, ⟨_, rfl, hL14.done, ?_⟩⟩
   exact ⟨rfl, trivial⟩
  ·
   replace h := ite_f hc10 h
   refine zbl (zaj (zaj (zah rfl (zaf (zai (v := (zab .i64 r10)) rfl ?_)))))
   refine zaf (zai (v := (zab .i64 r11)) rfl ?_)
   refine zaf (zdn (x := r10) (y := r11) ((r10 : Int) > r11) rfl rfl zbf ?_)
   refine zar ?_
   refine zbk ((r10 : Int) > r11) rfl (fun hc11 => ?_) (fun hc11 => ?_)
   ·
    replace h := ite_t hc11 h
    refine zaj (zah rfl (zaf (zal (v := (zab .i64 1)) rfl ?_)))
    refine zar (zbn ?_)
    obtain rfl := zag h
    refine ⟨[(zab .i64 1)], ⟨rfl, trivial⟩, ⟨_, rfl, hL14.done, ?_⟩⟩
    exact ⟨rfl, trivial⟩
   ·
    replace h := ite_f hc11 h
    refine zbl (zaj ?_)
    obtain ⟨r12, q12, h⟩ := zdp h
    obtain ⟨r13, q13, h⟩ := zdp h
    obtain ⟨r14, q14, h⟩ := zdp h
    refine zcg 6 [] [] (fun W1 => [.det (zab .i64 r10), .det (zaq #[(zaa a.Negative), a_v]), .rel (fun v Z w' => ∃ v10, v10 = v ∧ Rs (rInt .i64) (vZ W1 w None [some b6, some b1] Z w') v10 r12 ∧ True) (fun _ => []), .det (zaq #[(zaa b.Negative), b_v]), .rel (fun v Z w' => ∃ v11, v11 = v ∧ Rs (rInt .i64) (vZ W1 w None [some b6, some b1] Z w') v11 r13 ∧ True) (fun _ => []), .det (zab .i64 r14)]) mixed rfl rfl rfl (fun _ => rfl) (fun _ => rfl) ?_ ?_
    ·
     intro W1 _
     exact ⟨fun v Z Z' w w' hΦ hz _ _ hs => by obtain ⟨v10, rfl, k10, -⟩ := hΦ; exact ⟨v10, rfl, (k10.mono (zcx hz hs)), trivial⟩, ⟨fun v Z Z' w w' hΦ hz _ _ hs => by obtain ⟨v11, rfl, k11, -⟩ := hΦ; exact ⟨v11, rfl, (k11.mono (zcx hz hs)), trivial⟩, trivial⟩⟩
    ·
     intro w17 hE17
     have hL15 := hL14.ext hE17
     have K14 := ke hL14 hE17
     refine zak (fun _ _ => zas (zai rfl (er rfl))) ?_
     refine zak (fun _ hE19 => zas (zbh (vs := [(zaa a.Negative), a_v]) zao rfl ti26 rfl ((hL15.ext hE19).at 1 rfl rfl) rfl rfl (er rfl))) ?_
     refine zcz ?_ ?_
     ·
      rintro w20 Z16 hE20 hZ16 ⟨-⟩
      have K15 := ke hL15 hE20
      refine zas (zay en65 rfl rfl (halves_w N a a_v _ Any ((((((((a_h.mono (K4 S)).mono (K9 S)).mono (K10 S)).mono (K12 S)).mono (K13 S)).mono (K14 S)).mono (K15 S)).mono vw_any) r12 q12) ?_)
      rintro _ w21 hE21 ⟨v10, rfl, k10, -⟩
      exact zct hE21 hZ16 zcn (fun _ h => h) ⟨v10, rfl, (k10.mono zdj), trivial⟩
     intro z2
     refine zak (fun _ hE22 => zas (zbh (vs := [(zaa b.Negative), b_v]) zao rfl ti26 rfl ((hL15.ext hE22).at 0 rfl rfl) rfl rfl (er rfl))) ?_
     refine zcz ?_ ?_
     ·
      rintro w23 Z18 hE23 hZ18 ⟨⟨⟨v10, rfl, k10, -⟩, hB2⟩, -⟩
      have K16 := ke hL15 hE23
      refine zas (zay en65 rfl rfl (halves_w N b b_v _ Any ((((f10.mono (K13 S)).mono (K14 S)).mono (K16 S)).mono vw_any) r13 q13) ?_)
      rintro _ w24 hE24 ⟨v11, rfl, k11, -⟩
      exact zct hE24 hZ18 zcn (fun _ h => h) ⟨v11, rfl, (k11.mono zdj), trivial⟩
     intro z4
     refine zdl ?_ ?_
     ·
      rintro w25 Z19 hE25 hZ19 ⟨⟨⟨v11, rfl, k11, -⟩, hB4⟩, ⟨⟨v10, rfl, k10, -⟩, hB2⟩, -⟩
      refine zas (zay en64 rfl rfl (rorder_w N r12 r13 v10 v11 _ Any (k10.mono vw_any) (k11.mono vw_any) r14 q14) ?_)
      rintro _ w26 hE26 ⟨rfl, -⟩
      exact ⟨hE26, rfl⟩
     refine zck ?_
     rintro w27 Z20 hE27 hZ20 ⟨⟨⟨v11, rfl, k11, -⟩, hB4⟩, ⟨⟨v10, rfl, k10, -⟩, hB2⟩, -⟩ ap11
     have hB11 : ∀ b, some b ∈ ([] : List (Option Nat)) → w17.heap.size ≤ b ∧ ¬ Z20 b := by
      intro b hb; cases hb
     replace k11 := k11.mono (zdi hL15 hZ20 hB11)
     replace k10 := k10.mono (zdi hL15 hZ20 hB11)
     have hL18 := hL15.ext hE27
     refine zaf (OpY.mul (x := r10) (y := r14) (z := (iw (r10 * r14))) rfl rfl rfl ?_)
     refine zaf (zal (v := (zab .i64 (iw (r10 * r14)))) rfl ?_)
     refine zar (zbn ?_)
     obtain rfl := zag h
     refine ⟨[(zab .i64 (iw (r10 * r14)))], ⟨rfl, trivial⟩, ⟨_, rfl, hL18.done, ?_⟩⟩
     exact ⟨rfl, trivial⟩
theorem rOf_w (N : Nat) (n : Int)  (w : World) (S : Nat → Prop)  (r : Big) (h : rOf N n = some r) :
  Calls Try.prog 37 #[(zab .i64 n)] w (Ret w (fun v w' => ∃ (v0_0 : Value), (zaq #[(zaa r.Negative), v0_0]) = v ∧ Rs (rInt .u32) (vH w None [] w') v0_0 r.Digits ∧ True)) := by
 unfold rOf at h
 have hL : vL w w [] [] := Go.X.Loc.begin0 w
 refine calls_of (l := [(zab .i64 n)]) (rl := [.cell 2 26]) (n := 29) Try.func37 rfl rfl rfl (zae rfl) ?_
 refine zaj (zah rfl (zaf (zch (cs := [(zaa false), (zad none 0 0)]) ti26 rfl hL ?_)))
 intro b1 w2 hL3 hS5
 refine zar (zaj (zah rfl (zaf (zai (v := (zab .i64 n)) rfl ?_))))
 refine zaf (zbr (x := n) (z := (uw n)) Try.underlying2 zbe rfl rfl ?_)
 refine zaf (zal (v := (zab .u64 (uw n))) rfl ?_)
 refine zar (zaj (zaj (zah rfl (zaf (zai (v := (zab .i64 n)) rfl ?_)))))
 refine zaf (zcv (x := n) (y := 0) ((n : Int) < 0) rfl rfl zbf ?_)
 refine zar ?_
 obtain ⟨s9, h, g10⟩ := zdp h
 refine zca (fun e w' => ∃ (u8 : Int) (u : Env), u8 = s9 ∧ e = upds [(0, (zab .i64 n)), (2, (zan (some ⟨b1, 0, none⟩))), (3, (zab .u64 u8))] u ∧ vL w w' [some b1] [zac [(zaa false), (zad none 0 0)]] ∧ Keep w.heap.size [some b1] w2 [some b1] w' ∧ True) ?_ ?_
 ·
  refine zbk ((n : Int) < 0) rfl (fun hc10 => ?_) (fun hc10 => ?_)
  ·
   replace h := ite_t hc10 h
   refine zah rfl (zaf (zai (v := (zab .i64 n)) rfl ?_))
   refine zaf (zcd (x := n) (y := 1) (z := (iw (n + 1))) rfl rfl rfl ?_)
   refine zaf (OpY.neg (x := (iw (n + 1))) (z := (iw (0 - (iw (n + 1))))) rfl rfl ?_)
   refine zaf (zbr (x := (iw (0 - (iw (n + 1))))) (z := (uw (iw (0 - (iw (n + 1)))))) Try.underlying2 zbe rfl rfl ?_)
   refine zaf (zcd (x := (uw (iw (0 - (iw (n + 1)))))) (y := 1) (z := (uw ((uw (iw (0 - (iw (n + 1))))) + 1))) rfl rfl rfl ?_)
   refine zaf (zal (v := (zab .u64 (uw ((uw (iw (0 - (iw (n + 1))))) + 1)))) rfl ?_)
   refine zar ?_
   obtain rfl := zag h
   refine zau ?_
   exact ⟨(uw ((uw (iw (0 - (iw (n + 1))))) + 1)), _, rfl, (zdt ⟨rfl, rfl, rfl, trivial⟩), hL3, zcb, trivial⟩
  ·
   replace h := ite_f hc10 h
   refine zbl ?_
   obtain rfl := zag h
   refine zau ?_
   exact ⟨(uw n), _, rfl, (zdt ⟨rfl, rfl, rfl, trivial⟩), hL3, zcb, trivial⟩
 ·
  rintro _ w10 ⟨u8, u, rfl, rfl, hL10, K10, -⟩
  replace h := g10
  try dsimp only at h
  refine zaj (zah rfl (zaf (OpY.litRow0 zbt ti3 hL10 ?_)))
  intro b10 w11 hL11 hS10
  have hE10 : Els (rInt .i64) (vH w None [some b1] w10) [] [] := zcy
  have K11 := ks w hS10
  refine zaf (zal (v := (osv (some b10) 0 (List.length ([] : (List Int))) 0)) rfl ?_)
  refine zar (zaj ?_)
  obtain ⟨s10, hl10, g11⟩ := zdp h
  refine zca (fun e w' => ∃ (l10 : (List Int)) (ob10 : Option Nat) (cap10 : Nat) (sp10 : List Value) (cs10 : List Value) (ln10 : Nat) (u : Env), l10 = s10 ∧ e = upds [(0, (zab .i64 n)), (2, (zan (some ⟨b1, 0, none⟩))), (4, (osv ob10 0 ln10 cap10))] u ∧ vL w w' [some b1, ob10] [zac [(zaa false), (zad none 0 0)], zac ([] ++ (cs10 ++ sp10))] ∧ Keep w.heap.size [some b10, some b1] w11 [some b1, ob10] w' ∧ Els (rInt .i64) (vH w None [some b1, ob10] w') cs10 l10 ∧ ln10 = List.length l10 ∧ (cs10 ++ sp10).length = cap10 * (rInt .i64).sz ∧ True) ?_ ?_
  ·
   refine zbm ?_
   have hp10 := hL11.pick [1, 0] rfl rfl rfl
   have hL12 : vL w w11 [some b1, some b10] [zac [(zaa false), (zad none 0 0)], zac ([] ++ ([] ++ []))] := hp10.1
   have K12 := ks w hp10.2
   have f10 := ((hE10.mono (K11 None)).mono (K12 None))
   refine zcl hl10 (fun (ss : (Int × (List Int))) (e : Env) (w' : World) => match ss with | (u10, l11) => ∃ (ob11 : Option Nat) (cap11 : Nat) (sp11 : List Value) (cs11 : List Value) (ln11 : Nat) (u : Env), e = upds [(0, (zab .i64 n)), (2, (zan (some ⟨b1, 0, none⟩))), (3, (zab .u64 u10)), (4, (osv ob11 0 ln11 cap11))] u ∧ vL w w' [some b1, ob11] [zac [(zaa false), (zad none 0 0)], zac ([] ++ (cs11 ++ sp11))] ∧ Keep w.heap.size [some b10, some b1] w11 [some b1, ob11] w' ∧ Els (rInt .i64) (vH w None [some b1, ob11] w') cs11 l11 ∧ ln11 = List.length l11 ∧ (cs11 ++ sp11).length = cap11 * (rInt .i64).sz ∧ True) ⟨some b10, 0, [], [], (List.length ([] : (List Int))), _, (zdt ⟨rfl, rfl, rfl, rfl, trivial⟩), hL12, K12, f10, rfl, (show ([] ++ [] : List Value).length = 0 * (rInt .i64).sz by simp), trivial⟩ ?_
   rintro ⟨u10, l11⟩ oo _ w12 ⟨ob11, cap11, sp11, cs11, ln11, u, rfl, hL13, K13, hE11, rfl, hc11, -⟩ h hd10
   rw [rOf_b1] at h
   refine zaj (zaj (zah rfl (zaf (zai (v := (zab .u64 u10)) rfl ?_))))
   refine zaf (zdn (x := u10) (y := 0) ((u10 : Int) > 0) rfl rfl zbf ?_)
   refine zar ?_
   refine zbk ((u10 : Int) > 0) rfl (fun hc12 => ?_) (fun hc12 => ?_)
   ·
    replace h := ite_t hc12 h
    refine zbl (zbm (zaj (zah rfl (zaf (zai (v := (osv ob11 0 l11.length cap11)) rfl ?_)))))
    refine zaf (zai (v := (zab .u64 u10)) rfl ?_)
    refine zaf (OpY.remI (x := u10) (y := 65536) rfl rfl (by decide) ?_)
    refine zaf (zbr (x := (Int.tmod u10 65536)) (z := (iw (Int.tmod u10 65536))) zbe zby rfl rfl ?_)
    have hE12 : Els (rInt .i64) (vH w None [some b1, ob11] w12) [(zab .i64 (iw (Int.tmod u10 65536)))] [(iw (Int.tmod u10 65536))] := (zco (a := [(zab .i64 (iw (Int.tmod u10 65536)))]) rfl zcy)
    refine zaf (zcq (r := (rInt .i64)) (vs := [(zab .i64 (iw (Int.tmod u10 65536)))]) (css := [[(zab .i64 (iw (Int.tmod u10 65536)))]]) (xs := [(iw (Int.tmod u10 65536))]) zbt ti3 (zae rfl) rfl rfl ⟨rfl, rfl, trivial⟩ (zae rfl) hE12 rfl hL13 ?_)
    intro b11 w13 hc13 hL14 hS11
    have K14 := ks w hS11
    obtain ⟨x10, q10, h⟩ := zdp h
    obtain ⟨q11, q12, q13⟩ := apnd_some q10
    have f11 := (hE12.mono (K14 None))
    have f12 := (hE11.mono (K14 None))
    refine zaf (OpY.apRowX (r := (rInt .i64)) (H := (vH w None [some b11, some b1, ob11] w13)) (cs := cs11) (sp := sp11) (xs := l11) (ys := [(iw (Int.tmod u10 65536))]) (Y := x10) (n := l11.length) (cap := cap11) (i := 2) zbt ti3 rfl rfl rfl rfl hL14 rfl rfl f12 rfl hc11 (Src.row (pre := []) (o := 0) (n := 1) (cap := 1) (hL14.at 0 rfl rfl) f11 rfl rfl rfl) (Els.anyH (fun _ _ _ _ h => h) f11) q11 q12 q13 ?_)
    intro ob12 cap12 sp12 cs12 w14 hE13 hc14 (hL15 : vL w w14 [some b11, some b1, ob12] [zac ([] ++ ([(zab .i64 (iw (Int.tmod u10 65536)))] ++ [])), zac [(zaa false), (zad none 0 0)], zac ([] ++ (cs12 ++ sp12))]) hS12
    have K15 := ks w hS12
    refine zaf (zal (v := (osv ob12 0 x10.length cap12)) rfl ?_)
    refine zar (zah rfl (zaf (zai (v := (zab .u64 u10)) rfl ?_)))
    refine zaf (OpY.quoI (x := u10) (y := 65536) (z := (uw (Int.tdiv u10 65536))) rfl rfl (by decide) rfl ?_)
    refine zaf (zal (v := (zab .u64 (uw (Int.tdiv u10 65536)))) rfl ?_)
    refine zar (zbz ?_)
    have hp11 := hL15.pick [1, 2] rfl rfl rfl
    have hL16 : vL w w14 [some b1, ob12] [zac [(zaa false), (zad none 0 0)], zac ([] ++ (cs12 ++ sp12))] := hp11.1
    have K16 := ks w hp11.2
    have f13 := ((hE13.mono (K15 None)).mono (K16 None))
    obtain rfl := zag h
    refine zau ⟨((uw (Int.tdiv u10 65536)), x10), rfl, ?_⟩
    exact ⟨ob12, cap12, sp12, cs12, x10.length, _, (zdt ⟨rfl, rfl, rfl, rfl, trivial⟩), hL16, (zat (zat (zat K13 K14) K15) K16), f13, rfl, hc14, trivial⟩
   ·
    replace h := ite_f hc12 h
    refine zcs rfl ?_
    obtain rfl := zag h
    obtain rfl := hd10 _ rfl
    replace h := g11
    try dsimp only at h
    skip
    refine zau ?_
    exact ⟨l11, ob11, cap11, sp11, cs11, l11.length, _, rfl, (zdt ⟨rfl, rfl, rfl, trivial⟩), hL13, K13, hE11, rfl, hc11, trivial⟩
  ·
   rintro _ w15 ⟨l10, ob10, cap10, sp10, cs10, ln10, u, rfl, rfl, hL17, K17, hE14, rfl, hc15, -⟩
   replace h := g11
   try dsimp only at h
   refine zaj (zah rfl (zaf (zai (v := (zab .i64 n)) rfl ?_)))
   refine zaf (zcv (x := n) (y := 0) ((n : Int) < 0) rfl rfl zbf ?_)
   refine zaf (zai (v := (osv ob10 0 l10.length cap10)) rfl ?_)
   obtain ⟨r10, q14, h⟩ := zdp h
   refine zaf (zay en68 rfl rfl (rbig_w N (decide ((n : Int) < 0)) l10 (osv ob10 0 l10.length cap10) _ Any (zdv (pre := []) (o := 0) (n := l10.length) (cap := cap10) (hL17.at 1 rfl rfl) hE14 vw_any rfl rfl rfl hc15) r10 q14) ?_)
   rintro _ w16 hE15 ⟨v10, rfl, k10, -⟩
   replace k10 := k10.mono (zbc (S := None) hL17 [])
   have hL18 := hL17.ext hE15
   refine zcj (zbs (vs := [(zaa r10.Negative), v10]) ti26 rfl rfl rfl rfl (zds rfl (zds k10.one zdw)) hL18 0 rfl rfl (zae rfl) ?_)
   intro w17 (hL19 : vL w w17 [some b1, ob10] [zac [(zaa r10.Negative), v10], zac ([] ++ (cs10 ++ sp10))]) hS13
   have K18 := ks w hS13
   refine zar (zbn ?_)
   obtain rfl := zag h
   refine ⟨[(zaq #[(zaa r10.Negative), v10])], ⟨⟨⟨b1, 0, none⟩, rfl, zdz zao rfl ti26 (hL19.at 0 rfl rfl) rfl⟩, trivial⟩, ⟨_, rfl, hL19.done, ?_⟩⟩
   have f14 := (k10.mono (K18 None))
   exact ⟨v10, rfl, (f14.mono zdm), trivial⟩
theorem rSame_w (N : Nat) (a : Big) (b : Big) (a_v : Value) (b_v : Value) (w : World) (S : Nat → Prop) (a_h : Rs (rInt .u32) (vH w S [] w) a_v a.Digits) (b_h : Rs (rInt .u32) (vH w S [] w) b_v b.Digits) (r : Bool) (h : rSame N a b = some r) :
  Calls Try.prog 23 #[(zaq #[(zaa a.Negative), a_v]), (zaq #[(zaa b.Negative), b_v])] w (Ret w (fun v w' => (zaa r) = v ∧ True)) := by
 unfold rSame at h
 have hL : vL w w [] [] := Go.X.Loc.begin0 w
 refine calls_of (l := [(zaq #[(zaa a.Negative), a_v]), (zaq #[(zaa b.Negative), b_v])]) (rl := [.tmp 4]) (n := 38) Try.func23 rfl rfl rfl (zae rfl) ?_
 refine zaj (zah rfl (zaf (zdh (cs := [(zaa a.Negative), a_v]) rfl rfl hL ?_)))
 intro b1 w2 hL3 hS5
 have K4 := ks w hS5
 refine zaf (zdh (cs := [(zaa b.Negative), b_v]) rfl rfl hL3 ?_)
 intro b6 w7 hL8 hS10
 have K9 := ks w hS10
 refine zaf (zal (v := (zaa false)) rfl ?_)
 refine zar (zaj (zaj ?_))
 obtain ⟨s10, h, g10⟩ := zdp h
 refine zca (fun e w' => ∃ (x10 : Bool) (u : Env), x10 = s10 ∧ e = upds [(2, (zan (some ⟨b1, 0, none⟩))), (3, (zan (some ⟨b6, 0, none⟩))), (19, (zaa x10))] u ∧ vL w w' [some b1, some b6] [zac [(zaa a.Negative), a_v], zac [(zaa b.Negative), b_v]] ∧ Keep w.heap.size [some b6, some b1] w7 [some b1, some b6] w' ∧ True) ?_ ?_
 ·
  refine zah rfl (zaf (zap (q := 0) zao rfl ti4 rfl rfl rfl ?_))
  refine zaf (zax (v := (zaa a.Negative)) zce rfl rfl (hL8.at 1 rfl rfl) rfl ?_)
  refine zaf (zap (q := 0) zao rfl ti4 rfl rfl rfl ?_)
  refine zaf (zax (v := (zaa b.Negative)) zce rfl rfl (hL8.at 0 rfl rfl) rfl ?_)
  refine zaf (OpY.neqBool (x := a.Negative) (y := b.Negative) zce rfl rfl ?_)
  refine zaf (zai (v := (zaa (!(a.Negative == b.Negative)))) rfl ?_)
  by_cases hc10 : (!(a.Negative == b.Negative)) = true
  ·
   replace h := ite_t hc10 h
   refine zbx rfl rfl hc10 ?_
   refine zbx rfl rfl hc10 ?_
   refine zbx rfl rfl hc10 ?_
   refine zbx rfl rfl hc10 ?_
   refine zbx rfl rfl hc10 ?_
   refine zbx rfl rfl hc10 ?_
   refine zbx rfl rfl hc10 ?_
   refine zaf (zbu (t := (!(a.Negative == b.Negative))) (v := (zaa true)) rfl hc10 rfl ?_)
   refine zar ?_
   have hp10 := hL8.pick [1, 0] rfl rfl rfl
   have hL10 : vL w w7 [some b1, some b6] [zac [(zaa a.Negative), a_v], zac [(zaa b.Negative), b_v]] := hp10.1
   have K10 := ks w hp10.2
   obtain rfl := zag h
   refine zau ?_
   exact ⟨true, _, rfl, (zdt ⟨rfl, rfl, rfl, trivial⟩), hL10, K10, trivial⟩
  ·
   replace h := ite_f hc10 h
   refine zcc rfl rfl (zdq hc10) (zap (q := 1) zao rfl ti24 rfl rfl rfl ?_)
   refine zcc rfl rfl (zdq hc10) (zax (v := a_v) zam rfl rfl (hL8.at 1 rfl rfl) rfl ?_)
   have f10 := ((a_h.mono (K4 S)).mono (K9 S))
   refine zcc rfl rfl (zdq hc10) (zba (v := a_v) zam rfl f10 ?_)
   refine zcc rfl rfl (zdq hc10) (zap (q := 1) zao rfl ti24 rfl rfl rfl ?_)
   refine zcc rfl rfl (zdq hc10) (zax (v := b_v) zam rfl rfl (hL8.at 0 rfl rfl) rfl ?_)
   have f11 := ((b_h.mono (K4 S)).mono (K9 S))
   refine zcc rfl rfl (zdq hc10) (zba (v := b_v) zam rfl f11 ?_)
   refine zcc rfl rfl (zdq hc10) (zcw (x := (a.Digits.length : Int)) (y := (b.Digits.length : Int)) (((a.Digits.length : Int) : Int) ≠ (b.Digits.length : Int)) rfl rfl zbf ?_)
   refine zaf (zbo (t := (!(a.Negative == b.Negative))) (v := (zaa (decide (((a.Digits.length : Int) : Int) ≠ (b.Digits.length : Int))))) rfl (zdq hc10) rfl ?_)
   refine zar ?_
   have hp11 := hL8.pick [1, 0] rfl rfl rfl
   have hL11 : vL w w7 [some b1, some b6] [zac [(zaa a.Negative), a_v], zac [(zaa b.Negative), b_v]] := hp11.1
   have K11 := ks w hp11.2
   obtain rfl := zag h
   refine zau ?_
   exact ⟨(decide (((a.Digits.length : Int) : Int) ≠ (b.Digits.length : Int))), _, rfl, (zdt ⟨rfl, rfl, rfl, trivial⟩), hL11, K11, trivial⟩
 ·
  rintro _ w10 ⟨x10, u, rfl, rfl, hL12, K12, -⟩
  replace h := g10
  try dsimp only at h
  refine zcu x10 rfl (fun hc11 => ?_) (fun hc11 => ?_)
  ·
   replace h := ite_t hc11 h
   refine zaj (zah rfl (zaf (zal (v := (zaa false)) rfl ?_)))
   refine zar (zbn ?_)
   obtain rfl := zag h
   refine ⟨[(zaa false)], ⟨rfl, trivial⟩, ⟨_, rfl, hL12.done, ?_⟩⟩
   exact ⟨rfl, trivial⟩
  ·
   replace h := ite_f hc11 h
   refine zbl (zaj (zaj (zah rfl (zaf (zal (v := (zab .i64 0)) rfl ?_)))))
   refine zar ?_
   obtain ⟨s11, hl10, g11⟩ := zdp h
   refine zca (fun e w' => ∃  (u : Env), (Sum.inl ()) = s11 ∧ e = upds [] u ∧ vL w w' [] [] ∧ Keep w.heap.size [some b1, some b6] w10 [] w' ∧ True) ?_ ?_
   ·
    refine zbm ?_
    refine zcl hl10 (fun (ss : Int) (e : Env) (w' : World) => match ss with | i10 => ∃ (u : Env), e = upds [(2, (zan (some ⟨b1, 0, none⟩))), (3, (zan (some ⟨b6, 0, none⟩))), (5, (zab .i64 i10))] u ∧ vL w w' [some b1, some b6] [zac [(zaa a.Negative), a_v], zac [(zaa b.Negative), b_v]] ∧ Keep w.heap.size [some b1, some b6] w10 [some b1, some b6] w' ∧ True) ⟨_, (zdt ⟨rfl, rfl, rfl, trivial⟩), hL12, zcb, trivial⟩ ?_
    rintro i10 oo _ w11 ⟨u, rfl, hL13, K13, -⟩ h hd10
    rw [rSame_b1] at h
    refine zaj (zaj (zah rfl (zaf (zai (v := (zab .i64 i10)) rfl ?_))))
    refine zaf (zap (q := 1) zao rfl ti24 rfl rfl rfl ?_)
    refine zaf (zax (v := a_v) zam rfl rfl (hL13.at 0 rfl rfl) rfl ?_)
    have f12 := ((((a_h.mono (K4 S)).mono (K9 S)).mono (K12 S)).mono (K13 S))
    refine zaf (zba (v := a_v) zam rfl f12 ?_)
    refine zaf (zcv (x := i10) (y := (a.Digits.length : Int)) ((i10 : Int) < (a.Digits.length : Int)) rfl rfl zbf ?_)
    refine zar ?_
    refine zbk ((i10 : Int) < (a.Digits.length : Int)) rfl (fun hc12 => ?_) (fun hc12 => ?_)
    ·
     replace h := ite_t hc12 h
     refine zbl (zaj (zbm (zaj ?_)))
     obtain ⟨x11, q10, h⟩ := zdp h
     obtain ⟨n10, q11, q12⟩ := zdu q10
     obtain ⟨b10, o10, c10, vs10, q13, q14, f13, q15⟩ := zdb f12 q12
     obtain rfl := q15
     obtain ⟨x12, q16, h⟩ := zdp h
     obtain ⟨n11, q17, q18⟩ := zdu q16
     have f14 := ((((b_h.mono (K4 S)).mono (K9 S)).mono (K12 S)).mono (K13 S))
     obtain ⟨b11, o11, c11, vs11, q19, q20, f15, q21⟩ := zdb f14 q18
     obtain rfl := q21
     refine zcg 10 [] [] (fun W1 => [.det (zan (some ⟨b1, 1, none⟩)), .det a_v, .det (zab .i64 i10), .det (zan (some ⟨b10, (o10 + n10 * (rInt .u32).sz), none⟩)), .det (zab .u32 x11), .det (zan (some ⟨b6, 1, none⟩)), .det b_v, .det (zab .i64 i10), .det (zan (some ⟨b11, (o11 + n11 * (rInt .u32).sz), none⟩)), .det (zab .u32 x12)]) mixed rfl rfl rfl (fun _ => rfl) (fun _ => rfl) ?_ ?_
     ·
      intro W1 _
      exact trivial
     ·
      intro w12 hE10
      have hL14 := hL13.ext hE10
      have K14 := ke hL13 hE10
      refine zak (fun _ _ => zas (zap zao rfl ti24 rfl rfl rfl (er rfl))) ?_
      refine zak (fun _ hE12 => zas (zax zam rfl rfl ((hL14.ext hE12).at 0 rfl rfl) rfl (er rfl))) ?_
      refine zak (fun _ _ => zas (zai rfl (er rfl))) ?_
      refine zak (fun _ _ => zas (zbw (r := (rInt .u32)) (v := a_v) (n := n10) (m := (o10 + n10 * (rInt .u32).sz)) zam ti89 rfl q13 rfl q11 q12 rfl (er rfl))) ?_
      refine zak (fun _ hE15 => zas (zcp zaw rfl rfl zdy (zcr ((ke hL14 hE15) S) (zcr (K14 S) f13)) (er rfl))) ?_
      refine zak (fun _ _ => zas (zap zao rfl ti24 rfl rfl rfl (er rfl))) ?_
      refine zak (fun _ hE17 => zas (zax zam rfl rfl ((hL14.ext hE17).at 1 rfl rfl) rfl (er rfl))) ?_
      refine zak (fun _ _ => zas (zai rfl (er rfl))) ?_
      refine zak (fun _ _ => zas (zbw (r := (rInt .u32)) (v := b_v) (n := n11) (m := (o11 + n11 * (rInt .u32).sz)) zam ti89 rfl q19 rfl q17 q18 rfl (er rfl))) ?_
      refine zak (fun _ hE20 => zas (zcp zaw rfl rfl zdy (zcr ((ke hL14 hE20) S) (zcr (K14 S) f15)) (er rfl))) ?_
      refine zck ?_
      rintro w23 Z20 hE21 hZ20 ⟨-⟩ ap10
      have hB10 : ∀ b, some b ∈ ([] : List (Option Nat)) → w12.heap.size ≤ b ∧ ¬ Z20 b := by
       intro b hb; cases hb
      have hL17 := hL14.ext hE21
      have K17 := ke hL14 hE21
      refine zaf (zcw (x := x11) (y := x12) ((x11 : Int) ≠ x12) rfl rfl zbf ?_)
      refine zar ?_
      refine zbk ((x11 : Int) ≠ x12) rfl (fun hc13 => ?_) (fun hc13 => ?_)
      ·
       replace h := ite_t hc13 h
       refine zaj (zah rfl (zaf (zal (v := (zaa false)) rfl ?_)))
       refine zar (zbn ?_)
       obtain rfl := zag h
       obtain rfl := hd10 _ rfl
       replace h := g11
       try dsimp only at h
       obtain rfl := zag h
       refine ⟨[(zaa false)], ⟨rfl, trivial⟩, ⟨_, rfl, hL17.done, ?_⟩⟩
       exact ⟨rfl, trivial⟩
      ·
       replace h := ite_f hc13 h
       refine zbl (zbz (zah rfl (zaf (zai (v := (zab .i64 i10)) rfl ?_))))
       refine zaf (zcd (x := i10) (y := 1) (z := (iw (i10 + 1))) rfl rfl rfl ?_)
       refine zaf (zal (v := (zab .i64 (iw (i10 + 1)))) rfl ?_)
       refine zar ?_
       obtain rfl := zag h
       refine zau ⟨(iw (i10 + 1)), rfl, ?_⟩
       exact ⟨_, (zdt ⟨rfl, rfl, rfl, trivial⟩), hL17, (zat (zat K13 K14) K17), trivial⟩
    ·
     replace h := ite_f hc12 h
     refine zcs rfl ?_
     have hp12 := hL13.pick [] rfl rfl rfl
     have hL18 : vL w w11 [] [] := hp12.1
     have K18 := ks w hp12.2
     obtain rfl := zag h
     obtain rfl := hd10 _ rfl
     replace h := g11
     try dsimp only at h
     skip
     refine zau ?_
     exact ⟨_, rfl, (zdt trivial), hL18, (zat K13 K18), trivial⟩
   ·
    rintro _ w24 ⟨u, rfl, rfl, hL19, K19, -⟩
    replace h := g11
    try dsimp only at h
    refine zaj (zah rfl (zaf (zal (v := (zaa true)) rfl ?_)))
    refine zar (zbn ?_)
    obtain rfl := zag h
    refine ⟨[(zaa true)], ⟨rfl, trivial⟩, ⟨_, rfl, hL19.done, ?_⟩⟩
    exact ⟨rfl, trivial⟩
end Go.Proofs.Ytakkacdhlocckaa.WR

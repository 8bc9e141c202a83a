/- Walks, written by a program of mine (wip/tool); the kernel checks them. -/
import Derived.Test.YtcakdidcpoolcaaGreatDoorProg
import Derived.Test.YtcakdidcpoolcaaGreatDoorSqText
import Derived.Test.YtcakdidcpoolcaaGreatDoorBl25
import Derived.Test.YtcakdidcpoolcaaGreatDoorF25
import Derived.Test.YtcakdidcpoolcaaGreatDoorPR
import Derived.Test.YtcakdidcpoolcaaGreatDoorWAText
set_option maxRecDepth 100000
set_option maxHeartbeats 40000000
set_option linter.unusedVariables false
set_option linter.unusedSimpArgs false
namespace Go.Proofs.YtcakdidcpoolcaaGreatDoor.WR
open Go Go.RowKit Go.X Go.D Go.Proofs.YtcakdidcpoolcaaGreatDoor.WF Go.Proofs.YtcakdidcpoolcaaGreatDoor.WA
theorem ti3 : TI Tryz.prog 3 1 8 (zI 0) := TI.mk (by kernel_rfl)
theorem ti55 : TI Tryz.prog 55 1 24 zN := TI.mk (by kernel_rfl)
theorem en110 : Go.X.Enters Tryz.prog 110 := ⟨Tryz.f110, Tryz.func110, by kernel_rfl, by kernel_rfl⟩
theorem en112 : Go.X.Enters Tryz.prog 112 := ⟨Tryz.f112, Tryz.func112, by kernel_rfl, by kernel_rfl⟩
theorem en113 : Go.X.Enters Tryz.prog 113 := ⟨Tryz.f113, Tryz.func113, by kernel_rfl, by kernel_rfl⟩
theorem en114 : Go.X.Enters Tryz.prog 114 := ⟨Tryz.f114, Tryz.func114, by kernel_rfl, by kernel_rfl⟩
theorem en80 : Go.X.Enters Tryz.prog 80 := ⟨Tryz.f80, Tryz.func80, by kernel_rfl, by kernel_rfl⟩
theorem en111 : Go.X.Enters Tryz.prog 111 := ⟨Tryz.f111, Tryz.func111, by kernel_rfl, by kernel_rfl⟩
theorem en144 : Go.X.Enters Tryz.prog 144 := ⟨Tryz.f144, Tryz.func144, by kernel_rfl, by kernel_rfl⟩
theorem ti5 : TI Tryz.prog 5 1 1 (zaa .u8 0) := TI.mk (by kernel_rfl)
theorem ti4 : TI Tryz.prog 4 1 1 zF := TI.mk (by kernel_rfl)
theorem rtrim_w (N : Nat) (l : (List Int)) (l_v : Value) (w : World) (S : Nat → Prop) (l_h : Rs rI (vH w S [] w) l_v l) (r : (List Int)) (h : rtrim N l = some r) :
  Calls Tryz.prog 110 #[l_v] w (Ret w (fun v w' => ∃ (v0_0 : Value), v0_0 = v ∧ Rs rI (vH w S [] w') v0_0 r ∧ True)) := by
 unfold rtrim at h
 have hL : vL w w [] [] := Go.X.Loc.begin0 w
 refine calls_of (l := [l_v]) (rl := [.tmp 2]) (n := 21) Tryz.func110 rfl rfl rfl (zae rfl) ?_
 refine zaj (zaf rfl (zag (zak (v := zN) rfl ?_)))
 refine zan (zaj ?_)
 obtain ⟨s10, hl10, g10⟩ := zec h
 refine zbs (fun e w' => ∃ (l10 : (List Int)) (v10 : Value) (u : Env), l10 = s10 ∧ e = upds [(0, v10)] u ∧ vL w w' [] [] ∧ Keep w.heap.size [] w [] w' ∧ Rs rI (vH w S [] w') v10 l10 ∧ True) ?_ ?_
 ·
  refine zbb ?_
  refine zcb hl10 (fun (ss : (List Int)) (e : Env) (w' : World) => match ss with | l11 => ∃ (v11 : Value) (u : Env), e = upds [(0, v11)] u ∧ vL w w' [] [] ∧ Keep w.heap.size [] w [] w' ∧ Rs rI (vH w S [] w') v11 l11 ∧ True) ⟨l_v, _, (zeg zrt), hL, zbq, l_h, trivial⟩ ?_
  rintro l11 oo _ w10 ⟨v11, u, rfl, hL10, K10, k10, -⟩ h hd10
  rw [rtrim_b1] at h
  refine zaj (zaj ?_)
  obtain ⟨s11, h, g11⟩ := zec h
  refine zbs (fun e w' => ∃ (x10 : Bool) (u : Env), x10 = s11 ∧ e = upds [(0, v11), (14, (zab x10))] u ∧ vL w w' [] [] ∧ Keep w.heap.size [] w10 [] w' ∧ True) ?_ ?_
  ·
   refine zaf rfl (zag (zai (v := v11) rfl ?_))
   refine zag (zbc (v := v11) zav rfl k10 ?_)
   refine zag (OpY.gtr (x := (l11.length : Int)) (y := 0) (((l11.length : Int) : Int) > 0) rfl rfl zbd ?_)
   refine zag (zai (v := (zab (decide (((l11.length : Int) : Int) > 0)))) rfl ?_)
   by_cases hc10 : ((l11.length : Int) : Int) > 0
   ·
    replace h := ite_t hc10 h
    refine zbt rfl rfl (zef hc10) (zai (v := v11) rfl ?_)
    refine zbt rfl rfl (zef hc10) (zai (v := v11) rfl ?_)
    refine zbt rfl rfl (zef hc10) (zbc (v := v11) zav rfl k10 ?_)
    refine zbt rfl rfl (zef hc10) (zdz (x := (l11.length : Int)) (y := 1) (z := (iw ((l11.length : Int) - 1))) rfl rfl rfl ?_)
    obtain ⟨x11, n10, q11, q12, -, h⟩ := zix h
    obtain ⟨b10, o10, c10, vs10, q13, q14, f10, q15⟩ := zcw k10 q12
    obtain rfl := q15
    refine zbt rfl rfl (zef hc10) (zbp (r := rI) (v := v11) (n := n10) (m := (o10 + n10 * rI.sz)) zav ti3 rfl q13 rfl q11 q12 rfl ?_)
    refine zbt rfl rfl (zef hc10) (zca (v := (zI x11)) zax rfl rfl zek f10 ?_)
    refine zbt rfl rfl (zef hc10) (zdp (x := x11) (y := 0) ((x11 : Int) = 0) rfl rfl zbd ?_)
    refine zag (zce (t := (decide (((l11.length : Int) : Int) > 0))) (v := (zab (decide ((x11 : Int) = 0)))) rfl (zef hc10) rfl (zan ?_))
    obtain rfl := zah h
    refine zaq ?_
    exact ⟨(decide ((x11 : Int) = 0)), _, rfl, (zeg ⟨rfl, rfl, trivial⟩), hL10, zbq, trivial⟩
   replace h := ite_f hc10 h
   refine zcl rfl rfl (zed hc10) (zcl rfl rfl (zed hc10) (zcl rfl rfl (zed hc10) (zcl rfl rfl (zed hc10) (zcl rfl rfl (zed hc10) (zcl rfl rfl (zed hc10) (zcl rfl rfl (zed hc10) ?_))))))
   refine zag (zcv (t := (decide (((l11.length : Int) : Int) > 0))) (v := zF) rfl (zed hc10) rfl (zan ?_))
   obtain rfl := zah h
   refine zaq ?_
   exact ⟨false, _, rfl, (zeg ⟨rfl, rfl, trivial⟩), hL10, zbq, trivial⟩
  rintro _ w11 ⟨x10, u, rfl, rfl, hL11, K11, -⟩
  replace h := g11
  try dsimp only at h
  refine zcq x10 rfl (fun hc11 => ?_) (fun hc11 => ?_)
  ·
   replace h := ite_t hc11 h
   refine zbf (zbb (zaf rfl (zag (zai (v := v11) rfl ?_))))
   refine zag (zai (v := v11) rfl ?_)
   have f11 := (k10.mono (K11 S))
   refine zag (zbc (v := v11) zav rfl f11 ?_)
   refine zag (zdz (x := (l11.length : Int)) (y := 1) (z := (iw ((l11.length : Int) - 1))) rfl rfl rfl ?_)
   obtain ⟨x12, q16, h⟩ := zec h
   obtain ⟨m10, n11, q17, q18, q19, q20, q21⟩ := cut_some q16
   refine zag (OpY.cutRoX (l := m10) (h' := n11) zav ti3 rfl f11 (.inl ⟨rfl, by omega⟩) (.inr ⟨_, _, rfl, by rw [← q18]; rfl⟩) q19 q20 q21 ?_)
   intro v12 k11
   refine zag (zak (v := v12) rfl ?_)
   refine zan (zbn ?_)
   obtain rfl := zah h
   refine zaq ⟨x12, rfl, ?_⟩
   exact ⟨v12, _, (zeg zrt), hL11, (zao K10 K11), k11, trivial⟩
  replace h := ite_f hc11 h
  refine zck rfl ?_
  have f12 := (k10.mono (K11 S))
  obtain rfl := zah h
  obtain rfl := hd10 _ rfl
  replace h := g10
  try dsimp only at h
  refine zaq ?_
  exact ⟨l11, v11, _, rfl, (zeg zrt), hL11, (zao K10 K11), f12, trivial⟩
 rintro _ w12 ⟨l10, v10, u, rfl, rfl, hL12, K12, k12, -⟩
 replace h := g10
 try dsimp only at h
 refine zaj (zaf rfl (zag (zai (v := v10) rfl ?_)))
 refine zag (zak (v := v10) rfl ?_)
 refine zan (zbi ?_)
 obtain rfl := zah h
 refine ⟨[v10], zrt, ⟨_, rfl, hL12.done, ?_⟩⟩
 exact ⟨v10, rfl, (k12.mono zea), trivial⟩
theorem halves_w (N : Nat) (x : Big) (x_v : Value) (w : World) (S : Nat → Prop) (x_h : Rs (rInt .u32) (vH w S [] w) x_v x.Digits) (r : (List Int)) (h : halves N x = some r) :
  Calls Tryz.prog 111 #[(zap #[(zab x.Negative), x_v])] w (Ret w (fun v w' => ∃ (v0_0 : Value), v0_0 = v ∧ Rs rI (vH w None [] w') v0_0 r ∧ True)) := by
 unfold halves at h
 have hL : vL w w [] [] := Go.X.Loc.begin0 w
 refine calls_of (l := [(zap #[(zab x.Negative), x_v])]) (rl := [.tmp 2]) (n := 32) Tryz.func111 rfl rfl rfl (zae rfl) ?_
 refine zaj (zaf rfl (zag (zdj (cs := [(zab x.Negative), x_v]) rfl rfl hL ?_)))
 intro b1 w2 hL3 hS5
 have K4 := ks w hS5
 refine zag (zak (v := zN) rfl ?_)
 refine zan (zaj (zaf rfl (zag (OpY.litRow0 zav ti3 hL3 ?_))))
 intro b6 w10 hL10 hS10
 have hE10 : Els rI (vH w None [some b1] w2) [] [] := zcm
 have K10 := ks w hS10
 refine zag (zak (v := (osv (some b6) 0 (List.length ([] : (List Int))) 0)) rfl ?_)
 refine zan (zaj (zaj (zaf rfl (zag (zak (v := (zI 0)) rfl (zan ?_))))))
 obtain ⟨s10, hl10, g10⟩ := zec h
 refine zbs (fun e w' => ∃ (l10 : (List Int)) (ob10 : Option Nat) (cap10 : Nat) (sp10 : List Value) (cs10 : List Value) (ln10 : Nat) (u : Env), l10 = s10 ∧ e = upds [(3, (osv ob10 0 ln10 cap10))] u ∧ vL w w' [ob10] [zac ([] ++ (cs10 ++ sp10))] ∧ Keep w.heap.size [some b6, some b1] w10 [ob10] w' ∧ Els rI (vH w None [ob10] w') cs10 l10 ∧ ln10 = List.length l10 ∧ (cs10 ++ sp10).length = cap10 * rI.sz ∧ True) ?_ ?_
 ·
  refine zbb ?_
  have hp10 := hL10.pick [1, 0] rfl rfl rfl
  have hL11 : vL w w10 [some b1, some b6] [zac [(zab x.Negative), x_v], zac ([] ++ ([] ++ []))] := hp10.1
  have K11 := ks w hp10.2
  have f10 := ((hE10.mono (K10 None)).mono (K11 None))
  refine zcb hl10 (fun (ss : ((List Int) × Int)) (e : Env) (w' : World) => match ss with | (l11, i10) => ∃ (ob11 : Option Nat) (cap11 : Nat) (sp11 : List Value) (cs11 : List Value) (ln11 : Nat) (u : Env), e = upds [(1, (zal (some ⟨b1, 0, none⟩))), (3, (osv ob11 0 ln11 cap11)), (4, (zI i10))] u ∧ vL w w' [some b1, ob11] [zac [(zab x.Negative), x_v], zac ([] ++ (cs11 ++ sp11))] ∧ Keep w.heap.size [some b6, some b1] w10 [some b1, ob11] w' ∧ Els rI (vH w None [some b1, ob11] w') cs11 l11 ∧ ln11 = List.length l11 ∧ (cs11 ++ sp11).length = cap11 * rI.sz ∧ True) ⟨some b6, 0, [], [], (List.length ([] : (List Int))), _, (zeg ⟨rfl, rfl, rfl, trivial⟩), hL11, K11, f10, rfl, (show ([] ++ [] : List Value).length = 0 * rI.sz by simp), trivial⟩ ?_
  rintro ⟨l11, i10⟩ oo _ w11 ⟨ob11, cap11, sp11, cs11, ln11, u, rfl, hL12, K12, hE11, rfl, hc10, -⟩ h hd10
  rw [halves_b1] at h
  refine zaj (zaj (zaf rfl (zag (zai (v := (zI i10)) rfl ?_))))
  refine zag (zam (q := 1) zar rfl ti55 rfl rfl rfl ?_)
  refine zag (zau (v := x_v) zas rfl rfl (hL12.at 0 rfl rfl) rfl ?_)
  have f11 := (((x_h.mono (K4 S)).mono (K10 S)).mono (K12 S))
  refine zag (zbc (v := x_v) zas rfl f11 ?_)
  refine zag (zci (x := i10) (y := (x.Digits.length : Int)) ((i10 : Int) < (x.Digits.length : Int)) rfl rfl zbd (zan ?_))
  refine zba ((i10 : Int) < (x.Digits.length : Int)) rfl (fun hc11 => ?_) (fun hc11 => ?_)
  ·
   replace h := ite_t hc11 h
   refine zbf (zaj (zbb ?_))
   obtain ⟨x10, n10, q11, q12, -, h⟩ := zix h
   obtain ⟨b10, o10, c10, vs10, q13, q14, f12, q15⟩ := zcw f11 q12
   obtain rfl := q15
   obtain ⟨x11, n11, q17, q18, -, h⟩ := zix h
   obtain ⟨b11, o11, c11, vs11, q19, q20, f13, q21⟩ := zcw f11 q18
   obtain rfl := q21
   refine zcj 16 [] [] (fun W1 => [.det (zO ob11 l11 cap11), .det (zal (some ⟨b1, 1, none⟩)), .det x_v, .det (zI i10), .det (zal (some ⟨b10, (o10 + n10 * (rInt .u32).sz), none⟩)), .det (zaa .u32 x10), .det (zaa .u32 (Int.tmod x10 65536)), .det (zI (iw (Int.tmod x10 65536))), .det (zal (some ⟨b1, 1, none⟩)), .det x_v, .det (zI i10), .det (zal (some ⟨b11, (o11 + n11 * (rInt .u32).sz), none⟩)), .det (zaa .u32 x11), .det (zaa .u32 (uw32 (Int.tdiv x11 65536))), .det (zI (iw (uw32 (Int.tdiv x11 65536)))), .rel (fun v Z w' => ∃ b12 cs12, (osv (some b12) 0 2 2) = v ∧ OwnC w' (some b12) (zac ([] ++ (cs12 ++ []))) ∧ Els rI (vZ W1 w None [some b1, ob11] Z w') cs12 [(iw (Int.tmod x10 65536)), (iw (uw32 (Int.tdiv x11 65536)))] ∧ (cs12 ++ [] : List Value).length = 2 * rI.sz ∧ True) footV]) mixed rfl rfl rfl (fun _ => rfl) (fun _ => rfl) ?_ ?_
   ·
    intro W1 _
    exact ⟨fun v Z Z' w w' hΦ hz _ _ hs => by obtain ⟨b12, cs12, rfl, hO10, hE12, hc12, -⟩ := hΦ; exact ⟨b12, cs12, rfl, (hO10.stay (fun b hb => by cases hb; exact zbm) hs), (hE12.mono (zdo hz hs)), hc12, trivial⟩, trivial⟩
   intro w12 hE13
   obtain ⟨hL13, K13⟩ := zl hL12 hE13
   refine zat (fun _ _ => zaw (zai rfl (er rfl))) ?_
   refine zat (fun _ _ => zaw (zam zar rfl ti55 rfl rfl rfl (er rfl))) ?_
   refine zat (fun _ hE16 => zaw (zau zas rfl rfl ((hL13.ext hE16).at 0 rfl rfl) rfl (er rfl))) ?_
   refine zat (fun _ _ => zaw (zai rfl (er rfl))) ?_
   refine zat (fun _ _ => zaw (zbp (r := (rInt .u32)) (v := x_v) (n := n10) (m := (o10 + n10 * (rInt .u32).sz)) zas ti177 rfl q13 rfl q11 q12 rfl (er rfl))) ?_
   refine zat (fun _ hE19 => zaw (zca zbg rfl rfl zek (zda ((ke hL13 hE19) S) (zda (K13 S) f12)) (er rfl))) ?_
   refine zat (fun _ _ => zaw (OpY.remI (x := x10) (y := 65536) rfl rfl (by decide) (er rfl))) ?_
   refine zat (fun _ _ => zaw (zcr zbg zax rfl rfl (er rfl))) ?_
   refine zat (fun _ _ => zaw (zam zar rfl ti55 rfl rfl rfl (er rfl))) ?_
   refine zat (fun _ hE23 => zaw (zau zas rfl rfl ((hL13.ext hE23).at 0 rfl rfl) rfl (er rfl))) ?_
   refine zat (fun _ _ => zaw (zai rfl (er rfl))) ?_
   refine zat (fun _ _ => zaw (zbp (r := (rInt .u32)) (v := x_v) (n := n11) (m := (o11 + n11 * (rInt .u32).sz)) zas ti177 rfl q19 rfl q17 q18 rfl (er rfl))) ?_
   refine zat (fun _ hE26 => zaw (zca zbg rfl rfl zek (zda ((ke hL13 hE26) S) (zda (K13 S) f13)) (er rfl))) ?_
   refine zat (fun _ _ => zaw (OpY.quoI (x := x11) (y := 65536) (z := (uw32 (Int.tdiv x11 65536))) rfl rfl (by decide) rfl (er rfl))) ?_
   refine zat (fun _ _ => zaw (zcr zbg zax rfl rfl (er rfl))) ?_
   refine zdq ?_ ?_
   ·
    rintro w28 Z35 hE29 hZ25 ⟨-⟩
    have hE30 : Els rI (vZ w12 w None [some b1, ob11] Z35 w28) [(zI (iw (Int.tmod x10 65536))), (zI (iw (uw32 (Int.tdiv x11 65536))))] [(iw (Int.tmod x10 65536)), (iw (uw32 (Int.tdiv x11 65536)))] := (zcp (a := [(zI (iw (Int.tmod x10 65536)))]) rfl (zcp (a := [(zI (iw (uw32 (Int.tdiv x11 65536))))]) rfl zcm))
    refine zaw (zch (r := rI) (vs := [(zI (iw (Int.tmod x10 65536))), (zI (iw (uw32 (Int.tdiv x11 65536))))]) (css := [[(zI (iw (Int.tmod x10 65536)))], [(zI (iw (uw32 (Int.tdiv x11 65536))))]]) (xs := [(iw (Int.tmod x10 65536)), (iw (uw32 (Int.tdiv x11 65536)))]) zav ti3 (zae rfl) rfl rfl ⟨rfl, rfl, ⟨rfl, rfl, trivial⟩⟩ (zae rfl) hE30 rfl (Go.X.Loc.begin0 w28) ?_)
    intro b12 w29 hc13 hL16 hS11
    have hN10 : NewOwn w28 w29 [some b12] [zac ([] ++ ([(zI (iw (Int.tmod x10 65536))), (zI (iw (uw32 (Int.tdiv x11 65536))))] ++ []))] := hL16.newOwn [0] rfl rfl rfl
    exact zdf hL16.done hZ25 hN10 (fun _ h => h) ⟨b12, [(zI (iw (Int.tmod x10 65536))), (zI (iw (uw32 (Int.tdiv x11 65536))))], rfl, hN10.2.2.1, (hE30.mono (Zv.grow hL16.done)), hc13, trivial⟩
   intro z10
   refine zcx ?_
   rintro w30 Z36 hE31 hZ26 ⟨⟨⟨b12, cs12, rfl, hO10, hE12, hc12, -⟩, hB10⟩, -⟩ ap10
   have hB11 : ∀ b, some b ∈ ([some b12] : List (Option Nat)) → w12.heap.size ≤ b ∧ ¬ Z36 b := by
    intro b hb
    rcases List.mem_cons.1 hb with hb' | hb
    ·
     have := hB10 b (by rw [hb']; exact zbm); exact ⟨this.1, this.2.2⟩
    cases hb
   replace hE12 := hE12.mono (zdw hL13 hZ26 hB11)
   have hN11 : NewOwn w12 w30 [some b12] [zac ([] ++ (cs12 ++ []))] := (zdt zco hO10 (fun b hb => (hB11 b (by rw [← hb]; simp)).1) (fun b _ hb => by cases hb))
   have hp11 := hL13.adoptL hE31 hN11
   have hL17 := hp11.1
   have K16 := ks w hp11.2
   obtain ⟨x12, q22, h⟩ := zec h
   obtain ⟨q23, q24, q25⟩ := zeq q22
   have f14 := ((hE11.mono (K13 None)).mono (K16 None))
   refine zag (zdn (r := rI) (H := (vH w None [some b12, some b1, ob11] w30)) (cs := cs11) (sp := sp11) (xs := l11) (ys := [(iw (Int.tmod x10 65536)), (iw (uw32 (Int.tdiv x11 65536)))]) (Y := x12) (n := l11.length) (cap := cap11) (i := 2) zav ti3 rfl rfl rfl rfl hL17 rfl rfl f14 rfl hc10 (Src.row (pre := []) (o := 0) (n := 2) (cap := 2) (hL17.at 0 rfl rfl) hE12 rfl rfl rfl) (Els.anyH (fun _ _ _ _ h => h) hE12) q23 q24 q25 ?_)
   intro ob12 cap12 sp12 cs13 w31 hE32 hc14 (hL18 : vL w w31 [some b12, some b1, ob12] [zac ([] ++ (cs12 ++ [])), zac [(zab x.Negative), x_v], zac ([] ++ (cs13 ++ sp12))]) hS12
   have K17 := ks w hS12
   refine zag (zak (v := (zO ob12 x12 cap12)) rfl ?_)
   refine zan (zbn (zaf rfl (zag (zai (v := (zI i10)) rfl ?_))))
   refine zag (zbz (x := i10) (y := 1) (z := (iw (i10 + 1))) rfl rfl rfl ?_)
   refine zag (zak (v := (zI (iw (i10 + 1)))) rfl (zan ?_))
   have hp12 := hL18.pick [1, 2] rfl rfl rfl
   have hL19 : vL w w31 [some b1, ob12] [zac [(zab x.Negative), x_v], zac ([] ++ (cs13 ++ sp12))] := hp12.1
   have K18 := ks w hp12.2
   have f15 := ((hE32.mono (K17 None)).mono (K18 None))
   obtain rfl := zah h
   refine zaq ⟨(x12, (iw (i10 + 1))), rfl, ?_⟩
   exact ⟨ob12, cap12, sp12, cs13, x12.length, _, (zeg ⟨rfl, rfl, rfl, trivial⟩), hL19, (zao (zao (zao (zao K12 K13) K16) K17) K18), f15, rfl, hc14, trivial⟩
  replace h := ite_f hc11 h
  refine zck rfl ?_
  have hp13 := hL12.pick [1] rfl rfl rfl
  have hL20 : vL w w11 [ob11] [zac ([] ++ (cs11 ++ sp11))] := hp13.1
  have K19 := ks w hp13.2
  have f16 := (hE11.mono (K19 None))
  obtain rfl := zah h
  obtain rfl := hd10 _ rfl
  replace h := g10
  try dsimp only at h
  refine zaq ?_
  exact ⟨l11, ob11, cap11, sp11, cs11, l11.length, _, rfl, (zeg zrt), hL20, (zao K12 K19), f16, rfl, hc10, trivial⟩
 rintro _ w32 ⟨l10, ob10, cap10, sp10, cs10, ln10, u, rfl, rfl, hL21, K20, hE33, rfl, hc15, -⟩
 replace h := g10
 try dsimp only at h
 refine zaj (zaf rfl (zag (zai (v := (zO ob10 l10 cap10)) rfl ?_)))
 have f17 := hL21.freezeRow 0 rfl rfl hE33 rfl rfl rfl hc15
 have hp14 := hL21.pick [] rfl rfl rfl
 have hL22 : vL w w32 [] [] := hp14.1
 obtain ⟨r10, q26, h⟩ := zec h
 refine zag (zay en110 rfl rfl (rtrim_w N l10 (zO ob10 l10 cap10) _ _ (f17.mono Hv.enter) r10 q26) ?_)
 rintro _ w33 hE34 ⟨v10, rfl, k10, -⟩
 replace k10 := k10.mono (Hv.aliasO (S := None) hL22 [])
 have hL23 := hL22.ext hE34
 refine zag (zak (v := v10) rfl ?_)
 refine zan (zbi ?_)
 obtain rfl := zah h
 refine ⟨[v10], zrt, ⟨_, rfl, hL23.done, ?_⟩⟩
 exact ⟨v10, rfl, (k10.mono zea), trivial⟩
theorem rbig_w (N : Nat) (negative : Bool) (l : (List Int)) (l_v : Value) (w : World) (S : Nat → Prop) (l_h : Rs rI (vH w S [] w) l_v l) (r : Big) (h : rbig N negative l = some r) :
  Calls Tryz.prog 80 #[(zab negative), l_v] w (Ret w (fun v w' => ∃ (v0_0 : Value), (zap #[(zab r.Negative), v0_0]) = v ∧ Rs (rInt .u32) (vH w None [] w') v0_0 r.Digits ∧ True)) := by
 unfold rbig at h
 have hL : vL w w [] [] := Go.X.Loc.begin0 w
 refine calls_of (l := [(zab negative), l_v]) (rl := [.cell 4 57]) (n := 49) Tryz.func80 rfl rfl rfl (zae rfl) ?_
 refine zaj (zaf rfl (zag (zbw (cs := [zF, zN]) ti57 rfl hL ?_)))
 intro b1 w2 hL3 hS5
 have K4 := ks w hS5
 refine zan (zaj (zaf rfl (zag (zai (v := l_v) rfl ?_))))
 obtain ⟨r6, q7, h⟩ := zec h
 have f10 := (l_h.mono (K4 S))
 refine zag (zay en110 rfl rfl (rtrim_w N l l_v _ _ (f10.mono Hv.enter) r6 q7) ?_)
 rintro _ w10 hE10 ⟨v8, rfl, k9, -⟩
 replace k9 := k9.mono (Hv.aliasO (S := S) hL3 [])
 have hL10 := hL3.ext hE10
 refine zag (zak (v := v8) rfl ?_)
 refine zan (zaj ?_)
 obtain ⟨s10, h, g10⟩ := zec h
 refine zbs (fun e w' => ∃ (negative10 : Bool) (b10 : Nat) (u : Env), negative10 = s10 ∧ e = upds [(1, v8), (4, (zal (some ⟨b1, 0, none⟩))), (5, (zal (some ⟨b10, 0, none⟩)))] u ∧ vL w w' [some b1, some b10] [zac [zF, zN], zac [(zab negative10), zN]] ∧ Keep w.heap.size [some b1] w10 [some b1, some b10] w' ∧ True) ?_ ?_
 ·
  refine zaf rfl (zag (zai (v := (zab negative)) rfl ?_))
  refine zag (zai (v := (zab negative)) rfl ?_)
  by_cases hc10 : negative = true
  ·
   replace h := ite_t hc10 h
   refine zbt rfl rfl hc10 (zai (v := v8) rfl ?_)
   refine zbt rfl rfl hc10 (zbc (v := v8) zav rfl k9 ?_)
   refine zbt rfl rfl hc10 (OpY.gtr (x := (r6.length : Int)) (y := 0) (((r6.length : Int) : Int) > 0) rfl rfl zbd ?_)
   refine zag (zce (t := negative) (v := (zab (decide (((r6.length : Int) : Int) > 0)))) rfl hc10 rfl ?_)
   refine zag (zcc (zc := [zF, zN]) (cs := [(zab (decide (((r6.length : Int) : Int) > 0))), zN]) (is := [0]) (vs := [(zab (decide (((r6.length : Int) : Int) > 0)))]) (css := [[(zab (decide (((r6.length : Int) : Int) > 0)))]]) pl57 ti57 rfl rfl rfl zrt rfl ?_)
   refine zag (zbw (cs := [zF, zN]) ti57 rfl hL10 ?_)
   intro b11 w11 hL11 hS10
   have K10 := ks w hS10
   refine zcf (zbo (vs := [(zab (decide (((r6.length : Int) : Int) > 0))), zN]) ti57 rfl rfl rfl rfl (zee rfl (zee rfl zej)) hL11 0 rfl rfl (zae rfl) ?_)
   intro w12 (hL12 : vL w w12 [some b11, some b1] [zac [(zab (decide (((r6.length : Int) : Int) > 0))), zN], zac [zF, zN]]) hS11
   have K11 := ks w hS11
   refine zan ?_
   have hp10 := hL12.pick [1, 0] rfl rfl rfl
   have hL13 : vL w w12 [some b1, some b11] [zac [zF, zN], zac [(zab (decide (((r6.length : Int) : Int) > 0))), zN]] := hp10.1
   have K12 := ks w hp10.2
   obtain rfl := zah h
   refine zaq ?_
   exact ⟨(decide (((r6.length : Int) : Int) > 0)), b11, _, rfl, (zeg ⟨rfl, rfl, rfl, trivial⟩), hL13, (zao (zao K10 K11) K12), trivial⟩
  replace h := ite_f hc10 h
  refine zcl rfl rfl (zeh hc10) (zcl rfl rfl (zeh hc10) (zcl rfl rfl (zeh hc10) ?_))
  refine zag (zcv (t := negative) (v := zF) rfl (zeh hc10) rfl ?_)
  refine zag (zcc (zc := [zF, zN]) (cs := [zF, zN]) (is := [0]) (vs := [zF]) (css := [[zF]]) pl57 ti57 rfl rfl rfl zrt rfl ?_)
  refine zag (zbw (cs := [zF, zN]) ti57 rfl hL10 ?_)
  intro b12 w13 hL14 hS12
  have K13 := ks w hS12
  refine zcf (zbo (vs := [zF, zN]) ti57 rfl rfl rfl rfl (zee rfl (zee rfl zej)) hL14 0 rfl rfl (zae rfl) ?_)
  intro w14 (hL15 : vL w w14 [some b12, some b1] [zac [zF, zN], zac [zF, zN]]) hS13
  have K14 := ks w hS13
  refine zan ?_
  have hp11 := hL15.pick [1, 0] rfl rfl rfl
  have hL16 : vL w w14 [some b1, some b12] [zac [zF, zN], zac [zF, zN]] := hp11.1
  have K15 := ks w hp11.2
  obtain rfl := zah h
  refine zaq ?_
  exact ⟨false, b12, _, rfl, (zeg ⟨rfl, rfl, rfl, trivial⟩), hL16, (zao (zao K13 K14) K15), trivial⟩
 rintro _ w15 ⟨negative10, b10, u, rfl, rfl, hL17, K16, -⟩
 replace h := g10
 try dsimp only at h
 refine zaj (zaj (zaf rfl (zag (zak (v := (zI 0)) rfl (zan ?_)))))
 obtain ⟨s11, hl10, g11⟩ := zec h
 refine zbs (fun e w' => ∃ (digits10 : (List Int)) (ob10 : Option Nat) (cap10 : Nat) (sp10 : List Value) (cs10 : List Value) (ln10 : Nat) (u : Env), digits10 = s11 ∧ e = upds [(4, (zal (some ⟨b1, 0, none⟩))), (5, (zal (some ⟨b10, 0, none⟩)))] u ∧ vL w w' [some b1, some b10, ob10] [zac [zF, zN], zac [(zab negative10), (osv ob10 0 ln10 cap10)], zac ([] ++ (cs10 ++ sp10))] ∧ Keep w.heap.size [some b1, some b10] w15 [some b1, some b10, ob10] w' ∧ Els (rInt .u32) (vH w None [some b1, some b10, ob10] w') cs10 digits10 ∧ ln10 = List.length digits10 ∧ (cs10 ++ sp10).length = cap10 * (rInt .u32).sz ∧ True) ?_ ?_
 ·
  refine zbb ?_
  have hp12 := hL17.addNil
  have hL18 : vL w w15 [none, some b1, some b10] [zac ([] ++ ([] ++ [])), zac [zF, zN], zac [(zab negative10), zN]] := hp12.1
  have K17 := ks w hp12.2
  have hp13 := hL18.pick [1, 2, 0] rfl rfl rfl
  have hL19 : vL w w15 [some b1, some b10, none] [zac [zF, zN], zac [(zab negative10), (osv none 0 (List.length ([] : (List Int))) 0)], zac ([] ++ ([] ++ []))] := hp13.1
  have K18 := ks w hp13.2
  have f11 := ((zcm (r := (rInt .u32))).mono (K18 None))
  refine zcb hl10 (fun (ss : ((List Int) × Int)) (e : Env) (w' : World) => match ss with | (digits11, i10) => ∃ (ob11 : Option Nat) (cap11 : Nat) (sp11 : List Value) (cs11 : List Value) (ln11 : Nat) (u : Env), e = upds [(1, v8), (4, (zal (some ⟨b1, 0, none⟩))), (5, (zal (some ⟨b10, 0, none⟩))), (6, (zI i10))] u ∧ vL w w' [some b1, some b10, ob11] [zac [zF, zN], zac [(zab negative10), (osv ob11 0 ln11 cap11)], zac ([] ++ (cs11 ++ sp11))] ∧ Keep w.heap.size [some b1, some b10] w15 [some b1, some b10, ob11] w' ∧ Els (rInt .u32) (vH w None [some b1, some b10, ob11] w') cs11 digits11 ∧ ln11 = List.length digits11 ∧ (cs11 ++ sp11).length = cap11 * (rInt .u32).sz ∧ True) ⟨none, 0, [], [], (List.length ([] : (List Int))), _, (zeg ⟨rfl, rfl, rfl, rfl, trivial⟩), hL19, (zao K17 K18), f11, rfl, (show ([] ++ [] : List Value).length = 0 * (rInt .u32).sz by simp), trivial⟩ ?_
  rintro ⟨digits11, i10⟩ oo _ w16 ⟨ob11, cap11, sp11, cs11, ln11, u, rfl, hL20, K19, hE11, rfl, hc11, -⟩ h hd10
  rw [rbig_b1] at h
  refine zaj (zaj (zaf rfl (zag (zai (v := (zI i10)) rfl ?_))))
  refine zag (zai (v := v8) rfl ?_)
  have f12 := ((k9.mono (K16 S)).mono (K19 S))
  refine zag (zbc (v := v8) zav rfl f12 ?_)
  refine zag (zci (x := i10) (y := (r6.length : Int)) ((i10 : Int) < (r6.length : Int)) rfl rfl zbd (zan ?_))
  refine zba ((i10 : Int) < (r6.length : Int)) rfl (fun hc12 => ?_) (fun hc12 => ?_)
  ·
   replace h := ite_t hc12 h
   refine zbf (zaj (zbb (zaj (zaf rfl (zag (zai (v := v8) rfl ?_))))))
   refine zag (zai (v := (zI i10)) rfl ?_)
   obtain ⟨x10, n10, q11, q12, -, h⟩ := zix h
   obtain ⟨b13, o10, c10, vs10, q13, q14, f13, q15⟩ := zcw f12 q12
   obtain rfl := q15
   refine zag (zbp (r := rI) (v := v8) (n := n10) (m := (o10 + n10 * rI.sz)) zav ti3 rfl q13 rfl q11 q12 rfl ?_)
   refine zag (zca (v := (zI x10)) zax rfl rfl zek f13 ?_)
   refine zag (zcr (x := x10) (z := (uw32 x10)) zax zbg rfl rfl ?_)
   refine zag (zak (v := (zaa .u32 (uw32 x10))) rfl ?_)
   refine zan (zaj (zaj (zaf rfl (zag (zai (v := (zI i10)) rfl ?_)))))
   refine zag (zbz (x := i10) (y := 1) (z := (iw (i10 + 1))) rfl rfl rfl ?_)
   refine zag (zai (v := v8) rfl ?_)
   refine zag (zbc (v := v8) zav rfl f12 ?_)
   refine zag (zci (x := (iw (i10 + 1))) (y := (r6.length : Int)) (((iw (i10 + 1)) : Int) < (r6.length : Int)) rfl rfl zbd (zan ?_))
   obtain ⟨s12, h, g12⟩ := zec h
   refine zbs (fun e w' => ∃ (d10 : Int) (u : Env), d10 = s12 ∧ e = upds [(1, v8), (4, (zal (some ⟨b1, 0, none⟩))), (5, (zal (some ⟨b10, 0, none⟩))), (6, (zI i10)), (7, (zaa .u32 d10))] u ∧ vL w w' [some b1, some b10, ob11] [zac [zF, zN], zac [(zab negative10), (zO ob11 digits11 cap11)], zac ([] ++ (cs11 ++ sp11))] ∧ Keep w.heap.size [some b1, some b10, ob11] w16 [some b1, some b10, ob11] w' ∧ True) ?_ ?_
   ·
    refine zba (((iw (i10 + 1)) : Int) < (r6.length : Int)) rfl (fun hc13 => ?_) (fun hc13 => ?_)
    ·
     replace h := ite_t hc13 h
     refine zaf rfl (zag (zai (v := (zaa .u32 (uw32 x10))) rfl ?_))
     refine zag (zai (v := v8) rfl ?_)
     refine zag (zai (v := (zI i10)) rfl ?_)
     refine zag (zbz (x := i10) (y := 1) (z := (iw (i10 + 1))) rfl rfl rfl ?_)
     obtain ⟨x11, n11, q17, q18, -, h⟩ := zix h
     obtain ⟨b14, o11, c11, vs11, q19, q20, f14, q21⟩ := zcw f12 q18
     obtain rfl := q21
     refine zag (zbp (r := rI) (v := v8) (n := n11) (m := (o11 + n11 * rI.sz)) zav ti3 rfl q19 rfl q17 q18 rfl ?_)
     refine zag (zca (v := (zI x11)) zax rfl rfl zek f14 ?_)
     refine zag (zcr (x := x11) (z := (uw32 x11)) zax zbg rfl rfl ?_)
     refine zag (OpY.mul (x := 65536) (y := (uw32 x11)) (z := (uw32 (65536 * (uw32 x11)))) rfl rfl rfl ?_)
     refine zag (zbz (x := (uw32 x10)) (y := (uw32 (65536 * (uw32 x11)))) (z := (uw32 ((uw32 x10) + (uw32 (65536 * (uw32 x11)))))) rfl rfl rfl ?_)
     refine zag (zak (v := (zaa .u32 (uw32 ((uw32 x10) + (uw32 (65536 * (uw32 x11))))))) rfl (zan ?_))
     obtain rfl := zah h
     refine zaq ?_
     exact ⟨(uw32 ((uw32 x10) + (uw32 (65536 * (uw32 x11))))), _, rfl, (zeg ⟨rfl, rfl, rfl, rfl, rfl, trivial⟩), hL20, zbq, trivial⟩
    replace h := ite_f hc13 h
    refine zbf ?_
    obtain rfl := zah h
    refine zaq ?_
    exact ⟨(uw32 x10), _, rfl, (zeg ⟨rfl, rfl, rfl, rfl, rfl, trivial⟩), hL20, zbq, trivial⟩
   rintro _ w17 ⟨d10, u, rfl, rfl, hL21, K20, -⟩
   replace h := g12
   try dsimp only at h
   refine zaf rfl (zag (zam (q := 1) zar rfl ti55 rfl rfl rfl ?_))
   refine zag (zau (v := (zO ob11 digits11 cap11)) zas rfl rfl (hL21.at 1 rfl rfl) rfl ?_)
   refine zag (zai (v := (zaa .u32 d10)) rfl ?_)
   have hE12 : Els (rInt .u32) (vH w None [some b1, some b10, ob11] w17) [(zaa .u32 d10)] [d10] := (zcp (a := [(zaa .u32 d10)]) rfl zcm)
   refine zag (zch (r := (rInt .u32)) (vs := [(zaa .u32 d10)]) (css := [[(zaa .u32 d10)]]) (xs := [d10]) zas ti177 (zae rfl) rfl rfl ⟨rfl, rfl, trivial⟩ (zae rfl) hE12 rfl hL21 ?_)
   intro b15 w18 hc14 hL22 hS14
   have K21 := ks w hS14
   obtain ⟨x12, q22, h⟩ := zec h
   obtain ⟨q23, q24, q25⟩ := zeq q22
   have f15 := (hE12.mono (K21 None))
   have f16 := ((hE11.mono (K20 None)).mono (K21 None))
   refine zag (zdn (r := (rInt .u32)) (H := (vH w None [some b15, some b1, some b10, ob11] w18)) (cs := cs11) (sp := sp11) (xs := digits11) (ys := [d10]) (Y := x12) (n := digits11.length) (cap := cap11) (i := 3) zas ti177 rfl rfl rfl rfl hL22 rfl rfl f16 rfl hc11 (Src.row (pre := []) (o := 0) (n := 1) (cap := 1) (hL22.at 0 rfl rfl) f15 rfl rfl rfl) (Els.anyH (fun _ _ _ _ h => h) f15) q23 q24 q25 ?_)
   intro ob12 cap12 sp12 cs12 w19 hE13 hc15 (hL23 : vL w w19 [some b15, some b1, some b10, ob12] [zac ([] ++ ([(zaa .u32 d10)] ++ [])), zac [zF, zN], zac [(zab negative10), (zO ob11 digits11 cap11)], zac ([] ++ (cs12 ++ sp12))]) hS15
   have K22 := ks w hS15
   refine zag (zam (q := 1) zar rfl ti55 rfl rfl rfl ?_)
   refine zcf (zbo (vs := [(zO ob12 x12 cap12)]) ti55 rfl rfl (zen (zem ob12 0 x12.length cap12)) rfl (zee (zem ob12 0 x12.length cap12) zej) hL23 2 rfl rfl (zae rfl) ?_)
   intro w20 (hL24 : vL w w20 [some b15, some b1, some b10, ob12] [zac ([] ++ ([(zaa .u32 d10)] ++ [])), zac [zF, zN], zac [(zab negative10), (zO ob12 x12 cap12)], zac ([] ++ (cs12 ++ sp12))]) hS16
   have K23 := ks w hS16
   refine zan (zbn (zaf rfl (zag (zai (v := (zI i10)) rfl ?_))))
   refine zag (zbz (x := i10) (y := 2) (z := (iw (i10 + 2))) rfl rfl rfl ?_)
   refine zag (zak (v := (zI (iw (i10 + 2)))) rfl (zan ?_))
   have hp14 := hL24.pick [1, 2, 3] rfl rfl rfl
   have hL25 : vL w w20 [some b1, some b10, ob12] [zac [zF, zN], zac [(zab negative10), (zO ob12 x12 cap12)], zac ([] ++ (cs12 ++ sp12))] := hp14.1
   have K24 := ks w hp14.2
   have f17 := (((hE13.mono (K22 None)).mono (K23 None)).mono (K24 None))
   obtain rfl := zah h
   refine zaq ⟨(x12, (iw (i10 + 2))), rfl, ?_⟩
   exact ⟨ob12, cap12, sp12, cs12, x12.length, _, (zeg ⟨rfl, rfl, rfl, rfl, trivial⟩), hL25, (zao (zao (zao (zao (zao K19 K20) K21) K22) K23) K24), f17, rfl, hc15, trivial⟩
  replace h := ite_f hc12 h
  refine zck rfl ?_
  obtain rfl := zah h
  obtain rfl := hd10 _ rfl
  replace h := g11
  try dsimp only at h
  refine zaq ?_
  exact ⟨digits11, ob11, cap11, sp11, cs11, digits11.length, _, rfl, (zeg ⟨rfl, rfl, trivial⟩), hL20, K19, hE11, rfl, hc11, trivial⟩
 rintro _ w21 ⟨digits10, ob10, cap10, sp10, cs10, ln10, u, rfl, rfl, hL26, K25, hE14, rfl, hc16, -⟩
 replace h := g11
 try dsimp only at h
 refine zaj (zaf rfl (zag (zbj (vs := [(zab negative10), (zO ob10 digits10 cap10)]) zar rfl ti57 rfl (hL26.at 1 rfl rfl) rfl rfl ?_)))
 refine zcf (zbo (vs := [(zab negative10), (zO ob10 digits10 cap10)]) ti57 rfl rfl rfl rfl (zee rfl (zee (zem _ _ _ _) zej)) hL26 0 rfl rfl (zae rfl) ?_)
 intro w22 (hL27 : vL w w22 [some b1, some b10, ob10] [zac [(zab negative10), (zO ob10 digits10 cap10)], zac [(zab negative10), (zO ob10 digits10 cap10)], zac ([] ++ (cs10 ++ sp10))]) hS17
 have K26 := ks w hS17
 refine zan ?_
 have f18 := (hE14.mono (K26 None))
 have f19 := hL27.freezeRow 2 rfl rfl f18 rfl rfl rfl hc16
 have hp15 := hL27.pick [0, 1] rfl rfl rfl
 have hL28 : vL w w22 [some b1, some b10] [zac [(zab negative10), (zO ob10 digits10 cap10)], zac [(zab negative10), (zO ob10 digits10 cap10)]] := hp15.1
 refine zbi ?_
 obtain rfl := zah h
 refine ⟨[(zap #[(zab negative10), (zO ob10 digits10 cap10)])], ⟨⟨⟨b1, 0, none⟩, rfl, zeo zar rfl ti57 (hL28.at 0 rfl rfl) rfl⟩, trivial⟩, ⟨_, rfl, hL28.done, ?_⟩⟩
 exact ⟨(zO ob10 digits10 cap10), rfl, (f19.mono zea), trivial⟩
theorem rorder_w (N : Nat) (a : (List Int)) (b : (List Int)) (a_v : Value) (b_v : Value) (w : World) (S : Nat → Prop) (a_h : Rs rI (vH w S [] w) a_v a) (b_h : Rs rI (vH w S [] w) b_v b) (r : Int) (h : rorder N a b = some r) :
  Calls Tryz.prog 113 #[a_v, b_v] w (Ret w (fun v w' => (zI r) = v ∧ True)) := by
 unfold rorder at h
 have hL : vL w w [] [] := Go.X.Loc.begin0 w
 refine calls_of (l := [a_v, b_v]) (rl := [.tmp 4]) (n := 41) Tryz.func113 rfl rfl rfl (zae rfl) ?_
 refine zaj (zaf rfl (zag (zak (v := (zI 0)) rfl ?_)))
 refine zan (zaj (zaj (zaf rfl (zag (zai (v := a_v) rfl ?_)))))
 refine zag (zbc (v := a_v) zav rfl a_h ?_)
 refine zag (zai (v := b_v) rfl ?_)
 refine zag (zbc (v := b_v) zav rfl b_h ?_)
 refine zag (OpY.neq (x := (a.length : Int)) (y := (b.length : Int)) (((a.length : Int) : Int) ≠ (b.length : Int)) rfl rfl zbd (zan ?_))
 refine zba (((a.length : Int) : Int) ≠ (b.length : Int)) rfl (fun hc1 => ?_) (fun hc1 => ?_)
 ·
  replace h := ite_t hc1 h
  refine zaj (zaj (zaf rfl (zag (zai (v := a_v) rfl ?_))))
  refine zag (zbc (v := a_v) zav rfl a_h ?_)
  refine zag (zai (v := b_v) rfl ?_)
  refine zag (zbc (v := b_v) zav rfl b_h ?_)
  refine zag (zci (x := (a.length : Int)) (y := (b.length : Int)) (((a.length : Int) : Int) < (b.length : Int)) rfl rfl zbd (zan ?_))
  refine zba (((a.length : Int) : Int) < (b.length : Int)) rfl (fun hc2 => ?_) (fun hc2 => ?_)
  ·
   replace h := ite_t hc2 h
   refine zaj (zaf rfl (zag (zak (v := (zI (-1))) rfl ?_)))
   refine zan (zbi ?_)
   obtain rfl := zah h
   refine ⟨[(zI (-1))], zrt, ⟨_, rfl, hL.done, ?_⟩⟩
   exact zrt
  replace h := ite_f hc2 h
  refine zbf (zaj (zaf rfl (zag (zak (v := (zI 1)) rfl ?_))))
  refine zan (zbi ?_)
  obtain rfl := zah h
  refine ⟨[(zI 1)], zrt, ⟨_, rfl, hL.done, ?_⟩⟩
  exact zrt
 replace h := ite_f hc1 h
 refine zbf (zaj (zaj (zaf rfl (zag (zai (v := a_v) rfl ?_)))))
 refine zag (zbc (v := a_v) zav rfl a_h ?_)
 refine zag (zdz (x := (a.length : Int)) (y := 1) (z := (iw ((a.length : Int) - 1))) rfl rfl rfl ?_)
 refine zag (zak (v := (zI (iw ((a.length : Int) - 1)))) rfl (zan ?_))
 obtain ⟨s10, hl10, g10⟩ := zec h
 refine zbs (fun e w' => ∃  (u : Env), (Sum.inl ()) = s10 ∧ e = upds [] u ∧ vL w w' [] [] ∧ Keep w.heap.size [] w [] w' ∧ True) ?_ ?_
 ·
  refine zbb ?_
  refine zcb hl10 (fun (ss : Int) (e : Env) (w' : World) => match ss with | i10 => ∃ (u : Env), e = upds [(0, a_v), (1, b_v), (5, (zI i10))] u ∧ vL w w' [] [] ∧ Keep w.heap.size [] w [] w' ∧ True) ⟨_, (zeg ⟨rfl, rfl, rfl, trivial⟩), hL, zbq, trivial⟩ ?_
  rintro i10 oo _ w10 ⟨u, rfl, hL10, K10, -⟩ h hd10
  rw [rorder_b1] at h
  refine zaj (zaj (zaf rfl (zag (zai (v := (zI i10)) rfl ?_))))
  refine zag (OpY.geq (x := i10) (y := 0) ((i10 : Int) ≥ 0) rfl rfl zbd (zan ?_))
  refine zba ((i10 : Int) ≥ 0) rfl (fun hc10 => ?_) (fun hc10 => ?_)
  ·
   replace h := ite_t hc10 h
   refine zbf (zaj (zbb (zaj (zaj ?_))))
   obtain ⟨x10, n10, q11, q12, -, h⟩ := zix h
   have f10 := (a_h.mono (K10 S))
   obtain ⟨b10, o10, c10, vs10, q13, q14, f11, q15⟩ := zcw f10 q12
   obtain rfl := q15
   obtain ⟨x11, n11, q17, q18, -, h⟩ := zix h
   have f12 := (b_h.mono (K10 S))
   obtain ⟨b11, o11, c11, vs11, q19, q20, f13, q21⟩ := zcw f12 q18
   obtain rfl := q21
   refine zcj 8 [] [] (fun W1 => [.det a_v, .det (zI i10), .det (zal (some ⟨b10, (o10 + n10 * rI.sz), none⟩)), .det (zI x10), .det b_v, .det (zI i10), .det (zal (some ⟨b11, (o11 + n11 * rI.sz), none⟩)), .det (zI x11)]) mixed rfl rfl rfl (fun _ => rfl) (fun _ => rfl) ?_ ?_
   ·
    intro W1 _
    exact trivial
   intro w11 hE10
   obtain ⟨hL11, K11⟩ := zl hL10 hE10
   refine zat (fun _ _ => zaw (zai rfl (er rfl))) ?_
   refine zat (fun _ _ => zaw (zai rfl (er rfl))) ?_
   refine zat (fun _ _ => zaw (zbp (r := rI) (v := a_v) (n := n10) (m := (o10 + n10 * rI.sz)) zav ti3 rfl q13 rfl q11 q12 rfl (er rfl))) ?_
   refine zat (fun _ hE14 => zaw (zca zax rfl rfl zek (zda ((ke hL11 hE14) S) (zda (K11 S) f11)) (er rfl))) ?_
   refine zat (fun _ _ => zaw (zai rfl (er rfl))) ?_
   refine zat (fun _ _ => zaw (zai rfl (er rfl))) ?_
   refine zat (fun _ _ => zaw (zbp (r := rI) (v := b_v) (n := n11) (m := (o11 + n11 * rI.sz)) zav ti3 rfl q19 rfl q17 q18 rfl (er rfl))) ?_
   refine zat (fun _ hE18 => zaw (zca zax rfl rfl zek (zda ((ke hL11 hE18) S) (zda (K11 S) f13)) (er rfl))) ?_
   refine zcx ?_
   rintro w20 Z28 hE19 hZ18 ⟨-⟩ ap10
   have hB10 := @zhb w11 Z28
   obtain ⟨hL12, K14⟩ := zl hL11 hE19
   refine zag (zci (x := x10) (y := x11) ((x10 : Int) < x11) rfl rfl zbd (zan ?_))
   refine zba ((x10 : Int) < x11) rfl (fun hc11 => ?_) (fun hc11 => ?_)
   ·
    replace h := ite_t hc11 h
    refine zaj (zaf rfl (zag (zak (v := (zI (-1))) rfl ?_)))
    refine zan (zbi ?_)
    obtain rfl := zah h
    obtain rfl := hd10 _ rfl
    replace h := g10
    try dsimp only at h
    obtain rfl := zah h
    refine ⟨[(zI (-1))], zrt, ⟨_, rfl, hL12.done, ?_⟩⟩
    exact zrt
   replace h := ite_f hc11 h
   refine zbf (zaj ?_)
   obtain ⟨x12, n12, q23, q24, -, h⟩ := zix h
   have f14 := ((f10.mono (K11 S)).mono (K14 S))
   obtain ⟨b12, o12, c12, vs12, q25, q26, f15, q27⟩ := zcw f14 q24
   obtain rfl := q27
   obtain ⟨x13, n13, q29, q30, -, h⟩ := zix h
   have f16 := ((f12.mono (K11 S)).mono (K14 S))
   obtain ⟨b13, o13, c13, vs13, q31, q32, f17, q33⟩ := zcw f16 q30
   obtain rfl := q33
   refine zcj 8 [] [] (fun W1 => [.det a_v, .det (zI i10), .det (zal (some ⟨b12, (o12 + n12 * rI.sz), none⟩)), .det (zI x12), .det b_v, .det (zI i10), .det (zal (some ⟨b13, (o13 + n13 * rI.sz), none⟩)), .det (zI x13)]) mixed rfl rfl rfl (fun _ => rfl) (fun _ => rfl) ?_ ?_
   ·
    intro W1 _
    exact trivial
   intro w21 hE20
   obtain ⟨hL13, K15⟩ := zl hL12 hE20
   refine zat (fun _ _ => zaw (zai rfl (er rfl))) ?_
   refine zat (fun _ _ => zaw (zai rfl (er rfl))) ?_
   refine zat (fun _ _ => zaw (zbp (r := rI) (v := a_v) (n := n12) (m := (o12 + n12 * rI.sz)) zav ti3 rfl q25 rfl q23 q24 rfl (er rfl))) ?_
   refine zat (fun _ hE24 => zaw (zca zax rfl rfl zek (zda ((ke hL13 hE24) S) (zda (K15 S) f15)) (er rfl))) ?_
   refine zat (fun _ _ => zaw (zai rfl (er rfl))) ?_
   refine zat (fun _ _ => zaw (zai rfl (er rfl))) ?_
   refine zat (fun _ _ => zaw (zbp (r := rI) (v := b_v) (n := n13) (m := (o13 + n13 * rI.sz)) zav ti3 rfl q31 rfl q29 q30 rfl (er rfl))) ?_
   refine zat (fun _ hE28 => zaw (zca zax rfl rfl zek (zda ((ke hL13 hE28) S) (zda (K15 S) f17)) (er rfl))) ?_
   refine zcx ?_
   rintro w30 Z37 hE29 hZ27 ⟨-⟩ ap11
   have hB11 := @zhb w21 Z37
   obtain ⟨hL14, K18⟩ := zl hL13 hE29
   refine zag (OpY.gtr (x := x12) (y := x13) ((x12 : Int) > x13) rfl rfl zbd (zan ?_))
   refine zba ((x12 : Int) > x13) rfl (fun hc12 => ?_) (fun hc12 => ?_)
   ·
    replace h := ite_t hc12 h
    refine zaj (zaf rfl (zag (zak (v := (zI 1)) rfl ?_)))
    refine zan (zbi ?_)
    obtain rfl := zah h
    obtain rfl := hd10 _ rfl
    replace h := g10
    try dsimp only at h
    obtain rfl := zah h
    refine ⟨[(zI 1)], zrt, ⟨_, rfl, hL14.done, ?_⟩⟩
    exact zrt
   replace h := ite_f hc12 h
   refine zbf (zbn (zaf rfl (zag (zai (v := (zI i10)) rfl ?_))))
   refine zag (zdz (x := i10) (y := 1) (z := (iw (i10 - 1))) rfl rfl rfl ?_)
   refine zag (zak (v := (zI (iw (i10 - 1)))) rfl (zan ?_))
   obtain rfl := zah h
   refine zaq ⟨(iw (i10 - 1)), rfl, ?_⟩
   exact ⟨_, (zeg ⟨rfl, rfl, rfl, trivial⟩), hL14, (zao (zao (zao (zao K10 K11) K14) K15) K18), trivial⟩
  replace h := ite_f hc10 h
  refine zck rfl ?_
  obtain rfl := zah h
  obtain rfl := hd10 _ rfl
  replace h := g10
  try dsimp only at h
  refine zaq ?_
  exact ⟨_, rfl, (zeg trivial), hL10, K10, trivial⟩
 rintro _ w31 ⟨u, rfl, rfl, hL15, K19, -⟩
 replace h := g10
 try dsimp only at h
 refine zaj (zaf rfl (zag (zak (v := (zI 0)) rfl ?_)))
 refine zan (zbi ?_)
 obtain rfl := zah h
 refine ⟨[(zI 0)], zrt, ⟨_, rfl, hL15.done, ?_⟩⟩
 exact zrt
theorem rplus_w (N : Nat) (a : (List Int)) (b : (List Int)) (a_v : Value) (b_v : Value) (w : World) (S : Nat → Prop) (a_h : Rs rI (vH w S [] w) a_v a) (b_h : Rs rI (vH w S [] w) b_v b) (r : (List Int)) (h : rplus N a b = some r) :
  Calls Tryz.prog 112 #[a_v, b_v] w (Ret w (fun v w' => ∃ (v0_0 : Value), v0_0 = v ∧ Rs rI (vH w None [] w') v0_0 r ∧ True)) := by
 unfold rplus at h
 have hL : vL w w [] [] := Go.X.Loc.begin0 w
 refine calls_of (l := [a_v, b_v]) (rl := [.tmp 4]) (n := 54) Tryz.func112 rfl rfl rfl (zae rfl) ?_
 refine zaj (zaf rfl (zag (zak (v := zN) rfl ?_)))
 refine zan (zaj (zaf rfl (zag (OpY.litRow0 zav ti3 hL ?_))))
 intro b1 w5 hL6 hS8
 have hE9 : Els rI (vH w None [] w) [] [] := zcm
 have K7 := ks w hS8
 refine zag (zak (v := (osv (some b1) 0 (List.length ([] : (List Int))) 0)) rfl ?_)
 refine zan (zaj (zaf rfl (zag (zak (v := (zI 0)) rfl ?_))))
 refine zan (zaj (zaj (zaf rfl (zag (zak (v := (zI 0)) rfl (zan ?_))))))
 obtain ⟨s10, hl10, g10⟩ := zec h
 refine zbs (fun e w' => ∃ (out10 : (List Int)) (ob10 : Option Nat) (cap10 : Nat) (sp10 : List Value) (cs10 : List Value) (ln10 : Nat) (u : Env), out10 = s10 ∧ e = upds [(5, (osv ob10 0 ln10 cap10))] u ∧ vL w w' [ob10] [zac ([] ++ (cs10 ++ sp10))] ∧ Keep w.heap.size [some b1] w5 [ob10] w' ∧ Els rI (vH w None [ob10] w') cs10 out10 ∧ ln10 = List.length out10 ∧ (cs10 ++ sp10).length = cap10 * rI.sz ∧ True) ?_ ?_
 ·
  refine zbb ?_
  have f10 := (hE9.mono (K7 None))
  refine zcb hl10 (fun (ss : ((List Int) × Int × Int)) (e : Env) (w' : World) => match ss with | (out11, carry10, i10) => ∃ (ob11 : Option Nat) (cap11 : Nat) (sp11 : List Value) (cs11 : List Value) (ln11 : Nat) (u : Env), e = upds [(0, a_v), (1, b_v), (5, (osv ob11 0 ln11 cap11)), (6, (zI carry10)), (7, (zI i10))] u ∧ vL w w' [ob11] [zac ([] ++ (cs11 ++ sp11))] ∧ Keep w.heap.size [some b1] w5 [ob11] w' ∧ Els rI (vH w None [ob11] w') cs11 out11 ∧ ln11 = List.length out11 ∧ (cs11 ++ sp11).length = cap11 * rI.sz ∧ True) ⟨some b1, 0, [], [], (List.length ([] : (List Int))), _, (zeg ⟨rfl, rfl, rfl, rfl, rfl, trivial⟩), hL6, zbq, f10, rfl, (show ([] ++ [] : List Value).length = 0 * rI.sz by simp), trivial⟩ ?_
  rintro ⟨out11, carry10, i10⟩ oo _ w10 ⟨ob11, cap11, sp11, cs11, ln11, u, rfl, hL10, K10, hE10, rfl, hc10, -⟩ h hd10
  rw [rplus_b1] at h
  refine zaj (zaj ?_)
  obtain ⟨s11, h, g11⟩ := zec h
  refine zbs (fun e w' => ∃ (x10 : Bool) (u : Env), x10 = s11 ∧ e = upds [(0, a_v), (1, b_v), (5, (zO ob11 out11 cap11)), (6, (zI carry10)), (7, (zI i10)), (22, (zab x10))] u ∧ vL w w' [ob11] [zac ([] ++ (cs11 ++ sp11))] ∧ Keep w.heap.size [ob11] w10 [ob11] w' ∧ True) ?_ ?_
  ·
   refine zaf rfl (zag (zai (v := (zI i10)) rfl ?_))
   refine zag (zai (v := a_v) rfl ?_)
   have f11 := ((a_h.mono (K7 S)).mono (K10 S))
   refine zag (zbc (v := a_v) zav rfl f11 ?_)
   refine zag (zci (x := i10) (y := (a.length : Int)) ((i10 : Int) < (a.length : Int)) rfl rfl zbd ?_)
   refine zag (zai (v := (zab (decide ((i10 : Int) < (a.length : Int))))) rfl ?_)
   by_cases hc11 : (i10 : Int) < (a.length : Int)
   ·
    replace h := ite_t hc11 h
    refine zcl rfl rfl (zef hc11) (zcl rfl rfl (zef hc11) (zcl rfl rfl (zef hc11) (zcl rfl rfl (zef hc11) ?_)))
    refine zag (zce (t := (decide ((i10 : Int) < (a.length : Int)))) (v := zT) rfl (zef hc11) rfl ?_)
    refine zag (zai (v := zT) rfl ?_)
    refine zcl rfl rfl rfl (zcl rfl rfl rfl ?_)
    refine zag (zce (t := true) (v := zT) rfl rfl rfl (zan ?_))
    obtain rfl := zah h
    refine zaq ?_
    exact ⟨true, _, rfl, (zeg ⟨rfl, rfl, rfl, rfl, rfl, rfl, trivial⟩), hL10, zbq, trivial⟩
   replace h := ite_f hc11 h
   refine zbt rfl rfl (zed hc11) (zai (v := (zI i10)) rfl ?_)
   refine zbt rfl rfl (zed hc11) (zai (v := b_v) rfl ?_)
   have f12 := ((b_h.mono (K7 S)).mono (K10 S))
   refine zbt rfl rfl (zed hc11) (zbc (v := b_v) zav rfl f12 ?_)
   refine zbt rfl rfl (zed hc11) (zci (x := i10) (y := (b.length : Int)) ((i10 : Int) < (b.length : Int)) rfl rfl zbd ?_)
   refine zag (zcv (t := (decide ((i10 : Int) < (a.length : Int)))) (v := (zab (decide ((i10 : Int) < (b.length : Int))))) rfl (zed hc11) rfl ?_)
   refine zag (zai (v := (zab (decide ((i10 : Int) < (b.length : Int))))) rfl ?_)
   by_cases hc12 : (i10 : Int) < (b.length : Int)
   ·
    replace h := ite_t hc12 h
    refine zcl rfl rfl (zef hc12) (zcl rfl rfl (zef hc12) ?_)
    refine zag (zce (t := (decide ((i10 : Int) < (b.length : Int)))) (v := zT) rfl (zef hc12) rfl (zan ?_))
    obtain rfl := zah h
    refine zaq ?_
    exact ⟨true, _, rfl, (zeg ⟨rfl, rfl, rfl, rfl, rfl, rfl, trivial⟩), hL10, zbq, trivial⟩
   replace h := ite_f hc12 h
   refine zbt rfl rfl (zed hc12) (zai (v := (zI carry10)) rfl ?_)
   refine zbt rfl rfl (zed hc12) (OpY.gtr (x := carry10) (y := 0) ((carry10 : Int) > 0) rfl rfl zbd ?_)
   refine zag (zcv (t := (decide ((i10 : Int) < (b.length : Int)))) (v := (zab (decide ((carry10 : Int) > 0)))) rfl (zed hc12) rfl (zan ?_))
   obtain rfl := zah h
   refine zaq ?_
   exact ⟨(decide ((carry10 : Int) > 0)), _, rfl, (zeg ⟨rfl, rfl, rfl, rfl, rfl, rfl, trivial⟩), hL10, zbq, trivial⟩
  rintro _ w11 ⟨x10, u, rfl, rfl, hL11, K11, -⟩
  replace h := g11
  try dsimp only at h
  refine zcq x10 rfl (fun hc13 => ?_) (fun hc13 => ?_)
  ·
   replace h := ite_t hc13 h
   refine zbf (zaj (zbb (zaj (zaj (zaf rfl (zag (zai (v := (zI i10)) rfl ?_)))))))
   refine zag (zai (v := a_v) rfl ?_)
   have f13 := (((a_h.mono (K7 S)).mono (K10 S)).mono (K11 S))
   refine zag (zbc (v := a_v) zav rfl f13 ?_)
   refine zag (zci (x := i10) (y := (a.length : Int)) ((i10 : Int) < (a.length : Int)) rfl rfl zbd (zan ?_))
   obtain ⟨s12, h, g12⟩ := zec h
   refine zbs (fun e w' => ∃ (carry11 : Int) (u : Env), carry11 = s12 ∧ e = upds [(0, a_v), (1, b_v), (5, (zO ob11 out11 cap11)), (6, (zI carry11)), (7, (zI i10))] u ∧ vL w w' [ob11] [zac ([] ++ (cs11 ++ sp11))] ∧ Keep w.heap.size [ob11] w11 [ob11] w' ∧ True) ?_ ?_
   ·
    refine zba ((i10 : Int) < (a.length : Int)) rfl (fun hc14 => ?_) (fun hc14 => ?_)
    ·
     replace h := ite_t hc14 h
     refine zaf rfl (zag (zai (v := (zI carry10)) rfl ?_))
     refine zag (zai (v := a_v) rfl ?_)
     refine zag (zai (v := (zI i10)) rfl ?_)
     obtain ⟨x11, n10, q11, q12, -, h⟩ := zix h
     obtain ⟨b10, o10, c10, vs10, q13, q14, f14, q15⟩ := zcw f13 q12
     obtain rfl := q15
     refine zag (zbp (r := rI) (v := a_v) (n := n10) (m := (o10 + n10 * rI.sz)) zav ti3 rfl q13 rfl q11 q12 rfl ?_)
     refine zag (zca (v := (zI x11)) zax rfl rfl zek f14 ?_)
     refine zag (zbz (x := carry10) (y := x11) (z := (iw (carry10 + x11))) rfl rfl rfl ?_)
     refine zag (zak (v := (zI (iw (carry10 + x11)))) rfl (zan ?_))
     obtain rfl := zah h
     refine zaq ?_
     exact ⟨(iw (carry10 + x11)), _, rfl, (zeg ⟨rfl, rfl, rfl, rfl, rfl, trivial⟩), hL11, zbq, trivial⟩
    replace h := ite_f hc14 h
    refine zbf ?_
    obtain rfl := zah h
    refine zaq ?_
    exact ⟨carry10, _, rfl, (zeg ⟨rfl, rfl, rfl, rfl, rfl, trivial⟩), hL11, zbq, trivial⟩
   rintro _ w12 ⟨carry11, u, rfl, rfl, hL12, K12, -⟩
   replace h := g12
   try dsimp only at h
   refine zaj (zaj (zaf rfl (zag (zai (v := (zI i10)) rfl ?_))))
   refine zag (zai (v := b_v) rfl ?_)
   have f15 := ((((b_h.mono (K7 S)).mono (K10 S)).mono (K11 S)).mono (K12 S))
   refine zag (zbc (v := b_v) zav rfl f15 ?_)
   refine zag (zci (x := i10) (y := (b.length : Int)) ((i10 : Int) < (b.length : Int)) rfl rfl zbd (zan ?_))
   obtain ⟨s13, h, g13⟩ := zec h
   refine zbs (fun e w' => ∃ (carry12 : Int) (u : Env), carry12 = s13 ∧ e = upds [(0, a_v), (1, b_v), (5, (zO ob11 out11 cap11)), (6, (zI carry12)), (7, (zI i10))] u ∧ vL w w' [ob11] [zac ([] ++ (cs11 ++ sp11))] ∧ Keep w.heap.size [ob11] w12 [ob11] w' ∧ True) ?_ ?_
   ·
    refine zba ((i10 : Int) < (b.length : Int)) rfl (fun hc15 => ?_) (fun hc15 => ?_)
    ·
     replace h := ite_t hc15 h
     refine zaf rfl (zag (zai (v := (zI carry11)) rfl ?_))
     refine zag (zai (v := b_v) rfl ?_)
     refine zag (zai (v := (zI i10)) rfl ?_)
     obtain ⟨x12, n11, q17, q18, -, h⟩ := zix h
     obtain ⟨b11, o11, c11, vs11, q19, q20, f16, q21⟩ := zcw f15 q18
     obtain rfl := q21
     refine zag (zbp (r := rI) (v := b_v) (n := n11) (m := (o11 + n11 * rI.sz)) zav ti3 rfl q19 rfl q17 q18 rfl ?_)
     refine zag (zca (v := (zI x12)) zax rfl rfl zek f16 ?_)
     refine zag (zbz (x := carry11) (y := x12) (z := (iw (carry11 + x12))) rfl rfl rfl ?_)
     refine zag (zak (v := (zI (iw (carry11 + x12)))) rfl (zan ?_))
     obtain rfl := zah h
     refine zaq ?_
     exact ⟨(iw (carry11 + x12)), _, rfl, (zeg ⟨rfl, rfl, rfl, rfl, rfl, trivial⟩), hL12, zbq, trivial⟩
    replace h := ite_f hc15 h
    refine zbf ?_
    obtain rfl := zah h
    refine zaq ?_
    exact ⟨carry11, _, rfl, (zeg ⟨rfl, rfl, rfl, rfl, rfl, trivial⟩), hL12, zbq, trivial⟩
   rintro _ w13 ⟨carry12, u, rfl, rfl, hL13, K13, -⟩
   replace h := g13
   try dsimp only at h
   refine zaj (zaf rfl (zag (zai (v := (zO ob11 out11 cap11)) rfl ?_)))
   refine zag (zai (v := (zI carry12)) rfl ?_)
   refine zag (OpY.remI (x := carry12) (y := 65536) rfl rfl (by decide) ?_)
   have hE11 : Els rI (vH w None [ob11] w13) [(zI (Int.tmod carry12 65536))] [(Int.tmod carry12 65536)] := (zcp (a := [(zI (Int.tmod carry12 65536))]) rfl zcm)
   refine zag (zch (r := rI) (vs := [(zI (Int.tmod carry12 65536))]) (css := [[(zI (Int.tmod carry12 65536))]]) (xs := [(Int.tmod carry12 65536)]) zav ti3 (zae rfl) rfl rfl ⟨rfl, rfl, trivial⟩ (zae rfl) hE11 rfl hL13 ?_)
   intro b12 w14 hc16 hL14 hS10
   have K14 := ks w hS10
   obtain ⟨x13, q22, h⟩ := zec h
   obtain ⟨q23, q24, q25⟩ := zeq q22
   have f17 := (hE11.mono (K14 None))
   have f18 := ((((hE10.mono (K11 None)).mono (K12 None)).mono (K13 None)).mono (K14 None))
   refine zag (zdn (r := rI) (H := (vH w None [some b12, ob11] w14)) (cs := cs11) (sp := sp11) (xs := out11) (ys := [(Int.tmod carry12 65536)]) (Y := x13) (n := out11.length) (cap := cap11) (i := 1) zav ti3 rfl rfl rfl rfl hL14 rfl rfl f18 rfl hc10 (Src.row (pre := []) (o := 0) (n := 1) (cap := 1) (hL14.at 0 rfl rfl) f17 rfl rfl rfl) (Els.anyH (fun _ _ _ _ h => h) f17) q23 q24 q25 ?_)
   intro ob12 cap12 sp12 cs12 w15 hE12 hc17 (hL15 : vL w w15 [some b12, ob12] [zac ([] ++ ([(zI (Int.tmod carry12 65536))] ++ [])), zac ([] ++ (cs12 ++ sp12))]) hS11
   have K15 := ks w hS11
   refine zag (zak (v := (zO ob12 x13 cap12)) rfl ?_)
   refine zan (zaf rfl (zag (zai (v := (zI carry12)) rfl ?_)))
   refine zag (OpY.quoI (x := carry12) (y := 65536) (z := (iw (Int.tdiv carry12 65536))) rfl rfl (by decide) rfl ?_)
   refine zag (zak (v := (zI (iw (Int.tdiv carry12 65536)))) rfl ?_)
   refine zan (zbn (zaf rfl (zag (zai (v := (zI i10)) rfl ?_))))
   refine zag (zbz (x := i10) (y := 1) (z := (iw (i10 + 1))) rfl rfl rfl ?_)
   refine zag (zak (v := (zI (iw (i10 + 1)))) rfl (zan ?_))
   have hp10 := hL15.pick [1] rfl rfl rfl
   have hL16 : vL w w15 [ob12] [zac ([] ++ (cs12 ++ sp12))] := hp10.1
   have K16 := ks w hp10.2
   have f19 := ((hE12.mono (K15 None)).mono (K16 None))
   obtain rfl := zah h
   refine zaq ⟨(x13, (iw (Int.tdiv carry12 65536)), (iw (i10 + 1))), rfl, ?_⟩
   exact ⟨ob12, cap12, sp12, cs12, x13.length, _, (zeg ⟨rfl, rfl, rfl, rfl, rfl, trivial⟩), hL16, (zao (zao (zao (zao (zao (zao K10 K11) K12) K13) K14) K15) K16), f19, rfl, hc17, trivial⟩
  replace h := ite_f hc13 h
  refine zck rfl ?_
  have f20 := (hE10.mono (K11 None))
  obtain rfl := zah h
  obtain rfl := hd10 _ rfl
  replace h := g10
  try dsimp only at h
  refine zaq ?_
  exact ⟨out11, ob11, cap11, sp11, cs11, out11.length, _, rfl, (zeg zrt), hL11, (zao K10 K11), f20, rfl, hc10, trivial⟩
 rintro _ w16 ⟨out10, ob10, cap10, sp10, cs10, ln10, u, rfl, rfl, hL17, K17, hE13, rfl, hc18, -⟩
 replace h := g10
 try dsimp only at h
 refine zaj (zaf rfl (zag (zai (v := (zO ob10 out10 cap10)) rfl ?_)))
 have f21 := hL17.freezeRow 0 rfl rfl hE13 rfl rfl rfl hc18
 have hp11 := hL17.pick [] rfl rfl rfl
 have hL18 : vL w w16 [] [] := hp11.1
 obtain ⟨r10, q26, h⟩ := zec h
 refine zag (zay en110 rfl rfl (rtrim_w N out10 (zO ob10 out10 cap10) _ _ (f21.mono Hv.enter) r10 q26) ?_)
 rintro _ w17 hE14 ⟨v10, rfl, k10, -⟩
 replace k10 := k10.mono (Hv.aliasO (S := None) hL18 [])
 have hL19 := hL18.ext hE14
 refine zag (zak (v := v10) rfl ?_)
 refine zan (zbi ?_)
 obtain rfl := zah h
 refine ⟨[v10], zrt, ⟨_, rfl, hL19.done, ?_⟩⟩
 exact ⟨v10, rfl, (k10.mono zea), trivial⟩
theorem rminus_w (N : Nat) (a : (List Int)) (b : (List Int)) (a_v : Value) (b_v : Value) (w : World) (S : Nat → Prop) (a_h : Rs rI (vH w S [] w) a_v a) (b_h : Rs rI (vH w S [] w) b_v b) (r : (List Int)) (h : rminus N a b = some r) :
  Calls Tryz.prog 114 #[a_v, b_v] w (Ret w (fun v w' => ∃ (v0_0 : Value), v0_0 = v ∧ Rs rI (vH w None [] w') v0_0 r ∧ True)) := by
 unfold rminus at h
 have hL : vL w w [] [] := Go.X.Loc.begin0 w
 refine calls_of (l := [a_v, b_v]) (rl := [.tmp 4]) (n := 42) Tryz.func114 rfl rfl rfl (zae rfl) ?_
 refine zaj (zaf rfl (zag (zak (v := zN) rfl ?_)))
 refine zan (zaj (zaf rfl (zag (OpY.litRow0 zav ti3 hL ?_))))
 intro b1 w5 hL6 hS8
 have hE9 : Els rI (vH w None [] w) [] [] := zcm
 have K7 := ks w hS8
 refine zag (zak (v := (osv (some b1) 0 (List.length ([] : (List Int))) 0)) rfl ?_)
 refine zan (zaj (zaf rfl (zag (zak (v := (zI 0)) rfl ?_))))
 refine zan (zaj (zaj (zaf rfl (zag (zak (v := (zI 0)) rfl (zan ?_))))))
 obtain ⟨s10, hl10, g10⟩ := zec h
 refine zbs (fun e w' => ∃ (out10 : (List Int)) (ob10 : Option Nat) (cap10 : Nat) (sp10 : List Value) (cs10 : List Value) (ln10 : Nat) (u : Env), out10 = s10 ∧ e = upds [(5, (osv ob10 0 ln10 cap10))] u ∧ vL w w' [ob10] [zac ([] ++ (cs10 ++ sp10))] ∧ Keep w.heap.size [some b1] w5 [ob10] w' ∧ Els rI (vH w None [ob10] w') cs10 out10 ∧ ln10 = List.length out10 ∧ (cs10 ++ sp10).length = cap10 * rI.sz ∧ True) ?_ ?_
 ·
  refine zbb ?_
  have f10 := (hE9.mono (K7 None))
  refine zcb hl10 (fun (ss : ((List Int) × Int × Int)) (e : Env) (w' : World) => match ss with | (out11, borrow10, i10) => ∃ (ob11 : Option Nat) (cap11 : Nat) (sp11 : List Value) (cs11 : List Value) (ln11 : Nat) (u : Env), e = upds [(0, a_v), (1, b_v), (5, (osv ob11 0 ln11 cap11)), (6, (zI borrow10)), (7, (zI i10))] u ∧ vL w w' [ob11] [zac ([] ++ (cs11 ++ sp11))] ∧ Keep w.heap.size [some b1] w5 [ob11] w' ∧ Els rI (vH w None [ob11] w') cs11 out11 ∧ ln11 = List.length out11 ∧ (cs11 ++ sp11).length = cap11 * rI.sz ∧ True) ⟨some b1, 0, [], [], (List.length ([] : (List Int))), _, (zeg ⟨rfl, rfl, rfl, rfl, rfl, trivial⟩), hL6, zbq, f10, rfl, (show ([] ++ [] : List Value).length = 0 * rI.sz by simp), trivial⟩ ?_
  rintro ⟨out11, borrow10, i10⟩ oo _ w10 ⟨ob11, cap11, sp11, cs11, ln11, u, rfl, hL10, K10, hE10, rfl, hc10, -⟩ h hd10
  rw [rminus_b1] at h
  refine zaj (zaj (zaf rfl (zag (zai (v := (zI i10)) rfl ?_))))
  refine zag (zai (v := a_v) rfl ?_)
  have f11 := ((a_h.mono (K7 S)).mono (K10 S))
  refine zag (zbc (v := a_v) zav rfl f11 ?_)
  refine zag (zci (x := i10) (y := (a.length : Int)) ((i10 : Int) < (a.length : Int)) rfl rfl zbd (zan ?_))
  refine zba ((i10 : Int) < (a.length : Int)) rfl (fun hc11 => ?_) (fun hc11 => ?_)
  ·
   replace h := ite_t hc11 h
   refine zbf (zaj (zbb (zaj (zaf rfl (zag (zai (v := a_v) rfl ?_))))))
   refine zag (zai (v := (zI i10)) rfl ?_)
   obtain ⟨x10, n10, q11, q12, -, h⟩ := zix h
   obtain ⟨b10, o10, c10, vs10, q13, q14, f12, q15⟩ := zcw f11 q12
   obtain rfl := q15
   refine zag (zbp (r := rI) (v := a_v) (n := n10) (m := (o10 + n10 * rI.sz)) zav ti3 rfl q13 rfl q11 q12 rfl ?_)
   refine zag (zca (v := (zI x10)) zax rfl rfl zek f12 ?_)
   refine zag (zai (v := (zI borrow10)) rfl ?_)
   refine zag (zdz (x := x10) (y := borrow10) (z := (iw (x10 - borrow10))) rfl rfl rfl ?_)
   refine zag (zak (v := (zI (iw (x10 - borrow10)))) rfl ?_)
   refine zan (zaj (zaj (zaf rfl (zag (zai (v := (zI i10)) rfl ?_)))))
   refine zag (zai (v := b_v) rfl ?_)
   have f13 := ((b_h.mono (K7 S)).mono (K10 S))
   refine zag (zbc (v := b_v) zav rfl f13 ?_)
   refine zag (zci (x := i10) (y := (b.length : Int)) ((i10 : Int) < (b.length : Int)) rfl rfl zbd (zan ?_))
   obtain ⟨s11, h, g11⟩ := zec h
   refine zbs (fun e w' => ∃ (n11 : Int) (u : Env), n11 = s11 ∧ e = upds [(0, a_v), (1, b_v), (5, (zO ob11 out11 cap11)), (7, (zI i10)), (8, (zI n11))] u ∧ vL w w' [ob11] [zac ([] ++ (cs11 ++ sp11))] ∧ Keep w.heap.size [ob11] w10 [ob11] w' ∧ True) ?_ ?_
   ·
    refine zba ((i10 : Int) < (b.length : Int)) rfl (fun hc12 => ?_) (fun hc12 => ?_)
    ·
     replace h := ite_t hc12 h
     refine zaf rfl (zag (zai (v := (zI (iw (x10 - borrow10)))) rfl ?_))
     refine zag (zai (v := b_v) rfl ?_)
     refine zag (zai (v := (zI i10)) rfl ?_)
     obtain ⟨x11, n12, q17, q18, -, h⟩ := zix h
     obtain ⟨b11, o11, c11, vs11, q19, q20, f14, q21⟩ := zcw f13 q18
     obtain rfl := q21
     refine zag (zbp (r := rI) (v := b_v) (n := n12) (m := (o11 + n12 * rI.sz)) zav ti3 rfl q19 rfl q17 q18 rfl ?_)
     refine zag (zca (v := (zI x11)) zax rfl rfl zek f14 ?_)
     refine zag (zdz (x := (iw (x10 - borrow10))) (y := x11) (z := (iw ((iw (x10 - borrow10)) - x11))) rfl rfl rfl ?_)
     refine zag (zak (v := (zI (iw ((iw (x10 - borrow10)) - x11)))) rfl (zan ?_))
     obtain rfl := zah h
     refine zaq ?_
     exact ⟨(iw ((iw (x10 - borrow10)) - x11)), _, rfl, (zeg ⟨rfl, rfl, rfl, rfl, rfl, trivial⟩), hL10, zbq, trivial⟩
    replace h := ite_f hc12 h
    refine zbf ?_
    obtain rfl := zah h
    refine zaq ?_
    exact ⟨(iw (x10 - borrow10)), _, rfl, (zeg ⟨rfl, rfl, rfl, rfl, rfl, trivial⟩), hL10, zbq, trivial⟩
   rintro _ w11 ⟨n11, u, rfl, rfl, hL11, K11, -⟩
   replace h := g11
   try dsimp only at h
   refine zaj (zaf rfl (zag (zak (v := (zI 0)) rfl ?_)))
   refine zan (zaj (zaj (zaf rfl (zag (zai (v := (zI n11)) rfl ?_)))))
   refine zag (zci (x := n11) (y := 0) ((n11 : Int) < 0) rfl rfl zbd (zan ?_))
   obtain ⟨s12, h, g12⟩ := zec h
   refine zbs (fun e w' => ∃ (borrow11 : Int) (n13 : Int) (u : Env), (borrow11, n13) = s12 ∧ e = upds [(0, a_v), (1, b_v), (5, (zO ob11 out11 cap11)), (6, (zI borrow11)), (7, (zI i10)), (8, (zI n13))] u ∧ vL w w' [ob11] [zac ([] ++ (cs11 ++ sp11))] ∧ Keep w.heap.size [ob11] w11 [ob11] w' ∧ True) ?_ ?_
   ·
    refine zba ((n11 : Int) < 0) rfl (fun hc13 => ?_) (fun hc13 => ?_)
    ·
     replace h := ite_t hc13 h
     refine zaj (zaf rfl (zag (zai (v := (zI n11)) rfl ?_)))
     refine zag (zbz (x := n11) (y := 65536) (z := (iw (n11 + 65536))) rfl rfl rfl ?_)
     refine zag (zak (v := (zI (iw (n11 + 65536)))) rfl ?_)
     refine zan (zaf rfl (zag (zak (v := (zI 1)) rfl (zan ?_))))
     obtain rfl := zah h
     refine zaq ?_
     exact ⟨1, (iw (n11 + 65536)), _, rfl, (zeg ⟨rfl, rfl, rfl, rfl, rfl, rfl, trivial⟩), hL11, zbq, trivial⟩
    replace h := ite_f hc13 h
    refine zbf ?_
    obtain rfl := zah h
    refine zaq ?_
    exact ⟨0, n11, _, rfl, (zeg ⟨rfl, rfl, rfl, rfl, rfl, rfl, trivial⟩), hL11, zbq, trivial⟩
   rintro _ w12 ⟨borrow11, n13, u, rfl, rfl, hL12, K12, -⟩
   replace h := g12
   try dsimp only at h
   refine zaf rfl (zag (zai (v := (zO ob11 out11 cap11)) rfl ?_))
   refine zag (zai (v := (zI n13)) rfl ?_)
   have hE11 : Els rI (vH w None [ob11] w12) [(zI n13)] [n13] := (zcp (a := [(zI n13)]) rfl zcm)
   refine zag (zch (r := rI) (vs := [(zI n13)]) (css := [[(zI n13)]]) (xs := [n13]) zav ti3 (zae rfl) rfl rfl ⟨rfl, rfl, trivial⟩ (zae rfl) hE11 rfl hL12 ?_)
   intro b12 w13 hc14 hL13 hS10
   have K13 := ks w hS10
   obtain ⟨x12, q22, h⟩ := zec h
   obtain ⟨q23, q24, q25⟩ := zeq q22
   have f15 := (hE11.mono (K13 None))
   have f16 := (((hE10.mono (K11 None)).mono (K12 None)).mono (K13 None))
   refine zag (zdn (r := rI) (H := (vH w None [some b12, ob11] w13)) (cs := cs11) (sp := sp11) (xs := out11) (ys := [n13]) (Y := x12) (n := out11.length) (cap := cap11) (i := 1) zav ti3 rfl rfl rfl rfl hL13 rfl rfl f16 rfl hc10 (Src.row (pre := []) (o := 0) (n := 1) (cap := 1) (hL13.at 0 rfl rfl) f15 rfl rfl rfl) (Els.anyH (fun _ _ _ _ h => h) f15) q23 q24 q25 ?_)
   intro ob12 cap12 sp12 cs12 w14 hE12 hc15 (hL14 : vL w w14 [some b12, ob12] [zac ([] ++ ([(zI n13)] ++ [])), zac ([] ++ (cs12 ++ sp12))]) hS11
   have K14 := ks w hS11
   refine zag (zak (v := (zO ob12 x12 cap12)) rfl ?_)
   refine zan (zbn (zaf rfl (zag (zai (v := (zI i10)) rfl ?_))))
   refine zag (zbz (x := i10) (y := 1) (z := (iw (i10 + 1))) rfl rfl rfl ?_)
   refine zag (zak (v := (zI (iw (i10 + 1)))) rfl (zan ?_))
   have hp10 := hL14.pick [1] rfl rfl rfl
   have hL15 : vL w w14 [ob12] [zac ([] ++ (cs12 ++ sp12))] := hp10.1
   have K15 := ks w hp10.2
   have f17 := ((hE12.mono (K14 None)).mono (K15 None))
   obtain rfl := zah h
   refine zaq ⟨(x12, borrow11, (iw (i10 + 1))), rfl, ?_⟩
   exact ⟨ob12, cap12, sp12, cs12, x12.length, _, (zeg ⟨rfl, rfl, rfl, rfl, rfl, trivial⟩), hL15, (zao (zao (zao (zao (zao K10 K11) K12) K13) K14) K15), f17, rfl, hc15, trivial⟩
  replace h := ite_f hc11 h
  refine zck rfl ?_
  obtain rfl := zah h
  obtain rfl := hd10 _ rfl
  replace h := g10
  try dsimp only at h
  refine zaq ?_
  exact ⟨out11, ob11, cap11, sp11, cs11, out11.length, _, rfl, (zeg zrt), hL10, K10, hE10, rfl, hc10, trivial⟩
 rintro _ w15 ⟨out10, ob10, cap10, sp10, cs10, ln10, u, rfl, rfl, hL16, K16, hE13, rfl, hc16, -⟩
 replace h := g10
 try dsimp only at h
 refine zaj (zaf rfl (zag (zai (v := (zO ob10 out10 cap10)) rfl ?_)))
 have f18 := hL16.freezeRow 0 rfl rfl hE13 rfl rfl rfl hc16
 have hp11 := hL16.pick [] rfl rfl rfl
 have hL17 : vL w w15 [] [] := hp11.1
 obtain ⟨r10, q26, h⟩ := zec h
 refine zag (zay en110 rfl rfl (rtrim_w N out10 (zO ob10 out10 cap10) _ _ (f18.mono Hv.enter) r10 q26) ?_)
 rintro _ w16 hE14 ⟨v10, rfl, k10, -⟩
 replace k10 := k10.mono (Hv.aliasO (S := None) hL17 [])
 have hL18 := hL17.ext hE14
 refine zag (zak (v := v10) rfl ?_)
 refine zan (zbi ?_)
 obtain rfl := zah h
 refine ⟨[v10], zrt, ⟨_, rfl, hL18.done, ?_⟩⟩
 exact ⟨v10, rfl, (k10.mono zea), trivial⟩
theorem rsplit_w (N : Nat) (a : (List Int)) (b : (List Int)) (a_v : Value) (b_v : Value) (w : World) (S : Nat → Prop) (a_h : Rs rI (vH w S [] w) a_v a) (b_h : Rs rI (vH w S [] w) b_v b) (r : ((List Int) × (List Int))) (h : rsplit N a b = some r) :
  Calls Tryz.prog 144 #[a_v, b_v] w (Ret w (fun v w' => ∃ (v0_0 : Value) (v1_0 : Value), .tuple #[v0_0, v1_0] = v ∧ Rs rI (vH w None [] w') v0_0 r.1 ∧ Rs rI (vH w None [] w') v1_0 r.2 ∧ True)) := by
 unfold rsplit at h
 have hL : vL w w [] [] := Go.X.Loc.begin0 w
 refine calls_of (l := [a_v, b_v]) (rl := [.tmp 4, .tmp 5]) (n := 56) Tryz.func144 rfl rfl rfl (zae rfl) ?_
 refine zaj (zaf rfl (zag (zak (v := zN) rfl ?_)))
 refine zag (zak (v := zN) rfl ?_)
 refine zan (zaj (zaf rfl (zag (zai (v := a_v) rfl ?_))))
 refine zag (zbc (v := a_v) zav rfl a_h ?_)
 obtain ⟨x2, q3, h⟩ := zec h
 obtain ⟨m1, q4, q5, q6, q7⟩ := mk1_some q3
 refine zag (OpY.mkRowX (r := rI) (H := (vH w None [] w)) (zc := [(zI 0)]) (x := 0) zav ti3 rfl rfl rfl rfl q4 q5 q6 q7 hL ?_)
 intro b8 w10 cs9 hE10 hc10 hL10 hS10
 have K10 := ks w hS10
 refine zag (OpY.litRow0 zav ti3 hL10 ?_)
 intro b10 w11 hL11 hS11
 have hE11 : Els rI (vH w None [some b8] w10) [] [] := zcm
 have K11 := ks w hS11
 refine zag (zak (v := (zO (some b8) x2 m1)) rfl ?_)
 refine zag (zak (v := (osv (some b10) 0 (List.length ([] : (List Int))) 0)) rfl ?_)
 refine zan (zaj (zaj (zaf rfl (zag (zai (v := a_v) rfl ?_)))))
 have f10 := ((a_h.mono (K10 S)).mono (K11 S))
 refine zag (zbc (v := a_v) zav rfl f10 ?_)
 refine zag (zdz (x := (a.length : Int)) (y := 1) (z := (iw ((a.length : Int) - 1))) rfl rfl rfl ?_)
 refine zag (zak (v := (zI (iw ((a.length : Int) - 1)))) rfl (zan ?_))
 obtain ⟨s10, hl10, g10⟩ := zec h
 refine zbs (fun e w' => ∃ (q10 : (List Int)) (x10 : (List Int)) (cs10 : List Value) (v10 : Value) (u : Env), (q10, x10) = s10 ∧ e = upds [(6, (zO (some b8) x2 m1)), (7, v10)] u ∧ vL w w' [some b8] [zac ([] ++ (cs10 ++ []))] ∧ Keep w.heap.size [some b10, some b8] w11 [some b8] w' ∧ Els rI (vH w None [some b8] w') cs10 q10 ∧ x2.length = List.length q10 ∧ (cs10 ++ []).length = m1 * rI.sz ∧ Rs rI (vH w None [some b8] w') v10 x10 ∧ True) ?_ ?_
 ·
  refine zbb ?_
  have f11 := (hE11.mono (K11 None))
  have f12 := hL11.freezeRow 0 rfl rfl f11 rfl rfl rfl (show ([] ++ [] : List Value).length = 0 * rI.sz by simp)
  have hp10 := hL11.pick [1] rfl rfl rfl
  have hL12 : vL w w11 [some b8] [zac ([] ++ (cs9 ++ []))] := hp10.1
  have K12 := ks w hp10.2
  have f13 := (((hE10.mono (K10 None)).mono (K11 None)).mono (K12 None))
  refine zcb hl10 (fun (ss : ((List Int) × (List Int) × Int)) (e : Env) (w' : World) => match ss with | (q11, x11, i10) => ∃ (cs11 : List Value) (v11 : Value) (u : Env), e = upds [(0, a_v), (1, b_v), (6, (zO (some b8) x2 m1)), (7, v11), (8, (zI i10))] u ∧ vL w w' [some b8] [zac ([] ++ (cs11 ++ []))] ∧ Keep w.heap.size [some b10, some b8] w11 [some b8] w' ∧ Els rI (vH w None [some b8] w') cs11 q11 ∧ x2.length = List.length q11 ∧ (cs11 ++ []).length = m1 * rI.sz ∧ Rs rI (vH w None [some b8] w') v11 x11 ∧ True) ⟨cs9, (osv (some b10) 0 (List.length ([] : (List Int))) 0), _, (zeg ⟨rfl, rfl, rfl, rfl, rfl, trivial⟩), hL12, K12, f13, rfl, hc10, f12, trivial⟩ ?_
  rintro ⟨q11, x11, i10⟩ oo _ w12 ⟨cs11, v11, u, rfl, hL13, K13, hE12, hl11, hc11, k10, -⟩ h hd10
  rw [rsplit_b1] at h
  refine zaj (zaj (zaf rfl (zag (zai (v := (zI i10)) rfl ?_))))
  refine zag (OpY.geq (x := i10) (y := 0) ((i10 : Int) ≥ 0) rfl rfl zbd (zan ?_))
  refine zba ((i10 : Int) ≥ 0) rfl (fun hc12 => ?_) (fun hc12 => ?_)
  ·
   replace h := ite_t hc12 h
   refine zbf (zaj (zbb (zaj (zaf rfl (zag (zak (v := (zI 32768)) rfl (zan ?_)))))))
   obtain ⟨s11, hl12, g11⟩ := zec h
   refine zbs (fun e w' => ∃ (q12 : (List Int)) (x12 : (List Int)) (cs12 : List Value) (v12 : Value) (u : Env), (q12, x12) = s11 ∧ e = upds [(0, a_v), (1, b_v), (6, (zO (some b8) x2 m1)), (7, v12), (8, (zI i10))] u ∧ vL w w' [some b8] [zac ([] ++ (cs12 ++ []))] ∧ Keep w.heap.size [some b8] w12 [some b8] w' ∧ Els rI (vH w None [some b8] w') cs12 q12 ∧ x2.length = List.length q12 ∧ (cs12 ++ []).length = m1 * rI.sz ∧ Rs rI (vH w None [some b8] w') v12 x12 ∧ True) ?_ ?_
   ·
    refine zbb ?_
    refine zcb hl12 (fun (ss : ((List Int) × (List Int) × Int)) (e : Env) (w' : World) => match ss with | (q13, x13, bit10) => ∃ (cs13 : List Value) (v13 : Value) (u : Env), e = upds [(0, a_v), (1, b_v), (6, (zO (some b8) x2 m1)), (7, v13), (8, (zI i10)), (9, (zI bit10))] u ∧ vL w w' [some b8] [zac ([] ++ (cs13 ++ []))] ∧ Keep w.heap.size [some b8] w12 [some b8] w' ∧ Els rI (vH w None [some b8] w') cs13 q13 ∧ x2.length = List.length q13 ∧ (cs13 ++ []).length = m1 * rI.sz ∧ Rs rI (vH w None [some b8] w') v13 x13 ∧ True) ⟨cs11, v11, _, (zeg ⟨rfl, rfl, rfl, rfl, rfl, rfl, trivial⟩), hL13, zbq, hE12, hl11, hc11, k10, trivial⟩ ?_
    rintro ⟨q13, x13, bit10⟩ oo _ w13 ⟨cs13, v13, u, rfl, hL14, K14, hE13, hl13, hc13, k11, -⟩ h hd11
    rw [rsplit_b2] at h
    refine zaj (zaj (zaf rfl (zag (zai (v := (zI bit10)) rfl ?_))))
    refine zag (OpY.gtr (x := bit10) (y := 0) ((bit10 : Int) > 0) rfl rfl zbd (zan ?_))
    refine zba ((bit10 : Int) > 0) rfl (fun hc14 => ?_) (fun hc14 => ?_)
    ·
     replace h := ite_t hc14 h
     refine zbf (zaj (zbb (zaj (zaf rfl (zag (zai (v := v13) rfl ?_))))))
     refine zag (zai (v := v13) rfl ?_)
     obtain ⟨r10, q14, h⟩ := zec h
     refine zag (zay en112 rfl rfl (rplus_w N x13 x13 v13 v13 _ Any (k11.mono vw_any) (k11.mono vw_any) r10 q14) ?_)
     rintro _ w14 hE14 ⟨v14, rfl, k12, -⟩
     replace k12 := k12.mono (zbu (S := None) hL14 [])
     obtain ⟨hL15, K15⟩ := zl hL14 hE14
     refine zag (zak (v := v14) rfl ?_)
     refine zan (zaj (zaj (zaf rfl (zag (zai (v := a_v) rfl ?_)))))
     refine zag (zai (v := (zI i10)) rfl ?_)
     obtain ⟨x14, n10, q16, q17, -, h⟩ := zix h
     have f14 := (((f10.mono (K13 S)).mono (K14 S)).mono (K15 S))
     obtain ⟨b11, o10, c10, vs10, q18, q19, f15, q20⟩ := zcw f14 q17
     obtain rfl := q20
     refine zag (zbp (r := rI) (v := a_v) (n := n10) (m := (o10 + n10 * rI.sz)) zav ti3 rfl q18 rfl q16 q17 rfl ?_)
     refine zag (zca (v := (zI x14)) zax rfl rfl zek f15 ?_)
     refine zag (zai (v := (zI bit10)) rfl ?_)
     obtain ⟨x15, q21, h⟩ := zec h
     obtain ⟨q22, q23⟩ := sdiv_some q21
     refine zag (OpY.quoI (x := x14) (y := bit10) (z := x15) rfl rfl q22 q23 ?_)
     refine zag (OpY.remI (x := x15) (y := 2) rfl rfl (by decide) ?_)
     refine zag (zdp (x := (Int.tmod x15 2)) (y := 1) (((Int.tmod x15 2) : Int) = 1) rfl rfl zbd (zan ?_))
     obtain ⟨s12, h, g12⟩ := zec h
     refine zbs (fun e w' => ∃ (x16 : (List Int)) (v15 : Value) (u : Env), x16 = s12 ∧ e = upds [(0, a_v), (1, b_v), (6, (zO (some b8) x2 m1)), (7, v15), (8, (zI i10)), (9, (zI bit10))] u ∧ vL w w' [some b8] [zac ([] ++ (cs13 ++ []))] ∧ Keep w.heap.size [some b8] w14 [some b8] w' ∧ Rs rI (vH w None [some b8] w') v15 x16 ∧ True) ?_ ?_
     ·
      refine zba (((Int.tmod x15 2) : Int) = 1) rfl (fun hc15 => ?_) (fun hc15 => ?_)
      ·
       replace h := ite_t hc15 h
       refine zaf rfl (zag (zai (v := v14) rfl ?_))
       have hE15 : Els rI (vH w None [some b8] w14) [(zI 1)] [1] := (zcp (a := [(zI 1)]) rfl zcm)
       refine zag (zch (r := rI) (vs := [(zI 1)]) (css := [[(zI 1)]]) (xs := [1]) zav ti3 (zae rfl) rfl rfl ⟨rfl, rfl, trivial⟩ (zae rfl) hE15 rfl hL15 ?_)
       intro b12 w15 hc16 hL16 hS12
       have K16 := ks w hS12
       obtain ⟨r11, q24, h⟩ := zec h
       have f16 := (k12.mono (K16 None))
       have f17 := (hE15.mono (K16 None))
       refine zag (zay en112 rfl rfl (rplus_w N r10 [1] v14 (osv (some b12) 0 1 1) _ Any (f16.mono vw_any) (zel (pre := []) (o := 0) (n := 1) (cap := 1) (hL16.at 0 rfl rfl) f17 vw_any rfl rfl rfl hc16) r11 q24) ?_)
       rintro _ w16 hE16 ⟨v16, rfl, k13, -⟩
       replace k13 := k13.mono (zbu (S := None) hL16 [])
       obtain ⟨hL17, K17⟩ := zl hL16 hE16
       refine zag (zak (v := v16) rfl (zan ?_))
       have hp11 := hL17.pick [1] rfl rfl rfl
       have hL18 : vL w w16 [some b8] [zac ([] ++ (cs13 ++ []))] := hp11.1
       have K18 := ks w hp11.2
       have f18 := (k13.mono (K18 None))
       obtain rfl := zah h
       refine zaq ?_
       exact ⟨r11, v16, _, rfl, (zeg ⟨rfl, rfl, rfl, rfl, rfl, rfl, trivial⟩), hL18, (zao (zao K16 K17) K18), f18, trivial⟩
      replace h := ite_f hc15 h
      refine zbf ?_
      obtain rfl := zah h
      refine zaq ?_
      exact ⟨r10, v14, _, rfl, (zeg ⟨rfl, rfl, rfl, rfl, rfl, rfl, trivial⟩), hL15, zbq, k12, trivial⟩
     rintro _ w17 ⟨x16, v15, u, rfl, rfl, hL19, K19, k14, -⟩
     replace h := g12
     try dsimp only at h
     refine zaj (zaf rfl (zag (zai (v := v15) rfl ?_)))
     refine zag (zai (v := b_v) rfl ?_)
     obtain ⟨r12, q25, h⟩ := zec h
     have f19 := ((((((b_h.mono (K10 S)).mono (K11 S)).mono (K13 S)).mono (K14 S)).mono (K15 S)).mono (K19 S))
     refine zag (zay en113 rfl rfl (rorder_w N x16 b v15 b_v _ Any (k14.mono vw_any) (f19.mono vw_any) r12 q25) ?_)
     rintro _ w18 hE17 ⟨rfl, -⟩
     obtain ⟨hL20, K20⟩ := zl hL19 hE17
     refine zag (OpY.geq (x := r12) (y := 0) ((r12 : Int) ≥ 0) rfl rfl zbd (zan ?_))
     refine zba ((r12 : Int) ≥ 0) rfl (fun hc17 => ?_) (fun hc17 => ?_)
     ·
      replace h := ite_t hc17 h
      refine zaj (zaf rfl (zag (zai (v := v15) rfl ?_)))
      refine zag (zai (v := b_v) rfl ?_)
      obtain ⟨r13, q26, h⟩ := zec h
      have f20 := (k14.mono (K20 None))
      have f21 := (f19.mono (K20 S))
      refine zag (zay en114 rfl rfl (rminus_w N x16 b v15 b_v _ Any (f20.mono vw_any) (f21.mono vw_any) r13 q26) ?_)
      rintro _ w19 hE18 ⟨v17, rfl, k15, -⟩
      replace k15 := k15.mono (zbu (S := None) hL20 [])
      obtain ⟨hL21, K21⟩ := zl hL20 hE18
      refine zag (zak (v := v17) rfl ?_)
      refine zan (zaf rfl (zag (zai (v := (zO (some b8) x2 m1)) rfl ?_)))
      refine zag (zai (v := (zI i10)) rfl ?_)
      obtain ⟨x17, n11, q28, q29, q30, h⟩ := zix h
      refine zag (zdv (r := rI) (b := b8) (o := 0) (n := n11) (m := x2.length) (xs := q13) (q := (0 + n11 * rI.sz)) zav ti3 rfl hl13 rfl q28 q30 rfl ?_)
      have f22 := ((((hE13.mono (K15 None)).mono (K19 None)).mono (K20 None)).mono (K21 None))
      obtain ⟨vs11, q31, q32, q33⟩ := row_elem (pre := []) (sp := []) f22 q29
      obtain rfl := q32
      refine zag (OpY.ldElem1 (v := (zI x17)) zax rfl rfl (hL21.at 0 rfl rfl) q33 ?_)
      refine zag (zai (v := (zI bit10)) rfl ?_)
      refine zag (zbz (x := x17) (y := bit10) (z := (iw (x17 + bit10))) rfl rfl rfl ?_)
      obtain ⟨x18, n12, q35, q36, q37, h⟩ := zix h
      refine zag (zdv (r := rI) (b := b8) (o := 0) (n := n12) (m := x2.length) (xs := q13) (q := (0 + n12 * rI.sz)) zav ti3 rfl hl13 rfl q35 q37 rfl ?_)
      obtain ⟨x19, n13, q39, q40, q41, h⟩ := zux h
      obtain rfl := zin q35 q39
      refine zcf (OpY.stRowX (pre := []) (r := rI) (vs := [(zI (iw (x17 + bit10)))]) (a := (iw (x17 + bit10))) ti3 rfl rfl rfl rfl hL21 0 rfl rfl f22 q37 rfl q41 ?_)
      have hl14 : x2.length = List.length x19 := by rw [q41, List.length_set]; exact hl13
      intro w20 cs14 (hL22 : vL w w20 [some b8] [zac ([] ++ (cs14 ++ []))]) hS13 hE19 q42
      have hc18 : (cs14 ++ []).length = m1 * rI.sz := zhc hc13 q42
      have K22 := ks w hS13
      refine zan (zbn (zaf rfl (zag (zai (v := (zI bit10)) rfl ?_))))
      refine zag (OpY.quoI (x := bit10) (y := 2) (z := (iw (Int.tdiv bit10 2))) rfl rfl (by decide) rfl ?_)
      refine zag (zak (v := (zI (iw (Int.tdiv bit10 2)))) rfl (zan ?_))
      have f23 := (hE19.mono (K22 None))
      have f24 := (k15.mono (K22 None))
      obtain rfl := zah h
      refine zaq ⟨(x19, r13, (iw (Int.tdiv bit10 2))), rfl, ?_⟩
      exact ⟨cs14, v17, _, (zeg ⟨rfl, rfl, rfl, rfl, rfl, rfl, trivial⟩), hL22, (zao (zao (zao (zao (zao K14 K15) K19) K20) K21) K22), f23, hl14, hc18, f24, trivial⟩
     replace h := ite_f hc17 h
     refine zbf (zbn (zaf rfl (zag (zai (v := (zI bit10)) rfl ?_))))
     refine zag (OpY.quoI (x := bit10) (y := 2) (z := (iw (Int.tdiv bit10 2))) rfl rfl (by decide) rfl ?_)
     refine zag (zak (v := (zI (iw (Int.tdiv bit10 2)))) rfl (zan ?_))
     have f25 := (((hE13.mono (K15 None)).mono (K19 None)).mono (K20 None))
     have f26 := (k14.mono (K20 None))
     obtain rfl := zah h
     refine zaq ⟨(q13, x16, (iw (Int.tdiv bit10 2))), rfl, ?_⟩
     exact ⟨cs13, v15, _, (zeg ⟨rfl, rfl, rfl, rfl, rfl, rfl, trivial⟩), hL20, (zao (zao (zao K14 K15) K19) K20), f25, hl13, hc13, f26, trivial⟩
    replace h := ite_f hc14 h
    refine zck rfl ?_
    obtain rfl := zah h
    obtain rfl := hd11 _ rfl
    replace h := g11
    try dsimp only at h
    refine zaq ?_
    exact ⟨q13, x13, cs13, v13, _, rfl, (zeg ⟨rfl, rfl, rfl, rfl, rfl, trivial⟩), hL14, K14, hE13, hl13, hc13, k11, trivial⟩
   rintro _ w21 ⟨q12, x12, cs12, v12, u, rfl, rfl, hL23, K23, hE20, hl15, hc19, k16, -⟩
   replace h := g11
   try dsimp only at h
   refine zbn (zaf rfl (zag (zai (v := (zI i10)) rfl ?_)))
   refine zag (zdz (x := i10) (y := 1) (z := (iw (i10 - 1))) rfl rfl rfl ?_)
   refine zag (zak (v := (zI (iw (i10 - 1)))) rfl (zan ?_))
   obtain rfl := zah h
   refine zaq ⟨(q12, x12, (iw (i10 - 1))), rfl, ?_⟩
   exact ⟨cs12, v12, _, (zeg ⟨rfl, rfl, rfl, rfl, rfl, trivial⟩), hL23, (zao K13 K23), hE20, hl15, hc19, k16, trivial⟩
  replace h := ite_f hc12 h
  refine zck rfl ?_
  obtain rfl := zah h
  obtain rfl := hd10 _ rfl
  replace h := g10
  try dsimp only at h
  refine zaq ?_
  exact ⟨q11, x11, cs11, v11, _, rfl, (zeg ⟨rfl, rfl, trivial⟩), hL13, K13, hE12, hl11, hc11, k10, trivial⟩
 rintro _ w22 ⟨q10, x10, cs10, v10, u, rfl, rfl, hL24, K24, hE21, hl16, hc20, k17, -⟩
 replace h := g10
 try dsimp only at h
 refine zaj (zaf rfl (zag (zai (v := (zO (some b8) x2 m1)) rfl ?_)))
 have f27 := hL24.freezeRow 0 rfl rfl hE21 rfl rfl hl16 hc20
 have hp12 := hL24.pick [] rfl rfl rfl
 have hL25 : vL w w22 [] [] := hp12.1
 have K25 := ks w hp12.2
 obtain ⟨r14, q43, h⟩ := zec h
 refine zag (zay en110 rfl rfl (rtrim_w N q10 (zO (some b8) x2 m1) _ _ (f27.mono Hv.enter) r14 q43) ?_)
 rintro _ w23 hE22 ⟨v18, rfl, k18, -⟩
 replace k18 := k18.mono (Hv.aliasO (S := None) hL25 [])
 obtain ⟨hL26, K26⟩ := zl hL25 hE22
 refine zag (zai (v := v10) rfl ?_)
 refine zag (zak (v := v18) rfl ?_)
 refine zag (zak (v := v10) rfl ?_)
 refine zan (zbi ?_)
 obtain rfl := zah h
 refine ⟨[v18, v10], ⟨rfl, rfl, trivial⟩, ⟨_, rfl, hL26.done, ?_⟩⟩
 have f28 := ((k17.mono (K25 None)).mono (K26 None))
 exact ⟨v18, v10, rfl, (k18.mono zea), (f28.mono zea), trivial⟩
theorem rOf_w (N : Nat) (n : Int)  (w : World) (S : Nat → Prop)  (r : Big) (h : rOf N n = some r) :
  Calls Tryz.prog 52 #[(zI n)] w (Ret w (fun v w' => ∃ (v0_0 : Value), (zap #[(zab r.Negative), v0_0]) = v ∧ Rs (rInt .u32) (vH w None [] w') v0_0 r.Digits ∧ True)) := by
 unfold rOf at h
 have hL : vL w w [] [] := Go.X.Loc.begin0 w
 refine calls_of (l := [(zI n)]) (rl := [.cell 2 57]) (n := 29) Tryz.func52 rfl rfl rfl (zae rfl) ?_
 refine zaj (zaf rfl (zag (zbw (cs := [zF, zN]) ti57 rfl hL ?_)))
 intro b1 w2 hL3 hS5
 refine zan (zaj (zaf rfl (zag (zai (v := (zI n)) rfl ?_))))
 refine zag (zcr (x := n) (z := (uw n)) zdd zbv rfl rfl ?_)
 refine zag (zak (v := (zaa .u64 (uw n))) rfl ?_)
 refine zan (zaj (zaj (zaf rfl (zag (zai (v := (zI n)) rfl ?_)))))
 refine zag (zci (x := n) (y := 0) ((n : Int) < 0) rfl rfl zbd (zan ?_))
 obtain ⟨s9, h, g10⟩ := zec h
 refine zbs (fun e w' => ∃ (u8 : Int) (u : Env), u8 = s9 ∧ e = upds [(0, (zI n)), (2, (zal (some ⟨b1, 0, none⟩))), (3, (zaa .u64 u8))] u ∧ vL w w' [some b1] [zac [zF, zN]] ∧ Keep w.heap.size [some b1] w2 [some b1] w' ∧ True) ?_ ?_
 ·
  refine zba ((n : Int) < 0) rfl (fun hc10 => ?_) (fun hc10 => ?_)
  ·
   replace h := ite_t hc10 h
   refine zaf rfl (zag (zai (v := (zI n)) rfl ?_))
   refine zag (zbz (x := n) (y := 1) (z := (iw (n + 1))) rfl rfl rfl ?_)
   refine zag (OpY.neg (x := (iw (n + 1))) (z := (iw (0 - (iw (n + 1))))) rfl rfl ?_)
   refine zag (zcr (x := (iw (0 - (iw (n + 1))))) (z := (uw (iw (0 - (iw (n + 1)))))) zdd zbv rfl rfl ?_)
   refine zag (zbz (x := (uw (iw (0 - (iw (n + 1)))))) (y := 1) (z := (uw ((uw (iw (0 - (iw (n + 1))))) + 1))) rfl rfl rfl ?_)
   refine zag (zak (v := (zaa .u64 (uw ((uw (iw (0 - (iw (n + 1))))) + 1)))) rfl (zan ?_))
   obtain rfl := zah h
   refine zaq ?_
   exact ⟨(uw ((uw (iw (0 - (iw (n + 1))))) + 1)), _, rfl, (zeg ⟨rfl, rfl, rfl, trivial⟩), hL3, zbq, trivial⟩
  replace h := ite_f hc10 h
  refine zbf ?_
  obtain rfl := zah h
  refine zaq ?_
  exact ⟨(uw n), _, rfl, (zeg ⟨rfl, rfl, rfl, trivial⟩), hL3, zbq, trivial⟩
 rintro _ w10 ⟨u8, u, rfl, rfl, hL10, K10, -⟩
 replace h := g10
 try dsimp only at h
 refine zaj (zaf rfl (zag (OpY.litRow0 zav ti3 hL10 ?_)))
 intro b10 w11 hL11 hS10
 have hE10 : Els rI (vH w None [some b1] w10) [] [] := zcm
 have K11 := ks w hS10
 refine zag (zak (v := (osv (some b10) 0 (List.length ([] : (List Int))) 0)) rfl ?_)
 refine zan (zaj ?_)
 obtain ⟨s10, hl10, g11⟩ := zec h
 refine zbs (fun e w' => ∃ (l10 : (List Int)) (ob10 : Option Nat) (cap10 : Nat) (sp10 : List Value) (cs10 : List Value) (ln10 : Nat) (u : Env), l10 = s10 ∧ e = upds [(0, (zI n)), (2, (zal (some ⟨b1, 0, none⟩))), (4, (osv ob10 0 ln10 cap10))] u ∧ vL w w' [some b1, ob10] [zac [zF, zN], zac ([] ++ (cs10 ++ sp10))] ∧ Keep w.heap.size [some b10, some b1] w11 [some b1, ob10] w' ∧ Els rI (vH w None [some b1, ob10] w') cs10 l10 ∧ ln10 = List.length l10 ∧ (cs10 ++ sp10).length = cap10 * rI.sz ∧ True) ?_ ?_
 ·
  refine zbb ?_
  have hp10 := hL11.pick [1, 0] rfl rfl rfl
  have hL12 : vL w w11 [some b1, some b10] [zac [zF, zN], zac ([] ++ ([] ++ []))] := hp10.1
  have K12 := ks w hp10.2
  have f10 := ((hE10.mono (K11 None)).mono (K12 None))
  refine zcb hl10 (fun (ss : (Int × (List Int))) (e : Env) (w' : World) => match ss with | (u10, l11) => ∃ (ob11 : Option Nat) (cap11 : Nat) (sp11 : List Value) (cs11 : List Value) (ln11 : Nat) (u : Env), e = upds [(0, (zI n)), (2, (zal (some ⟨b1, 0, none⟩))), (3, (zaa .u64 u10)), (4, (osv ob11 0 ln11 cap11))] u ∧ vL w w' [some b1, ob11] [zac [zF, zN], zac ([] ++ (cs11 ++ sp11))] ∧ Keep w.heap.size [some b10, some b1] w11 [some b1, ob11] w' ∧ Els rI (vH w None [some b1, ob11] w') cs11 l11 ∧ ln11 = List.length l11 ∧ (cs11 ++ sp11).length = cap11 * rI.sz ∧ True) ⟨some b10, 0, [], [], (List.length ([] : (List Int))), _, (zeg ⟨rfl, rfl, rfl, rfl, trivial⟩), hL12, K12, f10, rfl, (show ([] ++ [] : List Value).length = 0 * rI.sz by simp), trivial⟩ ?_
  rintro ⟨u10, l11⟩ oo _ w12 ⟨ob11, cap11, sp11, cs11, ln11, u, rfl, hL13, K13, hE11, rfl, hc11, -⟩ h hd10
  rw [rOf_b1] at h
  refine zaj (zaj (zaf rfl (zag (zai (v := (zaa .u64 u10)) rfl ?_))))
  refine zag (OpY.gtr (x := u10) (y := 0) ((u10 : Int) > 0) rfl rfl zbd (zan ?_))
  refine zba ((u10 : Int) > 0) rfl (fun hc12 => ?_) (fun hc12 => ?_)
  ·
   replace h := ite_t hc12 h
   refine zbf (zbb (zaj (zaf rfl (zag (zai (v := (zO ob11 l11 cap11)) rfl ?_)))))
   refine zag (zai (v := (zaa .u64 u10)) rfl ?_)
   refine zag (OpY.remI (x := u10) (y := 65536) rfl rfl (by decide) ?_)
   refine zag (zcr (x := (Int.tmod u10 65536)) (z := (iw (Int.tmod u10 65536))) zbv zax rfl rfl ?_)
   have hE12 : Els rI (vH w None [some b1, ob11] w12) [(zI (iw (Int.tmod u10 65536)))] [(iw (Int.tmod u10 65536))] := (zcp (a := [(zI (iw (Int.tmod u10 65536)))]) rfl zcm)
   refine zag (zch (r := rI) (vs := [(zI (iw (Int.tmod u10 65536)))]) (css := [[(zI (iw (Int.tmod u10 65536)))]]) (xs := [(iw (Int.tmod u10 65536))]) zav ti3 (zae rfl) rfl rfl ⟨rfl, rfl, trivial⟩ (zae rfl) hE12 rfl hL13 ?_)
   intro b11 w13 hc13 hL14 hS11
   have K14 := ks w hS11
   obtain ⟨x10, q10, h⟩ := zec h
   obtain ⟨q11, q12, q13⟩ := zeq q10
   have f11 := (hE12.mono (K14 None))
   have f12 := (hE11.mono (K14 None))
   refine zag (zdn (r := rI) (H := (vH w None [some b11, some b1, ob11] w13)) (cs := cs11) (sp := sp11) (xs := l11) (ys := [(iw (Int.tmod u10 65536))]) (Y := x10) (n := l11.length) (cap := cap11) (i := 2) zav ti3 rfl rfl rfl rfl hL14 rfl rfl f12 rfl hc11 (Src.row (pre := []) (o := 0) (n := 1) (cap := 1) (hL14.at 0 rfl rfl) f11 rfl rfl rfl) (Els.anyH (fun _ _ _ _ h => h) f11) q11 q12 q13 ?_)
   intro ob12 cap12 sp12 cs12 w14 hE13 hc14 (hL15 : vL w w14 [some b11, some b1, ob12] [zac ([] ++ ([(zI (iw (Int.tmod u10 65536)))] ++ [])), zac [zF, zN], zac ([] ++ (cs12 ++ sp12))]) hS12
   have K15 := ks w hS12
   refine zag (zak (v := (zO ob12 x10 cap12)) rfl ?_)
   refine zan (zaf rfl (zag (zai (v := (zaa .u64 u10)) rfl ?_)))
   refine zag (OpY.quoI (x := u10) (y := 65536) (z := (uw (Int.tdiv u10 65536))) rfl rfl (by decide) rfl ?_)
   refine zag (zak (v := (zaa .u64 (uw (Int.tdiv u10 65536)))) rfl ?_)
   refine zan (zbn ?_)
   have hp11 := hL15.pick [1, 2] rfl rfl rfl
   have hL16 : vL w w14 [some b1, ob12] [zac [zF, zN], zac ([] ++ (cs12 ++ sp12))] := hp11.1
   have K16 := ks w hp11.2
   have f13 := ((hE13.mono (K15 None)).mono (K16 None))
   obtain rfl := zah h
   refine zaq ⟨((uw (Int.tdiv u10 65536)), x10), rfl, ?_⟩
   exact ⟨ob12, cap12, sp12, cs12, x10.length, _, (zeg ⟨rfl, rfl, rfl, rfl, trivial⟩), hL16, (zao (zao (zao K13 K14) K15) K16), f13, rfl, hc14, trivial⟩
  replace h := ite_f hc12 h
  refine zck rfl ?_
  obtain rfl := zah h
  obtain rfl := hd10 _ rfl
  replace h := g11
  try dsimp only at h
  refine zaq ?_
  exact ⟨l11, ob11, cap11, sp11, cs11, l11.length, _, rfl, (zeg ⟨rfl, rfl, rfl, trivial⟩), hL13, K13, hE11, rfl, hc11, trivial⟩
 rintro _ w15 ⟨l10, ob10, cap10, sp10, cs10, ln10, u, rfl, rfl, hL17, K17, hE14, rfl, hc15, -⟩
 replace h := g11
 try dsimp only at h
 refine zaj (zaf rfl (zag (zai (v := (zI n)) rfl ?_)))
 refine zag (zci (x := n) (y := 0) ((n : Int) < 0) rfl rfl zbd ?_)
 refine zag (zai (v := (zO ob10 l10 cap10)) rfl ?_)
 obtain ⟨r10, q14, h⟩ := zec h
 refine zag (zay en80 rfl rfl (rbig_w N (decide ((n : Int) < 0)) l10 (zO ob10 l10 cap10) _ Any (zel (pre := []) (o := 0) (n := l10.length) (cap := cap10) (hL17.at 1 rfl rfl) hE14 vw_any rfl rfl rfl hc15) r10 q14) ?_)
 rintro _ w16 hE15 ⟨v10, rfl, k10, -⟩
 replace k10 := k10.mono (zbu (S := None) hL17 [])
 have hL18 := hL17.ext hE15
 refine zcf (zbo (vs := [(zab r10.Negative), v10]) ti57 rfl rfl rfl rfl (zee rfl (zee k10.one zej)) hL18 0 rfl rfl (zae rfl) ?_)
 intro w17 (hL19 : vL w w17 [some b1, ob10] [zac [(zab r10.Negative), v10], zac ([] ++ (cs10 ++ sp10))]) hS13
 have K18 := ks w hS13
 refine zan (zbi ?_)
 obtain rfl := zah h
 refine ⟨[(zap #[(zab r10.Negative), v10])], ⟨⟨⟨b1, 0, none⟩, rfl, zeo zar rfl ti57 (hL19.at 0 rfl rfl) rfl⟩, trivial⟩, ⟨_, rfl, hL19.done, ?_⟩⟩
 have f14 := (k10.mono (K18 None))
 exact ⟨v10, rfl, (f14.mono zea), trivial⟩
theorem rText_w (N : Nat) (x : Big) (x_v : Value) (w : World) (S : Nat → Prop) (x_h : Rs (rInt .u32) (vH w S [] w) x_v x.Digits) (r : (List UInt8)) (h : rText N x = some r) :
  Calls Tryz.prog 105 #[(zap #[(zab x.Negative), x_v])] w (Ret w (fun v w' => (zS r) = v ∧ True)) := by
 unfold rText at h
 have hL : vL w w [] [] := Go.X.Loc.begin0 w
 refine calls_of (l := [(zap #[(zab x.Negative), x_v])]) (rl := [.tmp 2]) (n := 40) Tryz.func105 rfl rfl rfl (zae rfl) ?_
 refine zaj (zaf rfl (zag (zdj (cs := [(zab x.Negative), x_v]) rfl rfl hL ?_)))
 intro b1 w2 hL3 hS5
 have K4 := ks w hS5
 refine zag (zak (v := (zS ([] : List UInt8))) rfl ?_)
 refine zan (zaj (zaf rfl (zag (zbj (vs := [(zab x.Negative), x_v]) zar rfl ti57 rfl (hL3.at 0 rfl rfl) rfl rfl ?_))))
 obtain ⟨r6, q7, h⟩ := zec h
 have f10 := (x_h.mono (K4 S))
 refine zag (zay en111 rfl rfl (halves_w N x x_v _ Any (f10.mono vw_any) r6 q7) ?_)
 rintro _ w10 hE10 ⟨v8, rfl, k9, -⟩
 replace k9 := k9.mono (zbu (S := None) hL3 [])
 have hL10 := hL3.ext hE10
 refine zag (zak (v := v8) rfl ?_)
 refine zan (zaj (zaf rfl (zag (zak (v := (zS ([] : List UInt8))) rfl ?_))))
 refine zan (zaj ?_)
 obtain ⟨s10, hl10, g10⟩ := zec h
 refine zbs (fun e w' => ∃ (s11 : (List UInt8)) (u : Env), s11 = s10 ∧ e = upds [(1, (zal (some ⟨b1, 0, none⟩))), (4, (zS s11))] u ∧ vL w w' [some b1] [zac [(zab x.Negative), x_v]] ∧ Keep w.heap.size [some b1] w10 [some b1] w' ∧ True) ?_ ?_
 ·
  refine zbb ?_
  refine zcb hl10 (fun (ss : ((List Int) × (List UInt8))) (e : Env) (w' : World) => match ss with | (l10, s12) => ∃ (v10 : Value) (u : Env), e = upds [(1, (zal (some ⟨b1, 0, none⟩))), (3, v10), (4, (zS s12))] u ∧ vL w w' [some b1] [zac [(zab x.Negative), x_v]] ∧ Keep w.heap.size [some b1] w10 [some b1] w' ∧ Rs rI (vH w None [some b1] w') v10 l10 ∧ True) ⟨v8, _, (zeg ⟨rfl, rfl, rfl, trivial⟩), hL10, zbq, k9, trivial⟩ ?_
  rintro ⟨l10, s12⟩ oo _ w11 ⟨v10, u, rfl, hL11, K10, k10, -⟩ h hd10
  rw [rText_b1] at h
  refine zaj (zaj (zaf rfl (zag (zai (v := v10) rfl ?_))))
  refine zag (zbc (v := v10) zav rfl k10 ?_)
  refine zag (OpY.gtr (x := (l10.length : Int)) (y := 0) (((l10.length : Int) : Int) > 0) rfl rfl zbd (zan ?_))
  refine zba (((l10.length : Int) : Int) > 0) rfl (fun hc10 => ?_) (fun hc10 => ?_)
  ·
   replace h := ite_t hc10 h
   refine zbf (zbb (zaj (zaf rfl (zag (zai (v := v10) rfl ?_)))))
   have hE11 : Els rI (vH w None [some b1] w11) [(zI 10)] [10] := (zcp (a := [(zI 10)]) rfl zcm)
   refine zag (zch (r := rI) (vs := [(zI 10)]) (css := [[(zI 10)]]) (xs := [10]) zav ti3 (zae rfl) rfl rfl ⟨rfl, rfl, trivial⟩ (zae rfl) hE11 rfl hL11 ?_)
   intro b10 w12 hc11 hL12 hS10
   have K11 := ks w hS10
   obtain ⟨r10, q10, h⟩ := zec h
   have f11 := (k10.mono (K11 None))
   have f12 := (hE11.mono (K11 None))
   refine zag (zay en144 rfl rfl (rsplit_w N l10 [10] v10 (osv (some b10) 0 1 1) _ Any (f11.mono vw_any) (zel (pre := []) (o := 0) (n := 1) (cap := 1) (hL12.at 0 rfl rfl) f12 vw_any rfl rfl rfl hc11) r10 q10) ?_)
   rintro _ w13 hE12 ⟨v11, v12, rfl, k11, k12, -⟩
   replace k11 := k11.mono (zbu (S := None) hL12 [])
   replace k12 := k12.mono (zbu (S := None) hL12 [])
   obtain ⟨hL13, K12⟩ := zl hL12 hE12
   refine zag (zai (v := (Value.tuple #[v11, v12])) rfl ?_)
   refine zag (zdb (vs := [v11, v12]) (v := v11) rfl rfl ?_)
   refine zag (zdb (vs := [v11, v12]) (v := v12) rfl rfl ?_)
   refine zag (zak (v := v11) rfl ?_)
   refine zag (zak (v := v12) rfl ?_)
   refine zan (zaj (zaf rfl (zag (zak (v := (zI 0)) rfl ?_))))
   refine zan (zaj (zaj (zaf rfl (zag (zai (v := v12) rfl ?_)))))
   refine zag (zbc (v := v12) zav rfl k12 ?_)
   refine zag (OpY.gtr (x := (r10.2.length : Int)) (y := 0) (((r10.2.length : Int) : Int) > 0) rfl rfl zbd (zan ?_))
   obtain ⟨s13, h, g11⟩ := zec h
   refine zbs (fun e w' => ∃ (d10 : Int) (u : Env), d10 = s13 ∧ e = upds [(1, (zal (some ⟨b1, 0, none⟩))), (4, (zS s12)), (5, v11), (7, (zI d10))] u ∧ vL w w' [some b1] [zac [(zab x.Negative), x_v]] ∧ Keep w.heap.size [some b10, some b1] w13 [some b1] w' ∧ True) ?_ ?_
   ·
    refine zba (((r10.2.length : Int) : Int) > 0) rfl (fun hc12 => ?_) (fun hc12 => ?_)
    ·
     replace h := ite_t hc12 h
     refine zaf rfl (zag (zai (v := v12) rfl ?_))
     obtain ⟨x10, n10, q12, q13, -, h⟩ := zix h
     obtain ⟨b11, o10, c10, vs10, q14, q15, f13, q16⟩ := zcw k12 q13
     obtain rfl := q16
     refine zag (zbp (r := rI) (v := v12) (n := n10) (m := (o10 + n10 * rI.sz)) zav ti3 rfl q14 rfl q12 q13 rfl ?_)
     refine zag (zca (v := (zI x10)) zax rfl rfl zek f13 ?_)
     refine zag (zak (v := (zI x10)) rfl (zan ?_))
     have hp10 := hL13.pick [1] rfl rfl rfl
     have hL14 : vL w w13 [some b1] [zac [(zab x.Negative), x_v]] := hp10.1
     have K13 := ks w hp10.2
     obtain rfl := zah h
     refine zaq ?_
     exact ⟨x10, _, rfl, (zeg ⟨rfl, rfl, rfl, rfl, trivial⟩), hL14, K13, trivial⟩
    replace h := ite_f hc12 h
    refine zbf ?_
    have hp11 := hL13.pick [1] rfl rfl rfl
    have hL15 : vL w w13 [some b1] [zac [(zab x.Negative), x_v]] := hp11.1
    have K14 := ks w hp11.2
    obtain rfl := zah h
    refine zaq ?_
    exact ⟨0, _, rfl, (zeg ⟨rfl, rfl, rfl, rfl, trivial⟩), hL15, K14, trivial⟩
   rintro _ w14 ⟨d10, u, rfl, rfl, hL16, K15, -⟩
   replace h := g11
   try dsimp only at h
   refine zaj (zaf rfl (zag (zai (v := (zI d10)) rfl ?_)))
   refine zag (zbz (x := 48) (y := d10) (z := (iw (48 + d10))) rfl rfl rfl ?_)
   refine zag (zcr (x := (iw (48 + d10))) (z := (uw8 (iw (48 + d10)))) zax Tryz.underlying5 rfl rfl ?_)
   have hE13 : Els (rInt .u8) (vH w None [some b1] w14) [(zaa .u8 (uw8 (iw (48 + d10))))] [(uw8 (iw (48 + d10)))] := (zcp (a := [(zaa .u8 (uw8 (iw (48 + d10))))]) rfl zcm)
   refine zag (zch (r := (rInt .u8)) (vs := [(zaa .u8 (uw8 (iw (48 + d10))))]) (css := [[(zaa .u8 (uw8 (iw (48 + d10))))]]) (xs := [(uw8 (iw (48 + d10)))]) Tryz.underlying133 ti5 (zae rfl) rfl rfl ⟨rfl, rfl, trivial⟩ (zae rfl) hE13 rfl hL16 ?_)
   intro b12 w15 hc13 hL17 hS11
   have K16 := ks w hS11
   have f14 := (hE13.mono (K16 None))
   refine zag (OpY.strRow (pre := []) (cs := [(zaa .u8 (uw8 (iw (48 + d10))))]) (sp := []) (xs := [(uw8 (iw (48 + d10)))]) Tryz.underlying133 Tryz.underlying9 Tryz.underlying5 rfl (hL17.at 0 rfl rfl) f14 rfl ?_)
   refine zag (zai (v := (zS s12)) rfl ?_)
   obtain ⟨u10, q17, h⟩ := zec h
   have q18 := zer q17
   refine zag (zdy (x := (bstr [(uw8 (iw (48 + d10)))])) (y := s12) rfl rfl q18 ?_)
   refine zag (zak (v := (zbe (s8 ((bstr [(uw8 (iw (48 + d10)))]) ++ s12)))) rfl ?_)
   refine zan (zaf rfl (zag (zai (v := v11) rfl ?_)))
   refine zag (zak (v := v11) rfl ?_)
   refine zan (zbn ?_)
   have hp12 := hL17.pick [1] rfl rfl rfl
   have hL18 : vL w w15 [some b1] [zac [(zab x.Negative), x_v]] := hp12.1
   have K17 := ks w hp12.2
   have f15 := (((k11.mono (K15 None)).mono (K16 None)).mono (K17 None))
   obtain rfl := zah h
   refine zaq ⟨(r10.1, ((bstr [(uw8 (iw (48 + d10)))]) ++ s12)), rfl, ?_⟩
   exact ⟨v11, _, (zeg ⟨rfl, rfl, rfl, trivial⟩), hL18, (zao (zao (zao (zao (zao K10 K11) K12) K15) K16) K17), f15, trivial⟩
  replace h := ite_f hc10 h
  refine zck rfl ?_
  obtain rfl := zah h
  obtain rfl := hd10 _ rfl
  replace h := g10
  try dsimp only at h
  refine zaq ?_
  exact ⟨s12, _, rfl, (zeg ⟨rfl, rfl, trivial⟩), hL11, K10, trivial⟩
 rintro _ w16 ⟨s11, u, rfl, rfl, hL19, K18, -⟩
 replace h := g10
 try dsimp only at h
 refine zaj (zaj (zaf rfl (zag (zai (v := (zS s11)) rfl ?_))))
 refine zag (OpY.sEql (x := s11) (y := ([] : List UInt8)) rfl rfl (zan ?_))
 refine zba (s11 = ([] : List UInt8)) rfl (fun hc14 => ?_) (fun hc14 => ?_)
 ·
  replace h := ite_t hc14 h
  refine zaj (zaf rfl (zag (zak (v := (zS ([48] : List UInt8))) rfl ?_)))
  refine zan (zbi ?_)
  obtain rfl := zah h
  refine ⟨[(zS ([48] : List UInt8))], zrt, ⟨_, rfl, hL19.done, ?_⟩⟩
  exact zrt
 replace h := ite_f hc14 h
 refine zbf (zaj (zaj (zaf rfl (zag (zam (q := 0) zar rfl ti4 rfl rfl rfl ?_)))))
 refine zag (zau (v := (zab x.Negative)) zcd rfl rfl (hL19.at 0 rfl rfl) rfl (zan ?_))
 refine zcq x.Negative rfl (fun hc15 => ?_) (fun hc15 => ?_)
 ·
  replace h := ite_t hc15 h
  refine zaj (zaf rfl (zag (zai (v := (zS s11)) rfl ?_)))
  obtain ⟨u11, q19, h⟩ := zec h
  have q20 := zer q19
  refine zag (zdy (x := ([45] : List UInt8)) (y := s11) rfl rfl q20 ?_)
  refine zag (zak (v := (zbe (s8 (([45] : List UInt8) ++ s11)))) rfl ?_)
  refine zan (zbi ?_)
  obtain rfl := zah h
  refine ⟨[(zbe (s8 (([45] : List UInt8) ++ s11)))], zrt, ⟨_, rfl, hL19.done, ?_⟩⟩
  exact zrt
 replace h := ite_f hc15 h
 refine zbf (zaj (zaf rfl (zag (zai (v := (zS s11)) rfl ?_))))
 refine zag (zak (v := (zS s11)) rfl ?_)
 refine zan (zbi ?_)
 obtain rfl := zah h
 refine ⟨[(zS s11)], zrt, ⟨_, rfl, hL19.done, ?_⟩⟩
 exact zrt
end Go.Proofs.YtcakdidcpoolcaaGreatDoor.WR

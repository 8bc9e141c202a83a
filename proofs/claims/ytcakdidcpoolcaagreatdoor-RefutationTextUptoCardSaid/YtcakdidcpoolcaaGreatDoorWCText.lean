/- Walks, written by a program of mine (wip/tool); the kernel checks them. -/
import Derived.Test.YtcakdidcpoolcaaGreatDoorProg
import Derived.Test.YtcakdidcpoolcaaGreatDoorSqText
import Derived.Test.YtcakdidcpoolcaaGreatDoorBl25
import Derived.Test.YtcakdidcpoolcaaGreatDoorF25
import Derived.Test.YtcakdidcpoolcaaGreatDoorPC
import Derived.Test.YtcakdidcpoolcaaGreatDoorWAText
import Derived.Test.YtcakdidcpoolcaaGreatDoorWRText
import Derived.Test.YtcakdidcpoolcaaGreatDoorWBText
set_option maxRecDepth 100000
set_option maxHeartbeats 40000000
set_option linter.unusedVariables false
set_option linter.unusedSimpArgs false
namespace Go.Proofs.YtcakdidcpoolcaaGreatDoor.WC
open Go Go.RowKit Go.X Go.D Go.Proofs.YtcakdidcpoolcaaGreatDoor.WF Go.Proofs.YtcakdidcpoolcaaGreatDoor.WA Go.Proofs.YtcakdidcpoolcaaGreatDoor.WR Go.Proofs.YtcakdidcpoolcaaGreatDoor.WB
theorem ti90 : TI Tryz.prog 90 2 32 (zap #[(zI 0), zN]) := TI.mk (by kernel_rfl)
theorem ti88 : TI Tryz.prog 88 1 24 zN := TI.mk (by kernel_rfl)
theorem ti87 : TI Tryz.prog 87 2 16 (zap #[(zI 0), (zI 0)]) := TI.mk (by kernel_rfl)
theorem ti123 : TI Tryz.prog 123 3 56 (zap #[zN, zF, zN]) := TI.mk (by kernel_rfl)
theorem pl123 : placesT Tryz.prog 123 = some [(0, 1), (1, 2)] := by kernel_rfl
theorem ti51 : TI Tryz.prog 51 1 24 zN := TI.mk (by kernel_rfl)
theorem ti92 : TI Tryz.prog 92 3 40 (zap #[(zI 0), zN, zF]) := TI.mk (by kernel_rfl)
theorem en137 : Go.X.Enters Tryz.prog 137 := ⟨Tryz.f137, Tryz.func137, by kernel_rfl, by kernel_rfl⟩
theorem ti2 : TI Tryz.prog 2 1 8 (zI 0) := TI.mk (by kernel_rfl)
theorem en135 : Go.X.Enters Tryz.prog 135 := ⟨Tryz.f135, Tryz.func135, by kernel_rfl, by kernel_rfl⟩
theorem en132 : Go.X.Enters Tryz.prog 132 := ⟨Tryz.f132, Tryz.func132, by kernel_rfl, by kernel_rfl⟩
theorem en138 : Go.X.Enters Tryz.prog 138 := ⟨Tryz.f138, Tryz.func138, by kernel_rfl, by kernel_rfl⟩
theorem en158 : Go.X.Enters Tryz.prog 158 := ⟨Tryz.f158, Tryz.func158, by kernel_rfl, by kernel_rfl⟩
theorem en153 : Go.X.Enters Tryz.prog 153 := ⟨Tryz.f153, Tryz.func153, by kernel_rfl, by kernel_rfl⟩
theorem en130 : Go.X.Enters Tryz.prog 130 := ⟨Tryz.f130, Tryz.func130, by kernel_rfl, by kernel_rfl⟩
theorem en127 : Go.X.Enters Tryz.prog 127 := ⟨Tryz.f127, Tryz.func127, by kernel_rfl, by kernel_rfl⟩
theorem en154 : Go.X.Enters Tryz.prog 154 := ⟨Tryz.f154, Tryz.func154, by kernel_rfl, by kernel_rfl⟩
theorem ti95 : TI Tryz.prog 95 1 24 zN := TI.mk (by kernel_rfl)
theorem ti94 : TI Tryz.prog 94 3 40 (zap #[(zI 0), zF, zN]) := TI.mk (by kernel_rfl)
theorem en156 : Go.X.Enters Tryz.prog 156 := ⟨Tryz.f156, Tryz.func156, by kernel_rfl, by kernel_rfl⟩
theorem en157 : Go.X.Enters Tryz.prog 157 := ⟨Tryz.f157, Tryz.func157, by kernel_rfl, by kernel_rfl⟩
theorem en128 : Go.X.Enters Tryz.prog 128 := ⟨Tryz.f128, Tryz.func128, by kernel_rfl, by kernel_rfl⟩
theorem ti67 : TI Tryz.prog 67 1 24 zN := TI.mk (by kernel_rfl)
theorem ti97 : TI Tryz.prog 97 3 56 (zap #[zN, zF, zN]) := TI.mk (by kernel_rfl)
theorem en129 : Go.X.Enters Tryz.prog 129 := ⟨Tryz.f129, Tryz.func129, by kernel_rfl, by kernel_rfl⟩
theorem ti68 : TI Tryz.prog 68 1 24 zN := TI.mk (by kernel_rfl)
theorem en131 : Go.X.Enters Tryz.prog 131 := ⟨Tryz.f131, Tryz.func131, by kernel_rfl, by kernel_rfl⟩
theorem en133 : Go.X.Enters Tryz.prog 133 := ⟨Tryz.f133, Tryz.func133, by kernel_rfl, by kernel_rfl⟩
theorem ti70 : TI Tryz.prog 70 5 104 (zap #[zN, zN, zF, zN, zN]) := TI.mk (by kernel_rfl)
theorem en65 : Go.X.Enters Tryz.prog 65 := ⟨Tryz.f65, Tryz.func65, by kernel_rfl, by kernel_rfl⟩
theorem cvalid_w (N : Nat) (c : Constraint) (n : Int) (c_v : Value) (w : World) (S : Nat → Prop) (c_h : Rs rCoef (vH w S [] w) c_v c.Linear.Coefs) (r : Bool) (h : cvalid N c n = some r) :
  Calls Tryz.prog 137 #[(zap #[(zI c.Linear.Const), c_v, (zab c.Equal)]), (zI n)] w (Ret w (fun v w' => (zab r) = v ∧ True)) := by
 unfold cvalid at h
 have hL : vL w w [] [] := Go.X.Loc.begin0 w
 refine calls_of (l := [(zap #[(zI c.Linear.Const), c_v, (zab c.Equal)]), (zI n)]) (rl := [.tmp 4]) (n := 35) Tryz.func137 rfl rfl rfl (zae rfl) ?_
 refine zaj (zaf rfl (zag (zdj (cs := [(zI c.Linear.Const), c_v, (zab c.Equal)]) rfl rfl hL ?_)))
 intro b1 w2 hL3 hS5
 have K4 := ks w hS5
 refine zag (zak (v := zF) rfl ?_)
 refine zan (zaj (zaf rfl (zag (zak (v := (zI (-1))) rfl ?_))))
 refine zan (zaj (zaj (zaf rfl (zag (zam (q := 0) zcy rfl ti90 rfl rfl rfl ?_)))))
 refine zag (zam (q := 1) zbx rfl ti88 rfl rfl rfl ?_)
 refine zag (zau (v := c_v) zbr rfl rfl (hL3.at 0 rfl rfl) rfl ?_)
 have f6 := (c_h.mono (K4 S))
 refine zag (zbc (v := c_v) zbr rfl f6 ?_)
 refine zag (zai (v := (zI 0)) rfl (zan ?_))
 obtain ⟨s10, hl10, g10⟩ := zec h
 refine zbs (fun e w' => ∃  (u : Env), (Sum.inl ()) = s10 ∧ e = upds [(1, (zI n))] u ∧ vL w w' [] [] ∧ Keep w.heap.size [some b1] w2 [] w' ∧ True) ?_ ?_
 ·
  refine zbb ?_
  have hp10 := hL3.pick [] rfl rfl rfl
  have hL10 : vL w w2 [] [] := hp10.1
  have K10 := ks w hp10.2
  refine zcb hl10 (fun (ss : (Int × Int)) (e : Env) (w' : World) => match ss with | (last10, x10) => ∃ (u : Env), e = upds [(1, (zI n)), (5, (zI last10)), (10, c_v), (11, (zI (c.Linear.Coefs.length : Int))), (12, (zI x10))] u ∧ vL w w' [] [] ∧ Keep w.heap.size [some b1] w2 [] w' ∧ True) ⟨_, (zeg ⟨rfl, rfl, rfl, rfl, rfl, trivial⟩), hL10, K10, trivial⟩ ?_
  rintro ⟨last10, x10⟩ oo _ w10 ⟨u, rfl, hL11, K11, -⟩ h hd10
  rw [cvalid_b1] at h
  refine zaj (zaf rfl (zag (zci (x := x10) (y := (c.Linear.Coefs.length : Int)) ((x10 : Int) < (c.Linear.Coefs.length : Int)) rfl rfl zbd ?_)))
  refine zan (zaj ?_)
  refine zba ((x10 : Int) < (c.Linear.Coefs.length : Int)) rfl (fun hc10 => ?_) (fun hc10 => ?_)
  ·
   replace h := ite_t hc10 h
   refine zbf (zaj (zbb (zaj (zaf rfl ?_))))
   obtain ⟨x11, n10, q11, q12, -, h⟩ := zix h
   have f10 := (f6.mono (K11 S))
   obtain ⟨b10, o10, c10, vs10, q13, q14, f11, q15⟩ := zcw f10 q12
   obtain ⟨rfl, -⟩ := rCoef_open q15
   refine zag (zbp (r := rCoef) (v := c_v) (n := n10) (m := (o10 + n10 * rCoef.sz)) zbr ti87 rfl q13 rfl q11 q12 rfl ?_)
   refine zag (zdl (vs := [(zI x11.Var), (zI x11.N)]) zdh rfl ti87 rfl rfl zek f11 ?_)
   refine zag (zbw (cs := [(zI 0), (zI 0)]) ti87 rfl hL11 ?_)
   intro b11 w11 hL12 hS10
   have K12 := ks w hS10
   refine zcf (zbo (vs := [(zI x11.Var), (zI x11.N)]) ti87 rfl rfl rfl rfl (zee rfl (zee rfl zej)) hL12 0 rfl rfl (zae rfl) ?_)
   intro w12 (hL13 : vL w w12 [some b11] [zac [(zI x11.Var), (zI x11.N)]]) hS11
   have K13 := ks w hS11
   refine zan (zaj (zaj ?_))
   obtain ⟨s11, h, g11⟩ := zec h
   refine zbs (fun e w' => ∃ (x12 : Bool) (u : Env), x12 = s11 ∧ e = upds [(1, (zI n)), (7, (zal (some ⟨b11, 0, none⟩))), (10, c_v), (11, (zI (c.Linear.Coefs.length : Int))), (12, (zI x10)), (25, (zab x12))] u ∧ vL w w' [some b11] [zac [(zI x11.Var), (zI x11.N)]] ∧ Keep w.heap.size [some b11] w12 [some b11] w' ∧ True) ?_ ?_
   ·
    refine zaf rfl (zag (zam (q := 0) zdh rfl ti3 rfl rfl rfl ?_))
    refine zag (zau (v := (zI x11.Var)) zax rfl rfl (hL13.at 0 rfl rfl) rfl ?_)
    refine zag (zai (v := (zI last10)) rfl ?_)
    refine zag (OpY.leq (x := x11.Var) (y := last10) ((x11.Var : Int) ≤ last10) rfl rfl zbd ?_)
    refine zag (zai (v := (zab (decide ((x11.Var : Int) ≤ last10)))) rfl ?_)
    by_cases hc11 : (x11.Var : Int) ≤ last10
    ·
     replace h := ite_t hc11 h
     refine zcl rfl rfl (zef hc11) (zcl rfl rfl (zef hc11) (zcl rfl rfl (zef hc11) (zcl rfl rfl (zef hc11) ?_)))
     refine zag (zce (t := (decide ((x11.Var : Int) ≤ last10))) (v := zT) rfl (zef hc11) rfl (zan ?_))
     obtain rfl := zah h
     refine zaq ?_
     exact ⟨true, _, rfl, (zeg ⟨rfl, rfl, rfl, rfl, rfl, rfl, trivial⟩), hL13, zbq, trivial⟩
    replace h := ite_f hc11 h
    refine zbt rfl rfl (zed hc11) (zam (q := 0) zdh rfl ti3 rfl rfl rfl ?_)
    refine zbt rfl rfl (zed hc11) (zau (v := (zI x11.Var)) zax rfl rfl (hL13.at 0 rfl rfl) rfl ?_)
    refine zbt rfl rfl (zed hc11) (zai (v := (zI n)) rfl ?_)
    refine zbt rfl rfl (zed hc11) (OpY.geq (x := x11.Var) (y := n) ((x11.Var : Int) ≥ n) rfl rfl zbd ?_)
    refine zag (zcv (t := (decide ((x11.Var : Int) ≤ last10))) (v := (zab (decide ((x11.Var : Int) ≥ n)))) rfl (zed hc11) rfl (zan ?_))
    obtain rfl := zah h
    refine zaq ?_
    exact ⟨(decide ((x11.Var : Int) ≥ n)), _, rfl, (zeg ⟨rfl, rfl, rfl, rfl, rfl, rfl, trivial⟩), hL13, zbq, trivial⟩
   rintro _ w13 ⟨x12, u, rfl, rfl, hL14, K14, -⟩
   replace h := g11
   try dsimp only at h
   refine zcq x12 rfl (fun hc12 => ?_) (fun hc12 => ?_)
   ·
    replace h := ite_t hc12 h
    refine zaj (zaf rfl (zag (zak (v := zF) rfl ?_)))
    refine zan (zbi ?_)
    obtain rfl := zah h
    obtain rfl := hd10 _ rfl
    replace h := g10
    try dsimp only at h
    obtain rfl := zah h
    refine ⟨[zF], zrt, ⟨_, rfl, hL14.done, ?_⟩⟩
    exact zrt
   replace h := ite_f hc12 h
   refine zbf (zaf rfl (zag (zam (q := 0) zdh rfl ti3 rfl rfl rfl ?_)))
   refine zag (zau (v := (zI x11.Var)) zax rfl rfl (hL14.at 0 rfl rfl) rfl ?_)
   refine zag (zak (v := (zI x11.Var)) rfl ?_)
   refine zan (zbn (zaf rfl (zag (zbz (x := x10) (y := 1) (z := (iw (x10 + 1))) rfl rfl rfl ?_))))
   refine zag (zai (v := (zI (iw (x10 + 1)))) rfl (zan ?_))
   have hp11 := hL14.pick [] rfl rfl rfl
   have hL15 : vL w w13 [] [] := hp11.1
   have K15 := ks w hp11.2
   obtain rfl := zah h
   refine zaq ⟨(x11.Var, (iw (x10 + 1))), rfl, ?_⟩
   exact ⟨_, (zeg ⟨rfl, rfl, rfl, rfl, rfl, trivial⟩), hL15, (zao (zao (zao (zao K11 K12) K13) K14) K15), trivial⟩
  replace h := ite_f hc10 h
  refine zck rfl ?_
  obtain rfl := zah h
  obtain rfl := hd10 _ rfl
  replace h := g10
  try dsimp only at h
  refine zaq ?_
  exact ⟨_, rfl, (zeg zrt), hL11, K11, trivial⟩
 rintro _ w14 ⟨u, rfl, rfl, hL16, K16, -⟩
 replace h := g10
 try dsimp only at h
 refine zaj (zaf rfl (zag (zai (v := (zI n)) rfl ?_)))
 refine zag (OpY.geq (x := n) (y := 0) ((n : Int) ≥ 0) rfl rfl zbd ?_)
 refine zag (zai (v := (zab (decide ((n : Int) ≥ 0)))) rfl ?_)
 by_cases hc13 : (n : Int) ≥ 0
 ·
  replace h := ite_t hc13 h
  refine zbt rfl rfl (zef hc13) (zai (v := (zI n)) rfl ?_)
  refine zbt rfl rfl (zef hc13) (OpY.leq (x := n) (y := 512) ((n : Int) ≤ 512) rfl rfl zbd ?_)
  refine zag (zce (t := (decide ((n : Int) ≥ 0))) (v := (zab (decide ((n : Int) ≤ 512)))) rfl (zef hc13) rfl ?_)
  refine zag (zak (v := (zab (decide ((n : Int) ≤ 512)))) rfl ?_)
  refine zan (zbi ?_)
  obtain rfl := zah h
  refine ⟨[(zab (decide ((n : Int) ≤ 512)))], zrt, ⟨_, rfl, hL16.done, ?_⟩⟩
  exact zrt
 replace h := ite_f hc13 h
 refine zcl rfl rfl (zed hc13) (zcl rfl rfl (zed hc13) ?_)
 refine zag (zcv (t := (decide ((n : Int) ≥ 0))) (v := zF) rfl (zed hc13) rfl ?_)
 refine zag (zak (v := zF) rfl ?_)
 refine zan (zbi ?_)
 obtain rfl := zah h
 refine ⟨[zF], zrt, ⟨_, rfl, hL16.done, ?_⟩⟩
 exact zrt
theorem negated_w (N : Nat) (l : (List Big)) (bound : Big) (l_v : Value) (bound_v : Value) (w : World) (S : Nat → Prop) (l_h : Rs rBig (vH w S [] w) l_v l) (bound_h : Rs (rInt .u32) (vH w S [] w) bound_v bound.Digits) (r : Ineq) (h : negated N l bound = some r) :
  Calls Tryz.prog 132 #[l_v, (zap #[(zab bound.Negative), bound_v])] w (Ret w (fun v w' => ∃ (v0_0 : Value) (v0_1 : Value), (zap #[v0_0, (zab r.Bound.Negative), v0_1]) = v ∧ Rs rBig (vH w None [] w') v0_0 r.Coefs ∧ Rs (rInt .u32) (vH w None [] w') v0_1 r.Bound.Digits ∧ True)) := by
 unfold negated at h
 have hL : vL w w [] [] := Go.X.Loc.begin0 w
 refine calls_of (l := [l_v, (zap #[(zab bound.Negative), bound_v])]) (rl := [.cell 4 123]) (n := 26) Tryz.func132 rfl rfl rfl (zae rfl) ?_
 refine zaj (zaf rfl (zag (zdj (cs := [(zab bound.Negative), bound_v]) rfl rfl hL ?_)))
 intro b1 w2 hL3 hS5
 have K4 := ks w hS5
 refine zag (zbw (cs := [zN, zF, zN]) ti123 rfl hL3 ?_)
 intro b6 w7 hL8 hS10
 have K9 := ks w hS10
 refine zan (zaj (zaf rfl (zag (zbj (vs := [(zab bound.Negative), bound_v]) zar rfl ti57 rfl (hL8.at 1 rfl rfl) rfl rfl ?_))))
 obtain ⟨r10, q10, h⟩ := zec h
 have f10 := ((bound_h.mono (K4 S)).mono (K9 S))
 refine zag (zay en159 rfl rfl (bNormal_w N bound bound_v _ Any (f10.mono vw_any) r10 q10) ?_)
 rintro _ w10 hE10 ⟨v10, rfl, k10, -⟩
 replace k10 := k10.mono (zbu (S := None) hL8 [])
 obtain ⟨hL10, K10⟩ := zl hL8 hE10
 refine zag (zcc (zc := [zN, zF, zN]) (cs := [zN, (zab r10.Negative), v10]) (is := [1]) (vs := [(zap #[(zab r10.Negative), v10])]) (css := [[(zab r10.Negative), v10]]) pl123 ti123 rfl rfl rfl zrt rfl ?_)
 refine zag (zbw (cs := [zN, zF, zN]) ti123 rfl hL10 ?_)
 intro b10 w11 hL11 hS11
 have K11 := ks w hS11
 have f11 := (k10.mono (K11 None))
 refine zcf (zbo (vs := [zN, (zab r10.Negative), v10]) ti123 rfl rfl rfl rfl (zee rfl (zee rfl (zee f11.one zej))) hL11 0 rfl rfl (zae rfl) ?_)
 intro w12 (hL12 : vL w w12 [some b10, some b6, some b1] [zac [zN, (zab r10.Negative), v10], zac [zN, zF, zN], zac [(zab bound.Negative), bound_v]]) hS12
 have K12 := ks w hS12
 refine zan (zaj (zaj (zaf rfl (zag (zai (v := l_v) rfl ?_)))))
 have f12 := (((((l_h.mono (K4 S)).mono (K9 S)).mono (K10 S)).mono (K11 S)).mono (K12 S))
 refine zag (zbc (v := l_v) zbh rfl f12 ?_)
 refine zag (zai (v := (zI 0)) rfl (zan ?_))
 obtain ⟨s10, hl10, g10⟩ := zec h
 refine zbs (fun e w' => ∃ (coefs10 : (List Big)) (ob10 : Option Nat) (cap10 : Nat) (sp10 : List Value) (cs10 : List Value) (ln10 : Nat) (u : Env), coefs10 = s10 ∧ e = upds [(4, (zal (some ⟨b6, 0, none⟩))), (5, (zal (some ⟨b10, 0, none⟩)))] u ∧ vL w w' [some b6, some b10, ob10] [zac [zN, zF, zN], zac [(osv ob10 0 ln10 cap10), (zab r10.Negative), v10], zac ([] ++ (cs10 ++ sp10))] ∧ Keep w.heap.size [some b10, some b6, some b1] w12 [some b6, some b10, ob10] w' ∧ Els rBig (vH w None [some b6, some b10, ob10] w') cs10 coefs10 ∧ ln10 = List.length coefs10 ∧ (cs10 ++ sp10).length = cap10 * rBig.sz ∧ True) ?_ ?_
 ·
  refine zbb ?_
  have hp10 := hL12.addNil
  have hL13 : vL w w12 [none, some b10, some b6, some b1] [zac ([] ++ ([] ++ [])), zac [zN, (zab r10.Negative), v10], zac [zN, zF, zN], zac [(zab bound.Negative), bound_v]] := hp10.1
  have K13 := ks w hp10.2
  have hp11 := hL13.pick [2, 1, 0] rfl rfl rfl
  have hL14 : vL w w12 [some b6, some b10, none] [zac [zN, zF, zN], zac [(osv none 0 (List.length ([] : (List Big))) 0), (zab r10.Negative), v10], zac ([] ++ ([] ++ []))] := hp11.1
  have K14 := ks w hp11.2
  have f13 := ((zcm (r := rBig)).mono (K14 None))
  refine zcb hl10 (fun (ss : ((List Big) × Int)) (e : Env) (w' : World) => match ss with | (coefs11, x10) => ∃ (ob11 : Option Nat) (cap11 : Nat) (sp11 : List Value) (cs11 : List Value) (ln11 : Nat) (u : Env), e = upds [(4, (zal (some ⟨b6, 0, none⟩))), (5, (zal (some ⟨b10, 0, none⟩))), (11, l_v), (12, (zI (l.length : Int))), (13, (zI x10))] u ∧ vL w w' [some b6, some b10, ob11] [zac [zN, zF, zN], zac [(osv ob11 0 ln11 cap11), (zab r10.Negative), v10], zac ([] ++ (cs11 ++ sp11))] ∧ Keep w.heap.size [some b10, some b6, some b1] w12 [some b6, some b10, ob11] w' ∧ Els rBig (vH w None [some b6, some b10, ob11] w') cs11 coefs11 ∧ ln11 = List.length coefs11 ∧ (cs11 ++ sp11).length = cap11 * rBig.sz ∧ True) ⟨none, 0, [], [], (List.length ([] : (List Big))), _, (zeg ⟨rfl, rfl, rfl, rfl, rfl, trivial⟩), hL14, (zao K13 K14), f13, rfl, (show ([] ++ [] : List Value).length = 0 * rBig.sz by simp), trivial⟩ ?_
  rintro ⟨coefs11, x10⟩ oo _ w13 ⟨ob11, cap11, sp11, cs11, ln11, u, rfl, hL15, K15, hE11, rfl, hc10, -⟩ h hd10
  rw [negated_b1] at h
  refine zaj (zaf rfl (zag (zci (x := x10) (y := (l.length : Int)) ((x10 : Int) < (l.length : Int)) rfl rfl zbd ?_)))
  refine zan (zaj ?_)
  refine zba ((x10 : Int) < (l.length : Int)) rfl (fun hc11 => ?_) (fun hc11 => ?_)
  ·
   replace h := ite_t hc11 h
   refine zbf (zaj (zbb (zaj (zaf rfl ?_))))
   obtain ⟨x11, n10, q12, q13, -, h⟩ := zix h
   have f14 := (f12.mono (K15 S))
   obtain ⟨b11, o10, c10, vs10, q14, q15, f15, q16⟩ := zcw f14 q13
   obtain ⟨v11, rfl, k11, -⟩ := rBig_open q16
   refine zag (zbp (r := rBig) (v := l_v) (n := n10) (m := (o10 + n10 * rBig.sz)) zbh ti57 rfl q14 rfl q12 q13 rfl ?_)
   refine zag (zdl (vs := [(zab x11.Negative), v11]) zar rfl ti57 rfl rfl zek f15 ?_)
   refine zag (zbw (cs := [zF, zN]) ti57 rfl hL15 ?_)
   intro b12 w14 hL16 hS13
   have K16 := ks w hS13
   have f16 := (k11.mono (K16 S))
   refine zcf (zbo (vs := [(zab x11.Negative), v11]) ti57 rfl rfl rfl rfl (zee rfl (zee f16.one zej)) hL16 0 rfl rfl (zae rfl) ?_)
   intro w15 (hL17 : vL w w15 [some b12, some b6, some b10, ob11] [zac [(zab x11.Negative), v11], zac [zN, zF, zN], zac [(zO ob11 coefs11 cap11), (zab r10.Negative), v10], zac ([] ++ (cs11 ++ sp11))]) hS14
   have K17 := ks w hS14
   refine zan ?_
   obtain ⟨r11, q17, h⟩ := zec h
   refine zcj 5 [] [] (fun W1 => [.det (zal (some ⟨b10, 0, none⟩)), .det (zO ob11 coefs11 cap11), .det (zap #[(zab x11.Negative), v11]), .rel (fun v Z w' => ∃ v12, (zap #[(zab r11.Negative), v12]) = v ∧ Rs (rInt .u32) (vZ W1 w None [some b12, some b6, some b10, ob11] Z w') v12 r11.Digits ∧ True) (fun _ => []), .rel (fun v Z w' => ∃ b13 cs12, (osv (some b13) 0 1 1) = v ∧ OwnC w' (some b13) (zac ([] ++ (cs12 ++ []))) ∧ Els rBig (vZ W1 w None [some b12, some b6, some b10, ob11] Z w') cs12 [r11] ∧ (cs12 ++ [] : List Value).length = 1 * rBig.sz ∧ True) footV]) mixed rfl rfl rfl (fun _ => rfl) (fun _ => rfl) ?_ ?_
   ·
    intro W1 _
    exact ⟨fun v Z Z' w w' hΦ hz _ _ hs => by obtain ⟨v12, rfl, k12, -⟩ := hΦ; exact ⟨v12, rfl, (k12.mono (zdo hz hs)), trivial⟩, ⟨fun v Z Z' w w' hΦ hz _ _ hs => by obtain ⟨b13, cs12, rfl, hO10, hE12, hc12, -⟩ := hΦ; exact ⟨b13, cs12, rfl, (hO10.stay (fun b hb => by cases hb; exact zbm) hs), (hE12.mono (zdo hz hs)), hc12, trivial⟩, trivial⟩⟩
   intro w16 hE13
   obtain ⟨hL18, K18⟩ := zl hL17 hE13
   refine zat (fun _ _ => zaw (zam zbl rfl ti51 rfl rfl rfl (er rfl))) ?_
   refine zat (fun _ hE15 => zaw (zau zbh rfl rfl ((hL18.ext hE15).at 2 rfl rfl) rfl (er rfl))) ?_
   refine zat (fun _ hE16 => zaw (zbj (vs := [(zab x11.Negative), v11]) zar rfl ti57 rfl ((hL18.ext hE16).at 0 rfl rfl) rfl rfl (er rfl))) ?_
   refine zdq ?_ ?_
   ·
    rintro w20 Z23 hE17 hZ13 ⟨-⟩
    have K19 := ke hL18 hE17
    refine zaw (zay en134 rfl rfl (bNeg_w N x11 v11 _ Any ((((f16.mono (K17 S)).mono (K18 S)).mono (K19 S)).mono vw_any) r11 q17) ?_)
    rintro _ w21 hE18 ⟨v12, rfl, k12, -⟩
    exact zdf hE18 hZ13 zco (fun _ h => h) ⟨v12, rfl, (k12.mono zdr), trivial⟩
   intro z3
   refine zdq ?_ ?_
   ·
    rintro w22 Z24 hE19 hZ14 ⟨⟨⟨v12, rfl, k12, -⟩, hB3⟩, -⟩
    have hE20 : Els rBig (vZ w16 w None [some b12, some b6, some b10, ob11] Z24 w22) [(zab r11.Negative), v12] [r11] := (zcp (a := [(zab r11.Negative), v12]) (rBig_close ⟨v12, rfl, k12, trivial⟩) zcm)
    refine zaw (zch (r := rBig) (vs := [(zap #[(zab r11.Negative), v12])]) (css := [[(zab r11.Negative), v12]]) (xs := [r11]) zbh ti57 (zae rfl) rfl rfl ⟨rfl, rfl, trivial⟩ (zae rfl) hE20 rfl (Go.X.Loc.begin0 w22) ?_)
    intro b13 w23 hc13 hL21 hS15
    have hN10 : NewOwn w22 w23 [some b13] [zac ([] ++ ([(zab r11.Negative), v12] ++ []))] := hL21.newOwn [0] rfl rfl rfl
    exact zdf hL21.done hZ14 hN10 (fun _ h => h) ⟨b13, [(zab r11.Negative), v12], rfl, hN10.2.2.1, (hE20.mono (Zv.grow hL21.done)), hc13, trivial⟩
   intro z4
   refine zcx ?_
   rintro w24 Z25 hE21 hZ15 ⟨⟨⟨b13, cs12, rfl, hO10, hE12, hc12, -⟩, hB4⟩, ⟨⟨v12, rfl, k12, -⟩, hB3⟩, -⟩ ap10
   have hB10 : ∀ b, some b ∈ ([some b13] : List (Option Nat)) → w16.heap.size ≤ b ∧ ¬ Z25 b := by
    intro b hb
    rcases List.mem_cons.1 hb with hb' | hb
    ·
     have := hB4 b (by rw [hb']; exact zbm); exact ⟨this.1, this.2.2⟩
    cases hb
   replace hE12 := hE12.mono (zdw hL18 hZ15 hB10)
   replace k12 := k12.mono (zdw hL18 hZ15 hB10)
   have hN11 : NewOwn w16 w24 [some b13] [zac ([] ++ (cs12 ++ []))] := (zdt zco hO10 (fun b hb => (hB10 b (by rw [← hb]; simp)).1) (fun b _ hb => by cases hb))
   have hp12 := hL18.adoptL hE21 hN11
   have hL22 := hp12.1
   have K20 := ks w hp12.2
   obtain ⟨x12, q18, h⟩ := zec h
   obtain ⟨q19, q20, q21⟩ := zeq q18
   have f17 := ((((hE11.mono (K16 None)).mono (K17 None)).mono (K18 None)).mono (K20 None))
   refine zag (zdn (r := rBig) (H := (vH w None [some b13, some b12, some b6, some b10, ob11] w24)) (cs := cs11) (sp := sp11) (xs := coefs11) (ys := [r11]) (Y := x12) (n := coefs11.length) (cap := cap11) (i := 4) zbh ti57 rfl rfl rfl rfl hL22 rfl rfl f17 rfl hc10 (Src.row (pre := []) (o := 0) (n := 1) (cap := 1) (hL22.at 0 rfl rfl) hE12 rfl rfl rfl) hE12 q19 q20 q21 ?_)
   intro ob12 cap12 sp12 cs13 w25 hE22 hc14 (hL23 : vL w w25 [some b13, some b12, some b6, some b10, ob12] [zac ([] ++ (cs12 ++ [])), zac [(zab x11.Negative), v11], zac [zN, zF, zN], zac [(zO ob11 coefs11 cap11), (zab r10.Negative), v10], zac ([] ++ (cs13 ++ sp12))]) hS16
   have K21 := ks w hS16
   refine zag (zam (q := 0) zbl rfl ti51 rfl rfl rfl ?_)
   refine zcf (zbo (vs := [(zO ob12 x12 cap12)]) ti51 rfl rfl (zen (zem ob12 0 x12.length cap12)) rfl (zee (zem ob12 0 x12.length cap12) zej) hL23 3 rfl rfl (zae rfl) ?_)
   intro w26 (hL24 : vL w w26 [some b13, some b12, some b6, some b10, ob12] [zac ([] ++ (cs12 ++ [])), zac [(zab x11.Negative), v11], zac [zN, zF, zN], zac [(zO ob12 x12 cap12), (zab r10.Negative), v10], zac ([] ++ (cs13 ++ sp12))]) hS17
   have K22 := ks w hS17
   refine zan (zbn (zaf rfl (zag (zbz (x := x10) (y := 1) (z := (iw (x10 + 1))) rfl rfl rfl ?_))))
   refine zag (zai (v := (zI (iw (x10 + 1)))) rfl (zan ?_))
   have hp13 := hL24.pick [2, 3, 4] rfl rfl rfl
   have hL25 : vL w w26 [some b6, some b10, ob12] [zac [zN, zF, zN], zac [(zO ob12 x12 cap12), (zab r10.Negative), v10], zac ([] ++ (cs13 ++ sp12))] := hp13.1
   have K23 := ks w hp13.2
   have f18 := (((hE22.mono (K21 None)).mono (K22 None)).mono (K23 None))
   obtain rfl := zah h
   refine zaq ⟨(x12, (iw (x10 + 1))), rfl, ?_⟩
   exact ⟨ob12, cap12, sp12, cs13, x12.length, _, (zeg ⟨rfl, rfl, rfl, rfl, rfl, trivial⟩), hL25, (zao (zao (zao (zao (zao (zao (zao K15 K16) K17) K18) K20) K21) K22) K23), f18, rfl, hc14, trivial⟩
  replace h := ite_f hc11 h
  refine zck rfl ?_
  obtain rfl := zah h
  obtain rfl := hd10 _ rfl
  replace h := g10
  try dsimp only at h
  refine zaq ?_
  exact ⟨coefs11, ob11, cap11, sp11, cs11, coefs11.length, _, rfl, (zeg ⟨rfl, rfl, trivial⟩), hL15, K15, hE11, rfl, hc10, trivial⟩
 rintro _ w27 ⟨coefs10, ob10, cap10, sp10, cs10, ln10, u, rfl, rfl, hL26, K24, hE23, rfl, hc15, -⟩
 replace h := g10
 try dsimp only at h
 refine zaj (zaf rfl (zag (zbj (vs := [(zO ob10 coefs10 cap10), (zab r10.Negative), v10]) zbl rfl ti123 rfl (hL26.at 1 rfl rfl) rfl rfl ?_)))
 have f19 := ((f11.mono (K12 None)).mono (K24 None))
 refine zcf (zbo (vs := [(zO ob10 coefs10 cap10), (zab r10.Negative), v10]) ti123 rfl rfl rfl rfl (zee (zem _ _ _ _) (zee rfl (zee f19.one zej))) hL26 0 rfl rfl (zae rfl) ?_)
 intro w28 (hL27 : vL w w28 [some b6, some b10, ob10] [zac [(zO ob10 coefs10 cap10), (zab r10.Negative), v10], zac [(zO ob10 coefs10 cap10), (zab r10.Negative), v10], zac ([] ++ (cs10 ++ sp10))]) hS18
 have K25 := ks w hS18
 refine zan ?_
 have f20 := (hE23.mono (K25 None))
 have f21 := hL27.freezeRow 2 rfl rfl f20 rfl rfl rfl hc15
 have hp14 := hL27.pick [0, 1] rfl rfl rfl
 have hL28 : vL w w28 [some b6, some b10] [zac [(zO ob10 coefs10 cap10), (zab r10.Negative), v10], zac [(zO ob10 coefs10 cap10), (zab r10.Negative), v10]] := hp14.1
 have K26 := ks w hp14.2
 refine zbi ?_
 obtain rfl := zah h
 refine ⟨[(zap #[(zO ob10 coefs10 cap10), (zab r10.Negative), v10])], ⟨⟨⟨b6, 0, none⟩, rfl, zeo zbl rfl ti123 (hL28.at 0 rfl rfl) rfl⟩, trivial⟩, ⟨_, rfl, hL28.done, ?_⟩⟩
 have f22 := ((f19.mono (K25 None)).mono (K26 None))
 exact ⟨(zO ob10 coefs10 cap10), v10, rfl, (f21.mono zea), (f22.mono zea), trivial⟩
theorem cOf_w (N : Nat) (c : Constraint) (n : Int) (c_v : Value) (w : World) (S : Nat → Prop) (c_h : Rs rCoef (vH w S [] w) c_v c.Linear.Coefs) (r : (List Ineq)) (h : cOf N c n = some r) :
  Calls Tryz.prog 138 #[(zap #[(zI c.Linear.Const), c_v, (zab c.Equal)]), (zI n)] w (Ret w (fun v w' => ∃ (ob0 : Option Nat) (cap0 : Nat) (cs0 : List Value) (sp0 : List Value), (zO ob0 r cap0) = v ∧ NewOwn w w' [ob0] [zac ([] ++ (cs0 ++ sp0))] ∧ Els rIneq (vH w None [ob0] w') cs0 r ∧ (cs0 ++ sp0).length = cap0 * rIneq.sz ∧ True)) := by
 unfold cOf at h
 have hL : vL w w [] [] := Go.X.Loc.begin0 w
 refine calls_of (l := [(zap #[(zI c.Linear.Const), c_v, (zab c.Equal)]), (zI n)]) (rl := [.tmp 4]) (n := 51) Tryz.func138 rfl rfl rfl (zae rfl) ?_
 refine zaj (zaf rfl (zag (zdj (cs := [(zI c.Linear.Const), c_v, (zab c.Equal)]) rfl rfl hL ?_)))
 intro b1 w2 hL3 hS5
 have K4 := ks w hS5
 refine zag (zak (v := zN) rfl ?_)
 refine zan (zaj (zaj (zaf rfl (zag (zbj (vs := [(zI c.Linear.Const), c_v, (zab c.Equal)]) zcy rfl ti92 rfl (hL3.at 0 rfl rfl) rfl rfl ?_)))))
 refine zag (zai (v := (zI n)) rfl ?_)
 obtain ⟨r6, q7, h⟩ := zec h
 have f9 := (c_h.mono (K4 S))
 refine zag (zay en137 rfl rfl (cvalid_w N c n c_v _ Any (f9.mono vw_any) r6 q7) ?_)
 rintro _ w10 hE10 ⟨rfl, -⟩
 obtain ⟨hL10, K10⟩ := zl hL3 hE10
 refine zag (zeb (x := r6) rfl (zan ?_))
 refine zcq (!r6) rfl (fun hc10 => ?_) (fun hc10 => ?_)
 ·
  replace h := ite_t hc10 h
  refine zaj (zaf rfl (zag (zak (v := zN) rfl (zan ?_))))
  have hp10 := hL10.addNil
  have hL11 : vL w w10 [none, some b1] [zac ([] ++ ([] ++ [])), zac [(zI c.Linear.Const), c_v, (zab c.Equal)]] := hp10.1
  have hE11 : Els rIneq (vH w None [none, some b1] w10) [] [] := zcm
  refine zbi ?_
  obtain rfl := zah h
  refine ⟨[(osv none 0 (List.length ([] : (List Ineq))) 0)], zrt, ⟨_, rfl, hL11.done, ?_⟩⟩
  exact ⟨none, 0, [], [], rfl, (hL11.newOwn [0] rfl rfl rfl), (hE11.mono (zdx [0] rfl)), (show ([] ++ [] : List Value).length = 0 * rIneq.sz by simp), trivial⟩
 replace h := ite_f hc10 h
 refine zbf (zaj ?_)
 obtain ⟨x10, q10, h⟩ := zec h
 obtain ⟨m10, q11, q12, q13, q14⟩ := mk1_some q10
 obtain ⟨r10, q15, h⟩ := zec h
 obtain ⟨r11, q16, h⟩ := zec h
 refine zcj 9 [[], [], [], [], [], [], [], [1], []] [] (fun W1 => [.det (zI n), .rel (fun v Z w' => ∃ b10 cs10, (zO (some b10) x10 m10) = v ∧ OwnC w' (some b10) (zac ([] ++ (cs10 ++ []))) ∧ Els rBig (vZ W1 w None [some b1] Z w') cs10 x10 ∧ (cs10 ++ [] : List Value).length = m10 * rBig.sz ∧ True) footV, .det (zal (some ⟨b1, 0, none⟩)), .det (zal (some ⟨b1, 0, none⟩)), .det (zI c.Linear.Const), .rel (fun v Z w' => ∃ v10, (zap #[(zab r10.Negative), v10]) = v ∧ Rs (rInt .u32) (vZ W1 w None [some b1] Z w') v10 r10.Digits ∧ True) (fun _ => []), .rel (fun v Z w' => ∃ v11, (zap #[(zab r11.Negative), v11]) = v ∧ Rs (rInt .u32) (vZ W1 w None [some b1] Z w') v11 r11.Digits ∧ True) (fun _ => []), .rel (fun v Z w' => ∃ b10 cs10 v12, (zap #[(zO (some b10) x10 m10), (zab r11.Negative), v12]) = v ∧ OwnC w' (some b10) (zac ([] ++ (cs10 ++ []))) ∧ Els rBig (vZ W1 w None [some b1] Z w') cs10 x10 ∧ (cs10 ++ [] : List Value).length = m10 * rBig.sz ∧ Rs (rInt .u32) (vZ W1 w None [some b1] Z w') v12 r11.Digits ∧ True) (footA 0), .rel (fun v Z w' => ∃ b11, (zal (some ⟨b11, 0, none⟩)) = v ∧ OwnC w' (some b11) (zac [zN, zF, zN]) ∧ True) footV]) mixed rfl rfl rfl (fun _ => rfl) (fun _ => rfl) ?_ ?_
 ·
  intro W1 _
  exact ⟨fun v Z Z' w w' hΦ hz _ _ hs => by obtain ⟨b10, cs10, rfl, hO10, hE12, hc11, -⟩ := hΦ; exact ⟨b10, cs10, rfl, (hO10.stay (fun b hb => by cases hb; exact zbm) hs), (hE12.mono (zdo hz hs)), hc11, trivial⟩, ⟨fun v Z Z' w w' hΦ hz _ _ hs => by obtain ⟨v10, rfl, k10, -⟩ := hΦ; exact ⟨v10, rfl, (k10.mono (zdo hz hs)), trivial⟩, ⟨fun v Z Z' w w' hΦ hz _ _ hs => by obtain ⟨v11, rfl, k11, -⟩ := hΦ; exact ⟨v11, rfl, (k11.mono (zdo hz hs)), trivial⟩, ⟨fun v Z Z' w w' hΦ hz _ _ hs => by obtain ⟨b10, cs10, v12, rfl, hO10, hE12, hc11, k12, -⟩ := hΦ; exact ⟨b10, cs10, v12, rfl, (hO10.stay (fun b hb => by cases hb; exact zbm) hs), (hE12.mono (zdo hz hs)), hc11, (k12.mono (zdo hz hs)), trivial⟩, ⟨fun v Z Z' w w' hΦ hz _ _ hs => by obtain ⟨b11, rfl, hO11, -⟩ := hΦ; exact ⟨b11, rfl, (hO11.stay (fun b hb => by cases hb; exact zbm) hs), trivial⟩, trivial⟩⟩⟩⟩⟩
 intro w11 hE13
 obtain ⟨hL12, K11⟩ := zl hL10 hE13
 refine zat (fun _ _ => zaw (zai rfl (er rfl))) ?_
 refine zdq ?_ ?_
 ·
  rintro w13 Z20 hE15 hZ11 ⟨-⟩
  refine zaw (OpY.mkRowX (r := rBig) (H := (vZ w11 w None [some b1] Z20 w13)) (zc := [zF, zN]) (x := (Big.mk false [])) zbh ti57 rfl (rBig_close ⟨zN, rfl, zdk, trivial⟩) rfl rfl q11 q12 q13 q14 (Go.X.Loc.begin0 w13) ?_)
  intro b10 w14 cs10 hE12 hc11 hL13 hS10
  have hN10 : NewOwn w13 w14 [some b10] [zac ([] ++ (cs10 ++ []))] := hL13.newOwn [0] rfl rfl rfl
  exact zdf hL13.done hZ11 hN10 (fun _ h => h) ⟨b10, cs10, rfl, hN10.2.2.1, (hE12.mono (Zv.grow hL13.done)), hc11, trivial⟩
 intro z1
 refine zat (fun _ _ => zaw (zam zcy rfl ti90 rfl rfl rfl (er rfl))) ?_
 refine zat (fun _ _ => zaw (zam zbx rfl ti2 rfl rfl rfl (er rfl))) ?_
 refine zat (fun _ hE18 => zaw (zau zdd rfl rfl ((hL12.ext hE18).at 0 rfl rfl) rfl (er rfl))) ?_
 refine zdq ?_ ?_
 ·
  rintro w18 Z25 hE19 hZ15 ⟨-, -⟩
  refine zaw (zay en135 rfl rfl (bOf_w N c.Linear.Const _ Any r10 q15) ?_)
  rintro _ w19 hE20 ⟨v10, rfl, k10, -⟩
  exact zdf hE20 hZ15 zco (fun _ h => h) ⟨v10, rfl, (k10.mono zdr), trivial⟩
 intro z5
 refine zdq ?_ ?_
 ·
  rintro w20 Z26 hE21 hZ16 ⟨⟨⟨v10, rfl, k10, -⟩, hB5⟩, -, -⟩
  refine zaw (zay en134 rfl rfl (bNeg_w N r10 v10 _ Any (k10.mono vw_any) r11 q16) ?_)
  rintro _ w21 hE22 ⟨v11, rfl, k11, -⟩
  exact zdf hE22 hZ16 zco (fun _ h => h) ⟨v11, rfl, (k11.mono zdr), trivial⟩
 intro z6
 refine zdq ?_ ?_
 ·
  rintro w22 Z27 hE23 hZ17 ⟨⟨⟨v11, rfl, k11, -⟩, hB6⟩, -, ⟨⟨b10, cs10, rfl, hO10, hE12, hc11, -⟩, hB1⟩, -⟩
  refine zaw (zcc (zc := [zN, zF, zN]) (cs := [(zO (some b10) x10 m10), (zab r11.Negative), v11]) (is := [0, 1]) (vs := [(zO (some b10) x10 m10), (zap #[(zab r11.Negative), v11])]) (css := [[(zO (some b10) x10 m10)], [(zab r11.Negative), v11]]) pl123 ti123 rfl rfl rfl ⟨(zen (zem (some b10) 0 x10.length m10)), zrt⟩ rfl ?_)
  exact Made.take (fun b hb => hB1 b ((zep (o := 0) (n := x10.length) (cap := m10)).2 hb)) (fun b hb => List.mem_append_left _ ((zep (o := 0) (n := x10.length) (cap := m10)).2 (by rw [← hb]; exact zbm))) (fun b hb => (zep (ob := (some b10)) (o := 0) (n := x10.length) (cap := m10)).1 hb) ⟨b10, cs10, v11, rfl, hO10, hE12, hc11, k11, trivial⟩
 intro z7
 refine zdq ?_ ?_
 ·
  rintro w23 Z28 hE24 hZ18 ⟨-, -, -, -, -⟩
  refine zaw (zbw (cs := [zN, zF, zN]) ti123 rfl (Go.X.Loc.begin0 w23) ?_)
  intro b11 w24 hL15 hS11
  have hN11 : NewOwn w23 w24 [some b11] [zac [zN, zF, zN]] := hL15.newOwn [0] rfl rfl rfl
  exact zdf hL15.done hZ18 hN11 (fun _ h => h) ⟨b11, rfl, hN11.2.2.1, trivial⟩
 intro z8
 refine zcx ?_
 rintro w25 Z29 hE25 hZ19 ⟨⟨⟨b11, rfl, hO11, -⟩, hB8⟩, ⟨⟨b10, cs10, v12, rfl, hO10, hE12, hc11, k12, -⟩, hB7⟩, ⟨⟨v11, rfl, k11, -⟩, hB6⟩, ⟨⟨v10, rfl, k10, -⟩, hB5⟩, -, -⟩ ap10
 have hB10 : ∀ b, some b ∈ ([some b11, some b10] : List (Option Nat)) → w11.heap.size ≤ b ∧ ¬ Z29 b := by
  intro b hb
  rcases List.mem_cons.1 hb with hb' | hb
  ·
   have := hB8 b (by rw [hb']; exact zbm); exact ⟨this.1, this.2.2⟩
  rcases List.mem_cons.1 hb with hb' | hb
  ·
   have := hB7 b (by rw [hb']; exact zbm); exact ⟨this.1, this.2.2⟩
  cases hb
 replace hE12 := hE12.mono (zdw hL12 hZ19 hB10)
 replace k12 := k12.mono (zdw hL12 hZ19 hB10)
 replace k11 := k11.mono (zdw hL12 hZ19 hB10)
 replace k10 := k10.mono (zdw hL12 hZ19 hB10)
 have hN12 : NewOwn w11 w25 [some b11, some b10] [zac [zN, zF, zN], zac ([] ++ (cs10 ++ []))] := (zdt (zdt zco hO10 (fun b hb => (hB10 b (by rw [← hb]; simp)).1) (fun b _ hb => by cases hb)) hO11 (fun b hb => (hB10 b (by rw [← hb]; simp)).1) (fun b hb hm => (List.mem_cons.1 hm).elim (fun e => apE (ap10.1) rfl rfl b (hb) ((zep (ob := (some b10)) (o := 0) (n := x10.length) (cap := m10)).2 (by rw [e]; exact zbm))) (fun hm => by cases hm)))
 have hp11 := hL12.adoptL hE25 hN12
 have hL16 := hp11.1
 have K12 := ks w hp11.2
 refine zcf (zbo (vs := [(zO (some b10) x10 m10), (zab r11.Negative), v12]) ti123 rfl rfl rfl rfl (zee (zem (some b10) 0 x10.length m10) (zee rfl (zee k12.one zej))) hL16 0 rfl rfl (zae rfl) ?_)
 intro w26 (hL17 : vL w w26 [some b11, some b10, some b1] [zac [(zO (some b10) x10 m10), (zab r11.Negative), v12], zac ([] ++ (cs10 ++ [])), zac [(zI c.Linear.Const), c_v, (zab c.Equal)]]) hS12
 have K13 := ks w hS12
 refine zan (zaj (zaj (zaf rfl (zag (zam (q := 0) zcy rfl ti90 rfl rfl rfl ?_)))))
 refine zag (zam (q := 1) zbx rfl ti88 rfl rfl rfl ?_)
 refine zag (zau (v := c_v) zbr rfl rfl (hL17.at 2 rfl rfl) rfl ?_)
 have f10 := ((((f9.mono (K10 S)).mono (K11 S)).mono (K12 S)).mono (K13 S))
 refine zag (zbc (v := c_v) zbr rfl f10 ?_)
 refine zag (zai (v := (zI 0)) rfl (zan ?_))
 obtain ⟨s10, hl10, g10⟩ := zec h
 refine zbs (fun e w' => ∃ (coefs10 : (List Big)) (cs11 : List Value) (u : Env), coefs10 = s10 ∧ e = upds [(2, (zal (some ⟨b1, 0, none⟩))), (5, (zal (some ⟨b11, 0, none⟩)))] u ∧ vL w w' [some b1, some b11, some b10] [zac [(zI c.Linear.Const), c_v, (zab c.Equal)], zac [(zO (some b10) x10 m10), (zab r11.Negative), v12], zac ([] ++ (cs11 ++ []))] ∧ Keep w.heap.size [some b11, some b10, some b1] w26 [some b1, some b11, some b10] w' ∧ Els rBig (vH w None [some b1, some b11, some b10] w') cs11 coefs10 ∧ x10.length = List.length coefs10 ∧ (cs11 ++ []).length = m10 * rBig.sz ∧ True) ?_ ?_
 ·
  refine zbb ?_
  have hp12 := hL17.pick [2, 0, 1] rfl rfl rfl
  have hL18 : vL w w26 [some b1, some b11, some b10] [zac [(zI c.Linear.Const), c_v, (zab c.Equal)], zac [(zO (some b10) x10 m10), (zab r11.Negative), v12], zac ([] ++ (cs10 ++ []))] := hp12.1
  have K14 := ks w hp12.2
  have f11 := ((hE12.mono (K13 None)).mono (K14 None))
  refine zcb hl10 (fun (ss : ((List Big) × Int)) (e : Env) (w' : World) => match ss with | (coefs11, x11) => ∃ (cs12 : List Value) (u : Env), e = upds [(2, (zal (some ⟨b1, 0, none⟩))), (5, (zal (some ⟨b11, 0, none⟩))), (22, c_v), (23, (zI (c.Linear.Coefs.length : Int))), (24, (zI x11))] u ∧ vL w w' [some b1, some b11, some b10] [zac [(zI c.Linear.Const), c_v, (zab c.Equal)], zac [(zO (some b10) x10 m10), (zab r11.Negative), v12], zac ([] ++ (cs12 ++ []))] ∧ Keep w.heap.size [some b11, some b10, some b1] w26 [some b1, some b11, some b10] w' ∧ Els rBig (vH w None [some b1, some b11, some b10] w') cs12 coefs11 ∧ x10.length = List.length coefs11 ∧ (cs12 ++ []).length = m10 * rBig.sz ∧ True) ⟨cs10, _, (zeg ⟨rfl, rfl, rfl, rfl, rfl, trivial⟩), hL18, K14, f11, rfl, hc11, trivial⟩ ?_
  rintro ⟨coefs11, x11⟩ oo _ w27 ⟨cs12, u, rfl, hL19, K15, hE26, hl11, hc12, -⟩ h hd10
  rw [cOf_b1] at h
  refine zaj (zaf rfl (zag (zci (x := x11) (y := (c.Linear.Coefs.length : Int)) ((x11 : Int) < (c.Linear.Coefs.length : Int)) rfl rfl zbd ?_)))
  refine zan (zaj ?_)
  refine zba ((x11 : Int) < (c.Linear.Coefs.length : Int)) rfl (fun hc13 => ?_) (fun hc13 => ?_)
  ·
   replace h := ite_t hc13 h
   refine zbf (zaj (zbb (zaj (zaf rfl ?_))))
   obtain ⟨x12, n10, q18, q19, -, h⟩ := zix h
   have f12 := (f10.mono (K15 S))
   obtain ⟨b12, o10, c10, vs10, q20, q21, f13, q22⟩ := zcw f12 q19
   obtain ⟨rfl, -⟩ := rCoef_open q22
   refine zag (zbp (r := rCoef) (v := c_v) (n := n10) (m := (o10 + n10 * rCoef.sz)) zbr ti87 rfl q20 rfl q18 q19 rfl ?_)
   refine zag (zdl (vs := [(zI x12.Var), (zI x12.N)]) zdh rfl ti87 rfl rfl zek f13 ?_)
   refine zag (zbw (cs := [(zI 0), (zI 0)]) ti87 rfl hL19 ?_)
   intro b13 w28 hL20 hS13
   have K16 := ks w hS13
   refine zcf (zbo (vs := [(zI x12.Var), (zI x12.N)]) ti87 rfl rfl rfl rfl (zee rfl (zee rfl zej)) hL20 0 rfl rfl (zae rfl) ?_)
   intro w29 (hL21 : vL w w29 [some b13, some b1, some b11, some b10] [zac [(zI x12.Var), (zI x12.N)], zac [(zI c.Linear.Const), c_v, (zab c.Equal)], zac [(zO (some b10) x10 m10), (zab r11.Negative), v12], zac ([] ++ (cs12 ++ []))]) hS14
   have K17 := ks w hS14
   refine zan ?_
   obtain ⟨r12, q23, h⟩ := zec h
   refine zcj 7 [] [] (fun W1 => [.det (zal (some ⟨b11, 0, none⟩)), .det (zO (some b10) x10 m10), .det (zal (some ⟨b13, 0, none⟩)), .det (zI x12.Var), .det (zal (some ⟨b13, 1, none⟩)), .det (zI x12.N), .rel (fun v Z w' => ∃ v13, (zap #[(zab r12.Negative), v13]) = v ∧ Rs (rInt .u32) (vZ W1 w None [some b13, some b1, some b11, some b10] Z w') v13 r12.Digits ∧ True) (fun _ => [])]) mixed rfl rfl rfl (fun _ => rfl) (fun _ => rfl) ?_ ?_
   ·
    intro W1 _
    exact ⟨fun v Z Z' w w' hΦ hz _ _ hs => by obtain ⟨v13, rfl, k13, -⟩ := hΦ; exact ⟨v13, rfl, (k13.mono (zdo hz hs)), trivial⟩, trivial⟩
   intro w30 hE27
   obtain ⟨hL22, K18⟩ := zl hL21 hE27
   refine zat (fun _ _ => zaw (zam zbl rfl ti51 rfl rfl rfl (er rfl))) ?_
   refine zat (fun _ hE29 => zaw (zau zbh rfl rfl ((hL22.ext hE29).at 2 rfl rfl) rfl (er rfl))) ?_
   refine zat (fun _ _ => zaw (zam zdh rfl ti3 rfl rfl rfl (er rfl))) ?_
   refine zat (fun _ hE31 => zaw (zau zax rfl rfl ((hL22.ext hE31).at 0 rfl rfl) rfl (er rfl))) ?_
   refine zat (fun _ _ => zaw (zam zdh rfl ti2 rfl rfl rfl (er rfl))) ?_
   refine zat (fun _ hE33 => zaw (zau zdd rfl rfl ((hL22.ext hE33).at 0 rfl rfl) rfl (er rfl))) ?_
   refine zdq ?_ ?_
   ·
    rintro w37 Z36 hE34 hZ26 ⟨-⟩
    refine zaw (zay en135 rfl rfl (bOf_w N x12.N _ Any r12 q23) ?_)
    rintro _ w38 hE35 ⟨v13, rfl, k13, -⟩
    exact zdf hE35 hZ26 zco (fun _ h => h) ⟨v13, rfl, (k13.mono zdr), trivial⟩
   intro z6
   refine zcx ?_
   rintro w39 Z37 hE36 hZ27 ⟨⟨⟨v13, rfl, k13, -⟩, hB6⟩, -⟩ ap11
   have hB11 := @zhb w30 Z37
   replace k13 := k13.mono (zdw hL22 hZ27 hB11)
   obtain ⟨hL26, K19⟩ := zl hL22 hE36
   obtain ⟨x13, n11, q25, q26, q27, h⟩ := zix h
   refine zag (zdv (r := rBig) (b := b10) (o := 0) (n := n11) (m := x10.length) (xs := coefs11) (q := (0 + n11 * rBig.sz)) zbh ti57 rfl hl11 rfl q25 q27 rfl ?_)
   obtain ⟨x14, n12, q29, q30, q31, h⟩ := zux h
   obtain rfl := zin q25 q29
   have f14 := ((((hE26.mono (K16 None)).mono (K17 None)).mono (K18 None)).mono (K19 None))
   refine zcf (OpY.stRowX (pre := []) (r := rBig) (vs := [(zab r12.Negative), v13]) (a := r12) ti57 rfl rfl rfl (rBig_close ⟨v13, rfl, k13, trivial⟩) hL26 3 rfl rfl f14 q27 rfl q31 ?_)
   have hl12 : x10.length = List.length x14 := by rw [q31, List.length_set]; exact hl11
   intro w40 cs13 (hL27 : vL w w40 [some b13, some b1, some b11, some b10] [zac [(zI x12.Var), (zI x12.N)], zac [(zI c.Linear.Const), c_v, (zab c.Equal)], zac [(zO (some b10) x10 m10), (zab r11.Negative), v12], zac ([] ++ (cs13 ++ []))]) hS15 hE37 q32
   have hc14 : (cs13 ++ []).length = m10 * rBig.sz := zhc hc12 q32
   have K20 := ks w hS15
   refine zan (zbn (zaf rfl (zag (zbz (x := x11) (y := 1) (z := (iw (x11 + 1))) rfl rfl rfl ?_))))
   refine zag (zai (v := (zI (iw (x11 + 1)))) rfl (zan ?_))
   have hp13 := hL27.pick [1, 2, 3] rfl rfl rfl
   have hL28 : vL w w40 [some b1, some b11, some b10] [zac [(zI c.Linear.Const), c_v, (zab c.Equal)], zac [(zO (some b10) x10 m10), (zab r11.Negative), v12], zac ([] ++ (cs13 ++ []))] := hp13.1
   have K21 := ks w hp13.2
   have f15 := ((hE37.mono (K20 None)).mono (K21 None))
   obtain rfl := zah h
   refine zaq ⟨(x14, (iw (x11 + 1))), rfl, ?_⟩
   exact ⟨cs13, _, (zeg ⟨rfl, rfl, rfl, rfl, rfl, trivial⟩), hL28, (zao (zao (zao (zao (zao (zao K15 K16) K17) K18) K19) K20) K21), f15, hl12, hc14, trivial⟩
  replace h := ite_f hc13 h
  refine zck rfl ?_
  obtain rfl := zah h
  obtain rfl := hd10 _ rfl
  replace h := g10
  try dsimp only at h
  refine zaq ?_
  exact ⟨coefs11, cs12, _, rfl, (zeg ⟨rfl, rfl, trivial⟩), hL19, K15, hE26, hl11, hc12, trivial⟩
 rintro _ w41 ⟨coefs10, cs11, u, rfl, rfl, hL29, K22, hE38, hl13, hc15, -⟩
 replace h := g10
 try dsimp only at h
 refine zaj (zaj (zaf rfl (zag (zam (q := 2) zcy rfl ti4 rfl rfl rfl ?_))))
 refine zag (zau (v := (zab c.Equal)) zcd rfl rfl (hL29.at 0 rfl rfl) rfl ?_)
 refine zag (zeb (x := c.Equal) rfl (zan ?_))
 refine zcq (!c.Equal) rfl (fun hc16 => ?_) (fun hc16 => ?_)
 ·
  replace h := ite_t hc16 h
  refine zaj (zaf rfl (zag (zbj (vs := [(zO (some b10) x10 m10), (zab r11.Negative), v12]) zbl rfl ti123 rfl (hL29.at 1 rfl rfl) rfl rfl ?_)))
  have f16 := hL29.freezeRow 2 rfl rfl hE38 rfl rfl hl13 hc15
  have hp14 := hL29.pick [0, 1] rfl rfl rfl
  have hL30 : vL w w41 [some b1, some b11] [zac [(zI c.Linear.Const), c_v, (zab c.Equal)], zac [(zO (some b10) x10 m10), (zab r11.Negative), v12]] := hp14.1
  have K23 := ks w hp14.2
  have f17 := (((k12.mono (K13 None)).mono (K22 None)).mono (K23 None))
  have hE39 : Els rIneq (vH w None [some b1, some b11] w41) [(zO (some b10) x10 m10), (zab r11.Negative), v12] [(Ineq.mk coefs10 r11)] := (zcp (a := [(zO (some b10) x10 m10), (zab r11.Negative), v12]) (rIneq_close ⟨(zO (some b10) x10 m10), v12, rfl, f16, f17, trivial⟩) zcm)
  refine zag (zch (r := rIneq) (vs := [(zap #[(zO (some b10) x10 m10), (zab r11.Negative), v12])]) (css := [[(zO (some b10) x10 m10), (zab r11.Negative), v12]]) (xs := [(Ineq.mk coefs10 r11)]) zcn ti123 (zae rfl) rfl rfl ⟨rfl, rfl, trivial⟩ (zae rfl) hE39 rfl hL30 ?_)
  intro b14 w42 hc17 hL31 hS16
  have K24 := ks w hS16
  refine zag (zak (v := (osv (some b14) 0 1 1)) rfl ?_)
  refine zan (zbi ?_)
  obtain rfl := zah h
  refine ⟨[(osv (some b14) 0 1 1)], zrt, ⟨_, rfl, hL31.done, ?_⟩⟩
  have f18 := (hE39.mono (K24 None))
  exact ⟨some b14, 1, [(zO (some b10) x10 m10), (zab r11.Negative), v12], [], rfl, (hL31.newOwn [0] rfl rfl rfl), (f18.mono (zdx [0] rfl)), hc17, trivial⟩
 replace h := ite_f hc16 h
 refine zbf (zaj ?_)
 obtain ⟨r13, q33, h⟩ := zec h
 obtain ⟨r14, q34, h⟩ := zec h
 refine zcj 8 [] [] (fun W1 => [.det (zap #[(zO (some b10) x10 m10), (zab r11.Negative), v12]), .det (zal (some ⟨b11, 0, none⟩)), .det (zO (some b10) x10 m10), .det (zal (some ⟨b1, 0, none⟩)), .det (zal (some ⟨b1, 0, none⟩)), .det (zI c.Linear.Const), .rel (fun v Z w' => ∃ v14, (zap #[(zab r13.Negative), v14]) = v ∧ Rs (rInt .u32) (vZ W1 w None [some b1, some b11, some b10] Z w') v14 r13.Digits ∧ True) (fun _ => []), .rel (fun v Z w' => ∃ v15 v16, (zap #[v15, (zab r14.Bound.Negative), v16]) = v ∧ Rs rBig (vZ W1 w None [some b1, some b11, some b10] Z w') v15 r14.Coefs ∧ Rs (rInt .u32) (vZ W1 w None [some b1, some b11, some b10] Z w') v16 r14.Bound.Digits ∧ True) (fun _ => [])]) mixed rfl rfl rfl (fun _ => rfl) (fun _ => rfl) ?_ ?_
 ·
  intro W1 _
  exact ⟨fun v Z Z' w w' hΦ hz _ _ hs => by obtain ⟨v14, rfl, k14, -⟩ := hΦ; exact ⟨v14, rfl, (k14.mono (zdo hz hs)), trivial⟩, ⟨fun v Z Z' w w' hΦ hz _ _ hs => by obtain ⟨v15, v16, rfl, k15, k16, -⟩ := hΦ; exact ⟨v15, v16, rfl, (k15.mono (zdo hz hs)), (k16.mono (zdo hz hs)), trivial⟩, trivial⟩⟩
 intro w43 hE40
 obtain ⟨hL32, K25⟩ := zl hL29 hE40
 refine zat (fun _ hE41 => zaw (zbj (vs := [(zO (some b10) x10 m10), (zab r11.Negative), v12]) zbl rfl ti123 rfl ((hL32.ext hE41).at 1 rfl rfl) rfl rfl (er rfl))) ?_
 refine zat (fun _ _ => zaw (zam zbl rfl ti51 rfl rfl rfl (er rfl))) ?_
 refine zat (fun _ hE43 => zaw (zau zbh rfl rfl ((hL32.ext hE43).at 1 rfl rfl) rfl (er rfl))) ?_
 refine zat (fun _ _ => zaw (zam zcy rfl ti90 rfl rfl rfl (er rfl))) ?_
 refine zat (fun _ _ => zaw (zam zbx rfl ti2 rfl rfl rfl (er rfl))) ?_
 refine zat (fun _ hE46 => zaw (zau zdd rfl rfl ((hL32.ext hE46).at 0 rfl rfl) rfl (er rfl))) ?_
 refine zdq ?_ ?_
 ·
  rintro w50 Z44 hE47 hZ34 ⟨-⟩
  refine zaw (zay en135 rfl rfl (bOf_w N c.Linear.Const _ Any r13 q33) ?_)
  rintro _ w51 hE48 ⟨v14, rfl, k14, -⟩
  exact zdf hE48 hZ34 zco (fun _ h => h) ⟨v14, rfl, (k14.mono zdr), trivial⟩
 intro z6
 refine zdq ?_ ?_
 ·
  rintro w52 Z45 hE49 hZ35 ⟨⟨⟨v14, rfl, k14, -⟩, hB6⟩, -⟩
  obtain ⟨hL36, K26⟩ := zl hL32 hE49
  refine zaw (zay en132 rfl rfl (negated_w N coefs10 r13 (zO (some b10) x10 m10) v14 _ Any (zel (pre := []) (o := 0) (n := x10.length) (cap := m10) (hL36.at 2 rfl rfl) ((hE38.mono (K25 None)).mono (K26 None)) vw_any rfl rfl hl13 hc15) (k14.mono vw_any) r14 q34) ?_)
  rintro _ w53 hE50 ⟨v15, v16, rfl, k15, k16, -⟩
  exact zdf hE50 hZ35 zco (fun _ h => h) ⟨v15, v16, rfl, (k15.mono zdr), (k16.mono zdr), trivial⟩
 intro z7
 refine zcx ?_
 rintro w54 Z46 hE51 hZ36 ⟨⟨⟨v15, v16, rfl, k15, k16, -⟩, hB7⟩, ⟨⟨v14, rfl, k14, -⟩, hB6⟩, -⟩ ap12
 have hB12 := @zhb w43 Z46
 replace k15 := k15.mono (zdw hL32 hZ36 hB12)
 replace k16 := k16.mono (zdw hL32 hZ36 hB12)
 replace k14 := k14.mono (zdw hL32 hZ36 hB12)
 obtain ⟨hL37, K27⟩ := zl hL32 hE51
 have f19 := ((hE38.mono (K25 None)).mono (K27 None))
 have f20 := hL37.freezeRow 2 rfl rfl f19 rfl rfl hl13 hc15
 have hp15 := hL37.pick [0, 1] rfl rfl rfl
 have hL38 : vL w w54 [some b1, some b11] [zac [(zI c.Linear.Const), c_v, (zab c.Equal)], zac [(zO (some b10) x10 m10), (zab r11.Negative), v12]] := hp15.1
 have K28 := ks w hp15.2
 have f21 := (k15.mono (K28 None))
 have f22 := (k16.mono (K28 None))
 have f23 := (((((k12.mono (K13 None)).mono (K22 None)).mono (K25 None)).mono (K27 None)).mono (K28 None))
 have hE52 : Els rIneq (vH w None [some b1, some b11] w54) [(zO (some b10) x10 m10), (zab r11.Negative), v12, v15, (zab r14.Bound.Negative), v16] [(Ineq.mk coefs10 r11), r14] := (zcp (a := [(zO (some b10) x10 m10), (zab r11.Negative), v12]) (rIneq_close ⟨(zO (some b10) x10 m10), v12, rfl, f20, f23, trivial⟩) (zcp (a := [v15, (zab r14.Bound.Negative), v16]) (rIneq_close ⟨v15, v16, rfl, f21, f22, trivial⟩) zcm))
 refine zag (zch (r := rIneq) (vs := [(zap #[(zO (some b10) x10 m10), (zab r11.Negative), v12]), (zap #[v15, (zab r14.Bound.Negative), v16])]) (css := [[(zO (some b10) x10 m10), (zab r11.Negative), v12], [v15, (zab r14.Bound.Negative), v16]]) (xs := [(Ineq.mk coefs10 r11), r14]) zcn ti123 (zae rfl) rfl rfl ⟨rfl, rfl, ⟨rfl, rfl, trivial⟩⟩ (zae rfl) hE52 rfl hL38 ?_)
 intro b15 w55 hc18 hL39 hS17
 have K29 := ks w hS17
 refine zag (zak (v := (osv (some b15) 0 2 2)) rfl ?_)
 refine zan (zbi ?_)
 obtain rfl := zah h
 refine ⟨[(osv (some b15) 0 2 2)], zrt, ⟨_, rfl, hL39.done, ?_⟩⟩
 have f24 := (hE52.mono (K29 None))
 exact ⟨some b15, 2, [(zO (some b10) x10 m10), (zab r11.Negative), v12, v15, (zab r14.Bound.Negative), v16], [], rfl, (hL39.newOwn [0] rfl rfl rfl), (f24.mono (zdx [0] rfl)), hc18, trivial⟩
theorem cSystem_w (N : Nat) (l : (List Constraint)) (n : Int) (l_v : Value) (w : World) (S : Nat → Prop) (l_h : Rs rConstraint (vH w S [] w) l_v l) (r : (List Ineq)) (h : cSystem N l n = some r) :
  Calls Tryz.prog 94 #[l_v, (zI n)] w (Ret w (fun v w' => ∃ (ob0 : Option Nat) (cap0 : Nat) (cs0 : List Value) (sp0 : List Value), (zO ob0 r cap0) = v ∧ NewOwn w w' [ob0] [zac ([] ++ (cs0 ++ sp0))] ∧ Els rIneq (vH w None [ob0] w') cs0 r ∧ (cs0 ++ sp0).length = cap0 * rIneq.sz ∧ True)) := by
 unfold cSystem at h
 have hL : vL w w [] [] := Go.X.Loc.begin0 w
 refine calls_of (l := [l_v, (zI n)]) (rl := [.tmp 4]) (n := 25) Tryz.func94 rfl rfl rfl (zae rfl) ?_
 refine zaj (zaf rfl (zag (zak (v := zN) rfl ?_)))
 refine zan (zaj (zaf rfl (zag (zak (v := zN) rfl ?_))))
 refine zan (zaj (zaj (zaf rfl (zag (zai (v := l_v) rfl ?_)))))
 refine zag (zbc (v := l_v) zcz rfl l_h ?_)
 refine zag (zai (v := (zI 0)) rfl (zan ?_))
 obtain ⟨s10, hl10, g10⟩ := zec h
 refine zbs (fun e w' => ∃ (out10 : (List Ineq)) (ob10 : Option Nat) (cap10 : Nat) (sp10 : List Value) (cs10 : List Value) (ln10 : Nat) (u : Env), (Sum.inl out10) = s10 ∧ e = upds [(5, (osv ob10 0 ln10 cap10))] u ∧ vL w w' [ob10] [zac ([] ++ (cs10 ++ sp10))] ∧ Keep w.heap.size [] w [ob10] w' ∧ Els rIneq (vH w None [ob10] w') cs10 out10 ∧ ln10 = List.length out10 ∧ (cs10 ++ sp10).length = cap10 * rIneq.sz ∧ True) ?_ ?_
 ·
  refine zbb ?_
  have hp10 := hL.addNil
  have hL10 : vL w w [none] [zac ([] ++ ([] ++ []))] := hp10.1
  have K10 := ks w hp10.2
  refine zcb hl10 (fun (ss : ((List Ineq) × Int)) (e : Env) (w' : World) => match ss with | (out11, x10) => ∃ (ob11 : Option Nat) (cap11 : Nat) (sp11 : List Value) (cs11 : List Value) (ln11 : Nat) (u : Env), e = upds [(1, (zI n)), (5, (osv ob11 0 ln11 cap11)), (8, l_v), (9, (zI (l.length : Int))), (10, (zI x10))] u ∧ vL w w' [ob11] [zac ([] ++ (cs11 ++ sp11))] ∧ Keep w.heap.size [] w [ob11] w' ∧ Els rIneq (vH w None [ob11] w') cs11 out11 ∧ ln11 = List.length out11 ∧ (cs11 ++ sp11).length = cap11 * rIneq.sz ∧ True) ⟨none, 0, [], [], (List.length ([] : (List Ineq))), _, (zeg ⟨rfl, rfl, rfl, rfl, rfl, trivial⟩), hL10, K10, (zcm (r := rIneq)), rfl, (show ([] ++ [] : List Value).length = 0 * rIneq.sz by simp), trivial⟩ ?_
  rintro ⟨out11, x10⟩ oo _ w10 ⟨ob11, cap11, sp11, cs11, ln11, u, rfl, hL11, K11, hE10, rfl, hc10, -⟩ h hd10
  rw [cSystem_b1] at h
  refine zaj (zaf rfl (zag (zci (x := x10) (y := (l.length : Int)) ((x10 : Int) < (l.length : Int)) rfl rfl zbd ?_)))
  refine zan (zaj ?_)
  refine zba ((x10 : Int) < (l.length : Int)) rfl (fun hc11 => ?_) (fun hc11 => ?_)
  ·
   replace h := ite_t hc11 h
   refine zbf (zaj (zbb (zaj (zaf rfl ?_))))
   obtain ⟨x11, n10, q11, q12, -, h⟩ := zix h
   have f10 := (l_h.mono (K11 S))
   obtain ⟨b10, o10, c10, vs10, q13, q14, f11, q15⟩ := zcw f10 q12
   obtain ⟨v10, rfl, k10, -⟩ := rConstraint_open q15
   refine zag (zbp (r := rConstraint) (v := l_v) (n := n10) (m := (o10 + n10 * rConstraint.sz)) zcz ti92 rfl q13 rfl q11 q12 rfl ?_)
   refine zag (zdl (vs := [(zI x11.Linear.Const), v10, (zab x11.Equal)]) zcy rfl ti92 rfl rfl zek f11 ?_)
   refine zag (zbw (cs := [(zI 0), zN, zF]) ti92 rfl hL11 ?_)
   intro b11 w11 hL12 hS10
   have K12 := ks w hS10
   have f12 := (k10.mono (K12 S))
   refine zcf (zbo (vs := [(zI x11.Linear.Const), v10, (zab x11.Equal)]) ti92 rfl rfl rfl rfl (zee rfl (zee f12.one (zee rfl zej))) hL12 0 rfl rfl (zae rfl) ?_)
   intro w12 (hL13 : vL w w12 [some b11, ob11] [zac [(zI x11.Linear.Const), v10, (zab x11.Equal)], zac ([] ++ (cs11 ++ sp11))]) hS11
   have K13 := ks w hS11
   refine zan (zaj (zaj (zaf rfl (zag (zbj (vs := [(zI x11.Linear.Const), v10, (zab x11.Equal)]) zcy rfl ti92 rfl (hL13.at 0 rfl rfl) rfl rfl ?_)))))
   refine zag (zai (v := (zI n)) rfl ?_)
   obtain ⟨r10, q16, h⟩ := zec h
   have f13 := (f12.mono (K13 S))
   refine zag (zay en137 rfl rfl (cvalid_w N x11 n v10 _ Any (f13.mono vw_any) r10 q16) ?_)
   rintro _ w13 hE11 ⟨rfl, -⟩
   obtain ⟨hL14, K14⟩ := zl hL13 hE11
   refine zag (zeb (x := r10) rfl (zan ?_))
   refine zcq (!r10) rfl (fun hc12 => ?_) (fun hc12 => ?_)
   ·
    replace h := ite_t hc12 h
    refine zaj (zaf rfl (zag (zak (v := zN) rfl (zan ?_))))
    have hp11 := hL14.addNil
    have hL15 : vL w w13 [none, some b11, ob11] [zac ([] ++ ([] ++ [])), zac [(zI x11.Linear.Const), v10, (zab x11.Equal)], zac ([] ++ (cs11 ++ sp11))] := hp11.1
    have hE12 : Els rIneq (vH w None [none, some b11, ob11] w13) [] [] := zcm
    refine zbi ?_
    obtain rfl := zah h
    obtain rfl := hd10 _ rfl
    replace h := g10
    try dsimp only at h
    obtain rfl := zah h
    refine ⟨[(osv none 0 (List.length ([] : (List Ineq))) 0)], zrt, ⟨_, rfl, hL15.done, ?_⟩⟩
    exact ⟨none, 0, [], [], rfl, (hL15.newOwn [0] rfl rfl rfl), (hE12.mono (zdx [0] rfl)), (show ([] ++ [] : List Value).length = 0 * rIneq.sz by simp), trivial⟩
   replace h := ite_f hc12 h
   refine zbf (zaf rfl (zag (zai (v := (zO ob11 out11 cap11)) rfl ?_)))
   refine zag (zbj (vs := [(zI x11.Linear.Const), v10, (zab x11.Equal)]) zcy rfl ti92 rfl (hL14.at 0 rfl rfl) rfl rfl ?_)
   refine zag (zai (v := (zI n)) rfl ?_)
   obtain ⟨r11, q17, h⟩ := zec h
   have f14 := (f13.mono (K14 S))
   refine zag (zay en138 rfl rfl (cOf_w N x11 n v10 _ Any (f14.mono vw_any) r11 q17) ?_)
   rintro _ w14 hE13 ⟨ob12, cap12, cs12, sp12, rfl, hN10, hE14, hc13, -⟩
   replace hE14 := hE14.mono (zbu (S := None) hL14 [ob12])
   have hp12 := hL14.adoptL hE13 hN10
   have hL16 := hp12.1
   have K15 := ks w hp12.2
   obtain ⟨x12, q18, h⟩ := zec h
   obtain ⟨q19, q20, q21⟩ := zeq q18
   have f15 := ((((hE10.mono (K12 None)).mono (K13 None)).mono (K14 None)).mono (K15 None))
   refine zag (zdn (r := rIneq) (H := (vH w None [ob12, some b11, ob11] w14)) (cs := cs11) (sp := sp11) (xs := out11) (ys := r11) (Y := x12) (n := out11.length) (cap := cap11) (i := 2) zcn ti123 rfl rfl rfl rfl hL16 rfl rfl f15 rfl hc10 (Src.row (pre := []) (o := 0) (n := r11.length) (cap := cap12) (hL16.at 0 rfl rfl) hE14 rfl rfl rfl) hE14 q19 q20 q21 ?_)
   intro ob13 cap13 sp13 cs13 w15 hE15 hc14 (hL17 : vL w w15 [ob12, some b11, ob13] [zac ([] ++ (cs12 ++ sp12)), zac [(zI x11.Linear.Const), v10, (zab x11.Equal)], zac ([] ++ (cs13 ++ sp13))]) hS12
   have K16 := ks w hS12
   refine zag (zak (v := (zO ob13 x12 cap13)) rfl ?_)
   refine zan (zbn (zaf rfl (zag (zbz (x := x10) (y := 1) (z := (iw (x10 + 1))) rfl rfl rfl ?_))))
   refine zag (zai (v := (zI (iw (x10 + 1)))) rfl (zan ?_))
   have hp13 := hL17.pick [2] rfl rfl rfl
   have hL18 : vL w w15 [ob13] [zac ([] ++ (cs13 ++ sp13))] := hp13.1
   have K17 := ks w hp13.2
   have f16 := ((hE15.mono (K16 None)).mono (K17 None))
   obtain rfl := zah h
   refine zaq ⟨(x12, (iw (x10 + 1))), rfl, ?_⟩
   exact ⟨ob13, cap13, sp13, cs13, x12.length, _, (zeg ⟨rfl, rfl, rfl, rfl, rfl, trivial⟩), hL18, (zao (zao (zao (zao (zao (zao K11 K12) K13) K14) K15) K16) K17), f16, rfl, hc14, trivial⟩
  replace h := ite_f hc11 h
  refine zck rfl ?_
  obtain rfl := zah h
  obtain rfl := hd10 _ rfl
  replace h := g10
  try dsimp only at h
  refine zaq ?_
  exact ⟨out11, ob11, cap11, sp11, cs11, out11.length, _, rfl, (zeg zrt), hL11, K11, hE10, rfl, hc10, trivial⟩
 rintro _ w16 ⟨out10, ob10, cap10, sp10, cs10, ln10, u, rfl, rfl, hL19, K18, hE16, rfl, hc15, -⟩
 replace h := g10
 try dsimp only at h
 refine zaj (zaf rfl (zag (zai (v := (zO ob10 out10 cap10)) rfl ?_)))
 refine zag (zak (v := (zO ob10 out10 cap10)) rfl ?_)
 refine zan (zbi ?_)
 obtain rfl := zah h
 refine ⟨[(zO ob10 out10 cap10)], zrt, ⟨_, rfl, hL19.done, ?_⟩⟩
 exact ⟨ob10, cap10, cs10, sp10, rfl, (hL19.newOwn [0] rfl rfl rfl), (hE16.mono (zdx [0] rfl)), hc15, trivial⟩
theorem cloneIneq_w (N : Nat) (s : (List Ineq)) (s_v : Value) (w : World) (S : Nat → Prop) (s_h : Rs rIneq (vH w S [] w) s_v s) (r : (List Ineq)) (h : cloneIneq N s = some r) :
  Calls Tryz.prog 128 #[s_v] w (Ret w (fun v w' => ∃ (ob0 : Option Nat) (cap0 : Nat) (cs0 : List Value) (sp0 : List Value), (zO ob0 r cap0) = v ∧ NewOwn w w' [ob0] [zac ([] ++ (cs0 ++ sp0))] ∧ Els rIneq (vH w S [ob0] w') cs0 r ∧ (cs0 ++ sp0).length = cap0 * rIneq.sz ∧ True)) := by
 unfold cloneIneq at h
 have hL : vL w w [] [] := Go.X.Loc.begin0 w
 refine calls_of (l := [s_v]) (rl := [.tmp 2]) (n := 8) Tryz.func128 rfl rfl rfl (zae rfl) ?_
 refine zaj (zaf rfl (zag (zak (v := zN) rfl ?_)))
 refine zan (zaj (zaj (zaf rfl (zag (zai (v := s_v) rfl ?_)))))
 refine zag (OpY.eqlNil (v := s_v) zcn rfl s_h.isSlice rfl (zan ?_))
 refine zcq (isNil s_v) rfl (fun hc1 => ?_) (fun hc1 => ?_)
 ·
  have hnil := (Sl.of_isNil s_h hc1).1
  replace h : some [] = some r := by rw [hnil] at h; simpa [apnd] using h
  refine zaj (zaf rfl (zag (zak (v := zN) rfl (zan ?_))))
  have hp2 := hL.addNil
  have hL3 : vL w w [none] [zac ([] ++ ([] ++ []))] := hp2.1
  have hE6 : Els rIneq (vH w None [none] w) [] [] := zcm
  refine zbi ?_
  obtain rfl := zah h
  refine ⟨[(osv none 0 (List.length ([] : (List Ineq))) 0)], zrt, ⟨_, rfl, hL3.done, ?_⟩⟩
  exact ⟨none, 0, [], [], rfl, (hL3.newOwn [0] rfl rfl rfl), ((hE6.mono Hv.none).mono (zdx [0] rfl)), (show ([] ++ [] : List Value).length = 0 * rIneq.sz by simp), trivial⟩
 refine zbf (zaj (zaf rfl (zag (OpY.litRow0 zcn ti123 hL ?_))))
 intro b7 w10 hL10 hS10
 have hE10 : Els rIneq (vH w None [] w) [] [] := zcm
 have K10 := ks w hS10
 refine zag (zai (v := s_v) rfl ?_)
 obtain ⟨x10, q10, h⟩ := zec h
 obtain ⟨q11, q12, q13⟩ := zeq q10
 have f10 := (s_h.mono (K10 S))
 obtain ⟨ds10, q14, q15⟩ := Rs.src f10
 have f11 := (hE10.mono (K10 None))
 refine zag (zdn (r := rIneq) (H := (vH w S [some b7] w10)) (cs := []) (sp := []) (xs := ([] : (List Ineq))) (ys := s) (Y := x10) (n := (List.length ([] : (List Ineq)))) (cap := 0) (i := 0) zcn ti123 rfl rfl rfl rfl hL10 rfl rfl (f11.mono Hv.none) rfl (show ([] ++ [] : List Value).length = 0 * rIneq.sz by simp) q14 q15 q11 q12 q13 ?_)
 intro ob10 cap10 sp10 cs10 w11 hE11 hc10 (hL11 : vL w w11 [ob10] [zac ([] ++ (cs10 ++ sp10))]) hS11
 have K11 := ks w hS11
 refine zag (zak (v := (zO ob10 x10 cap10)) rfl ?_)
 refine zan (zbi ?_)
 obtain rfl := zah h
 refine ⟨[(zO ob10 x10 cap10)], zrt, ⟨_, rfl, hL11.done, ?_⟩⟩
 have f12 := (hE11.mono (K11 S))
 exact ⟨ob10, cap10, cs10, sp10, rfl, (hL11.newOwn [0] rfl rfl rfl), (f12.mono (zdx [0] rfl)), hc10, trivial⟩
theorem indexIneq_w (N : Nat) (s : (List Ineq)) (f : (Ineq → Option Bool)) (s_v : Value) (f_v : Value) (w : World) (S : Nat → Prop) (s_h : Rs rIneq (vH w S [] w) s_v s) (f_h : ∀ w' : World, Ext w w' → ∀ (xa_ : Ineq) (vaa_ vab_ : Value), Rs rBig (Hv w'.heap.size Any [] w') vaa_ xa_.Coefs → Rs (rInt .u32) (Hv w'.heap.size Any [] w') vab_ xa_.Bound.Digits → ∀ z, f xa_ = some z → FunOk Tryz.prog f_v [(zap #[vaa_, (zab xa_.Bound.Negative), vab_])] w' (fun v w'' => zab z = v ∧ True)) (r : Int) (h : indexIneq N s f = some r) :
  Calls Tryz.prog 158 #[s_v, f_v] w (Ret w (fun v w' => (zI r) = v ∧ True)) := by
 unfold indexIneq at h
 have hL : vL w w [] [] := Go.X.Loc.begin0 w
 refine calls_of (l := [s_v, f_v]) (rl := [.tmp 4]) (n := 19) Tryz.func158 rfl rfl rfl (zae rfl) ?_
 refine zaj (zaf rfl (zag (zak (v := (zI 0)) rfl ?_)))
 refine zan (zaj (zaj (zaf rfl (zag (zai (v := s_v) rfl ?_)))))
 refine zag (zbc (v := s_v) zcn rfl s_h ?_)
 refine zag (zai (v := (zI 0)) rfl (zan ?_))
 obtain ⟨s10, hl10, g10⟩ := zec h
 refine zbs (fun e w' => ∃  (u : Env), (Sum.inl ()) = s10 ∧ e = upds [] u ∧ vL w w' [] [] ∧ Keep w.heap.size [] w [] w' ∧ True) ?_ ?_
 ·
  refine zbb ?_
  refine zcb hl10 (fun (ss : Int) (e : Env) (w' : World) => match ss with | x10 => ∃ (u : Env), e = upds [(0, s_v), (1, f_v), (7, (zI (s.length : Int))), (8, (zI x10))] u ∧ vL w w' [] [] ∧ Keep w.heap.size [] w [] w' ∧ True) ⟨_, (zeg ⟨rfl, rfl, rfl, rfl, trivial⟩), hL, zbq, trivial⟩ ?_
  rintro x10 oo _ w10 ⟨u, rfl, hL10, K10, -⟩ h hd10
  rw [indexIneq_b1] at h
  refine zaj (zaf rfl (zag (zci (x := x10) (y := (s.length : Int)) ((x10 : Int) < (s.length : Int)) rfl rfl zbd ?_)))
  refine zan (zaj ?_)
  refine zba ((x10 : Int) < (s.length : Int)) rfl (fun hc10 => ?_) (fun hc10 => ?_)
  ·
   replace h := ite_t hc10 h
   refine zbf (zaj (zbb (zaj (zaf rfl (zag (zai (v := (zI x10)) rfl ?_))))))
   refine zag (zak (v := (zI x10)) rfl ?_)
   refine zan (zaj (zaf rfl (zag (zai (v := f_v) rfl ?_))))
   refine zag (zai (v := s_v) rfl ?_)
   refine zag (zai (v := (zI x10)) rfl ?_)
   obtain ⟨x11, n10, q11, q12, -, h⟩ := zix h
   have f10 := (s_h.mono (K10 S))
   obtain ⟨b10, o10, c10, vs10, q13, q14, f11, q15⟩ := zcw f10 q12
   obtain ⟨v10, v11, rfl, k10, k11, -⟩ := rIneq_open q15
   refine zag (zbp (r := rIneq) (v := s_v) (n := n10) (m := (o10 + n10 * rIneq.sz)) zcn ti123 rfl q13 rfl q11 q12 rfl ?_)
   refine zag (zdl (vs := [v10, (zab x11.Bound.Negative), v11]) zbl rfl ti123 rfl rfl zek f11 ?_)
   obtain ⟨r10, q16, h⟩ := zec h
   refine zag (OpY.callF rfl rfl (f_h _ hL10.done x11 v10 v11 (k10.mono vw_any) (k11.mono vw_any) r10 q16) ?_)
   rintro _ w11 hE10 ⟨rfl, -⟩
   obtain ⟨hL11, K11⟩ := zl hL10 hE10
   refine zan ?_
   refine zcq r10 rfl (fun hc11 => ?_) (fun hc11 => ?_)
   ·
    replace h := ite_t hc11 h
    refine zaj (zaf rfl (zag (zai (v := (zI x10)) rfl ?_)))
    refine zag (zak (v := (zI x10)) rfl ?_)
    refine zan (zbi ?_)
    obtain rfl := zah h
    obtain rfl := hd10 _ rfl
    replace h := g10
    try dsimp only at h
    obtain rfl := zah h
    refine ⟨[(zI x10)], zrt, ⟨_, rfl, hL11.done, ?_⟩⟩
    exact zrt
   replace h := ite_f hc11 h
   refine zbf (zbn (zaf rfl (zag (zbz (x := x10) (y := 1) (z := (iw (x10 + 1))) rfl rfl rfl ?_))))
   refine zag (zai (v := (zI (iw (x10 + 1)))) rfl (zan ?_))
   obtain rfl := zah h
   refine zaq ⟨(iw (x10 + 1)), rfl, ?_⟩
   exact ⟨_, (zeg ⟨rfl, rfl, rfl, rfl, trivial⟩), hL11, (zao K10 K11), trivial⟩
  replace h := ite_f hc10 h
  refine zck rfl ?_
  obtain rfl := zah h
  obtain rfl := hd10 _ rfl
  replace h := g10
  try dsimp only at h
  refine zaq ?_
  exact ⟨_, rfl, (zeg trivial), hL10, K10, trivial⟩
 rintro _ w12 ⟨u, rfl, rfl, hL12, K12, -⟩
 replace h := g10
 try dsimp only at h
 refine zaj (zaf rfl (zag (zak (v := (zI (-1))) rfl ?_)))
 refine zan (zbi ?_)
 obtain rfl := zah h
 refine ⟨[(zI (-1))], zrt, ⟨_, rfl, hL12.done, ?_⟩⟩
 exact zrt
theorem containsIneq_w (N : Nat) (s : (List Ineq)) (f : (Ineq → Option Bool)) (s_v : Value) (f_v : Value) (w : World) (S : Nat → Prop) (s_h : Rs rIneq (vH w S [] w) s_v s) (f_h : ∀ w' : World, Ext w w' → ∀ (xa_ : Ineq) (vaa_ vab_ : Value), Rs rBig (Hv w'.heap.size Any [] w') vaa_ xa_.Coefs → Rs (rInt .u32) (Hv w'.heap.size Any [] w') vab_ xa_.Bound.Digits → ∀ z, f xa_ = some z → FunOk Tryz.prog f_v [(zap #[vaa_, (zab xa_.Bound.Negative), vab_])] w' (fun v w'' => zab z = v ∧ True)) (r : Bool) (h : containsIneq N s f = some r) :
  Calls Tryz.prog 130 #[s_v, f_v] w (Ret w (fun v w' => (zab r) = v ∧ True)) := by
 unfold containsIneq at h
 have hL : vL w w [] [] := Go.X.Loc.begin0 w
 refine calls_of (l := [s_v, f_v]) (rl := [.tmp 4]) (n := 9) Tryz.func130 rfl rfl rfl (zae rfl) ?_
 refine zaj (zaf rfl (zag (zak (v := zF) rfl ?_)))
 refine zan (zaj (zaf rfl (zag (zai (v := s_v) rfl ?_))))
 refine zag (zai (v := f_v) rfl ?_)
 obtain ⟨r1, q2, h⟩ := zec h
 refine zag (zay en158 rfl rfl (indexIneq_w N s f s_v f_v _ Any (s_h.mono vw_any) (fun w9 hE9 => f_h w9 (hL.done.trans hE9)) r1 q2) ?_)
 rintro _ w4 hE7 ⟨rfl, -⟩
 have hL5 := hL.ext hE7
 refine zag (OpY.geq (x := r1) (y := 0) ((r1 : Int) ≥ 0) rfl rfl zbd ?_)
 refine zag (zak (v := (zab (decide ((r1 : Int) ≥ 0)))) rfl ?_)
 refine zan (zbi ?_)
 obtain rfl := zah h
 refine ⟨[(zab (decide ((r1 : Int) ≥ 0)))], zrt, ⟨_, rfl, hL5.done, ?_⟩⟩
 exact zrt
theorem width1_w (N : Nat) (q : Ineq) (ca : Int) (q_v : Value) (q_v1 : Value) (ca_b : Nat) (w : World) (S : Nat → Prop) (q_h : Rs rBig (vH w S [] w) q_v q.Coefs) (q_h1 : Rs (rInt .u32) (vH w S [] w) q_v1 q.Bound.Digits) (ca_at : At (vH w S [] w) ca_b 0 [(zI ca)]) (r : Bool) (h : width1 N q ca = some r) :
  Calls Tryz.prog 153 #[(zap #[q_v, (zab q.Bound.Negative), q_v1]), (zal (some ⟨ca_b, 0, none⟩))] w (Ret w (fun v w' => (zab r) = v ∧ True)) := by
 unfold width1 at h
 have hL : vL w w [] [] := Go.X.Loc.begin0 w
 refine calls_of (l := [(zap #[q_v, (zab q.Bound.Negative), q_v1]), (zal (some ⟨ca_b, 0, none⟩))]) (rl := [.tmp 3]) (n := 9) Tryz.func153 rfl rfl rfl (zae rfl) ?_
 refine zaj (zaf rfl (zag (zdj (cs := [q_v, (zab q.Bound.Negative), q_v1]) rfl rfl hL ?_)))
 intro b1 w2 hL3 hS5
 have K4 := ks w hS5
 refine zag (zak (v := zF) rfl ?_)
 refine zan (zaj (zaf rfl (zag (zam (q := 0) zbl rfl ti51 rfl rfl rfl ?_))))
 refine zag (zau (v := q_v) zbh rfl rfl (hL3.at 0 rfl rfl) rfl ?_)
 have f6 := (q_h.mono (K4 S))
 refine zag (zbc (v := q_v) zbh rfl f6 ?_)
 have f7 := (zda (K4 S) ca_at)
 refine zag (zca (v := (zI ca)) zax rfl rfl zek f7 ?_)
 refine zag (OpY.neq (x := (q.Coefs.length : Int)) (y := ca) (((q.Coefs.length : Int) : Int) ≠ ca) rfl rfl zbd ?_)
 refine zag (zak (v := (zab (decide (((q.Coefs.length : Int) : Int) ≠ ca)))) rfl ?_)
 refine zan (zbi ?_)
 obtain rfl := zah h
 refine ⟨[(zab (decide (((q.Coefs.length : Int) : Int) ≠ ca)))], zrt, ⟨_, rfl, hL3.done, ?_⟩⟩
 exact zrt
theorem cwidth_w (N : Nat) (l : (List Ineq)) (l_v : Value) (w : World) (S : Nat → Prop) (l_h : Rs rIneq (vH w S [] w) l_v l) (r : (Int × Bool)) (h : cwidth N l = some r) :
  Calls Tryz.prog 127 #[l_v] w (Ret w (fun v w' => .tuple #[(zI r.1), (zab r.2)] = v ∧ True)) := by
 unfold cwidth at h
 have hL : vL w w [] [] := Go.X.Loc.begin0 w
 refine calls_of (l := [l_v]) (rl := [.tmp 2, .tmp 3]) (n := 18) Tryz.func127 rfl rfl rfl (zae rfl) ?_
 refine zaj (zaf rfl (zag (zak (v := (zI 0)) rfl ?_)))
 refine zag (zak (v := zF) rfl ?_)
 refine zan (zaj (zaj (zaf rfl (zag (zai (v := l_v) rfl ?_)))))
 refine zag (zbc (v := l_v) zcn rfl l_h ?_)
 refine zag (zdp (x := (l.length : Int)) (y := 0) (((l.length : Int) : Int) = 0) rfl rfl zbd (zan ?_))
 refine zba (((l.length : Int) : Int) = 0) rfl (fun hc1 => ?_) (fun hc1 => ?_)
 ·
  replace h := ite_t hc1 h
  refine zaj (zaf rfl (zag (zak (v := (zI 0)) rfl ?_)))
  refine zag (zak (v := zT) rfl ?_)
  refine zan (zbi ?_)
  obtain rfl := zah h
  refine ⟨[(zI 0), zT], ⟨rfl, rfl, trivial⟩, ⟨_, rfl, hL.done, ?_⟩⟩
  exact zrt
 replace h := ite_f hc1 h
 refine zbf (zaj (zaf rfl (zag (zai (v := l_v) rfl ?_))))
 obtain ⟨x2, n4, q5, q6, -, h⟩ := zix h
 obtain ⟨b7, o8, c9, vs10, q10, q11, f10, q12⟩ := zcw l_h q6
 obtain ⟨v10, v11, rfl, k10, k11, -⟩ := rIneq_open q12
 refine zag (zbp (r := rIneq) (v := l_v) (n := n4) (m := (o8 + n4 * rIneq.sz)) zcn ti123 rfl q10 rfl q5 q6 rfl ?_)
 have f11 := (f10.part (us := [v10]) 0 rfl)
 refine zag (zam (q := (o8 + n4 * rIneq.sz) + 0) zbl rfl ti51 rfl rfl rfl ?_)
 refine zag (zca (v := v10) zbh rfl rfl zek f11 ?_)
 refine zag (zbc (v := v10) zbh rfl k10 ?_)
 refine zag (zbw (cs := [(zI 0)]) ti3 rfl hL ?_)
 intro b10 w10 hL10 hS10
 have K10 := ks w hS10
 refine zcf (zbo (vs := [(zI (x2.Coefs.length : Int))]) ti3 rfl rfl rfl rfl (zee rfl zej) hL10 0 rfl rfl (zae rfl) ?_)
 intro w11 (hL11 : vL w w11 [some b10] [zac [(zI (x2.Coefs.length : Int))]]) hS11
 have K11 := ks w hS11
 refine zan (zaj ?_)
 obtain ⟨r10, q13, h⟩ := zec h
 refine zcj 6 [] [] (fun W1 => [.det (zI (x2.Coefs.length : Int)), .det l_v, .det (Value.func (.func 153) #[] #[(zal (some ⟨b10, 0, none⟩))]), .det (zab r10), .det (zab (!r10)), .det (zI (x2.Coefs.length : Int))]) mixed rfl rfl rfl (fun _ => rfl) (fun _ => rfl) ?_ ?_
 ·
  intro W1 _
  exact trivial
 intro w12 hE10
 obtain ⟨hL12, K12⟩ := zl hL11 hE10
 refine zat (fun _ hE11 => zaw (zau zax rfl rfl ((hL12.ext hE11).at 0 rfl rfl) rfl (er rfl))) ?_
 refine zat (fun _ _ => zaw (zai rfl (er rfl))) ?_
 refine zat (fun _ _ => zaw (OpY.makeFunc (vs := [(zal (some ⟨b10, 0, none⟩))]) rfl (er rfl))) ?_
 refine DrH.det ?_ ?_
 ·
  rintro w16 Z23 hE14 hZ13 ⟨-⟩
  obtain ⟨hL14, K13⟩ := zl hL12 hE14
  refine zaw (zay en130 rfl rfl (containsIneq_w N l (fun y10 => width1 N y10 (x2.Coefs.length : Int)) l_v (Value.func (.func 153) #[] #[(zal (some ⟨b10, 0, none⟩))]) _ Any (((((l_h.mono (K10 S)).mono (K11 S)).mono (K12 S)).mono (K13 S)).mono vw_any) (fun w9 hE9 y11 v12 v13 k12 k13 z9 hz9 => ⟨153, [(zal (some ⟨b10, 0, none⟩))], rfl, en153, (width1_w N y11 (x2.Coefs.length : Int) v12 v13 b10 _ Any (k12.mono vw_any) (k13.mono vw_any) (own_any ((hL14.at 0 rfl rfl).ext hE9)) z9 hz9)⟩) r10 q13) ?_)
  rintro _ w17 hE15 ⟨rfl, -⟩
  exact ⟨hE15, rfl⟩
 refine zat (fun _ _ => zaw (zeb rfl (er rfl))) ?_
 refine zat (fun _ _ => zaw (zak rfl (er rfl))) ?_
 refine zcx ?_
 rintro w20 Z26 hE18 hZ16 ⟨-⟩ ap10
 have hB10 := @zhb w12 Z26
 have hL15 := hL12.ext hE18
 refine zag (zak (v := (zab (!r10))) rfl ?_)
 refine zan (zbi ?_)
 obtain rfl := zah h
 refine ⟨[(zI (x2.Coefs.length : Int)), (zab (!r10))], ⟨rfl, rfl, trivial⟩, ⟨_, rfl, hL15.done, ?_⟩⟩
 exact zrt
theorem cApply_w (N : Nat) (l : (List Ineq)) (s : Step) (l_v : Value) (s_v : Value) (s_v1 : Value) (w : World) (S : Nat → Prop) (l_h : Rs rIneq (vH w S [] w) l_v l) (s_h : Rs rUse (vH w S [] w) s_v s.Uses) (s_h1 : Rs (rInt .u32) (vH w S [] w) s_v1 s.Divisor.Digits) (r : (Ineq × Bool)) (h : cApply N l s = some r) :
  Calls Tryz.prog 129 #[l_v, (zap #[s_v, (zab s.Divisor.Negative), s_v1])] w (Ret w (fun v w' => ∃ (v0_0 : Value) (v0_1 : Value), .tuple #[(zap #[v0_0, (zab r.1.Bound.Negative), v0_1]), (zab r.2)] = v ∧ Rs rBig (vH w None [] w') v0_0 r.1.Coefs ∧ Rs (rInt .u32) (vH w None [] w') v0_1 r.1.Bound.Digits ∧ True)) := by
 unfold cApply at h
 have hL : vL w w [] [] := Go.X.Loc.begin0 w
 refine calls_of (l := [l_v, (zap #[s_v, (zab s.Divisor.Negative), s_v1])]) (rl := [.cell 4 123, .tmp 5]) (n := 135) Tryz.func129 rfl rfl rfl (zae rfl) ?_
 refine zaj (zaf rfl (zag (zdj (cs := [s_v, (zab s.Divisor.Negative), s_v1]) rfl rfl hL ?_)))
 intro b1 w2 hL3 hS5
 have K4 := ks w hS5
 refine zag (zbw (cs := [zN, zF, zN]) ti123 rfl hL3 ?_)
 intro b6 w7 hL8 hS10
 have K9 := ks w hS10
 refine zag (zak (v := zF) rfl ?_)
 refine zan (zaj (zaf rfl (zag (zai (v := l_v) rfl ?_))))
 obtain ⟨r10, q10, h⟩ := zec h
 have f10 := ((l_h.mono (K4 S)).mono (K9 S))
 refine zag (zay en127 rfl rfl (cwidth_w N l l_v _ Any (f10.mono vw_any) r10 q10) ?_)
 rintro _ w10 hE10 ⟨rfl, -⟩
 obtain ⟨hL10, K10⟩ := zl hL8 hE10
 refine zag (zai (v := (Value.tuple #[(zI r10.1), (zab r10.2)])) rfl ?_)
 refine zag (zdb (vs := [(zI r10.1), (zab r10.2)]) (v := (zI r10.1)) rfl rfl ?_)
 refine zag (zdb (vs := [(zI r10.1), (zab r10.2)]) (v := (zab r10.2)) rfl rfl ?_)
 refine zag (zak (v := (zI r10.1)) rfl ?_)
 refine zag (zak (v := (zab r10.2)) rfl ?_)
 refine zan (zaj (zaj ?_))
 obtain ⟨s10, h, g10⟩ := zec h
 refine zbs (fun e w' => ∃ (x10 : Bool) (u : Env), x10 = s10 ∧ e = upds [(0, l_v), (3, (zal (some ⟨b1, 0, none⟩))), (4, (zal (some ⟨b6, 0, none⟩))), (6, (zI r10.1)), (31, (zab x10))] u ∧ vL w w' [some b1, some b6] [zac [s_v, (zab s.Divisor.Negative), s_v1], zac [zN, zF, zN]] ∧ Keep w.heap.size [some b6, some b1] w10 [some b1, some b6] w' ∧ True) ?_ ?_
 ·
  refine zaf rfl (zag (zai (v := (zab r10.2)) rfl ?_))
  refine zag (zeb (x := r10.2) rfl ?_)
  refine zag (zai (v := (zab (!r10.2))) rfl ?_)
  by_cases hc10 : (!r10.2) = true
  ·
   replace h := ite_t hc10 h
   refine zcl rfl rfl hc10 ?_
   refine zcl rfl rfl hc10 ?_
   refine zcl rfl rfl hc10 ?_
   refine zcl rfl rfl hc10 ?_
   refine zag (zce (t := (!r10.2)) (v := zT) rfl hc10 rfl (zan ?_))
   have hp10 := hL10.pick [1, 0] rfl rfl rfl
   have hL11 : vL w w10 [some b1, some b6] [zac [s_v, (zab s.Divisor.Negative), s_v1], zac [zN, zF, zN]] := hp10.1
   have K11 := ks w hp10.2
   obtain rfl := zah h
   refine zaq ?_
   exact ⟨true, _, rfl, (zeg ⟨rfl, rfl, rfl, rfl, rfl, trivial⟩), hL11, K11, trivial⟩
  replace h := ite_f hc10 h
  refine zbt rfl rfl (zeh hc10) (zam (q := 1) zdg rfl ti57 rfl rfl rfl ?_)
  refine zbt rfl rfl (zeh hc10) (zbj (vs := [(zab s.Divisor.Negative), s_v1]) zar rfl ti57 rfl (hL10.at 1 rfl rfl) rfl rfl ?_)
  obtain ⟨r11, q11, h⟩ := zec h
  have f11 := (((s_h1.mono (K4 S)).mono (K9 S)).mono (K10 S))
  refine zbt rfl rfl (zeh hc10) (zay en154 rfl rfl (bSign_w N s.Divisor s_v1 _ Any (f11.mono vw_any) r11 q11) ?_)
  rintro _ w11 hE11 ⟨rfl, -⟩
  obtain ⟨hL12, K12⟩ := zl hL10 hE11
  refine zbt rfl rfl (zeh hc10) (zci (x := r11) (y := 1) ((r11 : Int) < 1) rfl rfl zbd ?_)
  refine zag (zcv (t := (!r10.2)) (v := (zab (decide ((r11 : Int) < 1)))) rfl (zeh hc10) rfl (zan ?_))
  have hp11 := hL12.pick [1, 0] rfl rfl rfl
  have hL13 : vL w w11 [some b1, some b6] [zac [s_v, (zab s.Divisor.Negative), s_v1], zac [zN, zF, zN]] := hp11.1
  have K13 := ks w hp11.2
  obtain rfl := zah h
  refine zaq ?_
  exact ⟨(decide ((r11 : Int) < 1)), _, rfl, (zeg ⟨rfl, rfl, rfl, rfl, rfl, trivial⟩), hL13, (zao K12 K13), trivial⟩
 rintro _ w12 ⟨x10, u, rfl, rfl, hL14, K14, -⟩
 replace h := g10
 try dsimp only at h
 refine zcq x10 rfl (fun hc11 => ?_) (fun hc11 => ?_)
 ·
  replace h := ite_t hc11 h
  refine zaj (zaf rfl (zag (zcc (zc := [zN, zF, zN]) (cs := [zN, zF, zN]) (is := []) (vs := []) (css := []) pl123 ti123 rfl rfl rfl trivial rfl ?_)))
  refine zcf (zbo (vs := [zN, zF, zN]) ti123 rfl rfl rfl rfl (zee rfl (zee rfl (zee rfl zej))) hL14 1 rfl rfl (zae rfl) ?_)
  intro w13 (hL15 : vL w w13 [some b1, some b6] [zac [s_v, (zab s.Divisor.Negative), s_v1], zac [zN, zF, zN]]) hS11
  refine zag (zak (v := zF) rfl ?_)
  refine zan (zbi ?_)
  obtain rfl := zah h
  refine ⟨[(zap #[zN, zF, zN]), zF], ⟨⟨⟨b6, 0, none⟩, rfl, zeo zbl rfl ti123 (hL15.at 1 rfl rfl) rfl⟩, zrt⟩, ⟨_, rfl, hL15.done, ?_⟩⟩
  exact ⟨zN, zN, rfl, zdk, zdk, trivial⟩
 replace h := ite_f hc11 h
 refine zbf (zaj (zaf rfl (zag (zai (v := (zI r10.1)) rfl ?_))))
 obtain ⟨x11, q12, h⟩ := zec h
 obtain ⟨m10, q13, q14, q15, q16⟩ := mk1_some q12
 refine zag (OpY.mkRowX (r := rBig) (H := (vH w None [some b1, some b6] w12)) (zc := [zF, zN]) (x := (Big.mk false [])) zbh ti57 rfl (rBig_close ⟨zN, rfl, zdk, trivial⟩) rfl rfl q13 q14 q15 q16 hL14 ?_)
 intro b10 w14 cs10 hE12 hc12 hL16 hS12
 have K15 := ks w hS12
 refine zag (zcc (zc := [zN, zF, zN]) (cs := [(zO (some b10) x11 m10), zF, zN]) (is := [0]) (vs := [(zO (some b10) x11 m10)]) (css := [[(zO (some b10) x11 m10)]]) pl123 ti123 rfl rfl rfl ⟨(zen (zem (some b10) 0 x11.length m10)), trivial⟩ rfl ?_)
 refine zag (zbw (cs := [zN, zF, zN]) ti123 rfl hL16 ?_)
 intro b11 w15 hL17 hS13
 have K16 := ks w hS13
 refine zcf (zbo (vs := [(zO (some b10) x11 m10), zF, zN]) ti123 rfl rfl rfl rfl (zee (zem (some b10) 0 x11.length m10) (zee rfl (zee rfl zej))) hL17 0 rfl rfl (zae rfl) ?_)
 intro w16 (hL18 : vL w w16 [some b11, some b10, some b1, some b6] [zac [(zO (some b10) x11 m10), zF, zN], zac ([] ++ (cs10 ++ [])), zac [s_v, (zab s.Divisor.Negative), s_v1], zac [zN, zF, zN]]) hS14
 have K17 := ks w hS14
 refine zan (zaj (zaj (zaf rfl (zag (zam (q := 0) zdg rfl ti95 rfl rfl rfl ?_)))))
 refine zag (zau (v := s_v) zde rfl rfl (hL18.at 2 rfl rfl) rfl ?_)
 have f12 := (((((((s_h.mono (K4 S)).mono (K9 S)).mono (K10 S)).mono (K14 S)).mono (K15 S)).mono (K16 S)).mono (K17 S))
 refine zag (zbc (v := s_v) zde rfl f12 ?_)
 refine zag (zai (v := (zI 0)) rfl (zan ?_))
 obtain ⟨s11, hl10, g11⟩ := zec h
 refine zbs (fun e w' => ∃ (coefs10 : (List Big)) (negative10 : Bool) (digits10 : (List Int)) (cs11 : List Value) (v10 : Value) (u : Env), (Sum.inl (coefs10, negative10, digits10)) = s11 ∧ e = upds [(3, (zal (some ⟨b1, 0, none⟩))), (4, (zal (some ⟨b6, 0, none⟩))), (8, (zal (some ⟨b11, 0, none⟩)))] u ∧ vL w w' [some b1, some b6, some b11, some b10] [zac [s_v, (zab s.Divisor.Negative), s_v1], zac [zN, zF, zN], zac [(zO (some b10) x11 m10), (zab negative10), v10], zac ([] ++ (cs11 ++ []))] ∧ Keep w.heap.size [some b11, some b10, some b1, some b6] w16 [some b1, some b6, some b11, some b10] w' ∧ Els rBig (vH w None [some b1, some b6, some b11, some b10] w') cs11 coefs10 ∧ x11.length = List.length coefs10 ∧ (cs11 ++ []).length = m10 * rBig.sz ∧ Rs (rInt .u32) (vH w None [some b1, some b6, some b11, some b10] w') v10 digits10 ∧ True) ?_ ?_
 ·
  refine zbb ?_
  have hp12 := hL18.pick [2, 3, 0, 1] rfl rfl rfl
  have hL19 : vL w w16 [some b1, some b6, some b11, some b10] [zac [s_v, (zab s.Divisor.Negative), s_v1], zac [zN, zF, zN], zac [(zO (some b10) x11 m10), zF, zN], zac ([] ++ (cs10 ++ []))] := hp12.1
  have K18 := ks w hp12.2
  have f13 := ((((hE12.mono (K15 None)).mono (K16 None)).mono (K17 None)).mono (K18 None))
  refine zcb hl10 (fun (ss : ((List Big) × Bool × (List Int) × Int)) (e : Env) (w' : World) => match ss with | (coefs11, negative11, digits11, x12) => ∃ (cs12 : List Value) (v11 : Value) (u : Env), e = upds [(0, l_v), (3, (zal (some ⟨b1, 0, none⟩))), (4, (zal (some ⟨b6, 0, none⟩))), (8, (zal (some ⟨b11, 0, none⟩))), (37, s_v), (38, (zI (s.Uses.length : Int))), (39, (zI x12))] u ∧ vL w w' [some b1, some b6, some b11, some b10] [zac [s_v, (zab s.Divisor.Negative), s_v1], zac [zN, zF, zN], zac [(zO (some b10) x11 m10), (zab negative11), v11], zac ([] ++ (cs12 ++ []))] ∧ Keep w.heap.size [some b11, some b10, some b1, some b6] w16 [some b1, some b6, some b11, some b10] w' ∧ Els rBig (vH w None [some b1, some b6, some b11, some b10] w') cs12 coefs11 ∧ x11.length = List.length coefs11 ∧ (cs12 ++ []).length = m10 * rBig.sz ∧ Rs (rInt .u32) (vH w None [some b1, some b6, some b11, some b10] w') v11 digits11 ∧ True) ⟨cs10, zN, _, (zeg ⟨rfl, rfl, rfl, rfl, rfl, rfl, rfl, trivial⟩), hL19, K18, f13, rfl, hc12, zdk, trivial⟩ ?_
  rintro ⟨coefs11, negative11, digits11, x12⟩ oo _ w17 ⟨cs12, v11, u, rfl, hL20, K19, hE13, hl11, hc13, k10, -⟩ h hd10
  rw [cApply_b1] at h
  refine zaj (zaf rfl (zag (zci (x := x12) (y := (s.Uses.length : Int)) ((x12 : Int) < (s.Uses.length : Int)) rfl rfl zbd ?_)))
  refine zan (zaj ?_)
  refine zba ((x12 : Int) < (s.Uses.length : Int)) rfl (fun hc14 => ?_) (fun hc14 => ?_)
  ·
   replace h := ite_t hc14 h
   refine zbf (zaj (zbb (zaj (zaf rfl ?_))))
   obtain ⟨x13, n10, q18, q19, -, h⟩ := zix h
   have f14 := (f12.mono (K19 S))
   obtain ⟨b12, o10, c10, vs10, q20, q21, f15, q22⟩ := zcw f14 q19
   obtain ⟨v12, rfl, k11, -⟩ := rUse_open q22
   refine zag (zbp (r := rUse) (v := s_v) (n := n10) (m := (o10 + n10 * rUse.sz)) zde ti94 rfl q20 rfl q18 q19 rfl ?_)
   refine zag (zdl (vs := [(zI x13.Index), (zab x13.N.Negative), v12]) zds rfl ti94 rfl rfl zek f15 ?_)
   refine zag (zbw (cs := [(zI 0), zF, zN]) ti94 rfl hL20 ?_)
   intro b13 w18 hL21 hS15
   have K20 := ks w hS15
   have f16 := (k11.mono (K20 S))
   refine zcf (zbo (vs := [(zI x13.Index), (zab x13.N.Negative), v12]) ti94 rfl rfl rfl rfl (zee rfl (zee rfl (zee f16.one zej))) hL21 0 rfl rfl (zae rfl) ?_)
   intro w19 (hL22 : vL w w19 [some b13, some b1, some b6, some b11, some b10] [zac [(zI x13.Index), (zab x13.N.Negative), v12], zac [s_v, (zab s.Divisor.Negative), s_v1], zac [zN, zF, zN], zac [(zO (some b10) x11 m10), (zab negative11), v11], zac ([] ++ (cs12 ++ []))]) hS16
   have K21 := ks w hS16
   refine zan (zaj (zaj ?_))
   obtain ⟨s12, h, g12⟩ := zec h
   refine zbs (fun e w' => ∃ (x14 : Bool) (u : Env), x14 = s12 ∧ e = upds [(0, l_v), (3, (zal (some ⟨b1, 0, none⟩))), (4, (zal (some ⟨b6, 0, none⟩))), (8, (zal (some ⟨b11, 0, none⟩))), (10, (zal (some ⟨b13, 0, none⟩))), (37, s_v), (38, (zI (s.Uses.length : Int))), (39, (zI x12)), (58, (zab x14))] u ∧ vL w w' [some b1, some b6, some b11, some b10, some b13] [zac [s_v, (zab s.Divisor.Negative), s_v1], zac [zN, zF, zN], zac [(zO (some b10) x11 m10), (zab negative11), v11], zac ([] ++ (cs12 ++ [])), zac [(zI x13.Index), (zab x13.N.Negative), v12]] ∧ Keep w.heap.size [some b13, some b1, some b6, some b11, some b10] w19 [some b1, some b6, some b11, some b10, some b13] w' ∧ True) ?_ ?_
   ·
    refine zaf rfl (zag (zam (q := 0) zds rfl ti3 rfl rfl rfl ?_))
    refine zag (zau (v := (zI x13.Index)) zax rfl rfl (hL22.at 0 rfl rfl) rfl ?_)
    refine zag (zci (x := x13.Index) (y := 0) ((x13.Index : Int) < 0) rfl rfl zbd ?_)
    refine zag (zai (v := (zab (decide ((x13.Index : Int) < 0)))) rfl ?_)
    by_cases hc15 : (x13.Index : Int) < 0
    ·
     replace h := ite_t hc15 h
     refine zcl rfl rfl (zef hc15) (zcl rfl rfl (zef hc15) (zcl rfl rfl (zef hc15) (zcl rfl rfl (zef hc15) (zcl rfl rfl (zef hc15) ?_))))
     refine zag (zce (t := (decide ((x13.Index : Int) < 0))) (v := zT) rfl (zef hc15) rfl ?_)
     refine zag (zai (v := zT) rfl ?_)
     refine zcl rfl rfl rfl (zcl rfl rfl rfl (zcl rfl rfl rfl (zcl rfl rfl rfl ?_)))
     refine zag (zce (t := true) (v := zT) rfl rfl rfl (zan ?_))
     have hp13 := hL22.pick [1, 2, 3, 4, 0] rfl rfl rfl
     have hL23 : vL w w19 [some b1, some b6, some b11, some b10, some b13] [zac [s_v, (zab s.Divisor.Negative), s_v1], zac [zN, zF, zN], zac [(zO (some b10) x11 m10), (zab negative11), v11], zac ([] ++ (cs12 ++ [])), zac [(zI x13.Index), (zab x13.N.Negative), v12]] := hp13.1
     have K22 := ks w hp13.2
     obtain rfl := zah h
     refine zaq ?_
     exact ⟨true, _, rfl, (zeg ⟨rfl, rfl, rfl, rfl, rfl, rfl, rfl, rfl, rfl, trivial⟩), hL23, K22, trivial⟩
    replace h := ite_f hc15 h
    refine zbt rfl rfl (zed hc15) (zam (q := 0) zds rfl ti3 rfl rfl rfl ?_)
    refine zbt rfl rfl (zed hc15) (zau (v := (zI x13.Index)) zax rfl rfl (hL22.at 0 rfl rfl) rfl ?_)
    refine zbt rfl rfl (zed hc15) (zai (v := l_v) rfl ?_)
    have f17 := ((((((((f10.mono (K10 S)).mono (K14 S)).mono (K15 S)).mono (K16 S)).mono (K17 S)).mono (K19 S)).mono (K20 S)).mono (K21 S))
    refine zbt rfl rfl (zed hc15) (zbc (v := l_v) zcn rfl f17 ?_)
    refine zbt rfl rfl (zed hc15) (OpY.geq (x := x13.Index) (y := (l.length : Int)) ((x13.Index : Int) ≥ (l.length : Int)) rfl rfl zbd ?_)
    refine zag (zcv (t := (decide ((x13.Index : Int) < 0))) (v := (zab (decide ((x13.Index : Int) ≥ (l.length : Int))))) rfl (zed hc15) rfl ?_)
    refine zag (zai (v := (zab (decide ((x13.Index : Int) ≥ (l.length : Int))))) rfl ?_)
    by_cases hc16 : (x13.Index : Int) ≥ (l.length : Int)
    ·
     replace h := ite_t hc16 h
     refine zcl rfl rfl (zef hc16) (zcl rfl rfl (zef hc16) (zcl rfl rfl (zef hc16) (zcl rfl rfl (zef hc16) ?_)))
     refine zag (zce (t := (decide ((x13.Index : Int) ≥ (l.length : Int)))) (v := zT) rfl (zef hc16) rfl (zan ?_))
     have hp14 := hL22.pick [1, 2, 3, 4, 0] rfl rfl rfl
     have hL24 : vL w w19 [some b1, some b6, some b11, some b10, some b13] [zac [s_v, (zab s.Divisor.Negative), s_v1], zac [zN, zF, zN], zac [(zO (some b10) x11 m10), (zab negative11), v11], zac ([] ++ (cs12 ++ [])), zac [(zI x13.Index), (zab x13.N.Negative), v12]] := hp14.1
     have K23 := ks w hp14.2
     obtain rfl := zah h
     refine zaq ?_
     exact ⟨true, _, rfl, (zeg ⟨rfl, rfl, rfl, rfl, rfl, rfl, rfl, rfl, rfl, trivial⟩), hL24, K23, trivial⟩
    replace h := ite_f hc16 h
    refine zbt rfl rfl (zed hc16) (zam (q := 1) zds rfl ti57 rfl rfl rfl ?_)
    refine zbt rfl rfl (zed hc16) (zbj (vs := [(zab x13.N.Negative), v12]) zar rfl ti57 rfl (hL22.at 0 rfl rfl) rfl rfl ?_)
    obtain ⟨r12, q23, h⟩ := zec h
    have f18 := (f16.mono (K21 S))
    refine zbt rfl rfl (zed hc16) (zay en154 rfl rfl (bSign_w N x13.N v12 _ Any (f18.mono vw_any) r12 q23) ?_)
    rintro _ w20 hE14 ⟨rfl, -⟩
    obtain ⟨hL25, K24⟩ := zl hL22 hE14
    refine zbt rfl rfl (zed hc16) (zci (x := r12) (y := 0) ((r12 : Int) < 0) rfl rfl zbd ?_)
    refine zag (zcv (t := (decide ((x13.Index : Int) ≥ (l.length : Int)))) (v := (zab (decide ((r12 : Int) < 0)))) rfl (zed hc16) rfl (zan ?_))
    have hp15 := hL25.pick [1, 2, 3, 4, 0] rfl rfl rfl
    have hL26 : vL w w20 [some b1, some b6, some b11, some b10, some b13] [zac [s_v, (zab s.Divisor.Negative), s_v1], zac [zN, zF, zN], zac [(zO (some b10) x11 m10), (zab negative11), v11], zac ([] ++ (cs12 ++ [])), zac [(zI x13.Index), (zab x13.N.Negative), v12]] := hp15.1
    have K25 := ks w hp15.2
    obtain rfl := zah h
    refine zaq ?_
    exact ⟨(decide ((r12 : Int) < 0)), _, rfl, (zeg ⟨rfl, rfl, rfl, rfl, rfl, rfl, rfl, rfl, rfl, trivial⟩), hL26, (zao K24 K25), trivial⟩
   rintro _ w21 ⟨x14, u, rfl, rfl, hL27, K26, -⟩
   replace h := g12
   try dsimp only at h
   refine zcq x14 rfl (fun hc17 => ?_) (fun hc17 => ?_)
   ·
    replace h := ite_t hc17 h
    refine zaj (zaf rfl (zag (zcc (zc := [zN, zF, zN]) (cs := [zN, zF, zN]) (is := []) (vs := []) (css := []) pl123 ti123 rfl rfl rfl trivial rfl ?_)))
    refine zcf (zbo (vs := [zN, zF, zN]) ti123 rfl rfl rfl rfl (zee rfl (zee rfl (zee rfl zej))) hL27 1 rfl rfl (zae rfl) ?_)
    intro w22 (hL28 : vL w w22 [some b1, some b6, some b11, some b10, some b13] [zac [s_v, (zab s.Divisor.Negative), s_v1], zac [zN, zF, zN], zac [(zO (some b10) x11 m10), (zab negative11), v11], zac ([] ++ (cs12 ++ [])), zac [(zI x13.Index), (zab x13.N.Negative), v12]]) hS17
    refine zag (zak (v := zF) rfl ?_)
    refine zan (zbi ?_)
    obtain rfl := zah h
    obtain rfl := hd10 _ rfl
    replace h := g11
    try dsimp only at h
    obtain rfl := zah h
    refine ⟨[(zap #[zN, zF, zN]), zF], ⟨⟨⟨b6, 0, none⟩, rfl, zeo zbl rfl ti123 (hL28.at 1 rfl rfl) rfl⟩, zrt⟩, ⟨_, rfl, hL28.done, ?_⟩⟩
    exact ⟨zN, zN, rfl, zdk, zdk, trivial⟩
   replace h := ite_f hc17 h
   refine zbf (zaj (zaf rfl (zag (zai (v := l_v) rfl ?_))))
   refine zag (zam (q := 0) zds rfl ti3 rfl rfl rfl ?_)
   refine zag (zau (v := (zI x13.Index)) zax rfl rfl (hL27.at 4 rfl rfl) rfl ?_)
   obtain ⟨x15, n11, q25, q26, -, h⟩ := zix h
   have f19 := (((((((((f10.mono (K10 S)).mono (K14 S)).mono (K15 S)).mono (K16 S)).mono (K17 S)).mono (K19 S)).mono (K20 S)).mono (K21 S)).mono (K26 S))
   obtain ⟨b14, o11, c11, vs11, q27, q28, f20, q29⟩ := zcw f19 q26
   obtain ⟨v13, v14, rfl, k12, k13, -⟩ := rIneq_open q29
   refine zag (zbp (r := rIneq) (v := l_v) (n := n11) (m := (o11 + n11 * rIneq.sz)) zcn ti123 rfl q27 rfl q25 q26 rfl ?_)
   refine zag (zdl (vs := [v13, (zab x15.Bound.Negative), v14]) zbl rfl ti123 rfl rfl zek f20 ?_)
   refine zag (zbw (cs := [zN, zF, zN]) ti123 rfl hL27 ?_)
   intro b15 w23 hL29 hS18
   have K27 := ks w hS18
   have f21 := (k13.mono (K27 S))
   have f22 := (k12.mono (K27 S))
   refine zcf (zbo (vs := [v13, (zab x15.Bound.Negative), v14]) ti123 rfl rfl rfl rfl (zee f22.one (zee rfl (zee f21.one zej))) hL29 0 rfl rfl (zae rfl) ?_)
   intro w24 (hL30 : vL w w24 [some b15, some b1, some b6, some b11, some b10, some b13] [zac [v13, (zab x15.Bound.Negative), v14], zac [s_v, (zab s.Divisor.Negative), s_v1], zac [zN, zF, zN], zac [(zO (some b10) x11 m10), (zab negative11), v11], zac ([] ++ (cs12 ++ [])), zac [(zI x13.Index), (zab x13.N.Negative), v12]]) hS19
   have K28 := ks w hS19
   refine zan (zaj (zaj (zaf rfl (zag (zam (q := 0) zbl rfl ti51 rfl rfl rfl ?_)))))
   refine zag (zau (v := v13) zbh rfl rfl (hL30.at 0 rfl rfl) rfl ?_)
   have f23 := (f22.mono (K28 S))
   refine zag (zbc (v := v13) zbh rfl f23 ?_)
   refine zag (zai (v := (zI 0)) rfl (zan ?_))
   obtain ⟨s13, hl12, g13⟩ := zec h
   refine zbs (fun e w' => ∃ (coefs12 : (List Big)) (cs13 : List Value) (u : Env), coefs12 = s13 ∧ e = upds [(0, l_v), (3, (zal (some ⟨b1, 0, none⟩))), (4, (zal (some ⟨b6, 0, none⟩))), (8, (zal (some ⟨b11, 0, none⟩))), (10, (zal (some ⟨b13, 0, none⟩))), (11, (zal (some ⟨b15, 0, none⟩))), (37, s_v), (38, (zI (s.Uses.length : Int))), (39, (zI x12))] u ∧ vL w w' [some b1, some b6, some b11, some b10, some b13, some b15] [zac [s_v, (zab s.Divisor.Negative), s_v1], zac [zN, zF, zN], zac [(zO (some b10) x11 m10), (zab negative11), v11], zac ([] ++ (cs13 ++ [])), zac [(zI x13.Index), (zab x13.N.Negative), v12], zac [v13, (zab x15.Bound.Negative), v14]] ∧ Keep w.heap.size [some b15, some b1, some b6, some b11, some b10, some b13] w24 [some b1, some b6, some b11, some b10, some b13, some b15] w' ∧ Els rBig (vH w None [some b1, some b6, some b11, some b10, some b13, some b15] w') cs13 coefs12 ∧ x11.length = List.length coefs12 ∧ (cs13 ++ []).length = m10 * rBig.sz ∧ True) ?_ ?_
   ·
    refine zbb ?_
    have hp16 := hL30.pick [1, 2, 3, 4, 5, 0] rfl rfl rfl
    have hL31 : vL w w24 [some b1, some b6, some b11, some b10, some b13, some b15] [zac [s_v, (zab s.Divisor.Negative), s_v1], zac [zN, zF, zN], zac [(zO (some b10) x11 m10), (zab negative11), v11], zac ([] ++ (cs12 ++ [])), zac [(zI x13.Index), (zab x13.N.Negative), v12], zac [v13, (zab x15.Bound.Negative), v14]] := hp16.1
    have K29 := ks w hp16.2
    have f24 := ((((((hE13.mono (K20 None)).mono (K21 None)).mono (K26 None)).mono (K27 None)).mono (K28 None)).mono (K29 None))
    refine zcb hl12 (fun (ss : ((List Big) × Int)) (e : Env) (w' : World) => match ss with | (coefs13, x16) => ∃ (cs14 : List Value) (u : Env), e = upds [(0, l_v), (3, (zal (some ⟨b1, 0, none⟩))), (4, (zal (some ⟨b6, 0, none⟩))), (8, (zal (some ⟨b11, 0, none⟩))), (10, (zal (some ⟨b13, 0, none⟩))), (11, (zal (some ⟨b15, 0, none⟩))), (37, s_v), (38, (zI (s.Uses.length : Int))), (39, (zI x12)), (66, v13), (67, (zI (x15.Coefs.length : Int))), (68, (zI x16))] u ∧ vL w w' [some b1, some b6, some b11, some b10, some b13, some b15] [zac [s_v, (zab s.Divisor.Negative), s_v1], zac [zN, zF, zN], zac [(zO (some b10) x11 m10), (zab negative11), v11], zac ([] ++ (cs14 ++ [])), zac [(zI x13.Index), (zab x13.N.Negative), v12], zac [v13, (zab x15.Bound.Negative), v14]] ∧ Keep w.heap.size [some b15, some b1, some b6, some b11, some b10, some b13] w24 [some b1, some b6, some b11, some b10, some b13, some b15] w' ∧ Els rBig (vH w None [some b1, some b6, some b11, some b10, some b13, some b15] w') cs14 coefs13 ∧ x11.length = List.length coefs13 ∧ (cs14 ++ []).length = m10 * rBig.sz ∧ True) ⟨cs12, _, (zeg ⟨rfl, rfl, rfl, rfl, rfl, rfl, rfl, rfl, rfl, rfl, rfl, rfl, trivial⟩), hL31, K29, f24, hl11, hc13, trivial⟩ ?_
    rintro ⟨coefs13, x16⟩ oo _ w25 ⟨cs14, u, rfl, hL32, K30, hE15, hl13, hc18, -⟩ h hd11
    rw [cApply_b2] at h
    refine zaj (zaf rfl (zag (zci (x := x16) (y := (x15.Coefs.length : Int)) ((x16 : Int) < (x15.Coefs.length : Int)) rfl rfl zbd ?_)))
    refine zan (zaj ?_)
    refine zba ((x16 : Int) < (x15.Coefs.length : Int)) rfl (fun hc19 => ?_) (fun hc19 => ?_)
    ·
     replace h := ite_t hc19 h
     refine zbf (zaj (zbb (zaj (zaf rfl (zag (zai (v := (zI x16)) rfl ?_))))))
     obtain ⟨x17, n12, q31, q32, -, h⟩ := zix h
     have f25 := (f23.mono (K30 S))
     obtain ⟨b16, o12, c12, vs12, q33, q34, f26, q35⟩ := zcw f25 q32
     obtain ⟨v15, rfl, k14, -⟩ := rBig_open q35
     refine zag (zbp (r := rBig) (v := v13) (n := n12) (m := (o12 + n12 * rBig.sz)) zbh ti57 rfl q33 rfl q31 q32 rfl ?_)
     refine zag (zdl (vs := [(zab x17.Negative), v15]) zar rfl ti57 rfl rfl zek f26 ?_)
     refine zag (zbw (cs := [zF, zN]) ti57 rfl hL32 ?_)
     intro b17 w26 hL33 hS20
     have K31 := ks w hS20
     refine zag (zak (v := (zI x16)) rfl ?_)
     have f27 := (k14.mono (K31 S))
     refine zcf (zbo (vs := [(zab x17.Negative), v15]) ti57 rfl rfl rfl rfl (zee rfl (zee f27.one zej)) hL33 0 rfl rfl (zae rfl) ?_)
     intro w27 (hL34 : vL w w27 [some b17, some b1, some b6, some b11, some b10, some b13, some b15] [zac [(zab x17.Negative), v15], zac [s_v, (zab s.Divisor.Negative), s_v1], zac [zN, zF, zN], zac [(zO (some b10) x11 m10), (zab negative11), v11], zac ([] ++ (cs14 ++ [])), zac [(zI x13.Index), (zab x13.N.Negative), v12], zac [v13, (zab x15.Bound.Negative), v14]]) hS21
     have K32 := ks w hS21
     refine zan ?_
     obtain ⟨x18, n13, q37, q38, q39, h⟩ := zix h
     have f28 := ((hE15.mono (K31 None)).mono (K32 None))
     obtain ⟨vs13, q40, q41, q42⟩ := row_elem (pre := []) (sp := []) f28 q38
     obtain ⟨v16, rfl, k15, -⟩ := rBig_open q41
     obtain ⟨r13, q43, h⟩ := zec h
     obtain ⟨r14, q44, h⟩ := zec h
     refine zcj 13 [] [] (fun W1 => [.det (zal (some ⟨b11, 0, none⟩)), .det (zO (some b10) x11 m10), .det (zI x16), .det (zal (some ⟨b11, 0, none⟩)), .det (zO (some b10) x11 m10), .det (zI x16), .det (zal (some ⟨b10, (0 + n13 * rBig.sz), none⟩)), .det (zap #[(zab x18.Negative), v16]), .det (zal (some ⟨b13, 1, none⟩)), .det (zap #[(zab x13.N.Negative), v12]), .det (zap #[(zab x17.Negative), v15]), .rel (fun v Z w' => ∃ v17, (zap #[(zab r13.Negative), v17]) = v ∧ Rs (rInt .u32) (vZ W1 w None [some b17, some b1, some b6, some b11, some b10, some b13, some b15] Z w') v17 r13.Digits ∧ True) (fun _ => []), .rel (fun v Z w' => ∃ v18, (zap #[(zab r14.Negative), v18]) = v ∧ Rs (rInt .u32) (vZ W1 w None [some b17, some b1, some b6, some b11, some b10, some b13, some b15] Z w') v18 r14.Digits ∧ True) (fun _ => [])]) mixed rfl rfl rfl (fun _ => rfl) (fun _ => rfl) ?_ ?_
     ·
      intro W1 _
      exact ⟨fun v Z Z' w w' hΦ hz _ _ hs => by obtain ⟨v17, rfl, k16, -⟩ := hΦ; exact ⟨v17, rfl, (k16.mono (zdo hz hs)), trivial⟩, ⟨fun v Z Z' w w' hΦ hz _ _ hs => by obtain ⟨v18, rfl, k17, -⟩ := hΦ; exact ⟨v18, rfl, (k17.mono (zdo hz hs)), trivial⟩, trivial⟩⟩
     intro w28 hE16
     obtain ⟨hL35, K33⟩ := zl hL34 hE16
     refine zat (fun _ _ => zaw (zam zbl rfl ti51 rfl rfl rfl (er rfl))) ?_
     refine zat (fun _ hE18 => zaw (zau zbh rfl rfl ((hL35.ext hE18).at 3 rfl rfl) rfl (er rfl))) ?_
     refine zat (fun _ _ => zaw (zai rfl (er rfl))) ?_
     refine zat (fun _ _ => zaw (zam zbl rfl ti51 rfl rfl rfl (er rfl))) ?_
     refine zat (fun _ hE21 => zaw (zau zbh rfl rfl ((hL35.ext hE21).at 3 rfl rfl) rfl (er rfl))) ?_
     refine zat (fun _ _ => zaw (zai rfl (er rfl))) ?_
     refine zat (fun _ _ => zaw (zdv (r := rBig) (b := b10) (o := 0) (n := n13) (m := x11.length) (xs := coefs13) (q := (0 + n13 * rBig.sz)) zbh ti57 rfl hl13 rfl q37 q39 rfl (er rfl))) ?_
     refine zat (fun _ hE24 => zaw (zbj (vs := [(zab x18.Negative), v16]) zar rfl ti57 rfl ((hL35.ext hE24).at 4 rfl rfl) rfl q42 (er rfl))) ?_
     refine zat (fun _ _ => zaw (zam zds rfl ti57 rfl rfl rfl (er rfl))) ?_
     refine zat (fun _ hE26 => zaw (zbj (vs := [(zab x13.N.Negative), v12]) zar rfl ti57 rfl ((hL35.ext hE26).at 5 rfl rfl) rfl rfl (er rfl))) ?_
     refine zat (fun _ hE27 => zaw (zbj (vs := [(zab x17.Negative), v15]) zar rfl ti57 rfl ((hL35.ext hE27).at 0 rfl rfl) rfl rfl (er rfl))) ?_
     refine zdq ?_ ?_
     ·
      rintro w40 Z31 hE28 hZ21 ⟨-⟩
      have K34 := ke hL35 hE28
      refine zaw (zay en156 rfl rfl (bMul_w N x13.N x17 v12 v15 _ Any ((((((((((f16.mono (K21 S)).mono (K26 S)).mono (K27 S)).mono (K28 S)).mono (K30 S)).mono (K31 S)).mono (K32 S)).mono (K33 S)).mono (K34 S)).mono vw_any) ((((f27.mono (K32 S)).mono (K33 S)).mono (K34 S)).mono vw_any) r13 q43) ?_)
      rintro _ w41 hE29 ⟨v17, rfl, k16, -⟩
      exact zdf hE29 hZ21 zco (fun _ h => h) ⟨v17, rfl, (k16.mono zdr), trivial⟩
     intro z10
     refine zdq ?_ ?_
     ·
      rintro w42 Z32 hE30 hZ22 ⟨⟨⟨v17, rfl, k16, -⟩, hB10⟩, -⟩
      have K35 := ke hL35 hE30
      refine zaw (zay en155 rfl rfl (bAdd_w N x18 r13 v16 v17 _ Any (((k15.mono (K33 None)).mono (K35 None)).mono vw_any) (k16.mono vw_any) r14 q44) ?_)
      rintro _ w43 hE31 ⟨v18, rfl, k17, -⟩
      exact zdf hE31 hZ22 zco (fun _ h => h) ⟨v18, rfl, (k17.mono zdr), trivial⟩
     intro z11
     refine zcx ?_
     rintro w44 Z33 hE32 hZ23 ⟨⟨⟨v18, rfl, k17, -⟩, hB11⟩, ⟨⟨v17, rfl, k16, -⟩, hB10⟩, -⟩ ap10
     have hB12 := @zhb w28 Z33
     replace k17 := k17.mono (zdw hL35 hZ23 hB12)
     replace k16 := k16.mono (zdw hL35 hZ23 hB12)
     obtain ⟨hL41, K36⟩ := zl hL35 hE32
     obtain ⟨x19, n14, q46, q47, q48, h⟩ := zix h
     refine zag (zdv (r := rBig) (b := b10) (o := 0) (n := n14) (m := x11.length) (xs := coefs13) (q := (0 + n14 * rBig.sz)) zbh ti57 rfl hl13 rfl q46 q48 rfl ?_)
     obtain ⟨x20, n15, q50, q51, q52, h⟩ := zux h
     obtain rfl := zin q46 q50
     have f29 := ((f28.mono (K33 None)).mono (K36 None))
     refine zcf (OpY.stRowX (pre := []) (r := rBig) (vs := [(zab r14.Negative), v18]) (a := r14) ti57 rfl rfl rfl (rBig_close ⟨v18, rfl, k17, trivial⟩) hL41 4 rfl rfl f29 q48 rfl q52 ?_)
     have hl14 : x11.length = List.length x20 := by rw [q52, List.length_set]; exact hl13
     intro w45 cs15 (hL42 : vL w w45 [some b17, some b1, some b6, some b11, some b10, some b13, some b15] [zac [(zab x17.Negative), v15], zac [s_v, (zab s.Divisor.Negative), s_v1], zac [zN, zF, zN], zac [(zO (some b10) x11 m10), (zab negative11), v11], zac ([] ++ (cs15 ++ [])), zac [(zI x13.Index), (zab x13.N.Negative), v12], zac [v13, (zab x15.Bound.Negative), v14]]) hS22 hE33 q53
     have hc20 : (cs15 ++ []).length = m10 * rBig.sz := zhc hc18 q53
     have K37 := ks w hS22
     refine zan (zbn (zaf rfl (zag (zbz (x := x16) (y := 1) (z := (iw (x16 + 1))) rfl rfl rfl ?_))))
     refine zag (zai (v := (zI (iw (x16 + 1)))) rfl (zan ?_))
     have hp17 := hL42.pick [1, 2, 3, 4, 5, 6] rfl rfl rfl
     have hL43 : vL w w45 [some b1, some b6, some b11, some b10, some b13, some b15] [zac [s_v, (zab s.Divisor.Negative), s_v1], zac [zN, zF, zN], zac [(zO (some b10) x11 m10), (zab negative11), v11], zac ([] ++ (cs15 ++ [])), zac [(zI x13.Index), (zab x13.N.Negative), v12], zac [v13, (zab x15.Bound.Negative), v14]] := hp17.1
     have K38 := ks w hp17.2
     have f30 := ((hE33.mono (K37 None)).mono (K38 None))
     obtain rfl := zah h
     refine zaq ⟨(x20, (iw (x16 + 1))), rfl, ?_⟩
     exact ⟨cs15, _, (zeg ⟨rfl, rfl, rfl, rfl, rfl, rfl, rfl, rfl, rfl, rfl, rfl, rfl, trivial⟩), hL43, (zao (zao (zao (zao (zao (zao K30 K31) K32) K33) K36) K37) K38), f30, hl14, hc20, trivial⟩
    replace h := ite_f hc19 h
    refine zck rfl ?_
    obtain rfl := zah h
    obtain rfl := hd11 _ rfl
    replace h := g13
    try dsimp only at h
    refine zaq ?_
    exact ⟨coefs13, cs14, _, rfl, (zeg ⟨rfl, rfl, rfl, rfl, rfl, rfl, rfl, rfl, rfl, trivial⟩), hL32, K30, hE15, hl13, hc18, trivial⟩
   rintro _ w46 ⟨coefs12, cs13, u, rfl, rfl, hL44, K39, hE34, hl15, hc21, -⟩
   replace h := g13
   try dsimp only at h
   obtain ⟨r15, q54, h⟩ := zec h
   refine zcj 7 [] [] (fun W1 => [.det (zal (some ⟨b11, 1, none⟩)), .det (zap #[(zab negative11), v11]), .det (zal (some ⟨b13, 1, none⟩)), .det (zap #[(zab x13.N.Negative), v12]), .det (zal (some ⟨b15, 1, none⟩)), .det (zap #[(zab x15.Bound.Negative), v14]), .rel (fun v Z w' => ∃ v19, (zap #[(zab r15.Negative), v19]) = v ∧ Rs (rInt .u32) (vZ W1 w None [some b1, some b6, some b11, some b10, some b13, some b15] Z w') v19 r15.Digits ∧ True) (fun _ => [])]) mixed rfl rfl rfl (fun _ => rfl) (fun _ => rfl) ?_ ?_
   ·
    intro W1 _
    exact ⟨fun v Z Z' w w' hΦ hz _ _ hs => by obtain ⟨v19, rfl, k18, -⟩ := hΦ; exact ⟨v19, rfl, (k18.mono (zdo hz hs)), trivial⟩, trivial⟩
   intro w47 hE35
   obtain ⟨hL45, K40⟩ := zl hL44 hE35
   refine zat (fun _ _ => zaw (zam zbl rfl ti57 rfl rfl rfl (er rfl))) ?_
   refine zat (fun _ hE37 => zaw (zbj (vs := [(zab negative11), v11]) zar rfl ti57 rfl ((hL45.ext hE37).at 2 rfl rfl) rfl rfl (er rfl))) ?_
   refine zat (fun _ _ => zaw (zam zds rfl ti57 rfl rfl rfl (er rfl))) ?_
   refine zat (fun _ hE39 => zaw (zbj (vs := [(zab x13.N.Negative), v12]) zar rfl ti57 rfl ((hL45.ext hE39).at 4 rfl rfl) rfl rfl (er rfl))) ?_
   refine zat (fun _ _ => zaw (zam zbl rfl ti57 rfl rfl rfl (er rfl))) ?_
   refine zat (fun _ hE41 => zaw (zbj (vs := [(zab x15.Bound.Negative), v14]) zar rfl ti57 rfl ((hL45.ext hE41).at 5 rfl rfl) rfl rfl (er rfl))) ?_
   refine zdq ?_ ?_
   ·
    rintro w54 Z40 hE42 hZ30 ⟨-⟩
    have K41 := ke hL45 hE42
    refine zaw (zay en156 rfl rfl (bMul_w N x13.N x15.Bound v12 v14 _ Any ((((((((f16.mono (K21 S)).mono (K26 S)).mono (K27 S)).mono (K28 S)).mono (K39 S)).mono (K40 S)).mono (K41 S)).mono vw_any) (((((f21.mono (K28 S)).mono (K39 S)).mono (K40 S)).mono (K41 S)).mono vw_any) r15 q54) ?_)
    rintro _ w55 hE43 ⟨v19, rfl, k18, -⟩
    exact zdf hE43 hZ30 zco (fun _ h => h) ⟨v19, rfl, (k18.mono zdr), trivial⟩
   intro z6
   refine zcx ?_
   rintro w56 Z41 hE44 hZ31 ⟨⟨⟨v19, rfl, k18, -⟩, hB6⟩, -⟩ ap11
   have hB13 := @zhb w47 Z41
   replace k18 := k18.mono (zdw hL45 hZ31 hB13)
   obtain ⟨hL49, K42⟩ := zl hL45 hE44
   obtain ⟨r16, q55, h⟩ := zec h
   have f31 := ((((((((k10.mono (K20 None)).mono (K21 None)).mono (K26 None)).mono (K27 None)).mono (K28 None)).mono (K39 None)).mono (K40 None)).mono (K42 None))
   refine zag (zay en155 rfl rfl (bAdd_w N (Big.mk negative11 digits11) r15 v11 v19 _ Any (f31.mono vw_any) (k18.mono vw_any) r16 q55) ?_)
   rintro _ w57 hE45 ⟨v20, rfl, k19, -⟩
   replace k19 := k19.mono (zbu (S := None) hL49 [])
   obtain ⟨hL50, K43⟩ := zl hL49 hE45
   refine zag (zam (q := 1) zbl rfl ti57 rfl rfl rfl ?_)
   refine zcf (zbo (vs := [(zab r16.Negative), v20]) ti57 rfl rfl rfl rfl (zee rfl (zee k19.one zej)) hL50 2 rfl rfl (zae rfl) ?_)
   intro w58 (hL51 : vL w w58 [some b1, some b6, some b11, some b10, some b13, some b15] [zac [s_v, (zab s.Divisor.Negative), s_v1], zac [zN, zF, zN], zac [(zO (some b10) x11 m10), (zab r16.Negative), v20], zac ([] ++ (cs13 ++ [])), zac [(zI x13.Index), (zab x13.N.Negative), v12], zac [v13, (zab x15.Bound.Negative), v14]]) hS23
   have K44 := ks w hS23
   refine zan (zbn (zaf rfl (zag (zbz (x := x12) (y := 1) (z := (iw (x12 + 1))) rfl rfl rfl ?_))))
   refine zag (zai (v := (zI (iw (x12 + 1)))) rfl (zan ?_))
   have hp18 := hL51.pick [0, 1, 2, 3] rfl rfl rfl
   have hL52 : vL w w58 [some b1, some b6, some b11, some b10] [zac [s_v, (zab s.Divisor.Negative), s_v1], zac [zN, zF, zN], zac [(zO (some b10) x11 m10), (zab r16.Negative), v20], zac ([] ++ (cs13 ++ []))] := hp18.1
   have K45 := ks w hp18.2
   have f32 := (((((hE34.mono (K40 None)).mono (K42 None)).mono (K43 None)).mono (K44 None)).mono (K45 None))
   have f33 := ((k19.mono (K44 None)).mono (K45 None))
   obtain rfl := zah h
   refine zaq ⟨(coefs12, r16.Negative, r16.Digits, (iw (x12 + 1))), rfl, ?_⟩
   exact ⟨cs13, v20, _, (zeg ⟨rfl, rfl, rfl, rfl, rfl, rfl, rfl, trivial⟩), hL52, (zao (zao (zao (zao (zao (zao (zao (zao (zao (zao (zao K19 K20) K21) K26) K27) K28) K39) K40) K42) K43) K44) K45), f32, hl15, hc21, f33, trivial⟩
  replace h := ite_f hc14 h
  refine zck rfl ?_
  obtain rfl := zah h
  obtain rfl := hd10 _ rfl
  replace h := g11
  try dsimp only at h
  refine zaq ?_
  exact ⟨coefs11, negative11, digits11, cs12, v11, _, rfl, (zeg ⟨rfl, rfl, rfl, trivial⟩), hL20, K19, hE13, hl11, hc13, k10, trivial⟩
 rintro _ w59 ⟨coefs10, negative10, digits10, cs11, v10, u, rfl, rfl, hL53, K46, hE46, hl16, hc22, k20, -⟩
 replace h := g11
 try dsimp only at h
 refine zaj (zaj (zaf rfl (zag (zam (q := 0) zbl rfl ti51 rfl rfl rfl ?_))))
 refine zag (zau (v := (zO (some b10) x11 m10)) zbh rfl rfl (hL53.at 2 rfl rfl) rfl ?_)
 refine zag (OpY.lenRow (pre := []) (r := rBig) (xs := coefs10) zbh rfl (hL53.at 3 rfl rfl) hE46 rfl hl16 ?_)
 refine zag (zai (v := (zI 0)) rfl (zan ?_))
 obtain ⟨s14, hl17, g14⟩ := zec h
 refine zbs (fun e w' => ∃ (coefs14 : (List Big)) (cs16 : List Value) (u : Env), (Sum.inl coefs14) = s14 ∧ e = upds [(3, (zal (some ⟨b1, 0, none⟩))), (4, (zal (some ⟨b6, 0, none⟩))), (8, (zal (some ⟨b11, 0, none⟩)))] u ∧ vL w w' [some b1, some b6, some b11, some b10] [zac [s_v, (zab s.Divisor.Negative), s_v1], zac [zN, zF, zN], zac [(zO (some b10) x11 m10), (zab negative10), v10], zac ([] ++ (cs16 ++ []))] ∧ Keep w.heap.size [some b1, some b6, some b11, some b10] w59 [some b1, some b6, some b11, some b10] w' ∧ Els rBig (vH w None [some b1, some b6, some b11, some b10] w') cs16 coefs14 ∧ x11.length = List.length coefs14 ∧ (cs16 ++ []).length = m10 * rBig.sz ∧ True) ?_ ?_
 ·
  refine zbb ?_
  refine zcb hl17 (fun (ss : ((List Big) × Int)) (e : Env) (w' : World) => match ss with | (coefs15, x21) => ∃ (cs17 : List Value) (u : Env), e = upds [(3, (zal (some ⟨b1, 0, none⟩))), (4, (zal (some ⟨b6, 0, none⟩))), (8, (zal (some ⟨b11, 0, none⟩))), (99, (zO (some b10) x11 m10)), (100, (zI (coefs10.length : Int))), (101, (zI x21))] u ∧ vL w w' [some b1, some b6, some b11, some b10] [zac [s_v, (zab s.Divisor.Negative), s_v1], zac [zN, zF, zN], zac [(zO (some b10) x11 m10), (zab negative10), v10], zac ([] ++ (cs17 ++ []))] ∧ Keep w.heap.size [some b1, some b6, some b11, some b10] w59 [some b1, some b6, some b11, some b10] w' ∧ Els rBig (vH w None [some b1, some b6, some b11, some b10] w') cs17 coefs15 ∧ x11.length = List.length coefs15 ∧ (cs17 ++ []).length = m10 * rBig.sz ∧ True) ⟨cs11, _, (zeg ⟨rfl, rfl, rfl, rfl, rfl, rfl, trivial⟩), hL53, zbq, hE46, hl16, hc22, trivial⟩ ?_
  rintro ⟨coefs15, x21⟩ oo _ w60 ⟨cs17, u, rfl, hL54, K47, hE47, hl18, hc23, -⟩ h hd12
  rw [cApply_b3] at h
  refine zaj (zaf rfl (zag (zci (x := x21) (y := (coefs10.length : Int)) ((x21 : Int) < (coefs10.length : Int)) rfl rfl zbd ?_)))
  refine zan (zaj ?_)
  refine zba ((x21 : Int) < (coefs10.length : Int)) rfl (fun hc24 => ?_) (fun hc24 => ?_)
  ·
   replace h := ite_t hc24 h
   refine zbf (zaj (zbb (zaj (zaf rfl (zag (zai (v := (zI x21)) rfl ?_))))))
   obtain ⟨x22, n16, q57, q58, q59, h⟩ := zix h
   refine zag (zdv (r := rBig) (b := b10) (o := 0) (n := n16) (m := x11.length) (xs := coefs15) (q := (0 + n16 * rBig.sz)) zbh ti57 rfl hl18 rfl q57 q59 rfl ?_)
   obtain ⟨vs14, q60, q61, q62⟩ := row_elem (pre := []) (sp := []) hE47 q58
   obtain ⟨v21, rfl, k21, -⟩ := rBig_open q61
   refine zag (zbj (vs := [(zab x22.Negative), v21]) zar rfl ti57 rfl (hL54.at 3 rfl rfl) rfl q62 ?_)
   refine zag (zbw (cs := [zF, zN]) ti57 rfl hL54 ?_)
   intro b18 w61 hL55 hS24
   have K48 := ks w hS24
   refine zag (zak (v := (zI x21)) rfl ?_)
   have f34 := (k21.mono (K48 None))
   refine zcf (zbo (vs := [(zab x22.Negative), v21]) ti57 rfl rfl rfl rfl (zee rfl (zee f34.one zej)) hL55 0 rfl rfl (zae rfl) ?_)
   intro w62 (hL56 : vL w w62 [some b18, some b1, some b6, some b11, some b10] [zac [(zab x22.Negative), v21], zac [s_v, (zab s.Divisor.Negative), s_v1], zac [zN, zF, zN], zac [(zO (some b10) x11 m10), (zab negative10), v10], zac ([] ++ (cs17 ++ []))]) hS25
   have K49 := ks w hS25
   refine zan (zaj (zaf rfl (zag (zbj (vs := [(zab x22.Negative), v21]) zar rfl ti57 rfl (hL56.at 0 rfl rfl) rfl rfl ?_))))
   refine zag (zam (q := 1) zdg rfl ti57 rfl rfl rfl ?_)
   refine zag (zbj (vs := [(zab s.Divisor.Negative), s_v1]) zar rfl ti57 rfl (hL56.at 1 rfl rfl) rfl rfl ?_)
   obtain ⟨r17, q63, h⟩ := zec h
   have f35 := (f34.mono (K49 None))
   have f36 := (((((((((((s_h1.mono (K4 S)).mono (K9 S)).mono (K10 S)).mono (K14 S)).mono (K15 S)).mono (K16 S)).mono (K17 S)).mono (K46 S)).mono (K47 S)).mono (K48 S)).mono (K49 S))
   refine zag (zay en157 rfl rfl (bDivFloor_w N x22 s.Divisor v21 s_v1 _ Any (f35.mono vw_any) (f36.mono vw_any) r17 q63) ?_)
   rintro _ w63 hE48 ⟨v22, v23, rfl, k22, k23, -⟩
   replace k22 := k22.mono (zbu (S := None) hL56 [])
   replace k23 := k23.mono (zbu (S := None) hL56 [])
   obtain ⟨hL57, K50⟩ := zl hL56 hE48
   refine zag (zai (v := (Value.tuple #[(zap #[(zab r17.1.Negative), v22]), (zap #[(zab r17.2.1.Negative), v23]), (zab r17.2.2)])) rfl ?_)
   refine zag (zdb (vs := [(zap #[(zab r17.1.Negative), v22]), (zap #[(zab r17.2.1.Negative), v23]), (zab r17.2.2)]) (v := (zap #[(zab r17.1.Negative), v22])) rfl rfl ?_)
   refine zag (zdb (vs := [(zap #[(zab r17.1.Negative), v22]), (zap #[(zab r17.2.1.Negative), v23]), (zab r17.2.2)]) (v := (zap #[(zab r17.2.1.Negative), v23])) rfl rfl ?_)
   refine zag (zdb (vs := [(zap #[(zab r17.1.Negative), v22]), (zap #[(zab r17.2.1.Negative), v23]), (zab r17.2.2)]) (v := (zab r17.2.2)) rfl rfl ?_)
   refine zag (zbw (cs := [zF, zN]) ti57 rfl hL57 ?_)
   intro b19 w64 hL58 hS26
   have K51 := ks w hS26
   refine zag (zbw (cs := [zF, zN]) ti57 rfl hL58 ?_)
   intro b20 w65 hL59 hS27
   have K52 := ks w hS27
   have f37 := ((k22.mono (K51 None)).mono (K52 None))
   refine zcf (zbo (vs := [(zab r17.1.Negative), v22]) ti57 rfl rfl rfl rfl (zee rfl (zee f37.one zej)) hL59 1 rfl rfl (zae rfl) ?_)
   intro w66 (hL60 : vL w w66 [some b20, some b19, some b18, some b1, some b6, some b11, some b10] [zac [zF, zN], zac [(zab r17.1.Negative), v22], zac [(zab x22.Negative), v21], zac [s_v, (zab s.Divisor.Negative), s_v1], zac [zN, zF, zN], zac [(zO (some b10) x11 m10), (zab negative10), v10], zac ([] ++ (cs17 ++ []))]) hS28
   have K53 := ks w hS28
   have f38 := (((k23.mono (K51 None)).mono (K52 None)).mono (K53 None))
   refine zcf (zbo (vs := [(zab r17.2.1.Negative), v23]) ti57 rfl rfl rfl rfl (zee rfl (zee f38.one zej)) hL60 0 rfl rfl (zae rfl) ?_)
   intro w67 (hL61 : vL w w67 [some b20, some b19, some b18, some b1, some b6, some b11, some b10] [zac [(zab r17.2.1.Negative), v23], zac [(zab r17.1.Negative), v22], zac [(zab x22.Negative), v21], zac [s_v, (zab s.Divisor.Negative), s_v1], zac [zN, zF, zN], zac [(zO (some b10) x11 m10), (zab negative10), v10], zac ([] ++ (cs17 ++ []))]) hS29
   have K54 := ks w hS29
   refine zag (zak (v := (zab r17.2.2)) rfl ?_)
   refine zan (zaj (zaj (zaf rfl (zag (zbj (vs := [(zab r17.2.1.Negative), v23]) zar rfl ti57 rfl (hL61.at 0 rfl rfl) rfl rfl ?_)))))
   obtain ⟨r18, q64, h⟩ := zec h
   have f39 := (f38.mono (K54 None))
   refine zag (zay en154 rfl rfl (bSign_w N r17.2.1 v23 _ Any (f39.mono vw_any) r18 q64) ?_)
   rintro _ w68 hE49 ⟨rfl, -⟩
   obtain ⟨hL62, K55⟩ := zl hL61 hE49
   refine zag (OpY.neq (x := r18) (y := 0) ((r18 : Int) ≠ 0) rfl rfl zbd (zan ?_))
   refine zba ((r18 : Int) ≠ 0) rfl (fun hc25 => ?_) (fun hc25 => ?_)
   ·
    replace h := ite_t hc25 h
    refine zaj (zaf rfl (zag (zcc (zc := [zN, zF, zN]) (cs := [zN, zF, zN]) (is := []) (vs := []) (css := []) pl123 ti123 rfl rfl rfl trivial rfl ?_)))
    refine zcf (zbo (vs := [zN, zF, zN]) ti123 rfl rfl rfl rfl (zee rfl (zee rfl (zee rfl zej))) hL62 4 rfl rfl (zae rfl) ?_)
    intro w69 (hL63 : vL w w69 [some b20, some b19, some b18, some b1, some b6, some b11, some b10] [zac [(zab r17.2.1.Negative), v23], zac [(zab r17.1.Negative), v22], zac [(zab x22.Negative), v21], zac [s_v, (zab s.Divisor.Negative), s_v1], zac [zN, zF, zN], zac [(zO (some b10) x11 m10), (zab negative10), v10], zac ([] ++ (cs17 ++ []))]) hS30
    refine zag (zak (v := zF) rfl ?_)
    refine zan (zbi ?_)
    obtain rfl := zah h
    obtain rfl := hd12 _ rfl
    replace h := g14
    try dsimp only at h
    obtain rfl := zah h
    refine ⟨[(zap #[zN, zF, zN]), zF], ⟨⟨⟨b6, 0, none⟩, rfl, zeo zbl rfl ti123 (hL63.at 4 rfl rfl) rfl⟩, zrt⟩, ⟨_, rfl, hL63.done, ?_⟩⟩
    exact ⟨zN, zN, rfl, zdk, zdk, trivial⟩
   replace h := ite_f hc25 h
   refine zbf (zaf rfl (zag (zam (q := 0) zbl rfl ti51 rfl rfl rfl ?_)))
   refine zag (zau (v := (zO (some b10) x11 m10)) zbh rfl rfl (hL62.at 5 rfl rfl) rfl ?_)
   refine zag (zai (v := (zI x21)) rfl ?_)
   refine zag (zbj (vs := [(zab r17.1.Negative), v22]) zar rfl ti57 rfl (hL62.at 1 rfl rfl) rfl rfl ?_)
   obtain ⟨x23, n17, q66, q67, q68, h⟩ := zix h
   refine zag (zdv (r := rBig) (b := b10) (o := 0) (n := n17) (m := x11.length) (xs := coefs15) (q := (0 + n17 * rBig.sz)) zbh ti57 rfl hl18 rfl q66 q68 rfl ?_)
   obtain ⟨x24, n18, q70, q71, q72, h⟩ := zux h
   obtain rfl := zin q66 q70
   have f40 := ((((((((hE47.mono (K48 None)).mono (K49 None)).mono (K50 None)).mono (K51 None)).mono (K52 None)).mono (K53 None)).mono (K54 None)).mono (K55 None))
   have f41 := (((f37.mono (K53 None)).mono (K54 None)).mono (K55 None))
   refine zcf (OpY.stRowX (pre := []) (r := rBig) (vs := [(zab r17.1.Negative), v22]) (a := r17.1) ti57 rfl rfl rfl (rBig_close ⟨v22, rfl, f41, trivial⟩) hL62 6 rfl rfl f40 q68 rfl q72 ?_)
   have hl19 : x11.length = List.length x24 := by rw [q72, List.length_set]; exact hl18
   intro w70 cs18 (hL64 : vL w w70 [some b20, some b19, some b18, some b1, some b6, some b11, some b10] [zac [(zab r17.2.1.Negative), v23], zac [(zab r17.1.Negative), v22], zac [(zab x22.Negative), v21], zac [s_v, (zab s.Divisor.Negative), s_v1], zac [zN, zF, zN], zac [(zO (some b10) x11 m10), (zab negative10), v10], zac ([] ++ (cs18 ++ []))]) hS31 hE50 q73
   have hc26 : (cs18 ++ []).length = m10 * rBig.sz := zhc hc23 q73
   have K56 := ks w hS31
   refine zan (zbn (zaf rfl (zag (zbz (x := x21) (y := 1) (z := (iw (x21 + 1))) rfl rfl rfl ?_))))
   refine zag (zai (v := (zI (iw (x21 + 1)))) rfl (zan ?_))
   have hp19 := hL64.pick [3, 4, 5, 6] rfl rfl rfl
   have hL65 : vL w w70 [some b1, some b6, some b11, some b10] [zac [s_v, (zab s.Divisor.Negative), s_v1], zac [zN, zF, zN], zac [(zO (some b10) x11 m10), (zab negative10), v10], zac ([] ++ (cs18 ++ []))] := hp19.1
   have K57 := ks w hp19.2
   have f42 := ((hE50.mono (K56 None)).mono (K57 None))
   obtain rfl := zah h
   refine zaq ⟨(x24, (iw (x21 + 1))), rfl, ?_⟩
   exact ⟨cs18, _, (zeg ⟨rfl, rfl, rfl, rfl, rfl, rfl, trivial⟩), hL65, (zao (zao (zao (zao (zao (zao (zao (zao (zao (zao K47 K48) K49) K50) K51) K52) K53) K54) K55) K56) K57), f42, hl19, hc26, trivial⟩
  replace h := ite_f hc24 h
  refine zck rfl ?_
  obtain rfl := zah h
  obtain rfl := hd12 _ rfl
  replace h := g14
  try dsimp only at h
  refine zaq ?_
  exact ⟨coefs15, cs17, _, rfl, (zeg ⟨rfl, rfl, rfl, trivial⟩), hL54, K47, hE47, hl18, hc23, trivial⟩
 rintro _ w71 ⟨coefs14, cs16, u, rfl, rfl, hL66, K58, hE51, hl20, hc27, -⟩
 replace h := g14
 try dsimp only at h
 refine zaj (zaf rfl (zag (zam (q := 1) zbl rfl ti57 rfl rfl rfl ?_)))
 refine zag (zbj (vs := [(zab negative10), v10]) zar rfl ti57 rfl (hL66.at 2 rfl rfl) rfl rfl ?_)
 refine zag (zam (q := 1) zdg rfl ti57 rfl rfl rfl ?_)
 refine zag (zbj (vs := [(zab s.Divisor.Negative), s_v1]) zar rfl ti57 rfl (hL66.at 0 rfl rfl) rfl rfl ?_)
 obtain ⟨r19, q74, h⟩ := zec h
 have f43 := (k20.mono (K58 None))
 have f44 := (((((((((s_h1.mono (K4 S)).mono (K9 S)).mono (K10 S)).mono (K14 S)).mono (K15 S)).mono (K16 S)).mono (K17 S)).mono (K46 S)).mono (K58 S))
 refine zag (zay en157 rfl rfl (bDivFloor_w N (Big.mk negative10 digits10) s.Divisor v10 s_v1 _ Any (f43.mono vw_any) (f44.mono vw_any) r19 q74) ?_)
 rintro _ w72 hE52 ⟨v24, v25, rfl, k24, k25, -⟩
 replace k24 := k24.mono (zbu (S := None) hL66 [])
 replace k25 := k25.mono (zbu (S := None) hL66 [])
 obtain ⟨hL67, K59⟩ := zl hL66 hE52
 refine zag (zai (v := (Value.tuple #[(zap #[(zab r19.1.Negative), v24]), (zap #[(zab r19.2.1.Negative), v25]), (zab r19.2.2)])) rfl ?_)
 refine zag (zdb (vs := [(zap #[(zab r19.1.Negative), v24]), (zap #[(zab r19.2.1.Negative), v25]), (zab r19.2.2)]) (v := (zap #[(zab r19.1.Negative), v24])) rfl rfl ?_)
 refine zag (zdb (vs := [(zap #[(zab r19.1.Negative), v24]), (zap #[(zab r19.2.1.Negative), v25]), (zab r19.2.2)]) (v := (zap #[(zab r19.2.1.Negative), v25])) rfl rfl ?_)
 refine zag (zdb (vs := [(zap #[(zab r19.1.Negative), v24]), (zap #[(zab r19.2.1.Negative), v25]), (zab r19.2.2)]) (v := (zab r19.2.2)) rfl rfl ?_)
 refine zag (zam (q := 1) zbl rfl ti57 rfl rfl rfl ?_)
 refine zcf (zbo (vs := [(zab r19.1.Negative), v24]) ti57 rfl rfl rfl rfl (zee rfl (zee k24.one zej)) hL67 2 rfl rfl (zae rfl) ?_)
 intro w73 (hL68 : vL w w73 [some b1, some b6, some b11, some b10] [zac [s_v, (zab s.Divisor.Negative), s_v1], zac [zN, zF, zN], zac [(zO (some b10) x11 m10), (zab r19.1.Negative), v24], zac ([] ++ (cs16 ++ []))]) hS32
 have K60 := ks w hS32
 refine zan (zaj (zaf rfl (zag (zbj (vs := [(zO (some b10) x11 m10), (zab r19.1.Negative), v24]) zbl rfl ti123 rfl (hL68.at 2 rfl rfl) rfl rfl ?_))))
 have f45 := (k24.mono (K60 None))
 refine zcf (zbo (vs := [(zO (some b10) x11 m10), (zab r19.1.Negative), v24]) ti123 rfl rfl rfl rfl (zee (zem _ _ _ _) (zee rfl (zee f45.one zej))) hL68 1 rfl rfl (zae rfl) ?_)
 intro w74 (hL69 : vL w w74 [some b1, some b6, some b11, some b10] [zac [s_v, (zab s.Divisor.Negative), s_v1], zac [(zO (some b10) x11 m10), (zab r19.1.Negative), v24], zac [(zO (some b10) x11 m10), (zab r19.1.Negative), v24], zac ([] ++ (cs16 ++ []))]) hS33
 have K61 := ks w hS33
 refine zag (zak (v := zT) rfl (zan ?_))
 have f46 := (((hE51.mono (K59 None)).mono (K60 None)).mono (K61 None))
 have f47 := hL69.freezeRow 3 rfl rfl f46 rfl rfl hl20 hc27
 have hp20 := hL69.pick [0, 1, 2] rfl rfl rfl
 have hL70 : vL w w74 [some b1, some b6, some b11] [zac [s_v, (zab s.Divisor.Negative), s_v1], zac [(zO (some b10) x11 m10), (zab r19.1.Negative), v24], zac [(zO (some b10) x11 m10), (zab r19.1.Negative), v24]] := hp20.1
 have K62 := ks w hp20.2
 refine zbi ?_
 obtain rfl := zah h
 refine ⟨[(zap #[(zO (some b10) x11 m10), (zab r19.1.Negative), v24]), zT], ⟨⟨⟨b6, 0, none⟩, rfl, zeo zbl rfl ti123 (hL70.at 1 rfl rfl) rfl⟩, zrt⟩, ⟨_, rfl, hL70.done, ?_⟩⟩
 have f48 := ((f45.mono (K61 None)).mono (K62 None))
 exact ⟨(zO (some b10) x11 m10), v24, rfl, (f47.mono zea), (f48.mono zea), trivial⟩
theorem cContradictory_w (N : Nat) (q : Ineq) (q_v : Value) (q_v1 : Value) (w : World) (S : Nat → Prop) (q_h : Rs rBig (vH w S [] w) q_v q.Coefs) (q_h1 : Rs (rInt .u32) (vH w S [] w) q_v1 q.Bound.Digits) (r : Bool) (h : cContradictory N q = some r) :
  Calls Tryz.prog 131 #[(zap #[q_v, (zab q.Bound.Negative), q_v1])] w (Ret w (fun v w' => (zab r) = v ∧ True)) := by
 unfold cContradictory at h
 have hL : vL w w [] [] := Go.X.Loc.begin0 w
 refine calls_of (l := [(zap #[q_v, (zab q.Bound.Negative), q_v1])]) (rl := [.tmp 2]) (n := 20) Tryz.func131 rfl rfl rfl (zae rfl) ?_
 refine zaj (zaf rfl (zag (zdj (cs := [q_v, (zab q.Bound.Negative), q_v1]) rfl rfl hL ?_)))
 intro b1 w2 hL3 hS5
 have K4 := ks w hS5
 refine zag (zak (v := zF) rfl ?_)
 refine zan (zaj (zaj (zaf rfl (zag (zam (q := 0) zbl rfl ti51 rfl rfl rfl ?_)))))
 refine zag (zau (v := q_v) zbh rfl rfl (hL3.at 0 rfl rfl) rfl ?_)
 have f6 := (q_h.mono (K4 S))
 refine zag (zbc (v := q_v) zbh rfl f6 ?_)
 refine zag (zai (v := (zI 0)) rfl (zan ?_))
 obtain ⟨s10, hl10, g10⟩ := zec h
 refine zbs (fun e w' => ∃  (u : Env), (Sum.inl ()) = s10 ∧ e = upds [(1, (zal (some ⟨b1, 0, none⟩)))] u ∧ vL w w' [some b1] [zac [q_v, (zab q.Bound.Negative), q_v1]] ∧ Keep w.heap.size [some b1] w2 [some b1] w' ∧ True) ?_ ?_
 ·
  refine zbb ?_
  refine zcb hl10 (fun (ss : Int) (e : Env) (w' : World) => match ss with | x10 => ∃ (u : Env), e = upds [(1, (zal (some ⟨b1, 0, none⟩))), (6, q_v), (7, (zI (q.Coefs.length : Int))), (8, (zI x10))] u ∧ vL w w' [some b1] [zac [q_v, (zab q.Bound.Negative), q_v1]] ∧ Keep w.heap.size [some b1] w2 [some b1] w' ∧ True) ⟨_, (zeg ⟨rfl, rfl, rfl, rfl, trivial⟩), hL3, zbq, trivial⟩ ?_
  rintro x10 oo _ w10 ⟨u, rfl, hL10, K10, -⟩ h hd10
  rw [cContradictory_b1] at h
  refine zaj (zaf rfl (zag (zci (x := x10) (y := (q.Coefs.length : Int)) ((x10 : Int) < (q.Coefs.length : Int)) rfl rfl zbd ?_)))
  refine zan (zaj ?_)
  refine zba ((x10 : Int) < (q.Coefs.length : Int)) rfl (fun hc10 => ?_) (fun hc10 => ?_)
  ·
   replace h := ite_t hc10 h
   refine zbf (zaj (zbb (zaj (zaf rfl ?_))))
   obtain ⟨x11, n10, q11, q12, -, h⟩ := zix h
   have f10 := (f6.mono (K10 S))
   obtain ⟨b10, o10, c10, vs10, q13, q14, f11, q15⟩ := zcw f10 q12
   obtain ⟨v10, rfl, k10, -⟩ := rBig_open q15
   refine zag (zbp (r := rBig) (v := q_v) (n := n10) (m := (o10 + n10 * rBig.sz)) zbh ti57 rfl q13 rfl q11 q12 rfl ?_)
   refine zag (zdl (vs := [(zab x11.Negative), v10]) zar rfl ti57 rfl rfl zek f11 ?_)
   refine zag (zbw (cs := [zF, zN]) ti57 rfl hL10 ?_)
   intro b11 w11 hL11 hS10
   have K11 := ks w hS10
   have f12 := (k10.mono (K11 S))
   refine zcf (zbo (vs := [(zab x11.Negative), v10]) ti57 rfl rfl rfl rfl (zee rfl (zee f12.one zej)) hL11 0 rfl rfl (zae rfl) ?_)
   intro w12 (hL12 : vL w w12 [some b11, some b1] [zac [(zab x11.Negative), v10], zac [q_v, (zab q.Bound.Negative), q_v1]]) hS11
   have K12 := ks w hS11
   refine zan (zaj (zaf rfl (zag (zbj (vs := [(zab x11.Negative), v10]) zar rfl ti57 rfl (hL12.at 0 rfl rfl) rfl rfl ?_))))
   obtain ⟨r10, q16, h⟩ := zec h
   have f13 := (f12.mono (K12 S))
   refine zag (zay en154 rfl rfl (bSign_w N x11 v10 _ Any (f13.mono vw_any) r10 q16) ?_)
   rintro _ w13 hE10 ⟨rfl, -⟩
   obtain ⟨hL13, K13⟩ := zl hL12 hE10
   refine zag (OpY.neq (x := r10) (y := 0) ((r10 : Int) ≠ 0) rfl rfl zbd (zan ?_))
   refine zba ((r10 : Int) ≠ 0) rfl (fun hc11 => ?_) (fun hc11 => ?_)
   ·
    replace h := ite_t hc11 h
    refine zaj (zaf rfl (zag (zak (v := zF) rfl ?_)))
    refine zan (zbi ?_)
    obtain rfl := zah h
    obtain rfl := hd10 _ rfl
    replace h := g10
    try dsimp only at h
    obtain rfl := zah h
    refine ⟨[zF], zrt, ⟨_, rfl, hL13.done, ?_⟩⟩
    exact zrt
   replace h := ite_f hc11 h
   refine zbf (zbn (zaf rfl (zag (zbz (x := x10) (y := 1) (z := (iw (x10 + 1))) rfl rfl rfl ?_))))
   refine zag (zai (v := (zI (iw (x10 + 1)))) rfl (zan ?_))
   have hp10 := hL13.pick [1] rfl rfl rfl
   have hL14 : vL w w13 [some b1] [zac [q_v, (zab q.Bound.Negative), q_v1]] := hp10.1
   have K14 := ks w hp10.2
   obtain rfl := zah h
   refine zaq ⟨(iw (x10 + 1)), rfl, ?_⟩
   exact ⟨_, (zeg ⟨rfl, rfl, rfl, rfl, trivial⟩), hL14, (zao (zao (zao (zao K10 K11) K12) K13) K14), trivial⟩
  replace h := ite_f hc10 h
  refine zck rfl ?_
  obtain rfl := zah h
  obtain rfl := hd10 _ rfl
  replace h := g10
  try dsimp only at h
  refine zaq ?_
  exact ⟨_, rfl, (zeg zrt), hL10, K10, trivial⟩
 rintro _ w14 ⟨u, rfl, rfl, hL15, K15, -⟩
 replace h := g10
 try dsimp only at h
 refine zaj (zaf rfl (zag (zam (q := 1) zbl rfl ti57 rfl rfl rfl ?_)))
 refine zag (zbj (vs := [(zab q.Bound.Negative), q_v1]) zar rfl ti57 rfl (hL15.at 0 rfl rfl) rfl rfl ?_)
 obtain ⟨r11, q17, h⟩ := zec h
 have f14 := ((q_h1.mono (K4 S)).mono (K15 S))
 refine zag (zay en154 rfl rfl (bSign_w N q.Bound q_v1 _ Any (f14.mono vw_any) r11 q17) ?_)
 rintro _ w15 hE11 ⟨rfl, -⟩
 have hL16 := hL15.ext hE11
 refine zag (zci (x := r11) (y := 0) ((r11 : Int) < 0) rfl rfl zbd ?_)
 refine zag (zak (v := (zab (decide ((r11 : Int) < 0)))) rfl ?_)
 refine zan (zbi ?_)
 obtain rfl := zah h
 refine ⟨[(zab (decide ((r11 : Int) < 0)))], zrt, ⟨_, rfl, hL16.done, ?_⟩⟩
 exact zrt
theorem cCheck_w (N : Nat) : ∀ (l : (List Ineq)) (p : Proof) (l_v : Value) (p_v : Value) (p_v1 : Value) (p_v2 : Value) (p_v3 : Value) (w : World) (S : Nat → Prop) (l_h : Rs rIneq (vH w S [] w) l_v l) (p_h : Rs rStep (vH w S [] w) p_v p.Steps) (p_h1 : Rs rBig (vH w S [] w) p_v1 p.Form) (p_h2 : Rs (rInt .u32) (vH w S [] w) p_v2 p.Bound.Digits) (p_h3 : Rs rProof (vH w S [] w) p_v3 p.Children) (r : Bool) (h : cCheck N l p = some r), Calls Tryz.prog 93 #[l_v, (zap #[p_v, p_v1, (zab p.Bound.Negative), p_v2, p_v3])] w (Ret w (fun v w' => (zab r) = v ∧ True)) := by
 induction N with
 | zero => intro l p l_v p_v p_v1 p_v2 p_v3 w S l_h p_h p_h1 p_h2 p_h3 r h; cases (show (none : Option Bool) = some r from h)
 | succ N ih =>
  intro l p l_v p_v p_v1 p_v2 p_v3 w S l_h p_h p_h1 p_h2 p_h3 r h
  replace h : cCheck_step N (cCheck N) l p = some r := h
  unfold cCheck_step at h
  have hL : vL w w [] [] := Go.X.Loc.begin0 w
  refine calls_of (l := [l_v, (zap #[p_v, p_v1, (zab p.Bound.Negative), p_v2, p_v3])]) (rl := [.tmp 4]) (n := 104) Tryz.func93 rfl rfl rfl (zae rfl) ?_
  refine zaj (zaf rfl (zag (zdj (cs := [p_v, p_v1, (zab p.Bound.Negative), p_v2, p_v3]) rfl rfl hL ?_)))
  intro b1 w2 hL3 hS5
  have K4 := ks w hS5
  refine zag (zak (v := zF) rfl ?_)
  refine zan (zaj (zaj (zaf rfl (zag (zai (v := l_v) rfl ?_)))))
  obtain ⟨r6, q7, h⟩ := zec h
  have f9 := (l_h.mono (K4 S))
  refine zag (zay en127 rfl rfl (cwidth_w N l l_v _ Any (f9.mono vw_any) r6 q7) ?_)
  rintro _ w10 hE10 ⟨rfl, -⟩
  obtain ⟨hL10, K10⟩ := zl hL3 hE10
  refine zag (zai (v := (Value.tuple #[(zI r6.1), (zab r6.2)])) rfl ?_)
  refine zag (zdb (vs := [(zI r6.1), (zab r6.2)]) (v := (zI r6.1)) rfl rfl ?_)
  refine zag (zdb (vs := [(zI r6.1), (zab r6.2)]) (v := (zab r6.2)) rfl rfl ?_)
  refine zag (zak (v := (zI r6.1)) rfl ?_)
  refine zag (zak (v := (zab r6.2)) rfl ?_)
  refine zan (zaj (zaf rfl (zag (zai (v := (zab r6.2)) rfl ?_))))
  refine zag (zeb (x := r6.2) rfl (zan ?_))
  refine zcq (!r6.2) rfl (fun hc10 => ?_) (fun hc10 => ?_)
  ·
   replace h := ite_t hc10 h
   refine zaj (zaf rfl (zag (zak (v := zF) rfl ?_)))
   refine zan (zbi ?_)
   obtain rfl := zah h
   refine ⟨[zF], zrt, ⟨_, rfl, hL10.done, ?_⟩⟩
   exact zrt
  replace h := ite_f hc10 h
  refine zbf (zaj (zaf rfl (zag (zai (v := l_v) rfl ?_))))
  obtain ⟨r10, q10, h⟩ := zec h
  have f10 := (f9.mono (K10 S))
  refine zag (zay en128 rfl rfl (cloneIneq_w N l l_v _ _ (f10.mono Hv.enter) r10 q10) ?_)
  rintro _ w11 hE11 ⟨ob10, cap10, cs10, sp10, rfl, hN10, hE12, hc11, -⟩
  replace hE12 := hE12.mono (Hv.aliasO (S := S) hL10 [ob10])
  have hp10 := hL10.adoptL hE11 hN10
  have hL11 := hp10.1
  have K11 := ks w hp10.2
  refine zag (zak (v := (zO ob10 r10 cap10)) rfl ?_)
  refine zan (zaj (zaj (zaf rfl (zag (zam (q := 0) zbk rfl ti67 rfl rfl rfl ?_)))))
  refine zag (zau (v := p_v) zcs rfl rfl (hL11.at 1 rfl rfl) rfl ?_)
  have f11 := (((p_h.mono (K4 S)).mono (K10 S)).mono (K11 S))
  refine zag (zbc (v := p_v) zcs rfl f11 ?_)
  refine zag (zai (v := (zI 0)) rfl (zan ?_))
  obtain ⟨s10, hl10, g10⟩ := zec h
  refine zbs (fun e w' => ∃ (e10 : (List Ineq)) (ob11 : Option Nat) (cap11 : Nat) (sp11 : List Value) (cs11 : List Value) (ln10 : Nat) (u : Env), (Sum.inl e10) = s10 ∧ e = upds [(3, (zal (some ⟨b1, 0, none⟩))), (7, (osv ob11 0 ln10 cap11))] u ∧ vL w w' [some b1, ob11] [zac [p_v, p_v1, (zab p.Bound.Negative), p_v2, p_v3], zac ([] ++ (cs11 ++ sp11))] ∧ Keep w.heap.size [ob10, some b1] w11 [some b1, ob11] w' ∧ Els rIneq (vH w S [some b1, ob11] w') cs11 e10 ∧ ln10 = List.length e10 ∧ (cs11 ++ sp11).length = cap11 * rIneq.sz ∧ True) ?_ ?_
  ·
   refine zbb ?_
   have hp11 := hL11.pick [1, 0] rfl rfl rfl
   have hL12 : vL w w11 [some b1, ob10] [zac [p_v, p_v1, (zab p.Bound.Negative), p_v2, p_v3], zac ([] ++ (cs10 ++ sp10))] := hp11.1
   have K12 := ks w hp11.2
   have f12 := (hE12.mono (K12 S))
   refine zcb hl10 (fun (ss : ((List Ineq) × Int)) (e : Env) (w' : World) => match ss with | (e11, x10) => ∃ (ob12 : Option Nat) (cap12 : Nat) (sp12 : List Value) (cs12 : List Value) (ln11 : Nat) (u : Env), e = upds [(3, (zal (some ⟨b1, 0, none⟩))), (7, (osv ob12 0 ln11 cap12)), (26, p_v), (27, (zI (p.Steps.length : Int))), (28, (zI x10))] u ∧ vL w w' [some b1, ob12] [zac [p_v, p_v1, (zab p.Bound.Negative), p_v2, p_v3], zac ([] ++ (cs12 ++ sp12))] ∧ Keep w.heap.size [ob10, some b1] w11 [some b1, ob12] w' ∧ Els rIneq (vH w S [some b1, ob12] w') cs12 e11 ∧ ln11 = List.length e11 ∧ (cs12 ++ sp12).length = cap12 * rIneq.sz ∧ True) ⟨ob10, cap10, sp10, cs10, r10.length, _, (zeg ⟨rfl, rfl, rfl, rfl, rfl, trivial⟩), hL12, K12, f12, rfl, hc11, trivial⟩ ?_
   rintro ⟨e11, x10⟩ oo _ w12 ⟨ob12, cap12, sp12, cs12, ln11, u, rfl, hL13, K13, hE13, rfl, hc12, -⟩ h hd10
   rw [cCheck_b1] at h
   refine zaj (zaf rfl (zag (zci (x := x10) (y := (p.Steps.length : Int)) ((x10 : Int) < (p.Steps.length : Int)) rfl rfl zbd ?_)))
   refine zan (zaj ?_)
   refine zba ((x10 : Int) < (p.Steps.length : Int)) rfl (fun hc13 => ?_) (fun hc13 => ?_)
   ·
    replace h := ite_t hc13 h
    refine zbf (zaj (zbb (zaj (zaf rfl ?_))))
    obtain ⟨x11, n10, q12, q13, -, h⟩ := zix h
    have f13 := (f11.mono (K13 S))
    obtain ⟨b10, o10, c10, vs10, q14, q15, f14, q16⟩ := zcw f13 q13
    obtain ⟨v10, v11, rfl, k10, k11, -⟩ := rStep_open q16
    refine zag (zbp (r := rStep) (v := p_v) (n := n10) (m := (o10 + n10 * rStep.sz)) zcs ti97 rfl q14 rfl q12 q13 rfl ?_)
    refine zag (zdl (vs := [v10, (zab x11.Divisor.Negative), v11]) zdg rfl ti97 rfl rfl zek f14 ?_)
    refine zag (zbw (cs := [zN, zF, zN]) ti97 rfl hL13 ?_)
    intro b11 w13 hL14 hS10
    have K14 := ks w hS10
    have f15 := (k11.mono (K14 S))
    have f16 := (k10.mono (K14 S))
    refine zcf (zbo (vs := [v10, (zab x11.Divisor.Negative), v11]) ti97 rfl rfl rfl rfl (zee f16.one (zee rfl (zee f15.one zej))) hL14 0 rfl rfl (zae rfl) ?_)
    intro w14 (hL15 : vL w w14 [some b11, some b1, ob12] [zac [v10, (zab x11.Divisor.Negative), v11], zac [p_v, p_v1, (zab p.Bound.Negative), p_v2, p_v3], zac ([] ++ (cs12 ++ sp12))]) hS11
    have K15 := ks w hS11
    refine zan (zaj (zaf rfl (zag (zai (v := (zO ob12 e11 cap12)) rfl ?_))))
    refine zag (zbj (vs := [v10, (zab x11.Divisor.Negative), v11]) zdg rfl ti97 rfl (hL15.at 0 rfl rfl) rfl rfl ?_)
    obtain ⟨r11, q17, h⟩ := zec h
    have f17 := ((hE13.mono (K14 S)).mono (K15 S))
    have f18 := (f16.mono (K15 S))
    have f19 := (f15.mono (K15 S))
    refine zag (zay en129 rfl rfl (cApply_w N e11 x11 (zO ob12 e11 cap12) v10 v11 _ Any (zel (pre := []) (o := 0) (n := e11.length) (cap := cap12) (hL15.at 2 rfl rfl) f17 vw_any rfl rfl rfl hc12) (f18.mono vw_any) (f19.mono vw_any) r11 q17) ?_)
    rintro _ w15 hE14 ⟨v12, v13, rfl, k12, k13, -⟩
    replace k12 := k12.mono (zbu (S := None) hL15 [])
    replace k13 := k13.mono (zbu (S := None) hL15 [])
    obtain ⟨hL16, K16⟩ := zl hL15 hE14
    refine zag (zai (v := (Value.tuple #[(zap #[v12, (zab r11.1.Bound.Negative), v13]), (zab r11.2)])) rfl ?_)
    refine zag (zdb (vs := [(zap #[v12, (zab r11.1.Bound.Negative), v13]), (zab r11.2)]) (v := (zap #[v12, (zab r11.1.Bound.Negative), v13])) rfl rfl ?_)
    refine zag (zdb (vs := [(zap #[v12, (zab r11.1.Bound.Negative), v13]), (zab r11.2)]) (v := (zab r11.2)) rfl rfl ?_)
    refine zag (zbw (cs := [zN, zF, zN]) ti123 rfl hL16 ?_)
    intro b12 w16 hL17 hS12
    have K17 := ks w hS12
    have f20 := (k13.mono (K17 None))
    have f21 := (k12.mono (K17 None))
    refine zcf (zbo (vs := [v12, (zab r11.1.Bound.Negative), v13]) ti123 rfl rfl rfl rfl (zee f21.one (zee rfl (zee f20.one zej))) hL17 0 rfl rfl (zae rfl) ?_)
    intro w17 (hL18 : vL w w17 [some b12, some b11, some b1, ob12] [zac [v12, (zab r11.1.Bound.Negative), v13], zac [v10, (zab x11.Divisor.Negative), v11], zac [p_v, p_v1, (zab p.Bound.Negative), p_v2, p_v3], zac ([] ++ (cs12 ++ sp12))]) hS13
    have K18 := ks w hS13
    refine zag (zak (v := (zab r11.2)) rfl ?_)
    refine zan (zaj (zaj (zaf rfl (zag (zai (v := (zab r11.2)) rfl ?_)))))
    refine zag (zeb (x := r11.2) rfl (zan ?_))
    refine zcq (!r11.2) rfl (fun hc14 => ?_) (fun hc14 => ?_)
    ·
     replace h := ite_t hc14 h
     refine zaj (zaf rfl (zag (zak (v := zF) rfl ?_)))
     refine zan (zbi ?_)
     obtain rfl := zah h
     obtain rfl := hd10 _ rfl
     replace h := g10
     try dsimp only at h
     obtain rfl := zah h
     refine ⟨[zF], zrt, ⟨_, rfl, hL18.done, ?_⟩⟩
     exact zrt
    replace h := ite_f hc14 h
    refine zbf (zaf rfl (zag (zai (v := (zO ob12 e11 cap12)) rfl ?_)))
    refine zag (zbj (vs := [v12, (zab r11.1.Bound.Negative), v13]) zbl rfl ti123 rfl (hL18.at 0 rfl rfl) rfl rfl ?_)
    have f22 := (f21.mono (K18 None))
    have f23 := (f20.mono (K18 None))
    have hE15 : Els rIneq (vH w None [some b12, some b11, some b1, ob12] w17) [v12, (zab r11.1.Bound.Negative), v13] [r11.1] := (zcp (a := [v12, (zab r11.1.Bound.Negative), v13]) (rIneq_close ⟨v12, v13, rfl, f22, f23, trivial⟩) zcm)
    refine zag (zch (r := rIneq) (vs := [(zap #[v12, (zab r11.1.Bound.Negative), v13])]) (css := [[v12, (zab r11.1.Bound.Negative), v13]]) (xs := [r11.1]) zcn ti123 (zae rfl) rfl rfl ⟨rfl, rfl, trivial⟩ (zae rfl) hE15 rfl hL18 ?_)
    intro b13 w18 hc15 hL19 hS14
    have K19 := ks w hS14
    obtain ⟨x12, q18, h⟩ := zec h
    obtain ⟨q19, q20, q21⟩ := zeq q18
    have f24 := (hE15.mono (K19 None))
    have f25 := ((((f17.mono (K16 S)).mono (K17 S)).mono (K18 S)).mono (K19 S))
    refine zag (zdn (r := rIneq) (H := (vH w S [some b13, some b12, some b11, some b1, ob12] w18)) (cs := cs12) (sp := sp12) (xs := e11) (ys := [r11.1]) (Y := x12) (n := e11.length) (cap := cap12) (i := 4) zcn ti123 rfl rfl rfl rfl hL19 rfl rfl f25 rfl hc12 (Src.row (pre := []) (o := 0) (n := 1) (cap := 1) (hL19.at 0 rfl rfl) f24 rfl rfl rfl) (f24.mono Hv.none) q19 q20 q21 ?_)
    intro ob13 cap13 sp13 cs13 w19 hE16 hc16 (hL20 : vL w w19 [some b13, some b12, some b11, some b1, ob13] [zac ([] ++ ([v12, (zab r11.1.Bound.Negative), v13] ++ [])), zac [v12, (zab r11.1.Bound.Negative), v13], zac [v10, (zab x11.Divisor.Negative), v11], zac [p_v, p_v1, (zab p.Bound.Negative), p_v2, p_v3], zac ([] ++ (cs13 ++ sp13))]) hS15
    have K20 := ks w hS15
    refine zag (zak (v := (zO ob13 x12 cap13)) rfl ?_)
    refine zan (zbn (zaf rfl (zag (zbz (x := x10) (y := 1) (z := (iw (x10 + 1))) rfl rfl rfl ?_))))
    refine zag (zai (v := (zI (iw (x10 + 1)))) rfl (zan ?_))
    have hp12 := hL20.pick [3, 4] rfl rfl rfl
    have hL21 : vL w w19 [some b1, ob13] [zac [p_v, p_v1, (zab p.Bound.Negative), p_v2, p_v3], zac ([] ++ (cs13 ++ sp13))] := hp12.1
    have K21 := ks w hp12.2
    have f26 := ((hE16.mono (K20 S)).mono (K21 S))
    obtain rfl := zah h
    refine zaq ⟨(x12, (iw (x10 + 1))), rfl, ?_⟩
    exact ⟨ob13, cap13, sp13, cs13, x12.length, _, (zeg ⟨rfl, rfl, rfl, rfl, rfl, trivial⟩), hL21, (zao (zao (zao (zao (zao (zao (zao (zao K13 K14) K15) K16) K17) K18) K19) K20) K21), f26, rfl, hc16, trivial⟩
   replace h := ite_f hc13 h
   refine zck rfl ?_
   obtain rfl := zah h
   obtain rfl := hd10 _ rfl
   replace h := g10
   try dsimp only at h
   refine zaq ?_
   exact ⟨e11, ob12, cap12, sp12, cs12, e11.length, _, rfl, (zeg ⟨rfl, rfl, trivial⟩), hL13, K13, hE13, rfl, hc12, trivial⟩
  rintro _ w20 ⟨e10, ob11, cap11, sp11, cs11, ln10, u, rfl, rfl, hL22, K22, hE17, rfl, hc17, -⟩
  replace h := g10
  try dsimp only at h
  refine zaj (zaj (zaf rfl (zag (zam (q := 4) zbk rfl ti68 rfl rfl rfl ?_))))
  refine zag (zau (v := p_v3) zcg rfl rfl (hL22.at 0 rfl rfl) rfl ?_)
  have f27 := ((((p_h3.mono (K4 S)).mono (K10 S)).mono (K11 S)).mono (K22 S))
  refine zag (zbc (v := p_v3) zcg rfl f27 ?_)
  refine zan (zbb (zaj (zaf rfl (zag (zdp (x := (p.Children.length : Int)) (y := 0) (((p.Children.length : Int) : Int) = 0) rfl rfl zbd ?_)))))
  refine zag (zak (v := (zab (decide (((p.Children.length : Int) : Int) = 0)))) rfl (zan ?_))
  refine zba (((p.Children.length : Int) : Int) = 0) rfl (fun hc18 => ?_) (fun hc18 => ?_)
  ·
   replace h := ite_t hc18 h
   refine zaj (zaf rfl (zag (zai (v := (zO ob11 e10 cap11)) rfl ?_)))
   obtain ⟨r12, q22, h⟩ := zec h
   refine zag (zay en130 rfl rfl (containsIneq_w N e10 (fun y10 => cContradictory N y10) (zO ob11 e10 cap11) (Value.func (.func 131) #[] #[]) _ Any (zel (pre := []) (o := 0) (n := e10.length) (cap := cap11) (hL22.at 1 rfl rfl) hE17 vw_any rfl rfl rfl hc17) (fun w9 hE9 y11 v14 v15 k14 k15 z9 hz9 => ⟨131, [], rfl, en131, (cContradictory_w N y11 v14 v15 _ Any (k14.mono vw_any) (k15.mono vw_any) z9 hz9)⟩) r12 q22) ?_)
   rintro _ w21 hE18 ⟨rfl, -⟩
   have hL23 := hL22.ext hE18
   refine zag (zak (v := (zab r12)) rfl ?_)
   refine zan (zbi ?_)
   obtain rfl := zah h
   refine ⟨[(zab r12)], zrt, ⟨_, rfl, hL23.done, ?_⟩⟩
   exact zrt
  replace h := ite_f hc18 h
  refine zaj (zaf rfl (zag (zdp (x := (p.Children.length : Int)) (y := 2) (((p.Children.length : Int) : Int) = 2) rfl rfl zbd ?_)))
  refine zag (zak (v := (zab (decide (((p.Children.length : Int) : Int) = 2)))) rfl (zan ?_))
  refine zba (((p.Children.length : Int) : Int) = 2) rfl (fun hc19 => ?_) (fun hc19 => ?_)
  ·
   replace h := ite_t hc19 h
   refine zbf (zbn (zaj (zaj (zaf rfl (zag (zai (v := (zO ob11 e10 cap11)) rfl ?_))))))
   obtain ⟨r13, q23, h⟩ := zec h
   refine zag (zay en127 rfl rfl (cwidth_w N e10 (zO ob11 e10 cap11) _ Any (zel (pre := []) (o := 0) (n := e10.length) (cap := cap11) (hL22.at 1 rfl rfl) hE17 vw_any rfl rfl rfl hc17) r13 q23) ?_)
   rintro _ w22 hE19 ⟨rfl, -⟩
   obtain ⟨hL24, K23⟩ := zl hL22 hE19
   refine zag (zai (v := (Value.tuple #[(zI r13.1), (zab r13.2)])) rfl ?_)
   refine zag (zdb (vs := [(zI r13.1), (zab r13.2)]) (v := (zI r13.1)) rfl rfl ?_)
   refine zag (zdb (vs := [(zI r13.1), (zab r13.2)]) (v := (zab r13.2)) rfl rfl ?_)
   refine zag (zak (v := (zI r13.1)) rfl ?_)
   refine zag (zak (v := (zab r13.2)) rfl ?_)
   refine zan (zaj ?_)
   obtain ⟨s11, h, g11⟩ := zec h
   refine zbs (fun e w' => ∃ (x13 : Bool) (u : Env), x13 = s11 ∧ e = upds [(3, (zal (some ⟨b1, 0, none⟩))), (7, (zO ob11 e10 cap11)), (68, (zab x13))] u ∧ vL w w' [some b1, ob11] [zac [p_v, p_v1, (zab p.Bound.Negative), p_v2, p_v3], zac ([] ++ (cs11 ++ sp11))] ∧ Keep w.heap.size [some b1, ob11] w22 [some b1, ob11] w' ∧ True) ?_ ?_
   ·
    refine zaf rfl (zag (zai (v := (zO ob11 e10 cap11)) rfl ?_))
    have f28 := (hE17.mono (K23 S))
    refine zag (OpY.lenRow (pre := []) (r := rIneq) (xs := e10) zcn rfl (hL24.at 1 rfl rfl) f28 rfl rfl ?_)
    refine zag (OpY.gtr (x := (e10.length : Int)) (y := 0) (((e10.length : Int) : Int) > 0) rfl rfl zbd ?_)
    refine zag (zai (v := (zab (decide (((e10.length : Int) : Int) > 0)))) rfl ?_)
    by_cases hc20 : ((e10.length : Int) : Int) > 0
    ·
     replace h := ite_t hc20 h
     refine zbt rfl rfl (zef hc20) (zam (q := 1) zbk rfl ti51 rfl rfl rfl ?_)
     refine zbt rfl rfl (zef hc20) (zau (v := p_v1) zbh rfl rfl (hL24.at 0 rfl rfl) rfl ?_)
     have f29 := (((((p_h1.mono (K4 S)).mono (K10 S)).mono (K11 S)).mono (K22 S)).mono (K23 S))
     refine zbt rfl rfl (zef hc20) (zbc (v := p_v1) zbh rfl f29 ?_)
     refine zbt rfl rfl (zef hc20) (zai (v := (zI r13.1)) rfl ?_)
     refine zbt rfl rfl (zef hc20) (OpY.neq (x := (p.Form.length : Int)) (y := r13.1) (((p.Form.length : Int) : Int) ≠ r13.1) rfl rfl zbd ?_)
     refine zag (zce (t := (decide (((e10.length : Int) : Int) > 0))) (v := (zab (decide (((p.Form.length : Int) : Int) ≠ r13.1)))) rfl (zef hc20) rfl (zan ?_))
     obtain rfl := zah h
     refine zaq ?_
     exact ⟨(decide (((p.Form.length : Int) : Int) ≠ r13.1)), _, rfl, (zeg ⟨rfl, rfl, rfl, trivial⟩), hL24, zbq, trivial⟩
    replace h := ite_f hc20 h
    refine zcl rfl rfl (zed hc20) (zcl rfl rfl (zed hc20) (zcl rfl rfl (zed hc20) (zcl rfl rfl (zed hc20) (zcl rfl rfl (zed hc20) ?_))))
    refine zag (zcv (t := (decide (((e10.length : Int) : Int) > 0))) (v := zF) rfl (zed hc20) rfl (zan ?_))
    obtain rfl := zah h
    refine zaq ?_
    exact ⟨false, _, rfl, (zeg ⟨rfl, rfl, rfl, trivial⟩), hL24, zbq, trivial⟩
   rintro _ w23 ⟨x13, u, rfl, rfl, hL25, K24, -⟩
   replace h := g11
   try dsimp only at h
   refine zcq x13 rfl (fun hc21 => ?_) (fun hc21 => ?_)
   ·
    replace h := ite_t hc21 h
    refine zaj (zaf rfl (zag (zak (v := zF) rfl ?_)))
    refine zan (zbi ?_)
    obtain rfl := zah h
    refine ⟨[zF], zrt, ⟨_, rfl, hL25.done, ?_⟩⟩
    exact zrt
   replace h := ite_f hc21 h
   refine zbf (zaj (zaf rfl (zag (zam (q := 1) zbk rfl ti51 rfl rfl rfl ?_))))
   refine zag (zau (v := p_v1) zbh rfl rfl (hL25.at 0 rfl rfl) rfl ?_)
   refine zag (zam (q := 2) zbk rfl ti57 rfl rfl rfl ?_)
   refine zag (zbj (vs := [(zab p.Bound.Negative), p_v2]) zar rfl ti57 rfl (hL25.at 0 rfl rfl) rfl rfl ?_)
   have f30 := ((((((p_h1.mono (K4 S)).mono (K10 S)).mono (K11 S)).mono (K22 S)).mono (K23 S)).mono (K24 S))
   refine zag (zcc (zc := [zN, zF, zN]) (cs := [p_v1, (zab p.Bound.Negative), p_v2]) (is := [0, 1]) (vs := [p_v1, (zap #[(zab p.Bound.Negative), p_v2])]) (css := [[p_v1], [(zab p.Bound.Negative), p_v2]]) pl123 ti123 rfl rfl rfl ⟨(zen f30.one), zrt⟩ rfl ?_)
   refine zag (zbw (cs := [zN, zF, zN]) ti123 rfl hL25 ?_)
   intro b14 w24 hL26 hS16
   have K25 := ks w hS16
   have f31 := (((((((p_h2.mono (K4 S)).mono (K10 S)).mono (K11 S)).mono (K22 S)).mono (K23 S)).mono (K24 S)).mono (K25 S))
   have f32 := (f30.mono (K25 S))
   refine zcf (zbo (vs := [p_v1, (zab p.Bound.Negative), p_v2]) ti123 rfl rfl rfl rfl (zee f32.one (zee rfl (zee f31.one zej))) hL26 0 rfl rfl (zae rfl) ?_)
   intro w25 (hL27 : vL w w25 [some b14, some b1, ob11] [zac [p_v1, (zab p.Bound.Negative), p_v2], zac [p_v, p_v1, (zab p.Bound.Negative), p_v2, p_v3], zac ([] ++ (cs11 ++ sp11))]) hS17
   have K26 := ks w hS17
   refine zan (zaj ?_)
   obtain ⟨r14, q24, h⟩ := zec h
   obtain ⟨r15, q25, h⟩ := zec h
   obtain ⟨r16, q26, h⟩ := zec h
   obtain ⟨r17, q27, h⟩ := zec h
   refine zcj 9 [] [] (fun W1 => [.det (zal (some ⟨b1, 1, none⟩)), .det p_v1, .det (zal (some ⟨b1, 2, none⟩)), .det (zap #[(zab p.Bound.Negative), p_v2]), .rel (fun v Z w' => ∃ v16, (zap #[(zab r14.Negative), v16]) = v ∧ Rs (rInt .u32) (vZ W1 w None [some b14, some b1, ob11] Z w') v16 r14.Digits ∧ True) (fun _ => []), .rel (fun v Z w' => ∃ v17, (zap #[(zab r15.Negative), v17]) = v ∧ Rs (rInt .u32) (vZ W1 w None [some b14, some b1, ob11] Z w') v17 r15.Digits ∧ True) (fun _ => []), .rel (fun v Z w' => ∃ v18, (zap #[(zab r16.Negative), v18]) = v ∧ Rs (rInt .u32) (vZ W1 w None [some b14, some b1, ob11] Z w') v18 r16.Digits ∧ True) (fun _ => []), .rel (fun v Z w' => ∃ v19 v20, (zap #[v19, (zab r17.Bound.Negative), v20]) = v ∧ Rs rBig (vZ W1 w None [some b14, some b1, ob11] Z w') v19 r17.Coefs ∧ Rs (rInt .u32) (vZ W1 w None [some b14, some b1, ob11] Z w') v20 r17.Bound.Digits ∧ True) (fun _ => []), .rel (fun v Z w' => ∃ b15, (zal (some ⟨b15, 0, none⟩)) = v ∧ OwnC w' (some b15) (zac [zN, zF, zN]) ∧ True) footV]) mixed rfl rfl rfl (fun _ => rfl) (fun _ => rfl) ?_ ?_
   ·
    intro W1 _
    exact ⟨fun v Z Z' w w' hΦ hz _ _ hs => by obtain ⟨v16, rfl, k16, -⟩ := hΦ; exact ⟨v16, rfl, (k16.mono (zdo hz hs)), trivial⟩, ⟨fun v Z Z' w w' hΦ hz _ _ hs => by obtain ⟨v17, rfl, k17, -⟩ := hΦ; exact ⟨v17, rfl, (k17.mono (zdo hz hs)), trivial⟩, ⟨fun v Z Z' w w' hΦ hz _ _ hs => by obtain ⟨v18, rfl, k18, -⟩ := hΦ; exact ⟨v18, rfl, (k18.mono (zdo hz hs)), trivial⟩, ⟨fun v Z Z' w w' hΦ hz _ _ hs => by obtain ⟨v19, v20, rfl, k19, k20, -⟩ := hΦ; exact ⟨v19, v20, rfl, (k19.mono (zdo hz hs)), (k20.mono (zdo hz hs)), trivial⟩, ⟨fun v Z Z' w w' hΦ hz _ _ hs => by obtain ⟨b15, rfl, hO10, -⟩ := hΦ; exact ⟨b15, rfl, (hO10.stay (fun b hb => by cases hb; exact zbm) hs), trivial⟩, trivial⟩⟩⟩⟩⟩
   intro w26 hE20
   obtain ⟨hL28, K27⟩ := zl hL27 hE20
   refine zat (fun _ _ => zaw (zam zbk rfl ti51 rfl rfl rfl (er rfl))) ?_
   refine zat (fun _ hE22 => zaw (zau zbh rfl rfl ((hL28.ext hE22).at 1 rfl rfl) rfl (er rfl))) ?_
   refine zat (fun _ _ => zaw (zam zbk rfl ti57 rfl rfl rfl (er rfl))) ?_
   refine zat (fun _ hE24 => zaw (zbj (vs := [(zab p.Bound.Negative), p_v2]) zar rfl ti57 rfl ((hL28.ext hE24).at 1 rfl rfl) rfl rfl (er rfl))) ?_
   refine zdq ?_ ?_
   ·
    rintro w31 Z24 hE25 hZ14 ⟨-⟩
    have K28 := ke hL28 hE25
    refine zaw (zay en134 rfl rfl (bNeg_w N p.Bound p_v2 _ Any ((((f31.mono (K26 S)).mono (K27 S)).mono (K28 S)).mono vw_any) r14 q24) ?_)
    rintro _ w32 hE26 ⟨v16, rfl, k16, -⟩
    exact zdf hE26 hZ14 zco (fun _ h => h) ⟨v16, rfl, (k16.mono zdr), trivial⟩
   intro z4
   refine zdq ?_ ?_
   ·
    rintro w33 Z25 hE27 hZ15 ⟨⟨⟨v16, rfl, k16, -⟩, hB4⟩, -⟩
    refine zaw (zay en135 rfl rfl (bOf_w N 1 _ Any r15 q25) ?_)
    rintro _ w34 hE28 ⟨v17, rfl, k17, -⟩
    exact zdf hE28 hZ15 zco (fun _ h => h) ⟨v17, rfl, (k17.mono zdr), trivial⟩
   intro z5
   refine zdq ?_ ?_
   ·
    rintro w35 Z26 hE29 hZ16 ⟨⟨⟨v17, rfl, k17, -⟩, hB5⟩, ⟨⟨v16, rfl, k16, -⟩, hB4⟩, -⟩
    refine zaw (zay en133 rfl rfl (bSub_w N r14 r15 v16 v17 _ Any (k16.mono vw_any) (k17.mono vw_any) r16 q26) ?_)
    rintro _ w36 hE30 ⟨v18, rfl, k18, -⟩
    exact zdf hE30 hZ16 zco (fun _ h => h) ⟨v18, rfl, (k18.mono zdr), trivial⟩
   intro z6
   refine zdq ?_ ?_
   ·
    rintro w37 Z27 hE31 hZ17 ⟨⟨⟨v18, rfl, k18, -⟩, hB6⟩, -, -, -⟩
    have K29 := ke hL28 hE31
    refine zaw (zay en132 rfl rfl (negated_w N p.Form r16 p_v1 v18 _ Any ((((f32.mono (K26 S)).mono (K27 S)).mono (K29 S)).mono vw_any) (k18.mono vw_any) r17 q27) ?_)
    rintro _ w38 hE32 ⟨v19, v20, rfl, k19, k20, -⟩
    exact zdf hE32 hZ17 zco (fun _ h => h) ⟨v19, v20, rfl, (k19.mono zdr), (k20.mono zdr), trivial⟩
   intro z7
   refine zdq ?_ ?_
   ·
    rintro w39 Z28 hE33 hZ18 ⟨-, -, -, -, -⟩
    refine zaw (zbw (cs := [zN, zF, zN]) ti123 rfl (Go.X.Loc.begin0 w39) ?_)
    intro b15 w40 hL31 hS18
    have hN11 : NewOwn w39 w40 [some b15] [zac [zN, zF, zN]] := hL31.newOwn [0] rfl rfl rfl
    exact zdf hL31.done hZ18 hN11 (fun _ h => h) ⟨b15, rfl, hN11.2.2.1, trivial⟩
   intro z8
   refine zcx ?_
   rintro w41 Z29 hE34 hZ19 ⟨⟨⟨b15, rfl, hO10, -⟩, hB8⟩, ⟨⟨v19, v20, rfl, k19, k20, -⟩, hB7⟩, ⟨⟨v18, rfl, k18, -⟩, hB6⟩, ⟨⟨v17, rfl, k17, -⟩, hB5⟩, ⟨⟨v16, rfl, k16, -⟩, hB4⟩, -⟩ ap10
   have hB10 : ∀ b, some b ∈ ([some b15] : List (Option Nat)) → w26.heap.size ≤ b ∧ ¬ Z29 b := by
    intro b hb
    rcases List.mem_cons.1 hb with hb' | hb
    ·
     have := hB8 b (by rw [hb']; exact zbm); exact ⟨this.1, this.2.2⟩
    cases hb
   replace k19 := k19.mono (zdw hL28 hZ19 hB10)
   replace k20 := k20.mono (zdw hL28 hZ19 hB10)
   replace k18 := k18.mono (zdw hL28 hZ19 hB10)
   replace k17 := k17.mono (zdw hL28 hZ19 hB10)
   replace k16 := k16.mono (zdw hL28 hZ19 hB10)
   have hN12 : NewOwn w26 w41 [some b15] [zac [zN, zF, zN]] := (zdt zco hO10 (fun b hb => (hB10 b (by rw [← hb]; simp)).1) (fun b _ hb => by cases hb))
   have hp13 := hL28.adoptL hE34 hN12
   have hL32 := hp13.1
   refine zcf (zbo (vs := [v19, (zab r17.Bound.Negative), v20]) ti123 rfl rfl rfl rfl (zee k19.one (zee rfl (zee k20.one zej))) hL32 0 rfl rfl (zae rfl) ?_)
   intro w42 (hL33 : vL w w42 [some b15, some b14, some b1, ob11] [zac [v19, (zab r17.Bound.Negative), v20], zac [p_v1, (zab p.Bound.Negative), p_v2], zac [p_v, p_v1, (zab p.Bound.Negative), p_v2, p_v3], zac ([] ++ (cs11 ++ sp11))]) hS19
   refine zan (zaj (zaf rfl (zag (zai (v := (zO ob11 e10 cap11)) rfl ?_))))
   cases h
  replace h := ite_f hc19 h
  refine zaj (zaf rfl (zag (zak (v := zF) rfl ?_)))
  refine zan (zbi ?_)
  obtain rfl := zah h
  refine ⟨[zF], zrt, ⟨_, rfl, hL22.done, ?_⟩⟩
  exact zrt
theorem cSize_w (N : Nat) : ∀ (p : Proof) (p_v : Value) (p_v1 : Value) (p_v2 : Value) (p_v3 : Value) (w : World) (S : Nat → Prop) (p_h : Rs rStep (vH w S [] w) p_v p.Steps) (p_h1 : Rs rBig (vH w S [] w) p_v1 p.Form) (p_h2 : Rs (rInt .u32) (vH w S [] w) p_v2 p.Bound.Digits) (p_h3 : Rs rProof (vH w S [] w) p_v3 p.Children) (r : Int) (h : cSize N p = some r), Calls Tryz.prog 65 #[(zap #[p_v, p_v1, (zab p.Bound.Negative), p_v2, p_v3])] w (Ret w (fun v w' => (zI r) = v ∧ True)) := by
 induction N with
 | zero => intro p p_v p_v1 p_v2 p_v3 w S p_h p_h1 p_h2 p_h3 r h; cases (show (none : Option Int) = some r from h)
 | succ N ih =>
  intro p p_v p_v1 p_v2 p_v3 w S p_h p_h1 p_h2 p_h3 r h
  replace h : cSize_step N (cSize N) p = some r := h
  unfold cSize_step at h
  have hL : vL w w [] [] := Go.X.Loc.begin0 w
  refine calls_of (l := [(zap #[p_v, p_v1, (zab p.Bound.Negative), p_v2, p_v3])]) (rl := [.tmp 2]) (n := 28) Tryz.func65 rfl rfl rfl (zae rfl) ?_
  refine zaj (zaf rfl (zag (zdj (cs := [p_v, p_v1, (zab p.Bound.Negative), p_v2, p_v3]) rfl rfl hL ?_)))
  intro b1 w2 hL3 hS5
  have K4 := ks w hS5
  refine zag (zak (v := (zI 0)) rfl ?_)
  refine zan (zaj (zaf rfl (zag (zam (q := 0) zbk rfl ti67 rfl rfl rfl ?_))))
  refine zag (zau (v := p_v) zcs rfl rfl (hL3.at 0 rfl rfl) rfl ?_)
  have f6 := (p_h.mono (K4 S))
  refine zag (zbc (v := p_v) zcs rfl f6 ?_)
  refine zag (zak (v := (zI (p.Steps.length : Int))) rfl ?_)
  refine zan (zaj (zaj (zaf rfl (zag (zam (q := 4) zbk rfl ti68 rfl rfl rfl ?_)))))
  refine zag (zau (v := p_v3) zcg rfl rfl (hL3.at 0 rfl rfl) rfl ?_)
  have f7 := (p_h3.mono (K4 S))
  refine zag (zbc (v := p_v3) zcg rfl f7 ?_)
  refine zag (OpY.gtr (x := (p.Children.length : Int)) (y := 0) (((p.Children.length : Int) : Int) > 0) rfl rfl zbd (zan ?_))
  obtain ⟨s10, h, g10⟩ := zec h
  refine zbs (fun e w' => ∃ (n10 : Int) (u : Env), n10 = s10 ∧ e = upds [(1, (zal (some ⟨b1, 0, none⟩))), (3, (zI n10))] u ∧ vL w w' [some b1] [zac [p_v, p_v1, (zab p.Bound.Negative), p_v2, p_v3]] ∧ Keep w.heap.size [some b1] w2 [some b1] w' ∧ True) ?_ ?_
  ·
   refine zba (((p.Children.length : Int) : Int) > 0) rfl (fun hc10 => ?_) (fun hc10 => ?_)
   ·
    replace h := ite_t hc10 h
    refine zaf rfl (zag (zai (v := (zI (p.Steps.length : Int))) rfl ?_))
    refine zag (zbz (x := (p.Steps.length : Int)) (y := 1) (z := (iw ((p.Steps.length : Int) + 1))) rfl rfl rfl ?_)
    refine zag (zak (v := (zI (iw ((p.Steps.length : Int) + 1)))) rfl (zan ?_))
    obtain rfl := zah h
    refine zaq ?_
    exact ⟨(iw ((p.Steps.length : Int) + 1)), _, rfl, (zeg ⟨rfl, rfl, trivial⟩), hL3, zbq, trivial⟩
   replace h := ite_f hc10 h
   refine zbf ?_
   obtain rfl := zah h
   refine zaq ?_
   exact ⟨(p.Steps.length : Int), _, rfl, (zeg ⟨rfl, rfl, trivial⟩), hL3, zbq, trivial⟩
  rintro _ w10 ⟨n10, u, rfl, rfl, hL10, K10, -⟩
  replace h := g10
  try dsimp only at h
  refine zaj (zaj (zaf rfl (zag (zam (q := 4) zbk rfl ti68 rfl rfl rfl ?_))))
  refine zag (zau (v := p_v3) zcg rfl rfl (hL10.at 0 rfl rfl) rfl ?_)
  have f10 := (f7.mono (K10 S))
  refine zag (zbc (v := p_v3) zcg rfl f10 ?_)
  refine zag (zai (v := (zI 0)) rfl (zan ?_))
  obtain ⟨s11, hl10, g11⟩ := zec h
  refine zbs (fun e w' => ∃ (n11 : Int) (u : Env), n11 = s11 ∧ e = upds [(3, (zI n11))] u ∧ vL w w' [] [] ∧ Keep w.heap.size [some b1] w10 [] w' ∧ True) ?_ ?_
  ·
   refine zbb ?_
   have hp10 := hL10.pick [] rfl rfl rfl
   have hL11 : vL w w10 [] [] := hp10.1
   have K11 := ks w hp10.2
   refine zcb hl10 (fun (ss : (Int × Int)) (e : Env) (w' : World) => match ss with | (n12, x10) => ∃ (u : Env), e = upds [(3, (zI n12)), (16, p_v3), (17, (zI (p.Children.length : Int))), (18, (zI x10))] u ∧ vL w w' [] [] ∧ Keep w.heap.size [some b1] w10 [] w' ∧ True) ⟨_, (zeg ⟨rfl, rfl, rfl, rfl, trivial⟩), hL11, K11, trivial⟩ ?_
   rintro ⟨n12, x10⟩ oo _ w11 ⟨u, rfl, hL12, K12, -⟩ h hd10
   rw [cSize_b1] at h
   refine zaj (zaf rfl (zag (zci (x := x10) (y := (p.Children.length : Int)) ((x10 : Int) < (p.Children.length : Int)) rfl rfl zbd ?_)))
   refine zan (zaj ?_)
   refine zba ((x10 : Int) < (p.Children.length : Int)) rfl (fun hc11 => ?_) (fun hc11 => ?_)
   ·
    replace h := ite_t hc11 h
    refine zbf (zaj (zbb (zaj (zaf rfl ?_))))
    obtain ⟨x11, n13, q11, q12, -, h⟩ := zix h
    have f11 := (f10.mono (K12 S))
    obtain ⟨b10, o10, c10, vs10, q13, q14, f12, q15⟩ := zcw f11 q12
    obtain ⟨v10, v11, v12, v13, rfl, k10, k11, k12, k13, -⟩ := rProof_open q15
    refine zag (zbp (r := rProof) (v := p_v3) (n := n13) (m := (o10 + n13 * rProof.sz)) zcg ti70 rfl q13 rfl q11 q12 rfl ?_)
    refine zag (zdl (vs := [v10, v11, (zab x11.Bound.Negative), v12, v13]) zbk rfl ti70 rfl rfl zek f12 ?_)
    refine zag (zbw (cs := [zN, zN, zF, zN, zN]) ti70 rfl hL12 ?_)
    intro b11 w12 hL13 hS10
    have K13 := ks w hS10
    have f13 := (k13.mono (K13 S))
    have f14 := (k12.mono (K13 S))
    have f15 := (k11.mono (K13 S))
    have f16 := (k10.mono (K13 S))
    refine zcf (zbo (vs := [v10, v11, (zab x11.Bound.Negative), v12, v13]) ti70 rfl rfl rfl rfl (zee f16.one (zee f15.one (zee rfl (zee f14.one (zee f13.one zej))))) hL13 0 rfl rfl (zae rfl) ?_)
    intro w13 (hL14 : vL w w13 [some b11] [zac [v10, v11, (zab x11.Bound.Negative), v12, v13]]) hS11
    have K14 := ks w hS11
    refine zan (zaf rfl (zag (zai (v := (zI n12)) rfl ?_)))
    refine zag (zbj (vs := [v10, v11, (zab x11.Bound.Negative), v12, v13]) zbk rfl ti70 rfl (hL14.at 0 rfl rfl) rfl rfl ?_)
    obtain ⟨r10, q16, h⟩ := zec h
    have f17 := (f16.mono (K14 S))
    have f18 := (f15.mono (K14 S))
    have f19 := (f14.mono (K14 S))
    have f20 := (f13.mono (K14 S))
    refine zag (zay en65 rfl rfl (ih x11 v10 v11 v12 v13 _ Any (f17.mono vw_any) (f18.mono vw_any) (f19.mono vw_any) (f20.mono vw_any) r10 q16) ?_)
    rintro _ w14 hE10 ⟨rfl, -⟩
    obtain ⟨hL15, K15⟩ := zl hL14 hE10
    refine zag (zbz (x := n12) (y := r10) (z := (iw (n12 + r10))) rfl rfl rfl ?_)
    refine zag (zak (v := (zI (iw (n12 + r10)))) rfl ?_)
    refine zan (zbn (zaf rfl (zag (zbz (x := x10) (y := 1) (z := (iw (x10 + 1))) rfl rfl rfl ?_))))
    refine zag (zai (v := (zI (iw (x10 + 1)))) rfl (zan ?_))
    have hp11 := hL15.pick [] rfl rfl rfl
    have hL16 : vL w w14 [] [] := hp11.1
    have K16 := ks w hp11.2
    obtain rfl := zah h
    refine zaq ⟨((iw (n12 + r10)), (iw (x10 + 1))), rfl, ?_⟩
    exact ⟨_, (zeg ⟨rfl, rfl, rfl, rfl, trivial⟩), hL16, (zao (zao (zao (zao K12 K13) K14) K15) K16), trivial⟩
   replace h := ite_f hc11 h
   refine zck rfl ?_
   obtain rfl := zah h
   obtain rfl := hd10 _ rfl
   replace h := g11
   try dsimp only at h
   refine zaq ?_
   exact ⟨n12, _, rfl, (zeg zrt), hL12, K12, trivial⟩
  rintro _ w15 ⟨n11, u, rfl, rfl, hL17, K17, -⟩
  replace h := g11
  try dsimp only at h
  refine zaj (zaf rfl (zag (zai (v := (zI n11)) rfl ?_)))
  refine zag (zak (v := (zI n11)) rfl ?_)
  refine zan (zbi ?_)
  obtain rfl := zah h
  refine ⟨[(zI n11)], zrt, ⟨_, rfl, hL17.done, ?_⟩⟩
  exact zrt
end Go.Proofs.YtcakdidcpoolcaaGreatDoor.WC

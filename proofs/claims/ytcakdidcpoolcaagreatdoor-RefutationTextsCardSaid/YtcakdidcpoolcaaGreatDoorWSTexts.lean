/- Walks, written by a program of mine (wip/tool); the kernel checks them. -/
import Derived.Test.YtcakdidcpoolcaaGreatDoorProg
import Derived.Test.YtcakdidcpoolcaaGreatDoorSqTexts
import Derived.Test.YtcakdidcpoolcaaGreatDoorF25
import Derived.Test.YtcakdidcpoolcaaGreatDoorPS
import Derived.Test.YtcakdidcpoolcaaGreatDoorWATexts
import Derived.Test.YtcakdidcpoolcaaGreatDoorWRTexts
import Derived.Test.YtcakdidcpoolcaaGreatDoorWBTexts
import Derived.Test.YtcakdidcpoolcaaGreatDoorWCTexts
import Derived.Test.YtcakdidcpoolcaaGreatDoorWITexts
set_option maxRecDepth 100000
set_option maxHeartbeats 40000000
set_option linter.unusedVariables false
set_option linter.unusedSimpArgs false
namespace Go.Proofs.YtcakdidcpoolcaaGreatDoor.WS
open Go Go.RowKit Go.X Go.D Go.Proofs.YtcakdidcpoolcaaGreatDoor.WF Go.Proofs.YtcakdidcpoolcaaGreatDoor.WA Go.Proofs.YtcakdidcpoolcaaGreatDoor.WR Go.Proofs.YtcakdidcpoolcaaGreatDoor.WB Go.Proofs.YtcakdidcpoolcaaGreatDoor.WC Go.Proofs.YtcakdidcpoolcaaGreatDoor.WI
theorem en74 : Go.X.Enters Tryz.prog 74 := ⟨Tryz.f74, Tryz.func74, by kernel_rfl, by kernel_rfl⟩
theorem en107 : Go.X.Enters Tryz.prog 107 := ⟨Tryz.f107, Tryz.func107, by kernel_rfl, by kernel_rfl⟩
theorem ti83 : TI Tryz.prog 83 5 40 (zar #[(zI 0), (zI 0), (zI 0), (zI 0), zF]) := zeo (by kernel_rfl)
theorem ti23 : TI Tryz.prog 23 1 24 zN := zeo (by kernel_rfl)
theorem en106 : Go.X.Enters Tryz.prog 106 := ⟨Tryz.f106, Tryz.func106, by kernel_rfl, by kernel_rfl⟩
theorem ti54 : TI Tryz.prog 54 2 16 (zar #[(zI 0), (zI 0)]) := zeo (by kernel_rfl)
theorem ti29 : TI Tryz.prog 29 7 168 (zar #[zN, zN, zN, zN, zN, zN, zN]) := zeo (by kernel_rfl)
theorem en72 : Go.X.Enters Tryz.prog 72 := ⟨Tryz.f72, Tryz.func72, by kernel_rfl, by kernel_rfl⟩
theorem ti9 : TI Tryz.prog 9 1 16 (zbo ⟨#[]⟩) := zeo (by kernel_rfl)
theorem en71 : Go.X.Enters Tryz.prog 71 := ⟨Tryz.f71, Tryz.func71, by kernel_rfl, by kernel_rfl⟩
theorem ti24 : TI Tryz.prog 24 1 24 zN := zeo (by kernel_rfl)
theorem ti104 : TI Tryz.prog 104 4 48 (zar #[(zI 0), zN, (zI 0), (zI 0)]) := zeo (by kernel_rfl)
theorem en73 : Go.X.Enters Tryz.prog 73 := ⟨Tryz.f73, Tryz.func73, by kernel_rfl, by kernel_rfl⟩
theorem ti25 : TI Tryz.prog 25 1 24 zN := zeo (by kernel_rfl)
theorem ti26 : TI Tryz.prog 26 1 24 zN := zeo (by kernel_rfl)
theorem ti112 : TI Tryz.prog 112 4 40 (zar #[(zI 0), (zI 0), zF, (zbo ⟨#[]⟩)]) := zeo (by kernel_rfl)
theorem en75 : Go.X.Enters Tryz.prog 75 := ⟨Tryz.f75, Tryz.func75, by kernel_rfl, by kernel_rfl⟩
theorem ti27 : TI Tryz.prog 27 1 24 zN := zeo (by kernel_rfl)
theorem en76 : Go.X.Enters Tryz.prog 76 := ⟨Tryz.f76, Tryz.func76, by kernel_rfl, by kernel_rfl⟩
theorem sAbs_w (N : Nat) (n : Int)  (w : World) (S : Nat → Prop)  (r : Int) (h : sAbs N n = some r) :
  Calls Tryz.prog 107 #[(zI n)] w (Ret w (fun v w' => (zI r) = v ∧ True)) := by
 unfold sAbs at h
 have hL : vL w w [] [] := Go.X.Loc.begin0 w
 refine calls_of (l := [(zI n)]) (rl := [.tmp 2]) (n := 8) Tryz.func107 rfl rfl rfl (zaf rfl) ?_
 refine zal (zah rfl (zag (zam (v := (zI 0)) rfl ?_)))
 refine zap (zal (zal (zah rfl (zag (zai (v := (zI n)) rfl ?_)))))
 refine zag (zcp (x := n) (y := 0) ((n : Int) < 0) rfl rfl zbd (zap ?_))
 refine zbf ((n : Int) < 0) rfl (fun hc1 => ?_) (fun hc1 => ?_)
 ·
  replace h := ite_t hc1 h
  refine zal (zah rfl (zag (zai (v := (zI n)) rfl ?_)))
  refine zag (OpY.neg (x := n) (z := (iw (0 - n))) rfl rfl ?_)
  refine zag (zam (v := (zI (iw (0 - n)))) rfl ?_)
  refine zap (zbl ?_)
  obtain rfl := zae h
  refine ⟨[(zI (iw (0 - n)))], zrt, ⟨_, rfl, hL.done, ?_⟩⟩
  exact zrt
 replace h := ite_f hc1 h
 refine zbk (zal (zah rfl (zag (zai (v := (zI n)) rfl ?_))))
 refine zag (zam (v := (zI n)) rfl ?_)
 refine zap (zbl ?_)
 obtain rfl := zae h
 refine ⟨[(zI n)], zrt, ⟨_, rfl, hL.done, ?_⟩⟩
 exact zrt
theorem sWithin_w (N : Nat) (n : Int) (low : Int) (high : Int)  (w : World) (S : Nat → Prop)  (r : Bool) (h : sWithin N n low high = some r) :
  Calls Tryz.prog 74 #[(zI n), (zI low), (zI high)] w (Ret w (fun v w' => (zab r) = v ∧ True)) := by
 unfold sWithin at h
 have hL : vL w w [] [] := Go.X.Loc.begin0 w
 refine calls_of (l := [(zI n), (zI low), (zI high)]) (rl := [.tmp 6]) (n := 15) Tryz.func74 rfl rfl rfl (zaf rfl) ?_
 refine zal (zah rfl (zag (zam (v := zF) rfl ?_)))
 refine zap (zal (zah rfl (zag (zai (v := (zI n)) rfl ?_))))
 refine zag (zai (v := (zI low)) rfl ?_)
 refine zag (zem (x := n) (y := low) ((n : Int) ≥ low) rfl rfl zbd ?_)
 refine zag (zai (v := (zab (decide ((n : Int) ≥ low)))) rfl ?_)
 by_cases hc1 : (n : Int) ≥ low
 ·
  replace h := ite_t hc1 h
  refine zba rfl rfl (zeq hc1) (zai (v := (zI n)) rfl ?_)
  refine zba rfl rfl (zeq hc1) (zai (v := (zI high)) rfl ?_)
  refine zba rfl rfl (zeq hc1) (OpY.leq (x := n) (y := high) ((n : Int) ≤ high) rfl rfl zbd ?_)
  refine zag (zbe (t := (decide ((n : Int) ≥ low))) (v := (zab (decide ((n : Int) ≤ high)))) rfl (zeq hc1) rfl ?_)
  refine zag (zam (v := (zab (decide ((n : Int) ≤ high)))) rfl ?_)
  refine zap (zbl ?_)
  obtain rfl := zae h
  refine ⟨[(zab (decide ((n : Int) ≤ high)))], zrt, ⟨_, rfl, hL.done, ?_⟩⟩
  exact zrt
 replace h := ite_f hc1 h
 refine zbb rfl rfl (zep hc1) (zbb rfl rfl (zep hc1) (zbb rfl rfl (zep hc1) ?_))
 refine zag (zbn (t := (decide ((n : Int) ≥ low))) (v := zF) rfl (zep hc1) rfl ?_)
 refine zag (zam (v := zF) rfl ?_)
 refine zap (zbl ?_)
 obtain rfl := zae h
 refine ⟨[zF], zrt, ⟨_, rfl, hL.done, ?_⟩⟩
 exact zrt
theorem sHas_w (N : Nat) (l : (List Int)) (n : Int) (l_v : Value) (w : World) (S : Nat → Prop) (l_h : Rs rI (vH w S [] w) l_v l) (r : Bool) (h : sHas N l n = some r) :
  Calls Tryz.prog 106 #[l_v, (zI n)] w (Ret w (fun v w' => (zab r) = v ∧ True)) := by
 unfold sHas at h
 have hL : vL w w [] [] := Go.X.Loc.begin0 w
 refine calls_of (l := [l_v, (zI n)]) (rl := [.tmp 4]) (n := 18) Tryz.func106 rfl rfl rfl (zaf rfl) ?_
 refine zal (zah rfl (zag (zam (v := zF) rfl ?_)))
 refine zap (zal (zal (zah rfl (zag (zam (v := (zI 0)) rfl (zap ?_))))))
 obtain ⟨s10, hl10, g10⟩ := zes h
 refine zce (fun e w' => ∃  (u : Env), (Sum.inl ()) = s10 ∧ e = upds [] u ∧ vL w w' [] [] ∧ Keep w.heap.size [] w [] w' ∧ True) ?_ ?_
 ·
  refine zbh ?_
  refine zcr hl10 (fun (ss : Int) (e : Env) (w' : World) => match ss with | i10 => ∃ (u : Env), e = upds [(0, l_v), (1, (zI n)), (5, (zI i10))] u ∧ vL w w' [] [] ∧ Keep w.heap.size [] w [] w' ∧ True) ⟨_, (zeu ⟨rfl, rfl, rfl, trivial⟩), hL, zck, trivial⟩ ?_
  rintro i10 oo _ w10 ⟨u, rfl, hL10, K10, -⟩ h hd10
  rw [sHas_b1] at h
  refine zal (zal (zah rfl (zag (zai (v := (zI i10)) rfl ?_))))
  refine zag (zai (v := l_v) rfl ?_)
  have f10 := (l_h.mono (K10 S))
  refine zag (zbg (v := l_v) zaw rfl f10 ?_)
  refine zag (zcp (x := i10) (y := (l.length : Int)) ((i10 : Int) < (l.length : Int)) rfl rfl zbd (zap ?_))
  refine zbf ((i10 : Int) < (l.length : Int)) rfl (fun hc10 => ?_) (fun hc10 => ?_)
  ·
   replace h := ite_t hc10 h
   refine zbk (zal (zbh (zal (zah rfl (zag (zai (v := l_v) rfl ?_))))))
   refine zag (zai (v := (zI i10)) rfl ?_)
   obtain ⟨x10, n10, q11, q12, -, h⟩ := zix h
   obtain ⟨b10, o10, c10, vs10, q13, q14, f11, q15⟩ := zcw f10 q12
   obtain rfl := q15
   refine zag (zbj (r := rI) (v := l_v) (n := n10) (m := (o10 + n10 * rI.sz)) zaw ti3 rfl q13 rfl q11 q12 rfl ?_)
   refine zag (zby (v := (zI x10)) zat rfl rfl zex f11 ?_)
   refine zag (zai (v := (zI n)) rfl ?_)
   refine zag (zeb (x := x10) (y := n) ((x10 : Int) = n) rfl rfl zbd (zap ?_))
   refine zbf ((x10 : Int) = n) rfl (fun hc11 => ?_) (fun hc11 => ?_)
   ·
    replace h := ite_t hc11 h
    refine zal (zah rfl (zag (zam (v := zT) rfl ?_)))
    refine zap (zbl ?_)
    obtain rfl := zae h
    obtain rfl := hd10 _ rfl
    replace h := g10
    try dsimp only at h
    obtain rfl := zae h
    refine ⟨[zT], zrt, ⟨_, rfl, hL10.done, ?_⟩⟩
    exact zrt
   replace h := ite_f hc11 h
   refine zbk (zbu (zah rfl (zag (zai (v := (zI i10)) rfl ?_))))
   refine zag (zcl (x := i10) (y := 1) (z := (iw (i10 + 1))) rfl rfl rfl ?_)
   refine zag (zam (v := (zI (iw (i10 + 1)))) rfl (zap ?_))
   obtain rfl := zae h
   refine zaq ⟨(iw (i10 + 1)), rfl, ?_⟩
   exact ⟨_, (zeu ⟨rfl, rfl, rfl, trivial⟩), hL10, K10, trivial⟩
  replace h := ite_f hc10 h
  refine zda rfl ?_
  obtain rfl := zae h
  obtain rfl := hd10 _ rfl
  replace h := g10
  try dsimp only at h
  refine zaq ?_
  exact ⟨_, rfl, (zeu trivial), hL10, K10, trivial⟩
 rintro _ w11 ⟨u, rfl, rfl, hL11, K11, -⟩
 replace h := g10
 try dsimp only at h
 refine zal (zah rfl (zag (zam (v := zF) rfl ?_)))
 refine zap (zbl ?_)
 obtain rfl := zae h
 refine ⟨[zF], zrt, ⟨_, rfl, hL11.done, ?_⟩⟩
 exact zrt
theorem sForm_w (N : Nat) (f : Linear) (c : RClause) (l : (List RVar)) (bounds : (List Int)) (f_v : Value) (c_v : Value) (c_v1 : Value) (c_v2 : Value) (c_v3 : Value) (c_v4 : Value) (c_v5 : Value) (c_v6 : Value) (l_v : Value) (bounds_v : Value) (w : World) (S : Nat → Prop) (f_h : Rs rCoef (vH w S [] w) f_v f.Coefs) (c_h : Rs rI (vH w S [] w) c_v c.Null) (c_h1 : Rs rI (vH w S [] w) c_v1 c.NotNull) (c_h2 : Rs rRAux (vH w S [] w) c_v2 c.Auxiliary) (c_h3 : Rs rConstraint (vH w S [] w) c_v3 c.Ints) (c_h4 : Rs rTTest (vH w S [] w) c_v4 c.Tests) (c_h5 : Rs rArr2Int (vH w S [] w) c_v5 c.Same) (c_h6 : Rs rArr2Int (vH w S [] w) c_v6 c.Different) (l_h : Rs rRVar (vH w S [] w) l_v l) (bounds_h : Rs rI (vH w S [] w) bounds_v bounds) (r : Int) (h : sForm N f c l bounds = some r) :
  Calls Tryz.prog 73 #[(zar #[(zI f.Const), f_v]), (zar #[c_v, c_v1, c_v2, c_v3, c_v4, c_v5, c_v6]), l_v, bounds_v] w (Ret w (fun v w' => (zI r) = v ∧ True)) := by
 unfold sForm at h
 have hL : vL w w [] [] := Go.X.Loc.begin0 w
 refine calls_of (l := [(zar #[(zI f.Const), f_v]), (zar #[c_v, c_v1, c_v2, c_v3, c_v4, c_v5, c_v6]), l_v, bounds_v]) (rl := [.tmp 8]) (n := 116) Tryz.func73 rfl rfl rfl (zaf rfl) ?_
 refine zal (zah rfl (zag (zdu (cs := [(zI f.Const), f_v]) rfl rfl hL ?_)))
 intro b1 w2 hL3 hS5
 have K4 := ks w hS5
 refine zag (zdu (cs := [c_v, c_v1, c_v2, c_v3, c_v4, c_v5, c_v6]) rfl rfl hL3 ?_)
 intro b6 w7 hL8 hS10
 have K9 := ks w hS10
 refine zag (zam (v := (zI 0)) rfl ?_)
 refine zap (zal (zal (zah rfl (zag (zak (q := 0) zca rfl ti2 rfl rfl rfl ?_)))))
 refine zag (zas (v := (zI f.Const)) zcf rfl rfl (hL8.at 1 rfl rfl) rfl ?_)
 obtain ⟨r10, q10, h⟩ := zes h
 refine zag (zbc en74 rfl rfl (sWithin_w N f.Const (-1099511627777) 1099511627777 _ Any r10 q10) ?_)
 rintro _ w10 hE10 ⟨rfl, -⟩
 obtain ⟨hL10, K10⟩ := zl hL8 hE10
 refine zag (zdy (x := r10) rfl (zap ?_))
 refine zdd (!r10) rfl (fun hc10 => ?_) (fun hc10 => ?_)
 ·
  replace h := ite_t hc10 h
  refine zal (zah rfl (zag (zam (v := (zI (-1))) rfl ?_)))
  refine zap (zbl ?_)
  obtain rfl := zae h
  refine ⟨[(zI (-1))], zrt, ⟨_, rfl, hL10.done, ?_⟩⟩
  exact zrt
 replace h := ite_f hc10 h
 refine zbk (zal (zah rfl (zag (zak (q := 0) zca rfl ti2 rfl rfl rfl ?_))))
 refine zag (zas (v := (zI f.Const)) zcf rfl rfl (hL10.at 1 rfl rfl) rfl ?_)
 obtain ⟨r11, q11, h⟩ := zes h
 refine zag (zbc en107 rfl rfl (sAbs_w N f.Const _ Any r11 q11) ?_)
 rintro _ w11 hE11 ⟨rfl, -⟩
 obtain ⟨hL11, K11⟩ := zl hL10 hE11
 refine zag (zam (v := (zI r11)) rfl ?_)
 refine zap (zal (zal (zah rfl (zag (zam (v := (zI 0)) rfl (zap ?_))))))
 obtain ⟨s10, hl10, g10⟩ := zes h
 refine zce (fun e w' => ∃ (sum10 : Int) (u : Env), (Sum.inl sum10) = s10 ∧ e = upds [(9, (zI sum10))] u ∧ vL w w' [] [] ∧ Keep w.heap.size [some b6, some b1] w11 [] w' ∧ True) ?_ ?_
 ·
  refine zbh ?_
  have hp10 := hL11.pick [1, 0] rfl rfl rfl
  have hL12 : vL w w11 [some b1, some b6] [zac [(zI f.Const), f_v], zac [c_v, c_v1, c_v2, c_v3, c_v4, c_v5, c_v6]] := hp10.1
  have K12 := ks w hp10.2
  refine zcr hl10 (fun (ss : (Int × Int)) (e : Env) (w' : World) => match ss with | (sum11, i10) => ∃ (u : Env), e = upds [(2, l_v), (3, bounds_v), (4, (zaj (some ⟨b1, 0, none⟩))), (5, (zaj (some ⟨b6, 0, none⟩))), (9, (zI sum11)), (10, (zI i10))] u ∧ vL w w' [some b1, some b6] [zac [(zI f.Const), f_v], zac [c_v, c_v1, c_v2, c_v3, c_v4, c_v5, c_v6]] ∧ Keep w.heap.size [some b6, some b1] w11 [some b1, some b6] w' ∧ True) ⟨_, (zeu ⟨rfl, rfl, rfl, rfl, rfl, rfl, trivial⟩), hL12, K12, trivial⟩ ?_
  rintro ⟨sum11, i10⟩ oo _ w12 ⟨u, rfl, hL13, K13, -⟩ h hd10
  rw [sForm_b1] at h
  refine zal (zal (zah rfl (zag (zai (v := (zI i10)) rfl ?_))))
  refine zag (zak (q := 1) zca rfl ti88 rfl rfl rfl ?_)
  refine zag (zas (v := f_v) zbp rfl rfl (hL13.at 0 rfl rfl) rfl ?_)
  have f10 := (((((f_h.mono (K4 S)).mono (K9 S)).mono (K10 S)).mono (K11 S)).mono (K13 S))
  refine zag (zbg (v := f_v) zbp rfl f10 ?_)
  refine zag (zcp (x := i10) (y := (f.Coefs.length : Int)) ((i10 : Int) < (f.Coefs.length : Int)) rfl rfl zbd (zap ?_))
  refine zbf ((i10 : Int) < (f.Coefs.length : Int)) rfl (fun hc11 => ?_) (fun hc11 => ?_)
  ·
   replace h := ite_t hc11 h
   refine zbk (zal (zbh (zal (zah rfl (zag (zak (q := 1) zca rfl ti88 rfl rfl rfl ?_))))))
   refine zag (zas (v := f_v) zbp rfl rfl (hL13.at 0 rfl rfl) rfl ?_)
   refine zag (zai (v := (zI i10)) rfl ?_)
   obtain ⟨x10, n10, q13, q14, -, h⟩ := zix h
   obtain ⟨b10, o10, c10, vs10, q15, q16, f11, q17⟩ := zcw f10 q14
   obtain ⟨rfl, -⟩ := rCoef_open q17
   refine zag (zbj (r := rCoef) (v := f_v) (n := n10) (m := (o10 + n10 * rCoef.sz)) zbp ti87 rfl q15 rfl q13 q14 rfl ?_)
   refine zag (zds (vs := [(zI x10.Var), (zI x10.N)]) zcb rfl ti87 rfl rfl zex f11 ?_)
   refine zag (zcj (cs := [(zI 0), (zI 0)]) ti87 rfl hL13 ?_)
   intro b11 w13 hL14 hS11
   have K14 := ks w hS11
   refine zcq (zbq (vs := [(zI x10.Var), (zI x10.N)]) ti87 rfl rfl rfl rfl (zet rfl (zet rfl zew)) hL14 0 rfl rfl (zaf rfl) ?_)
   intro w14 (hL15 : vL w w14 [some b11, some b1, some b6] [zac [(zI x10.Var), (zI x10.N)], zac [(zI f.Const), f_v], zac [c_v, c_v1, c_v2, c_v3, c_v4, c_v5, c_v6]]) hS12
   have K15 := ks w hS12
   refine zap (zal (zal ?_))
   obtain ⟨s11, h, g11⟩ := zes h
   refine zce (fun e w' => ∃ (x11 : Bool) (u : Env), x11 = s11 ∧ e = upds [(2, l_v), (3, bounds_v), (4, (zaj (some ⟨b1, 0, none⟩))), (5, (zaj (some ⟨b6, 0, none⟩))), (9, (zI sum11)), (10, (zI i10)), (11, (zaj (some ⟨b11, 0, none⟩))), (71, (zab x11))] u ∧ vL w w' [some b1, some b6, some b11] [zac [(zI f.Const), f_v], zac [c_v, c_v1, c_v2, c_v3, c_v4, c_v5, c_v6], zac [(zI x10.Var), (zI x10.N)]] ∧ Keep w.heap.size [some b11, some b1, some b6] w14 [some b1, some b6, some b11] w' ∧ True) ?_ ?_
   ·
    by_cases hc12 : (x10.Var : Int) < 0
    ·
     replace h := ite_t hc12 h
     refine zcm 26 [] [] (fun W1 => [.det (zaj (some ⟨b11, 0, none⟩)), .det (zI x10.Var), .det (zab (decide ((x10.Var : Int) < 0))), .det (zab (decide ((x10.Var : Int) < 0))), .det undef, .det undef, .det undef, .det undef, .det undef, .det undef, .det undef, .det undef, .det zT, .det zT, .det undef, .det undef, .det undef, .det undef, .det undef, .det undef, .det undef, .det undef, .det undef, .det undef, .det undef, .det undef]) mixed rfl rfl rfl (fun _ => rfl) (fun _ => rfl) ?_ ?_
     ·
      intro W1 _
      exact trivial
     intro w15 hE12
     obtain ⟨hL16, K16⟩ := zl hL15 hE12
     refine zao (fun _ _ => zau (zak zcb rfl ti3 rfl rfl rfl (er rfl))) ?_
     refine zao (fun _ hE14 => zau (zas zat rfl rfl ((hL16.ext hE14).at 0 rfl rfl) rfl (er rfl))) ?_
     refine zao (fun _ _ => zau (zcp ((x10.Var : Int) < 0) rfl rfl zbd (er rfl))) ?_
     refine zao (fun _ _ => zau (zai rfl (er rfl))) ?_
     refine zao (fun _ _ => zci rfl rfl (zeq hc12) (er rfl)) ?_
     refine zao (fun _ _ => zci rfl rfl (zeq hc12) (er rfl)) ?_
     refine zao (fun _ _ => zci rfl rfl (zeq hc12) (er rfl)) ?_
     refine zao (fun _ _ => zci rfl rfl (zeq hc12) (er rfl)) ?_
     refine zao (fun _ _ => zci rfl rfl (zeq hc12) (er rfl)) ?_
     refine zao (fun _ _ => zci rfl rfl (zeq hc12) (er rfl)) ?_
     refine zao (fun _ _ => zci rfl rfl (zeq hc12) (er rfl)) ?_
     refine zao (fun _ _ => zci rfl rfl (zeq hc12) (er rfl)) ?_
     refine zao (fun _ _ => zau (zbe rfl (zeq hc12) rfl (er rfl))) ?_
     refine zao (fun _ _ => zau (zai rfl (er rfl))) ?_
     refine zao (fun _ _ => zci rfl rfl rfl (er rfl)) ?_
     refine zao (fun _ _ => zci rfl rfl rfl (er rfl)) ?_
     refine zao (fun _ _ => zci rfl rfl rfl (er rfl)) ?_
     refine zao (fun _ _ => zcn rfl rfl (er rfl)) ?_
     refine zao (fun _ _ => zcn rfl rfl (er rfl)) ?_
     refine zao (fun _ _ => zcn rfl rfl (er rfl)) ?_
     refine zao (fun _ _ => zcn rfl rfl (er rfl)) ?_
     refine zao (fun _ _ => zcn rfl rfl (er rfl)) ?_
     refine zao (fun _ _ => zcn rfl rfl (er rfl)) ?_
     refine zao (fun _ _ => zcn rfl rfl (er rfl)) ?_
     refine zao (fun _ _ => zcn rfl rfl (er rfl)) ?_
     refine zao (fun _ _ => zcn rfl rfl (er rfl)) ?_
     refine zcy ?_
     rintro w42 Z45 hE39 hZ36 ⟨-⟩ ap10
     have hB10 := @zhb w15 Z45
     obtain ⟨hL18, K17⟩ := zl hL16 hE39
     refine zdi rfl rfl ?_
     refine zbb rfl rfl rfl ?_
     refine zag (zbe (t := true) (v := zT) rfl rfl rfl ?_)
     refine zag (zai (v := zT) rfl ?_)
     refine zbb rfl rfl rfl (zbb rfl rfl rfl (zbb rfl rfl rfl ?_))
     refine zag (zbe (t := true) (v := zT) rfl rfl rfl ?_)
     refine zag (zai (v := zT) rfl ?_)
     refine zbb rfl rfl rfl (zbb rfl rfl rfl (zbb rfl rfl rfl (zbb rfl rfl rfl ?_)))
     refine zag (zbe (t := true) (v := zT) rfl rfl rfl (zap ?_))
     have hp11 := hL18.pick [1, 2, 0] rfl rfl rfl
     have hL19 : vL w w42 [some b1, some b6, some b11] [zac [(zI f.Const), f_v], zac [c_v, c_v1, c_v2, c_v3, c_v4, c_v5, c_v6], zac [(zI x10.Var), (zI x10.N)]] := hp11.1
     have K18 := ks w hp11.2
     obtain rfl := zae h
     refine zaq ?_
     exact ⟨true, _, rfl, (zeu ⟨rfl, rfl, rfl, rfl, rfl, rfl, rfl, rfl, trivial⟩), hL19, (zan (zan K16 K17) K18), trivial⟩
    replace h := ite_f hc12 h
    by_cases hc13 : (x10.Var : Int) ≥ (iw ((l.length : Int) + (bounds.length : Int)))
    ·
     replace h := ite_t hc13 h
     refine zcm 26 [] [] (fun W1 => [.det (zaj (some ⟨b11, 0, none⟩)), .det (zI x10.Var), .det (zab (decide ((x10.Var : Int) < 0))), .det (zab (decide ((x10.Var : Int) < 0))), .det (zaj (some ⟨b11, 0, none⟩)), .det (zI x10.Var), .det l_v, .det (zI (l.length : Int)), .det bounds_v, .det (zI (bounds.length : Int)), .det (zI (iw ((l.length : Int) + (bounds.length : Int)))), .det (zab (decide ((x10.Var : Int) ≥ (iw ((l.length : Int) + (bounds.length : Int)))))), .det (zab (decide ((x10.Var : Int) ≥ (iw ((l.length : Int) + (bounds.length : Int)))))), .det (zab (decide ((x10.Var : Int) ≥ (iw ((l.length : Int) + (bounds.length : Int)))))), .det undef, .det undef, .det undef, .det undef, .det undef, .det undef, .det undef, .det undef, .det undef, .det undef, .det undef, .det undef]) mixed rfl rfl rfl (fun _ => rfl) (fun _ => rfl) ?_ ?_
     ·
      intro W1 _
      exact trivial
     intro w43 hE40
     obtain ⟨hL20, K19⟩ := zl hL15 hE40
     refine zao (fun _ _ => zau (zak zcb rfl ti3 rfl rfl rfl (er rfl))) ?_
     refine zao (fun _ hE42 => zau (zas zat rfl rfl ((hL20.ext hE42).at 0 rfl rfl) rfl (er rfl))) ?_
     refine zao (fun _ _ => zau (zcp ((x10.Var : Int) < 0) rfl rfl zbd (er rfl))) ?_
     refine zao (fun _ _ => zau (zai rfl (er rfl))) ?_
     refine zao (fun _ _ => zbm rfl rfl (zep hc12) (zak zcb rfl ti3 rfl rfl rfl (er rfl))) ?_
     refine zao (fun _ hE46 => zbm rfl rfl (zep hc12) (zas zat rfl rfl ((hL20.ext hE46).at 0 rfl rfl) rfl (er rfl))) ?_
     refine zao (fun _ _ => zbm rfl rfl (zep hc12) (zai rfl (er rfl))) ?_
     refine zao (fun _ hE48 => zbm rfl rfl (zep hc12) (zbg (v := l_v) zbt rfl (((((((((l_h.mono (K4 S)).mono (K9 S)).mono (K10 S)).mono (K11 S)).mono (K13 S)).mono (K14 S)).mono (K15 S)).mono (K19 S)).mono ((ke hL20 hE48) S)) (er rfl))) ?_
     refine zao (fun _ _ => zbm rfl rfl (zep hc12) (zai rfl (er rfl))) ?_
     refine zao (fun _ hE50 => zbm rfl rfl (zep hc12) (zbg (v := bounds_v) zee rfl (((((((((bounds_h.mono (K4 S)).mono (K9 S)).mono (K10 S)).mono (K11 S)).mono (K13 S)).mono (K14 S)).mono (K15 S)).mono (K19 S)).mono ((ke hL20 hE50) S)) (er rfl))) ?_
     refine zao (fun _ _ => zbm rfl rfl (zep hc12) (zcl rfl rfl rfl (er rfl))) ?_
     refine zao (fun _ _ => zbm rfl rfl (zep hc12) (zem ((x10.Var : Int) ≥ (iw ((l.length : Int) + (bounds.length : Int)))) rfl rfl zbd (er rfl))) ?_
     refine zao (fun _ _ => zau (zbn rfl (zep hc12) rfl (er rfl))) ?_
     refine zao (fun _ _ => zau (zai rfl (er rfl))) ?_
     refine zao (fun _ _ => zci rfl rfl (zeq hc13) (er rfl)) ?_
     refine zao (fun _ _ => zci rfl rfl (zeq hc13) (er rfl)) ?_
     refine zao (fun _ _ => zci rfl rfl (zeq hc13) (er rfl)) ?_
     refine zao (fun _ _ => zcn rfl rfl (er rfl)) ?_
     refine zao (fun _ _ => zcn rfl rfl (er rfl)) ?_
     refine zao (fun _ _ => zcn rfl rfl (er rfl)) ?_
     refine zao (fun _ _ => zcn rfl rfl (er rfl)) ?_
     refine zao (fun _ _ => zcn rfl rfl (er rfl)) ?_
     refine zao (fun _ _ => zcn rfl rfl (er rfl)) ?_
     refine zao (fun _ _ => zcn rfl rfl (er rfl)) ?_
     refine zao (fun _ _ => zcn rfl rfl (er rfl)) ?_
     refine zao (fun _ _ => zcn rfl rfl (er rfl)) ?_
     refine zcy ?_
     rintro w70 Z72 hE67 hZ63 ⟨-⟩ ap11
     have hB11 := @zhb w43 Z72
     obtain ⟨hL23, K22⟩ := zl hL20 hE67
     refine zdi rfl rfl ?_
     refine zbb rfl rfl (zeq hc13) ?_
     refine zag (zbe (t := (decide ((x10.Var : Int) ≥ (iw ((l.length : Int) + (bounds.length : Int)))))) (v := zT) rfl (zeq hc13) rfl ?_)
     refine zag (zai (v := zT) rfl ?_)
     refine zbb rfl rfl rfl (zbb rfl rfl rfl (zbb rfl rfl rfl ?_))
     refine zag (zbe (t := true) (v := zT) rfl rfl rfl ?_)
     refine zag (zai (v := zT) rfl ?_)
     refine zbb rfl rfl rfl (zbb rfl rfl rfl (zbb rfl rfl rfl (zbb rfl rfl rfl ?_)))
     refine zag (zbe (t := true) (v := zT) rfl rfl rfl (zap ?_))
     have hp12 := hL23.pick [1, 2, 0] rfl rfl rfl
     have hL24 : vL w w70 [some b1, some b6, some b11] [zac [(zI f.Const), f_v], zac [c_v, c_v1, c_v2, c_v3, c_v4, c_v5, c_v6], zac [(zI x10.Var), (zI x10.N)]] := hp12.1
     have K23 := ks w hp12.2
     obtain rfl := zae h
     refine zaq ?_
     exact ⟨true, _, rfl, (zeu ⟨rfl, rfl, rfl, rfl, rfl, rfl, rfl, rfl, trivial⟩), hL24, (zan (zan K19 K22) K23), trivial⟩
    replace h := ite_f hc13 h
    by_cases hc14 : (i10 : Int) > 0
    ·
     replace h := ite_t hc14 h
     obtain ⟨x12, n11, q19, q20, -, h⟩ := zix h
     have f12 := ((f10.mono (K14 S)).mono (K15 S))
     obtain ⟨b12, o11, c11, vs11, q21, q22, f13, q23⟩ := zcw f12 q20
     obtain ⟨rfl, -⟩ := rCoef_open q23
     have f14 := (f13.part (us := [(zI x12.Var)]) 0 rfl)
     refine zcm 26 [] [] (fun W1 => [.det (zaj (some ⟨b11, 0, none⟩)), .det (zI x10.Var), .det (zab (decide ((x10.Var : Int) < 0))), .det (zab (decide ((x10.Var : Int) < 0))), .det (zaj (some ⟨b11, 0, none⟩)), .det (zI x10.Var), .det l_v, .det (zI (l.length : Int)), .det bounds_v, .det (zI (bounds.length : Int)), .det (zI (iw ((l.length : Int) + (bounds.length : Int)))), .det (zab (decide ((x10.Var : Int) ≥ (iw ((l.length : Int) + (bounds.length : Int)))))), .det (zab (decide ((x10.Var : Int) ≥ (iw ((l.length : Int) + (bounds.length : Int)))))), .det (zab (decide ((x10.Var : Int) ≥ (iw ((l.length : Int) + (bounds.length : Int)))))), .det (zI i10), .det (zab (decide ((i10 : Int) > 0))), .det (zab (decide ((i10 : Int) > 0))), .det (zaj (some ⟨b1, 1, none⟩)), .det f_v, .det (zI i10), .det (zI (iw (i10 - 1))), .det (zaj (some ⟨b12, (o11 + n11 * rCoef.sz), none⟩)), .det (zaj (some ⟨b12, (o11 + n11 * rCoef.sz) + 0, none⟩)), .det (zI x12.Var), .det (zaj (some ⟨b11, 0, none⟩)), .det (zI x10.Var)]) mixed rfl rfl rfl (fun _ => rfl) (fun _ => rfl) ?_ ?_
     ·
      intro W1 _
      exact trivial
     intro w71 hE68
     obtain ⟨hL25, K24⟩ := zl hL15 hE68
     refine zao (fun _ _ => zau (zak zcb rfl ti3 rfl rfl rfl (er rfl))) ?_
     refine zao (fun _ hE70 => zau (zas zat rfl rfl ((hL25.ext hE70).at 0 rfl rfl) rfl (er rfl))) ?_
     refine zao (fun _ _ => zau (zcp ((x10.Var : Int) < 0) rfl rfl zbd (er rfl))) ?_
     refine zao (fun _ _ => zau (zai rfl (er rfl))) ?_
     refine zao (fun _ _ => zbm rfl rfl (zep hc12) (zak zcb rfl ti3 rfl rfl rfl (er rfl))) ?_
     refine zao (fun _ hE74 => zbm rfl rfl (zep hc12) (zas zat rfl rfl ((hL25.ext hE74).at 0 rfl rfl) rfl (er rfl))) ?_
     refine zao (fun _ _ => zbm rfl rfl (zep hc12) (zai rfl (er rfl))) ?_
     refine zao (fun _ hE76 => zbm rfl rfl (zep hc12) (zbg (v := l_v) zbt rfl (((((((((l_h.mono (K4 S)).mono (K9 S)).mono (K10 S)).mono (K11 S)).mono (K13 S)).mono (K14 S)).mono (K15 S)).mono (K24 S)).mono ((ke hL25 hE76) S)) (er rfl))) ?_
     refine zao (fun _ _ => zbm rfl rfl (zep hc12) (zai rfl (er rfl))) ?_
     refine zao (fun _ hE78 => zbm rfl rfl (zep hc12) (zbg (v := bounds_v) zee rfl (((((((((bounds_h.mono (K4 S)).mono (K9 S)).mono (K10 S)).mono (K11 S)).mono (K13 S)).mono (K14 S)).mono (K15 S)).mono (K24 S)).mono ((ke hL25 hE78) S)) (er rfl))) ?_
     refine zao (fun _ _ => zbm rfl rfl (zep hc12) (zcl rfl rfl rfl (er rfl))) ?_
     refine zao (fun _ _ => zbm rfl rfl (zep hc12) (zem ((x10.Var : Int) ≥ (iw ((l.length : Int) + (bounds.length : Int)))) rfl rfl zbd (er rfl))) ?_
     refine zao (fun _ _ => zau (zbn rfl (zep hc12) rfl (er rfl))) ?_
     refine zao (fun _ _ => zau (zai rfl (er rfl))) ?_
     refine zao (fun _ _ => zbm rfl rfl (zep hc13) (zai rfl (er rfl))) ?_
     refine zao (fun _ _ => zbm rfl rfl (zep hc13) (zej ((i10 : Int) > 0) rfl rfl zbd (er rfl))) ?_
     refine zao (fun _ _ => zbm rfl rfl (zep hc13) (zai rfl (er rfl))) ?_
     refine zao (fun _ _ => zbm rfl rfl (zeq hc14) (zak zca rfl ti88 rfl rfl rfl (er rfl))) ?_
     refine zao (fun _ hE87 => zbm rfl rfl (zeq hc14) (zas zbp rfl rfl ((hL25.ext hE87).at 1 rfl rfl) rfl (er rfl))) ?_
     refine zao (fun _ _ => zbm rfl rfl (zeq hc14) (zai rfl (er rfl))) ?_
     refine zao (fun _ _ => zbm rfl rfl (zeq hc14) (OpY.sub rfl rfl rfl (er rfl))) ?_
     refine zao (fun _ _ => zbm rfl rfl (zeq hc14) (zbj (r := rCoef) (v := f_v) (n := n11) (m := (o11 + n11 * rCoef.sz)) zbp ti87 rfl q21 rfl q19 q20 rfl (er rfl))) ?_
     refine zao (fun _ _ => zbm rfl rfl (zeq hc14) (zak zcb rfl ti3 rfl rfl rfl (er rfl))) ?_
     refine zao (fun _ hE92 => zbm rfl rfl (zeq hc14) (zby zat rfl rfl zex (zcd ((ke hL25 hE92) S) (zcd (K24 S) f14)) (er rfl))) ?_
     refine zao (fun _ _ => zbm rfl rfl (zeq hc14) (zak zcb rfl ti3 rfl rfl rfl (er rfl))) ?_
     refine zao (fun _ hE94 => zbm rfl rfl (zeq hc14) (zas zat rfl rfl ((hL25.ext hE94).at 0 rfl rfl) rfl (er rfl))) ?_
     refine zcy ?_
     rintro w98 Z99 hE95 hZ90 ⟨-⟩ ap12
     have hB12 := @zhb w71 Z99
     obtain ⟨hL30, K28⟩ := zl hL25 hE95
     refine zba rfl rfl (zeq hc14) (zem (x := x12.Var) (y := x10.Var) ((x12.Var : Int) ≥ x10.Var) rfl rfl zbd ?_)
     refine zba rfl rfl (zep hc13) (zbe (t := (decide ((i10 : Int) > 0))) (v := (zab (decide ((x12.Var : Int) ≥ x10.Var)))) rfl (zeq hc14) rfl ?_)
     refine zag (zbn (t := (decide ((x10.Var : Int) ≥ (iw ((l.length : Int) + (bounds.length : Int)))))) (v := (zab (decide ((x12.Var : Int) ≥ x10.Var)))) rfl (zep hc13) rfl ?_)
     refine zag (zai (v := (zab (decide ((x12.Var : Int) ≥ x10.Var)))) rfl ?_)
     by_cases hc15 : (x12.Var : Int) ≥ x10.Var
     ·
      replace h := ite_t hc15 h
      refine zbb rfl rfl (zeq hc15) (zbb rfl rfl (zeq hc15) (zbb rfl rfl (zeq hc15) ?_))
      refine zag (zbe (t := (decide ((x12.Var : Int) ≥ x10.Var))) (v := zT) rfl (zeq hc15) rfl ?_)
      refine zag (zai (v := zT) rfl ?_)
      refine zbb rfl rfl rfl (zbb rfl rfl rfl (zbb rfl rfl rfl (zbb rfl rfl rfl ?_)))
      refine zag (zbe (t := true) (v := zT) rfl rfl rfl (zap ?_))
      have hp13 := hL30.pick [1, 2, 0] rfl rfl rfl
      have hL31 : vL w w98 [some b1, some b6, some b11] [zac [(zI f.Const), f_v], zac [c_v, c_v1, c_v2, c_v3, c_v4, c_v5, c_v6], zac [(zI x10.Var), (zI x10.N)]] := hp13.1
      have K29 := ks w hp13.2
      obtain rfl := zae h
      refine zaq ?_
      exact ⟨true, _, rfl, (zeu ⟨rfl, rfl, rfl, rfl, rfl, rfl, rfl, rfl, trivial⟩), hL31, (zan (zan K24 K28) K29), trivial⟩
     replace h := ite_f hc15 h
     refine zba rfl rfl (zep hc15) (zak (q := 1) zcb rfl ti2 rfl rfl rfl ?_)
     refine zba rfl rfl (zep hc15) (zas (v := (zI x10.N)) zcf rfl rfl (hL30.at 0 rfl rfl) rfl ?_)
     refine zba rfl rfl (zep hc15) (zeb (x := x10.N) (y := 0) ((x10.N : Int) = 0) rfl rfl zbd ?_)
     refine zag (zbn (t := (decide ((x12.Var : Int) ≥ x10.Var))) (v := (zab (decide ((x10.N : Int) = 0)))) rfl (zep hc15) rfl ?_)
     refine zag (zai (v := (zab (decide ((x10.N : Int) = 0)))) rfl ?_)
     by_cases hc16 : (x10.N : Int) = 0
     ·
      replace h := ite_t hc16 h
      refine zbb rfl rfl (zeq hc16) (zbb rfl rfl (zeq hc16) (zbb rfl rfl (zeq hc16) (zbb rfl rfl (zeq hc16) ?_)))
      refine zag (zbe (t := (decide ((x10.N : Int) = 0))) (v := zT) rfl (zeq hc16) rfl (zap ?_))
      have hp14 := hL30.pick [1, 2, 0] rfl rfl rfl
      have hL32 : vL w w98 [some b1, some b6, some b11] [zac [(zI f.Const), f_v], zac [c_v, c_v1, c_v2, c_v3, c_v4, c_v5, c_v6], zac [(zI x10.Var), (zI x10.N)]] := hp14.1
      have K30 := ks w hp14.2
      obtain rfl := zae h
      refine zaq ?_
      exact ⟨true, _, rfl, (zeu ⟨rfl, rfl, rfl, rfl, rfl, rfl, rfl, rfl, trivial⟩), hL32, (zan (zan K24 K28) K30), trivial⟩
     replace h := ite_f hc16 h
     refine zba rfl rfl (zep hc16) (zak (q := 1) zcb rfl ti2 rfl rfl rfl ?_)
     refine zba rfl rfl (zep hc16) (zas (v := (zI x10.N)) zcf rfl rfl (hL30.at 0 rfl rfl) rfl ?_)
     obtain ⟨r12, q24, h⟩ := zes h
     refine zba rfl rfl (zep hc16) (zbc en74 rfl rfl (sWithin_w N x10.N (-1048576) 1048576 _ Any r12 q24) ?_)
     rintro _ w99 hE96 ⟨rfl, -⟩
     obtain ⟨hL33, K31⟩ := zl hL30 hE96
     refine zba rfl rfl (zep hc16) (zdy (x := r12) rfl ?_)
     refine zag (zbn (t := (decide ((x10.N : Int) = 0))) (v := (zab (!r12))) rfl (zep hc16) rfl (zap ?_))
     have hp15 := hL33.pick [1, 2, 0] rfl rfl rfl
     have hL34 : vL w w99 [some b1, some b6, some b11] [zac [(zI f.Const), f_v], zac [c_v, c_v1, c_v2, c_v3, c_v4, c_v5, c_v6], zac [(zI x10.Var), (zI x10.N)]] := hp15.1
     have K32 := ks w hp15.2
     obtain rfl := zae h
     refine zaq ?_
     exact ⟨(!r12), _, rfl, (zeu ⟨rfl, rfl, rfl, rfl, rfl, rfl, rfl, rfl, trivial⟩), hL34, (zan (zan (zan K24 K28) K31) K32), trivial⟩
    replace h := ite_f hc14 h
    refine zcm 26 [] [] (fun W1 => [.det (zaj (some ⟨b11, 0, none⟩)), .det (zI x10.Var), .det (zab (decide ((x10.Var : Int) < 0))), .det (zab (decide ((x10.Var : Int) < 0))), .det (zaj (some ⟨b11, 0, none⟩)), .det (zI x10.Var), .det l_v, .det (zI (l.length : Int)), .det bounds_v, .det (zI (bounds.length : Int)), .det (zI (iw ((l.length : Int) + (bounds.length : Int)))), .det (zab (decide ((x10.Var : Int) ≥ (iw ((l.length : Int) + (bounds.length : Int)))))), .det (zab (decide ((x10.Var : Int) ≥ (iw ((l.length : Int) + (bounds.length : Int)))))), .det (zab (decide ((x10.Var : Int) ≥ (iw ((l.length : Int) + (bounds.length : Int)))))), .det (zI i10), .det (zab (decide ((i10 : Int) > 0))), .det (zab (decide ((i10 : Int) > 0))), .det undef, .det undef, .det undef, .det undef, .det undef, .det undef, .det undef, .det undef, .det undef]) mixed rfl rfl rfl (fun _ => rfl) (fun _ => rfl) ?_ ?_
    ·
     intro W1 _
     exact trivial
    intro w100 hE97
    obtain ⟨hL35, K33⟩ := zl hL15 hE97
    refine zao (fun _ _ => zau (zak zcb rfl ti3 rfl rfl rfl (er rfl))) ?_
    refine zao (fun _ hE99 => zau (zas zat rfl rfl ((hL35.ext hE99).at 0 rfl rfl) rfl (er rfl))) ?_
    refine zao (fun _ _ => zau (zcp ((x10.Var : Int) < 0) rfl rfl zbd (er rfl))) ?_
    refine zao (fun _ _ => zau (zai rfl (er rfl))) ?_
    refine zao (fun _ _ => zbm rfl rfl (zep hc12) (zak zcb rfl ti3 rfl rfl rfl (er rfl))) ?_
    refine zao (fun _ hE103 => zbm rfl rfl (zep hc12) (zas zat rfl rfl ((hL35.ext hE103).at 0 rfl rfl) rfl (er rfl))) ?_
    refine zao (fun _ _ => zbm rfl rfl (zep hc12) (zai rfl (er rfl))) ?_
    refine zao (fun _ hE105 => zbm rfl rfl (zep hc12) (zbg (v := l_v) zbt rfl (((((((((l_h.mono (K4 S)).mono (K9 S)).mono (K10 S)).mono (K11 S)).mono (K13 S)).mono (K14 S)).mono (K15 S)).mono (K33 S)).mono ((ke hL35 hE105) S)) (er rfl))) ?_
    refine zao (fun _ _ => zbm rfl rfl (zep hc12) (zai rfl (er rfl))) ?_
    refine zao (fun _ hE107 => zbm rfl rfl (zep hc12) (zbg (v := bounds_v) zee rfl (((((((((bounds_h.mono (K4 S)).mono (K9 S)).mono (K10 S)).mono (K11 S)).mono (K13 S)).mono (K14 S)).mono (K15 S)).mono (K33 S)).mono ((ke hL35 hE107) S)) (er rfl))) ?_
    refine zao (fun _ _ => zbm rfl rfl (zep hc12) (zcl rfl rfl rfl (er rfl))) ?_
    refine zao (fun _ _ => zbm rfl rfl (zep hc12) (zem ((x10.Var : Int) ≥ (iw ((l.length : Int) + (bounds.length : Int)))) rfl rfl zbd (er rfl))) ?_
    refine zao (fun _ _ => zau (zbn rfl (zep hc12) rfl (er rfl))) ?_
    refine zao (fun _ _ => zau (zai rfl (er rfl))) ?_
    refine zao (fun _ _ => zbm rfl rfl (zep hc13) (zai rfl (er rfl))) ?_
    refine zao (fun _ _ => zbm rfl rfl (zep hc13) (zej ((i10 : Int) > 0) rfl rfl zbd (er rfl))) ?_
    refine zao (fun _ _ => zbm rfl rfl (zep hc13) (zai rfl (er rfl))) ?_
    refine zao (fun _ _ => zci rfl rfl (zep hc14) (er rfl)) ?_
    refine zao (fun _ _ => zci rfl rfl (zep hc14) (er rfl)) ?_
    refine zao (fun _ _ => zci rfl rfl (zep hc14) (er rfl)) ?_
    refine zao (fun _ _ => zci rfl rfl (zep hc14) (er rfl)) ?_
    refine zao (fun _ _ => zci rfl rfl (zep hc14) (er rfl)) ?_
    refine zao (fun _ _ => zci rfl rfl (zep hc14) (er rfl)) ?_
    refine zao (fun _ _ => zci rfl rfl (zep hc14) (er rfl)) ?_
    refine zao (fun _ _ => zci rfl rfl (zep hc14) (er rfl)) ?_
    refine zao (fun _ _ => zci rfl rfl (zep hc14) (er rfl)) ?_
    refine zcy ?_
    rintro w127 Z126 hE124 hZ117 ⟨-⟩ ap13
    have hB13 := @zhb w100 Z126
    obtain ⟨hL38, K36⟩ := zl hL35 hE124
    refine zbb rfl rfl (zep hc14) ?_
    refine zba rfl rfl (zep hc13) (zbn (t := (decide ((i10 : Int) > 0))) (v := zF) rfl (zep hc14) rfl ?_)
    refine zag (zbn (t := (decide ((x10.Var : Int) ≥ (iw ((l.length : Int) + (bounds.length : Int)))))) (v := zF) rfl (zep hc13) rfl ?_)
    refine zag (zai (v := zF) rfl ?_)
    refine zba rfl rfl rfl (zak (q := 1) zcb rfl ti2 rfl rfl rfl ?_)
    refine zba rfl rfl rfl (zas (v := (zI x10.N)) zcf rfl rfl (hL38.at 0 rfl rfl) rfl ?_)
    refine zba rfl rfl rfl (zeb (x := x10.N) (y := 0) ((x10.N : Int) = 0) rfl rfl zbd ?_)
    refine zag (zbn (t := false) (v := (zab (decide ((x10.N : Int) = 0)))) rfl rfl rfl ?_)
    refine zag (zai (v := (zab (decide ((x10.N : Int) = 0)))) rfl ?_)
    by_cases hc17 : (x10.N : Int) = 0
    ·
     replace h := ite_t hc17 h
     refine zbb rfl rfl (zeq hc17) (zbb rfl rfl (zeq hc17) (zbb rfl rfl (zeq hc17) (zbb rfl rfl (zeq hc17) ?_)))
     refine zag (zbe (t := (decide ((x10.N : Int) = 0))) (v := zT) rfl (zeq hc17) rfl (zap ?_))
     have hp16 := hL38.pick [1, 2, 0] rfl rfl rfl
     have hL39 : vL w w127 [some b1, some b6, some b11] [zac [(zI f.Const), f_v], zac [c_v, c_v1, c_v2, c_v3, c_v4, c_v5, c_v6], zac [(zI x10.Var), (zI x10.N)]] := hp16.1
     have K37 := ks w hp16.2
     obtain rfl := zae h
     refine zaq ?_
     exact ⟨true, _, rfl, (zeu ⟨rfl, rfl, rfl, rfl, rfl, rfl, rfl, rfl, trivial⟩), hL39, (zan (zan K33 K36) K37), trivial⟩
    replace h := ite_f hc17 h
    refine zba rfl rfl (zep hc17) (zak (q := 1) zcb rfl ti2 rfl rfl rfl ?_)
    refine zba rfl rfl (zep hc17) (zas (v := (zI x10.N)) zcf rfl rfl (hL38.at 0 rfl rfl) rfl ?_)
    obtain ⟨r13, q25, h⟩ := zes h
    refine zba rfl rfl (zep hc17) (zbc en74 rfl rfl (sWithin_w N x10.N (-1048576) 1048576 _ Any r13 q25) ?_)
    rintro _ w128 hE125 ⟨rfl, -⟩
    obtain ⟨hL40, K38⟩ := zl hL38 hE125
    refine zba rfl rfl (zep hc17) (zdy (x := r13) rfl ?_)
    refine zag (zbn (t := (decide ((x10.N : Int) = 0))) (v := (zab (!r13))) rfl (zep hc17) rfl (zap ?_))
    have hp17 := hL40.pick [1, 2, 0] rfl rfl rfl
    have hL41 : vL w w128 [some b1, some b6, some b11] [zac [(zI f.Const), f_v], zac [c_v, c_v1, c_v2, c_v3, c_v4, c_v5, c_v6], zac [(zI x10.Var), (zI x10.N)]] := hp17.1
    have K39 := ks w hp17.2
    obtain rfl := zae h
    refine zaq ?_
    exact ⟨(!r13), _, rfl, (zeu ⟨rfl, rfl, rfl, rfl, rfl, rfl, rfl, rfl, trivial⟩), hL41, (zan (zan (zan K33 K36) K38) K39), trivial⟩
   rintro _ w129 ⟨x11, u, rfl, rfl, hL42, K40, -⟩
   replace h := g11
   try dsimp only at h
   refine zdd x11 rfl (fun hc18 => ?_) (fun hc18 => ?_)
   ·
    replace h := ite_t hc18 h
    refine zal (zah rfl (zag (zam (v := (zI (-1))) rfl ?_)))
    refine zap (zbl ?_)
    obtain rfl := zae h
    obtain rfl := hd10 _ rfl
    replace h := g10
    try dsimp only at h
    obtain rfl := zae h
    refine ⟨[(zI (-1))], zrt, ⟨_, rfl, hL42.done, ?_⟩⟩
    exact zrt
   replace h := ite_f hc18 h
   refine zbk (zal (zah rfl (zag (zam (v := (zI 2147483648)) rfl ?_))))
   refine zap (zal (zal (zah rfl (zag (zak (q := 0) zcb rfl ti3 rfl rfl rfl ?_)))))
   refine zag (zas (v := (zI x10.Var)) zat rfl rfl (hL42.at 2 rfl rfl) rfl ?_)
   refine zag (zai (v := l_v) rfl ?_)
   have f15 := ((((((((l_h.mono (K4 S)).mono (K9 S)).mono (K10 S)).mono (K11 S)).mono (K13 S)).mono (K14 S)).mono (K15 S)).mono (K40 S))
   refine zag (zbg (v := l_v) zbt rfl f15 ?_)
   refine zag (zem (x := x10.Var) (y := (l.length : Int)) ((x10.Var : Int) ≥ (l.length : Int)) rfl rfl zbd (zap ?_))
   obtain ⟨s12, h, g12⟩ := zes h
   refine zce (fun e w' => ∃ (b13 : Int) (u : Env), (Sum.inl b13) = s12 ∧ e = upds [(2, l_v), (3, bounds_v), (4, (zaj (some ⟨b1, 0, none⟩))), (5, (zaj (some ⟨b6, 0, none⟩))), (9, (zI sum11)), (10, (zI i10)), (11, (zaj (some ⟨b11, 0, none⟩))), (12, (zI b13))] u ∧ vL w w' [some b1, some b6, some b11] [zac [(zI f.Const), f_v], zac [c_v, c_v1, c_v2, c_v3, c_v4, c_v5, c_v6], zac [(zI x10.Var), (zI x10.N)]] ∧ Keep w.heap.size [some b1, some b6, some b11] w129 [some b1, some b6, some b11] w' ∧ True) ?_ ?_
   ·
    refine zbf ((x10.Var : Int) ≥ (l.length : Int)) rfl (fun hc19 => ?_) (fun hc19 => ?_)
    ·
     replace h := ite_t hc19 h
     refine zah rfl (zag (zai (v := bounds_v) rfl ?_))
     refine zag (zak (q := 0) zcb rfl ti3 rfl rfl rfl ?_)
     refine zag (zas (v := (zI x10.Var)) zat rfl rfl (hL42.at 2 rfl rfl) rfl ?_)
     refine zag (zai (v := l_v) rfl ?_)
     refine zag (zbg (v := l_v) zbt rfl f15 ?_)
     refine zag (OpY.sub (x := x10.Var) (y := (l.length : Int)) (z := (iw (x10.Var - (l.length : Int)))) rfl rfl rfl ?_)
     obtain ⟨x13, n12, q27, q28, -, h⟩ := zix h
     have f16 := ((((((((bounds_h.mono (K4 S)).mono (K9 S)).mono (K10 S)).mono (K11 S)).mono (K13 S)).mono (K14 S)).mono (K15 S)).mono (K40 S))
     obtain ⟨b14, o12, c12, vs12, q29, q30, f17, q31⟩ := zcw f16 q28
     obtain rfl := q31
     refine zag (zbj (r := rI) (v := bounds_v) (n := n12) (m := (o12 + n12 * rI.sz)) zee ti2 rfl q29 rfl q27 q28 rfl ?_)
     refine zag (zby (v := (zI x13)) zcf rfl rfl zex f17 ?_)
     refine zag (zam (v := (zI x13)) rfl (zap ?_))
     obtain rfl := zae h
     refine zaq ?_
     exact ⟨x13, _, rfl, (zeu ⟨rfl, rfl, rfl, rfl, rfl, rfl, rfl, rfl, trivial⟩), hL42, zck, trivial⟩
    replace h := ite_f hc19 h
    refine zal ?_
    obtain ⟨s13, h, g13⟩ := zes h
    refine zce (fun e w' => ∃ (x14 : Bool) (u : Env), x14 = s13 ∧ e = upds [(2, l_v), (3, bounds_v), (4, (zaj (some ⟨b1, 0, none⟩))), (5, (zaj (some ⟨b6, 0, none⟩))), (9, (zI sum11)), (10, (zI i10)), (11, (zaj (some ⟨b11, 0, none⟩))), (12, (zI 2147483648)), (99, (zab x14))] u ∧ vL w w' [some b1, some b6, some b11] [zac [(zI f.Const), f_v], zac [c_v, c_v1, c_v2, c_v3, c_v4, c_v5, c_v6], zac [(zI x10.Var), (zI x10.N)]] ∧ Keep w.heap.size [some b1, some b6, some b11] w129 [some b1, some b6, some b11] w' ∧ True) ?_ ?_
    ·
     refine zah rfl (zag (zai (v := l_v) rfl ?_))
     refine zag (zak (q := 0) zcb rfl ti3 rfl rfl rfl ?_)
     refine zag (zas (v := (zI x10.Var)) zat rfl rfl (hL42.at 2 rfl rfl) rfl ?_)
     obtain ⟨x15, n13, q33, q34, -, h⟩ := zix h
     obtain ⟨b15, o13, c13, vs13, q35, q36, f18, q37⟩ := zcw f15 q34
     obtain ⟨rfl, -⟩ := rRVar_open q37
     refine zag (zbj (r := rRVar) (v := l_v) (n := n13) (m := (o13 + n13 * rRVar.sz)) zbt ti83 rfl q35 rfl q33 q34 rfl ?_)
     have f19 := (f18.part (us := [(zI x15.Ty)]) 0 rfl)
     refine zag (zak (q := (o13 + n13 * rRVar.sz) + 0) zcc rfl ti3 rfl rfl rfl ?_)
     refine zag (zby (v := (zI x15.Ty)) zat rfl rfl zex f19 ?_)
     refine zag (zek (x := x15.Ty) (y := 1) ((x15.Ty : Int) ≠ 1) rfl rfl zbd ?_)
     refine zag (zai (v := (zab (decide ((x15.Ty : Int) ≠ 1)))) rfl ?_)
     by_cases hc20 : (x15.Ty : Int) ≠ 1
     ·
      replace h := ite_t hc20 h
      refine zbb rfl rfl (zeq hc20) (zbb rfl rfl (zeq hc20) (zbb rfl rfl (zeq hc20) (zbb rfl rfl (zeq hc20) (zbb rfl rfl (zeq hc20) (zbb rfl rfl (zeq hc20) ?_)))))
      refine zag (zbe (t := (decide ((x15.Ty : Int) ≠ 1))) (v := zT) rfl (zeq hc20) rfl (zap ?_))
      obtain rfl := zae h
      refine zaq ?_
      exact ⟨true, _, rfl, (zeu ⟨rfl, rfl, rfl, rfl, rfl, rfl, rfl, rfl, rfl, trivial⟩), hL42, zck, trivial⟩
     replace h := ite_f hc20 h
     refine zba rfl rfl (zep hc20) (zak (q := 1) zay rfl ti23 rfl rfl rfl ?_)
     refine zba rfl rfl (zep hc20) (zas (v := c_v1) zaw rfl rfl (hL42.at 1 rfl rfl) rfl ?_)
     refine zba rfl rfl (zep hc20) (zak (q := 0) zcb rfl ti3 rfl rfl rfl ?_)
     refine zba rfl rfl (zep hc20) (zas (v := (zI x10.Var)) zat rfl rfl (hL42.at 2 rfl rfl) rfl ?_)
     obtain ⟨r14, q38, h⟩ := zes h
     have f20 := ((((((((c_h1.mono (K4 S)).mono (K9 S)).mono (K10 S)).mono (K11 S)).mono (K13 S)).mono (K14 S)).mono (K15 S)).mono (K40 S))
     refine zba rfl rfl (zep hc20) (zbc en106 rfl rfl (sHas_w N c.NotNull x10.Var c_v1 _ Any (f20.mono vw_any) r14 q38) ?_)
     rintro _ w130 hE126 ⟨rfl, -⟩
     obtain ⟨hL43, K41⟩ := zl hL42 hE126
     refine zba rfl rfl (zep hc20) (zdy (x := r14) rfl ?_)
     refine zag (zbn (t := (decide ((x15.Ty : Int) ≠ 1))) (v := (zab (!r14))) rfl (zep hc20) rfl (zap ?_))
     obtain rfl := zae h
     refine zaq ?_
     exact ⟨(!r14), _, rfl, (zeu ⟨rfl, rfl, rfl, rfl, rfl, rfl, rfl, rfl, rfl, trivial⟩), hL43, K41, trivial⟩
    rintro _ w131 ⟨x14, u, rfl, rfl, hL44, K42, -⟩
    replace h := g13
    try dsimp only at h
    refine zdd x14 rfl (fun hc21 => ?_) (fun hc21 => ?_)
    ·
     replace h := ite_t hc21 h
     refine zal (zah rfl (zag (zam (v := (zI (-1))) rfl ?_)))
     refine zap (zbl ?_)
     obtain rfl := zae h
     replace h := g12
     try dsimp only at h
     obtain rfl := zae h
     obtain rfl := hd10 _ rfl
     replace h := g10
     try dsimp only at h
     obtain rfl := zae h
     refine ⟨[(zI (-1))], zrt, ⟨_, rfl, hL44.done, ?_⟩⟩
     exact zrt
    replace h := ite_f hc21 h
    refine zbk ?_
    obtain rfl := zae h
    refine zaq ?_
    exact ⟨2147483648, _, rfl, (zeu ⟨rfl, rfl, rfl, rfl, rfl, rfl, rfl, rfl, trivial⟩), hL44, K42, trivial⟩
   rintro _ w132 ⟨b13, u, rfl, rfl, hL45, K43, -⟩
   replace h := g12
   try dsimp only at h
   refine zal (zal (zah rfl (zag (zai (v := (zI b13)) rfl ?_))))
   refine zag (zak (q := 1) zcb rfl ti2 rfl rfl rfl ?_)
   refine zag (zas (v := (zI x10.N)) zcf rfl rfl (hL45.at 2 rfl rfl) rfl ?_)
   obtain ⟨r15, q39, h⟩ := zes h
   refine zag (zbc en107 rfl rfl (sAbs_w N x10.N _ Any r15 q39) ?_)
   rintro _ w133 hE127 ⟨rfl, -⟩
   obtain ⟨hL46, K44⟩ := zl hL45 hE127
   obtain ⟨x16, q40, h⟩ := zes h
   obtain ⟨q41, q42⟩ := sdiv_some q40
   refine zag (OpY.quoI (x := 1152921504606846977) (y := r15) (z := x16) rfl rfl q41 q42 ?_)
   refine zag (zej (x := b13) (y := x16) ((b13 : Int) > x16) rfl rfl zbd (zap ?_))
   refine zbf ((b13 : Int) > x16) rfl (fun hc22 => ?_) (fun hc22 => ?_)
   ·
    replace h := ite_t hc22 h
    refine zal (zah rfl (zag (zam (v := (zI (-1))) rfl ?_)))
    refine zap (zbl ?_)
    obtain rfl := zae h
    obtain rfl := hd10 _ rfl
    replace h := g10
    try dsimp only at h
    obtain rfl := zae h
    refine ⟨[(zI (-1))], zrt, ⟨_, rfl, hL46.done, ?_⟩⟩
    exact zrt
   replace h := ite_f hc22 h
   refine zbk (zal (zah rfl (zag (zai (v := (zI sum11)) rfl ?_))))
   refine zag (zak (q := 1) zcb rfl ti2 rfl rfl rfl ?_)
   refine zag (zas (v := (zI x10.N)) zcf rfl rfl (hL46.at 2 rfl rfl) rfl ?_)
   obtain ⟨r16, q43, h⟩ := zes h
   refine zag (zbc en107 rfl rfl (sAbs_w N x10.N _ Any r16 q43) ?_)
   rintro _ w134 hE128 ⟨rfl, -⟩
   obtain ⟨hL47, K45⟩ := zl hL46 hE128
   refine zag (zai (v := (zI b13)) rfl ?_)
   refine zag (OpY.mul (x := r16) (y := b13) (z := (iw (r16 * b13))) rfl rfl rfl ?_)
   refine zag (zcl (x := sum11) (y := (iw (r16 * b13))) (z := (iw (sum11 + (iw (r16 * b13))))) rfl rfl rfl ?_)
   refine zag (zam (v := (zI (iw (sum11 + (iw (r16 * b13)))))) rfl ?_)
   refine zap (zal (zah rfl (zag (zai (v := (zI (iw (sum11 + (iw (r16 * b13)))))) rfl ?_))))
   refine zag (zej (x := (iw (sum11 + (iw (r16 * b13))))) (y := 1152921504606846977) (((iw (sum11 + (iw (r16 * b13)))) : Int) > 1152921504606846977) rfl rfl zbd (zap ?_))
   refine zbf (((iw (sum11 + (iw (r16 * b13)))) : Int) > 1152921504606846977) rfl (fun hc23 => ?_) (fun hc23 => ?_)
   ·
    replace h := ite_t hc23 h
    refine zal (zah rfl (zag (zam (v := (zI (-1))) rfl ?_)))
    refine zap (zbl ?_)
    obtain rfl := zae h
    obtain rfl := hd10 _ rfl
    replace h := g10
    try dsimp only at h
    obtain rfl := zae h
    refine ⟨[(zI (-1))], zrt, ⟨_, rfl, hL47.done, ?_⟩⟩
    exact zrt
   replace h := ite_f hc23 h
   refine zbk (zbu (zah rfl (zag (zai (v := (zI i10)) rfl ?_))))
   refine zag (zcl (x := i10) (y := 1) (z := (iw (i10 + 1))) rfl rfl rfl ?_)
   refine zag (zam (v := (zI (iw (i10 + 1)))) rfl (zap ?_))
   have hp18 := hL47.pick [0, 1] rfl rfl rfl
   have hL48 : vL w w134 [some b1, some b6] [zac [(zI f.Const), f_v], zac [c_v, c_v1, c_v2, c_v3, c_v4, c_v5, c_v6]] := hp18.1
   have K46 := ks w hp18.2
   obtain rfl := zae h
   refine zaq ⟨((iw (sum11 + (iw (r16 * b13)))), (iw (i10 + 1))), rfl, ?_⟩
   exact ⟨_, (zeu ⟨rfl, rfl, rfl, rfl, rfl, rfl, trivial⟩), hL48, (zan (zan (zan (zan (zan (zan (zan K13 K14) K15) K40) K43) K44) K45) K46), trivial⟩
  replace h := ite_f hc11 h
  refine zda rfl ?_
  have hp19 := hL13.pick [] rfl rfl rfl
  have hL49 : vL w w12 [] [] := hp19.1
  have K47 := ks w hp19.2
  obtain rfl := zae h
  obtain rfl := hd10 _ rfl
  replace h := g10
  try dsimp only at h
  refine zaq ?_
  exact ⟨sum11, _, rfl, (zeu zrt), hL49, (zan K13 K47), trivial⟩
 rintro _ w135 ⟨sum10, u, rfl, rfl, hL50, K48, -⟩
 replace h := g10
 try dsimp only at h
 refine zal (zah rfl (zag (zai (v := (zI sum10)) rfl ?_)))
 refine zag (zam (v := (zI sum10)) rfl ?_)
 refine zap (zbl ?_)
 obtain rfl := zae h
 refine ⟨[(zI sum10)], zrt, ⟨_, rfl, hL50.done, ?_⟩⟩
 exact zrt
theorem sAscending_w (N : Nat) (l : (List Int)) (n : Int) (l_v : Value) (w : World) (S : Nat → Prop) (l_h : Rs rI (vH w S [] w) l_v l) (r : Bool) (h : sAscending N l n = some r) :
  Calls Tryz.prog 71 #[l_v, (zI n)] w (Ret w (fun v w' => (zab r) = v ∧ True)) := by
 unfold sAscending at h
 have hL : vL w w [] [] := Go.X.Loc.begin0 w
 refine calls_of (l := [l_v, (zI n)]) (rl := [.tmp 4]) (n := 41) Tryz.func71 rfl rfl rfl (zaf rfl) ?_
 refine zal (zah rfl (zag (zam (v := zF) rfl ?_)))
 refine zap (zal (zal (zah rfl (zag (zam (v := (zI 0)) rfl (zap ?_))))))
 obtain ⟨s10, hl10, g10⟩ := zes h
 refine zce (fun e w' => ∃  (u : Env), (Sum.inl ()) = s10 ∧ e = upds [] u ∧ vL w w' [] [] ∧ Keep w.heap.size [] w [] w' ∧ True) ?_ ?_
 ·
  refine zbh ?_
  refine zcr hl10 (fun (ss : Int) (e : Env) (w' : World) => match ss with | i10 => ∃ (u : Env), e = upds [(0, l_v), (1, (zI n)), (5, (zI i10))] u ∧ vL w w' [] [] ∧ Keep w.heap.size [] w [] w' ∧ True) ⟨_, (zeu ⟨rfl, rfl, rfl, trivial⟩), hL, zck, trivial⟩ ?_
  rintro i10 oo _ w10 ⟨u, rfl, hL10, K10, -⟩ h hd10
  rw [sAscending_b1] at h
  refine zal (zal (zah rfl (zag (zai (v := (zI i10)) rfl ?_))))
  refine zag (zai (v := l_v) rfl ?_)
  have f10 := (l_h.mono (K10 S))
  refine zag (zbg (v := l_v) zaw rfl f10 ?_)
  refine zag (zcp (x := i10) (y := (l.length : Int)) ((i10 : Int) < (l.length : Int)) rfl rfl zbd (zap ?_))
  refine zbf ((i10 : Int) < (l.length : Int)) rfl (fun hc10 => ?_) (fun hc10 => ?_)
  ·
   replace h := ite_t hc10 h
   refine zbk (zal (zbh (zal ?_)))
   obtain ⟨s11, h, g11⟩ := zes h
   refine zce (fun e w' => ∃ (x10 : Bool) (u : Env), x10 = s11 ∧ e = upds [(0, l_v), (1, (zI n)), (5, (zI i10)), (40, (zab x10))] u ∧ vL w w' [] [] ∧ Keep w.heap.size [] w10 [] w' ∧ True) ?_ ?_
   ·
    obtain ⟨x11, n10, q11, q12, -, h⟩ := zix h
    obtain ⟨b10, o10, c10, vs10, q13, q14, f11, q15⟩ := zcw f10 q12
    obtain rfl := q15
    by_cases hc11 : (x11 : Int) < 0
    ·
     replace h := ite_t hc11 h
     refine zcm 26 [] [] (fun W1 => [.det l_v, .det (zI i10), .det (zaj (some ⟨b10, (o10 + n10 * rI.sz), none⟩)), .det (zI x11), .det (zab (decide ((x11 : Int) < 0))), .det (zab (decide ((x11 : Int) < 0))), .det undef, .det undef, .det undef, .det undef, .det undef, .det undef, .det zT, .det zT, .det undef, .det undef, .det undef, .det undef, .det undef, .det undef, .det undef, .det undef, .det undef, .det undef, .det undef, .det undef]) mixed rfl rfl rfl (fun _ => rfl) (fun _ => rfl) ?_ ?_
     ·
      intro W1 _
      exact trivial
     intro w11 hE10
     obtain ⟨hL11, K11⟩ := zl hL10 hE10
     refine zao (fun _ _ => zau (zai rfl (er rfl))) ?_
     refine zao (fun _ _ => zau (zai rfl (er rfl))) ?_
     refine zao (fun _ _ => zau (zbj (r := rI) (v := l_v) (n := n10) (m := (o10 + n10 * rI.sz)) zaw ti3 rfl q13 rfl q11 q12 rfl (er rfl))) ?_
     refine zao (fun _ hE14 => zau (zby zat rfl rfl zex (zcd ((ke hL11 hE14) S) (zcd (K11 S) f11)) (er rfl))) ?_
     refine zao (fun _ _ => zau (zcp ((x11 : Int) < 0) rfl rfl zbd (er rfl))) ?_
     refine zao (fun _ _ => zau (zai rfl (er rfl))) ?_
     refine zao (fun _ _ => zci rfl rfl (zeq hc11) (er rfl)) ?_
     refine zao (fun _ _ => zci rfl rfl (zeq hc11) (er rfl)) ?_
     refine zao (fun _ _ => zci rfl rfl (zeq hc11) (er rfl)) ?_
     refine zao (fun _ _ => zci rfl rfl (zeq hc11) (er rfl)) ?_
     refine zao (fun _ _ => zci rfl rfl (zeq hc11) (er rfl)) ?_
     refine zao (fun _ _ => zci rfl rfl (zeq hc11) (er rfl)) ?_
     refine zao (fun _ _ => zau (zbe rfl (zeq hc11) rfl (er rfl))) ?_
     refine zao (fun _ _ => zau (zai rfl (er rfl))) ?_
     refine zao (fun _ _ => zci rfl rfl rfl (er rfl)) ?_
     refine zao (fun _ _ => zci rfl rfl rfl (er rfl)) ?_
     refine zao (fun _ _ => zci rfl rfl rfl (er rfl)) ?_
     refine zao (fun _ _ => zcn rfl rfl (er rfl)) ?_
     refine zao (fun _ _ => zcn rfl rfl (er rfl)) ?_
     refine zao (fun _ _ => zcn rfl rfl (er rfl)) ?_
     refine zao (fun _ _ => zcn rfl rfl (er rfl)) ?_
     refine zao (fun _ _ => zcn rfl rfl (er rfl)) ?_
     refine zao (fun _ _ => zcn rfl rfl (er rfl)) ?_
     refine zao (fun _ _ => zcn rfl rfl (er rfl)) ?_
     refine zao (fun _ _ => zcn rfl rfl (er rfl)) ?_
     refine zao (fun _ _ => zcn rfl rfl (er rfl)) ?_
     refine zcy ?_
     rintro w38 Z45 hE37 hZ36 ⟨-⟩ ap10
     have hB10 := @zhb w11 Z45
     obtain ⟨hL12, K13⟩ := zl hL11 hE37
     refine zdi rfl rfl ?_
     refine zbb rfl rfl rfl ?_
     refine zag (zbe (t := true) (v := zT) rfl rfl rfl (zap ?_))
     obtain rfl := zae h
     refine zaq ?_
     exact ⟨true, _, rfl, (zeu ⟨rfl, rfl, rfl, rfl, trivial⟩), hL12, (zan K11 K13), trivial⟩
    replace h := ite_f hc11 h
    obtain ⟨x12, n11, q17, q18, -, h⟩ := zix h
    obtain ⟨b11, o11, c11, vs11, q19, q20, f12, q21⟩ := zcw f10 q18
    obtain rfl := q21
    by_cases hc12 : (x12 : Int) ≥ n
    ·
     replace h := ite_t hc12 h
     refine zcm 26 [] [] (fun W1 => [.det l_v, .det (zI i10), .det (zaj (some ⟨b10, (o10 + n10 * rI.sz), none⟩)), .det (zI x11), .det (zab (decide ((x11 : Int) < 0))), .det (zab (decide ((x11 : Int) < 0))), .det l_v, .det (zI i10), .det (zaj (some ⟨b11, (o11 + n11 * rI.sz), none⟩)), .det (zI x12), .det (zI n), .det (zab (decide ((x12 : Int) ≥ n))), .det (zab (decide ((x12 : Int) ≥ n))), .det (zab (decide ((x12 : Int) ≥ n))), .det undef, .det undef, .det undef, .det undef, .det undef, .det undef, .det undef, .det undef, .det undef, .det undef, .det undef, .det undef]) mixed rfl rfl rfl (fun _ => rfl) (fun _ => rfl) ?_ ?_
     ·
      intro W1 _
      exact trivial
     intro w39 hE38
     obtain ⟨hL13, K14⟩ := zl hL10 hE38
     refine zao (fun _ _ => zau (zai rfl (er rfl))) ?_
     refine zao (fun _ _ => zau (zai rfl (er rfl))) ?_
     refine zao (fun _ _ => zau (zbj (r := rI) (v := l_v) (n := n10) (m := (o10 + n10 * rI.sz)) zaw ti3 rfl q13 rfl q11 q12 rfl (er rfl))) ?_
     refine zao (fun _ hE42 => zau (zby zat rfl rfl zex (zcd ((ke hL13 hE42) S) (zcd (K14 S) f11)) (er rfl))) ?_
     refine zao (fun _ _ => zau (zcp ((x11 : Int) < 0) rfl rfl zbd (er rfl))) ?_
     refine zao (fun _ _ => zau (zai rfl (er rfl))) ?_
     refine zao (fun _ _ => zbm rfl rfl (zep hc11) (zai rfl (er rfl))) ?_
     refine zao (fun _ _ => zbm rfl rfl (zep hc11) (zai rfl (er rfl))) ?_
     refine zao (fun _ _ => zbm rfl rfl (zep hc11) (zbj (r := rI) (v := l_v) (n := n11) (m := (o11 + n11 * rI.sz)) zaw ti3 rfl q19 rfl q17 q18 rfl (er rfl))) ?_
     refine zao (fun _ hE48 => zbm rfl rfl (zep hc11) (zby zat rfl rfl zex (zcd ((ke hL13 hE48) S) (zcd (K14 S) f12)) (er rfl))) ?_
     refine zao (fun _ _ => zbm rfl rfl (zep hc11) (zai rfl (er rfl))) ?_
     refine zao (fun _ _ => zbm rfl rfl (zep hc11) (zem ((x12 : Int) ≥ n) rfl rfl zbd (er rfl))) ?_
     refine zao (fun _ _ => zau (zbn rfl (zep hc11) rfl (er rfl))) ?_
     refine zao (fun _ _ => zau (zai rfl (er rfl))) ?_
     refine zao (fun _ _ => zci rfl rfl (zeq hc12) (er rfl)) ?_
     refine zao (fun _ _ => zci rfl rfl (zeq hc12) (er rfl)) ?_
     refine zao (fun _ _ => zci rfl rfl (zeq hc12) (er rfl)) ?_
     refine zao (fun _ _ => zcn rfl rfl (er rfl)) ?_
     refine zao (fun _ _ => zcn rfl rfl (er rfl)) ?_
     refine zao (fun _ _ => zcn rfl rfl (er rfl)) ?_
     refine zao (fun _ _ => zcn rfl rfl (er rfl)) ?_
     refine zao (fun _ _ => zcn rfl rfl (er rfl)) ?_
     refine zao (fun _ _ => zcn rfl rfl (er rfl)) ?_
     refine zao (fun _ _ => zcn rfl rfl (er rfl)) ?_
     refine zao (fun _ _ => zcn rfl rfl (er rfl)) ?_
     refine zao (fun _ _ => zcn rfl rfl (er rfl)) ?_
     refine zcy ?_
     rintro w66 Z72 hE65 hZ63 ⟨-⟩ ap11
     have hB11 := @zhb w39 Z72
     obtain ⟨hL14, K17⟩ := zl hL13 hE65
     refine zdi rfl rfl ?_
     refine zbb rfl rfl (zeq hc12) ?_
     refine zag (zbe (t := (decide ((x12 : Int) ≥ n))) (v := zT) rfl (zeq hc12) rfl (zap ?_))
     obtain rfl := zae h
     refine zaq ?_
     exact ⟨true, _, rfl, (zeu ⟨rfl, rfl, rfl, rfl, trivial⟩), hL14, (zan K14 K17), trivial⟩
    replace h := ite_f hc12 h
    by_cases hc13 : (i10 : Int) > 0
    ·
     replace h := ite_t hc13 h
     obtain ⟨x13, n12, q23, q24, -, h⟩ := zix h
     obtain ⟨b12, o12, c12, vs12, q25, q26, f13, q27⟩ := zcw f10 q24
     obtain rfl := q27
     obtain ⟨x14, n13, q29, q30, -, h⟩ := zix h
     obtain ⟨b13, o13, c13, vs13, q31, q32, f14, q33⟩ := zcw f10 q30
     obtain rfl := q33
     refine zcm 26 [] [] (fun W1 => [.det l_v, .det (zI i10), .det (zaj (some ⟨b10, (o10 + n10 * rI.sz), none⟩)), .det (zI x11), .det (zab (decide ((x11 : Int) < 0))), .det (zab (decide ((x11 : Int) < 0))), .det l_v, .det (zI i10), .det (zaj (some ⟨b11, (o11 + n11 * rI.sz), none⟩)), .det (zI x12), .det (zI n), .det (zab (decide ((x12 : Int) ≥ n))), .det (zab (decide ((x12 : Int) ≥ n))), .det (zab (decide ((x12 : Int) ≥ n))), .det (zI i10), .det (zab (decide ((i10 : Int) > 0))), .det (zab (decide ((i10 : Int) > 0))), .det l_v, .det (zI i10), .det (zI (iw (i10 - 1))), .det (zaj (some ⟨b12, (o12 + n12 * rI.sz), none⟩)), .det (zI x13), .det l_v, .det (zI i10), .det (zaj (some ⟨b13, (o13 + n13 * rI.sz), none⟩)), .det (zI x14)]) mixed rfl rfl rfl (fun _ => rfl) (fun _ => rfl) ?_ ?_
     ·
      intro W1 _
      exact trivial
     intro w67 hE66
     obtain ⟨hL15, K18⟩ := zl hL10 hE66
     refine zao (fun _ _ => zau (zai rfl (er rfl))) ?_
     refine zao (fun _ _ => zau (zai rfl (er rfl))) ?_
     refine zao (fun _ _ => zau (zbj (r := rI) (v := l_v) (n := n10) (m := (o10 + n10 * rI.sz)) zaw ti3 rfl q13 rfl q11 q12 rfl (er rfl))) ?_
     refine zao (fun _ hE70 => zau (zby zat rfl rfl zex (zcd ((ke hL15 hE70) S) (zcd (K18 S) f11)) (er rfl))) ?_
     refine zao (fun _ _ => zau (zcp ((x11 : Int) < 0) rfl rfl zbd (er rfl))) ?_
     refine zao (fun _ _ => zau (zai rfl (er rfl))) ?_
     refine zao (fun _ _ => zbm rfl rfl (zep hc11) (zai rfl (er rfl))) ?_
     refine zao (fun _ _ => zbm rfl rfl (zep hc11) (zai rfl (er rfl))) ?_
     refine zao (fun _ _ => zbm rfl rfl (zep hc11) (zbj (r := rI) (v := l_v) (n := n11) (m := (o11 + n11 * rI.sz)) zaw ti3 rfl q19 rfl q17 q18 rfl (er rfl))) ?_
     refine zao (fun _ hE76 => zbm rfl rfl (zep hc11) (zby zat rfl rfl zex (zcd ((ke hL15 hE76) S) (zcd (K18 S) f12)) (er rfl))) ?_
     refine zao (fun _ _ => zbm rfl rfl (zep hc11) (zai rfl (er rfl))) ?_
     refine zao (fun _ _ => zbm rfl rfl (zep hc11) (zem ((x12 : Int) ≥ n) rfl rfl zbd (er rfl))) ?_
     refine zao (fun _ _ => zau (zbn rfl (zep hc11) rfl (er rfl))) ?_
     refine zao (fun _ _ => zau (zai rfl (er rfl))) ?_
     refine zao (fun _ _ => zbm rfl rfl (zep hc12) (zai rfl (er rfl))) ?_
     refine zao (fun _ _ => zbm rfl rfl (zep hc12) (zej ((i10 : Int) > 0) rfl rfl zbd (er rfl))) ?_
     refine zao (fun _ _ => zbm rfl rfl (zep hc12) (zai rfl (er rfl))) ?_
     refine zao (fun _ _ => zbm rfl rfl (zeq hc13) (zai rfl (er rfl))) ?_
     refine zao (fun _ _ => zbm rfl rfl (zeq hc13) (zai rfl (er rfl))) ?_
     refine zao (fun _ _ => zbm rfl rfl (zeq hc13) (OpY.sub rfl rfl rfl (er rfl))) ?_
     refine zao (fun _ _ => zbm rfl rfl (zeq hc13) (zbj (r := rI) (v := l_v) (n := n12) (m := (o12 + n12 * rI.sz)) zaw ti3 rfl q25 rfl q23 q24 rfl (er rfl))) ?_
     refine zao (fun _ hE88 => zbm rfl rfl (zeq hc13) (zby zat rfl rfl zex (zcd ((ke hL15 hE88) S) (zcd (K18 S) f13)) (er rfl))) ?_
     refine zao (fun _ _ => zbm rfl rfl (zeq hc13) (zai rfl (er rfl))) ?_
     refine zao (fun _ _ => zbm rfl rfl (zeq hc13) (zai rfl (er rfl))) ?_
     refine zao (fun _ _ => zbm rfl rfl (zeq hc13) (zbj (r := rI) (v := l_v) (n := n13) (m := (o13 + n13 * rI.sz)) zaw ti3 rfl q31 rfl q29 q30 rfl (er rfl))) ?_
     refine zao (fun _ hE92 => zbm rfl rfl (zeq hc13) (zby zat rfl rfl zex (zcd ((ke hL15 hE92) S) (zcd (K18 S) f14)) (er rfl))) ?_
     refine zcy ?_
     rintro w94 Z99 hE93 hZ90 ⟨-⟩ ap12
     have hB12 := @zhb w67 Z99
     obtain ⟨hL16, K23⟩ := zl hL15 hE93
     refine zba rfl rfl (zeq hc13) (zem (x := x13) (y := x14) ((x13 : Int) ≥ x14) rfl rfl zbd ?_)
     refine zba rfl rfl (zep hc12) (zbe (t := (decide ((i10 : Int) > 0))) (v := (zab (decide ((x13 : Int) ≥ x14)))) rfl (zeq hc13) rfl ?_)
     refine zag (zbn (t := (decide ((x12 : Int) ≥ n))) (v := (zab (decide ((x13 : Int) ≥ x14)))) rfl (zep hc12) rfl (zap ?_))
     obtain rfl := zae h
     refine zaq ?_
     exact ⟨(decide ((x13 : Int) ≥ x14)), _, rfl, (zeu ⟨rfl, rfl, rfl, rfl, trivial⟩), hL16, (zan K18 K23), trivial⟩
    replace h := ite_f hc13 h
    refine zcm 26 [] [] (fun W1 => [.det l_v, .det (zI i10), .det (zaj (some ⟨b10, (o10 + n10 * rI.sz), none⟩)), .det (zI x11), .det (zab (decide ((x11 : Int) < 0))), .det (zab (decide ((x11 : Int) < 0))), .det l_v, .det (zI i10), .det (zaj (some ⟨b11, (o11 + n11 * rI.sz), none⟩)), .det (zI x12), .det (zI n), .det (zab (decide ((x12 : Int) ≥ n))), .det (zab (decide ((x12 : Int) ≥ n))), .det (zab (decide ((x12 : Int) ≥ n))), .det (zI i10), .det (zab (decide ((i10 : Int) > 0))), .det (zab (decide ((i10 : Int) > 0))), .det undef, .det undef, .det undef, .det undef, .det undef, .det undef, .det undef, .det undef, .det undef]) mixed rfl rfl rfl (fun _ => rfl) (fun _ => rfl) ?_ ?_
    ·
     intro W1 _
     exact trivial
    intro w95 hE94
    obtain ⟨hL17, K24⟩ := zl hL10 hE94
    refine zao (fun _ _ => zau (zai rfl (er rfl))) ?_
    refine zao (fun _ _ => zau (zai rfl (er rfl))) ?_
    refine zao (fun _ _ => zau (zbj (r := rI) (v := l_v) (n := n10) (m := (o10 + n10 * rI.sz)) zaw ti3 rfl q13 rfl q11 q12 rfl (er rfl))) ?_
    refine zao (fun _ hE98 => zau (zby zat rfl rfl zex (zcd ((ke hL17 hE98) S) (zcd (K24 S) f11)) (er rfl))) ?_
    refine zao (fun _ _ => zau (zcp ((x11 : Int) < 0) rfl rfl zbd (er rfl))) ?_
    refine zao (fun _ _ => zau (zai rfl (er rfl))) ?_
    refine zao (fun _ _ => zbm rfl rfl (zep hc11) (zai rfl (er rfl))) ?_
    refine zao (fun _ _ => zbm rfl rfl (zep hc11) (zai rfl (er rfl))) ?_
    refine zao (fun _ _ => zbm rfl rfl (zep hc11) (zbj (r := rI) (v := l_v) (n := n11) (m := (o11 + n11 * rI.sz)) zaw ti3 rfl q19 rfl q17 q18 rfl (er rfl))) ?_
    refine zao (fun _ hE104 => zbm rfl rfl (zep hc11) (zby zat rfl rfl zex (zcd ((ke hL17 hE104) S) (zcd (K24 S) f12)) (er rfl))) ?_
    refine zao (fun _ _ => zbm rfl rfl (zep hc11) (zai rfl (er rfl))) ?_
    refine zao (fun _ _ => zbm rfl rfl (zep hc11) (zem ((x12 : Int) ≥ n) rfl rfl zbd (er rfl))) ?_
    refine zao (fun _ _ => zau (zbn rfl (zep hc11) rfl (er rfl))) ?_
    refine zao (fun _ _ => zau (zai rfl (er rfl))) ?_
    refine zao (fun _ _ => zbm rfl rfl (zep hc12) (zai rfl (er rfl))) ?_
    refine zao (fun _ _ => zbm rfl rfl (zep hc12) (zej ((i10 : Int) > 0) rfl rfl zbd (er rfl))) ?_
    refine zao (fun _ _ => zbm rfl rfl (zep hc12) (zai rfl (er rfl))) ?_
    refine zao (fun _ _ => zci rfl rfl (zep hc13) (er rfl)) ?_
    refine zao (fun _ _ => zci rfl rfl (zep hc13) (er rfl)) ?_
    refine zao (fun _ _ => zci rfl rfl (zep hc13) (er rfl)) ?_
    refine zao (fun _ _ => zci rfl rfl (zep hc13) (er rfl)) ?_
    refine zao (fun _ _ => zci rfl rfl (zep hc13) (er rfl)) ?_
    refine zao (fun _ _ => zci rfl rfl (zep hc13) (er rfl)) ?_
    refine zao (fun _ _ => zci rfl rfl (zep hc13) (er rfl)) ?_
    refine zao (fun _ _ => zci rfl rfl (zep hc13) (er rfl)) ?_
    refine zao (fun _ _ => zci rfl rfl (zep hc13) (er rfl)) ?_
    refine zcy ?_
    rintro w122 Z126 hE121 hZ117 ⟨-⟩ ap13
    have hB13 := @zhb w95 Z126
    obtain ⟨hL18, K27⟩ := zl hL17 hE121
    refine zbb rfl rfl (zep hc13) ?_
    refine zba rfl rfl (zep hc12) (zbn (t := (decide ((i10 : Int) > 0))) (v := zF) rfl (zep hc13) rfl ?_)
    refine zag (zbn (t := (decide ((x12 : Int) ≥ n))) (v := zF) rfl (zep hc12) rfl (zap ?_))
    obtain rfl := zae h
    refine zaq ?_
    exact ⟨false, _, rfl, (zeu ⟨rfl, rfl, rfl, rfl, trivial⟩), hL18, (zan K24 K27), trivial⟩
   rintro _ w123 ⟨x10, u, rfl, rfl, hL19, K28, -⟩
   replace h := g11
   try dsimp only at h
   refine zdd x10 rfl (fun hc14 => ?_) (fun hc14 => ?_)
   ·
    replace h := ite_t hc14 h
    refine zal (zah rfl (zag (zam (v := zF) rfl ?_)))
    refine zap (zbl ?_)
    obtain rfl := zae h
    obtain rfl := hd10 _ rfl
    replace h := g10
    try dsimp only at h
    obtain rfl := zae h
    refine ⟨[zF], zrt, ⟨_, rfl, hL19.done, ?_⟩⟩
    exact zrt
   replace h := ite_f hc14 h
   refine zbk (zbu (zah rfl (zag (zai (v := (zI i10)) rfl ?_))))
   refine zag (zcl (x := i10) (y := 1) (z := (iw (i10 + 1))) rfl rfl rfl ?_)
   refine zag (zam (v := (zI (iw (i10 + 1)))) rfl (zap ?_))
   obtain rfl := zae h
   refine zaq ⟨(iw (i10 + 1)), rfl, ?_⟩
   exact ⟨_, (zeu ⟨rfl, rfl, rfl, trivial⟩), hL19, (zan K10 K28), trivial⟩
  replace h := ite_f hc10 h
  refine zda rfl ?_
  obtain rfl := zae h
  obtain rfl := hd10 _ rfl
  replace h := g10
  try dsimp only at h
  refine zaq ?_
  exact ⟨_, rfl, (zeu trivial), hL10, K10, trivial⟩
 rintro _ w124 ⟨u, rfl, rfl, hL20, K29, -⟩
 replace h := g10
 try dsimp only at h
 refine zal (zah rfl (zag (zam (v := zT) rfl ?_)))
 refine zap (zbl ?_)
 obtain rfl := zae h
 refine ⟨[zT], zrt, ⟨_, rfl, hL20.done, ?_⟩⟩
 exact zrt
theorem sText_w (N : Nat) (pa : Int) (c : RClause) (l : (List RVar)) (c_v : Value) (c_v1 : Value) (c_v2 : Value) (c_v3 : Value) (c_v4 : Value) (c_v5 : Value) (c_v6 : Value) (l_v : Value) (w : World) (S : Nat → Prop) (c_h : Rs rI (vH w S [] w) c_v c.Null) (c_h1 : Rs rI (vH w S [] w) c_v1 c.NotNull) (c_h2 : Rs rRAux (vH w S [] w) c_v2 c.Auxiliary) (c_h3 : Rs rConstraint (vH w S [] w) c_v3 c.Ints) (c_h4 : Rs rTTest (vH w S [] w) c_v4 c.Tests) (c_h5 : Rs rArr2Int (vH w S [] w) c_v5 c.Same) (c_h6 : Rs rArr2Int (vH w S [] w) c_v6 c.Different) (l_h : Rs rRVar (vH w S [] w) l_v l) (r : Bool) (h : sText N pa c l = some r) :
  Calls Tryz.prog 72 #[(zI pa), (zar #[c_v, c_v1, c_v2, c_v3, c_v4, c_v5, c_v6]), l_v] w (Ret w (fun v w' => (zab r) = v ∧ True)) := by
 unfold sText at h
 have hL : vL w w [] [] := Go.X.Loc.begin0 w
 refine calls_of (l := [(zI pa), (zar #[c_v, c_v1, c_v2, c_v3, c_v4, c_v5, c_v6]), l_v]) (rl := [.tmp 6]) (n := 29) Tryz.func72 rfl rfl rfl (zaf rfl) ?_
 refine zal (zah rfl (zag (zdu (cs := [c_v, c_v1, c_v2, c_v3, c_v4, c_v5, c_v6]) rfl rfl hL ?_)))
 intro b1 w2 hL3 hS5
 have K4 := ks w hS5
 refine zag (zam (v := zF) rfl ?_)
 refine zap (zal (zah rfl (zag (zai (v := (zI pa)) rfl ?_))))
 refine zag (zem (x := pa) (y := 0) ((pa : Int) ≥ 0) rfl rfl zbd ?_)
 refine zag (zai (v := (zab (decide ((pa : Int) ≥ 0)))) rfl ?_)
 by_cases hc6 : (pa : Int) ≥ 0
 ·
  replace h := ite_t hc6 h
  refine zba rfl rfl (zeq hc6) (zai (v := (zI pa)) rfl ?_)
  refine zba rfl rfl (zeq hc6) (zai (v := l_v) rfl ?_)
  have f7 := (l_h.mono (K4 S))
  refine zba rfl rfl (zeq hc6) (zbg (v := l_v) zbt rfl f7 ?_)
  refine zba rfl rfl (zeq hc6) (zcp (x := pa) (y := (l.length : Int)) ((pa : Int) < (l.length : Int)) rfl rfl zbd ?_)
  refine zag (zbe (t := (decide ((pa : Int) ≥ 0))) (v := (zab (decide ((pa : Int) < (l.length : Int))))) rfl (zeq hc6) rfl ?_)
  refine zag (zai (v := (zab (decide ((pa : Int) < (l.length : Int))))) rfl ?_)
  by_cases hc8 : (pa : Int) < (l.length : Int)
  ·
   replace h := ite_t hc8 h
   refine zba rfl rfl (zeq hc8) (zai (v := l_v) rfl ?_)
   refine zba rfl rfl (zeq hc8) (zai (v := (zI pa)) rfl ?_)
   obtain ⟨x9, n10, q11, q12, -, h⟩ := zix h
   obtain ⟨b10, o10, c10, vs10, q13, q14, f10, q15⟩ := zcw f7 q12
   obtain ⟨rfl, -⟩ := rRVar_open q15
   refine zba rfl rfl (zeq hc8) (zbj (r := rRVar) (v := l_v) (n := n10) (m := (o10 + n10 * rRVar.sz)) zbt ti83 rfl q13 rfl q11 q12 rfl ?_)
   have f11 := (f10.part (us := [(zI x9.Ty)]) 0 rfl)
   refine zba rfl rfl (zeq hc8) (zak (q := (o10 + n10 * rRVar.sz) + 0) zcc rfl ti3 rfl rfl rfl ?_)
   refine zba rfl rfl (zeq hc8) (zby (v := (zI x9.Ty)) zat rfl rfl zex f11 ?_)
   refine zba rfl rfl (zeq hc8) (zeb (x := x9.Ty) (y := 2) ((x9.Ty : Int) = 2) rfl rfl zbd ?_)
   refine zag (zbe (t := (decide ((pa : Int) < (l.length : Int)))) (v := (zab (decide ((x9.Ty : Int) = 2)))) rfl (zeq hc8) rfl ?_)
   refine zag (zai (v := (zab (decide ((x9.Ty : Int) = 2)))) rfl ?_)
   by_cases hc10 : (x9.Ty : Int) = 2
   ·
    replace h := ite_t hc10 h
    refine zba rfl rfl (zeq hc10) (zak (q := 1) zay rfl ti23 rfl rfl rfl ?_)
    refine zba rfl rfl (zeq hc10) (zas (v := c_v1) zaw rfl rfl (hL3.at 0 rfl rfl) rfl ?_)
    refine zba rfl rfl (zeq hc10) (zai (v := (zI pa)) rfl ?_)
    obtain ⟨r10, q16, h⟩ := zes h
    have f12 := (c_h1.mono (K4 S))
    refine zba rfl rfl (zeq hc10) (zbc en106 rfl rfl (sHas_w N c.NotNull pa c_v1 _ Any (f12.mono vw_any) r10 q16) ?_)
    rintro _ w10 hE10 ⟨rfl, -⟩
    have hL10 := hL3.ext hE10
    refine zag (zbe (t := (decide ((x9.Ty : Int) = 2))) (v := (zab r10)) rfl (zeq hc10) rfl ?_)
    refine zag (zam (v := (zab r10)) rfl ?_)
    refine zap (zbl ?_)
    obtain rfl := zae h
    refine ⟨[(zab r10)], zrt, ⟨_, rfl, hL10.done, ?_⟩⟩
    exact zrt
   replace h := ite_f hc10 h
   refine zbb rfl rfl (zep hc10) (zbb rfl rfl (zep hc10) (zbb rfl rfl (zep hc10) (zbb rfl rfl (zep hc10) ?_)))
   refine zag (zbn (t := (decide ((x9.Ty : Int) = 2))) (v := zF) rfl (zep hc10) rfl ?_)
   refine zag (zam (v := zF) rfl ?_)
   refine zap (zbl ?_)
   obtain rfl := zae h
   refine ⟨[zF], zrt, ⟨_, rfl, hL3.done, ?_⟩⟩
   exact zrt
  replace h := ite_f hc8 h
  refine zbb rfl rfl (zep hc8) (zbb rfl rfl (zep hc8) (zbb rfl rfl (zep hc8) (zbb rfl rfl (zep hc8) (zbb rfl rfl (zep hc8) (zbb rfl rfl (zep hc8) ?_)))))
  refine zag (zbn (t := (decide ((pa : Int) < (l.length : Int)))) (v := zF) rfl (zep hc8) rfl ?_)
  refine zag (zai (v := zF) rfl ?_)
  refine zbb rfl rfl rfl (zbb rfl rfl rfl (zbb rfl rfl rfl (zbb rfl rfl rfl ?_)))
  refine zag (zbn (t := false) (v := zF) rfl rfl rfl ?_)
  refine zag (zam (v := zF) rfl ?_)
  refine zap (zbl ?_)
  obtain rfl := zae h
  refine ⟨[zF], zrt, ⟨_, rfl, hL3.done, ?_⟩⟩
  exact zrt
 replace h := ite_f hc6 h
 refine zbb rfl rfl (zep hc6) (zbb rfl rfl (zep hc6) (zbb rfl rfl (zep hc6) (zbb rfl rfl (zep hc6) ?_)))
 refine zag (zbn (t := (decide ((pa : Int) ≥ 0))) (v := zF) rfl (zep hc6) rfl ?_)
 refine zag (zai (v := zF) rfl ?_)
 refine zbb rfl rfl rfl (zbb rfl rfl rfl (zbb rfl rfl rfl (zbb rfl rfl rfl (zbb rfl rfl rfl (zbb rfl rfl rfl ?_)))))
 refine zag (zbn (t := false) (v := zF) rfl rfl rfl ?_)
 refine zag (zai (v := zF) rfl ?_)
 refine zbb rfl rfl rfl (zbb rfl rfl rfl (zbb rfl rfl rfl (zbb rfl rfl rfl ?_)))
 refine zag (zbn (t := false) (v := zF) rfl rfl rfl ?_)
 refine zag (zam (v := zF) rfl ?_)
 refine zap (zbl ?_)
 obtain rfl := zae h
 refine ⟨[zF], zrt, ⟨_, rfl, hL3.done, ?_⟩⟩
 exact zrt
theorem sPairs_w (N : Nat) (p : (List Arr2Int)) (c : RClause) (l : (List RVar)) (p_v : Value) (c_v : Value) (c_v1 : Value) (c_v2 : Value) (c_v3 : Value) (c_v4 : Value) (c_v5 : Value) (c_v6 : Value) (l_v : Value) (w : World) (S : Nat → Prop) (p_h : Rs rArr2Int (vH w S [] w) p_v p) (c_h : Rs rI (vH w S [] w) c_v c.Null) (c_h1 : Rs rI (vH w S [] w) c_v1 c.NotNull) (c_h2 : Rs rRAux (vH w S [] w) c_v2 c.Auxiliary) (c_h3 : Rs rConstraint (vH w S [] w) c_v3 c.Ints) (c_h4 : Rs rTTest (vH w S [] w) c_v4 c.Tests) (c_h5 : Rs rArr2Int (vH w S [] w) c_v5 c.Same) (c_h6 : Rs rArr2Int (vH w S [] w) c_v6 c.Different) (l_h : Rs rRVar (vH w S [] w) l_v l) (r : Bool) (h : sPairs N p c l = some r) :
  Calls Tryz.prog 76 #[p_v, (zar #[c_v, c_v1, c_v2, c_v3, c_v4, c_v5, c_v6]), l_v] w (Ret w (fun v w' => (zab r) = v ∧ True)) := by
 unfold sPairs at h
 have hL : vL w w [] [] := Go.X.Loc.begin0 w
 refine calls_of (l := [p_v, (zar #[c_v, c_v1, c_v2, c_v3, c_v4, c_v5, c_v6]), l_v]) (rl := [.tmp 6]) (n := 47) Tryz.func76 rfl rfl rfl (zaf rfl) ?_
 refine zal (zah rfl (zag (zdu (cs := [c_v, c_v1, c_v2, c_v3, c_v4, c_v5, c_v6]) rfl rfl hL ?_)))
 intro b1 w2 hL3 hS5
 have K4 := ks w hS5
 refine zag (zam (v := zF) rfl ?_)
 refine zap (zal (zal (zah rfl (zag (zam (v := (zI 0)) rfl (zap ?_))))))
 obtain ⟨s10, hl10, g10⟩ := zes h
 refine zce (fun e w' => ∃  (u : Env), (Sum.inl ()) = s10 ∧ e = upds [] u ∧ vL w w' [] [] ∧ Keep w.heap.size [some b1] w2 [] w' ∧ True) ?_ ?_
 ·
  refine zbh ?_
  refine zcr hl10 (fun (ss : Int) (e : Env) (w' : World) => match ss with | i10 => ∃ (u : Env), e = upds [(0, p_v), (2, l_v), (4, (zaj (some ⟨b1, 0, none⟩))), (7, (zI i10))] u ∧ vL w w' [some b1] [zac [c_v, c_v1, c_v2, c_v3, c_v4, c_v5, c_v6]] ∧ Keep w.heap.size [some b1] w2 [some b1] w' ∧ True) ⟨_, (zeu ⟨rfl, rfl, rfl, rfl, trivial⟩), hL3, zck, trivial⟩ ?_
  rintro i10 oo _ w10 ⟨u, rfl, hL10, K10, -⟩ h hd10
  rw [sPairs_b1] at h
  refine zal (zal (zah rfl (zag (zai (v := (zI i10)) rfl ?_))))
  refine zag (zai (v := p_v) rfl ?_)
  have f10 := ((p_h.mono (K4 S)).mono (K10 S))
  refine zag (zbg (v := p_v) zaz rfl f10 ?_)
  refine zag (zcp (x := i10) (y := (p.length : Int)) ((i10 : Int) < (p.length : Int)) rfl rfl zbd (zap ?_))
  refine zbf ((i10 : Int) < (p.length : Int)) rfl (fun hc10 => ?_) (fun hc10 => ?_)
  ·
   replace h := ite_t hc10 h
   refine zbk (zal (zbh (zal ?_)))
   obtain ⟨s11, h, g11⟩ := zes h
   refine zce (fun e w' => ∃ (x10 : Bool) (u : Env), x10 = s11 ∧ e = upds [(0, p_v), (2, l_v), (4, (zaj (some ⟨b1, 0, none⟩))), (7, (zI i10)), (46, (zab x10))] u ∧ vL w w' [some b1] [zac [c_v, c_v1, c_v2, c_v3, c_v4, c_v5, c_v6]] ∧ Keep w.heap.size [some b1] w10 [some b1] w' ∧ True) ?_ ?_
   ·
    obtain ⟨x11, n10, q11, q12, -, h⟩ := zix h
    obtain ⟨b10, o10, c10, vs10, q13, q14, f11, q15⟩ := zcw f10 q12
    obtain ⟨rfl, -⟩ := rArr2Int_open q15
    have f12 := (f11.part (us := [(zI x11.e0)]) 0 rfl)
    obtain ⟨r10, q16, h⟩ := zes h
    by_cases hc11 : (!r10) = true
    ·
     replace h := ite_t hc11 h
     refine zcm 31 [] [] (fun W1 => [.det p_v, .det (zI i10), .det (zaj (some ⟨b10, (o10 + n10 * rArr2Int.sz), none⟩)), .det (zaj (some ⟨b10, (o10 + n10 * rArr2Int.sz) + 0, none⟩)), .det (zI x11.e0), .det (zar #[c_v, c_v1, c_v2, c_v3, c_v4, c_v5, c_v6]), .det l_v, .det (zab r10), .det (zab (!r10)), .det (zab (!r10)), .det undef, .det undef, .det undef, .det undef, .det undef, .det undef, .det undef, .det undef, .det undef, .det zT, .det zT, .det undef, .det undef, .det undef, .det undef, .det undef, .det undef, .det undef, .det undef, .det undef, .det undef]) mixed rfl rfl rfl (fun _ => rfl) (fun _ => rfl) ?_ ?_
     ·
      intro W1 _
      exact trivial
     intro w11 hE10
     obtain ⟨hL11, K11⟩ := zl hL10 hE10
     refine zao (fun _ _ => zau (zai rfl (er rfl))) ?_
     refine zao (fun _ _ => zau (zai rfl (er rfl))) ?_
     refine zao (fun _ _ => zau (zbj (r := rArr2Int) (v := p_v) (n := n10) (m := (o10 + n10 * rArr2Int.sz)) zaz ti54 rfl q13 rfl q11 q12 rfl (er rfl))) ?_
     refine zao (fun _ _ => zau (zcg (i := 0) (q := (o10 + n10 * rArr2Int.sz) + 0) zbv ti3 rfl rfl (by decide) rfl (er rfl))) ?_
     refine zao (fun _ hE15 => zau (zby zat rfl rfl zex (zcd ((ke hL11 hE15) S) (zcd (K11 S) f12)) (er rfl))) ?_
     refine zao (fun _ hE16 => zau (zbr (vs := [c_v, c_v1, c_v2, c_v3, c_v4, c_v5, c_v6]) zay rfl ti29 rfl ((hL11.ext hE16).at 0 rfl rfl) rfl rfl (er rfl))) ?_
     refine zao (fun _ _ => zau (zai rfl (er rfl))) ?_
     refine zen ?_ ?_
     ·
      rintro w19 Z26 hE18 hZ17 ⟨-⟩
      have K13 := ke hL11 hE18
      refine zau (zbc en72 rfl rfl (sText_w N x11.e0 c l c_v c_v1 c_v2 c_v3 c_v4 c_v5 c_v6 l_v _ Any (((((c_h.mono (K4 S)).mono (K10 S)).mono (K11 S)).mono (K13 S)).mono vw_any) (((((c_h1.mono (K4 S)).mono (K10 S)).mono (K11 S)).mono (K13 S)).mono vw_any) (((((c_h2.mono (K4 S)).mono (K10 S)).mono (K11 S)).mono (K13 S)).mono vw_any) (((((c_h3.mono (K4 S)).mono (K10 S)).mono (K11 S)).mono (K13 S)).mono vw_any) (((((c_h4.mono (K4 S)).mono (K10 S)).mono (K11 S)).mono (K13 S)).mono vw_any) (((((c_h5.mono (K4 S)).mono (K10 S)).mono (K11 S)).mono (K13 S)).mono vw_any) (((((c_h6.mono (K4 S)).mono (K10 S)).mono (K11 S)).mono (K13 S)).mono vw_any) (((((l_h.mono (K4 S)).mono (K10 S)).mono (K11 S)).mono (K13 S)).mono vw_any) r10 q16) ?_)
      rintro _ w20 hE19 ⟨rfl, -⟩
      exact ⟨hE19, rfl⟩
     refine zao (fun _ _ => zau (zdy rfl (er rfl))) ?_
     refine zao (fun _ _ => zau (zai rfl (er rfl))) ?_
     refine zao (fun _ _ => zci rfl rfl hc11 (er rfl)) ?_
     refine zao (fun _ _ => zci rfl rfl hc11 (er rfl)) ?_
     refine zao (fun _ _ => zci rfl rfl hc11 (er rfl)) ?_
     refine zao (fun _ _ => zci rfl rfl hc11 (er rfl)) ?_
     refine zao (fun _ _ => zci rfl rfl hc11 (er rfl)) ?_
     refine zao (fun _ _ => zci rfl rfl hc11 (er rfl)) ?_
     refine zao (fun _ _ => zci rfl rfl hc11 (er rfl)) ?_
     refine zao (fun _ _ => zci rfl rfl hc11 (er rfl)) ?_
     refine zao (fun _ _ => zci rfl rfl hc11 (er rfl)) ?_
     refine zao (fun _ _ => zau (zbe rfl hc11 rfl (er rfl))) ?_
     refine zao (fun _ _ => zau (zai rfl (er rfl))) ?_
     refine zao (fun _ _ => zci rfl rfl rfl (er rfl)) ?_
     refine zao (fun _ _ => zci rfl rfl rfl (er rfl)) ?_
     refine zao (fun _ _ => zci rfl rfl rfl (er rfl)) ?_
     refine zao (fun _ _ => zci rfl rfl rfl (er rfl)) ?_
     refine zao (fun _ _ => zci rfl rfl rfl (er rfl)) ?_
     refine zao (fun _ _ => zci rfl rfl rfl (er rfl)) ?_
     refine zao (fun _ _ => zci rfl rfl rfl (er rfl)) ?_
     refine zao (fun _ _ => zci rfl rfl rfl (er rfl)) ?_
     refine zao (fun _ _ => zci rfl rfl rfl (er rfl)) ?_
     refine zao (fun _ _ => zci rfl rfl rfl (er rfl)) ?_
     refine zcy ?_
     rintro w44 Z50 hE43 hZ41 ⟨-⟩ ap10
     have hB10 := @zhb w11 Z50
     obtain ⟨hL13, K14⟩ := zl hL11 hE43
     refine zbb rfl rfl rfl ?_
     refine zag (zbe (t := true) (v := zT) rfl rfl rfl (zap ?_))
     obtain rfl := zae h
     refine zaq ?_
     exact ⟨true, _, rfl, (zeu ⟨rfl, rfl, rfl, rfl, rfl, trivial⟩), hL13, (zan K11 K14), trivial⟩
    replace h := ite_f hc11 h
    obtain ⟨x12, n11, q18, q19, -, h⟩ := zix h
    obtain ⟨b11, o11, c11, vs11, q20, q21, f13, q22⟩ := zcw f10 q19
    obtain ⟨rfl, -⟩ := rArr2Int_open q22
    have f14 := (f13.part (us := [(zI x12.e1)]) 1 rfl)
    obtain ⟨r11, q23, h⟩ := zes h
    by_cases hc12 : (!r11) = true
    ·
     replace h := ite_t hc12 h
     refine zcm 31 [] [] (fun W1 => [.det p_v, .det (zI i10), .det (zaj (some ⟨b10, (o10 + n10 * rArr2Int.sz), none⟩)), .det (zaj (some ⟨b10, (o10 + n10 * rArr2Int.sz) + 0, none⟩)), .det (zI x11.e0), .det (zar #[c_v, c_v1, c_v2, c_v3, c_v4, c_v5, c_v6]), .det l_v, .det (zab r10), .det (zab (!r10)), .det (zab (!r10)), .det p_v, .det (zI i10), .det (zaj (some ⟨b11, (o11 + n11 * rArr2Int.sz), none⟩)), .det (zaj (some ⟨b11, (o11 + n11 * rArr2Int.sz) + 1, none⟩)), .det (zI x12.e1), .det (zar #[c_v, c_v1, c_v2, c_v3, c_v4, c_v5, c_v6]), .det l_v, .det (zab r11), .det (zab (!r11)), .det (zab (!r11)), .det (zab (!r11)), .det undef, .det undef, .det undef, .det undef, .det undef, .det undef, .det undef, .det undef, .det undef, .det undef]) mixed rfl rfl rfl (fun _ => rfl) (fun _ => rfl) ?_ ?_
     ·
      intro W1 _
      exact trivial
     intro w45 hE44
     obtain ⟨hL14, K15⟩ := zl hL10 hE44
     refine zao (fun _ _ => zau (zai rfl (er rfl))) ?_
     refine zao (fun _ _ => zau (zai rfl (er rfl))) ?_
     refine zao (fun _ _ => zau (zbj (r := rArr2Int) (v := p_v) (n := n10) (m := (o10 + n10 * rArr2Int.sz)) zaz ti54 rfl q13 rfl q11 q12 rfl (er rfl))) ?_
     refine zao (fun _ _ => zau (zcg (i := 0) (q := (o10 + n10 * rArr2Int.sz) + 0) zbv ti3 rfl rfl (by decide) rfl (er rfl))) ?_
     refine zao (fun _ hE49 => zau (zby zat rfl rfl zex (zcd ((ke hL14 hE49) S) (zcd (K15 S) f12)) (er rfl))) ?_
     refine zao (fun _ hE50 => zau (zbr (vs := [c_v, c_v1, c_v2, c_v3, c_v4, c_v5, c_v6]) zay rfl ti29 rfl ((hL14.ext hE50).at 0 rfl rfl) rfl rfl (er rfl))) ?_
     refine zao (fun _ _ => zau (zai rfl (er rfl))) ?_
     refine zen ?_ ?_
     ·
      rintro w53 Z58 hE52 hZ49 ⟨-⟩
      have K17 := ke hL14 hE52
      refine zau (zbc en72 rfl rfl (sText_w N x11.e0 c l c_v c_v1 c_v2 c_v3 c_v4 c_v5 c_v6 l_v _ Any (((((c_h.mono (K4 S)).mono (K10 S)).mono (K15 S)).mono (K17 S)).mono vw_any) (((((c_h1.mono (K4 S)).mono (K10 S)).mono (K15 S)).mono (K17 S)).mono vw_any) (((((c_h2.mono (K4 S)).mono (K10 S)).mono (K15 S)).mono (K17 S)).mono vw_any) (((((c_h3.mono (K4 S)).mono (K10 S)).mono (K15 S)).mono (K17 S)).mono vw_any) (((((c_h4.mono (K4 S)).mono (K10 S)).mono (K15 S)).mono (K17 S)).mono vw_any) (((((c_h5.mono (K4 S)).mono (K10 S)).mono (K15 S)).mono (K17 S)).mono vw_any) (((((c_h6.mono (K4 S)).mono (K10 S)).mono (K15 S)).mono (K17 S)).mono vw_any) (((((l_h.mono (K4 S)).mono (K10 S)).mono (K15 S)).mono (K17 S)).mono vw_any) r10 q16) ?_)
      rintro _ w54 hE53 ⟨rfl, -⟩
      exact ⟨hE53, rfl⟩
     refine zao (fun _ _ => zau (zdy rfl (er rfl))) ?_
     refine zao (fun _ _ => zau (zai rfl (er rfl))) ?_
     refine zao (fun _ _ => zbm rfl rfl (zer hc11) (zai rfl (er rfl))) ?_
     refine zao (fun _ _ => zbm rfl rfl (zer hc11) (zai rfl (er rfl))) ?_
     refine zao (fun _ _ => zbm rfl rfl (zer hc11) (zbj (r := rArr2Int) (v := p_v) (n := n11) (m := (o11 + n11 * rArr2Int.sz)) zaz ti54 rfl q20 rfl q18 q19 rfl (er rfl))) ?_
     refine zao (fun _ _ => zbm rfl rfl (zer hc11) (zcg (i := 1) (q := (o11 + n11 * rArr2Int.sz) + 1) zbv ti3 rfl rfl (by decide) rfl (er rfl))) ?_
     refine zao (fun _ hE60 => zbm rfl rfl (zer hc11) (zby zat rfl rfl zex (zcd ((ke hL14 hE60) S) (zcd (K15 S) f14)) (er rfl))) ?_
     refine zao (fun _ hE61 => zbm rfl rfl (zer hc11) (zbr (vs := [c_v, c_v1, c_v2, c_v3, c_v4, c_v5, c_v6]) zay rfl ti29 rfl ((hL14.ext hE61).at 0 rfl rfl) rfl rfl (er rfl))) ?_
     refine zao (fun _ _ => zbm rfl rfl (zer hc11) (zai rfl (er rfl))) ?_
     refine zen ?_ ?_
     ·
      rintro w64 Z68 hE63 hZ59 ⟨-⟩
      have K19 := ke hL14 hE63
      refine zbm rfl rfl (zer hc11) (zbc en72 rfl rfl (sText_w N x12.e1 c l c_v c_v1 c_v2 c_v3 c_v4 c_v5 c_v6 l_v _ Any (((((c_h.mono (K4 S)).mono (K10 S)).mono (K15 S)).mono (K19 S)).mono vw_any) (((((c_h1.mono (K4 S)).mono (K10 S)).mono (K15 S)).mono (K19 S)).mono vw_any) (((((c_h2.mono (K4 S)).mono (K10 S)).mono (K15 S)).mono (K19 S)).mono vw_any) (((((c_h3.mono (K4 S)).mono (K10 S)).mono (K15 S)).mono (K19 S)).mono vw_any) (((((c_h4.mono (K4 S)).mono (K10 S)).mono (K15 S)).mono (K19 S)).mono vw_any) (((((c_h5.mono (K4 S)).mono (K10 S)).mono (K15 S)).mono (K19 S)).mono vw_any) (((((c_h6.mono (K4 S)).mono (K10 S)).mono (K15 S)).mono (K19 S)).mono vw_any) (((((l_h.mono (K4 S)).mono (K10 S)).mono (K15 S)).mono (K19 S)).mono vw_any) r11 q23) ?_)
      rintro _ w65 hE64 ⟨rfl, -⟩
      exact ⟨hE64, rfl⟩
     refine zao (fun _ _ => zbm rfl rfl (zer hc11) (zdy rfl (er rfl))) ?_
     refine zao (fun _ _ => zau (zbn rfl (zer hc11) rfl (er rfl))) ?_
     refine zao (fun _ _ => zau (zai rfl (er rfl))) ?_
     refine zao (fun _ _ => zci rfl rfl hc12 (er rfl)) ?_
     refine zao (fun _ _ => zci rfl rfl hc12 (er rfl)) ?_
     refine zao (fun _ _ => zci rfl rfl hc12 (er rfl)) ?_
     refine zao (fun _ _ => zci rfl rfl hc12 (er rfl)) ?_
     refine zao (fun _ _ => zci rfl rfl hc12 (er rfl)) ?_
     refine zao (fun _ _ => zci rfl rfl hc12 (er rfl)) ?_
     refine zao (fun _ _ => zci rfl rfl hc12 (er rfl)) ?_
     refine zao (fun _ _ => zci rfl rfl hc12 (er rfl)) ?_
     refine zao (fun _ _ => zci rfl rfl hc12 (er rfl)) ?_
     refine zao (fun _ _ => zci rfl rfl hc12 (er rfl)) ?_
     refine zcy ?_
     rintro w79 Z82 hE78 hZ73 ⟨-⟩ ap11
     have hB11 := @zhb w45 Z82
     obtain ⟨hL17, K20⟩ := zl hL14 hE78
     refine zbb rfl rfl hc12 ?_
     refine zag (zbe (t := (!r11)) (v := zT) rfl hc12 rfl (zap ?_))
     obtain rfl := zae h
     refine zaq ?_
     exact ⟨true, _, rfl, (zeu ⟨rfl, rfl, rfl, rfl, rfl, trivial⟩), hL17, (zan K15 K20), trivial⟩
    replace h := ite_f hc12 h
    obtain ⟨x13, n12, q25, q26, -, h⟩ := zix h
    obtain ⟨b12, o12, c12, vs12, q27, q28, f15, q29⟩ := zcw f10 q26
    obtain ⟨rfl, -⟩ := rArr2Int_open q29
    have f16 := (f15.part (us := [(zI x13.e0)]) 0 rfl)
    obtain ⟨x14, n13, q31, q32, -, h⟩ := zix h
    obtain ⟨b13, o13, c13, vs13, q33, q34, f17, q35⟩ := zcw f10 q32
    obtain ⟨rfl, -⟩ := rArr2Int_open q35
    have f18 := (f17.part (us := [(zI x14.e1)]) 1 rfl)
    refine zcm 31 [] [] (fun W1 => [.det p_v, .det (zI i10), .det (zaj (some ⟨b10, (o10 + n10 * rArr2Int.sz), none⟩)), .det (zaj (some ⟨b10, (o10 + n10 * rArr2Int.sz) + 0, none⟩)), .det (zI x11.e0), .det (zar #[c_v, c_v1, c_v2, c_v3, c_v4, c_v5, c_v6]), .det l_v, .det (zab r10), .det (zab (!r10)), .det (zab (!r10)), .det p_v, .det (zI i10), .det (zaj (some ⟨b11, (o11 + n11 * rArr2Int.sz), none⟩)), .det (zaj (some ⟨b11, (o11 + n11 * rArr2Int.sz) + 1, none⟩)), .det (zI x12.e1), .det (zar #[c_v, c_v1, c_v2, c_v3, c_v4, c_v5, c_v6]), .det l_v, .det (zab r11), .det (zab (!r11)), .det (zab (!r11)), .det (zab (!r11)), .det p_v, .det (zI i10), .det (zaj (some ⟨b12, (o12 + n12 * rArr2Int.sz), none⟩)), .det (zaj (some ⟨b12, (o12 + n12 * rArr2Int.sz) + 0, none⟩)), .det (zI x13.e0), .det p_v, .det (zI i10), .det (zaj (some ⟨b13, (o13 + n13 * rArr2Int.sz), none⟩)), .det (zaj (some ⟨b13, (o13 + n13 * rArr2Int.sz) + 1, none⟩)), .det (zI x14.e1)]) mixed rfl rfl rfl (fun _ => rfl) (fun _ => rfl) ?_ ?_
    ·
     intro W1 _
     exact trivial
    intro w80 hE79
    obtain ⟨hL18, K21⟩ := zl hL10 hE79
    refine zao (fun _ _ => zau (zai rfl (er rfl))) ?_
    refine zao (fun _ _ => zau (zai rfl (er rfl))) ?_
    refine zao (fun _ _ => zau (zbj (r := rArr2Int) (v := p_v) (n := n10) (m := (o10 + n10 * rArr2Int.sz)) zaz ti54 rfl q13 rfl q11 q12 rfl (er rfl))) ?_
    refine zao (fun _ _ => zau (zcg (i := 0) (q := (o10 + n10 * rArr2Int.sz) + 0) zbv ti3 rfl rfl (by decide) rfl (er rfl))) ?_
    refine zao (fun _ hE84 => zau (zby zat rfl rfl zex (zcd ((ke hL18 hE84) S) (zcd (K21 S) f12)) (er rfl))) ?_
    refine zao (fun _ hE85 => zau (zbr (vs := [c_v, c_v1, c_v2, c_v3, c_v4, c_v5, c_v6]) zay rfl ti29 rfl ((hL18.ext hE85).at 0 rfl rfl) rfl rfl (er rfl))) ?_
    refine zao (fun _ _ => zau (zai rfl (er rfl))) ?_
    refine zen ?_ ?_
    ·
     rintro w88 Z90 hE87 hZ81 ⟨-⟩
     have K23 := ke hL18 hE87
     refine zau (zbc en72 rfl rfl (sText_w N x11.e0 c l c_v c_v1 c_v2 c_v3 c_v4 c_v5 c_v6 l_v _ Any (((((c_h.mono (K4 S)).mono (K10 S)).mono (K21 S)).mono (K23 S)).mono vw_any) (((((c_h1.mono (K4 S)).mono (K10 S)).mono (K21 S)).mono (K23 S)).mono vw_any) (((((c_h2.mono (K4 S)).mono (K10 S)).mono (K21 S)).mono (K23 S)).mono vw_any) (((((c_h3.mono (K4 S)).mono (K10 S)).mono (K21 S)).mono (K23 S)).mono vw_any) (((((c_h4.mono (K4 S)).mono (K10 S)).mono (K21 S)).mono (K23 S)).mono vw_any) (((((c_h5.mono (K4 S)).mono (K10 S)).mono (K21 S)).mono (K23 S)).mono vw_any) (((((c_h6.mono (K4 S)).mono (K10 S)).mono (K21 S)).mono (K23 S)).mono vw_any) (((((l_h.mono (K4 S)).mono (K10 S)).mono (K21 S)).mono (K23 S)).mono vw_any) r10 q16) ?_)
     rintro _ w89 hE88 ⟨rfl, -⟩
     exact ⟨hE88, rfl⟩
    refine zao (fun _ _ => zau (zdy rfl (er rfl))) ?_
    refine zao (fun _ _ => zau (zai rfl (er rfl))) ?_
    refine zao (fun _ _ => zbm rfl rfl (zer hc11) (zai rfl (er rfl))) ?_
    refine zao (fun _ _ => zbm rfl rfl (zer hc11) (zai rfl (er rfl))) ?_
    refine zao (fun _ _ => zbm rfl rfl (zer hc11) (zbj (r := rArr2Int) (v := p_v) (n := n11) (m := (o11 + n11 * rArr2Int.sz)) zaz ti54 rfl q20 rfl q18 q19 rfl (er rfl))) ?_
    refine zao (fun _ _ => zbm rfl rfl (zer hc11) (zcg (i := 1) (q := (o11 + n11 * rArr2Int.sz) + 1) zbv ti3 rfl rfl (by decide) rfl (er rfl))) ?_
    refine zao (fun _ hE95 => zbm rfl rfl (zer hc11) (zby zat rfl rfl zex (zcd ((ke hL18 hE95) S) (zcd (K21 S) f14)) (er rfl))) ?_
    refine zao (fun _ hE96 => zbm rfl rfl (zer hc11) (zbr (vs := [c_v, c_v1, c_v2, c_v3, c_v4, c_v5, c_v6]) zay rfl ti29 rfl ((hL18.ext hE96).at 0 rfl rfl) rfl rfl (er rfl))) ?_
    refine zao (fun _ _ => zbm rfl rfl (zer hc11) (zai rfl (er rfl))) ?_
    refine zen ?_ ?_
    ·
     rintro w99 Z100 hE98 hZ91 ⟨-⟩
     have K25 := ke hL18 hE98
     refine zbm rfl rfl (zer hc11) (zbc en72 rfl rfl (sText_w N x12.e1 c l c_v c_v1 c_v2 c_v3 c_v4 c_v5 c_v6 l_v _ Any (((((c_h.mono (K4 S)).mono (K10 S)).mono (K21 S)).mono (K25 S)).mono vw_any) (((((c_h1.mono (K4 S)).mono (K10 S)).mono (K21 S)).mono (K25 S)).mono vw_any) (((((c_h2.mono (K4 S)).mono (K10 S)).mono (K21 S)).mono (K25 S)).mono vw_any) (((((c_h3.mono (K4 S)).mono (K10 S)).mono (K21 S)).mono (K25 S)).mono vw_any) (((((c_h4.mono (K4 S)).mono (K10 S)).mono (K21 S)).mono (K25 S)).mono vw_any) (((((c_h5.mono (K4 S)).mono (K10 S)).mono (K21 S)).mono (K25 S)).mono vw_any) (((((c_h6.mono (K4 S)).mono (K10 S)).mono (K21 S)).mono (K25 S)).mono vw_any) (((((l_h.mono (K4 S)).mono (K10 S)).mono (K21 S)).mono (K25 S)).mono vw_any) r11 q23) ?_)
     rintro _ w100 hE99 ⟨rfl, -⟩
     exact ⟨hE99, rfl⟩
    refine zao (fun _ _ => zbm rfl rfl (zer hc11) (zdy rfl (er rfl))) ?_
    refine zao (fun _ _ => zau (zbn rfl (zer hc11) rfl (er rfl))) ?_
    refine zao (fun _ _ => zau (zai rfl (er rfl))) ?_
    refine zao (fun _ _ => zbm rfl rfl (zer hc12) (zai rfl (er rfl))) ?_
    refine zao (fun _ _ => zbm rfl rfl (zer hc12) (zai rfl (er rfl))) ?_
    refine zao (fun _ _ => zbm rfl rfl (zer hc12) (zbj (r := rArr2Int) (v := p_v) (n := n12) (m := (o12 + n12 * rArr2Int.sz)) zaz ti54 rfl q27 rfl q25 q26 rfl (er rfl))) ?_
    refine zao (fun _ _ => zbm rfl rfl (zer hc12) (zcg (i := 0) (q := (o12 + n12 * rArr2Int.sz) + 0) zbv ti3 rfl rfl (by decide) rfl (er rfl))) ?_
    refine zao (fun _ hE107 => zbm rfl rfl (zer hc12) (zby zat rfl rfl zex (zcd ((ke hL18 hE107) S) (zcd (K21 S) f16)) (er rfl))) ?_
    refine zao (fun _ _ => zbm rfl rfl (zer hc12) (zai rfl (er rfl))) ?_
    refine zao (fun _ _ => zbm rfl rfl (zer hc12) (zai rfl (er rfl))) ?_
    refine zao (fun _ _ => zbm rfl rfl (zer hc12) (zbj (r := rArr2Int) (v := p_v) (n := n13) (m := (o13 + n13 * rArr2Int.sz)) zaz ti54 rfl q33 rfl q31 q32 rfl (er rfl))) ?_
    refine zao (fun _ _ => zbm rfl rfl (zer hc12) (zcg (i := 1) (q := (o13 + n13 * rArr2Int.sz) + 1) zbv ti3 rfl rfl (by decide) rfl (er rfl))) ?_
    refine zao (fun _ hE112 => zbm rfl rfl (zer hc12) (zby zat rfl rfl zex (zcd ((ke hL18 hE112) S) (zcd (K21 S) f18)) (er rfl))) ?_
    refine zcy ?_
    rintro w114 Z114 hE113 hZ105 ⟨-⟩ ap12
    have hB12 := @zhb w80 Z114
    obtain ⟨hL21, K28⟩ := zl hL18 hE113
    refine zba rfl rfl (zer hc12) (zem (x := x13.e0) (y := x14.e1) ((x13.e0 : Int) ≥ x14.e1) rfl rfl zbd ?_)
    refine zag (zbn (t := (!r11)) (v := (zab (decide ((x13.e0 : Int) ≥ x14.e1)))) rfl (zer hc12) rfl (zap ?_))
    obtain rfl := zae h
    refine zaq ?_
    exact ⟨(decide ((x13.e0 : Int) ≥ x14.e1)), _, rfl, (zeu ⟨rfl, rfl, rfl, rfl, rfl, trivial⟩), hL21, (zan K21 K28), trivial⟩
   rintro _ w115 ⟨x10, u, rfl, rfl, hL22, K29, -⟩
   replace h := g11
   try dsimp only at h
   refine zdd x10 rfl (fun hc13 => ?_) (fun hc13 => ?_)
   ·
    replace h := ite_t hc13 h
    refine zal (zah rfl (zag (zam (v := zF) rfl ?_)))
    refine zap (zbl ?_)
    obtain rfl := zae h
    obtain rfl := hd10 _ rfl
    replace h := g10
    try dsimp only at h
    obtain rfl := zae h
    refine ⟨[zF], zrt, ⟨_, rfl, hL22.done, ?_⟩⟩
    exact zrt
   replace h := ite_f hc13 h
   refine zbk (zbu (zah rfl (zag (zai (v := (zI i10)) rfl ?_))))
   refine zag (zcl (x := i10) (y := 1) (z := (iw (i10 + 1))) rfl rfl rfl ?_)
   refine zag (zam (v := (zI (iw (i10 + 1)))) rfl (zap ?_))
   obtain rfl := zae h
   refine zaq ⟨(iw (i10 + 1)), rfl, ?_⟩
   exact ⟨_, (zeu ⟨rfl, rfl, rfl, rfl, trivial⟩), hL22, (zan K10 K29), trivial⟩
  replace h := ite_f hc10 h
  refine zda rfl ?_
  have hp10 := hL10.pick [] rfl rfl rfl
  have hL23 : vL w w10 [] [] := hp10.1
  have K30 := ks w hp10.2
  obtain rfl := zae h
  obtain rfl := hd10 _ rfl
  replace h := g10
  try dsimp only at h
  refine zaq ?_
  exact ⟨_, rfl, (zeu trivial), hL23, (zan K10 K30), trivial⟩
 rintro _ w116 ⟨u, rfl, rfl, hL24, K31, -⟩
 replace h := g10
 try dsimp only at h
 refine zal (zah rfl (zag (zam (v := zT) rfl ?_)))
 refine zap (zbl ?_)
 obtain rfl := zae h
 refine ⟨[zT], zrt, ⟨_, rfl, hL24.done, ?_⟩⟩
 exact zrt
theorem sTested_w (N : Nat) (t : TTest)  (w : World) (S : Nat → Prop)  (r : Bool) (h : sTested N t = some r) :
  Calls Tryz.prog 75 #[(zar #[(zI t.Var), (zI t.Kind), (zab t.Negated), (zS t.Text)])] w (Ret w (fun v w' => (zab r) = v ∧ True)) := by
 unfold sTested at h
 have hL : vL w w [] [] := Go.X.Loc.begin0 w
 refine calls_of (l := [(zar #[(zI t.Var), (zI t.Kind), (zab t.Negated), (zS t.Text)])]) (rl := [.tmp 2]) (n := 37) Tryz.func75 rfl rfl rfl (zaf rfl) ?_
 refine zal (zah rfl (zag (zdu (cs := [(zI t.Var), (zI t.Kind), (zab t.Negated), (zS t.Text)]) rfl rfl hL ?_)))
 intro b1 w2 hL3 hS5
 refine zag (zam (v := zF) rfl ?_)
 refine zap (zal (zal (zah rfl (zag (zam (v := (zI 0)) rfl (zap ?_))))))
 obtain ⟨s10, hl10, g10⟩ := zes h
 refine zce (fun e w' => ∃  (u : Env), (Sum.inl ()) = s10 ∧ e = upds [(1, (zaj (some ⟨b1, 0, none⟩)))] u ∧ vL w w' [some b1] [zac [(zI t.Var), (zI t.Kind), (zab t.Negated), (zS t.Text)]] ∧ Keep w.heap.size [some b1] w2 [some b1] w' ∧ True) ?_ ?_
 ·
  refine zbh ?_
  refine zcr hl10 (fun (ss : Int) (e : Env) (w' : World) => match ss with | i10 => ∃ (u : Env), e = upds [(1, (zaj (some ⟨b1, 0, none⟩))), (3, (zI i10))] u ∧ vL w w' [some b1] [zac [(zI t.Var), (zI t.Kind), (zab t.Negated), (zS t.Text)]] ∧ Keep w.heap.size [some b1] w2 [some b1] w' ∧ True) ⟨_, (zeu ⟨rfl, rfl, trivial⟩), hL3, zck, trivial⟩ ?_
  rintro i10 oo _ w10 ⟨u, rfl, hL10, K10, -⟩ h hd10
  rw [sTested_b1] at h
  refine zal (zal (zah rfl (zag (zai (v := (zI i10)) rfl ?_))))
  refine zag (zak (q := 3) zct rfl ti9 rfl rfl rfl ?_)
  refine zag (zas (v := (zS t.Text)) zea rfl rfl (hL10.at 0 rfl rfl) rfl ?_)
  refine zag (OpY.lenStr zea rfl ?_)
  refine zag (zcp (x := i10) (y := (t.Text.length : Int)) ((i10 : Int) < (t.Text.length : Int)) rfl rfl zbd (zap ?_))
  refine zbf ((i10 : Int) < (t.Text.length : Int)) rfl (fun hc10 => ?_) (fun hc10 => ?_)
  ·
   replace h := ite_t hc10 h
   refine zbk (zal (zbh (zal ?_)))
   obtain ⟨s11, h, g11⟩ := zes h
   refine zce (fun e w' => ∃ (x10 : Bool) (u : Env), x10 = s11 ∧ e = upds [(1, (zaj (some ⟨b1, 0, none⟩))), (3, (zI i10)), (22, (zab x10))] u ∧ vL w w' [some b1] [zac [(zI t.Var), (zI t.Kind), (zab t.Negated), (zS t.Text)]] ∧ Keep w.heap.size [some b1] w10 [some b1] w' ∧ True) ?_ ?_
   ·
    refine zah rfl (zag (zak (q := 3) zct rfl ti9 rfl rfl rfl ?_))
    refine zag (zas (v := (zS t.Text)) zea rfl rfl (hL10.at 0 rfl rfl) rfl ?_)
    refine zag (zai (v := (zI i10)) rfl ?_)
    obtain ⟨x11, n10, q11, q12, -, h⟩ := zix h
    refine zag (OpY.sIndex (xs := t.Text) (i := i10) (n := n10) (a := x11) zea rfl rfl q11 q12 ?_)
    refine zag (zcp (x := (UInt8.toNat x11 : Int)) (y := 32) (((UInt8.toNat x11 : Int) : Int) < 32) rfl rfl zbd ?_)
    refine zag (zai (v := (zab (decide (((UInt8.toNat x11 : Int) : Int) < 32)))) rfl ?_)
    by_cases hc11 : ((UInt8.toNat x11 : Int) : Int) < 32
    ·
     replace h := ite_t hc11 h
     refine zbb rfl rfl (zeq hc11) (zbb rfl rfl (zeq hc11) (zbb rfl rfl (zeq hc11) (zbb rfl rfl (zeq hc11) (zbb rfl rfl (zeq hc11) ?_))))
     refine zag (zbe (t := (decide (((UInt8.toNat x11 : Int) : Int) < 32))) (v := zT) rfl (zeq hc11) rfl (zap ?_))
     obtain rfl := zae h
     refine zaq ?_
     exact ⟨true, _, rfl, (zeu ⟨rfl, rfl, rfl, trivial⟩), hL10, zck, trivial⟩
    replace h := ite_f hc11 h
    refine zba rfl rfl (zep hc11) (zak (q := 3) zct rfl ti9 rfl rfl rfl ?_)
    refine zba rfl rfl (zep hc11) (zas (v := (zS t.Text)) zea rfl rfl (hL10.at 0 rfl rfl) rfl ?_)
    refine zba rfl rfl (zep hc11) (zai (v := (zI i10)) rfl ?_)
    obtain ⟨x12, n11, q14, q15, -, h⟩ := zix h
    refine zba rfl rfl (zep hc11) (OpY.sIndex (xs := t.Text) (i := i10) (n := n11) (a := x12) zea rfl rfl q14 q15 ?_)
    refine zba rfl rfl (zep hc11) (zej (x := (UInt8.toNat x12 : Int)) (y := 126) (((UInt8.toNat x12 : Int) : Int) > 126) rfl rfl zbd ?_)
    refine zag (zbn (t := (decide (((UInt8.toNat x11 : Int) : Int) < 32))) (v := (zab (decide (((UInt8.toNat x12 : Int) : Int) > 126)))) rfl (zep hc11) rfl (zap ?_))
    obtain rfl := zae h
    refine zaq ?_
    exact ⟨(decide (((UInt8.toNat x12 : Int) : Int) > 126)), _, rfl, (zeu ⟨rfl, rfl, rfl, trivial⟩), hL10, zck, trivial⟩
   rintro _ w11 ⟨x10, u, rfl, rfl, hL11, K11, -⟩
   replace h := g11
   try dsimp only at h
   refine zdd x10 rfl (fun hc12 => ?_) (fun hc12 => ?_)
   ·
    replace h := ite_t hc12 h
    refine zal (zah rfl (zag (zam (v := zF) rfl ?_)))
    refine zap (zbl ?_)
    obtain rfl := zae h
    obtain rfl := hd10 _ rfl
    replace h := g10
    try dsimp only at h
    obtain rfl := zae h
    refine ⟨[zF], zrt, ⟨_, rfl, hL11.done, ?_⟩⟩
    exact zrt
   replace h := ite_f hc12 h
   refine zbk (zbu (zah rfl (zag (zai (v := (zI i10)) rfl ?_))))
   refine zag (zcl (x := i10) (y := 1) (z := (iw (i10 + 1))) rfl rfl rfl ?_)
   refine zag (zam (v := (zI (iw (i10 + 1)))) rfl (zap ?_))
   obtain rfl := zae h
   refine zaq ⟨(iw (i10 + 1)), rfl, ?_⟩
   exact ⟨_, (zeu ⟨rfl, rfl, trivial⟩), hL11, (zan K10 K11), trivial⟩
  replace h := ite_f hc10 h
  refine zda rfl ?_
  obtain rfl := zae h
  obtain rfl := hd10 _ rfl
  replace h := g10
  try dsimp only at h
  refine zaq ?_
  exact ⟨_, rfl, (zeu zrt), hL10, K10, trivial⟩
 rintro _ w12 ⟨u, rfl, rfl, hL12, K12, -⟩
 replace h := g10
 try dsimp only at h
 refine zal (zah rfl (zag (zak (q := 1) zct rfl ti3 rfl rfl rfl ?_)))
 refine zag (zas (v := (zI t.Kind)) zat rfl rfl (hL12.at 0 rfl rfl) rfl ?_)
 refine zag (zem (x := t.Kind) (y := 0) ((t.Kind : Int) ≥ 0) rfl rfl zbd ?_)
 refine zag (zai (v := (zab (decide ((t.Kind : Int) ≥ 0)))) rfl ?_)
 by_cases hc13 : (t.Kind : Int) ≥ 0
 ·
  replace h := ite_t hc13 h
  refine zba rfl rfl (zeq hc13) (zak (q := 1) zct rfl ti3 rfl rfl rfl ?_)
  refine zba rfl rfl (zeq hc13) (zas (v := (zI t.Kind)) zat rfl rfl (hL12.at 0 rfl rfl) rfl ?_)
  refine zba rfl rfl (zeq hc13) (OpY.leq (x := t.Kind) (y := 3) ((t.Kind : Int) ≤ 3) rfl rfl zbd ?_)
  refine zag (zbe (t := (decide ((t.Kind : Int) ≥ 0))) (v := (zab (decide ((t.Kind : Int) ≤ 3)))) rfl (zeq hc13) rfl ?_)
  refine zag (zai (v := (zab (decide ((t.Kind : Int) ≤ 3)))) rfl ?_)
  by_cases hc14 : (t.Kind : Int) ≤ 3
  ·
   replace h := ite_t hc14 h
   refine zba rfl rfl (zeq hc14) (zak (q := 3) zct rfl ti9 rfl rfl rfl ?_)
   refine zba rfl rfl (zeq hc14) (zas (v := (zS t.Text)) zea rfl rfl (hL12.at 0 rfl rfl) rfl ?_)
   refine zba rfl rfl (zeq hc14) (OpY.lenStr zea rfl ?_)
   refine zba rfl rfl (zeq hc14) (OpY.leq (x := (t.Text.length : Int)) (y := 16) (((t.Text.length : Int) : Int) ≤ 16) rfl rfl zbd ?_)
   refine zag (zbe (t := (decide ((t.Kind : Int) ≤ 3))) (v := (zab (decide (((t.Text.length : Int) : Int) ≤ 16)))) rfl (zeq hc14) rfl ?_)
   refine zag (zam (v := (zab (decide (((t.Text.length : Int) : Int) ≤ 16)))) rfl ?_)
   refine zap (zbl ?_)
   obtain rfl := zae h
   refine ⟨[(zab (decide (((t.Text.length : Int) : Int) ≤ 16)))], zrt, ⟨_, rfl, hL12.done, ?_⟩⟩
   exact zrt
  replace h := ite_f hc14 h
  refine zbb rfl rfl (zep hc14) (zbb rfl rfl (zep hc14) (zbb rfl rfl (zep hc14) (zbb rfl rfl (zep hc14) ?_)))
  refine zag (zbn (t := (decide ((t.Kind : Int) ≤ 3))) (v := zF) rfl (zep hc14) rfl ?_)
  refine zag (zam (v := zF) rfl ?_)
  refine zap (zbl ?_)
  obtain rfl := zae h
  refine ⟨[zF], zrt, ⟨_, rfl, hL12.done, ?_⟩⟩
  exact zrt
 replace h := ite_f hc13 h
 refine zbb rfl rfl (zep hc13) (zbb rfl rfl (zep hc13) (zbb rfl rfl (zep hc13) ?_))
 refine zag (zbn (t := (decide ((t.Kind : Int) ≥ 0))) (v := zF) rfl (zep hc13) rfl ?_)
 refine zag (zai (v := zF) rfl ?_)
 refine zbb rfl rfl rfl (zbb rfl rfl rfl (zbb rfl rfl rfl (zbb rfl rfl rfl ?_)))
 refine zag (zbn (t := false) (v := zF) rfl rfl rfl ?_)
 refine zag (zam (v := zF) rfl ?_)
 refine zap (zbl ?_)
 obtain rfl := zae h
 refine ⟨[zF], zrt, ⟨_, rfl, hL12.done, ?_⟩⟩
 exact zrt
theorem sValid_w (N : Nat) (c : RClause) (l : (List RVar)) (c_v : Value) (c_v1 : Value) (c_v2 : Value) (c_v3 : Value) (c_v4 : Value) (c_v5 : Value) (c_v6 : Value) (l_v : Value) (w : World) (S : Nat → Prop) (c_h : Rs rI (vH w S [] w) c_v c.Null) (c_h1 : Rs rI (vH w S [] w) c_v1 c.NotNull) (c_h2 : Rs rRAux (vH w S [] w) c_v2 c.Auxiliary) (c_h3 : Rs rConstraint (vH w S [] w) c_v3 c.Ints) (c_h4 : Rs rTTest (vH w S [] w) c_v4 c.Tests) (c_h5 : Rs rArr2Int (vH w S [] w) c_v5 c.Same) (c_h6 : Rs rArr2Int (vH w S [] w) c_v6 c.Different) (l_h : Rs rRVar (vH w S [] w) l_v l) (r : Bool) (h : sValid N c l = some r) :
  Calls Tryz.prog 37 #[(zar #[c_v, c_v1, c_v2, c_v3, c_v4, c_v5, c_v6]), l_v] w (Ret w (fun v w' => (zab r) = v ∧ True)) := by
 unfold sValid at h
 have hL : vL w w [] [] := Go.X.Loc.begin0 w
 refine calls_of (l := [(zar #[c_v, c_v1, c_v2, c_v3, c_v4, c_v5, c_v6]), l_v]) (rl := [.tmp 4]) (n := 145) Tryz.func37 rfl rfl rfl (zaf rfl) ?_
 refine zal (zah rfl (zag (zdu (cs := [c_v, c_v1, c_v2, c_v3, c_v4, c_v5, c_v6]) rfl rfl hL ?_)))
 intro b1 w2 hL3 hS5
 have K4 := ks w hS5
 refine zag (zam (v := zF) rfl ?_)
 refine zap (zal (zal ?_))
 obtain ⟨s10, h, g10⟩ := zes h
 refine zce (fun e w' => ∃ (x10 : Bool) (u : Env), x10 = s10 ∧ e = upds [(1, l_v), (2, (zaj (some ⟨b1, 0, none⟩))), (24, (zab x10))] u ∧ vL w w' [some b1] [zac [c_v, c_v1, c_v2, c_v3, c_v4, c_v5, c_v6]] ∧ Keep w.heap.size [some b1] w2 [some b1] w' ∧ True) ?_ ?_
 ·
  refine zah rfl (zag (zak (q := 0) zay rfl ti23 rfl rfl rfl ?_))
  refine zag (zas (v := c_v) zaw rfl rfl (hL3.at 0 rfl rfl) rfl ?_)
  refine zag (zai (v := l_v) rfl ?_)
  have f10 := (l_h.mono (K4 S))
  refine zag (zbg (v := l_v) zbt rfl f10 ?_)
  obtain ⟨r10, q10, h⟩ := zes h
  have f11 := (c_h.mono (K4 S))
  refine zag (zbc en71 rfl rfl (sAscending_w N c.Null (l.length : Int) c_v _ Any (f11.mono vw_any) r10 q10) ?_)
  rintro _ w10 hE10 ⟨rfl, -⟩
  obtain ⟨hL10, K10⟩ := zl hL3 hE10
  refine zag (zdy (x := r10) rfl ?_)
  refine zag (zai (v := (zab (!r10))) rfl ?_)
  by_cases hc10 : (!r10) = true
  ·
   replace h := ite_t hc10 h
   refine zbb rfl rfl hc10 ?_
   refine zbb rfl rfl hc10 ?_
   refine zbb rfl rfl hc10 ?_
   refine zbb rfl rfl hc10 ?_
   refine zbb rfl rfl hc10 ?_
   refine zbb rfl rfl hc10 ?_
   refine zag (zbe (t := (!r10)) (v := zT) rfl hc10 rfl (zap ?_))
   obtain rfl := zae h
   refine zaq ?_
   exact ⟨true, _, rfl, (zeu ⟨rfl, rfl, rfl, trivial⟩), hL10, K10, trivial⟩
  replace h := ite_f hc10 h
  refine zba rfl rfl (zer hc10) (zak (q := 1) zay rfl ti23 rfl rfl rfl ?_)
  refine zba rfl rfl (zer hc10) (zas (v := c_v1) zaw rfl rfl (hL10.at 0 rfl rfl) rfl ?_)
  refine zba rfl rfl (zer hc10) (zai (v := l_v) rfl ?_)
  have f12 := (f10.mono (K10 S))
  refine zba rfl rfl (zer hc10) (zbg (v := l_v) zbt rfl f12 ?_)
  obtain ⟨r11, q11, h⟩ := zes h
  have f13 := ((c_h1.mono (K4 S)).mono (K10 S))
  refine zba rfl rfl (zer hc10) (zbc en71 rfl rfl (sAscending_w N c.NotNull (l.length : Int) c_v1 _ Any (f13.mono vw_any) r11 q11) ?_)
  rintro _ w11 hE11 ⟨rfl, -⟩
  obtain ⟨hL11, K11⟩ := zl hL10 hE11
  refine zba rfl rfl (zer hc10) (zdy (x := r11) rfl ?_)
  refine zag (zbn (t := (!r10)) (v := (zab (!r11))) rfl (zer hc10) rfl (zap ?_))
  obtain rfl := zae h
  refine zaq ?_
  exact ⟨(!r11), _, rfl, (zeu ⟨rfl, rfl, rfl, trivial⟩), hL11, (zan K10 K11), trivial⟩
 rintro _ w12 ⟨x10, u, rfl, rfl, hL12, K12, -⟩
 replace h := g10
 try dsimp only at h
 refine zdd x10 rfl (fun hc11 => ?_) (fun hc11 => ?_)
 ·
  replace h := ite_t hc11 h
  refine zal (zah rfl (zag (zam (v := zF) rfl ?_)))
  refine zap (zbl ?_)
  obtain rfl := zae h
  refine ⟨[zF], zrt, ⟨_, rfl, hL12.done, ?_⟩⟩
  exact zrt
 replace h := ite_f hc11 h
 refine zbk (zal (zah rfl (zag (zam (v := zN) rfl ?_))))
 refine zap (zal (zal (zah rfl (zag (zam (v := (zI 0)) rfl (zap ?_))))))
 obtain ⟨s11, hl10, g11⟩ := zes h
 refine zce (fun e w' => ∃ (bounds10 : (List Int)) (ob10 : Option Nat) (cap10 : Nat) (sp10 : List Value) (cs10 : List Value) (ln10 : Nat) (u : Env), (Sum.inl bounds10) = s11 ∧ e = upds [(1, l_v), (2, (zaj (some ⟨b1, 0, none⟩))), (5, (osv ob10 0 ln10 cap10))] u ∧ vL w w' [some b1, ob10] [zac [c_v, c_v1, c_v2, c_v3, c_v4, c_v5, c_v6], zac ([] ++ (cs10 ++ sp10))] ∧ Keep w.heap.size [some b1] w12 [some b1, ob10] w' ∧ Els rI (vH w None [some b1, ob10] w') cs10 bounds10 ∧ ln10 = List.length bounds10 ∧ (cs10 ++ sp10).length = cap10 * rI.sz ∧ True) ?_ ?_
 ·
  refine zbh ?_
  have hp10 := hL12.addNil
  have hL13 : vL w w12 [none, some b1] [zac ([] ++ ([] ++ [])), zac [c_v, c_v1, c_v2, c_v3, c_v4, c_v5, c_v6]] := hp10.1
  have K13 := ks w hp10.2
  have hp11 := hL13.pick [1, 0] rfl rfl rfl
  have hL14 : vL w w12 [some b1, none] [zac [c_v, c_v1, c_v2, c_v3, c_v4, c_v5, c_v6], zac ([] ++ ([] ++ []))] := hp11.1
  have K14 := ks w hp11.2
  have f14 := ((zcx (r := rI)).mono (K14 None))
  refine zcr hl10 (fun (ss : ((List Int) × Int)) (e : Env) (w' : World) => match ss with | (bounds11, i10) => ∃ (ob11 : Option Nat) (cap11 : Nat) (sp11 : List Value) (cs11 : List Value) (ln11 : Nat) (u : Env), e = upds [(1, l_v), (2, (zaj (some ⟨b1, 0, none⟩))), (5, (osv ob11 0 ln11 cap11)), (6, (zI i10))] u ∧ vL w w' [some b1, ob11] [zac [c_v, c_v1, c_v2, c_v3, c_v4, c_v5, c_v6], zac ([] ++ (cs11 ++ sp11))] ∧ Keep w.heap.size [some b1] w12 [some b1, ob11] w' ∧ Els rI (vH w None [some b1, ob11] w') cs11 bounds11 ∧ ln11 = List.length bounds11 ∧ (cs11 ++ sp11).length = cap11 * rI.sz ∧ True) ⟨none, 0, [], [], (List.length ([] : (List Int))), _, (zeu ⟨rfl, rfl, rfl, rfl, trivial⟩), hL14, (zan K13 K14), f14, rfl, (show ([] ++ [] : List Value).length = 0 * rI.sz by simp), trivial⟩ ?_
  rintro ⟨bounds11, i10⟩ oo _ w13 ⟨ob11, cap11, sp11, cs11, ln11, u, rfl, hL15, K15, hE12, rfl, hc12, -⟩ h hd10
  rw [sValid_b1] at h
  refine zal (zal (zah rfl (zag (zai (v := (zI i10)) rfl ?_))))
  refine zag (zak (q := 2) zay rfl ti24 rfl rfl rfl ?_)
  refine zag (zas (v := c_v2) zdm rfl rfl (hL15.at 0 rfl rfl) rfl ?_)
  have f15 := (((c_h2.mono (K4 S)).mono (K12 S)).mono (K15 S))
  refine zag (zbg (v := c_v2) zdm rfl f15 ?_)
  refine zag (zcp (x := i10) (y := (c.Auxiliary.length : Int)) ((i10 : Int) < (c.Auxiliary.length : Int)) rfl rfl zbd (zap ?_))
  refine zbf ((i10 : Int) < (c.Auxiliary.length : Int)) rfl (fun hc13 => ?_) (fun hc13 => ?_)
  ·
   replace h := ite_t hc13 h
   refine zbk (zal (zbh (zal (zah rfl (zag (zak (q := 2) zay rfl ti24 rfl rfl rfl ?_))))))
   refine zag (zas (v := c_v2) zdm rfl rfl (hL15.at 0 rfl rfl) rfl ?_)
   refine zag (zai (v := (zI i10)) rfl ?_)
   obtain ⟨x11, n10, q13, q14, -, h⟩ := zix h
   obtain ⟨b10, o10, c10, vs10, q15, q16, f16, q17⟩ := zcw f15 q14
   obtain ⟨v10, rfl, k10, -⟩ := rRAux_open q17
   refine zag (zbj (r := rRAux) (v := c_v2) (n := n10) (m := (o10 + n10 * rRAux.sz)) zdm ti104 rfl q15 rfl q13 q14 rfl ?_)
   refine zag (zds (vs := [(zI x11.Of.Const), v10, (zI x11.By), (zI x11.Text)]) zdf rfl ti104 rfl rfl zex f16 ?_)
   refine zag (zcj (cs := [(zI 0), zN, (zI 0), (zI 0)]) ti104 rfl hL15 ?_)
   intro b11 w14 hL16 hS10
   have K16 := ks w hS10
   have f17 := (k10.mono (K16 S))
   refine zcq (zbq (vs := [(zI x11.Of.Const), v10, (zI x11.By), (zI x11.Text)]) ti104 rfl rfl rfl rfl (zet rfl (zet f17.one (zet rfl (zet rfl zew)))) hL16 0 rfl rfl (zaf rfl) ?_)
   intro w15 (hL17 : vL w w15 [some b11, some b1, ob11] [zac [(zI x11.Of.Const), v10, (zI x11.By), (zI x11.Text)], zac [c_v, c_v1, c_v2, c_v3, c_v4, c_v5, c_v6], zac ([] ++ (cs11 ++ sp11))]) hS11
   have K17 := ks w hS11
   refine zap (zal (zal (zah rfl (zag (zak (q := 2) zdf rfl ti2 rfl rfl rfl ?_)))))
   refine zag (zas (v := (zI x11.By)) zcf rfl rfl (hL17.at 0 rfl rfl) rfl ?_)
   refine zag (zeb (x := x11.By) (y := 0) ((x11.By : Int) = 0) rfl rfl zbd (zap ?_))
   refine zbf ((x11.By : Int) = 0) rfl (fun hc14 => ?_) (fun hc14 => ?_)
   ·
    replace h := ite_t hc14 h
    refine zal (zal ?_)
    obtain ⟨s12, h, g12⟩ := zes h
    refine zce (fun e w' => ∃ (x12 : Bool) (u : Env), x12 = s12 ∧ e = upds [(1, l_v), (2, (zaj (some ⟨b1, 0, none⟩))), (5, (zO ob11 bounds11 cap11)), (6, (zI i10)), (58, (zab x12))] u ∧ vL w w' [some b1, ob11] [zac [c_v, c_v1, c_v2, c_v3, c_v4, c_v5, c_v6], zac ([] ++ (cs11 ++ sp11))] ∧ Keep w.heap.size [some b11, some b1, ob11] w15 [some b1, ob11] w' ∧ True) ?_ ?_
    ·
     refine zah rfl (zag (zak (q := 0) zdf rfl ti90 rfl rfl rfl ?_))
     refine zag (zak (q := 1) zca rfl ti88 rfl rfl rfl ?_)
     refine zag (zas (v := v10) zbp rfl rfl (hL17.at 0 rfl rfl) rfl ?_)
     have f18 := (f17.mono (K17 S))
     refine zag (zbg (v := v10) zbp rfl f18 ?_)
     refine zag (zej (x := (x11.Of.Coefs.length : Int)) (y := 0) (((x11.Of.Coefs.length : Int) : Int) > 0) rfl rfl zbd ?_)
     refine zag (zai (v := (zab (decide (((x11.Of.Coefs.length : Int) : Int) > 0)))) rfl ?_)
     by_cases hc15 : ((x11.Of.Coefs.length : Int) : Int) > 0
     ·
      replace h := ite_t hc15 h
      refine zbb rfl rfl (zeq hc15) (zbb rfl rfl (zeq hc15) (zbb rfl rfl (zeq hc15) (zbb rfl rfl (zeq hc15) ?_)))
      refine zag (zbe (t := (decide (((x11.Of.Coefs.length : Int) : Int) > 0))) (v := zT) rfl (zeq hc15) rfl ?_)
      refine zag (zai (v := zT) rfl ?_)
      refine zbb rfl rfl rfl (zbb rfl rfl rfl (zbb rfl rfl rfl (zbb rfl rfl rfl (zbb rfl rfl rfl (zbb rfl rfl rfl ?_)))))
      refine zag (zbe (t := true) (v := zT) rfl rfl rfl (zap ?_))
      have hp12 := hL17.pick [1, 2] rfl rfl rfl
      have hL18 : vL w w15 [some b1, ob11] [zac [c_v, c_v1, c_v2, c_v3, c_v4, c_v5, c_v6], zac ([] ++ (cs11 ++ sp11))] := hp12.1
      have K18 := ks w hp12.2
      obtain rfl := zae h
      refine zaq ?_
      exact ⟨true, _, rfl, (zeu ⟨rfl, rfl, rfl, rfl, rfl, trivial⟩), hL18, K18, trivial⟩
     replace h := ite_f hc15 h
     refine zba rfl rfl (zep hc15) (zak (q := 0) zdf rfl ti90 rfl rfl rfl ?_)
     refine zba rfl rfl (zep hc15) (zak (q := 0) zca rfl ti2 rfl rfl rfl ?_)
     refine zba rfl rfl (zep hc15) (zas (v := (zI x11.Of.Const)) zcf rfl rfl (hL17.at 0 rfl rfl) rfl ?_)
     refine zba rfl rfl (zep hc15) (zek (x := x11.Of.Const) (y := 0) ((x11.Of.Const : Int) ≠ 0) rfl rfl zbd ?_)
     refine zag (zbn (t := (decide (((x11.Of.Coefs.length : Int) : Int) > 0))) (v := (zab (decide ((x11.Of.Const : Int) ≠ 0)))) rfl (zep hc15) rfl ?_)
     refine zag (zai (v := (zab (decide ((x11.Of.Const : Int) ≠ 0)))) rfl ?_)
     by_cases hc16 : (x11.Of.Const : Int) ≠ 0
     ·
      replace h := ite_t hc16 h
      refine zbb rfl rfl (zeq hc16) (zbb rfl rfl (zeq hc16) (zbb rfl rfl (zeq hc16) (zbb rfl rfl (zeq hc16) (zbb rfl rfl (zeq hc16) (zbb rfl rfl (zeq hc16) ?_)))))
      refine zag (zbe (t := (decide ((x11.Of.Const : Int) ≠ 0))) (v := zT) rfl (zeq hc16) rfl (zap ?_))
      have hp13 := hL17.pick [1, 2] rfl rfl rfl
      have hL19 : vL w w15 [some b1, ob11] [zac [c_v, c_v1, c_v2, c_v3, c_v4, c_v5, c_v6], zac ([] ++ (cs11 ++ sp11))] := hp13.1
      have K19 := ks w hp13.2
      obtain rfl := zae h
      refine zaq ?_
      exact ⟨true, _, rfl, (zeu ⟨rfl, rfl, rfl, rfl, rfl, trivial⟩), hL19, K19, trivial⟩
     replace h := ite_f hc16 h
     refine zba rfl rfl (zep hc16) (zak (q := 3) zdf rfl ti3 rfl rfl rfl ?_)
     refine zba rfl rfl (zep hc16) (zas (v := (zI x11.Text)) zat rfl rfl (hL17.at 0 rfl rfl) rfl ?_)
     refine zba rfl rfl (zep hc16) (zbr (vs := [c_v, c_v1, c_v2, c_v3, c_v4, c_v5, c_v6]) zay rfl ti29 rfl (hL17.at 1 rfl rfl) rfl rfl ?_)
     refine zba rfl rfl (zep hc16) (zai (v := l_v) rfl ?_)
     obtain ⟨r12, q18, h⟩ := zes h
     have f19 := (((((c_h.mono (K4 S)).mono (K12 S)).mono (K15 S)).mono (K16 S)).mono (K17 S))
     have f20 := (((((c_h1.mono (K4 S)).mono (K12 S)).mono (K15 S)).mono (K16 S)).mono (K17 S))
     have f21 := ((f15.mono (K16 S)).mono (K17 S))
     have f22 := (((((c_h3.mono (K4 S)).mono (K12 S)).mono (K15 S)).mono (K16 S)).mono (K17 S))
     have f23 := (((((c_h4.mono (K4 S)).mono (K12 S)).mono (K15 S)).mono (K16 S)).mono (K17 S))
     have f24 := (((((c_h5.mono (K4 S)).mono (K12 S)).mono (K15 S)).mono (K16 S)).mono (K17 S))
     have f25 := (((((c_h6.mono (K4 S)).mono (K12 S)).mono (K15 S)).mono (K16 S)).mono (K17 S))
     have f26 := (((((l_h.mono (K4 S)).mono (K12 S)).mono (K15 S)).mono (K16 S)).mono (K17 S))
     refine zba rfl rfl (zep hc16) (zbc en72 rfl rfl (sText_w N x11.Text c l c_v c_v1 c_v2 c_v3 c_v4 c_v5 c_v6 l_v _ Any (f19.mono vw_any) (f20.mono vw_any) (f21.mono vw_any) (f22.mono vw_any) (f23.mono vw_any) (f24.mono vw_any) (f25.mono vw_any) (f26.mono vw_any) r12 q18) ?_)
     rintro _ w16 hE13 ⟨rfl, -⟩
     obtain ⟨hL20, K20⟩ := zl hL17 hE13
     refine zba rfl rfl (zep hc16) (zdy (x := r12) rfl ?_)
     refine zag (zbn (t := (decide ((x11.Of.Const : Int) ≠ 0))) (v := (zab (!r12))) rfl (zep hc16) rfl (zap ?_))
     have hp14 := hL20.pick [1, 2] rfl rfl rfl
     have hL21 : vL w w16 [some b1, ob11] [zac [c_v, c_v1, c_v2, c_v3, c_v4, c_v5, c_v6], zac ([] ++ (cs11 ++ sp11))] := hp14.1
     have K21 := ks w hp14.2
     obtain rfl := zae h
     refine zaq ?_
     exact ⟨(!r12), _, rfl, (zeu ⟨rfl, rfl, rfl, rfl, rfl, trivial⟩), hL21, (zan K20 K21), trivial⟩
    rintro _ w17 ⟨x12, u, rfl, rfl, hL22, K22, -⟩
    replace h := g12
    try dsimp only at h
    refine zdd x12 rfl (fun hc17 => ?_) (fun hc17 => ?_)
    ·
     replace h := ite_t hc17 h
     refine zal (zah rfl (zag (zam (v := zF) rfl ?_)))
     refine zap (zbl ?_)
     obtain rfl := zae h
     obtain rfl := hd10 _ rfl
     replace h := g11
     try dsimp only at h
     obtain rfl := zae h
     refine ⟨[zF], zrt, ⟨_, rfl, hL22.done, ?_⟩⟩
     exact zrt
    replace h := ite_f hc17 h
    refine zbk (zal (zah rfl (zag (zai (v := (zO ob11 bounds11 cap11)) rfl ?_))))
    have hE14 : Els rI (vH w None [some b1, ob11] w17) [(zI 16)] [16] := (zdg (a := [(zI 16)]) rfl zcx)
    refine zag (zcv (r := rI) (vs := [(zI 16)]) (css := [[(zI 16)]]) (xs := [16]) zee ti2 (zaf rfl) rfl rfl ⟨rfl, rfl, trivial⟩ (zaf rfl) hE14 rfl hL22 ?_)
    intro b12 w18 hc18 hL23 hS12
    have K23 := ks w hS12
    obtain ⟨x13, q19, h⟩ := zes h
    obtain ⟨q20, q21, q22⟩ := zfb q19
    have f27 := (hE14.mono (K23 None))
    have f28 := ((((hE12.mono (K16 None)).mono (K17 None)).mono (K22 None)).mono (K23 None))
    refine zag (zdo (r := rI) (H := (vH w None [some b12, some b1, ob11] w18)) (cs := cs11) (sp := sp11) (xs := bounds11) (ys := [16]) (Y := x13) (n := bounds11.length) (cap := cap11) (i := 2) zee ti2 rfl rfl rfl rfl hL23 rfl rfl f28 rfl hc12 (zeg (pre := []) (o := 0) (n := 1) (cap := 1) (hL23.at 0 rfl rfl) f27 rfl rfl rfl) (zef (fun _ _ _ _ h => h) f27) q20 q21 q22 ?_)
    intro ob12 cap12 sp12 cs12 w19 hE15 hc19 (hL24 : vL w w19 [some b12, some b1, ob12] [zac ([] ++ ([(zI 16)] ++ [])), zac [c_v, c_v1, c_v2, c_v3, c_v4, c_v5, c_v6], zac ([] ++ (cs12 ++ sp12))]) hS13
    have K24 := ks w hS13
    refine zag (zam (v := (zO ob12 x13 cap12)) rfl ?_)
    refine zap (zda rfl (zah rfl (zag (zai (v := (zI i10)) rfl ?_))))
    refine zag (zcl (x := i10) (y := 1) (z := (iw (i10 + 1))) rfl rfl rfl ?_)
    refine zag (zam (v := (zI (iw (i10 + 1)))) rfl (zap ?_))
    have hp15 := hL24.pick [1, 2] rfl rfl rfl
    have hL25 : vL w w19 [some b1, ob12] [zac [c_v, c_v1, c_v2, c_v3, c_v4, c_v5, c_v6], zac ([] ++ (cs12 ++ sp12))] := hp15.1
    have K25 := ks w hp15.2
    have f29 := ((hE15.mono (K24 None)).mono (K25 None))
    obtain rfl := zae h
    refine zaq ⟨(x13, (iw (i10 + 1))), rfl, ?_⟩
    exact ⟨ob12, cap12, sp12, cs12, x13.length, _, (zeu ⟨rfl, rfl, rfl, rfl, trivial⟩), hL25, (zan (zan (zan (zan (zan (zan K15 K16) K17) K22) K23) K24) K25), f29, rfl, hc19, trivial⟩
   replace h := ite_f hc14 h
   refine zbk (zal (zah rfl (zag (zak (q := 0) zdf rfl ti90 rfl rfl rfl ?_))))
   refine zag (zbr (vs := [(zI x11.Of.Const), v10]) zca rfl ti90 rfl (hL17.at 0 rfl rfl) rfl rfl ?_)
   refine zag (zbr (vs := [c_v, c_v1, c_v2, c_v3, c_v4, c_v5, c_v6]) zay rfl ti29 rfl (hL17.at 1 rfl rfl) rfl rfl ?_)
   refine zag (zai (v := l_v) rfl ?_)
   refine zag (zai (v := (zO ob11 bounds11 cap11)) rfl ?_)
   obtain ⟨r13, q23, h⟩ := zes h
   have f30 := (f17.mono (K17 S))
   have f31 := (((((c_h.mono (K4 S)).mono (K12 S)).mono (K15 S)).mono (K16 S)).mono (K17 S))
   have f32 := (((((c_h1.mono (K4 S)).mono (K12 S)).mono (K15 S)).mono (K16 S)).mono (K17 S))
   have f33 := ((f15.mono (K16 S)).mono (K17 S))
   have f34 := (((((c_h3.mono (K4 S)).mono (K12 S)).mono (K15 S)).mono (K16 S)).mono (K17 S))
   have f35 := (((((c_h4.mono (K4 S)).mono (K12 S)).mono (K15 S)).mono (K16 S)).mono (K17 S))
   have f36 := (((((c_h5.mono (K4 S)).mono (K12 S)).mono (K15 S)).mono (K16 S)).mono (K17 S))
   have f37 := (((((c_h6.mono (K4 S)).mono (K12 S)).mono (K15 S)).mono (K16 S)).mono (K17 S))
   have f38 := (((((l_h.mono (K4 S)).mono (K12 S)).mono (K15 S)).mono (K16 S)).mono (K17 S))
   have f39 := ((hE12.mono (K16 None)).mono (K17 None))
   refine zag (zbc en73 rfl rfl (sForm_w N x11.Of c l bounds11 v10 c_v c_v1 c_v2 c_v3 c_v4 c_v5 c_v6 l_v (zO ob11 bounds11 cap11) _ Any (f30.mono vw_any) (f31.mono vw_any) (f32.mono vw_any) (f33.mono vw_any) (f34.mono vw_any) (f35.mono vw_any) (f36.mono vw_any) (f37.mono vw_any) (f38.mono vw_any) (zey (pre := []) (o := 0) (n := bounds11.length) (cap := cap11) (hL17.at 2 rfl rfl) f39 vw_any rfl rfl rfl hc12) r13 q23) ?_)
   rintro _ w20 hE16 ⟨rfl, -⟩
   obtain ⟨hL26, K26⟩ := zl hL17 hE16
   refine zag (zam (v := (zI r13)) rfl ?_)
   refine zap (zal (zal ?_))
   obtain ⟨s13, h, g13⟩ := zes h
   refine zce (fun e w' => ∃ (x14 : Bool) (u : Env), x14 = s13 ∧ e = upds [(1, l_v), (2, (zaj (some ⟨b1, 0, none⟩))), (5, (zO ob11 bounds11 cap11)), (6, (zI i10)), (7, (zaj (some ⟨b11, 0, none⟩))), (8, (zI r13)), (80, (zab x14))] u ∧ vL w w' [some b1, ob11, some b11] [zac [c_v, c_v1, c_v2, c_v3, c_v4, c_v5, c_v6], zac ([] ++ (cs11 ++ sp11)), zac [(zI x11.Of.Const), v10, (zI x11.By), (zI x11.Text)]] ∧ Keep w.heap.size [some b11, some b1, ob11] w20 [some b1, ob11, some b11] w' ∧ True) ?_ ?_
   ·
    refine zah rfl (zag (zak (q := 2) zdf rfl ti2 rfl rfl rfl ?_))
    refine zag (zas (v := (zI x11.By)) zcf rfl rfl (hL26.at 0 rfl rfl) rfl ?_)
    obtain ⟨r14, q24, h⟩ := zes h
    refine zag (zbc en74 rfl rfl (sWithin_w N x11.By 1 1000 _ Any r14 q24) ?_)
    rintro _ w21 hE17 ⟨rfl, -⟩
    obtain ⟨hL27, K27⟩ := zl hL26 hE17
    refine zag (zdy (x := r14) rfl ?_)
    refine zag (zai (v := (zab (!r14))) rfl ?_)
    by_cases hc20 : (!r14) = true
    ·
     replace h := ite_t hc20 h
     refine zbb rfl rfl hc20 ?_
     refine zbb rfl rfl hc20 ?_
     refine zbb rfl rfl hc20 ?_
     refine zag (zbe (t := (!r14)) (v := zT) rfl hc20 rfl ?_)
     refine zag (zai (v := zT) rfl ?_)
     refine zbb rfl rfl rfl (zbb rfl rfl rfl ?_)
     refine zag (zbe (t := true) (v := zT) rfl rfl rfl (zap ?_))
     have hp16 := hL27.pick [1, 2, 0] rfl rfl rfl
     have hL28 : vL w w21 [some b1, ob11, some b11] [zac [c_v, c_v1, c_v2, c_v3, c_v4, c_v5, c_v6], zac ([] ++ (cs11 ++ sp11)), zac [(zI x11.Of.Const), v10, (zI x11.By), (zI x11.Text)]] := hp16.1
     have K28 := ks w hp16.2
     obtain rfl := zae h
     refine zaq ?_
     exact ⟨true, _, rfl, (zeu ⟨rfl, rfl, rfl, rfl, rfl, rfl, rfl, trivial⟩), hL28, (zan K27 K28), trivial⟩
    replace h := ite_f hc20 h
    refine zba rfl rfl (zer hc20) (zak (q := 3) zdf rfl ti3 rfl rfl rfl ?_)
    refine zba rfl rfl (zer hc20) (zas (v := (zI x11.Text)) zat rfl rfl (hL27.at 0 rfl rfl) rfl ?_)
    refine zba rfl rfl (zer hc20) (zek (x := x11.Text) (y := 0) ((x11.Text : Int) ≠ 0) rfl rfl zbd ?_)
    refine zag (zbn (t := (!r14)) (v := (zab (decide ((x11.Text : Int) ≠ 0)))) rfl (zer hc20) rfl ?_)
    refine zag (zai (v := (zab (decide ((x11.Text : Int) ≠ 0)))) rfl ?_)
    by_cases hc21 : (x11.Text : Int) ≠ 0
    ·
     replace h := ite_t hc21 h
     refine zbb rfl rfl (zeq hc21) (zbb rfl rfl (zeq hc21) ?_)
     refine zag (zbe (t := (decide ((x11.Text : Int) ≠ 0))) (v := zT) rfl (zeq hc21) rfl (zap ?_))
     have hp17 := hL27.pick [1, 2, 0] rfl rfl rfl
     have hL29 : vL w w21 [some b1, ob11, some b11] [zac [c_v, c_v1, c_v2, c_v3, c_v4, c_v5, c_v6], zac ([] ++ (cs11 ++ sp11)), zac [(zI x11.Of.Const), v10, (zI x11.By), (zI x11.Text)]] := hp17.1
     have K29 := ks w hp17.2
     obtain rfl := zae h
     refine zaq ?_
     exact ⟨true, _, rfl, (zeu ⟨rfl, rfl, rfl, rfl, rfl, rfl, rfl, trivial⟩), hL29, (zan K27 K29), trivial⟩
    replace h := ite_f hc21 h
    refine zba rfl rfl (zep hc21) (zai (v := (zI r13)) rfl ?_)
    refine zba rfl rfl (zep hc21) (zcp (x := r13) (y := 0) ((r13 : Int) < 0) rfl rfl zbd ?_)
    refine zag (zbn (t := (decide ((x11.Text : Int) ≠ 0))) (v := (zab (decide ((r13 : Int) < 0)))) rfl (zep hc21) rfl (zap ?_))
    have hp18 := hL27.pick [1, 2, 0] rfl rfl rfl
    have hL30 : vL w w21 [some b1, ob11, some b11] [zac [c_v, c_v1, c_v2, c_v3, c_v4, c_v5, c_v6], zac ([] ++ (cs11 ++ sp11)), zac [(zI x11.Of.Const), v10, (zI x11.By), (zI x11.Text)]] := hp18.1
    have K30 := ks w hp18.2
    obtain rfl := zae h
    refine zaq ?_
    exact ⟨(decide ((r13 : Int) < 0)), _, rfl, (zeu ⟨rfl, rfl, rfl, rfl, rfl, rfl, rfl, trivial⟩), hL30, (zan K27 K30), trivial⟩
   rintro _ w22 ⟨x14, u, rfl, rfl, hL31, K31, -⟩
   replace h := g13
   try dsimp only at h
   refine zdd x14 rfl (fun hc22 => ?_) (fun hc22 => ?_)
   ·
    replace h := ite_t hc22 h
    refine zal (zah rfl (zag (zam (v := zF) rfl ?_)))
    refine zap (zbl ?_)
    obtain rfl := zae h
    obtain rfl := hd10 _ rfl
    replace h := g11
    try dsimp only at h
    obtain rfl := zae h
    refine ⟨[zF], zrt, ⟨_, rfl, hL31.done, ?_⟩⟩
    exact zrt
   replace h := ite_f hc22 h
   refine zbk (zah rfl (zag (zai (v := (zO ob11 bounds11 cap11)) rfl ?_)))
   refine zag (zai (v := (zI r13)) rfl ?_)
   refine zag (zak (q := 2) zdf rfl ti2 rfl rfl rfl ?_)
   refine zag (zas (v := (zI x11.By)) zcf rfl rfl (hL31.at 2 rfl rfl) rfl ?_)
   obtain ⟨x15, q25, h⟩ := zes h
   obtain ⟨q26, q27⟩ := sdiv_some q25
   refine zag (OpY.quoI (x := r13) (y := x11.By) (z := x15) rfl rfl q26 q27 ?_)
   refine zag (zcl (x := x15) (y := 1) (z := (iw (x15 + 1))) rfl rfl rfl ?_)
   have hE18 : Els rI (vH w None [some b1, ob11, some b11] w22) [(zI (iw (x15 + 1)))] [(iw (x15 + 1))] := (zdg (a := [(zI (iw (x15 + 1)))]) rfl zcx)
   refine zag (zcv (r := rI) (vs := [(zI (iw (x15 + 1)))]) (css := [[(zI (iw (x15 + 1)))]]) (xs := [(iw (x15 + 1))]) zee ti2 (zaf rfl) rfl rfl ⟨rfl, rfl, trivial⟩ (zaf rfl) hE18 rfl hL31 ?_)
   intro b13 w23 hc23 hL32 hS14
   have K32 := ks w hS14
   obtain ⟨x16, q28, h⟩ := zes h
   obtain ⟨q29, q30, q31⟩ := zfb q28
   have f40 := (hE18.mono (K32 None))
   have f41 := (((f39.mono (K26 None)).mono (K31 None)).mono (K32 None))
   refine zag (zdo (r := rI) (H := (vH w None [some b13, some b1, ob11, some b11] w23)) (cs := cs11) (sp := sp11) (xs := bounds11) (ys := [(iw (x15 + 1))]) (Y := x16) (n := bounds11.length) (cap := cap11) (i := 2) zee ti2 rfl rfl rfl rfl hL32 rfl rfl f41 rfl hc12 (zeg (pre := []) (o := 0) (n := 1) (cap := 1) (hL32.at 0 rfl rfl) f40 rfl rfl rfl) (zef (fun _ _ _ _ h => h) f40) q29 q30 q31 ?_)
   intro ob13 cap13 sp13 cs13 w24 hE19 hc24 (hL33 : vL w w24 [some b13, some b1, ob13, some b11] [zac ([] ++ ([(zI (iw (x15 + 1)))] ++ [])), zac [c_v, c_v1, c_v2, c_v3, c_v4, c_v5, c_v6], zac ([] ++ (cs13 ++ sp13)), zac [(zI x11.Of.Const), v10, (zI x11.By), (zI x11.Text)]]) hS15
   have K33 := ks w hS15
   refine zag (zam (v := (zO ob13 x16 cap13)) rfl ?_)
   refine zap (zbu (zah rfl (zag (zai (v := (zI i10)) rfl ?_))))
   refine zag (zcl (x := i10) (y := 1) (z := (iw (i10 + 1))) rfl rfl rfl ?_)
   refine zag (zam (v := (zI (iw (i10 + 1)))) rfl (zap ?_))
   have hp19 := hL33.pick [1, 2] rfl rfl rfl
   have hL34 : vL w w24 [some b1, ob13] [zac [c_v, c_v1, c_v2, c_v3, c_v4, c_v5, c_v6], zac ([] ++ (cs13 ++ sp13))] := hp19.1
   have K34 := ks w hp19.2
   have f42 := ((hE19.mono (K33 None)).mono (K34 None))
   obtain rfl := zae h
   refine zaq ⟨(x16, (iw (i10 + 1))), rfl, ?_⟩
   exact ⟨ob13, cap13, sp13, cs13, x16.length, _, (zeu ⟨rfl, rfl, rfl, rfl, trivial⟩), hL34, (zan (zan (zan (zan (zan (zan (zan K15 K16) K17) K26) K31) K32) K33) K34), f42, rfl, hc24, trivial⟩
  replace h := ite_f hc13 h
  refine zda rfl ?_
  obtain rfl := zae h
  obtain rfl := hd10 _ rfl
  replace h := g11
  try dsimp only at h
  refine zaq ?_
  exact ⟨bounds11, ob11, cap11, sp11, cs11, bounds11.length, _, rfl, (zeu ⟨rfl, rfl, rfl, trivial⟩), hL15, K15, hE12, rfl, hc12, trivial⟩
 rintro _ w25 ⟨bounds10, ob10, cap10, sp10, cs10, ln10, u, rfl, rfl, hL35, K35, hE20, rfl, hc25, -⟩
 replace h := g11
 try dsimp only at h
 refine zal (zal (zah rfl (zag (zam (v := (zI 0)) rfl (zap ?_)))))
 obtain ⟨s14, hl11, g14⟩ := zes h
 refine zce (fun e w' => ∃  (u : Env), (Sum.inl ()) = s14 ∧ e = upds [(1, l_v), (2, (zaj (some ⟨b1, 0, none⟩)))] u ∧ vL w w' [some b1] [zac [c_v, c_v1, c_v2, c_v3, c_v4, c_v5, c_v6]] ∧ Keep w.heap.size [some b1, ob10] w25 [some b1] w' ∧ True) ?_ ?_
 ·
  refine zbh ?_
  refine zcr hl11 (fun (ss : Int) (e : Env) (w' : World) => match ss with | i11 => ∃ (u : Env), e = upds [(1, l_v), (2, (zaj (some ⟨b1, 0, none⟩))), (5, (zO ob10 bounds10 cap10)), (9, (zI i11))] u ∧ vL w w' [some b1, ob10] [zac [c_v, c_v1, c_v2, c_v3, c_v4, c_v5, c_v6], zac ([] ++ (cs10 ++ sp10))] ∧ Keep w.heap.size [some b1, ob10] w25 [some b1, ob10] w' ∧ True) ⟨_, (zeu ⟨rfl, rfl, rfl, rfl, trivial⟩), hL35, zck, trivial⟩ ?_
  rintro i11 oo _ w26 ⟨u, rfl, hL36, K36, -⟩ h hd11
  rw [sValid_b2] at h
  refine zal (zal (zah rfl (zag (zai (v := (zI i11)) rfl ?_))))
  refine zag (zak (q := 3) zay rfl ti25 rfl rfl rfl ?_)
  refine zag (zas (v := c_v3) zco rfl rfl (hL36.at 0 rfl rfl) rfl ?_)
  have f43 := ((((c_h3.mono (K4 S)).mono (K12 S)).mono (K35 S)).mono (K36 S))
  refine zag (zbg (v := c_v3) zco rfl f43 ?_)
  refine zag (zcp (x := i11) (y := (c.Ints.length : Int)) ((i11 : Int) < (c.Ints.length : Int)) rfl rfl zbd (zap ?_))
  refine zbf ((i11 : Int) < (c.Ints.length : Int)) rfl (fun hc26 => ?_) (fun hc26 => ?_)
  ·
   replace h := ite_t hc26 h
   refine zbk (zal (zbh (zal ?_)))
   obtain ⟨x17, n11, q33, q34, -, h⟩ := zix h
   obtain ⟨b14, o11, c11, vs11, q35, q36, f44, q37⟩ := zcw f43 q34
   obtain ⟨v11, rfl, k11, -⟩ := rConstraint_open q37
   have f45 := (f44.part (us := [(zI x17.Linear.Const), v11]) 0 rfl)
   refine zcm 9 [] [] (fun W1 => [.det (zaj (some ⟨b1, 3, none⟩)), .det c_v3, .det (zI i11), .det (zaj (some ⟨b14, (o11 + n11 * rConstraint.sz), none⟩)), .det (zaj (some ⟨b14, (o11 + n11 * rConstraint.sz) + 0, none⟩)), .det (zar #[(zI x17.Linear.Const), v11]), .det (zar #[c_v, c_v1, c_v2, c_v3, c_v4, c_v5, c_v6]), .det l_v, .det (zO ob10 bounds10 cap10)]) mixed rfl rfl rfl (fun _ => rfl) (fun _ => rfl) ?_ ?_
   ·
    intro W1 _
    exact trivial
   intro w27 hE21
   obtain ⟨hL37, K37⟩ := zl hL36 hE21
   refine zao (fun _ _ => zau (zak zay rfl ti25 rfl rfl rfl (er rfl))) ?_
   refine zao (fun _ hE23 => zau (zas zco rfl rfl ((hL37.ext hE23).at 0 rfl rfl) rfl (er rfl))) ?_
   refine zao (fun _ _ => zau (zai rfl (er rfl))) ?_
   refine zao (fun _ _ => zau (zbj (r := rConstraint) (v := c_v3) (n := n11) (m := (o11 + n11 * rConstraint.sz)) zco ti92 rfl q35 rfl q33 q34 rfl (er rfl))) ?_
   refine zao (fun _ _ => zau (zak zdj rfl ti90 rfl rfl rfl (er rfl))) ?_
   refine zao (fun _ hE27 => zau (zds (vs := [(zI x17.Linear.Const), v11]) zca rfl ti90 rfl rfl zex (zcd ((ke hL37 hE27) S) (zcd (K37 S) f45)) (er rfl))) ?_
   refine zao (fun _ hE28 => zau (zbr (vs := [c_v, c_v1, c_v2, c_v3, c_v4, c_v5, c_v6]) zay rfl ti29 rfl ((hL37.ext hE28).at 0 rfl rfl) rfl rfl (er rfl))) ?_
   refine zao (fun _ _ => zau (zai rfl (er rfl))) ?_
   refine zao (fun _ _ => zau (zai rfl (er rfl))) ?_
   refine zcy ?_
   rintro w37 Z28 hE31 hZ19 ⟨-⟩ ap10
   have hB10 := @zhb w27 Z28
   obtain ⟨hL40, K39⟩ := zl hL37 hE31
   obtain ⟨r15, q38, h⟩ := zes h
   have f46 := ((k11.mono (K37 S)).mono (K39 S))
   have f47 := ((((((c_h.mono (K4 S)).mono (K12 S)).mono (K35 S)).mono (K36 S)).mono (K37 S)).mono (K39 S))
   have f48 := ((((((c_h1.mono (K4 S)).mono (K12 S)).mono (K35 S)).mono (K36 S)).mono (K37 S)).mono (K39 S))
   have f49 := ((((((c_h2.mono (K4 S)).mono (K12 S)).mono (K35 S)).mono (K36 S)).mono (K37 S)).mono (K39 S))
   have f50 := ((f43.mono (K37 S)).mono (K39 S))
   have f51 := ((((((c_h4.mono (K4 S)).mono (K12 S)).mono (K35 S)).mono (K36 S)).mono (K37 S)).mono (K39 S))
   have f52 := ((((((c_h5.mono (K4 S)).mono (K12 S)).mono (K35 S)).mono (K36 S)).mono (K37 S)).mono (K39 S))
   have f53 := ((((((c_h6.mono (K4 S)).mono (K12 S)).mono (K35 S)).mono (K36 S)).mono (K37 S)).mono (K39 S))
   have f54 := ((((((l_h.mono (K4 S)).mono (K12 S)).mono (K35 S)).mono (K36 S)).mono (K37 S)).mono (K39 S))
   have f55 := (((hE20.mono (K36 None)).mono (K37 None)).mono (K39 None))
   refine zag (zbc en73 rfl rfl (sForm_w N x17.Linear c l bounds10 v11 c_v c_v1 c_v2 c_v3 c_v4 c_v5 c_v6 l_v (zO ob10 bounds10 cap10) _ Any (f46.mono vw_any) (f47.mono vw_any) (f48.mono vw_any) (f49.mono vw_any) (f50.mono vw_any) (f51.mono vw_any) (f52.mono vw_any) (f53.mono vw_any) (f54.mono vw_any) (zey (pre := []) (o := 0) (n := bounds10.length) (cap := cap10) (hL40.at 1 rfl rfl) f55 vw_any rfl rfl rfl hc25) r15 q38) ?_)
   rintro _ w38 hE32 ⟨rfl, -⟩
   obtain ⟨hL41, K40⟩ := zl hL40 hE32
   refine zag (zcp (x := r15) (y := 0) ((r15 : Int) < 0) rfl rfl zbd (zap ?_))
   refine zbf ((r15 : Int) < 0) rfl (fun hc27 => ?_) (fun hc27 => ?_)
   ·
    replace h := ite_t hc27 h
    refine zal (zah rfl (zag (zam (v := zF) rfl ?_)))
    refine zap (zbl ?_)
    obtain rfl := zae h
    obtain rfl := hd11 _ rfl
    replace h := g14
    try dsimp only at h
    obtain rfl := zae h
    refine ⟨[zF], zrt, ⟨_, rfl, hL41.done, ?_⟩⟩
    exact zrt
   replace h := ite_f hc27 h
   refine zbk (zbu (zah rfl (zag (zai (v := (zI i11)) rfl ?_))))
   refine zag (zcl (x := i11) (y := 1) (z := (iw (i11 + 1))) rfl rfl rfl ?_)
   refine zag (zam (v := (zI (iw (i11 + 1)))) rfl (zap ?_))
   obtain rfl := zae h
   refine zaq ⟨(iw (i11 + 1)), rfl, ?_⟩
   exact ⟨_, (zeu ⟨rfl, rfl, rfl, rfl, trivial⟩), hL41, (zan (zan (zan K36 K37) K39) K40), trivial⟩
  replace h := ite_f hc26 h
  refine zda rfl ?_
  have hp20 := hL36.pick [0] rfl rfl rfl
  have hL42 : vL w w26 [some b1] [zac [c_v, c_v1, c_v2, c_v3, c_v4, c_v5, c_v6]] := hp20.1
  have K41 := ks w hp20.2
  obtain rfl := zae h
  obtain rfl := hd11 _ rfl
  replace h := g14
  try dsimp only at h
  refine zaq ?_
  exact ⟨_, rfl, (zeu ⟨rfl, rfl, trivial⟩), hL42, (zan K36 K41), trivial⟩
 rintro _ w39 ⟨u, rfl, rfl, hL43, K42, -⟩
 replace h := g14
 try dsimp only at h
 refine zal (zal (zah rfl (zag (zam (v := (zI 0)) rfl (zap ?_)))))
 obtain ⟨s15, hl12, g15⟩ := zes h
 refine zce (fun e w' => ∃  (u : Env), (Sum.inl ()) = s15 ∧ e = upds [(1, l_v), (2, (zaj (some ⟨b1, 0, none⟩)))] u ∧ vL w w' [some b1] [zac [c_v, c_v1, c_v2, c_v3, c_v4, c_v5, c_v6]] ∧ Keep w.heap.size [some b1] w39 [some b1] w' ∧ True) ?_ ?_
 ·
  refine zbh ?_
  refine zcr hl12 (fun (ss : Int) (e : Env) (w' : World) => match ss with | i12 => ∃ (u : Env), e = upds [(1, l_v), (2, (zaj (some ⟨b1, 0, none⟩))), (10, (zI i12))] u ∧ vL w w' [some b1] [zac [c_v, c_v1, c_v2, c_v3, c_v4, c_v5, c_v6]] ∧ Keep w.heap.size [some b1] w39 [some b1] w' ∧ True) ⟨_, (zeu ⟨rfl, rfl, rfl, trivial⟩), hL43, zck, trivial⟩ ?_
  rintro i12 oo _ w40 ⟨u, rfl, hL44, K43, -⟩ h hd12
  rw [sValid_b3] at h
  refine zal (zal (zah rfl (zag (zai (v := (zI i12)) rfl ?_))))
  refine zag (zak (q := 4) zay rfl ti26 rfl rfl rfl ?_)
  refine zag (zas (v := c_v4) zbs rfl rfl (hL44.at 0 rfl rfl) rfl ?_)
  have f56 := (((((c_h4.mono (K4 S)).mono (K12 S)).mono (K35 S)).mono (K42 S)).mono (K43 S))
  refine zag (zbg (v := c_v4) zbs rfl f56 ?_)
  refine zag (zcp (x := i12) (y := (c.Tests.length : Int)) ((i12 : Int) < (c.Tests.length : Int)) rfl rfl zbd (zap ?_))
  refine zbf ((i12 : Int) < (c.Tests.length : Int)) rfl (fun hc28 => ?_) (fun hc28 => ?_)
  ·
   replace h := ite_t hc28 h
   refine zbk (zal (zbh (zal ?_)))
   obtain ⟨s16, h, g16⟩ := zes h
   refine zce (fun e w' => ∃ (x18 : Bool) (u : Env), x18 = s16 ∧ e = upds [(1, l_v), (2, (zaj (some ⟨b1, 0, none⟩))), (10, (zI i12)), (132, (zab x18))] u ∧ vL w w' [some b1] [zac [c_v, c_v1, c_v2, c_v3, c_v4, c_v5, c_v6]] ∧ Keep w.heap.size [some b1] w40 [some b1] w' ∧ True) ?_ ?_
   ·
    obtain ⟨x19, n12, q40, q41, -, h⟩ := zix h
    obtain ⟨b15, o12, c12, vs12, q42, q43, f57, q44⟩ := zcw f56 q41
    obtain ⟨rfl, -⟩ := rTTest_open q44
    obtain ⟨r16, q45, h⟩ := zes h
    by_cases hc29 : (!r16) = true
    ·
     replace h := ite_t hc29 h
     refine zcm 16 [] [] (fun W1 => [.det (zaj (some ⟨b1, 4, none⟩)), .det c_v4, .det (zI i12), .det (zaj (some ⟨b15, (o12 + n12 * rTTest.sz), none⟩)), .det (zar #[(zI x19.Var), (zI x19.Kind), (zab x19.Negated), (zS x19.Text)]), .det (zab r16), .det (zab (!r16)), .det (zab (!r16)), .det undef, .det undef, .det undef, .det undef, .det undef, .det undef, .det undef, .det undef]) mixed rfl rfl rfl (fun _ => rfl) (fun _ => rfl) ?_ ?_
     ·
      intro W1 _
      exact trivial
     intro w41 hE33
     obtain ⟨hL45, K44⟩ := zl hL44 hE33
     refine zao (fun _ _ => zau (zak zay rfl ti26 rfl rfl rfl (er rfl))) ?_
     refine zao (fun _ hE35 => zau (zas zbs rfl rfl ((hL45.ext hE35).at 0 rfl rfl) rfl (er rfl))) ?_
     refine zao (fun _ _ => zau (zai rfl (er rfl))) ?_
     refine zao (fun _ _ => zau (zbj (r := rTTest) (v := c_v4) (n := n12) (m := (o12 + n12 * rTTest.sz)) zbs ti112 rfl q42 rfl q40 q41 rfl (er rfl))) ?_
     refine zao (fun _ hE38 => zau (zds (vs := [(zI x19.Var), (zI x19.Kind), (zab x19.Negated), (zS x19.Text)]) zct rfl ti112 rfl rfl zex (zcd ((ke hL45 hE38) S) (zcd (K44 S) f57)) (er rfl))) ?_
     refine zen ?_ ?_
     ·
      rintro w47 Z34 hE39 hZ25 ⟨-⟩
      refine zau (zbc en75 rfl rfl (sTested_w N x19 _ Any r16 q45) ?_)
      rintro _ w48 hE40 ⟨rfl, -⟩
      exact ⟨hE40, rfl⟩
     refine zao (fun _ _ => zau (zdy rfl (er rfl))) ?_
     refine zao (fun _ _ => zau (zai rfl (er rfl))) ?_
     refine zao (fun _ _ => zci rfl rfl hc29 (er rfl)) ?_
     refine zao (fun _ _ => zci rfl rfl hc29 (er rfl)) ?_
     refine zao (fun _ _ => zci rfl rfl hc29 (er rfl)) ?_
     refine zao (fun _ _ => zci rfl rfl hc29 (er rfl)) ?_
     refine zao (fun _ _ => zci rfl rfl hc29 (er rfl)) ?_
     refine zao (fun _ _ => zci rfl rfl hc29 (er rfl)) ?_
     refine zao (fun _ _ => zci rfl rfl hc29 (er rfl)) ?_
     refine zao (fun _ _ => zci rfl rfl hc29 (er rfl)) ?_
     refine zcy ?_
     rintro w59 Z45 hE51 hZ36 ⟨-⟩ ap11
     have hB11 := @zhb w41 Z45
     obtain ⟨hL47, K46⟩ := zl hL45 hE51
     refine zbb rfl rfl hc29 ?_
     refine zbb rfl rfl hc29 ?_
     refine zag (zbe (t := (!r16)) (v := zT) rfl hc29 rfl (zap ?_))
     obtain rfl := zae h
     refine zaq ?_
     exact ⟨true, _, rfl, (zeu ⟨rfl, rfl, rfl, rfl, trivial⟩), hL47, (zan K44 K46), trivial⟩
    replace h := ite_f hc29 h
    obtain ⟨x20, n13, q47, q48, -, h⟩ := zix h
    obtain ⟨b16, o13, c13, vs13, q49, q50, f58, q51⟩ := zcw f56 q48
    obtain ⟨rfl, -⟩ := rTTest_open q51
    have f59 := (f58.part (us := [(zI x20.Var)]) 0 rfl)
    refine zcm 16 [] [] (fun W1 => [.det (zaj (some ⟨b1, 4, none⟩)), .det c_v4, .det (zI i12), .det (zaj (some ⟨b15, (o12 + n12 * rTTest.sz), none⟩)), .det (zar #[(zI x19.Var), (zI x19.Kind), (zab x19.Negated), (zS x19.Text)]), .det (zab r16), .det (zab (!r16)), .det (zab (!r16)), .det (zaj (some ⟨b1, 4, none⟩)), .det c_v4, .det (zI i12), .det (zaj (some ⟨b16, (o13 + n13 * rTTest.sz), none⟩)), .det (zaj (some ⟨b16, (o13 + n13 * rTTest.sz) + 0, none⟩)), .det (zI x20.Var), .det (zar #[c_v, c_v1, c_v2, c_v3, c_v4, c_v5, c_v6]), .det l_v]) mixed rfl rfl rfl (fun _ => rfl) (fun _ => rfl) ?_ ?_
    ·
     intro W1 _
     exact trivial
    intro w60 hE52
    obtain ⟨hL48, K47⟩ := zl hL44 hE52
    refine zao (fun _ _ => zau (zak zay rfl ti26 rfl rfl rfl (er rfl))) ?_
    refine zao (fun _ hE54 => zau (zas zbs rfl rfl ((hL48.ext hE54).at 0 rfl rfl) rfl (er rfl))) ?_
    refine zao (fun _ _ => zau (zai rfl (er rfl))) ?_
    refine zao (fun _ _ => zau (zbj (r := rTTest) (v := c_v4) (n := n12) (m := (o12 + n12 * rTTest.sz)) zbs ti112 rfl q42 rfl q40 q41 rfl (er rfl))) ?_
    refine zao (fun _ hE57 => zau (zds (vs := [(zI x19.Var), (zI x19.Kind), (zab x19.Negated), (zS x19.Text)]) zct rfl ti112 rfl rfl zex (zcd ((ke hL48 hE57) S) (zcd (K47 S) f57)) (er rfl))) ?_
    refine zen ?_ ?_
    ·
     rintro w66 Z51 hE58 hZ42 ⟨-⟩
     refine zau (zbc en75 rfl rfl (sTested_w N x19 _ Any r16 q45) ?_)
     rintro _ w67 hE59 ⟨rfl, -⟩
     exact ⟨hE59, rfl⟩
    refine zao (fun _ _ => zau (zdy rfl (er rfl))) ?_
    refine zao (fun _ _ => zau (zai rfl (er rfl))) ?_
    refine zao (fun _ _ => zbm rfl rfl (zer hc29) (zak zay rfl ti26 rfl rfl rfl (er rfl))) ?_
    refine zao (fun _ hE63 => zbm rfl rfl (zer hc29) (zas zbs rfl rfl ((hL48.ext hE63).at 0 rfl rfl) rfl (er rfl))) ?_
    refine zao (fun _ _ => zbm rfl rfl (zer hc29) (zai rfl (er rfl))) ?_
    refine zao (fun _ _ => zbm rfl rfl (zer hc29) (zbj (r := rTTest) (v := c_v4) (n := n13) (m := (o13 + n13 * rTTest.sz)) zbs ti112 rfl q49 rfl q47 q48 rfl (er rfl))) ?_
    refine zao (fun _ _ => zbm rfl rfl (zer hc29) (zak zct rfl ti3 rfl rfl rfl (er rfl))) ?_
    refine zao (fun _ hE67 => zbm rfl rfl (zer hc29) (zby zat rfl rfl zex (zcd ((ke hL48 hE67) S) (zcd (K47 S) f59)) (er rfl))) ?_
    refine zao (fun _ hE68 => zbm rfl rfl (zer hc29) (zbr (vs := [c_v, c_v1, c_v2, c_v3, c_v4, c_v5, c_v6]) zay rfl ti29 rfl ((hL48.ext hE68).at 0 rfl rfl) rfl rfl (er rfl))) ?_
    refine zao (fun _ _ => zbm rfl rfl (zer hc29) (zai rfl (er rfl))) ?_
    refine zcy ?_
    rintro w78 Z62 hE70 hZ53 ⟨-⟩ ap12
    have hB12 := @zhb w60 Z62
    obtain ⟨hL52, K50⟩ := zl hL48 hE70
    obtain ⟨r17, q52, h⟩ := zes h
    have f60 := (((((((c_h.mono (K4 S)).mono (K12 S)).mono (K35 S)).mono (K42 S)).mono (K43 S)).mono (K47 S)).mono (K50 S))
    have f61 := (((((((c_h1.mono (K4 S)).mono (K12 S)).mono (K35 S)).mono (K42 S)).mono (K43 S)).mono (K47 S)).mono (K50 S))
    have f62 := (((((((c_h2.mono (K4 S)).mono (K12 S)).mono (K35 S)).mono (K42 S)).mono (K43 S)).mono (K47 S)).mono (K50 S))
    have f63 := (((((((c_h3.mono (K4 S)).mono (K12 S)).mono (K35 S)).mono (K42 S)).mono (K43 S)).mono (K47 S)).mono (K50 S))
    have f64 := ((f56.mono (K47 S)).mono (K50 S))
    have f65 := (((((((c_h5.mono (K4 S)).mono (K12 S)).mono (K35 S)).mono (K42 S)).mono (K43 S)).mono (K47 S)).mono (K50 S))
    have f66 := (((((((c_h6.mono (K4 S)).mono (K12 S)).mono (K35 S)).mono (K42 S)).mono (K43 S)).mono (K47 S)).mono (K50 S))
    have f67 := (((((((l_h.mono (K4 S)).mono (K12 S)).mono (K35 S)).mono (K42 S)).mono (K43 S)).mono (K47 S)).mono (K50 S))
    refine zba rfl rfl (zer hc29) (zbc en72 rfl rfl (sText_w N x20.Var c l c_v c_v1 c_v2 c_v3 c_v4 c_v5 c_v6 l_v _ Any (f60.mono vw_any) (f61.mono vw_any) (f62.mono vw_any) (f63.mono vw_any) (f64.mono vw_any) (f65.mono vw_any) (f66.mono vw_any) (f67.mono vw_any) r17 q52) ?_)
    rintro _ w79 hE71 ⟨rfl, -⟩
    obtain ⟨hL53, K51⟩ := zl hL52 hE71
    refine zba rfl rfl (zer hc29) (zdy (x := r17) rfl ?_)
    refine zag (zbn (t := (!r16)) (v := (zab (!r17))) rfl (zer hc29) rfl (zap ?_))
    obtain rfl := zae h
    refine zaq ?_
    exact ⟨(!r17), _, rfl, (zeu ⟨rfl, rfl, rfl, rfl, trivial⟩), hL53, (zan (zan K47 K50) K51), trivial⟩
   rintro _ w80 ⟨x18, u, rfl, rfl, hL54, K52, -⟩
   replace h := g16
   try dsimp only at h
   refine zdd x18 rfl (fun hc30 => ?_) (fun hc30 => ?_)
   ·
    replace h := ite_t hc30 h
    refine zal (zah rfl (zag (zam (v := zF) rfl ?_)))
    refine zap (zbl ?_)
    obtain rfl := zae h
    obtain rfl := hd12 _ rfl
    replace h := g15
    try dsimp only at h
    obtain rfl := zae h
    refine ⟨[zF], zrt, ⟨_, rfl, hL54.done, ?_⟩⟩
    exact zrt
   replace h := ite_f hc30 h
   refine zbk (zbu (zah rfl (zag (zai (v := (zI i12)) rfl ?_))))
   refine zag (zcl (x := i12) (y := 1) (z := (iw (i12 + 1))) rfl rfl rfl ?_)
   refine zag (zam (v := (zI (iw (i12 + 1)))) rfl (zap ?_))
   obtain rfl := zae h
   refine zaq ⟨(iw (i12 + 1)), rfl, ?_⟩
   exact ⟨_, (zeu ⟨rfl, rfl, rfl, trivial⟩), hL54, (zan K43 K52), trivial⟩
  replace h := ite_f hc28 h
  refine zda rfl ?_
  obtain rfl := zae h
  obtain rfl := hd12 _ rfl
  replace h := g15
  try dsimp only at h
  refine zaq ?_
  exact ⟨_, rfl, (zeu ⟨rfl, rfl, trivial⟩), hL44, K43, trivial⟩
 rintro _ w81 ⟨u, rfl, rfl, hL55, K53, -⟩
 replace h := g15
 try dsimp only at h
 refine zal (zah rfl (zag (zak (q := 5) zay rfl ti27 rfl rfl rfl ?_)))
 refine zag (zas (v := c_v5) zaz rfl rfl (hL55.at 0 rfl rfl) rfl ?_)
 refine zag (zbr (vs := [c_v, c_v1, c_v2, c_v3, c_v4, c_v5, c_v6]) zay rfl ti29 rfl (hL55.at 0 rfl rfl) rfl rfl ?_)
 refine zag (zai (v := l_v) rfl ?_)
 obtain ⟨r18, q53, h⟩ := zes h
 have f68 := (((((c_h5.mono (K4 S)).mono (K12 S)).mono (K35 S)).mono (K42 S)).mono (K53 S))
 have f69 := (((((c_h.mono (K4 S)).mono (K12 S)).mono (K35 S)).mono (K42 S)).mono (K53 S))
 have f70 := (((((c_h1.mono (K4 S)).mono (K12 S)).mono (K35 S)).mono (K42 S)).mono (K53 S))
 have f71 := (((((c_h2.mono (K4 S)).mono (K12 S)).mono (K35 S)).mono (K42 S)).mono (K53 S))
 have f72 := (((((c_h3.mono (K4 S)).mono (K12 S)).mono (K35 S)).mono (K42 S)).mono (K53 S))
 have f73 := (((((c_h4.mono (K4 S)).mono (K12 S)).mono (K35 S)).mono (K42 S)).mono (K53 S))
 have f74 := (((((c_h6.mono (K4 S)).mono (K12 S)).mono (K35 S)).mono (K42 S)).mono (K53 S))
 have f75 := (((((l_h.mono (K4 S)).mono (K12 S)).mono (K35 S)).mono (K42 S)).mono (K53 S))
 refine zag (zbc en76 rfl rfl (sPairs_w N c.Same c l c_v5 c_v c_v1 c_v2 c_v3 c_v4 c_v5 c_v6 l_v _ Any (f68.mono vw_any) (f69.mono vw_any) (f70.mono vw_any) (f71.mono vw_any) (f72.mono vw_any) (f73.mono vw_any) (f68.mono vw_any) (f74.mono vw_any) (f75.mono vw_any) r18 q53) ?_)
 rintro _ w82 hE72 ⟨rfl, -⟩
 obtain ⟨hL56, K54⟩ := zl hL55 hE72
 refine zag (zai (v := (zab r18)) rfl ?_)
 by_cases hc31 : r18 = true
 ·
  replace h := ite_t hc31 h
  refine zba rfl rfl hc31 (zak (q := 6) zay rfl ti27 rfl rfl rfl ?_)
  refine zba rfl rfl hc31 (zas (v := c_v6) zaz rfl rfl (hL56.at 0 rfl rfl) rfl ?_)
  refine zba rfl rfl hc31 (zbr (vs := [c_v, c_v1, c_v2, c_v3, c_v4, c_v5, c_v6]) zay rfl ti29 rfl (hL56.at 0 rfl rfl) rfl rfl ?_)
  refine zba rfl rfl hc31 (zai (v := l_v) rfl ?_)
  obtain ⟨r19, q54, h⟩ := zes h
  have f76 := (f74.mono (K54 S))
  have f77 := (f69.mono (K54 S))
  have f78 := (f70.mono (K54 S))
  have f79 := (f71.mono (K54 S))
  have f80 := (f72.mono (K54 S))
  have f81 := (f73.mono (K54 S))
  have f82 := (f68.mono (K54 S))
  have f83 := (f75.mono (K54 S))
  refine zba rfl rfl hc31 (zbc en76 rfl rfl (sPairs_w N c.Different c l c_v6 c_v c_v1 c_v2 c_v3 c_v4 c_v5 c_v6 l_v _ Any (f76.mono vw_any) (f77.mono vw_any) (f78.mono vw_any) (f79.mono vw_any) (f80.mono vw_any) (f81.mono vw_any) (f82.mono vw_any) (f76.mono vw_any) (f83.mono vw_any) r19 q54) ?_)
  rintro _ w83 hE73 ⟨rfl, -⟩
  have hL57 := hL56.ext hE73
  refine zag (zbe (t := r18) (v := (zab r19)) rfl hc31 rfl ?_)
  refine zag (zam (v := (zab r19)) rfl ?_)
  refine zap (zbl ?_)
  obtain rfl := zae h
  refine ⟨[(zab r19)], zrt, ⟨_, rfl, hL57.done, ?_⟩⟩
  exact zrt
 replace h := ite_f hc31 h
 refine zbb rfl rfl (zer hc31) (zbb rfl rfl (zer hc31) (zbb rfl rfl (zer hc31) (zbb rfl rfl (zer hc31) (zbb rfl rfl (zer hc31) ?_))))
 refine zag (zbn (t := r18) (v := zF) rfl (zer hc31) rfl ?_)
 refine zag (zam (v := zF) rfl ?_)
 refine zap (zbl ?_)
 obtain rfl := zae h
 refine ⟨[zF], zrt, ⟨_, rfl, hL56.done, ?_⟩⟩
 exact zrt
theorem sFew_w (N : Nat) (c : RClause) (c_v : Value) (c_v1 : Value) (c_v2 : Value) (c_v3 : Value) (c_v4 : Value) (c_v5 : Value) (c_v6 : Value) (w : World) (S : Nat → Prop) (c_h : Rs rI (vH w S [] w) c_v c.Null) (c_h1 : Rs rI (vH w S [] w) c_v1 c.NotNull) (c_h2 : Rs rRAux (vH w S [] w) c_v2 c.Auxiliary) (c_h3 : Rs rConstraint (vH w S [] w) c_v3 c.Ints) (c_h4 : Rs rTTest (vH w S [] w) c_v4 c.Tests) (c_h5 : Rs rArr2Int (vH w S [] w) c_v5 c.Same) (c_h6 : Rs rArr2Int (vH w S [] w) c_v6 c.Different) (r : Bool) (h : sFew N c = some r) :
  Calls Tryz.prog 36 #[(zar #[c_v, c_v1, c_v2, c_v3, c_v4, c_v5, c_v6])] w (Ret w (fun v w' => (zab r) = v ∧ True)) := by
 unfold sFew at h
 have hL : vL w w [] [] := Go.X.Loc.begin0 w
 refine calls_of (l := [(zar #[c_v, c_v1, c_v2, c_v3, c_v4, c_v5, c_v6])]) (rl := [.tmp 2]) (n := 87) Tryz.func36 rfl rfl rfl (zaf rfl) ?_
 refine zal (zah rfl (zag (zdu (cs := [c_v, c_v1, c_v2, c_v3, c_v4, c_v5, c_v6]) rfl rfl hL ?_)))
 intro b1 w2 hL3 hS5
 have K4 := ks w hS5
 refine zag (zam (v := zF) rfl ?_)
 refine zap (zal (zah rfl (zag (zak (q := 0) zay rfl ti23 rfl rfl rfl ?_))))
 refine zag (zas (v := c_v) zaw rfl rfl (hL3.at 0 rfl rfl) rfl ?_)
 have f6 := (c_h.mono (K4 S))
 refine zag (zbg (v := c_v) zaw rfl f6 ?_)
 refine zag (zak (q := 1) zay rfl ti23 rfl rfl rfl ?_)
 refine zag (zas (v := c_v1) zaw rfl rfl (hL3.at 0 rfl rfl) rfl ?_)
 have f7 := (c_h1.mono (K4 S))
 refine zag (zbg (v := c_v1) zaw rfl f7 ?_)
 refine zag (zcl (x := (c.Null.length : Int)) (y := (c.NotNull.length : Int)) (z := (iw ((c.Null.length : Int) + (c.NotNull.length : Int)))) rfl rfl rfl ?_)
 refine zag (zak (q := 2) zay rfl ti24 rfl rfl rfl ?_)
 refine zag (zas (v := c_v2) zdm rfl rfl (hL3.at 0 rfl rfl) rfl ?_)
 have f8 := (c_h2.mono (K4 S))
 refine zag (zbg (v := c_v2) zdm rfl f8 ?_)
 refine zag (zcl (x := (iw ((c.Null.length : Int) + (c.NotNull.length : Int)))) (y := (c.Auxiliary.length : Int)) (z := (iw ((iw ((c.Null.length : Int) + (c.NotNull.length : Int))) + (c.Auxiliary.length : Int)))) rfl rfl rfl ?_)
 refine zag (zak (q := 3) zay rfl ti25 rfl rfl rfl ?_)
 refine zag (zas (v := c_v3) zco rfl rfl (hL3.at 0 rfl rfl) rfl ?_)
 have f9 := (c_h3.mono (K4 S))
 refine zag (zbg (v := c_v3) zco rfl f9 ?_)
 refine zag (zcl (x := (iw ((iw ((c.Null.length : Int) + (c.NotNull.length : Int))) + (c.Auxiliary.length : Int)))) (y := (c.Ints.length : Int)) (z := (iw ((iw ((iw ((c.Null.length : Int) + (c.NotNull.length : Int))) + (c.Auxiliary.length : Int))) + (c.Ints.length : Int)))) rfl rfl rfl ?_)
 refine zag (zak (q := 4) zay rfl ti26 rfl rfl rfl ?_)
 refine zag (zas (v := c_v4) zbs rfl rfl (hL3.at 0 rfl rfl) rfl ?_)
 have f10 := (c_h4.mono (K4 S))
 refine zag (zbg (v := c_v4) zbs rfl f10 ?_)
 refine zag (zcl (x := (iw ((iw ((iw ((c.Null.length : Int) + (c.NotNull.length : Int))) + (c.Auxiliary.length : Int))) + (c.Ints.length : Int)))) (y := (c.Tests.length : Int)) (z := (iw ((iw ((iw ((iw ((c.Null.length : Int) + (c.NotNull.length : Int))) + (c.Auxiliary.length : Int))) + (c.Ints.length : Int))) + (c.Tests.length : Int)))) rfl rfl rfl ?_)
 refine zag (zak (q := 5) zay rfl ti27 rfl rfl rfl ?_)
 refine zag (zas (v := c_v5) zaz rfl rfl (hL3.at 0 rfl rfl) rfl ?_)
 have f11 := (c_h5.mono (K4 S))
 refine zag (zbg (v := c_v5) zaz rfl f11 ?_)
 refine zag (zcl (x := (iw ((iw ((iw ((iw ((c.Null.length : Int) + (c.NotNull.length : Int))) + (c.Auxiliary.length : Int))) + (c.Ints.length : Int))) + (c.Tests.length : Int)))) (y := (c.Same.length : Int)) (z := (iw ((iw ((iw ((iw ((iw ((c.Null.length : Int) + (c.NotNull.length : Int))) + (c.Auxiliary.length : Int))) + (c.Ints.length : Int))) + (c.Tests.length : Int))) + (c.Same.length : Int)))) rfl rfl rfl ?_)
 refine zag (zak (q := 6) zay rfl ti27 rfl rfl rfl ?_)
 refine zag (zas (v := c_v6) zaz rfl rfl (hL3.at 0 rfl rfl) rfl ?_)
 have f12 := (c_h6.mono (K4 S))
 refine zag (zbg (v := c_v6) zaz rfl f12 ?_)
 refine zag (zcl (x := (iw ((iw ((iw ((iw ((iw ((c.Null.length : Int) + (c.NotNull.length : Int))) + (c.Auxiliary.length : Int))) + (c.Ints.length : Int))) + (c.Tests.length : Int))) + (c.Same.length : Int)))) (y := (c.Different.length : Int)) (z := (iw ((iw ((iw ((iw ((iw ((iw ((c.Null.length : Int) + (c.NotNull.length : Int))) + (c.Auxiliary.length : Int))) + (c.Ints.length : Int))) + (c.Tests.length : Int))) + (c.Same.length : Int))) + (c.Different.length : Int)))) rfl rfl rfl ?_)
 refine zag (zam (v := (zI (iw ((iw ((iw ((iw ((iw ((iw ((c.Null.length : Int) + (c.NotNull.length : Int))) + (c.Auxiliary.length : Int))) + (c.Ints.length : Int))) + (c.Tests.length : Int))) + (c.Same.length : Int))) + (c.Different.length : Int))))) rfl ?_)
 refine zap (zal (zal (zah rfl (zag (zai (v := (zI (iw ((iw ((iw ((iw ((iw ((iw ((c.Null.length : Int) + (c.NotNull.length : Int))) + (c.Auxiliary.length : Int))) + (c.Ints.length : Int))) + (c.Tests.length : Int))) + (c.Same.length : Int))) + (c.Different.length : Int))))) rfl ?_)))))
 refine zag (zej (x := (iw ((iw ((iw ((iw ((iw ((iw ((c.Null.length : Int) + (c.NotNull.length : Int))) + (c.Auxiliary.length : Int))) + (c.Ints.length : Int))) + (c.Tests.length : Int))) + (c.Same.length : Int))) + (c.Different.length : Int)))) (y := 80) (((iw ((iw ((iw ((iw ((iw ((iw ((c.Null.length : Int) + (c.NotNull.length : Int))) + (c.Auxiliary.length : Int))) + (c.Ints.length : Int))) + (c.Tests.length : Int))) + (c.Same.length : Int))) + (c.Different.length : Int))) : Int) > 80) rfl rfl zbd (zap ?_))
 refine zbf (((iw ((iw ((iw ((iw ((iw ((iw ((c.Null.length : Int) + (c.NotNull.length : Int))) + (c.Auxiliary.length : Int))) + (c.Ints.length : Int))) + (c.Tests.length : Int))) + (c.Same.length : Int))) + (c.Different.length : Int))) : Int) > 80) rfl (fun hc10 => ?_) (fun hc10 => ?_)
 ·
  replace h := ite_t hc10 h
  refine zal (zah rfl (zag (zam (v := zF) rfl ?_)))
  refine zap (zbl ?_)
  obtain rfl := zae h
  refine ⟨[zF], zrt, ⟨_, rfl, hL3.done, ?_⟩⟩
  exact zrt
 replace h := ite_f hc10 h
 refine zbk (zal (zal (zah rfl (zag (zam (v := (zI 0)) rfl (zap ?_))))))
 obtain ⟨s10, hl10, g10⟩ := zes h
 refine zce (fun e w' => ∃ (n10 : Int) (u : Env), n10 = s10 ∧ e = upds [(1, (zaj (some ⟨b1, 0, none⟩))), (3, (zI n10))] u ∧ vL w w' [some b1] [zac [c_v, c_v1, c_v2, c_v3, c_v4, c_v5, c_v6]] ∧ Keep w.heap.size [some b1] w2 [some b1] w' ∧ True) ?_ ?_
 ·
  refine zbh ?_
  refine zcr hl10 (fun (ss : (Int × Int)) (e : Env) (w' : World) => match ss with | (n11, i64) => ∃ (u : Env), e = upds [(1, (zaj (some ⟨b1, 0, none⟩))), (3, (zI n11)), (4, (zI i64))] u ∧ vL w w' [some b1] [zac [c_v, c_v1, c_v2, c_v3, c_v4, c_v5, c_v6]] ∧ Keep w.heap.size [some b1] w2 [some b1] w' ∧ True) ⟨_, (zeu ⟨rfl, rfl, rfl, trivial⟩), hL3, zck, trivial⟩ ?_
  rintro ⟨n11, i64⟩ oo _ w10 ⟨u, rfl, hL10, K10, -⟩ h hd10
  rw [sFew_b1] at h
  refine zal (zal (zah rfl (zag (zai (v := (zI i64)) rfl ?_))))
  refine zag (zak (q := 2) zay rfl ti24 rfl rfl rfl ?_)
  refine zag (zas (v := c_v2) zdm rfl rfl (hL10.at 0 rfl rfl) rfl ?_)
  have f13 := (f8.mono (K10 S))
  refine zag (zbg (v := c_v2) zdm rfl f13 ?_)
  refine zag (zcp (x := i64) (y := (c.Auxiliary.length : Int)) ((i64 : Int) < (c.Auxiliary.length : Int)) rfl rfl zbd (zap ?_))
  refine zbf ((i64 : Int) < (c.Auxiliary.length : Int)) rfl (fun hc11 => ?_) (fun hc11 => ?_)
  ·
   replace h := ite_t hc11 h
   refine zbk (zal (zbh (zah rfl (zag (zai (v := (zI n11)) rfl ?_)))))
   refine zag (zak (q := 2) zay rfl ti24 rfl rfl rfl ?_)
   refine zag (zas (v := c_v2) zdm rfl rfl (hL10.at 0 rfl rfl) rfl ?_)
   refine zag (zai (v := (zI i64)) rfl ?_)
   obtain ⟨x10, n12, q11, q12, -, h⟩ := zix h
   obtain ⟨b10, o10, c10, vs10, q13, q14, f14, q15⟩ := zcw f13 q12
   obtain ⟨v10, rfl, k10, -⟩ := rRAux_open q15
   refine zag (zbj (r := rRAux) (v := c_v2) (n := n12) (m := (o10 + n12 * rRAux.sz)) zdm ti104 rfl q13 rfl q11 q12 rfl ?_)
   have f15 := (f14.part (us := [(zI x10.Of.Const), v10]) 0 rfl)
   refine zag (zak (q := (o10 + n12 * rRAux.sz) + 0) zdf rfl ti90 rfl rfl rfl ?_)
   have f16 := (f15.part (us := [v10]) 1 rfl)
   refine zag (zak (q := (o10 + n12 * rRAux.sz) + 0 + 1) zca rfl ti88 rfl rfl rfl ?_)
   refine zag (zby (v := v10) zbp rfl rfl zex f16 ?_)
   refine zag (zbg (v := v10) zbp rfl k10 ?_)
   refine zag (zcl (x := n11) (y := (x10.Of.Coefs.length : Int)) (z := (iw (n11 + (x10.Of.Coefs.length : Int)))) rfl rfl rfl ?_)
   refine zag (zam (v := (zI (iw (n11 + (x10.Of.Coefs.length : Int))))) rfl ?_)
   refine zap (zbu (zah rfl (zag (zai (v := (zI i64)) rfl ?_))))
   refine zag (zcl (x := i64) (y := 1) (z := (iw (i64 + 1))) rfl rfl rfl ?_)
   refine zag (zam (v := (zI (iw (i64 + 1)))) rfl (zap ?_))
   obtain rfl := zae h
   refine zaq ⟨((iw (n11 + (x10.Of.Coefs.length : Int))), (iw (i64 + 1))), rfl, ?_⟩
   exact ⟨_, (zeu ⟨rfl, rfl, rfl, trivial⟩), hL10, K10, trivial⟩
  replace h := ite_f hc11 h
  refine zda rfl ?_
  obtain rfl := zae h
  obtain rfl := hd10 _ rfl
  replace h := g10
  try dsimp only at h
  refine zaq ?_
  exact ⟨n11, _, rfl, (zeu ⟨rfl, rfl, trivial⟩), hL10, K10, trivial⟩
 rintro _ w11 ⟨n10, u, rfl, rfl, hL11, K11, -⟩
 replace h := g10
 try dsimp only at h
 refine zal (zal (zah rfl (zag (zam (v := (zI 0)) rfl (zap ?_)))))
 obtain ⟨s11, hl11, g11⟩ := zes h
 refine zce (fun e w' => ∃ (n13 : Int) (u : Env), n13 = s11 ∧ e = upds [(1, (zaj (some ⟨b1, 0, none⟩))), (3, (zI n13))] u ∧ vL w w' [some b1] [zac [c_v, c_v1, c_v2, c_v3, c_v4, c_v5, c_v6]] ∧ Keep w.heap.size [some b1] w11 [some b1] w' ∧ True) ?_ ?_
 ·
  refine zbh ?_
  refine zcr hl11 (fun (ss : (Int × Int)) (e : Env) (w' : World) => match ss with | (n14, i10) => ∃ (u : Env), e = upds [(1, (zaj (some ⟨b1, 0, none⟩))), (3, (zI n14)), (5, (zI i10))] u ∧ vL w w' [some b1] [zac [c_v, c_v1, c_v2, c_v3, c_v4, c_v5, c_v6]] ∧ Keep w.heap.size [some b1] w11 [some b1] w' ∧ True) ⟨_, (zeu ⟨rfl, rfl, rfl, trivial⟩), hL11, zck, trivial⟩ ?_
  rintro ⟨n14, i10⟩ oo _ w12 ⟨u, rfl, hL12, K12, -⟩ h hd11
  rw [sFew_b2] at h
  refine zal (zal (zah rfl (zag (zai (v := (zI i10)) rfl ?_))))
  refine zag (zak (q := 3) zay rfl ti25 rfl rfl rfl ?_)
  refine zag (zas (v := c_v3) zco rfl rfl (hL12.at 0 rfl rfl) rfl ?_)
  have f17 := ((f9.mono (K11 S)).mono (K12 S))
  refine zag (zbg (v := c_v3) zco rfl f17 ?_)
  refine zag (zcp (x := i10) (y := (c.Ints.length : Int)) ((i10 : Int) < (c.Ints.length : Int)) rfl rfl zbd (zap ?_))
  refine zbf ((i10 : Int) < (c.Ints.length : Int)) rfl (fun hc12 => ?_) (fun hc12 => ?_)
  ·
   replace h := ite_t hc12 h
   refine zbk (zal (zbh (zah rfl (zag (zai (v := (zI n14)) rfl ?_)))))
   refine zag (zak (q := 3) zay rfl ti25 rfl rfl rfl ?_)
   refine zag (zas (v := c_v3) zco rfl rfl (hL12.at 0 rfl rfl) rfl ?_)
   refine zag (zai (v := (zI i10)) rfl ?_)
   obtain ⟨x11, n15, q17, q18, -, h⟩ := zix h
   obtain ⟨b11, o11, c11, vs11, q19, q20, f18, q21⟩ := zcw f17 q18
   obtain ⟨v11, rfl, k11, -⟩ := rConstraint_open q21
   refine zag (zbj (r := rConstraint) (v := c_v3) (n := n15) (m := (o11 + n15 * rConstraint.sz)) zco ti92 rfl q19 rfl q17 q18 rfl ?_)
   have f19 := (f18.part (us := [(zI x11.Linear.Const), v11]) 0 rfl)
   refine zag (zak (q := (o11 + n15 * rConstraint.sz) + 0) zdj rfl ti90 rfl rfl rfl ?_)
   have f20 := (f19.part (us := [v11]) 1 rfl)
   refine zag (zak (q := (o11 + n15 * rConstraint.sz) + 0 + 1) zca rfl ti88 rfl rfl rfl ?_)
   refine zag (zby (v := v11) zbp rfl rfl zex f20 ?_)
   refine zag (zbg (v := v11) zbp rfl k11 ?_)
   refine zag (zcl (x := n14) (y := (x11.Linear.Coefs.length : Int)) (z := (iw (n14 + (x11.Linear.Coefs.length : Int)))) rfl rfl rfl ?_)
   refine zag (zam (v := (zI (iw (n14 + (x11.Linear.Coefs.length : Int))))) rfl ?_)
   refine zap (zbu (zah rfl (zag (zai (v := (zI i10)) rfl ?_))))
   refine zag (zcl (x := i10) (y := 1) (z := (iw (i10 + 1))) rfl rfl rfl ?_)
   refine zag (zam (v := (zI (iw (i10 + 1)))) rfl (zap ?_))
   obtain rfl := zae h
   refine zaq ⟨((iw (n14 + (x11.Linear.Coefs.length : Int))), (iw (i10 + 1))), rfl, ?_⟩
   exact ⟨_, (zeu ⟨rfl, rfl, rfl, trivial⟩), hL12, K12, trivial⟩
  replace h := ite_f hc12 h
  refine zda rfl ?_
  obtain rfl := zae h
  obtain rfl := hd11 _ rfl
  replace h := g11
  try dsimp only at h
  refine zaq ?_
  exact ⟨n14, _, rfl, (zeu ⟨rfl, rfl, trivial⟩), hL12, K12, trivial⟩
 rintro _ w13 ⟨n13, u, rfl, rfl, hL13, K13, -⟩
 replace h := g11
 try dsimp only at h
 refine zal (zal (zah rfl (zag (zam (v := (zI 0)) rfl (zap ?_)))))
 obtain ⟨s12, hl12, g12⟩ := zes h
 refine zce (fun e w' => ∃  (u : Env), (Sum.inl ()) = s12 ∧ e = upds [(3, (zI n13))] u ∧ vL w w' [] [] ∧ Keep w.heap.size [some b1] w13 [] w' ∧ True) ?_ ?_
 ·
  refine zbh ?_
  refine zcr hl12 (fun (ss : Int) (e : Env) (w' : World) => match ss with | i11 => ∃ (u : Env), e = upds [(1, (zaj (some ⟨b1, 0, none⟩))), (3, (zI n13)), (6, (zI i11))] u ∧ vL w w' [some b1] [zac [c_v, c_v1, c_v2, c_v3, c_v4, c_v5, c_v6]] ∧ Keep w.heap.size [some b1] w13 [some b1] w' ∧ True) ⟨_, (zeu ⟨rfl, rfl, rfl, trivial⟩), hL13, zck, trivial⟩ ?_
  rintro i11 oo _ w14 ⟨u, rfl, hL14, K14, -⟩ h hd12
  rw [sFew_b3] at h
  refine zal (zal (zah rfl (zag (zai (v := (zI i11)) rfl ?_))))
  refine zag (zak (q := 4) zay rfl ti26 rfl rfl rfl ?_)
  refine zag (zas (v := c_v4) zbs rfl rfl (hL14.at 0 rfl rfl) rfl ?_)
  have f21 := (((f10.mono (K11 S)).mono (K13 S)).mono (K14 S))
  refine zag (zbg (v := c_v4) zbs rfl f21 ?_)
  refine zag (zcp (x := i11) (y := (c.Tests.length : Int)) ((i11 : Int) < (c.Tests.length : Int)) rfl rfl zbd (zap ?_))
  refine zbf ((i11 : Int) < (c.Tests.length : Int)) rfl (fun hc13 => ?_) (fun hc13 => ?_)
  ·
   replace h := ite_t hc13 h
   refine zbk (zal (zbh (zal (zah rfl (zag (zak (q := 4) zay rfl ti26 rfl rfl rfl ?_))))))
   refine zag (zas (v := c_v4) zbs rfl rfl (hL14.at 0 rfl rfl) rfl ?_)
   refine zag (zai (v := (zI i11)) rfl ?_)
   obtain ⟨x12, n16, q23, q24, -, h⟩ := zix h
   obtain ⟨b12, o12, c12, vs12, q25, q26, f22, q27⟩ := zcw f21 q24
   obtain ⟨rfl, -⟩ := rTTest_open q27
   refine zag (zbj (r := rTTest) (v := c_v4) (n := n16) (m := (o12 + n16 * rTTest.sz)) zbs ti112 rfl q25 rfl q23 q24 rfl ?_)
   have f23 := (f22.part (us := [(zS x12.Text)]) 3 rfl)
   refine zag (zak (q := (o12 + n16 * rTTest.sz) + 3) zct rfl ti9 rfl rfl rfl ?_)
   refine zag (zby (v := (zS x12.Text)) zea rfl rfl zex f23 ?_)
   refine zag (OpY.lenStr zea rfl ?_)
   refine zag (zej (x := (x12.Text.length : Int)) (y := 40) (((x12.Text.length : Int) : Int) > 40) rfl rfl zbd (zap ?_))
   refine zbf (((x12.Text.length : Int) : Int) > 40) rfl (fun hc14 => ?_) (fun hc14 => ?_)
   ·
    replace h := ite_t hc14 h
    refine zal (zah rfl (zag (zam (v := zF) rfl ?_)))
    refine zap (zbl ?_)
    obtain rfl := zae h
    obtain rfl := hd12 _ rfl
    replace h := g12
    try dsimp only at h
    obtain rfl := zae h
    refine ⟨[zF], zrt, ⟨_, rfl, hL14.done, ?_⟩⟩
    exact zrt
   replace h := ite_f hc14 h
   refine zbk (zbu (zah rfl (zag (zai (v := (zI i11)) rfl ?_))))
   refine zag (zcl (x := i11) (y := 1) (z := (iw (i11 + 1))) rfl rfl rfl ?_)
   refine zag (zam (v := (zI (iw (i11 + 1)))) rfl (zap ?_))
   obtain rfl := zae h
   refine zaq ⟨(iw (i11 + 1)), rfl, ?_⟩
   exact ⟨_, (zeu ⟨rfl, rfl, rfl, trivial⟩), hL14, K14, trivial⟩
  replace h := ite_f hc13 h
  refine zda rfl ?_
  have hp10 := hL14.pick [] rfl rfl rfl
  have hL15 : vL w w14 [] [] := hp10.1
  have K15 := ks w hp10.2
  obtain rfl := zae h
  obtain rfl := hd12 _ rfl
  replace h := g12
  try dsimp only at h
  refine zaq ?_
  exact ⟨_, rfl, (zeu zrt), hL15, (zan K14 K15), trivial⟩
 rintro _ w15 ⟨u, rfl, rfl, hL16, K16, -⟩
 replace h := g12
 try dsimp only at h
 refine zal (zah rfl (zag (zai (v := (zI n13)) rfl ?_)))
 refine zag (OpY.leq (x := n13) (y := 400) ((n13 : Int) ≤ 400) rfl rfl zbd ?_)
 refine zag (zam (v := (zab (decide ((n13 : Int) ≤ 400)))) rfl ?_)
 refine zap (zbl ?_)
 obtain rfl := zae h
 refine ⟨[(zab (decide ((n13 : Int) ≤ 400)))], zrt, ⟨_, rfl, hL16.done, ?_⟩⟩
 exact zrt
end Go.Proofs.YtcakdidcpoolcaaGreatDoor.WS

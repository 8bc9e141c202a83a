/- Walks, written by a program of mine (wip/tool); the kernel checks them. -/
import Derived.Test.YtcakdidcpoolcaaGreatDoorProg
import Derived.Test.YtcakdidcpoolcaaGreatDoorSqTexts
import Derived.Test.YtcakdidcpoolcaaGreatDoorF25
import Derived.Test.YtcakdidcpoolcaaGreatDoorPR
import Derived.Test.YtcakdidcpoolcaaGreatDoorWATexts
set_option maxRecDepth 100000
set_option maxHeartbeats 40000000
set_option linter.unusedVariables false
set_option linter.unusedSimpArgs false
namespace Go.Proofs.YtcakdidcpoolcaaGreatDoor.WR
open Go Go.RowKit Go.X Go.D Go.Proofs.YtcakdidcpoolcaaGreatDoor.WF Go.Proofs.YtcakdidcpoolcaaGreatDoor.WA
theorem ti3 : TI Tryz.prog 3 1 8 (zI 0) := zeo (by kernel_rfl)
theorem en110 : Go.X.Enters Tryz.prog 110 := ⟨Tryz.f110, Tryz.func110, by kernel_rfl, by kernel_rfl⟩
theorem ti55 : TI Tryz.prog 55 1 24 zN := zeo (by kernel_rfl)
theorem en80 : Go.X.Enters Tryz.prog 80 := ⟨Tryz.f80, Tryz.func80, by kernel_rfl, by kernel_rfl⟩
theorem rtrim_w (N : Nat) (l : (List Int)) (l_v : Value) (w : World) (S : Nat → Prop) (l_h : Rs rI (vH w S [] w) l_v l) (r : (List Int)) (h : rtrim N l = some r) :
  Calls Tryz.prog 110 #[l_v] w (Ret w (fun v w' => ∃ (v0_0 : Value), v0_0 = v ∧ Rs rI (vH w S [] w') v0_0 r ∧ True)) := by
 unfold rtrim at h
 have hL : vL w w [] [] := Go.X.Loc.begin0 w
 refine calls_of (l := [l_v]) (rl := [.tmp 2]) (n := 21) Tryz.func110 rfl rfl rfl (zaf rfl) ?_
 refine zal (zah rfl (zag (zam (v := zN) rfl ?_)))
 refine zap (zal ?_)
 obtain ⟨s10, hl10, g10⟩ := zes h
 refine zce (fun e w' => ∃ (l10 : (List Int)) (v10 : Value) (u : Env), l10 = s10 ∧ e = upds [(0, v10)] u ∧ vL w w' [] [] ∧ Keep w.heap.size [] w [] w' ∧ Rs rI (vH w S [] w') v10 l10 ∧ True) ?_ ?_
 ·
  refine zbh ?_
  refine zcr hl10 (fun (ss : (List Int)) (e : Env) (w' : World) => match ss with | l11 => ∃ (v11 : Value) (u : Env), e = upds [(0, v11)] u ∧ vL w w' [] [] ∧ Keep w.heap.size [] w [] w' ∧ Rs rI (vH w S [] w') v11 l11 ∧ True) ⟨l_v, _, (zeu zrt), hL, zck, l_h, trivial⟩ ?_
  rintro l11 oo _ w10 ⟨v11, u, rfl, hL10, K10, k10, -⟩ h hd10
  rw [rtrim_b1] at h
  refine zal (zal ?_)
  obtain ⟨s11, h, g11⟩ := zes h
  refine zce (fun e w' => ∃ (x10 : Bool) (u : Env), x10 = s11 ∧ e = upds [(0, v11), (14, (zab x10))] u ∧ vL w w' [] [] ∧ Keep w.heap.size [] w10 [] w' ∧ True) ?_ ?_
  ·
   refine zah rfl (zag (zai (v := v11) rfl ?_))
   refine zag (zbg (v := v11) zaw rfl k10 ?_)
   refine zag (zej (x := (l11.length : Int)) (y := 0) (((l11.length : Int) : Int) > 0) rfl rfl zbd ?_)
   refine zag (zai (v := (zab (decide (((l11.length : Int) : Int) > 0)))) rfl ?_)
   by_cases hc10 : ((l11.length : Int) : Int) > 0
   ·
    replace h := ite_t hc10 h
    refine zba rfl rfl (zeq hc10) (zai (v := v11) rfl ?_)
    refine zba rfl rfl (zeq hc10) (zai (v := v11) rfl ?_)
    refine zba rfl rfl (zeq hc10) (zbg (v := v11) zaw rfl k10 ?_)
    refine zba rfl rfl (zeq hc10) (OpY.sub (x := (l11.length : Int)) (y := 1) (z := (iw ((l11.length : Int) - 1))) rfl rfl rfl ?_)
    obtain ⟨x11, n10, q11, q12, -, h⟩ := zix h
    obtain ⟨b10, o10, c10, vs10, q13, q14, f10, q15⟩ := zcw k10 q12
    obtain rfl := q15
    refine zba rfl rfl (zeq hc10) (zbj (r := rI) (v := v11) (n := n10) (m := (o10 + n10 * rI.sz)) zaw ti3 rfl q13 rfl q11 q12 rfl ?_)
    refine zba rfl rfl (zeq hc10) (zby (v := (zI x11)) zat rfl rfl zex f10 ?_)
    refine zba rfl rfl (zeq hc10) (zeb (x := x11) (y := 0) ((x11 : Int) = 0) rfl rfl zbd ?_)
    refine zag (zbe (t := (decide (((l11.length : Int) : Int) > 0))) (v := (zab (decide ((x11 : Int) = 0)))) rfl (zeq hc10) rfl (zap ?_))
    obtain rfl := zae h
    refine zaq ?_
    exact ⟨(decide ((x11 : Int) = 0)), _, rfl, (zeu ⟨rfl, rfl, trivial⟩), hL10, zck, trivial⟩
   replace h := ite_f hc10 h
   refine zbb rfl rfl (zep hc10) (zbb rfl rfl (zep hc10) (zbb rfl rfl (zep hc10) (zbb rfl rfl (zep hc10) (zbb rfl rfl (zep hc10) (zbb rfl rfl (zep hc10) (zbb rfl rfl (zep hc10) ?_))))))
   refine zag (zbn (t := (decide (((l11.length : Int) : Int) > 0))) (v := zF) rfl (zep hc10) rfl (zap ?_))
   obtain rfl := zae h
   refine zaq ?_
   exact ⟨false, _, rfl, (zeu ⟨rfl, rfl, trivial⟩), hL10, zck, trivial⟩
  rintro _ w11 ⟨x10, u, rfl, rfl, hL11, K11, -⟩
  replace h := g11
  try dsimp only at h
  refine zdd x10 rfl (fun hc11 => ?_) (fun hc11 => ?_)
  ·
   replace h := ite_t hc11 h
   refine zbk (zbh (zah rfl (zag (zai (v := v11) rfl ?_))))
   refine zag (zai (v := v11) rfl ?_)
   have f11 := (k10.mono (K11 S))
   refine zag (zbg (v := v11) zaw rfl f11 ?_)
   refine zag (OpY.sub (x := (l11.length : Int)) (y := 1) (z := (iw ((l11.length : Int) - 1))) rfl rfl rfl ?_)
   obtain ⟨x12, q16, h⟩ := zes h
   obtain ⟨m10, n11, q17, q18, q19, q20, q21⟩ := cut_some q16
   refine zag (OpY.cutRoX (l := m10) (h' := n11) zaw ti3 rfl f11 (.inl ⟨rfl, by omega⟩) (.inr ⟨_, _, rfl, by rw [← q18]; rfl⟩) q19 q20 q21 ?_)
   intro v12 k11
   refine zag (zam (v := v12) rfl ?_)
   refine zap (zbu ?_)
   obtain rfl := zae h
   refine zaq ⟨x12, rfl, ?_⟩
   exact ⟨v12, _, (zeu zrt), hL11, (zan K10 K11), k11, trivial⟩
  replace h := ite_f hc11 h
  refine zda rfl ?_
  have f12 := (k10.mono (K11 S))
  obtain rfl := zae h
  obtain rfl := hd10 _ rfl
  replace h := g10
  try dsimp only at h
  refine zaq ?_
  exact ⟨l11, v11, _, rfl, (zeu zrt), hL11, (zan K10 K11), f12, trivial⟩
 rintro _ w12 ⟨l10, v10, u, rfl, rfl, hL12, K12, k12, -⟩
 replace h := g10
 try dsimp only at h
 refine zal (zah rfl (zag (zai (v := v10) rfl ?_)))
 refine zag (zam (v := v10) rfl ?_)
 refine zap (zbl ?_)
 obtain rfl := zae h
 refine ⟨[v10], zrt, ⟨_, rfl, hL12.done, ?_⟩⟩
 exact ⟨v10, rfl, (k12.mono Hv.out), trivial⟩
theorem rbig_w (N : Nat) (negative : Bool) (l : (List Int)) (l_v : Value) (w : World) (S : Nat → Prop) (l_h : Rs rI (vH w S [] w) l_v l) (r : Big) (h : rbig N negative l = some r) :
  Calls Tryz.prog 80 #[(zab negative), l_v] w (Ret w (fun v w' => ∃ (v0_0 : Value), (zar #[(zab r.Negative), v0_0]) = v ∧ Rs (rInt .u32) (vH w None [] w') v0_0 r.Digits ∧ True)) := by
 unfold rbig at h
 have hL : vL w w [] [] := Go.X.Loc.begin0 w
 refine calls_of (l := [(zab negative), l_v]) (rl := [.cell 4 57]) (n := 49) Tryz.func80 rfl rfl rfl (zaf rfl) ?_
 refine zal (zah rfl (zag (zcj (cs := [zF, zN]) ti57 rfl hL ?_)))
 intro b1 w2 hL3 hS5
 have K4 := ks w hS5
 refine zap (zal (zah rfl (zag (zai (v := l_v) rfl ?_))))
 obtain ⟨r6, q7, h⟩ := zes h
 have f10 := (l_h.mono (K4 S))
 refine zag (zbc en110 rfl rfl (rtrim_w N l l_v _ _ (f10.mono Hv.enter) r6 q7) ?_)
 rintro _ w10 hE10 ⟨v8, rfl, k9, -⟩
 replace k9 := k9.mono (Hv.aliasO (S := S) hL3 [])
 have hL10 := hL3.ext hE10
 refine zag (zam (v := v8) rfl ?_)
 refine zap (zal ?_)
 obtain ⟨s10, h, g10⟩ := zes h
 refine zce (fun e w' => ∃ (negative10 : Bool) (b10 : Nat) (u : Env), negative10 = s10 ∧ e = upds [(1, v8), (4, (zaj (some ⟨b1, 0, none⟩))), (5, (zaj (some ⟨b10, 0, none⟩)))] u ∧ vL w w' [some b1, some b10] [zac [zF, zN], zac [(zab negative10), zN]] ∧ Keep w.heap.size [some b1] w10 [some b1, some b10] w' ∧ True) ?_ ?_
 ·
  refine zah rfl (zag (zai (v := (zab negative)) rfl ?_))
  refine zag (zai (v := (zab negative)) rfl ?_)
  by_cases hc10 : negative = true
  ·
   replace h := ite_t hc10 h
   refine zba rfl rfl hc10 (zai (v := v8) rfl ?_)
   refine zba rfl rfl hc10 (zbg (v := v8) zaw rfl k9 ?_)
   refine zba rfl rfl hc10 (zej (x := (r6.length : Int)) (y := 0) (((r6.length : Int) : Int) > 0) rfl rfl zbd ?_)
   refine zag (zbe (t := negative) (v := (zab (decide (((r6.length : Int) : Int) > 0)))) rfl hc10 rfl ?_)
   refine zag (zcz (zc := [zF, zN]) (cs := [(zab (decide (((r6.length : Int) : Int) > 0))), zN]) (is := [0]) (vs := [(zab (decide (((r6.length : Int) : Int) > 0)))]) (css := [[(zab (decide (((r6.length : Int) : Int) > 0)))]]) pl57 ti57 rfl rfl rfl zrt rfl ?_)
   refine zag (zcj (cs := [zF, zN]) ti57 rfl hL10 ?_)
   intro b11 w11 hL11 hS10
   have K10 := ks w hS10
   refine zcq (zbq (vs := [(zab (decide (((r6.length : Int) : Int) > 0))), zN]) ti57 rfl rfl rfl rfl (zet rfl (zet rfl zew)) hL11 0 rfl rfl (zaf rfl) ?_)
   intro w12 (hL12 : vL w w12 [some b11, some b1] [zac [(zab (decide (((r6.length : Int) : Int) > 0))), zN], zac [zF, zN]]) hS11
   have K11 := ks w hS11
   refine zap ?_
   have hp10 := hL12.pick [1, 0] rfl rfl rfl
   have hL13 : vL w w12 [some b1, some b11] [zac [zF, zN], zac [(zab (decide (((r6.length : Int) : Int) > 0))), zN]] := hp10.1
   have K12 := ks w hp10.2
   obtain rfl := zae h
   refine zaq ?_
   exact ⟨(decide (((r6.length : Int) : Int) > 0)), b11, _, rfl, (zeu ⟨rfl, rfl, rfl, trivial⟩), hL13, (zan (zan K10 K11) K12), trivial⟩
  replace h := ite_f hc10 h
  refine zbb rfl rfl (zer hc10) (zbb rfl rfl (zer hc10) (zbb rfl rfl (zer hc10) ?_))
  refine zag (zbn (t := negative) (v := zF) rfl (zer hc10) rfl ?_)
  refine zag (zcz (zc := [zF, zN]) (cs := [zF, zN]) (is := [0]) (vs := [zF]) (css := [[zF]]) pl57 ti57 rfl rfl rfl zrt rfl ?_)
  refine zag (zcj (cs := [zF, zN]) ti57 rfl hL10 ?_)
  intro b12 w13 hL14 hS12
  have K13 := ks w hS12
  refine zcq (zbq (vs := [zF, zN]) ti57 rfl rfl rfl rfl (zet rfl (zet rfl zew)) hL14 0 rfl rfl (zaf rfl) ?_)
  intro w14 (hL15 : vL w w14 [some b12, some b1] [zac [zF, zN], zac [zF, zN]]) hS13
  have K14 := ks w hS13
  refine zap ?_
  have hp11 := hL15.pick [1, 0] rfl rfl rfl
  have hL16 : vL w w14 [some b1, some b12] [zac [zF, zN], zac [zF, zN]] := hp11.1
  have K15 := ks w hp11.2
  obtain rfl := zae h
  refine zaq ?_
  exact ⟨false, b12, _, rfl, (zeu ⟨rfl, rfl, rfl, trivial⟩), hL16, (zan (zan K13 K14) K15), trivial⟩
 rintro _ w15 ⟨negative10, b10, u, rfl, rfl, hL17, K16, -⟩
 replace h := g10
 try dsimp only at h
 refine zal (zal (zah rfl (zag (zam (v := (zI 0)) rfl (zap ?_)))))
 obtain ⟨s11, hl10, g11⟩ := zes h
 refine zce (fun e w' => ∃ (digits10 : (List Int)) (ob10 : Option Nat) (cap10 : Nat) (sp10 : List Value) (cs10 : List Value) (ln10 : Nat) (u : Env), digits10 = s11 ∧ e = upds [(4, (zaj (some ⟨b1, 0, none⟩))), (5, (zaj (some ⟨b10, 0, none⟩)))] u ∧ vL w w' [some b1, some b10, ob10] [zac [zF, zN], zac [(zab negative10), (osv ob10 0 ln10 cap10)], zac ([] ++ (cs10 ++ sp10))] ∧ Keep w.heap.size [some b1, some b10] w15 [some b1, some b10, ob10] w' ∧ Els (rInt .u32) (vH w None [some b1, some b10, ob10] w') cs10 digits10 ∧ ln10 = List.length digits10 ∧ (cs10 ++ sp10).length = cap10 * (rInt .u32).sz ∧ True) ?_ ?_
 ·
  refine zbh ?_
  have hp12 := hL17.addNil
  have hL18 : vL w w15 [none, some b1, some b10] [zac ([] ++ ([] ++ [])), zac [zF, zN], zac [(zab negative10), zN]] := hp12.1
  have K17 := ks w hp12.2
  have hp13 := hL18.pick [1, 2, 0] rfl rfl rfl
  have hL19 : vL w w15 [some b1, some b10, none] [zac [zF, zN], zac [(zab negative10), (osv none 0 (List.length ([] : (List Int))) 0)], zac ([] ++ ([] ++ []))] := hp13.1
  have K18 := ks w hp13.2
  have f11 := ((zcx (r := (rInt .u32))).mono (K18 None))
  refine zcr hl10 (fun (ss : ((List Int) × Int)) (e : Env) (w' : World) => match ss with | (digits11, i10) => ∃ (ob11 : Option Nat) (cap11 : Nat) (sp11 : List Value) (cs11 : List Value) (ln11 : Nat) (u : Env), e = upds [(1, v8), (4, (zaj (some ⟨b1, 0, none⟩))), (5, (zaj (some ⟨b10, 0, none⟩))), (6, (zI i10))] u ∧ vL w w' [some b1, some b10, ob11] [zac [zF, zN], zac [(zab negative10), (osv ob11 0 ln11 cap11)], zac ([] ++ (cs11 ++ sp11))] ∧ Keep w.heap.size [some b1, some b10] w15 [some b1, some b10, ob11] w' ∧ Els (rInt .u32) (vH w None [some b1, some b10, ob11] w') cs11 digits11 ∧ ln11 = List.length digits11 ∧ (cs11 ++ sp11).length = cap11 * (rInt .u32).sz ∧ True) ⟨none, 0, [], [], (List.length ([] : (List Int))), _, (zeu ⟨rfl, rfl, rfl, rfl, trivial⟩), hL19, (zan K17 K18), f11, rfl, (show ([] ++ [] : List Value).length = 0 * (rInt .u32).sz by simp), trivial⟩ ?_
  rintro ⟨digits11, i10⟩ oo _ w16 ⟨ob11, cap11, sp11, cs11, ln11, u, rfl, hL20, K19, hE11, rfl, hc11, -⟩ h hd10
  rw [rbig_b1] at h
  refine zal (zal (zah rfl (zag (zai (v := (zI i10)) rfl ?_))))
  refine zag (zai (v := v8) rfl ?_)
  have f12 := ((k9.mono (K16 S)).mono (K19 S))
  refine zag (zbg (v := v8) zaw rfl f12 ?_)
  refine zag (zcp (x := i10) (y := (r6.length : Int)) ((i10 : Int) < (r6.length : Int)) rfl rfl zbd (zap ?_))
  refine zbf ((i10 : Int) < (r6.length : Int)) rfl (fun hc12 => ?_) (fun hc12 => ?_)
  ·
   replace h := ite_t hc12 h
   refine zbk (zal (zbh (zal (zah rfl (zag (zai (v := v8) rfl ?_))))))
   refine zag (zai (v := (zI i10)) rfl ?_)
   obtain ⟨x10, n10, q11, q12, -, h⟩ := zix h
   obtain ⟨b13, o10, c10, vs10, q13, q14, f13, q15⟩ := zcw f12 q12
   obtain rfl := q15
   refine zag (zbj (r := rI) (v := v8) (n := n10) (m := (o10 + n10 * rI.sz)) zaw ti3 rfl q13 rfl q11 q12 rfl ?_)
   refine zag (zby (v := (zI x10)) zat rfl rfl zex f13 ?_)
   refine zag (zdr (x := x10) (z := (uw32 x10)) zat zbw rfl rfl ?_)
   refine zag (zam (v := (zaa .u32 (uw32 x10))) rfl ?_)
   refine zap (zal (zal (zah rfl (zag (zai (v := (zI i10)) rfl ?_)))))
   refine zag (zcl (x := i10) (y := 1) (z := (iw (i10 + 1))) rfl rfl rfl ?_)
   refine zag (zai (v := v8) rfl ?_)
   refine zag (zbg (v := v8) zaw rfl f12 ?_)
   refine zag (zcp (x := (iw (i10 + 1))) (y := (r6.length : Int)) (((iw (i10 + 1)) : Int) < (r6.length : Int)) rfl rfl zbd (zap ?_))
   obtain ⟨s12, h, g12⟩ := zes h
   refine zce (fun e w' => ∃ (d10 : Int) (u : Env), d10 = s12 ∧ e = upds [(1, v8), (4, (zaj (some ⟨b1, 0, none⟩))), (5, (zaj (some ⟨b10, 0, none⟩))), (6, (zI i10)), (7, (zaa .u32 d10))] u ∧ vL w w' [some b1, some b10, ob11] [zac [zF, zN], zac [(zab negative10), (zO ob11 digits11 cap11)], zac ([] ++ (cs11 ++ sp11))] ∧ Keep w.heap.size [some b1, some b10, ob11] w16 [some b1, some b10, ob11] w' ∧ True) ?_ ?_
   ·
    refine zbf (((iw (i10 + 1)) : Int) < (r6.length : Int)) rfl (fun hc13 => ?_) (fun hc13 => ?_)
    ·
     replace h := ite_t hc13 h
     refine zah rfl (zag (zai (v := (zaa .u32 (uw32 x10))) rfl ?_))
     refine zag (zai (v := v8) rfl ?_)
     refine zag (zai (v := (zI i10)) rfl ?_)
     refine zag (zcl (x := i10) (y := 1) (z := (iw (i10 + 1))) rfl rfl rfl ?_)
     obtain ⟨x11, n11, q17, q18, -, h⟩ := zix h
     obtain ⟨b14, o11, c11, vs11, q19, q20, f14, q21⟩ := zcw f12 q18
     obtain rfl := q21
     refine zag (zbj (r := rI) (v := v8) (n := n11) (m := (o11 + n11 * rI.sz)) zaw ti3 rfl q19 rfl q17 q18 rfl ?_)
     refine zag (zby (v := (zI x11)) zat rfl rfl zex f14 ?_)
     refine zag (zdr (x := x11) (z := (uw32 x11)) zat zbw rfl rfl ?_)
     refine zag (OpY.mul (x := 65536) (y := (uw32 x11)) (z := (uw32 (65536 * (uw32 x11)))) rfl rfl rfl ?_)
     refine zag (zcl (x := (uw32 x10)) (y := (uw32 (65536 * (uw32 x11)))) (z := (uw32 ((uw32 x10) + (uw32 (65536 * (uw32 x11)))))) rfl rfl rfl ?_)
     refine zag (zam (v := (zaa .u32 (uw32 ((uw32 x10) + (uw32 (65536 * (uw32 x11))))))) rfl (zap ?_))
     obtain rfl := zae h
     refine zaq ?_
     exact ⟨(uw32 ((uw32 x10) + (uw32 (65536 * (uw32 x11))))), _, rfl, (zeu ⟨rfl, rfl, rfl, rfl, rfl, trivial⟩), hL20, zck, trivial⟩
    replace h := ite_f hc13 h
    refine zbk ?_
    obtain rfl := zae h
    refine zaq ?_
    exact ⟨(uw32 x10), _, rfl, (zeu ⟨rfl, rfl, rfl, rfl, rfl, trivial⟩), hL20, zck, trivial⟩
   rintro _ w17 ⟨d10, u, rfl, rfl, hL21, K20, -⟩
   replace h := g12
   try dsimp only at h
   refine zah rfl (zag (zak (q := 1) zav rfl ti55 rfl rfl rfl ?_))
   refine zag (zas (v := (zO ob11 digits11 cap11)) zax rfl rfl (hL21.at 1 rfl rfl) rfl ?_)
   refine zag (zai (v := (zaa .u32 d10)) rfl ?_)
   have hE12 : Els (rInt .u32) (vH w None [some b1, some b10, ob11] w17) [(zaa .u32 d10)] [d10] := (zdg (a := [(zaa .u32 d10)]) rfl zcx)
   refine zag (zcv (r := (rInt .u32)) (vs := [(zaa .u32 d10)]) (css := [[(zaa .u32 d10)]]) (xs := [d10]) zax ti177 (zaf rfl) rfl rfl ⟨rfl, rfl, trivial⟩ (zaf rfl) hE12 rfl hL21 ?_)
   intro b15 w18 hc14 hL22 hS14
   have K21 := ks w hS14
   obtain ⟨x12, q22, h⟩ := zes h
   obtain ⟨q23, q24, q25⟩ := zfb q22
   have f15 := (hE12.mono (K21 None))
   have f16 := ((hE11.mono (K20 None)).mono (K21 None))
   refine zag (zdo (r := (rInt .u32)) (H := (vH w None [some b15, some b1, some b10, ob11] w18)) (cs := cs11) (sp := sp11) (xs := digits11) (ys := [d10]) (Y := x12) (n := digits11.length) (cap := cap11) (i := 3) zax ti177 rfl rfl rfl rfl hL22 rfl rfl f16 rfl hc11 (zeg (pre := []) (o := 0) (n := 1) (cap := 1) (hL22.at 0 rfl rfl) f15 rfl rfl rfl) (zef (fun _ _ _ _ h => h) f15) q23 q24 q25 ?_)
   intro ob12 cap12 sp12 cs12 w19 hE13 hc15 (hL23 : vL w w19 [some b15, some b1, some b10, ob12] [zac ([] ++ ([(zaa .u32 d10)] ++ [])), zac [zF, zN], zac [(zab negative10), (zO ob11 digits11 cap11)], zac ([] ++ (cs12 ++ sp12))]) hS15
   have K22 := ks w hS15
   refine zag (zak (q := 1) zav rfl ti55 rfl rfl rfl ?_)
   refine zcq (zbq (vs := [(zO ob12 x12 cap12)]) ti55 rfl rfl (zfa (zez ob12 0 x12.length cap12)) rfl (zet (zez ob12 0 x12.length cap12) zew) hL23 2 rfl rfl (zaf rfl) ?_)
   intro w20 (hL24 : vL w w20 [some b15, some b1, some b10, ob12] [zac ([] ++ ([(zaa .u32 d10)] ++ [])), zac [zF, zN], zac [(zab negative10), (zO ob12 x12 cap12)], zac ([] ++ (cs12 ++ sp12))]) hS16
   have K23 := ks w hS16
   refine zap (zbu (zah rfl (zag (zai (v := (zI i10)) rfl ?_))))
   refine zag (zcl (x := i10) (y := 2) (z := (iw (i10 + 2))) rfl rfl rfl ?_)
   refine zag (zam (v := (zI (iw (i10 + 2)))) rfl (zap ?_))
   have hp14 := hL24.pick [1, 2, 3] rfl rfl rfl
   have hL25 : vL w w20 [some b1, some b10, ob12] [zac [zF, zN], zac [(zab negative10), (zO ob12 x12 cap12)], zac ([] ++ (cs12 ++ sp12))] := hp14.1
   have K24 := ks w hp14.2
   have f17 := (((hE13.mono (K22 None)).mono (K23 None)).mono (K24 None))
   obtain rfl := zae h
   refine zaq ⟨(x12, (iw (i10 + 2))), rfl, ?_⟩
   exact ⟨ob12, cap12, sp12, cs12, x12.length, _, (zeu ⟨rfl, rfl, rfl, rfl, trivial⟩), hL25, (zan (zan (zan (zan (zan K19 K20) K21) K22) K23) K24), f17, rfl, hc15, trivial⟩
  replace h := ite_f hc12 h
  refine zda rfl ?_
  obtain rfl := zae h
  obtain rfl := hd10 _ rfl
  replace h := g11
  try dsimp only at h
  refine zaq ?_
  exact ⟨digits11, ob11, cap11, sp11, cs11, digits11.length, _, rfl, (zeu ⟨rfl, rfl, trivial⟩), hL20, K19, hE11, rfl, hc11, trivial⟩
 rintro _ w21 ⟨digits10, ob10, cap10, sp10, cs10, ln10, u, rfl, rfl, hL26, K25, hE14, rfl, hc16, -⟩
 replace h := g11
 try dsimp only at h
 refine zal (zah rfl (zag (zbr (vs := [(zab negative10), (zO ob10 digits10 cap10)]) zav rfl ti57 rfl (hL26.at 1 rfl rfl) rfl rfl ?_)))
 refine zcq (zbq (vs := [(zab negative10), (zO ob10 digits10 cap10)]) ti57 rfl rfl rfl rfl (zet rfl (zet (zez _ _ _ _) zew)) hL26 0 rfl rfl (zaf rfl) ?_)
 intro w22 (hL27 : vL w w22 [some b1, some b10, ob10] [zac [(zab negative10), (zO ob10 digits10 cap10)], zac [(zab negative10), (zO ob10 digits10 cap10)], zac ([] ++ (cs10 ++ sp10))]) hS17
 have K26 := ks w hS17
 refine zap ?_
 have f18 := (hE14.mono (K26 None))
 have f19 := hL27.freezeRow 2 rfl rfl f18 rfl rfl rfl hc16
 have hp15 := hL27.pick [0, 1] rfl rfl rfl
 have hL28 : vL w w22 [some b1, some b10] [zac [(zab negative10), (zO ob10 digits10 cap10)], zac [(zab negative10), (zO ob10 digits10 cap10)]] := hp15.1
 refine zbl ?_
 obtain rfl := zae h
 refine ⟨[(zar #[(zab negative10), (zO ob10 digits10 cap10)])], ⟨⟨⟨b1, 0, none⟩, rfl, zfd zav rfl ti57 (hL28.at 0 rfl rfl) rfl⟩, trivial⟩, ⟨_, rfl, hL28.done, ?_⟩⟩
 exact ⟨(zO ob10 digits10 cap10), rfl, (f19.mono Hv.out), trivial⟩
theorem rOf_w (N : Nat) (n : Int)  (w : World) (S : Nat → Prop)  (r : Big) (h : rOf N n = some r) :
  Calls Tryz.prog 52 #[(zI n)] w (Ret w (fun v w' => ∃ (v0_0 : Value), (zar #[(zab r.Negative), v0_0]) = v ∧ Rs (rInt .u32) (vH w None [] w') v0_0 r.Digits ∧ True)) := by
 unfold rOf at h
 have hL : vL w w [] [] := Go.X.Loc.begin0 w
 refine calls_of (l := [(zI n)]) (rl := [.cell 2 57]) (n := 29) Tryz.func52 rfl rfl rfl (zaf rfl) ?_
 refine zal (zah rfl (zag (zcj (cs := [zF, zN]) ti57 rfl hL ?_)))
 intro b1 w2 hL3 hS5
 refine zap (zal (zah rfl (zag (zai (v := (zI n)) rfl ?_))))
 refine zag (zdr (x := n) (z := (uw n)) zcf zcs rfl rfl ?_)
 refine zag (zam (v := (zaa .u64 (uw n))) rfl ?_)
 refine zap (zal (zal (zah rfl (zag (zai (v := (zI n)) rfl ?_)))))
 refine zag (zcp (x := n) (y := 0) ((n : Int) < 0) rfl rfl zbd (zap ?_))
 obtain ⟨s9, h, g10⟩ := zes h
 refine zce (fun e w' => ∃ (u8 : Int) (u : Env), u8 = s9 ∧ e = upds [(0, (zI n)), (2, (zaj (some ⟨b1, 0, none⟩))), (3, (zaa .u64 u8))] u ∧ vL w w' [some b1] [zac [zF, zN]] ∧ Keep w.heap.size [some b1] w2 [some b1] w' ∧ True) ?_ ?_
 ·
  refine zbf ((n : Int) < 0) rfl (fun hc10 => ?_) (fun hc10 => ?_)
  ·
   replace h := ite_t hc10 h
   refine zah rfl (zag (zai (v := (zI n)) rfl ?_))
   refine zag (zcl (x := n) (y := 1) (z := (iw (n + 1))) rfl rfl rfl ?_)
   refine zag (OpY.neg (x := (iw (n + 1))) (z := (iw (0 - (iw (n + 1))))) rfl rfl ?_)
   refine zag (zdr (x := (iw (0 - (iw (n + 1))))) (z := (uw (iw (0 - (iw (n + 1)))))) zcf zcs rfl rfl ?_)
   refine zag (zcl (x := (uw (iw (0 - (iw (n + 1)))))) (y := 1) (z := (uw ((uw (iw (0 - (iw (n + 1))))) + 1))) rfl rfl rfl ?_)
   refine zag (zam (v := (zaa .u64 (uw ((uw (iw (0 - (iw (n + 1))))) + 1)))) rfl (zap ?_))
   obtain rfl := zae h
   refine zaq ?_
   exact ⟨(uw ((uw (iw (0 - (iw (n + 1))))) + 1)), _, rfl, (zeu ⟨rfl, rfl, rfl, trivial⟩), hL3, zck, trivial⟩
  replace h := ite_f hc10 h
  refine zbk ?_
  obtain rfl := zae h
  refine zaq ?_
  exact ⟨(uw n), _, rfl, (zeu ⟨rfl, rfl, rfl, trivial⟩), hL3, zck, trivial⟩
 rintro _ w10 ⟨u8, u, rfl, rfl, hL10, K10, -⟩
 replace h := g10
 try dsimp only at h
 refine zal (zah rfl (zag (OpY.litRow0 zaw ti3 hL10 ?_)))
 intro b10 w11 hL11 hS10
 have hE10 : Els rI (vH w None [some b1] w10) [] [] := zcx
 have K11 := ks w hS10
 refine zag (zam (v := (osv (some b10) 0 (List.length ([] : (List Int))) 0)) rfl ?_)
 refine zap (zal ?_)
 obtain ⟨s10, hl10, g11⟩ := zes h
 refine zce (fun e w' => ∃ (l10 : (List Int)) (ob10 : Option Nat) (cap10 : Nat) (sp10 : List Value) (cs10 : List Value) (ln10 : Nat) (u : Env), l10 = s10 ∧ e = upds [(0, (zI n)), (2, (zaj (some ⟨b1, 0, none⟩))), (4, (osv ob10 0 ln10 cap10))] u ∧ vL w w' [some b1, ob10] [zac [zF, zN], zac ([] ++ (cs10 ++ sp10))] ∧ Keep w.heap.size [some b10, some b1] w11 [some b1, ob10] w' ∧ Els rI (vH w None [some b1, ob10] w') cs10 l10 ∧ ln10 = List.length l10 ∧ (cs10 ++ sp10).length = cap10 * rI.sz ∧ True) ?_ ?_
 ·
  refine zbh ?_
  have hp10 := hL11.pick [1, 0] rfl rfl rfl
  have hL12 : vL w w11 [some b1, some b10] [zac [zF, zN], zac ([] ++ ([] ++ []))] := hp10.1
  have K12 := ks w hp10.2
  have f10 := ((hE10.mono (K11 None)).mono (K12 None))
  refine zcr hl10 (fun (ss : (Int × (List Int))) (e : Env) (w' : World) => match ss with | (u10, l11) => ∃ (ob11 : Option Nat) (cap11 : Nat) (sp11 : List Value) (cs11 : List Value) (ln11 : Nat) (u : Env), e = upds [(0, (zI n)), (2, (zaj (some ⟨b1, 0, none⟩))), (3, (zaa .u64 u10)), (4, (osv ob11 0 ln11 cap11))] u ∧ vL w w' [some b1, ob11] [zac [zF, zN], zac ([] ++ (cs11 ++ sp11))] ∧ Keep w.heap.size [some b10, some b1] w11 [some b1, ob11] w' ∧ Els rI (vH w None [some b1, ob11] w') cs11 l11 ∧ ln11 = List.length l11 ∧ (cs11 ++ sp11).length = cap11 * rI.sz ∧ True) ⟨some b10, 0, [], [], (List.length ([] : (List Int))), _, (zeu ⟨rfl, rfl, rfl, rfl, trivial⟩), hL12, K12, f10, rfl, (show ([] ++ [] : List Value).length = 0 * rI.sz by simp), trivial⟩ ?_
  rintro ⟨u10, l11⟩ oo _ w12 ⟨ob11, cap11, sp11, cs11, ln11, u, rfl, hL13, K13, hE11, rfl, hc11, -⟩ h hd10
  rw [rOf_b1] at h
  refine zal (zal (zah rfl (zag (zai (v := (zaa .u64 u10)) rfl ?_))))
  refine zag (zej (x := u10) (y := 0) ((u10 : Int) > 0) rfl rfl zbd (zap ?_))
  refine zbf ((u10 : Int) > 0) rfl (fun hc12 => ?_) (fun hc12 => ?_)
  ·
   replace h := ite_t hc12 h
   refine zbk (zbh (zal (zah rfl (zag (zai (v := (zO ob11 l11 cap11)) rfl ?_)))))
   refine zag (zai (v := (zaa .u64 u10)) rfl ?_)
   refine zag (OpY.remI (x := u10) (y := 65536) rfl rfl (by decide) ?_)
   refine zag (zdr (x := (Int.tmod u10 65536)) (z := (iw (Int.tmod u10 65536))) zcs zat rfl rfl ?_)
   have hE12 : Els rI (vH w None [some b1, ob11] w12) [(zI (iw (Int.tmod u10 65536)))] [(iw (Int.tmod u10 65536))] := (zdg (a := [(zI (iw (Int.tmod u10 65536)))]) rfl zcx)
   refine zag (zcv (r := rI) (vs := [(zI (iw (Int.tmod u10 65536)))]) (css := [[(zI (iw (Int.tmod u10 65536)))]]) (xs := [(iw (Int.tmod u10 65536))]) zaw ti3 (zaf rfl) rfl rfl ⟨rfl, rfl, trivial⟩ (zaf rfl) hE12 rfl hL13 ?_)
   intro b11 w13 hc13 hL14 hS11
   have K14 := ks w hS11
   obtain ⟨x10, q10, h⟩ := zes h
   obtain ⟨q11, q12, q13⟩ := zfb q10
   have f11 := (hE12.mono (K14 None))
   have f12 := (hE11.mono (K14 None))
   refine zag (zdo (r := rI) (H := (vH w None [some b11, some b1, ob11] w13)) (cs := cs11) (sp := sp11) (xs := l11) (ys := [(iw (Int.tmod u10 65536))]) (Y := x10) (n := l11.length) (cap := cap11) (i := 2) zaw ti3 rfl rfl rfl rfl hL14 rfl rfl f12 rfl hc11 (zeg (pre := []) (o := 0) (n := 1) (cap := 1) (hL14.at 0 rfl rfl) f11 rfl rfl rfl) (zef (fun _ _ _ _ h => h) f11) q11 q12 q13 ?_)
   intro ob12 cap12 sp12 cs12 w14 hE13 hc14 (hL15 : vL w w14 [some b11, some b1, ob12] [zac ([] ++ ([(zI (iw (Int.tmod u10 65536)))] ++ [])), zac [zF, zN], zac ([] ++ (cs12 ++ sp12))]) hS12
   have K15 := ks w hS12
   refine zag (zam (v := (zO ob12 x10 cap12)) rfl ?_)
   refine zap (zah rfl (zag (zai (v := (zaa .u64 u10)) rfl ?_)))
   refine zag (OpY.quoI (x := u10) (y := 65536) (z := (uw (Int.tdiv u10 65536))) rfl rfl (by decide) rfl ?_)
   refine zag (zam (v := (zaa .u64 (uw (Int.tdiv u10 65536)))) rfl ?_)
   refine zap (zbu ?_)
   have hp11 := hL15.pick [1, 2] rfl rfl rfl
   have hL16 : vL w w14 [some b1, ob12] [zac [zF, zN], zac ([] ++ (cs12 ++ sp12))] := hp11.1
   have K16 := ks w hp11.2
   have f13 := ((hE13.mono (K15 None)).mono (K16 None))
   obtain rfl := zae h
   refine zaq ⟨((uw (Int.tdiv u10 65536)), x10), rfl, ?_⟩
   exact ⟨ob12, cap12, sp12, cs12, x10.length, _, (zeu ⟨rfl, rfl, rfl, rfl, trivial⟩), hL16, (zan (zan (zan K13 K14) K15) K16), f13, rfl, hc14, trivial⟩
  replace h := ite_f hc12 h
  refine zda rfl ?_
  obtain rfl := zae h
  obtain rfl := hd10 _ rfl
  replace h := g11
  try dsimp only at h
  refine zaq ?_
  exact ⟨l11, ob11, cap11, sp11, cs11, l11.length, _, rfl, (zeu ⟨rfl, rfl, rfl, trivial⟩), hL13, K13, hE11, rfl, hc11, trivial⟩
 rintro _ w15 ⟨l10, ob10, cap10, sp10, cs10, ln10, u, rfl, rfl, hL17, K17, hE14, rfl, hc15, -⟩
 replace h := g11
 try dsimp only at h
 refine zal (zah rfl (zag (zai (v := (zI n)) rfl ?_)))
 refine zag (zcp (x := n) (y := 0) ((n : Int) < 0) rfl rfl zbd ?_)
 refine zag (zai (v := (zO ob10 l10 cap10)) rfl ?_)
 obtain ⟨r10, q14, h⟩ := zes h
 refine zag (zbc en80 rfl rfl (rbig_w N (decide ((n : Int) < 0)) l10 (zO ob10 l10 cap10) _ Any (zey (pre := []) (o := 0) (n := l10.length) (cap := cap10) (hL17.at 1 rfl rfl) hE14 vw_any rfl rfl rfl hc15) r10 q14) ?_)
 rintro _ w16 hE15 ⟨v10, rfl, k10, -⟩
 replace k10 := k10.mono (zch (S := None) hL17 [])
 have hL18 := hL17.ext hE15
 refine zcq (zbq (vs := [(zab r10.Negative), v10]) ti57 rfl rfl rfl rfl (zet rfl (zet k10.one zew)) hL18 0 rfl rfl (zaf rfl) ?_)
 intro w17 (hL19 : vL w w17 [some b1, ob10] [zac [(zab r10.Negative), v10], zac ([] ++ (cs10 ++ sp10))]) hS13
 have K18 := ks w hS13
 refine zap (zbl ?_)
 obtain rfl := zae h
 refine ⟨[(zar #[(zab r10.Negative), v10])], ⟨⟨⟨b1, 0, none⟩, rfl, zfd zav rfl ti57 (hL19.at 0 rfl rfl) rfl⟩, trivial⟩, ⟨_, rfl, hL19.done, ?_⟩⟩
 have f14 := (k10.mono (K18 None))
 exact ⟨v10, rfl, (f14.mono Hv.out), trivial⟩
end Go.Proofs.YtcakdidcpoolcaaGreatDoor.WR

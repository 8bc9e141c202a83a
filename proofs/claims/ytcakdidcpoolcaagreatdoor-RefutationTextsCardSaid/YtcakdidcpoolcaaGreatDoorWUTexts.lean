/- Walks, written by a program of mine (wip/tool); the kernel checks them. -/
import Derived.Test.YtcakdidcpoolcaaGreatDoorProg
import Derived.Test.YtcakdidcpoolcaaGreatDoorSqTexts
import Derived.Test.YtcakdidcpoolcaaGreatDoorF25
import Derived.Test.YtcakdidcpoolcaaGreatDoorPU
import Derived.Test.YtcakdidcpoolcaaGreatDoorWATexts
import Derived.Test.YtcakdidcpoolcaaGreatDoorWRTexts
import Derived.Test.YtcakdidcpoolcaaGreatDoorWBTexts
import Derived.Test.YtcakdidcpoolcaaGreatDoorWCTexts
import Derived.Test.YtcakdidcpoolcaaGreatDoorWITexts
import Derived.Test.YtcakdidcpoolcaaGreatDoorWSTexts
import Derived.Test.YtcakdidcpoolcaaGreatDoorWVTexts
set_option maxRecDepth 100000
set_option maxHeartbeats 40000000
set_option linter.unusedVariables false
set_option linter.unusedSimpArgs false
namespace Go.Proofs.YtcakdidcpoolcaaGreatDoor.WU
open Go Go.RowKit Go.X Go.D Go.Proofs.YtcakdidcpoolcaaGreatDoor.WF Go.Proofs.YtcakdidcpoolcaaGreatDoor.WA Go.Proofs.YtcakdidcpoolcaaGreatDoor.WR Go.Proofs.YtcakdidcpoolcaaGreatDoor.WB Go.Proofs.YtcakdidcpoolcaaGreatDoor.WC Go.Proofs.YtcakdidcpoolcaaGreatDoor.WI Go.Proofs.YtcakdidcpoolcaaGreatDoor.WS Go.Proofs.YtcakdidcpoolcaaGreatDoor.WV
theorem en46 : Go.X.Enters Tryz.prog 46 := ⟨Tryz.f46, Tryz.func46, by kernel_rfl, by kernel_rfl⟩
theorem ti44 : TI Tryz.prog 44 5 120 (zar #[zN, zN, zN, zN, zN]) := zeo (by kernel_rfl)
theorem en44 : Go.X.Enters Tryz.prog 44 := ⟨Tryz.f44, Tryz.func44, by kernel_rfl, by kernel_rfl⟩
theorem en47 : Go.X.Enters Tryz.prog 47 := ⟨Tryz.f47, Tryz.func47, by kernel_rfl, by kernel_rfl⟩
theorem whigh_w (N : Nat) (l : (List RVar)) (ranges : (List Arr2Int)) (pc : Int) (l_v : Value) (ranges_v : Value) (w : World) (S : Nat → Prop) (l_h : Rs rRVar (vH w S [] w) l_v l) (ranges_h : Rs rArr2Int (vH w S [] w) ranges_v ranges) (r : Int) (h : whigh N l ranges pc = some r) :
  Calls Tryz.prog 44 #[l_v, ranges_v, (zI pc)] w (Ret w (fun v w' => (zI r) = v ∧ True)) := by
 unfold whigh at h
 have hL : vL w w [] [] := Go.X.Loc.begin0 w
 refine calls_of (l := [l_v, ranges_v, (zI pc)]) (rl := [.tmp 6]) (n := 28) Tryz.func44 rfl rfl rfl (zaf rfl) ?_
 refine zal (zah rfl (zag (zam (v := (zI 0)) rfl ?_)))
 refine zap (zal (zal ?_))
 obtain ⟨x1, n3, q4, q5, -, h⟩ := zix h
 obtain ⟨b6, o7, c8, vs9, q10, q11, f10, q12⟩ := zcw ranges_h q5
 obtain ⟨rfl, -⟩ := rArr2Int_open q12
 have f11 := (f10.part (us := [(zI x1.e1)]) 1 rfl)
 obtain ⟨x10, n10, q14, q15, -, h⟩ := zix h
 obtain ⟨b10, o10, c10, vs10, q16, q17, f12, q18⟩ := zcw l_h q15
 obtain ⟨rfl, -⟩ := rRVar_open q18
 have f13 := (f12.part (us := [(zI x10.Max)]) 3 rfl)
 refine zcm 10 [] [] (fun W1 => [.det ranges_v, .det (zI pc), .det (zaj (some ⟨b6, (o7 + n3 * rArr2Int.sz), none⟩)), .det (zaj (some ⟨b6, (o7 + n3 * rArr2Int.sz) + 1, none⟩)), .det (zI x1.e1), .det l_v, .det (zI pc), .det (zaj (some ⟨b10, (o10 + n10 * rRVar.sz), none⟩)), .det (zaj (some ⟨b10, (o10 + n10 * rRVar.sz) + 3, none⟩)), .det (zI x10.Max)]) mixed rfl rfl rfl (fun _ => rfl) (fun _ => rfl) ?_ ?_
 ·
  intro W1 _
  exact trivial
 intro w10 hE10
 obtain ⟨hL10, K10⟩ := zl hL hE10
 refine zao (fun _ _ => zau (zai rfl (er rfl))) ?_
 refine zao (fun _ _ => zau (zai rfl (er rfl))) ?_
 refine zao (fun _ _ => zau (zbj (r := rArr2Int) (v := ranges_v) (n := n3) (m := (o7 + n3 * rArr2Int.sz)) zaz ti54 rfl q10 rfl q4 q5 rfl (er rfl))) ?_
 refine zao (fun _ _ => zau (zcg (i := 1) (q := (o7 + n3 * rArr2Int.sz) + 1) zbv ti3 rfl rfl (by decide) rfl (er rfl))) ?_
 refine zao (fun _ hE15 => zau (zby zat rfl rfl zex (zcd ((ke hL10 hE15) S) (zcd (K10 S) f11)) (er rfl))) ?_
 refine zao (fun _ _ => zau (zai rfl (er rfl))) ?_
 refine zao (fun _ _ => zau (zai rfl (er rfl))) ?_
 refine zao (fun _ _ => zau (zbj (r := rRVar) (v := l_v) (n := n10) (m := (o10 + n10 * rRVar.sz)) zbt ti83 rfl q16 rfl q14 q15 rfl (er rfl))) ?_
 refine zao (fun _ _ => zau (zak zcc rfl ti3 rfl rfl rfl (er rfl))) ?_
 refine zao (fun _ hE20 => zau (zby zat rfl rfl zex (zcd ((ke hL10 hE20) S) (zcd (K10 S) f13)) (er rfl))) ?_
 refine zcy ?_
 rintro w21 Z29 hE21 hZ20 ⟨-⟩ ap10
 have hB10 := @zhb w10 Z29
 obtain ⟨hL11, K13⟩ := zl hL10 hE21
 refine zag (zcp (x := x1.e1) (y := x10.Max) ((x1.e1 : Int) < x10.Max) rfl rfl zbd (zap ?_))
 refine zbf ((x1.e1 : Int) < x10.Max) rfl (fun hc10 => ?_) (fun hc10 => ?_)
 ·
  replace h := ite_t hc10 h
  refine zal (zah rfl (zag (zai (v := ranges_v) rfl ?_)))
  refine zag (zai (v := (zI pc)) rfl ?_)
  obtain ⟨x11, n11, q20, q21, -, h⟩ := zix h
  have f14 := ((ranges_h.mono (K10 S)).mono (K13 S))
  obtain ⟨b11, o11, c11, vs11, q22, q23, f15, q24⟩ := zcw f14 q21
  obtain ⟨rfl, -⟩ := rArr2Int_open q24
  refine zag (zbj (r := rArr2Int) (v := ranges_v) (n := n11) (m := (o11 + n11 * rArr2Int.sz)) zaz ti54 rfl q22 rfl q20 q21 rfl ?_)
  have f16 := (f15.part (us := [(zI x11.e1)]) 1 rfl)
  refine zag (zcg (i := 1) (q := (o11 + n11 * rArr2Int.sz) + 1) zbv ti3 rfl rfl (by decide) rfl ?_)
  refine zag (zby (v := (zI x11.e1)) zat rfl rfl zex f16 ?_)
  refine zag (zam (v := (zI x11.e1)) rfl ?_)
  refine zap (zbl ?_)
  obtain rfl := zae h
  refine ⟨[(zI x11.e1)], zrt, ⟨_, rfl, hL11.done, ?_⟩⟩
  exact zrt
 replace h := ite_f hc10 h
 refine zbk (zal (zah rfl (zag (zai (v := l_v) rfl ?_))))
 refine zag (zai (v := (zI pc)) rfl ?_)
 obtain ⟨x12, n12, q26, q27, -, h⟩ := zix h
 have f17 := ((l_h.mono (K10 S)).mono (K13 S))
 obtain ⟨b12, o12, c12, vs12, q28, q29, f18, q30⟩ := zcw f17 q27
 obtain ⟨rfl, -⟩ := rRVar_open q30
 refine zag (zbj (r := rRVar) (v := l_v) (n := n12) (m := (o12 + n12 * rRVar.sz)) zbt ti83 rfl q28 rfl q26 q27 rfl ?_)
 have f19 := (f18.part (us := [(zI x12.Max)]) 3 rfl)
 refine zag (zak (q := (o12 + n12 * rRVar.sz) + 3) zcc rfl ti3 rfl rfl rfl ?_)
 refine zag (zby (v := (zI x12.Max)) zat rfl rfl zex f19 ?_)
 refine zag (zam (v := (zI x12.Max)) rfl ?_)
 refine zap (zbl ?_)
 obtain rfl := zae h
 refine ⟨[(zI x12.Max)], zrt, ⟨_, rfl, hL11.done, ?_⟩⟩
 exact zrt
theorem wplace_w (N : Nat) (l : (List Int)) (n : Int) (l_v : Value) (w : World) (S : Nat → Prop) (l_h : Rs rI (vH w S [] w) l_v l) (r : Int) (h : wplace N l n = some r) :
  Calls Tryz.prog 46 #[l_v, (zI n)] w (Ret w (fun v w' => (zI r) = v ∧ True)) := by
 unfold wplace at h
 have hL : vL w w [] [] := Go.X.Loc.begin0 w
 refine calls_of (l := [l_v, (zI n)]) (rl := [.tmp 4]) (n := 19) Tryz.func46 rfl rfl rfl (zaf rfl) ?_
 refine zal (zah rfl (zag (zam (v := (zI 0)) rfl ?_)))
 refine zap (zal (zal (zah rfl (zag (zam (v := (zI 0)) rfl (zap ?_))))))
 obtain ⟨s10, hl10, g10⟩ := zes h
 refine zce (fun e w' => ∃  (u : Env), (Sum.inl ()) = s10 ∧ e = upds [] u ∧ vL w w' [] [] ∧ Keep w.heap.size [] w [] w' ∧ True) ?_ ?_
 ·
  refine zbh ?_
  refine zcr hl10 (fun (ss : Int) (e : Env) (w' : World) => match ss with | i10 => ∃ (u : Env), e = upds [(0, l_v), (1, (zI n)), (5, (zI i10))] u ∧ vL w w' [] [] ∧ Keep w.heap.size [] w [] w' ∧ True) ⟨_, (zeu ⟨rfl, rfl, rfl, trivial⟩), hL, zck, trivial⟩ ?_
  rintro i10 oo _ w10 ⟨u, rfl, hL10, K10, -⟩ h hd10
  rw [wplace_b1] at h
  refine zal (zal (zah rfl (zag (zai (v := (zI i10)) rfl ?_))))
  refine zag (zai (v := l_v) rfl ?_)
  have f10 := (l_h.mono (K10 S))
  refine zag (zbg (v := l_v) zaw rfl f10 ?_)
  refine zag (zcp (x := i10) (y := (l.length : Int)) ((i10 : Int) < (l.length : Int)) rfl rfl zbd (zap ?_))
  refine zbf ((i10 : Int) < (l.length : Int)) rfl (fun hc10 => ?_) (fun hc10 => ?_)
  ·
   replace h := ite_t hc10 h
   refine zbk (zal (zbh (zal (zah rfl (zag (zai (v := l_v) rfl ?_))))))
   refine zag (zai (v := (zI i10)) rfl ?_)
   obtain ⟨x10, n10, q11, q12, -, h⟩ := zix h
   obtain ⟨b10, o10, c10, vs10, q13, q14, f11, q15⟩ := zcw f10 q12
   obtain rfl := q15
   refine zag (zbj (r := rI) (v := l_v) (n := n10) (m := (o10 + n10 * rI.sz)) zaw ti3 rfl q13 rfl q11 q12 rfl ?_)
   refine zag (zby (v := (zI x10)) zat rfl rfl zex f11 ?_)
   refine zag (zai (v := (zI n)) rfl ?_)
   refine zag (zeb (x := x10) (y := n) ((x10 : Int) = n) rfl rfl zbd (zap ?_))
   refine zbf ((x10 : Int) = n) rfl (fun hc11 => ?_) (fun hc11 => ?_)
   ·
    replace h := ite_t hc11 h
    refine zal (zah rfl (zag (zai (v := (zI i10)) rfl ?_)))
    refine zag (zam (v := (zI i10)) rfl ?_)
    refine zap (zbl ?_)
    obtain rfl := zae h
    obtain rfl := hd10 _ rfl
    replace h := g10
    try dsimp only at h
    obtain rfl := zae h
    refine ⟨[(zI i10)], zrt, ⟨_, rfl, hL10.done, ?_⟩⟩
    exact zrt
   replace h := ite_f hc11 h
   refine zbk (zbu (zah rfl (zag (zai (v := (zI i10)) rfl ?_))))
   refine zag (zcl (x := i10) (y := 1) (z := (iw (i10 + 1))) rfl rfl rfl ?_)
   refine zag (zam (v := (zI (iw (i10 + 1)))) rfl (zap ?_))
   obtain rfl := zae h
   refine zaq ⟨(iw (i10 + 1)), rfl, ?_⟩
   exact ⟨_, (zeu ⟨rfl, rfl, rfl, trivial⟩), hL10, K10, trivial⟩
  replace h := ite_f hc10 h
  refine zda rfl ?_
  obtain rfl := zae h
  obtain rfl := hd10 _ rfl
  replace h := g10
  try dsimp only at h
  refine zaq ?_
  exact ⟨_, rfl, (zeu trivial), hL10, K10, trivial⟩
 rintro _ w11 ⟨u, rfl, rfl, hL11, K11, -⟩
 replace h := g10
 try dsimp only at h
 refine zal (zah rfl (zag (zam (v := (zI (-1))) rfl ?_)))
 refine zap (zbl ?_)
 obtain rfl := zae h
 refine ⟨[(zI (-1))], zrt, ⟨_, rfl, hL11.done, ?_⟩⟩
 exact zrt
theorem wpairs_w (N : Nat) (p : (List Arr2Int)) (vars : (List Int)) (p_v : Value) (vars_v : Value) (w : World) (S : Nat → Prop) (p_h : Rs rArr2Int (vH w S [] w) p_v p) (vars_h : Rs rI (vH w S [] w) vars_v vars) (r : (List Arr2Int)) (h : wpairs N p vars = some r) :
  Calls Tryz.prog 47 #[p_v, vars_v] w (Ret w (fun v w' => ∃ (ob0 : Option Nat) (cap0 : Nat) (cs0 : List Value) (sp0 : List Value), (zO ob0 r cap0) = v ∧ NewOwn w w' [ob0] [zac ([] ++ (cs0 ++ sp0))] ∧ Els rArr2Int (vH w None [ob0] w') cs0 r ∧ (cs0 ++ sp0).length = cap0 * rArr2Int.sz ∧ True)) := by
 unfold wpairs at h
 have hL : vL w w [] [] := Go.X.Loc.begin0 w
 refine calls_of (l := [p_v, vars_v]) (rl := [.tmp 4]) (n := 32) Tryz.func47 rfl rfl rfl (zaf rfl) ?_
 refine zal (zah rfl (zag (zam (v := zN) rfl ?_)))
 refine zap (zal (zah rfl (zag (zam (v := zN) rfl ?_))))
 refine zap (zal (zal (zah rfl (zag (zam (v := (zI 0)) rfl (zap ?_))))))
 obtain ⟨s10, hl10, g10⟩ := zes h
 refine zce (fun e w' => ∃ (out10 : (List Arr2Int)) (ob10 : Option Nat) (cap10 : Nat) (sp10 : List Value) (cs10 : List Value) (ln10 : Nat) (u : Env), out10 = s10 ∧ e = upds [(5, (osv ob10 0 ln10 cap10))] u ∧ vL w w' [ob10] [zac ([] ++ (cs10 ++ sp10))] ∧ Keep w.heap.size [] w [ob10] w' ∧ Els rArr2Int (vH w None [ob10] w') cs10 out10 ∧ ln10 = List.length out10 ∧ (cs10 ++ sp10).length = cap10 * rArr2Int.sz ∧ True) ?_ ?_
 ·
  refine zbh ?_
  have hp10 := hL.addNil
  have hL10 : vL w w [none] [zac ([] ++ ([] ++ []))] := hp10.1
  have K10 := ks w hp10.2
  refine zcr hl10 (fun (ss : ((List Arr2Int) × Int)) (e : Env) (w' : World) => match ss with | (out11, i10) => ∃ (ob11 : Option Nat) (cap11 : Nat) (sp11 : List Value) (cs11 : List Value) (ln11 : Nat) (u : Env), e = upds [(0, p_v), (1, vars_v), (5, (osv ob11 0 ln11 cap11)), (6, (zI i10))] u ∧ vL w w' [ob11] [zac ([] ++ (cs11 ++ sp11))] ∧ Keep w.heap.size [] w [ob11] w' ∧ Els rArr2Int (vH w None [ob11] w') cs11 out11 ∧ ln11 = List.length out11 ∧ (cs11 ++ sp11).length = cap11 * rArr2Int.sz ∧ True) ⟨none, 0, [], [], (List.length ([] : (List Arr2Int))), _, (zeu ⟨rfl, rfl, rfl, rfl, trivial⟩), hL10, K10, (zcx (r := rArr2Int)), rfl, (show ([] ++ [] : List Value).length = 0 * rArr2Int.sz by simp), trivial⟩ ?_
  rintro ⟨out11, i10⟩ oo _ w10 ⟨ob11, cap11, sp11, cs11, ln11, u, rfl, hL11, K11, hE10, rfl, hc10, -⟩ h hd10
  rw [wpairs_b1] at h
  refine zal (zal (zah rfl (zag (zai (v := (zI i10)) rfl ?_))))
  refine zag (zai (v := p_v) rfl ?_)
  have f10 := (p_h.mono (K11 S))
  refine zag (zbg (v := p_v) zaz rfl f10 ?_)
  refine zag (zcp (x := i10) (y := (p.length : Int)) ((i10 : Int) < (p.length : Int)) rfl rfl zbd (zap ?_))
  refine zbf ((i10 : Int) < (p.length : Int)) rfl (fun hc11 => ?_) (fun hc11 => ?_)
  ·
   replace h := ite_t hc11 h
   refine zbk (zal (zbh ?_))
   obtain ⟨x10, n10, q11, q12, -, h⟩ := zix h
   obtain ⟨b10, o10, c10, vs10, q13, q14, f11, q15⟩ := zcw f10 q12
   obtain ⟨rfl, -⟩ := rArr2Int_open q15
   have f12 := (f11.part (us := [(zI x10.e0)]) 0 rfl)
   obtain ⟨r10, q16, h⟩ := zes h
   obtain ⟨x11, n11, q18, q19, -, h⟩ := zix h
   obtain ⟨b11, o11, c11, vs11, q20, q21, f13, q22⟩ := zcw f10 q19
   obtain ⟨rfl, -⟩ := rArr2Int_open q22
   have f14 := (f13.part (us := [(zI x11.e1)]) 1 rfl)
   obtain ⟨r11, q23, h⟩ := zes h
   refine zcm 17 [] [] (fun W1 => [.det (zO ob11 out11 cap11), .det vars_v, .det p_v, .det (zI i10), .det (zaj (some ⟨b10, (o10 + n10 * rArr2Int.sz), none⟩)), .det (zaj (some ⟨b10, (o10 + n10 * rArr2Int.sz) + 0, none⟩)), .det (zI x10.e0), .det (zI r10), .det vars_v, .det p_v, .det (zI i10), .det (zaj (some ⟨b11, (o11 + n11 * rArr2Int.sz), none⟩)), .det (zaj (some ⟨b11, (o11 + n11 * rArr2Int.sz) + 1, none⟩)), .det (zI x11.e1), .det (zI r11), .det (zar #[(zI r10), (zI r11)]), .rel (fun v Z w' => ∃ b12 cs12, (osv (some b12) 0 1 1) = v ∧ OwnC w' (some b12) (zac ([] ++ (cs12 ++ []))) ∧ Els rArr2Int (vZ W1 w None [ob11] Z w') cs12 [(Arr2Int.mk r10 r11)] ∧ (cs12 ++ [] : List Value).length = 1 * rArr2Int.sz ∧ True) footV]) mixed rfl rfl rfl (fun _ => rfl) (fun _ => rfl) ?_ ?_
   ·
    intro W1 _
    exact ⟨fun v Z Z' w w' hΦ hz _ _ hs => by obtain ⟨b12, cs12, rfl, hO10, hE11, hc12, -⟩ := hΦ; exact ⟨b12, cs12, rfl, (hO10.stay (fun b hb => by cases hb; exact zbi) hs), (hE11.mono (zdt hz hs)), hc12, trivial⟩, trivial⟩
   intro w11 hE12
   obtain ⟨hL12, K12⟩ := zl hL11 hE12
   refine zao (fun _ _ => zau (zai rfl (er rfl))) ?_
   refine zao (fun _ _ => zau (zai rfl (er rfl))) ?_
   refine zao (fun _ _ => zau (zai rfl (er rfl))) ?_
   refine zao (fun _ _ => zau (zai rfl (er rfl))) ?_
   refine zao (fun _ _ => zau (zbj (r := rArr2Int) (v := p_v) (n := n10) (m := (o10 + n10 * rArr2Int.sz)) zaz ti54 rfl q13 rfl q11 q12 rfl (er rfl))) ?_
   refine zao (fun _ _ => zau (zcg (i := 0) (q := (o10 + n10 * rArr2Int.sz) + 0) zbv ti3 rfl rfl (by decide) rfl (er rfl))) ?_
   refine zao (fun _ hE19 => zau (zby zat rfl rfl zex (zcd ((ke hL12 hE19) S) (zcd (K12 S) f12)) (er rfl))) ?_
   refine zen ?_ ?_
   ·
    rintro w19 Z26 hE20 hZ17 ⟨-⟩
    have K14 := ke hL12 hE20
    refine zau (zbc en46 rfl rfl (wplace_w N vars x10.e0 vars_v _ Any ((((vars_h.mono (K11 S)).mono (K12 S)).mono (K14 S)).mono vw_any) r10 q16) ?_)
    rintro _ w20 hE21 ⟨rfl, -⟩
    exact ⟨hE21, rfl⟩
   refine zao (fun _ _ => zau (zai rfl (er rfl))) ?_
   refine zao (fun _ _ => zau (zai rfl (er rfl))) ?_
   refine zao (fun _ _ => zau (zai rfl (er rfl))) ?_
   refine zao (fun _ _ => zau (zbj (r := rArr2Int) (v := p_v) (n := n11) (m := (o11 + n11 * rArr2Int.sz)) zaz ti54 rfl q20 rfl q18 q19 rfl (er rfl))) ?_
   refine zao (fun _ _ => zau (zcg (i := 1) (q := (o11 + n11 * rArr2Int.sz) + 1) zbv ti3 rfl rfl (by decide) rfl (er rfl))) ?_
   refine zao (fun _ hE27 => zau (zby zat rfl rfl zex (zcd ((ke hL12 hE27) S) (zcd (K12 S) f14)) (er rfl))) ?_
   refine zen ?_ ?_
   ·
    rintro w27 Z33 hE28 hZ24 ⟨-⟩
    have K16 := ke hL12 hE28
    refine zau (zbc en46 rfl rfl (wplace_w N vars x11.e1 vars_v _ Any ((((vars_h.mono (K11 S)).mono (K12 S)).mono (K16 S)).mono vw_any) r11 q23) ?_)
    rintro _ w28 hE29 ⟨rfl, -⟩
    exact ⟨hE29, rfl⟩
   refine zao (fun _ _ => zau (OpY.buildArr (zc := [(zI 0), (zI 0)]) (vs := [(zI r10), (zI r11)]) (css := [[(zI r10)], [(zI r11)]]) zbv ti54 rfl ti3 rfl rfl ⟨rfl, rfl, ⟨rfl, rfl, trivial⟩⟩ (er rfl))) ?_
   refine zdw ?_ ?_
   ·
    rintro w30 Z35 hE31 hZ26 ⟨-⟩
    have hE32 : Els rArr2Int (vZ w11 w None [ob11] Z35 w30) [(zI r10), (zI r11)] [(Arr2Int.mk r10 r11)] := (zdg (a := [(zI r10), (zI r11)]) (rArr2Int_close ⟨rfl, trivial⟩) zcx)
    refine zau (zcv (r := rArr2Int) (vs := [(zar #[(zI r10), (zI r11)])]) (css := [[(zI r10), (zI r11)]]) (xs := [(Arr2Int.mk r10 r11)]) zaz ti54 (zaf rfl) rfl rfl ⟨rfl, rfl, trivial⟩ (zaf rfl) hE32 rfl (Go.X.Loc.begin0 w30) ?_)
    intro b12 w31 hc13 hL13 hS10
    have hN10 : NewOwn w30 w31 [some b12] [zac ([] ++ ([(zI r10), (zI r11)] ++ []))] := hL13.newOwn [0] rfl rfl rfl
    exact zdp hL13.done hZ26 hN10 (fun _ h => h) ⟨b12, [(zI r10), (zI r11)], rfl, hN10.2.2.1, (hE32.mono (Zv.grow hL13.done)), hc13, trivial⟩
   intro z10
   refine zcy ?_
   rintro w32 Z36 hE33 hZ27 ⟨⟨⟨b12, cs12, rfl, hO10, hE11, hc12, -⟩, hB10⟩, -⟩ ap10
   have hB11 : ∀ b, some b ∈ ([some b12] : List (Option Nat)) → w11.heap.size ≤ b ∧ ¬ Z36 b := by
    intro b hb
    rcases List.mem_cons.1 hb with hb' | hb
    ·
     have := hB10 b (by rw [hb']; exact zbi); exact ⟨this.1, this.2.2⟩
    cases hb
   replace hE11 := hE11.mono (zed hL12 hZ27 hB11)
   have hN11 : NewOwn w11 w32 [some b12] [zac ([] ++ (cs12 ++ []))] := (zdv zde hO10 (fun b hb => (hB11 b (by rw [← hb]; simp)).1) (fun b _ hb => by cases hb))
   have hp11 := hL12.adoptL hE33 hN11
   have hL14 := hp11.1
   have K17 := ks w hp11.2
   obtain ⟨x12, q24, h⟩ := zes h
   obtain ⟨q25, q26, q27⟩ := zfb q24
   have f15 := ((hE10.mono (K12 None)).mono (K17 None))
   refine zag (zdo (r := rArr2Int) (H := (vH w None [some b12, ob11] w32)) (cs := cs11) (sp := sp11) (xs := out11) (ys := [(Arr2Int.mk r10 r11)]) (Y := x12) (n := out11.length) (cap := cap11) (i := 1) zaz ti54 rfl rfl rfl rfl hL14 rfl rfl f15 rfl hc10 (zeg (pre := []) (o := 0) (n := 1) (cap := 1) (hL14.at 0 rfl rfl) hE11 rfl rfl rfl) (zef (fun _ _ _ _ h => h) hE11) q25 q26 q27 ?_)
   intro ob12 cap12 sp12 cs13 w33 hE34 hc14 (hL15 : vL w w33 [some b12, ob12] [zac ([] ++ (cs12 ++ [])), zac ([] ++ (cs13 ++ sp12))]) hS11
   have K18 := ks w hS11
   refine zag (zam (v := (zO ob12 x12 cap12)) rfl ?_)
   refine zap (zbu (zah rfl (zag (zai (v := (zI i10)) rfl ?_))))
   refine zag (zcl (x := i10) (y := 1) (z := (iw (i10 + 1))) rfl rfl rfl ?_)
   refine zag (zam (v := (zI (iw (i10 + 1)))) rfl (zap ?_))
   have hp12 := hL15.pick [1] rfl rfl rfl
   have hL16 : vL w w33 [ob12] [zac ([] ++ (cs13 ++ sp12))] := hp12.1
   have K19 := ks w hp12.2
   have f16 := ((hE34.mono (K18 None)).mono (K19 None))
   obtain rfl := zae h
   refine zaq ⟨(x12, (iw (i10 + 1))), rfl, ?_⟩
   exact ⟨ob12, cap12, sp12, cs13, x12.length, _, (zeu ⟨rfl, rfl, rfl, rfl, trivial⟩), hL16, (zan (zan (zan (zan K11 K12) K17) K18) K19), f16, rfl, hc14, trivial⟩
  replace h := ite_f hc11 h
  refine zda rfl ?_
  obtain rfl := zae h
  obtain rfl := hd10 _ rfl
  replace h := g10
  try dsimp only at h
  refine zaq ?_
  exact ⟨out11, ob11, cap11, sp11, cs11, out11.length, _, rfl, (zeu zrt), hL11, K11, hE10, rfl, hc10, trivial⟩
 rintro _ w34 ⟨out10, ob10, cap10, sp10, cs10, ln10, u, rfl, rfl, hL17, K20, hE35, rfl, hc15, -⟩
 replace h := g10
 try dsimp only at h
 refine zal (zah rfl (zag (zai (v := (zO ob10 out10 cap10)) rfl ?_)))
 refine zag (zam (v := (zO ob10 out10 cap10)) rfl ?_)
 refine zap (zbl ?_)
 obtain rfl := zae h
 refine ⟨[(zO ob10 out10 cap10)], zrt, ⟨_, rfl, hL17.done, ?_⟩⟩
 exact ⟨ob10, cap10, cs10, sp10, rfl, (hL17.newOwn [0] rfl rfl rfl), (hE35.mono (zdx [0] rfl)), hc15, trivial⟩
theorem wTexts_w (N : Nat) (l : (List RVar)) (c : RClause) (ranges : (List Arr2Int)) (l_v : Value) (c_v : Value) (c_v1 : Value) (c_v2 : Value) (c_v3 : Value) (c_v4 : Value) (c_v5 : Value) (c_v6 : Value) (ranges_v : Value) (w : World) (S : Nat → Prop) (l_h : Rs rRVar (vH w S [] w) l_v l) (c_h : Rs rI (vH w S [] w) c_v c.Null) (c_h1 : Rs rI (vH w S [] w) c_v1 c.NotNull) (c_h2 : Rs rRAux (vH w S [] w) c_v2 c.Auxiliary) (c_h3 : Rs rConstraint (vH w S [] w) c_v3 c.Ints) (c_h4 : Rs rTTest (vH w S [] w) c_v4 c.Tests) (c_h5 : Rs rArr2Int (vH w S [] w) c_v5 c.Same) (c_h6 : Rs rArr2Int (vH w S [] w) c_v6 c.Different) (ranges_h : Rs rArr2Int (vH w S [] w) ranges_v ranges) (r : (TProb × (List Int))) (h : wTexts N l c ranges = some r) :
  Calls Tryz.prog 16 #[l_v, (zar #[c_v, c_v1, c_v2, c_v3, c_v4, c_v5, c_v6]), ranges_v] w (Ret w (fun v w' => ∃ (v0_0 : Value) (v0_1 : Value) (v0_2 : Value) (v0_3 : Value) (v0_4 : Value) (ob1 : Option Nat) (cap1 : Nat) (cs1 : List Value) (sp1 : List Value), .tuple #[(zar #[v0_0, v0_1, v0_2, v0_3, v0_4]), (zO ob1 r.2 cap1)] = v ∧ NewOwn w w' [ob1] [zac ([] ++ (cs1 ++ sp1))] ∧ Rs rI (vH w None [ob1] w') v0_0 r.1.Min ∧ Rs rI (vH w None [ob1] w') v0_1 r.1.Max ∧ Rs rTTest (vH w None [ob1] w') v0_2 r.1.Tests ∧ Rs rArr2Int (vH w None [ob1] w') v0_3 r.1.Same ∧ Rs rArr2Int (vH w None [ob1] w') v0_4 r.1.Different ∧ Els rI (vH w None [ob1] w') cs1 r.2 ∧ (cs1 ++ sp1).length = cap1 * rI.sz ∧ True)) := by
 unfold wTexts at h
 have hL : vL w w [] [] := Go.X.Loc.begin0 w
 refine calls_of (l := [l_v, (zar #[c_v, c_v1, c_v2, c_v3, c_v4, c_v5, c_v6]), ranges_v]) (rl := [.cell 6 44, .tmp 7]) (n := 90) Tryz.func16 rfl rfl rfl (zaf rfl) ?_
 refine zal (zah rfl (zag (zdu (cs := [c_v, c_v1, c_v2, c_v3, c_v4, c_v5, c_v6]) rfl rfl hL ?_)))
 intro b1 w2 hL3 hS5
 have K4 := ks w hS5
 refine zag (zcj (cs := [zN, zN, zN, zN, zN]) ti44 rfl hL3 ?_)
 intro b6 w7 hL8 hS10
 have K9 := ks w hS10
 refine zag (zam (v := zN) rfl ?_)
 refine zap (zal (zah rfl (zag (zcj (cs := [zN, zN, zN, zN, zN]) ti44 rfl hL8 ?_))))
 intro b10 w10 hL10 hS11
 have K10 := ks w hS11
 refine zap (zal (zah rfl (zag (zam (v := zN) rfl ?_))))
 refine zap (zal (zal (zah rfl (zag (zam (v := (zI 0)) rfl (zap ?_))))))
 obtain ⟨s10, hl10, g10⟩ := zes h
 refine zce (fun e w' => ∃ (min10 : (List Int)) (max10 : (List Int)) (vars10 : (List Int)) (ob10 : Option Nat) (cap10 : Nat) (sp10 : List Value) (cs10 : List Value) (ln10 : Nat) (ob11 : Option Nat) (cap11 : Nat) (sp11 : List Value) (cs11 : List Value) (ln11 : Nat) (ob12 : Option Nat) (cap12 : Nat) (sp12 : List Value) (cs12 : List Value) (ln12 : Nat) (u : Env), (min10, max10, vars10) = s10 ∧ e = upds [(4, (zaj (some ⟨b1, 0, none⟩))), (6, (zaj (some ⟨b6, 0, none⟩))), (8, (zaj (some ⟨b10, 0, none⟩))), (9, (osv ob12 0 ln12 cap12))] u ∧ vL w w' [some b1, some b6, some b10, ob10, ob11, ob12] [zac [c_v, c_v1, c_v2, c_v3, c_v4, c_v5, c_v6], zac [zN, zN, zN, zN, zN], zac [(osv ob10 0 ln10 cap10), (osv ob11 0 ln11 cap11), zN, zN, zN], zac ([] ++ (cs10 ++ sp10)), zac ([] ++ (cs11 ++ sp11)), zac ([] ++ (cs12 ++ sp12))] ∧ Keep w.heap.size [some b10, some b6, some b1] w10 [some b1, some b6, some b10, ob10, ob11, ob12] w' ∧ Els rI (vH w None [some b1, some b6, some b10, ob10, ob11, ob12] w') cs10 min10 ∧ ln10 = List.length min10 ∧ (cs10 ++ sp10).length = cap10 * rI.sz ∧ Els rI (vH w None [some b1, some b6, some b10, ob10, ob11, ob12] w') cs11 max10 ∧ ln11 = List.length max10 ∧ (cs11 ++ sp11).length = cap11 * rI.sz ∧ Els rI (vH w None [some b1, some b6, some b10, ob10, ob11, ob12] w') cs12 vars10 ∧ ln12 = List.length vars10 ∧ (cs12 ++ sp12).length = cap12 * rI.sz ∧ True) ?_ ?_
 ·
  refine zbh ?_
  have hp10 := hL10.addNil
  have hL11 : vL w w10 [none, some b10, some b6, some b1] [zac ([] ++ ([] ++ [])), zac [zN, zN, zN, zN, zN], zac [zN, zN, zN, zN, zN], zac [c_v, c_v1, c_v2, c_v3, c_v4, c_v5, c_v6]] := hp10.1
  have K11 := ks w hp10.2
  have hp11 := hL11.addNil
  have hL12 : vL w w10 [none, none, some b10, some b6, some b1] [zac ([] ++ ([] ++ [])), zac ([] ++ ([] ++ [])), zac [zN, zN, zN, zN, zN], zac [zN, zN, zN, zN, zN], zac [c_v, c_v1, c_v2, c_v3, c_v4, c_v5, c_v6]] := hp11.1
  have K12 := ks w hp11.2
  have hp12 := hL12.addNil
  have hL13 : vL w w10 [none, none, none, some b10, some b6, some b1] [zac ([] ++ ([] ++ [])), zac ([] ++ ([] ++ [])), zac ([] ++ ([] ++ [])), zac [(osv none 0 (List.length ([] : (List Int))) 0), (osv none 0 (List.length ([] : (List Int))) 0), zN, zN, zN], zac [zN, zN, zN, zN, zN], zac [c_v, c_v1, c_v2, c_v3, c_v4, c_v5, c_v6]] := hp12.1
  have K13 := ks w hp12.2
  have hp13 := hL13.pick [5, 4, 3, 2, 1, 0] rfl rfl rfl
  have hL14 : vL w w10 [some b1, some b6, some b10, none, none, none] [zac [c_v, c_v1, c_v2, c_v3, c_v4, c_v5, c_v6], zac [zN, zN, zN, zN, zN], zac [(osv none 0 (List.length ([] : (List Int))) 0), (osv none 0 (List.length ([] : (List Int))) 0), zN, zN, zN], zac ([] ++ ([] ++ [])), zac ([] ++ ([] ++ [])), zac ([] ++ ([] ++ []))] := hp13.1
  have K14 := ks w hp13.2
  have f10 := ((((zcx (r := rI)).mono (K12 None)).mono (K13 None)).mono (K14 None))
  have f11 := (((zcx (r := rI)).mono (K13 None)).mono (K14 None))
  have f12 := ((zcx (r := rI)).mono (K14 None))
  refine zcr hl10 (fun (ss : ((List Int) × (List Int) × (List Int) × Int)) (e : Env) (w' : World) => match ss with | (min11, max11, vars11, i10) => ∃ (ob13 : Option Nat) (cap13 : Nat) (sp13 : List Value) (cs13 : List Value) (ln13 : Nat) (ob14 : Option Nat) (cap14 : Nat) (sp14 : List Value) (cs14 : List Value) (ln14 : Nat) (ob15 : Option Nat) (cap15 : Nat) (sp15 : List Value) (cs15 : List Value) (ln15 : Nat) (u : Env), e = upds [(0, l_v), (2, ranges_v), (4, (zaj (some ⟨b1, 0, none⟩))), (6, (zaj (some ⟨b6, 0, none⟩))), (8, (zaj (some ⟨b10, 0, none⟩))), (9, (osv ob15 0 ln15 cap15)), (10, (zI i10))] u ∧ vL w w' [some b1, some b6, some b10, ob13, ob14, ob15] [zac [c_v, c_v1, c_v2, c_v3, c_v4, c_v5, c_v6], zac [zN, zN, zN, zN, zN], zac [(osv ob13 0 ln13 cap13), (osv ob14 0 ln14 cap14), zN, zN, zN], zac ([] ++ (cs13 ++ sp13)), zac ([] ++ (cs14 ++ sp14)), zac ([] ++ (cs15 ++ sp15))] ∧ Keep w.heap.size [some b10, some b6, some b1] w10 [some b1, some b6, some b10, ob13, ob14, ob15] w' ∧ Els rI (vH w None [some b1, some b6, some b10, ob13, ob14, ob15] w') cs13 min11 ∧ ln13 = List.length min11 ∧ (cs13 ++ sp13).length = cap13 * rI.sz ∧ Els rI (vH w None [some b1, some b6, some b10, ob13, ob14, ob15] w') cs14 max11 ∧ ln14 = List.length max11 ∧ (cs14 ++ sp14).length = cap14 * rI.sz ∧ Els rI (vH w None [some b1, some b6, some b10, ob13, ob14, ob15] w') cs15 vars11 ∧ ln15 = List.length vars11 ∧ (cs15 ++ sp15).length = cap15 * rI.sz ∧ True) ⟨none, 0, [], [], (List.length ([] : (List Int))), none, 0, [], [], (List.length ([] : (List Int))), none, 0, [], [], (List.length ([] : (List Int))), _, (zeu ⟨rfl, rfl, rfl, rfl, rfl, rfl, rfl, trivial⟩), hL14, (zan (zan (zan K11 K12) K13) K14), f10, rfl, (show ([] ++ [] : List Value).length = 0 * rI.sz by simp), f11, rfl, (show ([] ++ [] : List Value).length = 0 * rI.sz by simp), f12, rfl, (show ([] ++ [] : List Value).length = 0 * rI.sz by simp), trivial⟩ ?_
  rintro ⟨min11, max11, vars11, i10⟩ oo _ w11 ⟨ob13, cap13, sp13, cs13, ln13, ob14, cap14, sp14, cs14, ln14, ob15, cap15, sp15, cs15, ln15, u, rfl, hL15, K15, hE10, rfl, hc10, hE11, rfl, hc11, hE12, rfl, hc12, -⟩ h hd10
  rw [wTexts_b1] at h
  refine zal (zal (zah rfl (zag (zai (v := (zI i10)) rfl ?_))))
  refine zag (zak (q := 1) zay rfl ti23 rfl rfl rfl ?_)
  refine zag (zas (v := c_v1) zaw rfl rfl (hL15.at 0 rfl rfl) rfl ?_)
  have f13 := ((((c_h1.mono (K4 S)).mono (K9 S)).mono (K10 S)).mono (K15 S))
  refine zag (zbg (v := c_v1) zaw rfl f13 ?_)
  refine zag (zcp (x := i10) (y := (c.NotNull.length : Int)) ((i10 : Int) < (c.NotNull.length : Int)) rfl rfl zbd (zap ?_))
  refine zbf ((i10 : Int) < (c.NotNull.length : Int)) rfl (fun hc13 => ?_) (fun hc13 => ?_)
  ·
   replace h := ite_t hc13 h
   refine zbk (zal (zbh (zal (zah rfl (zag (zak (q := 1) zay rfl ti23 rfl rfl rfl ?_))))))
   refine zag (zas (v := c_v1) zaw rfl rfl (hL15.at 0 rfl rfl) rfl ?_)
   refine zag (zai (v := (zI i10)) rfl ?_)
   obtain ⟨x10, n10, q11, q12, -, h⟩ := zix h
   obtain ⟨b11, o10, c10, vs10, q13, q14, f14, q15⟩ := zcw f13 q12
   obtain rfl := q15
   refine zag (zbj (r := rI) (v := c_v1) (n := n10) (m := (o10 + n10 * rI.sz)) zaw ti3 rfl q13 rfl q11 q12 rfl ?_)
   refine zag (zby (v := (zI x10)) zat rfl rfl zex f14 ?_)
   refine zag (zam (v := (zI x10)) rfl ?_)
   refine zap (zal (zah rfl (zag (zai (v := l_v) rfl ?_))))
   refine zag (zai (v := (zI x10)) rfl ?_)
   obtain ⟨x11, n11, q17, q18, -, h⟩ := zix h
   have f15 := ((((l_h.mono (K4 S)).mono (K9 S)).mono (K10 S)).mono (K15 S))
   obtain ⟨b12, o11, c11, vs11, q19, q20, f16, q21⟩ := zcw f15 q18
   obtain ⟨rfl, -⟩ := rRVar_open q21
   refine zag (zbj (r := rRVar) (v := l_v) (n := n11) (m := (o11 + n11 * rRVar.sz)) zbt ti83 rfl q19 rfl q17 q18 rfl ?_)
   have f17 := (f16.part (us := [(zI x11.Ty)]) 0 rfl)
   refine zag (zak (q := (o11 + n11 * rRVar.sz) + 0) zcc rfl ti3 rfl rfl rfl ?_)
   refine zag (zby (v := (zI x11.Ty)) zat rfl rfl zex f17 ?_)
   refine zag (zeb (x := x11.Ty) (y := 2) ((x11.Ty : Int) = 2) rfl rfl zbd (zap ?_))
   refine zbf ((x11.Ty : Int) = 2) rfl (fun hc14 => ?_) (fun hc14 => ?_)
   ·
    replace h := ite_t hc14 h
    refine zal (zah rfl (zag (zai (v := (zO ob15 vars11 cap15)) rfl ?_)))
    refine zag (zai (v := (zI x10)) rfl ?_)
    have hE13 : Els rI (vH w None [some b1, some b6, some b10, ob13, ob14, ob15] w11) [(zI x10)] [x10] := (zdg (a := [(zI x10)]) rfl zcx)
    refine zag (zcv (r := rI) (vs := [(zI x10)]) (css := [[(zI x10)]]) (xs := [x10]) zaw ti3 (zaf rfl) rfl rfl ⟨rfl, rfl, trivial⟩ (zaf rfl) hE13 rfl hL15 ?_)
    intro b13 w12 hc15 hL16 hS12
    have K16 := ks w hS12
    obtain ⟨x12, q22, h⟩ := zes h
    obtain ⟨q23, q24, q25⟩ := zfb q22
    have f18 := (hE13.mono (K16 None))
    have f19 := (hE12.mono (K16 None))
    refine zag (zdo (r := rI) (H := (vH w None [some b13, some b1, some b6, some b10, ob13, ob14, ob15] w12)) (cs := cs15) (sp := sp15) (xs := vars11) (ys := [x10]) (Y := x12) (n := vars11.length) (cap := cap15) (i := 6) zaw ti3 rfl rfl rfl rfl hL16 rfl rfl f19 rfl hc12 (zeg (pre := []) (o := 0) (n := 1) (cap := 1) (hL16.at 0 rfl rfl) f18 rfl rfl rfl) (zef (fun _ _ _ _ h => h) f18) q23 q24 q25 ?_)
    intro ob16 cap16 sp16 cs16 w13 hE14 hc16 (hL17 : vL w w13 [some b13, some b1, some b6, some b10, ob13, ob14, ob16] [zac ([] ++ ([(zI x10)] ++ [])), zac [c_v, c_v1, c_v2, c_v3, c_v4, c_v5, c_v6], zac [zN, zN, zN, zN, zN], zac [(zO ob13 min11 cap13), (zO ob14 max11 cap14), zN, zN, zN], zac ([] ++ (cs13 ++ sp13)), zac ([] ++ (cs14 ++ sp14)), zac ([] ++ (cs16 ++ sp16))]) hS13
    have K17 := ks w hS13
    refine zag (zam (v := (zO ob16 x12 cap16)) rfl ?_)
    refine zap (zal ?_)
    obtain ⟨x13, n12, q27, q28, -, h⟩ := zix h
    have f20 := ((((((ranges_h.mono (K4 S)).mono (K9 S)).mono (K10 S)).mono (K15 S)).mono (K16 S)).mono (K17 S))
    obtain ⟨b14, o12, c12, vs12, q29, q30, f21, q31⟩ := zcw f20 q28
    obtain ⟨rfl, -⟩ := rArr2Int_open q31
    have f22 := (f21.part (us := [(zI x13.e0)]) 0 rfl)
    refine zcm 8 [] [] (fun W1 => [.det (zaj (some ⟨b10, 0, none⟩)), .det (zO ob13 min11 cap13), .det ranges_v, .det (zI x10), .det (zaj (some ⟨b14, (o12 + n12 * rArr2Int.sz), none⟩)), .det (zaj (some ⟨b14, (o12 + n12 * rArr2Int.sz) + 0, none⟩)), .det (zI x13.e0), .rel (fun v Z w' => ∃ b15 cs17, (osv (some b15) 0 1 1) = v ∧ OwnC w' (some b15) (zac ([] ++ (cs17 ++ []))) ∧ Els rI (vZ W1 w None [some b13, some b1, some b6, some b10, ob13, ob14, ob16] Z w') cs17 [x13.e0] ∧ (cs17 ++ [] : List Value).length = 1 * rI.sz ∧ True) footV]) mixed rfl rfl rfl (fun _ => rfl) (fun _ => rfl) ?_ ?_
    ·
     intro W1 _
     exact ⟨fun v Z Z' w w' hΦ hz _ _ hs => by obtain ⟨b15, cs17, rfl, hO10, hE15, hc17, -⟩ := hΦ; exact ⟨b15, cs17, rfl, (hO10.stay (fun b hb => by cases hb; exact zbi) hs), (hE15.mono (zdt hz hs)), hc17, trivial⟩, trivial⟩
    intro w14 hE16
    obtain ⟨hL18, K18⟩ := zl hL17 hE16
    refine zao (fun _ _ => zau (zak zdh rfl ti23 rfl rfl rfl (er rfl))) ?_
    refine zao (fun _ hE18 => zau (zas zaw rfl rfl ((hL18.ext hE18).at 3 rfl rfl) rfl (er rfl))) ?_
    refine zao (fun _ _ => zau (zai rfl (er rfl))) ?_
    refine zao (fun _ _ => zau (zai rfl (er rfl))) ?_
    refine zao (fun _ _ => zau (zbj (r := rArr2Int) (v := ranges_v) (n := n12) (m := (o12 + n12 * rArr2Int.sz)) zaz ti54 rfl q29 rfl q27 q28 rfl (er rfl))) ?_
    refine zao (fun _ _ => zau (zcg (i := 0) (q := (o12 + n12 * rArr2Int.sz) + 0) zbv ti3 rfl rfl (by decide) rfl (er rfl))) ?_
    refine zao (fun _ hE23 => zau (zby zat rfl rfl zex (zcd ((ke hL18 hE23) S) (zcd (K18 S) f22)) (er rfl))) ?_
    refine zdw ?_ ?_
    ·
     rintro w22 Z26 hE24 hZ17 ⟨-⟩
     have hE25 : Els rI (vZ w14 w None [some b13, some b1, some b6, some b10, ob13, ob14, ob16] Z26 w22) [(zI x13.e0)] [x13.e0] := (zdg (a := [(zI x13.e0)]) rfl zcx)
     refine zau (zcv (r := rI) (vs := [(zI x13.e0)]) (css := [[(zI x13.e0)]]) (xs := [x13.e0]) zaw ti3 (zaf rfl) rfl rfl ⟨rfl, rfl, trivial⟩ (zaf rfl) hE25 rfl (Go.X.Loc.begin0 w22) ?_)
     intro b15 w23 hc18 hL20 hS14
     have hN10 : NewOwn w22 w23 [some b15] [zac ([] ++ ([(zI x13.e0)] ++ []))] := hL20.newOwn [0] rfl rfl rfl
     exact zdp hL20.done hZ17 hN10 (fun _ h => h) ⟨b15, [(zI x13.e0)], rfl, hN10.2.2.1, (hE25.mono (Zv.grow hL20.done)), hc18, trivial⟩
    intro z7
    refine zcy ?_
    rintro w24 Z27 hE26 hZ18 ⟨⟨⟨b15, cs17, rfl, hO10, hE15, hc17, -⟩, hB7⟩, -⟩ ap10
    have hB10 : ∀ b, some b ∈ ([some b15] : List (Option Nat)) → w14.heap.size ≤ b ∧ ¬ Z27 b := by
     intro b hb
     rcases List.mem_cons.1 hb with hb' | hb
     ·
      have := hB7 b (by rw [hb']; exact zbi); exact ⟨this.1, this.2.2⟩
     cases hb
    replace hE15 := hE15.mono (zed hL18 hZ18 hB10)
    have hN11 : NewOwn w14 w24 [some b15] [zac ([] ++ (cs17 ++ []))] := (zdv zde hO10 (fun b hb => (hB10 b (by rw [← hb]; simp)).1) (fun b _ hb => by cases hb))
    have hp14 := hL18.adoptL hE26 hN11
    have hL21 := hp14.1
    have K20 := ks w hp14.2
    obtain ⟨x14, q32, h⟩ := zes h
    obtain ⟨q33, q34, q35⟩ := zfb q32
    have f23 := ((((hE10.mono (K16 None)).mono (K17 None)).mono (K18 None)).mono (K20 None))
    refine zag (zdo (r := rI) (H := (vH w None [some b15, some b13, some b1, some b6, some b10, ob13, ob14, ob16] w24)) (cs := cs13) (sp := sp13) (xs := min11) (ys := [x13.e0]) (Y := x14) (n := min11.length) (cap := cap13) (i := 5) zaw ti3 rfl rfl rfl rfl hL21 rfl rfl f23 rfl hc10 (zeg (pre := []) (o := 0) (n := 1) (cap := 1) (hL21.at 0 rfl rfl) hE15 rfl rfl rfl) (zef (fun _ _ _ _ h => h) hE15) q33 q34 q35 ?_)
    intro ob17 cap17 sp17 cs18 w25 hE27 hc19 (hL22 : vL w w25 [some b15, some b13, some b1, some b6, some b10, ob17, ob14, ob16] [zac ([] ++ (cs17 ++ [])), zac ([] ++ ([(zI x10)] ++ [])), zac [c_v, c_v1, c_v2, c_v3, c_v4, c_v5, c_v6], zac [zN, zN, zN, zN, zN], zac [(zO ob13 min11 cap13), (zO ob14 max11 cap14), zN, zN, zN], zac ([] ++ (cs18 ++ sp17)), zac ([] ++ (cs14 ++ sp14)), zac ([] ++ (cs16 ++ sp16))]) hS15
    have K21 := ks w hS15
    refine zag (zak (q := 0) zdh rfl ti23 rfl rfl rfl ?_)
    refine zcq (zbq (vs := [(zO ob17 x14 cap17)]) ti23 rfl rfl (zfa (zez ob17 0 x14.length cap17)) rfl (zet (zez ob17 0 x14.length cap17) zew) hL22 4 rfl rfl (zaf rfl) ?_)
    intro w26 (hL23 : vL w w26 [some b15, some b13, some b1, some b6, some b10, ob17, ob14, ob16] [zac ([] ++ (cs17 ++ [])), zac ([] ++ ([(zI x10)] ++ [])), zac [c_v, c_v1, c_v2, c_v3, c_v4, c_v5, c_v6], zac [zN, zN, zN, zN, zN], zac [(zO ob17 x14 cap17), (zO ob14 max11 cap14), zN, zN, zN], zac ([] ++ (cs18 ++ sp17)), zac ([] ++ (cs14 ++ sp14)), zac ([] ++ (cs16 ++ sp16))]) hS16
    have K22 := ks w hS16
    refine zap ?_
    obtain ⟨r10, q36, h⟩ := zes h
    refine zcm 7 [] [] (fun W1 => [.det (zaj (some ⟨b10, 1, none⟩)), .det (zO ob14 max11 cap14), .det l_v, .det ranges_v, .det (zI x10), .det (zI r10), .rel (fun v Z w' => ∃ b16 cs19, (osv (some b16) 0 1 1) = v ∧ OwnC w' (some b16) (zac ([] ++ (cs19 ++ []))) ∧ Els rI (vZ W1 w None [some b15, some b13, some b1, some b6, some b10, ob17, ob14, ob16] Z w') cs19 [r10] ∧ (cs19 ++ [] : List Value).length = 1 * rI.sz ∧ True) footV]) mixed rfl rfl rfl (fun _ => rfl) (fun _ => rfl) ?_ ?_
    ·
     intro W1 _
     exact ⟨fun v Z Z' w w' hΦ hz _ _ hs => by obtain ⟨b16, cs19, rfl, hO11, hE28, hc20, -⟩ := hΦ; exact ⟨b16, cs19, rfl, (hO11.stay (fun b hb => by cases hb; exact zbi) hs), (hE28.mono (zdt hz hs)), hc20, trivial⟩, trivial⟩
    intro w27 hE29
    obtain ⟨hL24, K23⟩ := zl hL23 hE29
    refine zao (fun _ _ => zau (zak zdh rfl ti23 rfl rfl rfl (er rfl))) ?_
    refine zao (fun _ hE31 => zau (zas zaw rfl rfl ((hL24.ext hE31).at 4 rfl rfl) rfl (er rfl))) ?_
    refine zao (fun _ _ => zau (zai rfl (er rfl))) ?_
    refine zao (fun _ _ => zau (zai rfl (er rfl))) ?_
    refine zao (fun _ _ => zau (zai rfl (er rfl))) ?_
    refine zen ?_ ?_
    ·
     rintro w33 Z33 hE35 hZ24 ⟨-⟩
     have K24 := ke hL24 hE35
     refine zau (zbc en44 rfl rfl (whigh_w N l ranges x10 l_v ranges_v _ Any (((((((((f15.mono (K16 S)).mono (K17 S)).mono (K18 S)).mono (K20 S)).mono (K21 S)).mono (K22 S)).mono (K23 S)).mono (K24 S)).mono vw_any) (((((((f20.mono (K18 S)).mono (K20 S)).mono (K21 S)).mono (K22 S)).mono (K23 S)).mono (K24 S)).mono vw_any) r10 q36) ?_)
     rintro _ w34 hE36 ⟨rfl, -⟩
     exact ⟨hE36, rfl⟩
    refine zdw ?_ ?_
    ·
     rintro w35 Z34 hE37 hZ25 ⟨-⟩
     have hE38 : Els rI (vZ w27 w None [some b15, some b13, some b1, some b6, some b10, ob17, ob14, ob16] Z34 w35) [(zI r10)] [r10] := (zdg (a := [(zI r10)]) rfl zcx)
     refine zau (zcv (r := rI) (vs := [(zI r10)]) (css := [[(zI r10)]]) (xs := [r10]) zaw ti3 (zaf rfl) rfl rfl ⟨rfl, rfl, trivial⟩ (zaf rfl) hE38 rfl (Go.X.Loc.begin0 w35) ?_)
     intro b16 w36 hc21 hL26 hS17
     have hN12 : NewOwn w35 w36 [some b16] [zac ([] ++ ([(zI r10)] ++ []))] := hL26.newOwn [0] rfl rfl rfl
     exact zdp hL26.done hZ25 hN12 (fun _ h => h) ⟨b16, [(zI r10)], rfl, hN12.2.2.1, (hE38.mono (Zv.grow hL26.done)), hc21, trivial⟩
    intro z6
    refine zcy ?_
    rintro w37 Z35 hE39 hZ26 ⟨⟨⟨b16, cs19, rfl, hO11, hE28, hc20, -⟩, hB6⟩, -⟩ ap11
    have hB11 : ∀ b, some b ∈ ([some b16] : List (Option Nat)) → w27.heap.size ≤ b ∧ ¬ Z35 b := by
     intro b hb
     rcases List.mem_cons.1 hb with hb' | hb
     ·
      have := hB6 b (by rw [hb']; exact zbi); exact ⟨this.1, this.2.2⟩
     cases hb
    replace hE28 := hE28.mono (zed hL24 hZ26 hB11)
    have hN13 : NewOwn w27 w37 [some b16] [zac ([] ++ (cs19 ++ []))] := (zdv zde hO11 (fun b hb => (hB11 b (by rw [← hb]; simp)).1) (fun b _ hb => by cases hb))
    have hp15 := hL24.adoptL hE39 hN13
    have hL27 := hp15.1
    have K25 := ks w hp15.2
    obtain ⟨x15, q37, h⟩ := zes h
    obtain ⟨q38, q39, q40⟩ := zfb q37
    have f24 := ((((((((hE11.mono (K16 None)).mono (K17 None)).mono (K18 None)).mono (K20 None)).mono (K21 None)).mono (K22 None)).mono (K23 None)).mono (K25 None))
    refine zag (zdo (r := rI) (H := (vH w None [some b16, some b15, some b13, some b1, some b6, some b10, ob17, ob14, ob16] w37)) (cs := cs14) (sp := sp14) (xs := max11) (ys := [r10]) (Y := x15) (n := max11.length) (cap := cap14) (i := 7) zaw ti3 rfl rfl rfl rfl hL27 rfl rfl f24 rfl hc11 (zeg (pre := []) (o := 0) (n := 1) (cap := 1) (hL27.at 0 rfl rfl) hE28 rfl rfl rfl) (zef (fun _ _ _ _ h => h) hE28) q38 q39 q40 ?_)
    intro ob18 cap18 sp18 cs20 w38 hE40 hc22 (hL28 : vL w w38 [some b16, some b15, some b13, some b1, some b6, some b10, ob17, ob18, ob16] [zac ([] ++ (cs19 ++ [])), zac ([] ++ (cs17 ++ [])), zac ([] ++ ([(zI x10)] ++ [])), zac [c_v, c_v1, c_v2, c_v3, c_v4, c_v5, c_v6], zac [zN, zN, zN, zN, zN], zac [(zO ob17 x14 cap17), (zO ob14 max11 cap14), zN, zN, zN], zac ([] ++ (cs18 ++ sp17)), zac ([] ++ (cs20 ++ sp18)), zac ([] ++ (cs16 ++ sp16))]) hS18
    have K26 := ks w hS18
    refine zag (zak (q := 1) zdh rfl ti23 rfl rfl rfl ?_)
    refine zcq (zbq (vs := [(zO ob18 x15 cap18)]) ti23 rfl rfl (zfa (zez ob18 0 x15.length cap18)) rfl (zet (zez ob18 0 x15.length cap18) zew) hL28 5 rfl rfl (zaf rfl) ?_)
    intro w39 (hL29 : vL w w39 [some b16, some b15, some b13, some b1, some b6, some b10, ob17, ob18, ob16] [zac ([] ++ (cs19 ++ [])), zac ([] ++ (cs17 ++ [])), zac ([] ++ ([(zI x10)] ++ [])), zac [c_v, c_v1, c_v2, c_v3, c_v4, c_v5, c_v6], zac [zN, zN, zN, zN, zN], zac [(zO ob17 x14 cap17), (zO ob18 x15 cap18), zN, zN, zN], zac ([] ++ (cs18 ++ sp17)), zac ([] ++ (cs20 ++ sp18)), zac ([] ++ (cs16 ++ sp16))]) hS19
    have K27 := ks w hS19
    refine zap (zbu (zah rfl (zag (zai (v := (zI i10)) rfl ?_))))
    refine zag (zcl (x := i10) (y := 1) (z := (iw (i10 + 1))) rfl rfl rfl ?_)
    refine zag (zam (v := (zI (iw (i10 + 1)))) rfl (zap ?_))
    have hp16 := hL29.pick [3, 4, 5, 6, 7, 8] rfl rfl rfl
    have hL30 : vL w w39 [some b1, some b6, some b10, ob17, ob18, ob16] [zac [c_v, c_v1, c_v2, c_v3, c_v4, c_v5, c_v6], zac [zN, zN, zN, zN, zN], zac [(zO ob17 x14 cap17), (zO ob18 x15 cap18), zN, zN, zN], zac ([] ++ (cs18 ++ sp17)), zac ([] ++ (cs20 ++ sp18)), zac ([] ++ (cs16 ++ sp16))] := hp16.1
    have K28 := ks w hp16.2
    have f25 := (((((((hE27.mono (K21 None)).mono (K22 None)).mono (K23 None)).mono (K25 None)).mono (K26 None)).mono (K27 None)).mono (K28 None))
    have f26 := (((hE40.mono (K26 None)).mono (K27 None)).mono (K28 None))
    have f27 := ((((((((((hE14.mono (K17 None)).mono (K18 None)).mono (K20 None)).mono (K21 None)).mono (K22 None)).mono (K23 None)).mono (K25 None)).mono (K26 None)).mono (K27 None)).mono (K28 None))
    obtain rfl := zae h
    refine zaq ⟨(x14, x15, x12, (iw (i10 + 1))), rfl, ?_⟩
    exact ⟨ob17, cap17, sp17, cs18, x14.length, ob18, cap18, sp18, cs20, x15.length, ob16, cap16, sp16, cs16, x12.length, _, (zeu ⟨rfl, rfl, rfl, rfl, rfl, rfl, rfl, trivial⟩), hL30, (zan (zan (zan (zan (zan (zan (zan (zan (zan (zan (zan K15 K16) K17) K18) K20) K21) K22) K23) K25) K26) K27) K28), f25, rfl, hc19, f26, rfl, hc22, f27, rfl, hc16, trivial⟩
   replace h := ite_f hc14 h
   refine zbk (zbu (zah rfl (zag (zai (v := (zI i10)) rfl ?_))))
   refine zag (zcl (x := i10) (y := 1) (z := (iw (i10 + 1))) rfl rfl rfl ?_)
   refine zag (zam (v := (zI (iw (i10 + 1)))) rfl (zap ?_))
   obtain rfl := zae h
   refine zaq ⟨(min11, max11, vars11, (iw (i10 + 1))), rfl, ?_⟩
   exact ⟨ob13, cap13, sp13, cs13, min11.length, ob14, cap14, sp14, cs14, max11.length, ob15, cap15, sp15, cs15, vars11.length, _, (zeu ⟨rfl, rfl, rfl, rfl, rfl, rfl, rfl, trivial⟩), hL15, K15, hE10, rfl, hc10, hE11, rfl, hc11, hE12, rfl, hc12, trivial⟩
  replace h := ite_f hc13 h
  refine zda rfl ?_
  obtain rfl := zae h
  obtain rfl := hd10 _ rfl
  replace h := g10
  try dsimp only at h
  refine zaq ?_
  exact ⟨min11, max11, vars11, ob13, cap13, sp13, cs13, min11.length, ob14, cap14, sp14, cs14, max11.length, ob15, cap15, sp15, cs15, vars11.length, _, rfl, (zeu ⟨rfl, rfl, rfl, rfl, trivial⟩), hL15, K15, hE10, rfl, hc10, hE11, rfl, hc11, hE12, rfl, hc12, trivial⟩
 rintro _ w40 ⟨min10, max10, vars10, ob10, cap10, sp10, cs10, ln10, ob11, cap11, sp11, cs11, ln11, ob12, cap12, sp12, cs12, ln12, u, rfl, rfl, hL31, K29, hE41, rfl, hc23, hE42, rfl, hc24, hE43, rfl, hc25, -⟩
 replace h := g10
 try dsimp only at h
 refine zal (zal (zah rfl (zag (zam (v := (zI 0)) rfl (zap ?_)))))
 obtain ⟨s11, hl11, g11⟩ := zes h
 refine zce (fun e w' => ∃ (tests10 : (List TTest)) (ob19 : Option Nat) (cap19 : Nat) (sp19 : List Value) (cs21 : List Value) (ln16 : Nat) (u : Env), tests10 = s11 ∧ e = upds [(4, (zaj (some ⟨b1, 0, none⟩))), (6, (zaj (some ⟨b6, 0, none⟩))), (8, (zaj (some ⟨b10, 0, none⟩))), (9, (zO ob12 vars10 cap12))] u ∧ vL w w' [some b1, some b6, some b10, ob10, ob11, ob19, ob12] [zac [c_v, c_v1, c_v2, c_v3, c_v4, c_v5, c_v6], zac [zN, zN, zN, zN, zN], zac [(zO ob10 min10 cap10), (zO ob11 max10 cap11), (osv ob19 0 ln16 cap19), zN, zN], zac ([] ++ (cs10 ++ sp10)), zac ([] ++ (cs11 ++ sp11)), zac ([] ++ (cs21 ++ sp19)), zac ([] ++ (cs12 ++ sp12))] ∧ Keep w.heap.size [some b1, some b6, some b10, ob10, ob11, ob12] w40 [some b1, some b6, some b10, ob10, ob11, ob19, ob12] w' ∧ Els rTTest (vH w None [some b1, some b6, some b10, ob10, ob11, ob19, ob12] w') cs21 tests10 ∧ ln16 = List.length tests10 ∧ (cs21 ++ sp19).length = cap19 * rTTest.sz ∧ True) ?_ ?_
 ·
  refine zbh ?_
  have hp17 := hL31.addNil
  have hL32 : vL w w40 [none, some b1, some b6, some b10, ob10, ob11, ob12] [zac ([] ++ ([] ++ [])), zac [c_v, c_v1, c_v2, c_v3, c_v4, c_v5, c_v6], zac [zN, zN, zN, zN, zN], zac [(zO ob10 min10 cap10), (zO ob11 max10 cap11), zN, zN, zN], zac ([] ++ (cs10 ++ sp10)), zac ([] ++ (cs11 ++ sp11)), zac ([] ++ (cs12 ++ sp12))] := hp17.1
  have K30 := ks w hp17.2
  have hp18 := hL32.pick [1, 2, 3, 4, 5, 0, 6] rfl rfl rfl
  have hL33 : vL w w40 [some b1, some b6, some b10, ob10, ob11, none, ob12] [zac [c_v, c_v1, c_v2, c_v3, c_v4, c_v5, c_v6], zac [zN, zN, zN, zN, zN], zac [(zO ob10 min10 cap10), (zO ob11 max10 cap11), (osv none 0 (List.length ([] : (List TTest))) 0), zN, zN], zac ([] ++ (cs10 ++ sp10)), zac ([] ++ (cs11 ++ sp11)), zac ([] ++ ([] ++ [])), zac ([] ++ (cs12 ++ sp12))] := hp18.1
  have K31 := ks w hp18.2
  have f28 := ((zcx (r := rTTest)).mono (K31 None))
  refine zcr hl11 (fun (ss : ((List TTest) × Int)) (e : Env) (w' : World) => match ss with | (tests11, i11) => ∃ (ob20 : Option Nat) (cap20 : Nat) (sp20 : List Value) (cs22 : List Value) (ln17 : Nat) (u : Env), e = upds [(4, (zaj (some ⟨b1, 0, none⟩))), (6, (zaj (some ⟨b6, 0, none⟩))), (8, (zaj (some ⟨b10, 0, none⟩))), (9, (zO ob12 vars10 cap12)), (12, (zI i11))] u ∧ vL w w' [some b1, some b6, some b10, ob10, ob11, ob20, ob12] [zac [c_v, c_v1, c_v2, c_v3, c_v4, c_v5, c_v6], zac [zN, zN, zN, zN, zN], zac [(zO ob10 min10 cap10), (zO ob11 max10 cap11), (osv ob20 0 ln17 cap20), zN, zN], zac ([] ++ (cs10 ++ sp10)), zac ([] ++ (cs11 ++ sp11)), zac ([] ++ (cs22 ++ sp20)), zac ([] ++ (cs12 ++ sp12))] ∧ Keep w.heap.size [some b1, some b6, some b10, ob10, ob11, ob12] w40 [some b1, some b6, some b10, ob10, ob11, ob20, ob12] w' ∧ Els rTTest (vH w None [some b1, some b6, some b10, ob10, ob11, ob20, ob12] w') cs22 tests11 ∧ ln17 = List.length tests11 ∧ (cs22 ++ sp20).length = cap20 * rTTest.sz ∧ True) ⟨none, 0, [], [], (List.length ([] : (List TTest))), _, (zeu ⟨rfl, rfl, rfl, rfl, rfl, trivial⟩), hL33, (zan K30 K31), f28, rfl, (show ([] ++ [] : List Value).length = 0 * rTTest.sz by simp), trivial⟩ ?_
  rintro ⟨tests11, i11⟩ oo _ w41 ⟨ob20, cap20, sp20, cs22, ln17, u, rfl, hL34, K32, hE44, rfl, hc26, -⟩ h hd11
  rw [wTexts_b2] at h
  refine zal (zal (zah rfl (zag (zai (v := (zI i11)) rfl ?_))))
  refine zag (zak (q := 4) zay rfl ti26 rfl rfl rfl ?_)
  refine zag (zas (v := c_v4) zbs rfl rfl (hL34.at 0 rfl rfl) rfl ?_)
  have f29 := (((((c_h4.mono (K4 S)).mono (K9 S)).mono (K10 S)).mono (K29 S)).mono (K32 S))
  refine zag (zbg (v := c_v4) zbs rfl f29 ?_)
  refine zag (zcp (x := i11) (y := (c.Tests.length : Int)) ((i11 : Int) < (c.Tests.length : Int)) rfl rfl zbd (zap ?_))
  refine zbf ((i11 : Int) < (c.Tests.length : Int)) rfl (fun hc27 => ?_) (fun hc27 => ?_)
  ·
   replace h := ite_t hc27 h
   refine zbk (zal (zbh (zal (zah rfl (zag (zak (q := 4) zay rfl ti26 rfl rfl rfl ?_))))))
   refine zag (zas (v := c_v4) zbs rfl rfl (hL34.at 0 rfl rfl) rfl ?_)
   refine zag (zai (v := (zI i11)) rfl ?_)
   obtain ⟨x16, n13, q42, q43, -, h⟩ := zix h
   obtain ⟨b17, o13, c13, vs13, q44, q45, f30, q46⟩ := zcw f29 q43
   obtain ⟨rfl, -⟩ := rTTest_open q46
   refine zag (zbj (r := rTTest) (v := c_v4) (n := n13) (m := (o13 + n13 * rTTest.sz)) zbs ti112 rfl q44 rfl q42 q43 rfl ?_)
   refine zag (zds (vs := [(zI x16.Var), (zI x16.Kind), (zab x16.Negated), (zS x16.Text)]) zct rfl ti112 rfl rfl zex f30 ?_)
   refine zag (zcj (cs := [(zI 0), (zI 0), zF, (zbo (s8 []))]) ti112 rfl hL34 ?_)
   intro b18 w42 hL35 hS20
   have K33 := ks w hS20
   refine zcq (zbq (vs := [(zI x16.Var), (zI x16.Kind), (zab x16.Negated), (zS x16.Text)]) ti112 rfl rfl rfl rfl (zet rfl (zet rfl (zet rfl (zet rfl zew)))) hL35 0 rfl rfl (zaf rfl) ?_)
   intro w43 (hL36 : vL w w43 [some b18, some b1, some b6, some b10, ob10, ob11, ob20, ob12] [zac [(zI x16.Var), (zI x16.Kind), (zab x16.Negated), (zS x16.Text)], zac [c_v, c_v1, c_v2, c_v3, c_v4, c_v5, c_v6], zac [zN, zN, zN, zN, zN], zac [(zO ob10 min10 cap10), (zO ob11 max10 cap11), (zO ob20 tests11 cap20), zN, zN], zac ([] ++ (cs10 ++ sp10)), zac ([] ++ (cs11 ++ sp11)), zac ([] ++ (cs22 ++ sp20)), zac ([] ++ (cs12 ++ sp12))]) hS21
   have K34 := ks w hS21
   refine zap (zal (zah rfl (zag (zai (v := (zO ob12 vars10 cap12)) rfl ?_))))
   refine zag (zak (q := 0) zct rfl ti3 rfl rfl rfl ?_)
   refine zag (zas (v := (zI x16.Var)) zat rfl rfl (hL36.at 0 rfl rfl) rfl ?_)
   obtain ⟨r11, q47, h⟩ := zes h
   have f31 := (((hE43.mono (K32 None)).mono (K33 None)).mono (K34 None))
   refine zag (zbc en46 rfl rfl (wplace_w N vars10 x16.Var (zO ob12 vars10 cap12) _ Any (zey (pre := []) (o := 0) (n := vars10.length) (cap := cap12) (hL36.at 7 rfl rfl) f31 vw_any rfl rfl rfl hc25) r11 q47) ?_)
   rintro _ w44 hE45 ⟨rfl, -⟩
   obtain ⟨hL37, K35⟩ := zl hL36 hE45
   refine zag (zak (q := 0) zct rfl ti3 rfl rfl rfl ?_)
   refine zcq (zbq (vs := [(zI r11)]) ti3 rfl rfl rfl rfl (zet rfl zew) hL37 0 rfl rfl (zaf rfl) ?_)
   intro w45 (hL38 : vL w w45 [some b18, some b1, some b6, some b10, ob10, ob11, ob20, ob12] [zac [(zI r11), (zI x16.Kind), (zab x16.Negated), (zS x16.Text)], zac [c_v, c_v1, c_v2, c_v3, c_v4, c_v5, c_v6], zac [zN, zN, zN, zN, zN], zac [(zO ob10 min10 cap10), (zO ob11 max10 cap11), (zO ob20 tests11 cap20), zN, zN], zac ([] ++ (cs10 ++ sp10)), zac ([] ++ (cs11 ++ sp11)), zac ([] ++ (cs22 ++ sp20)), zac ([] ++ (cs12 ++ sp12))]) hS22
   have K36 := ks w hS22
   refine zap (zah rfl (zag (zak (q := 2) zdh rfl ti26 rfl rfl rfl ?_)))
   refine zag (zas (v := (zO ob20 tests11 cap20)) zbs rfl rfl (hL38.at 3 rfl rfl) rfl ?_)
   refine zag (zbr (vs := [(zI r11), (zI x16.Kind), (zab x16.Negated), (zS x16.Text)]) zct rfl ti112 rfl (hL38.at 0 rfl rfl) rfl rfl ?_)
   have hE46 : Els rTTest (vH w None [some b18, some b1, some b6, some b10, ob10, ob11, ob20, ob12] w45) [(zI r11), (zI x16.Kind), (zab x16.Negated), (zS x16.Text)] [(TTest.mk r11 x16.Kind x16.Negated x16.Text)] := (zdg (a := [(zI r11), (zI x16.Kind), (zab x16.Negated), (zS x16.Text)]) (rTTest_close ⟨rfl, trivial⟩) zcx)
   refine zag (zcv (r := rTTest) (vs := [(zar #[(zI r11), (zI x16.Kind), (zab x16.Negated), (zS x16.Text)])]) (css := [[(zI r11), (zI x16.Kind), (zab x16.Negated), (zS x16.Text)]]) (xs := [(TTest.mk r11 x16.Kind x16.Negated x16.Text)]) zbs ti112 (zaf rfl) rfl rfl ⟨rfl, rfl, trivial⟩ (zaf rfl) hE46 rfl hL38 ?_)
   intro b19 w46 hc28 hL39 hS23
   have K37 := ks w hS23
   obtain ⟨x17, q48, h⟩ := zes h
   obtain ⟨q49, q50, q51⟩ := zfb q48
   have f32 := (hE46.mono (K37 None))
   have f33 := (((((hE44.mono (K33 None)).mono (K34 None)).mono (K35 None)).mono (K36 None)).mono (K37 None))
   refine zag (zdo (r := rTTest) (H := (vH w None [some b19, some b18, some b1, some b6, some b10, ob10, ob11, ob20, ob12] w46)) (cs := cs22) (sp := sp20) (xs := tests11) (ys := [(TTest.mk r11 x16.Kind x16.Negated x16.Text)]) (Y := x17) (n := tests11.length) (cap := cap20) (i := 7) zbs ti112 rfl rfl rfl rfl hL39 rfl rfl f33 rfl hc26 (zeg (pre := []) (o := 0) (n := 1) (cap := 1) (hL39.at 0 rfl rfl) f32 rfl rfl rfl) (zef (fun _ _ _ _ h => h) f32) q49 q50 q51 ?_)
   intro ob21 cap21 sp21 cs23 w47 hE47 hc29 (hL40 : vL w w47 [some b19, some b18, some b1, some b6, some b10, ob10, ob11, ob21, ob12] [zac ([] ++ ([(zI r11), (zI x16.Kind), (zab x16.Negated), (zS x16.Text)] ++ [])), zac [(zI r11), (zI x16.Kind), (zab x16.Negated), (zS x16.Text)], zac [c_v, c_v1, c_v2, c_v3, c_v4, c_v5, c_v6], zac [zN, zN, zN, zN, zN], zac [(zO ob10 min10 cap10), (zO ob11 max10 cap11), (zO ob20 tests11 cap20), zN, zN], zac ([] ++ (cs10 ++ sp10)), zac ([] ++ (cs11 ++ sp11)), zac ([] ++ (cs23 ++ sp21)), zac ([] ++ (cs12 ++ sp12))]) hS24
   have K38 := ks w hS24
   refine zag (zak (q := 2) zdh rfl ti26 rfl rfl rfl ?_)
   refine zcq (zbq (vs := [(zO ob21 x17 cap21)]) ti26 rfl rfl (zfa (zez ob21 0 x17.length cap21)) rfl (zet (zez ob21 0 x17.length cap21) zew) hL40 4 rfl rfl (zaf rfl) ?_)
   intro w48 (hL41 : vL w w48 [some b19, some b18, some b1, some b6, some b10, ob10, ob11, ob21, ob12] [zac ([] ++ ([(zI r11), (zI x16.Kind), (zab x16.Negated), (zS x16.Text)] ++ [])), zac [(zI r11), (zI x16.Kind), (zab x16.Negated), (zS x16.Text)], zac [c_v, c_v1, c_v2, c_v3, c_v4, c_v5, c_v6], zac [zN, zN, zN, zN, zN], zac [(zO ob10 min10 cap10), (zO ob11 max10 cap11), (zO ob21 x17 cap21), zN, zN], zac ([] ++ (cs10 ++ sp10)), zac ([] ++ (cs11 ++ sp11)), zac ([] ++ (cs23 ++ sp21)), zac ([] ++ (cs12 ++ sp12))]) hS25
   have K39 := ks w hS25
   refine zap (zbu (zah rfl (zag (zai (v := (zI i11)) rfl ?_))))
   refine zag (zcl (x := i11) (y := 1) (z := (iw (i11 + 1))) rfl rfl rfl ?_)
   refine zag (zam (v := (zI (iw (i11 + 1)))) rfl (zap ?_))
   have hp19 := hL41.pick [2, 3, 4, 5, 6, 7, 8] rfl rfl rfl
   have hL42 : vL w w48 [some b1, some b6, some b10, ob10, ob11, ob21, ob12] [zac [c_v, c_v1, c_v2, c_v3, c_v4, c_v5, c_v6], zac [zN, zN, zN, zN, zN], zac [(zO ob10 min10 cap10), (zO ob11 max10 cap11), (zO ob21 x17 cap21), zN, zN], zac ([] ++ (cs10 ++ sp10)), zac ([] ++ (cs11 ++ sp11)), zac ([] ++ (cs23 ++ sp21)), zac ([] ++ (cs12 ++ sp12))] := hp19.1
   have K40 := ks w hp19.2
   have f34 := (((hE47.mono (K38 None)).mono (K39 None)).mono (K40 None))
   obtain rfl := zae h
   refine zaq ⟨(x17, (iw (i11 + 1))), rfl, ?_⟩
   exact ⟨ob21, cap21, sp21, cs23, x17.length, _, (zeu ⟨rfl, rfl, rfl, rfl, rfl, trivial⟩), hL42, (zan (zan (zan (zan (zan (zan (zan (zan K32 K33) K34) K35) K36) K37) K38) K39) K40), f34, rfl, hc29, trivial⟩
  replace h := ite_f hc27 h
  refine zda rfl ?_
  obtain rfl := zae h
  obtain rfl := hd11 _ rfl
  replace h := g11
  try dsimp only at h
  refine zaq ?_
  exact ⟨tests11, ob20, cap20, sp20, cs22, tests11.length, _, rfl, (zeu ⟨rfl, rfl, rfl, rfl, trivial⟩), hL34, K32, hE44, rfl, hc26, trivial⟩
 rintro _ w49 ⟨tests10, ob19, cap19, sp19, cs21, ln16, u, rfl, rfl, hL43, K41, hE48, rfl, hc30, -⟩
 replace h := g11
 try dsimp only at h
 refine zal ?_
 obtain ⟨r12, q52, h⟩ := zes h
 obtain ⟨r13, q53, h⟩ := zes h
 refine zcm 9 [] [] (fun W1 => [.det (zaj (some ⟨b1, 5, none⟩)), .det c_v5, .det (zO ob12 vars10 cap12), .rel (fun v Z w' => ∃ ob22 cap22 cs24 sp22, (zO ob22 r12 cap22) = v ∧ OwnC w' ob22 (zac ([] ++ (cs24 ++ sp22))) ∧ Els rArr2Int (vZ W1 w None [some b1, some b6, some b10, ob10, ob11, ob19, ob12] Z w') cs24 r12 ∧ (cs24 ++ sp22 : List Value).length = cap22 * rArr2Int.sz ∧ True) footV, .det (zaj (some ⟨b1, 6, none⟩)), .det c_v6, .det (zO ob12 vars10 cap12), .rel (fun v Z w' => ∃ ob23 cap23 cs25 sp23, (zO ob23 r13 cap23) = v ∧ OwnC w' ob23 (zac ([] ++ (cs25 ++ sp23))) ∧ Els rArr2Int (vZ W1 w None [some b1, some b6, some b10, ob10, ob11, ob19, ob12] Z w') cs25 r13 ∧ (cs25 ++ sp23 : List Value).length = cap23 * rArr2Int.sz ∧ True) footV, .det (zaj (some ⟨b10, 3, none⟩))]) mixed rfl rfl rfl (fun _ => rfl) (fun _ => rfl) ?_ ?_
 ·
  intro W1 _
  exact ⟨fun v Z Z' w w' hΦ hz _ _ hs => by obtain ⟨ob22, cap22, cs24, sp22, rfl, hO12, hE49, hc31, -⟩ := hΦ; exact ⟨ob22, cap22, cs24, sp22, rfl, (hO12.stay (fun b hb => (zfc (ob := ob22) (o := 0) (n := r12.length) (cap := cap22)).2 (by rw [hb]; exact zbi)) hs), (hE49.mono (zdt hz hs)), hc31, trivial⟩, ⟨fun v Z Z' w w' hΦ hz _ _ hs => by obtain ⟨ob23, cap23, cs25, sp23, rfl, hO13, hE50, hc32, -⟩ := hΦ; exact ⟨ob23, cap23, cs25, sp23, rfl, (hO13.stay (fun b hb => (zfc (ob := ob23) (o := 0) (n := r13.length) (cap := cap23)).2 (by rw [hb]; exact zbi)) hs), (hE50.mono (zdt hz hs)), hc32, trivial⟩, trivial⟩⟩
 intro w50 hE51
 obtain ⟨hL44, K42⟩ := zl hL43 hE51
 refine zao (fun _ _ => zau (zak zay rfl ti27 rfl rfl rfl (er rfl))) ?_
 refine zao (fun _ hE53 => zau (zas zaz rfl rfl ((hL44.ext hE53).at 0 rfl rfl) rfl (er rfl))) ?_
 refine zao (fun _ _ => zau (zai rfl (er rfl))) ?_
 refine zdw ?_ ?_
 ·
  rintro w54 Z39 hE55 hZ30 ⟨-⟩
  obtain ⟨hL46, K43⟩ := zl hL44 hE55
  refine zau (zbc en47 rfl rfl (wpairs_w N c.Same vars10 c_v5 (zO ob12 vars10 cap12) _ Any ((((((((c_h5.mono (K4 S)).mono (K9 S)).mono (K10 S)).mono (K29 S)).mono (K41 S)).mono (K42 S)).mono (K43 S)).mono vw_any) (zey (pre := []) (o := 0) (n := vars10.length) (cap := cap12) (hL46.at 6 rfl rfl) (((hE43.mono (K41 None)).mono (K42 None)).mono (K43 None)) vw_any rfl rfl rfl hc25) r12 q52) ?_)
  rintro _ w55 hE56 ⟨ob22, cap22, cs24, sp22, rfl, hN14, hE49, hc31, -⟩
  exact zdp hE56 hZ30 hN14 (fun b hb => footV_osv.1 hb) ⟨ob22, cap22, cs24, sp22, rfl, hN14.2.2.1, (hE49.mono zec), hc31, trivial⟩
 intro z3
 refine zao (fun _ _ => zau (zak zay rfl ti27 rfl rfl rfl (er rfl))) ?_
 refine zao (fun _ hE58 => zau (zas zaz rfl rfl ((hL44.ext hE58).at 0 rfl rfl) rfl (er rfl))) ?_
 refine zao (fun _ _ => zau (zai rfl (er rfl))) ?_
 refine zdw ?_ ?_
 ·
  rintro w59 Z43 hE60 hZ34 ⟨⟨⟨ob22, cap22, cs24, sp22, rfl, hO12, hE49, hc31, -⟩, hB3⟩, -⟩
  obtain ⟨hL48, K44⟩ := zl hL44 hE60
  refine zau (zbc en47 rfl rfl (wpairs_w N c.Different vars10 c_v6 (zO ob12 vars10 cap12) _ Any ((((((((c_h6.mono (K4 S)).mono (K9 S)).mono (K10 S)).mono (K29 S)).mono (K41 S)).mono (K42 S)).mono (K44 S)).mono vw_any) (zey (pre := []) (o := 0) (n := vars10.length) (cap := cap12) (hL48.at 6 rfl rfl) (((hE43.mono (K41 None)).mono (K42 None)).mono (K44 None)) vw_any rfl rfl rfl hc25) r13 q53) ?_)
  rintro _ w60 hE61 ⟨ob23, cap23, cs25, sp23, rfl, hN15, hE50, hc32, -⟩
  exact zdp hE61 hZ34 hN15 (fun b hb => footV_osv.1 hb) ⟨ob23, cap23, cs25, sp23, rfl, hN15.2.2.1, (hE50.mono zec), hc32, trivial⟩
 intro z7
 refine zen ?_ ?_
 ·
  rintro w61 Z44 hE62 hZ35 ⟨-, ⟨⟨ob22, cap22, cs24, sp22, rfl, hO12, hE49, hc31, -⟩, hB3⟩, -⟩
  refine zau (zak (q := 3) zdh rfl ti27 rfl rfl rfl ?_)
  exact ⟨Ext.refl _, rfl⟩
 refine zcy ?_
 rintro w62 Z45 hE63 hZ36 ⟨⟨⟨ob23, cap23, cs25, sp23, rfl, hO13, hE50, hc32, -⟩, hB7⟩, ⟨⟨ob22, cap22, cs24, sp22, rfl, hO12, hE49, hc31, -⟩, hB3⟩, -⟩ ap12
 have hB12 : ∀ b, some b ∈ ([ob23, ob22] : List (Option Nat)) → w50.heap.size ≤ b ∧ ¬ Z45 b := by
  intro b hb
  rcases List.mem_cons.1 hb with hb' | hb
  ·
   have := hB7 b ((zfc (ob := ob23) (o := 0) (n := r13.length) (cap := cap23)).2 (by rw [hb']; exact zbi)); exact ⟨this.1, this.2.2⟩
  rcases List.mem_cons.1 hb with hb' | hb
  ·
   have := hB3 b ((zfc (ob := ob22) (o := 0) (n := r12.length) (cap := cap22)).2 (by rw [hb']; exact zbi)); exact ⟨this.1, this.2.2⟩
  cases hb
 replace hE50 := hE50.mono (zed hL44 hZ36 hB12)
 replace hE49 := hE49.mono (zed hL44 hZ36 hB12)
 have hN16 : NewOwn w50 w62 [ob23, ob22] [zac ([] ++ (cs25 ++ sp23)), zac ([] ++ (cs24 ++ sp22))] := (zdv (zdv zde hO12 (fun b hb => (hB12 b (by rw [← hb]; simp)).1) (fun b _ hb => by cases hb)) hO13 (fun b hb => (hB12 b (by rw [← hb]; simp)).1) (fun b hb hm => (List.mem_cons.1 hm).elim (fun e => apE (ap12.1) rfl rfl b ((zfc (ob := ob23) (o := 0) (n := r13.length) (cap := cap23)).2 hb) ((zfc (ob := ob22) (o := 0) (n := r12.length) (cap := cap22)).2 (by rw [e]; exact zbi))) (fun hm => by cases hm)))
 have hp20 := hL44.adoptL hE63 hN16
 have hL49 := hp20.1
 have K45 := ks w hp20.2
 refine zcq (zbq (vs := [(zO ob22 r12 cap22)]) ti27 rfl rfl (zfa (zez _ _ _ _)) rfl (zet (zez _ _ _ _) zew) hL49 4 rfl rfl (zaf rfl) ?_)
 intro w63 (hL50 : vL w w63 [ob23, ob22, some b1, some b6, some b10, ob10, ob11, ob19, ob12] [zac ([] ++ (cs25 ++ sp23)), zac ([] ++ (cs24 ++ sp22)), zac [c_v, c_v1, c_v2, c_v3, c_v4, c_v5, c_v6], zac [zN, zN, zN, zN, zN], zac [(zO ob10 min10 cap10), (zO ob11 max10 cap11), (zO ob19 tests10 cap19), (zO ob22 r12 cap22), zN], zac ([] ++ (cs10 ++ sp10)), zac ([] ++ (cs11 ++ sp11)), zac ([] ++ (cs21 ++ sp19)), zac ([] ++ (cs12 ++ sp12))]) hS26
 have K46 := ks w hS26
 refine zag (zak (q := 4) zdh rfl ti27 rfl rfl rfl ?_)
 refine zcq (zbq (vs := [(zO ob23 r13 cap23)]) ti27 rfl rfl (zfa (zez _ _ _ _)) rfl (zet (zez _ _ _ _) zew) hL50 4 rfl rfl (zaf rfl) ?_)
 intro w64 (hL51 : vL w w64 [ob23, ob22, some b1, some b6, some b10, ob10, ob11, ob19, ob12] [zac ([] ++ (cs25 ++ sp23)), zac ([] ++ (cs24 ++ sp22)), zac [c_v, c_v1, c_v2, c_v3, c_v4, c_v5, c_v6], zac [zN, zN, zN, zN, zN], zac [(zO ob10 min10 cap10), (zO ob11 max10 cap11), (zO ob19 tests10 cap19), (zO ob22 r12 cap22), (zO ob23 r13 cap23)], zac ([] ++ (cs10 ++ sp10)), zac ([] ++ (cs11 ++ sp11)), zac ([] ++ (cs21 ++ sp19)), zac ([] ++ (cs12 ++ sp12))]) hS27
 have K47 := ks w hS27
 refine zap (zal (zah rfl (zag (zbr (vs := [(zO ob10 min10 cap10), (zO ob11 max10 cap11), (zO ob19 tests10 cap19), (zO ob22 r12 cap22), (zO ob23 r13 cap23)]) zdh rfl ti44 rfl (hL51.at 4 rfl rfl) rfl rfl ?_))))
 refine zag (zai (v := (zO ob12 vars10 cap12)) rfl ?_)
 refine zcq (zbq (vs := [(zO ob10 min10 cap10), (zO ob11 max10 cap11), (zO ob19 tests10 cap19), (zO ob22 r12 cap22), (zO ob23 r13 cap23)]) ti44 rfl rfl rfl rfl (zet (zez _ _ _ _) (zet (zez _ _ _ _) (zet (zez _ _ _ _) (zet (zez _ _ _ _) (zet (zez _ _ _ _) zew))))) hL51 3 rfl rfl (zaf rfl) ?_)
 intro w65 (hL52 : vL w w65 [ob23, ob22, some b1, some b6, some b10, ob10, ob11, ob19, ob12] [zac ([] ++ (cs25 ++ sp23)), zac ([] ++ (cs24 ++ sp22)), zac [c_v, c_v1, c_v2, c_v3, c_v4, c_v5, c_v6], zac [(zO ob10 min10 cap10), (zO ob11 max10 cap11), (zO ob19 tests10 cap19), (zO ob22 r12 cap22), (zO ob23 r13 cap23)], zac [(zO ob10 min10 cap10), (zO ob11 max10 cap11), (zO ob19 tests10 cap19), (zO ob22 r12 cap22), (zO ob23 r13 cap23)], zac ([] ++ (cs10 ++ sp10)), zac ([] ++ (cs11 ++ sp11)), zac ([] ++ (cs21 ++ sp19)), zac ([] ++ (cs12 ++ sp12))]) hS28
 have K48 := ks w hS28
 refine zag (zam (v := (zO ob12 vars10 cap12)) rfl (zap ?_))
 have f35 := ((((((hE41.mono (K41 None)).mono (K42 None)).mono (K45 None)).mono (K46 None)).mono (K47 None)).mono (K48 None))
 have f36 := hL52.freezeRow 5 rfl rfl f35 rfl rfl rfl hc23
 have hp21 := hL52.pick [0, 1, 2, 3, 4, 6, 7, 8] rfl rfl rfl
 have hL53 : vL w w65 [ob23, ob22, some b1, some b6, some b10, ob11, ob19, ob12] [zac ([] ++ (cs25 ++ sp23)), zac ([] ++ (cs24 ++ sp22)), zac [c_v, c_v1, c_v2, c_v3, c_v4, c_v5, c_v6], zac [(zO ob10 min10 cap10), (zO ob11 max10 cap11), (zO ob19 tests10 cap19), (zO ob22 r12 cap22), (zO ob23 r13 cap23)], zac [(zO ob10 min10 cap10), (zO ob11 max10 cap11), (zO ob19 tests10 cap19), (zO ob22 r12 cap22), (zO ob23 r13 cap23)], zac ([] ++ (cs11 ++ sp11)), zac ([] ++ (cs21 ++ sp19)), zac ([] ++ (cs12 ++ sp12))] := hp21.1
 have K49 := ks w hp21.2
 have f37 := (((((((hE42.mono (K41 None)).mono (K42 None)).mono (K45 None)).mono (K46 None)).mono (K47 None)).mono (K48 None)).mono (K49 None))
 have f38 := hL53.freezeRow 5 rfl rfl f37 rfl rfl rfl hc24
 have hp22 := hL53.pick [0, 1, 2, 3, 4, 6, 7] rfl rfl rfl
 have hL54 : vL w w65 [ob23, ob22, some b1, some b6, some b10, ob19, ob12] [zac ([] ++ (cs25 ++ sp23)), zac ([] ++ (cs24 ++ sp22)), zac [c_v, c_v1, c_v2, c_v3, c_v4, c_v5, c_v6], zac [(zO ob10 min10 cap10), (zO ob11 max10 cap11), (zO ob19 tests10 cap19), (zO ob22 r12 cap22), (zO ob23 r13 cap23)], zac [(zO ob10 min10 cap10), (zO ob11 max10 cap11), (zO ob19 tests10 cap19), (zO ob22 r12 cap22), (zO ob23 r13 cap23)], zac ([] ++ (cs21 ++ sp19)), zac ([] ++ (cs12 ++ sp12))] := hp22.1
 have K50 := ks w hp22.2
 have f39 := (((((((hE48.mono (K42 None)).mono (K45 None)).mono (K46 None)).mono (K47 None)).mono (K48 None)).mono (K49 None)).mono (K50 None))
 have f40 := hL54.freezeRow 5 rfl rfl f39 rfl rfl rfl hc30
 have hp23 := hL54.pick [0, 1, 2, 3, 4, 6] rfl rfl rfl
 have hL55 : vL w w65 [ob23, ob22, some b1, some b6, some b10, ob12] [zac ([] ++ (cs25 ++ sp23)), zac ([] ++ (cs24 ++ sp22)), zac [c_v, c_v1, c_v2, c_v3, c_v4, c_v5, c_v6], zac [(zO ob10 min10 cap10), (zO ob11 max10 cap11), (zO ob19 tests10 cap19), (zO ob22 r12 cap22), (zO ob23 r13 cap23)], zac [(zO ob10 min10 cap10), (zO ob11 max10 cap11), (zO ob19 tests10 cap19), (zO ob22 r12 cap22), (zO ob23 r13 cap23)], zac ([] ++ (cs12 ++ sp12))] := hp23.1
 have K51 := ks w hp23.2
 have f41 := ((((((hE49.mono (K46 None)).mono (K47 None)).mono (K48 None)).mono (K49 None)).mono (K50 None)).mono (K51 None))
 have f42 := hL55.freezeRow 1 rfl rfl f41 rfl rfl rfl hc31
 have hp24 := hL55.pick [0, 2, 3, 4, 5] rfl rfl rfl
 have hL56 : vL w w65 [ob23, some b1, some b6, some b10, ob12] [zac ([] ++ (cs25 ++ sp23)), zac [c_v, c_v1, c_v2, c_v3, c_v4, c_v5, c_v6], zac [(zO ob10 min10 cap10), (zO ob11 max10 cap11), (zO ob19 tests10 cap19), (zO ob22 r12 cap22), (zO ob23 r13 cap23)], zac [(zO ob10 min10 cap10), (zO ob11 max10 cap11), (zO ob19 tests10 cap19), (zO ob22 r12 cap22), (zO ob23 r13 cap23)], zac ([] ++ (cs12 ++ sp12))] := hp24.1
 have K52 := ks w hp24.2
 have f43 := (((((((hE50.mono (K46 None)).mono (K47 None)).mono (K48 None)).mono (K49 None)).mono (K50 None)).mono (K51 None)).mono (K52 None))
 have f44 := hL56.freezeRow 0 rfl rfl f43 rfl rfl rfl hc32
 have hp25 := hL56.pick [1, 2, 3, 4] rfl rfl rfl
 have hL57 : vL w w65 [some b1, some b6, some b10, ob12] [zac [c_v, c_v1, c_v2, c_v3, c_v4, c_v5, c_v6], zac [(zO ob10 min10 cap10), (zO ob11 max10 cap11), (zO ob19 tests10 cap19), (zO ob22 r12 cap22), (zO ob23 r13 cap23)], zac [(zO ob10 min10 cap10), (zO ob11 max10 cap11), (zO ob19 tests10 cap19), (zO ob22 r12 cap22), (zO ob23 r13 cap23)], zac ([] ++ (cs12 ++ sp12))] := hp25.1
 have K53 := ks w hp25.2
 refine zbl ?_
 obtain rfl := zae h
 refine ⟨[(zar #[(zO ob10 min10 cap10), (zO ob11 max10 cap11), (zO ob19 tests10 cap19), (zO ob22 r12 cap22), (zO ob23 r13 cap23)]), (zO ob12 vars10 cap12)], ⟨⟨⟨b6, 0, none⟩, rfl, zfd zdh rfl ti44 (hL57.at 1 rfl rfl) rfl⟩, zrt⟩, ⟨_, rfl, hL57.done, ?_⟩⟩
 have f45 := ((((f36.mono (K50 None)).mono (K51 None)).mono (K52 None)).mono (K53 None))
 have f46 := (((f38.mono (K51 None)).mono (K52 None)).mono (K53 None))
 have f47 := ((f40.mono (K52 None)).mono (K53 None))
 have f48 := (f42.mono (K53 None))
 have f49 := (((((((((((hE43.mono (K41 None)).mono (K42 None)).mono (K45 None)).mono (K46 None)).mono (K47 None)).mono (K48 None)).mono (K49 None)).mono (K50 None)).mono (K51 None)).mono (K52 None)).mono (K53 None))
 exact ⟨(zO ob10 min10 cap10), (zO ob11 max10 cap11), (zO ob19 tests10 cap19), (zO ob22 r12 cap22), (zO ob23 r13 cap23), ob12, cap12, cs12, sp12, rfl, (hL57.newOwn [3] rfl rfl rfl), (f45.mono (zdx [3] rfl)), (f46.mono (zdx [3] rfl)), (f47.mono (zdx [3] rfl)), (f48.mono (zdx [3] rfl)), (f44.mono (zdx [3] rfl)), (f49.mono (zdx [3] rfl)), hc25, trivial⟩
theorem wRight_w (N : Nat) (l : (List RVar)) (ranges : (List Arr2Int)) (l_v : Value) (ranges_v : Value) (w : World) (S : Nat → Prop) (l_h : Rs rRVar (vH w S [] w) l_v l) (ranges_h : Rs rArr2Int (vH w S [] w) ranges_v ranges) (r : Bool) (h : wRight N l ranges = some r) :
  Calls Tryz.prog 38 #[l_v, ranges_v] w (Ret w (fun v w' => (zab r) = v ∧ True)) := by
 unfold wRight at h
 have hL : vL w w [] [] := Go.X.Loc.begin0 w
 refine calls_of (l := [l_v, ranges_v]) (rl := [.tmp 4]) (n := 47) Tryz.func38 rfl rfl rfl (zaf rfl) ?_
 refine zal (zah rfl (zag (zam (v := zF) rfl ?_)))
 refine zap (zal (zal (zah rfl (zag (zai (v := ranges_v) rfl ?_)))))
 refine zag (zbg (v := ranges_v) zaz rfl ranges_h ?_)
 refine zag (zai (v := l_v) rfl ?_)
 refine zag (zbg (v := l_v) zbt rfl l_h ?_)
 refine zag (zek (x := (ranges.length : Int)) (y := (l.length : Int)) (((ranges.length : Int) : Int) ≠ (l.length : Int)) rfl rfl zbd (zap ?_))
 refine zbf (((ranges.length : Int) : Int) ≠ (l.length : Int)) rfl (fun hc1 => ?_) (fun hc1 => ?_)
 ·
  replace h := ite_t hc1 h
  refine zal (zah rfl (zag (zam (v := zF) rfl ?_)))
  refine zap (zbl ?_)
  obtain rfl := zae h
  refine ⟨[zF], zrt, ⟨_, rfl, hL.done, ?_⟩⟩
  exact zrt
 replace h := ite_f hc1 h
 refine zbk (zal (zal (zah rfl (zag (zam (v := (zI 0)) rfl (zap ?_))))))
 obtain ⟨s10, hl10, g10⟩ := zes h
 refine zce (fun e w' => ∃  (u : Env), (Sum.inl ()) = s10 ∧ e = upds [] u ∧ vL w w' [] [] ∧ Keep w.heap.size [] w [] w' ∧ True) ?_ ?_
 ·
  refine zbh ?_
  refine zcr hl10 (fun (ss : Int) (e : Env) (w' : World) => match ss with | i10 => ∃ (u : Env), e = upds [(1, ranges_v), (5, (zI i10))] u ∧ vL w w' [] [] ∧ Keep w.heap.size [] w [] w' ∧ True) ⟨_, (zeu ⟨rfl, rfl, trivial⟩), hL, zck, trivial⟩ ?_
  rintro i10 oo _ w10 ⟨u, rfl, hL10, K10, -⟩ h hd10
  rw [wRight_b1] at h
  refine zal (zal (zah rfl (zag (zai (v := (zI i10)) rfl ?_))))
  refine zag (zai (v := ranges_v) rfl ?_)
  have f10 := (ranges_h.mono (K10 S))
  refine zag (zbg (v := ranges_v) zaz rfl f10 ?_)
  refine zag (zcp (x := i10) (y := (ranges.length : Int)) ((i10 : Int) < (ranges.length : Int)) rfl rfl zbd (zap ?_))
  refine zbf ((i10 : Int) < (ranges.length : Int)) rfl (fun hc10 => ?_) (fun hc10 => ?_)
  ·
   replace h := ite_t hc10 h
   refine zbk (zal (zbh (zal ?_)))
   obtain ⟨s11, h, g11⟩ := zes h
   refine zce (fun e w' => ∃ (x10 : Bool) (u : Env), x10 = s11 ∧ e = upds [(1, ranges_v), (5, (zI i10)), (46, (zab x10))] u ∧ vL w w' [] [] ∧ Keep w.heap.size [] w10 [] w' ∧ True) ?_ ?_
   ·
    refine zah rfl (zag (zai (v := ranges_v) rfl ?_))
    refine zag (zai (v := (zI i10)) rfl ?_)
    obtain ⟨x11, n10, q11, q12, -, h⟩ := zix h
    obtain ⟨b10, o10, c10, vs10, q13, q14, f11, q15⟩ := zcw f10 q12
    obtain ⟨rfl, -⟩ := rArr2Int_open q15
    refine zag (zbj (r := rArr2Int) (v := ranges_v) (n := n10) (m := (o10 + n10 * rArr2Int.sz)) zaz ti54 rfl q13 rfl q11 q12 rfl ?_)
    have f12 := (f11.part (us := [(zI x11.e0)]) 0 rfl)
    refine zag (zcg (i := 0) (q := (o10 + n10 * rArr2Int.sz) + 0) zbv ti3 rfl rfl (by decide) rfl ?_)
    refine zag (zby (v := (zI x11.e0)) zat rfl rfl zex f12 ?_)
    refine zag (zcp (x := x11.e0) (y := 0) ((x11.e0 : Int) < 0) rfl rfl zbd ?_)
    refine zag (zai (v := (zab (decide ((x11.e0 : Int) < 0)))) rfl ?_)
    by_cases hc11 : (x11.e0 : Int) < 0
    ·
     replace h := ite_t hc11 h
     refine zbb rfl rfl (zeq hc11) (zbb rfl rfl (zeq hc11) (zbb rfl rfl (zeq hc11) (zbb rfl rfl (zeq hc11) (zbb rfl rfl (zeq hc11) (zbb rfl rfl (zeq hc11) ?_)))))
     refine zag (zbe (t := (decide ((x11.e0 : Int) < 0))) (v := zT) rfl (zeq hc11) rfl ?_)
     refine zag (zai (v := zT) rfl ?_)
     refine zbb rfl rfl rfl (zbb rfl rfl rfl (zbb rfl rfl rfl (zbb rfl rfl rfl (zbb rfl rfl rfl (zbb rfl rfl rfl ?_)))))
     refine zag (zbe (t := true) (v := zT) rfl rfl rfl ?_)
     refine zag (zai (v := zT) rfl ?_)
     refine zbb rfl rfl rfl (zbb rfl rfl rfl (zbb rfl rfl rfl (zbb rfl rfl rfl (zbb rfl rfl rfl (zbb rfl rfl rfl ?_)))))
     refine zag (zbe (t := true) (v := zT) rfl rfl rfl (zap ?_))
     obtain rfl := zae h
     refine zaq ?_
     exact ⟨true, _, rfl, (zeu ⟨rfl, rfl, rfl, trivial⟩), hL10, zck, trivial⟩
    replace h := ite_f hc11 h
    refine zba rfl rfl (zep hc11) (zai (v := ranges_v) rfl ?_)
    refine zba rfl rfl (zep hc11) (zai (v := (zI i10)) rfl ?_)
    obtain ⟨x12, n11, q17, q18, -, h⟩ := zix h
    obtain ⟨b11, o11, c11, vs11, q19, q20, f13, q21⟩ := zcw f10 q18
    obtain ⟨rfl, -⟩ := rArr2Int_open q21
    refine zba rfl rfl (zep hc11) (zbj (r := rArr2Int) (v := ranges_v) (n := n11) (m := (o11 + n11 * rArr2Int.sz)) zaz ti54 rfl q19 rfl q17 q18 rfl ?_)
    have f14 := (f13.part (us := [(zI x12.e0)]) 0 rfl)
    refine zba rfl rfl (zep hc11) (zcg (i := 0) (q := (o11 + n11 * rArr2Int.sz) + 0) zbv ti3 rfl rfl (by decide) rfl ?_)
    refine zba rfl rfl (zep hc11) (zby (v := (zI x12.e0)) zat rfl rfl zex f14 ?_)
    refine zba rfl rfl (zep hc11) (zej (x := x12.e0) (y := 16) ((x12.e0 : Int) > 16) rfl rfl zbd ?_)
    refine zag (zbn (t := (decide ((x11.e0 : Int) < 0))) (v := (zab (decide ((x12.e0 : Int) > 16)))) rfl (zep hc11) rfl ?_)
    refine zag (zai (v := (zab (decide ((x12.e0 : Int) > 16)))) rfl ?_)
    by_cases hc12 : (x12.e0 : Int) > 16
    ·
     replace h := ite_t hc12 h
     refine zbb rfl rfl (zeq hc12) (zbb rfl rfl (zeq hc12) (zbb rfl rfl (zeq hc12) (zbb rfl rfl (zeq hc12) (zbb rfl rfl (zeq hc12) (zbb rfl rfl (zeq hc12) ?_)))))
     refine zag (zbe (t := (decide ((x12.e0 : Int) > 16))) (v := zT) rfl (zeq hc12) rfl ?_)
     refine zag (zai (v := zT) rfl ?_)
     refine zbb rfl rfl rfl (zbb rfl rfl rfl (zbb rfl rfl rfl (zbb rfl rfl rfl (zbb rfl rfl rfl (zbb rfl rfl rfl ?_)))))
     refine zag (zbe (t := true) (v := zT) rfl rfl rfl (zap ?_))
     obtain rfl := zae h
     refine zaq ?_
     exact ⟨true, _, rfl, (zeu ⟨rfl, rfl, rfl, trivial⟩), hL10, zck, trivial⟩
    replace h := ite_f hc12 h
    refine zba rfl rfl (zep hc12) (zai (v := ranges_v) rfl ?_)
    refine zba rfl rfl (zep hc12) (zai (v := (zI i10)) rfl ?_)
    obtain ⟨x13, n12, q23, q24, -, h⟩ := zix h
    obtain ⟨b12, o12, c12, vs12, q25, q26, f15, q27⟩ := zcw f10 q24
    obtain ⟨rfl, -⟩ := rArr2Int_open q27
    refine zba rfl rfl (zep hc12) (zbj (r := rArr2Int) (v := ranges_v) (n := n12) (m := (o12 + n12 * rArr2Int.sz)) zaz ti54 rfl q25 rfl q23 q24 rfl ?_)
    have f16 := (f15.part (us := [(zI x13.e1)]) 1 rfl)
    refine zba rfl rfl (zep hc12) (zcg (i := 1) (q := (o12 + n12 * rArr2Int.sz) + 1) zbv ti3 rfl rfl (by decide) rfl ?_)
    refine zba rfl rfl (zep hc12) (zby (v := (zI x13.e1)) zat rfl rfl zex f16 ?_)
    refine zba rfl rfl (zep hc12) (zcp (x := x13.e1) (y := 0) ((x13.e1 : Int) < 0) rfl rfl zbd ?_)
    refine zag (zbn (t := (decide ((x12.e0 : Int) > 16))) (v := (zab (decide ((x13.e1 : Int) < 0)))) rfl (zep hc12) rfl ?_)
    refine zag (zai (v := (zab (decide ((x13.e1 : Int) < 0)))) rfl ?_)
    by_cases hc13 : (x13.e1 : Int) < 0
    ·
     replace h := ite_t hc13 h
     refine zbb rfl rfl (zeq hc13) (zbb rfl rfl (zeq hc13) (zbb rfl rfl (zeq hc13) (zbb rfl rfl (zeq hc13) (zbb rfl rfl (zeq hc13) (zbb rfl rfl (zeq hc13) ?_)))))
     refine zag (zbe (t := (decide ((x13.e1 : Int) < 0))) (v := zT) rfl (zeq hc13) rfl (zap ?_))
     obtain rfl := zae h
     refine zaq ?_
     exact ⟨true, _, rfl, (zeu ⟨rfl, rfl, rfl, trivial⟩), hL10, zck, trivial⟩
    replace h := ite_f hc13 h
    refine zba rfl rfl (zep hc13) (zai (v := ranges_v) rfl ?_)
    refine zba rfl rfl (zep hc13) (zai (v := (zI i10)) rfl ?_)
    obtain ⟨x14, n13, q29, q30, -, h⟩ := zix h
    obtain ⟨b13, o13, c13, vs13, q31, q32, f17, q33⟩ := zcw f10 q30
    obtain ⟨rfl, -⟩ := rArr2Int_open q33
    refine zba rfl rfl (zep hc13) (zbj (r := rArr2Int) (v := ranges_v) (n := n13) (m := (o13 + n13 * rArr2Int.sz)) zaz ti54 rfl q31 rfl q29 q30 rfl ?_)
    have f18 := (f17.part (us := [(zI x14.e1)]) 1 rfl)
    refine zba rfl rfl (zep hc13) (zcg (i := 1) (q := (o13 + n13 * rArr2Int.sz) + 1) zbv ti3 rfl rfl (by decide) rfl ?_)
    refine zba rfl rfl (zep hc13) (zby (v := (zI x14.e1)) zat rfl rfl zex f18 ?_)
    refine zba rfl rfl (zep hc13) (zej (x := x14.e1) (y := 16) ((x14.e1 : Int) > 16) rfl rfl zbd ?_)
    refine zag (zbn (t := (decide ((x13.e1 : Int) < 0))) (v := (zab (decide ((x14.e1 : Int) > 16)))) rfl (zep hc13) rfl (zap ?_))
    obtain rfl := zae h
    refine zaq ?_
    exact ⟨(decide ((x14.e1 : Int) > 16)), _, rfl, (zeu ⟨rfl, rfl, rfl, trivial⟩), hL10, zck, trivial⟩
   rintro _ w11 ⟨x10, u, rfl, rfl, hL11, K11, -⟩
   replace h := g11
   try dsimp only at h
   refine zdd x10 rfl (fun hc14 => ?_) (fun hc14 => ?_)
   ·
    replace h := ite_t hc14 h
    refine zal (zah rfl (zag (zam (v := zF) rfl ?_)))
    refine zap (zbl ?_)
    obtain rfl := zae h
    obtain rfl := hd10 _ rfl
    replace h := g10
    try dsimp only at h
    obtain rfl := zae h
    refine ⟨[zF], zrt, ⟨_, rfl, hL11.done, ?_⟩⟩
    exact zrt
   replace h := ite_f hc14 h
   refine zbk (zbu (zah rfl (zag (zai (v := (zI i10)) rfl ?_))))
   refine zag (zcl (x := i10) (y := 1) (z := (iw (i10 + 1))) rfl rfl rfl ?_)
   refine zag (zam (v := (zI (iw (i10 + 1)))) rfl (zap ?_))
   obtain rfl := zae h
   refine zaq ⟨(iw (i10 + 1)), rfl, ?_⟩
   exact ⟨_, (zeu ⟨rfl, rfl, trivial⟩), hL11, (zan K10 K11), trivial⟩
  replace h := ite_f hc10 h
  refine zda rfl ?_
  obtain rfl := zae h
  obtain rfl := hd10 _ rfl
  replace h := g10
  try dsimp only at h
  refine zaq ?_
  exact ⟨_, rfl, (zeu trivial), hL10, K10, trivial⟩
 rintro _ w12 ⟨u, rfl, rfl, hL12, K12, -⟩
 replace h := g10
 try dsimp only at h
 refine zal (zah rfl (zag (zam (v := zT) rfl ?_)))
 refine zap (zbl ?_)
 obtain rfl := zae h
 refine ⟨[zT], zrt, ⟨_, rfl, hL12.done, ?_⟩⟩
 exact zrt
theorem wDomains_w (N : Nat) (l : (List RVar)) (l_v : Value) (w : World) (S : Nat → Prop) (l_h : Rs rRVar (vH w S [] w) l_v l) (r : Bool) (h : wDomains N l = some r) :
  Calls Tryz.prog 35 #[l_v] w (Ret w (fun v w' => (zab r) = v ∧ True)) := by
 unfold wDomains at h
 have hL : vL w w [] [] := Go.X.Loc.begin0 w
 refine calls_of (l := [l_v]) (rl := [.tmp 2]) (n := 64) Tryz.func35 rfl rfl rfl (zaf rfl) ?_
 refine zal (zah rfl (zag (zam (v := zF) rfl ?_)))
 refine zap (zal (zal (zah rfl (zag (zam (v := (zI 0)) rfl (zap ?_))))))
 obtain ⟨s10, hl10, g10⟩ := zes h
 refine zce (fun e w' => ∃  (u : Env), (Sum.inl ()) = s10 ∧ e = upds [(0, l_v)] u ∧ vL w w' [] [] ∧ Keep w.heap.size [] w [] w' ∧ True) ?_ ?_
 ·
  refine zbh ?_
  refine zcr hl10 (fun (ss : Int) (e : Env) (w' : World) => match ss with | i10 => ∃ (u : Env), e = upds [(0, l_v), (3, (zI i10))] u ∧ vL w w' [] [] ∧ Keep w.heap.size [] w [] w' ∧ True) ⟨_, (zeu ⟨rfl, rfl, trivial⟩), hL, zck, trivial⟩ ?_
  rintro i10 oo _ w10 ⟨u, rfl, hL10, K10, -⟩ h hd10
  rw [wDomains_b1] at h
  refine zal (zal (zah rfl (zag (zai (v := (zI i10)) rfl ?_))))
  refine zag (zai (v := l_v) rfl ?_)
  have f10 := (l_h.mono (K10 S))
  refine zag (zbg (v := l_v) zbt rfl f10 ?_)
  refine zag (zcp (x := i10) (y := (l.length : Int)) ((i10 : Int) < (l.length : Int)) rfl rfl zbd (zap ?_))
  refine zbf ((i10 : Int) < (l.length : Int)) rfl (fun hc10 => ?_) (fun hc10 => ?_)
  ·
   replace h := ite_t hc10 h
   refine zbk (zal (zbh (zal (zah rfl (zag (zai (v := l_v) rfl ?_))))))
   refine zag (zai (v := (zI i10)) rfl ?_)
   obtain ⟨x10, n10, q11, q12, -, h⟩ := zix h
   obtain ⟨b10, o10, c10, vs10, q13, q14, f11, q15⟩ := zcw f10 q12
   obtain ⟨rfl, -⟩ := rRVar_open q15
   refine zag (zbj (r := rRVar) (v := l_v) (n := n10) (m := (o10 + n10 * rRVar.sz)) zbt ti83 rfl q13 rfl q11 q12 rfl ?_)
   refine zag (zds (vs := [(zI x10.Ty), (zI x10.Low), (zI x10.High), (zI x10.Max), (zab x10.Nullable)]) zcc rfl ti83 rfl rfl zex f11 ?_)
   refine zag (zcj (cs := [(zI 0), (zI 0), (zI 0), (zI 0), zF]) ti83 rfl hL10 ?_)
   intro b11 w11 hL11 hS10
   have K11 := ks w hS10
   refine zcq (zbq (vs := [(zI x10.Ty), (zI x10.Low), (zI x10.High), (zI x10.Max), (zab x10.Nullable)]) ti83 rfl rfl rfl rfl (zet rfl (zet rfl (zet rfl (zet rfl (zet rfl zew))))) hL11 0 rfl rfl (zaf rfl) ?_)
   intro w12 (hL12 : vL w w12 [some b11] [zac [(zI x10.Ty), (zI x10.Low), (zI x10.High), (zI x10.Max), (zab x10.Nullable)]]) hS11
   have K12 := ks w hS11
   refine zap (zal (zal ?_))
   obtain ⟨s11, h, g11⟩ := zes h
   refine zce (fun e w' => ∃ (x11 : Bool) (u : Env), x11 = s11 ∧ e = upds [(0, l_v), (3, (zI i10)), (4, (zaj (some ⟨b11, 0, none⟩))), (37, (zab x11))] u ∧ vL w w' [some b11] [zac [(zI x10.Ty), (zI x10.Low), (zI x10.High), (zI x10.Max), (zab x10.Nullable)]] ∧ Keep w.heap.size [some b11] w12 [some b11] w' ∧ True) ?_ ?_
   ·
    refine zah rfl (zag (zak (q := 0) zcc rfl ti3 rfl rfl rfl ?_))
    refine zag (zas (v := (zI x10.Ty)) zat rfl rfl (hL12.at 0 rfl rfl) rfl ?_)
    refine zag (zeb (x := x10.Ty) (y := 1) ((x10.Ty : Int) = 1) rfl rfl zbd ?_)
    refine zag (zai (v := (zab (decide ((x10.Ty : Int) = 1)))) rfl ?_)
    by_cases hc11 : (x10.Ty : Int) = 1
    ·
     replace h := ite_t hc11 h
     refine zba rfl rfl (zeq hc11) (zak (q := 1) zcc rfl ti2 rfl rfl rfl ?_)
     refine zba rfl rfl (zeq hc11) (zas (v := (zI x10.Low)) zcf rfl rfl (hL12.at 0 rfl rfl) rfl ?_)
     refine zba rfl rfl (zeq hc11) (zcp (x := x10.Low) (y := (-2147483648)) ((x10.Low : Int) < (-2147483648)) rfl rfl zbd ?_)
     refine zba rfl rfl (zeq hc11) (zai (v := (zab (decide ((x10.Low : Int) < (-2147483648))))) rfl ?_)
     by_cases hc12 : (x10.Low : Int) < (-2147483648)
     ·
      replace h := ite_t hc12 h
      refine zbb rfl rfl (zeq hc12) (zbb rfl rfl (zeq hc12) (zbb rfl rfl (zeq hc12) ?_))
      refine zba rfl rfl (zeq hc11) (zbe (t := (decide ((x10.Low : Int) < (-2147483648)))) (v := zT) rfl (zeq hc12) rfl ?_)
      refine zba rfl rfl (zeq hc11) (zai (v := zT) rfl ?_)
      refine zbb rfl rfl rfl (zbb rfl rfl rfl (zbb rfl rfl rfl ?_))
      refine zba rfl rfl (zeq hc11) (zbe (t := true) (v := zT) rfl rfl rfl ?_)
      refine zba rfl rfl (zeq hc11) (zai (v := zT) rfl ?_)
      refine zbb rfl rfl rfl (zbb rfl rfl rfl (zbb rfl rfl rfl ?_))
      refine zba rfl rfl (zeq hc11) (zbe (t := true) (v := zT) rfl rfl rfl ?_)
      refine zag (zbe (t := (decide ((x10.Ty : Int) = 1))) (v := zT) rfl (zeq hc11) rfl (zap ?_))
      obtain rfl := zae h
      refine zaq ?_
      exact ⟨true, _, rfl, (zeu ⟨rfl, rfl, rfl, rfl, trivial⟩), hL12, zck, trivial⟩
     replace h := ite_f hc12 h
     refine zba rfl rfl (zep hc12) (zak (q := 1) zcc rfl ti2 rfl rfl rfl ?_)
     refine zba rfl rfl (zep hc12) (zas (v := (zI x10.Low)) zcf rfl rfl (hL12.at 0 rfl rfl) rfl ?_)
     refine zba rfl rfl (zep hc12) (zej (x := x10.Low) (y := 2147483647) ((x10.Low : Int) > 2147483647) rfl rfl zbd ?_)
     refine zba rfl rfl (zeq hc11) (zbn (t := (decide ((x10.Low : Int) < (-2147483648)))) (v := (zab (decide ((x10.Low : Int) > 2147483647)))) rfl (zep hc12) rfl ?_)
     refine zba rfl rfl (zeq hc11) (zai (v := (zab (decide ((x10.Low : Int) > 2147483647)))) rfl ?_)
     by_cases hc13 : (x10.Low : Int) > 2147483647
     ·
      replace h := ite_t hc13 h
      refine zbb rfl rfl (zeq hc13) (zbb rfl rfl (zeq hc13) (zbb rfl rfl (zeq hc13) ?_))
      refine zba rfl rfl (zeq hc11) (zbe (t := (decide ((x10.Low : Int) > 2147483647))) (v := zT) rfl (zeq hc13) rfl ?_)
      refine zba rfl rfl (zeq hc11) (zai (v := zT) rfl ?_)
      refine zbb rfl rfl rfl (zbb rfl rfl rfl (zbb rfl rfl rfl ?_))
      refine zba rfl rfl (zeq hc11) (zbe (t := true) (v := zT) rfl rfl rfl ?_)
      refine zag (zbe (t := (decide ((x10.Ty : Int) = 1))) (v := zT) rfl (zeq hc11) rfl (zap ?_))
      obtain rfl := zae h
      refine zaq ?_
      exact ⟨true, _, rfl, (zeu ⟨rfl, rfl, rfl, rfl, trivial⟩), hL12, zck, trivial⟩
     replace h := ite_f hc13 h
     refine zba rfl rfl (zep hc13) (zak (q := 2) zcc rfl ti2 rfl rfl rfl ?_)
     refine zba rfl rfl (zep hc13) (zas (v := (zI x10.High)) zcf rfl rfl (hL12.at 0 rfl rfl) rfl ?_)
     refine zba rfl rfl (zep hc13) (zcp (x := x10.High) (y := (-2147483648)) ((x10.High : Int) < (-2147483648)) rfl rfl zbd ?_)
     refine zba rfl rfl (zeq hc11) (zbn (t := (decide ((x10.Low : Int) > 2147483647))) (v := (zab (decide ((x10.High : Int) < (-2147483648))))) rfl (zep hc13) rfl ?_)
     refine zba rfl rfl (zeq hc11) (zai (v := (zab (decide ((x10.High : Int) < (-2147483648))))) rfl ?_)
     by_cases hc14 : (x10.High : Int) < (-2147483648)
     ·
      replace h := ite_t hc14 h
      refine zbb rfl rfl (zeq hc14) (zbb rfl rfl (zeq hc14) (zbb rfl rfl (zeq hc14) ?_))
      refine zba rfl rfl (zeq hc11) (zbe (t := (decide ((x10.High : Int) < (-2147483648)))) (v := zT) rfl (zeq hc14) rfl ?_)
      refine zag (zbe (t := (decide ((x10.Ty : Int) = 1))) (v := zT) rfl (zeq hc11) rfl (zap ?_))
      obtain rfl := zae h
      refine zaq ?_
      exact ⟨true, _, rfl, (zeu ⟨rfl, rfl, rfl, rfl, trivial⟩), hL12, zck, trivial⟩
     replace h := ite_f hc14 h
     refine zba rfl rfl (zep hc14) (zak (q := 2) zcc rfl ti2 rfl rfl rfl ?_)
     refine zba rfl rfl (zep hc14) (zas (v := (zI x10.High)) zcf rfl rfl (hL12.at 0 rfl rfl) rfl ?_)
     refine zba rfl rfl (zep hc14) (zej (x := x10.High) (y := 2147483647) ((x10.High : Int) > 2147483647) rfl rfl zbd ?_)
     refine zba rfl rfl (zeq hc11) (zbn (t := (decide ((x10.High : Int) < (-2147483648)))) (v := (zab (decide ((x10.High : Int) > 2147483647)))) rfl (zep hc14) rfl ?_)
     refine zag (zbe (t := (decide ((x10.Ty : Int) = 1))) (v := (zab (decide ((x10.High : Int) > 2147483647)))) rfl (zeq hc11) rfl (zap ?_))
     obtain rfl := zae h
     refine zaq ?_
     exact ⟨(decide ((x10.High : Int) > 2147483647)), _, rfl, (zeu ⟨rfl, rfl, rfl, rfl, trivial⟩), hL12, zck, trivial⟩
    replace h := ite_f hc11 h
    refine zbb rfl rfl (zep hc11) (zbb rfl rfl (zep hc11) (zbb rfl rfl (zep hc11) (zbb rfl rfl (zep hc11) ?_)))
    refine zdi rfl rfl ?_
    refine zdi rfl rfl ?_
    refine zdi rfl rfl ?_
    refine zbb rfl rfl (zep hc11) (zbb rfl rfl (zep hc11) ?_)
    refine zdi rfl rfl ?_
    refine zdi rfl rfl ?_
    refine zdi rfl rfl ?_
    refine zbb rfl rfl (zep hc11) (zbb rfl rfl (zep hc11) ?_)
    refine zdi rfl rfl ?_
    refine zdi rfl rfl ?_
    refine zdi rfl rfl ?_
    refine zbb rfl rfl (zep hc11) ?_
    refine zag (zbn (t := (decide ((x10.Ty : Int) = 1))) (v := zF) rfl (zep hc11) rfl (zap ?_))
    obtain rfl := zae h
    refine zaq ?_
    exact ⟨false, _, rfl, (zeu ⟨rfl, rfl, rfl, rfl, trivial⟩), hL12, zck, trivial⟩
   rintro _ w13 ⟨x11, u, rfl, rfl, hL13, K13, -⟩
   replace h := g11
   try dsimp only at h
   refine zdd x11 rfl (fun hc15 => ?_) (fun hc15 => ?_)
   ·
    replace h := ite_t hc15 h
    refine zal (zah rfl (zag (zam (v := zF) rfl ?_)))
    refine zap (zbl ?_)
    obtain rfl := zae h
    obtain rfl := hd10 _ rfl
    replace h := g10
    try dsimp only at h
    obtain rfl := zae h
    refine ⟨[zF], zrt, ⟨_, rfl, hL13.done, ?_⟩⟩
    exact zrt
   replace h := ite_f hc15 h
   refine zbk (zal ?_)
   obtain ⟨s12, h, g12⟩ := zes h
   refine zce (fun e w' => ∃ (x12 : Bool) (u : Env), x12 = s12 ∧ e = upds [(0, l_v), (3, (zI i10)), (60, (zab x12))] u ∧ vL w w' [] [] ∧ Keep w.heap.size [some b11] w13 [] w' ∧ True) ?_ ?_
   ·
    refine zah rfl (zag (zak (q := 0) zcc rfl ti3 rfl rfl rfl ?_))
    refine zag (zas (v := (zI x10.Ty)) zat rfl rfl (hL13.at 0 rfl rfl) rfl ?_)
    refine zag (zeb (x := x10.Ty) (y := 2) ((x10.Ty : Int) = 2) rfl rfl zbd ?_)
    refine zag (zai (v := (zab (decide ((x10.Ty : Int) = 2)))) rfl ?_)
    by_cases hc16 : (x10.Ty : Int) = 2
    ·
     replace h := ite_t hc16 h
     refine zba rfl rfl (zeq hc16) (zak (q := 3) zcc rfl ti3 rfl rfl rfl ?_)
     refine zba rfl rfl (zeq hc16) (zas (v := (zI x10.Max)) zat rfl rfl (hL13.at 0 rfl rfl) rfl ?_)
     refine zba rfl rfl (zeq hc16) (zcp (x := x10.Max) (y := 0) ((x10.Max : Int) < 0) rfl rfl zbd ?_)
     refine zba rfl rfl (zeq hc16) (zai (v := (zab (decide ((x10.Max : Int) < 0)))) rfl ?_)
     by_cases hc17 : (x10.Max : Int) < 0
     ·
      replace h := ite_t hc17 h
      refine zbb rfl rfl (zeq hc17) (zbb rfl rfl (zeq hc17) (zbb rfl rfl (zeq hc17) ?_))
      refine zba rfl rfl (zeq hc16) (zbe (t := (decide ((x10.Max : Int) < 0))) (v := zT) rfl (zeq hc17) rfl ?_)
      refine zag (zbe (t := (decide ((x10.Ty : Int) = 2))) (v := zT) rfl (zeq hc16) rfl ?_)
      refine zag (zai (v := zT) rfl ?_)
      refine zbb rfl rfl rfl (zbb rfl rfl rfl (zbb rfl rfl rfl (zbb rfl rfl rfl ?_)))
      refine zdi rfl rfl ?_
      refine zdi rfl rfl ?_
      refine zdi rfl rfl ?_
      refine zbb rfl rfl rfl ?_
      refine zag (zbe (t := true) (v := zT) rfl rfl rfl (zap ?_))
      have hp10 := hL13.pick [] rfl rfl rfl
      have hL14 : vL w w13 [] [] := hp10.1
      have K14 := ks w hp10.2
      obtain rfl := zae h
      refine zaq ?_
      exact ⟨true, _, rfl, (zeu ⟨rfl, rfl, rfl, trivial⟩), hL14, K14, trivial⟩
     replace h := ite_f hc17 h
     refine zba rfl rfl (zep hc17) (zak (q := 3) zcc rfl ti3 rfl rfl rfl ?_)
     refine zba rfl rfl (zep hc17) (zas (v := (zI x10.Max)) zat rfl rfl (hL13.at 0 rfl rfl) rfl ?_)
     refine zba rfl rfl (zep hc17) (zej (x := x10.Max) (y := 16) ((x10.Max : Int) > 16) rfl rfl zbd ?_)
     refine zba rfl rfl (zeq hc16) (zbn (t := (decide ((x10.Max : Int) < 0))) (v := (zab (decide ((x10.Max : Int) > 16)))) rfl (zep hc17) rfl ?_)
     refine zag (zbe (t := (decide ((x10.Ty : Int) = 2))) (v := (zab (decide ((x10.Max : Int) > 16)))) rfl (zeq hc16) rfl ?_)
     refine zag (zai (v := (zab (decide ((x10.Max : Int) > 16)))) rfl ?_)
     by_cases hc18 : (x10.Max : Int) > 16
     ·
      replace h := ite_t hc18 h
      refine zbb rfl rfl (zeq hc18) (zbb rfl rfl (zeq hc18) (zbb rfl rfl (zeq hc18) (zbb rfl rfl (zeq hc18) ?_)))
      refine zdi rfl rfl ?_
      refine zdi rfl rfl ?_
      refine zdi rfl rfl ?_
      refine zbb rfl rfl (zeq hc18) ?_
      refine zag (zbe (t := (decide ((x10.Max : Int) > 16))) (v := zT) rfl (zeq hc18) rfl (zap ?_))
      have hp11 := hL13.pick [] rfl rfl rfl
      have hL15 : vL w w13 [] [] := hp11.1
      have K15 := ks w hp11.2
      obtain rfl := zae h
      refine zaq ?_
      exact ⟨true, _, rfl, (zeu ⟨rfl, rfl, rfl, trivial⟩), hL15, K15, trivial⟩
     replace h := ite_f hc18 h
     refine zba rfl rfl (zep hc18) (zak (q := 0) zcc rfl ti3 rfl rfl rfl ?_)
     refine zba rfl rfl (zep hc18) (zas (v := (zI x10.Ty)) zat rfl rfl (hL13.at 0 rfl rfl) rfl ?_)
     refine zba rfl rfl (zep hc18) (zek (x := x10.Ty) (y := 1) ((x10.Ty : Int) ≠ 1) rfl rfl zbd ?_)
     refine zba rfl rfl (zep hc18) (zai (v := (zab (decide ((x10.Ty : Int) ≠ 1)))) rfl ?_)
     by_cases hc19 : (x10.Ty : Int) ≠ 1
     ·
      replace h := ite_t hc19 h
      refine zba rfl rfl (zeq hc19) (zak (q := 0) zcc rfl ti3 rfl rfl rfl ?_)
      refine zba rfl rfl (zeq hc19) (zas (v := (zI x10.Ty)) zat rfl rfl (hL13.at 0 rfl rfl) rfl ?_)
      refine zba rfl rfl (zeq hc19) (zek (x := x10.Ty) (y := 2) ((x10.Ty : Int) ≠ 2) rfl rfl zbd ?_)
      refine zba rfl rfl (zep hc18) (zbe (t := (decide ((x10.Ty : Int) ≠ 1))) (v := (zab (decide ((x10.Ty : Int) ≠ 2)))) rfl (zeq hc19) rfl ?_)
      refine zag (zbn (t := (decide ((x10.Max : Int) > 16))) (v := (zab (decide ((x10.Ty : Int) ≠ 2)))) rfl (zep hc18) rfl (zap ?_))
      have hp12 := hL13.pick [] rfl rfl rfl
      have hL16 : vL w w13 [] [] := hp12.1
      have K16 := ks w hp12.2
      obtain rfl := zae h
      refine zaq ?_
      exact ⟨(decide ((x10.Ty : Int) ≠ 2)), _, rfl, (zeu ⟨rfl, rfl, rfl, trivial⟩), hL16, K16, trivial⟩
     replace h := ite_f hc19 h
     refine zbb rfl rfl (zep hc19) (zbb rfl rfl (zep hc19) (zbb rfl rfl (zep hc19) ?_))
     refine zba rfl rfl (zep hc18) (zbn (t := (decide ((x10.Ty : Int) ≠ 1))) (v := zF) rfl (zep hc19) rfl ?_)
     refine zag (zbn (t := (decide ((x10.Max : Int) > 16))) (v := zF) rfl (zep hc18) rfl (zap ?_))
     have hp13 := hL13.pick [] rfl rfl rfl
     have hL17 : vL w w13 [] [] := hp13.1
     have K17 := ks w hp13.2
     obtain rfl := zae h
     refine zaq ?_
     exact ⟨false, _, rfl, (zeu ⟨rfl, rfl, rfl, trivial⟩), hL17, K17, trivial⟩
    replace h := ite_f hc16 h
    refine zbb rfl rfl (zep hc16) (zbb rfl rfl (zep hc16) (zbb rfl rfl (zep hc16) (zbb rfl rfl (zep hc16) ?_)))
    refine zdi rfl rfl ?_
    refine zdi rfl rfl ?_
    refine zdi rfl rfl ?_
    refine zbb rfl rfl (zep hc16) ?_
    refine zag (zbn (t := (decide ((x10.Ty : Int) = 2))) (v := zF) rfl (zep hc16) rfl ?_)
    refine zag (zai (v := zF) rfl ?_)
    refine zba rfl rfl rfl (zak (q := 0) zcc rfl ti3 rfl rfl rfl ?_)
    refine zba rfl rfl rfl (zas (v := (zI x10.Ty)) zat rfl rfl (hL13.at 0 rfl rfl) rfl ?_)
    refine zba rfl rfl rfl (zek (x := x10.Ty) (y := 1) ((x10.Ty : Int) ≠ 1) rfl rfl zbd ?_)
    refine zba rfl rfl rfl (zai (v := (zab (decide ((x10.Ty : Int) ≠ 1)))) rfl ?_)
    by_cases hc20 : (x10.Ty : Int) ≠ 1
    ·
     replace h := ite_t hc20 h
     refine zba rfl rfl (zeq hc20) (zak (q := 0) zcc rfl ti3 rfl rfl rfl ?_)
     refine zba rfl rfl (zeq hc20) (zas (v := (zI x10.Ty)) zat rfl rfl (hL13.at 0 rfl rfl) rfl ?_)
     refine zba rfl rfl (zeq hc20) (zek (x := x10.Ty) (y := 2) ((x10.Ty : Int) ≠ 2) rfl rfl zbd ?_)
     refine zba rfl rfl rfl (zbe (t := (decide ((x10.Ty : Int) ≠ 1))) (v := (zab (decide ((x10.Ty : Int) ≠ 2)))) rfl (zeq hc20) rfl ?_)
     refine zag (zbn (t := false) (v := (zab (decide ((x10.Ty : Int) ≠ 2)))) rfl rfl rfl (zap ?_))
     have hp14 := hL13.pick [] rfl rfl rfl
     have hL18 : vL w w13 [] [] := hp14.1
     have K18 := ks w hp14.2
     obtain rfl := zae h
     refine zaq ?_
     exact ⟨(decide ((x10.Ty : Int) ≠ 2)), _, rfl, (zeu ⟨rfl, rfl, rfl, trivial⟩), hL18, K18, trivial⟩
    replace h := ite_f hc20 h
    refine zbb rfl rfl (zep hc20) (zbb rfl rfl (zep hc20) (zbb rfl rfl (zep hc20) ?_))
    refine zba rfl rfl rfl (zbn (t := (decide ((x10.Ty : Int) ≠ 1))) (v := zF) rfl (zep hc20) rfl ?_)
    refine zag (zbn (t := false) (v := zF) rfl rfl rfl (zap ?_))
    have hp15 := hL13.pick [] rfl rfl rfl
    have hL19 : vL w w13 [] [] := hp15.1
    have K19 := ks w hp15.2
    obtain rfl := zae h
    refine zaq ?_
    exact ⟨false, _, rfl, (zeu ⟨rfl, rfl, rfl, trivial⟩), hL19, K19, trivial⟩
   rintro _ w14 ⟨x12, u, rfl, rfl, hL20, K20, -⟩
   replace h := g12
   try dsimp only at h
   refine zdd x12 rfl (fun hc21 => ?_) (fun hc21 => ?_)
   ·
    replace h := ite_t hc21 h
    refine zal (zah rfl (zag (zam (v := zF) rfl ?_)))
    refine zap (zbl ?_)
    obtain rfl := zae h
    obtain rfl := hd10 _ rfl
    replace h := g10
    try dsimp only at h
    obtain rfl := zae h
    refine ⟨[zF], zrt, ⟨_, rfl, hL20.done, ?_⟩⟩
    exact zrt
   replace h := ite_f hc21 h
   refine zbk (zbu (zah rfl (zag (zai (v := (zI i10)) rfl ?_))))
   refine zag (zcl (x := i10) (y := 1) (z := (iw (i10 + 1))) rfl rfl rfl ?_)
   refine zag (zam (v := (zI (iw (i10 + 1)))) rfl (zap ?_))
   obtain rfl := zae h
   refine zaq ⟨(iw (i10 + 1)), rfl, ?_⟩
   exact ⟨_, (zeu ⟨rfl, rfl, trivial⟩), hL20, (zan (zan (zan (zan K10 K11) K12) K13) K20), trivial⟩
  replace h := ite_f hc10 h
  refine zda rfl ?_
  obtain rfl := zae h
  obtain rfl := hd10 _ rfl
  replace h := g10
  try dsimp only at h
  refine zaq ?_
  exact ⟨_, rfl, (zeu zrt), hL10, K10, trivial⟩
 rintro _ w15 ⟨u, rfl, rfl, hL21, K21, -⟩
 replace h := g10
 try dsimp only at h
 refine zal (zah rfl (zag (zai (v := l_v) rfl ?_)))
 have f12 := (l_h.mono (K21 S))
 refine zag (zbg (v := l_v) zbt rfl f12 ?_)
 refine zag (OpY.leq (x := (l.length : Int)) (y := 10) (((l.length : Int) : Int) ≤ 10) rfl rfl zbd ?_)
 refine zag (zam (v := (zab (decide (((l.length : Int) : Int) ≤ 10)))) rfl ?_)
 refine zap (zbl ?_)
 obtain rfl := zae h
 refine ⟨[(zab (decide (((l.length : Int) : Int) ≤ 10)))], zrt, ⟨_, rfl, hL21.done, ?_⟩⟩
 exact zrt
end Go.Proofs.YtcakdidcpoolcaaGreatDoor.WU
